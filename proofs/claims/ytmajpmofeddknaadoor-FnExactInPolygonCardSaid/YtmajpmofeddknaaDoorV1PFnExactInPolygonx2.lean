-- Printed for this claim by this session's program pp.py, which drives the kit's print with additions. Not trusted: Lean checks it.
import Derived.Test.YtmajpmofeddknaaDoorV1PFnExactInPolygonx0
namespace Go.Proofs.YtmajpmofeddknaaDoor.PFnExactInPolygon
open Go.RowKit Go.Proofs.YtmajpmofeddknaaDoorW.PrintWords Go.Proofs.YtmajpmofeddknaaDoorW.PrintLast Go.Proofs.YtmajpmofeddknaaDoorW.PrintMore
attribute [local go_sem] zeE zdX zeQ zeO zdK zdI zeA zeC   -- for this text's walks alone
set_option linter.unusedVariables false
set_option linter.unusedSimpArgs false

def zeD.f (l0 : List (S32)) (a1 : Int) : Option (Int) := if (wrap64 (a1 - (l0.length : Int))) < 0 then (some (-1)) else (some (wrap64 (a1 - (l0.length : Int))))
set_option maxHeartbeats 8000000 in
set_option maxRecDepth 100000 in
theorem zeD.calls (A0 : Option Addr) (c0 : Nat) (l0 : List (S32)) (a1 : Int) (r : Int) (w : World) (hr0 : Kd.C k32 w A0 l0.length l0) (hc0 : l0.length ≤ c0) (h : zeD.f l0 a1 = some r) :
  Calls Tryd.prog 14 #[.slice A0 l0.length c0, .int .i64 a1] w fun e w' => e = .returned (.int .i64 r) ∧ Drawn0 w w' := by
 have HR0 := zaJ hr0
 have HC0 := zaJ hc0
 clear hr0 hc0
 have H : (if (wrap64 (a1 - (l0.length : Int))) < 0 then (some (-1)) else (some (wrap64 (a1 - (l0.length : Int))))) = some r := h
 clear h
 by_cases c3 : (wrap64 (a1 - (l0.length : Int))) < 0
 ·rw [if_pos c3] at H
  have c3b0 : decide ((wrap64 (a1 - (l0.length : Int))) < 0) = true := decide_eq_true c3
  clear c3
  obtain rfl := Option.some.inj H
  go_enter Tryd.func14, Tryd.ntmps14
  go_wp2
  go_ret
  exact ⟨by first | rfl | (simp; done) | (simp [*]; done), by repeat (first | exact Drawn0.refl _ | apply Drawn0.step)⟩
 ·rw [if_neg c3] at H
  have c3b0 : decide ((wrap64 (a1 - (l0.length : Int))) < 0) = false := decide_eq_false c3
  clear c3
  obtain rfl := Option.some.inj H
  go_enter Tryd.func14, Tryd.ntmps14
  go_wp2
  go_ret
  exact ⟨by first | rfl | (simp; done) | (simp [*]; done), by repeat (first | exact Drawn0.refl _ | apply Drawn0.step)⟩

def zeV.f (a0_0 : Int) (a0_1 : Int) (a0_2 : Int) : Option (Int × Int × Int) := some (a0_0, a0_1, a0_2)
set_option maxHeartbeats 8000000 in
set_option maxRecDepth 100000 in
theorem zeV.calls (a0_0 : Int) (a0_1 : Int) (a0_2 : Int) (r1 : Int) (r2 : Int) (r3 : Int) (w : World) (h : zeV.f a0_0 a0_1 a0_2 = some (r1, r2, r3)) :
  Calls Tryd.prog 64 #[.agg #[.int .i64 a0_0, .int .i64 a0_1, .int .i64 a0_2]] w fun e w' => e = .returned (.agg #[.int .i64 r1, .int .i64 r2, .int .i64 r3]) ∧ Below w.heap.size w w' := by
 have hu30 := Tryd.underlying30
 have hu34 := Tryd.underlying34
 have HB := zaJ (Below.refl w.heap.size w)
 have H : (some (a0_0, a0_1, a0_2)) = some (r1, r2, r3) := h
 clear h
 simp only [Option.some.injEq, Prod.mk.injEq] at H
 obtain ⟨rfl, rfl, rfl⟩ := H
 go_enter Tryd.func64, Tryd.ntmps64
 go_wp2_with (first | ((with_reducible refine zaQ (N := 1) rfl ?_); refine bx_ 1 #[.int .i64 a0_0, .int .i64 a0_1, .int .i64 a0_2] 30 ?_; intro gb101 hg w2 hbox hb; have n0_ := (ns_ hb); have n1_ := zaJ (hbox); have n2_ := (ng_ hg); have n3_ := n2_; clear HB; have HB := n0_; have BK101 := n1_; have GW101 := n2_; have GE101 := n3_; clear n0_ n1_ n2_ n3_; clear hb hbox hg) | ((with_reducible refine zaQ (N := 2) rfl ?_); refine bx_ 2 #[.int .i64 0, .int .i64 0, .int .i64 0] 34 ?_; intro gb102 hg w3 hbox hb; have n0_ := zaJ (zaG (g := gb101) (o := .cells #[.int .i64 a0_0, .int .i64 a0_1, .int .i64 a0_2] 30 (0, 0)) bk_ hb); have n1_ := (ns_ hb); have n2_ := zaJ (hbox); have n3_ := (ng_ hg); have n4_ := n3_; have n5_ := zaJ ((by rw [hg]; exact Nat.ne_of_lt (zbC (g := gb101) (o := .cells #[.int .i64 a0_0, .int .i64 a0_1, .int .i64 a0_2] 30 (0, 0)) bk_) : gb101 ≠ gb102)); have n6_ := zaJ ((by rw [hg]; exact Nat.ne_of_gt (zbC (g := gb101) (o := .cells #[.int .i64 a0_0, .int .i64 a0_1, .int .i64 a0_2] 30 (0, 0)) bk_) : gb102 ≠ gb101)); clear BK101; clear HB; have BK101 := n0_; have HB := n1_; have BK102 := n2_; have GW102 := n3_; have GE102 := n4_; have NB101_102 := n5_; have NB102_101 := n6_; clear n0_ n1_ n2_ n3_ n4_ n5_ n6_; clear hb hbox hg) | ((with_reducible refine zaQ (N := 3) rfl ?_); refine bx_ 3 #[.int .i64 0, .int .i64 0, .int .i64 0] 34 ?_; intro gb103 hg w4 hbox hb; have n0_ := zaJ (zaG (g := gb101) (o := .cells #[.int .i64 a0_0, .int .i64 a0_1, .int .i64 a0_2] 30 (0, 0)) bk_ hb); have n1_ := zaJ (zaG (g := gb102) (o := .cells #[.int .i64 0, .int .i64 0, .int .i64 0] 34 (0, 0)) bk_ hb); have n2_ := (ns_ hb); have n3_ := zaJ (hbox); have n4_ := (ng_ hg); have n5_ := n4_; have n6_ := zaJ ((by rw [hg]; exact Nat.ne_of_lt (zbC (g := gb101) (o := .cells #[.int .i64 a0_0, .int .i64 a0_1, .int .i64 a0_2] 30 (0, 0)) bk_) : gb101 ≠ gb103)); have n7_ := zaJ ((by rw [hg]; exact Nat.ne_of_gt (zbC (g := gb101) (o := .cells #[.int .i64 a0_0, .int .i64 a0_1, .int .i64 a0_2] 30 (0, 0)) bk_) : gb103 ≠ gb101)); have n8_ := zaJ ((by rw [hg]; exact Nat.ne_of_lt (zbC (g := gb102) (o := .cells #[.int .i64 0, .int .i64 0, .int .i64 0] 34 (0, 0)) bk_) : gb102 ≠ gb103)); have n9_ := zaJ ((by rw [hg]; exact Nat.ne_of_gt (zbC (g := gb102) (o := .cells #[.int .i64 0, .int .i64 0, .int .i64 0] 34 (0, 0)) bk_) : gb103 ≠ gb102)); clear BK101; clear BK102; clear HB; have BK101 := n0_; have BK102 := n1_; have HB := n2_; have BK103 := n3_; have GW103 := n4_; have GE103 := n5_; have NB101_103 := n6_; have NB103_101 := n7_; have NB102_103 := n8_; have NB103_102 := n9_; clear n0_ n1_ n2_ n3_ n4_ n5_ n6_ n7_ n8_ n9_; clear hb hbox hg; have hnb5 := NB101_102.out; have hnc5 := NB102_101.out; have hnb6 := NB101_103.out; have hnc6 := NB103_101.out; obtain ⟨hcz7_0, hcz7_1, hcz7_2⟩ := zeI BK101.out; obtain ⟨hfz7_0, hfz7_1, hfz7_2⟩ := zeH BK101.out; have hnb8 := NB103_102.out; have hnc8 := NB102_103.out; obtain ⟨hcz9_0, hcz9_1, hcz9_2⟩ := zeI BK103.out; obtain ⟨hfz9_0, hfz9_1, hfz9_2⟩ := zeH BK103.out; obtain ⟨hcz10_0, hcz10_1, hcz10_2⟩ := zeI BK102.out; obtain ⟨hfz10_0, hfz10_1, hfz10_2⟩ := zeH BK102.out))
 refine bodyPost_ret (results_cell_row rfl _ _ gb102 34 #[.int .i64 a0_0, .int .i64 a0_1, .int .i64 a0_2] (0, 0) _ rfl (by (with_reducible repeat (first | apply zaD | apply zaE | apply zaC)); refine zaL (cs := #[.int .i64 a0_0, .int .i64 a0_1, .int .i64 0]) ?_ 2 _ rfl; (with_reducible repeat (first | apply zaD | apply zaE | apply zaC)); refine zaL (cs := #[.int .i64 a0_0, .int .i64 0, .int .i64 0]) ?_ 1 _ rfl; (with_reducible repeat (first | apply zaD | apply zaE | apply zaC)); refine zaL (cs := #[.int .i64 0, .int .i64 0, .int .i64 0]) ?_ 0 _ rfl; (with_reducible repeat (first | apply zaD | apply zaE | apply zaC)); refine zbA ?_ NB102_103.out _; (with_reducible repeat (first | apply zaD | apply zaE | apply zaC)); refine zbA ?_ NB102_103.out _; (with_reducible repeat (first | apply zaD | apply zaE | apply zaC)); refine zbA ?_ NB102_103.out _; (with_reducible repeat (first | apply zaD | apply zaE | apply zaC)); exact BK102.out) Tryd.underlying34 rfl (by kernel_rfl)) rfl ?_
 exact ⟨by first | rfl | (simp [zaI, zaH] <;> rfl) | (simp [*, zaI, zaH] <;> rfl), bb_⟩

def zcO.f (a0_0 : Int) (a0_1 : Int) (a0_2 : Int) (a0_3 : Int) (a0_4 : Int) (a0_5 : Int) : Option (Int × Int × Int × Int × Int × Int) := (zeV.f a0_0 a0_1 a0_2).bind fun bt107 => ((zeV.f a0_3 a0_4 a0_5).bind fun bt110 => (some (bt107.1, bt107.2.1, bt107.2.2, bt110.1, bt110.2.1, bt110.2.2)))
set_option maxHeartbeats 8000000 in
set_option maxRecDepth 100000 in
theorem zcO.calls (a0_0 : Int) (a0_1 : Int) (a0_2 : Int) (a0_3 : Int) (a0_4 : Int) (a0_5 : Int) (r1 : Int) (r2 : Int) (r3 : Int) (r4 : Int) (r5 : Int) (r6 : Int) (w : World) (h : zcO.f a0_0 a0_1 a0_2 a0_3 a0_4 a0_5 = some (r1, r2, r3, r4, r5, r6)) :
  Calls Tryd.prog 20 #[.agg #[.int .i64 a0_0, .int .i64 a0_1, .int .i64 a0_2, .int .i64 a0_3, .int .i64 a0_4, .int .i64 a0_5]] w fun e w' => e = .returned (.agg #[.int .i64 r1, .int .i64 r2, .int .i64 r3, .int .i64 r4, .int .i64 r5, .int .i64 r6]) ∧ Below w.heap.size w w' := by
 have hu32 := Tryd.underlying32
 have hu36 := Tryd.underlying36
 have hu30 := Tryd.underlying30
 have hu34 := Tryd.underlying34
 have HB := zaJ (Below.refl w.heap.size w)
 have H : ((zeV.f a0_0 a0_1 a0_2).bind fun bt107 => ((zeV.f a0_3 a0_4 a0_5).bind fun bt110 => (some (bt107.1, bt107.2.1, bt107.2.2, bt110.1, bt110.2.1, bt110.2.2)))) = some (r1, r2, r3, r4, r5, r6) := h
 clear h
 replace H := Option.bind_eq_some_iff.mp H
 obtain ⟨⟨t107, t108, t109⟩, A20, H⟩ := H
 replace H : ((zeV.f a0_3 a0_4 a0_5).bind fun bt110 => (some (t107, t108, t109, bt110.1, bt110.2.1, bt110.2.2))) = some (r1, r2, r3, r4, r5, r6) := H
 have A2 := zaJ A20
 clear A20
 replace H := Option.bind_eq_some_iff.mp H
 obtain ⟨⟨t110, t111, t112⟩, A30, H⟩ := H
 replace H : (some (t107, t108, t109, t110, t111, t112)) = some (r1, r2, r3, r4, r5, r6) := H
 have A3 := zaJ A30
 clear A30
 simp only [Option.some.injEq, Prod.mk.injEq] at H
 obtain ⟨rfl, rfl, rfl, rfl, rfl, rfl⟩ := H
 go_enter Tryd.func20, Tryd.ntmps20
 go_wp2_with (first | ((with_reducible refine zaQ (N := 1) rfl ?_); refine bx_ 1 #[.int .i64 a0_0, .int .i64 a0_1, .int .i64 a0_2, .int .i64 a0_3, .int .i64 a0_4, .int .i64 a0_5] 32 ?_; intro gb104 hg w4 hbox hb; have n0_ := (ns_ hb); have n1_ := zaJ (hbox); have n2_ := (ng_ hg); have n3_ := n2_; clear HB; have HB := n0_; have BK104 := n1_; have GW104 := n2_; have GE104 := n3_; clear n0_ n1_ n2_ n3_; clear hb hbox hg) | ((with_reducible refine zaQ (N := 2) rfl ?_); refine bx_ 2 #[.int .i64 0, .int .i64 0, .int .i64 0, .int .i64 0, .int .i64 0, .int .i64 0] 36 ?_; intro gb105 hg w5 hbox hb; have n0_ := zaJ (zaG (g := gb104) (o := .cells #[.int .i64 a0_0, .int .i64 a0_1, .int .i64 a0_2, .int .i64 a0_3, .int .i64 a0_4, .int .i64 a0_5] 32 (0, 0)) bk_ hb); have n1_ := (ns_ hb); have n2_ := zaJ (hbox); have n3_ := (ng_ hg); have n4_ := n3_; have n5_ := zaJ ((by rw [hg]; exact Nat.ne_of_lt (zbC (g := gb104) (o := .cells #[.int .i64 a0_0, .int .i64 a0_1, .int .i64 a0_2, .int .i64 a0_3, .int .i64 a0_4, .int .i64 a0_5] 32 (0, 0)) bk_) : gb104 ≠ gb105)); have n6_ := zaJ ((by rw [hg]; exact Nat.ne_of_gt (zbC (g := gb104) (o := .cells #[.int .i64 a0_0, .int .i64 a0_1, .int .i64 a0_2, .int .i64 a0_3, .int .i64 a0_4, .int .i64 a0_5] 32 (0, 0)) bk_) : gb105 ≠ gb104)); clear BK104; clear HB; have BK104 := n0_; have HB := n1_; have BK105 := n2_; have GW105 := n3_; have GE105 := n4_; have NB104_105 := n5_; have NB105_104 := n6_; clear n0_ n1_ n2_ n3_ n4_ n5_ n6_; clear hb hbox hg) | ((with_reducible refine zaQ (N := 3) rfl ?_); refine bx_ 3 #[.int .i64 0, .int .i64 0, .int .i64 0, .int .i64 0, .int .i64 0, .int .i64 0] 36 ?_; intro gb106 hg w6 hbox hb; have n0_ := zaJ (zaG (g := gb104) (o := .cells #[.int .i64 a0_0, .int .i64 a0_1, .int .i64 a0_2, .int .i64 a0_3, .int .i64 a0_4, .int .i64 a0_5] 32 (0, 0)) bk_ hb); have n1_ := zaJ (zaG (g := gb105) (o := .cells #[.int .i64 0, .int .i64 0, .int .i64 0, .int .i64 0, .int .i64 0, .int .i64 0] 36 (0, 0)) bk_ hb); have n2_ := (ns_ hb); have n3_ := zaJ (hbox); have n4_ := (ng_ hg); have n5_ := n4_; have n6_ := zaJ ((by rw [hg]; exact Nat.ne_of_lt (zbC (g := gb104) (o := .cells #[.int .i64 a0_0, .int .i64 a0_1, .int .i64 a0_2, .int .i64 a0_3, .int .i64 a0_4, .int .i64 a0_5] 32 (0, 0)) bk_) : gb104 ≠ gb106)); have n7_ := zaJ ((by rw [hg]; exact Nat.ne_of_gt (zbC (g := gb104) (o := .cells #[.int .i64 a0_0, .int .i64 a0_1, .int .i64 a0_2, .int .i64 a0_3, .int .i64 a0_4, .int .i64 a0_5] 32 (0, 0)) bk_) : gb106 ≠ gb104)); have n8_ := zaJ ((by rw [hg]; exact Nat.ne_of_lt (zbC (g := gb105) (o := .cells #[.int .i64 0, .int .i64 0, .int .i64 0, .int .i64 0, .int .i64 0, .int .i64 0] 36 (0, 0)) bk_) : gb105 ≠ gb106)); have n9_ := zaJ ((by rw [hg]; exact Nat.ne_of_gt (zbC (g := gb105) (o := .cells #[.int .i64 0, .int .i64 0, .int .i64 0, .int .i64 0, .int .i64 0, .int .i64 0] 36 (0, 0)) bk_) : gb106 ≠ gb105)); clear BK104; clear BK105; clear HB; have BK104 := n0_; have BK105 := n1_; have HB := n2_; have BK106 := n3_; have GW106 := n4_; have GE106 := n5_; have NB104_106 := n6_; have NB106_104 := n7_; have NB105_106 := n8_; have NB106_105 := n9_; clear n0_ n1_ n2_ n3_ n4_ n5_ n6_ n7_ n8_ n9_; clear hb hbox hg; have hnb7 := NB104_105.out; have hnc7 := NB105_104.out; have hnb8 := NB104_106.out; have hnc8 := NB106_104.out; obtain ⟨hcz9_0, hcz9_1, hcz9_2, hcz9_3, hcz9_4, hcz9_5⟩ := zeX BK104.out; obtain ⟨hfz9_0, hfz9_1, hfz9_2, hfz9_3, hfz9_4, hfz9_5⟩ := zeW BK104.out) | ((with_reducible refine zaK (f := 64) rfl ?_); refine zbQ (some 6) rfl rfl Tryd.func64 (by kernel_rfl) rfl #[.agg #[.int .i64 a0_0, .int .i64 a0_1, .int .i64 a0_2]] rfl (by (try simp only [List.map_toArray, List.map_cons, List.map_nil]); first | done | rfl | (simp only [List.length_drop, List.length_take]; rfl)) ?_; (with_reducible refine (zeV.calls a0_0 a0_1 a0_2 t107 t108 t109 _ A2.out).mono ?_); rintro e w10 ⟨rfl, hb⟩; refine ⟨_, rfl, ?_⟩; have n0_ := zaJ (zaG (g := gb104) (o := .cells #[.int .i64 a0_0, .int .i64 a0_1, .int .i64 a0_2, .int .i64 a0_3, .int .i64 a0_4, .int .i64 a0_5] 32 (0, 0)) bk_ hb); have n1_ := zaJ (zaG (g := gb105) (o := .cells #[.int .i64 0, .int .i64 0, .int .i64 0, .int .i64 0, .int .i64 0, .int .i64 0] 36 (0, 0)) bk_ hb); have n2_ := zaJ (zaG (g := gb106) (o := .cells #[.int .i64 0, .int .i64 0, .int .i64 0, .int .i64 0, .int .i64 0, .int .i64 0] 36 (0, 0)) bk_ hb); have n3_ := (ns_ hb); clear BK104; clear BK105; clear BK106; clear HB; have BK104 := n0_; have BK105 := n1_; have BK106 := n2_; have HB := n3_; clear n0_ n1_ n2_ n3_; (try clear hb); (try clear hb2); have hnb11 := NB106_105.out; have hnc11 := NB105_106.out; obtain ⟨hcz12_0, hcz12_1, hcz12_2, hcz12_3, hcz12_4, hcz12_5⟩ := zeX BK106.out; obtain ⟨hfz12_0, hfz12_1, hfz12_2, hfz12_3, hfz12_4, hfz12_5⟩ := zeW BK106.out; obtain ⟨hcz13_0, hcz13_1, hcz13_2, hcz13_3, hcz13_4, hcz13_5⟩ := zeX BK104.out; obtain ⟨hfz13_0, hfz13_1, hfz13_2, hfz13_3, hfz13_4, hfz13_5⟩ := zeW BK104.out) | ((with_reducible refine zaK (f := 64) rfl ?_); refine zbQ (some 10) rfl rfl Tryd.func64 (by kernel_rfl) rfl #[.agg #[.int .i64 a0_3, .int .i64 a0_4, .int .i64 a0_5]] rfl (by (try simp only [List.map_toArray, List.map_cons, List.map_nil]); first | done | rfl | (simp only [List.length_drop, List.length_take]; rfl)) ?_; (with_reducible refine (zeV.calls a0_3 a0_4 a0_5 t110 t111 t112 _ A3.out).mono ?_); rintro e w14 ⟨rfl, hb⟩; refine ⟨_, rfl, ?_⟩; have n0_ := zaJ (zaG (g := gb104) (o := .cells #[.int .i64 a0_0, .int .i64 a0_1, .int .i64 a0_2, .int .i64 a0_3, .int .i64 a0_4, .int .i64 a0_5] 32 (0, 0)) (by (with_reducible repeat (first | apply zaD | apply zaE | apply zaC)); refine zbA ?_ NB104_106.out _; (with_reducible repeat (first | apply zaD | apply zaE | apply zaC)); refine zbA ?_ NB104_106.out _; (with_reducible repeat (first | apply zaD | apply zaE | apply zaC)); refine zbA ?_ NB104_106.out _; (with_reducible repeat (first | apply zaD | apply zaE | apply zaC)); exact BK104.out) hb); have n1_ := zaJ (zaG (g := gb105) (o := .cells #[.int .i64 0, .int .i64 0, .int .i64 0, .int .i64 0, .int .i64 0, .int .i64 0] 36 (0, 0)) (by (with_reducible repeat (first | apply zaD | apply zaE | apply zaC)); refine zbA ?_ NB105_106.out _; (with_reducible repeat (first | apply zaD | apply zaE | apply zaC)); refine zbA ?_ NB105_106.out _; (with_reducible repeat (first | apply zaD | apply zaE | apply zaC)); refine zbA ?_ NB105_106.out _; (with_reducible repeat (first | apply zaD | apply zaE | apply zaC)); exact BK105.out) hb); have n2_ := zaJ (zaG (g := gb106) (o := .cells #[.int .i64 t107, .int .i64 t108, .int .i64 t109, .int .i64 0, .int .i64 0, .int .i64 0] 36 (0, 0)) (by (with_reducible repeat (first | apply zaD | apply zaE | apply zaC)); refine zaL (cs := #[.int .i64 t107, .int .i64 t108, .int .i64 0, .int .i64 0, .int .i64 0, .int .i64 0]) ?_ 2 _ rfl; (with_reducible repeat (first | apply zaD | apply zaE | apply zaC)); refine zaL (cs := #[.int .i64 t107, .int .i64 0, .int .i64 0, .int .i64 0, .int .i64 0, .int .i64 0]) ?_ 1 _ rfl; (with_reducible repeat (first | apply zaD | apply zaE | apply zaC)); refine zaL (cs := #[.int .i64 0, .int .i64 0, .int .i64 0, .int .i64 0, .int .i64 0, .int .i64 0]) ?_ 0 _ rfl; (with_reducible repeat (first | apply zaD | apply zaE | apply zaC)); exact BK106.out) hb); have n3_ := (ns_ hb); clear BK104; clear BK105; clear BK106; clear HB; have BK104 := n0_; have BK105 := n1_; have BK106 := n2_; have HB := n3_; clear n0_ n1_ n2_ n3_; (try clear hb); (try clear hb2); obtain ⟨hcz15_0, hcz15_1, hcz15_2, hcz15_3, hcz15_4, hcz15_5⟩ := zeX BK106.out; obtain ⟨hfz15_0, hfz15_1, hfz15_2, hfz15_3, hfz15_4, hfz15_5⟩ := zeW BK106.out; obtain ⟨hcz16_0, hcz16_1, hcz16_2, hcz16_3, hcz16_4, hcz16_5⟩ := zeX BK105.out; obtain ⟨hfz16_0, hfz16_1, hfz16_2, hfz16_3, hfz16_4, hfz16_5⟩ := zeW BK105.out))
 refine bodyPost_ret (results_cell_row rfl _ _ gb105 36 #[.int .i64 t107, .int .i64 t108, .int .i64 t109, .int .i64 t110, .int .i64 t111, .int .i64 t112] (0, 0) _ rfl (by (with_reducible repeat (first | apply zaD | apply zaE | apply zaC)); refine zaL (cs := #[.int .i64 t107, .int .i64 t108, .int .i64 t109, .int .i64 t110, .int .i64 t111, .int .i64 0]) ?_ 5 _ rfl; (with_reducible repeat (first | apply zaD | apply zaE | apply zaC)); refine zaL (cs := #[.int .i64 t107, .int .i64 t108, .int .i64 t109, .int .i64 t110, .int .i64 0, .int .i64 0]) ?_ 4 _ rfl; (with_reducible repeat (first | apply zaD | apply zaE | apply zaC)); refine zaL (cs := #[.int .i64 t107, .int .i64 t108, .int .i64 t109, .int .i64 0, .int .i64 0, .int .i64 0]) ?_ 3 _ rfl; (with_reducible repeat (first | apply zaD | apply zaE | apply zaC)); refine zaL (cs := #[.int .i64 t107, .int .i64 t108, .int .i64 0, .int .i64 0, .int .i64 0, .int .i64 0]) ?_ 2 _ rfl; (with_reducible repeat (first | apply zaD | apply zaE | apply zaC)); refine zaL (cs := #[.int .i64 t107, .int .i64 0, .int .i64 0, .int .i64 0, .int .i64 0, .int .i64 0]) ?_ 1 _ rfl; (with_reducible repeat (first | apply zaD | apply zaE | apply zaC)); refine zaL (cs := #[.int .i64 0, .int .i64 0, .int .i64 0, .int .i64 0, .int .i64 0, .int .i64 0]) ?_ 0 _ rfl; (with_reducible repeat (first | apply zaD | apply zaE | apply zaC)); refine zbA ?_ NB105_106.out _; (with_reducible repeat (first | apply zaD | apply zaE | apply zaC)); refine zbA ?_ NB105_106.out _; (with_reducible repeat (first | apply zaD | apply zaE | apply zaC)); refine zbA ?_ NB105_106.out _; (with_reducible repeat (first | apply zaD | apply zaE | apply zaC)); exact BK105.out) Tryd.underlying36 rfl (by kernel_rfl)) rfl ?_
 exact ⟨by first | rfl | (simp [zaI, zaH] <;> rfl) | (simp [*, zaI, zaH] <;> rfl), bb_⟩

def zaY.l0 : Nat → List (S32) → List (S36) → Int → Option ((List (S36)))
 | 0, _, _, _ => none
 | k + 1, x0, x3, x4 => if x4 < (x0.length : Int) then (if 0 ≤ x4 then ((zcO.f ((zeF x0 x4).f0.f0) ((zeF x0 x4).f0.f1) ((zeF x0 x4).f0.f2) ((zeF x0 x4).f1.f0) ((zeF x0 x4).f1.f1) ((zeF x0 x4).f1.f2)).bind fun bt117 => (if x4 < (x3.length : Int) then (zaY.l0 k x0 (x3.set (x4 : Int).toNat (⟨(⟨bt117.1, bt117.2.1, bt117.2.2.1⟩ : S34), (⟨bt117.2.2.2.1, bt117.2.2.2.2.1, bt117.2.2.2.2.2⟩ : S34)⟩ : S36)) (wrap64 (x4 + 1))) else (none))) else (none)) else (some x3)
def zaY.f (k : Nat) (l0 : List (S32)) : Option ((List (S36))) := if 0 ≤ (l0.length : Int) then (if ((l0.length : Int) : Int).toNat ≤ 5864062014805 then (zaY.l0 k l0 (List.replicate ((l0.length : Int) : Int).toNat z36) 0) else (none)) else (none)
theorem zaY.mono_l : ∀ k, (∀ y0 y1 y2, LeO (zaY.l0 k y0 y1 y2) (zaY.l0 (k + 1) y0 y1 y2))
 | 0 => fun _ _ _ r h => by simp [zaY.l0] at h
 | k + 1 => by
  have ih0 := zaY.mono_l k
  ·intro y0 y1 y2
   unfold zaY.l0
   repeat' first
   | (with_reducible exact ih0 _ _ _)
   | (with_reducible exact LeO.refl _)
   | (with_reducible exact LeO.none _)
   | (with_reducible refine LeO.ite ?_ ?_)
   | (with_reducible refine LeO.bind ?_ (fun _ => ?_))
   | exact ih0 _ _ _
   | exact LeO.none _
   | refine LeO.ite ?_ ?_
   | refine LeO.bind ?_ (fun _ => ?_)
theorem zaY.mono : ∀ a0 k, LeO (zaY.f k a0) (zaY.f (k + 1) a0) := by
 intro a0 k
 have ih0 := zaY.mono_l k
 unfold zaY.f
 repeat' first
   | (with_reducible exact ih0 _ _ _)
   | (with_reducible exact LeO.refl _)
   | (with_reducible exact LeO.none _)
   | (with_reducible refine LeO.ite ?_ ?_)
   | (with_reducible refine LeO.bind ?_ (fun _ => ?_))
   | exact ih0 _ _ _
   | exact LeO.none _
   | refine LeO.ite ?_ ?_
   | refine LeO.bind ?_ (fun _ => ?_)
set_option maxHeartbeats 8000000 in
set_option maxRecDepth 100000 in
theorem zaY.calls (k : Nat) (A0 : Option Addr) (c0 : Nat) (l0 : List (S32)) (r : List (S36)) (w : World) (hr0 : Kd.C k32 w A0 l0.length l0) (hc0 : l0.length ≤ c0) (h : zaY.f k l0 = some r) :
  Calls Tryd.prog 16 #[.slice A0 l0.length c0] w fun e w' => ∃ v0_ : Value, e = .returned (v0_) ∧ Kd.R k36 36 w' w.heap.size (fun _ => True) v0_ r ∧ Below w.heap.size w w' := by
 have hu32 := Tryd.underlying32
 have hu36 := Tryd.underlying36
 have HR0 := zaJ hr0
 have HC0 := zaJ hc0
 clear hr0 hc0
 have HB := zaJ (Below.refl w.heap.size w)
 have H : (if 0 ≤ (l0.length : Int) then (if ((l0.length : Int) : Int).toNat ≤ 5864062014805 then (zaY.l0 k l0 (List.replicate ((l0.length : Int) : Int).toNat z36) 0) else (none)) else (none)) = some r := h
 clear h
 by_cases c2 : 0 ≤ (l0.length : Int)
 ·rw [if_pos c2] at H
  have c2b0 := eq_true c2
  have c2b1 : decide (0 ≤ (l0.length : Int)) = true := decide_eq_true c2
  clear c2
  by_cases c3 : ((l0.length : Int) : Int).toNat ≤ 5864062014805
  ·rw [if_pos c3] at H
   have c3b0 := eq_true c3
   have c3b1 : decide (((l0.length : Int) : Int).toNat ≤ 5864062014805) = true := decide_eq_true c3
   clear c3
   obtain ⟨y113, hy113⟩ : ∃ y_ : List (S36), y_ = (List.replicate ((l0.length : Int) : Int).toNat z36) := ⟨_, rfl⟩
   replace H : (zaY.l0 k l0 y113 0) = some r := by first | (rw [hy113]; with_reducible exact H) | (have H2_ := (Option.bind_some _ _).symm.trans H; rw [hy113]; with_reducible exact H2_) | (have H2_ := (Option.bind_some _ _).symm.trans H; with_reducible exact H2_) | with_reducible exact H | (rw [hy113]; exact H) | exact H
   have Ny113 := zaJ hy113
   clear hy113
   have H' := zaJ H
   clear H
   go_enter Tryd.func16, Tryd.ntmps16
   go_wp2_with (first | ((with_reducible refine zaQ (N := 7) rfl ?_); refine Kd.R_make k36 _ 36 rfl (N := 7) rfl 25 _ _ rfl (l0.length : Int) rfl rfl Tryd.underlying25 (.agg #[(.int .i64 0), (.int .i64 0), (.int .i64 0), (.int .i64 0), (.int .i64 0), (.int .i64 0)]) 48 info36 rfl (by decide) (by omega) z36 (ok := fun _ => True) (okp := fun _ => True) (k36_mkM _ _ _ z36 ) (fun _ hk => hk) trivial (of_decide_eq_true (by first | (with_reducible assumption) | assumption)) (Nat.le_trans (Nat.mul_le_mul_right _ (of_decide_eq_true (by first | (with_reducible assumption) | assumption) : (l0.length : Int).toNat ≤ 5864062014805)) (by omega)) (Below.refl _ _) (Nat.le_refl _) ?_; intro v114 w4 ho5 hb hg_ hnew_; clear hg_ hnew_; (first | rw [← Ny113.out] at ho5 | (simp only [Int.reduceToNat] at ho5; rw [← Ny113.out] at ho5)); have n0_ := zaJ (Kd.R_lower ho5 (zdA bb_)); have n1_ := (ns_ hb); clear HB; have HO115 := n0_; have HB := n1_; clear n0_ n1_; clear hb ho5))
   (try go_simp)
   go_loopg [4] k (fun kq v4 w' => ∃ (x3_1 : List (S36)) (x4_1 : Int), v4 = .int .i64 x4_1 ∧ Aside0 (zaY.l0 kq l0 x3_1 x4_1 = some r) ∧ Aside0 (kq ≤ k) ∧ Aside0 (Kd.R k36 36 w' w.heap.size (fun _ => True) v114 x3_1) ∧ Aside0 (Below w.heap.size w w'))
   case atStart => exact ⟨(y113), (0), (by first | rfl | (simp; done) | (simp [*]; done)), H', ⟨Nat.le_refl _⟩, ⟨by (with_reducible repeat (first | apply Kd.R_alloc | apply Kd.R_drewN | apply Kd.R_drew)); exact HO115.out⟩, ⟨bb_⟩⟩
   case round =>
    clear H'
    try clear c1
    try clear c2
    try clear c2b0
    try clear c2b1
    try clear p2
    try clear c3
    try clear c3b0
    try clear c3b1
    obtain ⟨x3_1, x4_1, rfl, HA, HK1, HO_3, HB⟩ := hrel
    cases gk with
    | zero => exact absurd HA.out (by simp [zaY.l0])
    | succ k1 =>
     have H := HA.out
     clear HA
     simp only [zaY.l0] at H
     by_cases c6 : x4_1 < (l0.length : Int)
     ·rw [if_pos c6] at H
      have c6b0 : decide (x4_1 < (l0.length : Int)) = true := decide_eq_true c6
      clear c6
      by_cases c7 : 0 ≤ x4_1
      ·rw [if_pos c7] at H
       have c7b0 : decide (0 ≤ x4_1) = true := decide_eq_true c7
       clear c7
       replace H := Option.bind_eq_some_iff.mp H
       obtain ⟨⟨t117, t118, t119, t120, t121, t122⟩, A80, H⟩ := H
       replace H : (if x4_1 < (x3_1.length : Int) then (zaY.l0 k1 l0 (x3_1.set (x4_1 : Int).toNat (⟨(⟨t117, t118, t119⟩ : S34), (⟨t120, t121, t122⟩ : S34)⟩ : S36)) (wrap64 (x4_1 + 1))) else (none)) = some r := H
       have A8 := zaJ A80
       clear A80
       by_cases c9 : x4_1 < (x3_1.length : Int)
       ·rw [if_pos c9] at H
        have c9b0 : decide (x4_1 < (x3_1.length : Int)) = true := decide_eq_true c9
        clear c9
        obtain ⟨y123, hy123⟩ : ∃ y_ : List (S36), y_ = (x3_1.set (x4_1 : Int).toNat (⟨(⟨t117, t118, t119⟩ : S34), (⟨t120, t121, t122⟩ : S34)⟩ : S36)) := ⟨_, rfl⟩
        replace H : (zaY.l0 k1 l0 y123 (wrap64 (x4_1 + 1))) = some r := by first | (rw [hy123]; with_reducible exact H) | (have H2_ := (Option.bind_some _ _).symm.trans H; rw [hy123]; with_reducible exact H2_) | (have H2_ := (Option.bind_some _ _).symm.trans H; with_reducible exact H2_) | with_reducible exact H | (rw [hy123]; exact H) | exact H
        have Ny123 := zaJ hy123
        clear hy123
        have H' := zaJ H
        clear H
        have p116 : 0 ≤ (x4_1 : Int) := of_decide_eq_true (by first | (with_reducible assumption) | assumption)
        have q116 : x4_1 < (l0.length : Int) := of_decide_eq_true (by first | (with_reducible assumption) | assumption)
        obtain ⟨ad116, e116, hx116_0, hx116_1, hx116_2, hx116_3, hx116_4, hx116_5⟩ := at_T32 HR0.out x4_1 p116 q116
        cases e116
        replace hx116_0 := zaR HB.out hx116_0
        replace hx116_1 := zaR HB.out hx116_1
        replace hx116_2 := zaR HB.out hx116_2
        replace hx116_3 := zaR HB.out hx116_3
        replace hx116_4 := zaR HB.out hx116_4
        replace hx116_5 := zaR HB.out hx116_5
        replace p116 := eq_true p116
        replace q116 := eq_true q116
        go_wp2_with (first | ((with_reducible refine zaK (f := 20) rfl ?_); refine zbQ (some 20) rfl rfl Tryd.func20 (by kernel_rfl) rfl #[.agg #[.int .i64 ((zeF l0 x4_1).f0.f0), .int .i64 ((zeF l0 x4_1).f0.f1), .int .i64 ((zeF l0 x4_1).f0.f2), .int .i64 ((zeF l0 x4_1).f1.f0), .int .i64 ((zeF l0 x4_1).f1.f1), .int .i64 ((zeF l0 x4_1).f1.f2)]] rfl (by (try simp only [List.map_toArray, List.map_cons, List.map_nil]); first | done | rfl | (simp only [List.length_drop, List.length_take]; rfl)) ?_; (with_reducible refine (zcO.calls ((zeF l0 x4_1).f0.f0) ((zeF l0 x4_1).f0.f1) ((zeF l0 x4_1).f0.f2) ((zeF l0 x4_1).f1.f0) ((zeF l0 x4_1).f1.f1) ((zeF l0 x4_1).f1.f2) t117 t118 t119 t120 t121 t122 _ A8.out).mono ?_); rintro e w11 ⟨rfl, hb⟩; refine ⟨_, rfl, ?_⟩; have n0_ := zaJ (Kd.R_below (by (with_reducible repeat (first | apply Kd.R_alloc | apply Kd.R_drewN | apply Kd.R_drew)); exact HO_3.out) hb); have n1_ := (ns_ hb); clear HO_3; clear HB; have HO_3 := n0_; have HB := n1_; clear n0_ n1_; (try clear hb); (try clear hb2); have p10 : 0 ≤ (x4_1 : Int) := of_decide_eq_true (by first | (with_reducible assumption) | assumption); have q10 : (x4_1 : Int) < ((x3_1.length : Int) : Int) := of_decide_eq_true (by first | (with_reducible assumption) | assumption); obtain ⟨go10, co10, eo10, gb10, gl10, cl10, HG10⟩ := Kd.R_form HO_3.out (by omega); (first | cases eo10 | (injection eo10 with ea_ en_ ec_; (first | subst ea_ | (injection ea_ with ea_; subst ea_)); subst ec_; clear en_)); have GB10 := zaJ gb10; have GG10 := zaJ HG10; clear gb10 gl10 HG10; obtain ⟨ce10, hcl10, hM10, hcc10, hfr10⟩ := Kd.R_elem HO_3.out z36 (x4_1 : Int) p10 q10; obtain rfl := k36_openM hM10; have hx10_0 : w11.cell? ⟨go10, (x4_1 : Int).toNat * 6, none⟩ = some (.int .i64 ((zaA x3_1 x4_1).f0.f0)) := hcc10 0 _ rfl; have hx10_1 : w11.cell? ⟨go10, (x4_1 : Int).toNat * 6 + 1, none⟩ = some (.int .i64 ((zaA x3_1 x4_1).f0.f1)) := hcc10 1 _ rfl; have hx10_2 : w11.cell? ⟨go10, (x4_1 : Int).toNat * 6 + 2, none⟩ = some (.int .i64 ((zaA x3_1 x4_1).f0.f2)) := hcc10 2 _ rfl; have hx10_3 : w11.cell? ⟨go10, (x4_1 : Int).toNat * 6 + 3, none⟩ = some (.int .i64 ((zaA x3_1 x4_1).f1.f0)) := hcc10 3 _ rfl; have hx10_4 : w11.cell? ⟨go10, (x4_1 : Int).toNat * 6 + 4, none⟩ = some (.int .i64 ((zaA x3_1 x4_1).f1.f1)) := hcc10 4 _ rfl; have hx10_5 : w11.cell? ⟨go10, (x4_1 : Int).toNat * 6 + 5, none⟩ = some (.int .i64 ((zaA x3_1 x4_1).f1.f2)) := hcc10 5 _ rfl; have hf10_0 : w11.frozen? ⟨go10, (x4_1 : Int).toNat * 6, none⟩ = false := hfr10 0; have hf10_1 : w11.frozen? ⟨go10, (x4_1 : Int).toNat * 6 + 1, none⟩ = false := hfr10 1; have hf10_2 : w11.frozen? ⟨go10, (x4_1 : Int).toNat * 6 + 2, none⟩ = false := hfr10 2; have hf10_3 : w11.frozen? ⟨go10, (x4_1 : Int).toNat * 6 + 3, none⟩ = false := hfr10 3; have hf10_4 : w11.frozen? ⟨go10, (x4_1 : Int).toNat * 6 + 4, none⟩ = false := hfr10 4; have hf10_5 : w11.frozen? ⟨go10, (x4_1 : Int).toNat * 6 + 5, none⟩ = false := hfr10 5; clear hcl10 hcc10 hfr10 hM10; replace p10 := eq_true p10; replace q10 := eq_true q10; have HX12 := zaJ (show Kd.R k36 36 w11 w.heap.size (fun _ => True) (.slice (some ⟨go10, 0, none⟩) x3_1.length co10) x3_1 from (by (with_reducible repeat (first | apply Kd.R_alloc | apply Kd.R_drewN | apply Kd.R_drew)); exact HO_3.out)); obtain ⟨ce12, hcl12, hM12, hcc12, hfr12⟩ := Kd.R_elem HX12.out z36 (x4_1 : Int) (of_decide_eq_true (by first | (with_reducible assumption) | assumption)) (by have h_ : (x4_1 : Int) < ((x3_1.length : Int) : Int) := of_decide_eq_true (by first | (with_reducible assumption) | assumption); first | exact h_ | (have e_ := (Kd.R_reads' HO_3.out).1; omega) | simpa using h_); obtain rfl := k36_openM hM12; have HP12 := Kd.R_seg HX12.out (x4_1 : Int) (of_decide_eq_true (by first | (with_reducible assumption) | assumption)) (by have h_ : (x4_1 : Int) < ((x3_1.length : Int) : Int) := of_decide_eq_true (by first | (with_reducible assumption) | assumption); first | exact h_ | (have e_ := (Kd.R_reads' HO_3.out).1; omega) | simpa using h_) (seg := [.int .i64 t117, .int .i64 t118, .int .i64 t119, .int .i64 t120, .int .i64 t121, .int .i64 t122]) (j := 0) hcl12 hcc12 (show 6 ≤ 6 from by decide) (x' := (⟨(⟨t117, t118, t119⟩ : S34), (⟨t120, t121, t122⟩ : S34)⟩ : S36)) (k36_mkM _ _ _ (⟨(⟨t117, t118, t119⟩ : S34), (⟨t120, t121, t122⟩ : S34)⟩ : S36) ) (fun _ hk => hk); have hx12_0 := hcc12 0 _ rfl; (try simp only [show (k36).sz = 6 from rfl, Nat.mul_one, Nat.add_zero] at hx12_0); have hf12_0 := hfr12 0; (try simp only [show (k36).sz = 6 from rfl, Nat.mul_one, Nat.add_zero] at hf12_0); have hx12_1 := hcc12 1 _ rfl; (try simp only [show (k36).sz = 6 from rfl, Nat.mul_one, Nat.add_zero] at hx12_1); have hf12_1 := hfr12 1; (try simp only [show (k36).sz = 6 from rfl, Nat.mul_one, Nat.add_zero] at hf12_1); have hx12_2 := hcc12 2 _ rfl; (try simp only [show (k36).sz = 6 from rfl, Nat.mul_one, Nat.add_zero] at hx12_2); have hf12_2 := hfr12 2; (try simp only [show (k36).sz = 6 from rfl, Nat.mul_one, Nat.add_zero] at hf12_2); have hx12_3 := hcc12 3 _ rfl; (try simp only [show (k36).sz = 6 from rfl, Nat.mul_one, Nat.add_zero] at hx12_3); have hf12_3 := hfr12 3; (try simp only [show (k36).sz = 6 from rfl, Nat.mul_one, Nat.add_zero] at hf12_3); have hx12_4 := hcc12 4 _ rfl; (try simp only [show (k36).sz = 6 from rfl, Nat.mul_one, Nat.add_zero] at hx12_4); have hf12_4 := hfr12 4; (try simp only [show (k36).sz = 6 from rfl, Nat.mul_one, Nat.add_zero] at hf12_4); have hx12_5 := hcc12 5 _ rfl; (try simp only [show (k36).sz = 6 from rfl, Nat.mul_one, Nat.add_zero] at hx12_5); have hf12_5 := hfr12 5; (try simp only [show (k36).sz = 6 from rfl, Nat.mul_one, Nat.add_zero] at hf12_5); clear hcl12 hcc12 hfr12 hM12) | ((with_reducible refine gate_store (t := 36) (p := 21) rfl ?_); refine store_event (t := 36) (p := 21) (v := ?vo_w13) (w1 := ((((((w11.setCell ⟨go10, (x4_1 : Int).toNat * 6, none⟩ (.int .i64 t117)).setCell ⟨go10, (x4_1 : Int).toNat * 6 + 1, none⟩ (.int .i64 t118)).setCell ⟨go10, (x4_1 : Int).toNat * 6 + 2, none⟩ (.int .i64 t119)).setCell ⟨go10, (x4_1 : Int).toNat * 6 + 3, none⟩ (.int .i64 t120)).setCell ⟨go10, (x4_1 : Int).toNat * 6 + 4, none⟩ (.int .i64 t121)).setCell ⟨go10, (x4_1 : Int).toNat * 6 + 5, none⟩ (.int .i64 t122))) ?hg ?ho ?hn ?hr ?_; (case ho => rfl); (case hg => rfl); (case hn => rfl); (case hr => first | (go_simp; done) | (go_simp; rfl)); intro w13 hw; have hg : w11.grownBy w13 (some go10) := (by rw [hw]; exact HP12.2); have hp_ : Kd.R k36 36 w13 w.heap.size (fun _ => True) (.slice (some ⟨go10, 0, none⟩) x3_1.length co10) y123 := (by rw [hw, Ny123.out]; exact HP12.1); clear HP12; have n0_ := zaJ (hp_); have n1_ := zaJ ((by rw [hw]; exact below_set (below_set (below_set (below_set (below_set (below_set (HB.out) GB10.out) GB10.out) GB10.out) GB10.out) GB10.out) GB10.out : Below w.heap.size w w13)); clear HO_3; clear HB; have HO_3 := n0_; have HB := n1_; clear n0_ n1_; clear hg hw hp_))
        go_roundg k1
        case measure => have := HK1.out; omega
        case rel => exact ⟨(y123), (wrap64 (x4_1 + 1)), (by first | rfl | (simp; done) | (simp [*]; done)), H', ⟨by have := HK1.out; omega⟩, ⟨by (with_reducible repeat (first | apply Kd.R_alloc | apply Kd.R_drewN | apply Kd.R_drew)); exact HO_3.out⟩, ⟨bb_⟩⟩
       ·rw [if_neg c9] at H
        exact absurd H (by simp)
      ·rw [if_neg c7] at H
       exact absurd H (by simp)
     ·rw [if_neg c6] at H
      have c6b0 : decide (x4_1 < (l0.length : Int)) = false := decide_eq_false c6
      clear c6
      obtain rfl := Option.some.inj H
      go_wp2
      go_ret
      exact ⟨_, by first | rfl | (simp [zaI, zaH] <;> rfl) | (simp [*, zaI, zaH] <;> rfl), by (with_reducible repeat (first | apply Kd.R_alloc | apply Kd.R_drewN | apply Kd.R_drew)); exact HO_3.out, bb_⟩
  ·rw [if_neg c3] at H
   exact absurd H (by simp)
 ·rw [if_neg c2] at H
  exact absurd H (by simp)

def zdG.f (a0_0 : Int) (a0_1 : Int) (a0_2 : Int) (a1_0 : Int) (a1_1 : Int) (a1_2 : Int) : Option (Bool) := if a0_0 = a1_0 then (if a0_1 = a1_1 then (if a0_2 = a1_2 then (some true) else (some false)) else (some false)) else (some false)
set_option maxHeartbeats 8000000 in
set_option maxRecDepth 100000 in
theorem zdG.calls (a0_0 : Int) (a0_1 : Int) (a0_2 : Int) (a1_0 : Int) (a1_1 : Int) (a1_2 : Int) (r : Bool) (w : World) (h : zdG.f a0_0 a0_1 a0_2 a1_0 a1_1 a1_2 = some r) :
  Calls Tryd.prog 43 #[.agg #[.int .i64 a0_0, .int .i64 a0_1, .int .i64 a0_2], .agg #[.int .i64 a1_0, .int .i64 a1_1, .int .i64 a1_2]] w fun e w' => e = .returned (.bool r) ∧ Below w.heap.size w w' := by
 have hu34 := Tryd.underlying34
 have HB := zaJ (Below.refl w.heap.size w)
 have H : (if a0_0 = a1_0 then (if a0_1 = a1_1 then (if a0_2 = a1_2 then (some true) else (some false)) else (some false)) else (some false)) = some r := h
 clear h
 by_cases c3 : a0_0 = a1_0
 ·rw [if_pos c3] at H
  have c3b0 : (a0_0 == a1_0) = true := beq_iff_eq.mpr c3
  have c3b1 : (a0_0 != a1_0) = false := bne_eq_false_iff_eq.mpr c3
  clear c3
  by_cases c4 : a0_1 = a1_1
  ·rw [if_pos c4] at H
   have c4b0 : (a0_1 == a1_1) = true := beq_iff_eq.mpr c4
   have c4b1 : (a0_1 != a1_1) = false := bne_eq_false_iff_eq.mpr c4
   clear c4
   by_cases c5 : a0_2 = a1_2
   ·rw [if_pos c5] at H
    have c5b0 : (a0_2 == a1_2) = true := beq_iff_eq.mpr c5
    have c5b1 : (a0_2 != a1_2) = false := bne_eq_false_iff_eq.mpr c5
    clear c5
    obtain rfl := Option.some.inj H
    go_enter Tryd.func43, Tryd.ntmps43
    go_wp2_with (first | ((with_reducible refine zaQ (N := 2) rfl ?_); refine bx_ 2 #[.int .i64 a0_0, .int .i64 a0_1, .int .i64 a0_2] 34 ?_; intro gb124 hg w6 hbox hb; have n0_ := (ns_ hb); have n1_ := zaJ (hbox); have n2_ := (ng_ hg); have n3_ := n2_; clear HB; have HB := n0_; have BK124 := n1_; have GW124 := n2_; have GE124 := n3_; clear n0_ n1_ n2_ n3_; clear hb hbox hg) | ((with_reducible refine zaQ (N := 3) rfl ?_); refine bx_ 3 #[.int .i64 a1_0, .int .i64 a1_1, .int .i64 a1_2] 34 ?_; intro gb125 hg w7 hbox hb; have n0_ := zaJ (zaG (g := gb124) (o := .cells #[.int .i64 a0_0, .int .i64 a0_1, .int .i64 a0_2] 34 (0, 0)) bk_ hb); have n1_ := (ns_ hb); have n2_ := zaJ (hbox); have n3_ := (ng_ hg); have n4_ := n3_; have n5_ := zaJ ((by rw [hg]; exact Nat.ne_of_lt (zbC (g := gb124) (o := .cells #[.int .i64 a0_0, .int .i64 a0_1, .int .i64 a0_2] 34 (0, 0)) bk_) : gb124 ≠ gb125)); have n6_ := zaJ ((by rw [hg]; exact Nat.ne_of_gt (zbC (g := gb124) (o := .cells #[.int .i64 a0_0, .int .i64 a0_1, .int .i64 a0_2] 34 (0, 0)) bk_) : gb125 ≠ gb124)); clear BK124; clear HB; have BK124 := n0_; have HB := n1_; have BK125 := n2_; have GW125 := n3_; have GE125 := n4_; have NB124_125 := n5_; have NB125_124 := n6_; clear n0_ n1_ n2_ n3_ n4_ n5_ n6_; clear hb hbox hg; have hnb8 := NB124_125.out; have hnc8 := NB125_124.out; obtain ⟨hcz9_0, hcz9_1, hcz9_2⟩ := zeI BK124.out; obtain ⟨hfz9_0, hfz9_1, hfz9_2⟩ := zeH BK124.out; obtain ⟨hcz10_0, hcz10_1, hcz10_2⟩ := zeI BK125.out; obtain ⟨hfz10_0, hfz10_1, hfz10_2⟩ := zeH BK125.out))
    go_ret
    exact ⟨by first | rfl | (simp [zaI, zaH] <;> rfl) | (simp [*, zaI, zaH] <;> rfl), bb_⟩
   ·rw [if_neg c5] at H
    have c5b0 : (a0_2 == a1_2) = false := beq_eq_false_iff_ne.mpr c5
    have c5b1 : (a0_2 != a1_2) = true := bne_iff_ne.mpr c5
    obtain rfl := Option.some.inj H
    go_enter Tryd.func43, Tryd.ntmps43
    go_wp2_with (first | ((with_reducible refine zaQ (N := 2) rfl ?_); refine bx_ 2 #[.int .i64 a0_0, .int .i64 a0_1, .int .i64 a0_2] 34 ?_; intro gb124 hg w11 hbox hb; have n0_ := (ns_ hb); have n1_ := zaJ (hbox); have n2_ := (ng_ hg); have n3_ := n2_; clear HB; have HB := n0_; have BK124 := n1_; have GW124 := n2_; have GE124 := n3_; clear n0_ n1_ n2_ n3_; clear hb hbox hg) | ((with_reducible refine zaQ (N := 3) rfl ?_); refine bx_ 3 #[.int .i64 a1_0, .int .i64 a1_1, .int .i64 a1_2] 34 ?_; intro gb125 hg w12 hbox hb; have n0_ := zaJ (zaG (g := gb124) (o := .cells #[.int .i64 a0_0, .int .i64 a0_1, .int .i64 a0_2] 34 (0, 0)) bk_ hb); have n1_ := (ns_ hb); have n2_ := zaJ (hbox); have n3_ := (ng_ hg); have n4_ := n3_; have n5_ := zaJ ((by rw [hg]; exact Nat.ne_of_lt (zbC (g := gb124) (o := .cells #[.int .i64 a0_0, .int .i64 a0_1, .int .i64 a0_2] 34 (0, 0)) bk_) : gb124 ≠ gb125)); have n6_ := zaJ ((by rw [hg]; exact Nat.ne_of_gt (zbC (g := gb124) (o := .cells #[.int .i64 a0_0, .int .i64 a0_1, .int .i64 a0_2] 34 (0, 0)) bk_) : gb125 ≠ gb124)); clear BK124; clear HB; have BK124 := n0_; have HB := n1_; have BK125 := n2_; have GW125 := n3_; have GE125 := n4_; have NB124_125 := n5_; have NB125_124 := n6_; clear n0_ n1_ n2_ n3_ n4_ n5_ n6_; clear hb hbox hg; have hnb13 := NB124_125.out; have hnc13 := NB125_124.out; obtain ⟨hcz14_0, hcz14_1, hcz14_2⟩ := zeI BK124.out; obtain ⟨hfz14_0, hfz14_1, hfz14_2⟩ := zeH BK124.out; obtain ⟨hcz15_0, hcz15_1, hcz15_2⟩ := zeI BK125.out; obtain ⟨hfz15_0, hfz15_1, hfz15_2⟩ := zeH BK125.out))
    go_ret
    exact ⟨by first | rfl | (simp [zaI, zaH] <;> rfl) | (simp [*, zaI, zaH] <;> rfl), bb_⟩
  ·rw [if_neg c4] at H
   have c4b0 : (a0_1 == a1_1) = false := beq_eq_false_iff_ne.mpr c4
   have c4b1 : (a0_1 != a1_1) = true := bne_iff_ne.mpr c4
   obtain rfl := Option.some.inj H
   go_enter Tryd.func43, Tryd.ntmps43
   go_wp2_with (first | ((with_reducible refine zaQ (N := 2) rfl ?_); refine bx_ 2 #[.int .i64 a0_0, .int .i64 a0_1, .int .i64 a0_2] 34 ?_; intro gb124 hg w16 hbox hb; have n0_ := (ns_ hb); have n1_ := zaJ (hbox); have n2_ := (ng_ hg); have n3_ := n2_; clear HB; have HB := n0_; have BK124 := n1_; have GW124 := n2_; have GE124 := n3_; clear n0_ n1_ n2_ n3_; clear hb hbox hg) | ((with_reducible refine zaQ (N := 3) rfl ?_); refine bx_ 3 #[.int .i64 a1_0, .int .i64 a1_1, .int .i64 a1_2] 34 ?_; intro gb125 hg w17 hbox hb; have n0_ := zaJ (zaG (g := gb124) (o := .cells #[.int .i64 a0_0, .int .i64 a0_1, .int .i64 a0_2] 34 (0, 0)) bk_ hb); have n1_ := (ns_ hb); have n2_ := zaJ (hbox); have n3_ := (ng_ hg); have n4_ := n3_; have n5_ := zaJ ((by rw [hg]; exact Nat.ne_of_lt (zbC (g := gb124) (o := .cells #[.int .i64 a0_0, .int .i64 a0_1, .int .i64 a0_2] 34 (0, 0)) bk_) : gb124 ≠ gb125)); have n6_ := zaJ ((by rw [hg]; exact Nat.ne_of_gt (zbC (g := gb124) (o := .cells #[.int .i64 a0_0, .int .i64 a0_1, .int .i64 a0_2] 34 (0, 0)) bk_) : gb125 ≠ gb124)); clear BK124; clear HB; have BK124 := n0_; have HB := n1_; have BK125 := n2_; have GW125 := n3_; have GE125 := n4_; have NB124_125 := n5_; have NB125_124 := n6_; clear n0_ n1_ n2_ n3_ n4_ n5_ n6_; clear hb hbox hg; have hnb18 := NB124_125.out; have hnc18 := NB125_124.out; obtain ⟨hcz19_0, hcz19_1, hcz19_2⟩ := zeI BK124.out; obtain ⟨hfz19_0, hfz19_1, hfz19_2⟩ := zeH BK124.out; obtain ⟨hcz20_0, hcz20_1, hcz20_2⟩ := zeI BK125.out; obtain ⟨hfz20_0, hfz20_1, hfz20_2⟩ := zeH BK125.out))
   go_ret
   exact ⟨by first | rfl | (simp [zaI, zaH] <;> rfl) | (simp [*, zaI, zaH] <;> rfl), bb_⟩
 ·rw [if_neg c3] at H
  have c3b0 : (a0_0 == a1_0) = false := beq_eq_false_iff_ne.mpr c3
  have c3b1 : (a0_0 != a1_0) = true := bne_iff_ne.mpr c3
  obtain rfl := Option.some.inj H
  go_enter Tryd.func43, Tryd.ntmps43
  go_wp2_with (first | ((with_reducible refine zaQ (N := 2) rfl ?_); refine bx_ 2 #[.int .i64 a0_0, .int .i64 a0_1, .int .i64 a0_2] 34 ?_; intro gb124 hg w21 hbox hb; have n0_ := (ns_ hb); have n1_ := zaJ (hbox); have n2_ := (ng_ hg); have n3_ := n2_; clear HB; have HB := n0_; have BK124 := n1_; have GW124 := n2_; have GE124 := n3_; clear n0_ n1_ n2_ n3_; clear hb hbox hg) | ((with_reducible refine zaQ (N := 3) rfl ?_); refine bx_ 3 #[.int .i64 a1_0, .int .i64 a1_1, .int .i64 a1_2] 34 ?_; intro gb125 hg w22 hbox hb; have n0_ := zaJ (zaG (g := gb124) (o := .cells #[.int .i64 a0_0, .int .i64 a0_1, .int .i64 a0_2] 34 (0, 0)) bk_ hb); have n1_ := (ns_ hb); have n2_ := zaJ (hbox); have n3_ := (ng_ hg); have n4_ := n3_; have n5_ := zaJ ((by rw [hg]; exact Nat.ne_of_lt (zbC (g := gb124) (o := .cells #[.int .i64 a0_0, .int .i64 a0_1, .int .i64 a0_2] 34 (0, 0)) bk_) : gb124 ≠ gb125)); have n6_ := zaJ ((by rw [hg]; exact Nat.ne_of_gt (zbC (g := gb124) (o := .cells #[.int .i64 a0_0, .int .i64 a0_1, .int .i64 a0_2] 34 (0, 0)) bk_) : gb125 ≠ gb124)); clear BK124; clear HB; have BK124 := n0_; have HB := n1_; have BK125 := n2_; have GW125 := n3_; have GE125 := n4_; have NB124_125 := n5_; have NB125_124 := n6_; clear n0_ n1_ n2_ n3_ n4_ n5_ n6_; clear hb hbox hg; have hnb23 := NB124_125.out; have hnc23 := NB125_124.out; obtain ⟨hcz24_0, hcz24_1, hcz24_2⟩ := zeI BK124.out; obtain ⟨hfz24_0, hfz24_1, hfz24_2⟩ := zeH BK124.out; obtain ⟨hcz25_0, hcz25_1, hcz25_2⟩ := zeI BK125.out; obtain ⟨hfz25_0, hfz25_1, hfz25_2⟩ := zeH BK125.out))
  go_ret
  exact ⟨by first | rfl | (simp [zaI, zaH] <;> rfl) | (simp [*, zaI, zaH] <;> rfl), bb_⟩

def zeM.f (a0_0 : Int) (a0_1 : Int) (a0_2 : Int) (a0_3 : Int) (a0_4 : Int) (a0_5 : Int) (a1_0 : Int) (a1_1 : Int) (a1_2 : Int) (a1_3 : Int) (a1_4 : Int) (a1_5 : Int) : Option (Bool) := (zdG.f a0_0 a0_1 a0_2 a1_0 a1_1 a1_2).bind fun t128 => (if t128 = true then ((zdG.f a0_3 a0_4 a0_5 a1_3 a1_4 a1_5).bind fun t129 => (if t129 = true then (some true) else (some false))) else (some false))
set_option maxHeartbeats 8000000 in
set_option maxRecDepth 100000 in
theorem zeM.calls (a0_0 : Int) (a0_1 : Int) (a0_2 : Int) (a0_3 : Int) (a0_4 : Int) (a0_5 : Int) (a1_0 : Int) (a1_1 : Int) (a1_2 : Int) (a1_3 : Int) (a1_4 : Int) (a1_5 : Int) (r : Bool) (w : World) (h : zeM.f a0_0 a0_1 a0_2 a0_3 a0_4 a0_5 a1_0 a1_1 a1_2 a1_3 a1_4 a1_5 = some r) :
  Calls Tryd.prog 49 #[.agg #[.int .i64 a0_0, .int .i64 a0_1, .int .i64 a0_2, .int .i64 a0_3, .int .i64 a0_4, .int .i64 a0_5], .agg #[.int .i64 a1_0, .int .i64 a1_1, .int .i64 a1_2, .int .i64 a1_3, .int .i64 a1_4, .int .i64 a1_5]] w fun e w' => e = .returned (.bool r) ∧ Below w.heap.size w w' := by
 have hu36 := Tryd.underlying36
 have hu34 := Tryd.underlying34
 have HB := zaJ (Below.refl w.heap.size w)
 have H : ((zdG.f a0_0 a0_1 a0_2 a1_0 a1_1 a1_2).bind fun t128 => (if t128 = true then ((zdG.f a0_3 a0_4 a0_5 a1_3 a1_4 a1_5).bind fun t129 => (if t129 = true then (some true) else (some false))) else (some false))) = some r := h
 clear h
 replace H := Option.bind_eq_some_iff.mp H
 obtain ⟨t128, A30, H⟩ := H
 replace H : (if t128 = true then ((zdG.f a0_3 a0_4 a0_5 a1_3 a1_4 a1_5).bind fun t129 => (if t129 = true then (some true) else (some false))) else (some false)) = some r := H
 have A3 := zaJ A30
 clear A30
 by_cases c4 : t128 = true
 ·subst c4
  have H1 : ((zdG.f a0_3 a0_4 a0_5 a1_3 a1_4 a1_5).bind fun t129 => (if t129 = true then (some true) else (some false))) = some r := by rw [if_pos rfl] at H; exact H
  clear H
  have H := H1
  clear H1
  replace H := Option.bind_eq_some_iff.mp H
  obtain ⟨t129, A50, H⟩ := H
  replace H : (if t129 = true then (some true) else (some false)) = some r := H
  have A5 := zaJ A50
  clear A50
  by_cases c6 : t129 = true
  ·subst c6
   have H1 : (some true) = some r := by rw [if_pos rfl] at H; exact H
   clear H
   have H := H1
   clear H1
   obtain rfl := Option.some.inj H
   go_enter Tryd.func49, Tryd.ntmps49
   go_wp2_with (first | ((with_reducible refine zaQ (N := 2) rfl ?_); refine bx_ 2 #[.int .i64 a0_0, .int .i64 a0_1, .int .i64 a0_2, .int .i64 a0_3, .int .i64 a0_4, .int .i64 a0_5] 36 ?_; intro gb126 hg w7 hbox hb; have n0_ := (ns_ hb); have n1_ := zaJ (hbox); have n2_ := (ng_ hg); have n3_ := n2_; clear HB; have HB := n0_; have BK126 := n1_; have GW126 := n2_; have GE126 := n3_; clear n0_ n1_ n2_ n3_; clear hb hbox hg) | ((with_reducible refine zaQ (N := 3) rfl ?_); refine bx_ 3 #[.int .i64 a1_0, .int .i64 a1_1, .int .i64 a1_2, .int .i64 a1_3, .int .i64 a1_4, .int .i64 a1_5] 36 ?_; intro gb127 hg w8 hbox hb; have n0_ := zaJ (zaG (g := gb126) (o := .cells #[.int .i64 a0_0, .int .i64 a0_1, .int .i64 a0_2, .int .i64 a0_3, .int .i64 a0_4, .int .i64 a0_5] 36 (0, 0)) bk_ hb); have n1_ := (ns_ hb); have n2_ := zaJ (hbox); have n3_ := (ng_ hg); have n4_ := n3_; have n5_ := zaJ ((by rw [hg]; exact Nat.ne_of_lt (zbC (g := gb126) (o := .cells #[.int .i64 a0_0, .int .i64 a0_1, .int .i64 a0_2, .int .i64 a0_3, .int .i64 a0_4, .int .i64 a0_5] 36 (0, 0)) bk_) : gb126 ≠ gb127)); have n6_ := zaJ ((by rw [hg]; exact Nat.ne_of_gt (zbC (g := gb126) (o := .cells #[.int .i64 a0_0, .int .i64 a0_1, .int .i64 a0_2, .int .i64 a0_3, .int .i64 a0_4, .int .i64 a0_5] 36 (0, 0)) bk_) : gb127 ≠ gb126)); clear BK126; clear HB; have BK126 := n0_; have HB := n1_; have BK127 := n2_; have GW127 := n3_; have GE127 := n4_; have NB126_127 := n5_; have NB127_126 := n6_; clear n0_ n1_ n2_ n3_ n4_ n5_ n6_; clear hb hbox hg; have hnb9 := NB126_127.out; have hnc9 := NB127_126.out; obtain ⟨hcz10_0, hcz10_1, hcz10_2, hcz10_3, hcz10_4, hcz10_5⟩ := zeX BK126.out; obtain ⟨hfz10_0, hfz10_1, hfz10_2, hfz10_3, hfz10_4, hfz10_5⟩ := zeW BK126.out; obtain ⟨hcz11_0, hcz11_1, hcz11_2, hcz11_3, hcz11_4, hcz11_5⟩ := zeX BK127.out; obtain ⟨hfz11_0, hfz11_1, hfz11_2, hfz11_3, hfz11_4, hfz11_5⟩ := zeW BK127.out) | ((with_reducible refine zaK (f := 43) rfl ?_); refine zbQ (some 9) rfl rfl Tryd.func43 (by kernel_rfl) rfl #[.agg #[.int .i64 a0_0, .int .i64 a0_1, .int .i64 a0_2], .agg #[.int .i64 a1_0, .int .i64 a1_1, .int .i64 a1_2]] rfl (by (try simp only [List.map_toArray, List.map_cons, List.map_nil]); first | done | rfl | (simp only [List.length_drop, List.length_take]; rfl)) ?_; (with_reducible refine (zdG.calls a0_0 a0_1 a0_2 a1_0 a1_1 a1_2 true _ A3.out).mono ?_); rintro e w12 ⟨rfl, hb⟩; refine ⟨_, rfl, ?_⟩; have n0_ := zaJ (zaG (g := gb126) (o := .cells #[.int .i64 a0_0, .int .i64 a0_1, .int .i64 a0_2, .int .i64 a0_3, .int .i64 a0_4, .int .i64 a0_5] 36 (0, 0)) bk_ hb); have n1_ := zaJ (zaG (g := gb127) (o := .cells #[.int .i64 a1_0, .int .i64 a1_1, .int .i64 a1_2, .int .i64 a1_3, .int .i64 a1_4, .int .i64 a1_5] 36 (0, 0)) bk_ hb); have n2_ := (ns_ hb); clear BK126; clear BK127; clear HB; have BK126 := n0_; have BK127 := n1_; have HB := n2_; clear n0_ n1_ n2_; (try clear hb); (try clear hb2); obtain ⟨hcz13_0, hcz13_1, hcz13_2, hcz13_3, hcz13_4, hcz13_5⟩ := zeX BK126.out; obtain ⟨hfz13_0, hfz13_1, hfz13_2, hfz13_3, hfz13_4, hfz13_5⟩ := zeW BK126.out; obtain ⟨hcz14_0, hcz14_1, hcz14_2, hcz14_3, hcz14_4, hcz14_5⟩ := zeX BK127.out; obtain ⟨hfz14_0, hfz14_1, hfz14_2, hfz14_3, hfz14_4, hfz14_5⟩ := zeW BK127.out) | ((with_reducible refine zaK (f := 43) rfl ?_); refine zbQ (some 15) rfl rfl Tryd.func43 (by kernel_rfl) rfl #[.agg #[.int .i64 a0_3, .int .i64 a0_4, .int .i64 a0_5], .agg #[.int .i64 a1_3, .int .i64 a1_4, .int .i64 a1_5]] rfl (by (try simp only [List.map_toArray, List.map_cons, List.map_nil]); first | done | rfl | (simp only [List.length_drop, List.length_take]; rfl)) ?_; (with_reducible refine (zdG.calls a0_3 a0_4 a0_5 a1_3 a1_4 a1_5 true _ A5.out).mono ?_); rintro e w15 ⟨rfl, hb⟩; refine ⟨_, rfl, ?_⟩; have n0_ := zaJ (zaG (g := gb126) (o := .cells #[.int .i64 a0_0, .int .i64 a0_1, .int .i64 a0_2, .int .i64 a0_3, .int .i64 a0_4, .int .i64 a0_5] 36 (0, 0)) bk_ hb); have n1_ := zaJ (zaG (g := gb127) (o := .cells #[.int .i64 a1_0, .int .i64 a1_1, .int .i64 a1_2, .int .i64 a1_3, .int .i64 a1_4, .int .i64 a1_5] 36 (0, 0)) bk_ hb); have n2_ := (ns_ hb); clear BK126; clear BK127; clear HB; have BK126 := n0_; have BK127 := n1_; have HB := n2_; clear n0_ n1_ n2_; (try clear hb); (try clear hb2)))
   go_ret
   exact ⟨by first | rfl | (simp [zaI, zaH] <;> rfl) | (simp [*, zaI, zaH] <;> rfl), bb_⟩
  ·replace c6 := Bool.eq_false_iff.mpr c6
   subst c6
   have H1 : (some false) = some r := by rw [if_neg (show ¬ (false = true) by decide)] at H; exact H
   clear H
   have H := H1
   clear H1
   obtain rfl := Option.some.inj H
   go_enter Tryd.func49, Tryd.ntmps49
   go_wp2_with (first | ((with_reducible refine zaQ (N := 2) rfl ?_); refine bx_ 2 #[.int .i64 a0_0, .int .i64 a0_1, .int .i64 a0_2, .int .i64 a0_3, .int .i64 a0_4, .int .i64 a0_5] 36 ?_; intro gb126 hg w16 hbox hb; have n0_ := (ns_ hb); have n1_ := zaJ (hbox); have n2_ := (ng_ hg); have n3_ := n2_; clear HB; have HB := n0_; have BK126 := n1_; have GW126 := n2_; have GE126 := n3_; clear n0_ n1_ n2_ n3_; clear hb hbox hg) | ((with_reducible refine zaQ (N := 3) rfl ?_); refine bx_ 3 #[.int .i64 a1_0, .int .i64 a1_1, .int .i64 a1_2, .int .i64 a1_3, .int .i64 a1_4, .int .i64 a1_5] 36 ?_; intro gb127 hg w17 hbox hb; have n0_ := zaJ (zaG (g := gb126) (o := .cells #[.int .i64 a0_0, .int .i64 a0_1, .int .i64 a0_2, .int .i64 a0_3, .int .i64 a0_4, .int .i64 a0_5] 36 (0, 0)) bk_ hb); have n1_ := (ns_ hb); have n2_ := zaJ (hbox); have n3_ := (ng_ hg); have n4_ := n3_; have n5_ := zaJ ((by rw [hg]; exact Nat.ne_of_lt (zbC (g := gb126) (o := .cells #[.int .i64 a0_0, .int .i64 a0_1, .int .i64 a0_2, .int .i64 a0_3, .int .i64 a0_4, .int .i64 a0_5] 36 (0, 0)) bk_) : gb126 ≠ gb127)); have n6_ := zaJ ((by rw [hg]; exact Nat.ne_of_gt (zbC (g := gb126) (o := .cells #[.int .i64 a0_0, .int .i64 a0_1, .int .i64 a0_2, .int .i64 a0_3, .int .i64 a0_4, .int .i64 a0_5] 36 (0, 0)) bk_) : gb127 ≠ gb126)); clear BK126; clear HB; have BK126 := n0_; have HB := n1_; have BK127 := n2_; have GW127 := n3_; have GE127 := n4_; have NB126_127 := n5_; have NB127_126 := n6_; clear n0_ n1_ n2_ n3_ n4_ n5_ n6_; clear hb hbox hg; have hnb18 := NB126_127.out; have hnc18 := NB127_126.out; obtain ⟨hcz19_0, hcz19_1, hcz19_2, hcz19_3, hcz19_4, hcz19_5⟩ := zeX BK126.out; obtain ⟨hfz19_0, hfz19_1, hfz19_2, hfz19_3, hfz19_4, hfz19_5⟩ := zeW BK126.out; obtain ⟨hcz20_0, hcz20_1, hcz20_2, hcz20_3, hcz20_4, hcz20_5⟩ := zeX BK127.out; obtain ⟨hfz20_0, hfz20_1, hfz20_2, hfz20_3, hfz20_4, hfz20_5⟩ := zeW BK127.out) | ((with_reducible refine zaK (f := 43) rfl ?_); refine zbQ (some 9) rfl rfl Tryd.func43 (by kernel_rfl) rfl #[.agg #[.int .i64 a0_0, .int .i64 a0_1, .int .i64 a0_2], .agg #[.int .i64 a1_0, .int .i64 a1_1, .int .i64 a1_2]] rfl (by (try simp only [List.map_toArray, List.map_cons, List.map_nil]); first | done | rfl | (simp only [List.length_drop, List.length_take]; rfl)) ?_; (with_reducible refine (zdG.calls a0_0 a0_1 a0_2 a1_0 a1_1 a1_2 true _ A3.out).mono ?_); rintro e w21 ⟨rfl, hb⟩; refine ⟨_, rfl, ?_⟩; have n0_ := zaJ (zaG (g := gb126) (o := .cells #[.int .i64 a0_0, .int .i64 a0_1, .int .i64 a0_2, .int .i64 a0_3, .int .i64 a0_4, .int .i64 a0_5] 36 (0, 0)) bk_ hb); have n1_ := zaJ (zaG (g := gb127) (o := .cells #[.int .i64 a1_0, .int .i64 a1_1, .int .i64 a1_2, .int .i64 a1_3, .int .i64 a1_4, .int .i64 a1_5] 36 (0, 0)) bk_ hb); have n2_ := (ns_ hb); clear BK126; clear BK127; clear HB; have BK126 := n0_; have BK127 := n1_; have HB := n2_; clear n0_ n1_ n2_; (try clear hb); (try clear hb2); obtain ⟨hcz22_0, hcz22_1, hcz22_2, hcz22_3, hcz22_4, hcz22_5⟩ := zeX BK126.out; obtain ⟨hfz22_0, hfz22_1, hfz22_2, hfz22_3, hfz22_4, hfz22_5⟩ := zeW BK126.out; obtain ⟨hcz23_0, hcz23_1, hcz23_2, hcz23_3, hcz23_4, hcz23_5⟩ := zeX BK127.out; obtain ⟨hfz23_0, hfz23_1, hfz23_2, hfz23_3, hfz23_4, hfz23_5⟩ := zeW BK127.out) | ((with_reducible refine zaK (f := 43) rfl ?_); refine zbQ (some 15) rfl rfl Tryd.func43 (by kernel_rfl) rfl #[.agg #[.int .i64 a0_3, .int .i64 a0_4, .int .i64 a0_5], .agg #[.int .i64 a1_3, .int .i64 a1_4, .int .i64 a1_5]] rfl (by (try simp only [List.map_toArray, List.map_cons, List.map_nil]); first | done | rfl | (simp only [List.length_drop, List.length_take]; rfl)) ?_; (with_reducible refine (zdG.calls a0_3 a0_4 a0_5 a1_3 a1_4 a1_5 false _ A5.out).mono ?_); rintro e w24 ⟨rfl, hb⟩; refine ⟨_, rfl, ?_⟩; have n0_ := zaJ (zaG (g := gb126) (o := .cells #[.int .i64 a0_0, .int .i64 a0_1, .int .i64 a0_2, .int .i64 a0_3, .int .i64 a0_4, .int .i64 a0_5] 36 (0, 0)) bk_ hb); have n1_ := zaJ (zaG (g := gb127) (o := .cells #[.int .i64 a1_0, .int .i64 a1_1, .int .i64 a1_2, .int .i64 a1_3, .int .i64 a1_4, .int .i64 a1_5] 36 (0, 0)) bk_ hb); have n2_ := (ns_ hb); clear BK126; clear BK127; clear HB; have BK126 := n0_; have BK127 := n1_; have HB := n2_; clear n0_ n1_ n2_; (try clear hb); (try clear hb2)))
   go_ret
   exact ⟨by first | rfl | (simp [zaI, zaH] <;> rfl) | (simp [*, zaI, zaH] <;> rfl), bb_⟩
 ·replace c4 := Bool.eq_false_iff.mpr c4
  subst c4
  have H1 : (some false) = some r := by rw [if_neg (show ¬ (false = true) by decide)] at H; exact H
  clear H
  have H := H1
  clear H1
  obtain rfl := Option.some.inj H
  go_enter Tryd.func49, Tryd.ntmps49
  go_wp2_with (first | ((with_reducible refine zaQ (N := 2) rfl ?_); refine bx_ 2 #[.int .i64 a0_0, .int .i64 a0_1, .int .i64 a0_2, .int .i64 a0_3, .int .i64 a0_4, .int .i64 a0_5] 36 ?_; intro gb126 hg w25 hbox hb; have n0_ := (ns_ hb); have n1_ := zaJ (hbox); have n2_ := (ng_ hg); have n3_ := n2_; clear HB; have HB := n0_; have BK126 := n1_; have GW126 := n2_; have GE126 := n3_; clear n0_ n1_ n2_ n3_; clear hb hbox hg) | ((with_reducible refine zaQ (N := 3) rfl ?_); refine bx_ 3 #[.int .i64 a1_0, .int .i64 a1_1, .int .i64 a1_2, .int .i64 a1_3, .int .i64 a1_4, .int .i64 a1_5] 36 ?_; intro gb127 hg w26 hbox hb; have n0_ := zaJ (zaG (g := gb126) (o := .cells #[.int .i64 a0_0, .int .i64 a0_1, .int .i64 a0_2, .int .i64 a0_3, .int .i64 a0_4, .int .i64 a0_5] 36 (0, 0)) bk_ hb); have n1_ := (ns_ hb); have n2_ := zaJ (hbox); have n3_ := (ng_ hg); have n4_ := n3_; have n5_ := zaJ ((by rw [hg]; exact Nat.ne_of_lt (zbC (g := gb126) (o := .cells #[.int .i64 a0_0, .int .i64 a0_1, .int .i64 a0_2, .int .i64 a0_3, .int .i64 a0_4, .int .i64 a0_5] 36 (0, 0)) bk_) : gb126 ≠ gb127)); have n6_ := zaJ ((by rw [hg]; exact Nat.ne_of_gt (zbC (g := gb126) (o := .cells #[.int .i64 a0_0, .int .i64 a0_1, .int .i64 a0_2, .int .i64 a0_3, .int .i64 a0_4, .int .i64 a0_5] 36 (0, 0)) bk_) : gb127 ≠ gb126)); clear BK126; clear HB; have BK126 := n0_; have HB := n1_; have BK127 := n2_; have GW127 := n3_; have GE127 := n4_; have NB126_127 := n5_; have NB127_126 := n6_; clear n0_ n1_ n2_ n3_ n4_ n5_ n6_; clear hb hbox hg; have hnb27 := NB126_127.out; have hnc27 := NB127_126.out; obtain ⟨hcz28_0, hcz28_1, hcz28_2, hcz28_3, hcz28_4, hcz28_5⟩ := zeX BK126.out; obtain ⟨hfz28_0, hfz28_1, hfz28_2, hfz28_3, hfz28_4, hfz28_5⟩ := zeW BK126.out; obtain ⟨hcz29_0, hcz29_1, hcz29_2, hcz29_3, hcz29_4, hcz29_5⟩ := zeX BK127.out; obtain ⟨hfz29_0, hfz29_1, hfz29_2, hfz29_3, hfz29_4, hfz29_5⟩ := zeW BK127.out) | ((with_reducible refine zaK (f := 43) rfl ?_); refine zbQ (some 9) rfl rfl Tryd.func43 (by kernel_rfl) rfl #[.agg #[.int .i64 a0_0, .int .i64 a0_1, .int .i64 a0_2], .agg #[.int .i64 a1_0, .int .i64 a1_1, .int .i64 a1_2]] rfl (by (try simp only [List.map_toArray, List.map_cons, List.map_nil]); first | done | rfl | (simp only [List.length_drop, List.length_take]; rfl)) ?_; (with_reducible refine (zdG.calls a0_0 a0_1 a0_2 a1_0 a1_1 a1_2 false _ A3.out).mono ?_); rintro e w30 ⟨rfl, hb⟩; refine ⟨_, rfl, ?_⟩; have n0_ := zaJ (zaG (g := gb126) (o := .cells #[.int .i64 a0_0, .int .i64 a0_1, .int .i64 a0_2, .int .i64 a0_3, .int .i64 a0_4, .int .i64 a0_5] 36 (0, 0)) bk_ hb); have n1_ := zaJ (zaG (g := gb127) (o := .cells #[.int .i64 a1_0, .int .i64 a1_1, .int .i64 a1_2, .int .i64 a1_3, .int .i64 a1_4, .int .i64 a1_5] 36 (0, 0)) bk_ hb); have n2_ := (ns_ hb); clear BK126; clear BK127; clear HB; have BK126 := n0_; have BK127 := n1_; have HB := n2_; clear n0_ n1_ n2_; (try clear hb); (try clear hb2)))
  go_ret
  exact ⟨by first | rfl | (simp [zaI, zaH] <;> rfl) | (simp [*, zaI, zaH] <;> rfl), bb_⟩

def zaZ.l0 : Nat → List (S36) → List (S36) → Int → Option (Bool)
 | 0, _, _, _ => none
 | k + 1, x0, x1, x5 => if x5 < (x0.length : Int) then (if 0 ≤ x5 then (if x5 < (x1.length : Int) then ((zeM.f ((zaA x0 x5).f0.f0) ((zaA x0 x5).f0.f1) ((zaA x0 x5).f0.f2) ((zaA x0 x5).f1.f0) ((zaA x0 x5).f1.f1) ((zaA x0 x5).f1.f2) ((zaA x1 x5).f0.f0) ((zaA x1 x5).f0.f1) ((zaA x1 x5).f0.f2) ((zaA x1 x5).f1.f0) ((zaA x1 x5).f1.f1) ((zaA x1 x5).f1.f2)).bind fun t132 => (if t132 = true then (zaZ.l0 k x0 x1 (wrap64 (x5 + 1))) else (some false))) else (none)) else (none)) else (some true)
def zaZ.f (k : Nat) (l0 : List (S36)) (l1 : List (S36)) : Option (Bool) := if (l0.length : Int) = (l1.length : Int) then (zaZ.l0 k l0 l1 0) else (some false)
theorem zaZ.mono_l : ∀ k, (∀ y0 y1 y2, LeO (zaZ.l0 k y0 y1 y2) (zaZ.l0 (k + 1) y0 y1 y2))
 | 0 => fun _ _ _ r h => by simp [zaZ.l0] at h
 | k + 1 => by
  have ih0 := zaZ.mono_l k
  ·intro y0 y1 y2
   unfold zaZ.l0
   repeat' first
   | (with_reducible exact ih0 _ _ _)
   | (with_reducible exact LeO.refl _)
   | (with_reducible exact LeO.none _)
   | (with_reducible refine LeO.ite ?_ ?_)
   | (with_reducible refine LeO.bind ?_ (fun _ => ?_))
   | exact ih0 _ _ _
   | exact LeO.none _
   | refine LeO.ite ?_ ?_
   | refine LeO.bind ?_ (fun _ => ?_)
theorem zaZ.mono : ∀ a0 a1 k, LeO (zaZ.f k a0 a1) (zaZ.f (k + 1) a0 a1) := by
 intro a0 a1 k
 have ih0 := zaZ.mono_l k
 unfold zaZ.f
 repeat' first
   | (with_reducible exact ih0 _ _ _)
   | (with_reducible exact LeO.refl _)
   | (with_reducible exact LeO.none _)
   | (with_reducible refine LeO.ite ?_ ?_)
   | (with_reducible refine LeO.bind ?_ (fun _ => ?_))
   | exact ih0 _ _ _
   | exact LeO.none _
   | refine LeO.ite ?_ ?_
   | refine LeO.bind ?_ (fun _ => ?_)
def zaZ.T6 : Bool × List (List Nat × List Nat) := (true, [([], []), ([], []), ([0, 1], [0, 1]), ([2], [2]), ([], []), ([], []), ([4, 5], [4, 5]), ([6], [6]), ([3, 7], [3, 7]), ([8], [8])])
def zaZ.B6 : List Nat := [0, 0, 3, 7, 0, 0, 48, 112, 255, 511]
theorem zaZ.tab6 : rtab .any (opsOf Tryd.f18 6) = zaZ.T6 := by kernel_rfl
theorem zaZ.bits6 : zdW zaZ.T6.2 zaZ.B6 = true := by kernel_rfl
set_option maxHeartbeats 8000000 in
set_option maxRecDepth 100000 in
theorem zaZ.calls (k : Nat) (A0 : Option Addr) (c0 : Nat) (l0 : List (S36)) (A1 : Option Addr) (c1 : Nat) (l1 : List (S36)) (r : Bool) (w : World) (hr0 : Kd.C k36 w A0 l0.length l0) (hc0 : l0.length ≤ c0) (hr1 : Kd.C k36 w A1 l1.length l1) (hc1 : l1.length ≤ c1) (h : zaZ.f k l0 l1 = some r) :
  Calls Tryd.prog 18 #[.slice A0 l0.length c0, .slice A1 l1.length c1] w fun e w' => e = .returned (.bool r) ∧ Below w.heap.size w w' := by
 have hu36 := Tryd.underlying36
 have HR0 := zaJ hr0
 have HC0 := zaJ hc0
 clear hr0 hc0
 have HR1 := zaJ hr1
 have HC1 := zaJ hc1
 clear hr1 hc1
 have HB := zaJ (Below.refl w.heap.size w)
 have H : (if (l0.length : Int) = (l1.length : Int) then (zaZ.l0 k l0 l1 0) else (some false)) = some r := h
 clear h
 by_cases c3 : (l0.length : Int) = (l1.length : Int)
 ·rw [if_pos c3] at H
  have c3b0 : ((l0.length : Int) == (l1.length : Int)) = true := beq_iff_eq.mpr c3
  have c3b1 : ((l0.length : Int) != (l1.length : Int)) = false := bne_eq_false_iff_eq.mpr c3
  have c3b2 : (l0.length == l1.length) = true := by first | simpa using c3 | (simp at c3 ⊢; omega)
  clear c3
  have H' := zaJ H
  clear H
  go_enter Tryd.func18, Tryd.ntmps18
  go_wp2
  (try go_simp)
  go_loopg [5] k (fun kq v5 w' => ∃ (x5_1 : Int), v5 = .int .i64 x5_1 ∧ Aside0 (zaZ.l0 kq l0 l1 x5_1 = some r) ∧ Aside0 (kq ≤ k) ∧ Aside0 (Below w.heap.size w w'))
  case atStart => exact ⟨(0), (by first | rfl | (simp; done) | (simp [*]; done)), H', ⟨Nat.le_refl _⟩, ⟨bb_⟩⟩
  case round =>
   clear H'
   try clear c1
   try clear p2
   try clear c3
   try clear c3b0
   try clear c3b1
   try clear c3b2
   obtain ⟨x5_1, rfl, HA, HK1, HB⟩ := hrel
   cases gk with
   | zero => exact absurd HA.out (by simp [zaZ.l0])
   | succ k1 =>
    have H := HA.out
    clear HA
    simp only [zaZ.l0] at H
    by_cases c4 : x5_1 < (l0.length : Int)
    ·rw [if_pos c4] at H
     have c4b0 : decide (x5_1 < (l0.length : Int)) = true := decide_eq_true c4
     clear c4
     by_cases c5 : 0 ≤ x5_1
     ·rw [if_pos c5] at H
      have c5b0 : decide (0 ≤ x5_1) = true := decide_eq_true c5
      clear c5
      by_cases c6 : x5_1 < (l1.length : Int)
      ·rw [if_pos c6] at H
       have c6b0 : decide (x5_1 < (l1.length : Int)) = true := decide_eq_true c6
       clear c6
       replace H := Option.bind_eq_some_iff.mp H
       obtain ⟨t132, A70, H⟩ := H
       replace H : (if t132 = true then (zaZ.l0 k1 l0 l1 (wrap64 (x5_1 + 1))) else (some false)) = some r := H
       have A7 := zaJ A70
       clear A70
       by_cases c8 : t132 = true
       ·subst c8
        have H1 : (zaZ.l0 k1 l0 l1 (wrap64 (x5_1 + 1))) = some r := by rw [if_pos rfl] at H; exact H
        clear H
        have H := H1
        clear H1
        have H' := zaJ H
        clear H
        try go_wp2
        have n0_ := zaJ (zbT HB.out)
        clear HB
        have HB := n0_
        clear n0_
        have p130 : 0 ≤ (x5_1 : Int) := of_decide_eq_true (by first | (with_reducible assumption) | assumption)
        have q130 : x5_1 < (l0.length : Int) := of_decide_eq_true (by first | (with_reducible assumption) | assumption)
        obtain ⟨ad130, e130, hx130_0, hx130_1, hx130_2, hx130_3, hx130_4, hx130_5⟩ := zdN HR0.out x5_1 p130 q130
        have hw130_5 := hx130_5
        have hw130_4 := hx130_4
        have hw130_3 := hx130_3
        have hw130_2 := hx130_2
        have hw130_1 := hx130_1
        have hw130_0 := hx130_0
        cases e130
        replace hx130_0 := zaR HB.out hx130_0
        replace hx130_1 := zaR HB.out hx130_1
        replace hx130_2 := zaR HB.out hx130_2
        replace hx130_3 := zaR HB.out hx130_3
        replace hx130_4 := zaR HB.out hx130_4
        replace hx130_5 := zaR HB.out hx130_5
        replace p130 := eq_true p130
        replace q130 := eq_true q130
        have p131 : 0 ≤ (x5_1 : Int) := of_decide_eq_true (by first | (with_reducible assumption) | assumption)
        have q131 : x5_1 < (l1.length : Int) := of_decide_eq_true (by first | (with_reducible assumption) | assumption)
        obtain ⟨ad131, e131, hx131_0, hx131_1, hx131_2, hx131_3, hx131_4, hx131_5⟩ := zdN HR1.out x5_1 p131 q131
        have hw131_5 := hx131_5
        have hw131_4 := hx131_4
        have hw131_3 := hx131_3
        have hw131_2 := hx131_2
        have hw131_1 := hx131_1
        have hw131_0 := hx131_0
        cases e131
        replace hx131_0 := zaR HB.out hx131_0
        replace hx131_1 := zaR HB.out hx131_1
        replace hx131_2 := zaR HB.out hx131_2
        replace hx131_3 := zaR HB.out hx131_3
        replace hx131_4 := zaR HB.out hx131_4
        replace hx131_5 := zaR HB.out hx131_5
        replace p131 := eq_true p131
        replace q131 := eq_true q131
        refine zdL (n := 10) (S := fun w' => w'.cell? (ad130.add ((x5_1).toNat * 6)) = some (.int .i64 ((zaA l0 x5_1).f0.f0)) ∧ w'.cell? ⟨(ad130.add ((x5_1).toNat * 6)).block, (ad130.add ((x5_1).toNat * 6)).off + 1, none⟩ = some (.int .i64 ((zaA l0 x5_1).f0.f1)) ∧ w'.cell? ⟨(ad130.add ((x5_1).toNat * 6)).block, (ad130.add ((x5_1).toNat * 6)).off + 2, none⟩ = some (.int .i64 ((zaA l0 x5_1).f0.f2)) ∧ w'.cell? ⟨(ad130.add ((x5_1).toNat * 6)).block, (ad130.add ((x5_1).toNat * 6)).off + 3, none⟩ = some (.int .i64 ((zaA l0 x5_1).f1.f0)) ∧ w'.cell? ⟨(ad130.add ((x5_1).toNat * 6)).block, (ad130.add ((x5_1).toNat * 6)).off + 4, none⟩ = some (.int .i64 ((zaA l0 x5_1).f1.f1)) ∧ w'.cell? ⟨(ad130.add ((x5_1).toNat * 6)).block, (ad130.add ((x5_1).toNat * 6)).off + 5, none⟩ = some (.int .i64 ((zaA l0 x5_1).f1.f2)) ∧ w'.cell? (ad131.add ((x5_1).toNat * 6)) = some (.int .i64 ((zaA l1 x5_1).f0.f0)) ∧ w'.cell? ⟨(ad131.add ((x5_1).toNat * 6)).block, (ad131.add ((x5_1).toNat * 6)).off + 1, none⟩ = some (.int .i64 ((zaA l1 x5_1).f0.f1)) ∧ w'.cell? ⟨(ad131.add ((x5_1).toNat * 6)).block, (ad131.add ((x5_1).toNat * 6)).off + 2, none⟩ = some (.int .i64 ((zaA l1 x5_1).f0.f2)) ∧ w'.cell? ⟨(ad131.add ((x5_1).toNat * 6)).block, (ad131.add ((x5_1).toNat * 6)).off + 3, none⟩ = some (.int .i64 ((zaA l1 x5_1).f1.f0)) ∧ w'.cell? ⟨(ad131.add ((x5_1).toNat * 6)).block, (ad131.add ((x5_1).toNat * 6)).off + 4, none⟩ = some (.int .i64 ((zaA l1 x5_1).f1.f1)) ∧ w'.cell? ⟨(ad131.add ((x5_1).toNat * 6)).block, (ad131.add ((x5_1).toNat * 6)).off + 5, none⟩ = some (.int .i64 ((zaA l1 x5_1).f1.f2))) (ds := []) #[false, false, false, false, false, false, false, false, false, false] (by kernel_rfl) rfl rfl ⟨(zaR HB.out hw130_0), (zaR HB.out hw130_1), (zaR HB.out hw130_2), (zaR HB.out hw130_3), (zaR HB.out hw130_4), (zaR HB.out hw130_5), (zaR HB.out hw131_0), (zaR HB.out hw131_1), (zaR HB.out hw131_2), (zaR HB.out hw131_3), (zaR HB.out hw131_4), (zaR HB.out hw131_5)⟩ (fun hHeld => ?_); refine zcN zaZ.tab6 zaZ.bits6 (fun HT_ HW_ => ?_)
        generalize wr.drew = w9 at HB hx130_0 hx130_1 hx130_2 hx130_3 hx130_4 hx130_5 hx131_0 hx131_1 hx131_2 hx131_3 hx131_4 hx131_5 hHeld ⊢
        refine pu_ 0 (some 17) (bl_ 10 1) ?_
        refine pu_ 1 (some 18) (bl_ 10 3) ?_
        refine pu_ 2 (some 19) (bl_ 10 7) ?_
        refine pu_ 4 (some 21) (bl_ 10 23) ?_
        refine pu_ 5 (some 22) (bl_ 10 55) ?_
        refine pu_ 6 (some 23) (bl_ 10 119) ?_
        refine zeJ 3 (some 20) (bl_ 10 127) hHeld ?_
        refine zeJ 7 (some 24) (bl_ 10 255) hHeld ?_
        refine zeK (i := 8) (N := some 25) (bl_ 10 511) rfl rfl (zcK HT_.out (by kernel_rfl)) (by decide) (fun K hK => ?_)
        refine zcY Tryd.func49 (by kernel_rfl) rfl #[.agg #[.int .i64 ((zaA l0 x5_1).f0.f0), .int .i64 ((zaA l0 x5_1).f0.f1), .int .i64 ((zaA l0 x5_1).f0.f2), .int .i64 ((zaA l0 x5_1).f1.f0), .int .i64 ((zaA l0 x5_1).f1.f1), .int .i64 ((zaA l0 x5_1).f1.f2)], .agg #[.int .i64 ((zaA l1 x5_1).f0.f0), .int .i64 ((zaA l1 x5_1).f0.f1), .int .i64 ((zaA l1 x5_1).f0.f2), .int .i64 ((zaA l1 x5_1).f1.f0), .int .i64 ((zaA l1 x5_1).f1.f1), .int .i64 ((zaA l1 x5_1).f1.f2)]] (by rfl) rfl rfl (by (try simp only [List.map_toArray, List.map_cons, List.map_nil]); first | done | rfl | (simp only [List.length_drop, List.length_take]; rfl)) ?_
        with_reducible refine (zeM.calls ((zaA l0 x5_1).f0.f0) ((zaA l0 x5_1).f0.f1) ((zaA l0 x5_1).f0.f2) ((zaA l0 x5_1).f1.f0) ((zaA l0 x5_1).f1.f1) ((zaA l0 x5_1).f1.f2) ((zaA l1 x5_1).f0.f0) ((zaA l1 x5_1).f0.f1) ((zaA l1 x5_1).f0.f2) ((zaA l1 x5_1).f1.f0) ((zaA l1 x5_1).f1.f1) ((zaA l1 x5_1).f1.f2) true _ A7.out).mono ?_
        rintro e w10 ⟨rfl, hb⟩
        refine ⟨_, rfl, ?_⟩
        have n0_ := (ns_ hb)
        clear HB
        have HB := n0_
        clear n0_
        (try clear hb)
        (try clear hb2)
        (try clear hk)
        (try clear hi)
        refine hK.out _ _ ⟨(zaR HB.out hw130_0), (zaR HB.out hw130_1), (zaR HB.out hw130_2), (zaR HB.out hw130_3), (zaR HB.out hw130_4), (zaR HB.out hw130_5), (zaR HB.out hw131_0), (zaR HB.out hw131_1), (zaR HB.out hw131_2), (zaR HB.out hw131_3), (zaR HB.out hw131_4), (zaR HB.out hw131_5)⟩ (fun hHeld => ?_)
        clear hK K
        refine zcX (a' := ?_) ?_ ?_
        rotate_left
        ·show Act.put _ (some 25) _ = _
         simp only [Act.put, List.setIfInBounds_toArray, List.set_cons_zero, List.set_cons_succ, zbW, zbY]
         rfl
        refine pu_ 9 (some 26) (bl_ 10 1023) ?_
        refine zeS (zdD HT_.out (by kernel_rfl)) ?_
        try go_wp2
        go_roundg k1
        case measure => have := HK1.out; omega
        case rel => exact ⟨(wrap64 (x5_1 + 1)), (by first | rfl | (simp; done) | (simp [*]; done)), H', ⟨by have := HK1.out; omega⟩, ⟨bb_⟩⟩
       ·replace c8 := Bool.eq_false_iff.mpr c8
        subst c8
        have H1 : (some false) = some r := by rw [if_neg (show ¬ (false = true) by decide)] at H; exact H
        clear H
        have H := H1
        clear H1
        obtain rfl := Option.some.inj H
        try go_wp2
        have n0_ := zaJ (zbT HB.out)
        clear HB
        have HB := n0_
        clear n0_
        have p130 : 0 ≤ (x5_1 : Int) := of_decide_eq_true (by first | (with_reducible assumption) | assumption)
        have q130 : x5_1 < (l0.length : Int) := of_decide_eq_true (by first | (with_reducible assumption) | assumption)
        obtain ⟨ad130, e130, hx130_0, hx130_1, hx130_2, hx130_3, hx130_4, hx130_5⟩ := zdN HR0.out x5_1 p130 q130
        have hw130_5 := hx130_5
        have hw130_4 := hx130_4
        have hw130_3 := hx130_3
        have hw130_2 := hx130_2
        have hw130_1 := hx130_1
        have hw130_0 := hx130_0
        cases e130
        replace hx130_0 := zaR HB.out hx130_0
        replace hx130_1 := zaR HB.out hx130_1
        replace hx130_2 := zaR HB.out hx130_2
        replace hx130_3 := zaR HB.out hx130_3
        replace hx130_4 := zaR HB.out hx130_4
        replace hx130_5 := zaR HB.out hx130_5
        replace p130 := eq_true p130
        replace q130 := eq_true q130
        have p131 : 0 ≤ (x5_1 : Int) := of_decide_eq_true (by first | (with_reducible assumption) | assumption)
        have q131 : x5_1 < (l1.length : Int) := of_decide_eq_true (by first | (with_reducible assumption) | assumption)
        obtain ⟨ad131, e131, hx131_0, hx131_1, hx131_2, hx131_3, hx131_4, hx131_5⟩ := zdN HR1.out x5_1 p131 q131
        have hw131_5 := hx131_5
        have hw131_4 := hx131_4
        have hw131_3 := hx131_3
        have hw131_2 := hx131_2
        have hw131_1 := hx131_1
        have hw131_0 := hx131_0
        cases e131
        replace hx131_0 := zaR HB.out hx131_0
        replace hx131_1 := zaR HB.out hx131_1
        replace hx131_2 := zaR HB.out hx131_2
        replace hx131_3 := zaR HB.out hx131_3
        replace hx131_4 := zaR HB.out hx131_4
        replace hx131_5 := zaR HB.out hx131_5
        replace p131 := eq_true p131
        replace q131 := eq_true q131
        refine zdL (n := 10) (S := fun w' => w'.cell? (ad130.add ((x5_1).toNat * 6)) = some (.int .i64 ((zaA l0 x5_1).f0.f0)) ∧ w'.cell? ⟨(ad130.add ((x5_1).toNat * 6)).block, (ad130.add ((x5_1).toNat * 6)).off + 1, none⟩ = some (.int .i64 ((zaA l0 x5_1).f0.f1)) ∧ w'.cell? ⟨(ad130.add ((x5_1).toNat * 6)).block, (ad130.add ((x5_1).toNat * 6)).off + 2, none⟩ = some (.int .i64 ((zaA l0 x5_1).f0.f2)) ∧ w'.cell? ⟨(ad130.add ((x5_1).toNat * 6)).block, (ad130.add ((x5_1).toNat * 6)).off + 3, none⟩ = some (.int .i64 ((zaA l0 x5_1).f1.f0)) ∧ w'.cell? ⟨(ad130.add ((x5_1).toNat * 6)).block, (ad130.add ((x5_1).toNat * 6)).off + 4, none⟩ = some (.int .i64 ((zaA l0 x5_1).f1.f1)) ∧ w'.cell? ⟨(ad130.add ((x5_1).toNat * 6)).block, (ad130.add ((x5_1).toNat * 6)).off + 5, none⟩ = some (.int .i64 ((zaA l0 x5_1).f1.f2)) ∧ w'.cell? (ad131.add ((x5_1).toNat * 6)) = some (.int .i64 ((zaA l1 x5_1).f0.f0)) ∧ w'.cell? ⟨(ad131.add ((x5_1).toNat * 6)).block, (ad131.add ((x5_1).toNat * 6)).off + 1, none⟩ = some (.int .i64 ((zaA l1 x5_1).f0.f1)) ∧ w'.cell? ⟨(ad131.add ((x5_1).toNat * 6)).block, (ad131.add ((x5_1).toNat * 6)).off + 2, none⟩ = some (.int .i64 ((zaA l1 x5_1).f0.f2)) ∧ w'.cell? ⟨(ad131.add ((x5_1).toNat * 6)).block, (ad131.add ((x5_1).toNat * 6)).off + 3, none⟩ = some (.int .i64 ((zaA l1 x5_1).f1.f0)) ∧ w'.cell? ⟨(ad131.add ((x5_1).toNat * 6)).block, (ad131.add ((x5_1).toNat * 6)).off + 4, none⟩ = some (.int .i64 ((zaA l1 x5_1).f1.f1)) ∧ w'.cell? ⟨(ad131.add ((x5_1).toNat * 6)).block, (ad131.add ((x5_1).toNat * 6)).off + 5, none⟩ = some (.int .i64 ((zaA l1 x5_1).f1.f2))) (ds := []) #[false, false, false, false, false, false, false, false, false, false] (by kernel_rfl) rfl rfl ⟨(zaR HB.out hw130_0), (zaR HB.out hw130_1), (zaR HB.out hw130_2), (zaR HB.out hw130_3), (zaR HB.out hw130_4), (zaR HB.out hw130_5), (zaR HB.out hw131_0), (zaR HB.out hw131_1), (zaR HB.out hw131_2), (zaR HB.out hw131_3), (zaR HB.out hw131_4), (zaR HB.out hw131_5)⟩ (fun hHeld => ?_); refine zcN zaZ.tab6 zaZ.bits6 (fun HT_ HW_ => ?_)
        generalize wr.drew = w11 at HB hx130_0 hx130_1 hx130_2 hx130_3 hx130_4 hx130_5 hx131_0 hx131_1 hx131_2 hx131_3 hx131_4 hx131_5 hHeld ⊢
        refine pu_ 0 (some 17) (bl_ 10 1) ?_
        refine pu_ 1 (some 18) (bl_ 10 3) ?_
        refine pu_ 2 (some 19) (bl_ 10 7) ?_
        refine pu_ 4 (some 21) (bl_ 10 23) ?_
        refine pu_ 5 (some 22) (bl_ 10 55) ?_
        refine pu_ 6 (some 23) (bl_ 10 119) ?_
        refine zeJ 3 (some 20) (bl_ 10 127) hHeld ?_
        refine zeJ 7 (some 24) (bl_ 10 255) hHeld ?_
        refine zeK (i := 8) (N := some 25) (bl_ 10 511) rfl rfl (zcK HT_.out (by kernel_rfl)) (by decide) (fun K hK => ?_)
        refine zcY Tryd.func49 (by kernel_rfl) rfl #[.agg #[.int .i64 ((zaA l0 x5_1).f0.f0), .int .i64 ((zaA l0 x5_1).f0.f1), .int .i64 ((zaA l0 x5_1).f0.f2), .int .i64 ((zaA l0 x5_1).f1.f0), .int .i64 ((zaA l0 x5_1).f1.f1), .int .i64 ((zaA l0 x5_1).f1.f2)], .agg #[.int .i64 ((zaA l1 x5_1).f0.f0), .int .i64 ((zaA l1 x5_1).f0.f1), .int .i64 ((zaA l1 x5_1).f0.f2), .int .i64 ((zaA l1 x5_1).f1.f0), .int .i64 ((zaA l1 x5_1).f1.f1), .int .i64 ((zaA l1 x5_1).f1.f2)]] (by rfl) rfl rfl (by (try simp only [List.map_toArray, List.map_cons, List.map_nil]); first | done | rfl | (simp only [List.length_drop, List.length_take]; rfl)) ?_
        with_reducible refine (zeM.calls ((zaA l0 x5_1).f0.f0) ((zaA l0 x5_1).f0.f1) ((zaA l0 x5_1).f0.f2) ((zaA l0 x5_1).f1.f0) ((zaA l0 x5_1).f1.f1) ((zaA l0 x5_1).f1.f2) ((zaA l1 x5_1).f0.f0) ((zaA l1 x5_1).f0.f1) ((zaA l1 x5_1).f0.f2) ((zaA l1 x5_1).f1.f0) ((zaA l1 x5_1).f1.f1) ((zaA l1 x5_1).f1.f2) false _ A7.out).mono ?_
        rintro e w12 ⟨rfl, hb⟩
        refine ⟨_, rfl, ?_⟩
        have n0_ := (ns_ hb)
        clear HB
        have HB := n0_
        clear n0_
        (try clear hb)
        (try clear hb2)
        (try clear hk)
        (try clear hi)
        refine hK.out _ _ ⟨(zaR HB.out hw130_0), (zaR HB.out hw130_1), (zaR HB.out hw130_2), (zaR HB.out hw130_3), (zaR HB.out hw130_4), (zaR HB.out hw130_5), (zaR HB.out hw131_0), (zaR HB.out hw131_1), (zaR HB.out hw131_2), (zaR HB.out hw131_3), (zaR HB.out hw131_4), (zaR HB.out hw131_5)⟩ (fun hHeld => ?_)
        clear hK K
        refine zcX (a' := ?_) ?_ ?_
        rotate_left
        ·show Act.put _ (some 25) _ = _
         simp only [Act.put, List.setIfInBounds_toArray, List.set_cons_zero, List.set_cons_succ, zbW, zbY]
         rfl
        refine pu_ 9 (some 26) (bl_ 10 1023) ?_
        refine zeS (zdD HT_.out (by kernel_rfl)) ?_
        try go_wp2
        go_ret
        exact ⟨by first | rfl | (simp [zaI, zaH] <;> rfl) | (simp [*, zaI, zaH] <;> rfl), bb_⟩
      ·rw [if_neg c6] at H
       exact absurd H (by simp)
     ·rw [if_neg c5] at H
      exact absurd H (by simp)
    ·rw [if_neg c4] at H
     have c4b0 : decide (x5_1 < (l0.length : Int)) = false := decide_eq_false c4
     clear c4
     obtain rfl := Option.some.inj H
     go_wp2
     go_ret
     exact ⟨by first | rfl | (simp [zaI, zaH] <;> rfl) | (simp [*, zaI, zaH] <;> rfl), bb_⟩
 ·rw [if_neg c3] at H
  have c3b0 : ((l0.length : Int) == (l1.length : Int)) = false := beq_eq_false_iff_ne.mpr c3
  have c3b1 : ((l0.length : Int) != (l1.length : Int)) = true := bne_iff_ne.mpr c3
  have c3b2 : (l0.length == l1.length) = false := by first | simpa using c3 | (simp at c3 ⊢; omega)
  obtain rfl := Option.some.inj H
  go_enter Tryd.func18, Tryd.ntmps18
  go_wp2
  go_ret
  exact ⟨by first | rfl | (simp [zaI, zaH] <;> rfl) | (simp [*, zaI, zaH] <;> rfl), bb_⟩

def zbX.f (a0 : Int) (a1 : Int) (a2 : Int) : Option (Bool) := if a0 ≥ a1 then (some (decide (a0 ≤ a2))) else (some false)
set_option maxHeartbeats 8000000 in
set_option maxRecDepth 100000 in
theorem zbX.calls (a0 : Int) (a1 : Int) (a2 : Int) (r : Bool) (w : World) (h : zbX.f a0 a1 a2 = some r) :
  Calls Tryd.prog 95 #[.int .i64 a0, .int .i64 a1, .int .i64 a2] w fun e w' => e = .returned (.bool r) ∧ Drawn0 w w' := by
 have H : (if a0 ≥ a1 then (some (decide (a0 ≤ a2))) else (some false)) = some r := h
 clear h
 by_cases c4 : a0 ≥ a1
 ·rw [if_pos c4] at H
  have c4b0 : decide (a1 ≤ a0) = true := decide_eq_true c4
  clear c4
  obtain rfl := Option.some.inj H
  go_enter Tryd.func95, Tryd.ntmps95
  go_wp2
  go_ret
  exact ⟨by first | rfl | (simp; done) | (simp [*]; done), by repeat (first | exact Drawn0.refl _ | apply Drawn0.step)⟩
 ·rw [if_neg c4] at H
  have c4b0 : decide (a1 ≤ a0) = false := decide_eq_false c4
  clear c4
  obtain rfl := Option.some.inj H
  go_enter Tryd.func95, Tryd.ntmps95
  go_wp2
  go_ret
  exact ⟨by first | rfl | (simp; done) | (simp [*]; done), by repeat (first | exact Drawn0.refl _ | apply Drawn0.step)⟩

def zdR.f (a0_0 : Int) (a0_1 : Int) (a0_2 : Int) : Option (Bool) := (zbX.f a0_0 (-131072) 131072).bind fun t134 => (if t134 = true then ((zbX.f a0_1 (-131072) 131072).bind fun t135 => (if t135 = true then ((zbX.f a0_2 0 10).bind fun t136 => (if t136 = true then (if a0_2 = 0 then (some true) else (if (Int.tmod a0_0 2) = 0 then (some ((Int.tmod a0_1 2) != 0)) else (some true))) else (some false))) else (some false))) else (some false))
set_option maxHeartbeats 8000000 in
set_option maxRecDepth 100000 in
theorem zdR.calls (a0_0 : Int) (a0_1 : Int) (a0_2 : Int) (r : Bool) (w : World) (h : zdR.f a0_0 a0_1 a0_2 = some r) :
  Calls Tryd.prog 109 #[.agg #[.int .i64 a0_0, .int .i64 a0_1, .int .i64 a0_2]] w fun e w' => e = .returned (.bool r) ∧ Below w.heap.size w w' := by
 have hu34 := Tryd.underlying34
 have HB := zaJ (Below.refl w.heap.size w)
 have H : ((zbX.f a0_0 (-131072) 131072).bind fun t134 => (if t134 = true then ((zbX.f a0_1 (-131072) 131072).bind fun t135 => (if t135 = true then ((zbX.f a0_2 0 10).bind fun t136 => (if t136 = true then (if a0_2 = 0 then (some true) else (if (Int.tmod a0_0 2) = 0 then (some ((Int.tmod a0_1 2) != 0)) else (some true))) else (some false))) else (some false))) else (some false))) = some r := h
 clear h
 replace H := Option.bind_eq_some_iff.mp H
 obtain ⟨t134, A20, H⟩ := H
 replace H : (if t134 = true then ((zbX.f a0_1 (-131072) 131072).bind fun t135 => (if t135 = true then ((zbX.f a0_2 0 10).bind fun t136 => (if t136 = true then (if a0_2 = 0 then (some true) else (if (Int.tmod a0_0 2) = 0 then (some ((Int.tmod a0_1 2) != 0)) else (some true))) else (some false))) else (some false))) else (some false)) = some r := H
 have A2 := zaJ A20
 clear A20
 by_cases c3 : t134 = true
 ·subst c3
  have H1 : ((zbX.f a0_1 (-131072) 131072).bind fun t135 => (if t135 = true then ((zbX.f a0_2 0 10).bind fun t136 => (if t136 = true then (if a0_2 = 0 then (some true) else (if (Int.tmod a0_0 2) = 0 then (some ((Int.tmod a0_1 2) != 0)) else (some true))) else (some false))) else (some false))) = some r := by rw [if_pos rfl] at H; exact H
  clear H
  have H := H1
  clear H1
  replace H := Option.bind_eq_some_iff.mp H
  obtain ⟨t135, A40, H⟩ := H
  replace H : (if t135 = true then ((zbX.f a0_2 0 10).bind fun t136 => (if t136 = true then (if a0_2 = 0 then (some true) else (if (Int.tmod a0_0 2) = 0 then (some ((Int.tmod a0_1 2) != 0)) else (some true))) else (some false))) else (some false)) = some r := H
  have A4 := zaJ A40
  clear A40
  by_cases c5 : t135 = true
  ·subst c5
   have H1 : ((zbX.f a0_2 0 10).bind fun t136 => (if t136 = true then (if a0_2 = 0 then (some true) else (if (Int.tmod a0_0 2) = 0 then (some ((Int.tmod a0_1 2) != 0)) else (some true))) else (some false))) = some r := by rw [if_pos rfl] at H; exact H
   clear H
   have H := H1
   clear H1
   replace H := Option.bind_eq_some_iff.mp H
   obtain ⟨t136, A60, H⟩ := H
   replace H : (if t136 = true then (if a0_2 = 0 then (some true) else (if (Int.tmod a0_0 2) = 0 then (some ((Int.tmod a0_1 2) != 0)) else (some true))) else (some false)) = some r := H
   have A6 := zaJ A60
   clear A60
   by_cases c7 : t136 = true
   ·subst c7
    have H1 : (if a0_2 = 0 then (some true) else (if (Int.tmod a0_0 2) = 0 then (some ((Int.tmod a0_1 2) != 0)) else (some true))) = some r := by rw [if_pos rfl] at H; exact H
    clear H
    have H := H1
    clear H1
    by_cases c8 : a0_2 = 0
    ·rw [if_pos c8] at H
     have c8b0 : (a0_2 == 0) = true := beq_iff_eq.mpr c8
     have c8b1 : (a0_2 != 0) = false := bne_eq_false_iff_eq.mpr c8
     clear c8
     obtain rfl := Option.some.inj H
     go_enter Tryd.func109, Tryd.ntmps109
     go_wp2_with (first | ((with_reducible refine zaQ (N := 1) rfl ?_); refine bx_ 1 #[.int .i64 a0_0, .int .i64 a0_1, .int .i64 a0_2] 34 ?_; intro gb133 hg w9 hbox hb; have n0_ := (ns_ hb); have n1_ := zaJ (hbox); have n2_ := (ng_ hg); have n3_ := n2_; clear HB; have HB := n0_; have BK133 := n1_; have GW133 := n2_; have GE133 := n3_; clear n0_ n1_ n2_ n3_; clear hb hbox hg; obtain ⟨hcz10_0, hcz10_1, hcz10_2⟩ := zeI BK133.out; obtain ⟨hfz10_0, hfz10_1, hfz10_2⟩ := zeH BK133.out) | ((with_reducible refine zaK (f := 95) rfl ?_); refine zbQ (some 5) rfl rfl Tryd.func95 (by kernel_rfl) rfl #[.int .i64 a0_0, .int .i64 (-131072), .int .i64 131072] rfl (by (try simp only [List.map_toArray, List.map_cons, List.map_nil]); first | done | rfl | (simp only [List.length_drop, List.length_take]; rfl)) ?_; (with_reducible refine (zbX.calls a0_0 (-131072) 131072 true _ A2.out).mono ?_); rintro e w' ⟨rfl, ⟨nd, rfl⟩⟩; refine ⟨_, rfl, ?_⟩) | (go_at_call 95; (with_reducible refine (zbX.calls a0_1 (-131072) 131072 true _ A4.out).mono ?_); rintro e w' ⟨rfl, ⟨nd, rfl⟩⟩) | (go_at_call 95; (with_reducible refine (zbX.calls a0_2 0 10 true _ A6.out).mono ?_); rintro e w' ⟨rfl, ⟨nd, rfl⟩⟩))
     go_ret
     exact ⟨by first | rfl | (simp [zaI, zaH] <;> rfl) | (simp [*, zaI, zaH] <;> rfl), bb_⟩
    ·rw [if_neg c8] at H
     have c8b0 : (a0_2 == 0) = false := beq_eq_false_iff_ne.mpr c8
     have c8b1 : (a0_2 != 0) = true := bne_iff_ne.mpr c8
     by_cases c11 : (Int.tmod a0_0 2) = 0
     ·rw [if_pos c11] at H
      have c11b0 : ((Int.tmod a0_0 2) == 0) = true := beq_iff_eq.mpr c11
      have c11b1 : ((Int.tmod a0_0 2) != 0) = false := bne_eq_false_iff_eq.mpr c11
      clear c11
      obtain rfl := Option.some.inj H
      go_enter Tryd.func109, Tryd.ntmps109
      go_wp2_with (first | ((with_reducible refine zaQ (N := 1) rfl ?_); refine bx_ 1 #[.int .i64 a0_0, .int .i64 a0_1, .int .i64 a0_2] 34 ?_; intro gb133 hg w12 hbox hb; have n0_ := (ns_ hb); have n1_ := zaJ (hbox); have n2_ := (ng_ hg); have n3_ := n2_; clear HB; have HB := n0_; have BK133 := n1_; have GW133 := n2_; have GE133 := n3_; clear n0_ n1_ n2_ n3_; clear hb hbox hg; obtain ⟨hcz13_0, hcz13_1, hcz13_2⟩ := zeI BK133.out; obtain ⟨hfz13_0, hfz13_1, hfz13_2⟩ := zeH BK133.out) | ((with_reducible refine zaK (f := 95) rfl ?_); refine zbQ (some 5) rfl rfl Tryd.func95 (by kernel_rfl) rfl #[.int .i64 a0_0, .int .i64 (-131072), .int .i64 131072] rfl (by (try simp only [List.map_toArray, List.map_cons, List.map_nil]); first | done | rfl | (simp only [List.length_drop, List.length_take]; rfl)) ?_; (with_reducible refine (zbX.calls a0_0 (-131072) 131072 true _ A2.out).mono ?_); rintro e w' ⟨rfl, ⟨nd, rfl⟩⟩; refine ⟨_, rfl, ?_⟩) | (go_at_call 95; (with_reducible refine (zbX.calls a0_1 (-131072) 131072 true _ A4.out).mono ?_); rintro e w' ⟨rfl, ⟨nd, rfl⟩⟩) | (go_at_call 95; (with_reducible refine (zbX.calls a0_2 0 10 true _ A6.out).mono ?_); rintro e w' ⟨rfl, ⟨nd, rfl⟩⟩))
      go_ret
      exact ⟨by first | rfl | (simp [zaI, zaH] <;> rfl) | (simp [*, zaI, zaH] <;> rfl), bb_⟩
     ·rw [if_neg c11] at H
      have c11b0 : ((Int.tmod a0_0 2) == 0) = false := beq_eq_false_iff_ne.mpr c11
      have c11b1 : ((Int.tmod a0_0 2) != 0) = true := bne_iff_ne.mpr c11
      obtain rfl := Option.some.inj H
      go_enter Tryd.func109, Tryd.ntmps109
      go_wp2_with (first | ((with_reducible refine zaQ (N := 1) rfl ?_); refine bx_ 1 #[.int .i64 a0_0, .int .i64 a0_1, .int .i64 a0_2] 34 ?_; intro gb133 hg w14 hbox hb; have n0_ := (ns_ hb); have n1_ := zaJ (hbox); have n2_ := (ng_ hg); have n3_ := n2_; clear HB; have HB := n0_; have BK133 := n1_; have GW133 := n2_; have GE133 := n3_; clear n0_ n1_ n2_ n3_; clear hb hbox hg; obtain ⟨hcz15_0, hcz15_1, hcz15_2⟩ := zeI BK133.out; obtain ⟨hfz15_0, hfz15_1, hfz15_2⟩ := zeH BK133.out) | ((with_reducible refine zaK (f := 95) rfl ?_); refine zbQ (some 5) rfl rfl Tryd.func95 (by kernel_rfl) rfl #[.int .i64 a0_0, .int .i64 (-131072), .int .i64 131072] rfl (by (try simp only [List.map_toArray, List.map_cons, List.map_nil]); first | done | rfl | (simp only [List.length_drop, List.length_take]; rfl)) ?_; (with_reducible refine (zbX.calls a0_0 (-131072) 131072 true _ A2.out).mono ?_); rintro e w' ⟨rfl, ⟨nd, rfl⟩⟩; refine ⟨_, rfl, ?_⟩) | (go_at_call 95; (with_reducible refine (zbX.calls a0_1 (-131072) 131072 true _ A4.out).mono ?_); rintro e w' ⟨rfl, ⟨nd, rfl⟩⟩) | (go_at_call 95; (with_reducible refine (zbX.calls a0_2 0 10 true _ A6.out).mono ?_); rintro e w' ⟨rfl, ⟨nd, rfl⟩⟩))
      go_ret
      exact ⟨by first | rfl | (simp [zaI, zaH] <;> rfl) | (simp [*, zaI, zaH] <;> rfl), bb_⟩
   ·replace c7 := Bool.eq_false_iff.mpr c7
    subst c7
    have H1 : (some false) = some r := by rw [if_neg (show ¬ (false = true) by decide)] at H; exact H
    clear H
    have H := H1
    clear H1
    obtain rfl := Option.some.inj H
    go_enter Tryd.func109, Tryd.ntmps109
    go_wp2_with (first | ((with_reducible refine zaQ (N := 1) rfl ?_); refine bx_ 1 #[.int .i64 a0_0, .int .i64 a0_1, .int .i64 a0_2] 34 ?_; intro gb133 hg w16 hbox hb; have n0_ := (ns_ hb); have n1_ := zaJ (hbox); have n2_ := (ng_ hg); have n3_ := n2_; clear HB; have HB := n0_; have BK133 := n1_; have GW133 := n2_; have GE133 := n3_; clear n0_ n1_ n2_ n3_; clear hb hbox hg; obtain ⟨hcz17_0, hcz17_1, hcz17_2⟩ := zeI BK133.out; obtain ⟨hfz17_0, hfz17_1, hfz17_2⟩ := zeH BK133.out) | ((with_reducible refine zaK (f := 95) rfl ?_); refine zbQ (some 5) rfl rfl Tryd.func95 (by kernel_rfl) rfl #[.int .i64 a0_0, .int .i64 (-131072), .int .i64 131072] rfl (by (try simp only [List.map_toArray, List.map_cons, List.map_nil]); first | done | rfl | (simp only [List.length_drop, List.length_take]; rfl)) ?_; (with_reducible refine (zbX.calls a0_0 (-131072) 131072 true _ A2.out).mono ?_); rintro e w' ⟨rfl, ⟨nd, rfl⟩⟩; refine ⟨_, rfl, ?_⟩) | (go_at_call 95; (with_reducible refine (zbX.calls a0_1 (-131072) 131072 true _ A4.out).mono ?_); rintro e w' ⟨rfl, ⟨nd, rfl⟩⟩) | (go_at_call 95; (with_reducible refine (zbX.calls a0_2 0 10 false _ A6.out).mono ?_); rintro e w' ⟨rfl, ⟨nd, rfl⟩⟩))
    go_ret
    exact ⟨by first | rfl | (simp [zaI, zaH] <;> rfl) | (simp [*, zaI, zaH] <;> rfl), bb_⟩
  ·replace c5 := Bool.eq_false_iff.mpr c5
   subst c5
   have H1 : (some false) = some r := by rw [if_neg (show ¬ (false = true) by decide)] at H; exact H
   clear H
   have H := H1
   clear H1
   obtain rfl := Option.some.inj H
   go_enter Tryd.func109, Tryd.ntmps109
   go_wp2_with (first | ((with_reducible refine zaQ (N := 1) rfl ?_); refine bx_ 1 #[.int .i64 a0_0, .int .i64 a0_1, .int .i64 a0_2] 34 ?_; intro gb133 hg w18 hbox hb; have n0_ := (ns_ hb); have n1_ := zaJ (hbox); have n2_ := (ng_ hg); have n3_ := n2_; clear HB; have HB := n0_; have BK133 := n1_; have GW133 := n2_; have GE133 := n3_; clear n0_ n1_ n2_ n3_; clear hb hbox hg; obtain ⟨hcz19_0, hcz19_1, hcz19_2⟩ := zeI BK133.out; obtain ⟨hfz19_0, hfz19_1, hfz19_2⟩ := zeH BK133.out) | ((with_reducible refine zaK (f := 95) rfl ?_); refine zbQ (some 5) rfl rfl Tryd.func95 (by kernel_rfl) rfl #[.int .i64 a0_0, .int .i64 (-131072), .int .i64 131072] rfl (by (try simp only [List.map_toArray, List.map_cons, List.map_nil]); first | done | rfl | (simp only [List.length_drop, List.length_take]; rfl)) ?_; (with_reducible refine (zbX.calls a0_0 (-131072) 131072 true _ A2.out).mono ?_); rintro e w' ⟨rfl, ⟨nd, rfl⟩⟩; refine ⟨_, rfl, ?_⟩) | (go_at_call 95; (with_reducible refine (zbX.calls a0_1 (-131072) 131072 false _ A4.out).mono ?_); rintro e w' ⟨rfl, ⟨nd, rfl⟩⟩))
   go_ret
   exact ⟨by first | rfl | (simp [zaI, zaH] <;> rfl) | (simp [*, zaI, zaH] <;> rfl), bb_⟩
 ·replace c3 := Bool.eq_false_iff.mpr c3
  subst c3
  have H1 : (some false) = some r := by rw [if_neg (show ¬ (false = true) by decide)] at H; exact H
  clear H
  have H := H1
  clear H1
  obtain rfl := Option.some.inj H
  go_enter Tryd.func109, Tryd.ntmps109
  go_wp2_with (first | ((with_reducible refine zaQ (N := 1) rfl ?_); refine bx_ 1 #[.int .i64 a0_0, .int .i64 a0_1, .int .i64 a0_2] 34 ?_; intro gb133 hg w20 hbox hb; have n0_ := (ns_ hb); have n1_ := zaJ (hbox); have n2_ := (ng_ hg); have n3_ := n2_; clear HB; have HB := n0_; have BK133 := n1_; have GW133 := n2_; have GE133 := n3_; clear n0_ n1_ n2_ n3_; clear hb hbox hg; obtain ⟨hcz21_0, hcz21_1, hcz21_2⟩ := zeI BK133.out; obtain ⟨hfz21_0, hfz21_1, hfz21_2⟩ := zeH BK133.out) | ((with_reducible refine zaK (f := 95) rfl ?_); refine zbQ (some 5) rfl rfl Tryd.func95 (by kernel_rfl) rfl #[.int .i64 a0_0, .int .i64 (-131072), .int .i64 131072] rfl (by (try simp only [List.map_toArray, List.map_cons, List.map_nil]); first | done | rfl | (simp only [List.length_drop, List.length_take]; rfl)) ?_; (with_reducible refine (zbX.calls a0_0 (-131072) 131072 false _ A2.out).mono ?_); rintro e w' ⟨rfl, ⟨nd, rfl⟩⟩; refine ⟨_, rfl, ?_⟩))
  go_ret
  exact ⟨by first | rfl | (simp [zaI, zaH] <;> rfl) | (simp [*, zaI, zaH] <;> rfl), bb_⟩

end Go.Proofs.YtmajpmofeddknaaDoor.PFnExactInPolygon
