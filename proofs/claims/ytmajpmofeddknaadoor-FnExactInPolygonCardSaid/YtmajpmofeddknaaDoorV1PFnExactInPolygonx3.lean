-- Printed for this claim by this session's program pp.py, which drives the kit's print with additions. Not trusted: Lean checks it.
import Derived.Test.YtmajpmofeddknaaDoorV1PFnExactInPolygonx0
import Derived.Test.YtmajpmofeddknaaDoorV1PFnExactInPolygonx2
namespace Go.Proofs.YtmajpmofeddknaaDoor.PFnExactInPolygon
open Go.RowKit Go.Proofs.YtmajpmofeddknaaDoorW.PrintWords Go.Proofs.YtmajpmofeddknaaDoorW.PrintLast Go.Proofs.YtmajpmofeddknaaDoorW.PrintMore
attribute [local go_sem] zeE zdX zeQ zeO zdK zdI zeA zeC   -- for this text's walks alone
set_option linter.unusedVariables false
set_option linter.unusedSimpArgs false

def zcT.f (a0_0 : Int) (a0_1 : Int) (a0_2 : Int) (a0_3 : Int) (a0_4 : Int) (a0_5 : Int) : Option (Bool) := (zdR.f a0_0 a0_1 a0_2).bind fun t138 => (if t138 = true then ((zdR.f a0_3 a0_4 a0_5).bind fun t139 => (some t139)) else (some false))
set_option maxHeartbeats 8000000 in
set_option maxRecDepth 100000 in
theorem zcT.calls (a0_0 : Int) (a0_1 : Int) (a0_2 : Int) (a0_3 : Int) (a0_4 : Int) (a0_5 : Int) (r : Bool) (w : World) (h : zcT.f a0_0 a0_1 a0_2 a0_3 a0_4 a0_5 = some r) :
  Calls Tryd.prog 59 #[.agg #[.int .i64 a0_0, .int .i64 a0_1, .int .i64 a0_2, .int .i64 a0_3, .int .i64 a0_4, .int .i64 a0_5]] w fun e w' => e = .returned (.bool r) ∧ Below w.heap.size w w' := by
 have hu36 := Tryd.underlying36
 have hu34 := Tryd.underlying34
 have HB := zaJ (Below.refl w.heap.size w)
 have H : ((zdR.f a0_0 a0_1 a0_2).bind fun t138 => (if t138 = true then ((zdR.f a0_3 a0_4 a0_5).bind fun t139 => (some t139)) else (some false))) = some r := h
 clear h
 replace H := Option.bind_eq_some_iff.mp H
 obtain ⟨t138, A20, H⟩ := H
 replace H : (if t138 = true then ((zdR.f a0_3 a0_4 a0_5).bind fun t139 => (some t139)) else (some false)) = some r := H
 have A2 := zaJ A20
 clear A20
 by_cases c3 : t138 = true
 ·subst c3
  have H1 : ((zdR.f a0_3 a0_4 a0_5).bind fun t139 => (some t139)) = some r := by rw [if_pos rfl] at H; exact H
  clear H
  have H := H1
  clear H1
  replace H := Option.bind_eq_some_iff.mp H
  obtain ⟨t139, A40, H⟩ := H
  replace H : (some t139) = some r := H
  have A4 := zaJ A40
  clear A40
  obtain rfl := Option.some.inj H
  go_enter Tryd.func59, Tryd.ntmps59
  go_wp2_with (first | ((with_reducible refine zaQ (N := 1) rfl ?_); refine bx_ 1 #[.int .i64 a0_0, .int .i64 a0_1, .int .i64 a0_2, .int .i64 a0_3, .int .i64 a0_4, .int .i64 a0_5] 36 ?_; intro gb137 hg w5 hbox hb; have n0_ := (ns_ hb); have n1_ := zaJ (hbox); have n2_ := (ng_ hg); have n3_ := n2_; clear HB; have HB := n0_; have BK137 := n1_; have GW137 := n2_; have GE137 := n3_; clear n0_ n1_ n2_ n3_; clear hb hbox hg; obtain ⟨hcz6_0, hcz6_1, hcz6_2, hcz6_3, hcz6_4, hcz6_5⟩ := zeX BK137.out; obtain ⟨hfz6_0, hfz6_1, hfz6_2, hfz6_3, hfz6_4, hfz6_5⟩ := zeW BK137.out) | ((with_reducible refine zaK (f := 109) rfl ?_); refine zbQ (some 5) rfl rfl Tryd.func109 (by kernel_rfl) rfl #[.agg #[.int .i64 a0_0, .int .i64 a0_1, .int .i64 a0_2]] rfl (by (try simp only [List.map_toArray, List.map_cons, List.map_nil]); first | done | rfl | (simp only [List.length_drop, List.length_take]; rfl)) ?_; (with_reducible refine (zdR.calls a0_0 a0_1 a0_2 true _ A2.out).mono ?_); rintro e w7 ⟨rfl, hb⟩; refine ⟨_, rfl, ?_⟩; have n0_ := zaJ (zaG (g := gb137) (o := .cells #[.int .i64 a0_0, .int .i64 a0_1, .int .i64 a0_2, .int .i64 a0_3, .int .i64 a0_4, .int .i64 a0_5] 36 (0, 0)) bk_ hb); have n1_ := (ns_ hb); clear BK137; clear HB; have BK137 := n0_; have HB := n1_; clear n0_ n1_; (try clear hb); (try clear hb2); obtain ⟨hcz8_0, hcz8_1, hcz8_2, hcz8_3, hcz8_4, hcz8_5⟩ := zeX BK137.out; obtain ⟨hfz8_0, hfz8_1, hfz8_2, hfz8_3, hfz8_4, hfz8_5⟩ := zeW BK137.out) | (go_at_call 109; (with_reducible refine (zdR.calls a0_3 a0_4 a0_5 t139 _ A4.out).mono ?_); rintro e w9 ⟨rfl, hb⟩; have n0_ := zaJ (zaG (g := gb137) (o := .cells #[.int .i64 a0_0, .int .i64 a0_1, .int .i64 a0_2, .int .i64 a0_3, .int .i64 a0_4, .int .i64 a0_5] 36 (0, 0)) bk_ hb); have n1_ := (ns_ hb); clear BK137; clear HB; have BK137 := n0_; have HB := n1_; clear n0_ n1_; (try clear hb); (try clear hb2)))
  go_ret
  exact ⟨by first | rfl | (simp [zaI, zaH] <;> rfl) | (simp [*, zaI, zaH] <;> rfl), bb_⟩
 ·replace c3 := Bool.eq_false_iff.mpr c3
  subst c3
  have H1 : (some false) = some r := by rw [if_neg (show ¬ (false = true) by decide)] at H; exact H
  clear H
  have H := H1
  clear H1
  obtain rfl := Option.some.inj H
  go_enter Tryd.func59, Tryd.ntmps59
  go_wp2_with (first | ((with_reducible refine zaQ (N := 1) rfl ?_); refine bx_ 1 #[.int .i64 a0_0, .int .i64 a0_1, .int .i64 a0_2, .int .i64 a0_3, .int .i64 a0_4, .int .i64 a0_5] 36 ?_; intro gb137 hg w10 hbox hb; have n0_ := (ns_ hb); have n1_ := zaJ (hbox); have n2_ := (ng_ hg); have n3_ := n2_; clear HB; have HB := n0_; have BK137 := n1_; have GW137 := n2_; have GE137 := n3_; clear n0_ n1_ n2_ n3_; clear hb hbox hg; obtain ⟨hcz11_0, hcz11_1, hcz11_2, hcz11_3, hcz11_4, hcz11_5⟩ := zeX BK137.out; obtain ⟨hfz11_0, hfz11_1, hfz11_2, hfz11_3, hfz11_4, hfz11_5⟩ := zeW BK137.out) | ((with_reducible refine zaK (f := 109) rfl ?_); refine zbQ (some 5) rfl rfl Tryd.func109 (by kernel_rfl) rfl #[.agg #[.int .i64 a0_0, .int .i64 a0_1, .int .i64 a0_2]] rfl (by (try simp only [List.map_toArray, List.map_cons, List.map_nil]); first | done | rfl | (simp only [List.length_drop, List.length_take]; rfl)) ?_; (with_reducible refine (zdR.calls a0_0 a0_1 a0_2 false _ A2.out).mono ?_); rintro e w12 ⟨rfl, hb⟩; refine ⟨_, rfl, ?_⟩; have n0_ := zaJ (zaG (g := gb137) (o := .cells #[.int .i64 a0_0, .int .i64 a0_1, .int .i64 a0_2, .int .i64 a0_3, .int .i64 a0_4, .int .i64 a0_5] 36 (0, 0)) bk_ hb); have n1_ := (ns_ hb); clear BK137; clear HB; have BK137 := n0_; have HB := n1_; clear n0_ n1_; (try clear hb); (try clear hb2)))
  go_ret
  exact ⟨by first | rfl | (simp [zaI, zaH] <;> rfl) | (simp [*, zaI, zaH] <;> rfl), bb_⟩

def zcZ.f (a0_0 : Int) (a0_1 : Int) (a0_2 : Int) : Option (Int × Int × Int) := some (a0_0, a0_1, a0_2)
set_option maxHeartbeats 8000000 in
set_option maxRecDepth 100000 in
theorem zcZ.calls (a0_0 : Int) (a0_1 : Int) (a0_2 : Int) (r1 : Int) (r2 : Int) (r3 : Int) (w : World) (h : zcZ.f a0_0 a0_1 a0_2 = some (r1, r2, r3)) :
  Calls Tryd.prog 114 #[.agg #[.int .i64 a0_0, .int .i64 a0_1, .int .i64 a0_2]] w fun e w' => e = .returned (.agg #[.int .i64 r1, .int .i64 r2, .int .i64 r3]) ∧ Below w.heap.size w w' := by
 have hu34 := Tryd.underlying34
 have hu92 := Tryd.underlying92
 have HB := zaJ (Below.refl w.heap.size w)
 have H : (some (a0_0, a0_1, a0_2)) = some (r1, r2, r3) := h
 clear h
 simp only [Option.some.injEq, Prod.mk.injEq] at H
 obtain ⟨rfl, rfl, rfl⟩ := H
 go_enter Tryd.func114, Tryd.ntmps114
 go_wp2_with (first | ((with_reducible refine zaQ (N := 1) rfl ?_); refine bx_ 1 #[.int .i64 a0_0, .int .i64 a0_1, .int .i64 a0_2] 34 ?_; intro gb140 hg w2 hbox hb; have n0_ := (ns_ hb); have n1_ := zaJ (hbox); have n2_ := (ng_ hg); have n3_ := n2_; clear HB; have HB := n0_; have BK140 := n1_; have GW140 := n2_; have GE140 := n3_; clear n0_ n1_ n2_ n3_; clear hb hbox hg) | ((with_reducible refine zaQ (N := 2) rfl ?_); refine bx_ 2 #[.int .i64 0, .int .i64 0, .int .i64 0] 92 ?_; intro gb141 hg w3 hbox hb; have n0_ := zaJ (zaG (g := gb140) (o := .cells #[.int .i64 a0_0, .int .i64 a0_1, .int .i64 a0_2] 34 (0, 0)) bk_ hb); have n1_ := (ns_ hb); have n2_ := zaJ (hbox); have n3_ := (ng_ hg); have n4_ := n3_; have n5_ := zaJ ((by rw [hg]; exact Nat.ne_of_lt (zbC (g := gb140) (o := .cells #[.int .i64 a0_0, .int .i64 a0_1, .int .i64 a0_2] 34 (0, 0)) bk_) : gb140 ≠ gb141)); have n6_ := zaJ ((by rw [hg]; exact Nat.ne_of_gt (zbC (g := gb140) (o := .cells #[.int .i64 a0_0, .int .i64 a0_1, .int .i64 a0_2] 34 (0, 0)) bk_) : gb141 ≠ gb140)); clear BK140; clear HB; have BK140 := n0_; have HB := n1_; have BK141 := n2_; have GW141 := n3_; have GE141 := n4_; have NB140_141 := n5_; have NB141_140 := n6_; clear n0_ n1_ n2_ n3_ n4_ n5_ n6_; clear hb hbox hg; have hnb4 := NB140_141.out; have hnc4 := NB141_140.out; obtain ⟨hcz5_0, hcz5_1, hcz5_2⟩ := zeI BK140.out; obtain ⟨hfz5_0, hfz5_1, hfz5_2⟩ := zeH BK140.out; obtain ⟨hcz6_0, hcz6_1, hcz6_2⟩ := zeI BK141.out; obtain ⟨hfz6_0, hfz6_1, hfz6_2⟩ := zeH BK141.out))
 refine bodyPost_ret (results_cell_row rfl _ _ gb141 92 #[.int .i64 a0_0, .int .i64 a0_1, .int .i64 a0_2] (0, 0) _ rfl (by (with_reducible repeat (first | apply zaD | apply zaE | apply zaC)); refine zaL (cs := #[.int .i64 a0_0, .int .i64 a0_1, .int .i64 0]) ?_ 2 _ rfl; (with_reducible repeat (first | apply zaD | apply zaE | apply zaC)); refine zaL (cs := #[.int .i64 a0_0, .int .i64 0, .int .i64 0]) ?_ 1 _ rfl; (with_reducible repeat (first | apply zaD | apply zaE | apply zaC)); refine zaL (cs := #[.int .i64 0, .int .i64 0, .int .i64 0]) ?_ 0 _ rfl; (with_reducible repeat (first | apply zaD | apply zaE | apply zaC)); exact BK141.out) Tryd.underlying92 rfl (by kernel_rfl)) rfl ?_
 exact ⟨by first | rfl | (simp [zaI, zaH] <;> rfl) | (simp [*, zaI, zaH] <;> rfl), bb_⟩

def zcJ.f (a0_0 : Int) (a0_1 : Int) (a0_2 : Int) (a0_3 : Int) (a0_4 : Int) (a0_5 : Int) : Option (Int × Int × Int × Int × Int × Int) := (zcZ.f a0_0 a0_1 a0_2).bind fun bt144 => ((zcZ.f a0_3 a0_4 a0_5).bind fun bt147 => (some (bt144.1, bt144.2.1, bt144.2.2, bt147.1, bt147.2.1, bt147.2.2)))
def zcJ.T1 : Bool × List (List Nat × List Nat) := (true, [([], []), ([0], [0]), ([1], [1]), ([], []), ([3], [3]), ([4, 2], [4]), ([2, 5], [2, 5]), ([6, 5, 0, 1, 2, 3, 4, 5, 6], [6])])
def zcJ.B1 : List Nat := [0, 1, 3, 0, 8, 31, 63, 127]
theorem zcJ.tab1 : rtab .any (opsOf Tryd.f63 1) = zcJ.T1 := by kernel_rfl
theorem zcJ.bits1 : zdW zcJ.T1.2 zcJ.B1 = true := by kernel_rfl
set_option maxHeartbeats 8000000 in
set_option maxRecDepth 100000 in
theorem zcJ.calls (a0_0 : Int) (a0_1 : Int) (a0_2 : Int) (a0_3 : Int) (a0_4 : Int) (a0_5 : Int) (r1 : Int) (r2 : Int) (r3 : Int) (r4 : Int) (r5 : Int) (r6 : Int) (w : World) (h : zcJ.f a0_0 a0_1 a0_2 a0_3 a0_4 a0_5 = some (r1, r2, r3, r4, r5, r6)) :
  Calls Tryd.prog 63 #[.agg #[.int .i64 a0_0, .int .i64 a0_1, .int .i64 a0_2, .int .i64 a0_3, .int .i64 a0_4, .int .i64 a0_5]] w fun e w' => e = .returned (.agg #[.int .i64 r1, .int .i64 r2, .int .i64 r3, .int .i64 r4, .int .i64 r5, .int .i64 r6]) ∧ Below w.heap.size w w' := by
 have hu36 := Tryd.underlying36
 have hu94 := Tryd.underlying94
 have hu34 := Tryd.underlying34
 have HB := zaJ (Below.refl w.heap.size w)
 have H : ((zcZ.f a0_0 a0_1 a0_2).bind fun bt144 => ((zcZ.f a0_3 a0_4 a0_5).bind fun bt147 => (some (bt144.1, bt144.2.1, bt144.2.2, bt147.1, bt147.2.1, bt147.2.2)))) = some (r1, r2, r3, r4, r5, r6) := h
 clear h
 replace H := Option.bind_eq_some_iff.mp H
 obtain ⟨⟨t144, t145, t146⟩, A20, H⟩ := H
 replace H : ((zcZ.f a0_3 a0_4 a0_5).bind fun bt147 => (some (t144, t145, t146, bt147.1, bt147.2.1, bt147.2.2))) = some (r1, r2, r3, r4, r5, r6) := H
 have A2 := zaJ A20
 clear A20
 replace H := Option.bind_eq_some_iff.mp H
 obtain ⟨⟨t147, t148, t149⟩, A30, H⟩ := H
 replace H : (some (t144, t145, t146, t147, t148, t149)) = some (r1, r2, r3, r4, r5, r6) := H
 have A3 := zaJ A30
 clear A30
 simp only [Option.some.injEq, Prod.mk.injEq] at H
 obtain ⟨rfl, rfl, rfl, rfl, rfl, rfl⟩ := H
 go_enter Tryd.func63, Tryd.ntmps63
 try go_wp2_with (first | ((with_reducible refine zaQ (N := 1) rfl ?_); refine bx_ 1 #[.int .i64 a0_0, .int .i64 a0_1, .int .i64 a0_2, .int .i64 a0_3, .int .i64 a0_4, .int .i64 a0_5] 36 ?_; intro gb142 hg w4 hbox hb; have n0_ := (ns_ hb); have n1_ := zaJ (hbox); have n2_ := (ng_ hg); have n3_ := n2_; clear HB; have HB := n0_; have BK142 := n1_; have GW142 := n2_; have GE142 := n3_; clear n0_ n1_ n2_ n3_; clear hb hbox hg) | ((with_reducible refine zaQ (N := 2) rfl ?_); refine bx_ 2 #[.int .i64 0, .int .i64 0, .int .i64 0, .int .i64 0, .int .i64 0, .int .i64 0] 94 ?_; intro gb143 hg w5 hbox hb; have n0_ := zaJ (zaG (g := gb142) (o := .cells #[.int .i64 a0_0, .int .i64 a0_1, .int .i64 a0_2, .int .i64 a0_3, .int .i64 a0_4, .int .i64 a0_5] 36 (0, 0)) bk_ hb); have n1_ := (ns_ hb); have n2_ := zaJ (hbox); have n3_ := (ng_ hg); have n4_ := n3_; have n5_ := zaJ ((by rw [hg]; exact Nat.ne_of_lt (zbC (g := gb142) (o := .cells #[.int .i64 a0_0, .int .i64 a0_1, .int .i64 a0_2, .int .i64 a0_3, .int .i64 a0_4, .int .i64 a0_5] 36 (0, 0)) bk_) : gb142 ≠ gb143)); have n6_ := zaJ ((by rw [hg]; exact Nat.ne_of_gt (zbC (g := gb142) (o := .cells #[.int .i64 a0_0, .int .i64 a0_1, .int .i64 a0_2, .int .i64 a0_3, .int .i64 a0_4, .int .i64 a0_5] 36 (0, 0)) bk_) : gb143 ≠ gb142)); clear BK142; clear HB; have BK142 := n0_; have HB := n1_; have BK143 := n2_; have GW143 := n3_; have GE143 := n4_; have NB142_143 := n5_; have NB143_142 := n6_; clear n0_ n1_ n2_ n3_ n4_ n5_ n6_; clear hb hbox hg))
 have n0_ := zaJ (zaE BK142.out)
 have n1_ := zaJ (zaE BK143.out)
 have n2_ := zaJ (zbT HB.out)
 clear BK142
 clear BK143
 clear HB
 have BK142 := n0_
 have BK143 := n1_
 have HB := n2_
 clear n0_ n1_ n2_
 refine zdL (n := 8) (S := fun w' => w'.cell? ⟨gb142, 0, none⟩ = some (.int .i64 a0_0) ∧ w'.cell? ⟨gb142, 1, none⟩ = some (.int .i64 a0_1) ∧ w'.cell? ⟨gb142, 2, none⟩ = some (.int .i64 a0_2) ∧ w'.cell? ⟨gb142, 3, none⟩ = some (.int .i64 a0_3) ∧ w'.cell? ⟨gb142, 4, none⟩ = some (.int .i64 a0_4) ∧ w'.cell? ⟨gb142, 5, none⟩ = some (.int .i64 a0_5)) (ds := []) #[false, false, false, false, false, false, false, false] (by kernel_rfl) rfl rfl ⟨(zaB BK142.out 0).trans rfl, (zaB BK142.out 1).trans rfl, (zaB BK142.out 2).trans rfl, (zaB BK142.out 3).trans rfl, (zaB BK142.out 4).trans rfl, (zaB BK142.out 5).trans rfl⟩ (fun hHeld => ?_); refine zcN zcJ.tab1 zcJ.bits1 (fun HT_ HW_ => ?_)
 generalize w5.drew = w6 at BK142 BK143 HB hHeld ⊢
 refine pu_ 0 (some 3) (bl_ 8 1) ?_
 refine pu_ 3 (some 6) (bl_ 8 9) ?_
 refine tk6_ 1 (some 4) (bl_ 8 11) hHeld ?_
 refine tk6_ 4 (some 7) (bl_ 8 27) hHeld ?_
 refine zeK (i := 2) (N := some 5) (bl_ 8 31) rfl rfl (zcK HT_.out (by kernel_rfl)) (by decide) (fun K hK => ?_)
 refine zcY Tryd.func114 (by kernel_rfl) rfl #[.agg #[.int .i64 a0_0, .int .i64 a0_1, .int .i64 a0_2]] (by rfl) rfl rfl (by (try simp only [List.map_toArray, List.map_cons, List.map_nil]); first | done | rfl | (simp only [List.length_drop, List.length_take]; rfl)) ?_
 with_reducible refine (zcZ.calls a0_0 a0_1 a0_2 t144 t145 t146 _ A2.out).mono ?_
 rintro e w7 ⟨rfl, hb⟩
 refine ⟨_, rfl, ?_⟩
 have n0_ := zaJ (zaG (g := gb142) (o := .cells #[.int .i64 a0_0, .int .i64 a0_1, .int .i64 a0_2, .int .i64 a0_3, .int .i64 a0_4, .int .i64 a0_5] 36 (0, 0)) bk_ hb)
 have n1_ := zaJ (zaG (g := gb143) (o := .cells #[.int .i64 0, .int .i64 0, .int .i64 0, .int .i64 0, .int .i64 0, .int .i64 0] 94 (0, 0)) bk_ hb)
 have n2_ := (ns_ hb)
 clear BK142
 clear BK143
 clear HB
 have BK142 := n0_
 have BK143 := n1_
 have HB := n2_
 clear n0_ n1_ n2_
 (try clear hb)
 (try clear hb2)
 (try clear hk)
 (try clear hi)
 refine hK.out _ _ ⟨(zaB BK142.out 0).trans rfl, (zaB BK142.out 1).trans rfl, (zaB BK142.out 2).trans rfl, (zaB BK142.out 3).trans rfl, (zaB BK142.out 4).trans rfl, (zaB BK142.out 5).trans rfl⟩ (fun hHeld => ?_)
 clear hK K
 refine zcX (a' := ?_) ?_ ?_
 rotate_left
 ·show Act.put _ (some 5) _ = _
  simp only [Act.put, List.setIfInBounds_toArray, List.set_cons_zero, List.set_cons_succ, zbW, zbY]
  rfl
 refine zeK (i := 5) (N := some 8) (bl_ 8 63) rfl rfl (zcK HT_.out (by kernel_rfl)) (by decide) (fun K hK => ?_)
 refine zcY Tryd.func114 (by kernel_rfl) rfl #[.agg #[.int .i64 a0_3, .int .i64 a0_4, .int .i64 a0_5]] (by rfl) rfl rfl (by (try simp only [List.map_toArray, List.map_cons, List.map_nil]); first | done | rfl | (simp only [List.length_drop, List.length_take]; rfl)) ?_
 with_reducible refine (zcZ.calls a0_3 a0_4 a0_5 t147 t148 t149 _ A3.out).mono ?_
 rintro e w8 ⟨rfl, hb⟩
 refine ⟨_, rfl, ?_⟩
 have n0_ := zaJ (zaG (g := gb142) (o := .cells #[.int .i64 a0_0, .int .i64 a0_1, .int .i64 a0_2, .int .i64 a0_3, .int .i64 a0_4, .int .i64 a0_5] 36 (0, 0)) bk_ hb)
 have n1_ := zaJ (zaG (g := gb143) (o := .cells #[.int .i64 0, .int .i64 0, .int .i64 0, .int .i64 0, .int .i64 0, .int .i64 0] 94 (0, 0)) bk_ hb)
 have n2_ := (ns_ hb)
 clear BK142
 clear BK143
 clear HB
 have BK142 := n0_
 have BK143 := n1_
 have HB := n2_
 clear n0_ n1_ n2_
 (try clear hb)
 (try clear hb2)
 (try clear hk)
 (try clear hi)
 refine hK.out _ _ ⟨(zaB BK142.out 0).trans rfl, (zaB BK142.out 1).trans rfl, (zaB BK142.out 2).trans rfl, (zaB BK142.out 3).trans rfl, (zaB BK142.out 4).trans rfl, (zaB BK142.out 5).trans rfl⟩ (fun hHeld => ?_)
 clear hK K
 refine zcX (a' := ?_) ?_ ?_
 rotate_left
 ·show Act.put _ (some 8) _ = _
  simp only [Act.put, List.setIfInBounds_toArray, List.set_cons_zero, List.set_cons_succ, zbW, zbY]
  rfl
 refine pu_ 6 (some 9) (bl_ 8 127) ?_
 refine zeK (i := 7) (N := none) (bl_ 8 255) rfl rfl (zcK HT_.out (by kernel_rfl)) (by decide) (fun K hK => ?_)
 have hs9 : w8.cell? ⟨gb143, 0, none⟩ = some (.int .i64 0) := (zaB BK143.out 0).trans rfl
 have hfs9 := zbE BK143.out 0
 have hns9_0 := NB142_143.out
 have hms9_0 := NB143_142.out
 have hs10 : w8.cell? ⟨gb143, 1, none⟩ = some (.int .i64 0) := (zaB BK143.out 1).trans rfl
 have hfs10 := zbE BK143.out 1
 have hns10_0 := NB142_143.out
 have hms10_0 := NB143_142.out
 have hs11 : w8.cell? ⟨gb143, 2, none⟩ = some (.int .i64 0) := (zaB BK143.out 2).trans rfl
 have hfs11 := zbE BK143.out 2
 have hns11_0 := NB142_143.out
 have hms11_0 := NB143_142.out
 have hs12 : w8.cell? ⟨gb143, 3, none⟩ = some (.int .i64 0) := (zaB BK143.out 3).trans rfl
 have hfs12 := zbE BK143.out 3
 have hns12_0 := NB142_143.out
 have hms12_0 := NB143_142.out
 have hs13 : w8.cell? ⟨gb143, 4, none⟩ = some (.int .i64 0) := (zaB BK143.out 4).trans rfl
 have hfs13 := zbE BK143.out 4
 have hns13_0 := NB142_143.out
 have hms13_0 := NB143_142.out
 have hs14 : w8.cell? ⟨gb143, 5, none⟩ = some (.int .i64 0) := (zaB BK143.out 5).trans rfl
 have hfs14 := zbE BK143.out 5
 have hns14_0 := NB142_143.out
 have hms14_0 := NB143_142.out
 refine skip_ (w1 := ?_) (by rfl) rfl ?_ ?_
 rotate_left
 ·go_simp
  rfl
 refine hK.out _ _ ⟨((zaF (p := ⟨gb143, _, none⟩) NB142_143.out _).trans (((zaF (p := ⟨gb143, _, none⟩) NB142_143.out _).trans (((zaF (p := ⟨gb143, _, none⟩) NB142_143.out _).trans (((zaF (p := ⟨gb143, _, none⟩) NB142_143.out _).trans (((zaF (p := ⟨gb143, _, none⟩) NB142_143.out _).trans (((zaF (p := ⟨gb143, _, none⟩) NB142_143.out _).trans (hHeld.1)))))))))))), ((zaF (p := ⟨gb143, _, none⟩) NB142_143.out _).trans (((zaF (p := ⟨gb143, _, none⟩) NB142_143.out _).trans (((zaF (p := ⟨gb143, _, none⟩) NB142_143.out _).trans (((zaF (p := ⟨gb143, _, none⟩) NB142_143.out _).trans (((zaF (p := ⟨gb143, _, none⟩) NB142_143.out _).trans (((zaF (p := ⟨gb143, _, none⟩) NB142_143.out _).trans (hHeld.2.1)))))))))))), ((zaF (p := ⟨gb143, _, none⟩) NB142_143.out _).trans (((zaF (p := ⟨gb143, _, none⟩) NB142_143.out _).trans (((zaF (p := ⟨gb143, _, none⟩) NB142_143.out _).trans (((zaF (p := ⟨gb143, _, none⟩) NB142_143.out _).trans (((zaF (p := ⟨gb143, _, none⟩) NB142_143.out _).trans (((zaF (p := ⟨gb143, _, none⟩) NB142_143.out _).trans (hHeld.2.2.1)))))))))))), ((zaF (p := ⟨gb143, _, none⟩) NB142_143.out _).trans (((zaF (p := ⟨gb143, _, none⟩) NB142_143.out _).trans (((zaF (p := ⟨gb143, _, none⟩) NB142_143.out _).trans (((zaF (p := ⟨gb143, _, none⟩) NB142_143.out _).trans (((zaF (p := ⟨gb143, _, none⟩) NB142_143.out _).trans (((zaF (p := ⟨gb143, _, none⟩) NB142_143.out _).trans (hHeld.2.2.2.1)))))))))))), ((zaF (p := ⟨gb143, _, none⟩) NB142_143.out _).trans (((zaF (p := ⟨gb143, _, none⟩) NB142_143.out _).trans (((zaF (p := ⟨gb143, _, none⟩) NB142_143.out _).trans (((zaF (p := ⟨gb143, _, none⟩) NB142_143.out _).trans (((zaF (p := ⟨gb143, _, none⟩) NB142_143.out _).trans (((zaF (p := ⟨gb143, _, none⟩) NB142_143.out _).trans (hHeld.2.2.2.2.1)))))))))))), ((zaF (p := ⟨gb143, _, none⟩) NB142_143.out _).trans (((zaF (p := ⟨gb143, _, none⟩) NB142_143.out _).trans (((zaF (p := ⟨gb143, _, none⟩) NB142_143.out _).trans (((zaF (p := ⟨gb143, _, none⟩) NB142_143.out _).trans (((zaF (p := ⟨gb143, _, none⟩) NB142_143.out _).trans (((zaF (p := ⟨gb143, _, none⟩) NB142_143.out _).trans (hHeld.2.2.2.2.2))))))))))))⟩ (fun hHeld => ?_)
 clear hK K
 refine zeS (zdD HT_.out (by kernel_rfl)) ?_
 try go_wp2
 refine bodyPost_ret (results_cell_row rfl _ _ gb143 94 #[.int .i64 t144, .int .i64 t145, .int .i64 t146, .int .i64 t147, .int .i64 t148, .int .i64 t149] (0, 0) _ rfl (by (with_reducible repeat (first | apply zaD | apply zaE | apply zaC)); refine zaL (cs := #[.int .i64 t144, .int .i64 t145, .int .i64 t146, .int .i64 t147, .int .i64 t148, .int .i64 0]) ?_ 5 _ rfl; (with_reducible repeat (first | apply zaD | apply zaE | apply zaC)); refine zaL (cs := #[.int .i64 t144, .int .i64 t145, .int .i64 t146, .int .i64 t147, .int .i64 0, .int .i64 0]) ?_ 4 _ rfl; (with_reducible repeat (first | apply zaD | apply zaE | apply zaC)); refine zaL (cs := #[.int .i64 t144, .int .i64 t145, .int .i64 t146, .int .i64 0, .int .i64 0, .int .i64 0]) ?_ 3 _ rfl; (with_reducible repeat (first | apply zaD | apply zaE | apply zaC)); refine zaL (cs := #[.int .i64 t144, .int .i64 t145, .int .i64 0, .int .i64 0, .int .i64 0, .int .i64 0]) ?_ 2 _ rfl; (with_reducible repeat (first | apply zaD | apply zaE | apply zaC)); refine zaL (cs := #[.int .i64 t144, .int .i64 0, .int .i64 0, .int .i64 0, .int .i64 0, .int .i64 0]) ?_ 1 _ rfl; (with_reducible repeat (first | apply zaD | apply zaE | apply zaC)); refine zaL (cs := #[.int .i64 0, .int .i64 0, .int .i64 0, .int .i64 0, .int .i64 0, .int .i64 0]) ?_ 0 _ rfl; (with_reducible repeat (first | apply zaD | apply zaE | apply zaC)); exact BK143.out) Tryd.underlying94 rfl (by kernel_rfl)) rfl ?_
 exact ⟨by first | rfl | (simp [zaI, zaH] <;> rfl) | (simp [*, zaI, zaH] <;> rfl), bb_⟩

def zbI.l0 : Nat → List (S36) → List (S94) → Int → Option ((List (S94)))
 | 0, _, _, _ => none
 | k + 1, x0, x3, x4 => if x4 < (x0.length : Int) then (if 0 ≤ x4 then ((zcJ.f ((zaA x0 x4).f0.f0) ((zaA x0 x4).f0.f1) ((zaA x0 x4).f0.f2) ((zaA x0 x4).f1.f0) ((zaA x0 x4).f1.f1) ((zaA x0 x4).f1.f2)).bind fun bt154 => (if x3.length < 2932031007402 then (zbI.l0 k x0 (x3 ++ [(⟨(⟨bt154.1, bt154.2.1, bt154.2.2.1⟩ : S92), (⟨bt154.2.2.2.1, bt154.2.2.2.2.1, bt154.2.2.2.2.2⟩ : S92)⟩ : S94)]) (wrap64 (x4 + 1))) else (none))) else (none)) else (some x3)
def zbI.f (k : Nat) (l0 : List (S36)) : Option ((List (S94))) := zbI.l0 k l0 (([] : List (S94))) 0
theorem zbI.mono_l : ∀ k, (∀ y0 y1 y2, LeO (zbI.l0 k y0 y1 y2) (zbI.l0 (k + 1) y0 y1 y2))
 | 0 => fun _ _ _ r h => by simp [zbI.l0] at h
 | k + 1 => by
  have ih0 := zbI.mono_l k
  ·intro y0 y1 y2
   unfold zbI.l0
   repeat' first
   | (with_reducible exact ih0 _ _ _)
   | (with_reducible exact LeO.refl _)
   | (with_reducible exact LeO.none _)
   | (with_reducible refine LeO.ite ?_ ?_)
   | (with_reducible refine LeO.bind ?_ (fun _ => ?_))
   | exact ih0 _ _ _
   | exact LeO.none _
   | refine LeO.ite ?_ ?_
   | refine LeO.bind ?_ (fun _ => ?_)
theorem zbI.mono : ∀ a0 k, LeO (zbI.f k a0) (zbI.f (k + 1) a0) := by
 intro a0 k
 have ih0 := zbI.mono_l k
 unfold zbI.f
 repeat' first
   | (with_reducible exact ih0 _ _ _)
   | (with_reducible exact LeO.refl _)
   | (with_reducible exact LeO.none _)
   | (with_reducible refine LeO.ite ?_ ?_)
   | (with_reducible refine LeO.bind ?_ (fun _ => ?_))
   | exact ih0 _ _ _
   | exact LeO.none _
   | refine LeO.ite ?_ ?_
   | refine LeO.bind ?_ (fun _ => ?_)
set_option maxHeartbeats 8000000 in
set_option maxRecDepth 100000 in
theorem zbI.calls (k : Nat) (A0 : Option Addr) (c0 : Nat) (l0 : List (S36)) (r : List (S94)) (w : World) (hr0 : Kd.C k36 w A0 l0.length l0) (hc0 : l0.length ≤ c0) (h : zbI.f k l0 = some r) :
  Calls Tryd.prog 60 #[.slice A0 l0.length c0] w fun e w' => ∃ v0_ : Value, e = .returned (v0_) ∧ Kd.R k94 94 w' w.heap.size (fun _ => True) v0_ r ∧ Below w.heap.size w w' := by
 have hu36 := Tryd.underlying36
 have HR0 := zaJ hr0
 have HC0 := zaJ hc0
 clear hr0 hc0
 have HB := zaJ (Below.refl w.heap.size w)
 have H : (zbI.l0 k l0 (([] : List (S94))) 0) = some r := h
 clear h
 obtain ⟨y150, hy150⟩ : ∃ y_ : List (S94), y_ = (([] : List (S94))) := ⟨_, rfl⟩
 replace H : (zbI.l0 k l0 y150 0) = some r := by first | (rw [hy150]; with_reducible exact H) | (have H2_ := (Option.bind_some _ _).symm.trans H; rw [hy150]; with_reducible exact H2_) | (have H2_ := (Option.bind_some _ _).symm.trans H; with_reducible exact H2_) | with_reducible exact H | (rw [hy150]; exact H) | exact H
 have Ny150 := zaJ hy150
 clear hy150
 have H' := zaJ H
 clear H
 go_enter Tryd.func60, Tryd.ntmps60
 go_wp2_with (first | ((with_reducible refine zaQ (N := 5) rfl ?_); refine Kd.R_lit k94 _ 94 ?hg (N := 5) ?hd (xs := ([] : List (S94))) (inner := []) (ok := fun _ => True) (okp := fun _ => True) ?hr ?hp (fun _ hk => hk) trivial (Below.refl _ _) (Nat.le_refl _) (by simp) ?_; (case hd => rfl); (case hg => rfl); (case hr => first | (go_simp; done) | (go_simp; rfl)); (case hp => exact (zfB.none _ _)); intro v151 w2 ho3 hb hg_ hnew_; clear hg_ hnew_; (first | rw [← Ny150.out] at ho3 | (simp only [Int.reduceToNat] at ho3; rw [← Ny150.out] at ho3)); have n0_ := zaJ (Kd.R_lower ho3 (zdA bb_)); have n1_ := (ns_ hb); clear HB; have HO152 := n0_; have HB := n1_; clear n0_ n1_; clear hb ho3))
 (try go_simp)
 go_loopg [3, 4] k (fun kq v3 v4 w' => ∃ (x3_1 : List (S94)) (x4_1 : Int), v4 = .int .i64 x4_1 ∧ Aside0 (zbI.l0 kq l0 x3_1 x4_1 = some r) ∧ Aside0 (kq ≤ k) ∧ Aside0 (Kd.R k94 94 w' w.heap.size (fun _ => True) v3 x3_1) ∧ Aside0 (Below w.heap.size w w'))
 case atStart => exact ⟨(y150), (0), (by first | rfl | (simp; done) | (simp [*]; done)), H', ⟨Nat.le_refl _⟩, ⟨by (with_reducible repeat (first | apply Kd.R_alloc | apply Kd.R_drewN | apply Kd.R_drew)); exact HO152.out⟩, ⟨bb_⟩⟩
 case round =>
  clear H'
  try clear p2
  obtain ⟨x3_1, x4_1, rfl, HA, HK1, HO_3, HB⟩ := hrel
  cases gk with
  | zero => exact absurd HA.out (by simp [zbI.l0])
  | succ k1 =>
   have H := HA.out
   clear HA
   simp only [zbI.l0] at H
   by_cases c4 : x4_1 < (l0.length : Int)
   ·rw [if_pos c4] at H
    have c4b0 : decide (x4_1 < (l0.length : Int)) = true := decide_eq_true c4
    clear c4
    by_cases c5 : 0 ≤ x4_1
    ·rw [if_pos c5] at H
     have c5b0 : decide (0 ≤ x4_1) = true := decide_eq_true c5
     clear c5
     replace H := Option.bind_eq_some_iff.mp H
     obtain ⟨⟨t154, t155, t156, t157, t158, t159⟩, A60, H⟩ := H
     replace H : (if x3_1.length < 2932031007402 then (zbI.l0 k1 l0 (x3_1 ++ [(⟨(⟨t154, t155, t156⟩ : S92), (⟨t157, t158, t159⟩ : S92)⟩ : S94)]) (wrap64 (x4_1 + 1))) else (none)) = some r := H
     have A6 := zaJ A60
     clear A60
     by_cases c7 : x3_1.length < 2932031007402
     ·rw [if_pos c7] at H
      have LMc7 := zaJ c7
      clear c7
      obtain ⟨y160, hy160⟩ : ∃ y_ : List (S94), y_ = (x3_1 ++ [(⟨(⟨t154, t155, t156⟩ : S92), (⟨t157, t158, t159⟩ : S92)⟩ : S94)]) := ⟨_, rfl⟩
      replace H : (zbI.l0 k1 l0 y160 (wrap64 (x4_1 + 1))) = some r := by first | (rw [hy160]; with_reducible exact H) | (have H2_ := (Option.bind_some _ _).symm.trans H; rw [hy160]; with_reducible exact H2_) | (have H2_ := (Option.bind_some _ _).symm.trans H; with_reducible exact H2_) | with_reducible exact H | (rw [hy160]; exact H) | exact H
      have Ny160 := zaJ hy160
      clear hy160
      have H' := zaJ H
      clear H
      have p153 : 0 ≤ (x4_1 : Int) := of_decide_eq_true (by first | (with_reducible assumption) | assumption)
      have q153 : x4_1 < (l0.length : Int) := of_decide_eq_true (by first | (with_reducible assumption) | assumption)
      obtain ⟨ad153, e153, hx153_0, hx153_1, hx153_2, hx153_3, hx153_4, hx153_5⟩ := zdN HR0.out x4_1 p153 q153
      cases e153
      replace hx153_0 := zaR HB.out hx153_0
      replace hx153_1 := zaR HB.out hx153_1
      replace hx153_2 := zaR HB.out hx153_2
      replace hx153_3 := zaR HB.out hx153_3
      replace hx153_4 := zaR HB.out hx153_4
      replace hx153_5 := zaR HB.out hx153_5
      replace p153 := eq_true p153
      replace q153 := eq_true q153
      go_wp2_with (first | ((with_reducible refine zaK (f := 63) rfl ?_); refine zbQ (some 17) rfl rfl Tryd.func63 (by kernel_rfl) rfl #[.agg #[.int .i64 ((zaA l0 x4_1).f0.f0), .int .i64 ((zaA l0 x4_1).f0.f1), .int .i64 ((zaA l0 x4_1).f0.f2), .int .i64 ((zaA l0 x4_1).f1.f0), .int .i64 ((zaA l0 x4_1).f1.f1), .int .i64 ((zaA l0 x4_1).f1.f2)]] rfl (by (try simp only [List.map_toArray, List.map_cons, List.map_nil]); first | done | rfl | (simp only [List.length_drop, List.length_take]; rfl)) ?_; (with_reducible refine (zcJ.calls ((zaA l0 x4_1).f0.f0) ((zaA l0 x4_1).f0.f1) ((zaA l0 x4_1).f0.f2) ((zaA l0 x4_1).f1.f0) ((zaA l0 x4_1).f1.f1) ((zaA l0 x4_1).f1.f2) t154 t155 t156 t157 t158 t159 _ A6.out).mono ?_); rintro e w8 ⟨rfl, hb⟩; refine ⟨_, rfl, ?_⟩; have n0_ := zaJ (Kd.R_below (by (with_reducible repeat (first | apply Kd.R_alloc | apply Kd.R_drewN | apply Kd.R_drew)); exact HO_3.out) hb); have n1_ := (ns_ hb); clear HO_3; clear HB; have HO_3 := n0_; have HB := n1_; clear n0_ n1_; (try clear hb); (try clear hb2)) | ((with_reducible refine gate_builtin (b := .append) (xs := #[.tmp 12, .tmp 18]) rfl ?_); at_builtin; refine Kd.R_append k94 (w0 := w) w.heap.size rfl (.tmp 12) (.tmp 18) 85 94 (.agg #[(.int .i64 0), (.int .i64 0), (.int .i64 0), (.int .i64 0), (.int .i64 0), (.int .i64 0)]) 48 rfl Tryd.underlying85 info94 rfl (by decide) (by omega) u3 x3_1 (⟨(⟨t154, t155, t156⟩ : S92), (⟨t157, t158, t159⟩ : S92)⟩ : S94) [.int .i64 t154, .int .i64 t155, .int .i64 t156, .int .i64 t157, .int .i64 t158, .int .i64 t159] (fun _ => True) (fun _ => False) rfl rfl ?aP (fun _ hk => hk.elim) ?aF ?aO ?aB ?aS ?aL ?_; (case aP => exact k94_mkM _ _ _ (⟨(⟨t154, t155, t156⟩ : S92), (⟨t157, t158, t159⟩ : S92)⟩ : S94)); (case aB => exact bb_); (case aF => exact (fun _ _ => trivial)); (case aO => exact (by (with_reducible repeat (first | apply Kd.R_alloc | apply Kd.R_drewN | apply Kd.R_drew)); exact HO_3.out)); (case aS => exact (zdA bb_)); (case aL => have := LMc7.out; omega); intro v161 w9 ho hb hg hat; rw [← Ny160.out] at ho; have n0_ := zaJ (hb); have n1_ := zaJ (ho); clear HB; clear HO_3; have HB := n0_; have HO162 := n1_; clear n0_ n1_; clear ho hb hg hat))
      go_roundg k1
      case measure => have := HK1.out; omega
      case rel => exact ⟨(y160), (wrap64 (x4_1 + 1)), (by first | rfl | (simp; done) | (simp [*]; done)), H', ⟨by have := HK1.out; omega⟩, ⟨by (with_reducible repeat (first | apply Kd.R_alloc | apply Kd.R_drewN | apply Kd.R_drew)); exact HO162.out⟩, ⟨bb_⟩⟩
     ·rw [if_neg c7] at H
      exact absurd H (by simp)
    ·rw [if_neg c5] at H
     exact absurd H (by simp)
   ·rw [if_neg c4] at H
    have c4b0 : decide (x4_1 < (l0.length : Int)) = false := decide_eq_false c4
    clear c4
    obtain rfl := Option.some.inj H
    go_wp2
    go_ret
    exact ⟨_, by first | rfl | (simp [zaI, zaH] <;> rfl) | (simp [*, zaI, zaH] <;> rfl), by (with_reducible repeat (first | apply Kd.R_alloc | apply Kd.R_drewN | apply Kd.R_drew)); exact HO_3.out, bb_⟩

def zcL.f (a0 : Int) : Option (Int × Int) := if a0 < 0 then (if (IntKind.u64.wrap ((IntKind.u64.wrap ((Go.bits .and .u64 (IntKind.u64.wrap (wrap64 (-a0))) 4294967295) * (Go.bits .and .u64 (IntKind.u64.wrap (wrap64 (-a0))) 4294967295))) + (IntKind.u64.wrap ((IntKind.u64.wrap ((IntKind.u64.wrap (2 * (Go.bits .and .u64 (IntKind.u64.wrap (wrap64 (-a0))) 4294967295))) * ((IntKind.u64.wrap (wrap64 (-a0))) / 4294967296))) * 4294967296)))) < (IntKind.u64.wrap ((Go.bits .and .u64 (IntKind.u64.wrap (wrap64 (-a0))) 4294967295) * (Go.bits .and .u64 (IntKind.u64.wrap (wrap64 (-a0))) 4294967295))) then (some (IntKind.u64.wrap ((IntKind.u64.wrap (((IntKind.u64.wrap (wrap64 (-a0))) / 4294967296) * ((IntKind.u64.wrap (wrap64 (-a0))) / 4294967296))) + (IntKind.u64.wrap (((IntKind.u64.wrap ((IntKind.u64.wrap (2 * (Go.bits .and .u64 (IntKind.u64.wrap (wrap64 (-a0))) 4294967295))) * ((IntKind.u64.wrap (wrap64 (-a0))) / 4294967296))) / 4294967296) + 1))), IntKind.u64.wrap ((IntKind.u64.wrap ((Go.bits .and .u64 (IntKind.u64.wrap (wrap64 (-a0))) 4294967295) * (Go.bits .and .u64 (IntKind.u64.wrap (wrap64 (-a0))) 4294967295))) + (IntKind.u64.wrap ((IntKind.u64.wrap ((IntKind.u64.wrap (2 * (Go.bits .and .u64 (IntKind.u64.wrap (wrap64 (-a0))) 4294967295))) * ((IntKind.u64.wrap (wrap64 (-a0))) / 4294967296))) * 4294967296))))) else (some (IntKind.u64.wrap ((IntKind.u64.wrap (((IntKind.u64.wrap (wrap64 (-a0))) / 4294967296) * ((IntKind.u64.wrap (wrap64 (-a0))) / 4294967296))) + ((IntKind.u64.wrap ((IntKind.u64.wrap (2 * (Go.bits .and .u64 (IntKind.u64.wrap (wrap64 (-a0))) 4294967295))) * ((IntKind.u64.wrap (wrap64 (-a0))) / 4294967296))) / 4294967296)), IntKind.u64.wrap ((IntKind.u64.wrap ((Go.bits .and .u64 (IntKind.u64.wrap (wrap64 (-a0))) 4294967295) * (Go.bits .and .u64 (IntKind.u64.wrap (wrap64 (-a0))) 4294967295))) + (IntKind.u64.wrap ((IntKind.u64.wrap ((IntKind.u64.wrap (2 * (Go.bits .and .u64 (IntKind.u64.wrap (wrap64 (-a0))) 4294967295))) * ((IntKind.u64.wrap (wrap64 (-a0))) / 4294967296))) * 4294967296)))))) else (if (IntKind.u64.wrap ((IntKind.u64.wrap ((Go.bits .and .u64 (IntKind.u64.wrap (a0)) 4294967295) * (Go.bits .and .u64 (IntKind.u64.wrap (a0)) 4294967295))) + (IntKind.u64.wrap ((IntKind.u64.wrap ((IntKind.u64.wrap (2 * (Go.bits .and .u64 (IntKind.u64.wrap (a0)) 4294967295))) * ((IntKind.u64.wrap (a0)) / 4294967296))) * 4294967296)))) < (IntKind.u64.wrap ((Go.bits .and .u64 (IntKind.u64.wrap (a0)) 4294967295) * (Go.bits .and .u64 (IntKind.u64.wrap (a0)) 4294967295))) then (some (IntKind.u64.wrap ((IntKind.u64.wrap (((IntKind.u64.wrap (a0)) / 4294967296) * ((IntKind.u64.wrap (a0)) / 4294967296))) + (IntKind.u64.wrap (((IntKind.u64.wrap ((IntKind.u64.wrap (2 * (Go.bits .and .u64 (IntKind.u64.wrap (a0)) 4294967295))) * ((IntKind.u64.wrap (a0)) / 4294967296))) / 4294967296) + 1))), IntKind.u64.wrap ((IntKind.u64.wrap ((Go.bits .and .u64 (IntKind.u64.wrap (a0)) 4294967295) * (Go.bits .and .u64 (IntKind.u64.wrap (a0)) 4294967295))) + (IntKind.u64.wrap ((IntKind.u64.wrap ((IntKind.u64.wrap (2 * (Go.bits .and .u64 (IntKind.u64.wrap (a0)) 4294967295))) * ((IntKind.u64.wrap (a0)) / 4294967296))) * 4294967296))))) else (some (IntKind.u64.wrap ((IntKind.u64.wrap (((IntKind.u64.wrap (a0)) / 4294967296) * ((IntKind.u64.wrap (a0)) / 4294967296))) + ((IntKind.u64.wrap ((IntKind.u64.wrap (2 * (Go.bits .and .u64 (IntKind.u64.wrap (a0)) 4294967295))) * ((IntKind.u64.wrap (a0)) / 4294967296))) / 4294967296)), IntKind.u64.wrap ((IntKind.u64.wrap ((Go.bits .and .u64 (IntKind.u64.wrap (a0)) 4294967295) * (Go.bits .and .u64 (IntKind.u64.wrap (a0)) 4294967295))) + (IntKind.u64.wrap ((IntKind.u64.wrap ((IntKind.u64.wrap (2 * (Go.bits .and .u64 (IntKind.u64.wrap (a0)) 4294967295))) * ((IntKind.u64.wrap (a0)) / 4294967296))) * 4294967296))))))
set_option maxHeartbeats 8000000 in
set_option maxRecDepth 100000 in
theorem zcL.calls (a0 : Int) (r1 : Int) (r2 : Int) (w : World) (h : zcL.f a0 = some (r1, r2)) :
  Calls Tryd.prog 173 #[.int .i64 a0] w fun e w' => e = .returned (.tuple #[.int .u64 r1, .int .u64 r2]) ∧ Drawn0 w w' := by
 have H : (if a0 < 0 then (if (IntKind.u64.wrap ((IntKind.u64.wrap ((Go.bits .and .u64 (IntKind.u64.wrap (wrap64 (-a0))) 4294967295) * (Go.bits .and .u64 (IntKind.u64.wrap (wrap64 (-a0))) 4294967295))) + (IntKind.u64.wrap ((IntKind.u64.wrap ((IntKind.u64.wrap (2 * (Go.bits .and .u64 (IntKind.u64.wrap (wrap64 (-a0))) 4294967295))) * ((IntKind.u64.wrap (wrap64 (-a0))) / 4294967296))) * 4294967296)))) < (IntKind.u64.wrap ((Go.bits .and .u64 (IntKind.u64.wrap (wrap64 (-a0))) 4294967295) * (Go.bits .and .u64 (IntKind.u64.wrap (wrap64 (-a0))) 4294967295))) then (some (IntKind.u64.wrap ((IntKind.u64.wrap (((IntKind.u64.wrap (wrap64 (-a0))) / 4294967296) * ((IntKind.u64.wrap (wrap64 (-a0))) / 4294967296))) + (IntKind.u64.wrap (((IntKind.u64.wrap ((IntKind.u64.wrap (2 * (Go.bits .and .u64 (IntKind.u64.wrap (wrap64 (-a0))) 4294967295))) * ((IntKind.u64.wrap (wrap64 (-a0))) / 4294967296))) / 4294967296) + 1))), IntKind.u64.wrap ((IntKind.u64.wrap ((Go.bits .and .u64 (IntKind.u64.wrap (wrap64 (-a0))) 4294967295) * (Go.bits .and .u64 (IntKind.u64.wrap (wrap64 (-a0))) 4294967295))) + (IntKind.u64.wrap ((IntKind.u64.wrap ((IntKind.u64.wrap (2 * (Go.bits .and .u64 (IntKind.u64.wrap (wrap64 (-a0))) 4294967295))) * ((IntKind.u64.wrap (wrap64 (-a0))) / 4294967296))) * 4294967296))))) else (some (IntKind.u64.wrap ((IntKind.u64.wrap (((IntKind.u64.wrap (wrap64 (-a0))) / 4294967296) * ((IntKind.u64.wrap (wrap64 (-a0))) / 4294967296))) + ((IntKind.u64.wrap ((IntKind.u64.wrap (2 * (Go.bits .and .u64 (IntKind.u64.wrap (wrap64 (-a0))) 4294967295))) * ((IntKind.u64.wrap (wrap64 (-a0))) / 4294967296))) / 4294967296)), IntKind.u64.wrap ((IntKind.u64.wrap ((Go.bits .and .u64 (IntKind.u64.wrap (wrap64 (-a0))) 4294967295) * (Go.bits .and .u64 (IntKind.u64.wrap (wrap64 (-a0))) 4294967295))) + (IntKind.u64.wrap ((IntKind.u64.wrap ((IntKind.u64.wrap (2 * (Go.bits .and .u64 (IntKind.u64.wrap (wrap64 (-a0))) 4294967295))) * ((IntKind.u64.wrap (wrap64 (-a0))) / 4294967296))) * 4294967296)))))) else (if (IntKind.u64.wrap ((IntKind.u64.wrap ((Go.bits .and .u64 (IntKind.u64.wrap (a0)) 4294967295) * (Go.bits .and .u64 (IntKind.u64.wrap (a0)) 4294967295))) + (IntKind.u64.wrap ((IntKind.u64.wrap ((IntKind.u64.wrap (2 * (Go.bits .and .u64 (IntKind.u64.wrap (a0)) 4294967295))) * ((IntKind.u64.wrap (a0)) / 4294967296))) * 4294967296)))) < (IntKind.u64.wrap ((Go.bits .and .u64 (IntKind.u64.wrap (a0)) 4294967295) * (Go.bits .and .u64 (IntKind.u64.wrap (a0)) 4294967295))) then (some (IntKind.u64.wrap ((IntKind.u64.wrap (((IntKind.u64.wrap (a0)) / 4294967296) * ((IntKind.u64.wrap (a0)) / 4294967296))) + (IntKind.u64.wrap (((IntKind.u64.wrap ((IntKind.u64.wrap (2 * (Go.bits .and .u64 (IntKind.u64.wrap (a0)) 4294967295))) * ((IntKind.u64.wrap (a0)) / 4294967296))) / 4294967296) + 1))), IntKind.u64.wrap ((IntKind.u64.wrap ((Go.bits .and .u64 (IntKind.u64.wrap (a0)) 4294967295) * (Go.bits .and .u64 (IntKind.u64.wrap (a0)) 4294967295))) + (IntKind.u64.wrap ((IntKind.u64.wrap ((IntKind.u64.wrap (2 * (Go.bits .and .u64 (IntKind.u64.wrap (a0)) 4294967295))) * ((IntKind.u64.wrap (a0)) / 4294967296))) * 4294967296))))) else (some (IntKind.u64.wrap ((IntKind.u64.wrap (((IntKind.u64.wrap (a0)) / 4294967296) * ((IntKind.u64.wrap (a0)) / 4294967296))) + ((IntKind.u64.wrap ((IntKind.u64.wrap (2 * (Go.bits .and .u64 (IntKind.u64.wrap (a0)) 4294967295))) * ((IntKind.u64.wrap (a0)) / 4294967296))) / 4294967296)), IntKind.u64.wrap ((IntKind.u64.wrap ((Go.bits .and .u64 (IntKind.u64.wrap (a0)) 4294967295) * (Go.bits .and .u64 (IntKind.u64.wrap (a0)) 4294967295))) + (IntKind.u64.wrap ((IntKind.u64.wrap ((IntKind.u64.wrap (2 * (Go.bits .and .u64 (IntKind.u64.wrap (a0)) 4294967295))) * ((IntKind.u64.wrap (a0)) / 4294967296))) * 4294967296))))))) = some (r1, r2) := h
 clear h
 by_cases c2 : a0 < 0
 ·rw [if_pos c2] at H
  have c2b0 : decide (a0 < 0) = true := decide_eq_true c2
  clear c2
  by_cases c3 : (IntKind.u64.wrap ((IntKind.u64.wrap ((Go.bits .and .u64 (IntKind.u64.wrap (wrap64 (-a0))) 4294967295) * (Go.bits .and .u64 (IntKind.u64.wrap (wrap64 (-a0))) 4294967295))) + (IntKind.u64.wrap ((IntKind.u64.wrap ((IntKind.u64.wrap (2 * (Go.bits .and .u64 (IntKind.u64.wrap (wrap64 (-a0))) 4294967295))) * ((IntKind.u64.wrap (wrap64 (-a0))) / 4294967296))) * 4294967296)))) < (IntKind.u64.wrap ((Go.bits .and .u64 (IntKind.u64.wrap (wrap64 (-a0))) 4294967295) * (Go.bits .and .u64 (IntKind.u64.wrap (wrap64 (-a0))) 4294967295)))
  ·rw [if_pos c3] at H
   have c3b0 : decide ((IntKind.u64.wrap ((IntKind.u64.wrap ((Go.bits .and .u64 (IntKind.u64.wrap (wrap64 (-a0))) 4294967295) * (Go.bits .and .u64 (IntKind.u64.wrap (wrap64 (-a0))) 4294967295))) + (IntKind.u64.wrap ((IntKind.u64.wrap ((IntKind.u64.wrap (2 * (Go.bits .and .u64 (IntKind.u64.wrap (wrap64 (-a0))) 4294967295))) * ((IntKind.u64.wrap (wrap64 (-a0))) / 4294967296))) * 4294967296)))) < (IntKind.u64.wrap ((Go.bits .and .u64 (IntKind.u64.wrap (wrap64 (-a0))) 4294967295) * (Go.bits .and .u64 (IntKind.u64.wrap (wrap64 (-a0))) 4294967295)))) = true := decide_eq_true c3
   clear c3
   simp only [Option.some.injEq, Prod.mk.injEq] at H
   obtain ⟨rfl, rfl⟩ := H
   go_enter Tryd.func173, Tryd.ntmps173
   go_wp2
   go_ret2
   exact ⟨by first | rfl | (simp; done) | (simp [*]; done), by repeat (first | exact Drawn0.refl _ | apply Drawn0.step)⟩
  ·rw [if_neg c3] at H
   have c3b0 : decide ((IntKind.u64.wrap ((IntKind.u64.wrap ((Go.bits .and .u64 (IntKind.u64.wrap (wrap64 (-a0))) 4294967295) * (Go.bits .and .u64 (IntKind.u64.wrap (wrap64 (-a0))) 4294967295))) + (IntKind.u64.wrap ((IntKind.u64.wrap ((IntKind.u64.wrap (2 * (Go.bits .and .u64 (IntKind.u64.wrap (wrap64 (-a0))) 4294967295))) * ((IntKind.u64.wrap (wrap64 (-a0))) / 4294967296))) * 4294967296)))) < (IntKind.u64.wrap ((Go.bits .and .u64 (IntKind.u64.wrap (wrap64 (-a0))) 4294967295) * (Go.bits .and .u64 (IntKind.u64.wrap (wrap64 (-a0))) 4294967295)))) = false := decide_eq_false c3
   clear c3
   simp only [Option.some.injEq, Prod.mk.injEq] at H
   obtain ⟨rfl, rfl⟩ := H
   go_enter Tryd.func173, Tryd.ntmps173
   go_wp2
   go_ret2
   exact ⟨by first | rfl | (simp; done) | (simp [*]; done), by repeat (first | exact Drawn0.refl _ | apply Drawn0.step)⟩
 ·rw [if_neg c2] at H
  have c2b0 : decide (a0 < 0) = false := decide_eq_false c2
  clear c2
  by_cases c4 : (IntKind.u64.wrap ((IntKind.u64.wrap ((Go.bits .and .u64 (IntKind.u64.wrap (a0)) 4294967295) * (Go.bits .and .u64 (IntKind.u64.wrap (a0)) 4294967295))) + (IntKind.u64.wrap ((IntKind.u64.wrap ((IntKind.u64.wrap (2 * (Go.bits .and .u64 (IntKind.u64.wrap (a0)) 4294967295))) * ((IntKind.u64.wrap (a0)) / 4294967296))) * 4294967296)))) < (IntKind.u64.wrap ((Go.bits .and .u64 (IntKind.u64.wrap (a0)) 4294967295) * (Go.bits .and .u64 (IntKind.u64.wrap (a0)) 4294967295)))
  ·rw [if_pos c4] at H
   have c4b0 : decide ((IntKind.u64.wrap ((IntKind.u64.wrap ((Go.bits .and .u64 (IntKind.u64.wrap (a0)) 4294967295) * (Go.bits .and .u64 (IntKind.u64.wrap (a0)) 4294967295))) + (IntKind.u64.wrap ((IntKind.u64.wrap ((IntKind.u64.wrap (2 * (Go.bits .and .u64 (IntKind.u64.wrap (a0)) 4294967295))) * ((IntKind.u64.wrap (a0)) / 4294967296))) * 4294967296)))) < (IntKind.u64.wrap ((Go.bits .and .u64 (IntKind.u64.wrap (a0)) 4294967295) * (Go.bits .and .u64 (IntKind.u64.wrap (a0)) 4294967295)))) = true := decide_eq_true c4
   clear c4
   simp only [Option.some.injEq, Prod.mk.injEq] at H
   obtain ⟨rfl, rfl⟩ := H
   go_enter Tryd.func173, Tryd.ntmps173
   go_wp2
   go_ret2
   exact ⟨by first | rfl | (simp; done) | (simp [*]; done), by repeat (first | exact Drawn0.refl _ | apply Drawn0.step)⟩
  ·rw [if_neg c4] at H
   have c4b0 : decide ((IntKind.u64.wrap ((IntKind.u64.wrap ((Go.bits .and .u64 (IntKind.u64.wrap (a0)) 4294967295) * (Go.bits .and .u64 (IntKind.u64.wrap (a0)) 4294967295))) + (IntKind.u64.wrap ((IntKind.u64.wrap ((IntKind.u64.wrap (2 * (Go.bits .and .u64 (IntKind.u64.wrap (a0)) 4294967295))) * ((IntKind.u64.wrap (a0)) / 4294967296))) * 4294967296)))) < (IntKind.u64.wrap ((Go.bits .and .u64 (IntKind.u64.wrap (a0)) 4294967295) * (Go.bits .and .u64 (IntKind.u64.wrap (a0)) 4294967295)))) = false := decide_eq_false c4
   clear c4
   simp only [Option.some.injEq, Prod.mk.injEq] at H
   obtain ⟨rfl, rfl⟩ := H
   go_enter Tryd.func173, Tryd.ntmps173
   go_wp2
   go_ret2
   exact ⟨by first | rfl | (simp; done) | (simp [*]; done), by repeat (first | exact Drawn0.refl _ | apply Drawn0.step)⟩

def zdC.f (a0 : Int) (a1 : Int) : Option (Bool) := (zcL.f a0).bind fun bt163 => ((zcL.f a1).bind fun bt165 => (if bt163.1 < (IntKind.u64.wrap ((IntKind.u64.wrap (bt165.1 * 2)) + (bt165.2 / 9223372036854775808))) then (some true) else (if bt163.1 = (IntKind.u64.wrap ((IntKind.u64.wrap (bt165.1 * 2)) + (bt165.2 / 9223372036854775808))) then (some (decide (bt163.2 < (IntKind.u64.wrap (bt165.2 * 2))))) else (some false))))
set_option maxHeartbeats 8000000 in
set_option maxRecDepth 100000 in
theorem zdC.calls (a0 : Int) (a1 : Int) (r : Bool) (w : World) (h : zdC.f a0 a1 = some r) :
  Calls Tryd.prog 146 #[.int .i64 a0, .int .i64 a1] w fun e w' => e = .returned (.bool r) ∧ Drawn0 w w' := by
 have H : ((zcL.f a0).bind fun bt163 => ((zcL.f a1).bind fun bt165 => (if bt163.1 < (IntKind.u64.wrap ((IntKind.u64.wrap (bt165.1 * 2)) + (bt165.2 / 9223372036854775808))) then (some true) else (if bt163.1 = (IntKind.u64.wrap ((IntKind.u64.wrap (bt165.1 * 2)) + (bt165.2 / 9223372036854775808))) then (some (decide (bt163.2 < (IntKind.u64.wrap (bt165.2 * 2))))) else (some false))))) = some r := h
 clear h
 replace H := Option.bind_eq_some_iff.mp H
 obtain ⟨⟨t163, t164⟩, A30, H⟩ := H
 replace H : ((zcL.f a1).bind fun bt165 => (if t163 < (IntKind.u64.wrap ((IntKind.u64.wrap (bt165.1 * 2)) + (bt165.2 / 9223372036854775808))) then (some true) else (if t163 = (IntKind.u64.wrap ((IntKind.u64.wrap (bt165.1 * 2)) + (bt165.2 / 9223372036854775808))) then (some (decide (t164 < (IntKind.u64.wrap (bt165.2 * 2))))) else (some false)))) = some r := H
 have A3 := zaJ A30
 clear A30
 replace H := Option.bind_eq_some_iff.mp H
 obtain ⟨⟨t165, t166⟩, A40, H⟩ := H
 replace H : (if t163 < (IntKind.u64.wrap ((IntKind.u64.wrap (t165 * 2)) + (t166 / 9223372036854775808))) then (some true) else (if t163 = (IntKind.u64.wrap ((IntKind.u64.wrap (t165 * 2)) + (t166 / 9223372036854775808))) then (some (decide (t164 < (IntKind.u64.wrap (t166 * 2))))) else (some false))) = some r := H
 have A4 := zaJ A40
 clear A40
 by_cases c5 : t163 < (IntKind.u64.wrap ((IntKind.u64.wrap (t165 * 2)) + (t166 / 9223372036854775808)))
 ·rw [if_pos c5] at H
  have c5b0 : decide (t163 < (IntKind.u64.wrap ((IntKind.u64.wrap (t165 * 2)) + (t166 / 9223372036854775808)))) = true := decide_eq_true c5
  clear c5
  obtain rfl := Option.some.inj H
  go_enter Tryd.func146, Tryd.ntmps146
  go_wp2_with (first | ((with_reducible refine zaK (f := 173) rfl ?_); refine zbQ (some 11) rfl rfl Tryd.func173 (by kernel_rfl) rfl #[.int .i64 a0] rfl (by (try simp only [List.map_toArray, List.map_cons, List.map_nil]); first | done | rfl | (simp only [List.length_drop, List.length_take]; rfl)) ?_; (with_reducible refine (zcL.calls a0 t163 t164 _ A3.out).mono ?_); rintro e w' ⟨rfl, ⟨nd, rfl⟩⟩; refine ⟨_, rfl, ?_⟩) | ((with_reducible refine zaK (f := 173) rfl ?_); refine zbQ (some 16) rfl rfl Tryd.func173 (by kernel_rfl) rfl #[.int .i64 a1] rfl (by (try simp only [List.map_toArray, List.map_cons, List.map_nil]); first | done | rfl | (simp only [List.length_drop, List.length_take]; rfl)) ?_; (with_reducible refine (zcL.calls a1 t165 t166 _ A4.out).mono ?_); rintro e w' ⟨rfl, ⟨nd, rfl⟩⟩; refine ⟨_, rfl, ?_⟩))
  go_ret
  exact ⟨by first | rfl | (simp; done) | (simp [*]; done), by repeat (first | exact Drawn0.refl _ | apply Drawn0.step)⟩
 ·rw [if_neg c5] at H
  have c5b0 : decide (t163 < (IntKind.u64.wrap ((IntKind.u64.wrap (t165 * 2)) + (t166 / 9223372036854775808)))) = false := decide_eq_false c5
  clear c5
  by_cases c6 : t163 = (IntKind.u64.wrap ((IntKind.u64.wrap (t165 * 2)) + (t166 / 9223372036854775808)))
  ·rw [if_pos c6] at H
   have c6b0 : (t163 == (IntKind.u64.wrap ((IntKind.u64.wrap (t165 * 2)) + (t166 / 9223372036854775808)))) = true := beq_iff_eq.mpr c6
   have c6b1 : (t163 != (IntKind.u64.wrap ((IntKind.u64.wrap (t165 * 2)) + (t166 / 9223372036854775808)))) = false := bne_eq_false_iff_eq.mpr c6
   clear c6
   obtain rfl := Option.some.inj H
   go_enter Tryd.func146, Tryd.ntmps146
   go_wp2_with (first | ((with_reducible refine zaK (f := 173) rfl ?_); refine zbQ (some 11) rfl rfl Tryd.func173 (by kernel_rfl) rfl #[.int .i64 a0] rfl (by (try simp only [List.map_toArray, List.map_cons, List.map_nil]); first | done | rfl | (simp only [List.length_drop, List.length_take]; rfl)) ?_; (with_reducible refine (zcL.calls a0 t163 t164 _ A3.out).mono ?_); rintro e w' ⟨rfl, ⟨nd, rfl⟩⟩; refine ⟨_, rfl, ?_⟩) | ((with_reducible refine zaK (f := 173) rfl ?_); refine zbQ (some 16) rfl rfl Tryd.func173 (by kernel_rfl) rfl #[.int .i64 a1] rfl (by (try simp only [List.map_toArray, List.map_cons, List.map_nil]); first | done | rfl | (simp only [List.length_drop, List.length_take]; rfl)) ?_; (with_reducible refine (zcL.calls a1 t165 t166 _ A4.out).mono ?_); rintro e w' ⟨rfl, ⟨nd, rfl⟩⟩; refine ⟨_, rfl, ?_⟩))
   go_ret
   exact ⟨by first | rfl | (simp; done) | (simp [*]; done), by repeat (first | exact Drawn0.refl _ | apply Drawn0.step)⟩
  ·rw [if_neg c6] at H
   have c6b0 : (t163 == (IntKind.u64.wrap ((IntKind.u64.wrap (t165 * 2)) + (t166 / 9223372036854775808)))) = false := beq_eq_false_iff_ne.mpr c6
   have c6b1 : (t163 != (IntKind.u64.wrap ((IntKind.u64.wrap (t165 * 2)) + (t166 / 9223372036854775808)))) = true := bne_iff_ne.mpr c6
   obtain rfl := Option.some.inj H
   go_enter Tryd.func146, Tryd.ntmps146
   go_wp2_with (first | ((with_reducible refine zaK (f := 173) rfl ?_); refine zbQ (some 11) rfl rfl Tryd.func173 (by kernel_rfl) rfl #[.int .i64 a0] rfl (by (try simp only [List.map_toArray, List.map_cons, List.map_nil]); first | done | rfl | (simp only [List.length_drop, List.length_take]; rfl)) ?_; (with_reducible refine (zcL.calls a0 t163 t164 _ A3.out).mono ?_); rintro e w' ⟨rfl, ⟨nd, rfl⟩⟩; refine ⟨_, rfl, ?_⟩) | ((with_reducible refine zaK (f := 173) rfl ?_); refine zbQ (some 16) rfl rfl Tryd.func173 (by kernel_rfl) rfl #[.int .i64 a1] rfl (by (try simp only [List.map_toArray, List.map_cons, List.map_nil]); first | done | rfl | (simp only [List.length_drop, List.length_take]; rfl)) ?_; (with_reducible refine (zcL.calls a1 t165 t166 _ A4.out).mono ?_); rintro e w' ⟨rfl, ⟨nd, rfl⟩⟩; refine ⟨_, rfl, ?_⟩))
   go_ret
   exact ⟨by first | rfl | (simp; done) | (simp [*]; done), by repeat (first | exact Drawn0.refl _ | apply Drawn0.step)⟩

mutual
def zaO.j0 : Nat → Bool → Int → Int → Int → Option (Int)
 | 0, _, _, _, _ => none
 | k + 1, x3, x168000, x168001, x168002 => if x3 = true then (some 0) else (if x168000 ≥ 0 then (zaO.j1 k (decide (x168001 ≥ 0)) x168000 x168001 x168002) else (zaO.j1 k false x168000 x168001 x168002))
def zaO.j1 : Nat → Bool → Int → Int → Int → Option (Int)
 | 0, _, _, _, _ => none
 | k + 1, x12, x168000, x168001, x168002 => if x12 = true then (some 1) else (if x168000 ≤ 0 then (zaO.j2 k (decide (x168001 ≤ 0)) x168000 x168001 x168002) else (zaO.j2 k false x168000 x168001 x168002))
def zaO.j2 : Nat → Bool → Int → Int → Int → Option (Int)
 | 0, _, _, _, _ => none
 | k + 1, x21, x168000, x168001, x168002 => if x21 = true then (some (-1)) else ((zdC.f x168000 x168001).bind fun t168 => (if (t168 == (decide (x168001 > 0))) = true then (some 1) else (some (-1))))
end
def zaO.f (k : Nat) (a0_0 : Int) (a0_1 : Int) (a0_2 : Int) : Option (Int) := if a0_0 = 0 then (zaO.j0 k (a0_1 == 0) a0_0 a0_1 a0_2) else (zaO.j0 k false a0_0 a0_1 a0_2)
theorem zaO.mono_l : ∀ k, (∀ y0 y1 y2 y3, LeO (zaO.j0 k y0 y1 y2 y3) (zaO.j0 (k + 1) y0 y1 y2 y3)) ∧ (∀ y0 y1 y2 y3, LeO (zaO.j1 k y0 y1 y2 y3) (zaO.j1 (k + 1) y0 y1 y2 y3)) ∧ (∀ y0 y1 y2 y3, LeO (zaO.j2 k y0 y1 y2 y3) (zaO.j2 (k + 1) y0 y1 y2 y3))
 | 0 => ⟨fun _ _ _ _ r h => by simp [zaO.j0] at h, fun _ _ _ _ r h => by simp [zaO.j1] at h, fun _ _ _ _ r h => by simp [zaO.j2] at h⟩
 | k + 1 => by
  obtain ⟨ih0, ih1, ih2⟩ := zaO.mono_l k
  refine ⟨?_, ?_, ?_⟩
  ·intro y0 y1 y2 y3
   unfold zaO.j0
   repeat' first
   | (with_reducible exact ih0 _ _ _ _)
   | (with_reducible exact ih1 _ _ _ _)
   | (with_reducible exact ih2 _ _ _ _)
   | (with_reducible exact LeO.refl _)
   | (with_reducible exact LeO.none _)
   | (with_reducible refine LeO.ite ?_ ?_)
   | (with_reducible refine LeO.bind ?_ (fun _ => ?_))
   | exact ih0 _ _ _ _
   | exact ih1 _ _ _ _
   | exact ih2 _ _ _ _
   | exact LeO.none _
   | refine LeO.ite ?_ ?_
   | refine LeO.bind ?_ (fun _ => ?_)
  ·intro y0 y1 y2 y3
   unfold zaO.j1
   repeat' first
   | (with_reducible exact ih0 _ _ _ _)
   | (with_reducible exact ih1 _ _ _ _)
   | (with_reducible exact ih2 _ _ _ _)
   | (with_reducible exact LeO.refl _)
   | (with_reducible exact LeO.none _)
   | (with_reducible refine LeO.ite ?_ ?_)
   | (with_reducible refine LeO.bind ?_ (fun _ => ?_))
   | exact ih0 _ _ _ _
   | exact ih1 _ _ _ _
   | exact ih2 _ _ _ _
   | exact LeO.none _
   | refine LeO.ite ?_ ?_
   | refine LeO.bind ?_ (fun _ => ?_)
  ·intro y0 y1 y2 y3
   unfold zaO.j2
   repeat' first
   | (with_reducible exact ih0 _ _ _ _)
   | (with_reducible exact ih1 _ _ _ _)
   | (with_reducible exact ih2 _ _ _ _)
   | (with_reducible exact LeO.refl _)
   | (with_reducible exact LeO.none _)
   | (with_reducible refine LeO.ite ?_ ?_)
   | (with_reducible refine LeO.bind ?_ (fun _ => ?_))
   | exact ih0 _ _ _ _
   | exact ih1 _ _ _ _
   | exact ih2 _ _ _ _
   | exact LeO.none _
   | refine LeO.ite ?_ ?_
   | refine LeO.bind ?_ (fun _ => ?_)
theorem zaO.mono : ∀ a0 a1 a2 k, LeO (zaO.f k a0 a1 a2) (zaO.f (k + 1) a0 a1 a2) := by
 intro a0 a1 a2 k
 obtain ⟨ih0, ih1, ih2⟩ := zaO.mono_l k
 unfold zaO.f
 repeat' first
   | (with_reducible exact ih0 _ _ _ _)
   | (with_reducible exact ih1 _ _ _ _)
   | (with_reducible exact ih2 _ _ _ _)
   | (with_reducible exact LeO.refl _)
   | (with_reducible exact LeO.none _)
   | (with_reducible refine LeO.ite ?_ ?_)
   | (with_reducible refine LeO.bind ?_ (fun _ => ?_))
   | exact ih0 _ _ _ _
   | exact ih1 _ _ _ _
   | exact ih2 _ _ _ _
   | exact LeO.none _
   | refine LeO.ite ?_ ?_
   | refine LeO.bind ?_ (fun _ => ?_)
set_option maxHeartbeats 8000000 in
set_option maxRecDepth 100000 in
theorem zaO.calls (k : Nat) (a0_0 : Int) (a0_1 : Int) (a0_2 : Int) (r : Int) (w : World) (h : zaO.f k a0_0 a0_1 a0_2 = some r) :
  Calls Tryd.prog 112 #[.agg #[.int .i64 a0_0, .int .i64 a0_1, .int .i64 a0_2]] w fun e w' => e = .returned (.int .i64 r) ∧ Below w.heap.size w w' := by
 have hu92 := Tryd.underlying92
 have HB := zaJ (Below.refl w.heap.size w)
 have H : (if a0_0 = 0 then (zaO.j0 k (a0_1 == 0) a0_0 a0_1 a0_2) else (zaO.j0 k false a0_0 a0_1 a0_2)) = some r := h
 clear h
 have HC2 := zaJ H
 clear H
 go_enter Tryd.func112, Tryd.ntmps112
 go_upto_region 1 with (first | ((with_reducible refine zaQ (N := 1) rfl ?_); refine bx_ 1 #[.int .i64 a0_0, .int .i64 a0_1, .int .i64 a0_2] 92 ?_; intro gb167 hg w3 hbox hb; have n0_ := (ns_ hb); have n1_ := zaJ (hbox); have n2_ := (ng_ hg); have n3_ := n2_; clear HB; have HB := n0_; have BK167 := n1_; have GW167 := n2_; have GE167 := n3_; clear n0_ n1_ n2_ n3_; clear hb hbox hg))
 repeat (go_quiet (first | ((with_reducible refine zaQ (N := 1) rfl ?_); refine bx_ 1 #[.int .i64 a0_0, .int .i64 a0_1, .int .i64 a0_2] 92 ?_; intro gb167 hg w3 hbox hb; have n0_ := (ns_ hb); have n1_ := zaJ (hbox); have n2_ := (ng_ hg); have n3_ := n2_; clear HB; have HB := n0_; have BK167 := n1_; have GW167 := n2_; have GE167 := n3_; clear n0_ n1_ n2_ n3_; clear hb hbox hg)); go_upto_region 1 with (first | ((with_reducible refine zaQ (N := 1) rfl ?_); refine bx_ 1 #[.int .i64 a0_0, .int .i64 a0_1, .int .i64 a0_2] 92 ?_; intro gb167 hg w3 hbox hb; have n0_ := (ns_ hb); have n1_ := zaJ (hbox); have n2_ := (ng_ hg); have n3_ := n2_; clear HB; have HB := n0_; have BK167 := n1_; have GW167 := n2_; have GE167 := n3_; clear n0_ n1_ n2_ n3_; clear hb hbox hg)))
 (try simp only [Act.put, set_a_, set_b_, set_c_])
 go_cut [3] (fun v3 wc => ∃ (kq : Nat) (x3_1 : Bool), v3 = .bool x3_1 ∧ Aside0 (zaO.j0 kq x3_1 a0_0 a0_1 a0_2 = some r) ∧ Aside0 (kq ≤ k) ∧ Aside0 (wc.heap[gb167]? = some (.cells #[.int .i64 a0_0, .int .i64 a0_1, .int .i64 a0_2] 92 (0, 0))) ∧ Aside0 (Below w.heap.size w wc))
 case first =>
  have H := HC2.out
  clear HC2
  by_cases c4 : a0_0 = 0
  ·rw [if_pos c4] at H
   have c4b0 : (a0_0 == 0) = true := beq_iff_eq.mpr c4
   have c4b1 : (a0_0 != 0) = false := bne_eq_false_iff_eq.mpr c4
   clear c4
   (first | rw [c4b0] | (simp only [zbW, zbY]; rw [c4b0]) | skip)
   have H' := zaJ H
   clear H
   obtain ⟨hcz5_0, hcz5_1, hcz5_2⟩ := zeI BK167.out
   obtain ⟨hfz5_0, hfz5_1, hfz5_2⟩ := zeH BK167.out
   go_wp2
   repeat (go_quiet (fail); try go_wp2)
   go_meet
   case rel => exact ⟨_, ((a0_1 == 0)), (by first | rfl | (simp; done) | (simp [*]; done)), H', ⟨by first | omega | exact Nat.le_refl _⟩, ⟨bk_⟩, ⟨bb_⟩⟩
  ·rw [if_neg c4] at H
   have c4b0 : (a0_0 == 0) = false := beq_eq_false_iff_ne.mpr c4
   have c4b1 : (a0_0 != 0) = true := bne_iff_ne.mpr c4
   (first | rw [c4b0] | (simp only [zbW, zbY]; rw [c4b0]) | skip)
   have H' := zaJ H
   clear H
   obtain ⟨hcz6_0, hcz6_1, hcz6_2⟩ := zeI BK167.out
   obtain ⟨hfz6_0, hfz6_1, hfz6_2⟩ := zeH BK167.out
   go_wp2
   repeat (go_quiet (fail); try go_wp2)
   go_meet
   case rel => exact ⟨_, (false), (by first | rfl | (simp; done) | (simp [*]; done)), H', ⟨by first | omega | exact Nat.le_refl _⟩, ⟨bk_⟩, ⟨bb_⟩⟩
 case rest =>
  clear HC2
  try clear c1
  try clear p2
  try clear c4
  try clear c4b0
  try clear c4b1
  try clear hcz5_0
  try clear hcz5_1
  try clear hcz5_2
  try clear hcz6_0
  try clear hcz6_1
  try clear hcz6_2
  try clear hfz5_0
  try clear hfz5_1
  try clear hfz5_2
  try clear hfz6_0
  try clear hfz6_1
  try clear hfz6_2
  obtain ⟨kq, x3_1, rfl, HA, HJ1, BK167, HB⟩ := hcut
  cases kq with
  | zero => exact absurd HA.out (by simp [zaO.j0])
  | succ kj1 =>
   have H := HA.out
   clear HA
   simp only [zaO.j0] at H
   by_cases c7 : x3_1 = true
   ·subst c7
    have H1 : (some 0) = some r := by rw [if_pos rfl] at H; exact H
    clear H
    have H := H1
    clear H1
    obtain rfl := Option.some.inj H
    go_wp2
    repeat (go_quiet (fail); try go_wp2)
    go_ret
    exact ⟨by first | rfl | (simp [zaI, zaH] <;> rfl) | (simp [*, zaI, zaH] <;> rfl), bb_⟩
   ·replace c7 := Bool.eq_false_iff.mpr c7
    subst c7
    have H1 : (if a0_0 ≥ 0 then (zaO.j1 kj1 (decide (a0_1 ≥ 0)) a0_0 a0_1 a0_2) else (zaO.j1 kj1 false a0_0 a0_1 a0_2)) = some r := by rw [if_neg (show ¬ (false = true) by decide)] at H; exact H
    clear H
    have H := H1
    clear H1
    have HC8 := zaJ H
    clear H
    go_upto_region 3 with (fail)
    repeat (go_quiet (fail); go_upto_region 3 with (fail))
    go_cut [12] (fun v12 wc => ∃ (kq : Nat) (x12_7 : Bool), v12 = .bool x12_7 ∧ Aside0 (zaO.j1 kq x12_7 a0_0 a0_1 a0_2 = some r) ∧ Aside0 (kq ≤ kj1) ∧ Aside0 (wc.heap[gb167]? = some (.cells #[.int .i64 a0_0, .int .i64 a0_1, .int .i64 a0_2] 92 (0, 0))) ∧ Aside0 (Below w.heap.size w wc))
    case first =>
     have H := HC8.out
     clear HC8
     by_cases c9 : a0_0 ≥ 0
     ·rw [if_pos c9] at H
      have c9b0 : decide (0 ≤ a0_0) = true := decide_eq_true c9
      clear c9
      (first | rw [c9b0] | (simp only [zbW, zbY]; rw [c9b0]) | skip)
      have H' := zaJ H
      clear H
      obtain ⟨hcz10_0, hcz10_1, hcz10_2⟩ := zeI BK167.out
      obtain ⟨hfz10_0, hfz10_1, hfz10_2⟩ := zeH BK167.out
      go_wp2
      repeat (go_quiet (fail); try go_wp2)
      go_meet
      case rel => exact ⟨_, (decide (a0_1 ≥ 0)), (by first | rfl | (simp; done) | (simp [*]; done)), H', ⟨by have := HJ1.out; first | omega | exact Nat.le_refl _⟩, ⟨bk_⟩, ⟨bb_⟩⟩
     ·rw [if_neg c9] at H
      have c9b0 : decide (0 ≤ a0_0) = false := decide_eq_false c9
      clear c9
      (first | rw [c9b0] | (simp only [zbW, zbY]; rw [c9b0]) | skip)
      have H' := zaJ H
      clear H
      obtain ⟨hcz11_0, hcz11_1, hcz11_2⟩ := zeI BK167.out
      obtain ⟨hfz11_0, hfz11_1, hfz11_2⟩ := zeH BK167.out
      go_wp2
      repeat (go_quiet (fail); try go_wp2)
      go_meet
      case rel => exact ⟨_, (false), (by first | rfl | (simp; done) | (simp [*]; done)), H', ⟨by have := HJ1.out; first | omega | exact Nat.le_refl _⟩, ⟨bk_⟩, ⟨bb_⟩⟩
    case rest =>
     clear HC8
     try clear c1
     try clear p2
     try clear c4
     try clear c4b0
     try clear c4b1
     try clear c7
     try clear c9
     try clear c9b0
     try clear c11
     try clear hcz10_0
     try clear hcz10_1
     try clear hcz10_2
     try clear hcz11_0
     try clear hcz11_1
     try clear hcz11_2
     try clear hcz5_0
     try clear hcz5_1
     try clear hcz5_2
     try clear hcz6_0
     try clear hcz6_1
     try clear hcz6_2
     try clear hfz10_0
     try clear hfz10_1
     try clear hfz10_2
     try clear hfz11_0
     try clear hfz11_1
     try clear hfz11_2
     try clear hfz5_0
     try clear hfz5_1
     try clear hfz5_2
     try clear hfz6_0
     try clear hfz6_1
     try clear hfz6_2
     try clear p2
     obtain ⟨kq, x12_7, rfl, HA, HJ7, BK167, HB⟩ := hcut
     cases kq with
     | zero => exact absurd HA.out (by simp [zaO.j1])
     | succ kj7 =>
      have H := HA.out
      clear HA
      simp only [zaO.j1] at H
      by_cases c12 : x12_7 = true
      ·subst c12
       have H1 : (some 1) = some r := by rw [if_pos rfl] at H; exact H
       clear H
       have H := H1
       clear H1
       obtain rfl := Option.some.inj H
       go_wp2
       repeat (go_quiet (fail); try go_wp2)
       go_ret
       exact ⟨by first | rfl | (simp [zaI, zaH] <;> rfl) | (simp [*, zaI, zaH] <;> rfl), bb_⟩
      ·replace c12 := Bool.eq_false_iff.mpr c12
       subst c12
       have H1 : (if a0_0 ≤ 0 then (zaO.j2 kj7 (decide (a0_1 ≤ 0)) a0_0 a0_1 a0_2) else (zaO.j2 kj7 false a0_0 a0_1 a0_2)) = some r := by rw [if_neg (show ¬ (false = true) by decide)] at H; exact H
       clear H
       have H := H1
       clear H1
       have HC13 := zaJ H
       clear H
       go_upto_region 5 with (fail)
       repeat (go_quiet (fail); go_upto_region 5 with (fail))
       go_cut [21] (fun v21 wc => ∃ (kq : Nat) (x21_12 : Bool), v21 = .bool x21_12 ∧ Aside0 (zaO.j2 kq x21_12 a0_0 a0_1 a0_2 = some r) ∧ Aside0 (kq ≤ kj7) ∧ Aside0 (wc.heap[gb167]? = some (.cells #[.int .i64 a0_0, .int .i64 a0_1, .int .i64 a0_2] 92 (0, 0))) ∧ Aside0 (Below w.heap.size w wc))
       case first =>
        have H := HC13.out
        clear HC13
        by_cases c14 : a0_0 ≤ 0
        ·rw [if_pos c14] at H
         have c14b0 : decide (a0_0 ≤ 0) = true := decide_eq_true c14
         clear c14
         (first | rw [c14b0] | (simp only [zbW, zbY]; rw [c14b0]) | skip)
         have H' := zaJ H
         clear H
         obtain ⟨hcz15_0, hcz15_1, hcz15_2⟩ := zeI BK167.out
         obtain ⟨hfz15_0, hfz15_1, hfz15_2⟩ := zeH BK167.out
         go_wp2
         repeat (go_quiet (fail); try go_wp2)
         go_meet
         case rel => exact ⟨_, (decide (a0_1 ≤ 0)), (by first | rfl | (simp; done) | (simp [*]; done)), H', ⟨by have := HJ1.out; have := HJ7.out; first | omega | exact Nat.le_refl _⟩, ⟨bk_⟩, ⟨bb_⟩⟩
        ·rw [if_neg c14] at H
         have c14b0 : decide (a0_0 ≤ 0) = false := decide_eq_false c14
         clear c14
         (first | rw [c14b0] | (simp only [zbW, zbY]; rw [c14b0]) | skip)
         have H' := zaJ H
         clear H
         obtain ⟨hcz16_0, hcz16_1, hcz16_2⟩ := zeI BK167.out
         obtain ⟨hfz16_0, hfz16_1, hfz16_2⟩ := zeH BK167.out
         go_wp2
         repeat (go_quiet (fail); try go_wp2)
         go_meet
         case rel => exact ⟨_, (false), (by first | rfl | (simp; done) | (simp [*]; done)), H', ⟨by have := HJ1.out; have := HJ7.out; first | omega | exact Nat.le_refl _⟩, ⟨bk_⟩, ⟨bb_⟩⟩
       case rest =>
        clear HC13
        try clear c1
        try clear p2
        try clear c4
        try clear c4b0
        try clear c4b1
        try clear c7
        try clear c9
        try clear c9b0
        try clear c11
        try clear c12
        try clear c14
        try clear c14b0
        try clear hcz10_0
        try clear hcz10_1
        try clear hcz10_2
        try clear hcz11_0
        try clear hcz11_1
        try clear hcz11_2
        try clear hcz15_0
        try clear hcz15_1
        try clear hcz15_2
        try clear hcz16_0
        try clear hcz16_1
        try clear hcz16_2
        try clear hcz5_0
        try clear hcz5_1
        try clear hcz5_2
        try clear hcz6_0
        try clear hcz6_1
        try clear hcz6_2
        try clear hfz10_0
        try clear hfz10_1
        try clear hfz10_2
        try clear hfz11_0
        try clear hfz11_1
        try clear hfz11_2
        try clear hfz15_0
        try clear hfz15_1
        try clear hfz15_2
        try clear hfz16_0
        try clear hfz16_1
        try clear hfz16_2
        try clear hfz5_0
        try clear hfz5_1
        try clear hfz5_2
        try clear hfz6_0
        try clear hfz6_1
        try clear hfz6_2
        try clear p2
        obtain ⟨kq, x21_12, rfl, HA, HJ12, BK167, HB⟩ := hcut
        cases kq with
        | zero => exact absurd HA.out (by simp [zaO.j2])
        | succ kj12 =>
         have H := HA.out
         clear HA
         simp only [zaO.j2] at H
         by_cases c17 : x21_12 = true
         ·subst c17
          have H1 : (some (-1)) = some r := by rw [if_pos rfl] at H; exact H
          clear H
          have H := H1
          clear H1
          obtain rfl := Option.some.inj H
          go_wp2
          repeat (go_quiet (fail); try go_wp2)
          go_ret
          exact ⟨by first | rfl | (simp [zaI, zaH] <;> rfl) | (simp [*, zaI, zaH] <;> rfl), bb_⟩
         ·replace c17 := Bool.eq_false_iff.mpr c17
          subst c17
          have H1 : ((zdC.f a0_0 a0_1).bind fun t168 => (if (t168 == (decide (a0_1 > 0))) = true then (some 1) else (some (-1)))) = some r := by rw [if_neg (show ¬ (false = true) by decide)] at H; exact H
          clear H
          have H := H1
          clear H1
          replace H := Option.bind_eq_some_iff.mp H
          obtain ⟨t168, A180, H⟩ := H
          replace H : (if (t168 == (decide (a0_1 > 0))) = true then (some 1) else (some (-1))) = some r := H
          have A18 := zaJ A180
          clear A180
          by_cases c19 : (t168 == (decide (a0_1 > 0))) = true
          ·rw [if_pos c19] at H
           have c19b0 : (t168 == (decide (a0_1 > 0))) = true := c19
           (try (have c19b1 : decide (t168 = (decide (a0_1 > 0))) = true := by simpa using c19))
           (try (have c19b2 : (t168 == (decide (a0_1 > 0))) = true := by simpa using c19))
           clear c19
           obtain rfl := Option.some.inj H
           obtain ⟨hcz20_0, hcz20_1, hcz20_2⟩ := zeI BK167.out
           obtain ⟨hfz20_0, hfz20_1, hfz20_2⟩ := zeH BK167.out
           go_wp2_with (first | (go_at_call 146; (with_reducible refine (zdC.calls a0_0 a0_1 t168 _ A18.out).mono ?_); rintro e w' ⟨rfl, ⟨nd, rfl⟩⟩; (try first | exact ⟨rfl, _, World.drewN_drewN _ _ _⟩ | exact ⟨rfl, _, Eq.trans (World.drewN_drewN _ _ _) (congrArg (World.drewN _) (Nat.add_assoc _ _ _))⟩)))
           repeat (go_quiet (first | (go_at_call 146; (with_reducible refine (zdC.calls a0_0 a0_1 t168 _ A18.out).mono ?_); rintro e w' ⟨rfl, ⟨nd, rfl⟩⟩; (try first | exact ⟨rfl, _, World.drewN_drewN _ _ _⟩ | exact ⟨rfl, _, Eq.trans (World.drewN_drewN _ _ _) (congrArg (World.drewN _) (Nat.add_assoc _ _ _))⟩))); try go_wp2_with (first | (go_at_call 146; (with_reducible refine (zdC.calls a0_0 a0_1 t168 _ A18.out).mono ?_); rintro e w' ⟨rfl, ⟨nd, rfl⟩⟩; (try first | exact ⟨rfl, _, World.drewN_drewN _ _ _⟩ | exact ⟨rfl, _, Eq.trans (World.drewN_drewN _ _ _) (congrArg (World.drewN _) (Nat.add_assoc _ _ _))⟩))))
           go_ret
           exact ⟨by first | rfl | (simp [zaI, zaH] <;> rfl) | (simp [*, zaI, zaH] <;> rfl), bb_⟩
          ·rw [if_neg c19] at H
           have c19b0 : (t168 == (decide (a0_1 > 0))) = false := by simpa using c19
           (try (have c19b1 : decide (t168 = (decide (a0_1 > 0))) = false := by simpa using c19))
           (try (have c19b2 : (t168 == (decide (a0_1 > 0))) = false := by simpa using c19))
           (try (have c19b3 : ¬ (t168 = (decide (a0_1 > 0))) := by simpa using c19))
           clear c19
           obtain rfl := Option.some.inj H
           obtain ⟨hcz21_0, hcz21_1, hcz21_2⟩ := zeI BK167.out
           obtain ⟨hfz21_0, hfz21_1, hfz21_2⟩ := zeH BK167.out
           go_wp2_with (first | (go_at_call 146; (with_reducible refine (zdC.calls a0_0 a0_1 t168 _ A18.out).mono ?_); rintro e w' ⟨rfl, ⟨nd, rfl⟩⟩; (try first | exact ⟨rfl, _, World.drewN_drewN _ _ _⟩ | exact ⟨rfl, _, Eq.trans (World.drewN_drewN _ _ _) (congrArg (World.drewN _) (Nat.add_assoc _ _ _))⟩)))
           repeat (go_quiet (first | (go_at_call 146; (with_reducible refine (zdC.calls a0_0 a0_1 t168 _ A18.out).mono ?_); rintro e w' ⟨rfl, ⟨nd, rfl⟩⟩; (try first | exact ⟨rfl, _, World.drewN_drewN _ _ _⟩ | exact ⟨rfl, _, Eq.trans (World.drewN_drewN _ _ _) (congrArg (World.drewN _) (Nat.add_assoc _ _ _))⟩))); try go_wp2_with (first | (go_at_call 146; (with_reducible refine (zdC.calls a0_0 a0_1 t168 _ A18.out).mono ?_); rintro e w' ⟨rfl, ⟨nd, rfl⟩⟩; (try first | exact ⟨rfl, _, World.drewN_drewN _ _ _⟩ | exact ⟨rfl, _, Eq.trans (World.drewN_drewN _ _ _) (congrArg (World.drewN _) (Nat.add_assoc _ _ _))⟩))))
           go_ret
           exact ⟨by first | rfl | (simp [zaI, zaH] <;> rfl) | (simp [*, zaI, zaH] <;> rfl), bb_⟩

def zdF.f (a0 : Int) : Option (Int) := some (Int.tmod (wrap64 ((Int.tmod a0 16) + 16)) 16)
set_option maxHeartbeats 8000000 in
set_option maxRecDepth 100000 in
theorem zdF.calls (a0 : Int) (r : Int) (w : World) (h : zdF.f a0 = some r) :
  Calls Tryd.prog 103 #[.int .i64 a0] w fun e w' => e = .returned (.int .i64 r) ∧ Drawn0 w w' := by
 have H : (some (Int.tmod (wrap64 ((Int.tmod a0 16) + 16)) 16)) = some r := h
 clear h
 obtain rfl := Option.some.inj H
 go_enter Tryd.func103, Tryd.ntmps103
 go_wp2
 go_ret
 exact ⟨by first | rfl | (simp; done) | (simp [*]; done), by repeat (first | exact Drawn0.refl _ | apply Drawn0.step)⟩

end Go.Proofs.YtmajpmofeddknaaDoor.PFnExactInPolygon
