-- Printed for this claim by this session's program pp.py, which drives the kit's print with additions. Not trusted: Lean checks it.
import Derived.Test.YtmajpmofeddknaaDoorV1PFnExactValidPolygonx0
import Derived.Test.YtmajpmofeddknaaDoorV1PFnExactValidPolygonx8
namespace Go.Proofs.YtmajpmofeddknaaDoor.PFnExactValidPolygon
open Go.RowKit Go.Proofs.YtmajpmofeddknaaDoorW.PrintWords Go.Proofs.YtmajpmofeddknaaDoorW.PrintLast Go.Proofs.YtmajpmofeddknaaDoorW.PrintMore
attribute [local go_sem] zdZ zdY zeP zeQ zdG zdH zdX zeA   -- for this text's walks alone
set_option linter.unusedVariables false
set_option linter.unusedSimpArgs false

def zbY.f (k : Nat) (a0_0 : Int) (a0_1 : Int) (a0_2 : Int) (a1_0 : Int) (a1_1 : Int) (a1_2 : Int) : Option (Int × Int × Int) := if 0 ≤ (wrap64 ((mx a0_2 a1_2) - a0_2)) then (if 0 ≤ (wrap64 ((mx a0_2 a1_2) - a1_2)) then ((zaS.f k (wrap64 ((shl .i64 a0_0 (wrap64 ((mx a0_2 a1_2) - a0_2))) + (shl .i64 a1_0 (wrap64 ((mx a0_2 a1_2) - a1_2))))) (wrap64 ((shl .i64 a0_1 (wrap64 ((mx a0_2 a1_2) - a0_2))) + (shl .i64 a1_1 (wrap64 ((mx a0_2 a1_2) - a1_2))))) (mx a0_2 a1_2)).bind fun bt293 => (some (bt293.1, bt293.2.1, bt293.2.2))) else (none)) else (none)
theorem zbY.mono : ∀ a0 a1 a2 a3 a4 a5 k, LeO (zbY.f k a0 a1 a2 a3 a4 a5) (zbY.f (k + 1) a0 a1 a2 a3 a4 a5) := by
 intro a0 a1 a2 a3 a4 a5 k
 unfold zbY.f
 repeat' first
   | (with_reducible exact zaS.mono _ _ _ _)
   | (with_reducible exact LeO.refl _)
   | (with_reducible exact LeO.none _)
   | (with_reducible refine LeO.ite ?_ ?_)
   | (with_reducible refine LeO.bind ?_ (fun _ => ?_))
   | exact zaS.mono _ _ _ _
   | exact LeO.none _
   | refine LeO.ite ?_ ?_
   | refine LeO.bind ?_ (fun _ => ?_)
def zbY.T2 : Bool × List (List Nat × List Nat) := (true, [([], []), ([0], [0]), ([], []), ([], []), ([3], [3]), ([2, 4], [2, 4]), ([1, 5], [1, 5]), ([], []), ([7], [7]), ([], []), ([], []), ([10], [10]), ([9, 11], [9, 11]), ([8, 12], [8, 12]), ([6, 13], [6, 13]), ([], []), ([15], [15]), ([], []), ([], []), ([18], [18]), ([17, 19], [17, 19]), ([16, 20], [16, 20]), ([], []), ([22], [22]), ([], []), ([], []), ([25], [25]), ([24, 26], [24, 26]), ([23, 27], [23, 27]), ([21, 28], [21, 28]), ([], []), ([14, 29, 30], [14, 29, 30]), ([31], [31]), ([32, 32, 0, 1, 2, 3, 4, 5, 6, 7, 8, 9, 10, 11, 12, 13, 14, 15, 16, 17, 18, 19, 20, 21, 22, 23, 24, 25, 26, 27, 28, 29, 30, 31, 32], [32])])
def zbY.B2 : List Nat := [0, 1, 0, 0, 8, 28, 63, 0, 128, 0, 0, 1024, 3584, 8064, 16383, 0, 32768, 0, 0, 262144, 917504, 2064384, 0, 4194304, 0, 0, 33554432, 117440512, 264241152, 536838144, 0, 2147483647, 4294967295, 8589934591]
theorem zbY.tab2 : rtab .any (opsOf Tryd.f169 2) = zbY.T2 := by kernel_rfl
theorem zbY.bits2 : zeC zbY.T2.2 zbY.B2 = true := by kernel_rfl
set_option maxHeartbeats 8000000 in
set_option maxRecDepth 100000 in
theorem zbY.calls (k : Nat) (a0_0 : Int) (a0_1 : Int) (a0_2 : Int) (a1_0 : Int) (a1_1 : Int) (a1_2 : Int) (r1 : Int) (r2 : Int) (r3 : Int) (w : World) (h : zbY.f k a0_0 a0_1 a0_2 a1_0 a1_1 a1_2 = some (r1, r2, r3)) :
  Calls Tryd.prog 169 #[.agg #[.int .i64 a0_0, .int .i64 a0_1, .int .i64 a0_2], .agg #[.int .i64 a1_0, .int .i64 a1_1, .int .i64 a1_2]] w fun e w' => e = .returned (.agg #[.int .i64 r1, .int .i64 r2, .int .i64 r3]) ∧ Below w.heap.size w w' := by
 have hu34 := Tryd.underlying34
 have HB := zaO (Below.refl w.heap.size w)
 have H : (if 0 ≤ (wrap64 ((mx a0_2 a1_2) - a0_2)) then (if 0 ≤ (wrap64 ((mx a0_2 a1_2) - a1_2)) then ((zaS.f k (wrap64 ((shl .i64 a0_0 (wrap64 ((mx a0_2 a1_2) - a0_2))) + (shl .i64 a1_0 (wrap64 ((mx a0_2 a1_2) - a1_2))))) (wrap64 ((shl .i64 a0_1 (wrap64 ((mx a0_2 a1_2) - a0_2))) + (shl .i64 a1_1 (wrap64 ((mx a0_2 a1_2) - a1_2))))) (mx a0_2 a1_2)).bind fun bt293 => (some (bt293.1, bt293.2.1, bt293.2.2))) else (none)) else (none)) = some (r1, r2, r3) := h
 clear h
 obtain ⟨ji3, hji3⟩ : ∃ j_ : Int, (mx a0_2 a1_2) = j_ := ⟨_, rfl⟩
 replace H : (if 0 ≤ (wrap64 ((ji3) - a0_2)) then (if 0 ≤ (wrap64 ((ji3) - a1_2)) then ((zaS.f k (wrap64 ((shl .i64 a0_0 (wrap64 ((ji3) - a0_2))) + (shl .i64 a1_0 (wrap64 ((ji3) - a1_2))))) (wrap64 ((shl .i64 a0_1 (wrap64 ((ji3) - a0_2))) + (shl .i64 a1_1 (wrap64 ((ji3) - a1_2))))) (ji3)).bind fun bt293 => (some (bt293.1, bt293.2.1, bt293.2.2))) else (none)) else (none)) = some (r1, r2, r3) := by first | (rw [hji3] at H; exact H) | (simp only [hji3] at H ⊢; exact H)
 have hji3_ : (if a0_2 < a1_2 then a1_2 else a0_2) = ji3 := hji3
 obtain ⟨ji4, hji4⟩ : ∃ j_ : Int, (wrap64 ((ji3) - a0_2)) = j_ := ⟨_, rfl⟩
 replace H : (if 0 ≤ (ji4) then (if 0 ≤ (wrap64 ((ji3) - a1_2)) then ((zaS.f k (wrap64 ((shl .i64 a0_0 (ji4)) + (shl .i64 a1_0 (wrap64 ((ji3) - a1_2))))) (wrap64 ((shl .i64 a0_1 (ji4)) + (shl .i64 a1_1 (wrap64 ((ji3) - a1_2))))) (ji3)).bind fun bt293 => (some (bt293.1, bt293.2.1, bt293.2.2))) else (none)) else (none)) = some (r1, r2, r3) := by first | (rw [hji4] at H; exact H) | (simp only [hji4] at H ⊢; exact H)
 have hji4w : (IntKind.i64.wrap ((ji3) - a0_2)) = ji4 := (zaT _).trans hji4
 by_cases c5 : 0 ≤ (ji4)
 ·rw [if_pos c5] at H
  have c5b0 := eq_true c5
  have c5b1 : decide (0 ≤ (ji4)) = true := decide_eq_true c5
  clear c5
  obtain ⟨ji6, hji6⟩ : ∃ j_ : Int, (shl .i64 a0_0 (ji4)) = j_ := ⟨_, rfl⟩
  replace H : (if 0 ≤ (wrap64 ((ji3) - a1_2)) then ((zaS.f k (wrap64 ((ji6) + (shl .i64 a1_0 (wrap64 ((ji3) - a1_2))))) (wrap64 ((shl .i64 a0_1 (ji4)) + (shl .i64 a1_1 (wrap64 ((ji3) - a1_2))))) (ji3)).bind fun bt293 => (some (bt293.1, bt293.2.1, bt293.2.2))) else (none)) = some (r1, r2, r3) := by first | (rw [hji6] at H; exact H) | (simp only [hji6] at H ⊢; exact H)
  have hji6_ : (IntKind.i64.wrap (a0_0 * 2 ^ min (ji4).toNat 64)) = ji6 := hji6
  have hji6z : (ji4) ≤ 64 → (IntKind.i64.wrap (a0_0 * 2 ^ (ji4).toNat)) = ji6 := shl_small hji6
  have hji6y : (wrap64 (a0_0 * 2 ^ min (ji4).toNat 64)) = ji6 := (zaT _).symm.trans hji6_
  have hji6x : (ji4) ≤ 64 → (wrap64 (a0_0 * 2 ^ (ji4).toNat)) = ji6 := fun h_ => (zaT _).symm.trans (hji6z h_)
  obtain ⟨ji7, hji7⟩ : ∃ j_ : Int, (wrap64 ((ji3) - a1_2)) = j_ := ⟨_, rfl⟩
  replace H : (if 0 ≤ (ji7) then ((zaS.f k (wrap64 ((ji6) + (shl .i64 a1_0 (ji7)))) (wrap64 ((shl .i64 a0_1 (ji4)) + (shl .i64 a1_1 (ji7)))) (ji3)).bind fun bt293 => (some (bt293.1, bt293.2.1, bt293.2.2))) else (none)) = some (r1, r2, r3) := by first | (rw [hji7] at H; exact H) | (simp only [hji7] at H ⊢; exact H)
  have hji7w : (IntKind.i64.wrap ((ji3) - a1_2)) = ji7 := (zaT _).trans hji7
  by_cases c8 : 0 ≤ (ji7)
  ·rw [if_pos c8] at H
   have c8b0 := eq_true c8
   have c8b1 : decide (0 ≤ (ji7)) = true := decide_eq_true c8
   clear c8
   obtain ⟨ji9, hji9⟩ : ∃ j_ : Int, (shl .i64 a1_0 (ji7)) = j_ := ⟨_, rfl⟩
   replace H : ((zaS.f k (wrap64 ((ji6) + (ji9))) (wrap64 ((shl .i64 a0_1 (ji4)) + (shl .i64 a1_1 (ji7)))) (ji3)).bind fun bt293 => (some (bt293.1, bt293.2.1, bt293.2.2))) = some (r1, r2, r3) := by first | (rw [hji9] at H; exact H) | (simp only [hji9] at H ⊢; exact H)
   have hji9_ : (IntKind.i64.wrap (a1_0 * 2 ^ min (ji7).toNat 64)) = ji9 := hji9
   have hji9z : (ji7) ≤ 64 → (IntKind.i64.wrap (a1_0 * 2 ^ (ji7).toNat)) = ji9 := shl_small hji9
   have hji9y : (wrap64 (a1_0 * 2 ^ min (ji7).toNat 64)) = ji9 := (zaT _).symm.trans hji9_
   have hji9x : (ji7) ≤ 64 → (wrap64 (a1_0 * 2 ^ (ji7).toNat)) = ji9 := fun h_ => (zaT _).symm.trans (hji9z h_)
   have c10b0 := eq_true (of_decide_eq_true (by first | (with_reducible assumption) | assumption) : 0 ≤ (ji4))
   obtain ⟨ji11, hji11⟩ : ∃ j_ : Int, (shl .i64 a0_1 (ji4)) = j_ := ⟨_, rfl⟩
   replace H : ((zaS.f k (wrap64 ((ji6) + (ji9))) (wrap64 ((ji11) + (shl .i64 a1_1 (ji7)))) (ji3)).bind fun bt293 => (some (bt293.1, bt293.2.1, bt293.2.2))) = some (r1, r2, r3) := by first | (rw [hji11] at H; exact H) | (simp only [hji11] at H ⊢; exact H)
   have hji11_ : (IntKind.i64.wrap (a0_1 * 2 ^ min (ji4).toNat 64)) = ji11 := hji11
   have hji11z : (ji4) ≤ 64 → (IntKind.i64.wrap (a0_1 * 2 ^ (ji4).toNat)) = ji11 := shl_small hji11
   have hji11y : (wrap64 (a0_1 * 2 ^ min (ji4).toNat 64)) = ji11 := (zaT _).symm.trans hji11_
   have hji11x : (ji4) ≤ 64 → (wrap64 (a0_1 * 2 ^ (ji4).toNat)) = ji11 := fun h_ => (zaT _).symm.trans (hji11z h_)
   have c12b0 := eq_true (of_decide_eq_true (by first | (with_reducible assumption) | assumption) : 0 ≤ (ji7))
   obtain ⟨ji13, hji13⟩ : ∃ j_ : Int, (shl .i64 a1_1 (ji7)) = j_ := ⟨_, rfl⟩
   replace H : ((zaS.f k (wrap64 ((ji6) + (ji9))) (wrap64 ((ji11) + (ji13))) (ji3)).bind fun bt293 => (some (bt293.1, bt293.2.1, bt293.2.2))) = some (r1, r2, r3) := by first | (rw [hji13] at H; exact H) | (simp only [hji13] at H ⊢; exact H)
   have hji13_ : (IntKind.i64.wrap (a1_1 * 2 ^ min (ji7).toNat 64)) = ji13 := hji13
   have hji13z : (ji7) ≤ 64 → (IntKind.i64.wrap (a1_1 * 2 ^ (ji7).toNat)) = ji13 := shl_small hji13
   have hji13y : (wrap64 (a1_1 * 2 ^ min (ji7).toNat 64)) = ji13 := (zaT _).symm.trans hji13_
   have hji13x : (ji7) ≤ 64 → (wrap64 (a1_1 * 2 ^ (ji7).toNat)) = ji13 := fun h_ => (zaT _).symm.trans (hji13z h_)
   replace H := Option.bind_eq_some_iff.mp H
   obtain ⟨⟨t293, t294, t295⟩, A140, H⟩ := H
   replace H : (some (t293, t294, t295)) = some (r1, r2, r3) := H
   have A14 := zaO A140
   clear A140
   simp only [Option.some.injEq, Prod.mk.injEq] at H
   obtain ⟨rfl, rfl, rfl⟩ := H
   go_enter Tryd.func169, Tryd.ntmps169
   try go_wp2_with (first | ((with_reducible refine zbC (N := 2) rfl ?_); refine zaW ?hg (N := 2) ?hd (cs := #[.int .i64 a0_0, .int .i64 a0_1, .int .i64 a0_2]) (t := 34) ?hr ?_; (case hd => rfl); (case hg => rfl); (case hr => first | (go_simp; done) | (go_simp; rfl)); intro gb290 hg w15 hbox hb; have n0_ := zaO (zaK (by repeat (first | (with_reducible first | exact HB.out | apply zaE | apply zaA | apply zaD) | exact HB.out)) hb); have n1_ := zaO (hbox); have n2_ := zaO ((by rw [hg]; exact (zaP (by repeat (first | (with_reducible first | exact HB.out | apply zaE | apply zaA | apply zaD) | exact HB.out))) : w.heap.size ≤ gb290)); have n3_ := n2_; clear HB; have HB := n0_; have BK290 := n1_; have GW290 := n2_; have GE290 := n3_; clear n0_ n1_ n2_ n3_; clear hb hbox hg) | ((with_reducible refine zbC (N := 3) rfl ?_); refine zaW ?hg (N := 3) ?hd (cs := #[.int .i64 a1_0, .int .i64 a1_1, .int .i64 a1_2]) (t := 34) ?hr ?_; (case hd => rfl); (case hg => rfl); (case hr => first | (go_simp; done) | (go_simp; rfl)); intro gb291 hg w16 hbox hb; have n0_ := zaO (zaL (g := gb290) (o := .cells #[.int .i64 a0_0, .int .i64 a0_1, .int .i64 a0_2] 34 (0, 0)) (by (with_reducible repeat (first | apply zaC | apply zaF | apply zaB)); exact BK290.out) hb); have n1_ := zaO (zaK (by repeat (first | (with_reducible first | exact HB.out | apply zaE | apply zaA | apply zaD | refine zaH ?_ GE290.out) | exact HB.out)) hb); have n2_ := zaO (hbox); have n3_ := zaO ((by rw [hg]; exact (zaP (by repeat (first | (with_reducible first | exact HB.out | apply zaE | apply zaA | apply zaD | refine zaH ?_ GE290.out) | exact HB.out))) : w.heap.size ≤ gb291)); have n4_ := n3_; have n5_ := zaO ((by rw [hg]; exact Nat.ne_of_lt (zbN (g := gb290) (o := .cells #[.int .i64 a0_0, .int .i64 a0_1, .int .i64 a0_2] 34 (0, 0)) (by (with_reducible repeat (first | apply zaC | apply zaF | apply zaB)); exact BK290.out)) : gb290 ≠ gb291)); have n6_ := zaO ((by rw [hg]; exact Nat.ne_of_gt (zbN (g := gb290) (o := .cells #[.int .i64 a0_0, .int .i64 a0_1, .int .i64 a0_2] 34 (0, 0)) (by (with_reducible repeat (first | apply zaC | apply zaF | apply zaB)); exact BK290.out)) : gb291 ≠ gb290)); clear BK290; clear HB; have BK290 := n0_; have HB := n1_; have BK291 := n2_; have GW291 := n3_; have GE291 := n4_; have NB290_291 := n5_; have NB291_290 := n6_; clear n0_ n1_ n2_ n3_ n4_ n5_ n6_; clear hb hbox hg) | ((with_reducible refine zbC (N := 4) rfl ?_); refine zaW ?hg (N := 4) ?hd (cs := #[.int .i64 0, .int .i64 0, .int .i64 0]) (t := 34) ?hr ?_; (case hd => rfl); (case hg => rfl); (case hr => first | (go_simp; done) | (go_simp; rfl)); intro gb292 hg w17 hbox hb; have n0_ := zaO (zaL (g := gb290) (o := .cells #[.int .i64 a0_0, .int .i64 a0_1, .int .i64 a0_2] 34 (0, 0)) (by (with_reducible repeat (first | apply zaC | apply zaF | apply zaB)); exact BK290.out) hb); have n1_ := zaO (zaL (g := gb291) (o := .cells #[.int .i64 a1_0, .int .i64 a1_1, .int .i64 a1_2] 34 (0, 0)) (by (with_reducible repeat (first | apply zaC | apply zaF | apply zaB)); exact BK291.out) hb); have n2_ := zaO (zaK (by repeat (first | (with_reducible first | exact HB.out | apply zaE | apply zaA | apply zaD | refine zaH ?_ GE290.out | refine zaH ?_ GE291.out) | exact HB.out)) hb); have n3_ := zaO (hbox); have n4_ := zaO ((by rw [hg]; exact (zaP (by repeat (first | (with_reducible first | exact HB.out | apply zaE | apply zaA | apply zaD | refine zaH ?_ GE290.out | refine zaH ?_ GE291.out) | exact HB.out))) : w.heap.size ≤ gb292)); have n5_ := n4_; have n6_ := zaO ((by rw [hg]; exact Nat.ne_of_lt (zbN (g := gb290) (o := .cells #[.int .i64 a0_0, .int .i64 a0_1, .int .i64 a0_2] 34 (0, 0)) (by (with_reducible repeat (first | apply zaC | apply zaF | apply zaB)); exact BK290.out)) : gb290 ≠ gb292)); have n7_ := zaO ((by rw [hg]; exact Nat.ne_of_gt (zbN (g := gb290) (o := .cells #[.int .i64 a0_0, .int .i64 a0_1, .int .i64 a0_2] 34 (0, 0)) (by (with_reducible repeat (first | apply zaC | apply zaF | apply zaB)); exact BK290.out)) : gb292 ≠ gb290)); have n8_ := zaO ((by rw [hg]; exact Nat.ne_of_lt (zbN (g := gb291) (o := .cells #[.int .i64 a1_0, .int .i64 a1_1, .int .i64 a1_2] 34 (0, 0)) (by (with_reducible repeat (first | apply zaC | apply zaF | apply zaB)); exact BK291.out)) : gb291 ≠ gb292)); have n9_ := zaO ((by rw [hg]; exact Nat.ne_of_gt (zbN (g := gb291) (o := .cells #[.int .i64 a1_0, .int .i64 a1_1, .int .i64 a1_2] 34 (0, 0)) (by (with_reducible repeat (first | apply zaC | apply zaF | apply zaB)); exact BK291.out)) : gb292 ≠ gb291)); clear BK290; clear BK291; clear HB; have BK290 := n0_; have BK291 := n1_; have HB := n2_; have BK292 := n3_; have GW292 := n4_; have GE292 := n5_; have NB290_292 := n6_; have NB292_290 := n7_; have NB291_292 := n8_; have NB292_291 := n9_; clear n0_ n1_ n2_ n3_ n4_ n5_ n6_ n7_ n8_ n9_; clear hb hbox hg; have hnb18 := NB290_291.out; have hnc18 := NB291_290.out; have hnb19 := NB290_292.out; have hnc19 := NB292_290.out; obtain ⟨hcz20_0, hcz20_1, hcz20_2⟩ := zeE BK290.out; obtain ⟨hfz20_0, hfz20_1, hfz20_2⟩ := zeD BK290.out; have hnb21 := NB291_292.out; have hnc21 := NB292_291.out; obtain ⟨hcz22_0, hcz22_1, hcz22_2⟩ := zeE BK291.out; obtain ⟨hfz22_0, hfz22_1, hfz22_2⟩ := zeD BK291.out))
   have n0_ := zaO (zaF BK290.out)
   have n1_ := zaO (zaF BK291.out)
   have n2_ := zaO (zaF BK292.out)
   have n3_ := zaO (zaD HB.out)
   clear BK290
   clear BK291
   clear BK292
   clear HB
   have BK290 := n0_
   have BK291 := n1_
   have BK292 := n2_
   have HB := n3_
   clear n0_ n1_ n2_ n3_
   refine zdU (n := 34) (S := fun w' => w'.cell? ⟨gb290, 0, none⟩ = some (.int .i64 a0_0) ∧ w'.cell? ⟨gb290, 1, none⟩ = some (.int .i64 a0_1) ∧ w'.cell? ⟨gb290, 2, none⟩ = some (.int .i64 a0_2) ∧ w'.cell? ⟨gb291, 0, none⟩ = some (.int .i64 a1_0) ∧ w'.cell? ⟨gb291, 1, none⟩ = some (.int .i64 a1_1) ∧ w'.cell? ⟨gb291, 2, none⟩ = some (.int .i64 a1_2)) (ds := []) #[false, false, false, false, false, false, false, false, false, false, false, false, false, false, false, false, false, false, false, false, false, false, false, false, false, false, false, false, false, false, false, false, false, false] (by kernel_rfl) rfl rfl ⟨(zaI BK290.out 0).trans rfl, (zaI BK290.out 1).trans rfl, (zaI BK290.out 2).trans rfl, (zaI BK291.out 0).trans rfl, (zaI BK291.out 1).trans rfl, (zaI BK291.out 2).trans rfl⟩ (fun hHeld => ?_); refine zcT zbY.tab2 zbY.bits2 (fun HT_ HW_ => ?_)
   generalize w17.drew = w23 at BK290 BK291 BK292 HB hHeld ⊢
   refine zbL (i := 0) (N := some 11) (v := ?_) (a' := ?_) #[true, false, false, false, false, false, false, false, false, false, false, false, false, false, false, false, false, false, false, false, false, false, false, false, false, false, false, false, false, false, false, false, false, false] rfl rfl (zaY HT_.out (by kernel_rfl)) (fun _ _ _ h => h) (Or.inl ⟨by rfl, ?_⟩) ?_ ?_
   rotate_left
   ·intro w'
    go_simp
    with_reducible rfl
   rotate_left
   ·simp only [Act.put, List.setIfInBounds_toArray, List.set_cons_zero, List.set_cons_succ, zaT, zaU]
    rfl
   refine zbL (i := 2) (N := some 13) (v := ?_) (a' := ?_) #[true, false, true, false, false, false, false, false, false, false, false, false, false, false, false, false, false, false, false, false, false, false, false, false, false, false, false, false, false, false, false, false, false, false] rfl rfl (zaY HT_.out (by kernel_rfl)) (fun _ _ _ h => h) (Or.inl ⟨by rfl, ?_⟩) ?_ ?_
   rotate_left
   ·intro w'
    go_simp
    with_reducible rfl
   rotate_left
   ·simp only [Act.put, List.setIfInBounds_toArray, List.set_cons_zero, List.set_cons_succ, zaT, zaU]
    rfl
   refine zbL (i := 3) (N := some 14) (v := ?_) (a' := ?_) #[true, false, true, true, false, false, false, false, false, false, false, false, false, false, false, false, false, false, false, false, false, false, false, false, false, false, false, false, false, false, false, false, false, false] rfl rfl (zaY HT_.out (by kernel_rfl)) (fun _ _ _ h => h) (Or.inl ⟨by rfl, ?_⟩) ?_ ?_
   rotate_left
   ·intro w'
    go_simp
    with_reducible rfl
   rotate_left
   ·simp only [Act.put, List.setIfInBounds_toArray, List.set_cons_zero, List.set_cons_succ, zaT, zaU]
    rfl
   refine zbL (i := 7) (N := some 18) (v := ?_) (a' := ?_) #[true, false, true, true, false, false, false, true, false, false, false, false, false, false, false, false, false, false, false, false, false, false, false, false, false, false, false, false, false, false, false, false, false, false] rfl rfl (zaY HT_.out (by kernel_rfl)) (fun _ _ _ h => h) (Or.inl ⟨by rfl, ?_⟩) ?_ ?_
   rotate_left
   ·intro w'
    go_simp
    with_reducible rfl
   rotate_left
   ·simp only [Act.put, List.setIfInBounds_toArray, List.set_cons_zero, List.set_cons_succ, zaT, zaU]
    rfl
   refine zbL (i := 9) (N := some 20) (v := ?_) (a' := ?_) #[true, false, true, true, false, false, false, true, false, true, false, false, false, false, false, false, false, false, false, false, false, false, false, false, false, false, false, false, false, false, false, false, false, false] rfl rfl (zaY HT_.out (by kernel_rfl)) (fun _ _ _ h => h) (Or.inl ⟨by rfl, ?_⟩) ?_ ?_
   rotate_left
   ·intro w'
    go_simp
    with_reducible rfl
   rotate_left
   ·simp only [Act.put, List.setIfInBounds_toArray, List.set_cons_zero, List.set_cons_succ, zaT, zaU]
    rfl
   refine zbL (i := 10) (N := some 21) (v := ?_) (a' := ?_) #[true, false, true, true, false, false, false, true, false, true, true, false, false, false, false, false, false, false, false, false, false, false, false, false, false, false, false, false, false, false, false, false, false, false] rfl rfl (zaY HT_.out (by kernel_rfl)) (fun _ _ _ h => h) (Or.inl ⟨by rfl, ?_⟩) ?_ ?_
   rotate_left
   ·intro w'
    go_simp
    with_reducible rfl
   rotate_left
   ·simp only [Act.put, List.setIfInBounds_toArray, List.set_cons_zero, List.set_cons_succ, zaT, zaU]
    rfl
   refine zbL (i := 15) (N := some 26) (v := ?_) (a' := ?_) #[true, false, true, true, false, false, false, true, false, true, true, false, false, false, false, true, false, false, false, false, false, false, false, false, false, false, false, false, false, false, false, false, false, false] rfl rfl (zaY HT_.out (by kernel_rfl)) (fun _ _ _ h => h) (Or.inl ⟨by rfl, ?_⟩) ?_ ?_
   rotate_left
   ·intro w'
    go_simp
    with_reducible rfl
   rotate_left
   ·simp only [Act.put, List.setIfInBounds_toArray, List.set_cons_zero, List.set_cons_succ, zaT, zaU]
    rfl
   refine zbL (i := 17) (N := some 28) (v := ?_) (a' := ?_) #[true, false, true, true, false, false, false, true, false, true, true, false, false, false, false, true, false, true, false, false, false, false, false, false, false, false, false, false, false, false, false, false, false, false] rfl rfl (zaY HT_.out (by kernel_rfl)) (fun _ _ _ h => h) (Or.inl ⟨by rfl, ?_⟩) ?_ ?_
   rotate_left
   ·intro w'
    go_simp
    with_reducible rfl
   rotate_left
   ·simp only [Act.put, List.setIfInBounds_toArray, List.set_cons_zero, List.set_cons_succ, zaT, zaU]
    rfl
   refine zbL (i := 18) (N := some 29) (v := ?_) (a' := ?_) #[true, false, true, true, false, false, false, true, false, true, true, false, false, false, false, true, false, true, true, false, false, false, false, false, false, false, false, false, false, false, false, false, false, false] rfl rfl (zaY HT_.out (by kernel_rfl)) (fun _ _ _ h => h) (Or.inl ⟨by rfl, ?_⟩) ?_ ?_
   rotate_left
   ·intro w'
    go_simp
    with_reducible rfl
   rotate_left
   ·simp only [Act.put, List.setIfInBounds_toArray, List.set_cons_zero, List.set_cons_succ, zaT, zaU]
    rfl
   refine zbL (i := 22) (N := some 33) (v := ?_) (a' := ?_) #[true, false, true, true, false, false, false, true, false, true, true, false, false, false, false, true, false, true, true, false, false, false, true, false, false, false, false, false, false, false, false, false, false, false] rfl rfl (zaY HT_.out (by kernel_rfl)) (fun _ _ _ h => h) (Or.inl ⟨by rfl, ?_⟩) ?_ ?_
   rotate_left
   ·intro w'
    go_simp
    with_reducible rfl
   rotate_left
   ·simp only [Act.put, List.setIfInBounds_toArray, List.set_cons_zero, List.set_cons_succ, zaT, zaU]
    rfl
   refine zbL (i := 24) (N := some 35) (v := ?_) (a' := ?_) #[true, false, true, true, false, false, false, true, false, true, true, false, false, false, false, true, false, true, true, false, false, false, true, false, true, false, false, false, false, false, false, false, false, false] rfl rfl (zaY HT_.out (by kernel_rfl)) (fun _ _ _ h => h) (Or.inl ⟨by rfl, ?_⟩) ?_ ?_
   rotate_left
   ·intro w'
    go_simp
    with_reducible rfl
   rotate_left
   ·simp only [Act.put, List.setIfInBounds_toArray, List.set_cons_zero, List.set_cons_succ, zaT, zaU]
    rfl
   refine zbL (i := 25) (N := some 36) (v := ?_) (a' := ?_) #[true, false, true, true, false, false, false, true, false, true, true, false, false, false, false, true, false, true, true, false, false, false, true, false, true, true, false, false, false, false, false, false, false, false] rfl rfl (zaY HT_.out (by kernel_rfl)) (fun _ _ _ h => h) (Or.inl ⟨by rfl, ?_⟩) ?_ ?_
   rotate_left
   ·intro w'
    go_simp
    with_reducible rfl
   rotate_left
   ·simp only [Act.put, List.setIfInBounds_toArray, List.set_cons_zero, List.set_cons_succ, zaT, zaU]
    rfl
   refine zbL (i := 30) (N := some 41) (v := ?_) (a' := ?_) #[true, false, true, true, false, false, false, true, false, true, true, false, false, false, false, true, false, true, true, false, false, false, true, false, true, true, false, false, false, false, true, false, false, false] rfl rfl (zaY HT_.out (by kernel_rfl)) (fun _ _ _ h => h) (Or.inl ⟨by rfl, ?_⟩) ?_ ?_
   rotate_left
   ·intro w'
    go_simp
    with_reducible rfl
   rotate_left
   ·simp only [Act.put, List.setIfInBounds_toArray, List.set_cons_zero, List.set_cons_succ, zaT, zaU]
    rfl
   refine take_ (i := 1) (N := some 12) (v := ?_) (a' := ?_) #[true, true, true, true, false, false, false, true, false, true, true, false, false, false, false, true, false, true, true, false, false, false, true, false, true, true, false, false, false, false, true, false, false, false] rfl rfl (zbU HT_.out HW_.out (by kernel_rfl)) (fun _ _ _ h => h) (Or.inl ⟨by rfl, ?_⟩) hHeld ?_ ?_
   rotate_left
   ·rintro w' ⟨s0, s1, s2, s3, s4, s5⟩
    go_simp
    with_reducible rfl
   rotate_left
   ·simp only [Act.put, List.setIfInBounds_toArray, List.set_cons_zero, List.set_cons_succ, zaT, zaU]
    rfl
   refine take_ (i := 4) (N := some 15) (v := ?_) (a' := ?_) #[true, true, true, true, true, false, false, true, false, true, true, false, false, false, false, true, false, true, true, false, false, false, true, false, true, true, false, false, false, false, true, false, false, false] rfl rfl (zbU HT_.out HW_.out (by kernel_rfl)) (fun _ _ _ h => h) (Or.inl ⟨by rfl, ?_⟩) hHeld ?_ ?_
   rotate_left
   ·rintro w' ⟨s0, s1, s2, s3, s4, s5⟩
    go_simp
    with_reducible rfl
   rotate_left
   ·simp only [Act.put, List.setIfInBounds_toArray, List.set_cons_zero, List.set_cons_succ, zaT, zaU]
    rfl
   refine zbL (i := 5) (N := some 16) (v := ?_) (a' := ?_) #[true, true, true, true, true, true, false, true, false, true, true, false, false, false, false, true, false, true, true, false, false, false, true, false, true, true, false, false, false, false, true, false, false, false] rfl rfl (zaY HT_.out (by kernel_rfl)) (fun _ _ _ h => h) (Or.inl ⟨by rfl, ?_⟩) ?_ ?_
   rotate_left
   ·intro w'
    go_simp
    with_reducible rfl
   rotate_left
   ·simp only [Act.put, List.setIfInBounds_toArray, List.set_cons_zero, List.set_cons_succ, zaT, zaU]
    rfl
   refine zbL (i := 6) (N := some 17) (v := ?_) (a' := ?_) #[true, true, true, true, true, true, true, true, false, true, true, false, false, false, false, true, false, true, true, false, false, false, true, false, true, true, false, false, false, false, true, false, false, false] rfl rfl (zaY HT_.out (by kernel_rfl)) (fun _ _ _ h => h) (Or.inl ⟨by rfl, ?_⟩) ?_ ?_
   rotate_left
   ·intro w'
    go_simp
    with_reducible rfl
   rotate_left
   ·simp only [Act.put, List.setIfInBounds_toArray, List.set_cons_zero, List.set_cons_succ, zaT, zaU]
    rfl
   refine take_ (i := 8) (N := some 19) (v := ?_) (a' := ?_) #[true, true, true, true, true, true, true, true, true, true, true, false, false, false, false, true, false, true, true, false, false, false, true, false, true, true, false, false, false, false, true, false, false, false] rfl rfl (zbU HT_.out HW_.out (by kernel_rfl)) (fun _ _ _ h => h) (Or.inl ⟨by rfl, ?_⟩) hHeld ?_ ?_
   rotate_left
   ·rintro w' ⟨s0, s1, s2, s3, s4, s5⟩
    go_simp
    with_reducible rfl
   rotate_left
   ·simp only [Act.put, List.setIfInBounds_toArray, List.set_cons_zero, List.set_cons_succ, zaT, zaU]
    rfl
   refine take_ (i := 11) (N := some 22) (v := ?_) (a' := ?_) #[true, true, true, true, true, true, true, true, true, true, true, true, false, false, false, true, false, true, true, false, false, false, true, false, true, true, false, false, false, false, true, false, false, false] rfl rfl (zbU HT_.out HW_.out (by kernel_rfl)) (fun _ _ _ h => h) (Or.inl ⟨by rfl, ?_⟩) hHeld ?_ ?_
   rotate_left
   ·rintro w' ⟨s0, s1, s2, s3, s4, s5⟩
    go_simp
    with_reducible rfl
   rotate_left
   ·simp only [Act.put, List.setIfInBounds_toArray, List.set_cons_zero, List.set_cons_succ, zaT, zaU]
    rfl
   refine zbL (i := 12) (N := some 23) (v := ?_) (a' := ?_) #[true, true, true, true, true, true, true, true, true, true, true, true, true, false, false, true, false, true, true, false, false, false, true, false, true, true, false, false, false, false, true, false, false, false] rfl rfl (zaY HT_.out (by kernel_rfl)) (fun _ _ _ h => h) (Or.inl ⟨by rfl, ?_⟩) ?_ ?_
   rotate_left
   ·intro w'
    go_simp
    with_reducible rfl
   rotate_left
   ·simp only [Act.put, List.setIfInBounds_toArray, List.set_cons_zero, List.set_cons_succ, zaT, zaU]
    rfl
   refine zbL (i := 13) (N := some 24) (v := ?_) (a' := ?_) #[true, true, true, true, true, true, true, true, true, true, true, true, true, true, false, true, false, true, true, false, false, false, true, false, true, true, false, false, false, false, true, false, false, false] rfl rfl (zaY HT_.out (by kernel_rfl)) (fun _ _ _ h => h) (Or.inl ⟨by rfl, ?_⟩) ?_ ?_
   rotate_left
   ·intro w'
    go_simp
    with_reducible rfl
   rotate_left
   ·simp only [Act.put, List.setIfInBounds_toArray, List.set_cons_zero, List.set_cons_succ, zaT, zaU]
    rfl
   refine zbL (i := 14) (N := some 25) (v := ?_) (a' := ?_) #[true, true, true, true, true, true, true, true, true, true, true, true, true, true, true, true, false, true, true, false, false, false, true, false, true, true, false, false, false, false, true, false, false, false] rfl rfl (zaY HT_.out (by kernel_rfl)) (fun _ _ _ h => h) (Or.inl ⟨by rfl, ?_⟩) ?_ ?_
   rotate_left
   ·intro w'
    go_simp
    with_reducible rfl
   rotate_left
   ·simp only [Act.put, List.setIfInBounds_toArray, List.set_cons_zero, List.set_cons_succ, zaT, zaU]
    rfl
   refine take_ (i := 16) (N := some 27) (v := ?_) (a' := ?_) #[true, true, true, true, true, true, true, true, true, true, true, true, true, true, true, true, true, true, true, false, false, false, true, false, true, true, false, false, false, false, true, false, false, false] rfl rfl (zbU HT_.out HW_.out (by kernel_rfl)) (fun _ _ _ h => h) (Or.inl ⟨by rfl, ?_⟩) hHeld ?_ ?_
   rotate_left
   ·rintro w' ⟨s0, s1, s2, s3, s4, s5⟩
    go_simp
    with_reducible rfl
   rotate_left
   ·simp only [Act.put, List.setIfInBounds_toArray, List.set_cons_zero, List.set_cons_succ, zaT, zaU]
    rfl
   refine take_ (i := 19) (N := some 30) (v := ?_) (a' := ?_) #[true, true, true, true, true, true, true, true, true, true, true, true, true, true, true, true, true, true, true, true, false, false, true, false, true, true, false, false, false, false, true, false, false, false] rfl rfl (zbU HT_.out HW_.out (by kernel_rfl)) (fun _ _ _ h => h) (Or.inl ⟨by rfl, ?_⟩) hHeld ?_ ?_
   rotate_left
   ·rintro w' ⟨s0, s1, s2, s3, s4, s5⟩
    go_simp
    with_reducible rfl
   rotate_left
   ·simp only [Act.put, List.setIfInBounds_toArray, List.set_cons_zero, List.set_cons_succ, zaT, zaU]
    rfl
   refine zbL (i := 20) (N := some 31) (v := ?_) (a' := ?_) #[true, true, true, true, true, true, true, true, true, true, true, true, true, true, true, true, true, true, true, true, true, false, true, false, true, true, false, false, false, false, true, false, false, false] rfl rfl (zaY HT_.out (by kernel_rfl)) (fun _ _ _ h => h) (Or.inl ⟨by rfl, ?_⟩) ?_ ?_
   rotate_left
   ·intro w'
    go_simp
    with_reducible rfl
   rotate_left
   ·simp only [Act.put, List.setIfInBounds_toArray, List.set_cons_zero, List.set_cons_succ, zaT, zaU]
    rfl
   refine zbL (i := 21) (N := some 32) (v := ?_) (a' := ?_) #[true, true, true, true, true, true, true, true, true, true, true, true, true, true, true, true, true, true, true, true, true, true, true, false, true, true, false, false, false, false, true, false, false, false] rfl rfl (zaY HT_.out (by kernel_rfl)) (fun _ _ _ h => h) (Or.inl ⟨by rfl, ?_⟩) ?_ ?_
   rotate_left
   ·intro w'
    go_simp
    with_reducible rfl
   rotate_left
   ·simp only [Act.put, List.setIfInBounds_toArray, List.set_cons_zero, List.set_cons_succ, zaT, zaU]
    rfl
   refine take_ (i := 23) (N := some 34) (v := ?_) (a' := ?_) #[true, true, true, true, true, true, true, true, true, true, true, true, true, true, true, true, true, true, true, true, true, true, true, true, true, true, false, false, false, false, true, false, false, false] rfl rfl (zbU HT_.out HW_.out (by kernel_rfl)) (fun _ _ _ h => h) (Or.inl ⟨by rfl, ?_⟩) hHeld ?_ ?_
   rotate_left
   ·rintro w' ⟨s0, s1, s2, s3, s4, s5⟩
    go_simp
    with_reducible rfl
   rotate_left
   ·simp only [Act.put, List.setIfInBounds_toArray, List.set_cons_zero, List.set_cons_succ, zaT, zaU]
    rfl
   refine take_ (i := 26) (N := some 37) (v := ?_) (a' := ?_) #[true, true, true, true, true, true, true, true, true, true, true, true, true, true, true, true, true, true, true, true, true, true, true, true, true, true, true, false, false, false, true, false, false, false] rfl rfl (zbU HT_.out HW_.out (by kernel_rfl)) (fun _ _ _ h => h) (Or.inl ⟨by rfl, ?_⟩) hHeld ?_ ?_
   rotate_left
   ·rintro w' ⟨s0, s1, s2, s3, s4, s5⟩
    go_simp
    with_reducible rfl
   rotate_left
   ·simp only [Act.put, List.setIfInBounds_toArray, List.set_cons_zero, List.set_cons_succ, zaT, zaU]
    rfl
   refine zbL (i := 27) (N := some 38) (v := ?_) (a' := ?_) #[true, true, true, true, true, true, true, true, true, true, true, true, true, true, true, true, true, true, true, true, true, true, true, true, true, true, true, true, false, false, true, false, false, false] rfl rfl (zaY HT_.out (by kernel_rfl)) (fun _ _ _ h => h) (Or.inl ⟨by rfl, ?_⟩) ?_ ?_
   rotate_left
   ·intro w'
    go_simp
    with_reducible rfl
   rotate_left
   ·simp only [Act.put, List.setIfInBounds_toArray, List.set_cons_zero, List.set_cons_succ, zaT, zaU]
    rfl
   refine zbL (i := 28) (N := some 39) (v := ?_) (a' := ?_) #[true, true, true, true, true, true, true, true, true, true, true, true, true, true, true, true, true, true, true, true, true, true, true, true, true, true, true, true, true, false, true, false, false, false] rfl rfl (zaY HT_.out (by kernel_rfl)) (fun _ _ _ h => h) (Or.inl ⟨by rfl, ?_⟩) ?_ ?_
   rotate_left
   ·intro w'
    go_simp
    with_reducible rfl
   rotate_left
   ·simp only [Act.put, List.setIfInBounds_toArray, List.set_cons_zero, List.set_cons_succ, zaT, zaU]
    rfl
   refine zbL (i := 29) (N := some 40) (v := ?_) (a' := ?_) #[true, true, true, true, true, true, true, true, true, true, true, true, true, true, true, true, true, true, true, true, true, true, true, true, true, true, true, true, true, true, true, false, false, false] rfl rfl (zaY HT_.out (by kernel_rfl)) (fun _ _ _ h => h) (Or.inl ⟨by rfl, ?_⟩) ?_ ?_
   rotate_left
   ·intro w'
    go_simp
    with_reducible rfl
   rotate_left
   ·simp only [Act.put, List.setIfInBounds_toArray, List.set_cons_zero, List.set_cons_succ, zaT, zaU]
    rfl
   refine zbL (i := 31) (N := some 42) (v := ?_) (a' := ?_) #[true, true, true, true, true, true, true, true, true, true, true, true, true, true, true, true, true, true, true, true, true, true, true, true, true, true, true, true, true, true, true, true, false, false] rfl rfl (zaY HT_.out (by kernel_rfl)) (fun _ _ _ h => h) (Or.inl ⟨by rfl, ?_⟩) ?_ ?_
   rotate_left
   ·intro w'
    go_simp
    with_reducible rfl
   rotate_left
   ·simp only [Act.put, List.setIfInBounds_toArray, List.set_cons_zero, List.set_cons_succ, zaT, zaU]
    rfl
   refine zeX (i := 32) (N := some 43) #[true, true, true, true, true, true, true, true, true, true, true, true, true, true, true, true, true, true, true, true, true, true, true, true, true, true, true, true, true, true, true, true, true, false] rfl rfl (zcU HT_.out (by kernel_rfl)) (by decide) (fun K hK => ?_)
   refine zdI Tryd.func191 (by kernel_rfl) rfl #[.agg #[.int .i64 (wrap64 ((ji6) + (ji9))), .int .i64 (wrap64 ((ji11) + (ji13))), .int .i64 ji3]] (by rfl) rfl rfl (by (try simp only [List.map_toArray, List.map_cons, List.map_nil]); first | done | (simp only [hji11, hji13, hji3, hji6, hji9]; rfl) | rfl | (simp only [List.length_drop, List.length_take]; rfl)) ?_
   with_reducible refine (zaS.calls k (wrap64 ((ji6) + (ji9))) (wrap64 ((ji11) + (ji13))) ji3 t293 t294 t295 _ A14.out).mono ?_
   rintro e w24 ⟨rfl, hb⟩
   refine ⟨_, rfl, ?_⟩
   have n0_ := zaO (zaL (g := gb290) (o := .cells #[.int .i64 a0_0, .int .i64 a0_1, .int .i64 a0_2] 34 (0, 0)) (by (with_reducible repeat (first | apply zaC | apply zaF | apply zaB)); exact BK290.out) hb)
   have n1_ := zaO (zaL (g := gb291) (o := .cells #[.int .i64 a1_0, .int .i64 a1_1, .int .i64 a1_2] 34 (0, 0)) (by (with_reducible repeat (first | apply zaC | apply zaF | apply zaB)); exact BK291.out) hb)
   have n2_ := zaO (zaL (g := gb292) (o := .cells #[.int .i64 0, .int .i64 0, .int .i64 0] 34 (0, 0)) (by (with_reducible repeat (first | apply zaC | apply zaF | apply zaB)); exact BK292.out) hb)
   have n3_ := zaO (zaK (by repeat (first | (with_reducible first | exact HB.out | apply zaE | apply zaA | apply zaD | refine zaH ?_ GE290.out | refine zaH ?_ GE291.out | refine zaH ?_ GE292.out) | exact HB.out)) hb)
   clear BK290
   clear BK291
   clear BK292
   clear HB
   have BK290 := n0_
   have BK291 := n1_
   have BK292 := n2_
   have HB := n3_
   clear n0_ n1_ n2_ n3_
   (try clear hb)
   (try clear hb2)
   (try clear hk)
   (try clear hi)
   refine hK.out _ _ ⟨(zaI BK290.out 0).trans rfl, (zaI BK290.out 1).trans rfl, (zaI BK290.out 2).trans rfl, (zaI BK291.out 0).trans rfl, (zaI BK291.out 1).trans rfl, (zaI BK291.out 2).trans rfl⟩ (fun hHeld => ?_)
   clear hK K
   refine zdL (a' := ?_) ?_ ?_
   rotate_left
   ·show Act.put _ (some 43) _ = _
    simp only [Act.put, List.setIfInBounds_toArray, List.set_cons_zero, List.set_cons_succ, zaT, zaU]
    rfl
   refine zeX (i := 33) (N := none) #[true, true, true, true, true, true, true, true, true, true, true, true, true, true, true, true, true, true, true, true, true, true, true, true, true, true, true, true, true, true, true, true, true, true] rfl rfl (zcU HT_.out (by kernel_rfl)) (by decide) (fun K hK => ?_)
   have hs25 : w24.cell? ⟨gb292, 0, none⟩ = some (.int .i64 0) := (zaI BK292.out 0).trans rfl
   have hfs25 := zbM BK292.out 0
   have hns25_0 := NB290_292.out
   have hns25_1 := NB291_292.out
   have hms25_0 := NB292_290.out
   have hms25_1 := NB292_291.out
   have hs26 : w24.cell? ⟨gb292, 1, none⟩ = some (.int .i64 0) := (zaI BK292.out 1).trans rfl
   have hfs26 := zbM BK292.out 1
   have hns26_0 := NB290_292.out
   have hns26_1 := NB291_292.out
   have hms26_0 := NB292_290.out
   have hms26_1 := NB292_291.out
   have hs27 : w24.cell? ⟨gb292, 2, none⟩ = some (.int .i64 0) := (zaI BK292.out 2).trans rfl
   have hfs27 := zbM BK292.out 2
   have hns27_0 := NB290_292.out
   have hns27_1 := NB291_292.out
   have hms27_0 := NB292_290.out
   have hms27_1 := NB292_291.out
   refine skip_ (w1 := ?_) (by rfl) rfl ?_ ?_
   rotate_left
   ·go_simp
    rfl
   refine hK.out _ _ ⟨((zaJ (p := ⟨gb292, _, none⟩) NB290_292.out _).trans (((zaJ (p := ⟨gb292, _, none⟩) NB290_292.out _).trans (((zaJ (p := ⟨gb292, _, none⟩) NB290_292.out _).trans (hHeld.1)))))), ((zaJ (p := ⟨gb292, _, none⟩) NB290_292.out _).trans (((zaJ (p := ⟨gb292, _, none⟩) NB290_292.out _).trans (((zaJ (p := ⟨gb292, _, none⟩) NB290_292.out _).trans (hHeld.2.1)))))), ((zaJ (p := ⟨gb292, _, none⟩) NB290_292.out _).trans (((zaJ (p := ⟨gb292, _, none⟩) NB290_292.out _).trans (((zaJ (p := ⟨gb292, _, none⟩) NB290_292.out _).trans (hHeld.2.2.1)))))), ((zaJ (p := ⟨gb292, _, none⟩) NB291_292.out _).trans (((zaJ (p := ⟨gb292, _, none⟩) NB291_292.out _).trans (((zaJ (p := ⟨gb292, _, none⟩) NB291_292.out _).trans (hHeld.2.2.2.1)))))), ((zaJ (p := ⟨gb292, _, none⟩) NB291_292.out _).trans (((zaJ (p := ⟨gb292, _, none⟩) NB291_292.out _).trans (((zaJ (p := ⟨gb292, _, none⟩) NB291_292.out _).trans (hHeld.2.2.2.2.1)))))), ((zaJ (p := ⟨gb292, _, none⟩) NB291_292.out _).trans (((zaJ (p := ⟨gb292, _, none⟩) NB291_292.out _).trans (((zaJ (p := ⟨gb292, _, none⟩) NB291_292.out _).trans (hHeld.2.2.2.2.2))))))⟩ (fun hHeld => ?_)
   clear hK K
   refine done_ (zdJ HT_.out (by kernel_rfl)) ?_
   try go_wp2
   refine bodyPost_ret (results_cell_row rfl _ _ gb292 34 #[.int .i64 t293, .int .i64 t294, .int .i64 t295] (0, 0) _ rfl (by (with_reducible repeat (first | apply zaC | apply zaF | apply zaB)); refine zaR (cs := #[.int .i64 t293, .int .i64 t294, .int .i64 0]) ?_ 2 _ rfl; (with_reducible repeat (first | apply zaC | apply zaF | apply zaB)); refine zaR (cs := #[.int .i64 t293, .int .i64 0, .int .i64 0]) ?_ 1 _ rfl; (with_reducible repeat (first | apply zaC | apply zaF | apply zaB)); refine zaR (cs := #[.int .i64 0, .int .i64 0, .int .i64 0]) ?_ 0 _ rfl; (with_reducible repeat (first | apply zaC | apply zaF | apply zaB)); exact BK292.out) Tryd.underlying34 rfl (by kernel_rfl)) rfl ?_
   exact ⟨by first | rfl | (simp [zaN, zaM] <;> rfl) | (simp only [← hji3, ← hji4, ← hji6, ← hji7, ← hji9, ← hji11, ← hji13]; first | rfl | (simp [zaN, zaM] <;> rfl)) | (simp [*, zaN, zaM] <;> rfl), by repeat (first | (with_reducible first | exact HB.out | apply zaE | apply zaA | apply zaD | refine zaH ?_ GE290.out | refine zaH ?_ GE291.out | refine zaH ?_ GE292.out) | exact HB.out)⟩
  ·rw [if_neg c8] at H
   exact absurd H (by simp)
 ·rw [if_neg c5] at H
  exact absurd H (by simp)

def zbT.f (k : Nat) (a0_0 : Int) (a0_1 : Int) (a0_2 : Int) (a1_0 : Int) (a1_1 : Int) (a1_2 : Int) : Option (Int × Int × Int) := (zcS.f a1_0 a1_1 a1_2).bind fun bt299 => ((zbY.f k a0_0 a0_1 a0_2 bt299.1 bt299.2.1 bt299.2.2).bind fun bt302 => (some (bt302.1, bt302.2.1, bt302.2.2)))
theorem zbT.mono : ∀ a0 a1 a2 a3 a4 a5 k, LeO (zbT.f k a0 a1 a2 a3 a4 a5) (zbT.f (k + 1) a0 a1 a2 a3 a4 a5) := by
 intro a0 a1 a2 a3 a4 a5 k
 unfold zbT.f
 repeat' first
   | (with_reducible exact zbY.mono _ _ _ _ _ _ _)
   | (with_reducible exact LeO.refl _)
   | (with_reducible exact LeO.none _)
   | (with_reducible refine LeO.ite ?_ ?_)
   | (with_reducible refine LeO.bind ?_ (fun _ => ?_))
   | exact zbY.mono _ _ _ _ _ _ _
   | exact LeO.none _
   | refine LeO.ite ?_ ?_
   | refine LeO.bind ?_ (fun _ => ?_)
set_option maxHeartbeats 8000000 in
set_option maxRecDepth 100000 in
theorem zbT.calls (k : Nat) (a0_0 : Int) (a0_1 : Int) (a0_2 : Int) (a1_0 : Int) (a1_1 : Int) (a1_2 : Int) (r1 : Int) (r2 : Int) (r3 : Int) (w : World) (h : zbT.f k a0_0 a0_1 a0_2 a1_0 a1_1 a1_2 = some (r1, r2, r3)) :
  Calls Tryd.prog 166 #[.agg #[.int .i64 a0_0, .int .i64 a0_1, .int .i64 a0_2], .agg #[.int .i64 a1_0, .int .i64 a1_1, .int .i64 a1_2]] w fun e w' => e = .returned (.agg #[.int .i64 r1, .int .i64 r2, .int .i64 r3]) ∧ Below w.heap.size w w' := by
 have hu34 := Tryd.underlying34
 have HB := zaO (Below.refl w.heap.size w)
 have H : ((zcS.f a1_0 a1_1 a1_2).bind fun bt299 => ((zbY.f k a0_0 a0_1 a0_2 bt299.1 bt299.2.1 bt299.2.2).bind fun bt302 => (some (bt302.1, bt302.2.1, bt302.2.2)))) = some (r1, r2, r3) := h
 clear h
 replace H := Option.bind_eq_some_iff.mp H
 obtain ⟨⟨t299, t300, t301⟩, A30, H⟩ := H
 replace H : ((zbY.f k a0_0 a0_1 a0_2 t299 t300 t301).bind fun bt302 => (some (bt302.1, bt302.2.1, bt302.2.2))) = some (r1, r2, r3) := H
 have A3 := zaO A30
 clear A30
 replace H := Option.bind_eq_some_iff.mp H
 obtain ⟨⟨t302, t303, t304⟩, A40, H⟩ := H
 replace H : (some (t302, t303, t304)) = some (r1, r2, r3) := H
 have A4 := zaO A40
 clear A40
 simp only [Option.some.injEq, Prod.mk.injEq] at H
 obtain ⟨rfl, rfl, rfl⟩ := H
 go_enter Tryd.func166, Tryd.ntmps166
 try go_wp2_with (first | ((with_reducible refine zbC (N := 2) rfl ?_); refine zaW ?hg (N := 2) ?hd (cs := #[.int .i64 a0_0, .int .i64 a0_1, .int .i64 a0_2]) (t := 34) ?hr ?_; (case hd => rfl); (case hg => rfl); (case hr => first | (go_simp; done) | (go_simp; rfl)); intro gb296 hg w5 hbox hb; have n0_ := zaO (zaK (by repeat (first | (with_reducible first | exact HB.out | apply zaE | apply zaA | apply zaD) | exact HB.out)) hb); have n1_ := zaO (hbox); have n2_ := zaO ((by rw [hg]; exact (zaP (by repeat (first | (with_reducible first | exact HB.out | apply zaE | apply zaA | apply zaD) | exact HB.out))) : w.heap.size ≤ gb296)); have n3_ := n2_; clear HB; have HB := n0_; have BK296 := n1_; have GW296 := n2_; have GE296 := n3_; clear n0_ n1_ n2_ n3_; clear hb hbox hg) | ((with_reducible refine zbC (N := 3) rfl ?_); refine zaW ?hg (N := 3) ?hd (cs := #[.int .i64 a1_0, .int .i64 a1_1, .int .i64 a1_2]) (t := 34) ?hr ?_; (case hd => rfl); (case hg => rfl); (case hr => first | (go_simp; done) | (go_simp; rfl)); intro gb297 hg w6 hbox hb; have n0_ := zaO (zaL (g := gb296) (o := .cells #[.int .i64 a0_0, .int .i64 a0_1, .int .i64 a0_2] 34 (0, 0)) (by (with_reducible repeat (first | apply zaC | apply zaF | apply zaB)); exact BK296.out) hb); have n1_ := zaO (zaK (by repeat (first | (with_reducible first | exact HB.out | apply zaE | apply zaA | apply zaD | refine zaH ?_ GE296.out) | exact HB.out)) hb); have n2_ := zaO (hbox); have n3_ := zaO ((by rw [hg]; exact (zaP (by repeat (first | (with_reducible first | exact HB.out | apply zaE | apply zaA | apply zaD | refine zaH ?_ GE296.out) | exact HB.out))) : w.heap.size ≤ gb297)); have n4_ := n3_; have n5_ := zaO ((by rw [hg]; exact Nat.ne_of_lt (zbN (g := gb296) (o := .cells #[.int .i64 a0_0, .int .i64 a0_1, .int .i64 a0_2] 34 (0, 0)) (by (with_reducible repeat (first | apply zaC | apply zaF | apply zaB)); exact BK296.out)) : gb296 ≠ gb297)); have n6_ := zaO ((by rw [hg]; exact Nat.ne_of_gt (zbN (g := gb296) (o := .cells #[.int .i64 a0_0, .int .i64 a0_1, .int .i64 a0_2] 34 (0, 0)) (by (with_reducible repeat (first | apply zaC | apply zaF | apply zaB)); exact BK296.out)) : gb297 ≠ gb296)); clear BK296; clear HB; have BK296 := n0_; have HB := n1_; have BK297 := n2_; have GW297 := n3_; have GE297 := n4_; have NB296_297 := n5_; have NB297_296 := n6_; clear n0_ n1_ n2_ n3_ n4_ n5_ n6_; clear hb hbox hg) | ((with_reducible refine zbC (N := 4) rfl ?_); refine zaW ?hg (N := 4) ?hd (cs := #[.int .i64 0, .int .i64 0, .int .i64 0]) (t := 34) ?hr ?_; (case hd => rfl); (case hg => rfl); (case hr => first | (go_simp; done) | (go_simp; rfl)); intro gb298 hg w7 hbox hb; have n0_ := zaO (zaL (g := gb296) (o := .cells #[.int .i64 a0_0, .int .i64 a0_1, .int .i64 a0_2] 34 (0, 0)) (by (with_reducible repeat (first | apply zaC | apply zaF | apply zaB)); exact BK296.out) hb); have n1_ := zaO (zaL (g := gb297) (o := .cells #[.int .i64 a1_0, .int .i64 a1_1, .int .i64 a1_2] 34 (0, 0)) (by (with_reducible repeat (first | apply zaC | apply zaF | apply zaB)); exact BK297.out) hb); have n2_ := zaO (zaK (by repeat (first | (with_reducible first | exact HB.out | apply zaE | apply zaA | apply zaD | refine zaH ?_ GE296.out | refine zaH ?_ GE297.out) | exact HB.out)) hb); have n3_ := zaO (hbox); have n4_ := zaO ((by rw [hg]; exact (zaP (by repeat (first | (with_reducible first | exact HB.out | apply zaE | apply zaA | apply zaD | refine zaH ?_ GE296.out | refine zaH ?_ GE297.out) | exact HB.out))) : w.heap.size ≤ gb298)); have n5_ := n4_; have n6_ := zaO ((by rw [hg]; exact Nat.ne_of_lt (zbN (g := gb296) (o := .cells #[.int .i64 a0_0, .int .i64 a0_1, .int .i64 a0_2] 34 (0, 0)) (by (with_reducible repeat (first | apply zaC | apply zaF | apply zaB)); exact BK296.out)) : gb296 ≠ gb298)); have n7_ := zaO ((by rw [hg]; exact Nat.ne_of_gt (zbN (g := gb296) (o := .cells #[.int .i64 a0_0, .int .i64 a0_1, .int .i64 a0_2] 34 (0, 0)) (by (with_reducible repeat (first | apply zaC | apply zaF | apply zaB)); exact BK296.out)) : gb298 ≠ gb296)); have n8_ := zaO ((by rw [hg]; exact Nat.ne_of_lt (zbN (g := gb297) (o := .cells #[.int .i64 a1_0, .int .i64 a1_1, .int .i64 a1_2] 34 (0, 0)) (by (with_reducible repeat (first | apply zaC | apply zaF | apply zaB)); exact BK297.out)) : gb297 ≠ gb298)); have n9_ := zaO ((by rw [hg]; exact Nat.ne_of_gt (zbN (g := gb297) (o := .cells #[.int .i64 a1_0, .int .i64 a1_1, .int .i64 a1_2] 34 (0, 0)) (by (with_reducible repeat (first | apply zaC | apply zaF | apply zaB)); exact BK297.out)) : gb298 ≠ gb297)); clear BK296; clear BK297; clear HB; have BK296 := n0_; have BK297 := n1_; have HB := n2_; have BK298 := n3_; have GW298 := n4_; have GE298 := n5_; have NB296_298 := n6_; have NB298_296 := n7_; have NB297_298 := n8_; have NB298_297 := n9_; clear n0_ n1_ n2_ n3_ n4_ n5_ n6_ n7_ n8_ n9_; clear hb hbox hg))
 have n0_ := zaO (zaF BK296.out)
 have n1_ := zaO (zaF BK297.out)
 have n2_ := zaO (zaF BK298.out)
 have n3_ := zaO (zaD HB.out)
 clear BK296
 clear BK297
 clear BK298
 clear HB
 have BK296 := n0_
 have BK297 := n1_
 have BK298 := n2_
 have HB := n3_
 clear n0_ n1_ n2_ n3_
 refine zdU (n := 5) (S := fun w' => w'.cell? ⟨gb296, 0, none⟩ = some (.int .i64 a0_0) ∧ w'.cell? ⟨gb296, 1, none⟩ = some (.int .i64 a0_1) ∧ w'.cell? ⟨gb296, 2, none⟩ = some (.int .i64 a0_2) ∧ w'.cell? ⟨gb297, 0, none⟩ = some (.int .i64 a1_0) ∧ w'.cell? ⟨gb297, 1, none⟩ = some (.int .i64 a1_1) ∧ w'.cell? ⟨gb297, 2, none⟩ = some (.int .i64 a1_2)) (ds := []) #[false, false, false, false, false] (by kernel_rfl) rfl rfl ⟨(zaI BK296.out 0).trans rfl, (zaI BK296.out 1).trans rfl, (zaI BK296.out 2).trans rfl, (zaI BK297.out 0).trans rfl, (zaI BK297.out 1).trans rfl, (zaI BK297.out 2).trans rfl⟩ (fun hHeld => ?_)
 generalize w7.drew = w8 at BK296 BK297 BK298 HB hHeld ⊢
 refine take_ (i := 0) (N := some 5) (v := ?_) (a' := ?_) #[true, false, false, false, false] rfl rfl (by kernel_rfl) (fun _ _ _ h => h) (Or.inl ⟨by rfl, ?_⟩) hHeld ?_ ?_
 rotate_left
 ·rintro w' ⟨s0, s1, s2, s3, s4, s5⟩
  go_simp
  with_reducible rfl
 rotate_left
 ·simp only [Act.put, List.setIfInBounds_toArray, List.set_cons_zero, List.set_cons_succ, zaT, zaU]
  rfl
 refine take_ (i := 1) (N := some 6) (v := ?_) (a' := ?_) #[true, true, false, false, false] rfl rfl (by kernel_rfl) (fun _ _ _ h => h) (Or.inl ⟨by rfl, ?_⟩) hHeld ?_ ?_
 rotate_left
 ·rintro w' ⟨s0, s1, s2, s3, s4, s5⟩
  go_simp
  with_reducible rfl
 rotate_left
 ·simp only [Act.put, List.setIfInBounds_toArray, List.set_cons_zero, List.set_cons_succ, zaT, zaU]
  rfl
 refine zeX (i := 2) (N := some 7) #[true, true, true, false, false] rfl rfl (by kernel_rfl) (by decide) (fun K hK => ?_)
 refine zdI Tryd.func167 (by kernel_rfl) rfl #[.agg #[.int .i64 a1_0, .int .i64 a1_1, .int .i64 a1_2]] (by rfl) rfl rfl (by (try simp only [List.map_toArray, List.map_cons, List.map_nil]); first | done | rfl | (simp only [List.length_drop, List.length_take]; rfl)) ?_
 with_reducible refine (zcS.calls a1_0 a1_1 a1_2 t299 t300 t301 _ A3.out).mono ?_
 rintro e w9 ⟨rfl, hb⟩
 refine ⟨_, rfl, ?_⟩
 have n0_ := zaO (zaL (g := gb296) (o := .cells #[.int .i64 a0_0, .int .i64 a0_1, .int .i64 a0_2] 34 (0, 0)) (by (with_reducible repeat (first | apply zaC | apply zaF | apply zaB)); exact BK296.out) hb)
 have n1_ := zaO (zaL (g := gb297) (o := .cells #[.int .i64 a1_0, .int .i64 a1_1, .int .i64 a1_2] 34 (0, 0)) (by (with_reducible repeat (first | apply zaC | apply zaF | apply zaB)); exact BK297.out) hb)
 have n2_ := zaO (zaL (g := gb298) (o := .cells #[.int .i64 0, .int .i64 0, .int .i64 0] 34 (0, 0)) (by (with_reducible repeat (first | apply zaC | apply zaF | apply zaB)); exact BK298.out) hb)
 have n3_ := zaO (zaK (by repeat (first | (with_reducible first | exact HB.out | apply zaE | apply zaA | apply zaD | refine zaH ?_ GE296.out | refine zaH ?_ GE297.out | refine zaH ?_ GE298.out) | exact HB.out)) hb)
 clear BK296
 clear BK297
 clear BK298
 clear HB
 have BK296 := n0_
 have BK297 := n1_
 have BK298 := n2_
 have HB := n3_
 clear n0_ n1_ n2_ n3_
 (try clear hb)
 (try clear hb2)
 (try clear hk)
 (try clear hi)
 refine hK.out _ _ ⟨(zaI BK296.out 0).trans rfl, (zaI BK296.out 1).trans rfl, (zaI BK296.out 2).trans rfl, (zaI BK297.out 0).trans rfl, (zaI BK297.out 1).trans rfl, (zaI BK297.out 2).trans rfl⟩ (fun hHeld => ?_)
 clear hK K
 refine zdL (a' := ?_) ?_ ?_
 rotate_left
 ·show Act.put _ (some 7) _ = _
  simp only [Act.put, List.setIfInBounds_toArray, List.set_cons_zero, List.set_cons_succ, zaT, zaU]
  rfl
 refine zeX (i := 3) (N := some 8) #[true, true, true, true, false] rfl rfl (by kernel_rfl) (by decide) (fun K hK => ?_)
 refine zdI Tryd.func169 (by kernel_rfl) rfl #[.agg #[.int .i64 a0_0, .int .i64 a0_1, .int .i64 a0_2], .agg #[.int .i64 t299, .int .i64 t300, .int .i64 t301]] (by rfl) rfl rfl (by (try simp only [List.map_toArray, List.map_cons, List.map_nil]); first | done | rfl | (simp only [List.length_drop, List.length_take]; rfl)) ?_
 with_reducible refine (zbY.calls k a0_0 a0_1 a0_2 t299 t300 t301 t302 t303 t304 _ A4.out).mono ?_
 rintro e w10 ⟨rfl, hb⟩
 refine ⟨_, rfl, ?_⟩
 have n0_ := zaO (zaL (g := gb296) (o := .cells #[.int .i64 a0_0, .int .i64 a0_1, .int .i64 a0_2] 34 (0, 0)) (by (with_reducible repeat (first | apply zaC | apply zaF | apply zaB)); exact BK296.out) hb)
 have n1_ := zaO (zaL (g := gb297) (o := .cells #[.int .i64 a1_0, .int .i64 a1_1, .int .i64 a1_2] 34 (0, 0)) (by (with_reducible repeat (first | apply zaC | apply zaF | apply zaB)); exact BK297.out) hb)
 have n2_ := zaO (zaL (g := gb298) (o := .cells #[.int .i64 0, .int .i64 0, .int .i64 0] 34 (0, 0)) (by (with_reducible repeat (first | apply zaC | apply zaF | apply zaB)); exact BK298.out) hb)
 have n3_ := zaO (zaK (by repeat (first | (with_reducible first | exact HB.out | apply zaE | apply zaA | apply zaD | refine zaH ?_ GE296.out | refine zaH ?_ GE297.out | refine zaH ?_ GE298.out) | exact HB.out)) hb)
 clear BK296
 clear BK297
 clear BK298
 clear HB
 have BK296 := n0_
 have BK297 := n1_
 have BK298 := n2_
 have HB := n3_
 clear n0_ n1_ n2_ n3_
 (try clear hb)
 (try clear hb2)
 (try clear hk)
 (try clear hi)
 refine hK.out _ _ ⟨(zaI BK296.out 0).trans rfl, (zaI BK296.out 1).trans rfl, (zaI BK296.out 2).trans rfl, (zaI BK297.out 0).trans rfl, (zaI BK297.out 1).trans rfl, (zaI BK297.out 2).trans rfl⟩ (fun hHeld => ?_)
 clear hK K
 refine zdL (a' := ?_) ?_ ?_
 rotate_left
 ·show Act.put _ (some 8) _ = _
  simp only [Act.put, List.setIfInBounds_toArray, List.set_cons_zero, List.set_cons_succ, zaT, zaU]
  rfl
 refine zeX (i := 4) (N := none) #[true, true, true, true, true] rfl rfl (by kernel_rfl) (by decide) (fun K hK => ?_)
 have hs11 : w10.cell? ⟨gb298, 0, none⟩ = some (.int .i64 0) := (zaI BK298.out 0).trans rfl
 have hfs11 := zbM BK298.out 0
 have hns11_0 := NB296_298.out
 have hns11_1 := NB297_298.out
 have hms11_0 := NB298_296.out
 have hms11_1 := NB298_297.out
 have hs12 : w10.cell? ⟨gb298, 1, none⟩ = some (.int .i64 0) := (zaI BK298.out 1).trans rfl
 have hfs12 := zbM BK298.out 1
 have hns12_0 := NB296_298.out
 have hns12_1 := NB297_298.out
 have hms12_0 := NB298_296.out
 have hms12_1 := NB298_297.out
 have hs13 : w10.cell? ⟨gb298, 2, none⟩ = some (.int .i64 0) := (zaI BK298.out 2).trans rfl
 have hfs13 := zbM BK298.out 2
 have hns13_0 := NB296_298.out
 have hns13_1 := NB297_298.out
 have hms13_0 := NB298_296.out
 have hms13_1 := NB298_297.out
 refine skip_ (w1 := ?_) (by rfl) rfl ?_ ?_
 rotate_left
 ·go_simp
  rfl
 refine hK.out _ _ ⟨((zaJ (p := ⟨gb298, _, none⟩) NB296_298.out _).trans (((zaJ (p := ⟨gb298, _, none⟩) NB296_298.out _).trans (((zaJ (p := ⟨gb298, _, none⟩) NB296_298.out _).trans (hHeld.1)))))), ((zaJ (p := ⟨gb298, _, none⟩) NB296_298.out _).trans (((zaJ (p := ⟨gb298, _, none⟩) NB296_298.out _).trans (((zaJ (p := ⟨gb298, _, none⟩) NB296_298.out _).trans (hHeld.2.1)))))), ((zaJ (p := ⟨gb298, _, none⟩) NB296_298.out _).trans (((zaJ (p := ⟨gb298, _, none⟩) NB296_298.out _).trans (((zaJ (p := ⟨gb298, _, none⟩) NB296_298.out _).trans (hHeld.2.2.1)))))), ((zaJ (p := ⟨gb298, _, none⟩) NB297_298.out _).trans (((zaJ (p := ⟨gb298, _, none⟩) NB297_298.out _).trans (((zaJ (p := ⟨gb298, _, none⟩) NB297_298.out _).trans (hHeld.2.2.2.1)))))), ((zaJ (p := ⟨gb298, _, none⟩) NB297_298.out _).trans (((zaJ (p := ⟨gb298, _, none⟩) NB297_298.out _).trans (((zaJ (p := ⟨gb298, _, none⟩) NB297_298.out _).trans (hHeld.2.2.2.2.1)))))), ((zaJ (p := ⟨gb298, _, none⟩) NB297_298.out _).trans (((zaJ (p := ⟨gb298, _, none⟩) NB297_298.out _).trans (((zaJ (p := ⟨gb298, _, none⟩) NB297_298.out _).trans (hHeld.2.2.2.2.2))))))⟩ (fun hHeld => ?_)
 clear hK K
 refine done_ (by kernel_rfl) ?_
 try go_wp2
 refine bodyPost_ret (results_cell_row rfl _ _ gb298 34 #[.int .i64 t302, .int .i64 t303, .int .i64 t304] (0, 0) _ rfl (by (with_reducible repeat (first | apply zaC | apply zaF | apply zaB)); refine zaR (cs := #[.int .i64 t302, .int .i64 t303, .int .i64 0]) ?_ 2 _ rfl; (with_reducible repeat (first | apply zaC | apply zaF | apply zaB)); refine zaR (cs := #[.int .i64 t302, .int .i64 0, .int .i64 0]) ?_ 1 _ rfl; (with_reducible repeat (first | apply zaC | apply zaF | apply zaB)); refine zaR (cs := #[.int .i64 0, .int .i64 0, .int .i64 0]) ?_ 0 _ rfl; (with_reducible repeat (first | apply zaC | apply zaF | apply zaB)); exact BK298.out) Tryd.underlying34 rfl (by kernel_rfl)) rfl ?_
 exact ⟨by first | rfl | (simp [zaN, zaM] <;> rfl) | (simp [*, zaN, zaM] <;> rfl), by repeat (first | (with_reducible first | exact HB.out | apply zaE | apply zaA | apply zaD | refine zaH ?_ GE296.out | refine zaH ?_ GE297.out | refine zaH ?_ GE298.out) | exact HB.out)⟩

def zbX.f (k : Nat) (a0_0 : Int) (a0_1 : Int) (a0_2 : Int) (a0_3 : Int) (a0_4 : Int) (a0_5 : Int) (a1_0 : Int) (a1_1 : Int) (a1_2 : Int) (a1_3 : Int) (a1_4 : Int) (a1_5 : Int) : Option (Int × Int × Int × Int × Int × Int) := (zbT.f k a0_0 a0_1 a0_2 a1_0 a1_1 a1_2).bind fun bt308 => ((zbT.f k a0_3 a0_4 a0_5 a1_3 a1_4 a1_5).bind fun bt311 => (some (bt308.1, bt308.2.1, bt308.2.2, bt311.1, bt311.2.1, bt311.2.2)))
theorem zbX.mono : ∀ a0 a1 a2 a3 a4 a5 a6 a7 a8 a9 a10 a11 k, LeO (zbX.f k a0 a1 a2 a3 a4 a5 a6 a7 a8 a9 a10 a11) (zbX.f (k + 1) a0 a1 a2 a3 a4 a5 a6 a7 a8 a9 a10 a11) := by
 intro a0 a1 a2 a3 a4 a5 a6 a7 a8 a9 a10 a11 k
 unfold zbX.f
 repeat' first
   | (with_reducible exact zbT.mono _ _ _ _ _ _ _)
   | (with_reducible exact LeO.refl _)
   | (with_reducible exact LeO.none _)
   | (with_reducible refine LeO.ite ?_ ?_)
   | (with_reducible refine LeO.bind ?_ (fun _ => ?_))
   | exact zbT.mono _ _ _ _ _ _ _
   | exact LeO.none _
   | refine LeO.ite ?_ ?_
   | refine LeO.bind ?_ (fun _ => ?_)
def zbX.T1 : Bool × List (List Nat × List Nat) := (true, [([], []), ([0], [0]), ([], []), ([2], [2]), ([1, 3], [1, 3]), ([], []), ([5], [5]), ([], []), ([7], [7]), ([6, 8, 4], [6, 8]), ([4, 9], [4, 9]), ([10, 9, 0, 1, 2, 3, 4, 5, 6, 7, 8, 9, 10], [10])])
def zbX.B1 : List Nat := [0, 1, 0, 4, 15, 0, 32, 0, 128, 511, 1023, 2047]
theorem zbX.tab1 : rtab .any (opsOf Tryd.f138 1) = zbX.T1 := by kernel_rfl
theorem zbX.bits1 : zeC zbX.T1.2 zbX.B1 = true := by kernel_rfl
set_option maxHeartbeats 8000000 in
set_option maxRecDepth 100000 in
theorem zbX.calls (k : Nat) (a0_0 : Int) (a0_1 : Int) (a0_2 : Int) (a0_3 : Int) (a0_4 : Int) (a0_5 : Int) (a1_0 : Int) (a1_1 : Int) (a1_2 : Int) (a1_3 : Int) (a1_4 : Int) (a1_5 : Int) (r1 : Int) (r2 : Int) (r3 : Int) (r4 : Int) (r5 : Int) (r6 : Int) (w : World) (h : zbX.f k a0_0 a0_1 a0_2 a0_3 a0_4 a0_5 a1_0 a1_1 a1_2 a1_3 a1_4 a1_5 = some (r1, r2, r3, r4, r5, r6)) :
  Calls Tryd.prog 138 #[.agg #[.int .i64 a0_0, .int .i64 a0_1, .int .i64 a0_2, .int .i64 a0_3, .int .i64 a0_4, .int .i64 a0_5], .agg #[.int .i64 a1_0, .int .i64 a1_1, .int .i64 a1_2, .int .i64 a1_3, .int .i64 a1_4, .int .i64 a1_5]] w fun e w' => e = .returned (.agg #[.int .i64 r1, .int .i64 r2, .int .i64 r3, .int .i64 r4, .int .i64 r5, .int .i64 r6]) ∧ Below w.heap.size w w' := by
 have hu36 := Tryd.underlying36
 have hu34 := Tryd.underlying34
 have HB := zaO (Below.refl w.heap.size w)
 have H : ((zbT.f k a0_0 a0_1 a0_2 a1_0 a1_1 a1_2).bind fun bt308 => ((zbT.f k a0_3 a0_4 a0_5 a1_3 a1_4 a1_5).bind fun bt311 => (some (bt308.1, bt308.2.1, bt308.2.2, bt311.1, bt311.2.1, bt311.2.2)))) = some (r1, r2, r3, r4, r5, r6) := h
 clear h
 replace H := Option.bind_eq_some_iff.mp H
 obtain ⟨⟨t308, t309, t310⟩, A30, H⟩ := H
 replace H : ((zbT.f k a0_3 a0_4 a0_5 a1_3 a1_4 a1_5).bind fun bt311 => (some (t308, t309, t310, bt311.1, bt311.2.1, bt311.2.2))) = some (r1, r2, r3, r4, r5, r6) := H
 have A3 := zaO A30
 clear A30
 replace H := Option.bind_eq_some_iff.mp H
 obtain ⟨⟨t311, t312, t313⟩, A40, H⟩ := H
 replace H : (some (t308, t309, t310, t311, t312, t313)) = some (r1, r2, r3, r4, r5, r6) := H
 have A4 := zaO A40
 clear A40
 simp only [Option.some.injEq, Prod.mk.injEq] at H
 obtain ⟨rfl, rfl, rfl, rfl, rfl, rfl⟩ := H
 go_enter Tryd.func138, Tryd.ntmps138
 try go_wp2_with (first | ((with_reducible refine zbC (N := 2) rfl ?_); refine zaW ?hg (N := 2) ?hd (cs := #[.int .i64 a0_0, .int .i64 a0_1, .int .i64 a0_2, .int .i64 a0_3, .int .i64 a0_4, .int .i64 a0_5]) (t := 36) ?hr ?_; (case hd => rfl); (case hg => rfl); (case hr => first | (go_simp; done) | (go_simp; rfl)); intro gb305 hg w5 hbox hb; have n0_ := zaO (zaK (by repeat (first | (with_reducible first | exact HB.out | apply zaE | apply zaA | apply zaD) | exact HB.out)) hb); have n1_ := zaO (hbox); have n2_ := zaO ((by rw [hg]; exact (zaP (by repeat (first | (with_reducible first | exact HB.out | apply zaE | apply zaA | apply zaD) | exact HB.out))) : w.heap.size ≤ gb305)); have n3_ := n2_; clear HB; have HB := n0_; have BK305 := n1_; have GW305 := n2_; have GE305 := n3_; clear n0_ n1_ n2_ n3_; clear hb hbox hg) | ((with_reducible refine zbC (N := 3) rfl ?_); refine zaW ?hg (N := 3) ?hd (cs := #[.int .i64 a1_0, .int .i64 a1_1, .int .i64 a1_2, .int .i64 a1_3, .int .i64 a1_4, .int .i64 a1_5]) (t := 36) ?hr ?_; (case hd => rfl); (case hg => rfl); (case hr => first | (go_simp; done) | (go_simp; rfl)); intro gb306 hg w6 hbox hb; have n0_ := zaO (zaL (g := gb305) (o := .cells #[.int .i64 a0_0, .int .i64 a0_1, .int .i64 a0_2, .int .i64 a0_3, .int .i64 a0_4, .int .i64 a0_5] 36 (0, 0)) (by (with_reducible repeat (first | apply zaC | apply zaF | apply zaB)); exact BK305.out) hb); have n1_ := zaO (zaK (by repeat (first | (with_reducible first | exact HB.out | apply zaE | apply zaA | apply zaD | refine zaH ?_ GE305.out) | exact HB.out)) hb); have n2_ := zaO (hbox); have n3_ := zaO ((by rw [hg]; exact (zaP (by repeat (first | (with_reducible first | exact HB.out | apply zaE | apply zaA | apply zaD | refine zaH ?_ GE305.out) | exact HB.out))) : w.heap.size ≤ gb306)); have n4_ := n3_; have n5_ := zaO ((by rw [hg]; exact Nat.ne_of_lt (zbN (g := gb305) (o := .cells #[.int .i64 a0_0, .int .i64 a0_1, .int .i64 a0_2, .int .i64 a0_3, .int .i64 a0_4, .int .i64 a0_5] 36 (0, 0)) (by (with_reducible repeat (first | apply zaC | apply zaF | apply zaB)); exact BK305.out)) : gb305 ≠ gb306)); have n6_ := zaO ((by rw [hg]; exact Nat.ne_of_gt (zbN (g := gb305) (o := .cells #[.int .i64 a0_0, .int .i64 a0_1, .int .i64 a0_2, .int .i64 a0_3, .int .i64 a0_4, .int .i64 a0_5] 36 (0, 0)) (by (with_reducible repeat (first | apply zaC | apply zaF | apply zaB)); exact BK305.out)) : gb306 ≠ gb305)); clear BK305; clear HB; have BK305 := n0_; have HB := n1_; have BK306 := n2_; have GW306 := n3_; have GE306 := n4_; have NB305_306 := n5_; have NB306_305 := n6_; clear n0_ n1_ n2_ n3_ n4_ n5_ n6_; clear hb hbox hg) | ((with_reducible refine zbC (N := 4) rfl ?_); refine zaW ?hg (N := 4) ?hd (cs := #[.int .i64 0, .int .i64 0, .int .i64 0, .int .i64 0, .int .i64 0, .int .i64 0]) (t := 36) ?hr ?_; (case hd => rfl); (case hg => rfl); (case hr => first | (go_simp; done) | (go_simp; rfl)); intro gb307 hg w7 hbox hb; have n0_ := zaO (zaL (g := gb305) (o := .cells #[.int .i64 a0_0, .int .i64 a0_1, .int .i64 a0_2, .int .i64 a0_3, .int .i64 a0_4, .int .i64 a0_5] 36 (0, 0)) (by (with_reducible repeat (first | apply zaC | apply zaF | apply zaB)); exact BK305.out) hb); have n1_ := zaO (zaL (g := gb306) (o := .cells #[.int .i64 a1_0, .int .i64 a1_1, .int .i64 a1_2, .int .i64 a1_3, .int .i64 a1_4, .int .i64 a1_5] 36 (0, 0)) (by (with_reducible repeat (first | apply zaC | apply zaF | apply zaB)); exact BK306.out) hb); have n2_ := zaO (zaK (by repeat (first | (with_reducible first | exact HB.out | apply zaE | apply zaA | apply zaD | refine zaH ?_ GE305.out | refine zaH ?_ GE306.out) | exact HB.out)) hb); have n3_ := zaO (hbox); have n4_ := zaO ((by rw [hg]; exact (zaP (by repeat (first | (with_reducible first | exact HB.out | apply zaE | apply zaA | apply zaD | refine zaH ?_ GE305.out | refine zaH ?_ GE306.out) | exact HB.out))) : w.heap.size ≤ gb307)); have n5_ := n4_; have n6_ := zaO ((by rw [hg]; exact Nat.ne_of_lt (zbN (g := gb305) (o := .cells #[.int .i64 a0_0, .int .i64 a0_1, .int .i64 a0_2, .int .i64 a0_3, .int .i64 a0_4, .int .i64 a0_5] 36 (0, 0)) (by (with_reducible repeat (first | apply zaC | apply zaF | apply zaB)); exact BK305.out)) : gb305 ≠ gb307)); have n7_ := zaO ((by rw [hg]; exact Nat.ne_of_gt (zbN (g := gb305) (o := .cells #[.int .i64 a0_0, .int .i64 a0_1, .int .i64 a0_2, .int .i64 a0_3, .int .i64 a0_4, .int .i64 a0_5] 36 (0, 0)) (by (with_reducible repeat (first | apply zaC | apply zaF | apply zaB)); exact BK305.out)) : gb307 ≠ gb305)); have n8_ := zaO ((by rw [hg]; exact Nat.ne_of_lt (zbN (g := gb306) (o := .cells #[.int .i64 a1_0, .int .i64 a1_1, .int .i64 a1_2, .int .i64 a1_3, .int .i64 a1_4, .int .i64 a1_5] 36 (0, 0)) (by (with_reducible repeat (first | apply zaC | apply zaF | apply zaB)); exact BK306.out)) : gb306 ≠ gb307)); have n9_ := zaO ((by rw [hg]; exact Nat.ne_of_gt (zbN (g := gb306) (o := .cells #[.int .i64 a1_0, .int .i64 a1_1, .int .i64 a1_2, .int .i64 a1_3, .int .i64 a1_4, .int .i64 a1_5] 36 (0, 0)) (by (with_reducible repeat (first | apply zaC | apply zaF | apply zaB)); exact BK306.out)) : gb307 ≠ gb306)); clear BK305; clear BK306; clear HB; have BK305 := n0_; have BK306 := n1_; have HB := n2_; have BK307 := n3_; have GW307 := n4_; have GE307 := n5_; have NB305_307 := n6_; have NB307_305 := n7_; have NB306_307 := n8_; have NB307_306 := n9_; clear n0_ n1_ n2_ n3_ n4_ n5_ n6_ n7_ n8_ n9_; clear hb hbox hg))
 have n0_ := zaO (zaF BK305.out)
 have n1_ := zaO (zaF BK306.out)
 have n2_ := zaO (zaF BK307.out)
 have n3_ := zaO (zaD HB.out)
 clear BK305
 clear BK306
 clear BK307
 clear HB
 have BK305 := n0_
 have BK306 := n1_
 have BK307 := n2_
 have HB := n3_
 clear n0_ n1_ n2_ n3_
 refine zdU (n := 12) (S := fun w' => w'.cell? ⟨gb305, 0, none⟩ = some (.int .i64 a0_0) ∧ w'.cell? ⟨gb305, 1, none⟩ = some (.int .i64 a0_1) ∧ w'.cell? ⟨gb305, 2, none⟩ = some (.int .i64 a0_2) ∧ w'.cell? ⟨gb305, 3, none⟩ = some (.int .i64 a0_3) ∧ w'.cell? ⟨gb305, 4, none⟩ = some (.int .i64 a0_4) ∧ w'.cell? ⟨gb305, 5, none⟩ = some (.int .i64 a0_5) ∧ w'.cell? ⟨gb306, 0, none⟩ = some (.int .i64 a1_0) ∧ w'.cell? ⟨gb306, 1, none⟩ = some (.int .i64 a1_1) ∧ w'.cell? ⟨gb306, 2, none⟩ = some (.int .i64 a1_2) ∧ w'.cell? ⟨gb306, 3, none⟩ = some (.int .i64 a1_3) ∧ w'.cell? ⟨gb306, 4, none⟩ = some (.int .i64 a1_4) ∧ w'.cell? ⟨gb306, 5, none⟩ = some (.int .i64 a1_5)) (ds := []) #[false, false, false, false, false, false, false, false, false, false, false, false] (by kernel_rfl) rfl rfl ⟨(zaI BK305.out 0).trans rfl, (zaI BK305.out 1).trans rfl, (zaI BK305.out 2).trans rfl, (zaI BK305.out 3).trans rfl, (zaI BK305.out 4).trans rfl, (zaI BK305.out 5).trans rfl, (zaI BK306.out 0).trans rfl, (zaI BK306.out 1).trans rfl, (zaI BK306.out 2).trans rfl, (zaI BK306.out 3).trans rfl, (zaI BK306.out 4).trans rfl, (zaI BK306.out 5).trans rfl⟩ (fun hHeld => ?_); refine zcT zbX.tab1 zbX.bits1 (fun HT_ HW_ => ?_)
 generalize w7.drew = w8 at BK305 BK306 BK307 HB hHeld ⊢
 refine zbL (i := 0) (N := some 5) (v := ?_) (a' := ?_) #[true, false, false, false, false, false, false, false, false, false, false, false] rfl rfl (zaY HT_.out (by kernel_rfl)) (fun _ _ _ h => h) (Or.inl ⟨by rfl, ?_⟩) ?_ ?_
 rotate_left
 ·intro w'
  go_simp
  with_reducible rfl
 rotate_left
 ·simp only [Act.put, List.setIfInBounds_toArray, List.set_cons_zero, List.set_cons_succ, zaT, zaU]
  rfl
 refine zbL (i := 2) (N := some 7) (v := ?_) (a' := ?_) #[true, false, true, false, false, false, false, false, false, false, false, false] rfl rfl (zaY HT_.out (by kernel_rfl)) (fun _ _ _ h => h) (Or.inl ⟨by rfl, ?_⟩) ?_ ?_
 rotate_left
 ·intro w'
  go_simp
  with_reducible rfl
 rotate_left
 ·simp only [Act.put, List.setIfInBounds_toArray, List.set_cons_zero, List.set_cons_succ, zaT, zaU]
  rfl
 refine zbL (i := 5) (N := some 10) (v := ?_) (a' := ?_) #[true, false, true, false, false, true, false, false, false, false, false, false] rfl rfl (zaY HT_.out (by kernel_rfl)) (fun _ _ _ h => h) (Or.inl ⟨by rfl, ?_⟩) ?_ ?_
 rotate_left
 ·intro w'
  go_simp
  with_reducible rfl
 rotate_left
 ·simp only [Act.put, List.setIfInBounds_toArray, List.set_cons_zero, List.set_cons_succ, zaT, zaU]
  rfl
 refine zbL (i := 7) (N := some 12) (v := ?_) (a' := ?_) #[true, false, true, false, false, true, false, true, false, false, false, false] rfl rfl (zaY HT_.out (by kernel_rfl)) (fun _ _ _ h => h) (Or.inl ⟨by rfl, ?_⟩) ?_ ?_
 rotate_left
 ·intro w'
  go_simp
  with_reducible rfl
 rotate_left
 ·simp only [Act.put, List.setIfInBounds_toArray, List.set_cons_zero, List.set_cons_succ, zaT, zaU]
  rfl
 refine take_ (i := 1) (N := some 6) (v := ?_) (a' := ?_) #[true, true, true, false, false, true, false, true, false, false, false, false] rfl rfl (zbU HT_.out HW_.out (by kernel_rfl)) (fun _ _ _ h => h) (Or.inl ⟨by rfl, ?_⟩) hHeld ?_ ?_
 rotate_left
 ·rintro w' ⟨s0, s1, s2, s3, s4, s5, s6, s7, s8, s9, s10, s11⟩
  go_simp
  with_reducible rfl
 rotate_left
 ·simp only [Act.put, List.setIfInBounds_toArray, List.set_cons_zero, List.set_cons_succ, zaT, zaU]
  rfl
 refine take_ (i := 3) (N := some 8) (v := ?_) (a' := ?_) #[true, true, true, true, false, true, false, true, false, false, false, false] rfl rfl (zbU HT_.out HW_.out (by kernel_rfl)) (fun _ _ _ h => h) (Or.inl ⟨by rfl, ?_⟩) hHeld ?_ ?_
 rotate_left
 ·rintro w' ⟨s0, s1, s2, s3, s4, s5, s6, s7, s8, s9, s10, s11⟩
  go_simp
  with_reducible rfl
 rotate_left
 ·simp only [Act.put, List.setIfInBounds_toArray, List.set_cons_zero, List.set_cons_succ, zaT, zaU]
  rfl
 refine take_ (i := 6) (N := some 11) (v := ?_) (a' := ?_) #[true, true, true, true, false, true, true, true, false, false, false, false] rfl rfl (zbU HT_.out HW_.out (by kernel_rfl)) (fun _ _ _ h => h) (Or.inl ⟨by rfl, ?_⟩) hHeld ?_ ?_
 rotate_left
 ·rintro w' ⟨s0, s1, s2, s3, s4, s5, s6, s7, s8, s9, s10, s11⟩
  go_simp
  with_reducible rfl
 rotate_left
 ·simp only [Act.put, List.setIfInBounds_toArray, List.set_cons_zero, List.set_cons_succ, zaT, zaU]
  rfl
 refine take_ (i := 8) (N := some 13) (v := ?_) (a' := ?_) #[true, true, true, true, false, true, true, true, true, false, false, false] rfl rfl (zbU HT_.out HW_.out (by kernel_rfl)) (fun _ _ _ h => h) (Or.inl ⟨by rfl, ?_⟩) hHeld ?_ ?_
 rotate_left
 ·rintro w' ⟨s0, s1, s2, s3, s4, s5, s6, s7, s8, s9, s10, s11⟩
  go_simp
  with_reducible rfl
 rotate_left
 ·simp only [Act.put, List.setIfInBounds_toArray, List.set_cons_zero, List.set_cons_succ, zaT, zaU]
  rfl
 refine zeX (i := 4) (N := some 9) #[true, true, true, true, true, true, true, true, true, false, false, false] rfl rfl (zcU HT_.out (by kernel_rfl)) (by decide) (fun K hK => ?_)
 refine zdI Tryd.func166 (by kernel_rfl) rfl #[.agg #[.int .i64 a0_0, .int .i64 a0_1, .int .i64 a0_2], .agg #[.int .i64 a1_0, .int .i64 a1_1, .int .i64 a1_2]] (by rfl) rfl rfl (by (try simp only [List.map_toArray, List.map_cons, List.map_nil]); first | done | rfl | (simp only [List.length_drop, List.length_take]; rfl)) ?_
 with_reducible refine (zbT.calls k a0_0 a0_1 a0_2 a1_0 a1_1 a1_2 t308 t309 t310 _ A3.out).mono ?_
 rintro e w9 ⟨rfl, hb⟩
 refine ⟨_, rfl, ?_⟩
 have n0_ := zaO (zaL (g := gb305) (o := .cells #[.int .i64 a0_0, .int .i64 a0_1, .int .i64 a0_2, .int .i64 a0_3, .int .i64 a0_4, .int .i64 a0_5] 36 (0, 0)) (by (with_reducible repeat (first | apply zaC | apply zaF | apply zaB)); exact BK305.out) hb)
 have n1_ := zaO (zaL (g := gb306) (o := .cells #[.int .i64 a1_0, .int .i64 a1_1, .int .i64 a1_2, .int .i64 a1_3, .int .i64 a1_4, .int .i64 a1_5] 36 (0, 0)) (by (with_reducible repeat (first | apply zaC | apply zaF | apply zaB)); exact BK306.out) hb)
 have n2_ := zaO (zaL (g := gb307) (o := .cells #[.int .i64 0, .int .i64 0, .int .i64 0, .int .i64 0, .int .i64 0, .int .i64 0] 36 (0, 0)) (by (with_reducible repeat (first | apply zaC | apply zaF | apply zaB)); exact BK307.out) hb)
 have n3_ := zaO (zaK (by repeat (first | (with_reducible first | exact HB.out | apply zaE | apply zaA | apply zaD | refine zaH ?_ GE305.out | refine zaH ?_ GE306.out | refine zaH ?_ GE307.out) | exact HB.out)) hb)
 clear BK305
 clear BK306
 clear BK307
 clear HB
 have BK305 := n0_
 have BK306 := n1_
 have BK307 := n2_
 have HB := n3_
 clear n0_ n1_ n2_ n3_
 (try clear hb)
 (try clear hb2)
 (try clear hk)
 (try clear hi)
 refine hK.out _ _ ⟨(zaI BK305.out 0).trans rfl, (zaI BK305.out 1).trans rfl, (zaI BK305.out 2).trans rfl, (zaI BK305.out 3).trans rfl, (zaI BK305.out 4).trans rfl, (zaI BK305.out 5).trans rfl, (zaI BK306.out 0).trans rfl, (zaI BK306.out 1).trans rfl, (zaI BK306.out 2).trans rfl, (zaI BK306.out 3).trans rfl, (zaI BK306.out 4).trans rfl, (zaI BK306.out 5).trans rfl⟩ (fun hHeld => ?_)
 clear hK K
 refine zdL (a' := ?_) ?_ ?_
 rotate_left
 ·show Act.put _ (some 9) _ = _
  simp only [Act.put, List.setIfInBounds_toArray, List.set_cons_zero, List.set_cons_succ, zaT, zaU]
  rfl
 refine zeX (i := 9) (N := some 14) #[true, true, true, true, true, true, true, true, true, true, false, false] rfl rfl (zcU HT_.out (by kernel_rfl)) (by decide) (fun K hK => ?_)
 refine zdI Tryd.func166 (by kernel_rfl) rfl #[.agg #[.int .i64 a0_3, .int .i64 a0_4, .int .i64 a0_5], .agg #[.int .i64 a1_3, .int .i64 a1_4, .int .i64 a1_5]] (by rfl) rfl rfl (by (try simp only [List.map_toArray, List.map_cons, List.map_nil]); first | done | rfl | (simp only [List.length_drop, List.length_take]; rfl)) ?_
 with_reducible refine (zbT.calls k a0_3 a0_4 a0_5 a1_3 a1_4 a1_5 t311 t312 t313 _ A4.out).mono ?_
 rintro e w10 ⟨rfl, hb⟩
 refine ⟨_, rfl, ?_⟩
 have n0_ := zaO (zaL (g := gb305) (o := .cells #[.int .i64 a0_0, .int .i64 a0_1, .int .i64 a0_2, .int .i64 a0_3, .int .i64 a0_4, .int .i64 a0_5] 36 (0, 0)) (by (with_reducible repeat (first | apply zaC | apply zaF | apply zaB)); exact BK305.out) hb)
 have n1_ := zaO (zaL (g := gb306) (o := .cells #[.int .i64 a1_0, .int .i64 a1_1, .int .i64 a1_2, .int .i64 a1_3, .int .i64 a1_4, .int .i64 a1_5] 36 (0, 0)) (by (with_reducible repeat (first | apply zaC | apply zaF | apply zaB)); exact BK306.out) hb)
 have n2_ := zaO (zaL (g := gb307) (o := .cells #[.int .i64 0, .int .i64 0, .int .i64 0, .int .i64 0, .int .i64 0, .int .i64 0] 36 (0, 0)) (by (with_reducible repeat (first | apply zaC | apply zaF | apply zaB)); exact BK307.out) hb)
 have n3_ := zaO (zaK (by repeat (first | (with_reducible first | exact HB.out | apply zaE | apply zaA | apply zaD | refine zaH ?_ GE305.out | refine zaH ?_ GE306.out | refine zaH ?_ GE307.out) | exact HB.out)) hb)
 clear BK305
 clear BK306
 clear BK307
 clear HB
 have BK305 := n0_
 have BK306 := n1_
 have BK307 := n2_
 have HB := n3_
 clear n0_ n1_ n2_ n3_
 (try clear hb)
 (try clear hb2)
 (try clear hk)
 (try clear hi)
 refine hK.out _ _ ⟨(zaI BK305.out 0).trans rfl, (zaI BK305.out 1).trans rfl, (zaI BK305.out 2).trans rfl, (zaI BK305.out 3).trans rfl, (zaI BK305.out 4).trans rfl, (zaI BK305.out 5).trans rfl, (zaI BK306.out 0).trans rfl, (zaI BK306.out 1).trans rfl, (zaI BK306.out 2).trans rfl, (zaI BK306.out 3).trans rfl, (zaI BK306.out 4).trans rfl, (zaI BK306.out 5).trans rfl⟩ (fun hHeld => ?_)
 clear hK K
 refine zdL (a' := ?_) ?_ ?_
 rotate_left
 ·show Act.put _ (some 14) _ = _
  simp only [Act.put, List.setIfInBounds_toArray, List.set_cons_zero, List.set_cons_succ, zaT, zaU]
  rfl
 refine zbL (i := 10) (N := some 15) (v := ?_) (a' := ?_) #[true, true, true, true, true, true, true, true, true, true, true, false] rfl rfl (zaY HT_.out (by kernel_rfl)) (fun _ _ _ h => h) (Or.inl ⟨by rfl, ?_⟩) ?_ ?_
 rotate_left
 ·intro w'
  go_simp
  with_reducible rfl
 rotate_left
 ·simp only [Act.put, List.setIfInBounds_toArray, List.set_cons_zero, List.set_cons_succ, zaT, zaU]
  rfl
 refine zeX (i := 11) (N := none) #[true, true, true, true, true, true, true, true, true, true, true, true] rfl rfl (zcU HT_.out (by kernel_rfl)) (by decide) (fun K hK => ?_)
 have hs11 : w10.cell? ⟨gb307, 0, none⟩ = some (.int .i64 0) := (zaI BK307.out 0).trans rfl
 have hfs11 := zbM BK307.out 0
 have hns11_0 := NB305_307.out
 have hns11_1 := NB306_307.out
 have hms11_0 := NB307_305.out
 have hms11_1 := NB307_306.out
 have hs12 : w10.cell? ⟨gb307, 1, none⟩ = some (.int .i64 0) := (zaI BK307.out 1).trans rfl
 have hfs12 := zbM BK307.out 1
 have hns12_0 := NB305_307.out
 have hns12_1 := NB306_307.out
 have hms12_0 := NB307_305.out
 have hms12_1 := NB307_306.out
 have hs13 : w10.cell? ⟨gb307, 2, none⟩ = some (.int .i64 0) := (zaI BK307.out 2).trans rfl
 have hfs13 := zbM BK307.out 2
 have hns13_0 := NB305_307.out
 have hns13_1 := NB306_307.out
 have hms13_0 := NB307_305.out
 have hms13_1 := NB307_306.out
 have hs14 : w10.cell? ⟨gb307, 3, none⟩ = some (.int .i64 0) := (zaI BK307.out 3).trans rfl
 have hfs14 := zbM BK307.out 3
 have hns14_0 := NB305_307.out
 have hns14_1 := NB306_307.out
 have hms14_0 := NB307_305.out
 have hms14_1 := NB307_306.out
 have hs15 : w10.cell? ⟨gb307, 4, none⟩ = some (.int .i64 0) := (zaI BK307.out 4).trans rfl
 have hfs15 := zbM BK307.out 4
 have hns15_0 := NB305_307.out
 have hns15_1 := NB306_307.out
 have hms15_0 := NB307_305.out
 have hms15_1 := NB307_306.out
 have hs16 : w10.cell? ⟨gb307, 5, none⟩ = some (.int .i64 0) := (zaI BK307.out 5).trans rfl
 have hfs16 := zbM BK307.out 5
 have hns16_0 := NB305_307.out
 have hns16_1 := NB306_307.out
 have hms16_0 := NB307_305.out
 have hms16_1 := NB307_306.out
 refine skip_ (w1 := ?_) (by rfl) rfl ?_ ?_
 rotate_left
 ·go_simp
  rfl
 refine hK.out _ _ ⟨((zaJ (p := ⟨gb307, _, none⟩) NB305_307.out _).trans (((zaJ (p := ⟨gb307, _, none⟩) NB305_307.out _).trans (((zaJ (p := ⟨gb307, _, none⟩) NB305_307.out _).trans (((zaJ (p := ⟨gb307, _, none⟩) NB305_307.out _).trans (((zaJ (p := ⟨gb307, _, none⟩) NB305_307.out _).trans (((zaJ (p := ⟨gb307, _, none⟩) NB305_307.out _).trans (hHeld.1)))))))))))), ((zaJ (p := ⟨gb307, _, none⟩) NB305_307.out _).trans (((zaJ (p := ⟨gb307, _, none⟩) NB305_307.out _).trans (((zaJ (p := ⟨gb307, _, none⟩) NB305_307.out _).trans (((zaJ (p := ⟨gb307, _, none⟩) NB305_307.out _).trans (((zaJ (p := ⟨gb307, _, none⟩) NB305_307.out _).trans (((zaJ (p := ⟨gb307, _, none⟩) NB305_307.out _).trans (hHeld.2.1)))))))))))), ((zaJ (p := ⟨gb307, _, none⟩) NB305_307.out _).trans (((zaJ (p := ⟨gb307, _, none⟩) NB305_307.out _).trans (((zaJ (p := ⟨gb307, _, none⟩) NB305_307.out _).trans (((zaJ (p := ⟨gb307, _, none⟩) NB305_307.out _).trans (((zaJ (p := ⟨gb307, _, none⟩) NB305_307.out _).trans (((zaJ (p := ⟨gb307, _, none⟩) NB305_307.out _).trans (hHeld.2.2.1)))))))))))), ((zaJ (p := ⟨gb307, _, none⟩) NB305_307.out _).trans (((zaJ (p := ⟨gb307, _, none⟩) NB305_307.out _).trans (((zaJ (p := ⟨gb307, _, none⟩) NB305_307.out _).trans (((zaJ (p := ⟨gb307, _, none⟩) NB305_307.out _).trans (((zaJ (p := ⟨gb307, _, none⟩) NB305_307.out _).trans (((zaJ (p := ⟨gb307, _, none⟩) NB305_307.out _).trans (hHeld.2.2.2.1)))))))))))), ((zaJ (p := ⟨gb307, _, none⟩) NB305_307.out _).trans (((zaJ (p := ⟨gb307, _, none⟩) NB305_307.out _).trans (((zaJ (p := ⟨gb307, _, none⟩) NB305_307.out _).trans (((zaJ (p := ⟨gb307, _, none⟩) NB305_307.out _).trans (((zaJ (p := ⟨gb307, _, none⟩) NB305_307.out _).trans (((zaJ (p := ⟨gb307, _, none⟩) NB305_307.out _).trans (hHeld.2.2.2.2.1)))))))))))), ((zaJ (p := ⟨gb307, _, none⟩) NB305_307.out _).trans (((zaJ (p := ⟨gb307, _, none⟩) NB305_307.out _).trans (((zaJ (p := ⟨gb307, _, none⟩) NB305_307.out _).trans (((zaJ (p := ⟨gb307, _, none⟩) NB305_307.out _).trans (((zaJ (p := ⟨gb307, _, none⟩) NB305_307.out _).trans (((zaJ (p := ⟨gb307, _, none⟩) NB305_307.out _).trans (hHeld.2.2.2.2.2.1)))))))))))), ((zaJ (p := ⟨gb307, _, none⟩) NB306_307.out _).trans (((zaJ (p := ⟨gb307, _, none⟩) NB306_307.out _).trans (((zaJ (p := ⟨gb307, _, none⟩) NB306_307.out _).trans (((zaJ (p := ⟨gb307, _, none⟩) NB306_307.out _).trans (((zaJ (p := ⟨gb307, _, none⟩) NB306_307.out _).trans (((zaJ (p := ⟨gb307, _, none⟩) NB306_307.out _).trans (hHeld.2.2.2.2.2.2.1)))))))))))), ((zaJ (p := ⟨gb307, _, none⟩) NB306_307.out _).trans (((zaJ (p := ⟨gb307, _, none⟩) NB306_307.out _).trans (((zaJ (p := ⟨gb307, _, none⟩) NB306_307.out _).trans (((zaJ (p := ⟨gb307, _, none⟩) NB306_307.out _).trans (((zaJ (p := ⟨gb307, _, none⟩) NB306_307.out _).trans (((zaJ (p := ⟨gb307, _, none⟩) NB306_307.out _).trans (hHeld.2.2.2.2.2.2.2.1)))))))))))), ((zaJ (p := ⟨gb307, _, none⟩) NB306_307.out _).trans (((zaJ (p := ⟨gb307, _, none⟩) NB306_307.out _).trans (((zaJ (p := ⟨gb307, _, none⟩) NB306_307.out _).trans (((zaJ (p := ⟨gb307, _, none⟩) NB306_307.out _).trans (((zaJ (p := ⟨gb307, _, none⟩) NB306_307.out _).trans (((zaJ (p := ⟨gb307, _, none⟩) NB306_307.out _).trans (hHeld.2.2.2.2.2.2.2.2.1)))))))))))), ((zaJ (p := ⟨gb307, _, none⟩) NB306_307.out _).trans (((zaJ (p := ⟨gb307, _, none⟩) NB306_307.out _).trans (((zaJ (p := ⟨gb307, _, none⟩) NB306_307.out _).trans (((zaJ (p := ⟨gb307, _, none⟩) NB306_307.out _).trans (((zaJ (p := ⟨gb307, _, none⟩) NB306_307.out _).trans (((zaJ (p := ⟨gb307, _, none⟩) NB306_307.out _).trans (hHeld.2.2.2.2.2.2.2.2.2.1)))))))))))), ((zaJ (p := ⟨gb307, _, none⟩) NB306_307.out _).trans (((zaJ (p := ⟨gb307, _, none⟩) NB306_307.out _).trans (((zaJ (p := ⟨gb307, _, none⟩) NB306_307.out _).trans (((zaJ (p := ⟨gb307, _, none⟩) NB306_307.out _).trans (((zaJ (p := ⟨gb307, _, none⟩) NB306_307.out _).trans (((zaJ (p := ⟨gb307, _, none⟩) NB306_307.out _).trans (hHeld.2.2.2.2.2.2.2.2.2.2.1)))))))))))), ((zaJ (p := ⟨gb307, _, none⟩) NB306_307.out _).trans (((zaJ (p := ⟨gb307, _, none⟩) NB306_307.out _).trans (((zaJ (p := ⟨gb307, _, none⟩) NB306_307.out _).trans (((zaJ (p := ⟨gb307, _, none⟩) NB306_307.out _).trans (((zaJ (p := ⟨gb307, _, none⟩) NB306_307.out _).trans (((zaJ (p := ⟨gb307, _, none⟩) NB306_307.out _).trans (hHeld.2.2.2.2.2.2.2.2.2.2.2))))))))))))⟩ (fun hHeld => ?_)
 clear hK K
 refine done_ (zdJ HT_.out (by kernel_rfl)) ?_
 try go_wp2
 refine bodyPost_ret (results_cell_row rfl _ _ gb307 36 #[.int .i64 t308, .int .i64 t309, .int .i64 t310, .int .i64 t311, .int .i64 t312, .int .i64 t313] (0, 0) _ rfl (by (with_reducible repeat (first | apply zaC | apply zaF | apply zaB)); refine zaR (cs := #[.int .i64 t308, .int .i64 t309, .int .i64 t310, .int .i64 t311, .int .i64 t312, .int .i64 0]) ?_ 5 _ rfl; (with_reducible repeat (first | apply zaC | apply zaF | apply zaB)); refine zaR (cs := #[.int .i64 t308, .int .i64 t309, .int .i64 t310, .int .i64 t311, .int .i64 0, .int .i64 0]) ?_ 4 _ rfl; (with_reducible repeat (first | apply zaC | apply zaF | apply zaB)); refine zaR (cs := #[.int .i64 t308, .int .i64 t309, .int .i64 t310, .int .i64 0, .int .i64 0, .int .i64 0]) ?_ 3 _ rfl; (with_reducible repeat (first | apply zaC | apply zaF | apply zaB)); refine zaR (cs := #[.int .i64 t308, .int .i64 t309, .int .i64 0, .int .i64 0, .int .i64 0, .int .i64 0]) ?_ 2 _ rfl; (with_reducible repeat (first | apply zaC | apply zaF | apply zaB)); refine zaR (cs := #[.int .i64 t308, .int .i64 0, .int .i64 0, .int .i64 0, .int .i64 0, .int .i64 0]) ?_ 1 _ rfl; (with_reducible repeat (first | apply zaC | apply zaF | apply zaB)); refine zaR (cs := #[.int .i64 0, .int .i64 0, .int .i64 0, .int .i64 0, .int .i64 0, .int .i64 0]) ?_ 0 _ rfl; (with_reducible repeat (first | apply zaC | apply zaF | apply zaB)); exact BK307.out) Tryd.underlying36 rfl (by kernel_rfl)) rfl ?_
 exact ⟨by first | rfl | (simp [zaN, zaM] <;> rfl) | (simp [*, zaN, zaM] <;> rfl), by repeat (first | (with_reducible first | exact HB.out | apply zaE | apply zaA | apply zaD | refine zaH ?_ GE305.out | refine zaH ?_ GE306.out | refine zaH ?_ GE307.out) | exact HB.out)⟩

def gv0 : List S36 := [⟨⟨1, 0, 0⟩, ⟨0, 0, 0⟩⟩, ⟨⟨1, 0, 0⟩, ⟨-1, 1, 0⟩⟩, ⟨⟨1, 0, 0⟩, ⟨1, 0, 0⟩⟩, ⟨⟨-1, 1, 0⟩, ⟨1, 0, 0⟩⟩, ⟨⟨0, 0, 0⟩, ⟨1, 0, 0⟩⟩, ⟨⟨1, -1, 0⟩, ⟨1, 0, 0⟩⟩, ⟨⟨-1, 0, 0⟩, ⟨1, 0, 0⟩⟩, ⟨⟨-1, 0, 0⟩, ⟨-1, 1, 0⟩⟩]
def LaidV0 (w : World) : Prop := ∀ (j : Nat) (p : S36), gv0[j]? = some p → ∀ (i : Nat) (u : Value), [Value.int .i64 p.f0.f0, .int .i64 p.f0.f1, .int .i64 p.f0.f2, .int .i64 p.f1.f0, .int .i64 p.f1.f1, .int .i64 p.f1.f2][i]? = some u → w.cell? ((⟨0, 0, none⟩ : Addr).add (j * 6 + i)) = some u
theorem LaidV0.below {w w' : World} (h : LaidV0 w) (hB : Below w.heap.size w w') : LaidV0 w' := fun j p hp i u hu => (hB.cell (World.block_lt_of_cell? w _ (h j p hp i u hu))).trans (h j p hp i u hu)
theorem LaidV0.C {w : World} (h : LaidV0 w) : Kd.C k36 w (some ⟨0, 0, none⟩) gv0.length gv0 :=
 ⟨rfl, by decide, fun _ => ⟨_, rfl, fun j p hp => ⟨_, rfl, k36_mk w p, fun i u hu => h j p hp i u hu⟩⟩⟩
def gvCells0 : List Value := gv0.flatMap fun p => [Value.int .i64 p.f0.f0, .int .i64 p.f0.f1, .int .i64 p.f0.f2, .int .i64 p.f1.f0, .int .i64 p.f1.f1, .int .i64 p.f1.f2]
theorem LaidV0.of_cells {w : World} (h : ∀ off : Nat, w.cell? ⟨0, off, none⟩ = gvCells0[off]?) : LaidV0 w := by
 intro j p hp i u hu
 have hj : j < 8 := (List.getElem?_eq_some_iff.1 hp).1
 have hi : i < 6 := (List.getElem?_eq_some_iff.1 hu).1
 have ha : (⟨0, 0, none⟩ : Addr).add (j * 6 + i) = ⟨0, j * 6 + i, none⟩ := by rw [zdB]
 rw [ha, h]
 have : j = 0 ∨ j = 1 ∨ j = 2 ∨ j = 3 ∨ j = 4 ∨ j = 5 ∨ j = 6 ∨ j = 7 := by omega
 have : i = 0 ∨ i = 1 ∨ i = 2 ∨ i = 3 ∨ i = 4 ∨ i = 5 := by omega
 rcases ‹j = 0 ∨ _› with rfl | rfl | rfl | rfl | rfl | rfl | rfl | rfl <;> cases hp <;> rcases ‹i = 0 ∨ _› with rfl | rfl | rfl | rfl | rfl | rfl <;> cases hu <;> rfl
structure LaidV (w : World) : Prop where
 v0 : LaidV0 w
theorem LaidV.below {w w' : World} (h : LaidV w) (hB : Below w.heap.size w w') : LaidV w' := ⟨LaidV0.below h.v0 hB⟩

end Go.Proofs.YtmajpmofeddknaaDoor.PFnExactValidPolygon
