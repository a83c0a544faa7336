-- Printed for this claim by this session's program pp.py, which drives the kit's print with additions. Not trusted: Lean checks it.
import Derived.Test.YtmajpmofeddknaaDoorV1PFnExactValidPolygonx0
import Derived.Test.YtmajpmofeddknaaDoorV1PFnExactValidPolygonx8
import Derived.Test.YtmajpmofeddknaaDoorV1PFnExactValidPolygonx9
namespace Go.Proofs.YtmajpmofeddknaaDoor.PFnExactValidPolygon
open Go.RowKit Go.Proofs.YtmajpmofeddknaaDoorW.PrintWords Go.Proofs.YtmajpmofeddknaaDoorW.PrintLast Go.Proofs.YtmajpmofeddknaaDoorW.PrintMore
attribute [local go_sem] zdZ zdY zeP zeQ zdG zdH zdX zeA   -- for this text's walks alone
set_option linter.unusedVariables false
set_option linter.unusedSimpArgs false

def zcC.f (a0 : Int) : Option (Int × Int × Int × Int × Int × Int) := if a0 ≥ 8 then (if 0 ≤ (wrap64 (a0 - 8)) then (if (wrap64 (a0 - 8)) < 8 then ((zcS.f ((zaG gv0 (wrap64 (a0 - 8))).f0.f0) ((zaG gv0 (wrap64 (a0 - 8))).f0.f1) ((zaG gv0 (wrap64 (a0 - 8))).f0.f2)).bind fun bt317 => ((zcS.f ((zaG gv0 (wrap64 (a0 - 8))).f1.f0) ((zaG gv0 (wrap64 (a0 - 8))).f1.f1) ((zaG gv0 (wrap64 (a0 - 8))).f1.f2)).bind fun bt320 => (some (bt317.1, bt317.2.1, bt317.2.2, bt320.1, bt320.2.1, bt320.2.2)))) else (none)) else (none)) else (if 0 ≤ a0 then (if a0 < 8 then (some ((zaG gv0 a0).f0.f0, (zaG gv0 a0).f0.f1, (zaG gv0 a0).f0.f2, (zaG gv0 a0).f1.f0, (zaG gv0 a0).f1.f1, (zaG gv0 a0).f1.f2)) else (none)) else (none))
def zcC.T3 : Bool × List (List Nat × List Nat) := (true, [([], []), ([0], [0]), ([1], [1]), ([], []), ([3], [3]), ([4, 2], [4]), ([2, 5], [2, 5]), ([6, 5, 0, 1, 2, 3, 4, 5, 6], [6])])
def zcC.B3 : List Nat := [0, 1, 3, 0, 8, 31, 63, 127]
theorem zcC.tab3 : rtab .any (opsOf Tryd.f139 3) = zcC.T3 := by kernel_rfl
theorem zcC.bits3 : zeC zcC.T3.2 zcC.B3 = true := by kernel_rfl
set_option maxHeartbeats 8000000 in
set_option maxRecDepth 100000 in
theorem zcC.calls (a0 : Int) (r1 : Int) (r2 : Int) (r3 : Int) (r4 : Int) (r5 : Int) (r6 : Int) (w : World) (hG : LaidV w) (h : zcC.f a0 = some (r1, r2, r3, r4, r5, r6)) :
  Calls Tryd.prog 139 #[.int .i64 a0] w fun e w' => e = .returned (.agg #[.int .i64 r1, .int .i64 r2, .int .i64 r3, .int .i64 r4, .int .i64 r5, .int .i64 r6]) ∧ Below w.heap.size w w' := by
 have hu36 := Tryd.underlying36
 have hu34 := Tryd.underlying34
 have HB := zaO (Below.refl w.heap.size w)
 have HRg0 := zaO (LaidV0.C hG.v0)
 have H : (if a0 ≥ 8 then (if 0 ≤ (wrap64 (a0 - 8)) then (if (wrap64 (a0 - 8)) < 8 then ((zcS.f ((zaG gv0 (wrap64 (a0 - 8))).f0.f0) ((zaG gv0 (wrap64 (a0 - 8))).f0.f1) ((zaG gv0 (wrap64 (a0 - 8))).f0.f2)).bind fun bt317 => ((zcS.f ((zaG gv0 (wrap64 (a0 - 8))).f1.f0) ((zaG gv0 (wrap64 (a0 - 8))).f1.f1) ((zaG gv0 (wrap64 (a0 - 8))).f1.f2)).bind fun bt320 => (some (bt317.1, bt317.2.1, bt317.2.2, bt320.1, bt320.2.1, bt320.2.2)))) else (none)) else (none)) else (if 0 ≤ a0 then (if a0 < 8 then (some ((zaG gv0 a0).f0.f0, (zaG gv0 a0).f0.f1, (zaG gv0 a0).f0.f2, (zaG gv0 a0).f1.f0, (zaG gv0 a0).f1.f1, (zaG gv0 a0).f1.f2)) else (none)) else (none))) = some (r1, r2, r3, r4, r5, r6) := h
 clear h
 by_cases c2 : a0 ≥ 8
 ·rw [if_pos c2] at H
  have c2b0 : decide (8 ≤ a0) = true := decide_eq_true c2
  clear c2
  obtain ⟨ji3, hji3⟩ : ∃ j_ : Int, (wrap64 (a0 - 8)) = j_ := ⟨_, rfl⟩
  replace H : (if 0 ≤ (ji3) then (if (ji3) < 8 then ((zcS.f ((zaG gv0 (ji3)).f0.f0) ((zaG gv0 (ji3)).f0.f1) ((zaG gv0 (ji3)).f0.f2)).bind fun bt317 => ((zcS.f ((zaG gv0 (ji3)).f1.f0) ((zaG gv0 (ji3)).f1.f1) ((zaG gv0 (ji3)).f1.f2)).bind fun bt320 => (some (bt317.1, bt317.2.1, bt317.2.2, bt320.1, bt320.2.1, bt320.2.2)))) else (none)) else (none)) = some (r1, r2, r3, r4, r5, r6) := by first | (rw [hji3] at H; exact H) | (simp only [hji3] at H ⊢; exact H)
  have hji3w : (IntKind.i64.wrap (a0 - 8)) = ji3 := (zaT _).trans hji3
  by_cases c4 : 0 ≤ (ji3)
  ·rw [if_pos c4] at H
   have c4b0 : decide (0 ≤ (ji3)) = true := decide_eq_true c4
   clear c4
   by_cases c5 : (ji3) < 8
   ·rw [if_pos c5] at H
    have c5b0 : decide ((ji3) < 8) = true := decide_eq_true c5
    clear c5
    replace H := Option.bind_eq_some_iff.mp H
    obtain ⟨⟨t317, t318, t319⟩, A60, H⟩ := H
    replace H : ((zcS.f ((zaG gv0 (ji3)).f1.f0) ((zaG gv0 (ji3)).f1.f1) ((zaG gv0 (ji3)).f1.f2)).bind fun bt320 => (some (t317, t318, t319, bt320.1, bt320.2.1, bt320.2.2))) = some (r1, r2, r3, r4, r5, r6) := H
    have A6 := zaO A60
    clear A60
    replace H := Option.bind_eq_some_iff.mp H
    obtain ⟨⟨t320, t321, t322⟩, A70, H⟩ := H
    replace H : (some (t317, t318, t319, t320, t321, t322)) = some (r1, r2, r3, r4, r5, r6) := H
    have A7 := zaO A70
    clear A70
    simp only [Option.some.injEq, Prod.mk.injEq] at H
    obtain ⟨rfl, rfl, rfl, rfl, rfl, rfl⟩ := H
    go_enter Tryd.func139, Tryd.ntmps139
    try go_wp2_with (first | ((with_reducible refine zbC (N := 2) rfl ?_); refine zaW ?hg (N := 2) ?hd (cs := #[.int .i64 0, .int .i64 0, .int .i64 0, .int .i64 0, .int .i64 0, .int .i64 0]) (t := 36) ?hr ?_; (case hd => rfl); (case hg => rfl); (case hr => first | (go_simp; done) | (go_simp; rfl)); intro gb314 hg w8 hbox hb; have n0_ := zaO (zaK (by repeat (first | (with_reducible first | exact HB.out | apply zaE | apply zaA | apply zaD) | exact HB.out)) hb); have n1_ := zaO (hbox); have n2_ := zaO ((by rw [hg]; exact (zaP (by repeat (first | (with_reducible first | exact HB.out | apply zaE | apply zaA | apply zaD) | exact HB.out))) : w.heap.size ≤ gb314)); have n3_ := n2_; clear HB; have HB := n0_; have BK314 := n1_; have GW314 := n2_; have GE314 := n3_; clear n0_ n1_ n2_ n3_; clear hb hbox hg; have p315 : 0 ≤ ((ji3) : Int) := of_decide_eq_true (by first | (with_reducible assumption) | assumption); have q315 : (ji3) < (gv0.length : Int) := of_decide_eq_true (by first | (with_reducible assumption) | assumption); have ql315 : (((ji3) : Int) < (8 : Int)) = True := eq_true (of_decide_eq_true (by first | (with_reducible assumption) | assumption)); obtain ⟨ad315, e315, hx315_0, hx315_1, hx315_2, hx315_3, hx315_4, hx315_5⟩ := zdM HRg0.out (ji3) p315 q315; obtain rfl : (⟨0, 0, none⟩ : Addr) = ad315 := (by injection e315); (first | simp only [zdB] at hx315_0 | simp only [add_at] at hx315_0 | simp only [Addr.add, Nat.zero_add] at hx315_0 | skip); (first | simp only [zdB] at hx315_1 | simp only [add_at] at hx315_1 | simp only [Addr.add, Nat.zero_add] at hx315_1 | skip); (first | simp only [zdB] at hx315_2 | simp only [add_at] at hx315_2 | simp only [Addr.add, Nat.zero_add] at hx315_2 | skip); (first | simp only [zdB] at hx315_3 | simp only [add_at] at hx315_3 | simp only [Addr.add, Nat.zero_add] at hx315_3 | skip); (first | simp only [zdB] at hx315_4 | simp only [add_at] at hx315_4 | simp only [Addr.add, Nat.zero_add] at hx315_4 | skip); (first | simp only [zdB] at hx315_5 | simp only [add_at] at hx315_5 | simp only [Addr.add, Nat.zero_add] at hx315_5 | skip); replace hx315_0 := zbF HB.out hx315_0; replace hx315_1 := zbF HB.out hx315_1; replace hx315_2 := zbF HB.out hx315_2; replace hx315_3 := zbF HB.out hx315_3; replace hx315_4 := zbF HB.out hx315_4; replace hx315_5 := zbF HB.out hx315_5; replace p315 := eq_true p315; replace q315 := eq_true q315) | ((with_reducible refine zbC (N := 3) rfl ?_); refine zaW ?hg (N := 3) ?hd (cs := #[.int .i64 0, .int .i64 0, .int .i64 0, .int .i64 0, .int .i64 0, .int .i64 0]) (t := 36) ?hr ?_; (case hd => rfl); (case hg => rfl); (case hr => first | (go_simp; done) | (go_simp; rfl)); intro gb316 hg w9 hbox hb; have n0_ := zaO (zaL (g := gb314) (o := .cells #[.int .i64 0, .int .i64 0, .int .i64 0, .int .i64 0, .int .i64 0, .int .i64 0] 36 (0, 0)) (by (with_reducible repeat (first | apply zaC | apply zaF | apply zaB)); exact BK314.out) hb); have n1_ := zaO (zaK (by repeat (first | (with_reducible first | exact HB.out | apply zaE | apply zaA | apply zaD | refine zaH ?_ GE314.out) | exact HB.out)) hb); have n2_ := zaO (hbox); have n3_ := zaO ((by rw [hg]; exact (zaP (by repeat (first | (with_reducible first | exact HB.out | apply zaE | apply zaA | apply zaD | refine zaH ?_ GE314.out) | exact HB.out))) : w.heap.size ≤ gb316)); have n4_ := n3_; have n5_ := zaO ((by rw [hg]; exact Nat.ne_of_lt (zbN (g := gb314) (o := .cells #[.int .i64 0, .int .i64 0, .int .i64 0, .int .i64 0, .int .i64 0, .int .i64 0] 36 (0, 0)) (by (with_reducible repeat (first | apply zaC | apply zaF | apply zaB)); exact BK314.out)) : gb314 ≠ gb316)); have n6_ := zaO ((by rw [hg]; exact Nat.ne_of_gt (zbN (g := gb314) (o := .cells #[.int .i64 0, .int .i64 0, .int .i64 0, .int .i64 0, .int .i64 0, .int .i64 0] 36 (0, 0)) (by (with_reducible repeat (first | apply zaC | apply zaF | apply zaB)); exact BK314.out)) : gb316 ≠ gb314)); clear BK314; clear HB; have BK314 := n0_; have HB := n1_; have BK316 := n2_; have GW316 := n3_; have GE316 := n4_; have NB314_316 := n5_; have NB316_314 := n6_; clear n0_ n1_ n2_ n3_ n4_ n5_ n6_; clear hb hbox hg; have hnb10 := NB316_314.out; have hnc10 := NB314_316.out; obtain ⟨hcz11_0, hcz11_1, hcz11_2, hcz11_3, hcz11_4, hcz11_5⟩ := zeV BK316.out; obtain ⟨hfz11_0, hfz11_1, hfz11_2, hfz11_3, hfz11_4, hfz11_5⟩ := zeW BK316.out))
    have n0_ : Aside0 (((((((w9.setCell ⟨gb316, 0, none⟩ (.int .i64 ((zaG gv0 (ji3)).f0.f0))).setCell ⟨gb316, 1, none⟩ (.int .i64 ((zaG gv0 (ji3)).f0.f1))).setCell ⟨gb316, 2, none⟩ (.int .i64 ((zaG gv0 (ji3)).f0.f2))).setCell ⟨gb316, 3, none⟩ (.int .i64 ((zaG gv0 (ji3)).f1.f0))).setCell ⟨gb316, 4, none⟩ (.int .i64 ((zaG gv0 (ji3)).f1.f1))).setCell ⟨gb316, 5, none⟩ (.int .i64 ((zaG gv0 (ji3)).f1.f2))).heap[gb314]? = some (.cells #[.int .i64 0, .int .i64 0, .int .i64 0, .int .i64 0, .int .i64 0, .int .i64 0] 36 (0, 0))) := ⟨by (with_reducible repeat (first | apply zaC | apply zaF | apply zaB)); refine zbK ?_ NB314_316.out _; (with_reducible repeat (first | apply zaC | apply zaF | apply zaB)); refine zbK ?_ NB314_316.out _; (with_reducible repeat (first | apply zaC | apply zaF | apply zaB)); refine zbK ?_ NB314_316.out _; (with_reducible repeat (first | apply zaC | apply zaF | apply zaB)); refine zbK ?_ NB314_316.out _; (with_reducible repeat (first | apply zaC | apply zaF | apply zaB)); refine zbK ?_ NB314_316.out _; (with_reducible repeat (first | apply zaC | apply zaF | apply zaB)); refine zbK ?_ NB314_316.out _; (with_reducible repeat (first | apply zaC | apply zaF | apply zaB)); exact BK314.out⟩
    have n1_ : Aside0 (((((((w9.setCell ⟨gb316, 0, none⟩ (.int .i64 ((zaG gv0 (ji3)).f0.f0))).setCell ⟨gb316, 1, none⟩ (.int .i64 ((zaG gv0 (ji3)).f0.f1))).setCell ⟨gb316, 2, none⟩ (.int .i64 ((zaG gv0 (ji3)).f0.f2))).setCell ⟨gb316, 3, none⟩ (.int .i64 ((zaG gv0 (ji3)).f1.f0))).setCell ⟨gb316, 4, none⟩ (.int .i64 ((zaG gv0 (ji3)).f1.f1))).setCell ⟨gb316, 5, none⟩ (.int .i64 ((zaG gv0 (ji3)).f1.f2))).heap[gb316]? = some (.cells #[.int .i64 ((zaG gv0 (ji3)).f0.f0), .int .i64 ((zaG gv0 (ji3)).f0.f1), .int .i64 ((zaG gv0 (ji3)).f0.f2), .int .i64 ((zaG gv0 (ji3)).f1.f0), .int .i64 ((zaG gv0 (ji3)).f1.f1), .int .i64 ((zaG gv0 (ji3)).f1.f2)] 36 (0, 0))) := ⟨by (with_reducible repeat (first | apply zaC | apply zaF | apply zaB)); refine zaR (cs := #[.int .i64 ((zaG gv0 (ji3)).f0.f0), .int .i64 ((zaG gv0 (ji3)).f0.f1), .int .i64 ((zaG gv0 (ji3)).f0.f2), .int .i64 ((zaG gv0 (ji3)).f1.f0), .int .i64 ((zaG gv0 (ji3)).f1.f1), .int .i64 0]) ?_ 5 _ rfl; (with_reducible repeat (first | apply zaC | apply zaF | apply zaB)); refine zaR (cs := #[.int .i64 ((zaG gv0 (ji3)).f0.f0), .int .i64 ((zaG gv0 (ji3)).f0.f1), .int .i64 ((zaG gv0 (ji3)).f0.f2), .int .i64 ((zaG gv0 (ji3)).f1.f0), .int .i64 0, .int .i64 0]) ?_ 4 _ rfl; (with_reducible repeat (first | apply zaC | apply zaF | apply zaB)); refine zaR (cs := #[.int .i64 ((zaG gv0 (ji3)).f0.f0), .int .i64 ((zaG gv0 (ji3)).f0.f1), .int .i64 ((zaG gv0 (ji3)).f0.f2), .int .i64 0, .int .i64 0, .int .i64 0]) ?_ 3 _ rfl; (with_reducible repeat (first | apply zaC | apply zaF | apply zaB)); refine zaR (cs := #[.int .i64 ((zaG gv0 (ji3)).f0.f0), .int .i64 ((zaG gv0 (ji3)).f0.f1), .int .i64 0, .int .i64 0, .int .i64 0, .int .i64 0]) ?_ 2 _ rfl; (with_reducible repeat (first | apply zaC | apply zaF | apply zaB)); refine zaR (cs := #[.int .i64 ((zaG gv0 (ji3)).f0.f0), .int .i64 0, .int .i64 0, .int .i64 0, .int .i64 0, .int .i64 0]) ?_ 1 _ rfl; (with_reducible repeat (first | apply zaC | apply zaF | apply zaB)); refine zaR (cs := #[.int .i64 0, .int .i64 0, .int .i64 0, .int .i64 0, .int .i64 0, .int .i64 0]) ?_ 0 _ rfl; (with_reducible repeat (first | apply zaC | apply zaF | apply zaB)); exact BK316.out⟩
    have n2_ : Aside0 (Below w.heap.size w ((((((w9.setCell ⟨gb316, 0, none⟩ (.int .i64 ((zaG gv0 (ji3)).f0.f0))).setCell ⟨gb316, 1, none⟩ (.int .i64 ((zaG gv0 (ji3)).f0.f1))).setCell ⟨gb316, 2, none⟩ (.int .i64 ((zaG gv0 (ji3)).f0.f2))).setCell ⟨gb316, 3, none⟩ (.int .i64 ((zaG gv0 (ji3)).f1.f0))).setCell ⟨gb316, 4, none⟩ (.int .i64 ((zaG gv0 (ji3)).f1.f1))).setCell ⟨gb316, 5, none⟩ (.int .i64 ((zaG gv0 (ji3)).f1.f2)))) := ⟨by repeat (first | (with_reducible first | exact HB.out | apply zaE | apply zaA | apply zaD | refine zaH ?_ GE314.out | refine zaH ?_ GE316.out) | exact HB.out)⟩
    (try clear BK314)
    (try clear BK316)
    (try clear HB)
    generalize ((((((w9.setCell ⟨gb316, 0, none⟩ (.int .i64 ((zaG gv0 (ji3)).f0.f0))).setCell ⟨gb316, 1, none⟩ (.int .i64 ((zaG gv0 (ji3)).f0.f1))).setCell ⟨gb316, 2, none⟩ (.int .i64 ((zaG gv0 (ji3)).f0.f2))).setCell ⟨gb316, 3, none⟩ (.int .i64 ((zaG gv0 (ji3)).f1.f0))).setCell ⟨gb316, 4, none⟩ (.int .i64 ((zaG gv0 (ji3)).f1.f1))).setCell ⟨gb316, 5, none⟩ (.int .i64 ((zaG gv0 (ji3)).f1.f2))) = w12 at n0_ n1_ n2_ ⊢
    have BK314 := n0_
    have BK316 := n1_
    have HB := n2_
    clear n0_ n1_ n2_
    have n0_ := zaO (zaF BK314.out)
    have n1_ := zaO (zaF BK316.out)
    have n2_ := zaO (zaD HB.out)
    clear BK314
    clear BK316
    clear HB
    have BK314 := n0_
    have BK316 := n1_
    have HB := n2_
    clear n0_ n1_ n2_
    refine zdU (n := 8) (S := fun w' => w'.cell? ⟨gb316, 0, none⟩ = some (.int .i64 ((zaG gv0 (ji3)).f0.f0)) ∧ w'.cell? ⟨gb316, 1, none⟩ = some (.int .i64 ((zaG gv0 (ji3)).f0.f1)) ∧ w'.cell? ⟨gb316, 2, none⟩ = some (.int .i64 ((zaG gv0 (ji3)).f0.f2)) ∧ w'.cell? ⟨gb316, 3, none⟩ = some (.int .i64 ((zaG gv0 (ji3)).f1.f0)) ∧ w'.cell? ⟨gb316, 4, none⟩ = some (.int .i64 ((zaG gv0 (ji3)).f1.f1)) ∧ w'.cell? ⟨gb316, 5, none⟩ = some (.int .i64 ((zaG gv0 (ji3)).f1.f2))) (ds := []) #[false, false, false, false, false, false, false, false] (by kernel_rfl) rfl rfl ⟨(zaI BK316.out 0).trans rfl, (zaI BK316.out 1).trans rfl, (zaI BK316.out 2).trans rfl, (zaI BK316.out 3).trans rfl, (zaI BK316.out 4).trans rfl, (zaI BK316.out 5).trans rfl⟩ (fun hHeld => ?_); refine zcT zcC.tab3 zcC.bits3 (fun HT_ HW_ => ?_)
    generalize w12.drew = w13 at BK314 BK316 HB hHeld ⊢
    refine zbL (i := 0) (N := some 10) (v := ?_) (a' := ?_) #[true, false, false, false, false, false, false, false] rfl rfl (zaY HT_.out (by kernel_rfl)) (fun _ _ _ h => h) (Or.inl ⟨by rfl, ?_⟩) ?_ ?_
    rotate_left
    ·intro w'
     go_simp
     with_reducible rfl
    rotate_left
    ·simp only [Act.put, List.setIfInBounds_toArray, List.set_cons_zero, List.set_cons_succ, zaT, zaU]
     rfl
    refine zbL (i := 3) (N := some 13) (v := ?_) (a' := ?_) #[true, false, false, true, false, false, false, false] rfl rfl (zaY HT_.out (by kernel_rfl)) (fun _ _ _ h => h) (Or.inl ⟨by rfl, ?_⟩) ?_ ?_
    rotate_left
    ·intro w'
     go_simp
     with_reducible rfl
    rotate_left
    ·simp only [Act.put, List.setIfInBounds_toArray, List.set_cons_zero, List.set_cons_succ, zaT, zaU]
     rfl
    refine take_ (i := 1) (N := some 11) (v := ?_) (a' := ?_) #[true, true, false, true, false, false, false, false] rfl rfl (zbU HT_.out HW_.out (by kernel_rfl)) (fun _ _ _ h => h) (Or.inl ⟨by rfl, ?_⟩) hHeld ?_ ?_
    rotate_left
    ·rintro w' ⟨s0, s1, s2, s3, s4, s5⟩
     go_simp
     with_reducible rfl
    rotate_left
    ·simp only [Act.put, List.setIfInBounds_toArray, List.set_cons_zero, List.set_cons_succ, zaT, zaU]
     rfl
    refine take_ (i := 4) (N := some 14) (v := ?_) (a' := ?_) #[true, true, false, true, true, false, false, false] rfl rfl (zbU HT_.out HW_.out (by kernel_rfl)) (fun _ _ _ h => h) (Or.inl ⟨by rfl, ?_⟩) hHeld ?_ ?_
    rotate_left
    ·rintro w' ⟨s0, s1, s2, s3, s4, s5⟩
     go_simp
     with_reducible rfl
    rotate_left
    ·simp only [Act.put, List.setIfInBounds_toArray, List.set_cons_zero, List.set_cons_succ, zaT, zaU]
     rfl
    refine zeX (i := 2) (N := some 12) #[true, true, true, true, true, false, false, false] rfl rfl (zcU HT_.out (by kernel_rfl)) (by decide) (fun K hK => ?_)
    refine zdI Tryd.func167 (by kernel_rfl) rfl #[.agg #[.int .i64 ((zaG gv0 (ji3)).f0.f0), .int .i64 ((zaG gv0 (ji3)).f0.f1), .int .i64 ((zaG gv0 (ji3)).f0.f2)]] (by rfl) rfl rfl (by (try simp only [List.map_toArray, List.map_cons, List.map_nil]); first | done | (simp only [hji3]; rfl) | rfl | (simp only [List.length_drop, List.length_take]; rfl)) ?_
    with_reducible refine (zcS.calls ((zaG gv0 (ji3)).f0.f0) ((zaG gv0 (ji3)).f0.f1) ((zaG gv0 (ji3)).f0.f2) t317 t318 t319 _ A6.out).mono ?_
    rintro e w14 ⟨rfl, hb⟩
    refine ⟨_, rfl, ?_⟩
    have n0_ := zaO (zaL (g := gb314) (o := .cells #[.int .i64 0, .int .i64 0, .int .i64 0, .int .i64 0, .int .i64 0, .int .i64 0] 36 (0, 0)) (by (with_reducible repeat (first | apply zaC | apply zaF | apply zaB)); exact BK314.out) hb)
    have n1_ := zaO (zaL (g := gb316) (o := .cells #[.int .i64 ((zaG gv0 (ji3)).f0.f0), .int .i64 ((zaG gv0 (ji3)).f0.f1), .int .i64 ((zaG gv0 (ji3)).f0.f2), .int .i64 ((zaG gv0 (ji3)).f1.f0), .int .i64 ((zaG gv0 (ji3)).f1.f1), .int .i64 ((zaG gv0 (ji3)).f1.f2)] 36 (0, 0)) (by (with_reducible repeat (first | apply zaC | apply zaF | apply zaB)); exact BK316.out) hb)
    have n2_ := zaO (zaK (by repeat (first | (with_reducible first | exact HB.out | apply zaE | apply zaA | apply zaD | refine zaH ?_ GE314.out | refine zaH ?_ GE316.out) | exact HB.out)) hb)
    clear BK314
    clear BK316
    clear HB
    have BK314 := n0_
    have BK316 := n1_
    have HB := n2_
    clear n0_ n1_ n2_
    (try clear hb)
    (try clear hb2)
    (try clear hk)
    (try clear hi)
    refine hK.out _ _ ⟨(zaI BK316.out 0).trans rfl, (zaI BK316.out 1).trans rfl, (zaI BK316.out 2).trans rfl, (zaI BK316.out 3).trans rfl, (zaI BK316.out 4).trans rfl, (zaI BK316.out 5).trans rfl⟩ (fun hHeld => ?_)
    clear hK K
    refine zdL (a' := ?_) ?_ ?_
    rotate_left
    ·show Act.put _ (some 12) _ = _
     simp only [Act.put, List.setIfInBounds_toArray, List.set_cons_zero, List.set_cons_succ, zaT, zaU]
     rfl
    refine zeX (i := 5) (N := some 15) #[true, true, true, true, true, true, false, false] rfl rfl (zcU HT_.out (by kernel_rfl)) (by decide) (fun K hK => ?_)
    refine zdI Tryd.func167 (by kernel_rfl) rfl #[.agg #[.int .i64 ((zaG gv0 (ji3)).f1.f0), .int .i64 ((zaG gv0 (ji3)).f1.f1), .int .i64 ((zaG gv0 (ji3)).f1.f2)]] (by rfl) rfl rfl (by (try simp only [List.map_toArray, List.map_cons, List.map_nil]); first | done | (simp only [hji3]; rfl) | rfl | (simp only [List.length_drop, List.length_take]; rfl)) ?_
    with_reducible refine (zcS.calls ((zaG gv0 (ji3)).f1.f0) ((zaG gv0 (ji3)).f1.f1) ((zaG gv0 (ji3)).f1.f2) t320 t321 t322 _ A7.out).mono ?_
    rintro e w15 ⟨rfl, hb⟩
    refine ⟨_, rfl, ?_⟩
    have n0_ := zaO (zaL (g := gb314) (o := .cells #[.int .i64 0, .int .i64 0, .int .i64 0, .int .i64 0, .int .i64 0, .int .i64 0] 36 (0, 0)) (by (with_reducible repeat (first | apply zaC | apply zaF | apply zaB)); exact BK314.out) hb)
    have n1_ := zaO (zaL (g := gb316) (o := .cells #[.int .i64 ((zaG gv0 (ji3)).f0.f0), .int .i64 ((zaG gv0 (ji3)).f0.f1), .int .i64 ((zaG gv0 (ji3)).f0.f2), .int .i64 ((zaG gv0 (ji3)).f1.f0), .int .i64 ((zaG gv0 (ji3)).f1.f1), .int .i64 ((zaG gv0 (ji3)).f1.f2)] 36 (0, 0)) (by (with_reducible repeat (first | apply zaC | apply zaF | apply zaB)); exact BK316.out) hb)
    have n2_ := zaO (zaK (by repeat (first | (with_reducible first | exact HB.out | apply zaE | apply zaA | apply zaD | refine zaH ?_ GE314.out | refine zaH ?_ GE316.out) | exact HB.out)) hb)
    clear BK314
    clear BK316
    clear HB
    have BK314 := n0_
    have BK316 := n1_
    have HB := n2_
    clear n0_ n1_ n2_
    (try clear hb)
    (try clear hb2)
    (try clear hk)
    (try clear hi)
    refine hK.out _ _ ⟨(zaI BK316.out 0).trans rfl, (zaI BK316.out 1).trans rfl, (zaI BK316.out 2).trans rfl, (zaI BK316.out 3).trans rfl, (zaI BK316.out 4).trans rfl, (zaI BK316.out 5).trans rfl⟩ (fun hHeld => ?_)
    clear hK K
    refine zdL (a' := ?_) ?_ ?_
    rotate_left
    ·show Act.put _ (some 15) _ = _
     simp only [Act.put, List.setIfInBounds_toArray, List.set_cons_zero, List.set_cons_succ, zaT, zaU]
     rfl
    refine zbL (i := 6) (N := some 16) (v := ?_) (a' := ?_) #[true, true, true, true, true, true, true, false] rfl rfl (zaY HT_.out (by kernel_rfl)) (fun _ _ _ h => h) (Or.inl ⟨by rfl, ?_⟩) ?_ ?_
    rotate_left
    ·intro w'
     go_simp
     with_reducible rfl
    rotate_left
    ·simp only [Act.put, List.setIfInBounds_toArray, List.set_cons_zero, List.set_cons_succ, zaT, zaU]
     rfl
    refine zeX (i := 7) (N := none) #[true, true, true, true, true, true, true, true] rfl rfl (zcU HT_.out (by kernel_rfl)) (by decide) (fun K hK => ?_)
    have hs16 : w15.cell? ⟨gb314, 0, none⟩ = some (.int .i64 0) := (zaI BK314.out 0).trans rfl
    have hfs16 := zbM BK314.out 0
    have hns16_1 := NB316_314.out
    have hms16_1 := NB314_316.out
    have hs17 : w15.cell? ⟨gb314, 1, none⟩ = some (.int .i64 0) := (zaI BK314.out 1).trans rfl
    have hfs17 := zbM BK314.out 1
    have hns17_1 := NB316_314.out
    have hms17_1 := NB314_316.out
    have hs18 : w15.cell? ⟨gb314, 2, none⟩ = some (.int .i64 0) := (zaI BK314.out 2).trans rfl
    have hfs18 := zbM BK314.out 2
    have hns18_1 := NB316_314.out
    have hms18_1 := NB314_316.out
    have hs19 : w15.cell? ⟨gb314, 3, none⟩ = some (.int .i64 0) := (zaI BK314.out 3).trans rfl
    have hfs19 := zbM BK314.out 3
    have hns19_1 := NB316_314.out
    have hms19_1 := NB314_316.out
    have hs20 : w15.cell? ⟨gb314, 4, none⟩ = some (.int .i64 0) := (zaI BK314.out 4).trans rfl
    have hfs20 := zbM BK314.out 4
    have hns20_1 := NB316_314.out
    have hms20_1 := NB314_316.out
    have hs21 : w15.cell? ⟨gb314, 5, none⟩ = some (.int .i64 0) := (zaI BK314.out 5).trans rfl
    have hfs21 := zbM BK314.out 5
    have hns21_1 := NB316_314.out
    have hms21_1 := NB314_316.out
    refine skip_ (w1 := ?_) (by rfl) rfl ?_ ?_
    rotate_left
    ·go_simp
     rfl
    refine hK.out _ _ ⟨((zaJ (p := ⟨gb314, _, none⟩) NB316_314.out _).trans (((zaJ (p := ⟨gb314, _, none⟩) NB316_314.out _).trans (((zaJ (p := ⟨gb314, _, none⟩) NB316_314.out _).trans (((zaJ (p := ⟨gb314, _, none⟩) NB316_314.out _).trans (((zaJ (p := ⟨gb314, _, none⟩) NB316_314.out _).trans (((zaJ (p := ⟨gb314, _, none⟩) NB316_314.out _).trans (hHeld.1)))))))))))), ((zaJ (p := ⟨gb314, _, none⟩) NB316_314.out _).trans (((zaJ (p := ⟨gb314, _, none⟩) NB316_314.out _).trans (((zaJ (p := ⟨gb314, _, none⟩) NB316_314.out _).trans (((zaJ (p := ⟨gb314, _, none⟩) NB316_314.out _).trans (((zaJ (p := ⟨gb314, _, none⟩) NB316_314.out _).trans (((zaJ (p := ⟨gb314, _, none⟩) NB316_314.out _).trans (hHeld.2.1)))))))))))), ((zaJ (p := ⟨gb314, _, none⟩) NB316_314.out _).trans (((zaJ (p := ⟨gb314, _, none⟩) NB316_314.out _).trans (((zaJ (p := ⟨gb314, _, none⟩) NB316_314.out _).trans (((zaJ (p := ⟨gb314, _, none⟩) NB316_314.out _).trans (((zaJ (p := ⟨gb314, _, none⟩) NB316_314.out _).trans (((zaJ (p := ⟨gb314, _, none⟩) NB316_314.out _).trans (hHeld.2.2.1)))))))))))), ((zaJ (p := ⟨gb314, _, none⟩) NB316_314.out _).trans (((zaJ (p := ⟨gb314, _, none⟩) NB316_314.out _).trans (((zaJ (p := ⟨gb314, _, none⟩) NB316_314.out _).trans (((zaJ (p := ⟨gb314, _, none⟩) NB316_314.out _).trans (((zaJ (p := ⟨gb314, _, none⟩) NB316_314.out _).trans (((zaJ (p := ⟨gb314, _, none⟩) NB316_314.out _).trans (hHeld.2.2.2.1)))))))))))), ((zaJ (p := ⟨gb314, _, none⟩) NB316_314.out _).trans (((zaJ (p := ⟨gb314, _, none⟩) NB316_314.out _).trans (((zaJ (p := ⟨gb314, _, none⟩) NB316_314.out _).trans (((zaJ (p := ⟨gb314, _, none⟩) NB316_314.out _).trans (((zaJ (p := ⟨gb314, _, none⟩) NB316_314.out _).trans (((zaJ (p := ⟨gb314, _, none⟩) NB316_314.out _).trans (hHeld.2.2.2.2.1)))))))))))), ((zaJ (p := ⟨gb314, _, none⟩) NB316_314.out _).trans (((zaJ (p := ⟨gb314, _, none⟩) NB316_314.out _).trans (((zaJ (p := ⟨gb314, _, none⟩) NB316_314.out _).trans (((zaJ (p := ⟨gb314, _, none⟩) NB316_314.out _).trans (((zaJ (p := ⟨gb314, _, none⟩) NB316_314.out _).trans (((zaJ (p := ⟨gb314, _, none⟩) NB316_314.out _).trans (hHeld.2.2.2.2.2))))))))))))⟩ (fun hHeld => ?_)
    clear hK K
    refine done_ (zdJ HT_.out (by kernel_rfl)) ?_
    try go_wp2
    refine bodyPost_ret (results_cell_row rfl _ _ gb314 36 #[.int .i64 t317, .int .i64 t318, .int .i64 t319, .int .i64 t320, .int .i64 t321, .int .i64 t322] (0, 0) _ rfl (by (with_reducible repeat (first | apply zaC | apply zaF | apply zaB)); refine zaR (cs := #[.int .i64 t317, .int .i64 t318, .int .i64 t319, .int .i64 t320, .int .i64 t321, .int .i64 0]) ?_ 5 _ rfl; (with_reducible repeat (first | apply zaC | apply zaF | apply zaB)); refine zaR (cs := #[.int .i64 t317, .int .i64 t318, .int .i64 t319, .int .i64 t320, .int .i64 0, .int .i64 0]) ?_ 4 _ rfl; (with_reducible repeat (first | apply zaC | apply zaF | apply zaB)); refine zaR (cs := #[.int .i64 t317, .int .i64 t318, .int .i64 t319, .int .i64 0, .int .i64 0, .int .i64 0]) ?_ 3 _ rfl; (with_reducible repeat (first | apply zaC | apply zaF | apply zaB)); refine zaR (cs := #[.int .i64 t317, .int .i64 t318, .int .i64 0, .int .i64 0, .int .i64 0, .int .i64 0]) ?_ 2 _ rfl; (with_reducible repeat (first | apply zaC | apply zaF | apply zaB)); refine zaR (cs := #[.int .i64 t317, .int .i64 0, .int .i64 0, .int .i64 0, .int .i64 0, .int .i64 0]) ?_ 1 _ rfl; (with_reducible repeat (first | apply zaC | apply zaF | apply zaB)); refine zaR (cs := #[.int .i64 0, .int .i64 0, .int .i64 0, .int .i64 0, .int .i64 0, .int .i64 0]) ?_ 0 _ rfl; (with_reducible repeat (first | apply zaC | apply zaF | apply zaB)); exact BK314.out) Tryd.underlying36 rfl (by kernel_rfl)) rfl ?_
    exact ⟨by first | rfl | (simp [zaN, zaM] <;> rfl) | (simp only [← hji3]; first | rfl | (simp [zaN, zaM] <;> rfl)) | (simp [*, zaN, zaM] <;> rfl), by repeat (first | (with_reducible first | exact HB.out | apply zaE | apply zaA | apply zaD | refine zaH ?_ GE314.out | refine zaH ?_ GE316.out) | exact HB.out)⟩
   ·rw [if_neg c5] at H
    exact absurd H (by simp)
  ·rw [if_neg c4] at H
   exact absurd H (by simp)
 ·rw [if_neg c2] at H
  have c2b0 : decide (8 ≤ a0) = false := decide_eq_false c2
  clear c2
  by_cases c22 : 0 ≤ a0
  ·rw [if_pos c22] at H
   have c22b0 : decide (0 ≤ a0) = true := decide_eq_true c22
   clear c22
   by_cases c23 : a0 < 8
   ·rw [if_pos c23] at H
    have c23b0 : decide (a0 < 8) = true := decide_eq_true c23
    clear c23
    simp only [Option.some.injEq, Prod.mk.injEq] at H
    obtain ⟨rfl, rfl, rfl, rfl, rfl, rfl⟩ := H
    go_enter Tryd.func139, Tryd.ntmps139
    go_wp2_with (first | ((with_reducible refine zbC (N := 2) rfl ?_); refine zaW ?hg (N := 2) ?hd (cs := #[.int .i64 0, .int .i64 0, .int .i64 0, .int .i64 0, .int .i64 0, .int .i64 0]) (t := 36) ?hr ?_; (case hd => rfl); (case hg => rfl); (case hr => first | (go_simp; done) | (go_simp; rfl)); intro gb314 hg w24 hbox hb; have n0_ := zaO (zaK (by repeat (first | (with_reducible first | exact HB.out | apply zaE | apply zaA | apply zaD) | exact HB.out)) hb); have n1_ := zaO (hbox); have n2_ := zaO ((by rw [hg]; exact (zaP (by repeat (first | (with_reducible first | exact HB.out | apply zaE | apply zaA | apply zaD) | exact HB.out))) : w.heap.size ≤ gb314)); have n3_ := n2_; clear HB; have HB := n0_; have BK314 := n1_; have GW314 := n2_; have GE314 := n3_; clear n0_ n1_ n2_ n3_; clear hb hbox hg; have p323 : 0 ≤ (a0 : Int) := of_decide_eq_true (by first | (with_reducible assumption) | assumption); have q323 : a0 < (gv0.length : Int) := of_decide_eq_true (by first | (with_reducible assumption) | assumption); have ql323 : ((a0 : Int) < (8 : Int)) = True := eq_true (of_decide_eq_true (by first | (with_reducible assumption) | assumption)); obtain ⟨ad323, e323, hx323_0, hx323_1, hx323_2, hx323_3, hx323_4, hx323_5⟩ := zdM HRg0.out a0 p323 q323; obtain rfl : (⟨0, 0, none⟩ : Addr) = ad323 := (by injection e323); (first | simp only [zdB] at hx323_0 | simp only [add_at] at hx323_0 | simp only [Addr.add, Nat.zero_add] at hx323_0 | skip); (first | simp only [zdB] at hx323_1 | simp only [add_at] at hx323_1 | simp only [Addr.add, Nat.zero_add] at hx323_1 | skip); (first | simp only [zdB] at hx323_2 | simp only [add_at] at hx323_2 | simp only [Addr.add, Nat.zero_add] at hx323_2 | skip); (first | simp only [zdB] at hx323_3 | simp only [add_at] at hx323_3 | simp only [Addr.add, Nat.zero_add] at hx323_3 | skip); (first | simp only [zdB] at hx323_4 | simp only [add_at] at hx323_4 | simp only [Addr.add, Nat.zero_add] at hx323_4 | skip); (first | simp only [zdB] at hx323_5 | simp only [add_at] at hx323_5 | simp only [Addr.add, Nat.zero_add] at hx323_5 | skip); replace hx323_0 := zbF HB.out hx323_0; replace hx323_1 := zbF HB.out hx323_1; replace hx323_2 := zbF HB.out hx323_2; replace hx323_3 := zbF HB.out hx323_3; replace hx323_4 := zbF HB.out hx323_4; replace hx323_5 := zbF HB.out hx323_5; replace p323 := eq_true p323; replace q323 := eq_true q323; obtain ⟨hcz25_0, hcz25_1, hcz25_2, hcz25_3, hcz25_4, hcz25_5⟩ := zeV BK314.out; obtain ⟨hfz25_0, hfz25_1, hfz25_2, hfz25_3, hfz25_4, hfz25_5⟩ := zeW BK314.out))
    refine bodyPost_ret (results_cell_row rfl _ _ gb314 36 #[.int .i64 ((zaG gv0 a0).f0.f0), .int .i64 ((zaG gv0 a0).f0.f1), .int .i64 ((zaG gv0 a0).f0.f2), .int .i64 ((zaG gv0 a0).f1.f0), .int .i64 ((zaG gv0 a0).f1.f1), .int .i64 ((zaG gv0 a0).f1.f2)] (0, 0) _ rfl (by (with_reducible repeat (first | apply zaC | apply zaF | apply zaB)); refine zaR (cs := #[.int .i64 ((zaG gv0 a0).f0.f0), .int .i64 ((zaG gv0 a0).f0.f1), .int .i64 ((zaG gv0 a0).f0.f2), .int .i64 ((zaG gv0 a0).f1.f0), .int .i64 ((zaG gv0 a0).f1.f1), .int .i64 0]) ?_ 5 _ rfl; (with_reducible repeat (first | apply zaC | apply zaF | apply zaB)); refine zaR (cs := #[.int .i64 ((zaG gv0 a0).f0.f0), .int .i64 ((zaG gv0 a0).f0.f1), .int .i64 ((zaG gv0 a0).f0.f2), .int .i64 ((zaG gv0 a0).f1.f0), .int .i64 0, .int .i64 0]) ?_ 4 _ rfl; (with_reducible repeat (first | apply zaC | apply zaF | apply zaB)); refine zaR (cs := #[.int .i64 ((zaG gv0 a0).f0.f0), .int .i64 ((zaG gv0 a0).f0.f1), .int .i64 ((zaG gv0 a0).f0.f2), .int .i64 0, .int .i64 0, .int .i64 0]) ?_ 3 _ rfl; (with_reducible repeat (first | apply zaC | apply zaF | apply zaB)); refine zaR (cs := #[.int .i64 ((zaG gv0 a0).f0.f0), .int .i64 ((zaG gv0 a0).f0.f1), .int .i64 0, .int .i64 0, .int .i64 0, .int .i64 0]) ?_ 2 _ rfl; (with_reducible repeat (first | apply zaC | apply zaF | apply zaB)); refine zaR (cs := #[.int .i64 ((zaG gv0 a0).f0.f0), .int .i64 0, .int .i64 0, .int .i64 0, .int .i64 0, .int .i64 0]) ?_ 1 _ rfl; (with_reducible repeat (first | apply zaC | apply zaF | apply zaB)); refine zaR (cs := #[.int .i64 0, .int .i64 0, .int .i64 0, .int .i64 0, .int .i64 0, .int .i64 0]) ?_ 0 _ rfl; (with_reducible repeat (first | apply zaC | apply zaF | apply zaB)); exact BK314.out) Tryd.underlying36 rfl (by kernel_rfl)) rfl ?_
    exact ⟨by first | rfl | (simp [zaN, zaM] <;> rfl) | (simp [*, zaN, zaM] <;> rfl), by repeat (first | (with_reducible first | exact HB.out | apply zaE | apply zaA | apply zaD | refine zaH ?_ GE314.out) | exact HB.out)⟩
   ·rw [if_neg c23] at H
    exact absurd H (by simp)
  ·rw [if_neg c22] at H
   exact absurd H (by simp)

def zcA.f (k : Nat) (a0_0 : Int) (a0_1 : Int) (a0_2 : Int) (a1_0 : Int) (a1_1 : Int) (a1_2 : Int) : Option (Int × Int × Int) := (zaS.f k (wrap64 ((wrap64 (a0_0 * a1_0)) + (wrap64 ((wrap64 (2 * a0_1)) * a1_1)))) (wrap64 ((wrap64 (a0_0 * a1_1)) + (wrap64 (a0_1 * a1_0)))) (wrap64 (a0_2 + a1_2))).bind fun bt327 => (some (bt327.1, bt327.2.1, bt327.2.2))
theorem zcA.mono : ∀ a0 a1 a2 a3 a4 a5 k, LeO (zcA.f k a0 a1 a2 a3 a4 a5) (zcA.f (k + 1) a0 a1 a2 a3 a4 a5) := by
 intro a0 a1 a2 a3 a4 a5 k
 unfold zcA.f
 repeat' first
   | (with_reducible exact zaS.mono _ _ _ _)
   | (with_reducible exact LeO.refl _)
   | (with_reducible exact LeO.none _)
   | (with_reducible refine LeO.ite ?_ ?_)
   | (with_reducible refine LeO.bind ?_ (fun _ => ?_))
   | exact zaS.mono _ _ _ _
   | exact LeO.none _
   | refine LeO.ite ?_ ?_
   | refine LeO.bind ?_ (fun _ => ?_)
set_option maxHeartbeats 8000000 in
set_option maxRecDepth 100000 in
theorem zcA.calls (k : Nat) (a0_0 : Int) (a0_1 : Int) (a0_2 : Int) (a1_0 : Int) (a1_1 : Int) (a1_2 : Int) (r1 : Int) (r2 : Int) (r3 : Int) (w : World) (h : zcA.f k a0_0 a0_1 a0_2 a1_0 a1_1 a1_2 = some (r1, r2, r3)) :
  Calls Tryd.prog 168 #[.agg #[.int .i64 a0_0, .int .i64 a0_1, .int .i64 a0_2], .agg #[.int .i64 a1_0, .int .i64 a1_1, .int .i64 a1_2]] w fun e w' => e = .returned (.agg #[.int .i64 r1, .int .i64 r2, .int .i64 r3]) ∧ Below w.heap.size w w' := by
 have hu34 := Tryd.underlying34
 have HB := zaO (Below.refl w.heap.size w)
 have H : ((zaS.f k (wrap64 ((wrap64 (a0_0 * a1_0)) + (wrap64 ((wrap64 (2 * a0_1)) * a1_1)))) (wrap64 ((wrap64 (a0_0 * a1_1)) + (wrap64 (a0_1 * a1_0)))) (wrap64 (a0_2 + a1_2))).bind fun bt327 => (some (bt327.1, bt327.2.1, bt327.2.2))) = some (r1, r2, r3) := h
 clear h
 replace H := Option.bind_eq_some_iff.mp H
 obtain ⟨⟨t327, t328, t329⟩, A30, H⟩ := H
 replace H : (some (t327, t328, t329)) = some (r1, r2, r3) := H
 have A3 := zaO A30
 clear A30
 simp only [Option.some.injEq, Prod.mk.injEq] at H
 obtain ⟨rfl, rfl, rfl⟩ := H
 go_enter Tryd.func168, Tryd.ntmps168
 go_wp2_with (first | ((with_reducible refine zbC (N := 2) rfl ?_); refine zaW ?hg (N := 2) ?hd (cs := #[.int .i64 a0_0, .int .i64 a0_1, .int .i64 a0_2]) (t := 34) ?hr ?_; (case hd => rfl); (case hg => rfl); (case hr => first | (go_simp; done) | (go_simp; rfl)); intro gb324 hg w4 hbox hb; have n0_ := zaO (zaK (by repeat (first | (with_reducible first | exact HB.out | apply zaE | apply zaA | apply zaD) | exact HB.out)) hb); have n1_ := zaO (hbox); have n2_ := zaO ((by rw [hg]; exact (zaP (by repeat (first | (with_reducible first | exact HB.out | apply zaE | apply zaA | apply zaD) | exact HB.out))) : w.heap.size ≤ gb324)); have n3_ := n2_; clear HB; have HB := n0_; have BK324 := n1_; have GW324 := n2_; have GE324 := n3_; clear n0_ n1_ n2_ n3_; clear hb hbox hg) | ((with_reducible refine zbC (N := 3) rfl ?_); refine zaW ?hg (N := 3) ?hd (cs := #[.int .i64 a1_0, .int .i64 a1_1, .int .i64 a1_2]) (t := 34) ?hr ?_; (case hd => rfl); (case hg => rfl); (case hr => first | (go_simp; done) | (go_simp; rfl)); intro gb325 hg w5 hbox hb; have n0_ := zaO (zaL (g := gb324) (o := .cells #[.int .i64 a0_0, .int .i64 a0_1, .int .i64 a0_2] 34 (0, 0)) (by (with_reducible repeat (first | apply zaC | apply zaF | apply zaB)); exact BK324.out) hb); have n1_ := zaO (zaK (by repeat (first | (with_reducible first | exact HB.out | apply zaE | apply zaA | apply zaD | refine zaH ?_ GE324.out) | exact HB.out)) hb); have n2_ := zaO (hbox); have n3_ := zaO ((by rw [hg]; exact (zaP (by repeat (first | (with_reducible first | exact HB.out | apply zaE | apply zaA | apply zaD | refine zaH ?_ GE324.out) | exact HB.out))) : w.heap.size ≤ gb325)); have n4_ := n3_; have n5_ := zaO ((by rw [hg]; exact Nat.ne_of_lt (zbN (g := gb324) (o := .cells #[.int .i64 a0_0, .int .i64 a0_1, .int .i64 a0_2] 34 (0, 0)) (by (with_reducible repeat (first | apply zaC | apply zaF | apply zaB)); exact BK324.out)) : gb324 ≠ gb325)); have n6_ := zaO ((by rw [hg]; exact Nat.ne_of_gt (zbN (g := gb324) (o := .cells #[.int .i64 a0_0, .int .i64 a0_1, .int .i64 a0_2] 34 (0, 0)) (by (with_reducible repeat (first | apply zaC | apply zaF | apply zaB)); exact BK324.out)) : gb325 ≠ gb324)); clear BK324; clear HB; have BK324 := n0_; have HB := n1_; have BK325 := n2_; have GW325 := n3_; have GE325 := n4_; have NB324_325 := n5_; have NB325_324 := n6_; clear n0_ n1_ n2_ n3_ n4_ n5_ n6_; clear hb hbox hg) | ((with_reducible refine zbC (N := 4) rfl ?_); refine zaW ?hg (N := 4) ?hd (cs := #[.int .i64 0, .int .i64 0, .int .i64 0]) (t := 34) ?hr ?_; (case hd => rfl); (case hg => rfl); (case hr => first | (go_simp; done) | (go_simp; rfl)); intro gb326 hg w6 hbox hb; have n0_ := zaO (zaL (g := gb324) (o := .cells #[.int .i64 a0_0, .int .i64 a0_1, .int .i64 a0_2] 34 (0, 0)) (by (with_reducible repeat (first | apply zaC | apply zaF | apply zaB)); exact BK324.out) hb); have n1_ := zaO (zaL (g := gb325) (o := .cells #[.int .i64 a1_0, .int .i64 a1_1, .int .i64 a1_2] 34 (0, 0)) (by (with_reducible repeat (first | apply zaC | apply zaF | apply zaB)); exact BK325.out) hb); have n2_ := zaO (zaK (by repeat (first | (with_reducible first | exact HB.out | apply zaE | apply zaA | apply zaD | refine zaH ?_ GE324.out | refine zaH ?_ GE325.out) | exact HB.out)) hb); have n3_ := zaO (hbox); have n4_ := zaO ((by rw [hg]; exact (zaP (by repeat (first | (with_reducible first | exact HB.out | apply zaE | apply zaA | apply zaD | refine zaH ?_ GE324.out | refine zaH ?_ GE325.out) | exact HB.out))) : w.heap.size ≤ gb326)); have n5_ := n4_; have n6_ := zaO ((by rw [hg]; exact Nat.ne_of_lt (zbN (g := gb324) (o := .cells #[.int .i64 a0_0, .int .i64 a0_1, .int .i64 a0_2] 34 (0, 0)) (by (with_reducible repeat (first | apply zaC | apply zaF | apply zaB)); exact BK324.out)) : gb324 ≠ gb326)); have n7_ := zaO ((by rw [hg]; exact Nat.ne_of_gt (zbN (g := gb324) (o := .cells #[.int .i64 a0_0, .int .i64 a0_1, .int .i64 a0_2] 34 (0, 0)) (by (with_reducible repeat (first | apply zaC | apply zaF | apply zaB)); exact BK324.out)) : gb326 ≠ gb324)); have n8_ := zaO ((by rw [hg]; exact Nat.ne_of_lt (zbN (g := gb325) (o := .cells #[.int .i64 a1_0, .int .i64 a1_1, .int .i64 a1_2] 34 (0, 0)) (by (with_reducible repeat (first | apply zaC | apply zaF | apply zaB)); exact BK325.out)) : gb325 ≠ gb326)); have n9_ := zaO ((by rw [hg]; exact Nat.ne_of_gt (zbN (g := gb325) (o := .cells #[.int .i64 a1_0, .int .i64 a1_1, .int .i64 a1_2] 34 (0, 0)) (by (with_reducible repeat (first | apply zaC | apply zaF | apply zaB)); exact BK325.out)) : gb326 ≠ gb325)); clear BK324; clear BK325; clear HB; have BK324 := n0_; have BK325 := n1_; have HB := n2_; have BK326 := n3_; have GW326 := n4_; have GE326 := n5_; have NB324_326 := n6_; have NB326_324 := n7_; have NB325_326 := n8_; have NB326_325 := n9_; clear n0_ n1_ n2_ n3_ n4_ n5_ n6_ n7_ n8_ n9_; clear hb hbox hg; have hnb7 := NB324_325.out; have hnc7 := NB325_324.out; have hnb8 := NB324_326.out; have hnc8 := NB326_324.out; obtain ⟨hcz9_0, hcz9_1, hcz9_2⟩ := zeE BK324.out; obtain ⟨hfz9_0, hfz9_1, hfz9_2⟩ := zeD BK324.out; have hnb10 := NB325_326.out; have hnc10 := NB326_325.out; obtain ⟨hcz11_0, hcz11_1, hcz11_2⟩ := zeE BK325.out; obtain ⟨hfz11_0, hfz11_1, hfz11_2⟩ := zeD BK325.out) | ((with_reducible refine zaQ (f := 191) rfl ?_); refine zbV (some 34) rfl rfl Tryd.func191 (by kernel_rfl) rfl #[.agg #[.int .i64 (wrap64 ((wrap64 (a0_0 * a1_0)) + (wrap64 ((wrap64 (2 * a0_1)) * a1_1)))), .int .i64 (wrap64 ((wrap64 (a0_0 * a1_1)) + (wrap64 (a0_1 * a1_0)))), .int .i64 (wrap64 (a0_2 + a1_2))]] rfl (by (try simp only [List.map_toArray, List.map_cons, List.map_nil]); first | done | rfl | (simp only [List.length_drop, List.length_take]; rfl)) ?_; (with_reducible refine (zaS.calls k (wrap64 ((wrap64 (a0_0 * a1_0)) + (wrap64 ((wrap64 (2 * a0_1)) * a1_1)))) (wrap64 ((wrap64 (a0_0 * a1_1)) + (wrap64 (a0_1 * a1_0)))) (wrap64 (a0_2 + a1_2)) t327 t328 t329 _ A3.out).mono ?_); rintro e w12 ⟨rfl, hb⟩; refine ⟨_, rfl, ?_⟩; have n0_ := zaO (zaL (g := gb324) (o := .cells #[.int .i64 a0_0, .int .i64 a0_1, .int .i64 a0_2] 34 (0, 0)) (by (with_reducible repeat (first | apply zaC | apply zaF | apply zaB)); exact BK324.out) hb); have n1_ := zaO (zaL (g := gb325) (o := .cells #[.int .i64 a1_0, .int .i64 a1_1, .int .i64 a1_2] 34 (0, 0)) (by (with_reducible repeat (first | apply zaC | apply zaF | apply zaB)); exact BK325.out) hb); have n2_ := zaO (zaL (g := gb326) (o := .cells #[.int .i64 0, .int .i64 0, .int .i64 0] 34 (0, 0)) (by (with_reducible repeat (first | apply zaC | apply zaF | apply zaB)); exact BK326.out) hb); have n3_ := zaO (zaK (by repeat (first | (with_reducible first | exact HB.out | apply zaE | apply zaA | apply zaD | refine zaH ?_ GE324.out | refine zaH ?_ GE325.out | refine zaH ?_ GE326.out) | exact HB.out)) hb); clear BK324; clear BK325; clear BK326; clear HB; have BK324 := n0_; have BK325 := n1_; have BK326 := n2_; have HB := n3_; clear n0_ n1_ n2_ n3_; (try clear hb); (try clear hb2); (try clear hk); (try clear hi); obtain ⟨hcz13_0, hcz13_1, hcz13_2⟩ := zeE BK326.out; obtain ⟨hfz13_0, hfz13_1, hfz13_2⟩ := zeD BK326.out))
 refine bodyPost_ret (results_cell_row rfl _ _ gb326 34 #[.int .i64 t327, .int .i64 t328, .int .i64 t329] (0, 0) _ rfl (by (with_reducible repeat (first | apply zaC | apply zaF | apply zaB)); refine zaR (cs := #[.int .i64 t327, .int .i64 t328, .int .i64 0]) ?_ 2 _ rfl; (with_reducible repeat (first | apply zaC | apply zaF | apply zaB)); refine zaR (cs := #[.int .i64 t327, .int .i64 0, .int .i64 0]) ?_ 1 _ rfl; (with_reducible repeat (first | apply zaC | apply zaF | apply zaB)); refine zaR (cs := #[.int .i64 0, .int .i64 0, .int .i64 0]) ?_ 0 _ rfl; (with_reducible repeat (first | apply zaC | apply zaF | apply zaB)); exact BK326.out) Tryd.underlying34 rfl (by kernel_rfl)) rfl ?_
 exact ⟨by first | rfl | (simp [zaN, zaM] <;> rfl) | (simp [*, zaN, zaM] <;> rfl), by repeat (first | (with_reducible first | exact HB.out | apply zaE | apply zaA | apply zaD | refine zaH ?_ GE324.out | refine zaH ?_ GE325.out | refine zaH ?_ GE326.out) | exact HB.out)⟩

def zbS.f (k : Nat) (a0_0 : Int) (a0_1 : Int) (a0_2 : Int) (a0_3 : Int) (a0_4 : Int) (a0_5 : Int) (a1_0 : Int) (a1_1 : Int) (a1_2 : Int) (a1_3 : Int) (a1_4 : Int) (a1_5 : Int) : Option (Int × Int × Int) := (zcA.f k a0_0 a0_1 a0_2 a1_3 a1_4 a1_5).bind fun bt333 => ((zcA.f k a0_3 a0_4 a0_5 a1_0 a1_1 a1_2).bind fun bt336 => ((zbT.f k bt333.1 bt333.2.1 bt333.2.2 bt336.1 bt336.2.1 bt336.2.2).bind fun bt339 => (some (bt339.1, bt339.2.1, bt339.2.2))))
theorem zbS.mono : ∀ a0 a1 a2 a3 a4 a5 a6 a7 a8 a9 a10 a11 k, LeO (zbS.f k a0 a1 a2 a3 a4 a5 a6 a7 a8 a9 a10 a11) (zbS.f (k + 1) a0 a1 a2 a3 a4 a5 a6 a7 a8 a9 a10 a11) := by
 intro a0 a1 a2 a3 a4 a5 a6 a7 a8 a9 a10 a11 k
 unfold zbS.f
 repeat' first
   | (with_reducible exact zbT.mono _ _ _ _ _ _ _)
   | (with_reducible exact zcA.mono _ _ _ _ _ _ _)
   | (with_reducible exact LeO.refl _)
   | (with_reducible exact LeO.none _)
   | (with_reducible refine LeO.ite ?_ ?_)
   | (with_reducible refine LeO.bind ?_ (fun _ => ?_))
   | exact zbT.mono _ _ _ _ _ _ _
   | exact zcA.mono _ _ _ _ _ _ _
   | exact LeO.none _
   | refine LeO.ite ?_ ?_
   | refine LeO.bind ?_ (fun _ => ?_)
def zbS.T1 : Bool × List (List Nat × List Nat) := (true, [([], []), ([0], [0]), ([], []), ([2], [2]), ([1, 3], [1, 3]), ([], []), ([5], [5]), ([], []), ([7], [7]), ([6, 8, 4], [6, 8]), ([4, 9, 9], [4, 9]), ([10, 10, 0, 1, 2, 3, 4, 5, 6, 7, 8, 9, 10], [10])])
def zbS.B1 : List Nat := [0, 1, 0, 4, 15, 0, 32, 0, 128, 511, 1023, 2047]
theorem zbS.tab1 : rtab .any (opsOf Tryd.f140 1) = zbS.T1 := by kernel_rfl
theorem zbS.bits1 : zeC zbS.T1.2 zbS.B1 = true := by kernel_rfl
set_option maxHeartbeats 8000000 in
set_option maxRecDepth 100000 in
theorem zbS.calls (k : Nat) (a0_0 : Int) (a0_1 : Int) (a0_2 : Int) (a0_3 : Int) (a0_4 : Int) (a0_5 : Int) (a1_0 : Int) (a1_1 : Int) (a1_2 : Int) (a1_3 : Int) (a1_4 : Int) (a1_5 : Int) (r1 : Int) (r2 : Int) (r3 : Int) (w : World) (h : zbS.f k a0_0 a0_1 a0_2 a0_3 a0_4 a0_5 a1_0 a1_1 a1_2 a1_3 a1_4 a1_5 = some (r1, r2, r3)) :
  Calls Tryd.prog 140 #[.agg #[.int .i64 a0_0, .int .i64 a0_1, .int .i64 a0_2, .int .i64 a0_3, .int .i64 a0_4, .int .i64 a0_5], .agg #[.int .i64 a1_0, .int .i64 a1_1, .int .i64 a1_2, .int .i64 a1_3, .int .i64 a1_4, .int .i64 a1_5]] w fun e w' => e = .returned (.agg #[.int .i64 r1, .int .i64 r2, .int .i64 r3]) ∧ Below w.heap.size w w' := by
 have hu36 := Tryd.underlying36
 have hu34 := Tryd.underlying34
 have HB := zaO (Below.refl w.heap.size w)
 have H : ((zcA.f k a0_0 a0_1 a0_2 a1_3 a1_4 a1_5).bind fun bt333 => ((zcA.f k a0_3 a0_4 a0_5 a1_0 a1_1 a1_2).bind fun bt336 => ((zbT.f k bt333.1 bt333.2.1 bt333.2.2 bt336.1 bt336.2.1 bt336.2.2).bind fun bt339 => (some (bt339.1, bt339.2.1, bt339.2.2))))) = some (r1, r2, r3) := h
 clear h
 replace H := Option.bind_eq_some_iff.mp H
 obtain ⟨⟨t333, t334, t335⟩, A30, H⟩ := H
 replace H : ((zcA.f k a0_3 a0_4 a0_5 a1_0 a1_1 a1_2).bind fun bt336 => ((zbT.f k t333 t334 t335 bt336.1 bt336.2.1 bt336.2.2).bind fun bt339 => (some (bt339.1, bt339.2.1, bt339.2.2)))) = some (r1, r2, r3) := H
 have A3 := zaO A30
 clear A30
 replace H := Option.bind_eq_some_iff.mp H
 obtain ⟨⟨t336, t337, t338⟩, A40, H⟩ := H
 replace H : ((zbT.f k t333 t334 t335 t336 t337 t338).bind fun bt339 => (some (bt339.1, bt339.2.1, bt339.2.2))) = some (r1, r2, r3) := H
 have A4 := zaO A40
 clear A40
 replace H := Option.bind_eq_some_iff.mp H
 obtain ⟨⟨t339, t340, t341⟩, A50, H⟩ := H
 replace H : (some (t339, t340, t341)) = some (r1, r2, r3) := H
 have A5 := zaO A50
 clear A50
 simp only [Option.some.injEq, Prod.mk.injEq] at H
 obtain ⟨rfl, rfl, rfl⟩ := H
 go_enter Tryd.func140, Tryd.ntmps140
 try go_wp2_with (first | ((with_reducible refine zbC (N := 2) rfl ?_); refine zaW ?hg (N := 2) ?hd (cs := #[.int .i64 a0_0, .int .i64 a0_1, .int .i64 a0_2, .int .i64 a0_3, .int .i64 a0_4, .int .i64 a0_5]) (t := 36) ?hr ?_; (case hd => rfl); (case hg => rfl); (case hr => first | (go_simp; done) | (go_simp; rfl)); intro gb330 hg w6 hbox hb; have n0_ := zaO (zaK (by repeat (first | (with_reducible first | exact HB.out | apply zaE | apply zaA | apply zaD) | exact HB.out)) hb); have n1_ := zaO (hbox); have n2_ := zaO ((by rw [hg]; exact (zaP (by repeat (first | (with_reducible first | exact HB.out | apply zaE | apply zaA | apply zaD) | exact HB.out))) : w.heap.size ≤ gb330)); have n3_ := n2_; clear HB; have HB := n0_; have BK330 := n1_; have GW330 := n2_; have GE330 := n3_; clear n0_ n1_ n2_ n3_; clear hb hbox hg) | ((with_reducible refine zbC (N := 3) rfl ?_); refine zaW ?hg (N := 3) ?hd (cs := #[.int .i64 a1_0, .int .i64 a1_1, .int .i64 a1_2, .int .i64 a1_3, .int .i64 a1_4, .int .i64 a1_5]) (t := 36) ?hr ?_; (case hd => rfl); (case hg => rfl); (case hr => first | (go_simp; done) | (go_simp; rfl)); intro gb331 hg w7 hbox hb; have n0_ := zaO (zaL (g := gb330) (o := .cells #[.int .i64 a0_0, .int .i64 a0_1, .int .i64 a0_2, .int .i64 a0_3, .int .i64 a0_4, .int .i64 a0_5] 36 (0, 0)) (by (with_reducible repeat (first | apply zaC | apply zaF | apply zaB)); exact BK330.out) hb); have n1_ := zaO (zaK (by repeat (first | (with_reducible first | exact HB.out | apply zaE | apply zaA | apply zaD | refine zaH ?_ GE330.out) | exact HB.out)) hb); have n2_ := zaO (hbox); have n3_ := zaO ((by rw [hg]; exact (zaP (by repeat (first | (with_reducible first | exact HB.out | apply zaE | apply zaA | apply zaD | refine zaH ?_ GE330.out) | exact HB.out))) : w.heap.size ≤ gb331)); have n4_ := n3_; have n5_ := zaO ((by rw [hg]; exact Nat.ne_of_lt (zbN (g := gb330) (o := .cells #[.int .i64 a0_0, .int .i64 a0_1, .int .i64 a0_2, .int .i64 a0_3, .int .i64 a0_4, .int .i64 a0_5] 36 (0, 0)) (by (with_reducible repeat (first | apply zaC | apply zaF | apply zaB)); exact BK330.out)) : gb330 ≠ gb331)); have n6_ := zaO ((by rw [hg]; exact Nat.ne_of_gt (zbN (g := gb330) (o := .cells #[.int .i64 a0_0, .int .i64 a0_1, .int .i64 a0_2, .int .i64 a0_3, .int .i64 a0_4, .int .i64 a0_5] 36 (0, 0)) (by (with_reducible repeat (first | apply zaC | apply zaF | apply zaB)); exact BK330.out)) : gb331 ≠ gb330)); clear BK330; clear HB; have BK330 := n0_; have HB := n1_; have BK331 := n2_; have GW331 := n3_; have GE331 := n4_; have NB330_331 := n5_; have NB331_330 := n6_; clear n0_ n1_ n2_ n3_ n4_ n5_ n6_; clear hb hbox hg) | ((with_reducible refine zbC (N := 4) rfl ?_); refine zaW ?hg (N := 4) ?hd (cs := #[.int .i64 0, .int .i64 0, .int .i64 0]) (t := 34) ?hr ?_; (case hd => rfl); (case hg => rfl); (case hr => first | (go_simp; done) | (go_simp; rfl)); intro gb332 hg w8 hbox hb; have n0_ := zaO (zaL (g := gb330) (o := .cells #[.int .i64 a0_0, .int .i64 a0_1, .int .i64 a0_2, .int .i64 a0_3, .int .i64 a0_4, .int .i64 a0_5] 36 (0, 0)) (by (with_reducible repeat (first | apply zaC | apply zaF | apply zaB)); exact BK330.out) hb); have n1_ := zaO (zaL (g := gb331) (o := .cells #[.int .i64 a1_0, .int .i64 a1_1, .int .i64 a1_2, .int .i64 a1_3, .int .i64 a1_4, .int .i64 a1_5] 36 (0, 0)) (by (with_reducible repeat (first | apply zaC | apply zaF | apply zaB)); exact BK331.out) hb); have n2_ := zaO (zaK (by repeat (first | (with_reducible first | exact HB.out | apply zaE | apply zaA | apply zaD | refine zaH ?_ GE330.out | refine zaH ?_ GE331.out) | exact HB.out)) hb); have n3_ := zaO (hbox); have n4_ := zaO ((by rw [hg]; exact (zaP (by repeat (first | (with_reducible first | exact HB.out | apply zaE | apply zaA | apply zaD | refine zaH ?_ GE330.out | refine zaH ?_ GE331.out) | exact HB.out))) : w.heap.size ≤ gb332)); have n5_ := n4_; have n6_ := zaO ((by rw [hg]; exact Nat.ne_of_lt (zbN (g := gb330) (o := .cells #[.int .i64 a0_0, .int .i64 a0_1, .int .i64 a0_2, .int .i64 a0_3, .int .i64 a0_4, .int .i64 a0_5] 36 (0, 0)) (by (with_reducible repeat (first | apply zaC | apply zaF | apply zaB)); exact BK330.out)) : gb330 ≠ gb332)); have n7_ := zaO ((by rw [hg]; exact Nat.ne_of_gt (zbN (g := gb330) (o := .cells #[.int .i64 a0_0, .int .i64 a0_1, .int .i64 a0_2, .int .i64 a0_3, .int .i64 a0_4, .int .i64 a0_5] 36 (0, 0)) (by (with_reducible repeat (first | apply zaC | apply zaF | apply zaB)); exact BK330.out)) : gb332 ≠ gb330)); have n8_ := zaO ((by rw [hg]; exact Nat.ne_of_lt (zbN (g := gb331) (o := .cells #[.int .i64 a1_0, .int .i64 a1_1, .int .i64 a1_2, .int .i64 a1_3, .int .i64 a1_4, .int .i64 a1_5] 36 (0, 0)) (by (with_reducible repeat (first | apply zaC | apply zaF | apply zaB)); exact BK331.out)) : gb331 ≠ gb332)); have n9_ := zaO ((by rw [hg]; exact Nat.ne_of_gt (zbN (g := gb331) (o := .cells #[.int .i64 a1_0, .int .i64 a1_1, .int .i64 a1_2, .int .i64 a1_3, .int .i64 a1_4, .int .i64 a1_5] 36 (0, 0)) (by (with_reducible repeat (first | apply zaC | apply zaF | apply zaB)); exact BK331.out)) : gb332 ≠ gb331)); clear BK330; clear BK331; clear HB; have BK330 := n0_; have BK331 := n1_; have HB := n2_; have BK332 := n3_; have GW332 := n4_; have GE332 := n5_; have NB330_332 := n6_; have NB332_330 := n7_; have NB331_332 := n8_; have NB332_331 := n9_; clear n0_ n1_ n2_ n3_ n4_ n5_ n6_ n7_ n8_ n9_; clear hb hbox hg))
 have n0_ := zaO (zaF BK330.out)
 have n1_ := zaO (zaF BK331.out)
 have n2_ := zaO (zaF BK332.out)
 have n3_ := zaO (zaD HB.out)
 clear BK330
 clear BK331
 clear BK332
 clear HB
 have BK330 := n0_
 have BK331 := n1_
 have BK332 := n2_
 have HB := n3_
 clear n0_ n1_ n2_ n3_
 refine zdU (n := 12) (S := fun w' => w'.cell? ⟨gb330, 0, none⟩ = some (.int .i64 a0_0) ∧ w'.cell? ⟨gb330, 1, none⟩ = some (.int .i64 a0_1) ∧ w'.cell? ⟨gb330, 2, none⟩ = some (.int .i64 a0_2) ∧ w'.cell? ⟨gb330, 3, none⟩ = some (.int .i64 a0_3) ∧ w'.cell? ⟨gb330, 4, none⟩ = some (.int .i64 a0_4) ∧ w'.cell? ⟨gb330, 5, none⟩ = some (.int .i64 a0_5) ∧ w'.cell? ⟨gb331, 0, none⟩ = some (.int .i64 a1_0) ∧ w'.cell? ⟨gb331, 1, none⟩ = some (.int .i64 a1_1) ∧ w'.cell? ⟨gb331, 2, none⟩ = some (.int .i64 a1_2) ∧ w'.cell? ⟨gb331, 3, none⟩ = some (.int .i64 a1_3) ∧ w'.cell? ⟨gb331, 4, none⟩ = some (.int .i64 a1_4) ∧ w'.cell? ⟨gb331, 5, none⟩ = some (.int .i64 a1_5)) (ds := []) #[false, false, false, false, false, false, false, false, false, false, false, false] (by kernel_rfl) rfl rfl ⟨(zaI BK330.out 0).trans rfl, (zaI BK330.out 1).trans rfl, (zaI BK330.out 2).trans rfl, (zaI BK330.out 3).trans rfl, (zaI BK330.out 4).trans rfl, (zaI BK330.out 5).trans rfl, (zaI BK331.out 0).trans rfl, (zaI BK331.out 1).trans rfl, (zaI BK331.out 2).trans rfl, (zaI BK331.out 3).trans rfl, (zaI BK331.out 4).trans rfl, (zaI BK331.out 5).trans rfl⟩ (fun hHeld => ?_); refine zcT zbS.tab1 zbS.bits1 (fun HT_ HW_ => ?_)
 generalize w8.drew = w9 at BK330 BK331 BK332 HB hHeld ⊢
 refine zbL (i := 0) (N := some 5) (v := ?_) (a' := ?_) #[true, false, false, false, false, false, false, false, false, false, false, false] rfl rfl (zaY HT_.out (by kernel_rfl)) (fun _ _ _ h => h) (Or.inl ⟨by rfl, ?_⟩) ?_ ?_
 rotate_left
 ·intro w'
  go_simp
  with_reducible rfl
 rotate_left
 ·simp only [Act.put, List.setIfInBounds_toArray, List.set_cons_zero, List.set_cons_succ, zaT, zaU]
  rfl
 refine zbL (i := 2) (N := some 7) (v := ?_) (a' := ?_) #[true, false, true, false, false, false, false, false, false, false, false, false] rfl rfl (zaY HT_.out (by kernel_rfl)) (fun _ _ _ h => h) (Or.inl ⟨by rfl, ?_⟩) ?_ ?_
 rotate_left
 ·intro w'
  go_simp
  with_reducible rfl
 rotate_left
 ·simp only [Act.put, List.setIfInBounds_toArray, List.set_cons_zero, List.set_cons_succ, zaT, zaU]
  rfl
 refine zbL (i := 5) (N := some 10) (v := ?_) (a' := ?_) #[true, false, true, false, false, true, false, false, false, false, false, false] rfl rfl (zaY HT_.out (by kernel_rfl)) (fun _ _ _ h => h) (Or.inl ⟨by rfl, ?_⟩) ?_ ?_
 rotate_left
 ·intro w'
  go_simp
  with_reducible rfl
 rotate_left
 ·simp only [Act.put, List.setIfInBounds_toArray, List.set_cons_zero, List.set_cons_succ, zaT, zaU]
  rfl
 refine zbL (i := 7) (N := some 12) (v := ?_) (a' := ?_) #[true, false, true, false, false, true, false, true, false, false, false, false] rfl rfl (zaY HT_.out (by kernel_rfl)) (fun _ _ _ h => h) (Or.inl ⟨by rfl, ?_⟩) ?_ ?_
 rotate_left
 ·intro w'
  go_simp
  with_reducible rfl
 rotate_left
 ·simp only [Act.put, List.setIfInBounds_toArray, List.set_cons_zero, List.set_cons_succ, zaT, zaU]
  rfl
 refine take_ (i := 1) (N := some 6) (v := ?_) (a' := ?_) #[true, true, true, false, false, true, false, true, false, false, false, false] rfl rfl (zbU HT_.out HW_.out (by kernel_rfl)) (fun _ _ _ h => h) (Or.inl ⟨by rfl, ?_⟩) hHeld ?_ ?_
 rotate_left
 ·rintro w' ⟨s0, s1, s2, s3, s4, s5, s6, s7, s8, s9, s10, s11⟩
  go_simp
  with_reducible rfl
 rotate_left
 ·simp only [Act.put, List.setIfInBounds_toArray, List.set_cons_zero, List.set_cons_succ, zaT, zaU]
  rfl
 refine take_ (i := 3) (N := some 8) (v := ?_) (a' := ?_) #[true, true, true, true, false, true, false, true, false, false, false, false] rfl rfl (zbU HT_.out HW_.out (by kernel_rfl)) (fun _ _ _ h => h) (Or.inl ⟨by rfl, ?_⟩) hHeld ?_ ?_
 rotate_left
 ·rintro w' ⟨s0, s1, s2, s3, s4, s5, s6, s7, s8, s9, s10, s11⟩
  go_simp
  with_reducible rfl
 rotate_left
 ·simp only [Act.put, List.setIfInBounds_toArray, List.set_cons_zero, List.set_cons_succ, zaT, zaU]
  rfl
 refine take_ (i := 6) (N := some 11) (v := ?_) (a' := ?_) #[true, true, true, true, false, true, true, true, false, false, false, false] rfl rfl (zbU HT_.out HW_.out (by kernel_rfl)) (fun _ _ _ h => h) (Or.inl ⟨by rfl, ?_⟩) hHeld ?_ ?_
 rotate_left
 ·rintro w' ⟨s0, s1, s2, s3, s4, s5, s6, s7, s8, s9, s10, s11⟩
  go_simp
  with_reducible rfl
 rotate_left
 ·simp only [Act.put, List.setIfInBounds_toArray, List.set_cons_zero, List.set_cons_succ, zaT, zaU]
  rfl
 refine take_ (i := 8) (N := some 13) (v := ?_) (a' := ?_) #[true, true, true, true, false, true, true, true, true, false, false, false] rfl rfl (zbU HT_.out HW_.out (by kernel_rfl)) (fun _ _ _ h => h) (Or.inl ⟨by rfl, ?_⟩) hHeld ?_ ?_
 rotate_left
 ·rintro w' ⟨s0, s1, s2, s3, s4, s5, s6, s7, s8, s9, s10, s11⟩
  go_simp
  with_reducible rfl
 rotate_left
 ·simp only [Act.put, List.setIfInBounds_toArray, List.set_cons_zero, List.set_cons_succ, zaT, zaU]
  rfl
 refine zeX (i := 4) (N := some 9) #[true, true, true, true, true, true, true, true, true, false, false, false] rfl rfl (zcU HT_.out (by kernel_rfl)) (by decide) (fun K hK => ?_)
 refine zdI Tryd.func168 (by kernel_rfl) rfl #[.agg #[.int .i64 a0_0, .int .i64 a0_1, .int .i64 a0_2], .agg #[.int .i64 a1_3, .int .i64 a1_4, .int .i64 a1_5]] (by rfl) rfl rfl (by (try simp only [List.map_toArray, List.map_cons, List.map_nil]); first | done | rfl | (simp only [List.length_drop, List.length_take]; rfl)) ?_
 with_reducible refine (zcA.calls k a0_0 a0_1 a0_2 a1_3 a1_4 a1_5 t333 t334 t335 _ A3.out).mono ?_
 rintro e w10 ⟨rfl, hb⟩
 refine ⟨_, rfl, ?_⟩
 have n0_ := zaO (zaL (g := gb330) (o := .cells #[.int .i64 a0_0, .int .i64 a0_1, .int .i64 a0_2, .int .i64 a0_3, .int .i64 a0_4, .int .i64 a0_5] 36 (0, 0)) (by (with_reducible repeat (first | apply zaC | apply zaF | apply zaB)); exact BK330.out) hb)
 have n1_ := zaO (zaL (g := gb331) (o := .cells #[.int .i64 a1_0, .int .i64 a1_1, .int .i64 a1_2, .int .i64 a1_3, .int .i64 a1_4, .int .i64 a1_5] 36 (0, 0)) (by (with_reducible repeat (first | apply zaC | apply zaF | apply zaB)); exact BK331.out) hb)
 have n2_ := zaO (zaL (g := gb332) (o := .cells #[.int .i64 0, .int .i64 0, .int .i64 0] 34 (0, 0)) (by (with_reducible repeat (first | apply zaC | apply zaF | apply zaB)); exact BK332.out) hb)
 have n3_ := zaO (zaK (by repeat (first | (with_reducible first | exact HB.out | apply zaE | apply zaA | apply zaD | refine zaH ?_ GE330.out | refine zaH ?_ GE331.out | refine zaH ?_ GE332.out) | exact HB.out)) hb)
 clear BK330
 clear BK331
 clear BK332
 clear HB
 have BK330 := n0_
 have BK331 := n1_
 have BK332 := n2_
 have HB := n3_
 clear n0_ n1_ n2_ n3_
 (try clear hb)
 (try clear hb2)
 (try clear hk)
 (try clear hi)
 refine hK.out _ _ ⟨(zaI BK330.out 0).trans rfl, (zaI BK330.out 1).trans rfl, (zaI BK330.out 2).trans rfl, (zaI BK330.out 3).trans rfl, (zaI BK330.out 4).trans rfl, (zaI BK330.out 5).trans rfl, (zaI BK331.out 0).trans rfl, (zaI BK331.out 1).trans rfl, (zaI BK331.out 2).trans rfl, (zaI BK331.out 3).trans rfl, (zaI BK331.out 4).trans rfl, (zaI BK331.out 5).trans rfl⟩ (fun hHeld => ?_)
 clear hK K
 refine zdL (a' := ?_) ?_ ?_
 rotate_left
 ·show Act.put _ (some 9) _ = _
  simp only [Act.put, List.setIfInBounds_toArray, List.set_cons_zero, List.set_cons_succ, zaT, zaU]
  rfl
 refine zeX (i := 9) (N := some 14) #[true, true, true, true, true, true, true, true, true, true, false, false] rfl rfl (zcU HT_.out (by kernel_rfl)) (by decide) (fun K hK => ?_)
 refine zdI Tryd.func168 (by kernel_rfl) rfl #[.agg #[.int .i64 a0_3, .int .i64 a0_4, .int .i64 a0_5], .agg #[.int .i64 a1_0, .int .i64 a1_1, .int .i64 a1_2]] (by rfl) rfl rfl (by (try simp only [List.map_toArray, List.map_cons, List.map_nil]); first | done | rfl | (simp only [List.length_drop, List.length_take]; rfl)) ?_
 with_reducible refine (zcA.calls k a0_3 a0_4 a0_5 a1_0 a1_1 a1_2 t336 t337 t338 _ A4.out).mono ?_
 rintro e w11 ⟨rfl, hb⟩
 refine ⟨_, rfl, ?_⟩
 have n0_ := zaO (zaL (g := gb330) (o := .cells #[.int .i64 a0_0, .int .i64 a0_1, .int .i64 a0_2, .int .i64 a0_3, .int .i64 a0_4, .int .i64 a0_5] 36 (0, 0)) (by (with_reducible repeat (first | apply zaC | apply zaF | apply zaB)); exact BK330.out) hb)
 have n1_ := zaO (zaL (g := gb331) (o := .cells #[.int .i64 a1_0, .int .i64 a1_1, .int .i64 a1_2, .int .i64 a1_3, .int .i64 a1_4, .int .i64 a1_5] 36 (0, 0)) (by (with_reducible repeat (first | apply zaC | apply zaF | apply zaB)); exact BK331.out) hb)
 have n2_ := zaO (zaL (g := gb332) (o := .cells #[.int .i64 0, .int .i64 0, .int .i64 0] 34 (0, 0)) (by (with_reducible repeat (first | apply zaC | apply zaF | apply zaB)); exact BK332.out) hb)
 have n3_ := zaO (zaK (by repeat (first | (with_reducible first | exact HB.out | apply zaE | apply zaA | apply zaD | refine zaH ?_ GE330.out | refine zaH ?_ GE331.out | refine zaH ?_ GE332.out) | exact HB.out)) hb)
 clear BK330
 clear BK331
 clear BK332
 clear HB
 have BK330 := n0_
 have BK331 := n1_
 have BK332 := n2_
 have HB := n3_
 clear n0_ n1_ n2_ n3_
 (try clear hb)
 (try clear hb2)
 (try clear hk)
 (try clear hi)
 refine hK.out _ _ ⟨(zaI BK330.out 0).trans rfl, (zaI BK330.out 1).trans rfl, (zaI BK330.out 2).trans rfl, (zaI BK330.out 3).trans rfl, (zaI BK330.out 4).trans rfl, (zaI BK330.out 5).trans rfl, (zaI BK331.out 0).trans rfl, (zaI BK331.out 1).trans rfl, (zaI BK331.out 2).trans rfl, (zaI BK331.out 3).trans rfl, (zaI BK331.out 4).trans rfl, (zaI BK331.out 5).trans rfl⟩ (fun hHeld => ?_)
 clear hK K
 refine zdL (a' := ?_) ?_ ?_
 rotate_left
 ·show Act.put _ (some 14) _ = _
  simp only [Act.put, List.setIfInBounds_toArray, List.set_cons_zero, List.set_cons_succ, zaT, zaU]
  rfl
 refine zeX (i := 10) (N := some 15) #[true, true, true, true, true, true, true, true, true, true, true, false] rfl rfl (zcU HT_.out (by kernel_rfl)) (by decide) (fun K hK => ?_)
 refine zdI Tryd.func166 (by kernel_rfl) rfl #[.agg #[.int .i64 t333, .int .i64 t334, .int .i64 t335], .agg #[.int .i64 t336, .int .i64 t337, .int .i64 t338]] (by rfl) rfl rfl (by (try simp only [List.map_toArray, List.map_cons, List.map_nil]); first | done | rfl | (simp only [List.length_drop, List.length_take]; rfl)) ?_
 with_reducible refine (zbT.calls k t333 t334 t335 t336 t337 t338 t339 t340 t341 _ A5.out).mono ?_
 rintro e w12 ⟨rfl, hb⟩
 refine ⟨_, rfl, ?_⟩
 have n0_ := zaO (zaL (g := gb330) (o := .cells #[.int .i64 a0_0, .int .i64 a0_1, .int .i64 a0_2, .int .i64 a0_3, .int .i64 a0_4, .int .i64 a0_5] 36 (0, 0)) (by (with_reducible repeat (first | apply zaC | apply zaF | apply zaB)); exact BK330.out) hb)
 have n1_ := zaO (zaL (g := gb331) (o := .cells #[.int .i64 a1_0, .int .i64 a1_1, .int .i64 a1_2, .int .i64 a1_3, .int .i64 a1_4, .int .i64 a1_5] 36 (0, 0)) (by (with_reducible repeat (first | apply zaC | apply zaF | apply zaB)); exact BK331.out) hb)
 have n2_ := zaO (zaL (g := gb332) (o := .cells #[.int .i64 0, .int .i64 0, .int .i64 0] 34 (0, 0)) (by (with_reducible repeat (first | apply zaC | apply zaF | apply zaB)); exact BK332.out) hb)
 have n3_ := zaO (zaK (by repeat (first | (with_reducible first | exact HB.out | apply zaE | apply zaA | apply zaD | refine zaH ?_ GE330.out | refine zaH ?_ GE331.out | refine zaH ?_ GE332.out) | exact HB.out)) hb)
 clear BK330
 clear BK331
 clear BK332
 clear HB
 have BK330 := n0_
 have BK331 := n1_
 have BK332 := n2_
 have HB := n3_
 clear n0_ n1_ n2_ n3_
 (try clear hb)
 (try clear hb2)
 (try clear hk)
 (try clear hi)
 refine hK.out _ _ ⟨(zaI BK330.out 0).trans rfl, (zaI BK330.out 1).trans rfl, (zaI BK330.out 2).trans rfl, (zaI BK330.out 3).trans rfl, (zaI BK330.out 4).trans rfl, (zaI BK330.out 5).trans rfl, (zaI BK331.out 0).trans rfl, (zaI BK331.out 1).trans rfl, (zaI BK331.out 2).trans rfl, (zaI BK331.out 3).trans rfl, (zaI BK331.out 4).trans rfl, (zaI BK331.out 5).trans rfl⟩ (fun hHeld => ?_)
 clear hK K
 refine zdL (a' := ?_) ?_ ?_
 rotate_left
 ·show Act.put _ (some 15) _ = _
  simp only [Act.put, List.setIfInBounds_toArray, List.set_cons_zero, List.set_cons_succ, zaT, zaU]
  rfl
 refine zeX (i := 11) (N := none) #[true, true, true, true, true, true, true, true, true, true, true, true] rfl rfl (zcU HT_.out (by kernel_rfl)) (by decide) (fun K hK => ?_)
 have hs13 : w12.cell? ⟨gb332, 0, none⟩ = some (.int .i64 0) := (zaI BK332.out 0).trans rfl
 have hfs13 := zbM BK332.out 0
 have hns13_0 := NB330_332.out
 have hns13_1 := NB331_332.out
 have hms13_0 := NB332_330.out
 have hms13_1 := NB332_331.out
 have hs14 : w12.cell? ⟨gb332, 1, none⟩ = some (.int .i64 0) := (zaI BK332.out 1).trans rfl
 have hfs14 := zbM BK332.out 1
 have hns14_0 := NB330_332.out
 have hns14_1 := NB331_332.out
 have hms14_0 := NB332_330.out
 have hms14_1 := NB332_331.out
 have hs15 : w12.cell? ⟨gb332, 2, none⟩ = some (.int .i64 0) := (zaI BK332.out 2).trans rfl
 have hfs15 := zbM BK332.out 2
 have hns15_0 := NB330_332.out
 have hns15_1 := NB331_332.out
 have hms15_0 := NB332_330.out
 have hms15_1 := NB332_331.out
 refine skip_ (w1 := ?_) (by rfl) rfl ?_ ?_
 rotate_left
 ·go_simp
  rfl
 refine hK.out _ _ ⟨((zaJ (p := ⟨gb332, _, none⟩) NB330_332.out _).trans (((zaJ (p := ⟨gb332, _, none⟩) NB330_332.out _).trans (((zaJ (p := ⟨gb332, _, none⟩) NB330_332.out _).trans (hHeld.1)))))), ((zaJ (p := ⟨gb332, _, none⟩) NB330_332.out _).trans (((zaJ (p := ⟨gb332, _, none⟩) NB330_332.out _).trans (((zaJ (p := ⟨gb332, _, none⟩) NB330_332.out _).trans (hHeld.2.1)))))), ((zaJ (p := ⟨gb332, _, none⟩) NB330_332.out _).trans (((zaJ (p := ⟨gb332, _, none⟩) NB330_332.out _).trans (((zaJ (p := ⟨gb332, _, none⟩) NB330_332.out _).trans (hHeld.2.2.1)))))), ((zaJ (p := ⟨gb332, _, none⟩) NB330_332.out _).trans (((zaJ (p := ⟨gb332, _, none⟩) NB330_332.out _).trans (((zaJ (p := ⟨gb332, _, none⟩) NB330_332.out _).trans (hHeld.2.2.2.1)))))), ((zaJ (p := ⟨gb332, _, none⟩) NB330_332.out _).trans (((zaJ (p := ⟨gb332, _, none⟩) NB330_332.out _).trans (((zaJ (p := ⟨gb332, _, none⟩) NB330_332.out _).trans (hHeld.2.2.2.2.1)))))), ((zaJ (p := ⟨gb332, _, none⟩) NB330_332.out _).trans (((zaJ (p := ⟨gb332, _, none⟩) NB330_332.out _).trans (((zaJ (p := ⟨gb332, _, none⟩) NB330_332.out _).trans (hHeld.2.2.2.2.2.1)))))), ((zaJ (p := ⟨gb332, _, none⟩) NB331_332.out _).trans (((zaJ (p := ⟨gb332, _, none⟩) NB331_332.out _).trans (((zaJ (p := ⟨gb332, _, none⟩) NB331_332.out _).trans (hHeld.2.2.2.2.2.2.1)))))), ((zaJ (p := ⟨gb332, _, none⟩) NB331_332.out _).trans (((zaJ (p := ⟨gb332, _, none⟩) NB331_332.out _).trans (((zaJ (p := ⟨gb332, _, none⟩) NB331_332.out _).trans (hHeld.2.2.2.2.2.2.2.1)))))), ((zaJ (p := ⟨gb332, _, none⟩) NB331_332.out _).trans (((zaJ (p := ⟨gb332, _, none⟩) NB331_332.out _).trans (((zaJ (p := ⟨gb332, _, none⟩) NB331_332.out _).trans (hHeld.2.2.2.2.2.2.2.2.1)))))), ((zaJ (p := ⟨gb332, _, none⟩) NB331_332.out _).trans (((zaJ (p := ⟨gb332, _, none⟩) NB331_332.out _).trans (((zaJ (p := ⟨gb332, _, none⟩) NB331_332.out _).trans (hHeld.2.2.2.2.2.2.2.2.2.1)))))), ((zaJ (p := ⟨gb332, _, none⟩) NB331_332.out _).trans (((zaJ (p := ⟨gb332, _, none⟩) NB331_332.out _).trans (((zaJ (p := ⟨gb332, _, none⟩) NB331_332.out _).trans (hHeld.2.2.2.2.2.2.2.2.2.2.1)))))), ((zaJ (p := ⟨gb332, _, none⟩) NB331_332.out _).trans (((zaJ (p := ⟨gb332, _, none⟩) NB331_332.out _).trans (((zaJ (p := ⟨gb332, _, none⟩) NB331_332.out _).trans (hHeld.2.2.2.2.2.2.2.2.2.2.2))))))⟩ (fun hHeld => ?_)
 clear hK K
 refine done_ (zdJ HT_.out (by kernel_rfl)) ?_
 try go_wp2
 refine bodyPost_ret (results_cell_row rfl _ _ gb332 34 #[.int .i64 t339, .int .i64 t340, .int .i64 t341] (0, 0) _ rfl (by (with_reducible repeat (first | apply zaC | apply zaF | apply zaB)); refine zaR (cs := #[.int .i64 t339, .int .i64 t340, .int .i64 0]) ?_ 2 _ rfl; (with_reducible repeat (first | apply zaC | apply zaF | apply zaB)); refine zaR (cs := #[.int .i64 t339, .int .i64 0, .int .i64 0]) ?_ 1 _ rfl; (with_reducible repeat (first | apply zaC | apply zaF | apply zaB)); refine zaR (cs := #[.int .i64 0, .int .i64 0, .int .i64 0]) ?_ 0 _ rfl; (with_reducible repeat (first | apply zaC | apply zaF | apply zaB)); exact BK332.out) Tryd.underlying34 rfl (by kernel_rfl)) rfl ?_
 exact ⟨by first | rfl | (simp [zaN, zaM] <;> rfl) | (simp [*, zaN, zaM] <;> rfl), by repeat (first | (with_reducible first | exact HB.out | apply zaE | apply zaA | apply zaD | refine zaH ?_ GE330.out | refine zaH ?_ GE331.out | refine zaH ?_ GE332.out) | exact HB.out)⟩

def zbZ.f (k : Nat) (a0_0 : Int) (a0_1 : Int) (a0_2 : Int) (a0_3 : Int) (a0_4 : Int) (a0_5 : Int) (a1_0 : Int) (a1_1 : Int) (a1_2 : Int) (a1_3 : Int) (a1_4 : Int) (a1_5 : Int) : Option (Int × Int × Int) := (zcA.f k a0_0 a0_1 a0_2 a1_0 a1_1 a1_2).bind fun bt345 => ((zcA.f k a0_3 a0_4 a0_5 a1_3 a1_4 a1_5).bind fun bt348 => ((zbY.f k bt345.1 bt345.2.1 bt345.2.2 bt348.1 bt348.2.1 bt348.2.2).bind fun bt351 => (some (bt351.1, bt351.2.1, bt351.2.2))))
theorem zbZ.mono : ∀ a0 a1 a2 a3 a4 a5 a6 a7 a8 a9 a10 a11 k, LeO (zbZ.f k a0 a1 a2 a3 a4 a5 a6 a7 a8 a9 a10 a11) (zbZ.f (k + 1) a0 a1 a2 a3 a4 a5 a6 a7 a8 a9 a10 a11) := by
 intro a0 a1 a2 a3 a4 a5 a6 a7 a8 a9 a10 a11 k
 unfold zbZ.f
 repeat' first
   | (with_reducible exact zbY.mono _ _ _ _ _ _ _)
   | (with_reducible exact zcA.mono _ _ _ _ _ _ _)
   | (with_reducible exact LeO.refl _)
   | (with_reducible exact LeO.none _)
   | (with_reducible refine LeO.ite ?_ ?_)
   | (with_reducible refine LeO.bind ?_ (fun _ => ?_))
   | exact zbY.mono _ _ _ _ _ _ _
   | exact zcA.mono _ _ _ _ _ _ _
   | exact LeO.none _
   | refine LeO.ite ?_ ?_
   | refine LeO.bind ?_ (fun _ => ?_)
def zbZ.T1 : Bool × List (List Nat × List Nat) := (true, [([], []), ([0], [0]), ([], []), ([2], [2]), ([1, 3], [1, 3]), ([], []), ([5], [5]), ([], []), ([7], [7]), ([6, 8, 4], [6, 8]), ([4, 9, 9], [4, 9]), ([10, 10, 0, 1, 2, 3, 4, 5, 6, 7, 8, 9, 10], [10])])
def zbZ.B1 : List Nat := [0, 1, 0, 4, 15, 0, 32, 0, 128, 511, 1023, 2047]
theorem zbZ.tab1 : rtab .any (opsOf Tryd.f141 1) = zbZ.T1 := by kernel_rfl
theorem zbZ.bits1 : zeC zbZ.T1.2 zbZ.B1 = true := by kernel_rfl
set_option maxHeartbeats 8000000 in
set_option maxRecDepth 100000 in
theorem zbZ.calls (k : Nat) (a0_0 : Int) (a0_1 : Int) (a0_2 : Int) (a0_3 : Int) (a0_4 : Int) (a0_5 : Int) (a1_0 : Int) (a1_1 : Int) (a1_2 : Int) (a1_3 : Int) (a1_4 : Int) (a1_5 : Int) (r1 : Int) (r2 : Int) (r3 : Int) (w : World) (h : zbZ.f k a0_0 a0_1 a0_2 a0_3 a0_4 a0_5 a1_0 a1_1 a1_2 a1_3 a1_4 a1_5 = some (r1, r2, r3)) :
  Calls Tryd.prog 141 #[.agg #[.int .i64 a0_0, .int .i64 a0_1, .int .i64 a0_2, .int .i64 a0_3, .int .i64 a0_4, .int .i64 a0_5], .agg #[.int .i64 a1_0, .int .i64 a1_1, .int .i64 a1_2, .int .i64 a1_3, .int .i64 a1_4, .int .i64 a1_5]] w fun e w' => e = .returned (.agg #[.int .i64 r1, .int .i64 r2, .int .i64 r3]) ∧ Below w.heap.size w w' := by
 have hu36 := Tryd.underlying36
 have hu34 := Tryd.underlying34
 have HB := zaO (Below.refl w.heap.size w)
 have H : ((zcA.f k a0_0 a0_1 a0_2 a1_0 a1_1 a1_2).bind fun bt345 => ((zcA.f k a0_3 a0_4 a0_5 a1_3 a1_4 a1_5).bind fun bt348 => ((zbY.f k bt345.1 bt345.2.1 bt345.2.2 bt348.1 bt348.2.1 bt348.2.2).bind fun bt351 => (some (bt351.1, bt351.2.1, bt351.2.2))))) = some (r1, r2, r3) := h
 clear h
 replace H := Option.bind_eq_some_iff.mp H
 obtain ⟨⟨t345, t346, t347⟩, A30, H⟩ := H
 replace H : ((zcA.f k a0_3 a0_4 a0_5 a1_3 a1_4 a1_5).bind fun bt348 => ((zbY.f k t345 t346 t347 bt348.1 bt348.2.1 bt348.2.2).bind fun bt351 => (some (bt351.1, bt351.2.1, bt351.2.2)))) = some (r1, r2, r3) := H
 have A3 := zaO A30
 clear A30
 replace H := Option.bind_eq_some_iff.mp H
 obtain ⟨⟨t348, t349, t350⟩, A40, H⟩ := H
 replace H : ((zbY.f k t345 t346 t347 t348 t349 t350).bind fun bt351 => (some (bt351.1, bt351.2.1, bt351.2.2))) = some (r1, r2, r3) := H
 have A4 := zaO A40
 clear A40
 replace H := Option.bind_eq_some_iff.mp H
 obtain ⟨⟨t351, t352, t353⟩, A50, H⟩ := H
 replace H : (some (t351, t352, t353)) = some (r1, r2, r3) := H
 have A5 := zaO A50
 clear A50
 simp only [Option.some.injEq, Prod.mk.injEq] at H
 obtain ⟨rfl, rfl, rfl⟩ := H
 go_enter Tryd.func141, Tryd.ntmps141
 try go_wp2_with (first | ((with_reducible refine zbC (N := 2) rfl ?_); refine zaW ?hg (N := 2) ?hd (cs := #[.int .i64 a0_0, .int .i64 a0_1, .int .i64 a0_2, .int .i64 a0_3, .int .i64 a0_4, .int .i64 a0_5]) (t := 36) ?hr ?_; (case hd => rfl); (case hg => rfl); (case hr => first | (go_simp; done) | (go_simp; rfl)); intro gb342 hg w6 hbox hb; have n0_ := zaO (zaK (by repeat (first | (with_reducible first | exact HB.out | apply zaE | apply zaA | apply zaD) | exact HB.out)) hb); have n1_ := zaO (hbox); have n2_ := zaO ((by rw [hg]; exact (zaP (by repeat (first | (with_reducible first | exact HB.out | apply zaE | apply zaA | apply zaD) | exact HB.out))) : w.heap.size ≤ gb342)); have n3_ := n2_; clear HB; have HB := n0_; have BK342 := n1_; have GW342 := n2_; have GE342 := n3_; clear n0_ n1_ n2_ n3_; clear hb hbox hg) | ((with_reducible refine zbC (N := 3) rfl ?_); refine zaW ?hg (N := 3) ?hd (cs := #[.int .i64 a1_0, .int .i64 a1_1, .int .i64 a1_2, .int .i64 a1_3, .int .i64 a1_4, .int .i64 a1_5]) (t := 36) ?hr ?_; (case hd => rfl); (case hg => rfl); (case hr => first | (go_simp; done) | (go_simp; rfl)); intro gb343 hg w7 hbox hb; have n0_ := zaO (zaL (g := gb342) (o := .cells #[.int .i64 a0_0, .int .i64 a0_1, .int .i64 a0_2, .int .i64 a0_3, .int .i64 a0_4, .int .i64 a0_5] 36 (0, 0)) (by (with_reducible repeat (first | apply zaC | apply zaF | apply zaB)); exact BK342.out) hb); have n1_ := zaO (zaK (by repeat (first | (with_reducible first | exact HB.out | apply zaE | apply zaA | apply zaD | refine zaH ?_ GE342.out) | exact HB.out)) hb); have n2_ := zaO (hbox); have n3_ := zaO ((by rw [hg]; exact (zaP (by repeat (first | (with_reducible first | exact HB.out | apply zaE | apply zaA | apply zaD | refine zaH ?_ GE342.out) | exact HB.out))) : w.heap.size ≤ gb343)); have n4_ := n3_; have n5_ := zaO ((by rw [hg]; exact Nat.ne_of_lt (zbN (g := gb342) (o := .cells #[.int .i64 a0_0, .int .i64 a0_1, .int .i64 a0_2, .int .i64 a0_3, .int .i64 a0_4, .int .i64 a0_5] 36 (0, 0)) (by (with_reducible repeat (first | apply zaC | apply zaF | apply zaB)); exact BK342.out)) : gb342 ≠ gb343)); have n6_ := zaO ((by rw [hg]; exact Nat.ne_of_gt (zbN (g := gb342) (o := .cells #[.int .i64 a0_0, .int .i64 a0_1, .int .i64 a0_2, .int .i64 a0_3, .int .i64 a0_4, .int .i64 a0_5] 36 (0, 0)) (by (with_reducible repeat (first | apply zaC | apply zaF | apply zaB)); exact BK342.out)) : gb343 ≠ gb342)); clear BK342; clear HB; have BK342 := n0_; have HB := n1_; have BK343 := n2_; have GW343 := n3_; have GE343 := n4_; have NB342_343 := n5_; have NB343_342 := n6_; clear n0_ n1_ n2_ n3_ n4_ n5_ n6_; clear hb hbox hg) | ((with_reducible refine zbC (N := 4) rfl ?_); refine zaW ?hg (N := 4) ?hd (cs := #[.int .i64 0, .int .i64 0, .int .i64 0]) (t := 34) ?hr ?_; (case hd => rfl); (case hg => rfl); (case hr => first | (go_simp; done) | (go_simp; rfl)); intro gb344 hg w8 hbox hb; have n0_ := zaO (zaL (g := gb342) (o := .cells #[.int .i64 a0_0, .int .i64 a0_1, .int .i64 a0_2, .int .i64 a0_3, .int .i64 a0_4, .int .i64 a0_5] 36 (0, 0)) (by (with_reducible repeat (first | apply zaC | apply zaF | apply zaB)); exact BK342.out) hb); have n1_ := zaO (zaL (g := gb343) (o := .cells #[.int .i64 a1_0, .int .i64 a1_1, .int .i64 a1_2, .int .i64 a1_3, .int .i64 a1_4, .int .i64 a1_5] 36 (0, 0)) (by (with_reducible repeat (first | apply zaC | apply zaF | apply zaB)); exact BK343.out) hb); have n2_ := zaO (zaK (by repeat (first | (with_reducible first | exact HB.out | apply zaE | apply zaA | apply zaD | refine zaH ?_ GE342.out | refine zaH ?_ GE343.out) | exact HB.out)) hb); have n3_ := zaO (hbox); have n4_ := zaO ((by rw [hg]; exact (zaP (by repeat (first | (with_reducible first | exact HB.out | apply zaE | apply zaA | apply zaD | refine zaH ?_ GE342.out | refine zaH ?_ GE343.out) | exact HB.out))) : w.heap.size ≤ gb344)); have n5_ := n4_; have n6_ := zaO ((by rw [hg]; exact Nat.ne_of_lt (zbN (g := gb342) (o := .cells #[.int .i64 a0_0, .int .i64 a0_1, .int .i64 a0_2, .int .i64 a0_3, .int .i64 a0_4, .int .i64 a0_5] 36 (0, 0)) (by (with_reducible repeat (first | apply zaC | apply zaF | apply zaB)); exact BK342.out)) : gb342 ≠ gb344)); have n7_ := zaO ((by rw [hg]; exact Nat.ne_of_gt (zbN (g := gb342) (o := .cells #[.int .i64 a0_0, .int .i64 a0_1, .int .i64 a0_2, .int .i64 a0_3, .int .i64 a0_4, .int .i64 a0_5] 36 (0, 0)) (by (with_reducible repeat (first | apply zaC | apply zaF | apply zaB)); exact BK342.out)) : gb344 ≠ gb342)); have n8_ := zaO ((by rw [hg]; exact Nat.ne_of_lt (zbN (g := gb343) (o := .cells #[.int .i64 a1_0, .int .i64 a1_1, .int .i64 a1_2, .int .i64 a1_3, .int .i64 a1_4, .int .i64 a1_5] 36 (0, 0)) (by (with_reducible repeat (first | apply zaC | apply zaF | apply zaB)); exact BK343.out)) : gb343 ≠ gb344)); have n9_ := zaO ((by rw [hg]; exact Nat.ne_of_gt (zbN (g := gb343) (o := .cells #[.int .i64 a1_0, .int .i64 a1_1, .int .i64 a1_2, .int .i64 a1_3, .int .i64 a1_4, .int .i64 a1_5] 36 (0, 0)) (by (with_reducible repeat (first | apply zaC | apply zaF | apply zaB)); exact BK343.out)) : gb344 ≠ gb343)); clear BK342; clear BK343; clear HB; have BK342 := n0_; have BK343 := n1_; have HB := n2_; have BK344 := n3_; have GW344 := n4_; have GE344 := n5_; have NB342_344 := n6_; have NB344_342 := n7_; have NB343_344 := n8_; have NB344_343 := n9_; clear n0_ n1_ n2_ n3_ n4_ n5_ n6_ n7_ n8_ n9_; clear hb hbox hg))
 have n0_ := zaO (zaF BK342.out)
 have n1_ := zaO (zaF BK343.out)
 have n2_ := zaO (zaF BK344.out)
 have n3_ := zaO (zaD HB.out)
 clear BK342
 clear BK343
 clear BK344
 clear HB
 have BK342 := n0_
 have BK343 := n1_
 have BK344 := n2_
 have HB := n3_
 clear n0_ n1_ n2_ n3_
 refine zdU (n := 12) (S := fun w' => w'.cell? ⟨gb342, 0, none⟩ = some (.int .i64 a0_0) ∧ w'.cell? ⟨gb342, 1, none⟩ = some (.int .i64 a0_1) ∧ w'.cell? ⟨gb342, 2, none⟩ = some (.int .i64 a0_2) ∧ w'.cell? ⟨gb342, 3, none⟩ = some (.int .i64 a0_3) ∧ w'.cell? ⟨gb342, 4, none⟩ = some (.int .i64 a0_4) ∧ w'.cell? ⟨gb342, 5, none⟩ = some (.int .i64 a0_5) ∧ w'.cell? ⟨gb343, 0, none⟩ = some (.int .i64 a1_0) ∧ w'.cell? ⟨gb343, 1, none⟩ = some (.int .i64 a1_1) ∧ w'.cell? ⟨gb343, 2, none⟩ = some (.int .i64 a1_2) ∧ w'.cell? ⟨gb343, 3, none⟩ = some (.int .i64 a1_3) ∧ w'.cell? ⟨gb343, 4, none⟩ = some (.int .i64 a1_4) ∧ w'.cell? ⟨gb343, 5, none⟩ = some (.int .i64 a1_5)) (ds := []) #[false, false, false, false, false, false, false, false, false, false, false, false] (by kernel_rfl) rfl rfl ⟨(zaI BK342.out 0).trans rfl, (zaI BK342.out 1).trans rfl, (zaI BK342.out 2).trans rfl, (zaI BK342.out 3).trans rfl, (zaI BK342.out 4).trans rfl, (zaI BK342.out 5).trans rfl, (zaI BK343.out 0).trans rfl, (zaI BK343.out 1).trans rfl, (zaI BK343.out 2).trans rfl, (zaI BK343.out 3).trans rfl, (zaI BK343.out 4).trans rfl, (zaI BK343.out 5).trans rfl⟩ (fun hHeld => ?_); refine zcT zbZ.tab1 zbZ.bits1 (fun HT_ HW_ => ?_)
 generalize w8.drew = w9 at BK342 BK343 BK344 HB hHeld ⊢
 refine zbL (i := 0) (N := some 5) (v := ?_) (a' := ?_) #[true, false, false, false, false, false, false, false, false, false, false, false] rfl rfl (zaY HT_.out (by kernel_rfl)) (fun _ _ _ h => h) (Or.inl ⟨by rfl, ?_⟩) ?_ ?_
 rotate_left
 ·intro w'
  go_simp
  with_reducible rfl
 rotate_left
 ·simp only [Act.put, List.setIfInBounds_toArray, List.set_cons_zero, List.set_cons_succ, zaT, zaU]
  rfl
 refine zbL (i := 2) (N := some 7) (v := ?_) (a' := ?_) #[true, false, true, false, false, false, false, false, false, false, false, false] rfl rfl (zaY HT_.out (by kernel_rfl)) (fun _ _ _ h => h) (Or.inl ⟨by rfl, ?_⟩) ?_ ?_
 rotate_left
 ·intro w'
  go_simp
  with_reducible rfl
 rotate_left
 ·simp only [Act.put, List.setIfInBounds_toArray, List.set_cons_zero, List.set_cons_succ, zaT, zaU]
  rfl
 refine zbL (i := 5) (N := some 10) (v := ?_) (a' := ?_) #[true, false, true, false, false, true, false, false, false, false, false, false] rfl rfl (zaY HT_.out (by kernel_rfl)) (fun _ _ _ h => h) (Or.inl ⟨by rfl, ?_⟩) ?_ ?_
 rotate_left
 ·intro w'
  go_simp
  with_reducible rfl
 rotate_left
 ·simp only [Act.put, List.setIfInBounds_toArray, List.set_cons_zero, List.set_cons_succ, zaT, zaU]
  rfl
 refine zbL (i := 7) (N := some 12) (v := ?_) (a' := ?_) #[true, false, true, false, false, true, false, true, false, false, false, false] rfl rfl (zaY HT_.out (by kernel_rfl)) (fun _ _ _ h => h) (Or.inl ⟨by rfl, ?_⟩) ?_ ?_
 rotate_left
 ·intro w'
  go_simp
  with_reducible rfl
 rotate_left
 ·simp only [Act.put, List.setIfInBounds_toArray, List.set_cons_zero, List.set_cons_succ, zaT, zaU]
  rfl
 refine take_ (i := 1) (N := some 6) (v := ?_) (a' := ?_) #[true, true, true, false, false, true, false, true, false, false, false, false] rfl rfl (zbU HT_.out HW_.out (by kernel_rfl)) (fun _ _ _ h => h) (Or.inl ⟨by rfl, ?_⟩) hHeld ?_ ?_
 rotate_left
 ·rintro w' ⟨s0, s1, s2, s3, s4, s5, s6, s7, s8, s9, s10, s11⟩
  go_simp
  with_reducible rfl
 rotate_left
 ·simp only [Act.put, List.setIfInBounds_toArray, List.set_cons_zero, List.set_cons_succ, zaT, zaU]
  rfl
 refine take_ (i := 3) (N := some 8) (v := ?_) (a' := ?_) #[true, true, true, true, false, true, false, true, false, false, false, false] rfl rfl (zbU HT_.out HW_.out (by kernel_rfl)) (fun _ _ _ h => h) (Or.inl ⟨by rfl, ?_⟩) hHeld ?_ ?_
 rotate_left
 ·rintro w' ⟨s0, s1, s2, s3, s4, s5, s6, s7, s8, s9, s10, s11⟩
  go_simp
  with_reducible rfl
 rotate_left
 ·simp only [Act.put, List.setIfInBounds_toArray, List.set_cons_zero, List.set_cons_succ, zaT, zaU]
  rfl
 refine take_ (i := 6) (N := some 11) (v := ?_) (a' := ?_) #[true, true, true, true, false, true, true, true, false, false, false, false] rfl rfl (zbU HT_.out HW_.out (by kernel_rfl)) (fun _ _ _ h => h) (Or.inl ⟨by rfl, ?_⟩) hHeld ?_ ?_
 rotate_left
 ·rintro w' ⟨s0, s1, s2, s3, s4, s5, s6, s7, s8, s9, s10, s11⟩
  go_simp
  with_reducible rfl
 rotate_left
 ·simp only [Act.put, List.setIfInBounds_toArray, List.set_cons_zero, List.set_cons_succ, zaT, zaU]
  rfl
 refine take_ (i := 8) (N := some 13) (v := ?_) (a' := ?_) #[true, true, true, true, false, true, true, true, true, false, false, false] rfl rfl (zbU HT_.out HW_.out (by kernel_rfl)) (fun _ _ _ h => h) (Or.inl ⟨by rfl, ?_⟩) hHeld ?_ ?_
 rotate_left
 ·rintro w' ⟨s0, s1, s2, s3, s4, s5, s6, s7, s8, s9, s10, s11⟩
  go_simp
  with_reducible rfl
 rotate_left
 ·simp only [Act.put, List.setIfInBounds_toArray, List.set_cons_zero, List.set_cons_succ, zaT, zaU]
  rfl
 refine zeX (i := 4) (N := some 9) #[true, true, true, true, true, true, true, true, true, false, false, false] rfl rfl (zcU HT_.out (by kernel_rfl)) (by decide) (fun K hK => ?_)
 refine zdI Tryd.func168 (by kernel_rfl) rfl #[.agg #[.int .i64 a0_0, .int .i64 a0_1, .int .i64 a0_2], .agg #[.int .i64 a1_0, .int .i64 a1_1, .int .i64 a1_2]] (by rfl) rfl rfl (by (try simp only [List.map_toArray, List.map_cons, List.map_nil]); first | done | rfl | (simp only [List.length_drop, List.length_take]; rfl)) ?_
 with_reducible refine (zcA.calls k a0_0 a0_1 a0_2 a1_0 a1_1 a1_2 t345 t346 t347 _ A3.out).mono ?_
 rintro e w10 ⟨rfl, hb⟩
 refine ⟨_, rfl, ?_⟩
 have n0_ := zaO (zaL (g := gb342) (o := .cells #[.int .i64 a0_0, .int .i64 a0_1, .int .i64 a0_2, .int .i64 a0_3, .int .i64 a0_4, .int .i64 a0_5] 36 (0, 0)) (by (with_reducible repeat (first | apply zaC | apply zaF | apply zaB)); exact BK342.out) hb)
 have n1_ := zaO (zaL (g := gb343) (o := .cells #[.int .i64 a1_0, .int .i64 a1_1, .int .i64 a1_2, .int .i64 a1_3, .int .i64 a1_4, .int .i64 a1_5] 36 (0, 0)) (by (with_reducible repeat (first | apply zaC | apply zaF | apply zaB)); exact BK343.out) hb)
 have n2_ := zaO (zaL (g := gb344) (o := .cells #[.int .i64 0, .int .i64 0, .int .i64 0] 34 (0, 0)) (by (with_reducible repeat (first | apply zaC | apply zaF | apply zaB)); exact BK344.out) hb)
 have n3_ := zaO (zaK (by repeat (first | (with_reducible first | exact HB.out | apply zaE | apply zaA | apply zaD | refine zaH ?_ GE342.out | refine zaH ?_ GE343.out | refine zaH ?_ GE344.out) | exact HB.out)) hb)
 clear BK342
 clear BK343
 clear BK344
 clear HB
 have BK342 := n0_
 have BK343 := n1_
 have BK344 := n2_
 have HB := n3_
 clear n0_ n1_ n2_ n3_
 (try clear hb)
 (try clear hb2)
 (try clear hk)
 (try clear hi)
 refine hK.out _ _ ⟨(zaI BK342.out 0).trans rfl, (zaI BK342.out 1).trans rfl, (zaI BK342.out 2).trans rfl, (zaI BK342.out 3).trans rfl, (zaI BK342.out 4).trans rfl, (zaI BK342.out 5).trans rfl, (zaI BK343.out 0).trans rfl, (zaI BK343.out 1).trans rfl, (zaI BK343.out 2).trans rfl, (zaI BK343.out 3).trans rfl, (zaI BK343.out 4).trans rfl, (zaI BK343.out 5).trans rfl⟩ (fun hHeld => ?_)
 clear hK K
 refine zdL (a' := ?_) ?_ ?_
 rotate_left
 ·show Act.put _ (some 9) _ = _
  simp only [Act.put, List.setIfInBounds_toArray, List.set_cons_zero, List.set_cons_succ, zaT, zaU]
  rfl
 refine zeX (i := 9) (N := some 14) #[true, true, true, true, true, true, true, true, true, true, false, false] rfl rfl (zcU HT_.out (by kernel_rfl)) (by decide) (fun K hK => ?_)
 refine zdI Tryd.func168 (by kernel_rfl) rfl #[.agg #[.int .i64 a0_3, .int .i64 a0_4, .int .i64 a0_5], .agg #[.int .i64 a1_3, .int .i64 a1_4, .int .i64 a1_5]] (by rfl) rfl rfl (by (try simp only [List.map_toArray, List.map_cons, List.map_nil]); first | done | rfl | (simp only [List.length_drop, List.length_take]; rfl)) ?_
 with_reducible refine (zcA.calls k a0_3 a0_4 a0_5 a1_3 a1_4 a1_5 t348 t349 t350 _ A4.out).mono ?_
 rintro e w11 ⟨rfl, hb⟩
 refine ⟨_, rfl, ?_⟩
 have n0_ := zaO (zaL (g := gb342) (o := .cells #[.int .i64 a0_0, .int .i64 a0_1, .int .i64 a0_2, .int .i64 a0_3, .int .i64 a0_4, .int .i64 a0_5] 36 (0, 0)) (by (with_reducible repeat (first | apply zaC | apply zaF | apply zaB)); exact BK342.out) hb)
 have n1_ := zaO (zaL (g := gb343) (o := .cells #[.int .i64 a1_0, .int .i64 a1_1, .int .i64 a1_2, .int .i64 a1_3, .int .i64 a1_4, .int .i64 a1_5] 36 (0, 0)) (by (with_reducible repeat (first | apply zaC | apply zaF | apply zaB)); exact BK343.out) hb)
 have n2_ := zaO (zaL (g := gb344) (o := .cells #[.int .i64 0, .int .i64 0, .int .i64 0] 34 (0, 0)) (by (with_reducible repeat (first | apply zaC | apply zaF | apply zaB)); exact BK344.out) hb)
 have n3_ := zaO (zaK (by repeat (first | (with_reducible first | exact HB.out | apply zaE | apply zaA | apply zaD | refine zaH ?_ GE342.out | refine zaH ?_ GE343.out | refine zaH ?_ GE344.out) | exact HB.out)) hb)
 clear BK342
 clear BK343
 clear BK344
 clear HB
 have BK342 := n0_
 have BK343 := n1_
 have BK344 := n2_
 have HB := n3_
 clear n0_ n1_ n2_ n3_
 (try clear hb)
 (try clear hb2)
 (try clear hk)
 (try clear hi)
 refine hK.out _ _ ⟨(zaI BK342.out 0).trans rfl, (zaI BK342.out 1).trans rfl, (zaI BK342.out 2).trans rfl, (zaI BK342.out 3).trans rfl, (zaI BK342.out 4).trans rfl, (zaI BK342.out 5).trans rfl, (zaI BK343.out 0).trans rfl, (zaI BK343.out 1).trans rfl, (zaI BK343.out 2).trans rfl, (zaI BK343.out 3).trans rfl, (zaI BK343.out 4).trans rfl, (zaI BK343.out 5).trans rfl⟩ (fun hHeld => ?_)
 clear hK K
 refine zdL (a' := ?_) ?_ ?_
 rotate_left
 ·show Act.put _ (some 14) _ = _
  simp only [Act.put, List.setIfInBounds_toArray, List.set_cons_zero, List.set_cons_succ, zaT, zaU]
  rfl
 refine zeX (i := 10) (N := some 15) #[true, true, true, true, true, true, true, true, true, true, true, false] rfl rfl (zcU HT_.out (by kernel_rfl)) (by decide) (fun K hK => ?_)
 refine zdI Tryd.func169 (by kernel_rfl) rfl #[.agg #[.int .i64 t345, .int .i64 t346, .int .i64 t347], .agg #[.int .i64 t348, .int .i64 t349, .int .i64 t350]] (by rfl) rfl rfl (by (try simp only [List.map_toArray, List.map_cons, List.map_nil]); first | done | rfl | (simp only [List.length_drop, List.length_take]; rfl)) ?_
 with_reducible refine (zbY.calls k t345 t346 t347 t348 t349 t350 t351 t352 t353 _ A5.out).mono ?_
 rintro e w12 ⟨rfl, hb⟩
 refine ⟨_, rfl, ?_⟩
 have n0_ := zaO (zaL (g := gb342) (o := .cells #[.int .i64 a0_0, .int .i64 a0_1, .int .i64 a0_2, .int .i64 a0_3, .int .i64 a0_4, .int .i64 a0_5] 36 (0, 0)) (by (with_reducible repeat (first | apply zaC | apply zaF | apply zaB)); exact BK342.out) hb)
 have n1_ := zaO (zaL (g := gb343) (o := .cells #[.int .i64 a1_0, .int .i64 a1_1, .int .i64 a1_2, .int .i64 a1_3, .int .i64 a1_4, .int .i64 a1_5] 36 (0, 0)) (by (with_reducible repeat (first | apply zaC | apply zaF | apply zaB)); exact BK343.out) hb)
 have n2_ := zaO (zaL (g := gb344) (o := .cells #[.int .i64 0, .int .i64 0, .int .i64 0] 34 (0, 0)) (by (with_reducible repeat (first | apply zaC | apply zaF | apply zaB)); exact BK344.out) hb)
 have n3_ := zaO (zaK (by repeat (first | (with_reducible first | exact HB.out | apply zaE | apply zaA | apply zaD | refine zaH ?_ GE342.out | refine zaH ?_ GE343.out | refine zaH ?_ GE344.out) | exact HB.out)) hb)
 clear BK342
 clear BK343
 clear BK344
 clear HB
 have BK342 := n0_
 have BK343 := n1_
 have BK344 := n2_
 have HB := n3_
 clear n0_ n1_ n2_ n3_
 (try clear hb)
 (try clear hb2)
 (try clear hk)
 (try clear hi)
 refine hK.out _ _ ⟨(zaI BK342.out 0).trans rfl, (zaI BK342.out 1).trans rfl, (zaI BK342.out 2).trans rfl, (zaI BK342.out 3).trans rfl, (zaI BK342.out 4).trans rfl, (zaI BK342.out 5).trans rfl, (zaI BK343.out 0).trans rfl, (zaI BK343.out 1).trans rfl, (zaI BK343.out 2).trans rfl, (zaI BK343.out 3).trans rfl, (zaI BK343.out 4).trans rfl, (zaI BK343.out 5).trans rfl⟩ (fun hHeld => ?_)
 clear hK K
 refine zdL (a' := ?_) ?_ ?_
 rotate_left
 ·show Act.put _ (some 15) _ = _
  simp only [Act.put, List.setIfInBounds_toArray, List.set_cons_zero, List.set_cons_succ, zaT, zaU]
  rfl
 refine zeX (i := 11) (N := none) #[true, true, true, true, true, true, true, true, true, true, true, true] rfl rfl (zcU HT_.out (by kernel_rfl)) (by decide) (fun K hK => ?_)
 have hs13 : w12.cell? ⟨gb344, 0, none⟩ = some (.int .i64 0) := (zaI BK344.out 0).trans rfl
 have hfs13 := zbM BK344.out 0
 have hns13_0 := NB342_344.out
 have hns13_1 := NB343_344.out
 have hms13_0 := NB344_342.out
 have hms13_1 := NB344_343.out
 have hs14 : w12.cell? ⟨gb344, 1, none⟩ = some (.int .i64 0) := (zaI BK344.out 1).trans rfl
 have hfs14 := zbM BK344.out 1
 have hns14_0 := NB342_344.out
 have hns14_1 := NB343_344.out
 have hms14_0 := NB344_342.out
 have hms14_1 := NB344_343.out
 have hs15 : w12.cell? ⟨gb344, 2, none⟩ = some (.int .i64 0) := (zaI BK344.out 2).trans rfl
 have hfs15 := zbM BK344.out 2
 have hns15_0 := NB342_344.out
 have hns15_1 := NB343_344.out
 have hms15_0 := NB344_342.out
 have hms15_1 := NB344_343.out
 refine skip_ (w1 := ?_) (by rfl) rfl ?_ ?_
 rotate_left
 ·go_simp
  rfl
 refine hK.out _ _ ⟨((zaJ (p := ⟨gb344, _, none⟩) NB342_344.out _).trans (((zaJ (p := ⟨gb344, _, none⟩) NB342_344.out _).trans (((zaJ (p := ⟨gb344, _, none⟩) NB342_344.out _).trans (hHeld.1)))))), ((zaJ (p := ⟨gb344, _, none⟩) NB342_344.out _).trans (((zaJ (p := ⟨gb344, _, none⟩) NB342_344.out _).trans (((zaJ (p := ⟨gb344, _, none⟩) NB342_344.out _).trans (hHeld.2.1)))))), ((zaJ (p := ⟨gb344, _, none⟩) NB342_344.out _).trans (((zaJ (p := ⟨gb344, _, none⟩) NB342_344.out _).trans (((zaJ (p := ⟨gb344, _, none⟩) NB342_344.out _).trans (hHeld.2.2.1)))))), ((zaJ (p := ⟨gb344, _, none⟩) NB342_344.out _).trans (((zaJ (p := ⟨gb344, _, none⟩) NB342_344.out _).trans (((zaJ (p := ⟨gb344, _, none⟩) NB342_344.out _).trans (hHeld.2.2.2.1)))))), ((zaJ (p := ⟨gb344, _, none⟩) NB342_344.out _).trans (((zaJ (p := ⟨gb344, _, none⟩) NB342_344.out _).trans (((zaJ (p := ⟨gb344, _, none⟩) NB342_344.out _).trans (hHeld.2.2.2.2.1)))))), ((zaJ (p := ⟨gb344, _, none⟩) NB342_344.out _).trans (((zaJ (p := ⟨gb344, _, none⟩) NB342_344.out _).trans (((zaJ (p := ⟨gb344, _, none⟩) NB342_344.out _).trans (hHeld.2.2.2.2.2.1)))))), ((zaJ (p := ⟨gb344, _, none⟩) NB343_344.out _).trans (((zaJ (p := ⟨gb344, _, none⟩) NB343_344.out _).trans (((zaJ (p := ⟨gb344, _, none⟩) NB343_344.out _).trans (hHeld.2.2.2.2.2.2.1)))))), ((zaJ (p := ⟨gb344, _, none⟩) NB343_344.out _).trans (((zaJ (p := ⟨gb344, _, none⟩) NB343_344.out _).trans (((zaJ (p := ⟨gb344, _, none⟩) NB343_344.out _).trans (hHeld.2.2.2.2.2.2.2.1)))))), ((zaJ (p := ⟨gb344, _, none⟩) NB343_344.out _).trans (((zaJ (p := ⟨gb344, _, none⟩) NB343_344.out _).trans (((zaJ (p := ⟨gb344, _, none⟩) NB343_344.out _).trans (hHeld.2.2.2.2.2.2.2.2.1)))))), ((zaJ (p := ⟨gb344, _, none⟩) NB343_344.out _).trans (((zaJ (p := ⟨gb344, _, none⟩) NB343_344.out _).trans (((zaJ (p := ⟨gb344, _, none⟩) NB343_344.out _).trans (hHeld.2.2.2.2.2.2.2.2.2.1)))))), ((zaJ (p := ⟨gb344, _, none⟩) NB343_344.out _).trans (((zaJ (p := ⟨gb344, _, none⟩) NB343_344.out _).trans (((zaJ (p := ⟨gb344, _, none⟩) NB343_344.out _).trans (hHeld.2.2.2.2.2.2.2.2.2.2.1)))))), ((zaJ (p := ⟨gb344, _, none⟩) NB343_344.out _).trans (((zaJ (p := ⟨gb344, _, none⟩) NB343_344.out _).trans (((zaJ (p := ⟨gb344, _, none⟩) NB343_344.out _).trans (hHeld.2.2.2.2.2.2.2.2.2.2.2))))))⟩ (fun hHeld => ?_)
 clear hK K
 refine done_ (zdJ HT_.out (by kernel_rfl)) ?_
 try go_wp2
 refine bodyPost_ret (results_cell_row rfl _ _ gb344 34 #[.int .i64 t351, .int .i64 t352, .int .i64 t353] (0, 0) _ rfl (by (with_reducible repeat (first | apply zaC | apply zaF | apply zaB)); refine zaR (cs := #[.int .i64 t351, .int .i64 t352, .int .i64 0]) ?_ 2 _ rfl; (with_reducible repeat (first | apply zaC | apply zaF | apply zaB)); refine zaR (cs := #[.int .i64 t351, .int .i64 0, .int .i64 0]) ?_ 1 _ rfl; (with_reducible repeat (first | apply zaC | apply zaF | apply zaB)); refine zaR (cs := #[.int .i64 0, .int .i64 0, .int .i64 0]) ?_ 0 _ rfl; (with_reducible repeat (first | apply zaC | apply zaF | apply zaB)); exact BK344.out) Tryd.underlying34 rfl (by kernel_rfl)) rfl ?_
 exact ⟨by first | rfl | (simp [zaN, zaM] <;> rfl) | (simp [*, zaN, zaM] <;> rfl), by repeat (first | (with_reducible first | exact HB.out | apply zaE | apply zaA | apply zaD | refine zaH ?_ GE342.out | refine zaH ?_ GE343.out | refine zaH ?_ GE344.out) | exact HB.out)⟩

def zdQ.f (a0 : Int) : Option (Int) := some (mx (-1) (mn 1 a0))
set_option maxHeartbeats 8000000 in
set_option maxRecDepth 100000 in
theorem zdQ.calls (a0 : Int) (r : Int) (w : World) (h : zdQ.f a0 = some r) :
  Calls Tryd.prog 170 #[.int .i64 a0] w fun e w' => e = .returned (.int .i64 r) ∧ Below w.heap.size w w' := by
 have HB := zaO (Below.refl w.heap.size w)
 have H : (some (mx (-1) (mn 1 a0))) = some r := h
 clear h
 obtain ⟨ji2, hji2⟩ : ∃ j_ : Int, (mn 1 a0) = j_ := ⟨_, rfl⟩
 replace H : (some (mx (-1) (ji2))) = some r := by first | (rw [hji2] at H; exact H) | (simp only [hji2] at H ⊢; exact H)
 (try (have hji2h : ji2 ≤ 1 := by (rw [← hji2]; unfold mn; (repeat' split) <;> omega)))
 (try (have hji2g : ji2 ≤ 64 := by omega))
 have hji2_ : (if a0 < 1 then a0 else 1) = ji2 := hji2
 obtain ⟨ji3, hji3⟩ : ∃ j_ : Int, (mx (-1) (ji2)) = j_ := ⟨_, rfl⟩
 replace H : (some ji3) = some r := by first | (rw [hji3] at H; exact H) | (simp only [hji3] at H ⊢; exact H)
 have hji3_ : (if (-1) < (ji2) then (ji2) else (-1)) = ji3 := hji3
 obtain rfl := Option.some.inj H
 go_enter Tryd.func170, Tryd.ntmps170
 go_wp2
 go_ret
 exact ⟨by first | rfl | (simp [zaN, zaM] <;> rfl) | (simp only [← hji2, ← hji3]; first | rfl | (simp [zaN, zaM] <;> rfl)) | (simp [*, zaN, zaM] <;> rfl), by repeat (first | (with_reducible first | exact HB.out | apply zaE | apply zaA | apply zaD) | exact HB.out)⟩

def zcQ.f (a0 : Int) : Option (Int) := some (mx a0 (wrap64 (-a0)))
set_option maxHeartbeats 8000000 in
set_option maxRecDepth 100000 in
theorem zcQ.calls (a0 : Int) (r : Int) (w : World) (h : zcQ.f a0 = some r) :
  Calls Tryd.prog 132 #[.int .i64 a0] w fun e w' => e = .returned (.int .i64 r) ∧ Below w.heap.size w w' := by
 have HB := zaO (Below.refl w.heap.size w)
 have H : (some (mx a0 (wrap64 (-a0)))) = some r := h
 clear h
 obtain ⟨ji2, hji2⟩ : ∃ j_ : Int, (mx a0 (wrap64 (-a0))) = j_ := ⟨_, rfl⟩
 replace H : (some ji2) = some r := by first | (rw [hji2] at H; exact H) | (simp only [hji2] at H ⊢; exact H)
 have hji2_ : (if a0 < (wrap64 (-a0)) then (wrap64 (-a0)) else a0) = ji2 := hji2
 obtain rfl := Option.some.inj H
 go_enter Tryd.func132, Tryd.ntmps132
 go_wp2
 go_ret
 exact ⟨by first | rfl | (simp [zaN, zaM] <;> rfl) | (simp only [← hji2]; first | rfl | (simp [zaN, zaM] <;> rfl)) | (simp [*, zaN, zaM] <;> rfl), by repeat (first | (with_reducible first | exact HB.out | apply zaE | apply zaA | apply zaD) | exact HB.out)⟩

def zcR.f (a0 : Int) (a1 : Int) : Option (Int × Int) := some (IntKind.u64.wrap ((IntKind.u64.wrap ((IntKind.u64.wrap ((a0 / 4294967296) * (a1 / 4294967296))) + ((IntKind.u64.wrap ((IntKind.u64.wrap ((a0 / 4294967296) * (Go.bits .and .u64 a1 4294967295))) + ((IntKind.u64.wrap ((Go.bits .and .u64 a0 4294967295) * (Go.bits .and .u64 a1 4294967295))) / 4294967296))) / 4294967296))) + ((IntKind.u64.wrap ((Go.bits .and .u64 (IntKind.u64.wrap ((IntKind.u64.wrap ((a0 / 4294967296) * (Go.bits .and .u64 a1 4294967295))) + ((IntKind.u64.wrap ((Go.bits .and .u64 a0 4294967295) * (Go.bits .and .u64 a1 4294967295))) / 4294967296))) 4294967295) + (IntKind.u64.wrap ((Go.bits .and .u64 a0 4294967295) * (a1 / 4294967296))))) / 4294967296)), IntKind.u64.wrap (a0 * a1))
set_option maxHeartbeats 8000000 in
set_option maxRecDepth 100000 in
theorem zcR.calls (a0 : Int) (a1 : Int) (r1 : Int) (r2 : Int) (w : World) (h : zcR.f a0 a1 = some (r1, r2)) :
  Calls Tryd.prog 192 #[.int .u64 a0, .int .u64 a1] w fun e w' => e = .returned (.tuple #[.int .u64 r1, .int .u64 r2]) ∧ Drawn0 w w' := by
 have H : (some (IntKind.u64.wrap ((IntKind.u64.wrap ((IntKind.u64.wrap ((a0 / 4294967296) * (a1 / 4294967296))) + ((IntKind.u64.wrap ((IntKind.u64.wrap ((a0 / 4294967296) * (Go.bits .and .u64 a1 4294967295))) + ((IntKind.u64.wrap ((Go.bits .and .u64 a0 4294967295) * (Go.bits .and .u64 a1 4294967295))) / 4294967296))) / 4294967296))) + ((IntKind.u64.wrap ((Go.bits .and .u64 (IntKind.u64.wrap ((IntKind.u64.wrap ((a0 / 4294967296) * (Go.bits .and .u64 a1 4294967295))) + ((IntKind.u64.wrap ((Go.bits .and .u64 a0 4294967295) * (Go.bits .and .u64 a1 4294967295))) / 4294967296))) 4294967295) + (IntKind.u64.wrap ((Go.bits .and .u64 a0 4294967295) * (a1 / 4294967296))))) / 4294967296)), IntKind.u64.wrap (a0 * a1))) = some (r1, r2) := h
 clear h
 simp only [Option.some.injEq, Prod.mk.injEq] at H
 obtain ⟨rfl, rfl⟩ := H
 go_enter Tryd.func192, Tryd.ntmps192
 go_wp2
 go_ret2
 exact ⟨by first | rfl | (simp; done) | (simp [*]; done), by repeat (first | exact Drawn0.refl _ | apply Drawn0.step)⟩

def zdN.f (a0 : Int) (a1 : Int) : Option (Bool) := (zcQ.f a0).bind fun t354 => ((zcQ.f a0).bind fun t355 => ((zcR.f (IntKind.u64.wrap (t354)) (IntKind.u64.wrap (t355))).bind fun bt356 => ((zcQ.f a1).bind fun t358 => ((zcQ.f a1).bind fun t359 => ((zcR.f (IntKind.u64.wrap (t358)) (IntKind.u64.wrap (t359))).bind fun bt360 => (if bt356.1 > (Go.bits .or .u64 (IntKind.u64.wrap (bt360.1 * 2)) (bt360.2 / 9223372036854775808)) then (some true) else (if bt356.1 = (Go.bits .or .u64 (IntKind.u64.wrap (bt360.1 * 2)) (bt360.2 / 9223372036854775808)) then (some (decide (bt356.2 > (IntKind.u64.wrap (bt360.2 * 2))))) else (some false))))))))
set_option maxHeartbeats 8000000 in
set_option maxRecDepth 100000 in
theorem zdN.calls (a0 : Int) (a1 : Int) (r : Bool) (w : World) (h : zdN.f a0 a1 = some r) :
  Calls Tryd.prog 171 #[.int .i64 a0, .int .i64 a1] w fun e w' => e = .returned (.bool r) ∧ Below w.heap.size w w' := by
 have HB := zaO (Below.refl w.heap.size w)
 have H : ((zcQ.f a0).bind fun t354 => ((zcQ.f a0).bind fun t355 => ((zcR.f (IntKind.u64.wrap (t354)) (IntKind.u64.wrap (t355))).bind fun bt356 => ((zcQ.f a1).bind fun t358 => ((zcQ.f a1).bind fun t359 => ((zcR.f (IntKind.u64.wrap (t358)) (IntKind.u64.wrap (t359))).bind fun bt360 => (if bt356.1 > (Go.bits .or .u64 (IntKind.u64.wrap (bt360.1 * 2)) (bt360.2 / 9223372036854775808)) then (some true) else (if bt356.1 = (Go.bits .or .u64 (IntKind.u64.wrap (bt360.1 * 2)) (bt360.2 / 9223372036854775808)) then (some (decide (bt356.2 > (IntKind.u64.wrap (bt360.2 * 2))))) else (some false))))))))) = some r := h
 clear h
 replace H := Option.bind_eq_some_iff.mp H
 obtain ⟨t354, A30, H⟩ := H
 replace H : ((zcQ.f a0).bind fun t355 => ((zcR.f (IntKind.u64.wrap (t354)) (IntKind.u64.wrap (t355))).bind fun bt356 => ((zcQ.f a1).bind fun t358 => ((zcQ.f a1).bind fun t359 => ((zcR.f (IntKind.u64.wrap (t358)) (IntKind.u64.wrap (t359))).bind fun bt360 => (if bt356.1 > (Go.bits .or .u64 (IntKind.u64.wrap (bt360.1 * 2)) (bt360.2 / 9223372036854775808)) then (some true) else (if bt356.1 = (Go.bits .or .u64 (IntKind.u64.wrap (bt360.1 * 2)) (bt360.2 / 9223372036854775808)) then (some (decide (bt356.2 > (IntKind.u64.wrap (bt360.2 * 2))))) else (some false)))))))) = some r := H
 have A3 := zaO A30
 clear A30
 replace H := Option.bind_eq_some_iff.mp H
 obtain ⟨t355, A40, H⟩ := H
 replace H : ((zcR.f (IntKind.u64.wrap (t354)) (IntKind.u64.wrap (t355))).bind fun bt356 => ((zcQ.f a1).bind fun t358 => ((zcQ.f a1).bind fun t359 => ((zcR.f (IntKind.u64.wrap (t358)) (IntKind.u64.wrap (t359))).bind fun bt360 => (if bt356.1 > (Go.bits .or .u64 (IntKind.u64.wrap (bt360.1 * 2)) (bt360.2 / 9223372036854775808)) then (some true) else (if bt356.1 = (Go.bits .or .u64 (IntKind.u64.wrap (bt360.1 * 2)) (bt360.2 / 9223372036854775808)) then (some (decide (bt356.2 > (IntKind.u64.wrap (bt360.2 * 2))))) else (some false))))))) = some r := H
 have A4 := zaO A40
 clear A40
 replace H := Option.bind_eq_some_iff.mp H
 obtain ⟨⟨t356, t357⟩, A50, H⟩ := H
 replace H : ((zcQ.f a1).bind fun t358 => ((zcQ.f a1).bind fun t359 => ((zcR.f (IntKind.u64.wrap (t358)) (IntKind.u64.wrap (t359))).bind fun bt360 => (if t356 > (Go.bits .or .u64 (IntKind.u64.wrap (bt360.1 * 2)) (bt360.2 / 9223372036854775808)) then (some true) else (if t356 = (Go.bits .or .u64 (IntKind.u64.wrap (bt360.1 * 2)) (bt360.2 / 9223372036854775808)) then (some (decide (t357 > (IntKind.u64.wrap (bt360.2 * 2))))) else (some false)))))) = some r := H
 have A5 := zaO A50
 clear A50
 replace H := Option.bind_eq_some_iff.mp H
 obtain ⟨t358, A60, H⟩ := H
 replace H : ((zcQ.f a1).bind fun t359 => ((zcR.f (IntKind.u64.wrap (t358)) (IntKind.u64.wrap (t359))).bind fun bt360 => (if t356 > (Go.bits .or .u64 (IntKind.u64.wrap (bt360.1 * 2)) (bt360.2 / 9223372036854775808)) then (some true) else (if t356 = (Go.bits .or .u64 (IntKind.u64.wrap (bt360.1 * 2)) (bt360.2 / 9223372036854775808)) then (some (decide (t357 > (IntKind.u64.wrap (bt360.2 * 2))))) else (some false))))) = some r := H
 have A6 := zaO A60
 clear A60
 replace H := Option.bind_eq_some_iff.mp H
 obtain ⟨t359, A70, H⟩ := H
 replace H : ((zcR.f (IntKind.u64.wrap (t358)) (IntKind.u64.wrap (t359))).bind fun bt360 => (if t356 > (Go.bits .or .u64 (IntKind.u64.wrap (bt360.1 * 2)) (bt360.2 / 9223372036854775808)) then (some true) else (if t356 = (Go.bits .or .u64 (IntKind.u64.wrap (bt360.1 * 2)) (bt360.2 / 9223372036854775808)) then (some (decide (t357 > (IntKind.u64.wrap (bt360.2 * 2))))) else (some false)))) = some r := H
 have A7 := zaO A70
 clear A70
 replace H := Option.bind_eq_some_iff.mp H
 obtain ⟨⟨t360, t361⟩, A80, H⟩ := H
 replace H : (if t356 > (Go.bits .or .u64 (IntKind.u64.wrap (t360 * 2)) (t361 / 9223372036854775808)) then (some true) else (if t356 = (Go.bits .or .u64 (IntKind.u64.wrap (t360 * 2)) (t361 / 9223372036854775808)) then (some (decide (t357 > (IntKind.u64.wrap (t361 * 2))))) else (some false))) = some r := H
 have A8 := zaO A80
 clear A80
 by_cases c9 : t356 > (Go.bits .or .u64 (IntKind.u64.wrap (t360 * 2)) (t361 / 9223372036854775808))
 ·rw [if_pos c9] at H
  have c9b0 : decide ((Go.bits .or .u64 (IntKind.u64.wrap (t360 * 2)) (t361 / 9223372036854775808)) < t356) = true := decide_eq_true c9
  clear c9
  obtain rfl := Option.some.inj H
  go_enter Tryd.func171, Tryd.ntmps171
  go_wp2_with (first | ((with_reducible refine zaQ (f := 132) rfl ?_); refine zbV (some 11) rfl rfl Tryd.func132 (by kernel_rfl) rfl #[.int .i64 a0] rfl (by (try simp only [List.map_toArray, List.map_cons, List.map_nil]); first | done | rfl | (simp only [List.length_drop, List.length_take]; rfl)) ?_; (with_reducible refine (zcQ.calls a0 t354 _ A3.out).mono ?_); rintro e w10 ⟨rfl, hb⟩; refine ⟨_, rfl, ?_⟩; have n0_ := zaO (zaK (by repeat (first | (with_reducible first | exact HB.out | apply zaE | apply zaA | apply zaD) | exact HB.out)) hb); clear HB; have HB := n0_; clear n0_; (try clear hb); (try clear hb2); (try clear hk); (try clear hi)) | ((with_reducible refine zaQ (f := 132) rfl ?_); refine zbV (some 14) rfl rfl Tryd.func132 (by kernel_rfl) rfl #[.int .i64 a0] rfl (by (try simp only [List.map_toArray, List.map_cons, List.map_nil]); first | done | rfl | (simp only [List.length_drop, List.length_take]; rfl)) ?_; (with_reducible refine (zcQ.calls a0 t355 _ A4.out).mono ?_); rintro e w11 ⟨rfl, hb⟩; refine ⟨_, rfl, ?_⟩; have n0_ := zaO (zaK (by repeat (first | (with_reducible first | exact HB.out | apply zaE | apply zaA | apply zaD) | exact HB.out)) hb); clear HB; have HB := n0_; clear n0_; (try clear hb); (try clear hb2); (try clear hk); (try clear hi)) | ((with_reducible refine zaQ (f := 192) rfl ?_); refine zbV (some 16) rfl rfl Tryd.func192 (by kernel_rfl) rfl #[.int .u64 (IntKind.u64.wrap (t354)), .int .u64 (IntKind.u64.wrap (t355))] rfl (by (try simp only [List.map_toArray, List.map_cons, List.map_nil]); first | done | rfl | (simp only [List.length_drop, List.length_take]; rfl)) ?_; (with_reducible refine (zcR.calls (IntKind.u64.wrap (t354)) (IntKind.u64.wrap (t355)) t356 t357 _ A5.out).mono ?_); rintro e w' ⟨rfl, ⟨nd, rfl⟩⟩; refine ⟨_, rfl, ?_⟩) | ((with_reducible refine zaQ (f := 132) rfl ?_); refine zbV (some 21) rfl rfl Tryd.func132 (by kernel_rfl) rfl #[.int .i64 a1] rfl (by (try simp only [List.map_toArray, List.map_cons, List.map_nil]); first | done | rfl | (simp only [List.length_drop, List.length_take]; rfl)) ?_; (with_reducible refine (zcQ.calls a1 t358 _ A6.out).mono ?_); rintro e w12 ⟨rfl, hb⟩; refine ⟨_, rfl, ?_⟩; have n0_ := zaO (zaK (by repeat (first | (with_reducible first | exact HB.out | apply zaE | apply zaA | apply zaD) | exact HB.out)) hb); clear HB; have HB := n0_; clear n0_; (try clear hb); (try clear hb2); (try clear hk); (try clear hi)) | ((with_reducible refine zaQ (f := 132) rfl ?_); refine zbV (some 24) rfl rfl Tryd.func132 (by kernel_rfl) rfl #[.int .i64 a1] rfl (by (try simp only [List.map_toArray, List.map_cons, List.map_nil]); first | done | rfl | (simp only [List.length_drop, List.length_take]; rfl)) ?_; (with_reducible refine (zcQ.calls a1 t359 _ A7.out).mono ?_); rintro e w13 ⟨rfl, hb⟩; refine ⟨_, rfl, ?_⟩; have n0_ := zaO (zaK (by repeat (first | (with_reducible first | exact HB.out | apply zaE | apply zaA | apply zaD) | exact HB.out)) hb); clear HB; have HB := n0_; clear n0_; (try clear hb); (try clear hb2); (try clear hk); (try clear hi)) | ((with_reducible refine zaQ (f := 192) rfl ?_); refine zbV (some 26) rfl rfl Tryd.func192 (by kernel_rfl) rfl #[.int .u64 (IntKind.u64.wrap (t358)), .int .u64 (IntKind.u64.wrap (t359))] rfl (by (try simp only [List.map_toArray, List.map_cons, List.map_nil]); first | done | rfl | (simp only [List.length_drop, List.length_take]; rfl)) ?_; (with_reducible refine (zcR.calls (IntKind.u64.wrap (t358)) (IntKind.u64.wrap (t359)) t360 t361 _ A8.out).mono ?_); rintro e w' ⟨rfl, ⟨nd, rfl⟩⟩; refine ⟨_, rfl, ?_⟩))
  go_ret
  exact ⟨by first | rfl | (simp [zaN, zaM] <;> rfl) | (simp [*, zaN, zaM] <;> rfl), by repeat (first | (with_reducible first | exact HB.out | apply zaE | apply zaA | apply zaD) | exact HB.out)⟩
 ·rw [if_neg c9] at H
  have c9b0 : decide ((Go.bits .or .u64 (IntKind.u64.wrap (t360 * 2)) (t361 / 9223372036854775808)) < t356) = false := decide_eq_false c9
  clear c9
  by_cases c14 : t356 = (Go.bits .or .u64 (IntKind.u64.wrap (t360 * 2)) (t361 / 9223372036854775808))
  ·rw [if_pos c14] at H
   have c14b0 : (t356 == (Go.bits .or .u64 (IntKind.u64.wrap (t360 * 2)) (t361 / 9223372036854775808))) = true := beq_iff_eq.mpr c14
   have c14b1 : (t356 != (Go.bits .or .u64 (IntKind.u64.wrap (t360 * 2)) (t361 / 9223372036854775808))) = false := bne_eq_false_iff_eq.mpr c14
   clear c14
   obtain rfl := Option.some.inj H
   go_enter Tryd.func171, Tryd.ntmps171
   go_wp2_with (first | ((with_reducible refine zaQ (f := 132) rfl ?_); refine zbV (some 11) rfl rfl Tryd.func132 (by kernel_rfl) rfl #[.int .i64 a0] rfl (by (try simp only [List.map_toArray, List.map_cons, List.map_nil]); first | done | rfl | (simp only [List.length_drop, List.length_take]; rfl)) ?_; (with_reducible refine (zcQ.calls a0 t354 _ A3.out).mono ?_); rintro e w15 ⟨rfl, hb⟩; refine ⟨_, rfl, ?_⟩; have n0_ := zaO (zaK (by repeat (first | (with_reducible first | exact HB.out | apply zaE | apply zaA | apply zaD) | exact HB.out)) hb); clear HB; have HB := n0_; clear n0_; (try clear hb); (try clear hb2); (try clear hk); (try clear hi)) | ((with_reducible refine zaQ (f := 132) rfl ?_); refine zbV (some 14) rfl rfl Tryd.func132 (by kernel_rfl) rfl #[.int .i64 a0] rfl (by (try simp only [List.map_toArray, List.map_cons, List.map_nil]); first | done | rfl | (simp only [List.length_drop, List.length_take]; rfl)) ?_; (with_reducible refine (zcQ.calls a0 t355 _ A4.out).mono ?_); rintro e w16 ⟨rfl, hb⟩; refine ⟨_, rfl, ?_⟩; have n0_ := zaO (zaK (by repeat (first | (with_reducible first | exact HB.out | apply zaE | apply zaA | apply zaD) | exact HB.out)) hb); clear HB; have HB := n0_; clear n0_; (try clear hb); (try clear hb2); (try clear hk); (try clear hi)) | ((with_reducible refine zaQ (f := 192) rfl ?_); refine zbV (some 16) rfl rfl Tryd.func192 (by kernel_rfl) rfl #[.int .u64 (IntKind.u64.wrap (t354)), .int .u64 (IntKind.u64.wrap (t355))] rfl (by (try simp only [List.map_toArray, List.map_cons, List.map_nil]); first | done | rfl | (simp only [List.length_drop, List.length_take]; rfl)) ?_; (with_reducible refine (zcR.calls (IntKind.u64.wrap (t354)) (IntKind.u64.wrap (t355)) t356 t357 _ A5.out).mono ?_); rintro e w' ⟨rfl, ⟨nd, rfl⟩⟩; refine ⟨_, rfl, ?_⟩) | ((with_reducible refine zaQ (f := 132) rfl ?_); refine zbV (some 21) rfl rfl Tryd.func132 (by kernel_rfl) rfl #[.int .i64 a1] rfl (by (try simp only [List.map_toArray, List.map_cons, List.map_nil]); first | done | rfl | (simp only [List.length_drop, List.length_take]; rfl)) ?_; (with_reducible refine (zcQ.calls a1 t358 _ A6.out).mono ?_); rintro e w17 ⟨rfl, hb⟩; refine ⟨_, rfl, ?_⟩; have n0_ := zaO (zaK (by repeat (first | (with_reducible first | exact HB.out | apply zaE | apply zaA | apply zaD) | exact HB.out)) hb); clear HB; have HB := n0_; clear n0_; (try clear hb); (try clear hb2); (try clear hk); (try clear hi)) | ((with_reducible refine zaQ (f := 132) rfl ?_); refine zbV (some 24) rfl rfl Tryd.func132 (by kernel_rfl) rfl #[.int .i64 a1] rfl (by (try simp only [List.map_toArray, List.map_cons, List.map_nil]); first | done | rfl | (simp only [List.length_drop, List.length_take]; rfl)) ?_; (with_reducible refine (zcQ.calls a1 t359 _ A7.out).mono ?_); rintro e w18 ⟨rfl, hb⟩; refine ⟨_, rfl, ?_⟩; have n0_ := zaO (zaK (by repeat (first | (with_reducible first | exact HB.out | apply zaE | apply zaA | apply zaD) | exact HB.out)) hb); clear HB; have HB := n0_; clear n0_; (try clear hb); (try clear hb2); (try clear hk); (try clear hi)) | ((with_reducible refine zaQ (f := 192) rfl ?_); refine zbV (some 26) rfl rfl Tryd.func192 (by kernel_rfl) rfl #[.int .u64 (IntKind.u64.wrap (t358)), .int .u64 (IntKind.u64.wrap (t359))] rfl (by (try simp only [List.map_toArray, List.map_cons, List.map_nil]); first | done | rfl | (simp only [List.length_drop, List.length_take]; rfl)) ?_; (with_reducible refine (zcR.calls (IntKind.u64.wrap (t358)) (IntKind.u64.wrap (t359)) t360 t361 _ A8.out).mono ?_); rintro e w' ⟨rfl, ⟨nd, rfl⟩⟩; refine ⟨_, rfl, ?_⟩))
   go_ret
   exact ⟨by first | rfl | (simp [zaN, zaM] <;> rfl) | (simp [*, zaN, zaM] <;> rfl), by repeat (first | (with_reducible first | exact HB.out | apply zaE | apply zaA | apply zaD) | exact HB.out)⟩
  ·rw [if_neg c14] at H
   have c14b0 : (t356 == (Go.bits .or .u64 (IntKind.u64.wrap (t360 * 2)) (t361 / 9223372036854775808))) = false := beq_eq_false_iff_ne.mpr c14
   have c14b1 : (t356 != (Go.bits .or .u64 (IntKind.u64.wrap (t360 * 2)) (t361 / 9223372036854775808))) = true := bne_iff_ne.mpr c14
   obtain rfl := Option.some.inj H
   go_enter Tryd.func171, Tryd.ntmps171
   go_wp2_with (first | ((with_reducible refine zaQ (f := 132) rfl ?_); refine zbV (some 11) rfl rfl Tryd.func132 (by kernel_rfl) rfl #[.int .i64 a0] rfl (by (try simp only [List.map_toArray, List.map_cons, List.map_nil]); first | done | rfl | (simp only [List.length_drop, List.length_take]; rfl)) ?_; (with_reducible refine (zcQ.calls a0 t354 _ A3.out).mono ?_); rintro e w19 ⟨rfl, hb⟩; refine ⟨_, rfl, ?_⟩; have n0_ := zaO (zaK (by repeat (first | (with_reducible first | exact HB.out | apply zaE | apply zaA | apply zaD) | exact HB.out)) hb); clear HB; have HB := n0_; clear n0_; (try clear hb); (try clear hb2); (try clear hk); (try clear hi)) | ((with_reducible refine zaQ (f := 132) rfl ?_); refine zbV (some 14) rfl rfl Tryd.func132 (by kernel_rfl) rfl #[.int .i64 a0] rfl (by (try simp only [List.map_toArray, List.map_cons, List.map_nil]); first | done | rfl | (simp only [List.length_drop, List.length_take]; rfl)) ?_; (with_reducible refine (zcQ.calls a0 t355 _ A4.out).mono ?_); rintro e w20 ⟨rfl, hb⟩; refine ⟨_, rfl, ?_⟩; have n0_ := zaO (zaK (by repeat (first | (with_reducible first | exact HB.out | apply zaE | apply zaA | apply zaD) | exact HB.out)) hb); clear HB; have HB := n0_; clear n0_; (try clear hb); (try clear hb2); (try clear hk); (try clear hi)) | ((with_reducible refine zaQ (f := 192) rfl ?_); refine zbV (some 16) rfl rfl Tryd.func192 (by kernel_rfl) rfl #[.int .u64 (IntKind.u64.wrap (t354)), .int .u64 (IntKind.u64.wrap (t355))] rfl (by (try simp only [List.map_toArray, List.map_cons, List.map_nil]); first | done | rfl | (simp only [List.length_drop, List.length_take]; rfl)) ?_; (with_reducible refine (zcR.calls (IntKind.u64.wrap (t354)) (IntKind.u64.wrap (t355)) t356 t357 _ A5.out).mono ?_); rintro e w' ⟨rfl, ⟨nd, rfl⟩⟩; refine ⟨_, rfl, ?_⟩) | ((with_reducible refine zaQ (f := 132) rfl ?_); refine zbV (some 21) rfl rfl Tryd.func132 (by kernel_rfl) rfl #[.int .i64 a1] rfl (by (try simp only [List.map_toArray, List.map_cons, List.map_nil]); first | done | rfl | (simp only [List.length_drop, List.length_take]; rfl)) ?_; (with_reducible refine (zcQ.calls a1 t358 _ A6.out).mono ?_); rintro e w21 ⟨rfl, hb⟩; refine ⟨_, rfl, ?_⟩; have n0_ := zaO (zaK (by repeat (first | (with_reducible first | exact HB.out | apply zaE | apply zaA | apply zaD) | exact HB.out)) hb); clear HB; have HB := n0_; clear n0_; (try clear hb); (try clear hb2); (try clear hk); (try clear hi)) | ((with_reducible refine zaQ (f := 132) rfl ?_); refine zbV (some 24) rfl rfl Tryd.func132 (by kernel_rfl) rfl #[.int .i64 a1] rfl (by (try simp only [List.map_toArray, List.map_cons, List.map_nil]); first | done | rfl | (simp only [List.length_drop, List.length_take]; rfl)) ?_; (with_reducible refine (zcQ.calls a1 t359 _ A7.out).mono ?_); rintro e w22 ⟨rfl, hb⟩; refine ⟨_, rfl, ?_⟩; have n0_ := zaO (zaK (by repeat (first | (with_reducible first | exact HB.out | apply zaE | apply zaA | apply zaD) | exact HB.out)) hb); clear HB; have HB := n0_; clear n0_; (try clear hb); (try clear hb2); (try clear hk); (try clear hi)) | ((with_reducible refine zaQ (f := 192) rfl ?_); refine zbV (some 26) rfl rfl Tryd.func192 (by kernel_rfl) rfl #[.int .u64 (IntKind.u64.wrap (t358)), .int .u64 (IntKind.u64.wrap (t359))] rfl (by (try simp only [List.map_toArray, List.map_cons, List.map_nil]); first | done | rfl | (simp only [List.length_drop, List.length_take]; rfl)) ?_; (with_reducible refine (zcR.calls (IntKind.u64.wrap (t358)) (IntKind.u64.wrap (t359)) t360 t361 _ A8.out).mono ?_); rintro e w' ⟨rfl, ⟨nd, rfl⟩⟩; refine ⟨_, rfl, ?_⟩))
   go_ret
   exact ⟨by first | rfl | (simp [zaN, zaM] <;> rfl) | (simp [*, zaN, zaM] <;> rfl), by repeat (first | (with_reducible first | exact HB.out | apply zaE | apply zaA | apply zaD) | exact HB.out)⟩

end Go.Proofs.YtmajpmofeddknaaDoor.PFnExactValidPolygon
