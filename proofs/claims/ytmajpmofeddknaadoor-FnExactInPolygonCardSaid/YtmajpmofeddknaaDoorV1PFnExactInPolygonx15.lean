-- Printed for this claim by this session's program pp.py, which drives the kit's print with additions. Not trusted: Lean checks it.
import Derived.Test.YtmajpmofeddknaaDoorV1PFnExactInPolygonx0
import Derived.Test.YtmajpmofeddknaaDoorV1PFnExactInPolygonx2
import Derived.Test.YtmajpmofeddknaaDoorV1PFnExactInPolygonx8
import Derived.Test.YtmajpmofeddknaaDoorV1PFnExactInPolygonx10
import Derived.Test.YtmajpmofeddknaaDoorV1PFnExactInPolygonx14
namespace Go.Proofs.YtmajpmofeddknaaDoor.PFnExactInPolygon
open Go.RowKit Go.Proofs.YtmajpmofeddknaaDoorW.PrintWords Go.Proofs.YtmajpmofeddknaaDoorW.PrintLast Go.Proofs.YtmajpmofeddknaaDoorW.PrintMore
attribute [local go_sem] zeE zdX zeQ zeO zdK zdI zeA zeC   -- for this text's walks alone
set_option linter.unusedVariables false
set_option linter.unusedSimpArgs false

def zbN.l0 : Nat → List (S36) → Int → List (S36) → Int → Int → Int → Int → Int → Int → Int → Int → Option (Int)
 | 0, _, _, _, _, _, _, _, _, _, _, _ => none
 | k + 1, x0, x5, x8, x9, x10, x475000, x475001, x475002, x475003, x475004, x475005 => if x10 < x9 then (if 0 ≤ x10 then (if x10 < (x8.length : Int) then (if (x0.length : Int) = 0 then (none) else (if 0 ≤ (Int.tmod (wrap64 (x10 + 1)) (x0.length : Int)) then (if (Int.tmod (wrap64 (x10 + 1)) (x0.length : Int)) < (x0.length : Int) then ((zcH.f k ((zaA x8 x10).f0.f0) ((zaA x8 x10).f0.f1) ((zaA x8 x10).f0.f2) ((zaA x8 x10).f1.f0) ((zaA x8 x10).f1.f1) ((zaA x8 x10).f1.f2) ((zaA x0 (Int.tmod (wrap64 (x10 + 1)) (x0.length : Int))).f0.f0) ((zaA x0 (Int.tmod (wrap64 (x10 + 1)) (x0.length : Int))).f0.f1) ((zaA x0 (Int.tmod (wrap64 (x10 + 1)) (x0.length : Int))).f0.f2) ((zaA x0 (Int.tmod (wrap64 (x10 + 1)) (x0.length : Int))).f1.f0) ((zaA x0 (Int.tmod (wrap64 (x10 + 1)) (x0.length : Int))).f1.f1) ((zaA x0 (Int.tmod (wrap64 (x10 + 1)) (x0.length : Int))).f1.f2) x475000 x475001 x475002 x475003 x475004 x475005).bind fun t478 => (zbN.l0 k x0 (mn x5 t478) x8 x9 (wrap64 (x10 + 1)) x475000 x475001 x475002 x475003 x475004 x475005)) else (none)) else (none))) else (none)) else (none)) else (some x5)
def zbN.f (k : Nat) (l0 : List (S36)) (a1_0 : Int) (a1_1 : Int) (a1_2 : Int) (a1_3 : Int) (a1_4 : Int) (a1_5 : Int) : Option (Int) := zbN.l0 k l0 1 l0 (l0.length : Int) 0 a1_0 a1_1 a1_2 a1_3 a1_4 a1_5
theorem zbN.mono_l : ∀ k, (∀ y0 y1 y2 y3 y4 y5 y6 y7 y8 y9 y10, LeO (zbN.l0 k y0 y1 y2 y3 y4 y5 y6 y7 y8 y9 y10) (zbN.l0 (k + 1) y0 y1 y2 y3 y4 y5 y6 y7 y8 y9 y10))
 | 0 => fun _ _ _ _ _ _ _ _ _ _ _ r h => by simp [zbN.l0] at h
 | k + 1 => by
  have ih0 := zbN.mono_l k
  ·intro y0 y1 y2 y3 y4 y5 y6 y7 y8 y9 y10
   unfold zbN.l0
   repeat' first
   | (with_reducible exact ih0 _ _ _ _ _ _ _ _ _ _ _)
   | (with_reducible exact zcH.mono _ _ _ _ _ _ _ _ _ _ _ _ _ _ _ _ _ _ _)
   | (with_reducible exact LeO.refl _)
   | (with_reducible exact LeO.none _)
   | (with_reducible refine LeO.ite ?_ ?_)
   | (with_reducible refine LeO.bind ?_ (fun _ => ?_))
   | exact ih0 _ _ _ _ _ _ _ _ _ _ _
   | exact zcH.mono _ _ _ _ _ _ _ _ _ _ _ _ _ _ _ _ _ _ _
   | exact LeO.none _
   | refine LeO.ite ?_ ?_
   | refine LeO.bind ?_ (fun _ => ?_)
theorem zbN.mono : ∀ a0 a1 a2 a3 a4 a5 a6 k, LeO (zbN.f k a0 a1 a2 a3 a4 a5 a6) (zbN.f (k + 1) a0 a1 a2 a3 a4 a5 a6) := by
 intro a0 a1 a2 a3 a4 a5 a6 k
 have ih0 := zbN.mono_l k
 unfold zbN.f
 repeat' first
   | (with_reducible exact ih0 _ _ _ _ _ _ _ _ _ _ _)
   | (with_reducible exact zcH.mono _ _ _ _ _ _ _ _ _ _ _ _ _ _ _ _ _ _ _)
   | (with_reducible exact LeO.refl _)
   | (with_reducible exact LeO.none _)
   | (with_reducible refine LeO.ite ?_ ?_)
   | (with_reducible refine LeO.bind ?_ (fun _ => ?_))
   | exact ih0 _ _ _ _ _ _ _ _ _ _ _
   | exact zcH.mono _ _ _ _ _ _ _ _ _ _ _ _ _ _ _ _ _ _ _
   | exact LeO.none _
   | refine LeO.ite ?_ ?_
   | refine LeO.bind ?_ (fun _ => ?_)
def zbN.T5 : Bool × List (List Nat × List Nat) := (true, [([], []), ([], []), ([], []), ([], []), ([3], [3]), ([], []), ([5], [5]), ([4, 6], [4, 6]), ([2, 7], [2, 7]), ([8], [8]), ([], []), ([1, 9, 10], [1, 9, 10]), ([0, 11], [0, 11]), ([12, 11, 0, 1, 2, 3, 4, 5, 6, 7, 8, 9, 10, 11, 12], [0, 12])])
def zbN.B5 : List Nat := [0, 0, 0, 0, 8, 0, 32, 120, 252, 508, 0, 2046, 4095, 8191]
theorem zbN.tab5 : rtab .any (opsOf Tryd.f66 5) = zbN.T5 := by kernel_rfl
theorem zbN.bits5 : zdW zbN.T5.2 zbN.B5 = true := by kernel_rfl
set_option maxHeartbeats 8000000 in
set_option maxRecDepth 100000 in
theorem zbN.calls (k : Nat) (A0 : Option Addr) (c0 : Nat) (l0 : List (S36)) (a1_0 : Int) (a1_1 : Int) (a1_2 : Int) (a1_3 : Int) (a1_4 : Int) (a1_5 : Int) (r : Int) (w : World) (hr0 : Kd.C k36 w A0 l0.length l0) (hc0 : l0.length ≤ c0) (h : zbN.f k l0 a1_0 a1_1 a1_2 a1_3 a1_4 a1_5 = some r) :
  Calls Tryd.prog 66 #[.slice A0 l0.length c0, .agg #[.int .i64 a1_0, .int .i64 a1_1, .int .i64 a1_2, .int .i64 a1_3, .int .i64 a1_4, .int .i64 a1_5]] w fun e w' => e = .returned (.int .i64 r) ∧ Below w.heap.size w w' := by
 have hu36 := Tryd.underlying36
 have HR0 := zaJ hr0
 have HC0 := zaJ hc0
 clear hr0 hc0
 have HB := zaJ (Below.refl w.heap.size w)
 have H : (zbN.l0 k l0 1 l0 (l0.length : Int) 0 a1_0 a1_1 a1_2 a1_3 a1_4 a1_5) = some r := h
 clear h
 have H' := zaJ H
 clear H
 go_enter Tryd.func66, Tryd.ntmps66
 go_wp2_with (first | ((with_reducible refine zaQ (N := 3) rfl ?_); refine bx_ 3 #[.int .i64 a1_0, .int .i64 a1_1, .int .i64 a1_2, .int .i64 a1_3, .int .i64 a1_4, .int .i64 a1_5] 36 ?_; intro gb474 hg w3 hbox hb; have n0_ := (ns_ hb); have n1_ := zaJ (hbox); have n2_ := (ng_ hg); have n3_ := n2_; clear HB; have HB := n0_; have BK474 := n1_; have GW474 := n2_; have GE474 := n3_; clear n0_ n1_ n2_ n3_; clear hb hbox hg))
 (try go_simp)
 go_loopg [5, 10] k (fun kq v5 v10 w' => ∃ (x5_1 : Int) (x10_1 : Int), v5 = .int .i64 x5_1 ∧ v10 = .int .i64 x10_1 ∧ Aside0 (zbN.l0 kq l0 x5_1 l0 (l0.length : Int) x10_1 a1_0 a1_1 a1_2 a1_3 a1_4 a1_5 = some r) ∧ Aside0 (kq ≤ k) ∧ Aside0 (w'.heap[gb474]? = some (.cells #[.int .i64 a1_0, .int .i64 a1_1, .int .i64 a1_2, .int .i64 a1_3, .int .i64 a1_4, .int .i64 a1_5] 36 (0, 0))) ∧ Aside0 (Below w.heap.size w w'))
 case atStart => exact ⟨(1), (0), (by first | rfl | (simp; done) | (simp [*]; done)), (by first | rfl | (simp; done) | (simp [*]; done)), H', ⟨Nat.le_refl _⟩, ⟨bk_⟩, ⟨bb_⟩⟩
 case round =>
  clear H'
  try clear p2
  obtain ⟨x5_1, x10_1, rfl, rfl, HA, HK1, BK474, HB⟩ := hrel
  cases gk with
  | zero => exact absurd HA.out (by simp [zbN.l0])
  | succ k1 =>
   have H := HA.out
   clear HA
   simp only [zbN.l0] at H
   by_cases c4 : x10_1 < (l0.length : Int)
   ·rw [if_pos c4] at H
    have c4b0 : decide (x10_1 < (l0.length : Int)) = true := decide_eq_true c4
    clear c4
    by_cases c5 : 0 ≤ x10_1
    ·rw [if_pos c5] at H
     have c5b0 : decide (0 ≤ x10_1) = true := decide_eq_true c5
     clear c5
     by_cases c6 : x10_1 < (l0.length : Int)
     ·rw [if_pos c6] at H
      have c6b0 : decide (x10_1 < (l0.length : Int)) = true := decide_eq_true c6
      clear c6
      by_cases c7 : (l0.length : Int) = 0
      ·rw [if_pos c7] at H
       exact absurd H (by simp)
      ·rw [if_neg c7] at H
       have c7b0 : ((l0.length : Int) == 0) = false := beq_eq_false_iff_ne.mpr c7
       have c7b1 : ((l0.length : Int) != 0) = true := bne_iff_ne.mpr c7
       have c7b2 : ¬ (l0 = []) := fun h_ => c7 (by rw [h_]; rfl)
       obtain ⟨ji8, hji8⟩ : ∃ j_ : Int, (Int.tmod (wrap64 (x10_1 + 1)) (l0.length : Int)) = j_ := ⟨_, rfl⟩
       replace H : (if 0 ≤ (ji8) then (if (ji8) < (l0.length : Int) then ((zcH.f k1 ((zaA l0 x10_1).f0.f0) ((zaA l0 x10_1).f0.f1) ((zaA l0 x10_1).f0.f2) ((zaA l0 x10_1).f1.f0) ((zaA l0 x10_1).f1.f1) ((zaA l0 x10_1).f1.f2) ((zaA l0 (ji8)).f0.f0) ((zaA l0 (ji8)).f0.f1) ((zaA l0 (ji8)).f0.f2) ((zaA l0 (ji8)).f1.f0) ((zaA l0 (ji8)).f1.f1) ((zaA l0 (ji8)).f1.f2) a1_0 a1_1 a1_2 a1_3 a1_4 a1_5).bind fun t478 => (zbN.l0 k1 l0 (mn x5_1 t478) l0 (l0.length : Int) (wrap64 (x10_1 + 1)) a1_0 a1_1 a1_2 a1_3 a1_4 a1_5)) else (none)) else (none)) = some r := by first | (rw [hji8] at H; exact H) | (simp only [hji8] at H ⊢; exact H)
       by_cases c9 : 0 ≤ (ji8)
       ·rw [if_pos c9] at H
        have c9b0 : decide (0 ≤ (ji8)) = true := decide_eq_true c9
        clear c9
        by_cases c10 : (ji8) < (l0.length : Int)
        ·rw [if_pos c10] at H
         have c10b0 : decide ((ji8) < (l0.length : Int)) = true := decide_eq_true c10
         clear c10
         replace H := Option.bind_eq_some_iff.mp H
         obtain ⟨t478, A110, H⟩ := H
         replace H : (zbN.l0 k1 l0 (mn x5_1 t478) l0 (l0.length : Int) (wrap64 (x10_1 + 1)) a1_0 a1_1 a1_2 a1_3 a1_4 a1_5) = some r := H
         have A11 := zaJ A110
         clear A110
         obtain ⟨ji12, hji12⟩ : ∃ j_ : Int, (mn x5_1 t478) = j_ := ⟨_, rfl⟩
         replace H : (zbN.l0 k1 l0 ji12 l0 (l0.length : Int) (wrap64 (x10_1 + 1)) a1_0 a1_1 a1_2 a1_3 a1_4 a1_5) = some r := by first | (rw [hji12] at H; exact H) | (simp only [hji12] at H ⊢; exact H)
         (try rw [hji12] at A11)
         have hji12_ : (if t478 < x5_1 then t478 else x5_1) = ji12 := hji12
         have H' := zaJ H
         clear H
         have p475 : 0 ≤ (x10_1 : Int) := of_decide_eq_true (by first | (with_reducible assumption) | assumption)
         have q475 : x10_1 < (l0.length : Int) := of_decide_eq_true (by first | (with_reducible assumption) | assumption)
         obtain ⟨ad475, e475, hx475_0, hx475_1, hx475_2, hx475_3, hx475_4, hx475_5⟩ := zdN HR0.out x10_1 p475 q475
         cases e475
         replace hx475_0 := zaR HB.out hx475_0
         replace hx475_1 := zaR HB.out hx475_1
         replace hx475_2 := zaR HB.out hx475_2
         replace hx475_3 := zaR HB.out hx475_3
         replace hx475_4 := zaR HB.out hx475_4
         replace hx475_5 := zaR HB.out hx475_5
         replace p475 := eq_true p475
         replace q475 := eq_true q475
         try go_wp2_with (first | ((with_reducible refine zaQ (N := 7) rfl ?_); refine bx_ 7 #[.int .i64 0, .int .i64 0, .int .i64 0, .int .i64 0, .int .i64 0, .int .i64 0] 36 ?_; intro gb476 hg w13 hbox hb; have n0_ := zaJ (zaG (g := gb474) (o := .cells #[.int .i64 a1_0, .int .i64 a1_1, .int .i64 a1_2, .int .i64 a1_3, .int .i64 a1_4, .int .i64 a1_5] 36 (0, 0)) bk_ hb); have n1_ := (ns_ hb); have n2_ := zaJ (hbox); have n3_ := (ng_ hg); have n4_ := n3_; have n5_ := zaJ ((by rw [hg]; exact Nat.ne_of_lt (zbC (g := gb474) (o := .cells #[.int .i64 a1_0, .int .i64 a1_1, .int .i64 a1_2, .int .i64 a1_3, .int .i64 a1_4, .int .i64 a1_5] 36 (0, 0)) bk_) : gb474 ≠ gb476)); have n6_ := zaJ ((by rw [hg]; exact Nat.ne_of_gt (zbC (g := gb474) (o := .cells #[.int .i64 a1_0, .int .i64 a1_1, .int .i64 a1_2, .int .i64 a1_3, .int .i64 a1_4, .int .i64 a1_5] 36 (0, 0)) bk_) : gb476 ≠ gb474)); clear BK474; clear HB; have BK474 := n0_; have HB := n1_; have BK476 := n2_; have GW476 := n3_; have GE476 := n4_; have NB474_476 := n5_; have NB476_474 := n6_; clear n0_ n1_ n2_ n3_ n4_ n5_ n6_; clear hb hbox hg; have hnb14 := NB476_474.out; have hnc14 := NB474_476.out; obtain ⟨hcz15_0, hcz15_1, hcz15_2, hcz15_3, hcz15_4, hcz15_5⟩ := zeX BK476.out; obtain ⟨hfz15_0, hfz15_1, hfz15_2, hfz15_3, hfz15_4, hfz15_5⟩ := zeW BK476.out))
         have n0_ : Aside0 (((((((w13.setCell ⟨gb476, 0, none⟩ (.int .i64 ((zaA l0 x10_1).f0.f0))).setCell ⟨gb476, 1, none⟩ (.int .i64 ((zaA l0 x10_1).f0.f1))).setCell ⟨gb476, 2, none⟩ (.int .i64 ((zaA l0 x10_1).f0.f2))).setCell ⟨gb476, 3, none⟩ (.int .i64 ((zaA l0 x10_1).f1.f0))).setCell ⟨gb476, 4, none⟩ (.int .i64 ((zaA l0 x10_1).f1.f1))).setCell ⟨gb476, 5, none⟩ (.int .i64 ((zaA l0 x10_1).f1.f2))).heap[gb474]? = some (.cells #[.int .i64 a1_0, .int .i64 a1_1, .int .i64 a1_2, .int .i64 a1_3, .int .i64 a1_4, .int .i64 a1_5] 36 (0, 0))) := ⟨by (with_reducible repeat (first | apply zaD | apply zaE | apply zaC)); refine zbA ?_ NB474_476.out _; (with_reducible repeat (first | apply zaD | apply zaE | apply zaC)); refine zbA ?_ NB474_476.out _; (with_reducible repeat (first | apply zaD | apply zaE | apply zaC)); refine zbA ?_ NB474_476.out _; (with_reducible repeat (first | apply zaD | apply zaE | apply zaC)); refine zbA ?_ NB474_476.out _; (with_reducible repeat (first | apply zaD | apply zaE | apply zaC)); refine zbA ?_ NB474_476.out _; (with_reducible repeat (first | apply zaD | apply zaE | apply zaC)); refine zbA ?_ NB474_476.out _; (with_reducible repeat (first | apply zaD | apply zaE | apply zaC)); exact BK474.out⟩
         have n1_ : Aside0 (((((((w13.setCell ⟨gb476, 0, none⟩ (.int .i64 ((zaA l0 x10_1).f0.f0))).setCell ⟨gb476, 1, none⟩ (.int .i64 ((zaA l0 x10_1).f0.f1))).setCell ⟨gb476, 2, none⟩ (.int .i64 ((zaA l0 x10_1).f0.f2))).setCell ⟨gb476, 3, none⟩ (.int .i64 ((zaA l0 x10_1).f1.f0))).setCell ⟨gb476, 4, none⟩ (.int .i64 ((zaA l0 x10_1).f1.f1))).setCell ⟨gb476, 5, none⟩ (.int .i64 ((zaA l0 x10_1).f1.f2))).heap[gb476]? = some (.cells #[.int .i64 ((zaA l0 x10_1).f0.f0), .int .i64 ((zaA l0 x10_1).f0.f1), .int .i64 ((zaA l0 x10_1).f0.f2), .int .i64 ((zaA l0 x10_1).f1.f0), .int .i64 ((zaA l0 x10_1).f1.f1), .int .i64 ((zaA l0 x10_1).f1.f2)] 36 (0, 0))) := ⟨by (with_reducible repeat (first | apply zaD | apply zaE | apply zaC)); refine zaL (cs := #[.int .i64 ((zaA l0 x10_1).f0.f0), .int .i64 ((zaA l0 x10_1).f0.f1), .int .i64 ((zaA l0 x10_1).f0.f2), .int .i64 ((zaA l0 x10_1).f1.f0), .int .i64 ((zaA l0 x10_1).f1.f1), .int .i64 0]) ?_ 5 _ rfl; (with_reducible repeat (first | apply zaD | apply zaE | apply zaC)); refine zaL (cs := #[.int .i64 ((zaA l0 x10_1).f0.f0), .int .i64 ((zaA l0 x10_1).f0.f1), .int .i64 ((zaA l0 x10_1).f0.f2), .int .i64 ((zaA l0 x10_1).f1.f0), .int .i64 0, .int .i64 0]) ?_ 4 _ rfl; (with_reducible repeat (first | apply zaD | apply zaE | apply zaC)); refine zaL (cs := #[.int .i64 ((zaA l0 x10_1).f0.f0), .int .i64 ((zaA l0 x10_1).f0.f1), .int .i64 ((zaA l0 x10_1).f0.f2), .int .i64 0, .int .i64 0, .int .i64 0]) ?_ 3 _ rfl; (with_reducible repeat (first | apply zaD | apply zaE | apply zaC)); refine zaL (cs := #[.int .i64 ((zaA l0 x10_1).f0.f0), .int .i64 ((zaA l0 x10_1).f0.f1), .int .i64 0, .int .i64 0, .int .i64 0, .int .i64 0]) ?_ 2 _ rfl; (with_reducible repeat (first | apply zaD | apply zaE | apply zaC)); refine zaL (cs := #[.int .i64 ((zaA l0 x10_1).f0.f0), .int .i64 0, .int .i64 0, .int .i64 0, .int .i64 0, .int .i64 0]) ?_ 1 _ rfl; (with_reducible repeat (first | apply zaD | apply zaE | apply zaC)); refine zaL (cs := #[.int .i64 0, .int .i64 0, .int .i64 0, .int .i64 0, .int .i64 0, .int .i64 0]) ?_ 0 _ rfl; (with_reducible repeat (first | apply zaD | apply zaE | apply zaC)); exact BK476.out⟩
         have n2_ : Aside0 (Below w.heap.size w ((((((w13.setCell ⟨gb476, 0, none⟩ (.int .i64 ((zaA l0 x10_1).f0.f0))).setCell ⟨gb476, 1, none⟩ (.int .i64 ((zaA l0 x10_1).f0.f1))).setCell ⟨gb476, 2, none⟩ (.int .i64 ((zaA l0 x10_1).f0.f2))).setCell ⟨gb476, 3, none⟩ (.int .i64 ((zaA l0 x10_1).f1.f0))).setCell ⟨gb476, 4, none⟩ (.int .i64 ((zaA l0 x10_1).f1.f1))).setCell ⟨gb476, 5, none⟩ (.int .i64 ((zaA l0 x10_1).f1.f2)))) := ⟨bb_⟩
         (try clear BK474)
         (try clear BK476)
         (try clear HB)
         generalize ((((((w13.setCell ⟨gb476, 0, none⟩ (.int .i64 ((zaA l0 x10_1).f0.f0))).setCell ⟨gb476, 1, none⟩ (.int .i64 ((zaA l0 x10_1).f0.f1))).setCell ⟨gb476, 2, none⟩ (.int .i64 ((zaA l0 x10_1).f0.f2))).setCell ⟨gb476, 3, none⟩ (.int .i64 ((zaA l0 x10_1).f1.f0))).setCell ⟨gb476, 4, none⟩ (.int .i64 ((zaA l0 x10_1).f1.f1))).setCell ⟨gb476, 5, none⟩ (.int .i64 ((zaA l0 x10_1).f1.f2))) = w16 at n0_ n1_ n2_ ⊢
         have BK474 := n0_
         have BK476 := n1_
         have HB := n2_
         clear n0_ n1_ n2_
         have n0_ := zaJ (zaE BK474.out)
         have n1_ := zaJ (zaE BK476.out)
         have n2_ := zaJ (zbT HB.out)
         clear BK474
         clear BK476
         clear HB
         have BK474 := n0_
         have BK476 := n1_
         have HB := n2_
         clear n0_ n1_ n2_
         have p477 : 0 ≤ ((ji8) : Int) := of_decide_eq_true (by first | (with_reducible assumption) | assumption)
         have q477 : (ji8) < (l0.length : Int) := of_decide_eq_true (by first | (with_reducible assumption) | assumption)
         obtain ⟨ad477, e477, hx477_0, hx477_1, hx477_2, hx477_3, hx477_4, hx477_5⟩ := zdN HR0.out (ji8) p477 q477
         have hw477_5 := hx477_5
         have hw477_4 := hx477_4
         have hw477_3 := hx477_3
         have hw477_2 := hx477_2
         have hw477_1 := hx477_1
         have hw477_0 := hx477_0
         obtain rfl : ad475 = ad477 := (by injection e477)
         replace hx477_0 := zaR HB.out hx477_0
         replace hx477_1 := zaR HB.out hx477_1
         replace hx477_2 := zaR HB.out hx477_2
         replace hx477_3 := zaR HB.out hx477_3
         replace hx477_4 := zaR HB.out hx477_4
         replace hx477_5 := zaR HB.out hx477_5
         replace p477 := eq_true p477
         replace q477 := eq_true q477
         refine zdL (n := 14) (S := fun w' => w'.cell? ⟨gb476, 0, none⟩ = some (.int .i64 ((zaA l0 x10_1).f0.f0)) ∧ w'.cell? ⟨gb476, 1, none⟩ = some (.int .i64 ((zaA l0 x10_1).f0.f1)) ∧ w'.cell? ⟨gb476, 2, none⟩ = some (.int .i64 ((zaA l0 x10_1).f0.f2)) ∧ w'.cell? ⟨gb476, 3, none⟩ = some (.int .i64 ((zaA l0 x10_1).f1.f0)) ∧ w'.cell? ⟨gb476, 4, none⟩ = some (.int .i64 ((zaA l0 x10_1).f1.f1)) ∧ w'.cell? ⟨gb476, 5, none⟩ = some (.int .i64 ((zaA l0 x10_1).f1.f2)) ∧ w'.cell? ⟨gb474, 0, none⟩ = some (.int .i64 a1_0) ∧ w'.cell? ⟨gb474, 1, none⟩ = some (.int .i64 a1_1) ∧ w'.cell? ⟨gb474, 2, none⟩ = some (.int .i64 a1_2) ∧ w'.cell? ⟨gb474, 3, none⟩ = some (.int .i64 a1_3) ∧ w'.cell? ⟨gb474, 4, none⟩ = some (.int .i64 a1_4) ∧ w'.cell? ⟨gb474, 5, none⟩ = some (.int .i64 a1_5) ∧ w'.cell? (ad475.add (((ji8)).toNat * 6)) = some (.int .i64 ((zaA l0 (ji8)).f0.f0)) ∧ w'.cell? ⟨(ad475.add (((ji8)).toNat * 6)).block, (ad475.add (((ji8)).toNat * 6)).off + 1, none⟩ = some (.int .i64 ((zaA l0 (ji8)).f0.f1)) ∧ w'.cell? ⟨(ad475.add (((ji8)).toNat * 6)).block, (ad475.add (((ji8)).toNat * 6)).off + 2, none⟩ = some (.int .i64 ((zaA l0 (ji8)).f0.f2)) ∧ w'.cell? ⟨(ad475.add (((ji8)).toNat * 6)).block, (ad475.add (((ji8)).toNat * 6)).off + 3, none⟩ = some (.int .i64 ((zaA l0 (ji8)).f1.f0)) ∧ w'.cell? ⟨(ad475.add (((ji8)).toNat * 6)).block, (ad475.add (((ji8)).toNat * 6)).off + 4, none⟩ = some (.int .i64 ((zaA l0 (ji8)).f1.f1)) ∧ w'.cell? ⟨(ad475.add (((ji8)).toNat * 6)).block, (ad475.add (((ji8)).toNat * 6)).off + 5, none⟩ = some (.int .i64 ((zaA l0 (ji8)).f1.f2))) (ds := []) #[false, false, false, false, false, false, false, false, false, false, false, false, false, false] (by kernel_rfl) rfl rfl ⟨(zaB BK476.out 0).trans rfl, (zaB BK476.out 1).trans rfl, (zaB BK476.out 2).trans rfl, (zaB BK476.out 3).trans rfl, (zaB BK476.out 4).trans rfl, (zaB BK476.out 5).trans rfl, (zaB BK474.out 0).trans rfl, (zaB BK474.out 1).trans rfl, (zaB BK474.out 2).trans rfl, (zaB BK474.out 3).trans rfl, (zaB BK474.out 4).trans rfl, (zaB BK474.out 5).trans rfl, (zaR HB.out hw477_0), (zaR HB.out hw477_1), (zaR HB.out hw477_2), (zaR HB.out hw477_3), (zaR HB.out hw477_4), (zaR HB.out hw477_5)⟩ (fun hHeld => ?_); refine zcN zbN.tab5 zbN.bits5 (fun HT_ HW_ => ?_)
         generalize w16.drew = w17 at BK474 BK476 HB hx477_0 hx477_1 hx477_2 hx477_3 hx477_4 hx477_5 hHeld ⊢
         refine pu_ 0 (some 15) (bl_ 14 1) ?_
         refine pu_ 2 (some 17) (bl_ 14 5) ?_
         refine pu_ 3 (some 18) (bl_ 14 13) ?_
         refine pu_ 4 (some 19) (bl_ 14 29) ?_
         refine pu_ 5 (some 20) (bl_ 14 61) ?_
         refine pu_ 6 (some 21) (bl_ 14 125) ?_
         refine pu_ 7 (some 22) (bl_ 14 253) ?_
         refine pu_ 8 (some 23) (bl_ 14 509) ?_
         refine tk18_ 1 (some 16) (bl_ 14 511) hHeld ?_
         refine tk18_ 9 (some 24) (bl_ 14 1023) hHeld ?_
         refine tk18_ 10 (some 25) (bl_ 14 2047) hHeld ?_
         refine zeK (i := 11) (N := some 26) (bl_ 14 4095) rfl rfl (zcK HT_.out (by kernel_rfl)) (by decide) (fun K hK => ?_)
         refine zcY Tryd.func115 (by kernel_rfl) rfl #[.agg #[.int .i64 ((zaA l0 x10_1).f0.f0), .int .i64 ((zaA l0 x10_1).f0.f1), .int .i64 ((zaA l0 x10_1).f0.f2), .int .i64 ((zaA l0 x10_1).f1.f0), .int .i64 ((zaA l0 x10_1).f1.f1), .int .i64 ((zaA l0 x10_1).f1.f2)], .agg #[.int .i64 ((zaA l0 (ji8)).f0.f0), .int .i64 ((zaA l0 (ji8)).f0.f1), .int .i64 ((zaA l0 (ji8)).f0.f2), .int .i64 ((zaA l0 (ji8)).f1.f0), .int .i64 ((zaA l0 (ji8)).f1.f1), .int .i64 ((zaA l0 (ji8)).f1.f2)], .agg #[.int .i64 a1_0, .int .i64 a1_1, .int .i64 a1_2, .int .i64 a1_3, .int .i64 a1_4, .int .i64 a1_5]] (by rfl) rfl rfl (by (try simp only [List.map_toArray, List.map_cons, List.map_nil]); first | done | (simp only [hji8]; rfl) | rfl | (simp only [List.length_drop, List.length_take]; rfl)) ?_
         with_reducible refine (zcH.calls k1 ((zaA l0 x10_1).f0.f0) ((zaA l0 x10_1).f0.f1) ((zaA l0 x10_1).f0.f2) ((zaA l0 x10_1).f1.f0) ((zaA l0 x10_1).f1.f1) ((zaA l0 x10_1).f1.f2) ((zaA l0 (ji8)).f0.f0) ((zaA l0 (ji8)).f0.f1) ((zaA l0 (ji8)).f0.f2) ((zaA l0 (ji8)).f1.f0) ((zaA l0 (ji8)).f1.f1) ((zaA l0 (ji8)).f1.f2) a1_0 a1_1 a1_2 a1_3 a1_4 a1_5 t478 _ A11.out).mono ?_
         rintro e w18 ⟨rfl, hb⟩
         refine ⟨_, rfl, ?_⟩
         have n0_ := zaJ (zaG (g := gb474) (o := .cells #[.int .i64 a1_0, .int .i64 a1_1, .int .i64 a1_2, .int .i64 a1_3, .int .i64 a1_4, .int .i64 a1_5] 36 (0, 0)) bk_ hb)
         have n1_ := zaJ (zaG (g := gb476) (o := .cells #[.int .i64 ((zaA l0 x10_1).f0.f0), .int .i64 ((zaA l0 x10_1).f0.f1), .int .i64 ((zaA l0 x10_1).f0.f2), .int .i64 ((zaA l0 x10_1).f1.f0), .int .i64 ((zaA l0 x10_1).f1.f1), .int .i64 ((zaA l0 x10_1).f1.f2)] 36 (0, 0)) bk_ hb)
         have n2_ := (ns_ hb)
         clear BK474
         clear BK476
         clear HB
         have BK474 := n0_
         have BK476 := n1_
         have HB := n2_
         clear n0_ n1_ n2_
         (try clear hb)
         (try clear hb2)
         (try clear hk)
         (try clear hi)
         refine hK.out _ _ ⟨(zaB BK476.out 0).trans rfl, (zaB BK476.out 1).trans rfl, (zaB BK476.out 2).trans rfl, (zaB BK476.out 3).trans rfl, (zaB BK476.out 4).trans rfl, (zaB BK476.out 5).trans rfl, (zaB BK474.out 0).trans rfl, (zaB BK474.out 1).trans rfl, (zaB BK474.out 2).trans rfl, (zaB BK474.out 3).trans rfl, (zaB BK474.out 4).trans rfl, (zaB BK474.out 5).trans rfl, (zaR HB.out hw477_0), (zaR HB.out hw477_1), (zaR HB.out hw477_2), (zaR HB.out hw477_3), (zaR HB.out hw477_4), (zaR HB.out hw477_5)⟩ (fun hHeld => ?_)
         clear hK K
         refine zcX (a' := ?_) ?_ ?_
         rotate_left
         ·show Act.put _ (some 26) _ = _
          simp only [Act.put, List.setIfInBounds_toArray, List.set_cons_zero, List.set_cons_succ, zbW, zbY]
          rfl
         refine pu_ 12 (some 27) (bl_ 14 8191) ?_
         refine pu_ 13 (some 5) (bl_ 14 16383) ?_
         refine zeS (zdD HT_.out (by kernel_rfl)) ?_
         try go_wp2
         go_roundg k1
         case measure => have := HK1.out; omega
         case rel => exact ⟨(ji12), (wrap64 (x10_1 + 1)), (by first | rfl | (simp; done) | (simp only [← hji12] <;> (first | rfl | simp)) | (simp [*]; done)), (by first | rfl | (simp; done) | (simp [*]; done)), H', ⟨by have := HK1.out; omega⟩, ⟨bk_⟩, ⟨bb_⟩⟩
        ·rw [if_neg c10] at H
         exact absurd H (by simp)
       ·rw [if_neg c9] at H
        exact absurd H (by simp)
     ·rw [if_neg c6] at H
      exact absurd H (by simp)
    ·rw [if_neg c5] at H
     exact absurd H (by simp)
   ·rw [if_neg c4] at H
    have c4b0 : decide (x10_1 < (l0.length : Int)) = false := decide_eq_false c4
    clear c4
    obtain rfl := Option.some.inj H
    go_wp2
    go_ret
    exact ⟨by first | rfl | (simp [zaI, zaH] <;> rfl) | (simp [*, zaI, zaH] <;> rfl), bb_⟩

def zcG.f (k : Nat) (l0 : List (S36)) (a1_0 : Int) (a1_1 : Int) (a1_2 : Int) (a1_3 : Int) (a1_4 : Int) (a1_5 : Int) : Option (Int) := (zcA.f k l0).bind fun t480 => (if t480 = true then ((zcP.f a1_0 a1_1 a1_2 a1_3 a1_4 a1_5).bind fun t481 => (if t481 = true then ((zbN.f k l0 a1_0 a1_1 a1_2 a1_3 a1_4 a1_5).bind fun t482 => (some t482)) else (some (-1)))) else (some (-1)))
theorem zcG.mono : ∀ a0 a1 a2 a3 a4 a5 a6 k, LeO (zcG.f k a0 a1 a2 a3 a4 a5 a6) (zcG.f (k + 1) a0 a1 a2 a3 a4 a5 a6) := by
 intro a0 a1 a2 a3 a4 a5 a6 k
 unfold zcG.f
 repeat' first
   | (with_reducible exact zcA.mono _ _)
   | (with_reducible exact zbN.mono _ _ _ _ _ _ _ _)
   | (with_reducible exact LeO.refl _)
   | (with_reducible exact LeO.none _)
   | (with_reducible refine LeO.ite ?_ ?_)
   | (with_reducible refine LeO.bind ?_ (fun _ => ?_))
   | exact zcA.mono _ _
   | exact zbN.mono _ _ _ _ _ _ _ _
   | exact LeO.none _
   | refine LeO.ite ?_ ?_
   | refine LeO.bind ?_ (fun _ => ?_)
set_option maxHeartbeats 8000000 in
set_option maxRecDepth 100000 in
theorem zcG.calls (k : Nat) (A0 : Option Addr) (c0 : Nat) (l0 : List (S36)) (a1_0 : Int) (a1_1 : Int) (a1_2 : Int) (a1_3 : Int) (a1_4 : Int) (a1_5 : Int) (r : Int) (w : World) (hG : LaidV w) (hr0 : Kd.C k36 w A0 l0.length l0) (hc0 : l0.length ≤ c0) (h : zcG.f k l0 a1_0 a1_1 a1_2 a1_3 a1_4 a1_5 = some r) :
  Calls Tryd.prog 21 #[.slice A0 l0.length c0, .agg #[.int .i64 a1_0, .int .i64 a1_1, .int .i64 a1_2, .int .i64 a1_3, .int .i64 a1_4, .int .i64 a1_5]] w fun e w' => e = .returned (.int .i64 r) ∧ Below w.heap.size w w' := by
 have hu36 := Tryd.underlying36
 have HR0 := zaJ hr0
 have HC0 := zaJ hc0
 clear hr0 hc0
 have HB := zaJ (Below.refl w.heap.size w)
 have H : ((zcA.f k l0).bind fun t480 => (if t480 = true then ((zcP.f a1_0 a1_1 a1_2 a1_3 a1_4 a1_5).bind fun t481 => (if t481 = true then ((zbN.f k l0 a1_0 a1_1 a1_2 a1_3 a1_4 a1_5).bind fun t482 => (some t482)) else (some (-1)))) else (some (-1)))) = some r := h
 clear h
 replace H := Option.bind_eq_some_iff.mp H
 obtain ⟨t480, A30, H⟩ := H
 replace H : (if t480 = true then ((zcP.f a1_0 a1_1 a1_2 a1_3 a1_4 a1_5).bind fun t481 => (if t481 = true then ((zbN.f k l0 a1_0 a1_1 a1_2 a1_3 a1_4 a1_5).bind fun t482 => (some t482)) else (some (-1)))) else (some (-1))) = some r := H
 have A3 := zaJ A30
 clear A30
 by_cases c4 : t480 = true
 ·subst c4
  have H1 : ((zcP.f a1_0 a1_1 a1_2 a1_3 a1_4 a1_5).bind fun t481 => (if t481 = true then ((zbN.f k l0 a1_0 a1_1 a1_2 a1_3 a1_4 a1_5).bind fun t482 => (some t482)) else (some (-1)))) = some r := by rw [if_pos rfl] at H; exact H
  clear H
  have H := H1
  clear H1
  replace H := Option.bind_eq_some_iff.mp H
  obtain ⟨t481, A50, H⟩ := H
  replace H : (if t481 = true then ((zbN.f k l0 a1_0 a1_1 a1_2 a1_3 a1_4 a1_5).bind fun t482 => (some t482)) else (some (-1))) = some r := H
  have A5 := zaJ A50
  clear A50
  by_cases c6 : t481 = true
  ·subst c6
   have H1 : ((zbN.f k l0 a1_0 a1_1 a1_2 a1_3 a1_4 a1_5).bind fun t482 => (some t482)) = some r := by rw [if_pos rfl] at H; exact H
   clear H
   have H := H1
   clear H1
   replace H := Option.bind_eq_some_iff.mp H
   obtain ⟨t482, A70, H⟩ := H
   replace H : (some t482) = some r := H
   have A7 := zaJ A70
   clear A70
   obtain rfl := Option.some.inj H
   go_enter Tryd.func21, Tryd.ntmps21
   go_wp2_with (first | ((with_reducible refine zaQ (N := 3) rfl ?_); refine bx_ 3 #[.int .i64 a1_0, .int .i64 a1_1, .int .i64 a1_2, .int .i64 a1_3, .int .i64 a1_4, .int .i64 a1_5] 36 ?_; intro gb479 hg w8 hbox hb; have n0_ := (ns_ hb); have n1_ := zaJ (hbox); have n2_ := (ng_ hg); have n3_ := n2_; clear HB; have HB := n0_; have BK479 := n1_; have GW479 := n2_; have GE479 := n3_; clear n0_ n1_ n2_ n3_; clear hb hbox hg) | ((with_reducible refine zaK (f := 17) rfl ?_); refine zbQ (some 6) rfl rfl Tryd.func17 (by kernel_rfl) rfl #[.slice A0 l0.length c0] rfl (by (try simp only [List.map_toArray, List.map_cons, List.map_nil]); first | done | rfl | (simp only [List.length_drop, List.length_take]; rfl)) ?_; (with_reducible refine (zcA.calls k _ _ l0 true _ ?side3 ?side1 ?side2 A3.out).mono ?_); (case side1 => repeat (first | exact (Kd.C_below HR0.out HB.out) | (with_reducible refine Kd.C_alloc ?_ _) | (with_reducible refine Kd.C_drewN ?_ _) | (with_reducible refine Kd.C_drew ?_))); (case side2 => exact HC0.out); (case side3 => exact LaidV.below hG bb_); rintro e w9 ⟨rfl, hb⟩; refine ⟨_, rfl, ?_⟩; have n0_ := zaJ (zaG (g := gb479) (o := .cells #[.int .i64 a1_0, .int .i64 a1_1, .int .i64 a1_2, .int .i64 a1_3, .int .i64 a1_4, .int .i64 a1_5] 36 (0, 0)) bk_ hb); have n1_ := (ns_ hb); clear BK479; clear HB; have BK479 := n0_; have HB := n1_; clear n0_ n1_; (try clear hb); (try clear hb2); obtain ⟨hcz10_0, hcz10_1, hcz10_2, hcz10_3, hcz10_4, hcz10_5⟩ := zeX BK479.out; obtain ⟨hfz10_0, hfz10_1, hfz10_2, hfz10_3, hfz10_4, hfz10_5⟩ := zeW BK479.out) | (go_at_call 65; (with_reducible refine (zcP.calls a1_0 a1_1 a1_2 a1_3 a1_4 a1_5 true _ A5.out).mono ?_); rintro e w11 ⟨rfl, hb⟩; have n0_ := zaJ (zaG (g := gb479) (o := .cells #[.int .i64 a1_0, .int .i64 a1_1, .int .i64 a1_2, .int .i64 a1_3, .int .i64 a1_4, .int .i64 a1_5] 36 (0, 0)) bk_ hb); have n1_ := (ns_ hb); clear BK479; clear HB; have BK479 := n0_; have HB := n1_; clear n0_ n1_; (try clear hb); (try clear hb2); obtain ⟨hcz12_0, hcz12_1, hcz12_2, hcz12_3, hcz12_4, hcz12_5⟩ := zeX BK479.out; obtain ⟨hfz12_0, hfz12_1, hfz12_2, hfz12_3, hfz12_4, hfz12_5⟩ := zeW BK479.out) | ((with_reducible refine zaK (f := 66) rfl ?_); refine zbQ (some 15) rfl rfl Tryd.func66 (by kernel_rfl) rfl #[.slice A0 l0.length c0, .agg #[.int .i64 a1_0, .int .i64 a1_1, .int .i64 a1_2, .int .i64 a1_3, .int .i64 a1_4, .int .i64 a1_5]] rfl (by (try simp only [List.map_toArray, List.map_cons, List.map_nil]); first | done | rfl | (simp only [List.length_drop, List.length_take]; rfl)) ?_; (with_reducible refine (zbN.calls k _ _ l0 a1_0 a1_1 a1_2 a1_3 a1_4 a1_5 t482 _ ?side1 ?side2 A7.out).mono ?_); (case side1 => repeat (first | exact (Kd.C_below HR0.out HB.out) | (with_reducible refine Kd.C_alloc ?_ _) | (with_reducible refine Kd.C_drewN ?_ _) | (with_reducible refine Kd.C_drew ?_))); (case side2 => exact HC0.out); rintro e w13 ⟨rfl, hb⟩; refine ⟨_, rfl, ?_⟩; have n0_ := zaJ (zaG (g := gb479) (o := .cells #[.int .i64 a1_0, .int .i64 a1_1, .int .i64 a1_2, .int .i64 a1_3, .int .i64 a1_4, .int .i64 a1_5] 36 (0, 0)) bk_ hb); have n1_ := (ns_ hb); clear BK479; clear HB; have BK479 := n0_; have HB := n1_; clear n0_ n1_; (try clear hb); (try clear hb2)))
   go_ret
   exact ⟨by first | rfl | (simp [zaI, zaH] <;> rfl) | (simp [*, zaI, zaH] <;> rfl), bb_⟩
  ·replace c6 := Bool.eq_false_iff.mpr c6
   subst c6
   have H1 : (some (-1)) = some r := by rw [if_neg (show ¬ (false = true) by decide)] at H; exact H
   clear H
   have H := H1
   clear H1
   obtain rfl := Option.some.inj H
   go_enter Tryd.func21, Tryd.ntmps21
   go_wp2_with (first | ((with_reducible refine zaQ (N := 3) rfl ?_); refine bx_ 3 #[.int .i64 a1_0, .int .i64 a1_1, .int .i64 a1_2, .int .i64 a1_3, .int .i64 a1_4, .int .i64 a1_5] 36 ?_; intro gb479 hg w14 hbox hb; have n0_ := (ns_ hb); have n1_ := zaJ (hbox); have n2_ := (ng_ hg); have n3_ := n2_; clear HB; have HB := n0_; have BK479 := n1_; have GW479 := n2_; have GE479 := n3_; clear n0_ n1_ n2_ n3_; clear hb hbox hg) | ((with_reducible refine zaK (f := 17) rfl ?_); refine zbQ (some 6) rfl rfl Tryd.func17 (by kernel_rfl) rfl #[.slice A0 l0.length c0] rfl (by (try simp only [List.map_toArray, List.map_cons, List.map_nil]); first | done | rfl | (simp only [List.length_drop, List.length_take]; rfl)) ?_; (with_reducible refine (zcA.calls k _ _ l0 true _ ?side3 ?side1 ?side2 A3.out).mono ?_); (case side1 => repeat (first | exact (Kd.C_below HR0.out HB.out) | (with_reducible refine Kd.C_alloc ?_ _) | (with_reducible refine Kd.C_drewN ?_ _) | (with_reducible refine Kd.C_drew ?_))); (case side2 => exact HC0.out); (case side3 => exact LaidV.below hG bb_); rintro e w15 ⟨rfl, hb⟩; refine ⟨_, rfl, ?_⟩; have n0_ := zaJ (zaG (g := gb479) (o := .cells #[.int .i64 a1_0, .int .i64 a1_1, .int .i64 a1_2, .int .i64 a1_3, .int .i64 a1_4, .int .i64 a1_5] 36 (0, 0)) bk_ hb); have n1_ := (ns_ hb); clear BK479; clear HB; have BK479 := n0_; have HB := n1_; clear n0_ n1_; (try clear hb); (try clear hb2); obtain ⟨hcz16_0, hcz16_1, hcz16_2, hcz16_3, hcz16_4, hcz16_5⟩ := zeX BK479.out; obtain ⟨hfz16_0, hfz16_1, hfz16_2, hfz16_3, hfz16_4, hfz16_5⟩ := zeW BK479.out) | (go_at_call 65; (with_reducible refine (zcP.calls a1_0 a1_1 a1_2 a1_3 a1_4 a1_5 false _ A5.out).mono ?_); rintro e w17 ⟨rfl, hb⟩; have n0_ := zaJ (zaG (g := gb479) (o := .cells #[.int .i64 a1_0, .int .i64 a1_1, .int .i64 a1_2, .int .i64 a1_3, .int .i64 a1_4, .int .i64 a1_5] 36 (0, 0)) bk_ hb); have n1_ := (ns_ hb); clear BK479; clear HB; have BK479 := n0_; have HB := n1_; clear n0_ n1_; (try clear hb); (try clear hb2)))
   go_ret
   exact ⟨by first | rfl | (simp [zaI, zaH] <;> rfl) | (simp [*, zaI, zaH] <;> rfl), bb_⟩
 ·replace c4 := Bool.eq_false_iff.mpr c4
  subst c4
  have H1 : (some (-1)) = some r := by rw [if_neg (show ¬ (false = true) by decide)] at H; exact H
  clear H
  have H := H1
  clear H1
  obtain rfl := Option.some.inj H
  go_enter Tryd.func21, Tryd.ntmps21
  go_wp2_with (first | ((with_reducible refine zaQ (N := 3) rfl ?_); refine bx_ 3 #[.int .i64 a1_0, .int .i64 a1_1, .int .i64 a1_2, .int .i64 a1_3, .int .i64 a1_4, .int .i64 a1_5] 36 ?_; intro gb479 hg w18 hbox hb; have n0_ := (ns_ hb); have n1_ := zaJ (hbox); have n2_ := (ng_ hg); have n3_ := n2_; clear HB; have HB := n0_; have BK479 := n1_; have GW479 := n2_; have GE479 := n3_; clear n0_ n1_ n2_ n3_; clear hb hbox hg) | ((with_reducible refine zaK (f := 17) rfl ?_); refine zbQ (some 6) rfl rfl Tryd.func17 (by kernel_rfl) rfl #[.slice A0 l0.length c0] rfl (by (try simp only [List.map_toArray, List.map_cons, List.map_nil]); first | done | rfl | (simp only [List.length_drop, List.length_take]; rfl)) ?_; (with_reducible refine (zcA.calls k _ _ l0 false _ ?side3 ?side1 ?side2 A3.out).mono ?_); (case side1 => repeat (first | exact (Kd.C_below HR0.out HB.out) | (with_reducible refine Kd.C_alloc ?_ _) | (with_reducible refine Kd.C_drewN ?_ _) | (with_reducible refine Kd.C_drew ?_))); (case side2 => exact HC0.out); (case side3 => exact LaidV.below hG bb_); rintro e w19 ⟨rfl, hb⟩; refine ⟨_, rfl, ?_⟩; have n0_ := zaJ (zaG (g := gb479) (o := .cells #[.int .i64 a1_0, .int .i64 a1_1, .int .i64 a1_2, .int .i64 a1_3, .int .i64 a1_4, .int .i64 a1_5] 36 (0, 0)) bk_ hb); have n1_ := (ns_ hb); clear BK479; clear HB; have BK479 := n0_; have HB := n1_; clear n0_ n1_; (try clear hb); (try clear hb2)))
  go_ret
  exact ⟨by first | rfl | (simp [zaI, zaH] <;> rfl) | (simp [*, zaI, zaH] <;> rfl), bb_⟩

def laws_FnExactInPolygon.f (k : Nat) (l0 : List (S32)) (a1_0 : Int) (a1_1 : Int) (a1_2 : Int) (a1_3 : Int) (a1_4 : Int) (a1_5 : Int) : Option (Bool) := (zeD.f l0 1048576).bind fun t484 => (if t484 < 0 then (some true) else ((zaY.f k l0).bind fun t485 => ((zcO.f a1_0 a1_1 a1_2 a1_3 a1_4 a1_5).bind fun bt488 => ((zbG.f k t485 bt488.1 bt488.2.1 bt488.2.2.1 bt488.2.2.2.1 bt488.2.2.2.2.1 bt488.2.2.2.2.2).bind fun t494 => ((zaY.f k l0).bind fun t495 => ((zcO.f a1_0 a1_1 a1_2 a1_3 a1_4 a1_5).bind fun bt498 => ((zcG.f k t495 bt498.1 bt498.2.1 bt498.2.2.1 bt498.2.2.2.1 bt498.2.2.2.2.1 bt498.2.2.2.2.2).bind fun t504 => (if t504 = t494 then ((zaY.f k l0).bind fun t505 => ((zaZ.f k t495 t505).bind fun t508 => (if t508 = true then (some true) else (none)))) else (none)))))))))
theorem laws_FnExactInPolygon.mono : ∀ a0 a1 a2 a3 a4 a5 a6 k, LeO (laws_FnExactInPolygon.f k a0 a1 a2 a3 a4 a5 a6) (laws_FnExactInPolygon.f (k + 1) a0 a1 a2 a3 a4 a5 a6) := by
 intro a0 a1 a2 a3 a4 a5 a6 k
 unfold laws_FnExactInPolygon.f
 repeat' first
   | (with_reducible exact zcG.mono _ _ _ _ _ _ _ _)
   | (with_reducible exact zaZ.mono _ _ _)
   | (with_reducible exact zaY.mono _ _)
   | (with_reducible exact zbG.mono _ _ _ _ _ _ _ _)
   | (with_reducible exact LeO.refl _)
   | (with_reducible exact LeO.none _)
   | (with_reducible refine LeO.ite ?_ ?_)
   | (with_reducible refine LeO.bind ?_ (fun _ => ?_))
   | exact zcG.mono _ _ _ _ _ _ _ _
   | exact zaZ.mono _ _ _
   | exact zaY.mono _ _
   | exact zbG.mono _ _ _ _ _ _ _ _
   | exact LeO.none _
   | refine LeO.ite ?_ ?_
   | refine LeO.bind ?_ (fun _ => ?_)
set_option maxHeartbeats 8000000 in
set_option maxRecDepth 100000 in
theorem laws_FnExactInPolygon.calls (k : Nat) (A0 : Option Addr) (c0 : Nat) (l0 : List (S32)) (a1_0 : Int) (a1_1 : Int) (a1_2 : Int) (a1_3 : Int) (a1_4 : Int) (a1_5 : Int) (r : Bool) (w : World) (hG : LaidV w) (hr0 : Kd.C k32 w A0 l0.length l0) (hc0 : l0.length ≤ c0) (h : laws_FnExactInPolygon.f k l0 a1_0 a1_1 a1_2 a1_3 a1_4 a1_5 = some r) :
  Calls Tryd.prog 4 #[.slice A0 l0.length c0, .agg #[.int .i64 a1_0, .int .i64 a1_1, .int .i64 a1_2, .int .i64 a1_3, .int .i64 a1_4, .int .i64 a1_5]] w fun e w' => e = .returned (.bool r) ∧ Below w.heap.size w w' := by
 have hu32 := Tryd.underlying32
 have HR0 := zaJ hr0
 have HC0 := zaJ hc0
 clear hr0 hc0
 have HB := zaJ (Below.refl w.heap.size w)
 have H : ((zeD.f l0 1048576).bind fun t484 => (if t484 < 0 then (some true) else ((zaY.f k l0).bind fun t485 => ((zcO.f a1_0 a1_1 a1_2 a1_3 a1_4 a1_5).bind fun bt488 => ((zbG.f k t485 bt488.1 bt488.2.1 bt488.2.2.1 bt488.2.2.2.1 bt488.2.2.2.2.1 bt488.2.2.2.2.2).bind fun t494 => ((zaY.f k l0).bind fun t495 => ((zcO.f a1_0 a1_1 a1_2 a1_3 a1_4 a1_5).bind fun bt498 => ((zcG.f k t495 bt498.1 bt498.2.1 bt498.2.2.1 bt498.2.2.2.1 bt498.2.2.2.2.1 bt498.2.2.2.2.2).bind fun t504 => (if t504 = t494 then ((zaY.f k l0).bind fun t505 => ((zaZ.f k t495 t505).bind fun t508 => (if t508 = true then (some true) else (none)))) else (none)))))))))) = some r := h
 clear h
 replace H := Option.bind_eq_some_iff.mp H
 obtain ⟨t484, A30, H⟩ := H
 replace H : (if t484 < 0 then (some true) else ((zaY.f k l0).bind fun t485 => ((zcO.f a1_0 a1_1 a1_2 a1_3 a1_4 a1_5).bind fun bt488 => ((zbG.f k t485 bt488.1 bt488.2.1 bt488.2.2.1 bt488.2.2.2.1 bt488.2.2.2.2.1 bt488.2.2.2.2.2).bind fun t494 => ((zaY.f k l0).bind fun t495 => ((zcO.f a1_0 a1_1 a1_2 a1_3 a1_4 a1_5).bind fun bt498 => ((zcG.f k t495 bt498.1 bt498.2.1 bt498.2.2.1 bt498.2.2.2.1 bt498.2.2.2.2.1 bt498.2.2.2.2.2).bind fun t504 => (if t504 = t494 then ((zaY.f k l0).bind fun t505 => ((zaZ.f k t495 t505).bind fun t508 => (if t508 = true then (some true) else (none)))) else (none))))))))) = some r := H
 have A3 := zaJ A30
 clear A30
 by_cases c4 : t484 < 0
 ·rw [if_pos c4] at H
  have c4b0 : decide (t484 < 0) = true := decide_eq_true c4
  clear c4
  obtain rfl := Option.some.inj H
  go_enter Tryd.func4, Tryd.ntmps4
  go_wp2_with (first | ((with_reducible refine zaQ (N := 3) rfl ?_); refine bx_ 3 #[.int .i64 a1_0, .int .i64 a1_1, .int .i64 a1_2, .int .i64 a1_3, .int .i64 a1_4, .int .i64 a1_5] 32 ?_; intro gb483 hg w5 hbox hb; have n0_ := (ns_ hb); have n1_ := zaJ (hbox); have n2_ := (ng_ hg); have n3_ := n2_; clear HB; have HB := n0_; have BK483 := n1_; have GW483 := n2_; have GE483 := n3_; clear n0_ n1_ n2_ n3_; clear hb hbox hg) | ((with_reducible refine zaK (f := 14) rfl ?_); refine zbQ (some 11) rfl rfl Tryd.func14 (by kernel_rfl) rfl #[.slice A0 l0.length c0, .int .i64 1048576] rfl (by (try simp only [List.map_toArray, List.map_cons, List.map_nil]); first | done | rfl | (simp only [List.length_drop, List.length_take]; rfl)) ?_; (with_reducible refine (zeD.calls _ _ l0 1048576 t484 _ ?side1 ?side2 A3.out).mono ?_); (case side1 => repeat (first | exact (Kd.C_below HR0.out HB.out) | (with_reducible refine Kd.C_alloc ?_ _) | (with_reducible refine Kd.C_drewN ?_ _) | (with_reducible refine Kd.C_drew ?_))); (case side2 => exact HC0.out); rintro e w' ⟨rfl, ⟨nd, rfl⟩⟩; refine ⟨_, rfl, ?_⟩))
  go_ret
  exact ⟨by first | rfl | (simp [zaI, zaH] <;> rfl) | (simp [*, zaI, zaH] <;> rfl), bb_⟩
 ·rw [if_neg c4] at H
  have c4b0 : decide (t484 < 0) = false := decide_eq_false c4
  clear c4
  replace H := Option.bind_eq_some_iff.mp H
  obtain ⟨t485, A60, H⟩ := H
  replace H : ((zcO.f a1_0 a1_1 a1_2 a1_3 a1_4 a1_5).bind fun bt488 => ((zbG.f k t485 bt488.1 bt488.2.1 bt488.2.2.1 bt488.2.2.2.1 bt488.2.2.2.2.1 bt488.2.2.2.2.2).bind fun t494 => ((zaY.f k l0).bind fun t495 => ((zcO.f a1_0 a1_1 a1_2 a1_3 a1_4 a1_5).bind fun bt498 => ((zcG.f k t495 bt498.1 bt498.2.1 bt498.2.2.1 bt498.2.2.2.1 bt498.2.2.2.2.1 bt498.2.2.2.2.2).bind fun t504 => (if t504 = t494 then ((zaY.f k l0).bind fun t505 => ((zaZ.f k t495 t505).bind fun t508 => (if t508 = true then (some true) else (none)))) else (none))))))) = some r := H
  have A6 := zaJ A60
  clear A60
  replace H := Option.bind_eq_some_iff.mp H
  obtain ⟨⟨t488, t489, t490, t491, t492, t493⟩, A70, H⟩ := H
  replace H : ((zbG.f k t485 t488 t489 t490 t491 t492 t493).bind fun t494 => ((zaY.f k l0).bind fun t495 => ((zcO.f a1_0 a1_1 a1_2 a1_3 a1_4 a1_5).bind fun bt498 => ((zcG.f k t495 bt498.1 bt498.2.1 bt498.2.2.1 bt498.2.2.2.1 bt498.2.2.2.2.1 bt498.2.2.2.2.2).bind fun t504 => (if t504 = t494 then ((zaY.f k l0).bind fun t505 => ((zaZ.f k t495 t505).bind fun t508 => (if t508 = true then (some true) else (none)))) else (none)))))) = some r := H
  have A7 := zaJ A70
  clear A70
  replace H := Option.bind_eq_some_iff.mp H
  obtain ⟨t494, A80, H⟩ := H
  replace H : ((zaY.f k l0).bind fun t495 => ((zcO.f a1_0 a1_1 a1_2 a1_3 a1_4 a1_5).bind fun bt498 => ((zcG.f k t495 bt498.1 bt498.2.1 bt498.2.2.1 bt498.2.2.2.1 bt498.2.2.2.2.1 bt498.2.2.2.2.2).bind fun t504 => (if t504 = t494 then ((zaY.f k l0).bind fun t505 => ((zaZ.f k t495 t505).bind fun t508 => (if t508 = true then (some true) else (none)))) else (none))))) = some r := H
  have A8 := zaJ A80
  clear A80
  replace H := Option.bind_eq_some_iff.mp H
  obtain ⟨t495, A90, H⟩ := H
  replace H : ((zcO.f a1_0 a1_1 a1_2 a1_3 a1_4 a1_5).bind fun bt498 => ((zcG.f k t495 bt498.1 bt498.2.1 bt498.2.2.1 bt498.2.2.2.1 bt498.2.2.2.2.1 bt498.2.2.2.2.2).bind fun t504 => (if t504 = t494 then ((zaY.f k l0).bind fun t505 => ((zaZ.f k t495 t505).bind fun t508 => (if t508 = true then (some true) else (none)))) else (none)))) = some r := H
  have A9 := zaJ A90
  clear A90
  replace H := Option.bind_eq_some_iff.mp H
  obtain ⟨⟨t498, t499, t500, t501, t502, t503⟩, A100, H⟩ := H
  replace H : ((zcG.f k t495 t498 t499 t500 t501 t502 t503).bind fun t504 => (if t504 = t494 then ((zaY.f k l0).bind fun t505 => ((zaZ.f k t495 t505).bind fun t508 => (if t508 = true then (some true) else (none)))) else (none))) = some r := H
  have A10 := zaJ A100
  clear A100
  replace H := Option.bind_eq_some_iff.mp H
  obtain ⟨t504, A110, H⟩ := H
  replace H : (if t504 = t494 then ((zaY.f k l0).bind fun t505 => ((zaZ.f k t495 t505).bind fun t508 => (if t508 = true then (some true) else (none)))) else (none)) = some r := H
  have A11 := zaJ A110
  clear A110
  by_cases c12 : t504 = t494
  ·rw [if_pos c12] at H
   have c12b0 : (t504 == t494) = true := beq_iff_eq.mpr c12
   have c12b1 : (t504 != t494) = false := bne_eq_false_iff_eq.mpr c12
   clear c12
   replace H := Option.bind_eq_some_iff.mp H
   obtain ⟨t505, A130, H⟩ := H
   replace H : ((zaZ.f k t495 t505).bind fun t508 => (if t508 = true then (some true) else (none))) = some r := H
   have A13 := zaJ A130
   clear A130
   replace H := Option.bind_eq_some_iff.mp H
   obtain ⟨t508, A140, H⟩ := H
   replace H : (if t508 = true then (some true) else (none)) = some r := H
   have A14 := zaJ A140
   clear A140
   by_cases c15 : t508 = true
   ·subst c15
    have H1 : (some true) = some r := by rw [if_pos rfl] at H; exact H
    clear H
    have H := H1
    clear H1
    obtain rfl := Option.some.inj H
    go_enter Tryd.func4, Tryd.ntmps4
    try go_wp2_with (first | ((with_reducible refine zaQ (N := 3) rfl ?_); refine bx_ 3 #[.int .i64 a1_0, .int .i64 a1_1, .int .i64 a1_2, .int .i64 a1_3, .int .i64 a1_4, .int .i64 a1_5] 32 ?_; intro gb483 hg w16 hbox hb; have n0_ := (ns_ hb); have n1_ := zaJ (hbox); have n2_ := (ng_ hg); have n3_ := n2_; clear HB; have HB := n0_; have BK483 := n1_; have GW483 := n2_; have GE483 := n3_; clear n0_ n1_ n2_ n3_; clear hb hbox hg) | ((with_reducible refine zaK (f := 14) rfl ?_); refine zbQ (some 11) rfl rfl Tryd.func14 (by kernel_rfl) rfl #[.slice A0 l0.length c0, .int .i64 1048576] rfl (by (try simp only [List.map_toArray, List.map_cons, List.map_nil]); first | done | rfl | (simp only [List.length_drop, List.length_take]; rfl)) ?_; (with_reducible refine (zeD.calls _ _ l0 1048576 t484 _ ?side1 ?side2 A3.out).mono ?_); (case side1 => repeat (first | exact (Kd.C_below HR0.out HB.out) | (with_reducible refine Kd.C_alloc ?_ _) | (with_reducible refine Kd.C_drewN ?_ _) | (with_reducible refine Kd.C_drew ?_))); (case side2 => exact HC0.out); rintro e w' ⟨rfl, ⟨nd, rfl⟩⟩; refine ⟨_, rfl, ?_⟩))
    (try (rw [drewN_self w16]; generalize hq_ : World.drewN w16 _ = w16; have n0_ : Aside0 (w16.heap[gb483]? = some (.cells #[.int .i64 a1_0, .int .i64 a1_1, .int .i64 a1_2, .int .i64 a1_3, .int .i64 a1_4, .int .i64 a1_5] 32 (0, 0))) := ⟨by rw [← hq_]; exact bk_⟩; have n1_ : Aside0 (Below w.heap.size w w16) := ⟨by rw [← hq_]; exact bb_⟩; clear BK483 HB hq_; have BK483 := n0_; have HB := n1_; clear n0_ n1_))
    have n0_ := zaJ (zaE BK483.out)
    have n1_ := zaJ (zbT HB.out)
    clear BK483
    clear HB
    have BK483 := n0_
    have HB := n1_
    clear n0_ n1_
    refine zdL (n := 6) (S := fun w' => w'.cell? ⟨gb483, 0, none⟩ = some (.int .i64 a1_0) ∧ w'.cell? ⟨gb483, 1, none⟩ = some (.int .i64 a1_1) ∧ w'.cell? ⟨gb483, 2, none⟩ = some (.int .i64 a1_2) ∧ w'.cell? ⟨gb483, 3, none⟩ = some (.int .i64 a1_3) ∧ w'.cell? ⟨gb483, 4, none⟩ = some (.int .i64 a1_4) ∧ w'.cell? ⟨gb483, 5, none⟩ = some (.int .i64 a1_5)) (ds := []) #[false, false, false, false, false, false] (by kernel_rfl) rfl rfl ⟨(zaB BK483.out 0).trans rfl, (zaB BK483.out 1).trans rfl, (zaB BK483.out 2).trans rfl, (zaB BK483.out 3).trans rfl, (zaB BK483.out 4).trans rfl, (zaB BK483.out 5).trans rfl⟩ (fun hHeld => ?_)
    generalize w16.drew = w17 at BK483 HB hHeld ⊢
    refine zeU (i := 0) (N := some 14) (v := ?_) (a' := ?_) (bl_ 6 1) rfl rfl (by kernel_rfl) (fun _ _ _ h => h) (Or.inl ⟨by rfl, ?_⟩) ?_ ?_
    rotate_left
    ·intro w'
     go_simp
     with_reducible rfl
    rotate_left
    ·simp only [Act.put, List.setIfInBounds_toArray, List.set_cons_zero, List.set_cons_succ, zbW, zbY]
     rfl
    refine take_ (i := 2) (N := some 16) (v := ?_) (a' := ?_) (bl_ 6 5) rfl rfl (by kernel_rfl) (fun _ _ _ h => h) (Or.inl ⟨by rfl, ?_⟩) hHeld ?_ ?_
    rotate_left
    ·rintro w' ⟨s0, s1, s2, s3, s4, s5⟩
     go_simp
     with_reducible rfl
    rotate_left
    ·simp only [Act.put, List.setIfInBounds_toArray, List.set_cons_zero, List.set_cons_succ, zbW, zbY]
     rfl
    refine zeK (i := 1) (N := some 15) (bl_ 6 7) rfl rfl (by kernel_rfl) (by decide) (fun K hK => ?_)
    refine zcY Tryd.func16 (by kernel_rfl) rfl #[.slice A0 l0.length c0] (by rfl) rfl rfl (by (try simp only [List.map_toArray, List.map_cons, List.map_nil]); first | done | rfl | (simp only [List.length_drop, List.length_take]; rfl)) ?_
    with_reducible refine (zaY.calls k _ _ l0 t485 _ ?side1 ?side2 A6.out).mono ?_
    (case side1 => repeat (first | exact (Kd.C_below HR0.out HB.out) | (with_reducible refine Kd.C_alloc ?_ _) | (with_reducible refine Kd.C_drewN ?_ _) | (with_reducible refine Kd.C_drew ?_)))
    (case side2 => exact HC0.out)
    rintro e w18 ⟨v486, rfl, ho0, hb⟩
    refine ⟨_, rfl, ?_⟩
    have n0_ := zaJ (Kd.R_lower ho0 (zdA bb_))
    have n1_ := zaJ (zaG (g := gb483) (o := .cells #[.int .i64 a1_0, .int .i64 a1_1, .int .i64 a1_2, .int .i64 a1_3, .int .i64 a1_4, .int .i64 a1_5] 32 (0, 0)) bk_ hb)
    have n2_ := (ns_ hb)
    clear BK483
    clear HB
    have HO487 := n0_
    have BK483 := n1_
    have HB := n2_
    clear n0_ n1_ n2_
    (try clear hb)
    (try clear hb2)
    (try clear hk)
    (try clear hi)
    (try clear ho0)
    refine hK.out _ _ ⟨(zaB BK483.out 0).trans rfl, (zaB BK483.out 1).trans rfl, (zaB BK483.out 2).trans rfl, (zaB BK483.out 3).trans rfl, (zaB BK483.out 4).trans rfl, (zaB BK483.out 5).trans rfl⟩ (fun hHeld => ?_)
    clear hK K
    refine zcX (a' := ?_) ?_ ?_
    rotate_left
    ·show Act.put _ (some 15) _ = _
     simp only [Act.put, List.setIfInBounds_toArray, List.set_cons_zero, List.set_cons_succ, zbW, zbY]
     rfl
    refine zeK (i := 3) (N := some 17) (bl_ 6 15) rfl rfl (by kernel_rfl) (by decide) (fun K hK => ?_)
    refine zcY Tryd.func20 (by kernel_rfl) rfl #[.agg #[.int .i64 a1_0, .int .i64 a1_1, .int .i64 a1_2, .int .i64 a1_3, .int .i64 a1_4, .int .i64 a1_5]] (by rfl) rfl rfl (by (try simp only [List.map_toArray, List.map_cons, List.map_nil]); first | done | rfl | (simp only [List.length_drop, List.length_take]; rfl)) ?_
    with_reducible refine (zcO.calls a1_0 a1_1 a1_2 a1_3 a1_4 a1_5 t488 t489 t490 t491 t492 t493 _ A7.out).mono ?_
    rintro e w19 ⟨rfl, hb⟩
    refine ⟨_, rfl, ?_⟩
    have n0_ := zaJ (Kd.R_below (by (with_reducible repeat (first | apply Kd.R_alloc | apply Kd.R_drewN | apply Kd.R_drew)); exact HO487.out) hb)
    have n1_ := zaJ (zaG (g := gb483) (o := .cells #[.int .i64 a1_0, .int .i64 a1_1, .int .i64 a1_2, .int .i64 a1_3, .int .i64 a1_4, .int .i64 a1_5] 32 (0, 0)) bk_ hb)
    have n2_ := (ns_ hb)
    clear HO487
    clear BK483
    clear HB
    have HO487 := n0_
    have BK483 := n1_
    have HB := n2_
    clear n0_ n1_ n2_
    (try clear hb)
    (try clear hb2)
    (try clear hk)
    (try clear hi)
    obtain ⟨Ao20, co20, eo20⟩ := Kd.R_slice HO487.out
    (first | subst eo20 | (injection eo20 with f1_ f2_ f3_; have f4_ := f1_.symm; have f5_ := f3_.symm; clear f1_ f2_ f3_; subst f4_; subst f5_))
    refine hK.out _ _ ⟨(zaB BK483.out 0).trans rfl, (zaB BK483.out 1).trans rfl, (zaB BK483.out 2).trans rfl, (zaB BK483.out 3).trans rfl, (zaB BK483.out 4).trans rfl, (zaB BK483.out 5).trans rfl⟩ (fun hHeld => ?_)
    clear hK K
    refine zcX (a' := ?_) ?_ ?_
    rotate_left
    ·show Act.put _ (some 17) _ = _
     simp only [Act.put, List.setIfInBounds_toArray, List.set_cons_zero, List.set_cons_succ, zbW, zbY]
     rfl
    refine zeK (i := 4) (N := some 18) (bl_ 6 31) rfl rfl (by kernel_rfl) (by decide) (fun K hK => ?_)
    refine zcY Tryd.func19 (by kernel_rfl) rfl #[.slice Ao20 t485.length co20, .agg #[.int .i64 t488, .int .i64 t489, .int .i64 t490, .int .i64 t491, .int .i64 t492, .int .i64 t493]] (by rfl) rfl rfl (by (try simp only [List.map_toArray, List.map_cons, List.map_nil]); first | done | rfl | (simp only [List.length_drop, List.length_take]; rfl)) ?_
    with_reducible refine (zbG.calls k _ _ t485 t488 t489 t490 t491 t492 t493 t494 _ ?side1 ?side2 A8.out).mono ?_
    (case side1 => repeat (first | exact (Kd.R_reads' HO487.out).2.2 | (with_reducible refine Kd.C_alloc ?_ _) | (with_reducible refine Kd.C_drewN ?_ _) | (with_reducible refine Kd.C_drew ?_)))
    (case side2 => exact (Kd.R_reads' HO487.out).2.1)
    rintro e w21 ⟨rfl, hb⟩
    refine ⟨_, rfl, ?_⟩
    have n0_ := zaJ (Kd.R_below (by (with_reducible repeat (first | apply Kd.R_alloc | apply Kd.R_drewN | apply Kd.R_drew)); exact HO487.out) hb)
    have n1_ := zaJ (zaG (g := gb483) (o := .cells #[.int .i64 a1_0, .int .i64 a1_1, .int .i64 a1_2, .int .i64 a1_3, .int .i64 a1_4, .int .i64 a1_5] 32 (0, 0)) bk_ hb)
    have n2_ := (ns_ hb)
    clear HO487
    clear BK483
    clear HB
    have HO487 := n0_
    have BK483 := n1_
    have HB := n2_
    clear n0_ n1_ n2_
    (try clear hb)
    (try clear hb2)
    (try clear hk)
    (try clear hi)
    refine hK.out _ _ ⟨(zaB BK483.out 0).trans rfl, (zaB BK483.out 1).trans rfl, (zaB BK483.out 2).trans rfl, (zaB BK483.out 3).trans rfl, (zaB BK483.out 4).trans rfl, (zaB BK483.out 5).trans rfl⟩ (fun hHeld => ?_)
    clear hK K
    refine zcX (a' := ?_) ?_ ?_
    rotate_left
    ·show Act.put _ (some 18) _ = _
     simp only [Act.put, List.setIfInBounds_toArray, List.set_cons_zero, List.set_cons_succ, zbW, zbY]
     rfl
    refine zeU (i := 5) (N := some 6) (v := ?_) (a' := ?_) (bl_ 6 63) rfl rfl (by kernel_rfl) (fun _ _ _ h => h) (Or.inl ⟨by rfl, ?_⟩) ?_ ?_
    rotate_left
    ·intro w'
     go_simp
     with_reducible rfl
    rotate_left
    ·simp only [Act.put, List.setIfInBounds_toArray, List.set_cons_zero, List.set_cons_succ, zbW, zbY]
     rfl
    refine zeS (by kernel_rfl) ?_
    try go_wp2_with (first | ((with_reducible refine zaK (f := 16) rfl ?_); refine zbQ (some 20) rfl rfl Tryd.func16 (by kernel_rfl) rfl #[.slice A0 l0.length c0] rfl (by (try simp only [List.map_toArray, List.map_cons, List.map_nil]); first | done | rfl | (simp only [List.length_drop, List.length_take]; rfl)) ?_; (with_reducible refine (zaY.calls k _ _ l0 t495 _ ?side1 ?side2 A9.out).mono ?_); (case side1 => repeat (first | exact (Kd.C_below HR0.out HB.out) | (with_reducible refine Kd.C_alloc ?_ _) | (with_reducible refine Kd.C_drewN ?_ _) | (with_reducible refine Kd.C_drew ?_))); (case side2 => exact HC0.out); rintro e w22 ⟨v496, rfl, ho0, hb⟩; refine ⟨_, rfl, ?_⟩; have n0_ := zaJ (Kd.R_elder' (by (with_reducible repeat (first | apply Kd.R_alloc | apply Kd.R_drewN | apply Kd.R_drew)); exact HO487.out) (Kd.R_base ho0) hb); have n1_ := zaJ (Kd.R_lower (Kd.R_new' ho0 (Kd.R_lt (by (with_reducible repeat (first | apply Kd.R_alloc | apply Kd.R_drewN | apply Kd.R_drew)); exact HO487.out))) (zdA bb_)); have n2_ := zaJ (zaG (g := gb483) (o := .cells #[.int .i64 a1_0, .int .i64 a1_1, .int .i64 a1_2, .int .i64 a1_3, .int .i64 a1_4, .int .i64 a1_5] 32 (0, 0)) bk_ hb); have n3_ := (ns_ hb); clear HO487; clear BK483; clear HB; have HO487 := n0_; have HO497 := n1_; have BK483 := n2_; have HB := n3_; clear n0_ n1_ n2_ n3_; (try clear hb); (try clear hb2); (try clear ho0); obtain ⟨hcz23_0, hcz23_1, hcz23_2, hcz23_3, hcz23_4, hcz23_5⟩ := zeX BK483.out; obtain ⟨hfz23_0, hfz23_1, hfz23_2, hfz23_3, hfz23_4, hfz23_5⟩ := zeW BK483.out) | ((with_reducible refine zaK (f := 20) rfl ?_); refine zbQ (some 23) rfl rfl Tryd.func20 (by kernel_rfl) rfl #[.agg #[.int .i64 a1_0, .int .i64 a1_1, .int .i64 a1_2, .int .i64 a1_3, .int .i64 a1_4, .int .i64 a1_5]] rfl (by (try simp only [List.map_toArray, List.map_cons, List.map_nil]); first | done | rfl | (simp only [List.length_drop, List.length_take]; rfl)) ?_; (with_reducible refine (zcO.calls a1_0 a1_1 a1_2 a1_3 a1_4 a1_5 t498 t499 t500 t501 t502 t503 _ A10.out).mono ?_); rintro e w24 ⟨rfl, hb⟩; refine ⟨_, rfl, ?_⟩; have n0_ := zaJ (Kd.R_below (by (with_reducible repeat (first | apply Kd.R_alloc | apply Kd.R_drewN | apply Kd.R_drew)); exact HO487.out) hb); have n1_ := zaJ (Kd.R_below (by (with_reducible repeat (first | apply Kd.R_alloc | apply Kd.R_drewN | apply Kd.R_drew)); exact HO497.out) hb); have n2_ := zaJ (zaG (g := gb483) (o := .cells #[.int .i64 a1_0, .int .i64 a1_1, .int .i64 a1_2, .int .i64 a1_3, .int .i64 a1_4, .int .i64 a1_5] 32 (0, 0)) bk_ hb); have n3_ := (ns_ hb); clear HO487; clear HO497; clear BK483; clear HB; have HO487 := n0_; have HO497 := n1_; have BK483 := n2_; have HB := n3_; clear n0_ n1_ n2_ n3_; (try clear hb); (try clear hb2); obtain ⟨Ao25, co25, eo25⟩ := Kd.R_slice HO497.out; subst eo25) | ((with_reducible refine zaK (f := 21) rfl ?_); refine zbQ (some 24) rfl rfl Tryd.func21 (by kernel_rfl) rfl #[.slice Ao25 t495.length co25, .agg #[.int .i64 t498, .int .i64 t499, .int .i64 t500, .int .i64 t501, .int .i64 t502, .int .i64 t503]] rfl (by (try simp only [List.map_toArray, List.map_cons, List.map_nil]); first | done | rfl | (simp only [List.length_drop, List.length_take]; rfl)) ?_; (with_reducible refine (zcG.calls k _ _ t495 t498 t499 t500 t501 t502 t503 t504 _ ?side3 ?side1 ?side2 A11.out).mono ?_); (case side1 => repeat (first | exact (Kd.R_reads' HO497.out).2.2 | (with_reducible refine Kd.C_alloc ?_ _) | (with_reducible refine Kd.C_drewN ?_ _) | (with_reducible refine Kd.C_drew ?_))); (case side2 => exact (Kd.R_reads' HO497.out).2.1); (case side3 => exact LaidV.below hG bb_); rintro e w26 ⟨rfl, hb⟩; refine ⟨_, rfl, ?_⟩; have n0_ := zaJ (Kd.R_below (by (with_reducible repeat (first | apply Kd.R_alloc | apply Kd.R_drewN | apply Kd.R_drew)); exact HO487.out) hb); have n1_ := zaJ (Kd.R_below (by (with_reducible repeat (first | apply Kd.R_alloc | apply Kd.R_drewN | apply Kd.R_drew)); exact HO497.out) hb); have n2_ := zaJ (zaG (g := gb483) (o := .cells #[.int .i64 a1_0, .int .i64 a1_1, .int .i64 a1_2, .int .i64 a1_3, .int .i64 a1_4, .int .i64 a1_5] 32 (0, 0)) bk_ hb); have n3_ := (ns_ hb); clear HO487; clear HO497; clear BK483; clear HB; have HO487 := n0_; have HO497 := n1_; have BK483 := n2_; have HB := n3_; clear n0_ n1_ n2_ n3_; (try clear hb); (try clear hb2)) | ((with_reducible refine zaK (f := 16) rfl ?_); refine zbQ (some 30) rfl rfl Tryd.func16 (by kernel_rfl) rfl #[.slice A0 l0.length c0] rfl (by (try simp only [List.map_toArray, List.map_cons, List.map_nil]); first | done | rfl | (simp only [List.length_drop, List.length_take]; rfl)) ?_; (with_reducible refine (zaY.calls k _ _ l0 t505 _ ?side1 ?side2 A13.out).mono ?_); (case side1 => repeat (first | exact (Kd.C_below HR0.out HB.out) | (with_reducible refine Kd.C_alloc ?_ _) | (with_reducible refine Kd.C_drewN ?_ _) | (with_reducible refine Kd.C_drew ?_))); (case side2 => exact HC0.out); rintro e w27 ⟨v506, rfl, ho0, hb⟩; refine ⟨_, rfl, ?_⟩; have n0_ := zaJ (Kd.R_elder' (by (with_reducible repeat (first | apply Kd.R_alloc | apply Kd.R_drewN | apply Kd.R_drew)); exact HO487.out) (Kd.R_base ho0) hb); have n1_ := zaJ (Kd.R_elder' (by (with_reducible repeat (first | apply Kd.R_alloc | apply Kd.R_drewN | apply Kd.R_drew)); exact HO497.out) (Kd.R_base ho0) hb); have n2_ := zaJ (Kd.R_lower (Kd.R_new' (Kd.R_new' ho0 (Kd.R_lt (by (with_reducible repeat (first | apply Kd.R_alloc | apply Kd.R_drewN | apply Kd.R_drew)); exact HO487.out))) (Kd.R_lt (by (with_reducible repeat (first | apply Kd.R_alloc | apply Kd.R_drewN | apply Kd.R_drew)); exact HO497.out))) (zdA bb_)); have n3_ := zaJ (zaG (g := gb483) (o := .cells #[.int .i64 a1_0, .int .i64 a1_1, .int .i64 a1_2, .int .i64 a1_3, .int .i64 a1_4, .int .i64 a1_5] 32 (0, 0)) bk_ hb); have n4_ := (ns_ hb); clear HO487; clear HO497; clear BK483; clear HB; have HO487 := n0_; have HO497 := n1_; have HO507 := n2_; have BK483 := n3_; have HB := n4_; clear n0_ n1_ n2_ n3_ n4_; (try clear hb); (try clear hb2); (try clear ho0); obtain ⟨Ao28, co28, eo28⟩ := Kd.R_slice HO507.out; subst eo28) | ((with_reducible refine zaK (f := 18) rfl ?_); refine zbQ (some 31) rfl rfl Tryd.func18 (by kernel_rfl) rfl #[.slice Ao25 t495.length co25, .slice Ao28 t505.length co28] rfl (by (try simp only [List.map_toArray, List.map_cons, List.map_nil]); first | done | rfl | (simp only [List.length_drop, List.length_take]; rfl)) ?_; (with_reducible refine (zaZ.calls k _ _ t495 _ _ t505 true _ ?side1 ?side2 ?side3 ?side4 A14.out).mono ?_); (case side1 => repeat (first | exact (Kd.R_reads' HO497.out).2.2 | (with_reducible refine Kd.C_alloc ?_ _) | (with_reducible refine Kd.C_drewN ?_ _) | (with_reducible refine Kd.C_drew ?_))); (case side2 => exact (Kd.R_reads' HO497.out).2.1); (case side3 => repeat (first | exact (Kd.R_reads' HO507.out).2.2 | (with_reducible refine Kd.C_alloc ?_ _) | (with_reducible refine Kd.C_drewN ?_ _) | (with_reducible refine Kd.C_drew ?_))); (case side4 => exact (Kd.R_reads' HO507.out).2.1); rintro e w29 ⟨rfl, hb⟩; refine ⟨_, rfl, ?_⟩; have n0_ := zaJ (Kd.R_below (by (with_reducible repeat (first | apply Kd.R_alloc | apply Kd.R_drewN | apply Kd.R_drew)); exact HO487.out) hb); have n1_ := zaJ (Kd.R_below (by (with_reducible repeat (first | apply Kd.R_alloc | apply Kd.R_drewN | apply Kd.R_drew)); exact HO497.out) hb); have n2_ := zaJ (Kd.R_below (by (with_reducible repeat (first | apply Kd.R_alloc | apply Kd.R_drewN | apply Kd.R_drew)); exact HO507.out) hb); have n3_ := zaJ (zaG (g := gb483) (o := .cells #[.int .i64 a1_0, .int .i64 a1_1, .int .i64 a1_2, .int .i64 a1_3, .int .i64 a1_4, .int .i64 a1_5] 32 (0, 0)) bk_ hb); have n4_ := (ns_ hb); clear HO487; clear HO497; clear HO507; clear BK483; clear HB; have HO487 := n0_; have HO497 := n1_; have HO507 := n2_; have BK483 := n3_; have HB := n4_; clear n0_ n1_ n2_ n3_ n4_; (try clear hb); (try clear hb2)))
    go_ret
    exact ⟨by first | rfl | (simp [zaI, zaH] <;> rfl) | (simp [*, zaI, zaH] <;> rfl), bb_⟩
   ·replace c15 := Bool.eq_false_iff.mpr c15
    subst c15
    have H1 : (none) = some r := by rw [if_neg (show ¬ (false = true) by decide)] at H; exact H
    clear H
    have H := H1
    clear H1
    exact absurd H (by simp)
  ·rw [if_neg c12] at H
   exact absurd H (by simp)
def ok30 (x : S30) : Prop := (Lit.int .i64 x.f0).wf = true ∧ (Lit.int .i64 x.f1).wf = true ∧ (Lit.int .i64 x.f2).wf = true
def ok32 (x : S32) : Prop := ok30 x.f0 ∧ ok30 x.f1

def laws_FnExactInPolygon.Pure : Prop := ∀ (l0 : List (S32)) (a1_0 : Int) (a1_1 : Int) (a1_2 : Int) (a1_3 : Int) (a1_4 : Int) (a1_5 : Int), (l0.length ≤ maxLen ∧ ∀ x_ ∈ l0, ok32 x_) → ok32 (⟨(⟨a1_0, a1_1, a1_2⟩ : S30), (⟨a1_3, a1_4, a1_5⟩ : S30)⟩ : S32) → ∃ k, laws_FnExactInPolygon.f k l0 a1_0 a1_1 a1_2 a1_3 a1_4 a1_5 = some true

end Go.Proofs.YtmajpmofeddknaaDoor.PFnExactInPolygon
