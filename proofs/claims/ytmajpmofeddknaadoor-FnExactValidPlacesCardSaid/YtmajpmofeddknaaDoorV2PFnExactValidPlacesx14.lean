-- Printed for this claim by this session's program pp.py, which drives the kit's print with additions. Not trusted: Lean checks it.
import Derived.Test.YtmajpmofeddknaaDoorV2PFnExactValidPlacesx0
import Derived.Test.YtmajpmofeddknaaDoorV2PFnExactValidPlacesx13
namespace Go.Proofs.YtmajpmofeddknaaDoor.PFnExactValidPlaces
open Go.RowKit Go.Proofs.YtmajpmofeddknaaDoorW.PrintWords Go.Proofs.YtmajpmofeddknaaDoorW.PrintLast Go.Proofs.YtmajpmofeddknaaDoorW.PrintMore
attribute [local go_sem] zbB ziC zrC zhD znE zuB znH zkT   -- for this text's walks alone
set_option linter.unusedVariables false
set_option linter.unusedSimpArgs false

def zcH.l0 : Nat → List (S36) → List (S36) → Int → Option (Bool)
 | 0, _, _, _ => none
 | k + 1, x0, x1, x5 => if x5 < (x0.length : Int) then (if 0 ≤ x5 then (if x5 < (x1.length : Int) then ((zkR.f ((ztO x0 x5).f0.f0) ((ztO x0 x5).f0.f1) ((ztO x0 x5).f0.f2) ((ztO x0 x5).f1.f0) ((ztO x0 x5).f1.f1) ((ztO x0 x5).f1.f2) ((ztO x1 x5).f0.f0) ((ztO x1 x5).f0.f1) ((ztO x1 x5).f0.f2) ((ztO x1 x5).f1.f0) ((ztO x1 x5).f1.f1) ((ztO x1 x5).f1.f2)).bind fun t442 => (if t442 = true then (zcH.l0 k x0 x1 (wrap64 (x5 + 1))) else (some false))) else (none)) else (none)) else (some true)
def zcH.f (k : Nat) (l0 : List (S36)) (l1 : List (S36)) : Option (Bool) := if (l0.length : Int) = (l1.length : Int) then (zcH.l0 k l0 l1 0) else (some false)
theorem zcH.mono_l : ∀ k, (∀ y0 y1 y2, LeO (zcH.l0 k y0 y1 y2) (zcH.l0 (k + 1) y0 y1 y2))
 | 0 => fun _ _ _ r h => by simp [zcH.l0] at h
 | k + 1 => by
  have ih0 := zcH.mono_l k
  ·intro y0 y1 y2
   unfold zcH.l0
   repeat' first
   | (with_reducible exact ih0 _ _ _)
   | (with_reducible exact LeO.refl _)
   | (with_reducible exact LeO.none _)
   | (with_reducible refine LeO.ite ?_ ?_)
   | (with_reducible refine LeO.bind ?_ (fun _ => ?_))
   | exact ih0 _ _ _
   | exact LeO.none _
   | refine LeO.ite ?_ ?_
   | refine LeO.bind ?_ (fun _ => ?_)
theorem zcH.mono : ∀ a0 a1 k, LeO (zcH.f k a0 a1) (zcH.f (k + 1) a0 a1) := by
 intro a0 a1 k
 have ih0 := zcH.mono_l k
 unfold zcH.f
 repeat' first
   | (with_reducible exact ih0 _ _ _)
   | (with_reducible exact LeO.refl _)
   | (with_reducible exact LeO.none _)
   | (with_reducible refine LeO.ite ?_ ?_)
   | (with_reducible refine LeO.bind ?_ (fun _ => ?_))
   | exact ih0 _ _ _
   | exact LeO.none _
   | refine LeO.ite ?_ ?_
   | refine LeO.bind ?_ (fun _ => ?_)
def zcH.T6 : Bool × List (List Nat × List Nat) := (true, [([], []), ([], []), ([0, 1], [0, 1]), ([2], [2]), ([], []), ([], []), ([4, 5], [4, 5]), ([6], [6]), ([3, 7], [3, 7]), ([8], [8])])
def zcH.B6 : List Nat := [0, 0, 3, 7, 0, 0, 48, 112, 255, 511]
theorem zcH.tab6 : rtab .any (opsOf Tryd.f18 6) = zcH.T6 := by kernel_rfl
theorem zcH.bits6 : ztG zcH.T6.2 zcH.B6 = true := by kernel_rfl
set_option maxHeartbeats 8000000 in
set_option maxRecDepth 100000 in
theorem zcH.calls (k : Nat) (A0 : Option Addr) (c0 : Nat) (l0 : List (S36)) (A1 : Option Addr) (c1 : Nat) (l1 : List (S36)) (r : Bool) (w : World) (hr0 : Kd.C k36 w A0 l0.length l0) (hc0 : l0.length ≤ c0) (hr1 : Kd.C k36 w A1 l1.length l1) (hc1 : l1.length ≤ c1) (h : zcH.f k l0 l1 = some r) :
  Calls Tryd.prog 18 #[.slice A0 l0.length c0, .slice A1 l1.length c1] w fun e w' => e = .returned (.bool r) ∧ Below w.heap.size w w' := by
 have hu36 := Tryd.underlying36
 have HR0 := zpS hr0
 have HC0 := zpS hc0
 clear hr0 hc0
 have HR1 := zpS hr1
 have HC1 := zpS hc1
 clear hr1 hc1
 have HB := zpS (Below.refl w.heap.size w)
 have H : (if (l0.length : Int) = (l1.length : Int) then (zcH.l0 k l0 l1 0) else (some false)) = some r := h
 clear h
 by_cases c3 : (l0.length : Int) = (l1.length : Int)
 ·rw [if_pos c3] at H
  have c3b0 : ((l0.length : Int) == (l1.length : Int)) = true := beq_iff_eq.mpr c3
  have c3b1 : ((l0.length : Int) != (l1.length : Int)) = false := bne_eq_false_iff_eq.mpr c3
  have c3b2 : (l0.length == l1.length) = true := by first | simpa using c3 | (simp at c3 ⊢; omega)
  clear c3
  have H' := zpS H
  clear H
  go_enter Tryd.func18, Tryd.ntmps18
  go_wp2
  (try go_simp)
  go_loopg [5] k (fun kq v5 w' => ∃ (x5_1 : Int), v5 = .int .i64 x5_1 ∧ Aside0 (zcH.l0 kq l0 l1 x5_1 = some r) ∧ Aside0 (kq ≤ k) ∧ Aside0 (Below w.heap.size w w'))
  case atStart => exact ⟨(0), (by first | rfl | (simp; done) | (simp [*]; done)), H', ⟨Nat.le_refl _⟩, ⟨bb_⟩⟩
  case round =>
   clear H'
   try clear c1
   try clear p2
   try clear c3
   try clear c3b0
   try clear c3b1
   try clear c3b2
   obtain ⟨x5_1, rfl, HA, HK1, HB⟩ := hrel
   cases gk with
   | zero => exact absurd HA.out (by simp [zcH.l0])
   | succ k1 =>
    have H := HA.out
    clear HA
    simp only [zcH.l0] at H
    by_cases c4 : x5_1 < (l0.length : Int)
    ·rw [if_pos c4] at H
     have c4b0 : decide (x5_1 < (l0.length : Int)) = true := decide_eq_true c4
     clear c4
     by_cases c5 : 0 ≤ x5_1
     ·rw [if_pos c5] at H
      have c5b0 : decide (0 ≤ x5_1) = true := decide_eq_true c5
      clear c5
      by_cases c6 : x5_1 < (l1.length : Int)
      ·rw [if_pos c6] at H
       have c6b0 : decide (x5_1 < (l1.length : Int)) = true := decide_eq_true c6
       clear c6
       replace H := Option.bind_eq_some_iff.mp H
       obtain ⟨t442, A70, H⟩ := H
       replace H : (if t442 = true then (zcH.l0 k1 l0 l1 (wrap64 (x5_1 + 1))) else (some false)) = some r := H
       have A7 := zpS A70
       clear A70
       by_cases c8 : t442 = true
       ·subst c8
        have H1 : (zcH.l0 k1 l0 l1 (wrap64 (x5_1 + 1))) = some r := by rw [if_pos rfl] at H; exact H
        clear H
        have H := H1
        clear H1
        have H' := zpS H
        clear H
        try go_wp2
        have n0_ := zpS (zvF HB.out)
        clear HB
        have HB := n0_
        clear n0_
        have p440 : 0 ≤ (x5_1 : Int) := of_decide_eq_true (by first | (with_reducible assumption) | assumption)
        have q440 : x5_1 < (l0.length : Int) := of_decide_eq_true (by first | (with_reducible assumption) | assumption)
        obtain ⟨ad440, e440, hx440_0, hx440_1, hx440_2, hx440_3, hx440_4, hx440_5⟩ := zqG HR0.out x5_1 p440 q440
        have hw440_5 := hx440_5
        have hw440_4 := hx440_4
        have hw440_3 := hx440_3
        have hw440_2 := hx440_2
        have hw440_1 := hx440_1
        have hw440_0 := hx440_0
        cases e440
        replace hx440_0 := zeA HB.out hx440_0
        replace hx440_1 := zeA HB.out hx440_1
        replace hx440_2 := zeA HB.out hx440_2
        replace hx440_3 := zeA HB.out hx440_3
        replace hx440_4 := zeA HB.out hx440_4
        replace hx440_5 := zeA HB.out hx440_5
        replace p440 := eq_true p440
        replace q440 := eq_true q440
        have p441 : 0 ≤ (x5_1 : Int) := of_decide_eq_true (by first | (with_reducible assumption) | assumption)
        have q441 : x5_1 < (l1.length : Int) := of_decide_eq_true (by first | (with_reducible assumption) | assumption)
        obtain ⟨ad441, e441, hx441_0, hx441_1, hx441_2, hx441_3, hx441_4, hx441_5⟩ := zqG HR1.out x5_1 p441 q441
        have hw441_5 := hx441_5
        have hw441_4 := hx441_4
        have hw441_3 := hx441_3
        have hw441_2 := hx441_2
        have hw441_1 := hx441_1
        have hw441_0 := hx441_0
        cases e441
        replace hx441_0 := zeA HB.out hx441_0
        replace hx441_1 := zeA HB.out hx441_1
        replace hx441_2 := zeA HB.out hx441_2
        replace hx441_3 := zeA HB.out hx441_3
        replace hx441_4 := zeA HB.out hx441_4
        replace hx441_5 := zeA HB.out hx441_5
        replace p441 := eq_true p441
        replace q441 := eq_true q441
        refine zpB (n := 10) (S := fun w' => w'.cell? (ad440.add ((x5_1).toNat * 6)) = some (.int .i64 ((ztO l0 x5_1).f0.f0)) ∧ w'.cell? ⟨(ad440.add ((x5_1).toNat * 6)).block, (ad440.add ((x5_1).toNat * 6)).off + 1, none⟩ = some (.int .i64 ((ztO l0 x5_1).f0.f1)) ∧ w'.cell? ⟨(ad440.add ((x5_1).toNat * 6)).block, (ad440.add ((x5_1).toNat * 6)).off + 2, none⟩ = some (.int .i64 ((ztO l0 x5_1).f0.f2)) ∧ w'.cell? ⟨(ad440.add ((x5_1).toNat * 6)).block, (ad440.add ((x5_1).toNat * 6)).off + 3, none⟩ = some (.int .i64 ((ztO l0 x5_1).f1.f0)) ∧ w'.cell? ⟨(ad440.add ((x5_1).toNat * 6)).block, (ad440.add ((x5_1).toNat * 6)).off + 4, none⟩ = some (.int .i64 ((ztO l0 x5_1).f1.f1)) ∧ w'.cell? ⟨(ad440.add ((x5_1).toNat * 6)).block, (ad440.add ((x5_1).toNat * 6)).off + 5, none⟩ = some (.int .i64 ((ztO l0 x5_1).f1.f2)) ∧ w'.cell? (ad441.add ((x5_1).toNat * 6)) = some (.int .i64 ((ztO l1 x5_1).f0.f0)) ∧ w'.cell? ⟨(ad441.add ((x5_1).toNat * 6)).block, (ad441.add ((x5_1).toNat * 6)).off + 1, none⟩ = some (.int .i64 ((ztO l1 x5_1).f0.f1)) ∧ w'.cell? ⟨(ad441.add ((x5_1).toNat * 6)).block, (ad441.add ((x5_1).toNat * 6)).off + 2, none⟩ = some (.int .i64 ((ztO l1 x5_1).f0.f2)) ∧ w'.cell? ⟨(ad441.add ((x5_1).toNat * 6)).block, (ad441.add ((x5_1).toNat * 6)).off + 3, none⟩ = some (.int .i64 ((ztO l1 x5_1).f1.f0)) ∧ w'.cell? ⟨(ad441.add ((x5_1).toNat * 6)).block, (ad441.add ((x5_1).toNat * 6)).off + 4, none⟩ = some (.int .i64 ((ztO l1 x5_1).f1.f1)) ∧ w'.cell? ⟨(ad441.add ((x5_1).toNat * 6)).block, (ad441.add ((x5_1).toNat * 6)).off + 5, none⟩ = some (.int .i64 ((ztO l1 x5_1).f1.f2))) (ds := []) #[false, false, false, false, false, false, false, false, false, false] (by kernel_rfl) rfl rfl ⟨(zeA HB.out hw440_0), (zeA HB.out hw440_1), (zeA HB.out hw440_2), (zeA HB.out hw440_3), (zeA HB.out hw440_4), (zeA HB.out hw440_5), (zeA HB.out hw441_0), (zeA HB.out hw441_1), (zeA HB.out hw441_2), (zeA HB.out hw441_3), (zeA HB.out hw441_4), (zeA HB.out hw441_5)⟩ (fun hHeld => ?_); refine zwI zcH.tab6 zcH.bits6 (fun HT_ HW_ => ?_)
        generalize wr.drew = w9 at HB hx440_0 hx440_1 hx440_2 hx440_3 hx440_4 hx440_5 hx441_0 hx441_1 hx441_2 hx441_3 hx441_4 hx441_5 hHeld ⊢
        refine pu_ 0 (some 17) (bl_ 10 1) ?_
        refine pu_ 1 (some 18) (bl_ 10 3) ?_
        refine pu_ 2 (some 19) (bl_ 10 7) ?_
        refine pu_ 4 (some 21) (bl_ 10 23) ?_
        refine pu_ 5 (some 22) (bl_ 10 55) ?_
        refine pu_ 6 (some 23) (bl_ 10 119) ?_
        refine zmW 3 (some 20) (bl_ 10 127) hHeld ?_
        refine zmW 7 (some 24) (bl_ 10 255) hHeld ?_
        refine zdC (i := 8) (N := some 25) (bl_ 10 511) rfl rfl (zeO HT_.out (by kernel_rfl)) (by decide) (fun K hK => ?_)
        refine zqW Tryd.func49 (by kernel_rfl) rfl #[.agg #[.int .i64 ((ztO l0 x5_1).f0.f0), .int .i64 ((ztO l0 x5_1).f0.f1), .int .i64 ((ztO l0 x5_1).f0.f2), .int .i64 ((ztO l0 x5_1).f1.f0), .int .i64 ((ztO l0 x5_1).f1.f1), .int .i64 ((ztO l0 x5_1).f1.f2)], .agg #[.int .i64 ((ztO l1 x5_1).f0.f0), .int .i64 ((ztO l1 x5_1).f0.f1), .int .i64 ((ztO l1 x5_1).f0.f2), .int .i64 ((ztO l1 x5_1).f1.f0), .int .i64 ((ztO l1 x5_1).f1.f1), .int .i64 ((ztO l1 x5_1).f1.f2)]] (by rfl) rfl rfl (by (try simp only [List.map_toArray, List.map_cons, List.map_nil]); first | done | rfl | (simp only [List.length_drop, List.length_take]; rfl)) ?_
        with_reducible refine (zkR.calls ((ztO l0 x5_1).f0.f0) ((ztO l0 x5_1).f0.f1) ((ztO l0 x5_1).f0.f2) ((ztO l0 x5_1).f1.f0) ((ztO l0 x5_1).f1.f1) ((ztO l0 x5_1).f1.f2) ((ztO l1 x5_1).f0.f0) ((ztO l1 x5_1).f0.f1) ((ztO l1 x5_1).f0.f2) ((ztO l1 x5_1).f1.f0) ((ztO l1 x5_1).f1.f1) ((ztO l1 x5_1).f1.f2) true _ A7.out).mono ?_
        rintro e w10 ⟨rfl, hb⟩
        refine ⟨_, rfl, ?_⟩
        have n0_ := (ns_ hb)
        clear HB
        have HB := n0_
        clear n0_
        (try clear hb)
        (try clear hb2)
        (try clear hk)
        (try clear hi)
        refine hK.out _ _ ⟨(zeA HB.out hw440_0), (zeA HB.out hw440_1), (zeA HB.out hw440_2), (zeA HB.out hw440_3), (zeA HB.out hw440_4), (zeA HB.out hw440_5), (zeA HB.out hw441_0), (zeA HB.out hw441_1), (zeA HB.out hw441_2), (zeA HB.out hw441_3), (zeA HB.out hw441_4), (zeA HB.out hw441_5)⟩ (fun hHeld => ?_)
        clear hK K
        refine zaN (a' := ?_) ?_ ?_
        rotate_left
        ·show Act.put _ (some 25) _ = _
         simp only [Act.put, List.setIfInBounds_toArray, List.set_cons_zero, List.set_cons_succ, zcM, ziJ]
         rfl
        refine pu_ 9 (some 26) (bl_ 10 1023) ?_
        refine znK (zzP HT_.out (by kernel_rfl)) ?_
        try go_wp2
        go_roundg k1
        case measure => have := HK1.out; omega
        case rel => exact ⟨(wrap64 (x5_1 + 1)), (by first | rfl | (simp; done) | (simp [*]; done)), H', ⟨by have := HK1.out; omega⟩, ⟨bb_⟩⟩
       ·replace c8 := Bool.eq_false_iff.mpr c8
        subst c8
        have H1 : (some false) = some r := by rw [if_neg (show ¬ (false = true) by decide)] at H; exact H
        clear H
        have H := H1
        clear H1
        obtain rfl := Option.some.inj H
        try go_wp2
        have n0_ := zpS (zvF HB.out)
        clear HB
        have HB := n0_
        clear n0_
        have p440 : 0 ≤ (x5_1 : Int) := of_decide_eq_true (by first | (with_reducible assumption) | assumption)
        have q440 : x5_1 < (l0.length : Int) := of_decide_eq_true (by first | (with_reducible assumption) | assumption)
        obtain ⟨ad440, e440, hx440_0, hx440_1, hx440_2, hx440_3, hx440_4, hx440_5⟩ := zqG HR0.out x5_1 p440 q440
        have hw440_5 := hx440_5
        have hw440_4 := hx440_4
        have hw440_3 := hx440_3
        have hw440_2 := hx440_2
        have hw440_1 := hx440_1
        have hw440_0 := hx440_0
        cases e440
        replace hx440_0 := zeA HB.out hx440_0
        replace hx440_1 := zeA HB.out hx440_1
        replace hx440_2 := zeA HB.out hx440_2
        replace hx440_3 := zeA HB.out hx440_3
        replace hx440_4 := zeA HB.out hx440_4
        replace hx440_5 := zeA HB.out hx440_5
        replace p440 := eq_true p440
        replace q440 := eq_true q440
        have p441 : 0 ≤ (x5_1 : Int) := of_decide_eq_true (by first | (with_reducible assumption) | assumption)
        have q441 : x5_1 < (l1.length : Int) := of_decide_eq_true (by first | (with_reducible assumption) | assumption)
        obtain ⟨ad441, e441, hx441_0, hx441_1, hx441_2, hx441_3, hx441_4, hx441_5⟩ := zqG HR1.out x5_1 p441 q441
        have hw441_5 := hx441_5
        have hw441_4 := hx441_4
        have hw441_3 := hx441_3
        have hw441_2 := hx441_2
        have hw441_1 := hx441_1
        have hw441_0 := hx441_0
        cases e441
        replace hx441_0 := zeA HB.out hx441_0
        replace hx441_1 := zeA HB.out hx441_1
        replace hx441_2 := zeA HB.out hx441_2
        replace hx441_3 := zeA HB.out hx441_3
        replace hx441_4 := zeA HB.out hx441_4
        replace hx441_5 := zeA HB.out hx441_5
        replace p441 := eq_true p441
        replace q441 := eq_true q441
        refine zpB (n := 10) (S := fun w' => w'.cell? (ad440.add ((x5_1).toNat * 6)) = some (.int .i64 ((ztO l0 x5_1).f0.f0)) ∧ w'.cell? ⟨(ad440.add ((x5_1).toNat * 6)).block, (ad440.add ((x5_1).toNat * 6)).off + 1, none⟩ = some (.int .i64 ((ztO l0 x5_1).f0.f1)) ∧ w'.cell? ⟨(ad440.add ((x5_1).toNat * 6)).block, (ad440.add ((x5_1).toNat * 6)).off + 2, none⟩ = some (.int .i64 ((ztO l0 x5_1).f0.f2)) ∧ w'.cell? ⟨(ad440.add ((x5_1).toNat * 6)).block, (ad440.add ((x5_1).toNat * 6)).off + 3, none⟩ = some (.int .i64 ((ztO l0 x5_1).f1.f0)) ∧ w'.cell? ⟨(ad440.add ((x5_1).toNat * 6)).block, (ad440.add ((x5_1).toNat * 6)).off + 4, none⟩ = some (.int .i64 ((ztO l0 x5_1).f1.f1)) ∧ w'.cell? ⟨(ad440.add ((x5_1).toNat * 6)).block, (ad440.add ((x5_1).toNat * 6)).off + 5, none⟩ = some (.int .i64 ((ztO l0 x5_1).f1.f2)) ∧ w'.cell? (ad441.add ((x5_1).toNat * 6)) = some (.int .i64 ((ztO l1 x5_1).f0.f0)) ∧ w'.cell? ⟨(ad441.add ((x5_1).toNat * 6)).block, (ad441.add ((x5_1).toNat * 6)).off + 1, none⟩ = some (.int .i64 ((ztO l1 x5_1).f0.f1)) ∧ w'.cell? ⟨(ad441.add ((x5_1).toNat * 6)).block, (ad441.add ((x5_1).toNat * 6)).off + 2, none⟩ = some (.int .i64 ((ztO l1 x5_1).f0.f2)) ∧ w'.cell? ⟨(ad441.add ((x5_1).toNat * 6)).block, (ad441.add ((x5_1).toNat * 6)).off + 3, none⟩ = some (.int .i64 ((ztO l1 x5_1).f1.f0)) ∧ w'.cell? ⟨(ad441.add ((x5_1).toNat * 6)).block, (ad441.add ((x5_1).toNat * 6)).off + 4, none⟩ = some (.int .i64 ((ztO l1 x5_1).f1.f1)) ∧ w'.cell? ⟨(ad441.add ((x5_1).toNat * 6)).block, (ad441.add ((x5_1).toNat * 6)).off + 5, none⟩ = some (.int .i64 ((ztO l1 x5_1).f1.f2))) (ds := []) #[false, false, false, false, false, false, false, false, false, false] (by kernel_rfl) rfl rfl ⟨(zeA HB.out hw440_0), (zeA HB.out hw440_1), (zeA HB.out hw440_2), (zeA HB.out hw440_3), (zeA HB.out hw440_4), (zeA HB.out hw440_5), (zeA HB.out hw441_0), (zeA HB.out hw441_1), (zeA HB.out hw441_2), (zeA HB.out hw441_3), (zeA HB.out hw441_4), (zeA HB.out hw441_5)⟩ (fun hHeld => ?_); refine zwI zcH.tab6 zcH.bits6 (fun HT_ HW_ => ?_)
        generalize wr.drew = w11 at HB hx440_0 hx440_1 hx440_2 hx440_3 hx440_4 hx440_5 hx441_0 hx441_1 hx441_2 hx441_3 hx441_4 hx441_5 hHeld ⊢
        refine pu_ 0 (some 17) (bl_ 10 1) ?_
        refine pu_ 1 (some 18) (bl_ 10 3) ?_
        refine pu_ 2 (some 19) (bl_ 10 7) ?_
        refine pu_ 4 (some 21) (bl_ 10 23) ?_
        refine pu_ 5 (some 22) (bl_ 10 55) ?_
        refine pu_ 6 (some 23) (bl_ 10 119) ?_
        refine zmW 3 (some 20) (bl_ 10 127) hHeld ?_
        refine zmW 7 (some 24) (bl_ 10 255) hHeld ?_
        refine zdC (i := 8) (N := some 25) (bl_ 10 511) rfl rfl (zeO HT_.out (by kernel_rfl)) (by decide) (fun K hK => ?_)
        refine zqW Tryd.func49 (by kernel_rfl) rfl #[.agg #[.int .i64 ((ztO l0 x5_1).f0.f0), .int .i64 ((ztO l0 x5_1).f0.f1), .int .i64 ((ztO l0 x5_1).f0.f2), .int .i64 ((ztO l0 x5_1).f1.f0), .int .i64 ((ztO l0 x5_1).f1.f1), .int .i64 ((ztO l0 x5_1).f1.f2)], .agg #[.int .i64 ((ztO l1 x5_1).f0.f0), .int .i64 ((ztO l1 x5_1).f0.f1), .int .i64 ((ztO l1 x5_1).f0.f2), .int .i64 ((ztO l1 x5_1).f1.f0), .int .i64 ((ztO l1 x5_1).f1.f1), .int .i64 ((ztO l1 x5_1).f1.f2)]] (by rfl) rfl rfl (by (try simp only [List.map_toArray, List.map_cons, List.map_nil]); first | done | rfl | (simp only [List.length_drop, List.length_take]; rfl)) ?_
        with_reducible refine (zkR.calls ((ztO l0 x5_1).f0.f0) ((ztO l0 x5_1).f0.f1) ((ztO l0 x5_1).f0.f2) ((ztO l0 x5_1).f1.f0) ((ztO l0 x5_1).f1.f1) ((ztO l0 x5_1).f1.f2) ((ztO l1 x5_1).f0.f0) ((ztO l1 x5_1).f0.f1) ((ztO l1 x5_1).f0.f2) ((ztO l1 x5_1).f1.f0) ((ztO l1 x5_1).f1.f1) ((ztO l1 x5_1).f1.f2) false _ A7.out).mono ?_
        rintro e w12 ⟨rfl, hb⟩
        refine ⟨_, rfl, ?_⟩
        have n0_ := (ns_ hb)
        clear HB
        have HB := n0_
        clear n0_
        (try clear hb)
        (try clear hb2)
        (try clear hk)
        (try clear hi)
        refine hK.out _ _ ⟨(zeA HB.out hw440_0), (zeA HB.out hw440_1), (zeA HB.out hw440_2), (zeA HB.out hw440_3), (zeA HB.out hw440_4), (zeA HB.out hw440_5), (zeA HB.out hw441_0), (zeA HB.out hw441_1), (zeA HB.out hw441_2), (zeA HB.out hw441_3), (zeA HB.out hw441_4), (zeA HB.out hw441_5)⟩ (fun hHeld => ?_)
        clear hK K
        refine zaN (a' := ?_) ?_ ?_
        rotate_left
        ·show Act.put _ (some 25) _ = _
         simp only [Act.put, List.setIfInBounds_toArray, List.set_cons_zero, List.set_cons_succ, zcM, ziJ]
         rfl
        refine pu_ 9 (some 26) (bl_ 10 1023) ?_
        refine znK (zzP HT_.out (by kernel_rfl)) ?_
        try go_wp2
        go_ret
        exact ⟨by first | rfl | (simp [ziS, znJ] <;> rfl) | (simp [*, ziS, znJ] <;> rfl), bb_⟩
      ·rw [if_neg c6] at H
       exact absurd H (by simp)
     ·rw [if_neg c5] at H
      exact absurd H (by simp)
    ·rw [if_neg c4] at H
     have c4b0 : decide (x5_1 < (l0.length : Int)) = false := decide_eq_false c4
     clear c4
     obtain rfl := Option.some.inj H
     go_wp2
     go_ret
     exact ⟨by first | rfl | (simp [ziS, znJ] <;> rfl) | (simp [*, ziS, znJ] <;> rfl), bb_⟩
 ·rw [if_neg c3] at H
  have c3b0 : ((l0.length : Int) == (l1.length : Int)) = false := beq_eq_false_iff_ne.mpr c3
  have c3b1 : ((l0.length : Int) != (l1.length : Int)) = true := bne_iff_ne.mpr c3
  have c3b2 : (l0.length == l1.length) = false := by first | simpa using c3 | (simp at c3 ⊢; omega)
  obtain rfl := Option.some.inj H
  go_enter Tryd.func18, Tryd.ntmps18
  go_wp2
  go_ret
  exact ⟨by first | rfl | (simp [ziS, znJ] <;> rfl) | (simp [*, ziS, znJ] <;> rfl), bb_⟩

def zoO.l0 : Nat → List (List (S36)) → List (List (S36)) → Int → Option (Bool)
 | 0, _, _, _ => none
 | k + 1, x0, x1, x5 => if x5 < (x0.length : Int) then (if 0 ≤ x5 then (if x5 < (x1.length : Int) then ((zcH.f k (rd_L8 x0 x5) (rd_L8 x1 x5)).bind fun t445 => (if t445 = true then (zoO.l0 k x0 x1 (wrap64 (x5 + 1))) else (some false))) else (none)) else (none)) else (some true)
def zoO.f (k : Nat) (l0 : List (List (S36))) (l1 : List (List (S36))) : Option (Bool) := if (l0.length : Int) = (l1.length : Int) then (zoO.l0 k l0 l1 0) else (some false)
theorem zoO.mono_l : ∀ k, (∀ y0 y1 y2, LeO (zoO.l0 k y0 y1 y2) (zoO.l0 (k + 1) y0 y1 y2))
 | 0 => fun _ _ _ r h => by simp [zoO.l0] at h
 | k + 1 => by
  have ih0 := zoO.mono_l k
  ·intro y0 y1 y2
   unfold zoO.l0
   repeat' first
   | (with_reducible exact ih0 _ _ _)
   | (with_reducible exact zcH.mono _ _ _)
   | (with_reducible exact LeO.refl _)
   | (with_reducible exact LeO.none _)
   | (with_reducible refine LeO.ite ?_ ?_)
   | (with_reducible refine LeO.bind ?_ (fun _ => ?_))
   | exact ih0 _ _ _
   | exact zcH.mono _ _ _
   | exact LeO.none _
   | refine LeO.ite ?_ ?_
   | refine LeO.bind ?_ (fun _ => ?_)
theorem zoO.mono : ∀ a0 a1 k, LeO (zoO.f k a0 a1) (zoO.f (k + 1) a0 a1) := by
 intro a0 a1 k
 have ih0 := zoO.mono_l k
 unfold zoO.f
 repeat' first
   | (with_reducible exact ih0 _ _ _)
   | (with_reducible exact zcH.mono _ _ _)
   | (with_reducible exact LeO.refl _)
   | (with_reducible exact LeO.none _)
   | (with_reducible refine LeO.ite ?_ ?_)
   | (with_reducible refine LeO.bind ?_ (fun _ => ?_))
   | exact ih0 _ _ _
   | exact zcH.mono _ _ _
   | exact LeO.none _
   | refine LeO.ite ?_ ?_
   | refine LeO.bind ?_ (fun _ => ?_)
def zoO.T6 : Bool × List (List Nat × List Nat) := (true, [([], []), ([], []), ([0, 1], [0, 1]), ([2], [2]), ([], []), ([], []), ([4, 5], [4, 5]), ([6], [6]), ([3, 7], [3, 7]), ([8], [8])])
def zoO.B6 : List Nat := [0, 0, 3, 7, 0, 0, 48, 112, 255, 511]
theorem zoO.tab6 : rtab .any (opsOf Tryd.f26 6) = zoO.T6 := by kernel_rfl
theorem zoO.bits6 : ztG zoO.T6.2 zoO.B6 = true := by kernel_rfl
set_option maxHeartbeats 8000000 in
set_option maxRecDepth 100000 in
theorem zoO.calls (k : Nat) (A0 : Option Addr) (c0 : Nat) (l0 : List (List (S36))) (A1 : Option Addr) (c1 : Nat) (l1 : List (List (S36))) (r : Bool) (w : World) (hr0 : Kd.C (Kd.slice 36 k36) w A0 l0.length l0) (hc0 : l0.length ≤ c0) (hr1 : Kd.C (Kd.slice 36 k36) w A1 l1.length l1) (hc1 : l1.length ≤ c1) (h : zoO.f k l0 l1 = some r) :
  Calls Tryd.prog 26 #[.slice A0 l0.length c0, .slice A1 l1.length c1] w fun e w' => e = .returned (.bool r) ∧ Below w.heap.size w w' := by
 have HR0 := zpS hr0
 have HC0 := zpS hc0
 clear hr0 hc0
 have HR1 := zpS hr1
 have HC1 := zpS hc1
 clear hr1 hc1
 have HB := zpS (Below.refl w.heap.size w)
 have H : (if (l0.length : Int) = (l1.length : Int) then (zoO.l0 k l0 l1 0) else (some false)) = some r := h
 clear h
 by_cases c3 : (l0.length : Int) = (l1.length : Int)
 ·rw [if_pos c3] at H
  have c3b0 : ((l0.length : Int) == (l1.length : Int)) = true := beq_iff_eq.mpr c3
  have c3b1 : ((l0.length : Int) != (l1.length : Int)) = false := bne_eq_false_iff_eq.mpr c3
  have c3b2 : (l0.length == l1.length) = true := by first | simpa using c3 | (simp at c3 ⊢; omega)
  clear c3
  have H' := zpS H
  clear H
  go_enter Tryd.func26, Tryd.ntmps26
  go_wp2
  (try go_simp)
  go_loopg [5] k (fun kq v5 w' => ∃ (x5_1 : Int), v5 = .int .i64 x5_1 ∧ Aside0 (zoO.l0 kq l0 l1 x5_1 = some r) ∧ Aside0 (kq ≤ k) ∧ Aside0 (Below w.heap.size w w'))
  case atStart => exact ⟨(0), (by first | rfl | (simp; done) | (simp [*]; done)), H', ⟨Nat.le_refl _⟩, ⟨bb_⟩⟩
  case round =>
   clear H'
   try clear c1
   try clear c2
   try clear p2
   try clear c3
   try clear c3b0
   try clear c3b1
   try clear c3b2
   obtain ⟨x5_1, rfl, HA, HK1, HB⟩ := hrel
   cases gk with
   | zero => exact absurd HA.out (by simp [zoO.l0])
   | succ k1 =>
    have H := HA.out
    clear HA
    simp only [zoO.l0] at H
    by_cases c4 : x5_1 < (l0.length : Int)
    ·rw [if_pos c4] at H
     have c4b0 : decide (x5_1 < (l0.length : Int)) = true := decide_eq_true c4
     clear c4
     by_cases c5 : 0 ≤ x5_1
     ·rw [if_pos c5] at H
      have c5b0 : decide (0 ≤ x5_1) = true := decide_eq_true c5
      clear c5
      by_cases c6 : x5_1 < (l1.length : Int)
      ·rw [if_pos c6] at H
       have c6b0 : decide (x5_1 < (l1.length : Int)) = true := decide_eq_true c6
       clear c6
       replace H := Option.bind_eq_some_iff.mp H
       obtain ⟨t445, A70, H⟩ := H
       replace H : (if t445 = true then (zoO.l0 k1 l0 l1 (wrap64 (x5_1 + 1))) else (some false)) = some r := H
       have A7 := zpS A70
       clear A70
       by_cases c8 : t445 = true
       ·subst c8
        have H1 : (zoO.l0 k1 l0 l1 (wrap64 (x5_1 + 1))) = some r := by rw [if_pos rfl] at H; exact H
        clear H
        have H := H1
        clear H1
        have H' := zpS H
        clear H
        try go_wp2
        have n0_ := zpS (zvF HB.out)
        clear HB
        have HB := n0_
        clear n0_
        have p443 : 0 ≤ (x5_1 : Int) := of_decide_eq_true (by first | (with_reducible assumption) | assumption)
        have q443 : x5_1 < (l0.length : Int) := of_decide_eq_true (by first | (with_reducible assumption) | assumption)
        obtain ⟨ad443, A443_0, c443_0, e443, hx443_0, hl443_0, hi443_0⟩ := at_L8 HR0.out x5_1 p443 q443
        have hw443_0 := hx443_0
        cases e443
        replace hx443_0 := zeA HB.out hx443_0
        have HR443_0 := zpS hi443_0
        have HC443_0 := zpS hl443_0
        clear hi443_0 hl443_0
        replace p443 := eq_true p443
        replace q443 := eq_true q443
        have p444 : 0 ≤ (x5_1 : Int) := of_decide_eq_true (by first | (with_reducible assumption) | assumption)
        have q444 : x5_1 < (l1.length : Int) := of_decide_eq_true (by first | (with_reducible assumption) | assumption)
        obtain ⟨ad444, A444_0, c444_0, e444, hx444_0, hl444_0, hi444_0⟩ := at_L8 HR1.out x5_1 p444 q444
        have hw444_0 := hx444_0
        cases e444
        replace hx444_0 := zeA HB.out hx444_0
        have HR444_0 := zpS hi444_0
        have HC444_0 := zpS hl444_0
        clear hi444_0 hl444_0
        replace p444 := eq_true p444
        replace q444 := eq_true q444
        refine zpB (n := 10) (S := fun w' => w'.cell? (ad443.add (x5_1).toNat) = some (.slice A443_0 (rd_L8 l0 x5_1).length c443_0) ∧ w'.cell? (ad444.add (x5_1).toNat) = some (.slice A444_0 (rd_L8 l1 x5_1).length c444_0)) (ds := []) #[false, false, false, false, false, false, false, false, false, false] (by kernel_rfl) rfl rfl ⟨(zeA HB.out hw443_0), (zeA HB.out hw444_0)⟩ (fun hHeld => ?_); refine zwI zoO.tab6 zoO.bits6 (fun HT_ HW_ => ?_)
        generalize wr.drew = w9 at HB HR443_0 HR444_0 hx443_0 hx444_0 hHeld ⊢
        refine pu_ 0 (some 17) (bl_ 10 1) ?_
        refine pu_ 1 (some 18) (bl_ 10 3) ?_
        refine pu_ 2 (some 19) (bl_ 10 7) ?_
        refine pu_ 4 (some 21) (bl_ 10 23) ?_
        refine pu_ 5 (some 22) (bl_ 10 55) ?_
        refine pu_ 6 (some 23) (bl_ 10 119) ?_
        refine tk2_ 3 (some 20) (bl_ 10 127) hHeld ?_
        refine tk2_ 7 (some 24) (bl_ 10 255) hHeld ?_
        refine zdC (i := 8) (N := some 25) (bl_ 10 511) rfl rfl (zeO HT_.out (by kernel_rfl)) (by decide) (fun K hK => ?_)
        refine zqW Tryd.func18 (by kernel_rfl) rfl #[.slice A443_0 (rd_L8 l0 x5_1).length c443_0, .slice A444_0 (rd_L8 l1 x5_1).length c444_0] (by rfl) rfl rfl (by (try simp only [List.map_toArray, List.map_cons, List.map_nil]); first | done | rfl | (simp only [List.length_drop, List.length_take]; rfl)) ?_
        with_reducible refine (zcH.calls k1 _ _ (rd_L8 l0 x5_1) _ _ (rd_L8 l1 x5_1) true _ ?side1 ?side2 ?side3 ?side4 A7.out).mono ?_
        (case side1 => repeat (first | exact (Kd.C_below HR443_0.out HB.out) | (with_reducible refine Kd.C_alloc ?_ _) | (with_reducible refine Kd.C_drewN ?_ _) | (with_reducible refine Kd.C_drew ?_)))
        (case side2 => exact HC443_0.out)
        (case side3 => repeat (first | exact (Kd.C_below HR444_0.out HB.out) | (with_reducible refine Kd.C_alloc ?_ _) | (with_reducible refine Kd.C_drewN ?_ _) | (with_reducible refine Kd.C_drew ?_)))
        (case side4 => exact HC444_0.out)
        rintro e w10 ⟨rfl, hb⟩
        refine ⟨_, rfl, ?_⟩
        have n0_ := (ns_ hb)
        clear HB
        have HB := n0_
        clear n0_
        (try clear hb)
        (try clear hb2)
        (try clear hk)
        (try clear hi)
        refine hK.out _ _ ⟨(zeA HB.out hw443_0), (zeA HB.out hw444_0)⟩ (fun hHeld => ?_)
        clear hK K
        refine zaN (a' := ?_) ?_ ?_
        rotate_left
        ·show Act.put _ (some 25) _ = _
         simp only [Act.put, List.setIfInBounds_toArray, List.set_cons_zero, List.set_cons_succ, zcM, ziJ]
         rfl
        refine pu_ 9 (some 26) (bl_ 10 1023) ?_
        refine znK (zzP HT_.out (by kernel_rfl)) ?_
        try go_wp2
        go_roundg k1
        case measure => have := HK1.out; omega
        case rel => exact ⟨(wrap64 (x5_1 + 1)), (by first | rfl | (simp; done) | (simp [*]; done)), H', ⟨by have := HK1.out; omega⟩, ⟨bb_⟩⟩
       ·replace c8 := Bool.eq_false_iff.mpr c8
        subst c8
        have H1 : (some false) = some r := by rw [if_neg (show ¬ (false = true) by decide)] at H; exact H
        clear H
        have H := H1
        clear H1
        obtain rfl := Option.some.inj H
        try go_wp2
        have n0_ := zpS (zvF HB.out)
        clear HB
        have HB := n0_
        clear n0_
        have p443 : 0 ≤ (x5_1 : Int) := of_decide_eq_true (by first | (with_reducible assumption) | assumption)
        have q443 : x5_1 < (l0.length : Int) := of_decide_eq_true (by first | (with_reducible assumption) | assumption)
        obtain ⟨ad443, A443_0, c443_0, e443, hx443_0, hl443_0, hi443_0⟩ := at_L8 HR0.out x5_1 p443 q443
        have hw443_0 := hx443_0
        cases e443
        replace hx443_0 := zeA HB.out hx443_0
        have HR443_0 := zpS hi443_0
        have HC443_0 := zpS hl443_0
        clear hi443_0 hl443_0
        replace p443 := eq_true p443
        replace q443 := eq_true q443
        have p444 : 0 ≤ (x5_1 : Int) := of_decide_eq_true (by first | (with_reducible assumption) | assumption)
        have q444 : x5_1 < (l1.length : Int) := of_decide_eq_true (by first | (with_reducible assumption) | assumption)
        obtain ⟨ad444, A444_0, c444_0, e444, hx444_0, hl444_0, hi444_0⟩ := at_L8 HR1.out x5_1 p444 q444
        have hw444_0 := hx444_0
        cases e444
        replace hx444_0 := zeA HB.out hx444_0
        have HR444_0 := zpS hi444_0
        have HC444_0 := zpS hl444_0
        clear hi444_0 hl444_0
        replace p444 := eq_true p444
        replace q444 := eq_true q444
        refine zpB (n := 10) (S := fun w' => w'.cell? (ad443.add (x5_1).toNat) = some (.slice A443_0 (rd_L8 l0 x5_1).length c443_0) ∧ w'.cell? (ad444.add (x5_1).toNat) = some (.slice A444_0 (rd_L8 l1 x5_1).length c444_0)) (ds := []) #[false, false, false, false, false, false, false, false, false, false] (by kernel_rfl) rfl rfl ⟨(zeA HB.out hw443_0), (zeA HB.out hw444_0)⟩ (fun hHeld => ?_); refine zwI zoO.tab6 zoO.bits6 (fun HT_ HW_ => ?_)
        generalize wr.drew = w11 at HB HR443_0 HR444_0 hx443_0 hx444_0 hHeld ⊢
        refine pu_ 0 (some 17) (bl_ 10 1) ?_
        refine pu_ 1 (some 18) (bl_ 10 3) ?_
        refine pu_ 2 (some 19) (bl_ 10 7) ?_
        refine pu_ 4 (some 21) (bl_ 10 23) ?_
        refine pu_ 5 (some 22) (bl_ 10 55) ?_
        refine pu_ 6 (some 23) (bl_ 10 119) ?_
        refine tk2_ 3 (some 20) (bl_ 10 127) hHeld ?_
        refine tk2_ 7 (some 24) (bl_ 10 255) hHeld ?_
        refine zdC (i := 8) (N := some 25) (bl_ 10 511) rfl rfl (zeO HT_.out (by kernel_rfl)) (by decide) (fun K hK => ?_)
        refine zqW Tryd.func18 (by kernel_rfl) rfl #[.slice A443_0 (rd_L8 l0 x5_1).length c443_0, .slice A444_0 (rd_L8 l1 x5_1).length c444_0] (by rfl) rfl rfl (by (try simp only [List.map_toArray, List.map_cons, List.map_nil]); first | done | rfl | (simp only [List.length_drop, List.length_take]; rfl)) ?_
        with_reducible refine (zcH.calls k1 _ _ (rd_L8 l0 x5_1) _ _ (rd_L8 l1 x5_1) false _ ?side1 ?side2 ?side3 ?side4 A7.out).mono ?_
        (case side1 => repeat (first | exact (Kd.C_below HR443_0.out HB.out) | (with_reducible refine Kd.C_alloc ?_ _) | (with_reducible refine Kd.C_drewN ?_ _) | (with_reducible refine Kd.C_drew ?_)))
        (case side2 => exact HC443_0.out)
        (case side3 => repeat (first | exact (Kd.C_below HR444_0.out HB.out) | (with_reducible refine Kd.C_alloc ?_ _) | (with_reducible refine Kd.C_drewN ?_ _) | (with_reducible refine Kd.C_drew ?_)))
        (case side4 => exact HC444_0.out)
        rintro e w12 ⟨rfl, hb⟩
        refine ⟨_, rfl, ?_⟩
        have n0_ := (ns_ hb)
        clear HB
        have HB := n0_
        clear n0_
        (try clear hb)
        (try clear hb2)
        (try clear hk)
        (try clear hi)
        refine hK.out _ _ ⟨(zeA HB.out hw443_0), (zeA HB.out hw444_0)⟩ (fun hHeld => ?_)
        clear hK K
        refine zaN (a' := ?_) ?_ ?_
        rotate_left
        ·show Act.put _ (some 25) _ = _
         simp only [Act.put, List.setIfInBounds_toArray, List.set_cons_zero, List.set_cons_succ, zcM, ziJ]
         rfl
        refine pu_ 9 (some 26) (bl_ 10 1023) ?_
        refine znK (zzP HT_.out (by kernel_rfl)) ?_
        try go_wp2
        go_ret
        exact ⟨by first | rfl | (simp [ziS, znJ] <;> rfl) | (simp [*, ziS, znJ] <;> rfl), bb_⟩
      ·rw [if_neg c6] at H
       exact absurd H (by simp)
     ·rw [if_neg c5] at H
      exact absurd H (by simp)
    ·rw [if_neg c4] at H
     have c4b0 : decide (x5_1 < (l0.length : Int)) = false := decide_eq_false c4
     clear c4
     obtain rfl := Option.some.inj H
     go_wp2
     go_ret
     exact ⟨by first | rfl | (simp [ziS, znJ] <;> rfl) | (simp [*, ziS, znJ] <;> rfl), bb_⟩
 ·rw [if_neg c3] at H
  have c3b0 : ((l0.length : Int) == (l1.length : Int)) = false := beq_eq_false_iff_ne.mpr c3
  have c3b1 : ((l0.length : Int) != (l1.length : Int)) = true := bne_iff_ne.mpr c3
  have c3b2 : (l0.length == l1.length) = false := by first | simpa using c3 | (simp at c3 ⊢; omega)
  obtain rfl := Option.some.inj H
  go_enter Tryd.func26, Tryd.ntmps26
  go_wp2
  go_ret
  exact ⟨by first | rfl | (simp [ziS, znJ] <;> rfl) | (simp [*, ziS, znJ] <;> rfl), bb_⟩

end Go.Proofs.YtmajpmofeddknaaDoor.PFnExactValidPlaces
