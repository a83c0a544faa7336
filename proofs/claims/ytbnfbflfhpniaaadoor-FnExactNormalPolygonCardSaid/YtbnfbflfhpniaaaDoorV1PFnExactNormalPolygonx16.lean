-- Printed for this claim by this session's program pp.py, which drives the kit's print with additions. Not trusted: Lean checks it.
import Derived.Test.YtbnfbflfhpniaaaDoorV1PFnExactNormalPolygonx0
import Derived.Test.YtbnfbflfhpniaaaDoorV1PFnExactNormalPolygonx15
namespace Go.Proofs.YtbnfbflfhpniaaaDoor.PFnExactNormalPolygon
open Go.RowKit Go.Proofs.YtbnfbflfhpniaaaDoorW.PrintWords Go.Proofs.YtbnfbflfhpniaaaDoorW.PrintLast Go.Proofs.YtbnfbflfhpniaaaDoorW.PrintMore
attribute [local go_sem] zbB ziC zrC zhD znE zuB znH zkT   -- for this text's walks alone
set_option linter.unusedVariables false
set_option maxHeartbeats 8000000
set_option maxRecDepth 100000
set_option linter.unusedSimpArgs false

def zcH.l0 : Nat → List (S35) → List (S35) → Int → Option (Bool)
 | 0, _, _, _ => none
 | k + 1, x0, x1, x5 => if x5 < (x0.length : Int) then (if 0 ≤ x5 then (if x5 < (x1.length : Int) then ((zkR.f ((zmE x0 x5).f0.f0) ((zmE x0 x5).f0.f1) ((zmE x0 x5).f0.f2) ((zmE x0 x5).f1.f0) ((zmE x0 x5).f1.f1) ((zmE x0 x5).f1.f2) ((zmE x1 x5).f0.f0) ((zmE x1 x5).f0.f1) ((zmE x1 x5).f0.f2) ((zmE x1 x5).f1.f0) ((zmE x1 x5).f1.f1) ((zmE x1 x5).f1.f2)).bind fun t506 => (if t506 = true then (zcH.l0 k x0 x1 (wrap64 (x5 + 1))) else (some false))) else (none)) else (none)) else (some true)
def zcH.f (k : Nat) (l0 : List (S35)) (l1 : List (S35)) : Option (Bool) := if (l0.length : Int) = (l1.length : Int) then (zcH.l0 k l0 l1 0) else (some false)
theorem zcH.mono_l : ∀ k, (∀ y0 y1 y2, LeO (zcH.l0 k y0 y1 y2) (zcH.l0 (k + 1) y0 y1 y2))
 | 0 => fun _ _ _ r h => by simp [zcH.l0] at h
 | k + 1 => by
  have ih0 := zcH.mono_l k
  ·intro y0 y1 y2
   unfold zcH.l0
   repeat' first
   | (with_reducible exact ih0 _ _ _)
   | (with_reducible exact LeO.refl _)
   | (with_reducible exact LeO.none _)
   | (with_reducible refine LeO.ite ?_ ?_)
   | (with_reducible refine LeO.bind ?_ (fun _ => ?_))
   | exact ih0 _ _ _
   | exact LeO.none _
   | refine LeO.ite ?_ ?_
   | refine LeO.bind ?_ (fun _ => ?_)
theorem zcH.mono : ∀ a0 a1 k, LeO (zcH.f k a0 a1) (zcH.f (k + 1) a0 a1) := by
 intro a0 a1 k
 have ih0 := zcH.mono_l k
 unfold zcH.f
 repeat' first
   | (with_reducible exact ih0 _ _ _)
   | (with_reducible exact LeO.refl _)
   | (with_reducible exact LeO.none _)
   | (with_reducible refine LeO.ite ?_ ?_)
   | (with_reducible refine LeO.bind ?_ (fun _ => ?_))
   | exact ih0 _ _ _
   | exact LeO.none _
   | refine LeO.ite ?_ ?_
   | refine LeO.bind ?_ (fun _ => ?_)
def zcH.T6 : Bool × List (List Nat × List Nat) := (true, [([], []), ([], []), ([0, 1], [0, 1]), ([2], [2]), ([], []), ([], []), ([4, 5], [4, 5]), ([6], [6]), ([3, 7], [3, 7]), ([8], [8])])
def zcH.B6 : List Nat := [0, 0, 3, 7, 0, 0, 48, 112, 255, 511]
theorem zcH.tab6 : rtab .any (opsOf Tryd.f8 6) = zcH.T6 := by kernel_rfl
theorem zcH.bits6 : ztG zcH.T6.2 zcH.B6 = true := by kernel_rfl
theorem zcH.calls (k : Nat) (A0 : Option Addr) (c0 : Nat) (l0 : List (S35)) (A1 : Option Addr) (c1 : Nat) (l1 : List (S35)) (r : Bool) (w : World) (hr0 : Kd.C k35 w A0 l0.length l0) (hc0 : l0.length ≤ c0) (hr1 : Kd.C k35 w A1 l1.length l1) (hc1 : l1.length ≤ c1) (h : zcH.f k l0 l1 = some r) :
  Calls Tryd.prog 8 #[.slice A0 l0.length c0, .slice A1 l1.length c1] w fun e w' => e = .returned (.bool r) ∧ Below w.heap.size w w' := by
 have hu35 := Tryd.underlying35
 have HR0 := zpS hr0
 have HC0 := zpS hc0
 clear hr0 hc0
 have HR1 := zpS hr1
 have HC1 := zpS hc1
 clear hr1 hc1
 have HB := zpS (Below.refl w.heap.size w)
 have H : (if (l0.length : Int) = (l1.length : Int) then (zcH.l0 k l0 l1 0) else (some false)) = some r := h
 clear h
 by_cases c3 : (l0.length : Int) = (l1.length : Int)
 ·rw [if_pos c3] at H
  have c3b0 : ((l0.length : Int) == (l1.length : Int)) = true := beq_iff_eq.mpr c3
  have c3b1 : ((l0.length : Int) != (l1.length : Int)) = false := bne_eq_false_iff_eq.mpr c3
  have c3b2 : (l0.length == l1.length) = true := by first | simpa using c3 | (simp at c3 ⊢; omega)
  clear c3
  have H' := zpS H
  clear H
  go_enter Tryd.func8, Tryd.ntmps8
  go_wp2
  (try go_simp)
  go_loopg [5] k (fun kq v5 w' => ∃ (x5_1 : Int), v5 = .int .i64 x5_1 ∧ Aside0 (zcH.l0 kq l0 l1 x5_1 = some r) ∧ Aside0 (kq ≤ k) ∧ Aside0 (Below w.heap.size w w'))
  case atStart => exact ⟨(0), (by first | rfl | (simp; done) | (simp [*]; done)), H', ⟨Nat.le_refl _⟩, ⟨bb_⟩⟩
  case round =>
   clear H'
   try clear c1
   try clear p2
   try clear c3
   try clear c3b0
   try clear c3b1
   try clear c3b2
   obtain ⟨x5_1, rfl, HA, HK1, HB⟩ := hrel
   cases gk with
   | zero => exact absurd HA.out (by simp [zcH.l0])
   | succ k1 =>
    have H := HA.out
    clear HA
    simp only [zcH.l0] at H
    by_cases c4 : x5_1 < (l0.length : Int)
    ·rw [if_pos c4] at H
     have c4b0 : decide (x5_1 < (l0.length : Int)) = true := decide_eq_true c4
     clear c4
     by_cases c5 : 0 ≤ x5_1
     ·rw [if_pos c5] at H
      have c5b0 : decide (0 ≤ x5_1) = true := decide_eq_true c5
      clear c5
      by_cases c6 : x5_1 < (l1.length : Int)
      ·rw [if_pos c6] at H
       have c6b0 : decide (x5_1 < (l1.length : Int)) = true := decide_eq_true c6
       clear c6
       replace H := Option.bind_eq_some_iff.mp H
       obtain ⟨t506, A70, H⟩ := H
       replace H : (if t506 = true then (zcH.l0 k1 l0 l1 (wrap64 (x5_1 + 1))) else (some false)) = some r := H
       have A7 := zpS A70
       clear A70
       by_cases c8 : t506 = true
       ·subst c8
        have H1 : (zcH.l0 k1 l0 l1 (wrap64 (x5_1 + 1))) = some r := by rw [if_pos rfl] at H; exact H
        clear H
        have H := H1
        clear H1
        have H' := zpS H
        clear H
        try go_wp2
        have n0_ := zpS (zvF HB.out)
        clear HB
        have HB := n0_
        clear n0_
        have p504 : 0 ≤ (x5_1 : Int) := dt_
        have q504 : x5_1 < (l0.length : Int) := dt_
        obtain ⟨ad504, e504, hx504_0, hx504_1, hx504_2, hx504_3, hx504_4, hx504_5⟩ := zcN HR0.out x5_1 p504 q504
        have hw504_5 := hx504_5
        have hw504_4 := hx504_4
        have hw504_3 := hx504_3
        have hw504_2 := hx504_2
        have hw504_1 := hx504_1
        have hw504_0 := hx504_0
        cases e504
        replace hx504_0 := zeA HB.out hx504_0
        replace hx504_1 := zeA HB.out hx504_1
        replace hx504_2 := zeA HB.out hx504_2
        replace hx504_3 := zeA HB.out hx504_3
        replace hx504_4 := zeA HB.out hx504_4
        replace hx504_5 := zeA HB.out hx504_5
        replace p504 := eq_true p504
        replace q504 := eq_true q504
        have p505 : 0 ≤ (x5_1 : Int) := dt_
        have q505 : x5_1 < (l1.length : Int) := dt_
        obtain ⟨ad505, e505, hx505_0, hx505_1, hx505_2, hx505_3, hx505_4, hx505_5⟩ := zcN HR1.out x5_1 p505 q505
        have hw505_5 := hx505_5
        have hw505_4 := hx505_4
        have hw505_3 := hx505_3
        have hw505_2 := hx505_2
        have hw505_1 := hx505_1
        have hw505_0 := hx505_0
        cases e505
        replace hx505_0 := zeA HB.out hx505_0
        replace hx505_1 := zeA HB.out hx505_1
        replace hx505_2 := zeA HB.out hx505_2
        replace hx505_3 := zeA HB.out hx505_3
        replace hx505_4 := zeA HB.out hx505_4
        replace hx505_5 := zeA HB.out hx505_5
        replace p505 := eq_true p505
        replace q505 := eq_true q505
        refine zpB (n := 10) (S := fun w' => w'.cell? (ad504.add ((x5_1).toNat * 6)) = some (.int .i64 ((zmE l0 x5_1).f0.f0)) ∧ w'.cell? ⟨(ad504.add ((x5_1).toNat * 6)).block, (ad504.add ((x5_1).toNat * 6)).off + 1, none⟩ = some (.int .i64 ((zmE l0 x5_1).f0.f1)) ∧ w'.cell? ⟨(ad504.add ((x5_1).toNat * 6)).block, (ad504.add ((x5_1).toNat * 6)).off + 2, none⟩ = some (.int .i64 ((zmE l0 x5_1).f0.f2)) ∧ w'.cell? ⟨(ad504.add ((x5_1).toNat * 6)).block, (ad504.add ((x5_1).toNat * 6)).off + 3, none⟩ = some (.int .i64 ((zmE l0 x5_1).f1.f0)) ∧ w'.cell? ⟨(ad504.add ((x5_1).toNat * 6)).block, (ad504.add ((x5_1).toNat * 6)).off + 4, none⟩ = some (.int .i64 ((zmE l0 x5_1).f1.f1)) ∧ w'.cell? ⟨(ad504.add ((x5_1).toNat * 6)).block, (ad504.add ((x5_1).toNat * 6)).off + 5, none⟩ = some (.int .i64 ((zmE l0 x5_1).f1.f2)) ∧ w'.cell? (ad505.add ((x5_1).toNat * 6)) = some (.int .i64 ((zmE l1 x5_1).f0.f0)) ∧ w'.cell? ⟨(ad505.add ((x5_1).toNat * 6)).block, (ad505.add ((x5_1).toNat * 6)).off + 1, none⟩ = some (.int .i64 ((zmE l1 x5_1).f0.f1)) ∧ w'.cell? ⟨(ad505.add ((x5_1).toNat * 6)).block, (ad505.add ((x5_1).toNat * 6)).off + 2, none⟩ = some (.int .i64 ((zmE l1 x5_1).f0.f2)) ∧ w'.cell? ⟨(ad505.add ((x5_1).toNat * 6)).block, (ad505.add ((x5_1).toNat * 6)).off + 3, none⟩ = some (.int .i64 ((zmE l1 x5_1).f1.f0)) ∧ w'.cell? ⟨(ad505.add ((x5_1).toNat * 6)).block, (ad505.add ((x5_1).toNat * 6)).off + 4, none⟩ = some (.int .i64 ((zmE l1 x5_1).f1.f1)) ∧ w'.cell? ⟨(ad505.add ((x5_1).toNat * 6)).block, (ad505.add ((x5_1).toNat * 6)).off + 5, none⟩ = some (.int .i64 ((zmE l1 x5_1).f1.f2))) (ds := []) #[false, false, false, false, false, false, false, false, false, false] (by kernel_rfl) rfl rfl ⟨(zeA HB.out hw504_0), (zeA HB.out hw504_1), (zeA HB.out hw504_2), (zeA HB.out hw504_3), (zeA HB.out hw504_4), (zeA HB.out hw504_5), (zeA HB.out hw505_0), (zeA HB.out hw505_1), (zeA HB.out hw505_2), (zeA HB.out hw505_3), (zeA HB.out hw505_4), (zeA HB.out hw505_5)⟩ (fun hHeld => ?_); refine zwI zcH.tab6 zcH.bits6 (fun HT_ HW_ => ?_)
        generalize wr.drew = w9 at HB hx504_0 hx504_1 hx504_2 hx504_3 hx504_4 hx504_5 hx505_0 hx505_1 hx505_2 hx505_3 hx505_4 hx505_5 hHeld ⊢
        refine pu_ 0 (some 17) (bl_ 10 1) ?_
        refine pu_ 1 (some 18) (bl_ 10 3) ?_
        refine pu_ 2 (some 19) (bl_ 10 7) ?_
        refine pu_ 4 (some 21) (bl_ 10 23) ?_
        refine pu_ 5 (some 22) (bl_ 10 55) ?_
        refine pu_ 6 (some 23) (bl_ 10 119) ?_
        refine zmW 3 (some 20) (bl_ 10 127) hHeld ?_
        refine zmW 7 (some 24) (bl_ 10 255) hHeld ?_
        refine zdC (i := 8) (N := some 25) (bl_ 10 511) rfl rfl (zeO HT_.out (by kernel_rfl)) (by decide) (fun K hK => ?_)
        refine zqW Tryd.func21 (by kernel_rfl) rfl #[.agg #[.int .i64 ((zmE l0 x5_1).f0.f0), .int .i64 ((zmE l0 x5_1).f0.f1), .int .i64 ((zmE l0 x5_1).f0.f2), .int .i64 ((zmE l0 x5_1).f1.f0), .int .i64 ((zmE l0 x5_1).f1.f1), .int .i64 ((zmE l0 x5_1).f1.f2)], .agg #[.int .i64 ((zmE l1 x5_1).f0.f0), .int .i64 ((zmE l1 x5_1).f0.f1), .int .i64 ((zmE l1 x5_1).f0.f2), .int .i64 ((zmE l1 x5_1).f1.f0), .int .i64 ((zmE l1 x5_1).f1.f1), .int .i64 ((zmE l1 x5_1).f1.f2)]] (by rfl) rfl rfl (by (try simp only [List.map_toArray, List.map_cons, List.map_nil]); first | done | rfl | (simp only [List.length_drop, List.length_take]; rfl)) ?_
        with_reducible refine (zkR.calls ((zmE l0 x5_1).f0.f0) ((zmE l0 x5_1).f0.f1) ((zmE l0 x5_1).f0.f2) ((zmE l0 x5_1).f1.f0) ((zmE l0 x5_1).f1.f1) ((zmE l0 x5_1).f1.f2) ((zmE l1 x5_1).f0.f0) ((zmE l1 x5_1).f0.f1) ((zmE l1 x5_1).f0.f2) ((zmE l1 x5_1).f1.f0) ((zmE l1 x5_1).f1.f1) ((zmE l1 x5_1).f1.f2) true _ A7.out).mono ?_
        rintro e w10 ⟨rfl, hb⟩
        refine ⟨_, rfl, ?_⟩
        have n0_ := (ns_ hb)
        clear HB
        have HB := n0_
        clear n0_
        (try clear hb)
        (try clear hb2)
        (try clear hk)
        (try clear hi)
        refine hK.out _ _ ⟨(zeA HB.out hw504_0), (zeA HB.out hw504_1), (zeA HB.out hw504_2), (zeA HB.out hw504_3), (zeA HB.out hw504_4), (zeA HB.out hw504_5), (zeA HB.out hw505_0), (zeA HB.out hw505_1), (zeA HB.out hw505_2), (zeA HB.out hw505_3), (zeA HB.out hw505_4), (zeA HB.out hw505_5)⟩ (fun hHeld => ?_)
        clear hK K
        refine zaN (a' := ?_) ?_ ?_
        rotate_left
        ·show Act.put _ (some 25) _ = _
         simp only [Act.put, List.setIfInBounds_toArray, List.set_cons_zero, List.set_cons_succ, zcM, ziK]
         rfl
        refine pu_ 9 (some 26) (bl_ 10 1023) ?_
        refine znK (zzP HT_.out (by kernel_rfl)) ?_
        try go_wp2
        go_roundg k1
        case measure => have := HK1.out; omega
        case rel => exact ⟨(wrap64 (x5_1 + 1)), (by first | rfl | (simp; done) | (simp [*]; done)), H', ⟨by have := HK1.out; omega⟩, ⟨bb_⟩⟩
       ·replace c8 := Bool.eq_false_iff.mpr c8
        subst c8
        have H1 : (some false) = some r := by rw [if_neg (show ¬ (false = true) by decide)] at H; exact H
        clear H
        have H := H1
        clear H1
        obtain rfl := Option.some.inj H
        try go_wp2
        have n0_ := zpS (zvF HB.out)
        clear HB
        have HB := n0_
        clear n0_
        have p504 : 0 ≤ (x5_1 : Int) := dt_
        have q504 : x5_1 < (l0.length : Int) := dt_
        obtain ⟨ad504, e504, hx504_0, hx504_1, hx504_2, hx504_3, hx504_4, hx504_5⟩ := zcN HR0.out x5_1 p504 q504
        have hw504_5 := hx504_5
        have hw504_4 := hx504_4
        have hw504_3 := hx504_3
        have hw504_2 := hx504_2
        have hw504_1 := hx504_1
        have hw504_0 := hx504_0
        cases e504
        replace hx504_0 := zeA HB.out hx504_0
        replace hx504_1 := zeA HB.out hx504_1
        replace hx504_2 := zeA HB.out hx504_2
        replace hx504_3 := zeA HB.out hx504_3
        replace hx504_4 := zeA HB.out hx504_4
        replace hx504_5 := zeA HB.out hx504_5
        replace p504 := eq_true p504
        replace q504 := eq_true q504
        have p505 : 0 ≤ (x5_1 : Int) := dt_
        have q505 : x5_1 < (l1.length : Int) := dt_
        obtain ⟨ad505, e505, hx505_0, hx505_1, hx505_2, hx505_3, hx505_4, hx505_5⟩ := zcN HR1.out x5_1 p505 q505
        have hw505_5 := hx505_5
        have hw505_4 := hx505_4
        have hw505_3 := hx505_3
        have hw505_2 := hx505_2
        have hw505_1 := hx505_1
        have hw505_0 := hx505_0
        cases e505
        replace hx505_0 := zeA HB.out hx505_0
        replace hx505_1 := zeA HB.out hx505_1
        replace hx505_2 := zeA HB.out hx505_2
        replace hx505_3 := zeA HB.out hx505_3
        replace hx505_4 := zeA HB.out hx505_4
        replace hx505_5 := zeA HB.out hx505_5
        replace p505 := eq_true p505
        replace q505 := eq_true q505
        refine zpB (n := 10) (S := fun w' => w'.cell? (ad504.add ((x5_1).toNat * 6)) = some (.int .i64 ((zmE l0 x5_1).f0.f0)) ∧ w'.cell? ⟨(ad504.add ((x5_1).toNat * 6)).block, (ad504.add ((x5_1).toNat * 6)).off + 1, none⟩ = some (.int .i64 ((zmE l0 x5_1).f0.f1)) ∧ w'.cell? ⟨(ad504.add ((x5_1).toNat * 6)).block, (ad504.add ((x5_1).toNat * 6)).off + 2, none⟩ = some (.int .i64 ((zmE l0 x5_1).f0.f2)) ∧ w'.cell? ⟨(ad504.add ((x5_1).toNat * 6)).block, (ad504.add ((x5_1).toNat * 6)).off + 3, none⟩ = some (.int .i64 ((zmE l0 x5_1).f1.f0)) ∧ w'.cell? ⟨(ad504.add ((x5_1).toNat * 6)).block, (ad504.add ((x5_1).toNat * 6)).off + 4, none⟩ = some (.int .i64 ((zmE l0 x5_1).f1.f1)) ∧ w'.cell? ⟨(ad504.add ((x5_1).toNat * 6)).block, (ad504.add ((x5_1).toNat * 6)).off + 5, none⟩ = some (.int .i64 ((zmE l0 x5_1).f1.f2)) ∧ w'.cell? (ad505.add ((x5_1).toNat * 6)) = some (.int .i64 ((zmE l1 x5_1).f0.f0)) ∧ w'.cell? ⟨(ad505.add ((x5_1).toNat * 6)).block, (ad505.add ((x5_1).toNat * 6)).off + 1, none⟩ = some (.int .i64 ((zmE l1 x5_1).f0.f1)) ∧ w'.cell? ⟨(ad505.add ((x5_1).toNat * 6)).block, (ad505.add ((x5_1).toNat * 6)).off + 2, none⟩ = some (.int .i64 ((zmE l1 x5_1).f0.f2)) ∧ w'.cell? ⟨(ad505.add ((x5_1).toNat * 6)).block, (ad505.add ((x5_1).toNat * 6)).off + 3, none⟩ = some (.int .i64 ((zmE l1 x5_1).f1.f0)) ∧ w'.cell? ⟨(ad505.add ((x5_1).toNat * 6)).block, (ad505.add ((x5_1).toNat * 6)).off + 4, none⟩ = some (.int .i64 ((zmE l1 x5_1).f1.f1)) ∧ w'.cell? ⟨(ad505.add ((x5_1).toNat * 6)).block, (ad505.add ((x5_1).toNat * 6)).off + 5, none⟩ = some (.int .i64 ((zmE l1 x5_1).f1.f2))) (ds := []) #[false, false, false, false, false, false, false, false, false, false] (by kernel_rfl) rfl rfl ⟨(zeA HB.out hw504_0), (zeA HB.out hw504_1), (zeA HB.out hw504_2), (zeA HB.out hw504_3), (zeA HB.out hw504_4), (zeA HB.out hw504_5), (zeA HB.out hw505_0), (zeA HB.out hw505_1), (zeA HB.out hw505_2), (zeA HB.out hw505_3), (zeA HB.out hw505_4), (zeA HB.out hw505_5)⟩ (fun hHeld => ?_); refine zwI zcH.tab6 zcH.bits6 (fun HT_ HW_ => ?_)
        generalize wr.drew = w11 at HB hx504_0 hx504_1 hx504_2 hx504_3 hx504_4 hx504_5 hx505_0 hx505_1 hx505_2 hx505_3 hx505_4 hx505_5 hHeld ⊢
        refine pu_ 0 (some 17) (bl_ 10 1) ?_
        refine pu_ 1 (some 18) (bl_ 10 3) ?_
        refine pu_ 2 (some 19) (bl_ 10 7) ?_
        refine pu_ 4 (some 21) (bl_ 10 23) ?_
        refine pu_ 5 (some 22) (bl_ 10 55) ?_
        refine pu_ 6 (some 23) (bl_ 10 119) ?_
        refine zmW 3 (some 20) (bl_ 10 127) hHeld ?_
        refine zmW 7 (some 24) (bl_ 10 255) hHeld ?_
        refine zdC (i := 8) (N := some 25) (bl_ 10 511) rfl rfl (zeO HT_.out (by kernel_rfl)) (by decide) (fun K hK => ?_)
        refine zqW Tryd.func21 (by kernel_rfl) rfl #[.agg #[.int .i64 ((zmE l0 x5_1).f0.f0), .int .i64 ((zmE l0 x5_1).f0.f1), .int .i64 ((zmE l0 x5_1).f0.f2), .int .i64 ((zmE l0 x5_1).f1.f0), .int .i64 ((zmE l0 x5_1).f1.f1), .int .i64 ((zmE l0 x5_1).f1.f2)], .agg #[.int .i64 ((zmE l1 x5_1).f0.f0), .int .i64 ((zmE l1 x5_1).f0.f1), .int .i64 ((zmE l1 x5_1).f0.f2), .int .i64 ((zmE l1 x5_1).f1.f0), .int .i64 ((zmE l1 x5_1).f1.f1), .int .i64 ((zmE l1 x5_1).f1.f2)]] (by rfl) rfl rfl (by (try simp only [List.map_toArray, List.map_cons, List.map_nil]); first | done | rfl | (simp only [List.length_drop, List.length_take]; rfl)) ?_
        with_reducible refine (zkR.calls ((zmE l0 x5_1).f0.f0) ((zmE l0 x5_1).f0.f1) ((zmE l0 x5_1).f0.f2) ((zmE l0 x5_1).f1.f0) ((zmE l0 x5_1).f1.f1) ((zmE l0 x5_1).f1.f2) ((zmE l1 x5_1).f0.f0) ((zmE l1 x5_1).f0.f1) ((zmE l1 x5_1).f0.f2) ((zmE l1 x5_1).f1.f0) ((zmE l1 x5_1).f1.f1) ((zmE l1 x5_1).f1.f2) false _ A7.out).mono ?_
        rintro e w12 ⟨rfl, hb⟩
        refine ⟨_, rfl, ?_⟩
        have n0_ := (ns_ hb)
        clear HB
        have HB := n0_
        clear n0_
        (try clear hb)
        (try clear hb2)
        (try clear hk)
        (try clear hi)
        refine hK.out _ _ ⟨(zeA HB.out hw504_0), (zeA HB.out hw504_1), (zeA HB.out hw504_2), (zeA HB.out hw504_3), (zeA HB.out hw504_4), (zeA HB.out hw504_5), (zeA HB.out hw505_0), (zeA HB.out hw505_1), (zeA HB.out hw505_2), (zeA HB.out hw505_3), (zeA HB.out hw505_4), (zeA HB.out hw505_5)⟩ (fun hHeld => ?_)
        clear hK K
        refine zaN (a' := ?_) ?_ ?_
        rotate_left
        ·show Act.put _ (some 25) _ = _
         simp only [Act.put, List.setIfInBounds_toArray, List.set_cons_zero, List.set_cons_succ, zcM, ziK]
         rfl
        refine pu_ 9 (some 26) (bl_ 10 1023) ?_
        refine znK (zzP HT_.out (by kernel_rfl)) ?_
        try go_wp2
        go_ret
        exact ⟨by first | rfl | (simp [ziS, znJ] <;> rfl) | (simp [*, ziS, znJ] <;> rfl), bb_⟩
      ·rw [if_neg c6] at H
       exact absurd H (by simp)
     ·rw [if_neg c5] at H
      exact absurd H (by simp)
    ·rw [if_neg c4] at H
     have c4b0 : decide (x5_1 < (l0.length : Int)) = false := decide_eq_false c4
     clear c4
     obtain rfl := Option.some.inj H
     go_wp2
     go_ret
     exact ⟨by first | rfl | (simp [ziS, znJ] <;> rfl) | (simp [*, ziS, znJ] <;> rfl), bb_⟩
 ·rw [if_neg c3] at H
  have c3b0 : ((l0.length : Int) == (l1.length : Int)) = false := beq_eq_false_iff_ne.mpr c3
  have c3b1 : ((l0.length : Int) != (l1.length : Int)) = true := bne_iff_ne.mpr c3
  have c3b2 : (l0.length == l1.length) = false := by first | simpa using c3 | (simp at c3 ⊢; omega)
  obtain rfl := Option.some.inj H
  go_enter Tryd.func8, Tryd.ntmps8
  go_wp2
  go_ret
  exact ⟨by first | rfl | (simp [ziS, znJ] <;> rfl) | (simp [*, ziS, znJ] <;> rfl), bb_⟩

def zeY.l0 : Nat → List (S35) → Int → Int → Option (Int × (List (S35)))
 | 0, _, _, _ => none
 | k + 1, x0, x1, x5 => if x5 < (x0.length : Int) then (if 0 ≤ x5 then ((some (x0.set (x5 : Int).toNat (⟨(⟨x1, (zmE x0 x5).f0.f1, (zmE x0 x5).f0.f2⟩ : S33), (⟨(zmE x0 x5).f1.f0, (zmE x0 x5).f1.f1, (zmE x0 x5).f1.f2⟩ : S33)⟩ : S35) : List (S35))).bind fun y507 => ((some (y507.set (x5 : Int).toNat (⟨(⟨(zmE y507 x5).f0.f0, wrap64 (x1 + 1), (zmE y507 x5).f0.f2⟩ : S33), (⟨(zmE y507 x5).f1.f0, (zmE y507 x5).f1.f1, (zmE y507 x5).f1.f2⟩ : S33)⟩ : S35) : List (S35))).bind fun y508 => ((some (y508.set (x5 : Int).toNat (⟨(⟨(zmE y508 x5).f0.f0, (zmE y508 x5).f0.f1, wrap64 ((wrap64 (x1 + 1)) + 1)⟩ : S33), (⟨(zmE y508 x5).f1.f0, (zmE y508 x5).f1.f1, (zmE y508 x5).f1.f2⟩ : S33)⟩ : S35) : List (S35))).bind fun y509 => ((some (y509.set (x5 : Int).toNat (⟨(⟨(zmE y509 x5).f0.f0, (zmE y509 x5).f0.f1, (zmE y509 x5).f0.f2⟩ : S33), (⟨wrap64 ((wrap64 ((wrap64 (x1 + 1)) + 1)) + 1), (zmE y509 x5).f1.f1, (zmE y509 x5).f1.f2⟩ : S33)⟩ : S35) : List (S35))).bind fun y510 => ((some (y510.set (x5 : Int).toNat (⟨(⟨(zmE y510 x5).f0.f0, (zmE y510 x5).f0.f1, (zmE y510 x5).f0.f2⟩ : S33), (⟨(zmE y510 x5).f1.f0, wrap64 ((wrap64 ((wrap64 ((wrap64 (x1 + 1)) + 1)) + 1)) + 1), (zmE y510 x5).f1.f2⟩ : S33)⟩ : S35) : List (S35))).bind fun y511 => (zeY.l0 k (y511.set (x5 : Int).toNat (⟨(⟨(zmE y511 x5).f0.f0, (zmE y511 x5).f0.f1, (zmE y511 x5).f0.f2⟩ : S33), (⟨(zmE y511 x5).f1.f0, (zmE y511 x5).f1.f1, wrap64 ((wrap64 ((wrap64 ((wrap64 ((wrap64 (x1 + 1)) + 1)) + 1)) + 1)) + 1)⟩ : S33)⟩ : S35)) (wrap64 ((wrap64 ((wrap64 ((wrap64 ((wrap64 ((wrap64 (x1 + 1)) + 1)) + 1)) + 1)) + 1)) + 1)) (wrap64 (x5 + 1)))))))) else (none)) else (some (x1, x0))
def zeY.f (k : Nat) (l0 : List (S35)) (a1 : Int) : Option (Int × (List (S35))) := zeY.l0 k l0 a1 0
theorem zeY.mono_l : ∀ k, (∀ y0 y1 y2, LeO (zeY.l0 k y0 y1 y2) (zeY.l0 (k + 1) y0 y1 y2))
 | 0 => fun _ _ _ r h => by simp [zeY.l0] at h
 | k + 1 => by
  have ih0 := zeY.mono_l k
  ·intro y0 y1 y2
   unfold zeY.l0
   repeat' first
   | (with_reducible exact ih0 _ _ _)
   | (with_reducible exact LeO.refl _)
   | (with_reducible exact LeO.none _)
   | (with_reducible refine LeO.ite ?_ ?_)
   | (with_reducible refine LeO.bind ?_ (fun _ => ?_))
   | exact ih0 _ _ _
   | exact LeO.none _
   | refine LeO.ite ?_ ?_
   | refine LeO.bind ?_ (fun _ => ?_)
theorem zeY.mono : ∀ a0 a1 k, LeO (zeY.f k a0 a1) (zeY.f (k + 1) a0 a1) := by
 intro a0 a1 k
 have ih0 := zeY.mono_l k
 unfold zeY.f
 repeat' first
   | (with_reducible exact ih0 _ _ _)
   | (with_reducible exact LeO.refl _)
   | (with_reducible exact LeO.none _)
   | (with_reducible refine LeO.ite ?_ ?_)
   | (with_reducible refine LeO.bind ?_ (fun _ => ?_))
   | exact ih0 _ _ _
   | exact LeO.none _
   | refine LeO.ite ?_ ?_
   | refine LeO.bind ?_ (fun _ => ?_)
theorem zeY.calls (k : Nat) (P0_ : Nat → Prop) (u9000_ : Value) (l0 : List (S35)) (a1 : Int) (r1 : Int) (r2 : List (S35)) (w0 w : World) (hB : Below w0.heap.size w0 w) (ho0 : Kd.R k35 35 w w0.heap.size P0_ u9000_ l0) (h : zeY.f k l0 a1 = some (r1, r2)) :
  Calls Tryd.prog 9 #[u9000_, .int .i64 a1] w fun e w' => e = .returned (.int .i64 r1) ∧ Kd.R k35 35 w' w0.heap.size (fun k_ => (P0_ k_ ∨ w.heap.size ≤ k_)) u9000_ r2 ∧ Below w0.heap.size w0 w' ∧ zoW w w' (fun k_ => P0_ k_) := by
 have HO0 := zpS (show Kd.R k35 35 w w0.heap.size (fun k_ => (P0_ k_ ∨ w.heap.size ≤ k_)) u9000_ l0 from Kd.R_mono ho0 (fun k_ hk => (.inl hk)))
 have HK := zpS (zoW.refl w (fun k_ => P0_ k_))
 have HW0 := zpS hB.size
 have HB := zpS hB
 clear hB
 have H : (zeY.l0 k l0 a1 0) = some (r1, r2) := h
 clear h
 have H' := zpS H
 clear H
 go_enter Tryd.func9, Tryd.ntmps9
 go_wp2
 (try go_simp)
 go_loopg [1, 5] k (fun kq v1 v5 w' => ∃ (x0_1 : List (S35)) (x1_1 : Int) (x5_1 : Int), v1 = .int .i64 x1_1 ∧ v5 = .int .i64 x5_1 ∧ Aside0 (zeY.l0 kq x0_1 x1_1 x5_1 = some (r1, r2)) ∧ Aside0 (kq ≤ k) ∧ Aside0 (Kd.R k35 35 w' w0.heap.size (fun k_ => (P0_ k_ ∨ w.heap.size ≤ k_)) u9000_ x0_1) ∧ Aside0 (zoW w w' (fun k_ => P0_ k_)) ∧ Aside0 (Below w0.heap.size w0 w'))
 case atStart => exact ⟨(l0), (a1), (0), (by first | rfl | (simp; done) | (simp [*]; done)), (by first | rfl | (simp; done) | (simp [*]; done)), H', ⟨Nat.le_refl _⟩, ⟨by (with_reducible repeat (first | apply Kd.R_alloc | apply Kd.R_drewN | apply Kd.R_drew)); exact HO0.out⟩, ⟨by repeat (first | (with_reducible first | exact HK.out | apply zoW.alloc | apply zoW.drewN | apply zoW.drew) | exact HK.out)⟩, ⟨bb_⟩⟩
 case round =>
  clear H'
  try clear p2
  obtain ⟨x0_1, x1_1, x5_1, rfl, rfl, HA, HK1, HO_0, HK, HB⟩ := hrel
  cases gk with
  | zero => exact absurd HA.out (by simp [zeY.l0])
  | succ k1 =>
   have H := HA.out
   clear HA
   simp only [zeY.l0] at H
   by_cases c3 : x5_1 < (x0_1.length : Int)
   ·rw [if_pos c3] at H
    have c3b0 : decide (x5_1 < (x0_1.length : Int)) = true := decide_eq_true c3
    clear c3
    by_cases c4 : 0 ≤ x5_1
    ·rw [if_pos c4] at H
     have c4b0 : decide (0 ≤ x5_1) = true := decide_eq_true c4
     clear c4
     obtain ⟨y507, hy507⟩ : ∃ y_ : List (S35), y_ = (x0_1.set (x5_1 : Int).toNat (⟨(⟨x1_1, (zmE x0_1 x5_1).f0.f1, (zmE x0_1 x5_1).f0.f2⟩ : S33), (⟨(zmE x0_1 x5_1).f1.f0, (zmE x0_1 x5_1).f1.f1, (zmE x0_1 x5_1).f1.f2⟩ : S33)⟩ : S35)) := ⟨_, rfl⟩
     replace H : ((some (y507.set (x5_1 : Int).toNat (⟨(⟨(zmE y507 x5_1).f0.f0, wrap64 (x1_1 + 1), (zmE y507 x5_1).f0.f2⟩ : S33), (⟨(zmE y507 x5_1).f1.f0, (zmE y507 x5_1).f1.f1, (zmE y507 x5_1).f1.f2⟩ : S33)⟩ : S35) : List (S35))).bind fun y508 => ((some (y508.set (x5_1 : Int).toNat (⟨(⟨(zmE y508 x5_1).f0.f0, (zmE y508 x5_1).f0.f1, wrap64 ((wrap64 (x1_1 + 1)) + 1)⟩ : S33), (⟨(zmE y508 x5_1).f1.f0, (zmE y508 x5_1).f1.f1, (zmE y508 x5_1).f1.f2⟩ : S33)⟩ : S35) : List (S35))).bind fun y509 => ((some (y509.set (x5_1 : Int).toNat (⟨(⟨(zmE y509 x5_1).f0.f0, (zmE y509 x5_1).f0.f1, (zmE y509 x5_1).f0.f2⟩ : S33), (⟨wrap64 ((wrap64 ((wrap64 (x1_1 + 1)) + 1)) + 1), (zmE y509 x5_1).f1.f1, (zmE y509 x5_1).f1.f2⟩ : S33)⟩ : S35) : List (S35))).bind fun y510 => ((some (y510.set (x5_1 : Int).toNat (⟨(⟨(zmE y510 x5_1).f0.f0, (zmE y510 x5_1).f0.f1, (zmE y510 x5_1).f0.f2⟩ : S33), (⟨(zmE y510 x5_1).f1.f0, wrap64 ((wrap64 ((wrap64 ((wrap64 (x1_1 + 1)) + 1)) + 1)) + 1), (zmE y510 x5_1).f1.f2⟩ : S33)⟩ : S35) : List (S35))).bind fun y511 => (zeY.l0 k1 (y511.set (x5_1 : Int).toNat (⟨(⟨(zmE y511 x5_1).f0.f0, (zmE y511 x5_1).f0.f1, (zmE y511 x5_1).f0.f2⟩ : S33), (⟨(zmE y511 x5_1).f1.f0, (zmE y511 x5_1).f1.f1, wrap64 ((wrap64 ((wrap64 ((wrap64 ((wrap64 (x1_1 + 1)) + 1)) + 1)) + 1)) + 1)⟩ : S33)⟩ : S35)) (wrap64 ((wrap64 ((wrap64 ((wrap64 ((wrap64 ((wrap64 (x1_1 + 1)) + 1)) + 1)) + 1)) + 1)) + 1)) (wrap64 (x5_1 + 1))))))) = some (r1, r2) := by first | (rw [hy507]; with_reducible exact H) | (have H2_ := (Option.bind_some _ _).symm.trans H; rw [hy507]; with_reducible exact H2_) | (have H2_ := (Option.bind_some _ _).symm.trans H; with_reducible exact H2_) | with_reducible exact H | (rw [hy507]; exact H) | exact H
     have Ny507 := zpS hy507
     clear hy507
     obtain ⟨y508, hy508⟩ : ∃ y_ : List (S35), y_ = (y507.set (x5_1 : Int).toNat (⟨(⟨(zmE y507 x5_1).f0.f0, wrap64 (x1_1 + 1), (zmE y507 x5_1).f0.f2⟩ : S33), (⟨(zmE y507 x5_1).f1.f0, (zmE y507 x5_1).f1.f1, (zmE y507 x5_1).f1.f2⟩ : S33)⟩ : S35)) := ⟨_, rfl⟩
     replace H : ((some (y508.set (x5_1 : Int).toNat (⟨(⟨(zmE y508 x5_1).f0.f0, (zmE y508 x5_1).f0.f1, wrap64 ((wrap64 (x1_1 + 1)) + 1)⟩ : S33), (⟨(zmE y508 x5_1).f1.f0, (zmE y508 x5_1).f1.f1, (zmE y508 x5_1).f1.f2⟩ : S33)⟩ : S35) : List (S35))).bind fun y509 => ((some (y509.set (x5_1 : Int).toNat (⟨(⟨(zmE y509 x5_1).f0.f0, (zmE y509 x5_1).f0.f1, (zmE y509 x5_1).f0.f2⟩ : S33), (⟨wrap64 ((wrap64 ((wrap64 (x1_1 + 1)) + 1)) + 1), (zmE y509 x5_1).f1.f1, (zmE y509 x5_1).f1.f2⟩ : S33)⟩ : S35) : List (S35))).bind fun y510 => ((some (y510.set (x5_1 : Int).toNat (⟨(⟨(zmE y510 x5_1).f0.f0, (zmE y510 x5_1).f0.f1, (zmE y510 x5_1).f0.f2⟩ : S33), (⟨(zmE y510 x5_1).f1.f0, wrap64 ((wrap64 ((wrap64 ((wrap64 (x1_1 + 1)) + 1)) + 1)) + 1), (zmE y510 x5_1).f1.f2⟩ : S33)⟩ : S35) : List (S35))).bind fun y511 => (zeY.l0 k1 (y511.set (x5_1 : Int).toNat (⟨(⟨(zmE y511 x5_1).f0.f0, (zmE y511 x5_1).f0.f1, (zmE y511 x5_1).f0.f2⟩ : S33), (⟨(zmE y511 x5_1).f1.f0, (zmE y511 x5_1).f1.f1, wrap64 ((wrap64 ((wrap64 ((wrap64 ((wrap64 (x1_1 + 1)) + 1)) + 1)) + 1)) + 1)⟩ : S33)⟩ : S35)) (wrap64 ((wrap64 ((wrap64 ((wrap64 ((wrap64 ((wrap64 (x1_1 + 1)) + 1)) + 1)) + 1)) + 1)) + 1)) (wrap64 (x5_1 + 1)))))) = some (r1, r2) := by first | (rw [hy508]; with_reducible exact H) | (have H2_ := (Option.bind_some _ _).symm.trans H; rw [hy508]; with_reducible exact H2_) | (have H2_ := (Option.bind_some _ _).symm.trans H; with_reducible exact H2_) | with_reducible exact H | (rw [hy508]; exact H) | exact H
     have Ny508 := zpS hy508
     clear hy508
     obtain ⟨y509, hy509⟩ : ∃ y_ : List (S35), y_ = (y508.set (x5_1 : Int).toNat (⟨(⟨(zmE y508 x5_1).f0.f0, (zmE y508 x5_1).f0.f1, wrap64 ((wrap64 (x1_1 + 1)) + 1)⟩ : S33), (⟨(zmE y508 x5_1).f1.f0, (zmE y508 x5_1).f1.f1, (zmE y508 x5_1).f1.f2⟩ : S33)⟩ : S35)) := ⟨_, rfl⟩
     replace H : ((some (y509.set (x5_1 : Int).toNat (⟨(⟨(zmE y509 x5_1).f0.f0, (zmE y509 x5_1).f0.f1, (zmE y509 x5_1).f0.f2⟩ : S33), (⟨wrap64 ((wrap64 ((wrap64 (x1_1 + 1)) + 1)) + 1), (zmE y509 x5_1).f1.f1, (zmE y509 x5_1).f1.f2⟩ : S33)⟩ : S35) : List (S35))).bind fun y510 => ((some (y510.set (x5_1 : Int).toNat (⟨(⟨(zmE y510 x5_1).f0.f0, (zmE y510 x5_1).f0.f1, (zmE y510 x5_1).f0.f2⟩ : S33), (⟨(zmE y510 x5_1).f1.f0, wrap64 ((wrap64 ((wrap64 ((wrap64 (x1_1 + 1)) + 1)) + 1)) + 1), (zmE y510 x5_1).f1.f2⟩ : S33)⟩ : S35) : List (S35))).bind fun y511 => (zeY.l0 k1 (y511.set (x5_1 : Int).toNat (⟨(⟨(zmE y511 x5_1).f0.f0, (zmE y511 x5_1).f0.f1, (zmE y511 x5_1).f0.f2⟩ : S33), (⟨(zmE y511 x5_1).f1.f0, (zmE y511 x5_1).f1.f1, wrap64 ((wrap64 ((wrap64 ((wrap64 ((wrap64 (x1_1 + 1)) + 1)) + 1)) + 1)) + 1)⟩ : S33)⟩ : S35)) (wrap64 ((wrap64 ((wrap64 ((wrap64 ((wrap64 ((wrap64 (x1_1 + 1)) + 1)) + 1)) + 1)) + 1)) + 1)) (wrap64 (x5_1 + 1))))) = some (r1, r2) := by first | (rw [hy509]; with_reducible exact H) | (have H2_ := (Option.bind_some _ _).symm.trans H; rw [hy509]; with_reducible exact H2_) | (have H2_ := (Option.bind_some _ _).symm.trans H; with_reducible exact H2_) | with_reducible exact H | (rw [hy509]; exact H) | exact H
     have Ny509 := zpS hy509
     clear hy509
     obtain ⟨y510, hy510⟩ : ∃ y_ : List (S35), y_ = (y509.set (x5_1 : Int).toNat (⟨(⟨(zmE y509 x5_1).f0.f0, (zmE y509 x5_1).f0.f1, (zmE y509 x5_1).f0.f2⟩ : S33), (⟨wrap64 ((wrap64 ((wrap64 (x1_1 + 1)) + 1)) + 1), (zmE y509 x5_1).f1.f1, (zmE y509 x5_1).f1.f2⟩ : S33)⟩ : S35)) := ⟨_, rfl⟩
     replace H : ((some (y510.set (x5_1 : Int).toNat (⟨(⟨(zmE y510 x5_1).f0.f0, (zmE y510 x5_1).f0.f1, (zmE y510 x5_1).f0.f2⟩ : S33), (⟨(zmE y510 x5_1).f1.f0, wrap64 ((wrap64 ((wrap64 ((wrap64 (x1_1 + 1)) + 1)) + 1)) + 1), (zmE y510 x5_1).f1.f2⟩ : S33)⟩ : S35) : List (S35))).bind fun y511 => (zeY.l0 k1 (y511.set (x5_1 : Int).toNat (⟨(⟨(zmE y511 x5_1).f0.f0, (zmE y511 x5_1).f0.f1, (zmE y511 x5_1).f0.f2⟩ : S33), (⟨(zmE y511 x5_1).f1.f0, (zmE y511 x5_1).f1.f1, wrap64 ((wrap64 ((wrap64 ((wrap64 ((wrap64 (x1_1 + 1)) + 1)) + 1)) + 1)) + 1)⟩ : S33)⟩ : S35)) (wrap64 ((wrap64 ((wrap64 ((wrap64 ((wrap64 ((wrap64 (x1_1 + 1)) + 1)) + 1)) + 1)) + 1)) + 1)) (wrap64 (x5_1 + 1)))) = some (r1, r2) := by first | (rw [hy510]; with_reducible exact H) | (have H2_ := (Option.bind_some _ _).symm.trans H; rw [hy510]; with_reducible exact H2_) | (have H2_ := (Option.bind_some _ _).symm.trans H; with_reducible exact H2_) | with_reducible exact H | (rw [hy510]; exact H) | exact H
     have Ny510 := zpS hy510
     clear hy510
     obtain ⟨y511, hy511⟩ : ∃ y_ : List (S35), y_ = (y510.set (x5_1 : Int).toNat (⟨(⟨(zmE y510 x5_1).f0.f0, (zmE y510 x5_1).f0.f1, (zmE y510 x5_1).f0.f2⟩ : S33), (⟨(zmE y510 x5_1).f1.f0, wrap64 ((wrap64 ((wrap64 ((wrap64 (x1_1 + 1)) + 1)) + 1)) + 1), (zmE y510 x5_1).f1.f2⟩ : S33)⟩ : S35)) := ⟨_, rfl⟩
     replace H : (zeY.l0 k1 (y511.set (x5_1 : Int).toNat (⟨(⟨(zmE y511 x5_1).f0.f0, (zmE y511 x5_1).f0.f1, (zmE y511 x5_1).f0.f2⟩ : S33), (⟨(zmE y511 x5_1).f1.f0, (zmE y511 x5_1).f1.f1, wrap64 ((wrap64 ((wrap64 ((wrap64 ((wrap64 (x1_1 + 1)) + 1)) + 1)) + 1)) + 1)⟩ : S33)⟩ : S35)) (wrap64 ((wrap64 ((wrap64 ((wrap64 ((wrap64 ((wrap64 (x1_1 + 1)) + 1)) + 1)) + 1)) + 1)) + 1)) (wrap64 (x5_1 + 1))) = some (r1, r2) := by first | (rw [hy511]; with_reducible exact H) | (have H2_ := (Option.bind_some _ _).symm.trans H; rw [hy511]; with_reducible exact H2_) | (have H2_ := (Option.bind_some _ _).symm.trans H; with_reducible exact H2_) | with_reducible exact H | (rw [hy511]; exact H) | exact H
     have Ny511 := zpS hy511
     clear hy511
     obtain ⟨y512, hy512⟩ : ∃ y_ : List (S35), y_ = (y511.set (x5_1 : Int).toNat (⟨(⟨(zmE y511 x5_1).f0.f0, (zmE y511 x5_1).f0.f1, (zmE y511 x5_1).f0.f2⟩ : S33), (⟨(zmE y511 x5_1).f1.f0, (zmE y511 x5_1).f1.f1, wrap64 ((wrap64 ((wrap64 ((wrap64 ((wrap64 (x1_1 + 1)) + 1)) + 1)) + 1)) + 1)⟩ : S33)⟩ : S35)) := ⟨_, rfl⟩
     replace H : (zeY.l0 k1 y512 (wrap64 ((wrap64 ((wrap64 ((wrap64 ((wrap64 ((wrap64 (x1_1 + 1)) + 1)) + 1)) + 1)) + 1)) + 1)) (wrap64 (x5_1 + 1))) = some (r1, r2) := by first | (rw [hy512]; with_reducible exact H) | (have H2_ := (Option.bind_some _ _).symm.trans H; rw [hy512]; with_reducible exact H2_) | (have H2_ := (Option.bind_some _ _).symm.trans H; with_reducible exact H2_) | with_reducible exact H | (rw [hy512]; exact H) | exact H
     have Ny512 := zpS hy512
     clear hy512
     have H' := zpS H
     clear H
     obtain ⟨Ao11, co11, eo11⟩ := Kd.R_slice HO_0.out
     subst eo11
     have p5 : 0 ≤ (x5_1 : Int) := dt_
     have q5 : (x5_1 : Int) < ((x0_1.length : Int) : Int) := dt_
     obtain ⟨go5, co5, eo5, gb5, gl5, cl5, HG5⟩ := Kd.R_form HO_0.out (by omega)
     (first | cases eo5 | (injection eo5 with ea_ en_ ec_; (first | subst ea_ | (injection ea_ with ea_; subst ea_)); subst ec_; clear en_))
     have GB5 := zpS gb5
     have GG5 := zpS HG5
     clear gb5 gl5 HG5
     have HMgo5 := zpS (show (P0_ go5 ∨ w.heap.size ≤ go5) from (HO_0.out.1 _ rfl))
     obtain ⟨ce5, hcl5, hM5, hcc5, hfr5⟩ := Kd.R_elem HO_0.out z35 (x5_1 : Int) p5 q5
     obtain rfl := zeE hM5
     have hx5_0 : wr.cell? ⟨go5, (x5_1 : Int).toNat * 6, none⟩ = some (.int .i64 ((zmE x0_1 x5_1).f0.f0)) := hcc5 0 _ rfl
     have hx5_1 : wr.cell? ⟨go5, (x5_1 : Int).toNat * 6 + 1, none⟩ = some (.int .i64 ((zmE x0_1 x5_1).f0.f1)) := hcc5 1 _ rfl
     have hx5_2 : wr.cell? ⟨go5, (x5_1 : Int).toNat * 6 + 2, none⟩ = some (.int .i64 ((zmE x0_1 x5_1).f0.f2)) := hcc5 2 _ rfl
     have hx5_3 : wr.cell? ⟨go5, (x5_1 : Int).toNat * 6 + 3, none⟩ = some (.int .i64 ((zmE x0_1 x5_1).f1.f0)) := hcc5 3 _ rfl
     have hx5_4 : wr.cell? ⟨go5, (x5_1 : Int).toNat * 6 + 4, none⟩ = some (.int .i64 ((zmE x0_1 x5_1).f1.f1)) := hcc5 4 _ rfl
     have hx5_5 : wr.cell? ⟨go5, (x5_1 : Int).toNat * 6 + 5, none⟩ = some (.int .i64 ((zmE x0_1 x5_1).f1.f2)) := hcc5 5 _ rfl
     have hf5_0 : wr.frozen? ⟨go5, (x5_1 : Int).toNat * 6, none⟩ = false := hfr5 0
     have hf5_1 : wr.frozen? ⟨go5, (x5_1 : Int).toNat * 6 + 1, none⟩ = false := hfr5 1
     have hf5_2 : wr.frozen? ⟨go5, (x5_1 : Int).toNat * 6 + 2, none⟩ = false := hfr5 2
     have hf5_3 : wr.frozen? ⟨go5, (x5_1 : Int).toNat * 6 + 3, none⟩ = false := hfr5 3
     have hf5_4 : wr.frozen? ⟨go5, (x5_1 : Int).toNat * 6 + 4, none⟩ = false := hfr5 4
     have hf5_5 : wr.frozen? ⟨go5, (x5_1 : Int).toNat * 6 + 5, none⟩ = false := hfr5 5
     clear hcl5 hcc5 hfr5; (try clear hM5)
     replace p5 := eq_true p5
     replace q5 := eq_true q5
     have HX12 := zpS (show Kd.R k35 35 wr w0.heap.size (fun k_ => (P0_ k_ ∨ w.heap.size ≤ k_)) (.slice (some ⟨go5, 0, none⟩) x0_1.length co11) x0_1 from (by (with_reducible repeat (first | apply Kd.R_alloc | apply Kd.R_drewN | apply Kd.R_drew)); exact HO_0.out))
     obtain ⟨ce12, hcl12, hM12, hcc12, hfr12⟩ := Kd.R_elem HX12.out z35 (x5_1 : Int) dt_ (by have h_ : (x5_1 : Int) < ((x0_1.length : Int) : Int) := dt_; first | exact h_ | (have e_ := (Kd.R_reads' HO_0.out).1; omega) | simpa using h_)
     obtain rfl := zeE hM12
     have HP12 := Kd.R_seg HX12.out (x5_1 : Int) dt_ (by have h_ : (x5_1 : Int) < ((x0_1.length : Int) : Int) := dt_; first | exact h_ | (have e_ := (Kd.R_reads' HO_0.out).1; omega) | simpa using h_) (seg := [.int .i64 x1_1]) (j := 0) hcl12 hcc12 (show 1 ≤ 6 from by decide) (x' := (⟨(⟨x1_1, (zmE x0_1 x5_1).f0.f1, (zmE x0_1 x5_1).f0.f2⟩ : S33), (⟨(zmE x0_1 x5_1).f1.f0, (zmE x0_1 x5_1).f1.f1, (zmE x0_1 x5_1).f1.f2⟩ : S33)⟩ : S35)) (k35_mkM _ _ _ (⟨(⟨x1_1, (zmE x0_1 x5_1).f0.f1, (zmE x0_1 x5_1).f0.f2⟩ : S33), (⟨(zmE x0_1 x5_1).f1.f0, (zmE x0_1 x5_1).f1.f1, (zmE x0_1 x5_1).f1.f2⟩ : S33)⟩ : S35) ) (fun _ hk => hk)
     have hx12_0 := hcc12 0 _ rfl
     (try simp only [show (k35).sz = 6 from rfl, Nat.mul_one, Nat.add_zero] at hx12_0)
     have hf12_0 := hfr12 0
     (try simp only [show (k35).sz = 6 from rfl, Nat.mul_one, Nat.add_zero] at hf12_0)
     clear hcl12 hcc12 hfr12; (try clear hM12)
     go_wp2_with (first | ((with_reducible refine gate_store (t := 2) (p := 17) rfl ?_); refine zuD (t := 2) (p := 17) (v := ?vo_w13) (w1 := (wr.setCell ⟨go5, (x5_1 : Int).toNat * 6, none⟩ (.int .i64 x1_1))) ?hg ?ho ?hn ?hr ?_; (case ho => rfl); (case hg => rfl); (case hn => rfl); (case hr => first | (go_simp; done) | (go_simp; rfl)); intro w13 hw; have hg : wr.grownBy w13 (some go5) := (by rw [hw]; exact HP12.2); have hp_ : Kd.R k35 35 w13 w0.heap.size (fun k_ => (P0_ k_ ∨ w.heap.size ≤ k_)) (.slice (some ⟨go5, 0, none⟩) x0_1.length co11) y507 := (by rw [hw, Ny507.out]; exact HP12.1); clear HP12; have n0_ := zpS (hp_); have n1_ := zpS ((by rw [hw]; exact zjG (HB.out) GB5.out : Below w0.heap.size w0 w13)); have n2_ := zpS (zoW.of_grown (S := (fun k_ => P0_ k_)) hg (by repeat (first | (with_reducible first | exact HK.out | apply zoW.alloc | apply zoW.drewN | apply zoW.drew) | exact HK.out)) (fun k_ e_ => (HO_0.out.1 k_ e_))); clear HO_0; clear HB; clear HK; have HO_0 := n0_; have HB := n1_; have HK := n2_; clear n0_ n1_ n2_; clear hg hw hp_; have p6 : 0 ≤ (x5_1 : Int) := dt_; have q6 : (x5_1 : Int) < ((x0_1.length : Int) : Int) := dt_; obtain ⟨ce6, hcl6, hM6, hcc6, hfr6⟩ := Kd.R_elem HO_0.out z35 (x5_1 : Int) p6 q6; obtain rfl := zeE hM6; have hx6_0 : w13.cell? ⟨go5, (x5_1 : Int).toNat * 6, none⟩ = some (.int .i64 ((zmE y507 x5_1).f0.f0)) := hcc6 0 _ rfl; have hx6_1 : w13.cell? ⟨go5, (x5_1 : Int).toNat * 6 + 1, none⟩ = some (.int .i64 ((zmE y507 x5_1).f0.f1)) := hcc6 1 _ rfl; have hx6_2 : w13.cell? ⟨go5, (x5_1 : Int).toNat * 6 + 2, none⟩ = some (.int .i64 ((zmE y507 x5_1).f0.f2)) := hcc6 2 _ rfl; have hx6_3 : w13.cell? ⟨go5, (x5_1 : Int).toNat * 6 + 3, none⟩ = some (.int .i64 ((zmE y507 x5_1).f1.f0)) := hcc6 3 _ rfl; have hx6_4 : w13.cell? ⟨go5, (x5_1 : Int).toNat * 6 + 4, none⟩ = some (.int .i64 ((zmE y507 x5_1).f1.f1)) := hcc6 4 _ rfl; have hx6_5 : w13.cell? ⟨go5, (x5_1 : Int).toNat * 6 + 5, none⟩ = some (.int .i64 ((zmE y507 x5_1).f1.f2)) := hcc6 5 _ rfl; have hf6_0 : w13.frozen? ⟨go5, (x5_1 : Int).toNat * 6, none⟩ = false := hfr6 0; have hf6_1 : w13.frozen? ⟨go5, (x5_1 : Int).toNat * 6 + 1, none⟩ = false := hfr6 1; have hf6_2 : w13.frozen? ⟨go5, (x5_1 : Int).toNat * 6 + 2, none⟩ = false := hfr6 2; have hf6_3 : w13.frozen? ⟨go5, (x5_1 : Int).toNat * 6 + 3, none⟩ = false := hfr6 3; have hf6_4 : w13.frozen? ⟨go5, (x5_1 : Int).toNat * 6 + 4, none⟩ = false := hfr6 4; have hf6_5 : w13.frozen? ⟨go5, (x5_1 : Int).toNat * 6 + 5, none⟩ = false := hfr6 5; clear hcl6 hcc6 hfr6; (try clear hM6); replace p6 := eq_true p6; replace q6 := eq_true q6; have HX14 := zpS (show Kd.R k35 35 w13 w0.heap.size (fun k_ => (P0_ k_ ∨ w.heap.size ≤ k_)) (.slice (some ⟨go5, 0, none⟩) x0_1.length co11) y507 from (by (with_reducible repeat (first | apply Kd.R_alloc | apply Kd.R_drewN | apply Kd.R_drew)); exact HO_0.out)); obtain ⟨ce14, hcl14, hM14, hcc14, hfr14⟩ := Kd.R_elem HX14.out z35 (x5_1 : Int) dt_ (by have h_ : (x5_1 : Int) < ((x0_1.length : Int) : Int) := dt_; first | exact h_ | (have e_ := (Kd.R_reads' HO_0.out).1; omega) | simpa using h_); obtain rfl := zeE hM14; have HP14 := Kd.R_seg HX14.out (x5_1 : Int) dt_ (by have h_ : (x5_1 : Int) < ((x0_1.length : Int) : Int) := dt_; first | exact h_ | (have e_ := (Kd.R_reads' HO_0.out).1; omega) | simpa using h_) (seg := [.int .i64 (wrap64 (x1_1 + 1))]) (j := 1) hcl14 hcc14 (show 2 ≤ 6 from by decide) (x' := (⟨(⟨(zmE y507 x5_1).f0.f0, wrap64 (x1_1 + 1), (zmE y507 x5_1).f0.f2⟩ : S33), (⟨(zmE y507 x5_1).f1.f0, (zmE y507 x5_1).f1.f1, (zmE y507 x5_1).f1.f2⟩ : S33)⟩ : S35)) (k35_mkM _ _ _ (⟨(⟨(zmE y507 x5_1).f0.f0, wrap64 (x1_1 + 1), (zmE y507 x5_1).f0.f2⟩ : S33), (⟨(zmE y507 x5_1).f1.f0, (zmE y507 x5_1).f1.f1, (zmE y507 x5_1).f1.f2⟩ : S33)⟩ : S35) ) (fun _ hk => hk); have hx14_1 := hcc14 1 _ rfl; (try simp only [show (k35).sz = 6 from rfl, Nat.mul_one, Nat.add_zero] at hx14_1); have hf14_1 := hfr14 1; (try simp only [show (k35).sz = 6 from rfl, Nat.mul_one, Nat.add_zero] at hf14_1); clear hcl14 hcc14 hfr14; (try clear hM14)) | ((with_reducible refine gate_store (t := 2) (p := 25) rfl ?_); refine zuD (t := 2) (p := 25) (v := ?vo_w15) (w1 := (w13.setCell ⟨go5, (x5_1 : Int).toNat * 6 + 1, none⟩ (.int .i64 (wrap64 (x1_1 + 1))))) ?hg ?ho ?hn ?hr ?_; (case ho => rfl); (case hg => rfl); (case hn => rfl); (case hr => first | (go_simp; done) | (go_simp; rfl)); intro w15 hw; have hg : w13.grownBy w15 (some go5) := (by rw [hw]; exact HP14.2); have hp_ : Kd.R k35 35 w15 w0.heap.size (fun k_ => (P0_ k_ ∨ w.heap.size ≤ k_)) (.slice (some ⟨go5, 0, none⟩) x0_1.length co11) y508 := (by rw [hw, Ny508.out]; exact HP14.1); clear HP14; have n0_ := zpS (hp_); have n1_ := zpS ((by rw [hw]; exact zjG (HB.out) GB5.out : Below w0.heap.size w0 w15)); have n2_ := zpS (zoW.of_grown (S := (fun k_ => P0_ k_)) hg (by repeat (first | (with_reducible first | exact HK.out | apply zoW.alloc | apply zoW.drewN | apply zoW.drew) | exact HK.out)) (fun k_ e_ => (HO_0.out.1 k_ e_))); clear HO_0; clear HB; clear HK; have HO_0 := n0_; have HB := n1_; have HK := n2_; clear n0_ n1_ n2_; clear hg hw hp_; have p7 : 0 ≤ (x5_1 : Int) := dt_; have q7 : (x5_1 : Int) < ((x0_1.length : Int) : Int) := dt_; obtain ⟨ce7, hcl7, hM7, hcc7, hfr7⟩ := Kd.R_elem HO_0.out z35 (x5_1 : Int) p7 q7; obtain rfl := zeE hM7; have hx7_0 : w15.cell? ⟨go5, (x5_1 : Int).toNat * 6, none⟩ = some (.int .i64 ((zmE y508 x5_1).f0.f0)) := hcc7 0 _ rfl; have hx7_1 : w15.cell? ⟨go5, (x5_1 : Int).toNat * 6 + 1, none⟩ = some (.int .i64 ((zmE y508 x5_1).f0.f1)) := hcc7 1 _ rfl; have hx7_2 : w15.cell? ⟨go5, (x5_1 : Int).toNat * 6 + 2, none⟩ = some (.int .i64 ((zmE y508 x5_1).f0.f2)) := hcc7 2 _ rfl; have hx7_3 : w15.cell? ⟨go5, (x5_1 : Int).toNat * 6 + 3, none⟩ = some (.int .i64 ((zmE y508 x5_1).f1.f0)) := hcc7 3 _ rfl; have hx7_4 : w15.cell? ⟨go5, (x5_1 : Int).toNat * 6 + 4, none⟩ = some (.int .i64 ((zmE y508 x5_1).f1.f1)) := hcc7 4 _ rfl; have hx7_5 : w15.cell? ⟨go5, (x5_1 : Int).toNat * 6 + 5, none⟩ = some (.int .i64 ((zmE y508 x5_1).f1.f2)) := hcc7 5 _ rfl; have hf7_0 : w15.frozen? ⟨go5, (x5_1 : Int).toNat * 6, none⟩ = false := hfr7 0; have hf7_1 : w15.frozen? ⟨go5, (x5_1 : Int).toNat * 6 + 1, none⟩ = false := hfr7 1; have hf7_2 : w15.frozen? ⟨go5, (x5_1 : Int).toNat * 6 + 2, none⟩ = false := hfr7 2; have hf7_3 : w15.frozen? ⟨go5, (x5_1 : Int).toNat * 6 + 3, none⟩ = false := hfr7 3; have hf7_4 : w15.frozen? ⟨go5, (x5_1 : Int).toNat * 6 + 4, none⟩ = false := hfr7 4; have hf7_5 : w15.frozen? ⟨go5, (x5_1 : Int).toNat * 6 + 5, none⟩ = false := hfr7 5; clear hcl7 hcc7 hfr7; (try clear hM7); replace p7 := eq_true p7; replace q7 := eq_true q7; have HX16 := zpS (show Kd.R k35 35 w15 w0.heap.size (fun k_ => (P0_ k_ ∨ w.heap.size ≤ k_)) (.slice (some ⟨go5, 0, none⟩) x0_1.length co11) y508 from (by (with_reducible repeat (first | apply Kd.R_alloc | apply Kd.R_drewN | apply Kd.R_drew)); exact HO_0.out)); obtain ⟨ce16, hcl16, hM16, hcc16, hfr16⟩ := Kd.R_elem HX16.out z35 (x5_1 : Int) dt_ (by have h_ : (x5_1 : Int) < ((x0_1.length : Int) : Int) := dt_; first | exact h_ | (have e_ := (Kd.R_reads' HO_0.out).1; omega) | simpa using h_); obtain rfl := zeE hM16; have HP16 := Kd.R_seg HX16.out (x5_1 : Int) dt_ (by have h_ : (x5_1 : Int) < ((x0_1.length : Int) : Int) := dt_; first | exact h_ | (have e_ := (Kd.R_reads' HO_0.out).1; omega) | simpa using h_) (seg := [.int .i64 (wrap64 ((wrap64 (x1_1 + 1)) + 1))]) (j := 2) hcl16 hcc16 (show 3 ≤ 6 from by decide) (x' := (⟨(⟨(zmE y508 x5_1).f0.f0, (zmE y508 x5_1).f0.f1, wrap64 ((wrap64 (x1_1 + 1)) + 1)⟩ : S33), (⟨(zmE y508 x5_1).f1.f0, (zmE y508 x5_1).f1.f1, (zmE y508 x5_1).f1.f2⟩ : S33)⟩ : S35)) (k35_mkM _ _ _ (⟨(⟨(zmE y508 x5_1).f0.f0, (zmE y508 x5_1).f0.f1, wrap64 ((wrap64 (x1_1 + 1)) + 1)⟩ : S33), (⟨(zmE y508 x5_1).f1.f0, (zmE y508 x5_1).f1.f1, (zmE y508 x5_1).f1.f2⟩ : S33)⟩ : S35) ) (fun _ hk => hk); have hx16_2 := hcc16 2 _ rfl; (try simp only [show (k35).sz = 6 from rfl, Nat.mul_one, Nat.add_zero] at hx16_2); have hf16_2 := hfr16 2; (try simp only [show (k35).sz = 6 from rfl, Nat.mul_one, Nat.add_zero] at hf16_2); clear hcl16 hcc16 hfr16; (try clear hM16)) | ((with_reducible refine gate_store (t := 2) (p := 33) rfl ?_); refine zuD (t := 2) (p := 33) (v := ?vo_w17) (w1 := (w15.setCell ⟨go5, (x5_1 : Int).toNat * 6 + 2, none⟩ (.int .i64 (wrap64 ((wrap64 (x1_1 + 1)) + 1))))) ?hg ?ho ?hn ?hr ?_; (case ho => rfl); (case hg => rfl); (case hn => rfl); (case hr => first | (go_simp; done) | (go_simp; rfl)); intro w17 hw; have hg : w15.grownBy w17 (some go5) := (by rw [hw]; exact HP16.2); have hp_ : Kd.R k35 35 w17 w0.heap.size (fun k_ => (P0_ k_ ∨ w.heap.size ≤ k_)) (.slice (some ⟨go5, 0, none⟩) x0_1.length co11) y509 := (by rw [hw, Ny509.out]; exact HP16.1); clear HP16; have n0_ := zpS (hp_); have n1_ := zpS ((by rw [hw]; exact zjG (HB.out) GB5.out : Below w0.heap.size w0 w17)); have n2_ := zpS (zoW.of_grown (S := (fun k_ => P0_ k_)) hg (by repeat (first | (with_reducible first | exact HK.out | apply zoW.alloc | apply zoW.drewN | apply zoW.drew) | exact HK.out)) (fun k_ e_ => (HO_0.out.1 k_ e_))); clear HO_0; clear HB; clear HK; have HO_0 := n0_; have HB := n1_; have HK := n2_; clear n0_ n1_ n2_; clear hg hw hp_; have p8 : 0 ≤ (x5_1 : Int) := dt_; have q8 : (x5_1 : Int) < ((x0_1.length : Int) : Int) := dt_; obtain ⟨ce8, hcl8, hM8, hcc8, hfr8⟩ := Kd.R_elem HO_0.out z35 (x5_1 : Int) p8 q8; obtain rfl := zeE hM8; have hx8_0 : w17.cell? ⟨go5, (x5_1 : Int).toNat * 6, none⟩ = some (.int .i64 ((zmE y509 x5_1).f0.f0)) := hcc8 0 _ rfl; have hx8_1 : w17.cell? ⟨go5, (x5_1 : Int).toNat * 6 + 1, none⟩ = some (.int .i64 ((zmE y509 x5_1).f0.f1)) := hcc8 1 _ rfl; have hx8_2 : w17.cell? ⟨go5, (x5_1 : Int).toNat * 6 + 2, none⟩ = some (.int .i64 ((zmE y509 x5_1).f0.f2)) := hcc8 2 _ rfl; have hx8_3 : w17.cell? ⟨go5, (x5_1 : Int).toNat * 6 + 3, none⟩ = some (.int .i64 ((zmE y509 x5_1).f1.f0)) := hcc8 3 _ rfl; have hx8_4 : w17.cell? ⟨go5, (x5_1 : Int).toNat * 6 + 4, none⟩ = some (.int .i64 ((zmE y509 x5_1).f1.f1)) := hcc8 4 _ rfl; have hx8_5 : w17.cell? ⟨go5, (x5_1 : Int).toNat * 6 + 5, none⟩ = some (.int .i64 ((zmE y509 x5_1).f1.f2)) := hcc8 5 _ rfl; have hf8_0 : w17.frozen? ⟨go5, (x5_1 : Int).toNat * 6, none⟩ = false := hfr8 0; have hf8_1 : w17.frozen? ⟨go5, (x5_1 : Int).toNat * 6 + 1, none⟩ = false := hfr8 1; have hf8_2 : w17.frozen? ⟨go5, (x5_1 : Int).toNat * 6 + 2, none⟩ = false := hfr8 2; have hf8_3 : w17.frozen? ⟨go5, (x5_1 : Int).toNat * 6 + 3, none⟩ = false := hfr8 3; have hf8_4 : w17.frozen? ⟨go5, (x5_1 : Int).toNat * 6 + 4, none⟩ = false := hfr8 4; have hf8_5 : w17.frozen? ⟨go5, (x5_1 : Int).toNat * 6 + 5, none⟩ = false := hfr8 5; clear hcl8 hcc8 hfr8; (try clear hM8); replace p8 := eq_true p8; replace q8 := eq_true q8; have HX18 := zpS (show Kd.R k35 35 w17 w0.heap.size (fun k_ => (P0_ k_ ∨ w.heap.size ≤ k_)) (.slice (some ⟨go5, 0, none⟩) x0_1.length co11) y509 from (by (with_reducible repeat (first | apply Kd.R_alloc | apply Kd.R_drewN | apply Kd.R_drew)); exact HO_0.out)); obtain ⟨ce18, hcl18, hM18, hcc18, hfr18⟩ := Kd.R_elem HX18.out z35 (x5_1 : Int) dt_ (by have h_ : (x5_1 : Int) < ((x0_1.length : Int) : Int) := dt_; first | exact h_ | (have e_ := (Kd.R_reads' HO_0.out).1; omega) | simpa using h_); obtain rfl := zeE hM18; have HP18 := Kd.R_seg HX18.out (x5_1 : Int) dt_ (by have h_ : (x5_1 : Int) < ((x0_1.length : Int) : Int) := dt_; first | exact h_ | (have e_ := (Kd.R_reads' HO_0.out).1; omega) | simpa using h_) (seg := [.int .i64 (wrap64 ((wrap64 ((wrap64 (x1_1 + 1)) + 1)) + 1))]) (j := 3) hcl18 hcc18 (show 4 ≤ 6 from by decide) (x' := (⟨(⟨(zmE y509 x5_1).f0.f0, (zmE y509 x5_1).f0.f1, (zmE y509 x5_1).f0.f2⟩ : S33), (⟨wrap64 ((wrap64 ((wrap64 (x1_1 + 1)) + 1)) + 1), (zmE y509 x5_1).f1.f1, (zmE y509 x5_1).f1.f2⟩ : S33)⟩ : S35)) (k35_mkM _ _ _ (⟨(⟨(zmE y509 x5_1).f0.f0, (zmE y509 x5_1).f0.f1, (zmE y509 x5_1).f0.f2⟩ : S33), (⟨wrap64 ((wrap64 ((wrap64 (x1_1 + 1)) + 1)) + 1), (zmE y509 x5_1).f1.f1, (zmE y509 x5_1).f1.f2⟩ : S33)⟩ : S35) ) (fun _ hk => hk); have hx18_3 := hcc18 3 _ rfl; (try simp only [show (k35).sz = 6 from rfl, Nat.mul_one, Nat.add_zero] at hx18_3); have hf18_3 := hfr18 3; (try simp only [show (k35).sz = 6 from rfl, Nat.mul_one, Nat.add_zero] at hf18_3); clear hcl18 hcc18 hfr18; (try clear hM18)) | ((with_reducible refine gate_store (t := 2) (p := 41) rfl ?_); refine zuD (t := 2) (p := 41) (v := ?vo_w19) (w1 := (w17.setCell ⟨go5, (x5_1 : Int).toNat * 6 + 3, none⟩ (.int .i64 (wrap64 ((wrap64 ((wrap64 (x1_1 + 1)) + 1)) + 1))))) ?hg ?ho ?hn ?hr ?_; (case ho => rfl); (case hg => rfl); (case hn => rfl); (case hr => first | (go_simp; done) | (go_simp; rfl)); intro w19 hw; have hg : w17.grownBy w19 (some go5) := (by rw [hw]; exact HP18.2); have hp_ : Kd.R k35 35 w19 w0.heap.size (fun k_ => (P0_ k_ ∨ w.heap.size ≤ k_)) (.slice (some ⟨go5, 0, none⟩) x0_1.length co11) y510 := (by rw [hw, Ny510.out]; exact HP18.1); clear HP18; have n0_ := zpS (hp_); have n1_ := zpS ((by rw [hw]; exact zjG (HB.out) GB5.out : Below w0.heap.size w0 w19)); have n2_ := zpS (zoW.of_grown (S := (fun k_ => P0_ k_)) hg (by repeat (first | (with_reducible first | exact HK.out | apply zoW.alloc | apply zoW.drewN | apply zoW.drew) | exact HK.out)) (fun k_ e_ => (HO_0.out.1 k_ e_))); clear HO_0; clear HB; clear HK; have HO_0 := n0_; have HB := n1_; have HK := n2_; clear n0_ n1_ n2_; clear hg hw hp_; have p9 : 0 ≤ (x5_1 : Int) := dt_; have q9 : (x5_1 : Int) < ((x0_1.length : Int) : Int) := dt_; obtain ⟨ce9, hcl9, hM9, hcc9, hfr9⟩ := Kd.R_elem HO_0.out z35 (x5_1 : Int) p9 q9; obtain rfl := zeE hM9; have hx9_0 : w19.cell? ⟨go5, (x5_1 : Int).toNat * 6, none⟩ = some (.int .i64 ((zmE y510 x5_1).f0.f0)) := hcc9 0 _ rfl; have hx9_1 : w19.cell? ⟨go5, (x5_1 : Int).toNat * 6 + 1, none⟩ = some (.int .i64 ((zmE y510 x5_1).f0.f1)) := hcc9 1 _ rfl; have hx9_2 : w19.cell? ⟨go5, (x5_1 : Int).toNat * 6 + 2, none⟩ = some (.int .i64 ((zmE y510 x5_1).f0.f2)) := hcc9 2 _ rfl; have hx9_3 : w19.cell? ⟨go5, (x5_1 : Int).toNat * 6 + 3, none⟩ = some (.int .i64 ((zmE y510 x5_1).f1.f0)) := hcc9 3 _ rfl; have hx9_4 : w19.cell? ⟨go5, (x5_1 : Int).toNat * 6 + 4, none⟩ = some (.int .i64 ((zmE y510 x5_1).f1.f1)) := hcc9 4 _ rfl; have hx9_5 : w19.cell? ⟨go5, (x5_1 : Int).toNat * 6 + 5, none⟩ = some (.int .i64 ((zmE y510 x5_1).f1.f2)) := hcc9 5 _ rfl; have hf9_0 : w19.frozen? ⟨go5, (x5_1 : Int).toNat * 6, none⟩ = false := hfr9 0; have hf9_1 : w19.frozen? ⟨go5, (x5_1 : Int).toNat * 6 + 1, none⟩ = false := hfr9 1; have hf9_2 : w19.frozen? ⟨go5, (x5_1 : Int).toNat * 6 + 2, none⟩ = false := hfr9 2; have hf9_3 : w19.frozen? ⟨go5, (x5_1 : Int).toNat * 6 + 3, none⟩ = false := hfr9 3; have hf9_4 : w19.frozen? ⟨go5, (x5_1 : Int).toNat * 6 + 4, none⟩ = false := hfr9 4; have hf9_5 : w19.frozen? ⟨go5, (x5_1 : Int).toNat * 6 + 5, none⟩ = false := hfr9 5; clear hcl9 hcc9 hfr9; (try clear hM9); replace p9 := eq_true p9; replace q9 := eq_true q9; have HX20 := zpS (show Kd.R k35 35 w19 w0.heap.size (fun k_ => (P0_ k_ ∨ w.heap.size ≤ k_)) (.slice (some ⟨go5, 0, none⟩) x0_1.length co11) y510 from (by (with_reducible repeat (first | apply Kd.R_alloc | apply Kd.R_drewN | apply Kd.R_drew)); exact HO_0.out)); obtain ⟨ce20, hcl20, hM20, hcc20, hfr20⟩ := Kd.R_elem HX20.out z35 (x5_1 : Int) dt_ (by have h_ : (x5_1 : Int) < ((x0_1.length : Int) : Int) := dt_; first | exact h_ | (have e_ := (Kd.R_reads' HO_0.out).1; omega) | simpa using h_); obtain rfl := zeE hM20; have HP20 := Kd.R_seg HX20.out (x5_1 : Int) dt_ (by have h_ : (x5_1 : Int) < ((x0_1.length : Int) : Int) := dt_; first | exact h_ | (have e_ := (Kd.R_reads' HO_0.out).1; omega) | simpa using h_) (seg := [.int .i64 (wrap64 ((wrap64 ((wrap64 ((wrap64 (x1_1 + 1)) + 1)) + 1)) + 1))]) (j := 4) hcl20 hcc20 (show 5 ≤ 6 from by decide) (x' := (⟨(⟨(zmE y510 x5_1).f0.f0, (zmE y510 x5_1).f0.f1, (zmE y510 x5_1).f0.f2⟩ : S33), (⟨(zmE y510 x5_1).f1.f0, wrap64 ((wrap64 ((wrap64 ((wrap64 (x1_1 + 1)) + 1)) + 1)) + 1), (zmE y510 x5_1).f1.f2⟩ : S33)⟩ : S35)) (k35_mkM _ _ _ (⟨(⟨(zmE y510 x5_1).f0.f0, (zmE y510 x5_1).f0.f1, (zmE y510 x5_1).f0.f2⟩ : S33), (⟨(zmE y510 x5_1).f1.f0, wrap64 ((wrap64 ((wrap64 ((wrap64 (x1_1 + 1)) + 1)) + 1)) + 1), (zmE y510 x5_1).f1.f2⟩ : S33)⟩ : S35) ) (fun _ hk => hk); have hx20_4 := hcc20 4 _ rfl; (try simp only [show (k35).sz = 6 from rfl, Nat.mul_one, Nat.add_zero] at hx20_4); have hf20_4 := hfr20 4; (try simp only [show (k35).sz = 6 from rfl, Nat.mul_one, Nat.add_zero] at hf20_4); clear hcl20 hcc20 hfr20; (try clear hM20)) | ((with_reducible refine gate_store (t := 2) (p := 49) rfl ?_); refine zuD (t := 2) (p := 49) (v := ?vo_w21) (w1 := (w19.setCell ⟨go5, (x5_1 : Int).toNat * 6 + 4, none⟩ (.int .i64 (wrap64 ((wrap64 ((wrap64 ((wrap64 (x1_1 + 1)) + 1)) + 1)) + 1))))) ?hg ?ho ?hn ?hr ?_; (case ho => rfl); (case hg => rfl); (case hn => rfl); (case hr => first | (go_simp; done) | (go_simp; rfl)); intro w21 hw; have hg : w19.grownBy w21 (some go5) := (by rw [hw]; exact HP20.2); have hp_ : Kd.R k35 35 w21 w0.heap.size (fun k_ => (P0_ k_ ∨ w.heap.size ≤ k_)) (.slice (some ⟨go5, 0, none⟩) x0_1.length co11) y511 := (by rw [hw, Ny511.out]; exact HP20.1); clear HP20; have n0_ := zpS (hp_); have n1_ := zpS ((by rw [hw]; exact zjG (HB.out) GB5.out : Below w0.heap.size w0 w21)); have n2_ := zpS (zoW.of_grown (S := (fun k_ => P0_ k_)) hg (by repeat (first | (with_reducible first | exact HK.out | apply zoW.alloc | apply zoW.drewN | apply zoW.drew) | exact HK.out)) (fun k_ e_ => (HO_0.out.1 k_ e_))); clear HO_0; clear HB; clear HK; have HO_0 := n0_; have HB := n1_; have HK := n2_; clear n0_ n1_ n2_; clear hg hw hp_; have p10 : 0 ≤ (x5_1 : Int) := dt_; have q10 : (x5_1 : Int) < ((x0_1.length : Int) : Int) := dt_; obtain ⟨ce10, hcl10, hM10, hcc10, hfr10⟩ := Kd.R_elem HO_0.out z35 (x5_1 : Int) p10 q10; obtain rfl := zeE hM10; have hx10_0 : w21.cell? ⟨go5, (x5_1 : Int).toNat * 6, none⟩ = some (.int .i64 ((zmE y511 x5_1).f0.f0)) := hcc10 0 _ rfl; have hx10_1 : w21.cell? ⟨go5, (x5_1 : Int).toNat * 6 + 1, none⟩ = some (.int .i64 ((zmE y511 x5_1).f0.f1)) := hcc10 1 _ rfl; have hx10_2 : w21.cell? ⟨go5, (x5_1 : Int).toNat * 6 + 2, none⟩ = some (.int .i64 ((zmE y511 x5_1).f0.f2)) := hcc10 2 _ rfl; have hx10_3 : w21.cell? ⟨go5, (x5_1 : Int).toNat * 6 + 3, none⟩ = some (.int .i64 ((zmE y511 x5_1).f1.f0)) := hcc10 3 _ rfl; have hx10_4 : w21.cell? ⟨go5, (x5_1 : Int).toNat * 6 + 4, none⟩ = some (.int .i64 ((zmE y511 x5_1).f1.f1)) := hcc10 4 _ rfl; have hx10_5 : w21.cell? ⟨go5, (x5_1 : Int).toNat * 6 + 5, none⟩ = some (.int .i64 ((zmE y511 x5_1).f1.f2)) := hcc10 5 _ rfl; have hf10_0 : w21.frozen? ⟨go5, (x5_1 : Int).toNat * 6, none⟩ = false := hfr10 0; have hf10_1 : w21.frozen? ⟨go5, (x5_1 : Int).toNat * 6 + 1, none⟩ = false := hfr10 1; have hf10_2 : w21.frozen? ⟨go5, (x5_1 : Int).toNat * 6 + 2, none⟩ = false := hfr10 2; have hf10_3 : w21.frozen? ⟨go5, (x5_1 : Int).toNat * 6 + 3, none⟩ = false := hfr10 3; have hf10_4 : w21.frozen? ⟨go5, (x5_1 : Int).toNat * 6 + 4, none⟩ = false := hfr10 4; have hf10_5 : w21.frozen? ⟨go5, (x5_1 : Int).toNat * 6 + 5, none⟩ = false := hfr10 5; clear hcl10 hcc10 hfr10; (try clear hM10); replace p10 := eq_true p10; replace q10 := eq_true q10; have HX22 := zpS (show Kd.R k35 35 w21 w0.heap.size (fun k_ => (P0_ k_ ∨ w.heap.size ≤ k_)) (.slice (some ⟨go5, 0, none⟩) x0_1.length co11) y511 from (by (with_reducible repeat (first | apply Kd.R_alloc | apply Kd.R_drewN | apply Kd.R_drew)); exact HO_0.out)); obtain ⟨ce22, hcl22, hM22, hcc22, hfr22⟩ := Kd.R_elem HX22.out z35 (x5_1 : Int) dt_ (by have h_ : (x5_1 : Int) < ((x0_1.length : Int) : Int) := dt_; first | exact h_ | (have e_ := (Kd.R_reads' HO_0.out).1; omega) | simpa using h_); obtain rfl := zeE hM22; have HP22 := Kd.R_seg HX22.out (x5_1 : Int) dt_ (by have h_ : (x5_1 : Int) < ((x0_1.length : Int) : Int) := dt_; first | exact h_ | (have e_ := (Kd.R_reads' HO_0.out).1; omega) | simpa using h_) (seg := [.int .i64 (wrap64 ((wrap64 ((wrap64 ((wrap64 ((wrap64 (x1_1 + 1)) + 1)) + 1)) + 1)) + 1))]) (j := 5) hcl22 hcc22 (show 6 ≤ 6 from by decide) (x' := (⟨(⟨(zmE y511 x5_1).f0.f0, (zmE y511 x5_1).f0.f1, (zmE y511 x5_1).f0.f2⟩ : S33), (⟨(zmE y511 x5_1).f1.f0, (zmE y511 x5_1).f1.f1, wrap64 ((wrap64 ((wrap64 ((wrap64 ((wrap64 (x1_1 + 1)) + 1)) + 1)) + 1)) + 1)⟩ : S33)⟩ : S35)) (k35_mkM _ _ _ (⟨(⟨(zmE y511 x5_1).f0.f0, (zmE y511 x5_1).f0.f1, (zmE y511 x5_1).f0.f2⟩ : S33), (⟨(zmE y511 x5_1).f1.f0, (zmE y511 x5_1).f1.f1, wrap64 ((wrap64 ((wrap64 ((wrap64 ((wrap64 (x1_1 + 1)) + 1)) + 1)) + 1)) + 1)⟩ : S33)⟩ : S35) ) (fun _ hk => hk); have hx22_5 := hcc22 5 _ rfl; (try simp only [show (k35).sz = 6 from rfl, Nat.mul_one, Nat.add_zero] at hx22_5); have hf22_5 := hfr22 5; (try simp only [show (k35).sz = 6 from rfl, Nat.mul_one, Nat.add_zero] at hf22_5); clear hcl22 hcc22 hfr22; (try clear hM22)) | ((with_reducible refine gate_store (t := 2) (p := 57) rfl ?_); refine zuD (t := 2) (p := 57) (v := ?vo_w23) (w1 := (w21.setCell ⟨go5, (x5_1 : Int).toNat * 6 + 5, none⟩ (.int .i64 (wrap64 ((wrap64 ((wrap64 ((wrap64 ((wrap64 (x1_1 + 1)) + 1)) + 1)) + 1)) + 1))))) ?hg ?ho ?hn ?hr ?_; (case ho => rfl); (case hg => rfl); (case hn => rfl); (case hr => first | (go_simp; done) | (go_simp; rfl)); intro w23 hw; have hg : w21.grownBy w23 (some go5) := (by rw [hw]; exact HP22.2); have hp_ : Kd.R k35 35 w23 w0.heap.size (fun k_ => (P0_ k_ ∨ w.heap.size ≤ k_)) (.slice (some ⟨go5, 0, none⟩) x0_1.length co11) y512 := (by rw [hw, Ny512.out]; exact HP22.1); clear HP22; have n0_ := zpS (hp_); have n1_ := zpS ((by rw [hw]; exact zjG (HB.out) GB5.out : Below w0.heap.size w0 w23)); have n2_ := zpS (zoW.of_grown (S := (fun k_ => P0_ k_)) hg (by repeat (first | (with_reducible first | exact HK.out | apply zoW.alloc | apply zoW.drewN | apply zoW.drew) | exact HK.out)) (fun k_ e_ => (HO_0.out.1 k_ e_))); clear HO_0; clear HB; clear HK; have HO_0 := n0_; have HB := n1_; have HK := n2_; clear n0_ n1_ n2_; clear hg hw hp_))
     go_roundg k1
     case measure => have := HK1.out; omega
     case rel => exact ⟨(y512), (wrap64 ((wrap64 ((wrap64 ((wrap64 ((wrap64 ((wrap64 (x1_1 + 1)) + 1)) + 1)) + 1)) + 1)) + 1)), (wrap64 (x5_1 + 1)), (by first | rfl | (simp; done) | (simp [*]; done)), (by first | rfl | (simp; done) | (simp [*]; done)), H', ⟨by have := HK1.out; omega⟩, ⟨by (with_reducible repeat (first | apply Kd.R_alloc | apply Kd.R_drewN | apply Kd.R_drew)); exact HO_0.out⟩, ⟨by repeat (first | (with_reducible first | exact HK.out | apply zoW.alloc | apply zoW.drewN | apply zoW.drew) | exact HK.out)⟩, ⟨bb_⟩⟩
    ·rw [if_neg c4] at H
     exact absurd H (by simp)
   ·rw [if_neg c3] at H
    have c3b0 : decide (x5_1 < (x0_1.length : Int)) = false := decide_eq_false c3
    clear c3
    simp only [Option.some.injEq, Prod.mk.injEq] at H
    obtain ⟨rfl, rfl⟩ := H
    obtain ⟨Ao24, co24, eo24⟩ := Kd.R_slice HO_0.out
    subst eo24
    go_wp2
    go_ret
    exact ⟨by first | rfl | (simp [ziS, znJ] <;> rfl) | (simp [*, ziS, znJ] <;> rfl), by (with_reducible repeat (first | apply Kd.R_alloc | apply Kd.R_drewN | apply Kd.R_drew)); exact HO_0.out, bb_, by repeat (first | (with_reducible first | exact HK.out | apply zoW.alloc | apply zoW.drewN | apply zoW.drew) | exact HK.out)⟩

def zsO.l0 : Nat → List (S35) → Int → Int → Option (Int)
 | 0, _, _, _ => none
 | k + 1, x0, x1, x5 => if x5 < (x0.length : Int) then (if 0 ≤ x5 then (if ((zmE x0 x5).f0.f0) = x1 then (if ((zmE x0 x5).f0.f1) = (wrap64 (x1 + 1)) then (if ((zmE x0 x5).f0.f2) = (wrap64 ((wrap64 (x1 + 1)) + 1)) then (if ((zmE x0 x5).f1.f0) = (wrap64 ((wrap64 ((wrap64 (x1 + 1)) + 1)) + 1)) then (if ((zmE x0 x5).f1.f1) = (wrap64 ((wrap64 ((wrap64 ((wrap64 (x1 + 1)) + 1)) + 1)) + 1)) then (if ((zmE x0 x5).f1.f2) = (wrap64 ((wrap64 ((wrap64 ((wrap64 ((wrap64 (x1 + 1)) + 1)) + 1)) + 1)) + 1)) then (zsO.l0 k x0 (wrap64 ((wrap64 ((wrap64 ((wrap64 ((wrap64 ((wrap64 (x1 + 1)) + 1)) + 1)) + 1)) + 1)) + 1)) (wrap64 (x5 + 1))) else (some (-1))) else (some (-1))) else (some (-1))) else (some (-1))) else (some (-1))) else (some (-1))) else (none)) else (some x1)
def zsO.f (k : Nat) (l0 : List (S35)) (a1 : Int) : Option (Int) := zsO.l0 k l0 a1 0
theorem zsO.mono_l : ∀ k, (∀ y0 y1 y2, LeO (zsO.l0 k y0 y1 y2) (zsO.l0 (k + 1) y0 y1 y2))
 | 0 => fun _ _ _ r h => by simp [zsO.l0] at h
 | k + 1 => by
  have ih0 := zsO.mono_l k
  ·intro y0 y1 y2
   unfold zsO.l0
   repeat' first
   | (with_reducible exact ih0 _ _ _)
   | (with_reducible exact LeO.refl _)
   | (with_reducible exact LeO.none _)
   | (with_reducible refine LeO.ite ?_ ?_)
   | (with_reducible refine LeO.bind ?_ (fun _ => ?_))
   | exact ih0 _ _ _
   | exact LeO.none _
   | refine LeO.ite ?_ ?_
   | refine LeO.bind ?_ (fun _ => ?_)
theorem zsO.mono : ∀ a0 a1 k, LeO (zsO.f k a0 a1) (zsO.f (k + 1) a0 a1) := by
 intro a0 a1 k
 have ih0 := zsO.mono_l k
 unfold zsO.f
 repeat' first
   | (with_reducible exact ih0 _ _ _)
   | (with_reducible exact LeO.refl _)
   | (with_reducible exact LeO.none _)
   | (with_reducible refine LeO.ite ?_ ?_)
   | (with_reducible refine LeO.bind ?_ (fun _ => ?_))
   | exact ih0 _ _ _
   | exact LeO.none _
   | refine LeO.ite ?_ ?_
   | refine LeO.bind ?_ (fun _ => ?_)
theorem zsO.calls (k : Nat) (A0 : Option Addr) (c0 : Nat) (l0 : List (S35)) (a1 : Int) (r : Int) (w : World) (hr0 : Kd.C k35 w A0 l0.length l0) (hc0 : l0.length ≤ c0) (h : zsO.f k l0 a1 = some r) :
  Calls Tryd.prog 10 #[.slice A0 l0.length c0, .int .i64 a1] w fun e w' => e = .returned (.int .i64 r) ∧ Drawn0 w w' := by
 have HR0 := zpS hr0
 have HC0 := zpS hc0
 clear hr0 hc0
 have H : (zsO.l0 k l0 a1 0) = some r := h
 clear h
 have H' := zpS H
 clear H
 go_enter Tryd.func10, Tryd.ntmps10
 go_wp2
 (try go_simp)
 go_loopg [1, 5] k (fun kq v1 v5 w' => ∃ (x1_1 : Int) (x5_1 : Int), v1 = .int .i64 x1_1 ∧ v5 = .int .i64 x5_1 ∧ Aside0 (zsO.l0 kq l0 x1_1 x5_1 = some r) ∧ Aside0 (kq ≤ k) ∧ Drawn0 w w')
 case atStart => exact ⟨(a1), (0), (by first | rfl | (simp; done) | (simp [*]; done)), (by first | rfl | (simp; done) | (simp [*]; done)), H', ⟨Nat.le_refl _⟩, by repeat (first | exact Drawn0.refl _ | apply Drawn0.step)⟩
 case round =>
  clear H'
  try clear c1
  try clear p2
  obtain ⟨x1_1, x5_1, rfl, rfl, HA, HK1, ⟨m1, rfl⟩⟩ := hrel
  cases gk with
  | zero => exact absurd HA.out (by simp [zsO.l0])
  | succ k1 =>
   have H := HA.out
   clear HA
   simp only [zsO.l0] at H
   by_cases c3 : x5_1 < (l0.length : Int)
   ·rw [if_pos c3] at H
    have c3b0 : decide (x5_1 < (l0.length : Int)) = true := decide_eq_true c3
    clear c3
    by_cases c4 : 0 ≤ x5_1
    ·rw [if_pos c4] at H
     have c4b0 : decide (0 ≤ x5_1) = true := decide_eq_true c4
     clear c4
     by_cases c5 : ((zmE l0 x5_1).f0.f0) = x1_1
     ·rw [if_pos c5] at H
      have c5b0 : (((zmE l0 x5_1).f0.f0) == x1_1) = true := beq_iff_eq.mpr c5
      have c5b1 : (((zmE l0 x5_1).f0.f0) != x1_1) = false := bne_eq_false_iff_eq.mpr c5
      clear c5
      by_cases c6 : ((zmE l0 x5_1).f0.f1) = (wrap64 (x1_1 + 1))
      ·rw [if_pos c6] at H
       have c6b0 : (((zmE l0 x5_1).f0.f1) == (wrap64 (x1_1 + 1))) = true := beq_iff_eq.mpr c6
       have c6b1 : (((zmE l0 x5_1).f0.f1) != (wrap64 (x1_1 + 1))) = false := bne_eq_false_iff_eq.mpr c6
       clear c6
       by_cases c7 : ((zmE l0 x5_1).f0.f2) = (wrap64 ((wrap64 (x1_1 + 1)) + 1))
       ·rw [if_pos c7] at H
        have c7b0 : (((zmE l0 x5_1).f0.f2) == (wrap64 ((wrap64 (x1_1 + 1)) + 1))) = true := beq_iff_eq.mpr c7
        have c7b1 : (((zmE l0 x5_1).f0.f2) != (wrap64 ((wrap64 (x1_1 + 1)) + 1))) = false := bne_eq_false_iff_eq.mpr c7
        clear c7
        by_cases c8 : ((zmE l0 x5_1).f1.f0) = (wrap64 ((wrap64 ((wrap64 (x1_1 + 1)) + 1)) + 1))
        ·rw [if_pos c8] at H
         have c8b0 : (((zmE l0 x5_1).f1.f0) == (wrap64 ((wrap64 ((wrap64 (x1_1 + 1)) + 1)) + 1))) = true := beq_iff_eq.mpr c8
         have c8b1 : (((zmE l0 x5_1).f1.f0) != (wrap64 ((wrap64 ((wrap64 (x1_1 + 1)) + 1)) + 1))) = false := bne_eq_false_iff_eq.mpr c8
         clear c8
         by_cases c9 : ((zmE l0 x5_1).f1.f1) = (wrap64 ((wrap64 ((wrap64 ((wrap64 (x1_1 + 1)) + 1)) + 1)) + 1))
         ·rw [if_pos c9] at H
          have c9b0 : (((zmE l0 x5_1).f1.f1) == (wrap64 ((wrap64 ((wrap64 ((wrap64 (x1_1 + 1)) + 1)) + 1)) + 1))) = true := beq_iff_eq.mpr c9
          have c9b1 : (((zmE l0 x5_1).f1.f1) != (wrap64 ((wrap64 ((wrap64 ((wrap64 (x1_1 + 1)) + 1)) + 1)) + 1))) = false := bne_eq_false_iff_eq.mpr c9
          clear c9
          by_cases c10 : ((zmE l0 x5_1).f1.f2) = (wrap64 ((wrap64 ((wrap64 ((wrap64 ((wrap64 (x1_1 + 1)) + 1)) + 1)) + 1)) + 1))
          ·rw [if_pos c10] at H
           have c10b0 : (((zmE l0 x5_1).f1.f2) == (wrap64 ((wrap64 ((wrap64 ((wrap64 ((wrap64 (x1_1 + 1)) + 1)) + 1)) + 1)) + 1))) = true := beq_iff_eq.mpr c10
           have c10b1 : (((zmE l0 x5_1).f1.f2) != (wrap64 ((wrap64 ((wrap64 ((wrap64 ((wrap64 (x1_1 + 1)) + 1)) + 1)) + 1)) + 1))) = false := bne_eq_false_iff_eq.mpr c10
           clear c10
           have H' := zpS H
           clear H
           have p513 : 0 ≤ (x5_1 : Int) := dt_
           have q513 : x5_1 < (l0.length : Int) := dt_
           obtain ⟨ad513, e513, hx513_0, hx513_1, hx513_2, hx513_3, hx513_4, hx513_5⟩ := zcN HR0.out x5_1 p513 q513
           cases e513
           replace p513 := eq_true p513
           replace q513 := eq_true q513
           have p514 : 0 ≤ (x5_1 : Int) := dt_
           have q514 : x5_1 < (l0.length : Int) := dt_
           obtain ⟨ad514, e514, hx514_0, hx514_1, hx514_2, hx514_3, hx514_4, hx514_5⟩ := zcN HR0.out x5_1 p514 q514
           obtain rfl : ad513 = ad514 := (by injection e514)
           replace p514 := eq_true p514
           replace q514 := eq_true q514
           have p515 : 0 ≤ (x5_1 : Int) := dt_
           have q515 : x5_1 < (l0.length : Int) := dt_
           obtain ⟨ad515, e515, hx515_0, hx515_1, hx515_2, hx515_3, hx515_4, hx515_5⟩ := zcN HR0.out x5_1 p515 q515
           obtain rfl : ad513 = ad515 := (by injection e515)
           replace p515 := eq_true p515
           replace q515 := eq_true q515
           have p516 : 0 ≤ (x5_1 : Int) := dt_
           have q516 : x5_1 < (l0.length : Int) := dt_
           obtain ⟨ad516, e516, hx516_0, hx516_1, hx516_2, hx516_3, hx516_4, hx516_5⟩ := zcN HR0.out x5_1 p516 q516
           obtain rfl : ad513 = ad516 := (by injection e516)
           replace p516 := eq_true p516
           replace q516 := eq_true q516
           have p517 : 0 ≤ (x5_1 : Int) := dt_
           have q517 : x5_1 < (l0.length : Int) := dt_
           obtain ⟨ad517, e517, hx517_0, hx517_1, hx517_2, hx517_3, hx517_4, hx517_5⟩ := zcN HR0.out x5_1 p517 q517
           obtain rfl : ad513 = ad517 := (by injection e517)
           replace p517 := eq_true p517
           replace q517 := eq_true q517
           have p518 : 0 ≤ (x5_1 : Int) := dt_
           have q518 : x5_1 < (l0.length : Int) := dt_
           obtain ⟨ad518, e518, hx518_0, hx518_1, hx518_2, hx518_3, hx518_4, hx518_5⟩ := zcN HR0.out x5_1 p518 q518
           obtain rfl : ad513 = ad518 := (by injection e518)
           replace p518 := eq_true p518
           replace q518 := eq_true q518
           go_wp2
           go_roundg k1
           case measure => have := HK1.out; omega
           case rel => exact ⟨(wrap64 ((wrap64 ((wrap64 ((wrap64 ((wrap64 ((wrap64 (x1_1 + 1)) + 1)) + 1)) + 1)) + 1)) + 1)), (wrap64 (x5_1 + 1)), (by first | rfl | (simp; done) | (simp [*]; done)), (by first | rfl | (simp; done) | (simp [*]; done)), H', ⟨by have := HK1.out; omega⟩, by repeat (first | exact Drawn0.refl _ | apply Drawn0.step)⟩
          ·rw [if_neg c10] at H
           have c10b0 : (((zmE l0 x5_1).f1.f2) == (wrap64 ((wrap64 ((wrap64 ((wrap64 ((wrap64 (x1_1 + 1)) + 1)) + 1)) + 1)) + 1))) = false := beq_eq_false_iff_ne.mpr c10
           have c10b1 : (((zmE l0 x5_1).f1.f2) != (wrap64 ((wrap64 ((wrap64 ((wrap64 ((wrap64 (x1_1 + 1)) + 1)) + 1)) + 1)) + 1))) = true := bne_iff_ne.mpr c10
           obtain rfl := Option.some.inj H
           have p513 : 0 ≤ (x5_1 : Int) := dt_
           have q513 : x5_1 < (l0.length : Int) := dt_
           obtain ⟨ad513, e513, hx513_0, hx513_1, hx513_2, hx513_3, hx513_4, hx513_5⟩ := zcN HR0.out x5_1 p513 q513
           cases e513
           replace p513 := eq_true p513
           replace q513 := eq_true q513
           have p514 : 0 ≤ (x5_1 : Int) := dt_
           have q514 : x5_1 < (l0.length : Int) := dt_
           obtain ⟨ad514, e514, hx514_0, hx514_1, hx514_2, hx514_3, hx514_4, hx514_5⟩ := zcN HR0.out x5_1 p514 q514
           obtain rfl : ad513 = ad514 := (by injection e514)
           replace p514 := eq_true p514
           replace q514 := eq_true q514
           have p515 : 0 ≤ (x5_1 : Int) := dt_
           have q515 : x5_1 < (l0.length : Int) := dt_
           obtain ⟨ad515, e515, hx515_0, hx515_1, hx515_2, hx515_3, hx515_4, hx515_5⟩ := zcN HR0.out x5_1 p515 q515
           obtain rfl : ad513 = ad515 := (by injection e515)
           replace p515 := eq_true p515
           replace q515 := eq_true q515
           have p516 : 0 ≤ (x5_1 : Int) := dt_
           have q516 : x5_1 < (l0.length : Int) := dt_
           obtain ⟨ad516, e516, hx516_0, hx516_1, hx516_2, hx516_3, hx516_4, hx516_5⟩ := zcN HR0.out x5_1 p516 q516
           obtain rfl : ad513 = ad516 := (by injection e516)
           replace p516 := eq_true p516
           replace q516 := eq_true q516
           have p517 : 0 ≤ (x5_1 : Int) := dt_
           have q517 : x5_1 < (l0.length : Int) := dt_
           obtain ⟨ad517, e517, hx517_0, hx517_1, hx517_2, hx517_3, hx517_4, hx517_5⟩ := zcN HR0.out x5_1 p517 q517
           obtain rfl : ad513 = ad517 := (by injection e517)
           replace p517 := eq_true p517
           replace q517 := eq_true q517
           have p518 : 0 ≤ (x5_1 : Int) := dt_
           have q518 : x5_1 < (l0.length : Int) := dt_
           obtain ⟨ad518, e518, hx518_0, hx518_1, hx518_2, hx518_3, hx518_4, hx518_5⟩ := zcN HR0.out x5_1 p518 q518
           obtain rfl : ad513 = ad518 := (by injection e518)
           replace p518 := eq_true p518
           replace q518 := eq_true q518
           go_wp2
           go_ret
           exact ⟨by first | rfl | (simp; done) | (simp [*]; done), by repeat (first | exact Drawn0.refl _ | apply Drawn0.step)⟩
         ·rw [if_neg c9] at H
          have c9b0 : (((zmE l0 x5_1).f1.f1) == (wrap64 ((wrap64 ((wrap64 ((wrap64 (x1_1 + 1)) + 1)) + 1)) + 1))) = false := beq_eq_false_iff_ne.mpr c9
          have c9b1 : (((zmE l0 x5_1).f1.f1) != (wrap64 ((wrap64 ((wrap64 ((wrap64 (x1_1 + 1)) + 1)) + 1)) + 1))) = true := bne_iff_ne.mpr c9
          obtain rfl := Option.some.inj H
          have p513 : 0 ≤ (x5_1 : Int) := dt_
          have q513 : x5_1 < (l0.length : Int) := dt_
          obtain ⟨ad513, e513, hx513_0, hx513_1, hx513_2, hx513_3, hx513_4, hx513_5⟩ := zcN HR0.out x5_1 p513 q513
          cases e513
          replace p513 := eq_true p513
          replace q513 := eq_true q513
          have p514 : 0 ≤ (x5_1 : Int) := dt_
          have q514 : x5_1 < (l0.length : Int) := dt_
          obtain ⟨ad514, e514, hx514_0, hx514_1, hx514_2, hx514_3, hx514_4, hx514_5⟩ := zcN HR0.out x5_1 p514 q514
          obtain rfl : ad513 = ad514 := (by injection e514)
          replace p514 := eq_true p514
          replace q514 := eq_true q514
          have p515 : 0 ≤ (x5_1 : Int) := dt_
          have q515 : x5_1 < (l0.length : Int) := dt_
          obtain ⟨ad515, e515, hx515_0, hx515_1, hx515_2, hx515_3, hx515_4, hx515_5⟩ := zcN HR0.out x5_1 p515 q515
          obtain rfl : ad513 = ad515 := (by injection e515)
          replace p515 := eq_true p515
          replace q515 := eq_true q515
          have p516 : 0 ≤ (x5_1 : Int) := dt_
          have q516 : x5_1 < (l0.length : Int) := dt_
          obtain ⟨ad516, e516, hx516_0, hx516_1, hx516_2, hx516_3, hx516_4, hx516_5⟩ := zcN HR0.out x5_1 p516 q516
          obtain rfl : ad513 = ad516 := (by injection e516)
          replace p516 := eq_true p516
          replace q516 := eq_true q516
          have p517 : 0 ≤ (x5_1 : Int) := dt_
          have q517 : x5_1 < (l0.length : Int) := dt_
          obtain ⟨ad517, e517, hx517_0, hx517_1, hx517_2, hx517_3, hx517_4, hx517_5⟩ := zcN HR0.out x5_1 p517 q517
          obtain rfl : ad513 = ad517 := (by injection e517)
          replace p517 := eq_true p517
          replace q517 := eq_true q517
          go_wp2
          go_ret
          exact ⟨by first | rfl | (simp; done) | (simp [*]; done), by repeat (first | exact Drawn0.refl _ | apply Drawn0.step)⟩
        ·rw [if_neg c8] at H
         have c8b0 : (((zmE l0 x5_1).f1.f0) == (wrap64 ((wrap64 ((wrap64 (x1_1 + 1)) + 1)) + 1))) = false := beq_eq_false_iff_ne.mpr c8
         have c8b1 : (((zmE l0 x5_1).f1.f0) != (wrap64 ((wrap64 ((wrap64 (x1_1 + 1)) + 1)) + 1))) = true := bne_iff_ne.mpr c8
         obtain rfl := Option.some.inj H
         have p513 : 0 ≤ (x5_1 : Int) := dt_
         have q513 : x5_1 < (l0.length : Int) := dt_
         obtain ⟨ad513, e513, hx513_0, hx513_1, hx513_2, hx513_3, hx513_4, hx513_5⟩ := zcN HR0.out x5_1 p513 q513
         cases e513
         replace p513 := eq_true p513
         replace q513 := eq_true q513
         have p514 : 0 ≤ (x5_1 : Int) := dt_
         have q514 : x5_1 < (l0.length : Int) := dt_
         obtain ⟨ad514, e514, hx514_0, hx514_1, hx514_2, hx514_3, hx514_4, hx514_5⟩ := zcN HR0.out x5_1 p514 q514
         obtain rfl : ad513 = ad514 := (by injection e514)
         replace p514 := eq_true p514
         replace q514 := eq_true q514
         have p515 : 0 ≤ (x5_1 : Int) := dt_
         have q515 : x5_1 < (l0.length : Int) := dt_
         obtain ⟨ad515, e515, hx515_0, hx515_1, hx515_2, hx515_3, hx515_4, hx515_5⟩ := zcN HR0.out x5_1 p515 q515
         obtain rfl : ad513 = ad515 := (by injection e515)
         replace p515 := eq_true p515
         replace q515 := eq_true q515
         have p516 : 0 ≤ (x5_1 : Int) := dt_
         have q516 : x5_1 < (l0.length : Int) := dt_
         obtain ⟨ad516, e516, hx516_0, hx516_1, hx516_2, hx516_3, hx516_4, hx516_5⟩ := zcN HR0.out x5_1 p516 q516
         obtain rfl : ad513 = ad516 := (by injection e516)
         replace p516 := eq_true p516
         replace q516 := eq_true q516
         go_wp2
         go_ret
         exact ⟨by first | rfl | (simp; done) | (simp [*]; done), by repeat (first | exact Drawn0.refl _ | apply Drawn0.step)⟩
       ·rw [if_neg c7] at H
        have c7b0 : (((zmE l0 x5_1).f0.f2) == (wrap64 ((wrap64 (x1_1 + 1)) + 1))) = false := beq_eq_false_iff_ne.mpr c7
        have c7b1 : (((zmE l0 x5_1).f0.f2) != (wrap64 ((wrap64 (x1_1 + 1)) + 1))) = true := bne_iff_ne.mpr c7
        obtain rfl := Option.some.inj H
        have p513 : 0 ≤ (x5_1 : Int) := dt_
        have q513 : x5_1 < (l0.length : Int) := dt_
        obtain ⟨ad513, e513, hx513_0, hx513_1, hx513_2, hx513_3, hx513_4, hx513_5⟩ := zcN HR0.out x5_1 p513 q513
        cases e513
        replace p513 := eq_true p513
        replace q513 := eq_true q513
        have p514 : 0 ≤ (x5_1 : Int) := dt_
        have q514 : x5_1 < (l0.length : Int) := dt_
        obtain ⟨ad514, e514, hx514_0, hx514_1, hx514_2, hx514_3, hx514_4, hx514_5⟩ := zcN HR0.out x5_1 p514 q514
        obtain rfl : ad513 = ad514 := (by injection e514)
        replace p514 := eq_true p514
        replace q514 := eq_true q514
        have p515 : 0 ≤ (x5_1 : Int) := dt_
        have q515 : x5_1 < (l0.length : Int) := dt_
        obtain ⟨ad515, e515, hx515_0, hx515_1, hx515_2, hx515_3, hx515_4, hx515_5⟩ := zcN HR0.out x5_1 p515 q515
        obtain rfl : ad513 = ad515 := (by injection e515)
        replace p515 := eq_true p515
        replace q515 := eq_true q515
        go_wp2
        go_ret
        exact ⟨by first | rfl | (simp; done) | (simp [*]; done), by repeat (first | exact Drawn0.refl _ | apply Drawn0.step)⟩
      ·rw [if_neg c6] at H
       have c6b0 : (((zmE l0 x5_1).f0.f1) == (wrap64 (x1_1 + 1))) = false := beq_eq_false_iff_ne.mpr c6
       have c6b1 : (((zmE l0 x5_1).f0.f1) != (wrap64 (x1_1 + 1))) = true := bne_iff_ne.mpr c6
       obtain rfl := Option.some.inj H
       have p513 : 0 ≤ (x5_1 : Int) := dt_
       have q513 : x5_1 < (l0.length : Int) := dt_
       obtain ⟨ad513, e513, hx513_0, hx513_1, hx513_2, hx513_3, hx513_4, hx513_5⟩ := zcN HR0.out x5_1 p513 q513
       cases e513
       replace p513 := eq_true p513
       replace q513 := eq_true q513
       have p514 : 0 ≤ (x5_1 : Int) := dt_
       have q514 : x5_1 < (l0.length : Int) := dt_
       obtain ⟨ad514, e514, hx514_0, hx514_1, hx514_2, hx514_3, hx514_4, hx514_5⟩ := zcN HR0.out x5_1 p514 q514
       obtain rfl : ad513 = ad514 := (by injection e514)
       replace p514 := eq_true p514
       replace q514 := eq_true q514
       go_wp2
       go_ret
       exact ⟨by first | rfl | (simp; done) | (simp [*]; done), by repeat (first | exact Drawn0.refl _ | apply Drawn0.step)⟩
     ·rw [if_neg c5] at H
      have c5b0 : (((zmE l0 x5_1).f0.f0) == x1_1) = false := beq_eq_false_iff_ne.mpr c5
      have c5b1 : (((zmE l0 x5_1).f0.f0) != x1_1) = true := bne_iff_ne.mpr c5
      obtain rfl := Option.some.inj H
      have p513 : 0 ≤ (x5_1 : Int) := dt_
      have q513 : x5_1 < (l0.length : Int) := dt_
      obtain ⟨ad513, e513, hx513_0, hx513_1, hx513_2, hx513_3, hx513_4, hx513_5⟩ := zcN HR0.out x5_1 p513 q513
      cases e513
      replace p513 := eq_true p513
      replace q513 := eq_true q513
      go_wp2
      go_ret
      exact ⟨by first | rfl | (simp; done) | (simp [*]; done), by repeat (first | exact Drawn0.refl _ | apply Drawn0.step)⟩
    ·rw [if_neg c4] at H
     exact absurd H (by simp)
   ·rw [if_neg c3] at H
    have c3b0 : decide (x5_1 < (l0.length : Int)) = false := decide_eq_false c3
    clear c3
    obtain rfl := Option.some.inj H
    go_wp2
    go_ret
    exact ⟨by first | rfl | (simp; done) | (simp [*]; done), by repeat (first | exact Drawn0.refl _ | apply Drawn0.step)⟩

end Go.Proofs.YtbnfbflfhpniaaaDoor.PFnExactNormalPolygon
