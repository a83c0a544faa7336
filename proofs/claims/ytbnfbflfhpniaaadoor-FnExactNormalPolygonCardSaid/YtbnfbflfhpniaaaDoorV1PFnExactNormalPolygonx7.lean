-- Printed for this claim by this session's program pp.py, which drives the kit's print with additions. Not trusted: Lean checks it.
import Derived.Test.YtbnfbflfhpniaaaDoorV1PFnExactNormalPolygonx0
import Derived.Test.YtbnfbflfhpniaaaDoorV1PFnExactNormalPolygonx2
import Derived.Test.YtbnfbflfhpniaaaDoorV1PFnExactNormalPolygonx4
import Derived.Test.YtbnfbflfhpniaaaDoorV1PFnExactNormalPolygonx6
namespace Go.Proofs.YtbnfbflfhpniaaaDoor.PFnExactNormalPolygon
open Go.RowKit Go.Proofs.YtbnfbflfhpniaaaDoorW.PrintWords Go.Proofs.YtbnfbflfhpniaaaDoorW.PrintLast Go.Proofs.YtbnfbflfhpniaaaDoorW.PrintMore
attribute [local go_sem] zbB ziC zrC zhD znE zuB znH zkT   -- for this text's walks alone
set_option linter.unusedVariables false
set_option maxHeartbeats 8000000
set_option maxRecDepth 100000
set_option linter.unusedSimpArgs false

mutual
def zhB.j0 : Nat → List (S35) → Int → Bool → Option (Bool)
 | 0, _, _, _ => none
 | k + 1, x0, x3, x17 => if x17 = true then (some false) else (zhB.l0 k x0 x3 0)
def zhB.l0 : Nat → List (S35) → Int → Int → Option (Bool)
 | 0, _, _, _ => none
 | k + 1, x0, x3, x4 => if x4 < x3 then (if 0 ≤ x4 then (if x4 < (x0.length : Int) then ((zzR.f ((zmE x0 x4).f0.f0) ((zmE x0 x4).f0.f1) ((zmE x0 x4).f0.f2) ((zmE x0 x4).f1.f0) ((zmE x0 x4).f1.f1) ((zmE x0 x4).f1.f2)).bind fun t257 => (if t257 = true then (if x4 > 0 then (if 0 < (x0.length : Int) then ((zwB.f k ((zmE x0 0).f0.f0) ((zmE x0 0).f0.f1) ((zmE x0 0).f0.f2) ((zmE x0 0).f1.f0) ((zmE x0 0).f1.f1) ((zmE x0 0).f1.f2) ((zmE x0 x4).f0.f0) ((zmE x0 x4).f0.f1) ((zmE x0 x4).f0.f2) ((zmE x0 x4).f1.f0) ((zmE x0 x4).f1.f1) ((zmE x0 x4).f1.f2)).bind fun t260 => (if t260 ≥ 0 then (some false) else (zhB.l0 k x0 x3 (wrap64 (x4 + 1))))) else (none)) else (zhB.l0 k x0 x3 (wrap64 (x4 + 1)))) else (some false))) else (none)) else (none)) else ((zsN.f k x0).bind fun t261 => ((zlQ.f k t261).bind fun bt264 => (if bt264.2 = true then (zhB.l1 k x3 bt264.1 0 0) else (some false))))
def zhB.l1 : Nat → Int → List Int → Int → Int → Option (Bool)
 | 0, _, _, _, _ => none
 | k + 1, x3, x5, x7, x8 => if x8 < x3 then (if x3 = 0 then (none) else (if 0 ≤ (Int.tmod (wrap64 (x8 + 1)) x3) then (if (Int.tmod (wrap64 (x8 + 1)) x3) < (x5.length : Int) then (if 0 ≤ x8 then (if x8 < (x5.length : Int) then ((ziB.f (wrap64 ((rd x5 (Int.tmod (wrap64 (x8 + 1)) x3)) - (rd x5 x8)))).bind fun t270 => ((ziE.f t270 1 7).bind fun t271 => (if t271 = true then (zhB.l1 k x3 x5 (wrap64 (x7 + t270)) (wrap64 (x8 + 1))) else (some false)))) else (none)) else (none)) else (none)) else (none))) else (some (x7 == 16))
end
def zhB.f (k : Nat) (l0 : List (S35)) : Option (Bool) := if (l0.length : Int) < 3 then (zhB.j0 k l0 (l0.length : Int) true) else (zhB.j0 k l0 (l0.length : Int) (decide ((l0.length : Int) > 16)))
theorem zhB.mono_l : ∀ k, (∀ y0 y1 y2, LeO (zhB.j0 k y0 y1 y2) (zhB.j0 (k + 1) y0 y1 y2)) ∧ (∀ y0 y1 y2, LeO (zhB.l0 k y0 y1 y2) (zhB.l0 (k + 1) y0 y1 y2)) ∧ (∀ y0 y1 y2 y3, LeO (zhB.l1 k y0 y1 y2 y3) (zhB.l1 (k + 1) y0 y1 y2 y3))
 | 0 => ⟨fun _ _ _ r h => by simp [zhB.j0] at h, fun _ _ _ r h => by simp [zhB.l0] at h, fun _ _ _ _ r h => by simp [zhB.l1] at h⟩
 | k + 1 => by
  obtain ⟨ih0, ih1, ih2⟩ := zhB.mono_l k
  refine ⟨?_, ?_, ?_⟩
  ·intro y0 y1 y2
   unfold zhB.j0
   repeat' first
   | (with_reducible exact ih0 _ _ _)
   | (with_reducible exact ih1 _ _ _)
   | (with_reducible exact ih2 _ _ _ _)
   | (with_reducible exact zwB.mono _ _ _ _ _ _ _ _ _ _ _ _ _)
   | (with_reducible exact zlQ.mono _ _)
   | (with_reducible exact zsN.mono _ _)
   | (with_reducible exact LeO.refl _)
   | (with_reducible exact LeO.none _)
   | (with_reducible refine LeO.ite ?_ ?_)
   | (with_reducible refine LeO.bind ?_ (fun _ => ?_))
   | exact ih0 _ _ _
   | exact ih1 _ _ _
   | exact ih2 _ _ _ _
   | exact zwB.mono _ _ _ _ _ _ _ _ _ _ _ _ _
   | exact zlQ.mono _ _
   | exact zsN.mono _ _
   | exact LeO.none _
   | refine LeO.ite ?_ ?_
   | refine LeO.bind ?_ (fun _ => ?_)
  ·intro y0 y1 y2
   unfold zhB.l0
   repeat' first
   | (with_reducible exact ih0 _ _ _)
   | (with_reducible exact ih1 _ _ _)
   | (with_reducible exact ih2 _ _ _ _)
   | (with_reducible exact zwB.mono _ _ _ _ _ _ _ _ _ _ _ _ _)
   | (with_reducible exact zlQ.mono _ _)
   | (with_reducible exact zsN.mono _ _)
   | (with_reducible exact LeO.refl _)
   | (with_reducible exact LeO.none _)
   | (with_reducible refine LeO.ite ?_ ?_)
   | (with_reducible refine LeO.bind ?_ (fun _ => ?_))
   | exact ih0 _ _ _
   | exact ih1 _ _ _
   | exact ih2 _ _ _ _
   | exact zwB.mono _ _ _ _ _ _ _ _ _ _ _ _ _
   | exact zlQ.mono _ _
   | exact zsN.mono _ _
   | exact LeO.none _
   | refine LeO.ite ?_ ?_
   | refine LeO.bind ?_ (fun _ => ?_)
  ·intro y0 y1 y2 y3
   unfold zhB.l1
   repeat' first
   | (with_reducible exact ih0 _ _ _)
   | (with_reducible exact ih1 _ _ _)
   | (with_reducible exact ih2 _ _ _ _)
   | (with_reducible exact zwB.mono _ _ _ _ _ _ _ _ _ _ _ _ _)
   | (with_reducible exact zlQ.mono _ _)
   | (with_reducible exact zsN.mono _ _)
   | (with_reducible exact LeO.refl _)
   | (with_reducible exact LeO.none _)
   | (with_reducible refine LeO.ite ?_ ?_)
   | (with_reducible refine LeO.bind ?_ (fun _ => ?_))
   | exact ih0 _ _ _
   | exact ih1 _ _ _
   | exact ih2 _ _ _ _
   | exact zwB.mono _ _ _ _ _ _ _ _ _ _ _ _ _
   | exact zlQ.mono _ _
   | exact zsN.mono _ _
   | exact LeO.none _
   | refine LeO.ite ?_ ?_
   | refine LeO.bind ?_ (fun _ => ?_)
theorem zhB.mono : ∀ a0 k, LeO (zhB.f k a0) (zhB.f (k + 1) a0) := by
 intro a0 k
 obtain ⟨ih0, ih1, ih2⟩ := zhB.mono_l k
 unfold zhB.f
 repeat' first
   | (with_reducible exact ih0 _ _ _)
   | (with_reducible exact ih1 _ _ _)
   | (with_reducible exact ih2 _ _ _ _)
   | (with_reducible exact zwB.mono _ _ _ _ _ _ _ _ _ _ _ _ _)
   | (with_reducible exact zlQ.mono _ _)
   | (with_reducible exact zsN.mono _ _)
   | (with_reducible exact LeO.refl _)
   | (with_reducible exact LeO.none _)
   | (with_reducible refine LeO.ite ?_ ?_)
   | (with_reducible refine LeO.bind ?_ (fun _ => ?_))
   | exact ih0 _ _ _
   | exact ih1 _ _ _
   | exact ih2 _ _ _ _
   | exact zwB.mono _ _ _ _ _ _ _ _ _ _ _ _ _
   | exact zlQ.mono _ _
   | exact zsN.mono _ _
   | exact LeO.none _
   | refine LeO.ite ?_ ?_
   | refine LeO.bind ?_ (fun _ => ?_)
def zhB.T7 : Bool × List (List Nat × List Nat) := (true, [([], []), ([], []), ([0, 1], [0, 1]), ([2], [2]), ([3], [3]), ([4], [4]), ([5, 4], [5]), ([6], [6]), ([7, 6], [6, 7]), ([8, 6, 6], [6, 8]), ([9], [9]), ([10, 9], [9, 10]), ([11, 9], [9, 11]), ([9], [9]), ([9], [9]), ([13, 14, 9], [9, 13, 14]), ([15, 9], [9, 15]), ([12, 16, 9, 9], [9, 12, 16]), ([17, 9], [9, 17]), ([9, 18, 6], [6, 9, 18]), ([6, 19], [6, 19])])
def zhB.B7 : List Nat := [0, 0, 3, 7, 15, 31, 63, 127, 255, 511, 1023, 2047, 4095, 1023, 1023, 25599, 58367, 131071, 262143, 524287, 1048575]
theorem zhB.tab7 : rtab .any (opsOf Tryd.f13 7) = zhB.T7 := by kernel_rfl
theorem zhB.bits7 : ztG zhB.T7.2 zhB.B7 = true := by kernel_rfl
def zhB.T16 : Bool × List (List Nat × List Nat) := (true, [([], []), ([], []), ([1], [1]), ([], []), ([2, 3], [2, 3]), ([0, 4], [0, 4]), ([5], [5]), ([], []), ([], []), ([7, 8], [7, 8]), ([9], [9]), ([6, 10], [6, 10]), ([11], [11]), ([12, 12, 0, 1, 2, 3, 4, 5, 6, 7, 8, 9, 10, 11, 12], [12])])
def zhB.B16 : List Nat := [0, 0, 2, 0, 14, 31, 63, 0, 0, 384, 896, 2047, 4095, 8191]
theorem zhB.tab16 : rtab .any (opsOf Tryd.f13 16) = zhB.T16 := by kernel_rfl
theorem zhB.bits16 : ztG zhB.T16.2 zhB.B16 = true := by kernel_rfl
theorem zhB.calls (k : Nat) (A0 : Option Addr) (c0 : Nat) (l0 : List (S35)) (r : Bool) (w : World) (hr0 : Kd.C k35 w A0 l0.length l0) (hc0 : l0.length ≤ c0) (h : zhB.f k l0 = some r) :
  Calls Tryd.prog 13 #[.slice A0 l0.length c0] w fun e w' => e = .returned (.bool r) ∧ Below w.heap.size w w' := by
 have hu35 := Tryd.underlying35
 have HR0 := zpS hr0
 have HC0 := zpS hc0
 clear hr0 hc0
 have HB := zpS (Below.refl w.heap.size w)
 have H : (if (l0.length : Int) < 3 then (zhB.j0 k l0 (l0.length : Int) true) else (zhB.j0 k l0 (l0.length : Int) (decide ((l0.length : Int) > 16)))) = some r := h
 clear h
 have HC2 := zpS H
 clear H
 go_enter Tryd.func13, Tryd.ntmps13
 go_upto_region 2 with (fail)
 go_cut [17] (fun v17 wc => ∃ (kq : Nat) (x17_1 : Bool), v17 = .bool x17_1 ∧ Aside0 (zhB.j0 kq l0 (l0.length : Int) x17_1 = some r) ∧ Aside0 (kq ≤ k) ∧ Aside0 (Below w.heap.size w wc))
 case first =>
  have H := HC2.out
  clear HC2
  by_cases c3 : (l0.length : Int) < 3
  ·rw [if_pos c3] at H
   have c3b0 : decide ((l0.length : Int) < 3) = true := decide_eq_true c3
   have c3b1 : decide (l0.length < 3) = true := decide_eq_true (by omega)
   clear c3
   (first | rw [c3b0] | (simp only [zcM, ziK]; rw [c3b0]) | skip)
   have H' := zpS H
   clear H
   go_wp2
   go_meet
   case rel => exact ⟨_, (true), (by first | rfl | (simp; done) | (simp [*]; done)), H', ⟨by first | omega | exact Nat.le_refl _⟩, ⟨bb_⟩⟩
  ·rw [if_neg c3] at H
   have c3b0 : decide ((l0.length : Int) < 3) = false := decide_eq_false c3
   have c3b1 : decide (l0.length < 3) = false := decide_eq_false (by omega)
   clear c3
   (first | rw [c3b0] | (simp only [zcM, ziK]; rw [c3b0]) | skip)
   have H' := zpS H
   clear H
   go_wp2
   go_meet
   case rel => exact ⟨_, (decide ((l0.length : Int) > 16)), (by first | rfl | (simp; done) | (simp [*]; done)), H', ⟨by first | omega | exact Nat.le_refl _⟩, ⟨bb_⟩⟩
 case rest =>
  clear HC2
  try clear c1
  try clear p2
  try clear c3
  try clear c3b0
  try clear c3b1
  obtain ⟨kq, x17_1, rfl, HA, HJ1, HB⟩ := hcut
  cases kq with
  | zero => exact absurd HA.out (by simp [zhB.j0])
  | succ kj1 =>
   have H := HA.out
   clear HA
   simp only [zhB.j0] at H
   by_cases c4 : x17_1 = true
   ·subst c4
    have H1 : (some false) = some r := by rw [if_pos rfl] at H; exact H
    clear H
    have H := H1
    clear H1
    obtain rfl := Option.some.inj H
    go_wp2
    go_ret
    exact ⟨by first | rfl | (simp [ziS, znJ] <;> rfl) | (simp [*, ziS, znJ] <;> rfl), bb_⟩
   ·replace c4 := Bool.eq_false_iff.mpr c4
    subst c4
    have H1 : (zhB.l0 kj1 l0 (l0.length : Int) 0) = some r := by rw [if_neg (show ¬ (false = true) by decide)] at H; exact H
    clear H
    have H := H1
    clear H1
    have H' := zpS H
    clear H
    go_wp2
    (try go_simp)
    go_loopg [4] kj1 (fun kq v4 w' => ∃ (x4_2 : Int), v4 = .int .i64 x4_2 ∧ Aside0 (zhB.l0 kq l0 (l0.length : Int) x4_2 = some r) ∧ Aside0 (kq ≤ kj1) ∧ Aside0 (Below w.heap.size w w'))
    case atStart => exact ⟨(0), (by first | rfl | (simp; done) | (simp [*]; done)), H', ⟨Nat.le_refl _⟩, ⟨bb_⟩⟩
    case round =>
     clear H'
     try clear c1
     try clear p2
     try clear c3
     try clear c3b0
     try clear c3b1
     try clear c4
     try clear p2
     obtain ⟨x4_2, rfl, HA, HK2, HB⟩ := hrel
     cases gk with
     | zero => exact absurd HA.out (by simp [zhB.l0])
     | succ k2 =>
      have H := HA.out
      clear HA
      simp only [zhB.l0] at H
      by_cases c5 : x4_2 < (l0.length : Int)
      ·rw [if_pos c5] at H
       have c5b0 : decide (x4_2 < (l0.length : Int)) = true := decide_eq_true c5
       clear c5
       by_cases c6 : 0 ≤ x4_2
       ·rw [if_pos c6] at H
        have c6b0 : decide (0 ≤ x4_2) = true := decide_eq_true c6
        clear c6
        by_cases c7 : x4_2 < (l0.length : Int)
        ·rw [if_pos c7] at H
         have c7b0 : decide (x4_2 < (l0.length : Int)) = true := decide_eq_true c7
         clear c7
         replace H := Option.bind_eq_some_iff.mp H
         obtain ⟨t257, A80, H⟩ := H
         replace H : (if t257 = true then (if x4_2 > 0 then (if 0 < (l0.length : Int) then ((zwB.f k2 ((zmE l0 0).f0.f0) ((zmE l0 0).f0.f1) ((zmE l0 0).f0.f2) ((zmE l0 0).f1.f0) ((zmE l0 0).f1.f1) ((zmE l0 0).f1.f2) ((zmE l0 x4_2).f0.f0) ((zmE l0 x4_2).f0.f1) ((zmE l0 x4_2).f0.f2) ((zmE l0 x4_2).f1.f0) ((zmE l0 x4_2).f1.f1) ((zmE l0 x4_2).f1.f2)).bind fun t260 => (if t260 ≥ 0 then (some false) else (zhB.l0 k2 l0 (l0.length : Int) (wrap64 (x4_2 + 1))))) else (none)) else (zhB.l0 k2 l0 (l0.length : Int) (wrap64 (x4_2 + 1)))) else (some false)) = some r := H
         have A8 := zpS A80
         clear A80
         by_cases c9 : t257 = true
         ·subst c9
          have H1 : (if x4_2 > 0 then (if 0 < (l0.length : Int) then ((zwB.f k2 ((zmE l0 0).f0.f0) ((zmE l0 0).f0.f1) ((zmE l0 0).f0.f2) ((zmE l0 0).f1.f0) ((zmE l0 0).f1.f1) ((zmE l0 0).f1.f2) ((zmE l0 x4_2).f0.f0) ((zmE l0 x4_2).f0.f1) ((zmE l0 x4_2).f0.f2) ((zmE l0 x4_2).f1.f0) ((zmE l0 x4_2).f1.f1) ((zmE l0 x4_2).f1.f2)).bind fun t260 => (if t260 ≥ 0 then (some false) else (zhB.l0 k2 l0 (l0.length : Int) (wrap64 (x4_2 + 1))))) else (none)) else (zhB.l0 k2 l0 (l0.length : Int) (wrap64 (x4_2 + 1)))) = some r := by rw [if_pos rfl] at H; exact H
          clear H
          have H := H1
          clear H1
          by_cases c10 : x4_2 > 0
          ·rw [if_pos c10] at H
           have c10b0 : decide (0 < x4_2) = true := decide_eq_true c10
           clear c10
           by_cases c11 : 0 < (l0.length : Int)
           ·rw [if_pos c11] at H
            have c11b0 : decide (0 < (l0.length : Int)) = true := decide_eq_true c11
            have c11b1 : decide (0 < l0.length) = true := decide_eq_true (by omega)
            clear c11
            replace H := Option.bind_eq_some_iff.mp H
            obtain ⟨t260, A120, H⟩ := H
            replace H : (if t260 ≥ 0 then (some false) else (zhB.l0 k2 l0 (l0.length : Int) (wrap64 (x4_2 + 1)))) = some r := H
            have A12 := zpS A120
            clear A120
            by_cases c13 : t260 ≥ 0
            ·rw [if_pos c13] at H
             have c13b0 : decide (0 ≤ t260) = true := decide_eq_true c13
             clear c13
             obtain rfl := Option.some.inj H
             try go_wp2
             have n0_ := zpS (zvF HB.out)
             clear HB
             have HB := n0_
             clear n0_
             have p256 : 0 ≤ (x4_2 : Int) := dt_
             have q256 : x4_2 < (l0.length : Int) := dt_
             obtain ⟨ad256, e256, hx256_0, hx256_1, hx256_2, hx256_3, hx256_4, hx256_5⟩ := zcN HR0.out x4_2 p256 q256
             have hw256_5 := hx256_5
             have hw256_4 := hx256_4
             have hw256_3 := hx256_3
             have hw256_2 := hx256_2
             have hw256_1 := hx256_1
             have hw256_0 := hx256_0
             cases e256
             replace hx256_0 := zeA HB.out hx256_0
             replace hx256_1 := zeA HB.out hx256_1
             replace hx256_2 := zeA HB.out hx256_2
             replace hx256_3 := zeA HB.out hx256_3
             replace hx256_4 := zeA HB.out hx256_4
             replace hx256_5 := zeA HB.out hx256_5
             replace p256 := eq_true p256
             replace q256 := eq_true q256
             have p258 : 0 ≤ (0 : Int) := (by omega)
             have q258 : 0 < (l0.length : Int) := dt_
             obtain ⟨ad258, e258, hx258_0, hx258_1, hx258_2, hx258_3, hx258_4, hx258_5⟩ := zcN HR0.out 0 p258 q258
             have hw258_5 := hx258_5
             (try rw [show ((0 : Int)).toNat = 0 from rfl] at hw258_5)
             (try rw [show 0 * 6 = 0 from rfl] at hw258_5)
             (try rw [Addr.add_zero'] at hw258_5)
             have hw258_4 := hx258_4
             (try rw [show ((0 : Int)).toNat = 0 from rfl] at hw258_4)
             (try rw [show 0 * 6 = 0 from rfl] at hw258_4)
             (try rw [Addr.add_zero'] at hw258_4)
             have hw258_3 := hx258_3
             (try rw [show ((0 : Int)).toNat = 0 from rfl] at hw258_3)
             (try rw [show 0 * 6 = 0 from rfl] at hw258_3)
             (try rw [Addr.add_zero'] at hw258_3)
             have hw258_2 := hx258_2
             (try rw [show ((0 : Int)).toNat = 0 from rfl] at hw258_2)
             (try rw [show 0 * 6 = 0 from rfl] at hw258_2)
             (try rw [Addr.add_zero'] at hw258_2)
             have hw258_1 := hx258_1
             (try rw [show ((0 : Int)).toNat = 0 from rfl] at hw258_1)
             (try rw [show 0 * 6 = 0 from rfl] at hw258_1)
             (try rw [Addr.add_zero'] at hw258_1)
             have hw258_0 := hx258_0
             (try rw [show ((0 : Int)).toNat = 0 from rfl] at hw258_0)
             (try rw [show 0 * 6 = 0 from rfl] at hw258_0)
             (try rw [Addr.add_zero'] at hw258_0)
             obtain rfl : ad256 = ad258 := (by injection e258)
             have qi258 : (0 < l0.length) = True := eq_true (by omega)
             (try rw [show ((0 : Int)).toNat = 0 from rfl] at hx258_0)
             (try rw [show 0 * 6 = 0 from rfl] at hx258_0)
             (try rw [Addr.add_zero'] at hx258_0)
             (try rw [show ((0 : Int)).toNat = 0 from rfl] at hx258_1)
             (try rw [show 0 * 6 = 0 from rfl] at hx258_1)
             (try rw [Addr.add_zero'] at hx258_1)
             (try rw [show ((0 : Int)).toNat = 0 from rfl] at hx258_2)
             (try rw [show 0 * 6 = 0 from rfl] at hx258_2)
             (try rw [Addr.add_zero'] at hx258_2)
             (try rw [show ((0 : Int)).toNat = 0 from rfl] at hx258_3)
             (try rw [show 0 * 6 = 0 from rfl] at hx258_3)
             (try rw [Addr.add_zero'] at hx258_3)
             (try rw [show ((0 : Int)).toNat = 0 from rfl] at hx258_4)
             (try rw [show 0 * 6 = 0 from rfl] at hx258_4)
             (try rw [Addr.add_zero'] at hx258_4)
             (try rw [show ((0 : Int)).toNat = 0 from rfl] at hx258_5)
             (try rw [show 0 * 6 = 0 from rfl] at hx258_5)
             (try rw [Addr.add_zero'] at hx258_5)
             replace hx258_0 := zeA HB.out hx258_0
             replace hx258_1 := zeA HB.out hx258_1
             replace hx258_2 := zeA HB.out hx258_2
             replace hx258_3 := zeA HB.out hx258_3
             replace hx258_4 := zeA HB.out hx258_4
             replace hx258_5 := zeA HB.out hx258_5
             replace p258 := eq_true p258
             replace q258 := eq_true q258
             have p259 : 0 ≤ (x4_2 : Int) := dt_
             have q259 : x4_2 < (l0.length : Int) := dt_
             obtain ⟨ad259, e259, hx259_0, hx259_1, hx259_2, hx259_3, hx259_4, hx259_5⟩ := zcN HR0.out x4_2 p259 q259
             have hw259_5 := hx259_5
             have hw259_4 := hx259_4
             have hw259_3 := hx259_3
             have hw259_2 := hx259_2
             have hw259_1 := hx259_1
             have hw259_0 := hx259_0
             obtain rfl : ad256 = ad259 := (by injection e259)
             replace hx259_0 := zeA HB.out hx259_0
             replace hx259_1 := zeA HB.out hx259_1
             replace hx259_2 := zeA HB.out hx259_2
             replace hx259_3 := zeA HB.out hx259_3
             replace hx259_4 := zeA HB.out hx259_4
             replace hx259_5 := zeA HB.out hx259_5
             replace p259 := eq_true p259
             replace q259 := eq_true q259
             refine zpB (n := 21) (S := fun w' => w'.cell? (ad256.add ((x4_2).toNat * 6)) = some (.int .i64 ((zmE l0 x4_2).f0.f0)) ∧ w'.cell? ⟨(ad256.add ((x4_2).toNat * 6)).block, (ad256.add ((x4_2).toNat * 6)).off + 1, none⟩ = some (.int .i64 ((zmE l0 x4_2).f0.f1)) ∧ w'.cell? ⟨(ad256.add ((x4_2).toNat * 6)).block, (ad256.add ((x4_2).toNat * 6)).off + 2, none⟩ = some (.int .i64 ((zmE l0 x4_2).f0.f2)) ∧ w'.cell? ⟨(ad256.add ((x4_2).toNat * 6)).block, (ad256.add ((x4_2).toNat * 6)).off + 3, none⟩ = some (.int .i64 ((zmE l0 x4_2).f1.f0)) ∧ w'.cell? ⟨(ad256.add ((x4_2).toNat * 6)).block, (ad256.add ((x4_2).toNat * 6)).off + 4, none⟩ = some (.int .i64 ((zmE l0 x4_2).f1.f1)) ∧ w'.cell? ⟨(ad256.add ((x4_2).toNat * 6)).block, (ad256.add ((x4_2).toNat * 6)).off + 5, none⟩ = some (.int .i64 ((zmE l0 x4_2).f1.f2)) ∧ w'.cell? ad256 = some (.int .i64 ((zmE l0 0).f0.f0)) ∧ w'.cell? ⟨ad256.block, ad256.off + 1, none⟩ = some (.int .i64 ((zmE l0 0).f0.f1)) ∧ w'.cell? ⟨ad256.block, ad256.off + 2, none⟩ = some (.int .i64 ((zmE l0 0).f0.f2)) ∧ w'.cell? ⟨ad256.block, ad256.off + 3, none⟩ = some (.int .i64 ((zmE l0 0).f1.f0)) ∧ w'.cell? ⟨ad256.block, ad256.off + 4, none⟩ = some (.int .i64 ((zmE l0 0).f1.f1)) ∧ w'.cell? ⟨ad256.block, ad256.off + 5, none⟩ = some (.int .i64 ((zmE l0 0).f1.f2)) ∧ w'.cell? (ad256.add ((x4_2).toNat * 6)) = some (.int .i64 ((zmE l0 x4_2).f0.f0)) ∧ w'.cell? ⟨(ad256.add ((x4_2).toNat * 6)).block, (ad256.add ((x4_2).toNat * 6)).off + 1, none⟩ = some (.int .i64 ((zmE l0 x4_2).f0.f1)) ∧ w'.cell? ⟨(ad256.add ((x4_2).toNat * 6)).block, (ad256.add ((x4_2).toNat * 6)).off + 2, none⟩ = some (.int .i64 ((zmE l0 x4_2).f0.f2)) ∧ w'.cell? ⟨(ad256.add ((x4_2).toNat * 6)).block, (ad256.add ((x4_2).toNat * 6)).off + 3, none⟩ = some (.int .i64 ((zmE l0 x4_2).f1.f0)) ∧ w'.cell? ⟨(ad256.add ((x4_2).toNat * 6)).block, (ad256.add ((x4_2).toNat * 6)).off + 4, none⟩ = some (.int .i64 ((zmE l0 x4_2).f1.f1)) ∧ w'.cell? ⟨(ad256.add ((x4_2).toNat * 6)).block, (ad256.add ((x4_2).toNat * 6)).off + 5, none⟩ = some (.int .i64 ((zmE l0 x4_2).f1.f2))) (ds := []) #[false, false, false, false, false, false, false, false, false, false, false, false, false, false, false, false, false, false, false, false, false] (by kernel_rfl) rfl rfl ⟨(zeA HB.out hw256_0), (zeA HB.out hw256_1), (zeA HB.out hw256_2), (zeA HB.out hw256_3), (zeA HB.out hw256_4), (zeA HB.out hw256_5), (zeA HB.out hw258_0), (zeA HB.out hw258_1), (zeA HB.out hw258_2), (zeA HB.out hw258_3), (zeA HB.out hw258_4), (zeA HB.out hw258_5), (zeA HB.out hw259_0), (zeA HB.out hw259_1), (zeA HB.out hw259_2), (zeA HB.out hw259_3), (zeA HB.out hw259_4), (zeA HB.out hw259_5)⟩ (fun hHeld => ?_); refine zwI zhB.tab7 zhB.bits7 (fun HT_ HW_ => ?_)
             generalize wr.drew = w14 at HB hx256_0 hx256_1 hx256_2 hx256_3 hx256_4 hx256_5 hx258_0 hx258_1 hx258_2 hx258_3 hx258_4 hx258_5 hx259_0 hx259_1 hx259_2 hx259_3 hx259_4 hx259_5 hHeld ⊢
             refine pu_ 0 (some 23) (bl_ 21 1) ?_
             refine pu_ 1 (some 24) (bl_ 21 3) ?_
             refine pu_ 2 (some 25) (bl_ 21 7) ?_
             refine tk18_ 3 (some 26) (bl_ 21 15) hHeld ?_
             refine zdC (i := 4) (N := some 27) (bl_ 21 31) rfl rfl (zeO HT_.out (by kernel_rfl)) (by decide) (fun K hK => ?_)
             refine zqW Tryd.func11 (by kernel_rfl) rfl #[.agg #[.int .i64 ((zmE l0 x4_2).f0.f0), .int .i64 ((zmE l0 x4_2).f0.f1), .int .i64 ((zmE l0 x4_2).f0.f2), .int .i64 ((zmE l0 x4_2).f1.f0), .int .i64 ((zmE l0 x4_2).f1.f1), .int .i64 ((zmE l0 x4_2).f1.f2)]] (by rfl) rfl rfl (by (try simp only [List.map_toArray, List.map_cons, List.map_nil]); first | done | rfl | (simp only [List.length_drop, List.length_take]; rfl)) ?_
             with_reducible refine (zzR.calls ((zmE l0 x4_2).f0.f0) ((zmE l0 x4_2).f0.f1) ((zmE l0 x4_2).f0.f2) ((zmE l0 x4_2).f1.f0) ((zmE l0 x4_2).f1.f1) ((zmE l0 x4_2).f1.f2) true _ A8.out).mono ?_
             rintro e w15 ⟨rfl, hb⟩
             refine ⟨_, rfl, ?_⟩
             have n0_ := (ns_ hb)
             clear HB
             have HB := n0_
             clear n0_
             (try clear hb)
             (try clear hb2)
             (try clear hk)
             (try clear hi)
             refine hK.out _ _ ⟨(zeA HB.out hw256_0), (zeA HB.out hw256_1), (zeA HB.out hw256_2), (zeA HB.out hw256_3), (zeA HB.out hw256_4), (zeA HB.out hw256_5), (zeA HB.out hw258_0), (zeA HB.out hw258_1), (zeA HB.out hw258_2), (zeA HB.out hw258_3), (zeA HB.out hw258_4), (zeA HB.out hw258_5), (zeA HB.out hw259_0), (zeA HB.out hw259_1), (zeA HB.out hw259_2), (zeA HB.out hw259_3), (zeA HB.out hw259_4), (zeA HB.out hw259_5)⟩ (fun hHeld => ?_)
             clear hK K
             refine zaN (a' := ?_) ?_ ?_
             rotate_left
             ·show Act.put _ (some 27) _ = _
              simp only [Act.put, List.setIfInBounds_toArray, List.set_cons_zero, List.set_cons_succ, zcM, ziK]
              rfl
             refine pu_ 5 (some 28) (bl_ 21 63) ?_
             refine pu_ 6 (some 29) (bl_ 21 127) ?_
             refine pu_ 7 (some 30) (bl_ 21 255) ?_
             refine pu_ 8 (some 31) (bl_ 21 511) ?_
             refine pu_ 9 (some 32) (bl_ 21 1023) ?_
             refine pu_ 10 (some 33) (bl_ 21 2047) ?_
             refine pu_ 11 (some 34) (bl_ 21 4095) ?_
             refine pu_ 13 (some 36) (bl_ 21 12287) ?_
             refine pu_ 14 (some 37) (bl_ 21 28671) ?_
             refine pu_ 15 (some 38) (bl_ 21 61439) ?_
             refine tk18_ 12 (some 35) (bl_ 21 65535) hHeld ?_
             refine tk18_ 16 (some 39) (bl_ 21 131071) hHeld ?_
             refine zdC (i := 17) (N := some 40) (bl_ 21 262143) rfl rfl (zeO HT_.out (by kernel_rfl)) (by decide) (fun K hK => ?_)
             refine zqW Tryd.func23 (by kernel_rfl) rfl #[.agg #[.int .i64 ((zmE l0 0).f0.f0), .int .i64 ((zmE l0 0).f0.f1), .int .i64 ((zmE l0 0).f0.f2), .int .i64 ((zmE l0 0).f1.f0), .int .i64 ((zmE l0 0).f1.f1), .int .i64 ((zmE l0 0).f1.f2)], .agg #[.int .i64 ((zmE l0 x4_2).f0.f0), .int .i64 ((zmE l0 x4_2).f0.f1), .int .i64 ((zmE l0 x4_2).f0.f2), .int .i64 ((zmE l0 x4_2).f1.f0), .int .i64 ((zmE l0 x4_2).f1.f1), .int .i64 ((zmE l0 x4_2).f1.f2)]] (by rfl) rfl rfl (by (try simp only [List.map_toArray, List.map_cons, List.map_nil]); first | done | rfl | (simp only [List.length_drop, List.length_take]; rfl)) ?_
             with_reducible refine (zwB.calls k2 ((zmE l0 0).f0.f0) ((zmE l0 0).f0.f1) ((zmE l0 0).f0.f2) ((zmE l0 0).f1.f0) ((zmE l0 0).f1.f1) ((zmE l0 0).f1.f2) ((zmE l0 x4_2).f0.f0) ((zmE l0 x4_2).f0.f1) ((zmE l0 x4_2).f0.f2) ((zmE l0 x4_2).f1.f0) ((zmE l0 x4_2).f1.f1) ((zmE l0 x4_2).f1.f2) t260 _ A12.out).mono ?_
             rintro e w16 ⟨rfl, hb⟩
             refine ⟨_, rfl, ?_⟩
             have n0_ := (ns_ hb)
             clear HB
             have HB := n0_
             clear n0_
             (try clear hb)
             (try clear hb2)
             (try clear hk)
             (try clear hi)
             refine hK.out _ _ ⟨(zeA HB.out hw256_0), (zeA HB.out hw256_1), (zeA HB.out hw256_2), (zeA HB.out hw256_3), (zeA HB.out hw256_4), (zeA HB.out hw256_5), (zeA HB.out hw258_0), (zeA HB.out hw258_1), (zeA HB.out hw258_2), (zeA HB.out hw258_3), (zeA HB.out hw258_4), (zeA HB.out hw258_5), (zeA HB.out hw259_0), (zeA HB.out hw259_1), (zeA HB.out hw259_2), (zeA HB.out hw259_3), (zeA HB.out hw259_4), (zeA HB.out hw259_5)⟩ (fun hHeld => ?_)
             clear hK K
             refine zaN (a' := ?_) ?_ ?_
             rotate_left
             ·show Act.put _ (some 40) _ = _
              simp only [Act.put, List.setIfInBounds_toArray, List.set_cons_zero, List.set_cons_succ, zcM, ziK]
              rfl
             refine pu_ 18 (some 41) (bl_ 21 524287) ?_
             refine pu_ 19 (some 42) (bl_ 21 1048575) ?_
             refine pu_ 20 (some 43) (bl_ 21 2097151) ?_
             refine znK (zzP HT_.out (by kernel_rfl)) ?_
             try go_wp2
             go_ret
             exact ⟨by first | rfl | (simp [ziS, znJ] <;> rfl) | (simp [*, ziS, znJ] <;> rfl), bb_⟩
            ·rw [if_neg c13] at H
             have c13b0 : decide (0 ≤ t260) = false := decide_eq_false c13
             clear c13
             have H' := zpS H
             clear H
             try go_wp2
             have n0_ := zpS (zvF HB.out)
             clear HB
             have HB := n0_
             clear n0_
             have p256 : 0 ≤ (x4_2 : Int) := dt_
             have q256 : x4_2 < (l0.length : Int) := dt_
             obtain ⟨ad256, e256, hx256_0, hx256_1, hx256_2, hx256_3, hx256_4, hx256_5⟩ := zcN HR0.out x4_2 p256 q256
             have hw256_5 := hx256_5
             have hw256_4 := hx256_4
             have hw256_3 := hx256_3
             have hw256_2 := hx256_2
             have hw256_1 := hx256_1
             have hw256_0 := hx256_0
             cases e256
             replace hx256_0 := zeA HB.out hx256_0
             replace hx256_1 := zeA HB.out hx256_1
             replace hx256_2 := zeA HB.out hx256_2
             replace hx256_3 := zeA HB.out hx256_3
             replace hx256_4 := zeA HB.out hx256_4
             replace hx256_5 := zeA HB.out hx256_5
             replace p256 := eq_true p256
             replace q256 := eq_true q256
             have p258 : 0 ≤ (0 : Int) := (by omega)
             have q258 : 0 < (l0.length : Int) := dt_
             obtain ⟨ad258, e258, hx258_0, hx258_1, hx258_2, hx258_3, hx258_4, hx258_5⟩ := zcN HR0.out 0 p258 q258
             have hw258_5 := hx258_5
             (try rw [show ((0 : Int)).toNat = 0 from rfl] at hw258_5)
             (try rw [show 0 * 6 = 0 from rfl] at hw258_5)
             (try rw [Addr.add_zero'] at hw258_5)
             have hw258_4 := hx258_4
             (try rw [show ((0 : Int)).toNat = 0 from rfl] at hw258_4)
             (try rw [show 0 * 6 = 0 from rfl] at hw258_4)
             (try rw [Addr.add_zero'] at hw258_4)
             have hw258_3 := hx258_3
             (try rw [show ((0 : Int)).toNat = 0 from rfl] at hw258_3)
             (try rw [show 0 * 6 = 0 from rfl] at hw258_3)
             (try rw [Addr.add_zero'] at hw258_3)
             have hw258_2 := hx258_2
             (try rw [show ((0 : Int)).toNat = 0 from rfl] at hw258_2)
             (try rw [show 0 * 6 = 0 from rfl] at hw258_2)
             (try rw [Addr.add_zero'] at hw258_2)
             have hw258_1 := hx258_1
             (try rw [show ((0 : Int)).toNat = 0 from rfl] at hw258_1)
             (try rw [show 0 * 6 = 0 from rfl] at hw258_1)
             (try rw [Addr.add_zero'] at hw258_1)
             have hw258_0 := hx258_0
             (try rw [show ((0 : Int)).toNat = 0 from rfl] at hw258_0)
             (try rw [show 0 * 6 = 0 from rfl] at hw258_0)
             (try rw [Addr.add_zero'] at hw258_0)
             obtain rfl : ad256 = ad258 := (by injection e258)
             have qi258 : (0 < l0.length) = True := eq_true (by omega)
             (try rw [show ((0 : Int)).toNat = 0 from rfl] at hx258_0)
             (try rw [show 0 * 6 = 0 from rfl] at hx258_0)
             (try rw [Addr.add_zero'] at hx258_0)
             (try rw [show ((0 : Int)).toNat = 0 from rfl] at hx258_1)
             (try rw [show 0 * 6 = 0 from rfl] at hx258_1)
             (try rw [Addr.add_zero'] at hx258_1)
             (try rw [show ((0 : Int)).toNat = 0 from rfl] at hx258_2)
             (try rw [show 0 * 6 = 0 from rfl] at hx258_2)
             (try rw [Addr.add_zero'] at hx258_2)
             (try rw [show ((0 : Int)).toNat = 0 from rfl] at hx258_3)
             (try rw [show 0 * 6 = 0 from rfl] at hx258_3)
             (try rw [Addr.add_zero'] at hx258_3)
             (try rw [show ((0 : Int)).toNat = 0 from rfl] at hx258_4)
             (try rw [show 0 * 6 = 0 from rfl] at hx258_4)
             (try rw [Addr.add_zero'] at hx258_4)
             (try rw [show ((0 : Int)).toNat = 0 from rfl] at hx258_5)
             (try rw [show 0 * 6 = 0 from rfl] at hx258_5)
             (try rw [Addr.add_zero'] at hx258_5)
             replace hx258_0 := zeA HB.out hx258_0
             replace hx258_1 := zeA HB.out hx258_1
             replace hx258_2 := zeA HB.out hx258_2
             replace hx258_3 := zeA HB.out hx258_3
             replace hx258_4 := zeA HB.out hx258_4
             replace hx258_5 := zeA HB.out hx258_5
             replace p258 := eq_true p258
             replace q258 := eq_true q258
             have p259 : 0 ≤ (x4_2 : Int) := dt_
             have q259 : x4_2 < (l0.length : Int) := dt_
             obtain ⟨ad259, e259, hx259_0, hx259_1, hx259_2, hx259_3, hx259_4, hx259_5⟩ := zcN HR0.out x4_2 p259 q259
             have hw259_5 := hx259_5
             have hw259_4 := hx259_4
             have hw259_3 := hx259_3
             have hw259_2 := hx259_2
             have hw259_1 := hx259_1
             have hw259_0 := hx259_0
             obtain rfl : ad256 = ad259 := (by injection e259)
             replace hx259_0 := zeA HB.out hx259_0
             replace hx259_1 := zeA HB.out hx259_1
             replace hx259_2 := zeA HB.out hx259_2
             replace hx259_3 := zeA HB.out hx259_3
             replace hx259_4 := zeA HB.out hx259_4
             replace hx259_5 := zeA HB.out hx259_5
             replace p259 := eq_true p259
             replace q259 := eq_true q259
             refine zpB (n := 21) (S := fun w' => w'.cell? (ad256.add ((x4_2).toNat * 6)) = some (.int .i64 ((zmE l0 x4_2).f0.f0)) ∧ w'.cell? ⟨(ad256.add ((x4_2).toNat * 6)).block, (ad256.add ((x4_2).toNat * 6)).off + 1, none⟩ = some (.int .i64 ((zmE l0 x4_2).f0.f1)) ∧ w'.cell? ⟨(ad256.add ((x4_2).toNat * 6)).block, (ad256.add ((x4_2).toNat * 6)).off + 2, none⟩ = some (.int .i64 ((zmE l0 x4_2).f0.f2)) ∧ w'.cell? ⟨(ad256.add ((x4_2).toNat * 6)).block, (ad256.add ((x4_2).toNat * 6)).off + 3, none⟩ = some (.int .i64 ((zmE l0 x4_2).f1.f0)) ∧ w'.cell? ⟨(ad256.add ((x4_2).toNat * 6)).block, (ad256.add ((x4_2).toNat * 6)).off + 4, none⟩ = some (.int .i64 ((zmE l0 x4_2).f1.f1)) ∧ w'.cell? ⟨(ad256.add ((x4_2).toNat * 6)).block, (ad256.add ((x4_2).toNat * 6)).off + 5, none⟩ = some (.int .i64 ((zmE l0 x4_2).f1.f2)) ∧ w'.cell? ad256 = some (.int .i64 ((zmE l0 0).f0.f0)) ∧ w'.cell? ⟨ad256.block, ad256.off + 1, none⟩ = some (.int .i64 ((zmE l0 0).f0.f1)) ∧ w'.cell? ⟨ad256.block, ad256.off + 2, none⟩ = some (.int .i64 ((zmE l0 0).f0.f2)) ∧ w'.cell? ⟨ad256.block, ad256.off + 3, none⟩ = some (.int .i64 ((zmE l0 0).f1.f0)) ∧ w'.cell? ⟨ad256.block, ad256.off + 4, none⟩ = some (.int .i64 ((zmE l0 0).f1.f1)) ∧ w'.cell? ⟨ad256.block, ad256.off + 5, none⟩ = some (.int .i64 ((zmE l0 0).f1.f2)) ∧ w'.cell? (ad256.add ((x4_2).toNat * 6)) = some (.int .i64 ((zmE l0 x4_2).f0.f0)) ∧ w'.cell? ⟨(ad256.add ((x4_2).toNat * 6)).block, (ad256.add ((x4_2).toNat * 6)).off + 1, none⟩ = some (.int .i64 ((zmE l0 x4_2).f0.f1)) ∧ w'.cell? ⟨(ad256.add ((x4_2).toNat * 6)).block, (ad256.add ((x4_2).toNat * 6)).off + 2, none⟩ = some (.int .i64 ((zmE l0 x4_2).f0.f2)) ∧ w'.cell? ⟨(ad256.add ((x4_2).toNat * 6)).block, (ad256.add ((x4_2).toNat * 6)).off + 3, none⟩ = some (.int .i64 ((zmE l0 x4_2).f1.f0)) ∧ w'.cell? ⟨(ad256.add ((x4_2).toNat * 6)).block, (ad256.add ((x4_2).toNat * 6)).off + 4, none⟩ = some (.int .i64 ((zmE l0 x4_2).f1.f1)) ∧ w'.cell? ⟨(ad256.add ((x4_2).toNat * 6)).block, (ad256.add ((x4_2).toNat * 6)).off + 5, none⟩ = some (.int .i64 ((zmE l0 x4_2).f1.f2))) (ds := []) #[false, false, false, false, false, false, false, false, false, false, false, false, false, false, false, false, false, false, false, false, false] (by kernel_rfl) rfl rfl ⟨(zeA HB.out hw256_0), (zeA HB.out hw256_1), (zeA HB.out hw256_2), (zeA HB.out hw256_3), (zeA HB.out hw256_4), (zeA HB.out hw256_5), (zeA HB.out hw258_0), (zeA HB.out hw258_1), (zeA HB.out hw258_2), (zeA HB.out hw258_3), (zeA HB.out hw258_4), (zeA HB.out hw258_5), (zeA HB.out hw259_0), (zeA HB.out hw259_1), (zeA HB.out hw259_2), (zeA HB.out hw259_3), (zeA HB.out hw259_4), (zeA HB.out hw259_5)⟩ (fun hHeld => ?_); refine zwI zhB.tab7 zhB.bits7 (fun HT_ HW_ => ?_)
             generalize wr.drew = w17 at HB hx256_0 hx256_1 hx256_2 hx256_3 hx256_4 hx256_5 hx258_0 hx258_1 hx258_2 hx258_3 hx258_4 hx258_5 hx259_0 hx259_1 hx259_2 hx259_3 hx259_4 hx259_5 hHeld ⊢
             refine pu_ 0 (some 23) (bl_ 21 1) ?_
             refine pu_ 1 (some 24) (bl_ 21 3) ?_
             refine pu_ 2 (some 25) (bl_ 21 7) ?_
             refine tk18_ 3 (some 26) (bl_ 21 15) hHeld ?_
             refine zdC (i := 4) (N := some 27) (bl_ 21 31) rfl rfl (zeO HT_.out (by kernel_rfl)) (by decide) (fun K hK => ?_)
             refine zqW Tryd.func11 (by kernel_rfl) rfl #[.agg #[.int .i64 ((zmE l0 x4_2).f0.f0), .int .i64 ((zmE l0 x4_2).f0.f1), .int .i64 ((zmE l0 x4_2).f0.f2), .int .i64 ((zmE l0 x4_2).f1.f0), .int .i64 ((zmE l0 x4_2).f1.f1), .int .i64 ((zmE l0 x4_2).f1.f2)]] (by rfl) rfl rfl (by (try simp only [List.map_toArray, List.map_cons, List.map_nil]); first | done | rfl | (simp only [List.length_drop, List.length_take]; rfl)) ?_
             with_reducible refine (zzR.calls ((zmE l0 x4_2).f0.f0) ((zmE l0 x4_2).f0.f1) ((zmE l0 x4_2).f0.f2) ((zmE l0 x4_2).f1.f0) ((zmE l0 x4_2).f1.f1) ((zmE l0 x4_2).f1.f2) true _ A8.out).mono ?_
             rintro e w18 ⟨rfl, hb⟩
             refine ⟨_, rfl, ?_⟩
             have n0_ := (ns_ hb)
             clear HB
             have HB := n0_
             clear n0_
             (try clear hb)
             (try clear hb2)
             (try clear hk)
             (try clear hi)
             refine hK.out _ _ ⟨(zeA HB.out hw256_0), (zeA HB.out hw256_1), (zeA HB.out hw256_2), (zeA HB.out hw256_3), (zeA HB.out hw256_4), (zeA HB.out hw256_5), (zeA HB.out hw258_0), (zeA HB.out hw258_1), (zeA HB.out hw258_2), (zeA HB.out hw258_3), (zeA HB.out hw258_4), (zeA HB.out hw258_5), (zeA HB.out hw259_0), (zeA HB.out hw259_1), (zeA HB.out hw259_2), (zeA HB.out hw259_3), (zeA HB.out hw259_4), (zeA HB.out hw259_5)⟩ (fun hHeld => ?_)
             clear hK K
             refine zaN (a' := ?_) ?_ ?_
             rotate_left
             ·show Act.put _ (some 27) _ = _
              simp only [Act.put, List.setIfInBounds_toArray, List.set_cons_zero, List.set_cons_succ, zcM, ziK]
              rfl
             refine pu_ 5 (some 28) (bl_ 21 63) ?_
             refine pu_ 6 (some 29) (bl_ 21 127) ?_
             refine pu_ 7 (some 30) (bl_ 21 255) ?_
             refine pu_ 8 (some 31) (bl_ 21 511) ?_
             refine pu_ 9 (some 32) (bl_ 21 1023) ?_
             refine pu_ 10 (some 33) (bl_ 21 2047) ?_
             refine pu_ 11 (some 34) (bl_ 21 4095) ?_
             refine pu_ 13 (some 36) (bl_ 21 12287) ?_
             refine pu_ 14 (some 37) (bl_ 21 28671) ?_
             refine pu_ 15 (some 38) (bl_ 21 61439) ?_
             refine tk18_ 12 (some 35) (bl_ 21 65535) hHeld ?_
             refine tk18_ 16 (some 39) (bl_ 21 131071) hHeld ?_
             refine zdC (i := 17) (N := some 40) (bl_ 21 262143) rfl rfl (zeO HT_.out (by kernel_rfl)) (by decide) (fun K hK => ?_)
             refine zqW Tryd.func23 (by kernel_rfl) rfl #[.agg #[.int .i64 ((zmE l0 0).f0.f0), .int .i64 ((zmE l0 0).f0.f1), .int .i64 ((zmE l0 0).f0.f2), .int .i64 ((zmE l0 0).f1.f0), .int .i64 ((zmE l0 0).f1.f1), .int .i64 ((zmE l0 0).f1.f2)], .agg #[.int .i64 ((zmE l0 x4_2).f0.f0), .int .i64 ((zmE l0 x4_2).f0.f1), .int .i64 ((zmE l0 x4_2).f0.f2), .int .i64 ((zmE l0 x4_2).f1.f0), .int .i64 ((zmE l0 x4_2).f1.f1), .int .i64 ((zmE l0 x4_2).f1.f2)]] (by rfl) rfl rfl (by (try simp only [List.map_toArray, List.map_cons, List.map_nil]); first | done | rfl | (simp only [List.length_drop, List.length_take]; rfl)) ?_
             with_reducible refine (zwB.calls k2 ((zmE l0 0).f0.f0) ((zmE l0 0).f0.f1) ((zmE l0 0).f0.f2) ((zmE l0 0).f1.f0) ((zmE l0 0).f1.f1) ((zmE l0 0).f1.f2) ((zmE l0 x4_2).f0.f0) ((zmE l0 x4_2).f0.f1) ((zmE l0 x4_2).f0.f2) ((zmE l0 x4_2).f1.f0) ((zmE l0 x4_2).f1.f1) ((zmE l0 x4_2).f1.f2) t260 _ A12.out).mono ?_
             rintro e w19 ⟨rfl, hb⟩
             refine ⟨_, rfl, ?_⟩
             have n0_ := (ns_ hb)
             clear HB
             have HB := n0_
             clear n0_
             (try clear hb)
             (try clear hb2)
             (try clear hk)
             (try clear hi)
             refine hK.out _ _ ⟨(zeA HB.out hw256_0), (zeA HB.out hw256_1), (zeA HB.out hw256_2), (zeA HB.out hw256_3), (zeA HB.out hw256_4), (zeA HB.out hw256_5), (zeA HB.out hw258_0), (zeA HB.out hw258_1), (zeA HB.out hw258_2), (zeA HB.out hw258_3), (zeA HB.out hw258_4), (zeA HB.out hw258_5), (zeA HB.out hw259_0), (zeA HB.out hw259_1), (zeA HB.out hw259_2), (zeA HB.out hw259_3), (zeA HB.out hw259_4), (zeA HB.out hw259_5)⟩ (fun hHeld => ?_)
             clear hK K
             refine zaN (a' := ?_) ?_ ?_
             rotate_left
             ·show Act.put _ (some 40) _ = _
              simp only [Act.put, List.setIfInBounds_toArray, List.set_cons_zero, List.set_cons_succ, zcM, ziK]
              rfl
             refine pu_ 18 (some 41) (bl_ 21 524287) ?_
             refine pu_ 19 (some 42) (bl_ 21 1048575) ?_
             refine pu_ 20 (some 43) (bl_ 21 2097151) ?_
             refine znK (zzP HT_.out (by kernel_rfl)) ?_
             try go_wp2
             go_roundg k2
             case measure => have := HJ1.out; have := HK2.out; omega
             case rel => exact ⟨(wrap64 (x4_2 + 1)), (by first | rfl | (simp; done) | (simp [*]; done)), H', ⟨by have := HJ1.out; have := HK2.out; omega⟩, ⟨bb_⟩⟩
           ·rw [if_neg c11] at H
            exact absurd H (by simp)
          ·rw [if_neg c10] at H
           have c10b0 : decide (0 < x4_2) = false := decide_eq_false c10
           clear c10
           have H' := zpS H
           clear H
           try go_wp2
           have n0_ := zpS (zvF HB.out)
           clear HB
           have HB := n0_
           clear n0_
           have p256 : 0 ≤ (x4_2 : Int) := dt_
           have q256 : x4_2 < (l0.length : Int) := dt_
           obtain ⟨ad256, e256, hx256_0, hx256_1, hx256_2, hx256_3, hx256_4, hx256_5⟩ := zcN HR0.out x4_2 p256 q256
           have hw256_5 := hx256_5
           have hw256_4 := hx256_4
           have hw256_3 := hx256_3
           have hw256_2 := hx256_2
           have hw256_1 := hx256_1
           have hw256_0 := hx256_0
           cases e256
           replace hx256_0 := zeA HB.out hx256_0
           replace hx256_1 := zeA HB.out hx256_1
           replace hx256_2 := zeA HB.out hx256_2
           replace hx256_3 := zeA HB.out hx256_3
           replace hx256_4 := zeA HB.out hx256_4
           replace hx256_5 := zeA HB.out hx256_5
           replace p256 := eq_true p256
           replace q256 := eq_true q256
           refine zpB (n := 21) (S := fun w' => w'.cell? (ad256.add ((x4_2).toNat * 6)) = some (.int .i64 ((zmE l0 x4_2).f0.f0)) ∧ w'.cell? ⟨(ad256.add ((x4_2).toNat * 6)).block, (ad256.add ((x4_2).toNat * 6)).off + 1, none⟩ = some (.int .i64 ((zmE l0 x4_2).f0.f1)) ∧ w'.cell? ⟨(ad256.add ((x4_2).toNat * 6)).block, (ad256.add ((x4_2).toNat * 6)).off + 2, none⟩ = some (.int .i64 ((zmE l0 x4_2).f0.f2)) ∧ w'.cell? ⟨(ad256.add ((x4_2).toNat * 6)).block, (ad256.add ((x4_2).toNat * 6)).off + 3, none⟩ = some (.int .i64 ((zmE l0 x4_2).f1.f0)) ∧ w'.cell? ⟨(ad256.add ((x4_2).toNat * 6)).block, (ad256.add ((x4_2).toNat * 6)).off + 4, none⟩ = some (.int .i64 ((zmE l0 x4_2).f1.f1)) ∧ w'.cell? ⟨(ad256.add ((x4_2).toNat * 6)).block, (ad256.add ((x4_2).toNat * 6)).off + 5, none⟩ = some (.int .i64 ((zmE l0 x4_2).f1.f2))) (ds := []) #[false, false, false, false, false, false, false, false, false, false, false, false, false, false, false, false, false, false, false, false, false] (by kernel_rfl) rfl rfl ⟨(zeA HB.out hw256_0), (zeA HB.out hw256_1), (zeA HB.out hw256_2), (zeA HB.out hw256_3), (zeA HB.out hw256_4), (zeA HB.out hw256_5)⟩ (fun hHeld => ?_); refine zwI zhB.tab7 zhB.bits7 (fun HT_ HW_ => ?_)
           generalize wr.drew = w20 at HB hx256_0 hx256_1 hx256_2 hx256_3 hx256_4 hx256_5 hHeld ⊢
           refine pu_ 0 (some 23) (bl_ 21 1) ?_
           refine pu_ 1 (some 24) (bl_ 21 3) ?_
           refine pu_ 2 (some 25) (bl_ 21 7) ?_
           refine tk6_ 3 (some 26) (bl_ 21 15) hHeld ?_
           refine zdC (i := 4) (N := some 27) (bl_ 21 31) rfl rfl (zeO HT_.out (by kernel_rfl)) (by decide) (fun K hK => ?_)
           refine zqW Tryd.func11 (by kernel_rfl) rfl #[.agg #[.int .i64 ((zmE l0 x4_2).f0.f0), .int .i64 ((zmE l0 x4_2).f0.f1), .int .i64 ((zmE l0 x4_2).f0.f2), .int .i64 ((zmE l0 x4_2).f1.f0), .int .i64 ((zmE l0 x4_2).f1.f1), .int .i64 ((zmE l0 x4_2).f1.f2)]] (by rfl) rfl rfl (by (try simp only [List.map_toArray, List.map_cons, List.map_nil]); first | done | rfl | (simp only [List.length_drop, List.length_take]; rfl)) ?_
           with_reducible refine (zzR.calls ((zmE l0 x4_2).f0.f0) ((zmE l0 x4_2).f0.f1) ((zmE l0 x4_2).f0.f2) ((zmE l0 x4_2).f1.f0) ((zmE l0 x4_2).f1.f1) ((zmE l0 x4_2).f1.f2) true _ A8.out).mono ?_
           rintro e w21 ⟨rfl, hb⟩
           refine ⟨_, rfl, ?_⟩
           have n0_ := (ns_ hb)
           clear HB
           have HB := n0_
           clear n0_
           (try clear hb)
           (try clear hb2)
           (try clear hk)
           (try clear hi)
           refine hK.out _ _ ⟨(zeA HB.out hw256_0), (zeA HB.out hw256_1), (zeA HB.out hw256_2), (zeA HB.out hw256_3), (zeA HB.out hw256_4), (zeA HB.out hw256_5)⟩ (fun hHeld => ?_)
           clear hK K
           refine zaN (a' := ?_) ?_ ?_
           rotate_left
           ·show Act.put _ (some 27) _ = _
            simp only [Act.put, List.setIfInBounds_toArray, List.set_cons_zero, List.set_cons_succ, zcM, ziK]
            rfl
           refine pu_ 5 (some 28) (bl_ 21 63) ?_
           refine pu_ 6 (some 29) (bl_ 21 127) ?_
           refine pu_ 7 (some 30) (bl_ 21 255) ?_
           refine pu_ 8 (some 31) (bl_ 21 511) ?_
           refine pu_ 9 (some 32) (bl_ 21 1023) ?_
           refine ztK (i := 10) (N := some 33) (v := undef) (a' := ?_) (bl_ 21 2047) rfl rfl (zmT HT_.out (by kernel_rfl)) (fun _ _ _ h => h) (Or.inr ⟨by rfl, rfl⟩) ?_ ?_
           rotate_left
           ·simp only [Act.put, List.setIfInBounds_toArray, List.set_cons_zero, List.set_cons_succ, zcM, ziK]
            rfl
           refine ztK (i := 11) (N := some 34) (v := undef) (a' := ?_) (bl_ 21 4095) rfl rfl (zmT HT_.out (by kernel_rfl)) (fun _ _ _ h => h) (Or.inr ⟨by rfl, rfl⟩) ?_ ?_
           rotate_left
           ·simp only [Act.put, List.setIfInBounds_toArray, List.set_cons_zero, List.set_cons_succ, zcM, ziK]
            rfl
           refine ztK (i := 12) (N := some 35) (v := undef) (a' := ?_) (bl_ 21 8191) rfl rfl (zmT HT_.out (by kernel_rfl)) (fun _ _ _ h => h) (Or.inr ⟨by rfl, rfl⟩) ?_ ?_
           rotate_left
           ·simp only [Act.put, List.setIfInBounds_toArray, List.set_cons_zero, List.set_cons_succ, zcM, ziK]
            rfl
           refine ztK (i := 13) (N := some 36) (v := undef) (a' := ?_) (bl_ 21 16383) rfl rfl (zmT HT_.out (by kernel_rfl)) (fun _ _ _ h => h) (Or.inr ⟨by rfl, rfl⟩) ?_ ?_
           rotate_left
           ·simp only [Act.put, List.setIfInBounds_toArray, List.set_cons_zero, List.set_cons_succ, zcM, ziK]
            rfl
           refine ztK (i := 14) (N := some 37) (v := undef) (a' := ?_) (bl_ 21 32767) rfl rfl (zmT HT_.out (by kernel_rfl)) (fun _ _ _ h => h) (Or.inr ⟨by rfl, rfl⟩) ?_ ?_
           rotate_left
           ·simp only [Act.put, List.setIfInBounds_toArray, List.set_cons_zero, List.set_cons_succ, zcM, ziK]
            rfl
           refine ztK (i := 15) (N := some 38) (v := undef) (a' := ?_) (bl_ 21 65535) rfl rfl (zmT HT_.out (by kernel_rfl)) (fun _ _ _ h => h) (Or.inr ⟨by rfl, rfl⟩) ?_ ?_
           rotate_left
           ·simp only [Act.put, List.setIfInBounds_toArray, List.set_cons_zero, List.set_cons_succ, zcM, ziK]
            rfl
           refine ztK (i := 16) (N := some 39) (v := undef) (a' := ?_) (bl_ 21 131071) rfl rfl (zmT HT_.out (by kernel_rfl)) (fun _ _ _ h => h) (Or.inr ⟨by rfl, rfl⟩) ?_ ?_
           rotate_left
           ·simp only [Act.put, List.setIfInBounds_toArray, List.set_cons_zero, List.set_cons_succ, zcM, ziK]
            rfl
           refine ztK (i := 17) (N := some 40) (v := undef) (a' := ?_) (bl_ 21 262143) rfl rfl (zmT HT_.out (by kernel_rfl)) (fun _ _ _ h => h) (Or.inr ⟨by rfl, rfl⟩) ?_ ?_
           rotate_left
           ·simp only [Act.put, List.setIfInBounds_toArray, List.set_cons_zero, List.set_cons_succ, zcM, ziK]
            rfl
           refine ztK (i := 18) (N := some 41) (v := undef) (a' := ?_) (bl_ 21 524287) rfl rfl (zmT HT_.out (by kernel_rfl)) (fun _ _ _ h => h) (Or.inr ⟨by rfl, rfl⟩) ?_ ?_
           rotate_left
           ·simp only [Act.put, List.setIfInBounds_toArray, List.set_cons_zero, List.set_cons_succ, zcM, ziK]
            rfl
           refine pu_ 19 (some 42) (bl_ 21 1048575) ?_
           refine pu_ 20 (some 43) (bl_ 21 2097151) ?_
           refine znK (zzP HT_.out (by kernel_rfl)) ?_
           try go_wp2
           go_roundg k2
           case measure => have := HJ1.out; have := HK2.out; omega
           case rel => exact ⟨(wrap64 (x4_2 + 1)), (by first | rfl | (simp; done) | (simp [*]; done)), H', ⟨by have := HJ1.out; have := HK2.out; omega⟩, ⟨bb_⟩⟩
         ·replace c9 := Bool.eq_false_iff.mpr c9
          subst c9
          have H1 : (some false) = some r := by rw [if_neg (show ¬ (false = true) by decide)] at H; exact H
          clear H
          have H := H1
          clear H1
          obtain rfl := Option.some.inj H
          try go_wp2
          have n0_ := zpS (zvF HB.out)
          clear HB
          have HB := n0_
          clear n0_
          have p256 : 0 ≤ (x4_2 : Int) := dt_
          have q256 : x4_2 < (l0.length : Int) := dt_
          obtain ⟨ad256, e256, hx256_0, hx256_1, hx256_2, hx256_3, hx256_4, hx256_5⟩ := zcN HR0.out x4_2 p256 q256
          have hw256_5 := hx256_5
          have hw256_4 := hx256_4
          have hw256_3 := hx256_3
          have hw256_2 := hx256_2
          have hw256_1 := hx256_1
          have hw256_0 := hx256_0
          cases e256
          replace hx256_0 := zeA HB.out hx256_0
          replace hx256_1 := zeA HB.out hx256_1
          replace hx256_2 := zeA HB.out hx256_2
          replace hx256_3 := zeA HB.out hx256_3
          replace hx256_4 := zeA HB.out hx256_4
          replace hx256_5 := zeA HB.out hx256_5
          replace p256 := eq_true p256
          replace q256 := eq_true q256
          refine zpB (n := 21) (S := fun w' => w'.cell? (ad256.add ((x4_2).toNat * 6)) = some (.int .i64 ((zmE l0 x4_2).f0.f0)) ∧ w'.cell? ⟨(ad256.add ((x4_2).toNat * 6)).block, (ad256.add ((x4_2).toNat * 6)).off + 1, none⟩ = some (.int .i64 ((zmE l0 x4_2).f0.f1)) ∧ w'.cell? ⟨(ad256.add ((x4_2).toNat * 6)).block, (ad256.add ((x4_2).toNat * 6)).off + 2, none⟩ = some (.int .i64 ((zmE l0 x4_2).f0.f2)) ∧ w'.cell? ⟨(ad256.add ((x4_2).toNat * 6)).block, (ad256.add ((x4_2).toNat * 6)).off + 3, none⟩ = some (.int .i64 ((zmE l0 x4_2).f1.f0)) ∧ w'.cell? ⟨(ad256.add ((x4_2).toNat * 6)).block, (ad256.add ((x4_2).toNat * 6)).off + 4, none⟩ = some (.int .i64 ((zmE l0 x4_2).f1.f1)) ∧ w'.cell? ⟨(ad256.add ((x4_2).toNat * 6)).block, (ad256.add ((x4_2).toNat * 6)).off + 5, none⟩ = some (.int .i64 ((zmE l0 x4_2).f1.f2))) (ds := []) #[false, false, false, false, false, false, false, false, false, false, false, false, false, false, false, false, false, false, false, false, false] (by kernel_rfl) rfl rfl ⟨(zeA HB.out hw256_0), (zeA HB.out hw256_1), (zeA HB.out hw256_2), (zeA HB.out hw256_3), (zeA HB.out hw256_4), (zeA HB.out hw256_5)⟩ (fun hHeld => ?_); refine zwI zhB.tab7 zhB.bits7 (fun HT_ HW_ => ?_)
          generalize wr.drew = w22 at HB hx256_0 hx256_1 hx256_2 hx256_3 hx256_4 hx256_5 hHeld ⊢
          refine pu_ 0 (some 23) (bl_ 21 1) ?_
          refine pu_ 1 (some 24) (bl_ 21 3) ?_
          refine pu_ 2 (some 25) (bl_ 21 7) ?_
          refine tk6_ 3 (some 26) (bl_ 21 15) hHeld ?_
          refine zdC (i := 4) (N := some 27) (bl_ 21 31) rfl rfl (zeO HT_.out (by kernel_rfl)) (by decide) (fun K hK => ?_)
          refine zqW Tryd.func11 (by kernel_rfl) rfl #[.agg #[.int .i64 ((zmE l0 x4_2).f0.f0), .int .i64 ((zmE l0 x4_2).f0.f1), .int .i64 ((zmE l0 x4_2).f0.f2), .int .i64 ((zmE l0 x4_2).f1.f0), .int .i64 ((zmE l0 x4_2).f1.f1), .int .i64 ((zmE l0 x4_2).f1.f2)]] (by rfl) rfl rfl (by (try simp only [List.map_toArray, List.map_cons, List.map_nil]); first | done | rfl | (simp only [List.length_drop, List.length_take]; rfl)) ?_
          with_reducible refine (zzR.calls ((zmE l0 x4_2).f0.f0) ((zmE l0 x4_2).f0.f1) ((zmE l0 x4_2).f0.f2) ((zmE l0 x4_2).f1.f0) ((zmE l0 x4_2).f1.f1) ((zmE l0 x4_2).f1.f2) false _ A8.out).mono ?_
          rintro e w23 ⟨rfl, hb⟩
          refine ⟨_, rfl, ?_⟩
          have n0_ := (ns_ hb)
          clear HB
          have HB := n0_
          clear n0_
          (try clear hb)
          (try clear hb2)
          (try clear hk)
          (try clear hi)
          refine hK.out _ _ ⟨(zeA HB.out hw256_0), (zeA HB.out hw256_1), (zeA HB.out hw256_2), (zeA HB.out hw256_3), (zeA HB.out hw256_4), (zeA HB.out hw256_5)⟩ (fun hHeld => ?_)
          clear hK K
          refine zaN (a' := ?_) ?_ ?_
          rotate_left
          ·show Act.put _ (some 27) _ = _
           simp only [Act.put, List.setIfInBounds_toArray, List.set_cons_zero, List.set_cons_succ, zcM, ziK]
           rfl
          refine pu_ 5 (some 28) (bl_ 21 63) ?_
          refine pu_ 6 (some 29) (bl_ 21 127) ?_
          refine ztK (i := 7) (N := some 30) (v := undef) (a' := ?_) (bl_ 21 255) rfl rfl (zmT HT_.out (by kernel_rfl)) (fun _ _ _ h => h) (Or.inr ⟨by rfl, rfl⟩) ?_ ?_
          rotate_left
          ·simp only [Act.put, List.setIfInBounds_toArray, List.set_cons_zero, List.set_cons_succ, zcM, ziK]
           rfl
          refine ztK (i := 8) (N := some 31) (v := undef) (a' := ?_) (bl_ 21 511) rfl rfl (zmT HT_.out (by kernel_rfl)) (fun _ _ _ h => h) (Or.inr ⟨by rfl, rfl⟩) ?_ ?_
          rotate_left
          ·simp only [Act.put, List.setIfInBounds_toArray, List.set_cons_zero, List.set_cons_succ, zcM, ziK]
           rfl
          refine ztK (i := 9) (N := some 32) (v := undef) (a' := ?_) (bl_ 21 1023) rfl rfl (zmT HT_.out (by kernel_rfl)) (fun _ _ _ h => h) (Or.inr ⟨by rfl, rfl⟩) ?_ ?_
          rotate_left
          ·simp only [Act.put, List.setIfInBounds_toArray, List.set_cons_zero, List.set_cons_succ, zcM, ziK]
           rfl
          refine ztK (i := 10) (N := some 33) (v := undef) (a' := ?_) (bl_ 21 2047) rfl rfl (zmT HT_.out (by kernel_rfl)) (fun _ _ _ h => h) (Or.inr ⟨by rfl, rfl⟩) ?_ ?_
          rotate_left
          ·simp only [Act.put, List.setIfInBounds_toArray, List.set_cons_zero, List.set_cons_succ, zcM, ziK]
           rfl
          refine ztK (i := 11) (N := some 34) (v := undef) (a' := ?_) (bl_ 21 4095) rfl rfl (zmT HT_.out (by kernel_rfl)) (fun _ _ _ h => h) (Or.inr ⟨by rfl, rfl⟩) ?_ ?_
          rotate_left
          ·simp only [Act.put, List.setIfInBounds_toArray, List.set_cons_zero, List.set_cons_succ, zcM, ziK]
           rfl
          refine ztK (i := 12) (N := some 35) (v := undef) (a' := ?_) (bl_ 21 8191) rfl rfl (zmT HT_.out (by kernel_rfl)) (fun _ _ _ h => h) (Or.inr ⟨by rfl, rfl⟩) ?_ ?_
          rotate_left
          ·simp only [Act.put, List.setIfInBounds_toArray, List.set_cons_zero, List.set_cons_succ, zcM, ziK]
           rfl
          refine ztK (i := 13) (N := some 36) (v := undef) (a' := ?_) (bl_ 21 16383) rfl rfl (zmT HT_.out (by kernel_rfl)) (fun _ _ _ h => h) (Or.inr ⟨by rfl, rfl⟩) ?_ ?_
          rotate_left
          ·simp only [Act.put, List.setIfInBounds_toArray, List.set_cons_zero, List.set_cons_succ, zcM, ziK]
           rfl
          refine ztK (i := 14) (N := some 37) (v := undef) (a' := ?_) (bl_ 21 32767) rfl rfl (zmT HT_.out (by kernel_rfl)) (fun _ _ _ h => h) (Or.inr ⟨by rfl, rfl⟩) ?_ ?_
          rotate_left
          ·simp only [Act.put, List.setIfInBounds_toArray, List.set_cons_zero, List.set_cons_succ, zcM, ziK]
           rfl
          refine ztK (i := 15) (N := some 38) (v := undef) (a' := ?_) (bl_ 21 65535) rfl rfl (zmT HT_.out (by kernel_rfl)) (fun _ _ _ h => h) (Or.inr ⟨by rfl, rfl⟩) ?_ ?_
          rotate_left
          ·simp only [Act.put, List.setIfInBounds_toArray, List.set_cons_zero, List.set_cons_succ, zcM, ziK]
           rfl
          refine ztK (i := 16) (N := some 39) (v := undef) (a' := ?_) (bl_ 21 131071) rfl rfl (zmT HT_.out (by kernel_rfl)) (fun _ _ _ h => h) (Or.inr ⟨by rfl, rfl⟩) ?_ ?_
          rotate_left
          ·simp only [Act.put, List.setIfInBounds_toArray, List.set_cons_zero, List.set_cons_succ, zcM, ziK]
           rfl
          refine ztK (i := 17) (N := some 40) (v := undef) (a' := ?_) (bl_ 21 262143) rfl rfl (zmT HT_.out (by kernel_rfl)) (fun _ _ _ h => h) (Or.inr ⟨by rfl, rfl⟩) ?_ ?_
          rotate_left
          ·simp only [Act.put, List.setIfInBounds_toArray, List.set_cons_zero, List.set_cons_succ, zcM, ziK]
           rfl
          refine ztK (i := 18) (N := some 41) (v := undef) (a' := ?_) (bl_ 21 524287) rfl rfl (zmT HT_.out (by kernel_rfl)) (fun _ _ _ h => h) (Or.inr ⟨by rfl, rfl⟩) ?_ ?_
          rotate_left
          ·simp only [Act.put, List.setIfInBounds_toArray, List.set_cons_zero, List.set_cons_succ, zcM, ziK]
           rfl
          refine ztK (i := 19) (N := some 42) (v := undef) (a' := ?_) (bl_ 21 1048575) rfl rfl (zmT HT_.out (by kernel_rfl)) (fun _ _ _ h => h) (Or.inr ⟨by rfl, rfl⟩) ?_ ?_
          rotate_left
          ·simp only [Act.put, List.setIfInBounds_toArray, List.set_cons_zero, List.set_cons_succ, zcM, ziK]
           rfl
          refine pu_ 20 (some 43) (bl_ 21 2097151) ?_
          refine znK (zzP HT_.out (by kernel_rfl)) ?_
          try go_wp2
          go_ret
          exact ⟨by first | rfl | (simp [ziS, znJ] <;> rfl) | (simp [*, ziS, znJ] <;> rfl), bb_⟩
        ·rw [if_neg c7] at H
         exact absurd H (by simp)
       ·rw [if_neg c6] at H
        exact absurd H (by simp)
      ·rw [if_neg c5] at H
       have c5b0 : decide (x4_2 < (l0.length : Int)) = false := decide_eq_false c5
       clear c5
       replace H := Option.bind_eq_some_iff.mp H
       obtain ⟨t261, A240, H⟩ := H
       replace H : ((zlQ.f k2 t261).bind fun bt264 => (if bt264.2 = true then (zhB.l1 k2 (l0.length : Int) bt264.1 0 0) else (some false))) = some r := H
       have A24 := zpS A240
       clear A240
       replace H := Option.bind_eq_some_iff.mp H
       obtain ⟨⟨t264, t265⟩, A250, H⟩ := H
       replace H : (if t265 = true then (zhB.l1 k2 (l0.length : Int) t264 0 0) else (some false)) = some r := H
       have A25 := zpS A250
       clear A250
       by_cases c26 : t265 = true
       ·subst c26
        have H1 : (zhB.l1 k2 (l0.length : Int) t264 0 0) = some r := by rw [if_pos rfl] at H; exact H
        clear H
        have H := H1
        clear H1
        have H' := zpS H
        clear H
        go_wp2_with (first | ((with_reducible refine zgK (f := 25) rfl ?_); refine zqQ (some 46) rfl rfl Tryd.func25 (by kernel_rfl) rfl #[.slice A0 l0.length c0] rfl (by (try simp only [List.map_toArray, List.map_cons, List.map_nil]); first | done | rfl | (simp only [List.length_drop, List.length_take]; rfl)) ?_; (with_reducible refine (zsN.calls k2 _ _ l0 t261 _ ?side1 ?side2 A24.out).mono ?_); (case side1 => repeat (first | exact (Kd.C_below HR0.out HB.out) | (with_reducible refine Kd.C_alloc ?_ _) | (with_reducible refine Kd.C_drewN ?_ _) | (with_reducible refine Kd.C_drew ?_))); (case side2 => exact HC0.out); rintro e w27 ⟨v262, rfl, ho0, hb⟩; refine ⟨_, rfl, ?_⟩; have n0_ := zpS (Kd.R_lower ho0 (zuA bb_)); have n1_ := (ns_ hb); clear HB; have HO263 := n0_; have HB := n1_; clear n0_ n1_; (try clear hb); (try clear hb2); (try clear ho0); obtain ⟨Ao28, co28, eo28⟩ := Kd.R_slice HO263.out; subst eo28) | ((with_reducible refine zgK (f := 24) rfl ?_); refine zqQ (some 47) rfl rfl Tryd.func24 (by kernel_rfl) rfl #[.slice Ao28 t261.length co28] rfl (by (try simp only [List.map_toArray, List.map_cons, List.map_nil]); first | done | rfl | (simp only [List.length_drop, List.length_take]; rfl)) ?_; (with_reducible refine (zlQ.calls k2 _ _ t261 t264 true _ ?side1 ?side2 A25.out).mono ?_); (case side1 => repeat (first | exact (Kd.R_reads' HO263.out).2.2 | (with_reducible refine Kd.C_alloc ?_ _) | (with_reducible refine Kd.C_drewN ?_ _) | (with_reducible refine Kd.C_drew ?_))); (case side2 => exact (Kd.R_reads' HO263.out).2.1); rintro e w29 ⟨v266, rfl, ho0, hb⟩; refine ⟨_, rfl, ?_⟩; have n0_ := zpS (Kd.R_below (by (with_reducible repeat (first | apply Kd.R_alloc | apply Kd.R_drewN | apply Kd.R_drew)); exact HO263.out) hb); have n1_ := zpS (Kd.R_lower ho0 (zuA bb_)); have n2_ := (ns_ hb); clear HO263; clear HB; have HO263 := n0_; have HO267 := n1_; have HB := n2_; clear n0_ n1_ n2_; (try clear hb); (try clear hb2); (try clear ho0)))
        (try go_simp)
        go_loopg [7, 8] k2 (fun kq v7 v8 w' => ∃ (x7_3 : Int) (x8_3 : Int), v7 = .int .i64 x7_3 ∧ v8 = .int .i64 x8_3 ∧ Aside0 (zhB.l1 kq (l0.length : Int) t264 x7_3 x8_3 = some r) ∧ Aside0 (kq ≤ k2) ∧ Aside0 (Kd.R (Kd.int .i64) 2 w' w.heap.size (fun _ => True) v266 t264) ∧ Aside0 (Below w.heap.size w w'))
        case atStart => exact ⟨(0), (0), (by first | rfl | (simp; done) | (simp [*]; done)), (by first | rfl | (simp; done) | (simp [*]; done)), H', ⟨Nat.le_refl _⟩, ⟨by (with_reducible repeat (first | apply Kd.R_alloc | apply Kd.R_drewN | apply Kd.R_drew)); exact HO267.out⟩, ⟨bb_⟩⟩
        case round =>
         clear H'
         try clear c1
         try clear c2
         try clear p2
         try clear q2
         try clear hx2
         try clear c5
         try clear c5b0
         try clear c6
         try clear p6
         try clear c7
         try clear c9
         try clear c10
         try clear c10b0
         try clear c11
         try clear c23
         try clear c24
         try clear c25
         try clear p25
         try clear q25
         try clear hx25
         try clear c26
         try clear hx256_0
         try clear hx256_1
         try clear hx256_2
         try clear hx256_3
         try clear hx256_4
         try clear hx256_5
         try clear hx258_0
         try clear hx258_1
         try clear hx258_2
         try clear hx258_3
         try clear hx258_4
         try clear hx258_5
         try clear hx259_0
         try clear hx259_1
         try clear hx259_2
         try clear hx259_3
         try clear hx259_4
         try clear hx259_5
         try clear p256
         try clear p258
         try clear p259
         try clear q256
         try clear q258
         try clear q259
         obtain ⟨x7_3, x8_3, rfl, rfl, HA, HK3, HO_5, HB⟩ := hrel
         cases gk with
         | zero => exact absurd HA.out (by simp [zhB.l1])
         | succ k3 =>
          have H := HA.out
          clear HA
          simp only [zhB.l1] at H
          by_cases c30 : x8_3 < (l0.length : Int)
          ·rw [if_pos c30] at H
           have c30b0 : decide (x8_3 < (l0.length : Int)) = true := decide_eq_true c30
           clear c30
           by_cases c31 : (l0.length : Int) = 0
           ·rw [if_pos c31] at H
            exact absurd H (by simp)
           ·rw [if_neg c31] at H
            have c31b0 : ((l0.length : Int) == 0) = false := beq_eq_false_iff_ne.mpr c31
            have c31b1 : ((l0.length : Int) != 0) = true := bne_iff_ne.mpr c31
            have c31b2 : ¬ (l0 = []) := fun h_ => c31 (by rw [h_]; rfl)
            obtain ⟨ji32, hji32⟩ : ∃ j_ : Int, (Int.tmod (wrap64 (x8_3 + 1)) (l0.length : Int)) = j_ := ⟨_, rfl⟩
            replace H : (if 0 ≤ (ji32) then (if (ji32) < (t264.length : Int) then (if 0 ≤ x8_3 then (if x8_3 < (t264.length : Int) then ((ziB.f (wrap64 ((rd t264 (ji32)) - (rd t264 x8_3)))).bind fun t270 => ((ziE.f t270 1 7).bind fun t271 => (if t271 = true then (zhB.l1 k3 (l0.length : Int) t264 (wrap64 (x7_3 + t270)) (wrap64 (x8_3 + 1))) else (some false)))) else (none)) else (none)) else (none)) else (none)) = some r := by first | (rw [hji32] at H; exact H) | (simp only [hji32] at H ⊢; exact H)
            by_cases c33 : 0 ≤ (ji32)
            ·rw [if_pos c33] at H
             have c33b0 : decide (0 ≤ (ji32)) = true := decide_eq_true c33
             clear c33
             by_cases c34 : (ji32) < (t264.length : Int)
             ·rw [if_pos c34] at H
              have c34b0 : decide ((ji32) < (t264.length : Int)) = true := decide_eq_true c34
              clear c34
              by_cases c35 : 0 ≤ x8_3
              ·rw [if_pos c35] at H
               have c35b0 : decide (0 ≤ x8_3) = true := decide_eq_true c35
               clear c35
               by_cases c36 : x8_3 < (t264.length : Int)
               ·rw [if_pos c36] at H
                have c36b0 : decide (x8_3 < (t264.length : Int)) = true := decide_eq_true c36
                clear c36
                replace H := Option.bind_eq_some_iff.mp H
                obtain ⟨t270, A370, H⟩ := H
                replace H : ((ziE.f t270 1 7).bind fun t271 => (if t271 = true then (zhB.l1 k3 (l0.length : Int) t264 (wrap64 (x7_3 + t270)) (wrap64 (x8_3 + 1))) else (some false))) = some r := H
                have A37 := zpS A370
                clear A370
                replace H := Option.bind_eq_some_iff.mp H
                obtain ⟨t271, A380, H⟩ := H
                replace H : (if t271 = true then (zhB.l1 k3 (l0.length : Int) t264 (wrap64 (x7_3 + t270)) (wrap64 (x8_3 + 1))) else (some false)) = some r := H
                have A38 := zpS A380
                clear A380
                by_cases c39 : t271 = true
                ·subst c39
                 have H1 : (zhB.l1 k3 (l0.length : Int) t264 (wrap64 (x7_3 + t270)) (wrap64 (x8_3 + 1))) = some r := by rw [if_pos rfl] at H; exact H
                 clear H
                 have H := H1
                 clear H1
                 have H' := zpS H
                 clear H
                 try go_wp2
                 have n0_ := zpS (Kd.R_drew HO_5.out)
                 have n1_ := zpS (zvF HB.out)
                 clear HO_5
                 clear HB
                 have HO_5 := n0_
                 have HB := n1_
                 clear n0_ n1_
                 obtain ⟨Ao41, co41, eo41⟩ := Kd.R_slice HO_5.out
                 (first | subst eo41 | (injection eo41 with f1_ f2_ f3_; have f4_ := f1_.symm; have f5_ := f3_.symm; clear f1_ f2_ f3_; subst f4_; subst f5_))
                 have p268 : 0 ≤ ((ji32) : Int) := dt_
                 have q268 : (ji32) < (t264.length : Int) := dt_
                 obtain ⟨ad268, e268, hx268_0⟩ := Kd.at_int (Kd.R_reads' HO_5.out).2.2 (ji32) p268 q268
                 cases e268
                 replace p268 := eq_true p268
                 replace q268 := eq_true q268
                 have p269 : 0 ≤ (x8_3 : Int) := dt_
                 have q269 : x8_3 < (t264.length : Int) := dt_
                 obtain ⟨ad269, e269, hx269_0⟩ := Kd.at_int (Kd.R_reads' HO_5.out).2.2 x8_3 p269 q269
                 obtain rfl : ad268 = ad269 := (by injection e269)
                 replace p269 := eq_true p269
                 replace q269 := eq_true q269
                 refine zpB (n := 14) (S := fun w' => w'.cell? (ad268.add ((ji32)).toNat) = some (.int .i64 (rd t264 (ji32))) ∧ w'.cell? (ad268.add (x8_3).toNat) = some (.int .i64 (rd t264 x8_3))) (ds := []) #[false, false, false, false, false, false, false, false, false, false, false, false, false, false] (by kernel_rfl) rfl rfl ⟨hx268_0, hx269_0⟩ (fun hHeld => ?_); refine zwI zhB.tab16 zhB.bits16 (fun HT_ HW_ => ?_)
                 generalize wr.drew = w40 at HO_5 HB hx268_0 hx269_0 hHeld ⊢
                 refine pu_ 0 (some 57) (bl_ 14 1) ?_
                 refine pu_ 1 (some 58) (bl_ 14 3) ?_
                 refine pu_ 2 (some 59) (bl_ 14 7) ?_
                 refine pu_ 3 (some 60) (bl_ 14 15) ?_
                 refine pu_ 4 (some 61) (bl_ 14 31) ?_
                 refine pu_ 5 (some 62) (bl_ 14 63) ?_
                 refine pu_ 7 (some 64) (bl_ 14 191) ?_
                 refine pu_ 8 (some 65) (bl_ 14 447) ?_
                 refine pu_ 9 (some 66) (bl_ 14 959) ?_
                 refine tk2_ 6 (some 63) (bl_ 14 1023) hHeld ?_
                 refine tk2_ 10 (some 67) (bl_ 14 2047) hHeld ?_
                 refine pu_ 11 (some 68) (bl_ 14 4095) ?_
                 refine zdC (i := 12) (N := some 69) (bl_ 14 8191) rfl rfl (zeO HT_.out (by kernel_rfl)) (by decide) (fun K hK => ?_)
                 refine zqW Tryd.func26 (by kernel_rfl) rfl #[.int .i64 (wrap64 ((rd t264 (ji32)) - (rd t264 x8_3)))] (by rfl) rfl rfl (by (try simp only [List.map_toArray, List.map_cons, List.map_nil]); first | done | (simp only [hji32]; rfl) | rfl | (simp only [List.length_drop, List.length_take]; rfl)) ?_
                 with_reducible refine (ziB.calls (wrap64 ((rd t264 (ji32)) - (rd t264 x8_3))) t270 _ A37.out).mono ?_
                 rintro e w' ⟨rfl, ⟨nd, rfl⟩⟩
                 refine ⟨_, rfl, ?_⟩
                 refine hK.out _ _ ⟨hHeld.1, hHeld.2⟩ (fun hHeld => ?_)
                 clear hK K
                 refine zaN (a' := ?_) ?_ ?_
                 rotate_left
                 ·show Act.put _ (some 69) _ = _
                  simp only [Act.put, List.setIfInBounds_toArray, List.set_cons_zero, List.set_cons_succ, zcM, ziK]
                  rfl
                 refine pu_ 13 (some 9) (bl_ 14 16383) ?_
                 refine znK (zzP HT_.out (by kernel_rfl)) ?_
                 try go_wp2_with (first | ((with_reducible refine zgK (f := 27) rfl ?_); refine zqQ (some 71) rfl rfl Tryd.func27 (by kernel_rfl) rfl #[.int .i64 t270, .int .i64 1, .int .i64 7] rfl (by (try simp only [List.map_toArray, List.map_cons, List.map_nil]); first | done | rfl | (simp only [List.length_drop, List.length_take]; rfl)) ?_; (with_reducible refine (ziE.calls t270 1 7 true _ A38.out).mono ?_); rintro e w' ⟨rfl, ⟨nd, rfl⟩⟩; refine ⟨_, rfl, ?_⟩))
                 go_roundg k3
                 case measure => have := HJ1.out; have := HK2.out; have := HK3.out; omega
                 case rel => exact ⟨(wrap64 (x7_3 + t270)), (wrap64 (x8_3 + 1)), (by first | rfl | (simp; done) | (simp [*]; done)), (by first | rfl | (simp; done) | (simp [*]; done)), H', ⟨by have := HJ1.out; have := HK2.out; have := HK3.out; omega⟩, ⟨by (with_reducible repeat (first | apply Kd.R_alloc | apply Kd.R_drewN | apply Kd.R_drew)); exact HO_5.out⟩, ⟨bb_⟩⟩
                ·replace c39 := Bool.eq_false_iff.mpr c39
                 subst c39
                 have H1 : (some false) = some r := by rw [if_neg (show ¬ (false = true) by decide)] at H; exact H
                 clear H
                 have H := H1
                 clear H1
                 obtain rfl := Option.some.inj H
                 try go_wp2
                 have n0_ := zpS (Kd.R_drew HO_5.out)
                 have n1_ := zpS (zvF HB.out)
                 clear HO_5
                 clear HB
                 have HO_5 := n0_
                 have HB := n1_
                 clear n0_ n1_
                 obtain ⟨Ao43, co43, eo43⟩ := Kd.R_slice HO_5.out
                 (first | subst eo43 | (injection eo43 with f1_ f2_ f3_; have f4_ := f1_.symm; have f5_ := f3_.symm; clear f1_ f2_ f3_; subst f4_; subst f5_))
                 have p268 : 0 ≤ ((ji32) : Int) := dt_
                 have q268 : (ji32) < (t264.length : Int) := dt_
                 obtain ⟨ad268, e268, hx268_0⟩ := Kd.at_int (Kd.R_reads' HO_5.out).2.2 (ji32) p268 q268
                 cases e268
                 replace p268 := eq_true p268
                 replace q268 := eq_true q268
                 have p269 : 0 ≤ (x8_3 : Int) := dt_
                 have q269 : x8_3 < (t264.length : Int) := dt_
                 obtain ⟨ad269, e269, hx269_0⟩ := Kd.at_int (Kd.R_reads' HO_5.out).2.2 x8_3 p269 q269
                 obtain rfl : ad268 = ad269 := (by injection e269)
                 replace p269 := eq_true p269
                 replace q269 := eq_true q269
                 refine zpB (n := 14) (S := fun w' => w'.cell? (ad268.add ((ji32)).toNat) = some (.int .i64 (rd t264 (ji32))) ∧ w'.cell? (ad268.add (x8_3).toNat) = some (.int .i64 (rd t264 x8_3))) (ds := []) #[false, false, false, false, false, false, false, false, false, false, false, false, false, false] (by kernel_rfl) rfl rfl ⟨hx268_0, hx269_0⟩ (fun hHeld => ?_); refine zwI zhB.tab16 zhB.bits16 (fun HT_ HW_ => ?_)
                 generalize wr.drew = w42 at HO_5 HB hx268_0 hx269_0 hHeld ⊢
                 refine pu_ 0 (some 57) (bl_ 14 1) ?_
                 refine pu_ 1 (some 58) (bl_ 14 3) ?_
                 refine pu_ 2 (some 59) (bl_ 14 7) ?_
                 refine pu_ 3 (some 60) (bl_ 14 15) ?_
                 refine pu_ 4 (some 61) (bl_ 14 31) ?_
                 refine pu_ 5 (some 62) (bl_ 14 63) ?_
                 refine pu_ 7 (some 64) (bl_ 14 191) ?_
                 refine pu_ 8 (some 65) (bl_ 14 447) ?_
                 refine pu_ 9 (some 66) (bl_ 14 959) ?_
                 refine tk2_ 6 (some 63) (bl_ 14 1023) hHeld ?_
                 refine tk2_ 10 (some 67) (bl_ 14 2047) hHeld ?_
                 refine pu_ 11 (some 68) (bl_ 14 4095) ?_
                 refine zdC (i := 12) (N := some 69) (bl_ 14 8191) rfl rfl (zeO HT_.out (by kernel_rfl)) (by decide) (fun K hK => ?_)
                 refine zqW Tryd.func26 (by kernel_rfl) rfl #[.int .i64 (wrap64 ((rd t264 (ji32)) - (rd t264 x8_3)))] (by rfl) rfl rfl (by (try simp only [List.map_toArray, List.map_cons, List.map_nil]); first | done | (simp only [hji32]; rfl) | rfl | (simp only [List.length_drop, List.length_take]; rfl)) ?_
                 with_reducible refine (ziB.calls (wrap64 ((rd t264 (ji32)) - (rd t264 x8_3))) t270 _ A37.out).mono ?_
                 rintro e w' ⟨rfl, ⟨nd, rfl⟩⟩
                 refine ⟨_, rfl, ?_⟩
                 refine hK.out _ _ ⟨hHeld.1, hHeld.2⟩ (fun hHeld => ?_)
                 clear hK K
                 refine zaN (a' := ?_) ?_ ?_
                 rotate_left
                 ·show Act.put _ (some 69) _ = _
                  simp only [Act.put, List.setIfInBounds_toArray, List.set_cons_zero, List.set_cons_succ, zcM, ziK]
                  rfl
                 refine pu_ 13 (some 9) (bl_ 14 16383) ?_
                 refine znK (zzP HT_.out (by kernel_rfl)) ?_
                 try go_wp2_with (first | ((with_reducible refine zgK (f := 27) rfl ?_); refine zqQ (some 71) rfl rfl Tryd.func27 (by kernel_rfl) rfl #[.int .i64 t270, .int .i64 1, .int .i64 7] rfl (by (try simp only [List.map_toArray, List.map_cons, List.map_nil]); first | done | rfl | (simp only [List.length_drop, List.length_take]; rfl)) ?_; (with_reducible refine (ziE.calls t270 1 7 false _ A38.out).mono ?_); rintro e w' ⟨rfl, ⟨nd, rfl⟩⟩; refine ⟨_, rfl, ?_⟩))
                 go_ret
                 exact ⟨by first | rfl | (simp [ziS, znJ] <;> rfl) | (simp only [← hji32]; first | rfl | (simp [ziS, znJ] <;> rfl)) | (simp [*, ziS, znJ] <;> rfl), bb_⟩
               ·rw [if_neg c36] at H
                exact absurd H (by simp)
              ·rw [if_neg c35] at H
               exact absurd H (by simp)
             ·rw [if_neg c34] at H
              exact absurd H (by simp)
            ·rw [if_neg c33] at H
             exact absurd H (by simp)
          ·rw [if_neg c30] at H
           have c30b0 : decide (x8_3 < (l0.length : Int)) = false := decide_eq_false c30
           clear c30
           obtain rfl := Option.some.inj H
           go_wp2
           go_ret
           exact ⟨by first | rfl | (simp [ziS, znJ] <;> rfl) | (simp [*, ziS, znJ] <;> rfl), bb_⟩
       ·replace c26 := Bool.eq_false_iff.mpr c26
        subst c26
        have H1 : (some false) = some r := by rw [if_neg (show ¬ (false = true) by decide)] at H; exact H
        clear H
        have H := H1
        clear H1
        obtain rfl := Option.some.inj H
        go_wp2_with (first | ((with_reducible refine zgK (f := 25) rfl ?_); refine zqQ (some 46) rfl rfl Tryd.func25 (by kernel_rfl) rfl #[.slice A0 l0.length c0] rfl (by (try simp only [List.map_toArray, List.map_cons, List.map_nil]); first | done | rfl | (simp only [List.length_drop, List.length_take]; rfl)) ?_; (with_reducible refine (zsN.calls k2 _ _ l0 t261 _ ?side1 ?side2 A24.out).mono ?_); (case side1 => repeat (first | exact (Kd.C_below HR0.out HB.out) | (with_reducible refine Kd.C_alloc ?_ _) | (with_reducible refine Kd.C_drewN ?_ _) | (with_reducible refine Kd.C_drew ?_))); (case side2 => exact HC0.out); rintro e w44 ⟨v262, rfl, ho0, hb⟩; refine ⟨_, rfl, ?_⟩; have n0_ := zpS (Kd.R_lower ho0 (zuA bb_)); have n1_ := (ns_ hb); clear HB; have HO263 := n0_; have HB := n1_; clear n0_ n1_; (try clear hb); (try clear hb2); (try clear ho0); obtain ⟨Ao45, co45, eo45⟩ := Kd.R_slice HO263.out; subst eo45) | ((with_reducible refine zgK (f := 24) rfl ?_); refine zqQ (some 47) rfl rfl Tryd.func24 (by kernel_rfl) rfl #[.slice Ao45 t261.length co45] rfl (by (try simp only [List.map_toArray, List.map_cons, List.map_nil]); first | done | rfl | (simp only [List.length_drop, List.length_take]; rfl)) ?_; (with_reducible refine (zlQ.calls k2 _ _ t261 t264 false _ ?side1 ?side2 A25.out).mono ?_); (case side1 => repeat (first | exact (Kd.R_reads' HO263.out).2.2 | (with_reducible refine Kd.C_alloc ?_ _) | (with_reducible refine Kd.C_drewN ?_ _) | (with_reducible refine Kd.C_drew ?_))); (case side2 => exact (Kd.R_reads' HO263.out).2.1); rintro e w46 ⟨v266, rfl, ho0, hb⟩; refine ⟨_, rfl, ?_⟩; have n0_ := zpS (Kd.R_below (by (with_reducible repeat (first | apply Kd.R_alloc | apply Kd.R_drewN | apply Kd.R_drew)); exact HO263.out) hb); have n1_ := zpS (Kd.R_lower ho0 (zuA bb_)); have n2_ := (ns_ hb); clear HO263; clear HB; have HO263 := n0_; have HO267 := n1_; have HB := n2_; clear n0_ n1_ n2_; (try clear hb); (try clear hb2); (try clear ho0)))
        go_ret
        exact ⟨by first | rfl | (simp [ziS, znJ] <;> rfl) | (simp [*, ziS, znJ] <;> rfl), bb_⟩

end Go.Proofs.YtbnfbflfhpniaaaDoor.PFnExactNormalPolygon
