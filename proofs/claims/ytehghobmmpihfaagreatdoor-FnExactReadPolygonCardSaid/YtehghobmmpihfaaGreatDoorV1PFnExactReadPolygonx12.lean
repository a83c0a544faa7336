-- Printed for this claim by this session's program pp.py, which drives the kit's print with additions. Not trusted: Lean checks it.
import Derived.Test.YtehghobmmpihfaaGreatDoorV1PFnExactReadPolygonx11
namespace Go.Proofs.YtehghobmmpihfaaGreatDoor.PFnExactReadPolygon
open Go.RowKit Go.Proofs.YtehghobmmpihfaaGreatDoorW.PrintWords Go.Proofs.YtehghobmmpihfaaGreatDoorW.PrintLast Go.Proofs.YtehghobmmpihfaaGreatDoorW.PrintMore
attribute [local go_sem] zbB ziB zrC zhD znE zuB znH zkT   -- for this text's walks alone
set_option linter.unusedVariables false
set_option maxHeartbeats 8000000
set_option maxRecDepth 100000
set_option linter.unusedSimpArgs false

mutual
def zhB.j0 : Nat → List (S33) → Int → Bool → Option (Bool)
 | 0, _, _, _ => none
 | k + 1, x0, x3, x17 => if x17 = true then (some false) else (zhB.l0 k x0 x3 0)
def zhB.l0 : Nat → List (S33) → Int → Int → Option (Bool)
 | 0, _, _, _ => none
 | k + 1, x0, x3, x4 => if x4 < x3 then (if 0 ≤ x4 then (if x4 < (x0.length : Int) then ((zzR.f ((zdH x0 x4).f0.f0) ((zdH x0 x4).f0.f1) ((zdH x0 x4).f0.f2) ((zdH x0 x4).f1.f0) ((zdH x0 x4).f1.f1) ((zdH x0 x4).f1.f2)).bind fun t303 => (if t303 = true then (if x4 > 0 then (if 0 < (x0.length : Int) then ((zwB.f k ((zdH x0 0).f0.f0) ((zdH x0 0).f0.f1) ((zdH x0 0).f0.f2) ((zdH x0 0).f1.f0) ((zdH x0 0).f1.f1) ((zdH x0 0).f1.f2) ((zdH x0 x4).f0.f0) ((zdH x0 x4).f0.f1) ((zdH x0 x4).f0.f2) ((zdH x0 x4).f1.f0) ((zdH x0 x4).f1.f1) ((zdH x0 x4).f1.f2)).bind fun t306 => (if t306 ≥ 0 then (some false) else (zhB.l0 k x0 x3 (wrap64 (x4 + 1))))) else (none)) else (zhB.l0 k x0 x3 (wrap64 (x4 + 1)))) else (some false))) else (none)) else (none)) else ((zsN.f k x0).bind fun t307 => ((zlQ.f k t307).bind fun bt310 => (if bt310.2 = true then (zhB.l1 k x3 bt310.1 0 0) else (some false))))
def zhB.l1 : Nat → Int → List Int → Int → Int → Option (Bool)
 | 0, _, _, _, _ => none
 | k + 1, x3, x5, x7, x8 => if x8 < x3 then (if x3 = 0 then (none) else (if 0 ≤ (Int.tmod (wrap64 (x8 + 1)) x3) then (if (Int.tmod (wrap64 (x8 + 1)) x3) < (x5.length : Int) then (if 0 ≤ x8 then (if x8 < (x5.length : Int) then ((ziC.f (wrap64 ((rd x5 (Int.tmod (wrap64 (x8 + 1)) x3)) - (rd x5 x8)))).bind fun t316 => ((ziE.f t316 1 7).bind fun t317 => (if t317 = true then (zhB.l1 k x3 x5 (wrap64 (x7 + t316)) (wrap64 (x8 + 1))) else (some false)))) else (none)) else (none)) else (none)) else (none))) else (some (x7 == 16))
end
def zhB.f (k : Nat) (l0 : List (S33)) : Option (Bool) := if (l0.length : Int) < 3 then (zhB.j0 k l0 (l0.length : Int) true) else (zhB.j0 k l0 (l0.length : Int) (decide ((l0.length : Int) > 16)))
theorem zhB.mono_l : ∀ k, (∀ y0 y1 y2, LeO (zhB.j0 k y0 y1 y2) (zhB.j0 (k + 1) y0 y1 y2)) ∧ (∀ y0 y1 y2, LeO (zhB.l0 k y0 y1 y2) (zhB.l0 (k + 1) y0 y1 y2)) ∧ (∀ y0 y1 y2 y3, LeO (zhB.l1 k y0 y1 y2 y3) (zhB.l1 (k + 1) y0 y1 y2 y3))
 | 0 => ⟨fun _ _ _ r h => by simp [zhB.j0] at h, fun _ _ _ r h => by simp [zhB.l0] at h, fun _ _ _ _ r h => by simp [zhB.l1] at h⟩
 | k + 1 => by
  obtain ⟨ih0, ih1, ih2⟩ := zhB.mono_l k; refine ⟨?_, ?_, ?_⟩
  ·intro y0 y1 y2
   unfold zhB.j0
   repeat' (with_reducible first | exact ih0 _ _ _ | exact ih1 _ _ _ | exact ih2 _ _ _ _ | exact zwB.mono _ _ _ _ _ _ _ _ _ _ _ _ _ | exact zlQ.mono _ _ | exact zsN.mono _ _ | exact LeO.refl _ | exact LeO.none _ | refine LeO.ite ?_ ?_ | refine LeO.bind ?_ (fun _ => ?_))
  ·intro y0 y1 y2
   unfold zhB.l0
   repeat' (with_reducible first | exact ih0 _ _ _ | exact ih1 _ _ _ | exact ih2 _ _ _ _ | exact zwB.mono _ _ _ _ _ _ _ _ _ _ _ _ _ | exact zlQ.mono _ _ | exact zsN.mono _ _ | exact LeO.refl _ | exact LeO.none _ | refine LeO.ite ?_ ?_ | refine LeO.bind ?_ (fun _ => ?_))
  ·intro y0 y1 y2 y3
   unfold zhB.l1
   repeat' (with_reducible first | exact ih0 _ _ _ | exact ih1 _ _ _ | exact ih2 _ _ _ _ | exact zwB.mono _ _ _ _ _ _ _ _ _ _ _ _ _ | exact zlQ.mono _ _ | exact zsN.mono _ _ | exact LeO.refl _ | exact LeO.none _ | refine LeO.ite ?_ ?_ | refine LeO.bind ?_ (fun _ => ?_))
theorem zhB.mono : ∀ a0 k, LeO (zhB.f k a0) (zhB.f (k + 1) a0) := by
 intro a0 k; obtain ⟨ih0, ih1, ih2⟩ := zhB.mono_l k; unfold zhB.f
 repeat' (with_reducible first | exact ih0 _ _ _ | exact ih1 _ _ _ | exact ih2 _ _ _ _ | exact zwB.mono _ _ _ _ _ _ _ _ _ _ _ _ _ | exact zlQ.mono _ _ | exact zsN.mono _ _ | exact LeO.refl _ | exact LeO.none _ | refine LeO.ite ?_ ?_ | refine LeO.bind ?_ (fun _ => ?_))
def zhB.T7 : Bool × List (List Nat × List Nat) := (true, [([], []), ([], []), ([0, 1], [0, 1]), ([2], [2]), ([3], [3]), ([4], [4]), ([5, 4], [5]), ([6], [6]), ([7, 6], [6, 7]), ([8, 6, 6], [6, 8]), ([9], [9]), ([10, 9], [9, 10]), ([11, 9], [9, 11]), ([9], [9]), ([9], [9]), ([13, 14, 9], [9, 13, 14]), ([15, 9], [9, 15]), ([12, 16, 9, 9], [9, 12, 16]), ([17, 9], [9, 17]), ([9, 18, 6], [6, 9, 18]), ([6, 19], [6, 19])])
def zhB.B7 : List Nat := [0, 0, 3, 7, 15, 31, 63, 127, 255, 511, 1023, 2047, 4095, 1023, 1023, 25599, 58367, 131071, 262143, 524287, 1048575]
theorem zhB.tab7 : rtab .any (opsOf Tryz.f11 7) = zhB.T7 := by kernel_rfl
theorem zhB.bits7 : ztE zhB.T7.2 zhB.B7 = true := by kernel_rfl
def zhB.T16 : Bool × List (List Nat × List Nat) := (true, [([], []), ([], []), ([1], [1]), ([], []), ([2, 3], [2, 3]), ([0, 4], [0, 4]), ([5], [5]), ([], []), ([], []), ([7, 8], [7, 8]), ([9], [9]), ([6, 10], [6, 10]), ([11], [11]), ([12, 12, 0, 1, 2, 3, 4, 5, 6, 7, 8, 9, 10, 11, 12], [12])])
def zhB.B16 : List Nat := [0, 0, 2, 0, 14, 31, 63, 0, 0, 384, 896, 2047, 4095, 8191]
theorem zhB.tab16 : rtab .any (opsOf Tryz.f11 16) = zhB.T16 := by kernel_rfl
theorem zhB.bits16 : ztE zhB.T16.2 zhB.B16 = true := by kernel_rfl
theorem zhB.calls (k : Nat) (A0 : Option Addr) (c0 : Nat) (l0 : List (S33)) (r : Bool) (w : World) (hr0 : Kd.C k33 w A0 l0.length l0) (hc0 : l0.length ≤ c0) (h : zhB.f k l0 = some r) :
  Calls Tryz.prog 11 #[.slice A0 l0.length c0] w fun e w' => e = .returned (.bool r) ∧ Below w.heap.size w w' := by
 have hu33 := Tryz.underlying33; have HR0 := zpS hr0; have HC0 := zpS hc0; clear hr0 hc0; have HB := zpS (Below.refl w.heap.size w); have H := h; unfold zhB.f at H; clear h; have HC2 := zpS H; clear H; go_enter Tryz.func11, Tryz.ntmps11
 go_upto_region 2 with (fail)
 go_cut [17] (fun v17 wc => ∃ (kq : Nat) (x17_1 : Bool), v17 = .bool x17_1 ∧ Aside0 (zhB.j0 kq l0 (l0.length : Int) x17_1 = some r) ∧ Aside0 (kq ≤ k) ∧ Aside0 (Below w.heap.size w wc))
 case first =>
  have H := HC2.out; clear HC2; replace H := ip_ H
  rcases H with ⟨c3, H⟩ | ⟨c3, H⟩
  ·have c3b0 := decide_eq_true c3
   have c3b1 : decide (l0.length < 3) = true := decide_eq_true (by omega); clear c3
   (first | rw [c3b0] | (simp only [zcN, ziJ]; rw [c3b0]) | skip)
   have H' := zpS H; clear H
   go_wp2
   go_meet
   case rel => exact ⟨_, (true), (ey_), H', ⟨by first | omega | exact Nat.le_refl _⟩, ⟨bb_⟩⟩
  ·have c3b0 := decide_eq_false c3
   have c3b1 : decide (l0.length < 3) = false := decide_eq_false (by omega); clear c3
   (first | rw [c3b0] | (simp only [zcN, ziJ]; rw [c3b0]) | skip)
   have H' := zpS H; clear H
   go_wp2
   go_meet
   case rel => exact ⟨_, (decide ((l0.length : Int) > 16)), (ey_), H', ⟨by first | omega | exact Nat.le_refl _⟩, ⟨bb_⟩⟩
 case rest =>
  clear HC2; (try clear c1); (try clear p2); (try clear c3); (try clear c3b0); (try clear c3b1); obtain ⟨kq, x17_1, rfl, HA, HJ1, HB⟩ := hcut
  cases kq with
  | zero => exact absurd HA.out (by simp [zhB.j0])
  | succ kj1 =>
   have H := HA.out; clear HA; simp only [zhB.j0] at H; replace H := ib_ H
   rcases H with ⟨rfl, H⟩ | ⟨rfl, H⟩
   ·obtain rfl := Option.some.inj H
    go_wp2
    go_ret
    exact ⟨ex_, bb_⟩
   ·have H' := zpS H
    clear H
    go_wp2
    (try go_simp)
    go_loopg [4] kj1 (fun kq v4 w' => ∃ (x4_2 : Int), v4 = .int .i64 x4_2 ∧ Aside0 (zhB.l0 kq l0 (l0.length : Int) x4_2 = some r) ∧ Aside0 (kq ≤ kj1) ∧ Aside0 (Below w.heap.size w w'))
    case atStart => exact ⟨(0), (ey_), H', ⟨Nat.le_refl _⟩, ⟨bb_⟩⟩
    case round =>
     clear H'; (try clear c1); (try clear p2); (try clear c3); (try clear c3b0); (try clear c3b1); (try clear c4); (try clear p2); obtain ⟨x4_2, rfl, HA, HK2, HB⟩ := hrel
     cases gk with
     | zero => exact absurd HA.out (by simp [zhB.l0])
     | succ k2 =>
      have H := HA.out; clear HA; simp only [zhB.l0] at H; replace H := ip_ H
      rcases H with ⟨c5, H⟩ | ⟨c5, H⟩
      ·have c5b0 := decide_eq_true c5
       clear c5; replace H := ie_ H; obtain ⟨c6b0, H⟩ := H; replace H := ie_ H; obtain ⟨c7b0, H⟩ := H; replace H := be_ H; obtain ⟨t303, A8, H⟩ := H; replace H := ib_ H
       rcases H with ⟨rfl, H⟩ | ⟨rfl, H⟩
       ·replace H := ip_ H
        rcases H with ⟨c10, H⟩ | ⟨c10, H⟩
        ·have c10b0 : decide (0 < x4_2) = true := decide_eq_true c10
         clear c10; replace H := in_ H; obtain ⟨c11, H⟩ := H; have c11b0 := decide_eq_true c11; have c11b1 : decide (0 < l0.length) = true := decide_eq_true (by omega); clear c11; replace H := be_ H; obtain ⟨t306, A12, H⟩ := H; replace H := ip_ H
         rcases H with ⟨c13, H⟩ | ⟨c13, H⟩
         ·have c13b0 : decide (0 ≤ t306) = true := decide_eq_true c13
          clear c13; obtain rfl := Option.some.inj H
          try go_wp2
          replace HB := bd_ HB; have p302 : 0 ≤ (x4_2 : Int) := dt_; have q302 : x4_2 < (l0.length : Int) := dt_; obtain ⟨ad302, e302, hx302_0, hx302_1, hx302_2, hx302_3, hx302_4, hx302_5⟩ := zuR HR0.out x4_2 p302 q302; have hw302_5 := hx302_5; have hw302_4 := hx302_4; have hw302_3 := hx302_3; have hw302_2 := hx302_2; have hw302_1 := hx302_1; have hw302_0 := hx302_0; cases e302; replace hx302_0 := zeA HB.out hx302_0; replace hx302_1 := zeA HB.out hx302_1; replace hx302_2 := zeA HB.out hx302_2; replace hx302_3 := zeA HB.out hx302_3; replace hx302_4 := zeA HB.out hx302_4; replace hx302_5 := zeA HB.out hx302_5; replace p302 := eq_true p302
          replace q302 := eq_true q302; have p304 : 0 ≤ (0 : Int) := (by omega); have q304 : 0 < (l0.length : Int) := dt_; obtain ⟨ad304, e304, hx304_0, hx304_1, hx304_2, hx304_3, hx304_4, hx304_5⟩ := zuR HR0.out 0 p304 q304; have hw304_5 := hx304_5
          (try rw [show ((0 : Int)).toNat = 0 from rfl] at hw304_5)
          (try rw [show 0 * 6 = 0 from rfl] at hw304_5)
          (try rw [Addr.add_zero'] at hw304_5)
          have hw304_4 := hx304_4
          (try rw [show ((0 : Int)).toNat = 0 from rfl] at hw304_4)
          (try rw [show 0 * 6 = 0 from rfl] at hw304_4)
          (try rw [Addr.add_zero'] at hw304_4)
          have hw304_3 := hx304_3
          (try rw [show ((0 : Int)).toNat = 0 from rfl] at hw304_3)
          (try rw [show 0 * 6 = 0 from rfl] at hw304_3)
          (try rw [Addr.add_zero'] at hw304_3)
          have hw304_2 := hx304_2
          (try rw [show ((0 : Int)).toNat = 0 from rfl] at hw304_2)
          (try rw [show 0 * 6 = 0 from rfl] at hw304_2)
          (try rw [Addr.add_zero'] at hw304_2)
          have hw304_1 := hx304_1
          (try rw [show ((0 : Int)).toNat = 0 from rfl] at hw304_1)
          (try rw [show 0 * 6 = 0 from rfl] at hw304_1)
          (try rw [Addr.add_zero'] at hw304_1)
          have hw304_0 := hx304_0
          (try rw [show ((0 : Int)).toNat = 0 from rfl] at hw304_0)
          (try rw [show 0 * 6 = 0 from rfl] at hw304_0)
          (try rw [Addr.add_zero'] at hw304_0)
          obtain rfl : ad302 = ad304 := (by injection e304); have qi304 : (0 < l0.length) = True := eq_true (by omega)
          (try rw [show ((0 : Int)).toNat = 0 from rfl] at hx304_0)
          (try rw [show 0 * 6 = 0 from rfl] at hx304_0)
          (try rw [Addr.add_zero'] at hx304_0)
          (try rw [show ((0 : Int)).toNat = 0 from rfl] at hx304_1)
          (try rw [show 0 * 6 = 0 from rfl] at hx304_1)
          (try rw [Addr.add_zero'] at hx304_1)
          (try rw [show ((0 : Int)).toNat = 0 from rfl] at hx304_2)
          (try rw [show 0 * 6 = 0 from rfl] at hx304_2)
          (try rw [Addr.add_zero'] at hx304_2)
          (try rw [show ((0 : Int)).toNat = 0 from rfl] at hx304_3)
          (try rw [show 0 * 6 = 0 from rfl] at hx304_3)
          (try rw [Addr.add_zero'] at hx304_3)
          (try rw [show ((0 : Int)).toNat = 0 from rfl] at hx304_4)
          (try rw [show 0 * 6 = 0 from rfl] at hx304_4)
          (try rw [Addr.add_zero'] at hx304_4)
          (try rw [show ((0 : Int)).toNat = 0 from rfl] at hx304_5)
          (try rw [show 0 * 6 = 0 from rfl] at hx304_5)
          (try rw [Addr.add_zero'] at hx304_5)
          replace hx304_0 := zeA HB.out hx304_0; replace hx304_1 := zeA HB.out hx304_1; replace hx304_2 := zeA HB.out hx304_2; replace hx304_3 := zeA HB.out hx304_3; replace hx304_4 := zeA HB.out hx304_4; replace hx304_5 := zeA HB.out hx304_5; replace p304 := eq_true p304; replace q304 := eq_true q304; have p305 : 0 ≤ (x4_2 : Int) := dt_; have q305 : x4_2 < (l0.length : Int) := dt_; obtain ⟨ad305, e305, hx305_0, hx305_1, hx305_2, hx305_3, hx305_4, hx305_5⟩ := zuR HR0.out x4_2 p305 q305; have hw305_5 := hx305_5; have hw305_4 := hx305_4; have hw305_3 := hx305_3; have hw305_2 := hx305_2; have hw305_1 := hx305_1; have hw305_0 := hx305_0
          obtain rfl : ad302 = ad305 := (by injection e305); replace hx305_0 := zeA HB.out hx305_0; replace hx305_1 := zeA HB.out hx305_1; replace hx305_2 := zeA HB.out hx305_2; replace hx305_3 := zeA HB.out hx305_3; replace hx305_4 := zeA HB.out hx305_4; replace hx305_5 := zeA HB.out hx305_5; replace p305 := eq_true p305; replace q305 := eq_true q305
          refine zpB (n := 21) (S := fun w' => w'.cell? (ad302.add ((x4_2).toNat * 6)) = some (.int .i64 ((zdH l0 x4_2).f0.f0)) ∧ w'.cell? ⟨(ad302.add ((x4_2).toNat * 6)).block, (ad302.add ((x4_2).toNat * 6)).off + 1, none⟩ = some (.int .i64 ((zdH l0 x4_2).f0.f1)) ∧ w'.cell? ⟨(ad302.add ((x4_2).toNat * 6)).block, (ad302.add ((x4_2).toNat * 6)).off + 2, none⟩ = some (.int .i64 ((zdH l0 x4_2).f0.f2)) ∧ w'.cell? ⟨(ad302.add ((x4_2).toNat * 6)).block, (ad302.add ((x4_2).toNat * 6)).off + 3, none⟩ = some (.int .i64 ((zdH l0 x4_2).f1.f0)) ∧ w'.cell? ⟨(ad302.add ((x4_2).toNat * 6)).block, (ad302.add ((x4_2).toNat * 6)).off + 4, none⟩ = some (.int .i64 ((zdH l0 x4_2).f1.f1)) ∧ w'.cell? ⟨(ad302.add ((x4_2).toNat * 6)).block, (ad302.add ((x4_2).toNat * 6)).off + 5, none⟩ = some (.int .i64 ((zdH l0 x4_2).f1.f2)) ∧ w'.cell? ad302 = some (.int .i64 ((zdH l0 0).f0.f0)) ∧ w'.cell? ⟨ad302.block, ad302.off + 1, none⟩ = some (.int .i64 ((zdH l0 0).f0.f1)) ∧ w'.cell? ⟨ad302.block, ad302.off + 2, none⟩ = some (.int .i64 ((zdH l0 0).f0.f2)) ∧ w'.cell? ⟨ad302.block, ad302.off + 3, none⟩ = some (.int .i64 ((zdH l0 0).f1.f0)) ∧ w'.cell? ⟨ad302.block, ad302.off + 4, none⟩ = some (.int .i64 ((zdH l0 0).f1.f1)) ∧ w'.cell? ⟨ad302.block, ad302.off + 5, none⟩ = some (.int .i64 ((zdH l0 0).f1.f2)) ∧ w'.cell? (ad302.add ((x4_2).toNat * 6)) = some (.int .i64 ((zdH l0 x4_2).f0.f0)) ∧ w'.cell? ⟨(ad302.add ((x4_2).toNat * 6)).block, (ad302.add ((x4_2).toNat * 6)).off + 1, none⟩ = some (.int .i64 ((zdH l0 x4_2).f0.f1)) ∧ w'.cell? ⟨(ad302.add ((x4_2).toNat * 6)).block, (ad302.add ((x4_2).toNat * 6)).off + 2, none⟩ = some (.int .i64 ((zdH l0 x4_2).f0.f2)) ∧ w'.cell? ⟨(ad302.add ((x4_2).toNat * 6)).block, (ad302.add ((x4_2).toNat * 6)).off + 3, none⟩ = some (.int .i64 ((zdH l0 x4_2).f1.f0)) ∧ w'.cell? ⟨(ad302.add ((x4_2).toNat * 6)).block, (ad302.add ((x4_2).toNat * 6)).off + 4, none⟩ = some (.int .i64 ((zdH l0 x4_2).f1.f1)) ∧ w'.cell? ⟨(ad302.add ((x4_2).toNat * 6)).block, (ad302.add ((x4_2).toNat * 6)).off + 5, none⟩ = some (.int .i64 ((zdH l0 x4_2).f1.f2))) (ds := []) #[false, false, false, false, false, false, false, false, false, false, false, false, false, false, false, false, false, false, false, false, false] (by kernel_rfl) rfl rfl ⟨(zeA HB.out hw302_0), (zeA HB.out hw302_1), (zeA HB.out hw302_2), (zeA HB.out hw302_3), (zeA HB.out hw302_4), (zeA HB.out hw302_5), (zeA HB.out hw304_0), (zeA HB.out hw304_1), (zeA HB.out hw304_2), (zeA HB.out hw304_3), (zeA HB.out hw304_4), (zeA HB.out hw304_5), (zeA HB.out hw305_0), (zeA HB.out hw305_1), (zeA HB.out hw305_2), (zeA HB.out hw305_3), (zeA HB.out hw305_4), (zeA HB.out hw305_5)⟩ (fun hHeld => ?_); refine zwI zhB.tab7 zhB.bits7 (fun HT_ HW_ => ?_)
          generalize wr.drew = w14 at HB hx302_0 hx302_1 hx302_2 hx302_3 hx302_4 hx302_5 hx304_0 hx304_1 hx304_2 hx304_3 hx304_4 hx304_5 hx305_0 hx305_1 hx305_2 hx305_3 hx305_4 hx305_5 hHeld ⊢; refine pu_ 0 (some 23) (bl_ 21 1) ?_; refine pu_ 1 (some 24) (bl_ 21 3) ?_; refine pu_ 2 (some 25) (bl_ 21 7) ?_; refine tk18_ 3 (some 26) (bl_ 21 15) hHeld ?_; refine zdC (i := 4) (N := some 27) (bl_ 21 31) rfl rfl (zeO HT_.out (by kernel_rfl)) (by decide) (fun K hK => ?_); refine gs_ Tryz.func17 #[.agg #[.int .i64 ((zdH l0 x4_2).f0.f0), .int .i64 ((zdH l0 x4_2).f0.f1), .int .i64 ((zdH l0 x4_2).f0.f2), .int .i64 ((zdH l0 x4_2).f1.f0), .int .i64 ((zdH l0 x4_2).f1.f1), .int .i64 ((zdH l0 x4_2).f1.f2)]] ?_
          with_reducible refine (zzR.calls ((zdH l0 x4_2).f0.f0) ((zdH l0 x4_2).f0.f1) ((zdH l0 x4_2).f0.f2) ((zdH l0 x4_2).f1.f0) ((zdH l0 x4_2).f1.f1) ((zdH l0 x4_2).f1.f2) true _ A8.out).mono ?_
          rintro e w15 ⟨rfl, hb⟩; refine ⟨_, rfl, ?_⟩; replace HB := ns_ hb; (try clear hb); (try clear hb2); (try clear hk); (try clear hi); refine hK.out _ _ ⟨(zeA HB.out hw302_0), (zeA HB.out hw302_1), (zeA HB.out hw302_2), (zeA HB.out hw302_3), (zeA HB.out hw302_4), (zeA HB.out hw302_5), (zeA HB.out hw304_0), (zeA HB.out hw304_1), (zeA HB.out hw304_2), (zeA HB.out hw304_3), (zeA HB.out hw304_4), (zeA HB.out hw304_5), (zeA HB.out hw305_0), (zeA HB.out hw305_1), (zeA HB.out hw305_2), (zeA HB.out hw305_3), (zeA HB.out hw305_4), (zeA HB.out hw305_5)⟩ (fun hHeld => ?_)
          clear hK K; refine nm_ 27 ?_; refine pu_ 5 (some 28) (bl_ 21 63) ?_; refine pu_ 6 (some 29) (bl_ 21 127) ?_; refine pu_ 7 (some 30) (bl_ 21 255) ?_; refine pu_ 8 (some 31) (bl_ 21 511) ?_; refine pu_ 9 (some 32) (bl_ 21 1023) ?_; refine pu_ 10 (some 33) (bl_ 21 2047) ?_; refine pu_ 11 (some 34) (bl_ 21 4095) ?_; refine pu_ 13 (some 36) (bl_ 21 12287) ?_; refine pu_ 14 (some 37) (bl_ 21 28671) ?_; refine pu_ 15 (some 38) (bl_ 21 61439) ?_; refine tk18_ 12 (some 35) (bl_ 21 65535) hHeld ?_; refine tk18_ 16 (some 39) (bl_ 21 131071) hHeld ?_; refine zdC (i := 17) (N := some 40) (bl_ 21 262143) rfl rfl (zeO HT_.out (by kernel_rfl)) (by decide) (fun K hK => ?_); refine gs_ Tryz.func18 #[.agg #[.int .i64 ((zdH l0 0).f0.f0), .int .i64 ((zdH l0 0).f0.f1), .int .i64 ((zdH l0 0).f0.f2), .int .i64 ((zdH l0 0).f1.f0), .int .i64 ((zdH l0 0).f1.f1), .int .i64 ((zdH l0 0).f1.f2)], .agg #[.int .i64 ((zdH l0 x4_2).f0.f0), .int .i64 ((zdH l0 x4_2).f0.f1), .int .i64 ((zdH l0 x4_2).f0.f2), .int .i64 ((zdH l0 x4_2).f1.f0), .int .i64 ((zdH l0 x4_2).f1.f1), .int .i64 ((zdH l0 x4_2).f1.f2)]] ?_
          with_reducible refine (zwB.calls k2 ((zdH l0 0).f0.f0) ((zdH l0 0).f0.f1) ((zdH l0 0).f0.f2) ((zdH l0 0).f1.f0) ((zdH l0 0).f1.f1) ((zdH l0 0).f1.f2) ((zdH l0 x4_2).f0.f0) ((zdH l0 x4_2).f0.f1) ((zdH l0 x4_2).f0.f2) ((zdH l0 x4_2).f1.f0) ((zdH l0 x4_2).f1.f1) ((zdH l0 x4_2).f1.f2) t306 _ A12.out).mono ?_
          rintro e w16 ⟨rfl, hb⟩; refine ⟨_, rfl, ?_⟩; replace HB := ns_ hb; (try clear hb); (try clear hb2); (try clear hk); (try clear hi); refine hK.out _ _ ⟨(zeA HB.out hw302_0), (zeA HB.out hw302_1), (zeA HB.out hw302_2), (zeA HB.out hw302_3), (zeA HB.out hw302_4), (zeA HB.out hw302_5), (zeA HB.out hw304_0), (zeA HB.out hw304_1), (zeA HB.out hw304_2), (zeA HB.out hw304_3), (zeA HB.out hw304_4), (zeA HB.out hw304_5), (zeA HB.out hw305_0), (zeA HB.out hw305_1), (zeA HB.out hw305_2), (zeA HB.out hw305_3), (zeA HB.out hw305_4), (zeA HB.out hw305_5)⟩ (fun hHeld => ?_)
          clear hK K; refine nm_ 40 ?_; refine pu_ 18 (some 41) (bl_ 21 524287) ?_; refine pu_ 19 (some 42) (bl_ 21 1048575) ?_; refine pu_ 20 (some 43) (bl_ 21 2097151) ?_; refine znK (zzP HT_.out (by kernel_rfl)) ?_
          try go_wp2
          go_ret
          exact ⟨ex_, bb_⟩
         ·have c13b0 : decide (0 ≤ t306) = false := decide_eq_false c13
          clear c13; have H' := zpS H; clear H
          try go_wp2
          replace HB := bd_ HB; have p302 : 0 ≤ (x4_2 : Int) := dt_; have q302 : x4_2 < (l0.length : Int) := dt_; obtain ⟨ad302, e302, hx302_0, hx302_1, hx302_2, hx302_3, hx302_4, hx302_5⟩ := zuR HR0.out x4_2 p302 q302; have hw302_5 := hx302_5; have hw302_4 := hx302_4; have hw302_3 := hx302_3; have hw302_2 := hx302_2; have hw302_1 := hx302_1; have hw302_0 := hx302_0; cases e302; replace hx302_0 := zeA HB.out hx302_0; replace hx302_1 := zeA HB.out hx302_1; replace hx302_2 := zeA HB.out hx302_2; replace hx302_3 := zeA HB.out hx302_3; replace hx302_4 := zeA HB.out hx302_4; replace hx302_5 := zeA HB.out hx302_5; replace p302 := eq_true p302
          replace q302 := eq_true q302; have p304 : 0 ≤ (0 : Int) := (by omega); have q304 : 0 < (l0.length : Int) := dt_; obtain ⟨ad304, e304, hx304_0, hx304_1, hx304_2, hx304_3, hx304_4, hx304_5⟩ := zuR HR0.out 0 p304 q304; have hw304_5 := hx304_5
          (try rw [show ((0 : Int)).toNat = 0 from rfl] at hw304_5)
          (try rw [show 0 * 6 = 0 from rfl] at hw304_5)
          (try rw [Addr.add_zero'] at hw304_5)
          have hw304_4 := hx304_4
          (try rw [show ((0 : Int)).toNat = 0 from rfl] at hw304_4)
          (try rw [show 0 * 6 = 0 from rfl] at hw304_4)
          (try rw [Addr.add_zero'] at hw304_4)
          have hw304_3 := hx304_3
          (try rw [show ((0 : Int)).toNat = 0 from rfl] at hw304_3)
          (try rw [show 0 * 6 = 0 from rfl] at hw304_3)
          (try rw [Addr.add_zero'] at hw304_3)
          have hw304_2 := hx304_2
          (try rw [show ((0 : Int)).toNat = 0 from rfl] at hw304_2)
          (try rw [show 0 * 6 = 0 from rfl] at hw304_2)
          (try rw [Addr.add_zero'] at hw304_2)
          have hw304_1 := hx304_1
          (try rw [show ((0 : Int)).toNat = 0 from rfl] at hw304_1)
          (try rw [show 0 * 6 = 0 from rfl] at hw304_1)
          (try rw [Addr.add_zero'] at hw304_1)
          have hw304_0 := hx304_0
          (try rw [show ((0 : Int)).toNat = 0 from rfl] at hw304_0)
          (try rw [show 0 * 6 = 0 from rfl] at hw304_0)
          (try rw [Addr.add_zero'] at hw304_0)
          obtain rfl : ad302 = ad304 := (by injection e304); have qi304 : (0 < l0.length) = True := eq_true (by omega)
          (try rw [show ((0 : Int)).toNat = 0 from rfl] at hx304_0)
          (try rw [show 0 * 6 = 0 from rfl] at hx304_0)
          (try rw [Addr.add_zero'] at hx304_0)
          (try rw [show ((0 : Int)).toNat = 0 from rfl] at hx304_1)
          (try rw [show 0 * 6 = 0 from rfl] at hx304_1)
          (try rw [Addr.add_zero'] at hx304_1)
          (try rw [show ((0 : Int)).toNat = 0 from rfl] at hx304_2)
          (try rw [show 0 * 6 = 0 from rfl] at hx304_2)
          (try rw [Addr.add_zero'] at hx304_2)
          (try rw [show ((0 : Int)).toNat = 0 from rfl] at hx304_3)
          (try rw [show 0 * 6 = 0 from rfl] at hx304_3)
          (try rw [Addr.add_zero'] at hx304_3)
          (try rw [show ((0 : Int)).toNat = 0 from rfl] at hx304_4)
          (try rw [show 0 * 6 = 0 from rfl] at hx304_4)
          (try rw [Addr.add_zero'] at hx304_4)
          (try rw [show ((0 : Int)).toNat = 0 from rfl] at hx304_5)
          (try rw [show 0 * 6 = 0 from rfl] at hx304_5)
          (try rw [Addr.add_zero'] at hx304_5)
          replace hx304_0 := zeA HB.out hx304_0; replace hx304_1 := zeA HB.out hx304_1; replace hx304_2 := zeA HB.out hx304_2; replace hx304_3 := zeA HB.out hx304_3; replace hx304_4 := zeA HB.out hx304_4; replace hx304_5 := zeA HB.out hx304_5; replace p304 := eq_true p304; replace q304 := eq_true q304; have p305 : 0 ≤ (x4_2 : Int) := dt_; have q305 : x4_2 < (l0.length : Int) := dt_; obtain ⟨ad305, e305, hx305_0, hx305_1, hx305_2, hx305_3, hx305_4, hx305_5⟩ := zuR HR0.out x4_2 p305 q305; have hw305_5 := hx305_5; have hw305_4 := hx305_4; have hw305_3 := hx305_3; have hw305_2 := hx305_2; have hw305_1 := hx305_1; have hw305_0 := hx305_0
          obtain rfl : ad302 = ad305 := (by injection e305); replace hx305_0 := zeA HB.out hx305_0; replace hx305_1 := zeA HB.out hx305_1; replace hx305_2 := zeA HB.out hx305_2; replace hx305_3 := zeA HB.out hx305_3; replace hx305_4 := zeA HB.out hx305_4; replace hx305_5 := zeA HB.out hx305_5; replace p305 := eq_true p305; replace q305 := eq_true q305
          refine zpB (n := 21) (S := fun w' => w'.cell? (ad302.add ((x4_2).toNat * 6)) = some (.int .i64 ((zdH l0 x4_2).f0.f0)) ∧ w'.cell? ⟨(ad302.add ((x4_2).toNat * 6)).block, (ad302.add ((x4_2).toNat * 6)).off + 1, none⟩ = some (.int .i64 ((zdH l0 x4_2).f0.f1)) ∧ w'.cell? ⟨(ad302.add ((x4_2).toNat * 6)).block, (ad302.add ((x4_2).toNat * 6)).off + 2, none⟩ = some (.int .i64 ((zdH l0 x4_2).f0.f2)) ∧ w'.cell? ⟨(ad302.add ((x4_2).toNat * 6)).block, (ad302.add ((x4_2).toNat * 6)).off + 3, none⟩ = some (.int .i64 ((zdH l0 x4_2).f1.f0)) ∧ w'.cell? ⟨(ad302.add ((x4_2).toNat * 6)).block, (ad302.add ((x4_2).toNat * 6)).off + 4, none⟩ = some (.int .i64 ((zdH l0 x4_2).f1.f1)) ∧ w'.cell? ⟨(ad302.add ((x4_2).toNat * 6)).block, (ad302.add ((x4_2).toNat * 6)).off + 5, none⟩ = some (.int .i64 ((zdH l0 x4_2).f1.f2)) ∧ w'.cell? ad302 = some (.int .i64 ((zdH l0 0).f0.f0)) ∧ w'.cell? ⟨ad302.block, ad302.off + 1, none⟩ = some (.int .i64 ((zdH l0 0).f0.f1)) ∧ w'.cell? ⟨ad302.block, ad302.off + 2, none⟩ = some (.int .i64 ((zdH l0 0).f0.f2)) ∧ w'.cell? ⟨ad302.block, ad302.off + 3, none⟩ = some (.int .i64 ((zdH l0 0).f1.f0)) ∧ w'.cell? ⟨ad302.block, ad302.off + 4, none⟩ = some (.int .i64 ((zdH l0 0).f1.f1)) ∧ w'.cell? ⟨ad302.block, ad302.off + 5, none⟩ = some (.int .i64 ((zdH l0 0).f1.f2)) ∧ w'.cell? (ad302.add ((x4_2).toNat * 6)) = some (.int .i64 ((zdH l0 x4_2).f0.f0)) ∧ w'.cell? ⟨(ad302.add ((x4_2).toNat * 6)).block, (ad302.add ((x4_2).toNat * 6)).off + 1, none⟩ = some (.int .i64 ((zdH l0 x4_2).f0.f1)) ∧ w'.cell? ⟨(ad302.add ((x4_2).toNat * 6)).block, (ad302.add ((x4_2).toNat * 6)).off + 2, none⟩ = some (.int .i64 ((zdH l0 x4_2).f0.f2)) ∧ w'.cell? ⟨(ad302.add ((x4_2).toNat * 6)).block, (ad302.add ((x4_2).toNat * 6)).off + 3, none⟩ = some (.int .i64 ((zdH l0 x4_2).f1.f0)) ∧ w'.cell? ⟨(ad302.add ((x4_2).toNat * 6)).block, (ad302.add ((x4_2).toNat * 6)).off + 4, none⟩ = some (.int .i64 ((zdH l0 x4_2).f1.f1)) ∧ w'.cell? ⟨(ad302.add ((x4_2).toNat * 6)).block, (ad302.add ((x4_2).toNat * 6)).off + 5, none⟩ = some (.int .i64 ((zdH l0 x4_2).f1.f2))) (ds := []) #[false, false, false, false, false, false, false, false, false, false, false, false, false, false, false, false, false, false, false, false, false] (by kernel_rfl) rfl rfl ⟨(zeA HB.out hw302_0), (zeA HB.out hw302_1), (zeA HB.out hw302_2), (zeA HB.out hw302_3), (zeA HB.out hw302_4), (zeA HB.out hw302_5), (zeA HB.out hw304_0), (zeA HB.out hw304_1), (zeA HB.out hw304_2), (zeA HB.out hw304_3), (zeA HB.out hw304_4), (zeA HB.out hw304_5), (zeA HB.out hw305_0), (zeA HB.out hw305_1), (zeA HB.out hw305_2), (zeA HB.out hw305_3), (zeA HB.out hw305_4), (zeA HB.out hw305_5)⟩ (fun hHeld => ?_); refine zwI zhB.tab7 zhB.bits7 (fun HT_ HW_ => ?_)
          generalize wr.drew = w17 at HB hx302_0 hx302_1 hx302_2 hx302_3 hx302_4 hx302_5 hx304_0 hx304_1 hx304_2 hx304_3 hx304_4 hx304_5 hx305_0 hx305_1 hx305_2 hx305_3 hx305_4 hx305_5 hHeld ⊢; refine pu_ 0 (some 23) (bl_ 21 1) ?_; refine pu_ 1 (some 24) (bl_ 21 3) ?_; refine pu_ 2 (some 25) (bl_ 21 7) ?_; refine tk18_ 3 (some 26) (bl_ 21 15) hHeld ?_; refine zdC (i := 4) (N := some 27) (bl_ 21 31) rfl rfl (zeO HT_.out (by kernel_rfl)) (by decide) (fun K hK => ?_); refine gs_ Tryz.func17 #[.agg #[.int .i64 ((zdH l0 x4_2).f0.f0), .int .i64 ((zdH l0 x4_2).f0.f1), .int .i64 ((zdH l0 x4_2).f0.f2), .int .i64 ((zdH l0 x4_2).f1.f0), .int .i64 ((zdH l0 x4_2).f1.f1), .int .i64 ((zdH l0 x4_2).f1.f2)]] ?_
          with_reducible refine (zzR.calls ((zdH l0 x4_2).f0.f0) ((zdH l0 x4_2).f0.f1) ((zdH l0 x4_2).f0.f2) ((zdH l0 x4_2).f1.f0) ((zdH l0 x4_2).f1.f1) ((zdH l0 x4_2).f1.f2) true _ A8.out).mono ?_
          rintro e w18 ⟨rfl, hb⟩; refine ⟨_, rfl, ?_⟩; replace HB := ns_ hb; (try clear hb); (try clear hb2); (try clear hk); (try clear hi); refine hK.out _ _ ⟨(zeA HB.out hw302_0), (zeA HB.out hw302_1), (zeA HB.out hw302_2), (zeA HB.out hw302_3), (zeA HB.out hw302_4), (zeA HB.out hw302_5), (zeA HB.out hw304_0), (zeA HB.out hw304_1), (zeA HB.out hw304_2), (zeA HB.out hw304_3), (zeA HB.out hw304_4), (zeA HB.out hw304_5), (zeA HB.out hw305_0), (zeA HB.out hw305_1), (zeA HB.out hw305_2), (zeA HB.out hw305_3), (zeA HB.out hw305_4), (zeA HB.out hw305_5)⟩ (fun hHeld => ?_)
          clear hK K; refine nm_ 27 ?_; refine pu_ 5 (some 28) (bl_ 21 63) ?_; refine pu_ 6 (some 29) (bl_ 21 127) ?_; refine pu_ 7 (some 30) (bl_ 21 255) ?_; refine pu_ 8 (some 31) (bl_ 21 511) ?_; refine pu_ 9 (some 32) (bl_ 21 1023) ?_; refine pu_ 10 (some 33) (bl_ 21 2047) ?_; refine pu_ 11 (some 34) (bl_ 21 4095) ?_; refine pu_ 13 (some 36) (bl_ 21 12287) ?_; refine pu_ 14 (some 37) (bl_ 21 28671) ?_; refine pu_ 15 (some 38) (bl_ 21 61439) ?_; refine tk18_ 12 (some 35) (bl_ 21 65535) hHeld ?_; refine tk18_ 16 (some 39) (bl_ 21 131071) hHeld ?_; refine zdC (i := 17) (N := some 40) (bl_ 21 262143) rfl rfl (zeO HT_.out (by kernel_rfl)) (by decide) (fun K hK => ?_); refine gs_ Tryz.func18 #[.agg #[.int .i64 ((zdH l0 0).f0.f0), .int .i64 ((zdH l0 0).f0.f1), .int .i64 ((zdH l0 0).f0.f2), .int .i64 ((zdH l0 0).f1.f0), .int .i64 ((zdH l0 0).f1.f1), .int .i64 ((zdH l0 0).f1.f2)], .agg #[.int .i64 ((zdH l0 x4_2).f0.f0), .int .i64 ((zdH l0 x4_2).f0.f1), .int .i64 ((zdH l0 x4_2).f0.f2), .int .i64 ((zdH l0 x4_2).f1.f0), .int .i64 ((zdH l0 x4_2).f1.f1), .int .i64 ((zdH l0 x4_2).f1.f2)]] ?_
          with_reducible refine (zwB.calls k2 ((zdH l0 0).f0.f0) ((zdH l0 0).f0.f1) ((zdH l0 0).f0.f2) ((zdH l0 0).f1.f0) ((zdH l0 0).f1.f1) ((zdH l0 0).f1.f2) ((zdH l0 x4_2).f0.f0) ((zdH l0 x4_2).f0.f1) ((zdH l0 x4_2).f0.f2) ((zdH l0 x4_2).f1.f0) ((zdH l0 x4_2).f1.f1) ((zdH l0 x4_2).f1.f2) t306 _ A12.out).mono ?_
          rintro e w19 ⟨rfl, hb⟩; refine ⟨_, rfl, ?_⟩; replace HB := ns_ hb; (try clear hb); (try clear hb2); (try clear hk); (try clear hi); refine hK.out _ _ ⟨(zeA HB.out hw302_0), (zeA HB.out hw302_1), (zeA HB.out hw302_2), (zeA HB.out hw302_3), (zeA HB.out hw302_4), (zeA HB.out hw302_5), (zeA HB.out hw304_0), (zeA HB.out hw304_1), (zeA HB.out hw304_2), (zeA HB.out hw304_3), (zeA HB.out hw304_4), (zeA HB.out hw304_5), (zeA HB.out hw305_0), (zeA HB.out hw305_1), (zeA HB.out hw305_2), (zeA HB.out hw305_3), (zeA HB.out hw305_4), (zeA HB.out hw305_5)⟩ (fun hHeld => ?_)
          clear hK K; refine nm_ 40 ?_; refine pu_ 18 (some 41) (bl_ 21 524287) ?_; refine pu_ 19 (some 42) (bl_ 21 1048575) ?_; refine pu_ 20 (some 43) (bl_ 21 2097151) ?_; refine znK (zzP HT_.out (by kernel_rfl)) ?_
          try go_wp2
          go_roundg k2
          case measure => have := HJ1.out; have := HK2.out; omega
          case rel => exact ⟨(wrap64 (x4_2 + 1)), (ey_), H', ⟨by have := HJ1.out; have := HK2.out; omega⟩, ⟨bb_⟩⟩
        ·have c10b0 : decide (0 < x4_2) = false := decide_eq_false c10
         clear c10; have H' := zpS H; clear H
         try go_wp2
         replace HB := bd_ HB; have p302 : 0 ≤ (x4_2 : Int) := dt_; have q302 : x4_2 < (l0.length : Int) := dt_; obtain ⟨ad302, e302, hx302_0, hx302_1, hx302_2, hx302_3, hx302_4, hx302_5⟩ := zuR HR0.out x4_2 p302 q302; have hw302_5 := hx302_5; have hw302_4 := hx302_4; have hw302_3 := hx302_3; have hw302_2 := hx302_2; have hw302_1 := hx302_1; have hw302_0 := hx302_0; cases e302; replace hx302_0 := zeA HB.out hx302_0; replace hx302_1 := zeA HB.out hx302_1; replace hx302_2 := zeA HB.out hx302_2; replace hx302_3 := zeA HB.out hx302_3; replace hx302_4 := zeA HB.out hx302_4; replace hx302_5 := zeA HB.out hx302_5; replace p302 := eq_true p302
         replace q302 := eq_true q302
         refine zpB (n := 21) (S := fun w' => w'.cell? (ad302.add ((x4_2).toNat * 6)) = some (.int .i64 ((zdH l0 x4_2).f0.f0)) ∧ w'.cell? ⟨(ad302.add ((x4_2).toNat * 6)).block, (ad302.add ((x4_2).toNat * 6)).off + 1, none⟩ = some (.int .i64 ((zdH l0 x4_2).f0.f1)) ∧ w'.cell? ⟨(ad302.add ((x4_2).toNat * 6)).block, (ad302.add ((x4_2).toNat * 6)).off + 2, none⟩ = some (.int .i64 ((zdH l0 x4_2).f0.f2)) ∧ w'.cell? ⟨(ad302.add ((x4_2).toNat * 6)).block, (ad302.add ((x4_2).toNat * 6)).off + 3, none⟩ = some (.int .i64 ((zdH l0 x4_2).f1.f0)) ∧ w'.cell? ⟨(ad302.add ((x4_2).toNat * 6)).block, (ad302.add ((x4_2).toNat * 6)).off + 4, none⟩ = some (.int .i64 ((zdH l0 x4_2).f1.f1)) ∧ w'.cell? ⟨(ad302.add ((x4_2).toNat * 6)).block, (ad302.add ((x4_2).toNat * 6)).off + 5, none⟩ = some (.int .i64 ((zdH l0 x4_2).f1.f2))) (ds := []) #[false, false, false, false, false, false, false, false, false, false, false, false, false, false, false, false, false, false, false, false, false] (by kernel_rfl) rfl rfl ⟨(zeA HB.out hw302_0), (zeA HB.out hw302_1), (zeA HB.out hw302_2), (zeA HB.out hw302_3), (zeA HB.out hw302_4), (zeA HB.out hw302_5)⟩ (fun hHeld => ?_); refine zwI zhB.tab7 zhB.bits7 (fun HT_ HW_ => ?_)
         generalize wr.drew = w20 at HB hx302_0 hx302_1 hx302_2 hx302_3 hx302_4 hx302_5 hHeld ⊢; refine pu_ 0 (some 23) (bl_ 21 1) ?_; refine pu_ 1 (some 24) (bl_ 21 3) ?_; refine pu_ 2 (some 25) (bl_ 21 7) ?_; refine tk6_ 3 (some 26) (bl_ 21 15) hHeld ?_; refine zdC (i := 4) (N := some 27) (bl_ 21 31) rfl rfl (zeO HT_.out (by kernel_rfl)) (by decide) (fun K hK => ?_); refine gs_ Tryz.func17 #[.agg #[.int .i64 ((zdH l0 x4_2).f0.f0), .int .i64 ((zdH l0 x4_2).f0.f1), .int .i64 ((zdH l0 x4_2).f0.f2), .int .i64 ((zdH l0 x4_2).f1.f0), .int .i64 ((zdH l0 x4_2).f1.f1), .int .i64 ((zdH l0 x4_2).f1.f2)]] ?_
         with_reducible refine (zzR.calls ((zdH l0 x4_2).f0.f0) ((zdH l0 x4_2).f0.f1) ((zdH l0 x4_2).f0.f2) ((zdH l0 x4_2).f1.f0) ((zdH l0 x4_2).f1.f1) ((zdH l0 x4_2).f1.f2) true _ A8.out).mono ?_
         rintro e w21 ⟨rfl, hb⟩; refine ⟨_, rfl, ?_⟩; replace HB := ns_ hb; (try clear hb); (try clear hb2); (try clear hk); (try clear hi); refine hK.out _ _ ⟨(zeA HB.out hw302_0), (zeA HB.out hw302_1), (zeA HB.out hw302_2), (zeA HB.out hw302_3), (zeA HB.out hw302_4), (zeA HB.out hw302_5)⟩ (fun hHeld => ?_); clear hK K; refine nm_ 27 ?_; refine pu_ 5 (some 28) (bl_ 21 63) ?_; refine pu_ 6 (some 29) (bl_ 21 127) ?_; refine pu_ 7 (some 30) (bl_ 21 255) ?_; refine pu_ 8 (some 31) (bl_ 21 511) ?_; refine pu_ 9 (some 32) (bl_ 21 1023) ?_; refine pz_ 10 (some 33) (bl_ 21 2047) ?_; refine pz_ 11 (some 34) (bl_ 21 4095) ?_; refine pz_ 12 (some 35) (bl_ 21 8191) ?_
         refine pz_ 13 (some 36) (bl_ 21 16383) ?_; refine pz_ 14 (some 37) (bl_ 21 32767) ?_; refine pz_ 15 (some 38) (bl_ 21 65535) ?_; refine pz_ 16 (some 39) (bl_ 21 131071) ?_; refine pz_ 17 (some 40) (bl_ 21 262143) ?_; refine pz_ 18 (some 41) (bl_ 21 524287) ?_; refine pu_ 19 (some 42) (bl_ 21 1048575) ?_; refine pu_ 20 (some 43) (bl_ 21 2097151) ?_; refine znK (zzP HT_.out (by kernel_rfl)) ?_
         try go_wp2
         go_roundg k2
         case measure => have := HJ1.out; have := HK2.out; omega
         case rel => exact ⟨(wrap64 (x4_2 + 1)), (ey_), H', ⟨by have := HJ1.out; have := HK2.out; omega⟩, ⟨bb_⟩⟩
       ·obtain rfl := Option.some.inj H
        try go_wp2
        replace HB := bd_ HB; have p302 : 0 ≤ (x4_2 : Int) := dt_; have q302 : x4_2 < (l0.length : Int) := dt_; obtain ⟨ad302, e302, hx302_0, hx302_1, hx302_2, hx302_3, hx302_4, hx302_5⟩ := zuR HR0.out x4_2 p302 q302; have hw302_5 := hx302_5; have hw302_4 := hx302_4; have hw302_3 := hx302_3; have hw302_2 := hx302_2; have hw302_1 := hx302_1; have hw302_0 := hx302_0; cases e302; replace hx302_0 := zeA HB.out hx302_0; replace hx302_1 := zeA HB.out hx302_1; replace hx302_2 := zeA HB.out hx302_2; replace hx302_3 := zeA HB.out hx302_3; replace hx302_4 := zeA HB.out hx302_4; replace hx302_5 := zeA HB.out hx302_5; replace p302 := eq_true p302
        replace q302 := eq_true q302
        refine zpB (n := 21) (S := fun w' => w'.cell? (ad302.add ((x4_2).toNat * 6)) = some (.int .i64 ((zdH l0 x4_2).f0.f0)) ∧ w'.cell? ⟨(ad302.add ((x4_2).toNat * 6)).block, (ad302.add ((x4_2).toNat * 6)).off + 1, none⟩ = some (.int .i64 ((zdH l0 x4_2).f0.f1)) ∧ w'.cell? ⟨(ad302.add ((x4_2).toNat * 6)).block, (ad302.add ((x4_2).toNat * 6)).off + 2, none⟩ = some (.int .i64 ((zdH l0 x4_2).f0.f2)) ∧ w'.cell? ⟨(ad302.add ((x4_2).toNat * 6)).block, (ad302.add ((x4_2).toNat * 6)).off + 3, none⟩ = some (.int .i64 ((zdH l0 x4_2).f1.f0)) ∧ w'.cell? ⟨(ad302.add ((x4_2).toNat * 6)).block, (ad302.add ((x4_2).toNat * 6)).off + 4, none⟩ = some (.int .i64 ((zdH l0 x4_2).f1.f1)) ∧ w'.cell? ⟨(ad302.add ((x4_2).toNat * 6)).block, (ad302.add ((x4_2).toNat * 6)).off + 5, none⟩ = some (.int .i64 ((zdH l0 x4_2).f1.f2))) (ds := []) #[false, false, false, false, false, false, false, false, false, false, false, false, false, false, false, false, false, false, false, false, false] (by kernel_rfl) rfl rfl ⟨(zeA HB.out hw302_0), (zeA HB.out hw302_1), (zeA HB.out hw302_2), (zeA HB.out hw302_3), (zeA HB.out hw302_4), (zeA HB.out hw302_5)⟩ (fun hHeld => ?_); refine zwI zhB.tab7 zhB.bits7 (fun HT_ HW_ => ?_)
        generalize wr.drew = w22 at HB hx302_0 hx302_1 hx302_2 hx302_3 hx302_4 hx302_5 hHeld ⊢; refine pu_ 0 (some 23) (bl_ 21 1) ?_; refine pu_ 1 (some 24) (bl_ 21 3) ?_; refine pu_ 2 (some 25) (bl_ 21 7) ?_; refine tk6_ 3 (some 26) (bl_ 21 15) hHeld ?_; refine zdC (i := 4) (N := some 27) (bl_ 21 31) rfl rfl (zeO HT_.out (by kernel_rfl)) (by decide) (fun K hK => ?_); refine gs_ Tryz.func17 #[.agg #[.int .i64 ((zdH l0 x4_2).f0.f0), .int .i64 ((zdH l0 x4_2).f0.f1), .int .i64 ((zdH l0 x4_2).f0.f2), .int .i64 ((zdH l0 x4_2).f1.f0), .int .i64 ((zdH l0 x4_2).f1.f1), .int .i64 ((zdH l0 x4_2).f1.f2)]] ?_
        with_reducible refine (zzR.calls ((zdH l0 x4_2).f0.f0) ((zdH l0 x4_2).f0.f1) ((zdH l0 x4_2).f0.f2) ((zdH l0 x4_2).f1.f0) ((zdH l0 x4_2).f1.f1) ((zdH l0 x4_2).f1.f2) false _ A8.out).mono ?_
        rintro e w23 ⟨rfl, hb⟩; refine ⟨_, rfl, ?_⟩; replace HB := ns_ hb; (try clear hb); (try clear hb2); (try clear hk); (try clear hi); refine hK.out _ _ ⟨(zeA HB.out hw302_0), (zeA HB.out hw302_1), (zeA HB.out hw302_2), (zeA HB.out hw302_3), (zeA HB.out hw302_4), (zeA HB.out hw302_5)⟩ (fun hHeld => ?_); clear hK K; refine nm_ 27 ?_; refine pu_ 5 (some 28) (bl_ 21 63) ?_; refine pu_ 6 (some 29) (bl_ 21 127) ?_; refine pz_ 7 (some 30) (bl_ 21 255) ?_; refine pz_ 8 (some 31) (bl_ 21 511) ?_; refine pz_ 9 (some 32) (bl_ 21 1023) ?_; refine pz_ 10 (some 33) (bl_ 21 2047) ?_; refine pz_ 11 (some 34) (bl_ 21 4095) ?_; refine pz_ 12 (some 35) (bl_ 21 8191) ?_
        refine pz_ 13 (some 36) (bl_ 21 16383) ?_; refine pz_ 14 (some 37) (bl_ 21 32767) ?_; refine pz_ 15 (some 38) (bl_ 21 65535) ?_; refine pz_ 16 (some 39) (bl_ 21 131071) ?_; refine pz_ 17 (some 40) (bl_ 21 262143) ?_; refine pz_ 18 (some 41) (bl_ 21 524287) ?_; refine pz_ 19 (some 42) (bl_ 21 1048575) ?_; refine pu_ 20 (some 43) (bl_ 21 2097151) ?_; refine znK (zzP HT_.out (by kernel_rfl)) ?_
        try go_wp2
        go_ret
        exact ⟨ex_, bb_⟩
      ·have c5b0 := decide_eq_false c5
       clear c5; replace H := be_ H; obtain ⟨t307, A24, H⟩ := H; replace H := be_ H; obtain ⟨⟨t310, t311⟩, A25, H⟩ := H; dsimp only at H; replace H := ib_ H
       rcases H with ⟨rfl, H⟩ | ⟨rfl, H⟩
       ·have H' := zpS H
        clear H
        go_wp2_with (first | ((with_reducible refine zgK (f := 20) rfl ?_); refine gl_ (some 46) Tryz.func20 #[.slice A0 l0.length c0] ?_; (with_reducible refine (zsN.calls k2 _ _ l0 t307 _ ?side1 ?side2 A24.out).mono ?_); (case side1 => repeat (first | exact (Kd.C_below HR0.out HB.out) | (with_reducible refine Kd.C_alloc ?_ _) | (with_reducible refine Kd.C_drewN ?_ _) | (with_reducible refine Kd.C_drew ?_))); (case side2 => exact HC0.out); rintro e w27 ⟨v308, rfl, ho0, hb⟩; refine ⟨_, rfl, ?_⟩; have HO309 := zpS (Kd.R_lower ho0 (zuA bb_)); replace HB := ns_ hb; (try clear hb); (try clear hb2); (try clear ho0); obtain ⟨Ao28, co28, eo28⟩ := Kd.R_slice HO309.out; subst eo28) | ((with_reducible refine zgK (f := 19) rfl ?_); refine gl_ (some 47) Tryz.func19 #[.slice Ao28 t307.length co28] ?_; (with_reducible refine (zlQ.calls k2 _ _ t307 t310 true _ ?side1 ?side2 A25.out).mono ?_); (case side1 => repeat (first | exact (Kd.R_reads' HO309.out).2.2 | (with_reducible refine Kd.C_alloc ?_ _) | (with_reducible refine Kd.C_drewN ?_ _) | (with_reducible refine Kd.C_drew ?_))); (case side2 => exact (Kd.R_reads' HO309.out).2.1); rintro e w29 ⟨v312, rfl, ho0, hb⟩; refine ⟨_, rfl, ?_⟩; replace HO309 := zpS (Kd.R_below (by (with_reducible repeat (first | apply Kd.R_alloc | apply Kd.R_drewN | apply Kd.R_drew)); exact HO309.out) hb); have HO313 := zpS (Kd.R_lower ho0 (zuA bb_)); replace HB := ns_ hb; (try clear hb); (try clear hb2); (try clear ho0)))
        (try go_simp)
        go_loopg [7, 8] k2 (fun kq v7 v8 w' => ∃ (x7_3 : Int) (x8_3 : Int), v7 = .int .i64 x7_3 ∧ v8 = .int .i64 x8_3 ∧ Aside0 (zhB.l1 kq (l0.length : Int) t310 x7_3 x8_3 = some r) ∧ Aside0 (kq ≤ k2) ∧ Aside0 (Kd.R (Kd.int .i64) 2 w' w.heap.size (fun _ => True) v312 t310) ∧ Aside0 (Below w.heap.size w w'))
        case atStart => exact ⟨(0), (0), (ey_), (ey_), H', ⟨Nat.le_refl _⟩, ⟨by (with_reducible repeat (first | apply Kd.R_alloc | apply Kd.R_drewN | apply Kd.R_drew)); exact HO313.out⟩, ⟨bb_⟩⟩
        case round =>
         clear H'; (try clear c1); (try clear c2); (try clear p2); (try clear p3); (try clear q3); (try clear hx3); (try clear c5); (try clear c5b0); (try clear c6); (try clear p6); (try clear c7); (try clear c9); (try clear c10); (try clear c10b0); (try clear c11); (try clear c17); (try clear c18); (try clear c19); (try clear c20); (try clear c26); (try clear hx302_0); (try clear hx302_1); (try clear hx302_2); (try clear hx302_3); (try clear hx302_4); (try clear hx302_5); (try clear hx304_0); (try clear hx304_1); (try clear hx304_2); (try clear hx304_3); (try clear hx304_4); (try clear hx304_5); (try clear hx305_0); (try clear hx305_1); (try clear hx305_2); (try clear hx305_3); (try clear hx305_4); (try clear hx305_5); (try clear p302); (try clear p304); (try clear p305); (try clear q302); (try clear q304); (try clear q305); obtain ⟨x7_3, x8_3, rfl, rfl, HA, HK3, HO_5, HB⟩ := hrel
         cases gk with
         | zero => exact absurd HA.out (by simp [zhB.l1])
         | succ k3 =>
          have H := HA.out; clear HA; simp only [zhB.l1] at H; replace H := iq_ H
          rcases H with ⟨c30b0, H⟩ | ⟨c30b0, H⟩
          ·replace H := no_ H
           obtain ⟨c31, H⟩ := H; have c31b0 := bqf_ c31; have c31b1 := bnt_ c31
           have c31b2 : ¬ (l0 = []) := fun h_ => c31 (by rw [h_]; rfl)
           obtain ⟨ji32, hji32⟩ : ∃ j_ : Int, (Int.tmod (wrap64 (x8_3 + 1)) (l0.length : Int)) = j_ := ⟨_, rfl⟩
           replace H : (if 0 ≤ (ji32) then (if (ji32) < (t310.length : Int) then (if 0 ≤ x8_3 then (if x8_3 < (t310.length : Int) then ((ziC.f (wrap64 ((rd t310 (ji32)) - (rd t310 x8_3)))).bind fun t316 => ((ziE.f t316 1 7).bind fun t317 => (if t317 = true then (zhB.l1 k3 (l0.length : Int) t310 (wrap64 (x7_3 + t316)) (wrap64 (x8_3 + 1))) else (some false)))) else (none)) else (none)) else (none)) else (none)) = some r := by first | (rw [hji32] at H; exact H) | (simp only [hji32] at H ⊢; exact H)
           replace H := ie_ H; obtain ⟨c33b0, H⟩ := H; replace H := ie_ H; obtain ⟨c34b0, H⟩ := H; replace H := ie_ H; obtain ⟨c35b0, H⟩ := H; replace H := ie_ H; obtain ⟨c36b0, H⟩ := H; replace H := be_ H; obtain ⟨t316, A37, H⟩ := H; replace H := be_ H; obtain ⟨t317, A38, H⟩ := H; replace H := ib_ H
           rcases H with ⟨rfl, H⟩ | ⟨rfl, H⟩
           ·have H' := zpS H
            clear H
            try go_wp2
            replace HO_5 := zpS (Kd.R_drew HO_5.out); replace HB := bd_ HB; obtain ⟨Ao41, co41, eo41⟩ := Kd.R_slice HO_5.out
            (first | subst eo41 | (injection eo41 with f1_ f2_ f3_; have f4_ := f1_.symm; have f5_ := f3_.symm; clear f1_ f2_ f3_; subst f4_; subst f5_))
            have p314 : 0 ≤ ((ji32) : Int) := dt_; have q314 : (ji32) < (t310.length : Int) := dt_; obtain ⟨ad314, e314, hx314_0⟩ := Kd.at_int (Kd.R_reads' HO_5.out).2.2 (ji32) p314 q314; cases e314; replace p314 := eq_true p314; replace q314 := eq_true q314; have p315 : 0 ≤ (x8_3 : Int) := dt_; have q315 : x8_3 < (t310.length : Int) := dt_; obtain ⟨ad315, e315, hx315_0⟩ := Kd.at_int (Kd.R_reads' HO_5.out).2.2 x8_3 p315 q315; obtain rfl : ad314 = ad315 := (by injection e315); replace p315 := eq_true p315; replace q315 := eq_true q315
            refine zpB (n := 14) (S := fun w' => w'.cell? (ad314.add ((ji32)).toNat) = some (.int .i64 (rd t310 (ji32))) ∧ w'.cell? (ad314.add (x8_3).toNat) = some (.int .i64 (rd t310 x8_3))) (ds := []) #[false, false, false, false, false, false, false, false, false, false, false, false, false, false] (by kernel_rfl) rfl rfl ⟨hx314_0, hx315_0⟩ (fun hHeld => ?_); refine zwI zhB.tab16 zhB.bits16 (fun HT_ HW_ => ?_)
            generalize wr.drew = w40 at HO_5 HB hx314_0 hx315_0 hHeld ⊢; refine pu_ 0 (some 57) (bl_ 14 1) ?_; refine pu_ 1 (some 58) (bl_ 14 3) ?_; refine pu_ 2 (some 59) (bl_ 14 7) ?_; refine pu_ 3 (some 60) (bl_ 14 15) ?_; refine pu_ 4 (some 61) (bl_ 14 31) ?_; refine pu_ 5 (some 62) (bl_ 14 63) ?_; refine pu_ 7 (some 64) (bl_ 14 191) ?_; refine pu_ 8 (some 65) (bl_ 14 447) ?_; refine pu_ 9 (some 66) (bl_ 14 959) ?_; refine tk2_ 6 (some 63) (bl_ 14 1023) hHeld ?_; refine tk2_ 10 (some 67) (bl_ 14 2047) hHeld ?_; refine pu_ 11 (some 68) (bl_ 14 4095) ?_; refine zdC (i := 12) (N := some 69) (bl_ 14 8191) rfl rfl (zeO HT_.out (by kernel_rfl)) (by decide) (fun K hK => ?_)
            refine goes_ Tryz.func21 (by kernel_rfl) rfl #[.int .i64 (wrap64 ((rd t310 (ji32)) - (rd t310 x8_3)))] (by rfl) rfl rfl (by (try simp only [List.map_toArray, List.map_cons, List.map_nil]); first | done | (simp only [hji32]; rfl) | rfl | (simp only [List.length_drop, List.length_take]; rfl)) ?_
            with_reducible refine (ziC.calls (wrap64 ((rd t310 (ji32)) - (rd t310 x8_3))) t316 _ A37.out).mono ?_
            rintro e w' ⟨rfl, ⟨nd, rfl⟩⟩; refine ⟨_, rfl, ?_⟩; refine hK.out _ _ ⟨hHeld.1, hHeld.2⟩ (fun hHeld => ?_); clear hK K; refine nm_ 69 ?_; refine pu_ 13 (some 9) (bl_ 14 16383) ?_; refine znK (zzP HT_.out (by kernel_rfl)) ?_
            try go_wp2_with (first | ((with_reducible refine zgK (f := 22) rfl ?_); refine gl_ (some 71) Tryz.func22 #[.int .i64 t316, .int .i64 1, .int .i64 7] ?_; (with_reducible refine (ziE.calls t316 1 7 true _ A38.out).mono ?_); rintro e w' ⟨rfl, ⟨nd, rfl⟩⟩; refine ⟨_, rfl, ?_⟩))
            go_roundg k3
            case measure => have := HJ1.out; have := HK2.out; have := HK3.out; omega
            case rel => exact ⟨(wrap64 (x7_3 + t316)), (wrap64 (x8_3 + 1)), (ey_), (ey_), H', ⟨by have := HJ1.out; have := HK2.out; have := HK3.out; omega⟩, ⟨by (with_reducible repeat (first | apply Kd.R_alloc | apply Kd.R_drewN | apply Kd.R_drew)); exact HO_5.out⟩, ⟨bb_⟩⟩
           ·obtain rfl := Option.some.inj H
            try go_wp2
            replace HO_5 := zpS (Kd.R_drew HO_5.out); replace HB := bd_ HB; obtain ⟨Ao43, co43, eo43⟩ := Kd.R_slice HO_5.out
            (first | subst eo43 | (injection eo43 with f1_ f2_ f3_; have f4_ := f1_.symm; have f5_ := f3_.symm; clear f1_ f2_ f3_; subst f4_; subst f5_))
            have p314 : 0 ≤ ((ji32) : Int) := dt_; have q314 : (ji32) < (t310.length : Int) := dt_; obtain ⟨ad314, e314, hx314_0⟩ := Kd.at_int (Kd.R_reads' HO_5.out).2.2 (ji32) p314 q314; cases e314; replace p314 := eq_true p314; replace q314 := eq_true q314; have p315 : 0 ≤ (x8_3 : Int) := dt_; have q315 : x8_3 < (t310.length : Int) := dt_; obtain ⟨ad315, e315, hx315_0⟩ := Kd.at_int (Kd.R_reads' HO_5.out).2.2 x8_3 p315 q315; obtain rfl : ad314 = ad315 := (by injection e315); replace p315 := eq_true p315; replace q315 := eq_true q315
            refine zpB (n := 14) (S := fun w' => w'.cell? (ad314.add ((ji32)).toNat) = some (.int .i64 (rd t310 (ji32))) ∧ w'.cell? (ad314.add (x8_3).toNat) = some (.int .i64 (rd t310 x8_3))) (ds := []) #[false, false, false, false, false, false, false, false, false, false, false, false, false, false] (by kernel_rfl) rfl rfl ⟨hx314_0, hx315_0⟩ (fun hHeld => ?_); refine zwI zhB.tab16 zhB.bits16 (fun HT_ HW_ => ?_)
            generalize wr.drew = w42 at HO_5 HB hx314_0 hx315_0 hHeld ⊢; refine pu_ 0 (some 57) (bl_ 14 1) ?_; refine pu_ 1 (some 58) (bl_ 14 3) ?_; refine pu_ 2 (some 59) (bl_ 14 7) ?_; refine pu_ 3 (some 60) (bl_ 14 15) ?_; refine pu_ 4 (some 61) (bl_ 14 31) ?_; refine pu_ 5 (some 62) (bl_ 14 63) ?_; refine pu_ 7 (some 64) (bl_ 14 191) ?_; refine pu_ 8 (some 65) (bl_ 14 447) ?_; refine pu_ 9 (some 66) (bl_ 14 959) ?_; refine tk2_ 6 (some 63) (bl_ 14 1023) hHeld ?_; refine tk2_ 10 (some 67) (bl_ 14 2047) hHeld ?_; refine pu_ 11 (some 68) (bl_ 14 4095) ?_; refine zdC (i := 12) (N := some 69) (bl_ 14 8191) rfl rfl (zeO HT_.out (by kernel_rfl)) (by decide) (fun K hK => ?_)
            refine goes_ Tryz.func21 (by kernel_rfl) rfl #[.int .i64 (wrap64 ((rd t310 (ji32)) - (rd t310 x8_3)))] (by rfl) rfl rfl (by (try simp only [List.map_toArray, List.map_cons, List.map_nil]); first | done | (simp only [hji32]; rfl) | rfl | (simp only [List.length_drop, List.length_take]; rfl)) ?_
            with_reducible refine (ziC.calls (wrap64 ((rd t310 (ji32)) - (rd t310 x8_3))) t316 _ A37.out).mono ?_
            rintro e w' ⟨rfl, ⟨nd, rfl⟩⟩; refine ⟨_, rfl, ?_⟩; refine hK.out _ _ ⟨hHeld.1, hHeld.2⟩ (fun hHeld => ?_); clear hK K; refine nm_ 69 ?_; refine pu_ 13 (some 9) (bl_ 14 16383) ?_; refine znK (zzP HT_.out (by kernel_rfl)) ?_
            try go_wp2_with (first | ((with_reducible refine zgK (f := 22) rfl ?_); refine gl_ (some 71) Tryz.func22 #[.int .i64 t316, .int .i64 1, .int .i64 7] ?_; (with_reducible refine (ziE.calls t316 1 7 false _ A38.out).mono ?_); rintro e w' ⟨rfl, ⟨nd, rfl⟩⟩; refine ⟨_, rfl, ?_⟩))
            go_ret
            exact ⟨by first | rfl | (simp [ziS, znJ] <;> rfl) | (simp only [← hji32]; first | rfl | (simp [ziS, znJ] <;> rfl)) | (simp [*, ziS, znJ] <;> rfl), bb_⟩
          ·obtain rfl := Option.some.inj H
           go_wp2
           go_ret
           exact ⟨ex_, bb_⟩
       ·obtain rfl := Option.some.inj H
        go_wp2_with (first | ((with_reducible refine zgK (f := 20) rfl ?_); refine gl_ (some 46) Tryz.func20 #[.slice A0 l0.length c0] ?_; (with_reducible refine (zsN.calls k2 _ _ l0 t307 _ ?side1 ?side2 A24.out).mono ?_); (case side1 => repeat (first | exact (Kd.C_below HR0.out HB.out) | (with_reducible refine Kd.C_alloc ?_ _) | (with_reducible refine Kd.C_drewN ?_ _) | (with_reducible refine Kd.C_drew ?_))); (case side2 => exact HC0.out); rintro e w44 ⟨v308, rfl, ho0, hb⟩; refine ⟨_, rfl, ?_⟩; have HO309 := zpS (Kd.R_lower ho0 (zuA bb_)); replace HB := ns_ hb; (try clear hb); (try clear hb2); (try clear ho0); obtain ⟨Ao45, co45, eo45⟩ := Kd.R_slice HO309.out; subst eo45) | ((with_reducible refine zgK (f := 19) rfl ?_); refine gl_ (some 47) Tryz.func19 #[.slice Ao45 t307.length co45] ?_; (with_reducible refine (zlQ.calls k2 _ _ t307 t310 false _ ?side1 ?side2 A25.out).mono ?_); (case side1 => repeat (first | exact (Kd.R_reads' HO309.out).2.2 | (with_reducible refine Kd.C_alloc ?_ _) | (with_reducible refine Kd.C_drewN ?_ _) | (with_reducible refine Kd.C_drew ?_))); (case side2 => exact (Kd.R_reads' HO309.out).2.1); rintro e w46 ⟨v312, rfl, ho0, hb⟩; refine ⟨_, rfl, ?_⟩; replace HO309 := zpS (Kd.R_below (by (with_reducible repeat (first | apply Kd.R_alloc | apply Kd.R_drewN | apply Kd.R_drew)); exact HO309.out) hb); have HO313 := zpS (Kd.R_lower ho0 (zuA bb_)); replace HB := ns_ hb; (try clear hb); (try clear hb2); (try clear ho0)))
        go_ret
        exact ⟨ex_, bb_⟩

end Go.Proofs.YtehghobmmpihfaaGreatDoor.PFnExactReadPolygon
