-- Printed for this claim by this session's program pp.py, which drives the kit's print with additions. Not trusted: Lean checks it.
import Derived.Test.YtbnfbflfhpniaaaDoorV1PFnExactNormalPolygonx0
import Derived.Test.YtbnfbflfhpniaaaDoorV1PFnExactNormalPolygonx8
import Derived.Test.YtbnfbflfhpniaaaDoorV1PFnExactNormalPolygonx12
import Derived.Test.YtbnfbflfhpniaaaDoorV1PFnExactNormalPolygonx13
namespace Go.Proofs.YtbnfbflfhpniaaaDoor.PFnExactNormalPolygon
open Go.RowKit Go.Proofs.YtbnfbflfhpniaaaDoorW.PrintWords Go.Proofs.YtbnfbflfhpniaaaDoorW.PrintLast Go.Proofs.YtbnfbflfhpniaaaDoorW.PrintMore
attribute [local go_sem] zbB ziC zrC zhD znE zuB znH zkT   -- for this text's walks alone
set_option linter.unusedVariables false
set_option maxHeartbeats 8000000
set_option maxRecDepth 100000
set_option linter.unusedSimpArgs false

def zjY.l0 : Nat → List (S35) → Int → Int → Int → List (S35) → Int → Int → Option (Bool)
 | 0, _, _, _, _, _, _, _ => none
 | k + 1, x0, x3, x4, x5, x23, x24, x25 => if x25 < x24 then (if 0 ≤ x25 then (if x25 < (x23.length : Int) then (if x3 = 0 then (none) else (if 0 ≤ (Int.tmod (wrap64 (x25 + 1)) x3) then (if (Int.tmod (wrap64 (x25 + 1)) x3) < (x0.length : Int) then ((zxB.f k ((zmE x23 x25).f0.f0) ((zmE x23 x25).f0.f1) ((zmE x23 x25).f0.f2) ((zmE x23 x25).f1.f0) ((zmE x23 x25).f1.f1) ((zmE x23 x25).f1.f2) ((zmE x0 (Int.tmod (wrap64 (x25 + 1)) x3)).f0.f0) ((zmE x0 (Int.tmod (wrap64 (x25 + 1)) x3)).f0.f1) ((zmE x0 (Int.tmod (wrap64 (x25 + 1)) x3)).f0.f2) ((zmE x0 (Int.tmod (wrap64 (x25 + 1)) x3)).f1.f0) ((zmE x0 (Int.tmod (wrap64 (x25 + 1)) x3)).f1.f1) ((zmE x0 (Int.tmod (wrap64 (x25 + 1)) x3)).f1.f2)).bind fun t477 => ((zbC.f (wrap64 (t477 - x5))).bind fun t478 => (if t477 < 0 then (some false) else (if x5 < 0 then (some false) else ((zrP.f t478 1 7).bind fun t479 => (if t479 = true then (zjY.l0 k x0 x3 (wrap64 (x4 + t478)) t477 x23 x24 (wrap64 (x25 + 1))) else (some false))))))) else (none)) else (none))) else (none)) else (none)) else (some (x4 == 16))
def zjY.f (k : Nat) (l0 : List (S35)) : Option (Bool) := if (l0.length : Int) < 3 then (some false) else (if 0 ≤ (wrap64 ((l0.length : Int) - 1)) then (if (wrap64 ((l0.length : Int) - 1)) < (l0.length : Int) then (if 0 < (l0.length : Int) then ((zxB.f k ((zmE l0 (wrap64 ((l0.length : Int) - 1))).f0.f0) ((zmE l0 (wrap64 ((l0.length : Int) - 1))).f0.f1) ((zmE l0 (wrap64 ((l0.length : Int) - 1))).f0.f2) ((zmE l0 (wrap64 ((l0.length : Int) - 1))).f1.f0) ((zmE l0 (wrap64 ((l0.length : Int) - 1))).f1.f1) ((zmE l0 (wrap64 ((l0.length : Int) - 1))).f1.f2) ((zmE l0 0).f0.f0) ((zmE l0 0).f0.f1) ((zmE l0 0).f0.f2) ((zmE l0 0).f1.f0) ((zmE l0 0).f1.f1) ((zmE l0 0).f1.f2)).bind fun t473 => (zjY.l0 k l0 (l0.length : Int) 0 t473 l0 (l0.length : Int) 0)) else (none)) else (none)) else (none))
theorem zjY.mono_l : ∀ k, (∀ y0 y1 y2 y3 y4 y5 y6, LeO (zjY.l0 k y0 y1 y2 y3 y4 y5 y6) (zjY.l0 (k + 1) y0 y1 y2 y3 y4 y5 y6))
 | 0 => fun _ _ _ _ _ _ _ r h => by simp [zjY.l0] at h
 | k + 1 => by
  have ih0 := zjY.mono_l k
  ·intro y0 y1 y2 y3 y4 y5 y6
   unfold zjY.l0
   repeat' first
   | (with_reducible exact ih0 _ _ _ _ _ _ _)
   | (with_reducible exact zxB.mono _ _ _ _ _ _ _ _ _ _ _ _ _)
   | (with_reducible exact LeO.refl _)
   | (with_reducible exact LeO.none _)
   | (with_reducible refine LeO.ite ?_ ?_)
   | (with_reducible refine LeO.bind ?_ (fun _ => ?_))
   | exact ih0 _ _ _ _ _ _ _
   | exact zxB.mono _ _ _ _ _ _ _ _ _ _ _ _ _
   | exact LeO.none _
   | refine LeO.ite ?_ ?_
   | refine LeO.bind ?_ (fun _ => ?_)
theorem zjY.mono : ∀ a0 k, LeO (zjY.f k a0) (zjY.f (k + 1) a0) := by
 intro a0 k
 have ih0 := zjY.mono_l k
 unfold zjY.f
 repeat' first
   | (with_reducible exact ih0 _ _ _ _ _ _ _)
   | (with_reducible exact zxB.mono _ _ _ _ _ _ _ _ _ _ _ _ _)
   | (with_reducible exact LeO.refl _)
   | (with_reducible exact LeO.none _)
   | (with_reducible refine LeO.ite ?_ ?_)
   | (with_reducible refine LeO.bind ?_ (fun _ => ?_))
   | exact ih0 _ _ _ _ _ _ _
   | exact zxB.mono _ _ _ _ _ _ _ _ _ _ _ _ _
   | exact LeO.none _
   | refine LeO.ite ?_ ?_
   | refine LeO.bind ?_ (fun _ => ?_)
def zjY.T5 : Bool × List (List Nat × List Nat) := (true, [([], []), ([], []), ([1], [1]), ([0, 2], [0, 2]), ([3], [3]), ([], []), ([5], [5]), ([6], [6]), ([4, 7], [4, 7]), ([8, 8, 0, 1, 2, 3, 4, 5, 6, 7, 8], [8])])
def zjY.B5 : List Nat := [0, 0, 2, 7, 15, 0, 32, 96, 255, 511]
theorem zjY.tab5 : rtab .any (opsOf Tryd.f36 5) = zjY.T5 := by kernel_rfl
theorem zjY.bits5 : ztG zjY.T5.2 zjY.B5 = true := by kernel_rfl
def zjY.T9 : Bool × List (List Nat × List Nat) := (true, [([], []), ([], []), ([], []), ([2], [2]), ([], []), ([3, 4], [3, 4]), ([1, 5], [1, 5]), ([6], [6]), ([0, 7], [0, 7]), ([8, 8, 0, 1, 2, 3, 4, 5, 6, 7, 8], [8])])
def zjY.B9 : List Nat := [0, 0, 0, 4, 0, 28, 62, 126, 255, 511]
theorem zjY.tab9 : rtab .any (opsOf Tryd.f36 9) = zjY.T9 := by kernel_rfl
theorem zjY.bits9 : ztG zjY.T9.2 zjY.B9 = true := by kernel_rfl
theorem zjY.calls (k : Nat) (A0 : Option Addr) (c0 : Nat) (l0 : List (S35)) (r : Bool) (w : World) (hG : LaidV w) (hr0 : Kd.C k35 w A0 l0.length l0) (hc0 : l0.length ≤ c0) (h : zjY.f k l0 = some r) :
  Calls Tryd.prog 36 #[.slice A0 l0.length c0] w fun e w' => e = .returned (.bool r) ∧ Below w.heap.size w w' := by
 have hu35 := Tryd.underlying35
 have HR0 := zpS hr0
 have HC0 := zpS hc0
 clear hr0 hc0
 have HB := zpS (Below.refl w.heap.size w)
 have H : (if (l0.length : Int) < 3 then (some false) else (if 0 ≤ (wrap64 ((l0.length : Int) - 1)) then (if (wrap64 ((l0.length : Int) - 1)) < (l0.length : Int) then (if 0 < (l0.length : Int) then ((zxB.f k ((zmE l0 (wrap64 ((l0.length : Int) - 1))).f0.f0) ((zmE l0 (wrap64 ((l0.length : Int) - 1))).f0.f1) ((zmE l0 (wrap64 ((l0.length : Int) - 1))).f0.f2) ((zmE l0 (wrap64 ((l0.length : Int) - 1))).f1.f0) ((zmE l0 (wrap64 ((l0.length : Int) - 1))).f1.f1) ((zmE l0 (wrap64 ((l0.length : Int) - 1))).f1.f2) ((zmE l0 0).f0.f0) ((zmE l0 0).f0.f1) ((zmE l0 0).f0.f2) ((zmE l0 0).f1.f0) ((zmE l0 0).f1.f1) ((zmE l0 0).f1.f2)).bind fun t473 => (zjY.l0 k l0 (l0.length : Int) 0 t473 l0 (l0.length : Int) 0)) else (none)) else (none)) else (none))) = some r := h
 clear h
 by_cases c2 : (l0.length : Int) < 3
 ·rw [if_pos c2] at H
  have c2b0 : decide ((l0.length : Int) < 3) = true := decide_eq_true c2
  have c2b1 : decide (l0.length < 3) = true := decide_eq_true (by omega)
  clear c2
  obtain rfl := Option.some.inj H
  go_enter Tryd.func36, Tryd.ntmps36
  go_wp2
  go_ret
  exact ⟨by first | rfl | (simp [ziS, znJ] <;> rfl) | (simp [*, ziS, znJ] <;> rfl), bb_⟩
 ·rw [if_neg c2] at H
  have c2b0 : decide ((l0.length : Int) < 3) = false := decide_eq_false c2
  have c2b1 : decide (l0.length < 3) = false := decide_eq_false (by omega)
  clear c2
  obtain ⟨ji3, hji3⟩ : ∃ j_ : Int, (wrap64 ((l0.length : Int) - 1)) = j_ := ⟨_, rfl⟩
  replace H : (if 0 ≤ (ji3) then (if (ji3) < (l0.length : Int) then (if 0 < (l0.length : Int) then ((zxB.f k ((zmE l0 (ji3)).f0.f0) ((zmE l0 (ji3)).f0.f1) ((zmE l0 (ji3)).f0.f2) ((zmE l0 (ji3)).f1.f0) ((zmE l0 (ji3)).f1.f1) ((zmE l0 (ji3)).f1.f2) ((zmE l0 0).f0.f0) ((zmE l0 0).f0.f1) ((zmE l0 0).f0.f2) ((zmE l0 0).f1.f0) ((zmE l0 0).f1.f1) ((zmE l0 0).f1.f2)).bind fun t473 => (zjY.l0 k l0 (l0.length : Int) 0 t473 l0 (l0.length : Int) 0)) else (none)) else (none)) else (none)) = some r := by first | (rw [hji3] at H; exact H) | (simp only [hji3] at H ⊢; exact H)
  have hji3w : (IntKind.i64.wrap ((l0.length : Int) - 1)) = ji3 := (zcM _).trans hji3
  by_cases c4 : 0 ≤ (ji3)
  ·rw [if_pos c4] at H
   have c4b0 : decide (0 ≤ (ji3)) = true := decide_eq_true c4
   clear c4
   by_cases c5 : (ji3) < (l0.length : Int)
   ·rw [if_pos c5] at H
    have c5b0 : decide ((ji3) < (l0.length : Int)) = true := decide_eq_true c5
    clear c5
    by_cases c6 : 0 < (l0.length : Int)
    ·rw [if_pos c6] at H
     have c6b0 : decide (0 < (l0.length : Int)) = true := decide_eq_true c6
     have c6b1 : decide (0 < l0.length) = true := decide_eq_true (by omega)
     clear c6
     replace H := Option.bind_eq_some_iff.mp H
     obtain ⟨t473, A70, H⟩ := H
     replace H : (zjY.l0 k l0 (l0.length : Int) 0 t473 l0 (l0.length : Int) 0) = some r := H
     have A7 := zpS A70
     clear A70
     have H' := zpS H
     clear H
     go_enter Tryd.func36, Tryd.ntmps36
     try go_wp2
     have n0_ := zpS (zvF HB.out)
     clear HB
     have HB := n0_
     clear n0_
     have p471 : 0 ≤ ((ji3) : Int) := dt_
     have q471 : (ji3) < (l0.length : Int) := dt_
     obtain ⟨ad471, e471, hx471_0, hx471_1, hx471_2, hx471_3, hx471_4, hx471_5⟩ := zcN HR0.out (ji3) p471 q471
     have hw471_5 := hx471_5
     have hw471_4 := hx471_4
     have hw471_3 := hx471_3
     have hw471_2 := hx471_2
     have hw471_1 := hx471_1
     have hw471_0 := hx471_0
     cases e471
     replace hx471_0 := zeA HB.out hx471_0
     replace hx471_1 := zeA HB.out hx471_1
     replace hx471_2 := zeA HB.out hx471_2
     replace hx471_3 := zeA HB.out hx471_3
     replace hx471_4 := zeA HB.out hx471_4
     replace hx471_5 := zeA HB.out hx471_5
     replace p471 := eq_true p471
     replace q471 := eq_true q471
     have p472 : 0 ≤ (0 : Int) := (by omega)
     have q472 : 0 < (l0.length : Int) := dt_
     obtain ⟨ad472, e472, hx472_0, hx472_1, hx472_2, hx472_3, hx472_4, hx472_5⟩ := zcN HR0.out 0 p472 q472
     have hw472_5 := hx472_5
     (try rw [show ((0 : Int)).toNat = 0 from rfl] at hw472_5)
     (try rw [show 0 * 6 = 0 from rfl] at hw472_5)
     (try rw [Addr.add_zero'] at hw472_5)
     have hw472_4 := hx472_4
     (try rw [show ((0 : Int)).toNat = 0 from rfl] at hw472_4)
     (try rw [show 0 * 6 = 0 from rfl] at hw472_4)
     (try rw [Addr.add_zero'] at hw472_4)
     have hw472_3 := hx472_3
     (try rw [show ((0 : Int)).toNat = 0 from rfl] at hw472_3)
     (try rw [show 0 * 6 = 0 from rfl] at hw472_3)
     (try rw [Addr.add_zero'] at hw472_3)
     have hw472_2 := hx472_2
     (try rw [show ((0 : Int)).toNat = 0 from rfl] at hw472_2)
     (try rw [show 0 * 6 = 0 from rfl] at hw472_2)
     (try rw [Addr.add_zero'] at hw472_2)
     have hw472_1 := hx472_1
     (try rw [show ((0 : Int)).toNat = 0 from rfl] at hw472_1)
     (try rw [show 0 * 6 = 0 from rfl] at hw472_1)
     (try rw [Addr.add_zero'] at hw472_1)
     have hw472_0 := hx472_0
     (try rw [show ((0 : Int)).toNat = 0 from rfl] at hw472_0)
     (try rw [show 0 * 6 = 0 from rfl] at hw472_0)
     (try rw [Addr.add_zero'] at hw472_0)
     obtain rfl : ad471 = ad472 := (by injection e472)
     have qi472 : (0 < l0.length) = True := eq_true (by omega)
     (try rw [show ((0 : Int)).toNat = 0 from rfl] at hx472_0)
     (try rw [show 0 * 6 = 0 from rfl] at hx472_0)
     (try rw [Addr.add_zero'] at hx472_0)
     (try rw [show ((0 : Int)).toNat = 0 from rfl] at hx472_1)
     (try rw [show 0 * 6 = 0 from rfl] at hx472_1)
     (try rw [Addr.add_zero'] at hx472_1)
     (try rw [show ((0 : Int)).toNat = 0 from rfl] at hx472_2)
     (try rw [show 0 * 6 = 0 from rfl] at hx472_2)
     (try rw [Addr.add_zero'] at hx472_2)
     (try rw [show ((0 : Int)).toNat = 0 from rfl] at hx472_3)
     (try rw [show 0 * 6 = 0 from rfl] at hx472_3)
     (try rw [Addr.add_zero'] at hx472_3)
     (try rw [show ((0 : Int)).toNat = 0 from rfl] at hx472_4)
     (try rw [show 0 * 6 = 0 from rfl] at hx472_4)
     (try rw [Addr.add_zero'] at hx472_4)
     (try rw [show ((0 : Int)).toNat = 0 from rfl] at hx472_5)
     (try rw [show 0 * 6 = 0 from rfl] at hx472_5)
     (try rw [Addr.add_zero'] at hx472_5)
     replace hx472_0 := zeA HB.out hx472_0
     replace hx472_1 := zeA HB.out hx472_1
     replace hx472_2 := zeA HB.out hx472_2
     replace hx472_3 := zeA HB.out hx472_3
     replace hx472_4 := zeA HB.out hx472_4
     replace hx472_5 := zeA HB.out hx472_5
     replace p472 := eq_true p472
     replace q472 := eq_true q472
     refine zpB (n := 10) (S := fun w' => w'.cell? (ad471.add (((ji3)).toNat * 6)) = some (.int .i64 ((zmE l0 (ji3)).f0.f0)) ∧ w'.cell? ⟨(ad471.add (((ji3)).toNat * 6)).block, (ad471.add (((ji3)).toNat * 6)).off + 1, none⟩ = some (.int .i64 ((zmE l0 (ji3)).f0.f1)) ∧ w'.cell? ⟨(ad471.add (((ji3)).toNat * 6)).block, (ad471.add (((ji3)).toNat * 6)).off + 2, none⟩ = some (.int .i64 ((zmE l0 (ji3)).f0.f2)) ∧ w'.cell? ⟨(ad471.add (((ji3)).toNat * 6)).block, (ad471.add (((ji3)).toNat * 6)).off + 3, none⟩ = some (.int .i64 ((zmE l0 (ji3)).f1.f0)) ∧ w'.cell? ⟨(ad471.add (((ji3)).toNat * 6)).block, (ad471.add (((ji3)).toNat * 6)).off + 4, none⟩ = some (.int .i64 ((zmE l0 (ji3)).f1.f1)) ∧ w'.cell? ⟨(ad471.add (((ji3)).toNat * 6)).block, (ad471.add (((ji3)).toNat * 6)).off + 5, none⟩ = some (.int .i64 ((zmE l0 (ji3)).f1.f2)) ∧ w'.cell? ad471 = some (.int .i64 ((zmE l0 0).f0.f0)) ∧ w'.cell? ⟨ad471.block, ad471.off + 1, none⟩ = some (.int .i64 ((zmE l0 0).f0.f1)) ∧ w'.cell? ⟨ad471.block, ad471.off + 2, none⟩ = some (.int .i64 ((zmE l0 0).f0.f2)) ∧ w'.cell? ⟨ad471.block, ad471.off + 3, none⟩ = some (.int .i64 ((zmE l0 0).f1.f0)) ∧ w'.cell? ⟨ad471.block, ad471.off + 4, none⟩ = some (.int .i64 ((zmE l0 0).f1.f1)) ∧ w'.cell? ⟨ad471.block, ad471.off + 5, none⟩ = some (.int .i64 ((zmE l0 0).f1.f2))) (ds := []) #[false, false, false, false, false, false, false, false, false, false] (by kernel_rfl) rfl rfl ⟨(zeA HB.out hw471_0), (zeA HB.out hw471_1), (zeA HB.out hw471_2), (zeA HB.out hw471_3), (zeA HB.out hw471_4), (zeA HB.out hw471_5), (zeA HB.out hw472_0), (zeA HB.out hw472_1), (zeA HB.out hw472_2), (zeA HB.out hw472_3), (zeA HB.out hw472_4), (zeA HB.out hw472_5)⟩ (fun hHeld => ?_); refine zwI zjY.tab5 zjY.bits5 (fun HT_ HW_ => ?_)
     generalize w.drew = w8 at HB hx471_0 hx471_1 hx471_2 hx471_3 hx471_4 hx471_5 hx472_0 hx472_1 hx472_2 hx472_3 hx472_4 hx472_5 hHeld ⊢
     refine pu_ 0 (some 14) (bl_ 10 1) ?_
     refine pu_ 1 (some 15) (bl_ 10 3) ?_
     refine pu_ 2 (some 16) (bl_ 10 7) ?_
     refine pu_ 3 (some 17) (bl_ 10 15) ?_
     refine pu_ 5 (some 19) (bl_ 10 47) ?_
     refine pu_ 6 (some 20) (bl_ 10 111) ?_
     refine zmW 4 (some 18) (bl_ 10 127) hHeld ?_
     refine zmW 7 (some 21) (bl_ 10 255) hHeld ?_
     refine zdC (i := 8) (N := some 22) (bl_ 10 511) rfl rfl (zeO HT_.out (by kernel_rfl)) (by decide) (fun K hK => ?_)
     refine zqW Tryd.func46 (by kernel_rfl) rfl #[.agg #[.int .i64 ((zmE l0 (ji3)).f0.f0), .int .i64 ((zmE l0 (ji3)).f0.f1), .int .i64 ((zmE l0 (ji3)).f0.f2), .int .i64 ((zmE l0 (ji3)).f1.f0), .int .i64 ((zmE l0 (ji3)).f1.f1), .int .i64 ((zmE l0 (ji3)).f1.f2)], .agg #[.int .i64 ((zmE l0 0).f0.f0), .int .i64 ((zmE l0 0).f0.f1), .int .i64 ((zmE l0 0).f0.f2), .int .i64 ((zmE l0 0).f1.f0), .int .i64 ((zmE l0 0).f1.f1), .int .i64 ((zmE l0 0).f1.f2)]] (by rfl) rfl rfl (by (try simp only [List.map_toArray, List.map_cons, List.map_nil]); first | done | (simp only [hji3]; rfl) | rfl | (simp only [List.length_drop, List.length_take]; rfl)) ?_
     with_reducible refine (zxB.calls k ((zmE l0 (ji3)).f0.f0) ((zmE l0 (ji3)).f0.f1) ((zmE l0 (ji3)).f0.f2) ((zmE l0 (ji3)).f1.f0) ((zmE l0 (ji3)).f1.f1) ((zmE l0 (ji3)).f1.f2) ((zmE l0 0).f0.f0) ((zmE l0 0).f0.f1) ((zmE l0 0).f0.f2) ((zmE l0 0).f1.f0) ((zmE l0 0).f1.f1) ((zmE l0 0).f1.f2) t473 _ ?side1 A7.out).mono ?_
     (case side1 => exact LaidV.below hG bb_)
     rintro e w9 ⟨rfl, hb⟩
     refine ⟨_, rfl, ?_⟩
     have n0_ := (ns_ hb)
     clear HB
     have HB := n0_
     clear n0_
     (try clear hb)
     (try clear hb2)
     (try clear hk)
     (try clear hi)
     refine hK.out _ _ ⟨(zeA HB.out hw471_0), (zeA HB.out hw471_1), (zeA HB.out hw471_2), (zeA HB.out hw471_3), (zeA HB.out hw471_4), (zeA HB.out hw471_5), (zeA HB.out hw472_0), (zeA HB.out hw472_1), (zeA HB.out hw472_2), (zeA HB.out hw472_3), (zeA HB.out hw472_4), (zeA HB.out hw472_5)⟩ (fun hHeld => ?_)
     clear hK K
     refine zaN (a' := ?_) ?_ ?_
     rotate_left
     ·show Act.put _ (some 22) _ = _
      simp only [Act.put, List.setIfInBounds_toArray, List.set_cons_zero, List.set_cons_succ, zcM, ziK]
      rfl
     refine pu_ 9 (some 5) (bl_ 10 1023) ?_
     refine znK (zzP HT_.out (by kernel_rfl)) ?_
     try go_wp2
     (try go_simp)
     go_loopg [4, 5, 25] k (fun kq v4 v5 v25 w' => ∃ (x4_1 : Int) (x5_1 : Int) (x25_1 : Int), v4 = .int .i64 x4_1 ∧ v5 = .int .i64 x5_1 ∧ v25 = .int .i64 x25_1 ∧ Aside0 (zjY.l0 kq l0 (l0.length : Int) x4_1 x5_1 l0 (l0.length : Int) x25_1 = some r) ∧ Aside0 (kq ≤ k) ∧ Aside0 (Below w.heap.size w w'))
     case atStart => exact ⟨(0), (t473), (0), (by first | rfl | (simp; done) | (simp [*]; done)), (by first | rfl | (simp; done) | (simp [*]; done)), (by first | rfl | (simp; done) | (simp [*]; done)), H', ⟨Nat.le_refl _⟩, ⟨bb_⟩⟩
     case round =>
      clear H'
      try clear c2
      try clear c2b0
      try clear c2b1
      try clear p2
      try clear c3
      try clear c4
      try clear c4b0
      try clear p4
      try clear q4
      try clear hx4
      try clear qi4
      try clear c5
      try clear c5b0
      try clear c6
      try clear c6b0
      try clear c6b1
      try clear p6
      try clear hx471_0
      try clear hx471_1
      try clear hx471_2
      try clear hx471_3
      try clear hx471_4
      try clear hx471_5
      try clear hx472_0
      try clear hx472_1
      try clear hx472_2
      try clear hx472_3
      try clear hx472_4
      try clear hx472_5
      try clear p471
      try clear p472
      try clear q471
      try clear q472
      obtain ⟨x4_1, x5_1, x25_1, rfl, rfl, rfl, HA, HK1, HB⟩ := hrel
      cases gk with
      | zero => exact absurd HA.out (by simp [zjY.l0])
      | succ k1 =>
       have H := HA.out
       clear HA
       simp only [zjY.l0] at H
       by_cases c10 : x25_1 < (l0.length : Int)
       ·rw [if_pos c10] at H
        have c10b0 : decide (x25_1 < (l0.length : Int)) = true := decide_eq_true c10
        clear c10
        by_cases c11 : 0 ≤ x25_1
        ·rw [if_pos c11] at H
         have c11b0 : decide (0 ≤ x25_1) = true := decide_eq_true c11
         clear c11
         by_cases c12 : x25_1 < (l0.length : Int)
         ·rw [if_pos c12] at H
          have c12b0 : decide (x25_1 < (l0.length : Int)) = true := decide_eq_true c12
          clear c12
          by_cases c13 : (l0.length : Int) = 0
          ·rw [if_pos c13] at H
           exact absurd H (by simp)
          ·rw [if_neg c13] at H
           have c13b0 : ((l0.length : Int) == 0) = false := beq_eq_false_iff_ne.mpr c13
           have c13b1 : ((l0.length : Int) != 0) = true := bne_iff_ne.mpr c13
           have c13b2 : ¬ (l0 = []) := fun h_ => c13 (by rw [h_]; rfl)
           obtain ⟨ji14, hji14⟩ : ∃ j_ : Int, (Int.tmod (wrap64 (x25_1 + 1)) (l0.length : Int)) = j_ := ⟨_, rfl⟩
           replace H : (if 0 ≤ (ji14) then (if (ji14) < (l0.length : Int) then ((zxB.f k1 ((zmE l0 x25_1).f0.f0) ((zmE l0 x25_1).f0.f1) ((zmE l0 x25_1).f0.f2) ((zmE l0 x25_1).f1.f0) ((zmE l0 x25_1).f1.f1) ((zmE l0 x25_1).f1.f2) ((zmE l0 (ji14)).f0.f0) ((zmE l0 (ji14)).f0.f1) ((zmE l0 (ji14)).f0.f2) ((zmE l0 (ji14)).f1.f0) ((zmE l0 (ji14)).f1.f1) ((zmE l0 (ji14)).f1.f2)).bind fun t477 => ((zbC.f (wrap64 (t477 - x5_1))).bind fun t478 => (if t477 < 0 then (some false) else (if x5_1 < 0 then (some false) else ((zrP.f t478 1 7).bind fun t479 => (if t479 = true then (zjY.l0 k1 l0 (l0.length : Int) (wrap64 (x4_1 + t478)) t477 l0 (l0.length : Int) (wrap64 (x25_1 + 1))) else (some false))))))) else (none)) else (none)) = some r := by first | (rw [hji14] at H; exact H) | (simp only [hji14] at H ⊢; exact H)
           by_cases c15 : 0 ≤ (ji14)
           ·rw [if_pos c15] at H
            have c15b0 : decide (0 ≤ (ji14)) = true := decide_eq_true c15
            clear c15
            by_cases c16 : (ji14) < (l0.length : Int)
            ·rw [if_pos c16] at H
             have c16b0 : decide ((ji14) < (l0.length : Int)) = true := decide_eq_true c16
             clear c16
             replace H := Option.bind_eq_some_iff.mp H
             obtain ⟨t477, A170, H⟩ := H
             replace H : ((zbC.f (wrap64 (t477 - x5_1))).bind fun t478 => (if t477 < 0 then (some false) else (if x5_1 < 0 then (some false) else ((zrP.f t478 1 7).bind fun t479 => (if t479 = true then (zjY.l0 k1 l0 (l0.length : Int) (wrap64 (x4_1 + t478)) t477 l0 (l0.length : Int) (wrap64 (x25_1 + 1))) else (some false)))))) = some r := H
             have A17 := zpS A170
             clear A170
             replace H := Option.bind_eq_some_iff.mp H
             obtain ⟨t478, A180, H⟩ := H
             replace H : (if t477 < 0 then (some false) else (if x5_1 < 0 then (some false) else ((zrP.f t478 1 7).bind fun t479 => (if t479 = true then (zjY.l0 k1 l0 (l0.length : Int) (wrap64 (x4_1 + t478)) t477 l0 (l0.length : Int) (wrap64 (x25_1 + 1))) else (some false))))) = some r := H
             have A18 := zpS A180
             clear A180
             by_cases c19 : t477 < 0
             ·rw [if_pos c19] at H
              have c19b0 : decide (t477 < 0) = true := decide_eq_true c19
              clear c19
              obtain rfl := Option.some.inj H
              have p474 : 0 ≤ (x25_1 : Int) := dt_
              have q474 : x25_1 < (l0.length : Int) := dt_
              obtain ⟨ad474, e474, hx474_0, hx474_1, hx474_2, hx474_3, hx474_4, hx474_5⟩ := zcN HR0.out x25_1 p474 q474
              obtain rfl : ad471 = ad474 := (by injection e474)
              replace hx474_0 := zeA HB.out hx474_0
              replace hx474_1 := zeA HB.out hx474_1
              replace hx474_2 := zeA HB.out hx474_2
              replace hx474_3 := zeA HB.out hx474_3
              replace hx474_4 := zeA HB.out hx474_4
              replace hx474_5 := zeA HB.out hx474_5
              replace p474 := eq_true p474
              replace q474 := eq_true q474
              try go_wp2_with (first | ((with_reducible refine zpZ (N := 7) rfl ?_); refine bx_ 7 #[.int .i64 0, .int .i64 0, .int .i64 0, .int .i64 0, .int .i64 0, .int .i64 0] 35 ?_; intro gb475 hg w20 hbox hb; have n0_ := (ns_ hb); have n1_ := zpS (hbox); have n2_ := (ng_ hg); have n3_ := n2_; clear HB; have HB := n0_; have BK475 := n1_; have GW475 := n2_; have GE475 := n3_; clear n0_ n1_ n2_ n3_; clear hb hbox hg; obtain ⟨hcz21_0, hcz21_1, hcz21_2, hcz21_3, hcz21_4, hcz21_5⟩ := zrN BK475.out; obtain ⟨hfz21_0, hfz21_1, hfz21_2, hfz21_3, hfz21_4, hfz21_5⟩ := zoO BK475.out))
              have n0_ : Aside0 (((((((w20.setCell ⟨gb475, 0, none⟩ (.int .i64 ((zmE l0 x25_1).f0.f0))).setCell ⟨gb475, 1, none⟩ (.int .i64 ((zmE l0 x25_1).f0.f1))).setCell ⟨gb475, 2, none⟩ (.int .i64 ((zmE l0 x25_1).f0.f2))).setCell ⟨gb475, 3, none⟩ (.int .i64 ((zmE l0 x25_1).f1.f0))).setCell ⟨gb475, 4, none⟩ (.int .i64 ((zmE l0 x25_1).f1.f1))).setCell ⟨gb475, 5, none⟩ (.int .i64 ((zmE l0 x25_1).f1.f2))).heap[gb475]? = some (.cells #[.int .i64 ((zmE l0 x25_1).f0.f0), .int .i64 ((zmE l0 x25_1).f0.f1), .int .i64 ((zmE l0 x25_1).f0.f2), .int .i64 ((zmE l0 x25_1).f1.f0), .int .i64 ((zmE l0 x25_1).f1.f1), .int .i64 ((zmE l0 x25_1).f1.f2)] 35 (0, 0))) := ⟨by (with_reducible repeat (first | apply zuW | apply ztN | apply zqY)); refine zlL (cs := #[.int .i64 ((zmE l0 x25_1).f0.f0), .int .i64 ((zmE l0 x25_1).f0.f1), .int .i64 ((zmE l0 x25_1).f0.f2), .int .i64 ((zmE l0 x25_1).f1.f0), .int .i64 ((zmE l0 x25_1).f1.f1), .int .i64 0]) ?_ 5 _ rfl; (with_reducible repeat (first | apply zuW | apply ztN | apply zqY)); refine zlL (cs := #[.int .i64 ((zmE l0 x25_1).f0.f0), .int .i64 ((zmE l0 x25_1).f0.f1), .int .i64 ((zmE l0 x25_1).f0.f2), .int .i64 ((zmE l0 x25_1).f1.f0), .int .i64 0, .int .i64 0]) ?_ 4 _ rfl; (with_reducible repeat (first | apply zuW | apply ztN | apply zqY)); refine zlL (cs := #[.int .i64 ((zmE l0 x25_1).f0.f0), .int .i64 ((zmE l0 x25_1).f0.f1), .int .i64 ((zmE l0 x25_1).f0.f2), .int .i64 0, .int .i64 0, .int .i64 0]) ?_ 3 _ rfl; (with_reducible repeat (first | apply zuW | apply ztN | apply zqY)); refine zlL (cs := #[.int .i64 ((zmE l0 x25_1).f0.f0), .int .i64 ((zmE l0 x25_1).f0.f1), .int .i64 0, .int .i64 0, .int .i64 0, .int .i64 0]) ?_ 2 _ rfl; (with_reducible repeat (first | apply zuW | apply ztN | apply zqY)); refine zlL (cs := #[.int .i64 ((zmE l0 x25_1).f0.f0), .int .i64 0, .int .i64 0, .int .i64 0, .int .i64 0, .int .i64 0]) ?_ 1 _ rfl; (with_reducible repeat (first | apply zuW | apply ztN | apply zqY)); refine zlL (cs := #[.int .i64 0, .int .i64 0, .int .i64 0, .int .i64 0, .int .i64 0, .int .i64 0]) ?_ 0 _ rfl; (with_reducible repeat (first | apply zuW | apply ztN | apply zqY)); exact BK475.out⟩
              have n1_ : Aside0 (Below w.heap.size w ((((((w20.setCell ⟨gb475, 0, none⟩ (.int .i64 ((zmE l0 x25_1).f0.f0))).setCell ⟨gb475, 1, none⟩ (.int .i64 ((zmE l0 x25_1).f0.f1))).setCell ⟨gb475, 2, none⟩ (.int .i64 ((zmE l0 x25_1).f0.f2))).setCell ⟨gb475, 3, none⟩ (.int .i64 ((zmE l0 x25_1).f1.f0))).setCell ⟨gb475, 4, none⟩ (.int .i64 ((zmE l0 x25_1).f1.f1))).setCell ⟨gb475, 5, none⟩ (.int .i64 ((zmE l0 x25_1).f1.f2)))) := ⟨bb_⟩
              (try clear BK475)
              (try clear HB)
              generalize ((((((w20.setCell ⟨gb475, 0, none⟩ (.int .i64 ((zmE l0 x25_1).f0.f0))).setCell ⟨gb475, 1, none⟩ (.int .i64 ((zmE l0 x25_1).f0.f1))).setCell ⟨gb475, 2, none⟩ (.int .i64 ((zmE l0 x25_1).f0.f2))).setCell ⟨gb475, 3, none⟩ (.int .i64 ((zmE l0 x25_1).f1.f0))).setCell ⟨gb475, 4, none⟩ (.int .i64 ((zmE l0 x25_1).f1.f1))).setCell ⟨gb475, 5, none⟩ (.int .i64 ((zmE l0 x25_1).f1.f2))) = w22 at n0_ n1_ ⊢
              have BK475 := n0_
              have HB := n1_
              clear n0_ n1_
              have n0_ := zpS (ztN BK475.out)
              have n1_ := zpS (zvF HB.out)
              clear BK475
              clear HB
              have BK475 := n0_
              have HB := n1_
              clear n0_ n1_
              have p476 : 0 ≤ ((ji14) : Int) := dt_
              have q476 : (ji14) < (l0.length : Int) := dt_
              obtain ⟨ad476, e476, hx476_0, hx476_1, hx476_2, hx476_3, hx476_4, hx476_5⟩ := zcN HR0.out (ji14) p476 q476
              have hw476_5 := hx476_5
              have hw476_4 := hx476_4
              have hw476_3 := hx476_3
              have hw476_2 := hx476_2
              have hw476_1 := hx476_1
              have hw476_0 := hx476_0
              obtain rfl : ad471 = ad476 := (by injection e476)
              replace hx476_0 := zeA HB.out hx476_0
              replace hx476_1 := zeA HB.out hx476_1
              replace hx476_2 := zeA HB.out hx476_2
              replace hx476_3 := zeA HB.out hx476_3
              replace hx476_4 := zeA HB.out hx476_4
              replace hx476_5 := zeA HB.out hx476_5
              replace p476 := eq_true p476
              replace q476 := eq_true q476
              refine zpB (n := 10) (S := fun w' => w'.cell? ⟨gb475, 0, none⟩ = some (.int .i64 ((zmE l0 x25_1).f0.f0)) ∧ w'.cell? ⟨gb475, 1, none⟩ = some (.int .i64 ((zmE l0 x25_1).f0.f1)) ∧ w'.cell? ⟨gb475, 2, none⟩ = some (.int .i64 ((zmE l0 x25_1).f0.f2)) ∧ w'.cell? ⟨gb475, 3, none⟩ = some (.int .i64 ((zmE l0 x25_1).f1.f0)) ∧ w'.cell? ⟨gb475, 4, none⟩ = some (.int .i64 ((zmE l0 x25_1).f1.f1)) ∧ w'.cell? ⟨gb475, 5, none⟩ = some (.int .i64 ((zmE l0 x25_1).f1.f2)) ∧ w'.cell? (ad471.add (((ji14)).toNat * 6)) = some (.int .i64 ((zmE l0 (ji14)).f0.f0)) ∧ w'.cell? ⟨(ad471.add (((ji14)).toNat * 6)).block, (ad471.add (((ji14)).toNat * 6)).off + 1, none⟩ = some (.int .i64 ((zmE l0 (ji14)).f0.f1)) ∧ w'.cell? ⟨(ad471.add (((ji14)).toNat * 6)).block, (ad471.add (((ji14)).toNat * 6)).off + 2, none⟩ = some (.int .i64 ((zmE l0 (ji14)).f0.f2)) ∧ w'.cell? ⟨(ad471.add (((ji14)).toNat * 6)).block, (ad471.add (((ji14)).toNat * 6)).off + 3, none⟩ = some (.int .i64 ((zmE l0 (ji14)).f1.f0)) ∧ w'.cell? ⟨(ad471.add (((ji14)).toNat * 6)).block, (ad471.add (((ji14)).toNat * 6)).off + 4, none⟩ = some (.int .i64 ((zmE l0 (ji14)).f1.f1)) ∧ w'.cell? ⟨(ad471.add (((ji14)).toNat * 6)).block, (ad471.add (((ji14)).toNat * 6)).off + 5, none⟩ = some (.int .i64 ((zmE l0 (ji14)).f1.f2))) (ds := []) #[false, false, false, false, false, false, false, false, false, false] (by kernel_rfl) rfl rfl ⟨(zzS BK475.out 0).trans rfl, (zzS BK475.out 1).trans rfl, (zzS BK475.out 2).trans rfl, (zzS BK475.out 3).trans rfl, (zzS BK475.out 4).trans rfl, (zzS BK475.out 5).trans rfl, (zeA HB.out hw476_0), (zeA HB.out hw476_1), (zeA HB.out hw476_2), (zeA HB.out hw476_3), (zeA HB.out hw476_4), (zeA HB.out hw476_5)⟩ (fun hHeld => ?_); refine zwI zjY.tab9 zjY.bits9 (fun HT_ HW_ => ?_)
              generalize w22.drew = w23 at BK475 HB hx476_0 hx476_1 hx476_2 hx476_3 hx476_4 hx476_5 hHeld ⊢
              refine pu_ 1 (some 31) (bl_ 10 2) ?_
              refine pu_ 2 (some 32) (bl_ 10 6) ?_
              refine pu_ 3 (some 33) (bl_ 10 14) ?_
              refine pu_ 4 (some 34) (bl_ 10 30) ?_
              refine pu_ 5 (some 35) (bl_ 10 62) ?_
              refine pu_ 6 (some 36) (bl_ 10 126) ?_
              refine zmW 0 (some 30) (bl_ 10 127) hHeld ?_
              refine zmW 7 (some 37) (bl_ 10 255) hHeld ?_
              refine zdC (i := 8) (N := some 38) (bl_ 10 511) rfl rfl (zeO HT_.out (by kernel_rfl)) (by decide) (fun K hK => ?_)
              refine zqW Tryd.func46 (by kernel_rfl) rfl #[.agg #[.int .i64 ((zmE l0 x25_1).f0.f0), .int .i64 ((zmE l0 x25_1).f0.f1), .int .i64 ((zmE l0 x25_1).f0.f2), .int .i64 ((zmE l0 x25_1).f1.f0), .int .i64 ((zmE l0 x25_1).f1.f1), .int .i64 ((zmE l0 x25_1).f1.f2)], .agg #[.int .i64 ((zmE l0 (ji14)).f0.f0), .int .i64 ((zmE l0 (ji14)).f0.f1), .int .i64 ((zmE l0 (ji14)).f0.f2), .int .i64 ((zmE l0 (ji14)).f1.f0), .int .i64 ((zmE l0 (ji14)).f1.f1), .int .i64 ((zmE l0 (ji14)).f1.f2)]] (by rfl) rfl rfl (by (try simp only [List.map_toArray, List.map_cons, List.map_nil]); first | done | (simp only [hji14]; rfl) | rfl | (simp only [List.length_drop, List.length_take]; rfl)) ?_
              with_reducible refine (zxB.calls k1 ((zmE l0 x25_1).f0.f0) ((zmE l0 x25_1).f0.f1) ((zmE l0 x25_1).f0.f2) ((zmE l0 x25_1).f1.f0) ((zmE l0 x25_1).f1.f1) ((zmE l0 x25_1).f1.f2) ((zmE l0 (ji14)).f0.f0) ((zmE l0 (ji14)).f0.f1) ((zmE l0 (ji14)).f0.f2) ((zmE l0 (ji14)).f1.f0) ((zmE l0 (ji14)).f1.f1) ((zmE l0 (ji14)).f1.f2) t477 _ ?side1 A17.out).mono ?_
              (case side1 => exact LaidV.below hG bb_)
              rintro e w24 ⟨rfl, hb⟩
              refine ⟨_, rfl, ?_⟩
              have n0_ := zpS (zgM (g := gb475) (o := .cells #[.int .i64 ((zmE l0 x25_1).f0.f0), .int .i64 ((zmE l0 x25_1).f0.f1), .int .i64 ((zmE l0 x25_1).f0.f2), .int .i64 ((zmE l0 x25_1).f1.f0), .int .i64 ((zmE l0 x25_1).f1.f1), .int .i64 ((zmE l0 x25_1).f1.f2)] 35 (0, 0)) bk_ hb)
              have n1_ := (ns_ hb)
              clear BK475
              clear HB
              have BK475 := n0_
              have HB := n1_
              clear n0_ n1_
              (try clear hb)
              (try clear hb2)
              (try clear hk)
              (try clear hi)
              refine hK.out _ _ ⟨(zzS BK475.out 0).trans rfl, (zzS BK475.out 1).trans rfl, (zzS BK475.out 2).trans rfl, (zzS BK475.out 3).trans rfl, (zzS BK475.out 4).trans rfl, (zzS BK475.out 5).trans rfl, (zeA HB.out hw476_0), (zeA HB.out hw476_1), (zeA HB.out hw476_2), (zeA HB.out hw476_3), (zeA HB.out hw476_4), (zeA HB.out hw476_5)⟩ (fun hHeld => ?_)
              clear hK K
              refine zaN (a' := ?_) ?_ ?_
              rotate_left
              ·show Act.put _ (some 38) _ = _
               simp only [Act.put, List.setIfInBounds_toArray, List.set_cons_zero, List.set_cons_succ, zcM, ziK]
               rfl
              refine pu_ 9 (some 8) (bl_ 10 1023) ?_
              refine znK (zzP HT_.out (by kernel_rfl)) ?_
              try go_wp2_with (first | ((with_reducible refine zgK (f := 47) rfl ?_); refine zqQ (some 42) rfl rfl Tryd.func47 (by kernel_rfl) rfl #[.int .i64 (wrap64 (t477 - x5_1))] rfl (by (try simp only [List.map_toArray, List.map_cons, List.map_nil]); first | done | rfl | (simp only [List.length_drop, List.length_take]; rfl)) ?_; (with_reducible refine (zbC.calls (wrap64 (t477 - x5_1)) t478 _ A18.out).mono ?_); rintro e w' ⟨rfl, ⟨nd, rfl⟩⟩; refine ⟨_, rfl, ?_⟩))
              go_ret
              exact ⟨by first | rfl | (simp [ziS, znJ] <;> rfl) | (simp only [← hji3, ← hji14]; first | rfl | (simp [ziS, znJ] <;> rfl)) | (simp [*, ziS, znJ] <;> rfl), bb_⟩
             ·rw [if_neg c19] at H
              have c19b0 : decide (t477 < 0) = false := decide_eq_false c19
              clear c19
              by_cases c25 : x5_1 < 0
              ·rw [if_pos c25] at H
               have c25b0 : decide (x5_1 < 0) = true := decide_eq_true c25
               clear c25
               obtain rfl := Option.some.inj H
               have p474 : 0 ≤ (x25_1 : Int) := dt_
               have q474 : x25_1 < (l0.length : Int) := dt_
               obtain ⟨ad474, e474, hx474_0, hx474_1, hx474_2, hx474_3, hx474_4, hx474_5⟩ := zcN HR0.out x25_1 p474 q474
               obtain rfl : ad471 = ad474 := (by injection e474)
               replace hx474_0 := zeA HB.out hx474_0
               replace hx474_1 := zeA HB.out hx474_1
               replace hx474_2 := zeA HB.out hx474_2
               replace hx474_3 := zeA HB.out hx474_3
               replace hx474_4 := zeA HB.out hx474_4
               replace hx474_5 := zeA HB.out hx474_5
               replace p474 := eq_true p474
               replace q474 := eq_true q474
               try go_wp2_with (first | ((with_reducible refine zpZ (N := 7) rfl ?_); refine bx_ 7 #[.int .i64 0, .int .i64 0, .int .i64 0, .int .i64 0, .int .i64 0, .int .i64 0] 35 ?_; intro gb475 hg w26 hbox hb; have n0_ := (ns_ hb); have n1_ := zpS (hbox); have n2_ := (ng_ hg); have n3_ := n2_; clear HB; have HB := n0_; have BK475 := n1_; have GW475 := n2_; have GE475 := n3_; clear n0_ n1_ n2_ n3_; clear hb hbox hg; obtain ⟨hcz27_0, hcz27_1, hcz27_2, hcz27_3, hcz27_4, hcz27_5⟩ := zrN BK475.out; obtain ⟨hfz27_0, hfz27_1, hfz27_2, hfz27_3, hfz27_4, hfz27_5⟩ := zoO BK475.out))
               have n0_ : Aside0 (((((((w26.setCell ⟨gb475, 0, none⟩ (.int .i64 ((zmE l0 x25_1).f0.f0))).setCell ⟨gb475, 1, none⟩ (.int .i64 ((zmE l0 x25_1).f0.f1))).setCell ⟨gb475, 2, none⟩ (.int .i64 ((zmE l0 x25_1).f0.f2))).setCell ⟨gb475, 3, none⟩ (.int .i64 ((zmE l0 x25_1).f1.f0))).setCell ⟨gb475, 4, none⟩ (.int .i64 ((zmE l0 x25_1).f1.f1))).setCell ⟨gb475, 5, none⟩ (.int .i64 ((zmE l0 x25_1).f1.f2))).heap[gb475]? = some (.cells #[.int .i64 ((zmE l0 x25_1).f0.f0), .int .i64 ((zmE l0 x25_1).f0.f1), .int .i64 ((zmE l0 x25_1).f0.f2), .int .i64 ((zmE l0 x25_1).f1.f0), .int .i64 ((zmE l0 x25_1).f1.f1), .int .i64 ((zmE l0 x25_1).f1.f2)] 35 (0, 0))) := ⟨by (with_reducible repeat (first | apply zuW | apply ztN | apply zqY)); refine zlL (cs := #[.int .i64 ((zmE l0 x25_1).f0.f0), .int .i64 ((zmE l0 x25_1).f0.f1), .int .i64 ((zmE l0 x25_1).f0.f2), .int .i64 ((zmE l0 x25_1).f1.f0), .int .i64 ((zmE l0 x25_1).f1.f1), .int .i64 0]) ?_ 5 _ rfl; (with_reducible repeat (first | apply zuW | apply ztN | apply zqY)); refine zlL (cs := #[.int .i64 ((zmE l0 x25_1).f0.f0), .int .i64 ((zmE l0 x25_1).f0.f1), .int .i64 ((zmE l0 x25_1).f0.f2), .int .i64 ((zmE l0 x25_1).f1.f0), .int .i64 0, .int .i64 0]) ?_ 4 _ rfl; (with_reducible repeat (first | apply zuW | apply ztN | apply zqY)); refine zlL (cs := #[.int .i64 ((zmE l0 x25_1).f0.f0), .int .i64 ((zmE l0 x25_1).f0.f1), .int .i64 ((zmE l0 x25_1).f0.f2), .int .i64 0, .int .i64 0, .int .i64 0]) ?_ 3 _ rfl; (with_reducible repeat (first | apply zuW | apply ztN | apply zqY)); refine zlL (cs := #[.int .i64 ((zmE l0 x25_1).f0.f0), .int .i64 ((zmE l0 x25_1).f0.f1), .int .i64 0, .int .i64 0, .int .i64 0, .int .i64 0]) ?_ 2 _ rfl; (with_reducible repeat (first | apply zuW | apply ztN | apply zqY)); refine zlL (cs := #[.int .i64 ((zmE l0 x25_1).f0.f0), .int .i64 0, .int .i64 0, .int .i64 0, .int .i64 0, .int .i64 0]) ?_ 1 _ rfl; (with_reducible repeat (first | apply zuW | apply ztN | apply zqY)); refine zlL (cs := #[.int .i64 0, .int .i64 0, .int .i64 0, .int .i64 0, .int .i64 0, .int .i64 0]) ?_ 0 _ rfl; (with_reducible repeat (first | apply zuW | apply ztN | apply zqY)); exact BK475.out⟩
               have n1_ : Aside0 (Below w.heap.size w ((((((w26.setCell ⟨gb475, 0, none⟩ (.int .i64 ((zmE l0 x25_1).f0.f0))).setCell ⟨gb475, 1, none⟩ (.int .i64 ((zmE l0 x25_1).f0.f1))).setCell ⟨gb475, 2, none⟩ (.int .i64 ((zmE l0 x25_1).f0.f2))).setCell ⟨gb475, 3, none⟩ (.int .i64 ((zmE l0 x25_1).f1.f0))).setCell ⟨gb475, 4, none⟩ (.int .i64 ((zmE l0 x25_1).f1.f1))).setCell ⟨gb475, 5, none⟩ (.int .i64 ((zmE l0 x25_1).f1.f2)))) := ⟨bb_⟩
               (try clear BK475)
               (try clear HB)
               generalize ((((((w26.setCell ⟨gb475, 0, none⟩ (.int .i64 ((zmE l0 x25_1).f0.f0))).setCell ⟨gb475, 1, none⟩ (.int .i64 ((zmE l0 x25_1).f0.f1))).setCell ⟨gb475, 2, none⟩ (.int .i64 ((zmE l0 x25_1).f0.f2))).setCell ⟨gb475, 3, none⟩ (.int .i64 ((zmE l0 x25_1).f1.f0))).setCell ⟨gb475, 4, none⟩ (.int .i64 ((zmE l0 x25_1).f1.f1))).setCell ⟨gb475, 5, none⟩ (.int .i64 ((zmE l0 x25_1).f1.f2))) = w28 at n0_ n1_ ⊢
               have BK475 := n0_
               have HB := n1_
               clear n0_ n1_
               have n0_ := zpS (ztN BK475.out)
               have n1_ := zpS (zvF HB.out)
               clear BK475
               clear HB
               have BK475 := n0_
               have HB := n1_
               clear n0_ n1_
               have p476 : 0 ≤ ((ji14) : Int) := dt_
               have q476 : (ji14) < (l0.length : Int) := dt_
               obtain ⟨ad476, e476, hx476_0, hx476_1, hx476_2, hx476_3, hx476_4, hx476_5⟩ := zcN HR0.out (ji14) p476 q476
               have hw476_5 := hx476_5
               have hw476_4 := hx476_4
               have hw476_3 := hx476_3
               have hw476_2 := hx476_2
               have hw476_1 := hx476_1
               have hw476_0 := hx476_0
               obtain rfl : ad471 = ad476 := (by injection e476)
               replace hx476_0 := zeA HB.out hx476_0
               replace hx476_1 := zeA HB.out hx476_1
               replace hx476_2 := zeA HB.out hx476_2
               replace hx476_3 := zeA HB.out hx476_3
               replace hx476_4 := zeA HB.out hx476_4
               replace hx476_5 := zeA HB.out hx476_5
               replace p476 := eq_true p476
               replace q476 := eq_true q476
               refine zpB (n := 10) (S := fun w' => w'.cell? ⟨gb475, 0, none⟩ = some (.int .i64 ((zmE l0 x25_1).f0.f0)) ∧ w'.cell? ⟨gb475, 1, none⟩ = some (.int .i64 ((zmE l0 x25_1).f0.f1)) ∧ w'.cell? ⟨gb475, 2, none⟩ = some (.int .i64 ((zmE l0 x25_1).f0.f2)) ∧ w'.cell? ⟨gb475, 3, none⟩ = some (.int .i64 ((zmE l0 x25_1).f1.f0)) ∧ w'.cell? ⟨gb475, 4, none⟩ = some (.int .i64 ((zmE l0 x25_1).f1.f1)) ∧ w'.cell? ⟨gb475, 5, none⟩ = some (.int .i64 ((zmE l0 x25_1).f1.f2)) ∧ w'.cell? (ad471.add (((ji14)).toNat * 6)) = some (.int .i64 ((zmE l0 (ji14)).f0.f0)) ∧ w'.cell? ⟨(ad471.add (((ji14)).toNat * 6)).block, (ad471.add (((ji14)).toNat * 6)).off + 1, none⟩ = some (.int .i64 ((zmE l0 (ji14)).f0.f1)) ∧ w'.cell? ⟨(ad471.add (((ji14)).toNat * 6)).block, (ad471.add (((ji14)).toNat * 6)).off + 2, none⟩ = some (.int .i64 ((zmE l0 (ji14)).f0.f2)) ∧ w'.cell? ⟨(ad471.add (((ji14)).toNat * 6)).block, (ad471.add (((ji14)).toNat * 6)).off + 3, none⟩ = some (.int .i64 ((zmE l0 (ji14)).f1.f0)) ∧ w'.cell? ⟨(ad471.add (((ji14)).toNat * 6)).block, (ad471.add (((ji14)).toNat * 6)).off + 4, none⟩ = some (.int .i64 ((zmE l0 (ji14)).f1.f1)) ∧ w'.cell? ⟨(ad471.add (((ji14)).toNat * 6)).block, (ad471.add (((ji14)).toNat * 6)).off + 5, none⟩ = some (.int .i64 ((zmE l0 (ji14)).f1.f2))) (ds := []) #[false, false, false, false, false, false, false, false, false, false] (by kernel_rfl) rfl rfl ⟨(zzS BK475.out 0).trans rfl, (zzS BK475.out 1).trans rfl, (zzS BK475.out 2).trans rfl, (zzS BK475.out 3).trans rfl, (zzS BK475.out 4).trans rfl, (zzS BK475.out 5).trans rfl, (zeA HB.out hw476_0), (zeA HB.out hw476_1), (zeA HB.out hw476_2), (zeA HB.out hw476_3), (zeA HB.out hw476_4), (zeA HB.out hw476_5)⟩ (fun hHeld => ?_); refine zwI zjY.tab9 zjY.bits9 (fun HT_ HW_ => ?_)
               generalize w28.drew = w29 at BK475 HB hx476_0 hx476_1 hx476_2 hx476_3 hx476_4 hx476_5 hHeld ⊢
               refine pu_ 1 (some 31) (bl_ 10 2) ?_
               refine pu_ 2 (some 32) (bl_ 10 6) ?_
               refine pu_ 3 (some 33) (bl_ 10 14) ?_
               refine pu_ 4 (some 34) (bl_ 10 30) ?_
               refine pu_ 5 (some 35) (bl_ 10 62) ?_
               refine pu_ 6 (some 36) (bl_ 10 126) ?_
               refine zmW 0 (some 30) (bl_ 10 127) hHeld ?_
               refine zmW 7 (some 37) (bl_ 10 255) hHeld ?_
               refine zdC (i := 8) (N := some 38) (bl_ 10 511) rfl rfl (zeO HT_.out (by kernel_rfl)) (by decide) (fun K hK => ?_)
               refine zqW Tryd.func46 (by kernel_rfl) rfl #[.agg #[.int .i64 ((zmE l0 x25_1).f0.f0), .int .i64 ((zmE l0 x25_1).f0.f1), .int .i64 ((zmE l0 x25_1).f0.f2), .int .i64 ((zmE l0 x25_1).f1.f0), .int .i64 ((zmE l0 x25_1).f1.f1), .int .i64 ((zmE l0 x25_1).f1.f2)], .agg #[.int .i64 ((zmE l0 (ji14)).f0.f0), .int .i64 ((zmE l0 (ji14)).f0.f1), .int .i64 ((zmE l0 (ji14)).f0.f2), .int .i64 ((zmE l0 (ji14)).f1.f0), .int .i64 ((zmE l0 (ji14)).f1.f1), .int .i64 ((zmE l0 (ji14)).f1.f2)]] (by rfl) rfl rfl (by (try simp only [List.map_toArray, List.map_cons, List.map_nil]); first | done | (simp only [hji14]; rfl) | rfl | (simp only [List.length_drop, List.length_take]; rfl)) ?_
               with_reducible refine (zxB.calls k1 ((zmE l0 x25_1).f0.f0) ((zmE l0 x25_1).f0.f1) ((zmE l0 x25_1).f0.f2) ((zmE l0 x25_1).f1.f0) ((zmE l0 x25_1).f1.f1) ((zmE l0 x25_1).f1.f2) ((zmE l0 (ji14)).f0.f0) ((zmE l0 (ji14)).f0.f1) ((zmE l0 (ji14)).f0.f2) ((zmE l0 (ji14)).f1.f0) ((zmE l0 (ji14)).f1.f1) ((zmE l0 (ji14)).f1.f2) t477 _ ?side1 A17.out).mono ?_
               (case side1 => exact LaidV.below hG bb_)
               rintro e w30 ⟨rfl, hb⟩
               refine ⟨_, rfl, ?_⟩
               have n0_ := zpS (zgM (g := gb475) (o := .cells #[.int .i64 ((zmE l0 x25_1).f0.f0), .int .i64 ((zmE l0 x25_1).f0.f1), .int .i64 ((zmE l0 x25_1).f0.f2), .int .i64 ((zmE l0 x25_1).f1.f0), .int .i64 ((zmE l0 x25_1).f1.f1), .int .i64 ((zmE l0 x25_1).f1.f2)] 35 (0, 0)) bk_ hb)
               have n1_ := (ns_ hb)
               clear BK475
               clear HB
               have BK475 := n0_
               have HB := n1_
               clear n0_ n1_
               (try clear hb)
               (try clear hb2)
               (try clear hk)
               (try clear hi)
               refine hK.out _ _ ⟨(zzS BK475.out 0).trans rfl, (zzS BK475.out 1).trans rfl, (zzS BK475.out 2).trans rfl, (zzS BK475.out 3).trans rfl, (zzS BK475.out 4).trans rfl, (zzS BK475.out 5).trans rfl, (zeA HB.out hw476_0), (zeA HB.out hw476_1), (zeA HB.out hw476_2), (zeA HB.out hw476_3), (zeA HB.out hw476_4), (zeA HB.out hw476_5)⟩ (fun hHeld => ?_)
               clear hK K
               refine zaN (a' := ?_) ?_ ?_
               rotate_left
               ·show Act.put _ (some 38) _ = _
                simp only [Act.put, List.setIfInBounds_toArray, List.set_cons_zero, List.set_cons_succ, zcM, ziK]
                rfl
               refine pu_ 9 (some 8) (bl_ 10 1023) ?_
               refine znK (zzP HT_.out (by kernel_rfl)) ?_
               try go_wp2_with (first | ((with_reducible refine zgK (f := 47) rfl ?_); refine zqQ (some 42) rfl rfl Tryd.func47 (by kernel_rfl) rfl #[.int .i64 (wrap64 (t477 - x5_1))] rfl (by (try simp only [List.map_toArray, List.map_cons, List.map_nil]); first | done | rfl | (simp only [List.length_drop, List.length_take]; rfl)) ?_; (with_reducible refine (zbC.calls (wrap64 (t477 - x5_1)) t478 _ A18.out).mono ?_); rintro e w' ⟨rfl, ⟨nd, rfl⟩⟩; refine ⟨_, rfl, ?_⟩))
               go_ret
               exact ⟨by first | rfl | (simp [ziS, znJ] <;> rfl) | (simp only [← hji3, ← hji14]; first | rfl | (simp [ziS, znJ] <;> rfl)) | (simp [*, ziS, znJ] <;> rfl), bb_⟩
              ·rw [if_neg c25] at H
               have c25b0 : decide (x5_1 < 0) = false := decide_eq_false c25
               clear c25
               replace H := Option.bind_eq_some_iff.mp H
               obtain ⟨t479, A310, H⟩ := H
               replace H : (if t479 = true then (zjY.l0 k1 l0 (l0.length : Int) (wrap64 (x4_1 + t478)) t477 l0 (l0.length : Int) (wrap64 (x25_1 + 1))) else (some false)) = some r := H
               have A31 := zpS A310
               clear A310
               by_cases c32 : t479 = true
               ·subst c32
                have H1 : (zjY.l0 k1 l0 (l0.length : Int) (wrap64 (x4_1 + t478)) t477 l0 (l0.length : Int) (wrap64 (x25_1 + 1))) = some r := by rw [if_pos rfl] at H; exact H
                clear H
                have H := H1
                clear H1
                have H' := zpS H
                clear H
                have p474 : 0 ≤ (x25_1 : Int) := dt_
                have q474 : x25_1 < (l0.length : Int) := dt_
                obtain ⟨ad474, e474, hx474_0, hx474_1, hx474_2, hx474_3, hx474_4, hx474_5⟩ := zcN HR0.out x25_1 p474 q474
                obtain rfl : ad471 = ad474 := (by injection e474)
                replace hx474_0 := zeA HB.out hx474_0
                replace hx474_1 := zeA HB.out hx474_1
                replace hx474_2 := zeA HB.out hx474_2
                replace hx474_3 := zeA HB.out hx474_3
                replace hx474_4 := zeA HB.out hx474_4
                replace hx474_5 := zeA HB.out hx474_5
                replace p474 := eq_true p474
                replace q474 := eq_true q474
                try go_wp2_with (first | ((with_reducible refine zpZ (N := 7) rfl ?_); refine bx_ 7 #[.int .i64 0, .int .i64 0, .int .i64 0, .int .i64 0, .int .i64 0, .int .i64 0] 35 ?_; intro gb475 hg w33 hbox hb; have n0_ := (ns_ hb); have n1_ := zpS (hbox); have n2_ := (ng_ hg); have n3_ := n2_; clear HB; have HB := n0_; have BK475 := n1_; have GW475 := n2_; have GE475 := n3_; clear n0_ n1_ n2_ n3_; clear hb hbox hg; obtain ⟨hcz34_0, hcz34_1, hcz34_2, hcz34_3, hcz34_4, hcz34_5⟩ := zrN BK475.out; obtain ⟨hfz34_0, hfz34_1, hfz34_2, hfz34_3, hfz34_4, hfz34_5⟩ := zoO BK475.out))
                have n0_ : Aside0 (((((((w33.setCell ⟨gb475, 0, none⟩ (.int .i64 ((zmE l0 x25_1).f0.f0))).setCell ⟨gb475, 1, none⟩ (.int .i64 ((zmE l0 x25_1).f0.f1))).setCell ⟨gb475, 2, none⟩ (.int .i64 ((zmE l0 x25_1).f0.f2))).setCell ⟨gb475, 3, none⟩ (.int .i64 ((zmE l0 x25_1).f1.f0))).setCell ⟨gb475, 4, none⟩ (.int .i64 ((zmE l0 x25_1).f1.f1))).setCell ⟨gb475, 5, none⟩ (.int .i64 ((zmE l0 x25_1).f1.f2))).heap[gb475]? = some (.cells #[.int .i64 ((zmE l0 x25_1).f0.f0), .int .i64 ((zmE l0 x25_1).f0.f1), .int .i64 ((zmE l0 x25_1).f0.f2), .int .i64 ((zmE l0 x25_1).f1.f0), .int .i64 ((zmE l0 x25_1).f1.f1), .int .i64 ((zmE l0 x25_1).f1.f2)] 35 (0, 0))) := ⟨by (with_reducible repeat (first | apply zuW | apply ztN | apply zqY)); refine zlL (cs := #[.int .i64 ((zmE l0 x25_1).f0.f0), .int .i64 ((zmE l0 x25_1).f0.f1), .int .i64 ((zmE l0 x25_1).f0.f2), .int .i64 ((zmE l0 x25_1).f1.f0), .int .i64 ((zmE l0 x25_1).f1.f1), .int .i64 0]) ?_ 5 _ rfl; (with_reducible repeat (first | apply zuW | apply ztN | apply zqY)); refine zlL (cs := #[.int .i64 ((zmE l0 x25_1).f0.f0), .int .i64 ((zmE l0 x25_1).f0.f1), .int .i64 ((zmE l0 x25_1).f0.f2), .int .i64 ((zmE l0 x25_1).f1.f0), .int .i64 0, .int .i64 0]) ?_ 4 _ rfl; (with_reducible repeat (first | apply zuW | apply ztN | apply zqY)); refine zlL (cs := #[.int .i64 ((zmE l0 x25_1).f0.f0), .int .i64 ((zmE l0 x25_1).f0.f1), .int .i64 ((zmE l0 x25_1).f0.f2), .int .i64 0, .int .i64 0, .int .i64 0]) ?_ 3 _ rfl; (with_reducible repeat (first | apply zuW | apply ztN | apply zqY)); refine zlL (cs := #[.int .i64 ((zmE l0 x25_1).f0.f0), .int .i64 ((zmE l0 x25_1).f0.f1), .int .i64 0, .int .i64 0, .int .i64 0, .int .i64 0]) ?_ 2 _ rfl; (with_reducible repeat (first | apply zuW | apply ztN | apply zqY)); refine zlL (cs := #[.int .i64 ((zmE l0 x25_1).f0.f0), .int .i64 0, .int .i64 0, .int .i64 0, .int .i64 0, .int .i64 0]) ?_ 1 _ rfl; (with_reducible repeat (first | apply zuW | apply ztN | apply zqY)); refine zlL (cs := #[.int .i64 0, .int .i64 0, .int .i64 0, .int .i64 0, .int .i64 0, .int .i64 0]) ?_ 0 _ rfl; (with_reducible repeat (first | apply zuW | apply ztN | apply zqY)); exact BK475.out⟩
                have n1_ : Aside0 (Below w.heap.size w ((((((w33.setCell ⟨gb475, 0, none⟩ (.int .i64 ((zmE l0 x25_1).f0.f0))).setCell ⟨gb475, 1, none⟩ (.int .i64 ((zmE l0 x25_1).f0.f1))).setCell ⟨gb475, 2, none⟩ (.int .i64 ((zmE l0 x25_1).f0.f2))).setCell ⟨gb475, 3, none⟩ (.int .i64 ((zmE l0 x25_1).f1.f0))).setCell ⟨gb475, 4, none⟩ (.int .i64 ((zmE l0 x25_1).f1.f1))).setCell ⟨gb475, 5, none⟩ (.int .i64 ((zmE l0 x25_1).f1.f2)))) := ⟨bb_⟩
                (try clear BK475)
                (try clear HB)
                generalize ((((((w33.setCell ⟨gb475, 0, none⟩ (.int .i64 ((zmE l0 x25_1).f0.f0))).setCell ⟨gb475, 1, none⟩ (.int .i64 ((zmE l0 x25_1).f0.f1))).setCell ⟨gb475, 2, none⟩ (.int .i64 ((zmE l0 x25_1).f0.f2))).setCell ⟨gb475, 3, none⟩ (.int .i64 ((zmE l0 x25_1).f1.f0))).setCell ⟨gb475, 4, none⟩ (.int .i64 ((zmE l0 x25_1).f1.f1))).setCell ⟨gb475, 5, none⟩ (.int .i64 ((zmE l0 x25_1).f1.f2))) = w35 at n0_ n1_ ⊢
                have BK475 := n0_
                have HB := n1_
                clear n0_ n1_
                have n0_ := zpS (ztN BK475.out)
                have n1_ := zpS (zvF HB.out)
                clear BK475
                clear HB
                have BK475 := n0_
                have HB := n1_
                clear n0_ n1_
                have p476 : 0 ≤ ((ji14) : Int) := dt_
                have q476 : (ji14) < (l0.length : Int) := dt_
                obtain ⟨ad476, e476, hx476_0, hx476_1, hx476_2, hx476_3, hx476_4, hx476_5⟩ := zcN HR0.out (ji14) p476 q476
                have hw476_5 := hx476_5
                have hw476_4 := hx476_4
                have hw476_3 := hx476_3
                have hw476_2 := hx476_2
                have hw476_1 := hx476_1
                have hw476_0 := hx476_0
                obtain rfl : ad471 = ad476 := (by injection e476)
                replace hx476_0 := zeA HB.out hx476_0
                replace hx476_1 := zeA HB.out hx476_1
                replace hx476_2 := zeA HB.out hx476_2
                replace hx476_3 := zeA HB.out hx476_3
                replace hx476_4 := zeA HB.out hx476_4
                replace hx476_5 := zeA HB.out hx476_5
                replace p476 := eq_true p476
                replace q476 := eq_true q476
                refine zpB (n := 10) (S := fun w' => w'.cell? ⟨gb475, 0, none⟩ = some (.int .i64 ((zmE l0 x25_1).f0.f0)) ∧ w'.cell? ⟨gb475, 1, none⟩ = some (.int .i64 ((zmE l0 x25_1).f0.f1)) ∧ w'.cell? ⟨gb475, 2, none⟩ = some (.int .i64 ((zmE l0 x25_1).f0.f2)) ∧ w'.cell? ⟨gb475, 3, none⟩ = some (.int .i64 ((zmE l0 x25_1).f1.f0)) ∧ w'.cell? ⟨gb475, 4, none⟩ = some (.int .i64 ((zmE l0 x25_1).f1.f1)) ∧ w'.cell? ⟨gb475, 5, none⟩ = some (.int .i64 ((zmE l0 x25_1).f1.f2)) ∧ w'.cell? (ad471.add (((ji14)).toNat * 6)) = some (.int .i64 ((zmE l0 (ji14)).f0.f0)) ∧ w'.cell? ⟨(ad471.add (((ji14)).toNat * 6)).block, (ad471.add (((ji14)).toNat * 6)).off + 1, none⟩ = some (.int .i64 ((zmE l0 (ji14)).f0.f1)) ∧ w'.cell? ⟨(ad471.add (((ji14)).toNat * 6)).block, (ad471.add (((ji14)).toNat * 6)).off + 2, none⟩ = some (.int .i64 ((zmE l0 (ji14)).f0.f2)) ∧ w'.cell? ⟨(ad471.add (((ji14)).toNat * 6)).block, (ad471.add (((ji14)).toNat * 6)).off + 3, none⟩ = some (.int .i64 ((zmE l0 (ji14)).f1.f0)) ∧ w'.cell? ⟨(ad471.add (((ji14)).toNat * 6)).block, (ad471.add (((ji14)).toNat * 6)).off + 4, none⟩ = some (.int .i64 ((zmE l0 (ji14)).f1.f1)) ∧ w'.cell? ⟨(ad471.add (((ji14)).toNat * 6)).block, (ad471.add (((ji14)).toNat * 6)).off + 5, none⟩ = some (.int .i64 ((zmE l0 (ji14)).f1.f2))) (ds := []) #[false, false, false, false, false, false, false, false, false, false] (by kernel_rfl) rfl rfl ⟨(zzS BK475.out 0).trans rfl, (zzS BK475.out 1).trans rfl, (zzS BK475.out 2).trans rfl, (zzS BK475.out 3).trans rfl, (zzS BK475.out 4).trans rfl, (zzS BK475.out 5).trans rfl, (zeA HB.out hw476_0), (zeA HB.out hw476_1), (zeA HB.out hw476_2), (zeA HB.out hw476_3), (zeA HB.out hw476_4), (zeA HB.out hw476_5)⟩ (fun hHeld => ?_); refine zwI zjY.tab9 zjY.bits9 (fun HT_ HW_ => ?_)
                generalize w35.drew = w36 at BK475 HB hx476_0 hx476_1 hx476_2 hx476_3 hx476_4 hx476_5 hHeld ⊢
                refine pu_ 1 (some 31) (bl_ 10 2) ?_
                refine pu_ 2 (some 32) (bl_ 10 6) ?_
                refine pu_ 3 (some 33) (bl_ 10 14) ?_
                refine pu_ 4 (some 34) (bl_ 10 30) ?_
                refine pu_ 5 (some 35) (bl_ 10 62) ?_
                refine pu_ 6 (some 36) (bl_ 10 126) ?_
                refine zmW 0 (some 30) (bl_ 10 127) hHeld ?_
                refine zmW 7 (some 37) (bl_ 10 255) hHeld ?_
                refine zdC (i := 8) (N := some 38) (bl_ 10 511) rfl rfl (zeO HT_.out (by kernel_rfl)) (by decide) (fun K hK => ?_)
                refine zqW Tryd.func46 (by kernel_rfl) rfl #[.agg #[.int .i64 ((zmE l0 x25_1).f0.f0), .int .i64 ((zmE l0 x25_1).f0.f1), .int .i64 ((zmE l0 x25_1).f0.f2), .int .i64 ((zmE l0 x25_1).f1.f0), .int .i64 ((zmE l0 x25_1).f1.f1), .int .i64 ((zmE l0 x25_1).f1.f2)], .agg #[.int .i64 ((zmE l0 (ji14)).f0.f0), .int .i64 ((zmE l0 (ji14)).f0.f1), .int .i64 ((zmE l0 (ji14)).f0.f2), .int .i64 ((zmE l0 (ji14)).f1.f0), .int .i64 ((zmE l0 (ji14)).f1.f1), .int .i64 ((zmE l0 (ji14)).f1.f2)]] (by rfl) rfl rfl (by (try simp only [List.map_toArray, List.map_cons, List.map_nil]); first | done | (simp only [hji14]; rfl) | rfl | (simp only [List.length_drop, List.length_take]; rfl)) ?_
                with_reducible refine (zxB.calls k1 ((zmE l0 x25_1).f0.f0) ((zmE l0 x25_1).f0.f1) ((zmE l0 x25_1).f0.f2) ((zmE l0 x25_1).f1.f0) ((zmE l0 x25_1).f1.f1) ((zmE l0 x25_1).f1.f2) ((zmE l0 (ji14)).f0.f0) ((zmE l0 (ji14)).f0.f1) ((zmE l0 (ji14)).f0.f2) ((zmE l0 (ji14)).f1.f0) ((zmE l0 (ji14)).f1.f1) ((zmE l0 (ji14)).f1.f2) t477 _ ?side1 A17.out).mono ?_
                (case side1 => exact LaidV.below hG bb_)
                rintro e w37 ⟨rfl, hb⟩
                refine ⟨_, rfl, ?_⟩
                have n0_ := zpS (zgM (g := gb475) (o := .cells #[.int .i64 ((zmE l0 x25_1).f0.f0), .int .i64 ((zmE l0 x25_1).f0.f1), .int .i64 ((zmE l0 x25_1).f0.f2), .int .i64 ((zmE l0 x25_1).f1.f0), .int .i64 ((zmE l0 x25_1).f1.f1), .int .i64 ((zmE l0 x25_1).f1.f2)] 35 (0, 0)) bk_ hb)
                have n1_ := (ns_ hb)
                clear BK475
                clear HB
                have BK475 := n0_
                have HB := n1_
                clear n0_ n1_
                (try clear hb)
                (try clear hb2)
                (try clear hk)
                (try clear hi)
                refine hK.out _ _ ⟨(zzS BK475.out 0).trans rfl, (zzS BK475.out 1).trans rfl, (zzS BK475.out 2).trans rfl, (zzS BK475.out 3).trans rfl, (zzS BK475.out 4).trans rfl, (zzS BK475.out 5).trans rfl, (zeA HB.out hw476_0), (zeA HB.out hw476_1), (zeA HB.out hw476_2), (zeA HB.out hw476_3), (zeA HB.out hw476_4), (zeA HB.out hw476_5)⟩ (fun hHeld => ?_)
                clear hK K
                refine zaN (a' := ?_) ?_ ?_
                rotate_left
                ·show Act.put _ (some 38) _ = _
                 simp only [Act.put, List.setIfInBounds_toArray, List.set_cons_zero, List.set_cons_succ, zcM, ziK]
                 rfl
                refine pu_ 9 (some 8) (bl_ 10 1023) ?_
                refine znK (zzP HT_.out (by kernel_rfl)) ?_
                try go_wp2_with (first | ((with_reducible refine zgK (f := 47) rfl ?_); refine zqQ (some 42) rfl rfl Tryd.func47 (by kernel_rfl) rfl #[.int .i64 (wrap64 (t477 - x5_1))] rfl (by (try simp only [List.map_toArray, List.map_cons, List.map_nil]); first | done | rfl | (simp only [List.length_drop, List.length_take]; rfl)) ?_; (with_reducible refine (zbC.calls (wrap64 (t477 - x5_1)) t478 _ A18.out).mono ?_); rintro e w' ⟨rfl, ⟨nd, rfl⟩⟩; refine ⟨_, rfl, ?_⟩) | (go_at_call 34; (with_reducible refine (zrP.calls t478 1 7 true _ A31.out).mono ?_); rintro e w' ⟨rfl, ⟨nd, rfl⟩⟩))
                go_roundg k1
                case measure => have := HK1.out; omega
                case rel => exact ⟨(wrap64 (x4_1 + t478)), (t477), (wrap64 (x25_1 + 1)), (by first | rfl | (simp; done) | (simp [*]; done)), (by first | rfl | (simp; done) | (simp [*]; done)), (by first | rfl | (simp; done) | (simp [*]; done)), H', ⟨by have := HK1.out; omega⟩, ⟨bb_⟩⟩
               ·replace c32 := Bool.eq_false_iff.mpr c32
                subst c32
                have H1 : (some false) = some r := by rw [if_neg (show ¬ (false = true) by decide)] at H; exact H
                clear H
                have H := H1
                clear H1
                obtain rfl := Option.some.inj H
                have p474 : 0 ≤ (x25_1 : Int) := dt_
                have q474 : x25_1 < (l0.length : Int) := dt_
                obtain ⟨ad474, e474, hx474_0, hx474_1, hx474_2, hx474_3, hx474_4, hx474_5⟩ := zcN HR0.out x25_1 p474 q474
                obtain rfl : ad471 = ad474 := (by injection e474)
                replace hx474_0 := zeA HB.out hx474_0
                replace hx474_1 := zeA HB.out hx474_1
                replace hx474_2 := zeA HB.out hx474_2
                replace hx474_3 := zeA HB.out hx474_3
                replace hx474_4 := zeA HB.out hx474_4
                replace hx474_5 := zeA HB.out hx474_5
                replace p474 := eq_true p474
                replace q474 := eq_true q474
                try go_wp2_with (first | ((with_reducible refine zpZ (N := 7) rfl ?_); refine bx_ 7 #[.int .i64 0, .int .i64 0, .int .i64 0, .int .i64 0, .int .i64 0, .int .i64 0] 35 ?_; intro gb475 hg w38 hbox hb; have n0_ := (ns_ hb); have n1_ := zpS (hbox); have n2_ := (ng_ hg); have n3_ := n2_; clear HB; have HB := n0_; have BK475 := n1_; have GW475 := n2_; have GE475 := n3_; clear n0_ n1_ n2_ n3_; clear hb hbox hg; obtain ⟨hcz39_0, hcz39_1, hcz39_2, hcz39_3, hcz39_4, hcz39_5⟩ := zrN BK475.out; obtain ⟨hfz39_0, hfz39_1, hfz39_2, hfz39_3, hfz39_4, hfz39_5⟩ := zoO BK475.out))
                have n0_ : Aside0 (((((((w38.setCell ⟨gb475, 0, none⟩ (.int .i64 ((zmE l0 x25_1).f0.f0))).setCell ⟨gb475, 1, none⟩ (.int .i64 ((zmE l0 x25_1).f0.f1))).setCell ⟨gb475, 2, none⟩ (.int .i64 ((zmE l0 x25_1).f0.f2))).setCell ⟨gb475, 3, none⟩ (.int .i64 ((zmE l0 x25_1).f1.f0))).setCell ⟨gb475, 4, none⟩ (.int .i64 ((zmE l0 x25_1).f1.f1))).setCell ⟨gb475, 5, none⟩ (.int .i64 ((zmE l0 x25_1).f1.f2))).heap[gb475]? = some (.cells #[.int .i64 ((zmE l0 x25_1).f0.f0), .int .i64 ((zmE l0 x25_1).f0.f1), .int .i64 ((zmE l0 x25_1).f0.f2), .int .i64 ((zmE l0 x25_1).f1.f0), .int .i64 ((zmE l0 x25_1).f1.f1), .int .i64 ((zmE l0 x25_1).f1.f2)] 35 (0, 0))) := ⟨by (with_reducible repeat (first | apply zuW | apply ztN | apply zqY)); refine zlL (cs := #[.int .i64 ((zmE l0 x25_1).f0.f0), .int .i64 ((zmE l0 x25_1).f0.f1), .int .i64 ((zmE l0 x25_1).f0.f2), .int .i64 ((zmE l0 x25_1).f1.f0), .int .i64 ((zmE l0 x25_1).f1.f1), .int .i64 0]) ?_ 5 _ rfl; (with_reducible repeat (first | apply zuW | apply ztN | apply zqY)); refine zlL (cs := #[.int .i64 ((zmE l0 x25_1).f0.f0), .int .i64 ((zmE l0 x25_1).f0.f1), .int .i64 ((zmE l0 x25_1).f0.f2), .int .i64 ((zmE l0 x25_1).f1.f0), .int .i64 0, .int .i64 0]) ?_ 4 _ rfl; (with_reducible repeat (first | apply zuW | apply ztN | apply zqY)); refine zlL (cs := #[.int .i64 ((zmE l0 x25_1).f0.f0), .int .i64 ((zmE l0 x25_1).f0.f1), .int .i64 ((zmE l0 x25_1).f0.f2), .int .i64 0, .int .i64 0, .int .i64 0]) ?_ 3 _ rfl; (with_reducible repeat (first | apply zuW | apply ztN | apply zqY)); refine zlL (cs := #[.int .i64 ((zmE l0 x25_1).f0.f0), .int .i64 ((zmE l0 x25_1).f0.f1), .int .i64 0, .int .i64 0, .int .i64 0, .int .i64 0]) ?_ 2 _ rfl; (with_reducible repeat (first | apply zuW | apply ztN | apply zqY)); refine zlL (cs := #[.int .i64 ((zmE l0 x25_1).f0.f0), .int .i64 0, .int .i64 0, .int .i64 0, .int .i64 0, .int .i64 0]) ?_ 1 _ rfl; (with_reducible repeat (first | apply zuW | apply ztN | apply zqY)); refine zlL (cs := #[.int .i64 0, .int .i64 0, .int .i64 0, .int .i64 0, .int .i64 0, .int .i64 0]) ?_ 0 _ rfl; (with_reducible repeat (first | apply zuW | apply ztN | apply zqY)); exact BK475.out⟩
                have n1_ : Aside0 (Below w.heap.size w ((((((w38.setCell ⟨gb475, 0, none⟩ (.int .i64 ((zmE l0 x25_1).f0.f0))).setCell ⟨gb475, 1, none⟩ (.int .i64 ((zmE l0 x25_1).f0.f1))).setCell ⟨gb475, 2, none⟩ (.int .i64 ((zmE l0 x25_1).f0.f2))).setCell ⟨gb475, 3, none⟩ (.int .i64 ((zmE l0 x25_1).f1.f0))).setCell ⟨gb475, 4, none⟩ (.int .i64 ((zmE l0 x25_1).f1.f1))).setCell ⟨gb475, 5, none⟩ (.int .i64 ((zmE l0 x25_1).f1.f2)))) := ⟨bb_⟩
                (try clear BK475)
                (try clear HB)
                generalize ((((((w38.setCell ⟨gb475, 0, none⟩ (.int .i64 ((zmE l0 x25_1).f0.f0))).setCell ⟨gb475, 1, none⟩ (.int .i64 ((zmE l0 x25_1).f0.f1))).setCell ⟨gb475, 2, none⟩ (.int .i64 ((zmE l0 x25_1).f0.f2))).setCell ⟨gb475, 3, none⟩ (.int .i64 ((zmE l0 x25_1).f1.f0))).setCell ⟨gb475, 4, none⟩ (.int .i64 ((zmE l0 x25_1).f1.f1))).setCell ⟨gb475, 5, none⟩ (.int .i64 ((zmE l0 x25_1).f1.f2))) = w40 at n0_ n1_ ⊢
                have BK475 := n0_
                have HB := n1_
                clear n0_ n1_
                have n0_ := zpS (ztN BK475.out)
                have n1_ := zpS (zvF HB.out)
                clear BK475
                clear HB
                have BK475 := n0_
                have HB := n1_
                clear n0_ n1_
                have p476 : 0 ≤ ((ji14) : Int) := dt_
                have q476 : (ji14) < (l0.length : Int) := dt_
                obtain ⟨ad476, e476, hx476_0, hx476_1, hx476_2, hx476_3, hx476_4, hx476_5⟩ := zcN HR0.out (ji14) p476 q476
                have hw476_5 := hx476_5
                have hw476_4 := hx476_4
                have hw476_3 := hx476_3
                have hw476_2 := hx476_2
                have hw476_1 := hx476_1
                have hw476_0 := hx476_0
                obtain rfl : ad471 = ad476 := (by injection e476)
                replace hx476_0 := zeA HB.out hx476_0
                replace hx476_1 := zeA HB.out hx476_1
                replace hx476_2 := zeA HB.out hx476_2
                replace hx476_3 := zeA HB.out hx476_3
                replace hx476_4 := zeA HB.out hx476_4
                replace hx476_5 := zeA HB.out hx476_5
                replace p476 := eq_true p476
                replace q476 := eq_true q476
                refine zpB (n := 10) (S := fun w' => w'.cell? ⟨gb475, 0, none⟩ = some (.int .i64 ((zmE l0 x25_1).f0.f0)) ∧ w'.cell? ⟨gb475, 1, none⟩ = some (.int .i64 ((zmE l0 x25_1).f0.f1)) ∧ w'.cell? ⟨gb475, 2, none⟩ = some (.int .i64 ((zmE l0 x25_1).f0.f2)) ∧ w'.cell? ⟨gb475, 3, none⟩ = some (.int .i64 ((zmE l0 x25_1).f1.f0)) ∧ w'.cell? ⟨gb475, 4, none⟩ = some (.int .i64 ((zmE l0 x25_1).f1.f1)) ∧ w'.cell? ⟨gb475, 5, none⟩ = some (.int .i64 ((zmE l0 x25_1).f1.f2)) ∧ w'.cell? (ad471.add (((ji14)).toNat * 6)) = some (.int .i64 ((zmE l0 (ji14)).f0.f0)) ∧ w'.cell? ⟨(ad471.add (((ji14)).toNat * 6)).block, (ad471.add (((ji14)).toNat * 6)).off + 1, none⟩ = some (.int .i64 ((zmE l0 (ji14)).f0.f1)) ∧ w'.cell? ⟨(ad471.add (((ji14)).toNat * 6)).block, (ad471.add (((ji14)).toNat * 6)).off + 2, none⟩ = some (.int .i64 ((zmE l0 (ji14)).f0.f2)) ∧ w'.cell? ⟨(ad471.add (((ji14)).toNat * 6)).block, (ad471.add (((ji14)).toNat * 6)).off + 3, none⟩ = some (.int .i64 ((zmE l0 (ji14)).f1.f0)) ∧ w'.cell? ⟨(ad471.add (((ji14)).toNat * 6)).block, (ad471.add (((ji14)).toNat * 6)).off + 4, none⟩ = some (.int .i64 ((zmE l0 (ji14)).f1.f1)) ∧ w'.cell? ⟨(ad471.add (((ji14)).toNat * 6)).block, (ad471.add (((ji14)).toNat * 6)).off + 5, none⟩ = some (.int .i64 ((zmE l0 (ji14)).f1.f2))) (ds := []) #[false, false, false, false, false, false, false, false, false, false] (by kernel_rfl) rfl rfl ⟨(zzS BK475.out 0).trans rfl, (zzS BK475.out 1).trans rfl, (zzS BK475.out 2).trans rfl, (zzS BK475.out 3).trans rfl, (zzS BK475.out 4).trans rfl, (zzS BK475.out 5).trans rfl, (zeA HB.out hw476_0), (zeA HB.out hw476_1), (zeA HB.out hw476_2), (zeA HB.out hw476_3), (zeA HB.out hw476_4), (zeA HB.out hw476_5)⟩ (fun hHeld => ?_); refine zwI zjY.tab9 zjY.bits9 (fun HT_ HW_ => ?_)
                generalize w40.drew = w41 at BK475 HB hx476_0 hx476_1 hx476_2 hx476_3 hx476_4 hx476_5 hHeld ⊢
                refine pu_ 1 (some 31) (bl_ 10 2) ?_
                refine pu_ 2 (some 32) (bl_ 10 6) ?_
                refine pu_ 3 (some 33) (bl_ 10 14) ?_
                refine pu_ 4 (some 34) (bl_ 10 30) ?_
                refine pu_ 5 (some 35) (bl_ 10 62) ?_
                refine pu_ 6 (some 36) (bl_ 10 126) ?_
                refine zmW 0 (some 30) (bl_ 10 127) hHeld ?_
                refine zmW 7 (some 37) (bl_ 10 255) hHeld ?_
                refine zdC (i := 8) (N := some 38) (bl_ 10 511) rfl rfl (zeO HT_.out (by kernel_rfl)) (by decide) (fun K hK => ?_)
                refine zqW Tryd.func46 (by kernel_rfl) rfl #[.agg #[.int .i64 ((zmE l0 x25_1).f0.f0), .int .i64 ((zmE l0 x25_1).f0.f1), .int .i64 ((zmE l0 x25_1).f0.f2), .int .i64 ((zmE l0 x25_1).f1.f0), .int .i64 ((zmE l0 x25_1).f1.f1), .int .i64 ((zmE l0 x25_1).f1.f2)], .agg #[.int .i64 ((zmE l0 (ji14)).f0.f0), .int .i64 ((zmE l0 (ji14)).f0.f1), .int .i64 ((zmE l0 (ji14)).f0.f2), .int .i64 ((zmE l0 (ji14)).f1.f0), .int .i64 ((zmE l0 (ji14)).f1.f1), .int .i64 ((zmE l0 (ji14)).f1.f2)]] (by rfl) rfl rfl (by (try simp only [List.map_toArray, List.map_cons, List.map_nil]); first | done | (simp only [hji14]; rfl) | rfl | (simp only [List.length_drop, List.length_take]; rfl)) ?_
                with_reducible refine (zxB.calls k1 ((zmE l0 x25_1).f0.f0) ((zmE l0 x25_1).f0.f1) ((zmE l0 x25_1).f0.f2) ((zmE l0 x25_1).f1.f0) ((zmE l0 x25_1).f1.f1) ((zmE l0 x25_1).f1.f2) ((zmE l0 (ji14)).f0.f0) ((zmE l0 (ji14)).f0.f1) ((zmE l0 (ji14)).f0.f2) ((zmE l0 (ji14)).f1.f0) ((zmE l0 (ji14)).f1.f1) ((zmE l0 (ji14)).f1.f2) t477 _ ?side1 A17.out).mono ?_
                (case side1 => exact LaidV.below hG bb_)
                rintro e w42 ⟨rfl, hb⟩
                refine ⟨_, rfl, ?_⟩
                have n0_ := zpS (zgM (g := gb475) (o := .cells #[.int .i64 ((zmE l0 x25_1).f0.f0), .int .i64 ((zmE l0 x25_1).f0.f1), .int .i64 ((zmE l0 x25_1).f0.f2), .int .i64 ((zmE l0 x25_1).f1.f0), .int .i64 ((zmE l0 x25_1).f1.f1), .int .i64 ((zmE l0 x25_1).f1.f2)] 35 (0, 0)) bk_ hb)
                have n1_ := (ns_ hb)
                clear BK475
                clear HB
                have BK475 := n0_
                have HB := n1_
                clear n0_ n1_
                (try clear hb)
                (try clear hb2)
                (try clear hk)
                (try clear hi)
                refine hK.out _ _ ⟨(zzS BK475.out 0).trans rfl, (zzS BK475.out 1).trans rfl, (zzS BK475.out 2).trans rfl, (zzS BK475.out 3).trans rfl, (zzS BK475.out 4).trans rfl, (zzS BK475.out 5).trans rfl, (zeA HB.out hw476_0), (zeA HB.out hw476_1), (zeA HB.out hw476_2), (zeA HB.out hw476_3), (zeA HB.out hw476_4), (zeA HB.out hw476_5)⟩ (fun hHeld => ?_)
                clear hK K
                refine zaN (a' := ?_) ?_ ?_
                rotate_left
                ·show Act.put _ (some 38) _ = _
                 simp only [Act.put, List.setIfInBounds_toArray, List.set_cons_zero, List.set_cons_succ, zcM, ziK]
                 rfl
                refine pu_ 9 (some 8) (bl_ 10 1023) ?_
                refine znK (zzP HT_.out (by kernel_rfl)) ?_
                try go_wp2_with (first | ((with_reducible refine zgK (f := 47) rfl ?_); refine zqQ (some 42) rfl rfl Tryd.func47 (by kernel_rfl) rfl #[.int .i64 (wrap64 (t477 - x5_1))] rfl (by (try simp only [List.map_toArray, List.map_cons, List.map_nil]); first | done | rfl | (simp only [List.length_drop, List.length_take]; rfl)) ?_; (with_reducible refine (zbC.calls (wrap64 (t477 - x5_1)) t478 _ A18.out).mono ?_); rintro e w' ⟨rfl, ⟨nd, rfl⟩⟩; refine ⟨_, rfl, ?_⟩) | (go_at_call 34; (with_reducible refine (zrP.calls t478 1 7 false _ A31.out).mono ?_); rintro e w' ⟨rfl, ⟨nd, rfl⟩⟩))
                go_ret
                exact ⟨by first | rfl | (simp [ziS, znJ] <;> rfl) | (simp only [← hji3, ← hji14]; first | rfl | (simp [ziS, znJ] <;> rfl)) | (simp [*, ziS, znJ] <;> rfl), bb_⟩
            ·rw [if_neg c16] at H
             exact absurd H (by simp)
           ·rw [if_neg c15] at H
            exact absurd H (by simp)
         ·rw [if_neg c12] at H
          exact absurd H (by simp)
        ·rw [if_neg c11] at H
         exact absurd H (by simp)
       ·rw [if_neg c10] at H
        have c10b0 : decide (x25_1 < (l0.length : Int)) = false := decide_eq_false c10
        clear c10
        obtain rfl := Option.some.inj H
        go_wp2
        go_ret
        exact ⟨by first | rfl | (simp [ziS, znJ] <;> rfl) | (simp only [← hji3]; first | rfl | (simp [ziS, znJ] <;> rfl)) | (simp [*, ziS, znJ] <;> rfl), bb_⟩
    ·rw [if_neg c6] at H
     exact absurd H (by simp)
   ·rw [if_neg c5] at H
    exact absurd H (by simp)
  ·rw [if_neg c4] at H
   exact absurd H (by simp)

end Go.Proofs.YtbnfbflfhpniaaaDoor.PFnExactNormalPolygon
