-- Printed for this claim by this session's program pp.py, which drives the kit's print with additions. Not trusted: Lean checks it.
import Derived.Test.YtdnblakbegjohaaV1PFnCrimpsx0
import Derived.Test.YtdnblakbegjohaaV1PFnCrimpsx5
namespace Go.Proofs.Ytdnblakbegjohaa.PFnCrimps
open Go.RowKit Go.Proofs.YtdnblakbegjohaaW.PrintWords Go.Proofs.YtdnblakbegjohaaW.PrintLast Go.Proofs.YtdnblakbegjohaaW.PrintMore
attribute [local go_sem] max2_int min2_int max_two min_two znE zuB max_four min_four   -- for this text's walks alone
set_option linter.unusedVariables false
set_option linter.unusedSimpArgs false

theorem impl_areKinds_1.calls (a0 m : Int) (b : Bool) (c : Addr) (w : World) (hc : w.cell? c = some (.int .i64 m)) (h : zrP.f a0 2 m = some (!b)) :
  Calls Try.prog 29 #[.int .i64 a0, .pointer (some c)] w fun e w' => e = .returned (.bool b) ∧ Drawn0 w w' := by
 have HW := zpS h
 clear h
 go_enter Try.func29, Try.ntmps29
 go_wp2_with (go_at_call 17; (with_reducible refine (zrP.calls _ _ _ _ _ HW.out).mono ?_); rintro e w' ⟨rfl, ⟨nd, rfl⟩⟩)
 go_ret
 exact ⟨by simp, by repeat (first | exact Drawn0.refl _ | apply Drawn0.step)⟩
theorem impl_areKinds_w (a m : Int) (b : Bool) (h : decide (2 ≤ a ∧ a ≤ m) = !b) : zrP.f a 2 m = some (!b) := by
 rw [← h]
 unfold zrP.f
 by_cases h : 2 ≤ a <;> simp [h]
def zcN.i (m : Int) : Nat → List Int → Int
 | _, [] => -1
 | j, x :: xs => if 2 ≤ x ∧ x ≤ m then zcN.i m (j + 1) xs else (j : Int)
theorem zcN.i_any (m : Int) : ∀ (l : List Int) (j : Nat), (0 ≤ zcN.i m j l ↔ l.any (fun x => !decide (2 ≤ x ∧ x ≤ m)) = true)
 | [], j => by simp [zcN.i]
 | x :: xs, j => by
  by_cases h : 2 ≤ x ∧ x ≤ m
  ·simp only [zcN.i, if_pos h, zcN.i_any m xs (j + 1)]; simp [h]
  ·simp only [zcN.i, if_neg h]
   constructor
   ·intro _; rw [List.any_cons, decide_eq_false h]; rfl
   ·intro _; exact Int.natCast_nonneg j
set_option maxHeartbeats 8000000 in
set_option maxRecDepth 100000 in
theorem zcN.icalls (m : Int) (c : Addr) (A0 : Option Addr) (c0 : Nat) (l0 : List Int) (w : World) (hr0 : Kd.C (Kd.int .i64) w A0 l0.length l0) (hc0 : l0.length ≤ c0) (hc : w.cell? c = some (.int .i64 m)) :
  Calls Try.prog 36 #[.slice A0 l0.length c0, .func (.func 29) #[] #[.pointer (some c)]] w fun e w' => e = .returned (.int .i64 (zcN.i m 0 l0)) ∧ Drawn0 w w' := by
 have hmx := hr0.2.1
 have HR0 := zpS hr0
 have HC0 := zpS hc0
 have HCE := zpS hc
 clear hr0 hc0 hc
 obtain ⟨r, hr⟩ : ∃ r, r = zcN.i m 0 l0 := ⟨_, rfl⟩
 rw [← hr]
 have H' := zpS (show zcN.i m 0 l0 = r from hr.symm)
 clear hr
 go_enter Try.func36, Try.ntmps36
 go_wp2
 go_loopg [8] l0.length (fun kq v8 w' => ∃ j : Nat, v8 = .int .i64 j ∧ Aside0 (zcN.i m j (l0.drop j) = r) ∧ Aside0 (kq + j = l0.length) ∧ Drawn0 w w')
 case atStart => exact ⟨0, rfl, H', ⟨rfl⟩, Drawn0.refl _⟩
 case round =>
  clear H'
  obtain ⟨j, rfl, HA, HK1, ⟨m1, rfl⟩⟩ := hrel
  by_cases hlt : j < l0.length
  ·have H := HA.out
   rw [List.drop_eq_getElem_cons hlt] at H
   simp only [zcN.i] at H
   have hrd : l0[j] = rd l0 (j : Int) := by
    unfold rd
    rw [Int.toNat_natCast, List.getD_eq_getElem?_getD, List.getElem?_eq_getElem hlt]
    rfl
   rw [hrd] at H
   clear HA hrd
   have c2b0 : decide ((j : Int) < (l0.length : Int)) = true := decide_eq_true (by omega)
   have c3b0 : decide (0 ≤ (j : Int)) = true := decide_eq_true (by omega)
   obtain ⟨ad111, e111, hx111_0⟩ := Kd.at_int HR0.out (j : Int) (by omega) (by omega)
   cases e111
   rw [Int.toNat_natCast] at hx111_0
   by_cases b : 2 ≤ rd l0 (j : Int) ∧ rd l0 (j : Int) ≤ m
   ·rw [if_pos b] at H
    have H2 := zpS H
    have HB := zpS (impl_areKinds_w _ m false (decide_eq_true b))
    clear H b
    go_wp2_with (go_at_call 29; (with_reducible refine (impl_areKinds_1.calls _ m _ c _ ?hx1 HB.out).mono ?_); (case hx1 => exact HCE.out); rintro e w' ⟨rfl, ⟨nd, rfl⟩⟩)
    go_roundg (l0.length - (j + 1))
    case measure => have := HK1.out; omega
    case rel => exact ⟨j + 1, by (try rw [wrap64]); go_num, H2, ⟨by omega⟩, by repeat (first | exact Drawn0.refl _ | apply Drawn0.step)⟩
   ·rw [if_neg b] at H
    subst H
    have HB := zpS (impl_areKinds_w _ m true (decide_eq_false b))
    clear b
    go_wp2_with (go_at_call 29; (with_reducible refine (impl_areKinds_1.calls _ m _ c _ ?hx2 HB.out).mono ?_); (case hx2 => exact HCE.out); rintro e w' ⟨rfl, ⟨nd, rfl⟩⟩)
    go_ret
    exact ⟨rfl, by repeat (first | exact Drawn0.refl _ | apply Drawn0.step)⟩
  ·have H := HA.out
   rw [List.drop_eq_nil_of_le (by omega)] at H
   simp only [zcN.i] at H
   subst H
   have c2b0 : decide ((j : Int) < (l0.length : Int)) = false := decide_eq_false (by omega)
   go_wp2
   go_ret
   exact ⟨rfl, by repeat (first | exact Drawn0.refl _ | apply Drawn0.step)⟩
set_option maxHeartbeats 8000000 in
set_option maxRecDepth 100000 in
theorem zcN.ccalls (m : Int) (c : Addr) (A0 : Option Addr) (c0 : Nat) (l0 : List Int) (w : World) (hr0 : Kd.C (Kd.int .i64) w A0 l0.length l0) (hc0 : l0.length ≤ c0) (hc : w.cell? c = some (.int .i64 m)) :
  Calls Try.prog 19 #[.slice A0 l0.length c0, .func (.func 29) #[] #[.pointer (some c)]] w fun e w' => e = .returned (.bool (l0.any (fun x => !decide (2 ≤ x ∧ x ≤ m)))) ∧ Drawn0 w w' := by
 have HI := zcN.i_any m l0 0
 obtain ⟨q, hq⟩ : ∃ q, q = zcN.i m 0 l0 := ⟨_, rfl⟩
 obtain ⟨b, hb⟩ : ∃ b, b = l0.any (fun x => !decide (2 ≤ x ∧ x ≤ m)) := ⟨_, rfl⟩
 rw [← hq, ← hb] at HI
 rw [← hb]
 have hd : decide (0 ≤ q) = b := by
  cases b with
  | true => exact decide_eq_true (HI.2 rfl)
  | false => exact decide_eq_false (fun h => by have := HI.1 h; cases this)
 have HQ := zpS hq
 clear HI hq hb
 go_enter Try.func19, Try.ntmps19
 go_wp2_with (go_at_call 36; (with_reducible refine (zcN.icalls m c _ _ l0 _ ?h1 ?h2 ?h3).mono ?_); (case h1 => exact hr0); (case h2 => exact hc0); (case h3 => exact hc); rw [← HQ.out]; rintro e w' ⟨rfl, ⟨nd, rfl⟩⟩)
 go_ret
 exact ⟨rfl, by repeat (first | exact Drawn0.refl _ | apply Drawn0.step)⟩
def zcN.f (l0 l1 : List Int) (a2 : Bool) : Option Bool := some (decide (l1.length = l0.length) && !(l1.any (fun x => !decide (2 ≤ x ∧ x ≤ if a2 = true then 4 else 3))))
set_option maxHeartbeats 8000000 in
set_option maxRecDepth 100000 in
theorem zcN.calls (A0 : Option Addr) (c0 : Nat) (l0 : List Int) (A1 : Option Addr) (c1 : Nat) (l1 : List Int) (a2 : Bool) (r : Bool) (w : World) (hr0 : Kd.C (Kd.int .i64) w A0 l0.length l0) (_hc0 : l0.length ≤ c0) (hr1 : Kd.C (Kd.int .i64) w A1 l1.length l1) (hc1 : l1.length ≤ c1) (h : zcN.f l0 l1 a2 = some r) :
  Calls Try.prog 14 #[.slice A0 l0.length c0, .slice A1 l1.length c1, .bool a2] w fun e w' => e = .returned (.bool r) ∧ Below w.heap.size w w' := by
 have hm0 := hr0.2.1
 have hm1 := hr1.2.1
 have HR1 := zpS hr1
 have HC1 := zpS hc1
 have HB := zpS (Below.refl w.heap.size w)
 clear hr0 hr1 hc1
 unfold zcN.f at h
 obtain ⟨b, hb⟩ : ∃ b, b = l1.any (fun x => !decide (2 ≤ x ∧ x ≤ if a2 = true then 4 else 3)) := ⟨_, rfl⟩
 rw [← hb] at h
 by_cases he : l1.length = l0.length
 ·rw [decide_eq_true he, Bool.true_and] at h
  obtain rfl := Option.some.inj h
  clear h
  have HBB := zpS hb
  have heq : ((l1.length : Int) == (l0.length : Int)) = true := by rw [he]; simp
  have heq2 : (l1.length == l0.length) = true := by rw [he]; simp
  clear hb he
  cases a2 with
  | true =>
   have HE := zpS (show b = l1.any (fun x => !decide (2 ≤ x ∧ x ≤ 4)) from HBB.out)
   clear HBB
   go_enter Try.func14, Try.ntmps14
   go_wp2_with (go_at_call 19; (with_reducible refine (zcN.ccalls 4 ⟨w.heap.size, 0, none⟩ _ _ l1 _ ?h1 HC1.out ?h3).mono ?_); (case h1 => exact Kd.C_below HR1.out (znU HB.out _)); (case h3 => go_simp); rw [← HE.out]; rintro e w' ⟨rfl, ⟨nd, rfl⟩⟩)
   go_ret
   exact ⟨rfl, by repeat (first | exact HB.out | apply znU | apply zkZ | apply zvF)⟩
  | false =>
   have HE := zpS (show b = l1.any (fun x => !decide (2 ≤ x ∧ x ≤ 3)) from HBB.out)
   clear HBB
   go_enter Try.func14, Try.ntmps14
   go_wp2_with (go_at_call 19; (with_reducible refine (zcN.ccalls 3 ⟨w.heap.size, 0, none⟩ _ _ l1 _ ?h1 HC1.out ?h3).mono ?_); (case h1 => exact Kd.C_below HR1.out (znU HB.out _)); (case h3 => go_simp); rw [← HE.out]; rintro e w' ⟨rfl, ⟨nd, rfl⟩⟩)
   go_ret
   exact ⟨rfl, by repeat (first | exact HB.out | apply znU | apply zkZ | apply zvF)⟩
 ·rw [decide_eq_false he, Bool.false_and] at h
  obtain rfl := Option.some.inj h
  clear h hb
  have heq : ((l1.length : Int) == (l0.length : Int)) = false := by simpa using fun c => he (by omega)
  have heq2 : (l1.length == l0.length) = false := by simpa using he
  clear he
  cases a2 with
  | true =>
   go_enter Try.func14, Try.ntmps14
   go_wp2
   go_ret
   exact ⟨rfl, by repeat (first | exact HB.out | apply znU | apply zkZ | apply zvF)⟩
  | false =>
   go_enter Try.func14, Try.ntmps14
   go_wp2
   go_ret
   exact ⟨rfl, by repeat (first | exact HB.out | apply znU | apply zkZ | apply zvF)⟩

mutual
def zpB.l0 : Nat → List Int → Int → List (S51) → List Int → Int → Int → Option ((List (S51)))
 | 0, _, _, _, _, _, _ => none
 | k + 1, x0, x3, x4, x10, x11, x12 => if x12 < x11 then (if 0 ≤ x12 then (if x12 < (x10.length : Int) then (if x3 = 0 then (none) else (if 0 ≤ (Int.tmod (wrap64 ((wrap64 (x12 + x3)) - 1)) x3) then (if (Int.tmod (wrap64 ((wrap64 (x12 + x3)) - 1)) x3) < (x0.length : Int) then (if (rd x0 (Int.tmod (wrap64 ((wrap64 (x12 + x3)) - 1)) x3)) ≤ (rd x10 x12) then (zpB.l0 k x0 x3 x4 x10 x11 (wrap64 (x12 + 1))) else (zpB.l1 k x0 x3 x4 x12 (rd x10 x12) 1 x10 x11 x12)) else (none)) else (none))) else (none)) else (none)) else (some x4)
def zpB.l1 : Nat → List Int → Int → List (S51) → Int → Int → Int → List Int → Int → Int → Option ((List (S51)))
 | 0, _, _, _, _, _, _, _, _, _ => none
 | k + 1, x0, x3, x4, x5, x6, x7, x10, x11, x12 => if x7 < x3 then (if x3 = 0 then (none) else (if 0 ≤ (Int.tmod (wrap64 (x5 + x7)) x3) then (if (Int.tmod (wrap64 (x5 + x7)) x3) < (x0.length : Int) then (if (rd x0 (Int.tmod (wrap64 (x5 + x7)) x3)) = x6 then (zpB.l1 k x0 x3 x4 x5 x6 (wrap64 (x7 + 1)) x10 x11 x12) else (if (rd x0 (Int.tmod (wrap64 (x5 + x7)) x3)) > x6 then (if x4.length < 5864062014805 then (zpB.l0 k x0 x3 (x4 ++ [(⟨x5, x7, x6⟩ : S51)]) x10 x11 (wrap64 (x12 + 1))) else (none)) else (zpB.l0 k x0 x3 x4 x10 x11 (wrap64 (x12 + 1))))) else (none)) else (none))) else (if x3 = 0 then (none) else (if 0 ≤ (Int.tmod (wrap64 (x5 + x7)) x3) then (if (Int.tmod (wrap64 (x5 + x7)) x3) < (x0.length : Int) then (if (rd x0 (Int.tmod (wrap64 (x5 + x7)) x3)) > x6 then (if x4.length < 5864062014805 then (zpB.l0 k x0 x3 (x4 ++ [(⟨x5, x7, x6⟩ : S51)]) x10 x11 (wrap64 (x12 + 1))) else (none)) else (zpB.l0 k x0 x3 x4 x10 x11 (wrap64 (x12 + 1)))) else (none)) else (none)))
end
def zpB.f (k : Nat) (l0 : List Int) : Option ((List (S51))) := zpB.l0 k l0 (l0.length : Int) ([] : List (S51)) l0 (l0.length : Int) 0
theorem zpB.mono_l : ∀ k, (∀ y0 y1 y2 y3 y4 y5, LeO (zpB.l0 k y0 y1 y2 y3 y4 y5) (zpB.l0 (k + 1) y0 y1 y2 y3 y4 y5)) ∧ (∀ y0 y1 y2 y3 y4 y5 y6 y7 y8, LeO (zpB.l1 k y0 y1 y2 y3 y4 y5 y6 y7 y8) (zpB.l1 (k + 1) y0 y1 y2 y3 y4 y5 y6 y7 y8))
 | 0 => ⟨fun _ _ _ _ _ _ r h => by simp [zpB.l0] at h, fun _ _ _ _ _ _ _ _ _ r h => by simp [zpB.l1] at h⟩
 | k + 1 => by
  obtain ⟨ih0, ih1⟩ := zpB.mono_l k
  refine ⟨?_, ?_⟩
  ·intro y0 y1 y2 y3 y4 y5
   unfold zpB.l0
   repeat' first
   | (with_reducible exact ih0 _ _ _ _ _ _)
   | (with_reducible exact ih1 _ _ _ _ _ _ _ _ _)
   | (with_reducible exact LeO.refl _)
   | (with_reducible exact LeO.none _)
   | (with_reducible refine LeO.ite ?_ ?_)
   | (with_reducible refine LeO.bind ?_ (fun _ => ?_))
   | exact ih0 _ _ _ _ _ _
   | exact ih1 _ _ _ _ _ _ _ _ _
   | exact LeO.none _
   | refine LeO.ite ?_ ?_
   | refine LeO.bind ?_ (fun _ => ?_)
  ·intro y0 y1 y2 y3 y4 y5 y6 y7 y8
   unfold zpB.l1
   repeat' first
   | (with_reducible exact ih0 _ _ _ _ _ _)
   | (with_reducible exact ih1 _ _ _ _ _ _ _ _ _)
   | (with_reducible exact LeO.refl _)
   | (with_reducible exact LeO.none _)
   | (with_reducible refine LeO.ite ?_ ?_)
   | (with_reducible refine LeO.bind ?_ (fun _ => ?_))
   | exact ih0 _ _ _ _ _ _
   | exact ih1 _ _ _ _ _ _ _ _ _
   | exact LeO.none _
   | refine LeO.ite ?_ ?_
   | refine LeO.bind ?_ (fun _ => ?_)
theorem zpB.mono : ∀ a0 k, LeO (zpB.f k a0) (zpB.f (k + 1) a0) := by
 intro a0 k
 obtain ⟨ih0, ih1⟩ := zpB.mono_l k
 unfold zpB.f
 repeat' first
   | (with_reducible exact ih0 _ _ _ _ _ _)
   | (with_reducible exact ih1 _ _ _ _ _ _ _ _ _)
   | (with_reducible exact LeO.refl _)
   | (with_reducible exact LeO.none _)
   | (with_reducible refine LeO.ite ?_ ?_)
   | (with_reducible refine LeO.bind ?_ (fun _ => ?_))
   | exact ih0 _ _ _ _ _ _
   | exact ih1 _ _ _ _ _ _ _ _ _
   | exact LeO.none _
   | refine LeO.ite ?_ ?_
   | refine LeO.bind ?_ (fun _ => ?_)
set_option maxHeartbeats 8000000 in
set_option maxRecDepth 100000 in
theorem zpB.calls (k : Nat) (A0 : Option Addr) (c0 : Nat) (l0 : List Int) (r : List (S51)) (w : World) (hr0 : Kd.C (Kd.int .i64) w A0 l0.length l0) (hc0 : l0.length ≤ c0) (h : zpB.f k l0 = some r) :
  Calls Try.prog 31 #[.slice A0 l0.length c0] w fun e w' => ∃ v0_ : Value, e = .returned (v0_) ∧ Kd.R k51 51 w' w.heap.size (fun _ => True) v0_ r ∧ Below w.heap.size w w' := by
 have hu51 := Try.underlying51
 have HR0 := zpS hr0
 have HC0 := zpS hc0
 clear hr0 hc0
 have HB := zpS (Below.refl w.heap.size w)
 have H : (zpB.l0 k l0 (l0.length : Int) ([] : List (S51)) l0 (l0.length : Int) 0) = some r := h
 clear h
 have H' := zpS H
 clear H
 go_enter Try.func31, Try.ntmps31
 go_wp2
 (try go_simp)
 go_loopg [4, 12] k (fun kq v4 v12 w' => ∃ (x4_1 : List (S51)) (x12_1 : Int), v12 = .int .i64 x12_1 ∧ Aside0 (zpB.l0 kq l0 (l0.length : Int) x4_1 l0 (l0.length : Int) x12_1 = some r) ∧ Aside0 (kq ≤ k) ∧ Aside0 (Kd.R k51 51 w' w.heap.size (fun _ => True) v4 x4_1) ∧ Aside0 (Below w.heap.size w w'))
 case atStart => exact ⟨(([] : List (S51))), (0), (by first | rfl | (simp; done) | (simp [*]; done)), H', ⟨Nat.le_refl _⟩, ⟨by first | exact Kd.R_nil _ _ _ _ _ | exact Kd.N_nil _ _ _ _ _ | exact Kd.V_nil _ _ _ _ _ | exact Kd.Q_nil _ _ _ _ _ | exact Kd.S_nil _ _ _ _ _⟩, ⟨bb_⟩⟩
 case round =>
  clear H'
  obtain ⟨x4_1, x12_1, rfl, HA, HK1, HO_4, HB⟩ := hrel
  cases gk with
  | zero => exact absurd HA.out (by simp [zpB.l0])
  | succ k1 =>
   have H := HA.out
   clear HA
   simp only [zpB.l0] at H
   by_cases c2 : x12_1 < (l0.length : Int)
   ·rw [if_pos c2] at H
    have c2b0 : decide (x12_1 < (l0.length : Int)) = true := decide_eq_true c2
    clear c2
    by_cases c3 : 0 ≤ x12_1
    ·rw [if_pos c3] at H
     have c3b0 : decide (0 ≤ x12_1) = true := decide_eq_true c3
     clear c3
     by_cases c4 : x12_1 < (l0.length : Int)
     ·rw [if_pos c4] at H
      have c4b0 : decide (x12_1 < (l0.length : Int)) = true := decide_eq_true c4
      clear c4
      by_cases c5 : (l0.length : Int) = 0
      ·rw [if_pos c5] at H
       exact absurd H (by simp)
      ·rw [if_neg c5] at H
       have c5b0 : ((l0.length : Int) == 0) = false := beq_eq_false_iff_ne.mpr c5
       have c5b1 : ((l0.length : Int) != 0) = true := bne_iff_ne.mpr c5
       have c5b2 : ¬ (l0 = []) := fun h_ => c5 (by rw [h_]; rfl)
       obtain ⟨ji6, hji6⟩ : ∃ j_ : Int, (Int.tmod (wrap64 ((wrap64 (x12_1 + (l0.length : Int))) - 1)) (l0.length : Int)) = j_ := ⟨_, rfl⟩
       replace H : (if 0 ≤ (ji6) then (if (ji6) < (l0.length : Int) then (if (rd l0 (ji6)) ≤ (rd l0 x12_1) then (zpB.l0 k1 l0 (l0.length : Int) x4_1 l0 (l0.length : Int) (wrap64 (x12_1 + 1))) else (zpB.l1 k1 l0 (l0.length : Int) x4_1 x12_1 (rd l0 x12_1) 1 l0 (l0.length : Int) x12_1)) else (none)) else (none)) = some r := by first | (rw [hji6] at H; exact H) | (simp only [hji6] at H ⊢; exact H)
       by_cases c7 : 0 ≤ (ji6)
       ·rw [if_pos c7] at H
        have c7b0 : decide (0 ≤ (ji6)) = true := decide_eq_true c7
        clear c7
        by_cases c8 : (ji6) < (l0.length : Int)
        ·rw [if_pos c8] at H
         have c8b0 : decide ((ji6) < (l0.length : Int)) = true := decide_eq_true c8
         clear c8
         by_cases c9 : (rd l0 (ji6)) ≤ (rd l0 x12_1)
         ·rw [if_pos c9] at H
          have c9b0 : decide ((rd l0 (ji6)) ≤ (rd l0 x12_1)) = true := decide_eq_true c9
          clear c9
          have H' := zpS H
          clear H
          have p288 : 0 ≤ (x12_1 : Int) := of_decide_eq_true (by first | (with_reducible assumption) | assumption)
          have q288 : x12_1 < (l0.length : Int) := of_decide_eq_true (by first | (with_reducible assumption) | assumption)
          obtain ⟨ad288, e288, hx288_0⟩ := Kd.at_int HR0.out x12_1 p288 q288
          cases e288
          replace hx288_0 := cel_ HB.out hx288_0
          replace p288 := eq_true p288
          replace q288 := eq_true q288
          have p289 : 0 ≤ ((ji6) : Int) := of_decide_eq_true (by first | (with_reducible assumption) | assumption)
          have q289 : (ji6) < (l0.length : Int) := of_decide_eq_true (by first | (with_reducible assumption) | assumption)
          obtain ⟨ad289, e289, hx289_0⟩ := Kd.at_int HR0.out (ji6) p289 q289
          obtain rfl : ad288 = ad289 := (by injection e289)
          replace hx289_0 := cel_ HB.out hx289_0
          replace p289 := eq_true p289
          replace q289 := eq_true q289
          go_wp2
          go_roundg k1
          case measure => have := HK1.out; omega
          case rel => exact ⟨(x4_1), (wrap64 (x12_1 + 1)), (by first | rfl | (simp; done) | (simp [*]; done)), H', ⟨by have := HK1.out; omega⟩, ⟨by (with_reducible repeat (first | apply Kd.R_alloc | apply Kd.R_drewN | apply Kd.R_drew)); exact HO_4.out⟩, ⟨bb_⟩⟩
         ·rw [if_neg c9] at H
          have c9b0 : decide ((rd l0 (ji6)) ≤ (rd l0 x12_1)) = false := decide_eq_false c9
          clear c9
          have H' := zpS H
          clear H
          have p288 : 0 ≤ (x12_1 : Int) := of_decide_eq_true (by first | (with_reducible assumption) | assumption)
          have q288 : x12_1 < (l0.length : Int) := of_decide_eq_true (by first | (with_reducible assumption) | assumption)
          obtain ⟨ad288, e288, hx288_0⟩ := Kd.at_int HR0.out x12_1 p288 q288
          cases e288
          replace hx288_0 := cel_ HB.out hx288_0
          replace p288 := eq_true p288
          replace q288 := eq_true q288
          have p289 : 0 ≤ ((ji6) : Int) := of_decide_eq_true (by first | (with_reducible assumption) | assumption)
          have q289 : (ji6) < (l0.length : Int) := of_decide_eq_true (by first | (with_reducible assumption) | assumption)
          obtain ⟨ad289, e289, hx289_0⟩ := Kd.at_int HR0.out (ji6) p289 q289
          obtain rfl : ad288 = ad289 := (by injection e289)
          replace hx289_0 := cel_ HB.out hx289_0
          replace p289 := eq_true p289
          replace q289 := eq_true q289
          go_wp2
          (try go_simp)
          go_loopg [7] k1 (fun kq v7 w' => ∃ (x7_2 : Int), v7 = .int .i64 x7_2 ∧ Aside0 (zpB.l1 kq l0 (l0.length : Int) x4_1 x12_1 (rd l0 x12_1) x7_2 l0 (l0.length : Int) x12_1 = some r) ∧ Aside0 (kq ≤ k1) ∧ Aside0 (Kd.R k51 51 w' w.heap.size (fun _ => True) u4 x4_1) ∧ Aside0 (Below w.heap.size w w'))
          case atStart => exact ⟨(1), (by first | rfl | (simp; done) | (simp [*]; done)), H', ⟨Nat.le_refl _⟩, ⟨by (with_reducible repeat (first | apply Kd.R_alloc | apply Kd.R_drewN | apply Kd.R_drew)); exact HO_4.out⟩, ⟨bb_⟩⟩
          case round =>
           clear H'
           try clear c2
           try clear c2b0
           try clear p2
           try clear q2
           try clear hx2
           try clear c3
           try clear c3b0
           try clear c4
           try clear c4b0
           try clear c5
           try clear c5b0
           try clear c5b1
           try clear c5b2
           try clear p6
           try clear c7
           try clear c7b0
           try clear c8
           try clear c8b0
           try clear c9
           try clear c9b0
           try clear hx288_0
           try clear hx289_0
           try clear p288
           try clear p289
           try clear q288
           try clear q289
           obtain ⟨x7_2, rfl, HA, HK2, HO_4, HB⟩ := hrel
           cases gk with
           | zero => exact absurd HA.out (by simp [zpB.l1])
           | succ k2 =>
            have H := HA.out
            clear HA
            simp only [zpB.l1] at H
            by_cases c10 : x7_2 < (l0.length : Int)
            ·rw [if_pos c10] at H
             have c10b0 : decide (x7_2 < (l0.length : Int)) = true := decide_eq_true c10
             clear c10
             by_cases c11 : (l0.length : Int) = 0
             ·rw [if_pos c11] at H
              exact absurd H (by simp)
             ·rw [if_neg c11] at H
              have c11b0 : ((l0.length : Int) == 0) = false := beq_eq_false_iff_ne.mpr c11
              have c11b1 : ((l0.length : Int) != 0) = true := bne_iff_ne.mpr c11
              have c11b2 : ¬ (l0 = []) := fun h_ => c11 (by rw [h_]; rfl)
              obtain ⟨ji12, hji12⟩ : ∃ j_ : Int, (Int.tmod (wrap64 (x12_1 + x7_2)) (l0.length : Int)) = j_ := ⟨_, rfl⟩
              replace H : (if 0 ≤ (ji12) then (if (ji12) < (l0.length : Int) then (if (rd l0 (ji12)) = (rd l0 x12_1) then (zpB.l1 k2 l0 (l0.length : Int) x4_1 x12_1 (rd l0 x12_1) (wrap64 (x7_2 + 1)) l0 (l0.length : Int) x12_1) else (if (rd l0 (ji12)) > (rd l0 x12_1) then (if x4_1.length < 5864062014805 then (zpB.l0 k2 l0 (l0.length : Int) (x4_1 ++ [(⟨x12_1, x7_2, (rd l0 x12_1)⟩ : S51)]) l0 (l0.length : Int) (wrap64 (x12_1 + 1))) else (none)) else (zpB.l0 k2 l0 (l0.length : Int) x4_1 l0 (l0.length : Int) (wrap64 (x12_1 + 1))))) else (none)) else (none)) = some r := by first | (rw [hji12] at H; exact H) | (simp only [hji12] at H ⊢; exact H)
              by_cases c13 : 0 ≤ (ji12)
              ·rw [if_pos c13] at H
               have c13b0 : decide (0 ≤ (ji12)) = true := decide_eq_true c13
               clear c13
               by_cases c14 : (ji12) < (l0.length : Int)
               ·rw [if_pos c14] at H
                have c14b0 : decide ((ji12) < (l0.length : Int)) = true := decide_eq_true c14
                clear c14
                by_cases c15 : (rd l0 (ji12)) = (rd l0 x12_1)
                ·rw [if_pos c15] at H
                 have c15b0 : ((rd l0 (ji12)) == (rd l0 x12_1)) = true := beq_iff_eq.mpr c15
                 have c15b1 : ((rd l0 (ji12)) != (rd l0 x12_1)) = false := bne_eq_false_iff_eq.mpr c15
                 clear c15
                 have H' := zpS H
                 clear H
                 have p290 : 0 ≤ ((ji12) : Int) := of_decide_eq_true (by first | (with_reducible assumption) | assumption)
                 have q290 : (ji12) < (l0.length : Int) := of_decide_eq_true (by first | (with_reducible assumption) | assumption)
                 obtain ⟨ad290, e290, hx290_0⟩ := Kd.at_int HR0.out (ji12) p290 q290
                 obtain rfl : ad288 = ad290 := (by injection e290)
                 replace hx290_0 := cel_ HB.out hx290_0
                 replace p290 := eq_true p290
                 replace q290 := eq_true q290
                 go_wp2
                 go_roundg k2
                 case measure => have := HK1.out; have := HK2.out; omega
                 case rel => exact ⟨(wrap64 (x7_2 + 1)), (by first | rfl | (simp; done) | (simp [*]; done)), H', ⟨by have := HK1.out; have := HK2.out; omega⟩, ⟨by (with_reducible repeat (first | apply Kd.R_alloc | apply Kd.R_drewN | apply Kd.R_drew)); exact HO_4.out⟩, ⟨bb_⟩⟩
                ·rw [if_neg c15] at H
                 have c15b0 : ((rd l0 (ji12)) == (rd l0 x12_1)) = false := beq_eq_false_iff_ne.mpr c15
                 have c15b1 : ((rd l0 (ji12)) != (rd l0 x12_1)) = true := bne_iff_ne.mpr c15
                 by_cases c16 : (rd l0 (ji12)) > (rd l0 x12_1)
                 ·rw [if_pos c16] at H
                  have c16b0 : decide ((rd l0 x12_1) < (rd l0 (ji12))) = true := decide_eq_true c16
                  clear c16
                  by_cases c17 : x4_1.length < 5864062014805
                  ·rw [if_pos c17] at H
                   have LMc17 := zpS c17
                   clear c17
                   obtain ⟨y292, hy292⟩ : ∃ y_ : List (S51), y_ = (x4_1 ++ [(⟨x12_1, x7_2, (rd l0 x12_1)⟩ : S51)]) := ⟨_, rfl⟩
                   replace H : (zpB.l0 k2 l0 (l0.length : Int) y292 l0 (l0.length : Int) (wrap64 (x12_1 + 1))) = some r := by first | (rw [hy292]; with_reducible exact H) | (have H2_ := (Option.bind_some _ _).symm.trans H; rw [hy292]; with_reducible exact H2_) | (have H2_ := (Option.bind_some _ _).symm.trans H; with_reducible exact H2_) | with_reducible exact H | (rw [hy292]; exact H) | exact H
                   have Ny292 := zpS hy292
                   clear hy292
                   have H' := zpS H
                   clear H
                   have p290 : 0 ≤ ((ji12) : Int) := of_decide_eq_true (by first | (with_reducible assumption) | assumption)
                   have q290 : (ji12) < (l0.length : Int) := of_decide_eq_true (by first | (with_reducible assumption) | assumption)
                   obtain ⟨ad290, e290, hx290_0⟩ := Kd.at_int HR0.out (ji12) p290 q290
                   obtain rfl : ad288 = ad290 := (by injection e290)
                   replace hx290_0 := cel_ HB.out hx290_0
                   replace p290 := eq_true p290
                   replace q290 := eq_true q290
                   have p291 : 0 ≤ ((ji12) : Int) := of_decide_eq_true (by first | (with_reducible assumption) | assumption)
                   have q291 : (ji12) < (l0.length : Int) := of_decide_eq_true (by first | (with_reducible assumption) | assumption)
                   obtain ⟨ad291, e291, hx291_0⟩ := Kd.at_int HR0.out (ji12) p291 q291
                   obtain rfl : ad288 = ad291 := (by injection e291)
                   replace hx291_0 := cel_ HB.out hx291_0
                   replace p291 := eq_true p291
                   replace q291 := eq_true q291
                   go_wp2_with (first | ((with_reducible refine zcO (b := .append) (xs := #[.tmp 55, .tmp 60]) rfl ?_); at_builtin; refine Kd.R_append k51 (w0 := w) w.heap.size rfl (.tmp 55) (.tmp 60) 48 51 (.agg #[(.int .i64 0), (.int .i64 0), (.int .i64 0)]) 24 rfl Try.underlying48 info51 rfl (by decide) (by omega) u4 x4_1 (⟨x12_1, x7_2, (rd l0 x12_1)⟩ : S51) [.int .i64 x12_1, .int .i64 x7_2, .int .i64 (rd l0 x12_1)] (fun _ => True) (fun _ => False) rfl rfl ?aP (fun _ hk => hk.elim) ?aF ?aO ?aB ?aS ?aL ?_; (case aP => exact k51_mkM _ _ _ (⟨x12_1, x7_2, (rd l0 x12_1)⟩ : S51)); (case aB => exact bb_); (case aF => exact (fun _ _ => trivial)); (case aO => exact (by (with_reducible repeat (first | apply Kd.R_alloc | apply Kd.R_drewN | apply Kd.R_drew)); exact HO_4.out)); (case aS => exact (zuA bb_)); (case aL => have := LMc17.out; omega); intro v293 w18 ho hb hg hat; rw [← Ny292.out] at ho; have n0_ := zpS (hb); have n1_ := zpS (ho); clear HB; clear HO_4; have HB := n0_; have HO294 := n1_; clear n0_ n1_; clear ho hb hg hat))
                   go_roundg k2
                   case measure => have := HK1.out; have := HK2.out; omega
                   case rel => exact ⟨(y292), (wrap64 (x12_1 + 1)), (by first | rfl | (simp; done) | (simp [*]; done)), H', ⟨by have := HK1.out; have := HK2.out; omega⟩, ⟨by (with_reducible repeat (first | apply Kd.R_alloc | apply Kd.R_drewN | apply Kd.R_drew)); exact HO294.out⟩, ⟨bb_⟩⟩
                  ·rw [if_neg c17] at H
                   exact absurd H (by simp)
                 ·rw [if_neg c16] at H
                  have c16b0 : decide ((rd l0 x12_1) < (rd l0 (ji12))) = false := decide_eq_false c16
                  clear c16
                  have H' := zpS H
                  clear H
                  have p290 : 0 ≤ ((ji12) : Int) := of_decide_eq_true (by first | (with_reducible assumption) | assumption)
                  have q290 : (ji12) < (l0.length : Int) := of_decide_eq_true (by first | (with_reducible assumption) | assumption)
                  obtain ⟨ad290, e290, hx290_0⟩ := Kd.at_int HR0.out (ji12) p290 q290
                  obtain rfl : ad288 = ad290 := (by injection e290)
                  replace hx290_0 := cel_ HB.out hx290_0
                  replace p290 := eq_true p290
                  replace q290 := eq_true q290
                  have p291 : 0 ≤ ((ji12) : Int) := of_decide_eq_true (by first | (with_reducible assumption) | assumption)
                  have q291 : (ji12) < (l0.length : Int) := of_decide_eq_true (by first | (with_reducible assumption) | assumption)
                  obtain ⟨ad291, e291, hx291_0⟩ := Kd.at_int HR0.out (ji12) p291 q291
                  obtain rfl : ad288 = ad291 := (by injection e291)
                  replace hx291_0 := cel_ HB.out hx291_0
                  replace p291 := eq_true p291
                  replace q291 := eq_true q291
                  go_wp2
                  go_roundg k2
                  case measure => have := HK1.out; have := HK2.out; omega
                  case rel => exact ⟨(x4_1), (wrap64 (x12_1 + 1)), (by first | rfl | (simp; done) | (simp [*]; done)), H', ⟨by have := HK1.out; have := HK2.out; omega⟩, ⟨by (with_reducible repeat (first | apply Kd.R_alloc | apply Kd.R_drewN | apply Kd.R_drew)); exact HO_4.out⟩, ⟨bb_⟩⟩
               ·rw [if_neg c14] at H
                exact absurd H (by simp)
              ·rw [if_neg c13] at H
               exact absurd H (by simp)
            ·rw [if_neg c10] at H
             have c10b0 : decide (x7_2 < (l0.length : Int)) = false := decide_eq_false c10
             clear c10
             by_cases c19 : (l0.length : Int) = 0
             ·rw [if_pos c19] at H
              exact absurd H (by simp)
             ·rw [if_neg c19] at H
              have c19b0 : ((l0.length : Int) == 0) = false := beq_eq_false_iff_ne.mpr c19
              have c19b1 : ((l0.length : Int) != 0) = true := bne_iff_ne.mpr c19
              have c19b2 : ¬ (l0 = []) := fun h_ => c19 (by rw [h_]; rfl)
              obtain ⟨ji20, hji20⟩ : ∃ j_ : Int, (Int.tmod (wrap64 (x12_1 + x7_2)) (l0.length : Int)) = j_ := ⟨_, rfl⟩
              replace H : (if 0 ≤ (ji20) then (if (ji20) < (l0.length : Int) then (if (rd l0 (ji20)) > (rd l0 x12_1) then (if x4_1.length < 5864062014805 then (zpB.l0 k2 l0 (l0.length : Int) (x4_1 ++ [(⟨x12_1, x7_2, (rd l0 x12_1)⟩ : S51)]) l0 (l0.length : Int) (wrap64 (x12_1 + 1))) else (none)) else (zpB.l0 k2 l0 (l0.length : Int) x4_1 l0 (l0.length : Int) (wrap64 (x12_1 + 1)))) else (none)) else (none)) = some r := by first | (rw [hji20] at H; exact H) | (simp only [hji20] at H ⊢; exact H)
              by_cases c21 : 0 ≤ (ji20)
              ·rw [if_pos c21] at H
               have c21b0 : decide (0 ≤ (ji20)) = true := decide_eq_true c21
               clear c21
               by_cases c22 : (ji20) < (l0.length : Int)
               ·rw [if_pos c22] at H
                have c22b0 : decide ((ji20) < (l0.length : Int)) = true := decide_eq_true c22
                clear c22
                by_cases c23 : (rd l0 (ji20)) > (rd l0 x12_1)
                ·rw [if_pos c23] at H
                 have c23b0 : decide ((rd l0 x12_1) < (rd l0 (ji20))) = true := decide_eq_true c23
                 clear c23
                 by_cases c24 : x4_1.length < 5864062014805
                 ·rw [if_pos c24] at H
                  have LMc24 := zpS c24
                  clear c24
                  obtain ⟨y296, hy296⟩ : ∃ y_ : List (S51), y_ = (x4_1 ++ [(⟨x12_1, x7_2, (rd l0 x12_1)⟩ : S51)]) := ⟨_, rfl⟩
                  replace H : (zpB.l0 k2 l0 (l0.length : Int) y296 l0 (l0.length : Int) (wrap64 (x12_1 + 1))) = some r := by first | (rw [hy296]; with_reducible exact H) | (have H2_ := (Option.bind_some _ _).symm.trans H; rw [hy296]; with_reducible exact H2_) | (have H2_ := (Option.bind_some _ _).symm.trans H; with_reducible exact H2_) | with_reducible exact H | (rw [hy296]; exact H) | exact H
                  have Ny296 := zpS hy296
                  clear hy296
                  have H' := zpS H
                  clear H
                  have p295 : 0 ≤ ((ji20) : Int) := of_decide_eq_true (by first | (with_reducible assumption) | assumption)
                  have q295 : (ji20) < (l0.length : Int) := of_decide_eq_true (by first | (with_reducible assumption) | assumption)
                  obtain ⟨ad295, e295, hx295_0⟩ := Kd.at_int HR0.out (ji20) p295 q295
                  obtain rfl : ad288 = ad295 := (by injection e295)
                  replace hx295_0 := cel_ HB.out hx295_0
                  replace p295 := eq_true p295
                  replace q295 := eq_true q295
                  go_wp2_with (first | ((with_reducible refine zcO (b := .append) (xs := #[.tmp 55, .tmp 60]) rfl ?_); at_builtin; refine Kd.R_append k51 (w0 := w) w.heap.size rfl (.tmp 55) (.tmp 60) 48 51 (.agg #[(.int .i64 0), (.int .i64 0), (.int .i64 0)]) 24 rfl Try.underlying48 info51 rfl (by decide) (by omega) u4 x4_1 (⟨x12_1, x7_2, (rd l0 x12_1)⟩ : S51) [.int .i64 x12_1, .int .i64 x7_2, .int .i64 (rd l0 x12_1)] (fun _ => True) (fun _ => False) rfl rfl ?aP (fun _ hk => hk.elim) ?aF ?aO ?aB ?aS ?aL ?_; (case aP => exact k51_mkM _ _ _ (⟨x12_1, x7_2, (rd l0 x12_1)⟩ : S51)); (case aB => exact bb_); (case aF => exact (fun _ _ => trivial)); (case aO => exact (by (with_reducible repeat (first | apply Kd.R_alloc | apply Kd.R_drewN | apply Kd.R_drew)); exact HO_4.out)); (case aS => exact (zuA bb_)); (case aL => have := LMc24.out; omega); intro v297 w25 ho hb hg hat; rw [← Ny296.out] at ho; have n0_ := zpS (hb); have n1_ := zpS (ho); clear HB; clear HO_4; have HB := n0_; have HO298 := n1_; clear n0_ n1_; clear ho hb hg hat))
                  go_roundg k2
                  case measure => have := HK1.out; have := HK2.out; omega
                  case rel => exact ⟨(y296), (wrap64 (x12_1 + 1)), (by first | rfl | (simp; done) | (simp [*]; done)), H', ⟨by have := HK1.out; have := HK2.out; omega⟩, ⟨by (with_reducible repeat (first | apply Kd.R_alloc | apply Kd.R_drewN | apply Kd.R_drew)); exact HO298.out⟩, ⟨bb_⟩⟩
                 ·rw [if_neg c24] at H
                  exact absurd H (by simp)
                ·rw [if_neg c23] at H
                 have c23b0 : decide ((rd l0 x12_1) < (rd l0 (ji20))) = false := decide_eq_false c23
                 clear c23
                 have H' := zpS H
                 clear H
                 have p295 : 0 ≤ ((ji20) : Int) := of_decide_eq_true (by first | (with_reducible assumption) | assumption)
                 have q295 : (ji20) < (l0.length : Int) := of_decide_eq_true (by first | (with_reducible assumption) | assumption)
                 obtain ⟨ad295, e295, hx295_0⟩ := Kd.at_int HR0.out (ji20) p295 q295
                 obtain rfl : ad288 = ad295 := (by injection e295)
                 replace hx295_0 := cel_ HB.out hx295_0
                 replace p295 := eq_true p295
                 replace q295 := eq_true q295
                 go_wp2
                 go_roundg k2
                 case measure => have := HK1.out; have := HK2.out; omega
                 case rel => exact ⟨(x4_1), (wrap64 (x12_1 + 1)), (by first | rfl | (simp; done) | (simp [*]; done)), H', ⟨by have := HK1.out; have := HK2.out; omega⟩, ⟨by (with_reducible repeat (first | apply Kd.R_alloc | apply Kd.R_drewN | apply Kd.R_drew)); exact HO_4.out⟩, ⟨bb_⟩⟩
               ·rw [if_neg c22] at H
                exact absurd H (by simp)
              ·rw [if_neg c21] at H
               exact absurd H (by simp)
        ·rw [if_neg c8] at H
         exact absurd H (by simp)
       ·rw [if_neg c7] at H
        exact absurd H (by simp)
     ·rw [if_neg c4] at H
      exact absurd H (by simp)
    ·rw [if_neg c3] at H
     exact absurd H (by simp)
   ·rw [if_neg c2] at H
    have c2b0 : decide (x12_1 < (l0.length : Int)) = false := decide_eq_false c2
    clear c2
    obtain rfl := Option.some.inj H
    go_wp2
    go_ret
    exact ⟨_, by first | rfl | (simp [ziS, znJ] <;> rfl) | (simp [*, ziS, znJ] <;> rfl), by (with_reducible repeat (first | apply Kd.R_alloc | apply Kd.R_drewN | apply Kd.R_drew)); exact HO_4.out, bb_⟩

def zeT.l0 : Nat → Int → Int → List Int → Int → Int → Option (Int)
 | 0, _, _, _, _, _ => none
 | k + 1, x1, x5, x8, x9, x10 => if x10 < x9 then (if 0 ≤ x10 then (if x10 < (x8.length : Int) then (if (rd x8 x10) = x1 then (zeT.l0 k x1 (wrap64 (x5 + 1)) x8 x9 (wrap64 (x10 + 1))) else (zeT.l0 k x1 x5 x8 x9 (wrap64 (x10 + 1)))) else (none)) else (none)) else (some x5)
def zeT.f (k : Nat) (l0 : List Int) (a1 : Int) : Option (Int) := zeT.l0 k a1 0 l0 (l0.length : Int) 0
theorem zeT.mono_l : ∀ k, (∀ y0 y1 y2 y3 y4, LeO (zeT.l0 k y0 y1 y2 y3 y4) (zeT.l0 (k + 1) y0 y1 y2 y3 y4))
 | 0 => fun _ _ _ _ _ r h => by simp [zeT.l0] at h
 | k + 1 => by
  have ih0 := zeT.mono_l k
  ·intro y0 y1 y2 y3 y4
   unfold zeT.l0
   repeat' first
   | (with_reducible exact ih0 _ _ _ _ _)
   | (with_reducible exact LeO.refl _)
   | (with_reducible exact LeO.none _)
   | (with_reducible refine LeO.ite ?_ ?_)
   | (with_reducible refine LeO.bind ?_ (fun _ => ?_))
   | exact ih0 _ _ _ _ _
   | exact LeO.none _
   | refine LeO.ite ?_ ?_
   | refine LeO.bind ?_ (fun _ => ?_)
theorem zeT.mono : ∀ a0 a1 k, LeO (zeT.f k a0 a1) (zeT.f (k + 1) a0 a1) := by
 intro a0 a1 k
 have ih0 := zeT.mono_l k
 unfold zeT.f
 repeat' first
   | (with_reducible exact ih0 _ _ _ _ _)
   | (with_reducible exact LeO.refl _)
   | (with_reducible exact LeO.none _)
   | (with_reducible refine LeO.ite ?_ ?_)
   | (with_reducible refine LeO.bind ?_ (fun _ => ?_))
   | exact ih0 _ _ _ _ _
   | exact LeO.none _
   | refine LeO.ite ?_ ?_
   | refine LeO.bind ?_ (fun _ => ?_)
set_option maxHeartbeats 8000000 in
set_option maxRecDepth 100000 in
theorem zeT.calls (k : Nat) (A0 : Option Addr) (c0 : Nat) (l0 : List Int) (a1 : Int) (r : Int) (w : World) (hr0 : Kd.C (Kd.int .i64) w A0 l0.length l0) (hc0 : l0.length ≤ c0) (h : zeT.f k l0 a1 = some r) :
  Calls Try.prog 35 #[.slice A0 l0.length c0, .int .i64 a1] w fun e w' => e = .returned (.int .i64 r) ∧ Drawn0 w w' := by
 have HR0 := zpS hr0
 have HC0 := zpS hc0
 clear hr0 hc0
 have H : (zeT.l0 k a1 0 l0 (l0.length : Int) 0) = some r := h
 clear h
 have H' := zpS H
 clear H
 go_enter Try.func35, Try.ntmps35
 go_wp2
 (try go_simp)
 go_loopg [5, 10] k (fun kq v5 v10 w' => ∃ (x5_1 : Int) (x10_1 : Int), v5 = .int .i64 x5_1 ∧ v10 = .int .i64 x10_1 ∧ Aside0 (zeT.l0 kq a1 x5_1 l0 (l0.length : Int) x10_1 = some r) ∧ Aside0 (kq ≤ k) ∧ Drawn0 w w')
 case atStart => exact ⟨(0), (0), (by first | rfl | (simp; done) | (simp [*]; done)), (by first | rfl | (simp; done) | (simp [*]; done)), H', ⟨Nat.le_refl _⟩, by repeat (first | exact Drawn0.refl _ | apply Drawn0.step)⟩
 case round =>
  clear H'
  try clear p2
  obtain ⟨x5_1, x10_1, rfl, rfl, HA, HK1, ⟨m1, rfl⟩⟩ := hrel
  cases gk with
  | zero => exact absurd HA.out (by simp [zeT.l0])
  | succ k1 =>
   have H := HA.out
   clear HA
   simp only [zeT.l0] at H
   by_cases c3 : x10_1 < (l0.length : Int)
   ·rw [if_pos c3] at H
    have c3b0 : decide (x10_1 < (l0.length : Int)) = true := decide_eq_true c3
    clear c3
    by_cases c4 : 0 ≤ x10_1
    ·rw [if_pos c4] at H
     have c4b0 : decide (0 ≤ x10_1) = true := decide_eq_true c4
     clear c4
     by_cases c5 : x10_1 < (l0.length : Int)
     ·rw [if_pos c5] at H
      have c5b0 : decide (x10_1 < (l0.length : Int)) = true := decide_eq_true c5
      clear c5
      by_cases c6 : (rd l0 x10_1) = a1
      ·rw [if_pos c6] at H
       have c6b0 : ((rd l0 x10_1) == a1) = true := beq_iff_eq.mpr c6
       have c6b1 : ((rd l0 x10_1) != a1) = false := bne_eq_false_iff_eq.mpr c6
       clear c6
       have H' := zpS H
       clear H
       have p299 : 0 ≤ (x10_1 : Int) := of_decide_eq_true (by first | (with_reducible assumption) | assumption)
       have q299 : x10_1 < (l0.length : Int) := of_decide_eq_true (by first | (with_reducible assumption) | assumption)
       obtain ⟨ad299, e299, hx299_0⟩ := Kd.at_int HR0.out x10_1 p299 q299
       cases e299
       replace p299 := eq_true p299
       replace q299 := eq_true q299
       go_wp2
       go_roundg k1
       case measure => have := HK1.out; omega
       case rel => exact ⟨(wrap64 (x5_1 + 1)), (wrap64 (x10_1 + 1)), (by first | rfl | (simp; done) | (simp [*]; done)), (by first | rfl | (simp; done) | (simp [*]; done)), H', ⟨by have := HK1.out; omega⟩, by repeat (first | exact Drawn0.refl _ | apply Drawn0.step)⟩
      ·rw [if_neg c6] at H
       have c6b0 : ((rd l0 x10_1) == a1) = false := beq_eq_false_iff_ne.mpr c6
       have c6b1 : ((rd l0 x10_1) != a1) = true := bne_iff_ne.mpr c6
       have H' := zpS H
       clear H
       have p299 : 0 ≤ (x10_1 : Int) := of_decide_eq_true (by first | (with_reducible assumption) | assumption)
       have q299 : x10_1 < (l0.length : Int) := of_decide_eq_true (by first | (with_reducible assumption) | assumption)
       obtain ⟨ad299, e299, hx299_0⟩ := Kd.at_int HR0.out x10_1 p299 q299
       cases e299
       replace p299 := eq_true p299
       replace q299 := eq_true q299
       go_wp2
       go_roundg k1
       case measure => have := HK1.out; omega
       case rel => exact ⟨(x5_1), (wrap64 (x10_1 + 1)), (by first | rfl | (simp; done) | (simp [*]; done)), (by first | rfl | (simp; done) | (simp [*]; done)), H', ⟨by have := HK1.out; omega⟩, by repeat (first | exact Drawn0.refl _ | apply Drawn0.step)⟩
     ·rw [if_neg c5] at H
      exact absurd H (by simp)
    ·rw [if_neg c4] at H
     exact absurd H (by simp)
   ·rw [if_neg c3] at H
    have c3b0 : decide (x10_1 < (l0.length : Int)) = false := decide_eq_false c3
    clear c3
    obtain rfl := Option.some.inj H
    go_wp2
    go_ret
    exact ⟨by first | rfl | (simp; done) | (simp [*]; done), by repeat (first | exact Drawn0.refl _ | apply Drawn0.step)⟩

def impl_abs.f (a0 : Int) : Option (Int) := some (mx a0 (wrap64 (-a0)))
set_option maxHeartbeats 8000000 in
set_option maxRecDepth 100000 in
theorem impl_abs.calls (a0 : Int) (r : Int) (w : World) (h : impl_abs.f a0 = some r) :
  Calls Try.prog 42 #[.int .i64 a0] w fun e w' => e = .returned (.int .i64 r) ∧ Below w.heap.size w w' := by
 have HB := zpS (Below.refl w.heap.size w)
 have H : (some (mx a0 (wrap64 (-a0)))) = some r := h
 clear h
 obtain ⟨ji2, hji2⟩ : ∃ j_ : Int, (mx a0 (wrap64 (-a0))) = j_ := ⟨_, rfl⟩
 replace H : (some ji2) = some r := by first | (rw [hji2] at H; exact H) | (simp only [hji2] at H ⊢; exact H)
 have hji2_ : (if a0 < (wrap64 (-a0)) then (wrap64 (-a0)) else a0) = ji2 := hji2
 obtain rfl := Option.some.inj H
 go_enter Try.func42, Try.ntmps42
 go_wp2
 go_ret
 exact ⟨by first | rfl | (simp [ziS, znJ] <;> rfl) | (simp only [← hji2]; first | rfl | (simp [ziS, znJ] <;> rfl)) | (simp [*, ziS, znJ] <;> rfl), bb_⟩

def zyZ.f (k : Nat) (l0 : List Int) : Option (Int) := (zeT.f k l0 2).bind fun t300 => ((zeT.f k l0 3).bind fun t301 => ((impl_abs.f (wrap64 (t300 - t301))).bind fun t302 => (some t302)))
theorem zyZ.mono : ∀ a0 k, LeO (zyZ.f k a0) (zyZ.f (k + 1) a0) := by
 intro a0 k
 unfold zyZ.f
 repeat' first
   | (with_reducible exact zeT.mono _ _ _)
   | (with_reducible exact LeO.refl _)
   | (with_reducible exact LeO.none _)
   | (with_reducible refine LeO.ite ?_ ?_)
   | (with_reducible refine LeO.bind ?_ (fun _ => ?_))
   | exact zeT.mono _ _ _
   | exact LeO.none _
   | refine LeO.ite ?_ ?_
   | refine LeO.bind ?_ (fun _ => ?_)
set_option maxHeartbeats 8000000 in
set_option maxRecDepth 100000 in
theorem zyZ.calls (k : Nat) (A0 : Option Addr) (c0 : Nat) (l0 : List Int) (r : Int) (w : World) (hr0 : Kd.C (Kd.int .i64) w A0 l0.length l0) (hc0 : l0.length ≤ c0) (h : zyZ.f k l0 = some r) :
  Calls Try.prog 30 #[.slice A0 l0.length c0] w fun e w' => e = .returned (.int .i64 r) ∧ Below w.heap.size w w' := by
 have HR0 := zpS hr0
 have HC0 := zpS hc0
 clear hr0 hc0
 have HB := zpS (Below.refl w.heap.size w)
 have H : ((zeT.f k l0 2).bind fun t300 => ((zeT.f k l0 3).bind fun t301 => ((impl_abs.f (wrap64 (t300 - t301))).bind fun t302 => (some t302)))) = some r := h
 clear h
 replace H := Option.bind_eq_some_iff.mp H
 obtain ⟨t300, A20, H⟩ := H
 replace H : ((zeT.f k l0 3).bind fun t301 => ((impl_abs.f (wrap64 (t300 - t301))).bind fun t302 => (some t302))) = some r := H
 have A2 := zpS A20
 clear A20
 replace H := Option.bind_eq_some_iff.mp H
 obtain ⟨t301, A30, H⟩ := H
 replace H : ((impl_abs.f (wrap64 (t300 - t301))).bind fun t302 => (some t302)) = some r := H
 have A3 := zpS A30
 clear A30
 replace H := Option.bind_eq_some_iff.mp H
 obtain ⟨t302, A40, H⟩ := H
 replace H : (some t302) = some r := H
 have A4 := zpS A40
 clear A40
 obtain rfl := Option.some.inj H
 go_enter Try.func30, Try.ntmps30
 go_wp2_with (first | ((with_reducible refine zgM (f := 35) rfl ?_); refine zqQ (some 4) rfl rfl Try.func35 (by kernel_rfl) rfl #[.slice A0 l0.length c0, .int .i64 2] rfl (by (try simp only [List.map_toArray, List.map_cons, List.map_nil]); first | done | rfl | (simp only [List.length_drop, List.length_take]; rfl)) ?_; (with_reducible refine (zeT.calls k _ _ l0 2 t300 _ ?side1 ?side2 A2.out).mono ?_); (case side1 => repeat (first | exact HR0.out | (with_reducible refine Kd.C_alloc ?_ _) | (with_reducible refine Kd.C_drewN ?_ _) | (with_reducible refine Kd.C_drew ?_))); (case side2 => exact HC0.out); rintro e w' ⟨rfl, ⟨nd, rfl⟩⟩; refine ⟨_, rfl, ?_⟩) | ((with_reducible refine zgM (f := 35) rfl ?_); refine zqQ (some 6) rfl rfl Try.func35 (by kernel_rfl) rfl #[.slice A0 l0.length c0, .int .i64 3] rfl (by (try simp only [List.map_toArray, List.map_cons, List.map_nil]); first | done | rfl | (simp only [List.length_drop, List.length_take]; rfl)) ?_; (with_reducible refine (zeT.calls k _ _ l0 3 t301 _ ?side1 ?side2 A3.out).mono ?_); (case side1 => repeat (first | exact HR0.out | (with_reducible refine Kd.C_alloc ?_ _) | (with_reducible refine Kd.C_drewN ?_ _) | (with_reducible refine Kd.C_drew ?_))); (case side2 => exact HC0.out); rintro e w' ⟨rfl, ⟨nd, rfl⟩⟩; refine ⟨_, rfl, ?_⟩) | ((with_reducible refine zgM (f := 42) rfl ?_); refine zqQ (some 8) rfl rfl Try.func42 (by kernel_rfl) rfl #[.int .i64 (wrap64 (t300 - t301))] rfl (by (try simp only [List.map_toArray, List.map_cons, List.map_nil]); first | done | rfl | (simp only [List.length_drop, List.length_take]; rfl)) ?_; (with_reducible refine (impl_abs.calls (wrap64 (t300 - t301)) t302 _ A4.out).mono ?_); rintro e w5 ⟨rfl, hb⟩; refine ⟨_, rfl, ?_⟩; have n0_ := (ns_ hb); clear HB; have HB := n0_; clear n0_; (try clear hb); (try clear hb2)))
 go_ret
 exact ⟨by first | rfl | (simp [ziS, znJ] <;> rfl) | (simp [*, ziS, znJ] <;> rfl), bb_⟩

def zrS.l0 : Nat → List Int → List Int → List Int → Int → Int → Option (List Int)
 | 0, _, _, _, _, _ => none
 | k + 1, x0, x5, x8, x9, x10 => if x10 < x9 then (if 0 ≤ x10 then (if x10 < (x8.length : Int) then (if 0 ≤ (rd x8 x10) then (if (rd x8 x10) < (x0.length : Int) then (if x5.length < 17592186044416 then (zrS.l0 k x0 (x5 ++ [rd x0 (rd x8 x10)]) x8 x9 (wrap64 (x10 + 1))) else (none)) else (none)) else (none)) else (none)) else (none)) else (some x5)
def zrS.f (k : Nat) (l0 : List Int) (l1 : List Int) : Option (List Int) := zrS.l0 k l0 ([] : List Int) l1 (l1.length : Int) 0
theorem zrS.mono_l : ∀ k, (∀ y0 y1 y2 y3 y4, LeO (zrS.l0 k y0 y1 y2 y3 y4) (zrS.l0 (k + 1) y0 y1 y2 y3 y4))
 | 0 => fun _ _ _ _ _ r h => by simp [zrS.l0] at h
 | k + 1 => by
  have ih0 := zrS.mono_l k
  ·intro y0 y1 y2 y3 y4
   unfold zrS.l0
   repeat' first
   | (with_reducible exact ih0 _ _ _ _ _)
   | (with_reducible exact LeO.refl _)
   | (with_reducible exact LeO.none _)
   | (with_reducible refine LeO.ite ?_ ?_)
   | (with_reducible refine LeO.bind ?_ (fun _ => ?_))
   | exact ih0 _ _ _ _ _
   | exact LeO.none _
   | refine LeO.ite ?_ ?_
   | refine LeO.bind ?_ (fun _ => ?_)
theorem zrS.mono : ∀ a0 a1 k, LeO (zrS.f k a0 a1) (zrS.f (k + 1) a0 a1) := by
 intro a0 a1 k
 have ih0 := zrS.mono_l k
 unfold zrS.f
 repeat' first
   | (with_reducible exact ih0 _ _ _ _ _)
   | (with_reducible exact LeO.refl _)
   | (with_reducible exact LeO.none _)
   | (with_reducible refine LeO.ite ?_ ?_)
   | (with_reducible refine LeO.bind ?_ (fun _ => ?_))
   | exact ih0 _ _ _ _ _
   | exact LeO.none _
   | refine LeO.ite ?_ ?_
   | refine LeO.bind ?_ (fun _ => ?_)
set_option maxHeartbeats 8000000 in
set_option maxRecDepth 100000 in
theorem zrS.calls (k : Nat) (A0 : Option Addr) (c0 : Nat) (l0 : List Int) (A1 : Option Addr) (c1 : Nat) (l1 : List Int) (r : List Int) (w : World) (hr0 : Kd.C (Kd.int .i64) w A0 l0.length l0) (hc0 : l0.length ≤ c0) (hr1 : Kd.C (Kd.int .i64) w A1 l1.length l1) (hc1 : l1.length ≤ c1) (h : zrS.f k l0 l1 = some r) :
  Calls Try.prog 33 #[.slice A0 l0.length c0, .slice A1 l1.length c1] w fun e w' => ∃ v0_ : Value, e = .returned (v0_) ∧ Kd.R (Kd.int .i64) 2 w' w.heap.size (fun _ => True) v0_ r ∧ Below w.heap.size w w' := by
 have HR0 := zpS hr0
 have HC0 := zpS hc0
 clear hr0 hc0
 have HR1 := zpS hr1
 have HC1 := zpS hc1
 clear hr1 hc1
 have HB := zpS (Below.refl w.heap.size w)
 have H : (zrS.l0 k l0 ([] : List Int) l1 (l1.length : Int) 0) = some r := h
 clear h
 have H' := zpS H
 clear H
 go_enter Try.func33, Try.ntmps33
 go_wp2
 (try go_simp)
 go_loopg [5, 10] k (fun kq v5 v10 w' => ∃ (x5_1 : List Int) (x10_1 : Int), v10 = .int .i64 x10_1 ∧ Aside0 (zrS.l0 kq l0 x5_1 l1 (l1.length : Int) x10_1 = some r) ∧ Aside0 (kq ≤ k) ∧ Aside0 (Kd.R (Kd.int .i64) 2 w' w.heap.size (fun _ => True) v5 x5_1) ∧ Aside0 (Below w.heap.size w w'))
 case atStart => exact ⟨(([] : List Int)), (0), (by first | rfl | (simp; done) | (simp [*]; done)), H', ⟨Nat.le_refl _⟩, ⟨by first | exact Kd.R_nil _ _ _ _ _ | exact Kd.N_nil _ _ _ _ _ | exact Kd.V_nil _ _ _ _ _ | exact Kd.Q_nil _ _ _ _ _ | exact Kd.S_nil _ _ _ _ _⟩, ⟨bb_⟩⟩
 case round =>
  clear H'
  try clear c1
  try clear p2
  obtain ⟨x5_1, x10_1, rfl, HA, HK1, HO_5, HB⟩ := hrel
  cases gk with
  | zero => exact absurd HA.out (by simp [zrS.l0])
  | succ k1 =>
   have H := HA.out
   clear HA
   simp only [zrS.l0] at H
   by_cases c3 : x10_1 < (l1.length : Int)
   ·rw [if_pos c3] at H
    have c3b0 : decide (x10_1 < (l1.length : Int)) = true := decide_eq_true c3
    clear c3
    by_cases c4 : 0 ≤ x10_1
    ·rw [if_pos c4] at H
     have c4b0 : decide (0 ≤ x10_1) = true := decide_eq_true c4
     clear c4
     by_cases c5 : x10_1 < (l1.length : Int)
     ·rw [if_pos c5] at H
      have c5b0 : decide (x10_1 < (l1.length : Int)) = true := decide_eq_true c5
      clear c5
      by_cases c6 : 0 ≤ (rd l1 x10_1)
      ·rw [if_pos c6] at H
       have c6b0 : decide (0 ≤ (rd l1 x10_1)) = true := decide_eq_true c6
       clear c6
       by_cases c7 : (rd l1 x10_1) < (l0.length : Int)
       ·rw [if_pos c7] at H
        have c7b0 : decide ((rd l1 x10_1) < (l0.length : Int)) = true := decide_eq_true c7
        clear c7
        by_cases c8 : x5_1.length < 17592186044416
        ·rw [if_pos c8] at H
         have LMc8 := zpS c8
         clear c8
         obtain ⟨y305, hy305⟩ : ∃ y_ : List Int, y_ = (x5_1 ++ [rd l0 (rd l1 x10_1)]) := ⟨_, rfl⟩
         replace H : (zrS.l0 k1 l0 y305 l1 (l1.length : Int) (wrap64 (x10_1 + 1))) = some r := by first | (rw [hy305]; with_reducible exact H) | (have H2_ := (Option.bind_some _ _).symm.trans H; rw [hy305]; with_reducible exact H2_) | (have H2_ := (Option.bind_some _ _).symm.trans H; with_reducible exact H2_) | with_reducible exact H | (rw [hy305]; exact H) | exact H
         have Ny305 := zpS hy305
         clear hy305
         have H' := zpS H
         clear H
         have p303 : 0 ≤ (x10_1 : Int) := of_decide_eq_true (by first | (with_reducible assumption) | assumption)
         have q303 : x10_1 < (l1.length : Int) := of_decide_eq_true (by first | (with_reducible assumption) | assumption)
         obtain ⟨ad303, e303, hx303_0⟩ := Kd.at_int HR1.out x10_1 p303 q303
         cases e303
         replace hx303_0 := cel_ HB.out hx303_0
         replace p303 := eq_true p303
         replace q303 := eq_true q303
         have p304 : 0 ≤ ((rd l1 x10_1) : Int) := of_decide_eq_true (by first | (with_reducible assumption) | assumption)
         have q304 : (rd l1 x10_1) < (l0.length : Int) := of_decide_eq_true (by first | (with_reducible assumption) | assumption)
         obtain ⟨ad304, e304, hx304_0⟩ := Kd.at_int HR0.out (rd l1 x10_1) p304 q304
         cases e304
         replace hx304_0 := cel_ HB.out hx304_0
         replace p304 := eq_true p304
         replace q304 := eq_true q304
         go_wp2_with (first | ((with_reducible refine zcO (b := .append) (xs := #[.tmp 14, .tmp 19]) rfl ?_); at_builtin; refine Kd.R_append (Kd.int .i64) (w0 := w) w.heap.size rfl (.tmp 14) (.tmp 19) 24 2 (.int .i64 0) 8 rfl Try.underlying24 info2 rfl (by decide) (by omega) u5 x5_1 (rd l0 (rd l1 x10_1)) [.int .i64 (rd l0 (rd l1 x10_1))] (fun _ => True) (fun _ => False) rfl rfl ?aP (fun _ hk => hk.elim) ?aF ?aO ?aB ?aS ?aL ?_; (case aP => exact rfl); (case aB => exact bb_); (case aF => exact (fun _ _ => trivial)); (case aO => exact (by (with_reducible repeat (first | apply Kd.R_alloc | apply Kd.R_drewN | apply Kd.R_drew)); exact HO_5.out)); (case aS => exact (zuA bb_)); (case aL => have := LMc8.out; omega); intro v306 w9 ho hb hg hat; rw [← Ny305.out] at ho; have n0_ := zpS (hb); have n1_ := zpS (ho); clear HB; clear HO_5; have HB := n0_; have HO307 := n1_; clear n0_ n1_; clear ho hb hg hat))
         go_roundg k1
         case measure => have := HK1.out; omega
         case rel => exact ⟨(y305), (wrap64 (x10_1 + 1)), (by first | rfl | (simp; done) | (simp [*]; done)), H', ⟨by have := HK1.out; omega⟩, ⟨by (with_reducible repeat (first | apply Kd.R_alloc | apply Kd.R_drewN | apply Kd.R_drew)); exact HO307.out⟩, ⟨bb_⟩⟩
        ·rw [if_neg c8] at H
         exact absurd H (by simp)
       ·rw [if_neg c7] at H
        exact absurd H (by simp)
      ·rw [if_neg c6] at H
       exact absurd H (by simp)
     ·rw [if_neg c5] at H
      exact absurd H (by simp)
    ·rw [if_neg c4] at H
     exact absurd H (by simp)
   ·rw [if_neg c3] at H
    have c3b0 : decide (x10_1 < (l1.length : Int)) = false := decide_eq_false c3
    clear c3
    obtain rfl := Option.some.inj H
    go_wp2
    go_ret
    exact ⟨_, by first | rfl | (simp [ziS, znJ] <;> rfl) | (simp [*, ziS, znJ] <;> rfl), by (with_reducible repeat (first | apply Kd.R_alloc | apply Kd.R_drewN | apply Kd.R_drew)); exact HO_5.out, bb_⟩

end Go.Proofs.Ytdnblakbegjohaa.PFnCrimps
