-- Printed for this claim by this session's program pp.py, which drives the kit's print with additions. Not trusted: Lean checks it.
import Derived.Test.YtbpkbllokmplnaaV1PFnExactAssignmentsOfx0
import Derived.Test.YtbpkbllokmplnaaV1PFnExactAssignmentsOfx4
import Derived.Test.YtbpkbllokmplnaaV1PFnExactAssignmentsOfx8
namespace Go.Proofs.Ytbpkbllokmplnaa.PFnExactAssignmentsOf
open Go.RowKit Go.Proofs.YtbpkbllokmplnaaW.PrintWords Go.Proofs.YtbpkbllokmplnaaW.PrintLast Go.Proofs.YtbpkbllokmplnaaW.PrintMore
attribute [local go_sem] max2_int min2_int max_two min_two znE zuB max_four min_four   -- for this text's walks alone
set_option linter.unusedVariables false
set_option linter.unusedSimpArgs false

def zjF.l0 : Nat → List Int → Int → Int → Option (Int)
 | 0, _, _, _ => none
 | k + 1, x0, x1, x5 => if x5 < (x0.length : Int) then (if 0 ≤ x5 then (if (rd x0 x5) = x1 then (zjF.l0 k x0 (wrap64 (x1 + 1)) (wrap64 (x5 + 1))) else (some (-1))) else (none)) else (some x1)
def zjF.f (k : Nat) (l0 : List Int) (a1 : Int) : Option (Int) := zjF.l0 k l0 a1 0
theorem zjF.mono_l : ∀ k, (∀ y0 y1 y2, LeO (zjF.l0 k y0 y1 y2) (zjF.l0 (k + 1) y0 y1 y2))
 | 0 => fun _ _ _ r h => by simp [zjF.l0] at h
 | k + 1 => by
  have ih0 := zjF.mono_l k
  ·intro y0 y1 y2
   unfold zjF.l0
   repeat' first
   | (with_reducible exact ih0 _ _ _)
   | (with_reducible exact LeO.refl _)
   | (with_reducible exact LeO.none _)
   | (with_reducible refine LeO.ite ?_ ?_)
   | (with_reducible refine LeO.bind ?_ (fun _ => ?_))
   | exact ih0 _ _ _
   | exact LeO.none _
   | refine LeO.ite ?_ ?_
   | refine LeO.bind ?_ (fun _ => ?_)
theorem zjF.mono : ∀ a0 a1 k, LeO (zjF.f k a0 a1) (zjF.f (k + 1) a0 a1) := by
 intro a0 a1 k
 have ih0 := zjF.mono_l k
 unfold zjF.f
 repeat' first
   | (with_reducible exact ih0 _ _ _)
   | (with_reducible exact LeO.refl _)
   | (with_reducible exact LeO.none _)
   | (with_reducible refine LeO.ite ?_ ?_)
   | (with_reducible refine LeO.bind ?_ (fun _ => ?_))
   | exact ih0 _ _ _
   | exact LeO.none _
   | refine LeO.ite ?_ ?_
   | refine LeO.bind ?_ (fun _ => ?_)
set_option maxHeartbeats 8000000 in
set_option maxRecDepth 100000 in
theorem zjF.calls (k : Nat) (A0 : Option Addr) (c0 : Nat) (l0 : List Int) (a1 : Int) (r : Int) (w : World) (hr0 : Kd.C (Kd.int .i64) w A0 l0.length l0) (hc0 : l0.length ≤ c0) (h : zjF.f k l0 a1 = some r) :
  Calls Try.prog 52 #[.slice A0 l0.length c0, .int .i64 a1] w fun e w' => e = .returned (.int .i64 r) ∧ Drawn0 w w' := by
 have HR0 := zpS hr0
 have HC0 := zpS hc0
 clear hr0 hc0
 have H : (zjF.l0 k l0 a1 0) = some r := h
 clear h
 have H' := zpS H
 clear H
 go_enter Try.func52, Try.ntmps52
 go_wp2
 (try go_simp)
 go_loopg [1, 5] k (fun kq v1 v5 w' => ∃ (x1_1 : Int) (x5_1 : Int), v1 = .int .i64 x1_1 ∧ v5 = .int .i64 x5_1 ∧ Aside0 (zjF.l0 kq l0 x1_1 x5_1 = some r) ∧ Aside0 (kq ≤ k) ∧ Drawn0 w w')
 case atStart => exact ⟨(a1), (0), (by first | rfl | (simp; done) | (simp [*]; done)), (by first | rfl | (simp; done) | (simp [*]; done)), H', ⟨Nat.le_refl _⟩, by repeat (first | exact Drawn0.refl _ | apply Drawn0.step)⟩
 case round =>
  clear H'
  try clear p2
  obtain ⟨x1_1, x5_1, rfl, rfl, HA, HK1, ⟨m1, rfl⟩⟩ := hrel
  cases gk with
  | zero => exact absurd HA.out (by simp [zjF.l0])
  | succ k1 =>
   have H := HA.out
   clear HA
   simp only [zjF.l0] at H
   by_cases c3 : x5_1 < (l0.length : Int)
   ·rw [if_pos c3] at H
    have c3b0 : decide (x5_1 < (l0.length : Int)) = true := decide_eq_true c3
    clear c3
    by_cases c4 : 0 ≤ x5_1
    ·rw [if_pos c4] at H
     have c4b0 : decide (0 ≤ x5_1) = true := decide_eq_true c4
     clear c4
     by_cases c5 : (rd l0 x5_1) = x1_1
     ·rw [if_pos c5] at H
      have c5b0 : ((rd l0 x5_1) == x1_1) = true := beq_iff_eq.mpr c5
      have c5b1 : ((rd l0 x5_1) != x1_1) = false := bne_eq_false_iff_eq.mpr c5
      clear c5
      have H' := zpS H
      clear H
      have p320 : 0 ≤ (x5_1 : Int) := of_decide_eq_true (by first | (with_reducible assumption) | assumption)
      have q320 : x5_1 < (l0.length : Int) := of_decide_eq_true (by first | (with_reducible assumption) | assumption)
      obtain ⟨ad320, e320, hx320_0⟩ := Kd.at_int HR0.out x5_1 p320 q320
      cases e320
      replace p320 := eq_true p320
      replace q320 := eq_true q320
      go_wp2
      go_roundg k1
      case measure => have := HK1.out; omega
      case rel => exact ⟨(wrap64 (x1_1 + 1)), (wrap64 (x5_1 + 1)), (by first | rfl | (simp; done) | (simp [*]; done)), (by first | rfl | (simp; done) | (simp [*]; done)), H', ⟨by have := HK1.out; omega⟩, by repeat (first | exact Drawn0.refl _ | apply Drawn0.step)⟩
     ·rw [if_neg c5] at H
      have c5b0 : ((rd l0 x5_1) == x1_1) = false := beq_eq_false_iff_ne.mpr c5
      have c5b1 : ((rd l0 x5_1) != x1_1) = true := bne_iff_ne.mpr c5
      obtain rfl := Option.some.inj H
      have p320 : 0 ≤ (x5_1 : Int) := of_decide_eq_true (by first | (with_reducible assumption) | assumption)
      have q320 : x5_1 < (l0.length : Int) := of_decide_eq_true (by first | (with_reducible assumption) | assumption)
      obtain ⟨ad320, e320, hx320_0⟩ := Kd.at_int HR0.out x5_1 p320 q320
      cases e320
      replace p320 := eq_true p320
      replace q320 := eq_true q320
      go_wp2
      go_ret
      exact ⟨by first | rfl | (simp; done) | (simp [*]; done), by repeat (first | exact Drawn0.refl _ | apply Drawn0.step)⟩
    ·rw [if_neg c4] at H
     exact absurd H (by simp)
   ·rw [if_neg c3] at H
    have c3b0 : decide (x5_1 < (l0.length : Int)) = false := decide_eq_false c3
    clear c3
    obtain rfl := Option.some.inj H
    go_wp2
    go_ret
    exact ⟨by first | rfl | (simp; done) | (simp [*]; done), by repeat (first | exact Drawn0.refl _ | apply Drawn0.step)⟩

def zgD.l0 : Nat → List (List Int) → Int → Int → Option (Int)
 | 0, _, _, _ => none
 | k + 1, x0, x1, x5 => if x5 < (x0.length : Int) then (if 0 ≤ x5 then ((zjF.f k (rd_L1 x0 x5) x1).bind fun t322 => (if t322 < 0 then (some (-1)) else (zgD.l0 k x0 t322 (wrap64 (x5 + 1))))) else (none)) else (some x1)
def zgD.f (k : Nat) (l0 : List (List Int)) (a1 : Int) : Option (Int) := zgD.l0 k l0 a1 0
theorem zgD.mono_l : ∀ k, (∀ y0 y1 y2, LeO (zgD.l0 k y0 y1 y2) (zgD.l0 (k + 1) y0 y1 y2))
 | 0 => fun _ _ _ r h => by simp [zgD.l0] at h
 | k + 1 => by
  have ih0 := zgD.mono_l k
  ·intro y0 y1 y2
   unfold zgD.l0
   repeat' first
   | (with_reducible exact ih0 _ _ _)
   | (with_reducible exact zjF.mono _ _ _)
   | (with_reducible exact LeO.refl _)
   | (with_reducible exact LeO.none _)
   | (with_reducible refine LeO.ite ?_ ?_)
   | (with_reducible refine LeO.bind ?_ (fun _ => ?_))
   | exact ih0 _ _ _
   | exact zjF.mono _ _ _
   | exact LeO.none _
   | refine LeO.ite ?_ ?_
   | refine LeO.bind ?_ (fun _ => ?_)
theorem zgD.mono : ∀ a0 a1 k, LeO (zgD.f k a0 a1) (zgD.f (k + 1) a0 a1) := by
 intro a0 a1 k
 have ih0 := zgD.mono_l k
 unfold zgD.f
 repeat' first
   | (with_reducible exact ih0 _ _ _)
   | (with_reducible exact zjF.mono _ _ _)
   | (with_reducible exact LeO.refl _)
   | (with_reducible exact LeO.none _)
   | (with_reducible refine LeO.ite ?_ ?_)
   | (with_reducible refine LeO.bind ?_ (fun _ => ?_))
   | exact ih0 _ _ _
   | exact zjF.mono _ _ _
   | exact LeO.none _
   | refine LeO.ite ?_ ?_
   | refine LeO.bind ?_ (fun _ => ?_)
set_option maxHeartbeats 8000000 in
set_option maxRecDepth 100000 in
theorem zgD.calls (k : Nat) (A0 : Option Addr) (c0 : Nat) (l0 : List (List Int)) (a1 : Int) (r : Int) (w : World) (hr0 : Kd.C (Kd.slice 2 (Kd.int .i64)) w A0 l0.length l0) (hc0 : l0.length ≤ c0) (h : zgD.f k l0 a1 = some r) :
  Calls Try.prog 17 #[.slice A0 l0.length c0, .int .i64 a1] w fun e w' => e = .returned (.int .i64 r) ∧ Drawn0 w w' := by
 have HR0 := zpS hr0
 have HC0 := zpS hc0
 clear hr0 hc0
 have H : (zgD.l0 k l0 a1 0) = some r := h
 clear h
 have H' := zpS H
 clear H
 go_enter Try.func17, Try.ntmps17
 go_wp2
 (try go_simp)
 go_loopg [1, 5] k (fun kq v1 v5 w' => ∃ (x1_1 : Int) (x5_1 : Int), v1 = .int .i64 x1_1 ∧ v5 = .int .i64 x5_1 ∧ Aside0 (zgD.l0 kq l0 x1_1 x5_1 = some r) ∧ Aside0 (kq ≤ k) ∧ Drawn0 w w')
 case atStart => exact ⟨(a1), (0), (by first | rfl | (simp; done) | (simp [*]; done)), (by first | rfl | (simp; done) | (simp [*]; done)), H', ⟨Nat.le_refl _⟩, by repeat (first | exact Drawn0.refl _ | apply Drawn0.step)⟩
 case round =>
  clear H'
  try clear c1
  try clear p2
  obtain ⟨x1_1, x5_1, rfl, rfl, HA, HK1, ⟨m1, rfl⟩⟩ := hrel
  cases gk with
  | zero => exact absurd HA.out (by simp [zgD.l0])
  | succ k1 =>
   have H := HA.out
   clear HA
   simp only [zgD.l0] at H
   by_cases c3 : x5_1 < (l0.length : Int)
   ·rw [if_pos c3] at H
    have c3b0 : decide (x5_1 < (l0.length : Int)) = true := decide_eq_true c3
    clear c3
    by_cases c4 : 0 ≤ x5_1
    ·rw [if_pos c4] at H
     have c4b0 : decide (0 ≤ x5_1) = true := decide_eq_true c4
     clear c4
     replace H := Option.bind_eq_some_iff.mp H
     obtain ⟨t322, A50, H⟩ := H
     replace H : (if t322 < 0 then (some (-1)) else (zgD.l0 k1 l0 t322 (wrap64 (x5_1 + 1)))) = some r := H
     have A5 := zpS A50
     clear A50
     by_cases c6 : t322 < 0
     ·rw [if_pos c6] at H
      have c6b0 : decide (t322 < 0) = true := decide_eq_true c6
      clear c6
      obtain rfl := Option.some.inj H
      have p321 : 0 ≤ (x5_1 : Int) := of_decide_eq_true (by first | (with_reducible assumption) | assumption)
      have q321 : x5_1 < (l0.length : Int) := of_decide_eq_true (by first | (with_reducible assumption) | assumption)
      obtain ⟨ad321, A321_0, c321_0, e321, hx321_0, hl321_0, hi321_0⟩ := at_L1 HR0.out x5_1 p321 q321
      cases e321
      have HR321_0 := zpS hi321_0
      have HC321_0 := zpS hl321_0
      clear hi321_0 hl321_0
      replace p321 := eq_true p321
      replace q321 := eq_true q321
      go_wp2_with (first | ((with_reducible refine zgM (f := 52) rfl ?_); refine zqQ (some 17) rfl rfl Try.func52 (by kernel_rfl) rfl #[.slice A321_0 (rd_L1 l0 x5_1).length c321_0, .int .i64 x1_1] rfl (by (try simp only [List.map_toArray, List.map_cons, List.map_nil]); first | done | rfl | (simp only [List.length_drop, List.length_take]; rfl)) ?_; (with_reducible refine (zjF.calls k1 _ _ (rd_L1 l0 x5_1) x1_1 t322 _ ?side1 ?side2 A5.out).mono ?_); (case side1 => repeat (first | exact HR321_0.out | (with_reducible refine Kd.C_alloc ?_ _) | (with_reducible refine Kd.C_drewN ?_ _) | (with_reducible refine Kd.C_drew ?_))); (case side2 => exact HC321_0.out); rintro e w' ⟨rfl, ⟨nd, rfl⟩⟩; refine ⟨_, rfl, ?_⟩))
      go_ret
      exact ⟨by first | rfl | (simp; done) | (simp [*]; done), by repeat (first | exact Drawn0.refl _ | apply Drawn0.step)⟩
     ·rw [if_neg c6] at H
      have c6b0 : decide (t322 < 0) = false := decide_eq_false c6
      clear c6
      have H' := zpS H
      clear H
      have p321 : 0 ≤ (x5_1 : Int) := of_decide_eq_true (by first | (with_reducible assumption) | assumption)
      have q321 : x5_1 < (l0.length : Int) := of_decide_eq_true (by first | (with_reducible assumption) | assumption)
      obtain ⟨ad321, A321_0, c321_0, e321, hx321_0, hl321_0, hi321_0⟩ := at_L1 HR0.out x5_1 p321 q321
      cases e321
      have HR321_0 := zpS hi321_0
      have HC321_0 := zpS hl321_0
      clear hi321_0 hl321_0
      replace p321 := eq_true p321
      replace q321 := eq_true q321
      go_wp2_with (first | ((with_reducible refine zgM (f := 52) rfl ?_); refine zqQ (some 17) rfl rfl Try.func52 (by kernel_rfl) rfl #[.slice A321_0 (rd_L1 l0 x5_1).length c321_0, .int .i64 x1_1] rfl (by (try simp only [List.map_toArray, List.map_cons, List.map_nil]); first | done | rfl | (simp only [List.length_drop, List.length_take]; rfl)) ?_; (with_reducible refine (zjF.calls k1 _ _ (rd_L1 l0 x5_1) x1_1 t322 _ ?side1 ?side2 A5.out).mono ?_); (case side1 => repeat (first | exact HR321_0.out | (with_reducible refine Kd.C_alloc ?_ _) | (with_reducible refine Kd.C_drewN ?_ _) | (with_reducible refine Kd.C_drew ?_))); (case side2 => exact HC321_0.out); rintro e w' ⟨rfl, ⟨nd, rfl⟩⟩; refine ⟨_, rfl, ?_⟩))
      go_roundg k1
      case measure => have := HK1.out; omega
      case rel => exact ⟨(t322), (wrap64 (x5_1 + 1)), (by first | rfl | (simp; done) | (simp [*]; done)), (by first | rfl | (simp; done) | (simp [*]; done)), H', ⟨by have := HK1.out; omega⟩, by repeat (first | exact Drawn0.refl _ | apply Drawn0.step)⟩
    ·rw [if_neg c4] at H
     exact absurd H (by simp)
   ·rw [if_neg c3] at H
    have c3b0 : decide (x5_1 < (l0.length : Int)) = false := decide_eq_false c3
    clear c3
    obtain rfl := Option.some.inj H
    go_wp2
    go_ret
    exact ⟨by first | rfl | (simp; done) | (simp [*]; done), by repeat (first | exact Drawn0.refl _ | apply Drawn0.step)⟩

def laws_FnExactAssignmentsOf.f (k : Nat) (l0 : List Int) : Option Bool := if (l0.length : Int) > 1048576 then some true else (zkZ.f k l0).bind fun x => (zuM.f k x).bind fun W => (zyN.f k x).bind fun G => (zxX.f k G.1 W.1).bind fun e1 => (zsK.f k x x).bind fun e2 => (zlH.f k x 1).bind fun m => (zeR.f k G.1 1).bind fun M => (zgD.f k M.2 1).bind fun q =>
 if e1 = true ∧ G.2 = W.2 ∧ e2 = true ∧ 0 ≤ m.1 ∧ 0 ≤ q ∧ q = M.1 then some true else none
theorem laws_FnExactAssignmentsOf_held (k : Nat) (A : Option Addr) (c n : Nat) (rows : List (List Int)) (a1 r : Int) (w : World) (hn : rows.length = n) (hr0 : Kd.C (Kd.slice 2 (Kd.int .i64)) w A rows.length rows) (hc0 : n ≤ c) (h : zgD.f k rows a1 = some r) :
  Calls Try.prog 17 #[.slice A n c, .int .i64 a1] w fun e w' => e = .returned (.int .i64 r) ∧ Drawn0 w w' := by
 subst hn
 exact zgD.calls k A c rows a1 r w hr0 hc0 h
set_option maxHeartbeats 8000000 in
set_option maxRecDepth 100000 in
theorem laws_FnExactAssignmentsOf.calls (k : Nat) (A0 : Option Addr) (c0 : Nat) (l0 : List Int) (r : Bool) (w : World) (hr0 : Kd.C (Kd.int .i64) w A0 l0.length l0) (hc0 : l0.length ≤ c0) (h : laws_FnExactAssignmentsOf.f k l0 = some r) :
  Calls Try.prog 3 #[.slice A0 l0.length c0] w fun e w' => e = .returned (.bool r) ∧ Below w.heap.size w w' := by
 have HR0 := zpS hr0
 have HC0 := zpS hc0
 clear hr0 hc0
 have HB := zpS (Below.refl w.heap.size w)
 unfold laws_FnExactAssignmentsOf.f at h
 by_cases c2 : (l0.length : Int) > 1048576
 ·rw [if_pos c2] at h
  have c2b0 : decide (1048576 < (l0.length : Int)) = true := decide_eq_true c2
  have c2b1 : decide (1048576 < l0.length) = true := decide_eq_true (by omega)
  clear c2
  obtain rfl := Option.some.inj h
  go_enter Try.func3, Try.ntmps3
  go_wp2
  go_ret
  exact ⟨rfl, by repeat (first | exact HB.out | apply znU | apply zlA | apply zvF)⟩
 ·rw [if_neg c2] at h
  have c2b0 : decide (1048576 < (l0.length : Int)) = false := decide_eq_false c2
  have c2b1 : decide (1048576 < l0.length) = false := decide_eq_false (by omega)
  clear c2
  obtain ⟨x, A10, h⟩ := Option.bind_eq_some_iff.mp h
  obtain ⟨⟨W1, W2⟩, A20, h⟩ := Option.bind_eq_some_iff.mp h
  obtain ⟨⟨G1, G2⟩, A30, h⟩ := Option.bind_eq_some_iff.mp h
  obtain ⟨e1, A40, h⟩ := Option.bind_eq_some_iff.mp h
  obtain ⟨e2, A50, h⟩ := Option.bind_eq_some_iff.mp h
  obtain ⟨⟨m1, x'⟩, A60, h⟩ := Option.bind_eq_some_iff.mp h
  obtain ⟨⟨q0, M2⟩, A70, h⟩ := Option.bind_eq_some_iff.mp h
  obtain ⟨q, A80, h⟩ := Option.bind_eq_some_iff.mp h
  dsimp only at A40 A70 A80 h
  by_cases hc : e1 = true ∧ G2 = W2 ∧ e2 = true ∧ 0 ≤ m1 ∧ 0 ≤ q ∧ q = q0
  ·rw [if_pos hc] at h
   obtain rfl := Option.some.inj h
   obtain ⟨rfl, rfl, rfl, hm, hq, rfl⟩ := hc
   obtain ⟨W2, hW2⟩ : ∃ W2, W2 = G2 := ⟨_, rfl⟩
   rw [← hW2] at A20 A30
   have A1 := zpS A10
   have A2 := zpS A20
   have A3 := zpS A30
   have A4 := zpS A40
   have A5 := zpS A50
   have A6 := zpS A60
   have A7 := zpS A70
   have A8 := zpS A80
   have cm : decide (m1 < 0) = false := decide_eq_false (by omega)
   have cq : decide (q < 0) = false := decide_eq_false (by omega)
   have hm2 : ¬ m1 < 0 := by omega
   have hq2 : ¬ q < 0 := by omega
   clear A10 A20 A30 A40 A50 A60 A70 A80 h hW2 hm hq
   go_enter Try.func3, Try.ntmps3
   go_wp2_with (first | ((with_reducible refine zgM (f := 11) rfl ?_); refine zqQ (some 18) rfl rfl Try.func11 (by kernel_rfl) rfl #[.slice A0 l0.length c0] rfl (by (try simp only [List.map_toArray, List.map_cons, List.map_nil]); first | done | rfl | (simp only [List.length_drop, List.length_take]; rfl)) ?_; (with_reducible refine (zkZ.calls k _ _ l0 x _ ?s1 HC0.out A1.out).mono ?_); (case s1 => exact Kd.C_below HR0.out HB.out); rintro e wa ⟨va, rfl, ho, hb⟩; refine ⟨_, rfl, ?_⟩; obtain ⟨Aa, ca, rfl⟩ := Kd.R_slice ho; have HXa := zpS (Kd.R_reads' ho).2; have n_ := zpS (zkR HB.out hb); clear HB; have HB := n_; clear n_; (try (have n_ := zpS (Kd.S_below HW.out hb); clear HW; have HW := n_; clear n_)); (try (have n_ := zpS (Kd.S_below HG.out hb); clear HG; have HG := n_; clear n_)); (try (have n_ := zpS (Kd.R_below HX.out hb); clear HX; have HX := n_; clear n_)); (try (have n_ := zpS (Kd.S_below HH.out hb); clear HH; have HH := n_; clear n_)); (try (have n_ := zpS (zkR HBb.out hb); clear HBb; have HBb := n_; clear n_)); clear ho hb) | (go_at_call 10; (with_reducible refine (zuM.calls k _ _ x W1 W2 _ HXa.out.2 HXa.out.1 A2.out).mono ?_); rintro e wb ⟨vw, rfl, hs, hb⟩; obtain ⟨AW, cW, rfl⟩ := Kd.S_slice hs; have HW := zpS (Kd.S_lower (Kd.S_old hs (Below.refl _ _)) (zuA HB.out)); have n_ := zpS (zkR HB.out hb); clear HB HXa hs hb; have HB := n_; have HWB := n_; clear n_) | ((with_reducible refine zgM (f := 11) rfl ?_); refine zqQ (some 23) rfl rfl Try.func11 (by kernel_rfl) rfl #[.slice A0 l0.length c0] rfl (by (try simp only [List.map_toArray, List.map_cons, List.map_nil]); first | done | rfl | (simp only [List.length_drop, List.length_take]; rfl)) ?_; (with_reducible refine (zkZ.calls k _ _ l0 x _ ?s1 HC0.out A1.out).mono ?_); (case s1 => exact Kd.C_below HR0.out HB.out); rintro e wc ⟨vx, rfl, ho, hb⟩; refine ⟨_, rfl, ?_⟩; obtain ⟨Ax, cx, rfl⟩ := Kd.R_slice ho; have n_ := zpS (zkR HB.out hb); clear HB; have HB := n_; clear n_; (try (have n_ := zpS (Kd.S_below HW.out hb); clear HW; have HW := n_; clear n_)); (try (have n_ := zpS (Kd.S_below HG.out hb); clear HG; have HG := n_; clear n_)); (try (have n_ := zpS (Kd.R_below HX.out hb); clear HX; have HX := n_; clear n_)); (try (have n_ := zpS (Kd.S_below HH.out hb); clear HH; have HH := n_; clear n_)); (try (have n_ := zpS (zkR HBb.out hb); clear HBb; have HBb := n_; clear n_)); have HX := zpS ho; have HBb := zpS hb; have HXL := zpS (Kd.R_lt ho); have HBC := zpS hb.size; clear ho hb) | ((with_reducible refine zgM (f := 12) rfl ?_); refine zqQ (some 26) rfl rfl Try.func12 (by kernel_rfl) rfl #[.slice Ax x.length cx] rfl (by (try simp only [List.map_toArray, List.map_cons, List.map_nil]); first | done | rfl | (simp only [List.length_drop, List.length_take]; rfl)) ?_; (with_reducible refine (zyN.calls k _ _ x G1 W2 _ (Kd.R_reads' HX.out).2.2 (Kd.R_reads' HX.out).2.1 A3.out).mono ?_); rintro e wd ⟨vg, rfl, hs, hb⟩; refine ⟨_, rfl, ?_⟩; obtain ⟨AG, cG, rfl⟩ := Kd.S_slice hs; have HG0 := zpS (Kd.S_lower (Kd.S_mono (ok' := fun k_ => wc.heap.size ≤ k_) (Kd.S_bound hs) (fun _ hk => hk.2.1)) (zuA HB.out)); have n_ := zpS (zkR HB.out hb); clear HB; have HB := n_; clear n_; (try (have n_ := zpS (Kd.S_below HW.out hb); clear HW; have HW := n_; clear n_)); (try (have n_ := zpS (Kd.S_below HG.out hb); clear HG; have HG := n_; clear n_)); (try (have n_ := zpS (Kd.R_below HX.out hb); clear HX; have HX := n_; clear n_)); (try (have n_ := zpS (Kd.S_below HH.out hb); clear HH; have HH := n_; clear n_)); (try (have n_ := zpS (zkR HBb.out hb); clear HBb; have HBb := n_; clear n_)); have HG := HG0; clear HG0 hs hb) | (go_at_call 13; (with_reducible refine (zxX.calls k _ _ G1 _ _ W1 true _ ?s1 ?s2 ?s3 ?s4 A4.out).mono ?_); (case s1 => first | exact (Kd.S_reads' HG.out).2.2 | exact (Kd.S_reads' HH.out).2.2); (case s2 => first | exact (Kd.S_reads' HG.out).2.1 | exact (Kd.S_reads' HH.out).2.1); (case s3 => exact (Kd.S_reads' HW.out).2.2); (case s4 => exact (Kd.S_reads' HW.out).2.1); rintro e wq ⟨rfl, hd⟩; have hb := hd.below; clear hd; have n_ := zpS (zkR HB.out hb); clear HB; have HB := n_; clear n_; (try (have n_ := zpS (Kd.S_below HW.out hb); clear HW; have HW := n_; clear n_)); (try (have n_ := zpS (Kd.S_below HG.out hb); clear HG; have HG := n_; clear n_)); (try (have n_ := zpS (Kd.R_below HX.out hb); clear HX; have HX := n_; clear n_)); (try (have n_ := zpS (Kd.S_below HH.out hb); clear HH; have HH := n_; clear n_)); (try (have n_ := zpS (zkR HBb.out hb); clear HBb; have HBb := n_; clear n_)); clear hb) | ((with_reducible refine zgM (f := 11) rfl ?_); refine zqQ (some 40) rfl rfl Try.func11 (by kernel_rfl) rfl #[.slice A0 l0.length c0] rfl (by (try simp only [List.map_toArray, List.map_cons, List.map_nil]); first | done | rfl | (simp only [List.length_drop, List.length_take]; rfl)) ?_; (with_reducible refine (zkZ.calls k _ _ l0 x _ ?s1 HC0.out A1.out).mono ?_); (case s1 => exact Kd.C_below HR0.out HB.out); rintro e wf ⟨vy, rfl, ho, hb⟩; refine ⟨_, rfl, ?_⟩; obtain ⟨Ay, cy, rfl⟩ := Kd.R_slice ho; have HY := zpS (Kd.R_reads' ho).2; have n_ := zpS (zkR HB.out hb); clear HB; have HB := n_; clear n_; (try (have n_ := zpS (Kd.S_below HW.out hb); clear HW; have HW := n_; clear n_)); (try (have n_ := zpS (Kd.S_below HG.out hb); clear HG; have HG := n_; clear n_)); (try (have n_ := zpS (Kd.R_below HX.out hb); clear HX; have HX := n_; clear n_)); (try (have n_ := zpS (Kd.S_below HH.out hb); clear HH; have HH := n_; clear n_)); (try (have n_ := zpS (zkR HBb.out hb); clear HBb; have HBb := n_; clear n_)); clear ho hb) | (go_at_call 14; (with_reducible refine (zsK.calls k _ _ x _ _ x true _ (Kd.R_reads' HX.out).2.2 (Kd.R_reads' HX.out).2.1 HY.out.2 HY.out.1 A5.out).mono ?_); rintro e wg ⟨rfl, hd⟩; have hb := hd.below; clear hd HY; have n_ := zpS (zkR HB.out hb); clear HB; have HB := n_; clear n_; (try (have n_ := zpS (Kd.S_below HW.out hb); clear HW; have HW := n_; clear n_)); (try (have n_ := zpS (Kd.S_below HG.out hb); clear HG; have HG := n_; clear n_)); (try (have n_ := zpS (Kd.R_below HX.out hb); clear HX; have HX := n_; clear n_)); (try (have n_ := zpS (Kd.S_below HH.out hb); clear HH; have HH := n_; clear n_)); (try (have n_ := zpS (zkR HBb.out hb); clear HBb; have HBb := n_; clear n_)); clear hb) | (go_at_call 15; (with_reducible refine (zlH.calls k (fun k_ => some k_ = (Value.slice Ax x.length cx).ownBlock) _ x 1 m1 x' wb _ HBb.out (Kd.R_tight rfl HX.out) A6.out).mono ?_); rintro e wh ⟨rfl, hr, hbb, hk⟩; have n0_ := zpS (zkR HWB.out hbb); have n1_ := zpS (Kd.S_step HW.out (fun k_ hok_ hlt_ => hk.2 k_ hlt_ (fun e_ => by have h1_ := Kd.R_base HX.out k_ e_.symm; have h2_ := hok_.2; omega))); have n2_ := zpS (Kd.S_step HG.out (fun k_ hok_ hlt_ => hk.2 k_ hlt_ (fun e_ => by have h1_ := HXL.out k_ e_.symm; omega))); clear HB HW HG HX HBb HXL hr hbb hk; have HB := n0_; have HW := n1_; have HG := n2_; clear n0_ n1_ n2_) | (go_at_call 16; (with_reducible refine (zeR.calls k (fun k_ => wc.heap.size ≤ k_) _ G1 1 q M2 w _ HB.out HG.out A7.out).mono ?_); rintro e wj ⟨rfl, hs, hb, hk⟩; have n0_ := zpS hb; have n1_ := zpS (Kd.S_step HW.out (fun k_ hok_ hlt_ => hk.2 k_ hlt_ (fun e_ => by have h1_ := hok_.2; have h2_ := HBC.out; omega))); have n2_ := zpS hs; clear HB HW HG hs hb hk; have HB := n0_; have HW := n1_; have HG := n2_; clear n0_ n1_ n2_) | (go_at_call 17; (with_reducible refine (laws_FnExactAssignmentsOf_held k _ _ _ M2 1 q _ (Kd.S_reads' HG.out).1.symm (Kd.S_reads' HG.out).2.2 (Kd.S_reads' HG.out).2.1 A8.out).mono ?_); rintro e wk ⟨rfl, hd⟩; have hb := hd.below; clear hd; have n_ := zpS (zkR HB.out hb); clear HB; have HB := n_; clear n_; (try (have n_ := zpS (Kd.S_below HW.out hb); clear HW; have HW := n_; clear n_)); (try (have n_ := zpS (Kd.S_below HG.out hb); clear HG; have HG := n_; clear n_)); (try (have n_ := zpS (Kd.R_below HX.out hb); clear HX; have HX := n_; clear n_)); (try (have n_ := zpS (Kd.S_below HH.out hb); clear HH; have HH := n_; clear n_)); (try (have n_ := zpS (zkR HBb.out hb); clear HBb; have HBb := n_; clear n_)); clear hb) | ((with_reducible refine zgM (f := 11) rfl ?_); refine zqQ (some 72) rfl rfl Try.func11 (by kernel_rfl) rfl #[.slice A0 l0.length c0] rfl (by (try simp only [List.map_toArray, List.map_cons, List.map_nil]); first | done | rfl | (simp only [List.length_drop, List.length_take]; rfl)) ?_; (with_reducible refine (zkZ.calls k _ _ l0 x _ ?s1 HC0.out A1.out).mono ?_); (case s1 => exact Kd.C_below HR0.out HB.out); rintro e wl ⟨vz, rfl, ho, hb⟩; refine ⟨_, rfl, ?_⟩; obtain ⟨Az, cz, rfl⟩ := Kd.R_slice ho; have HZ := zpS (Kd.R_reads' ho).2; have n_ := zpS (zkR HB.out hb); clear HB; have HB := n_; clear n_; (try (have n_ := zpS (Kd.S_below HW.out hb); clear HW; have HW := n_; clear n_)); (try (have n_ := zpS (Kd.S_below HG.out hb); clear HG; have HG := n_; clear n_)); (try (have n_ := zpS (Kd.R_below HX.out hb); clear HX; have HX := n_; clear n_)); (try (have n_ := zpS (Kd.S_below HH.out hb); clear HH; have HH := n_; clear n_)); (try (have n_ := zpS (zkR HBb.out hb); clear HBb; have HBb := n_; clear n_)); clear ho hb) | ((with_reducible refine zgM (f := 12) rfl ?_); refine zqQ (some 73) rfl rfl Try.func12 (by kernel_rfl) rfl #[.slice Az x.length cz] rfl (by (try simp only [List.map_toArray, List.map_cons, List.map_nil]); first | done | rfl | (simp only [List.length_drop, List.length_take]; rfl)) ?_; (with_reducible refine (zyN.calls k _ _ x G1 W2 _ HZ.out.2 HZ.out.1 A3.out).mono ?_); rintro e wm ⟨vh, rfl, hs, hb⟩; refine ⟨_, rfl, ?_⟩; obtain ⟨AH, cH, rfl⟩ := Kd.S_slice hs; have HH0 := zpS hs; clear HZ; have n_ := zpS (zkR HB.out hb); clear HB; have HB := n_; clear n_; (try (have n_ := zpS (Kd.S_below HW.out hb); clear HW; have HW := n_; clear n_)); (try (have n_ := zpS (Kd.S_below HG.out hb); clear HG; have HG := n_; clear n_)); (try (have n_ := zpS (Kd.R_below HX.out hb); clear HX; have HX := n_; clear n_)); (try (have n_ := zpS (Kd.S_below HH.out hb); clear HH; have HH := n_; clear n_)); (try (have n_ := zpS (zkR HBb.out hb); clear HBb; have HBb := n_; clear n_)); have HH := HH0; clear HH0 hs hb))
   go_ret
   exact ⟨rfl, HB.out⟩
  ·rw [if_neg hc] at h
   cases h

def laws_FnExactAssignmentsOf.Pure : Prop := ∀ (l0 : List Int), (l0.length ≤ maxLen ∧ ∀ x_ ∈ l0, (Lit.int .i64 x_).wf = true) → ∃ k, laws_FnExactAssignmentsOf.f k l0 = some true

end Go.Proofs.Ytbpkbllokmplnaa.PFnExactAssignmentsOf
