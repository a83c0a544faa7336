-- Printed for this claim by this session's program pp.py, which drives the kit's print with additions. Not trusted: Lean checks it.
import Derived.Test.YtbnfbflfhpniaaaDoorV1PFnExactNormalPolygonx0
namespace Go.Proofs.YtbnfbflfhpniaaaDoor.PFnExactNormalPolygon
open Go.RowKit Go.Proofs.YtbnfbflfhpniaaaDoorW.PrintWords Go.Proofs.YtbnfbflfhpniaaaDoorW.PrintLast Go.Proofs.YtbnfbflfhpniaaaDoorW.PrintMore
attribute [local go_sem] zbB ziC zrC zhD znE zuB znH zkT   -- for this text's walks alone
set_option linter.unusedVariables false
set_option maxHeartbeats 8000000
set_option maxRecDepth 100000
set_option linter.unusedSimpArgs false

def zoA.l0 : Nat → List (S35) → Int → Int → Option ((List (S35)))
 | 0, _, _, _ => none
 | k + 1, x0, x2, x3 => if x2 < x3 then (if 0 ≤ x3 then (if x3 < (x0.length : Int) then (if 0 ≤ x2 then (if x2 < (x0.length : Int) then (zoA.l0 k ((x0.set (x2 : Int).toNat (⟨(⟨(zmE x0 x3).f0.f0, (zmE x0 x3).f0.f1, (zmE x0 x3).f0.f2⟩ : S33), (⟨(zmE x0 x3).f1.f0, (zmE x0 x3).f1.f1, (zmE x0 x3).f1.f2⟩ : S33)⟩ : S35)).set (x3 : Int).toNat (⟨(⟨(zmE x0 x2).f0.f0, (zmE x0 x2).f0.f1, (zmE x0 x2).f0.f2⟩ : S33), (⟨(zmE x0 x2).f1.f0, (zmE x0 x2).f1.f1, (zmE x0 x2).f1.f2⟩ : S33)⟩ : S35)) (wrap64 (x2 + 1)) (wrap64 (x3 - 1))) else (none)) else (none)) else (none)) else (none)) else (some x0)
def zoA.f (k : Nat) (l0 : List (S35)) : Option ((List (S35))) := zoA.l0 k l0 0 (wrap64 ((l0.length : Int) - 1))
theorem zoA.mono_l : ∀ k, (∀ y0 y1 y2, LeO (zoA.l0 k y0 y1 y2) (zoA.l0 (k + 1) y0 y1 y2))
 | 0 => fun _ _ _ r h => by simp [zoA.l0] at h
 | k + 1 => by
  have ih0 := zoA.mono_l k
  ·intro y0 y1 y2
   unfold zoA.l0
   repeat' first
   | (with_reducible exact ih0 _ _ _)
   | (with_reducible exact LeO.refl _)
   | (with_reducible exact LeO.none _)
   | (with_reducible refine LeO.ite ?_ ?_)
   | (with_reducible refine LeO.bind ?_ (fun _ => ?_))
   | exact ih0 _ _ _
   | exact LeO.none _
   | refine LeO.ite ?_ ?_
   | refine LeO.bind ?_ (fun _ => ?_)
theorem zoA.mono : ∀ a0 k, LeO (zoA.f k a0) (zoA.f (k + 1) a0) := by
 intro a0 k
 have ih0 := zoA.mono_l k
 unfold zoA.f
 repeat' first
   | (with_reducible exact ih0 _ _ _)
   | (with_reducible exact LeO.refl _)
   | (with_reducible exact LeO.none _)
   | (with_reducible refine LeO.ite ?_ ?_)
   | (with_reducible refine LeO.bind ?_ (fun _ => ?_))
   | exact ih0 _ _ _
   | exact LeO.none _
   | refine LeO.ite ?_ ?_
   | refine LeO.bind ?_ (fun _ => ?_)
def zoA.T3 : Bool × List (List Nat × List Nat) := (true, [([], []), ([], []), ([], []), ([], []), ([], []), ([], []), ([4, 5], [4, 5]), ([6], [6]), ([], []), ([], []), ([8, 9], [8, 9]), ([10], [10]), ([0, 1, 0, 1, 4, 5, 6, 7, 11], [0, 1]), ([12, 7, 0, 1, 4, 5, 6, 7, 11], [7, 12]), ([2, 3, 0, 1, 2, 3, 4, 5, 6, 7, 8, 9, 10, 11, 12, 13], [2, 3]), ([14, 11, 13, 0, 1, 2, 3, 4, 5, 6, 7, 8, 9, 10, 11, 12, 13], [11, 14])])
def zoA.B3 : List Nat := [0, 0, 0, 0, 0, 0, 48, 112, 0, 0, 768, 1792, 4083, 8179, 16383, 32767]
theorem zoA.tab3 : rtab .any (opsOf Tryd.f18 3) = zoA.T3 := by kernel_rfl
theorem zoA.bits3 : ztG zoA.T3.2 zoA.B3 = true := by kernel_rfl
theorem zoA.calls (k : Nat) (P0_ : Nat → Prop) (u9000_ : Value) (l0 : List (S35)) (r : List (S35)) (w0 w : World) (hB : Below w0.heap.size w0 w) (ho0 : Kd.R k35 35 w w0.heap.size P0_ u9000_ l0) (h : zoA.f k l0 = some r) :
  Calls Tryd.prog 18 #[u9000_] w fun e w' => e = .returned (.tuple #[]) ∧ Kd.R k35 35 w' w0.heap.size (fun k_ => (P0_ k_ ∨ w.heap.size ≤ k_)) u9000_ r ∧ Below w0.heap.size w0 w' ∧ zoW w w' (fun k_ => P0_ k_) := by
 have hu35 := Tryd.underlying35
 have HO0 := zpS (show Kd.R k35 35 w w0.heap.size (fun k_ => (P0_ k_ ∨ w.heap.size ≤ k_)) u9000_ l0 from Kd.R_mono ho0 (fun k_ hk => (.inl hk)))
 have HK := zpS (zoW.refl w (fun k_ => P0_ k_))
 have HW0 := zpS hB.size
 have HB := zpS hB
 clear hB
 have H : (zoA.l0 k l0 0 (wrap64 ((l0.length : Int) - 1))) = some r := h
 clear h
 have H' := zpS H
 clear H
 obtain ⟨Ao2, co2, eo2⟩ := Kd.R_slice HO0.out
 subst eo2
 go_enter Tryd.func18, Tryd.ntmps18
 go_wp2
 (try go_simp)
 go_loopg [2, 3] k (fun kq v2 v3 w' => ∃ (x0_1 : List (S35)) (x2_1 : Int) (x3_1 : Int), v2 = .int .i64 x2_1 ∧ v3 = .int .i64 x3_1 ∧ Aside0 (zoA.l0 kq x0_1 x2_1 x3_1 = some r) ∧ Aside0 (kq ≤ k) ∧ Aside0 (Kd.R k35 35 w' w0.heap.size (fun k_ => (P0_ k_ ∨ w.heap.size ≤ k_)) (.slice Ao2 l0.length co2) x0_1) ∧ Aside0 (zoW w w' (fun k_ => P0_ k_)) ∧ Aside0 (Below w0.heap.size w0 w'))
 case atStart => exact ⟨(l0), (0), (wrap64 ((l0.length : Int) - 1)), (by first | rfl | (simp; done) | (simp [*]; done)), (by first | rfl | (simp; done) | (simp [*]; done)), H', ⟨Nat.le_refl _⟩, ⟨by (with_reducible repeat (first | apply Kd.R_alloc | apply Kd.R_drewN | apply Kd.R_drew)); exact HO0.out⟩, ⟨by repeat (first | (with_reducible first | exact HK.out | apply zoW.alloc | apply zoW.drewN | apply zoW.drew) | exact HK.out)⟩, ⟨bb_⟩⟩
 case round =>
  clear H'
  try clear c1
  try clear p2
  obtain ⟨x0_1, x2_1, x3_1, rfl, rfl, HA, HK1, HO_0, HK, HB⟩ := hrel
  have hl0_1 := (Kd.R_reads' HO_0.out).1
  rw [hl0_1] at HO_0
  (try simp only [hl0_1])
  cases gk with
  | zero => exact absurd HA.out (by simp [zoA.l0])
  | succ k1 =>
   have H := HA.out
   clear HA
   simp only [zoA.l0] at H
   by_cases c3 : x2_1 < x3_1
   ·rw [if_pos c3] at H
    have c3b0 : decide (x2_1 < x3_1) = true := decide_eq_true c3
    clear c3
    by_cases c4 : 0 ≤ x3_1
    ·rw [if_pos c4] at H
     have c4b0 : decide (0 ≤ x3_1) = true := decide_eq_true c4
     clear c4
     by_cases c5 : x3_1 < (x0_1.length : Int)
     ·rw [if_pos c5] at H
      have c5b0 : decide (x3_1 < (x0_1.length : Int)) = true := decide_eq_true c5
      (try (have c5b0h := c5b0; rw [hl0_1] at c5b0h))
      clear c5
      by_cases c6 : 0 ≤ x2_1
      ·rw [if_pos c6] at H
       have c6b0 : decide (0 ≤ x2_1) = true := decide_eq_true c6
       clear c6
       by_cases c7 : x2_1 < (x0_1.length : Int)
       ·rw [if_pos c7] at H
        have c7b0 : decide (x2_1 < (x0_1.length : Int)) = true := decide_eq_true c7
        (try (have c7b0h := c7b0; rw [hl0_1] at c7b0h))
        clear c7
        obtain ⟨y327, hy327⟩ : ∃ y_ : List (S35), y_ = (x0_1.set (x2_1 : Int).toNat (⟨(⟨(zmE x0_1 x3_1).f0.f0, (zmE x0_1 x3_1).f0.f1, (zmE x0_1 x3_1).f0.f2⟩ : S33), (⟨(zmE x0_1 x3_1).f1.f0, (zmE x0_1 x3_1).f1.f1, (zmE x0_1 x3_1).f1.f2⟩ : S33)⟩ : S35)) := ⟨_, rfl⟩
        replace H : (zoA.l0 k1 (y327.set (x3_1 : Int).toNat (⟨(⟨(zmE x0_1 x2_1).f0.f0, (zmE x0_1 x2_1).f0.f1, (zmE x0_1 x2_1).f0.f2⟩ : S33), (⟨(zmE x0_1 x2_1).f1.f0, (zmE x0_1 x2_1).f1.f1, (zmE x0_1 x2_1).f1.f2⟩ : S33)⟩ : S35)) (wrap64 (x2_1 + 1)) (wrap64 (x3_1 - 1))) = some r := by first | (rw [hy327]; with_reducible exact H) | (have H2_ := (Option.bind_some _ _).symm.trans H; rw [hy327]; with_reducible exact H2_) | (have H2_ := (Option.bind_some _ _).symm.trans H; with_reducible exact H2_) | with_reducible exact H | (rw [hy327]; exact H) | exact H
        have Ny327 := zpS hy327
        clear hy327
        obtain ⟨y328, hy328⟩ : ∃ y_ : List (S35), y_ = (y327.set (x3_1 : Int).toNat (⟨(⟨(zmE x0_1 x2_1).f0.f0, (zmE x0_1 x2_1).f0.f1, (zmE x0_1 x2_1).f0.f2⟩ : S33), (⟨(zmE x0_1 x2_1).f1.f0, (zmE x0_1 x2_1).f1.f1, (zmE x0_1 x2_1).f1.f2⟩ : S33)⟩ : S35)) := ⟨_, rfl⟩
        replace H : (zoA.l0 k1 y328 (wrap64 (x2_1 + 1)) (wrap64 (x3_1 - 1))) = some r := by first | (rw [hy328]; with_reducible exact H) | (have H2_ := (Option.bind_some _ _).symm.trans H; rw [hy328]; with_reducible exact H2_) | (have H2_ := (Option.bind_some _ _).symm.trans H; with_reducible exact H2_) | with_reducible exact H | (rw [hy328]; exact H) | exact H
        have Ny328 := zpS hy328
        clear hy328
        have H' := zpS H
        clear H
        try go_wp2
        have n0_ := zpS (Kd.R_drew HO_0.out)
        have n1_ := zpS (zoW.drew HK.out)
        have n2_ := zpS (zvF HB.out)
        clear HO_0
        clear HK
        clear HB
        have HO_0 := n0_
        have HK := n1_
        have HB := n2_
        clear n0_ n1_ n2_
        have p325 : 0 ≤ (x3_1 : Int) := dt_
        have q325 : x3_1 < (x0_1.length : Int) := dt_
        obtain ⟨ad325, e325, hx325_0, hx325_1, hx325_2, hx325_3, hx325_4, hx325_5⟩ := zcN (Kd.R_reads' HO_0.out).2.2 x3_1 p325 q325
        cases e325
        replace p325 := eq_true p325
        replace q325 := eq_true q325
        have p326 : 0 ≤ (x2_1 : Int) := dt_
        have q326 : x2_1 < (x0_1.length : Int) := dt_
        obtain ⟨ad326, e326, hx326_0, hx326_1, hx326_2, hx326_3, hx326_4, hx326_5⟩ := zcN (Kd.R_reads' HO_0.out).2.2 x2_1 p326 q326
        obtain rfl : ad325 = ad326 := (by injection e326)
        replace p326 := eq_true p326
        replace q326 := eq_true q326
        have p8 : 0 ≤ (x2_1 : Int) := dt_
        have q8 : (x2_1 : Int) < ((x0_1.length : Int) : Int) := dt_
        obtain ⟨go8, co8, eo8, gb8, gl8, cl8, HG8⟩ := Kd.R_form HO_0.out (by omega)
        (first | cases eo8 | (injection eo8 with ea_ en_ ec_; (first | subst ea_ | (injection ea_ with ea_; subst ea_)); subst ec_; clear en_))
        have GB8 := zpS gb8
        have GG8 := zpS HG8
        clear gb8 gl8 HG8
        have HMgo8 := zpS (show (P0_ go8 ∨ w.heap.size ≤ go8) from (HO_0.out.1 _ rfl))
        (first | simp only [zyK] at hx325_0 | skip)
        (first | simp only [zyK] at hx325_1 | skip)
        (first | simp only [zyK] at hx325_2 | skip)
        (first | simp only [zyK] at hx325_3 | skip)
        (first | simp only [zyK] at hx325_4 | skip)
        (first | simp only [zyK] at hx325_5 | skip)
        (first | simp only [zyK] at hx326_0 | skip)
        (first | simp only [zyK] at hx326_1 | skip)
        (first | simp only [zyK] at hx326_2 | skip)
        (first | simp only [zyK] at hx326_3 | skip)
        (first | simp only [zyK] at hx326_4 | skip)
        (first | simp only [zyK] at hx326_5 | skip)
        obtain ⟨ce8, hcl8, hM8, hcc8, hfr8⟩ := Kd.R_elem HO_0.out z35 (x2_1 : Int) p8 q8
        obtain rfl := zeE hM8
        have hx8_0 : World.cell? _ ⟨go8, (x2_1 : Int).toNat * 6, none⟩ = some (.int .i64 ((zmE x0_1 x2_1).f0.f0)) := hcc8 0 _ rfl
        have hx8_1 : World.cell? _ ⟨go8, (x2_1 : Int).toNat * 6 + 1, none⟩ = some (.int .i64 ((zmE x0_1 x2_1).f0.f1)) := hcc8 1 _ rfl
        have hx8_2 : World.cell? _ ⟨go8, (x2_1 : Int).toNat * 6 + 2, none⟩ = some (.int .i64 ((zmE x0_1 x2_1).f0.f2)) := hcc8 2 _ rfl
        have hx8_3 : World.cell? _ ⟨go8, (x2_1 : Int).toNat * 6 + 3, none⟩ = some (.int .i64 ((zmE x0_1 x2_1).f1.f0)) := hcc8 3 _ rfl
        have hx8_4 : World.cell? _ ⟨go8, (x2_1 : Int).toNat * 6 + 4, none⟩ = some (.int .i64 ((zmE x0_1 x2_1).f1.f1)) := hcc8 4 _ rfl
        have hx8_5 : World.cell? _ ⟨go8, (x2_1 : Int).toNat * 6 + 5, none⟩ = some (.int .i64 ((zmE x0_1 x2_1).f1.f2)) := hcc8 5 _ rfl
        have hf8_0 : World.frozen? _ ⟨go8, (x2_1 : Int).toNat * 6, none⟩ = false := hfr8 0
        have hf8_1 : World.frozen? _ ⟨go8, (x2_1 : Int).toNat * 6 + 1, none⟩ = false := hfr8 1
        have hf8_2 : World.frozen? _ ⟨go8, (x2_1 : Int).toNat * 6 + 2, none⟩ = false := hfr8 2
        have hf8_3 : World.frozen? _ ⟨go8, (x2_1 : Int).toNat * 6 + 3, none⟩ = false := hfr8 3
        have hf8_4 : World.frozen? _ ⟨go8, (x2_1 : Int).toNat * 6 + 4, none⟩ = false := hfr8 4
        have hf8_5 : World.frozen? _ ⟨go8, (x2_1 : Int).toNat * 6 + 5, none⟩ = false := hfr8 5
        clear hcl8 hcc8 hfr8; (try clear hM8)
        replace p8 := eq_true p8
        replace q8 := eq_true q8
        obtain ⟨ce11, hcl11, hM11, hcc11, hfr11⟩ := Kd.R_elem HO_0.out z35 (x2_1 : Int) dt_ (by have h_ : (x2_1 : Int) < ((x0_1.length : Int) : Int) := dt_; first | exact h_ | (have e_ := (Kd.R_reads' HO_0.out).1; omega) | simpa using h_)
        obtain rfl := zeE hM11
        have HP11 := (Kd.R_seg HO_0.out (x2_1 : Int) dt_ (by have h_ : (x2_1 : Int) < ((x0_1.length : Int) : Int) := dt_; first | exact h_ | (have e_ := (Kd.R_reads' HO_0.out).1; omega) | simpa using h_) (seg := [.int .i64 ((zmE x0_1 x3_1).f0.f0), .int .i64 ((zmE x0_1 x3_1).f0.f1), .int .i64 ((zmE x0_1 x3_1).f0.f2), .int .i64 ((zmE x0_1 x3_1).f1.f0), .int .i64 ((zmE x0_1 x3_1).f1.f1), .int .i64 ((zmE x0_1 x3_1).f1.f2)]) (j := 0) hcl11 hcc11 (show 6 ≤ 6 from by decide) (x' := (⟨(⟨(zmE x0_1 x3_1).f0.f0, (zmE x0_1 x3_1).f0.f1, (zmE x0_1 x3_1).f0.f2⟩ : S33), (⟨(zmE x0_1 x3_1).f1.f0, (zmE x0_1 x3_1).f1.f1, (zmE x0_1 x3_1).f1.f2⟩ : S33)⟩ : S35)) (k35_mkM _ _ _ (⟨(⟨(zmE x0_1 x3_1).f0.f0, (zmE x0_1 x3_1).f0.f1, (zmE x0_1 x3_1).f0.f2⟩ : S33), (⟨(zmE x0_1 x3_1).f1.f0, (zmE x0_1 x3_1).f1.f1, (zmE x0_1 x3_1).f1.f2⟩ : S33)⟩ : S35) ) (fun _ hk => hk)).1
        rw [← Ny327.out] at HP11
        have HQ11 := zpS HP11
        clear hcl11 hcc11 hfr11 HP11; (try clear hM11)
        have p9 : 0 ≤ (x3_1 : Int) := dt_
        have q9 : (x3_1 : Int) < ((x0_1.length : Int) : Int) := dt_
        obtain ⟨ce9, hcl9, hM9, hcc9, hfr9⟩ := Kd.R_elem HQ11.out z35 (x3_1 : Int) p9 q9
        obtain rfl := zeE hM9
        have hx9_0 : World.cell? _ ⟨go8, (x3_1 : Int).toNat * 6, none⟩ = some (.int .i64 ((zmE y327 x3_1).f0.f0)) := hcc9 0 _ rfl
        have hx9_1 : World.cell? _ ⟨go8, (x3_1 : Int).toNat * 6 + 1, none⟩ = some (.int .i64 ((zmE y327 x3_1).f0.f1)) := hcc9 1 _ rfl
        have hx9_2 : World.cell? _ ⟨go8, (x3_1 : Int).toNat * 6 + 2, none⟩ = some (.int .i64 ((zmE y327 x3_1).f0.f2)) := hcc9 2 _ rfl
        have hx9_3 : World.cell? _ ⟨go8, (x3_1 : Int).toNat * 6 + 3, none⟩ = some (.int .i64 ((zmE y327 x3_1).f1.f0)) := hcc9 3 _ rfl
        have hx9_4 : World.cell? _ ⟨go8, (x3_1 : Int).toNat * 6 + 4, none⟩ = some (.int .i64 ((zmE y327 x3_1).f1.f1)) := hcc9 4 _ rfl
        have hx9_5 : World.cell? _ ⟨go8, (x3_1 : Int).toNat * 6 + 5, none⟩ = some (.int .i64 ((zmE y327 x3_1).f1.f2)) := hcc9 5 _ rfl
        have hf9_0 : World.frozen? _ ⟨go8, (x3_1 : Int).toNat * 6, none⟩ = false := hfr9 0
        have hf9_1 : World.frozen? _ ⟨go8, (x3_1 : Int).toNat * 6 + 1, none⟩ = false := hfr9 1
        have hf9_2 : World.frozen? _ ⟨go8, (x3_1 : Int).toNat * 6 + 2, none⟩ = false := hfr9 2
        have hf9_3 : World.frozen? _ ⟨go8, (x3_1 : Int).toNat * 6 + 3, none⟩ = false := hfr9 3
        have hf9_4 : World.frozen? _ ⟨go8, (x3_1 : Int).toNat * 6 + 4, none⟩ = false := hfr9 4
        have hf9_5 : World.frozen? _ ⟨go8, (x3_1 : Int).toNat * 6 + 5, none⟩ = false := hfr9 5
        clear hcl9 hcc9 hfr9; (try clear hM9)
        replace p9 := eq_true p9
        replace q9 := eq_true q9
        obtain ⟨ce12, hcl12, hM12, hcc12, hfr12⟩ := Kd.R_elem HQ11.out z35 (x3_1 : Int) dt_ (by have h_ : (x3_1 : Int) < ((x0_1.length : Int) : Int) := dt_; first | exact h_ | (have e_ := (Kd.R_reads' HO_0.out).1; omega) | simpa using h_)
        obtain rfl := zeE hM12
        have HP12 := (Kd.R_seg HQ11.out (x3_1 : Int) dt_ (by have h_ : (x3_1 : Int) < ((x0_1.length : Int) : Int) := dt_; first | exact h_ | (have e_ := (Kd.R_reads' HO_0.out).1; omega) | simpa using h_) (seg := [.int .i64 ((zmE x0_1 x2_1).f0.f0), .int .i64 ((zmE x0_1 x2_1).f0.f1), .int .i64 ((zmE x0_1 x2_1).f0.f2), .int .i64 ((zmE x0_1 x2_1).f1.f0), .int .i64 ((zmE x0_1 x2_1).f1.f1), .int .i64 ((zmE x0_1 x2_1).f1.f2)]) (j := 0) hcl12 hcc12 (show 6 ≤ 6 from by decide) (x' := (⟨(⟨(zmE x0_1 x2_1).f0.f0, (zmE x0_1 x2_1).f0.f1, (zmE x0_1 x2_1).f0.f2⟩ : S33), (⟨(zmE x0_1 x2_1).f1.f0, (zmE x0_1 x2_1).f1.f1, (zmE x0_1 x2_1).f1.f2⟩ : S33)⟩ : S35)) (k35_mkM _ _ _ (⟨(⟨(zmE x0_1 x2_1).f0.f0, (zmE x0_1 x2_1).f0.f1, (zmE x0_1 x2_1).f0.f2⟩ : S33), (⟨(zmE x0_1 x2_1).f1.f0, (zmE x0_1 x2_1).f1.f1, (zmE x0_1 x2_1).f1.f2⟩ : S33)⟩ : S35) ) (fun _ hk => hk)).1
        rw [← Ny328.out] at HP12
        have HQ12 := zpS HP12
        clear hcl12 hcc12 hfr12 HP12; (try clear hM12)
        refine zpB (n := 16) (S := fun w' => w'.cell? ⟨go8, ((x3_1).toNat * 6), none⟩ = some (.int .i64 ((zmE x0_1 x3_1).f0.f0)) ∧ w'.cell? ⟨go8, ((x3_1).toNat * 6) + 1, none⟩ = some (.int .i64 ((zmE x0_1 x3_1).f0.f1)) ∧ w'.cell? ⟨go8, ((x3_1).toNat * 6) + 2, none⟩ = some (.int .i64 ((zmE x0_1 x3_1).f0.f2)) ∧ w'.cell? ⟨go8, ((x3_1).toNat * 6) + 3, none⟩ = some (.int .i64 ((zmE x0_1 x3_1).f1.f0)) ∧ w'.cell? ⟨go8, ((x3_1).toNat * 6) + 4, none⟩ = some (.int .i64 ((zmE x0_1 x3_1).f1.f1)) ∧ w'.cell? ⟨go8, ((x3_1).toNat * 6) + 5, none⟩ = some (.int .i64 ((zmE x0_1 x3_1).f1.f2)) ∧ w'.cell? ⟨go8, ((x2_1).toNat * 6), none⟩ = some (.int .i64 ((zmE x0_1 x2_1).f0.f0)) ∧ w'.cell? ⟨go8, ((x2_1).toNat * 6) + 1, none⟩ = some (.int .i64 ((zmE x0_1 x2_1).f0.f1)) ∧ w'.cell? ⟨go8, ((x2_1).toNat * 6) + 2, none⟩ = some (.int .i64 ((zmE x0_1 x2_1).f0.f2)) ∧ w'.cell? ⟨go8, ((x2_1).toNat * 6) + 3, none⟩ = some (.int .i64 ((zmE x0_1 x2_1).f1.f0)) ∧ w'.cell? ⟨go8, ((x2_1).toNat * 6) + 4, none⟩ = some (.int .i64 ((zmE x0_1 x2_1).f1.f1)) ∧ w'.cell? ⟨go8, ((x2_1).toNat * 6) + 5, none⟩ = some (.int .i64 ((zmE x0_1 x2_1).f1.f2))) (ds := [13, 15]) #[false, false, false, false, false, false, false, false, false, false, false, false, false, false, false, false] (by kernel_rfl) rfl rfl ⟨hx325_0, hx325_1, hx325_2, hx325_3, hx325_4, hx325_5, hx326_0, hx326_1, hx326_2, hx326_3, hx326_4, hx326_5⟩ (fun hHeld => ?_); refine zwI zoA.tab3 zoA.bits3 (fun HT_ HW_ => ?_)
        generalize wr.drew = w10 at HO_0 HK HB GG8 HQ11 HQ12 hf8_0 hf8_1 hf8_2 hf8_3 hf8_4 hf8_5 hf9_0 hf9_1 hf9_2 hf9_3 hf9_4 hf9_5 hx325_0 hx325_1 hx325_2 hx325_3 hx325_4 hx325_5 hx326_0 hx326_1 hx326_2 hx326_3 hx326_4 hx326_5 hx8_0 hx8_1 hx8_2 hx8_3 hx8_4 hx8_5 hx9_0 hx9_1 hx9_2 hx9_3 hx9_4 hx9_5 hHeld ⊢
        have hrne : ∀ (q r : Nat), q < 6 → r < 6 → (⟨go8, (x2_1 : Int).toNat * 6 + q, none⟩ : Addr) ≠ ⟨go8, (x3_1 : Int).toNat * 6 + r, none⟩ := fun q r hq hr e => by have e_ := congrArg Addr.off e; have a1 := of_decide_eq_true c3b0; have a2 := of_decide_eq_true c6b0; simp only at e_; omega
        have hrev_0 : (w10.setCell ⟨go8, (x2_1 : Int).toNat * 6, none⟩ (.int .i64 ((zmE x0_1 x3_1).f0.f0))).cell? ⟨go8, (x3_1 : Int).toNat * 6, none⟩ = some (.int .i64 ((zmE x0_1 x3_1).f0.f0)) := (World.cell?_setCell_other _ _ _ _ (hrne 0 0 (by decide) (by decide))).trans (hx325_0)
        have hrf_0 : w10.frozen? ⟨go8, (x3_1 : Int).toNat * 6, none⟩ = false := by have h_ := hf9_0; simpa only [World.frozen?_setCells, World.frozen?_setCell] using h_
        have hrev_1 : ((w10.setCell ⟨go8, (x2_1 : Int).toNat * 6, none⟩ (.int .i64 ((zmE x0_1 x3_1).f0.f0))).setCell ⟨go8, (x2_1 : Int).toNat * 6 + 1, none⟩ (.int .i64 ((zmE x0_1 x3_1).f0.f1))).cell? ⟨go8, (x3_1 : Int).toNat * 6 + 1, none⟩ = some (.int .i64 ((zmE x0_1 x3_1).f0.f1)) := (World.cell?_setCell_other _ _ _ _ (hrne 1 1 (by decide) (by decide))).trans ((World.cell?_setCell_other _ _ _ _ (hrne 0 1 (by decide) (by decide))).trans (hx325_1))
        have hrf_1 : w10.frozen? ⟨go8, (x3_1 : Int).toNat * 6 + 1, none⟩ = false := by have h_ := hf9_1; simpa only [World.frozen?_setCells, World.frozen?_setCell] using h_
        have hrev_2 : (((w10.setCell ⟨go8, (x2_1 : Int).toNat * 6, none⟩ (.int .i64 ((zmE x0_1 x3_1).f0.f0))).setCell ⟨go8, (x2_1 : Int).toNat * 6 + 1, none⟩ (.int .i64 ((zmE x0_1 x3_1).f0.f1))).setCell ⟨go8, (x2_1 : Int).toNat * 6 + 2, none⟩ (.int .i64 ((zmE x0_1 x3_1).f0.f2))).cell? ⟨go8, (x3_1 : Int).toNat * 6 + 2, none⟩ = some (.int .i64 ((zmE x0_1 x3_1).f0.f2)) := (World.cell?_setCell_other _ _ _ _ (hrne 2 2 (by decide) (by decide))).trans ((World.cell?_setCell_other _ _ _ _ (hrne 1 2 (by decide) (by decide))).trans ((World.cell?_setCell_other _ _ _ _ (hrne 0 2 (by decide) (by decide))).trans (hx325_2)))
        have hrf_2 : w10.frozen? ⟨go8, (x3_1 : Int).toNat * 6 + 2, none⟩ = false := by have h_ := hf9_2; simpa only [World.frozen?_setCells, World.frozen?_setCell] using h_
        have hrev_3 : ((((w10.setCell ⟨go8, (x2_1 : Int).toNat * 6, none⟩ (.int .i64 ((zmE x0_1 x3_1).f0.f0))).setCell ⟨go8, (x2_1 : Int).toNat * 6 + 1, none⟩ (.int .i64 ((zmE x0_1 x3_1).f0.f1))).setCell ⟨go8, (x2_1 : Int).toNat * 6 + 2, none⟩ (.int .i64 ((zmE x0_1 x3_1).f0.f2))).setCell ⟨go8, (x2_1 : Int).toNat * 6 + 3, none⟩ (.int .i64 ((zmE x0_1 x3_1).f1.f0))).cell? ⟨go8, (x3_1 : Int).toNat * 6 + 3, none⟩ = some (.int .i64 ((zmE x0_1 x3_1).f1.f0)) := (World.cell?_setCell_other _ _ _ _ (hrne 3 3 (by decide) (by decide))).trans ((World.cell?_setCell_other _ _ _ _ (hrne 2 3 (by decide) (by decide))).trans ((World.cell?_setCell_other _ _ _ _ (hrne 1 3 (by decide) (by decide))).trans ((World.cell?_setCell_other _ _ _ _ (hrne 0 3 (by decide) (by decide))).trans (hx325_3))))
        have hrf_3 : w10.frozen? ⟨go8, (x3_1 : Int).toNat * 6 + 3, none⟩ = false := by have h_ := hf9_3; simpa only [World.frozen?_setCells, World.frozen?_setCell] using h_
        have hrev_4 : (((((w10.setCell ⟨go8, (x2_1 : Int).toNat * 6, none⟩ (.int .i64 ((zmE x0_1 x3_1).f0.f0))).setCell ⟨go8, (x2_1 : Int).toNat * 6 + 1, none⟩ (.int .i64 ((zmE x0_1 x3_1).f0.f1))).setCell ⟨go8, (x2_1 : Int).toNat * 6 + 2, none⟩ (.int .i64 ((zmE x0_1 x3_1).f0.f2))).setCell ⟨go8, (x2_1 : Int).toNat * 6 + 3, none⟩ (.int .i64 ((zmE x0_1 x3_1).f1.f0))).setCell ⟨go8, (x2_1 : Int).toNat * 6 + 4, none⟩ (.int .i64 ((zmE x0_1 x3_1).f1.f1))).cell? ⟨go8, (x3_1 : Int).toNat * 6 + 4, none⟩ = some (.int .i64 ((zmE x0_1 x3_1).f1.f1)) := (World.cell?_setCell_other _ _ _ _ (hrne 4 4 (by decide) (by decide))).trans ((World.cell?_setCell_other _ _ _ _ (hrne 3 4 (by decide) (by decide))).trans ((World.cell?_setCell_other _ _ _ _ (hrne 2 4 (by decide) (by decide))).trans ((World.cell?_setCell_other _ _ _ _ (hrne 1 4 (by decide) (by decide))).trans ((World.cell?_setCell_other _ _ _ _ (hrne 0 4 (by decide) (by decide))).trans (hx325_4)))))
        have hrf_4 : w10.frozen? ⟨go8, (x3_1 : Int).toNat * 6 + 4, none⟩ = false := by have h_ := hf9_4; simpa only [World.frozen?_setCells, World.frozen?_setCell] using h_
        have hrev_5 : ((((((w10.setCell ⟨go8, (x2_1 : Int).toNat * 6, none⟩ (.int .i64 ((zmE x0_1 x3_1).f0.f0))).setCell ⟨go8, (x2_1 : Int).toNat * 6 + 1, none⟩ (.int .i64 ((zmE x0_1 x3_1).f0.f1))).setCell ⟨go8, (x2_1 : Int).toNat * 6 + 2, none⟩ (.int .i64 ((zmE x0_1 x3_1).f0.f2))).setCell ⟨go8, (x2_1 : Int).toNat * 6 + 3, none⟩ (.int .i64 ((zmE x0_1 x3_1).f1.f0))).setCell ⟨go8, (x2_1 : Int).toNat * 6 + 4, none⟩ (.int .i64 ((zmE x0_1 x3_1).f1.f1))).setCell ⟨go8, (x2_1 : Int).toNat * 6 + 5, none⟩ (.int .i64 ((zmE x0_1 x3_1).f1.f2))).cell? ⟨go8, (x3_1 : Int).toNat * 6 + 5, none⟩ = some (.int .i64 ((zmE x0_1 x3_1).f1.f2)) := (World.cell?_setCell_other _ _ _ _ (hrne 5 5 (by decide) (by decide))).trans ((World.cell?_setCell_other _ _ _ _ (hrne 4 5 (by decide) (by decide))).trans ((World.cell?_setCell_other _ _ _ _ (hrne 3 5 (by decide) (by decide))).trans ((World.cell?_setCell_other _ _ _ _ (hrne 2 5 (by decide) (by decide))).trans ((World.cell?_setCell_other _ _ _ _ (hrne 1 5 (by decide) (by decide))).trans ((World.cell?_setCell_other _ _ _ _ (hrne 0 5 (by decide) (by decide))).trans (hx325_5))))))
        have hrf_5 : w10.frozen? ⟨go8, (x3_1 : Int).toNat * 6 + 5, none⟩ = false := by have h_ := hf9_5; simpa only [World.frozen?_setCells, World.frozen?_setCell] using h_
        clear hrne
        refine pu_ 0 (some 14) (bl_ 16 1) ?_
        refine pu_ 1 (some 15) (bl_ 16 3) ?_
        refine pu_ 2 (some 16) (bl_ 16 7) ?_
        refine pu_ 3 (some 17) (bl_ 16 15) ?_
        refine pu_ 4 (some 18) (bl_ 16 31) ?_
        refine pu_ 5 (some 19) (bl_ 16 63) ?_
        refine pu_ 6 (some 20) (bl_ 16 127) ?_
        refine pu_ 8 (some 22) (bl_ 16 383) ?_
        refine pu_ 9 (some 23) (bl_ 16 895) ?_
        refine pu_ 10 (some 24) (bl_ 16 1919) ?_
        refine zmW 7 (some 21) (bl_ 16 2047) hHeld ?_
        refine zmW 11 (some 25) (bl_ 16 4095) hHeld ?_
        refine pu_ 12 (some 26) (bl_ 16 8191) ?_
        refine last_ (i := 13) (N := none) (bl_ 16 16383) rfl rfl (zeO HT_.out (by kernel_rfl)) (by decide) (fun K hK => ?_)
        refine skip_ (w1 := ?_) (by rfl) rfl ?_ ?_
        rotate_left
        ·go_simp
         rfl
        refine hK.out _ _ ?_
        clear hK K
        refine pu_ 14 (some 27) (bl_ 16 32767) ?_
        refine last_ (i := 15) (N := none) (bl_ 16 65535) rfl rfl (zeO HT_.out (by kernel_rfl)) (by decide) (fun K hK => ?_)
        refine skip_ (w1 := ?_) (by rfl) rfl ?_ ?_
        rotate_left
        ·go_simp
         rfl
        refine hK.out _ _ ?_
        clear hK K
        refine znK (zzP HT_.out (by kernel_rfl)) ?_
        try go_wp2
        (try simp only [← hl0_1])
        go_roundg k1
        case measure => have := HK1.out; omega
        case rel => exact ⟨(y328), (wrap64 (x2_1 + 1)), (wrap64 (x3_1 - 1)), (by first | rfl | (simp; done) | (simp [*]; done)), (by first | rfl | (simp; done) | (simp [*]; done)), H', ⟨by have := HK1.out; omega⟩, ⟨by (try simp only [hl0_1]); (with_reducible repeat (first | apply Kd.R_alloc | apply Kd.R_drewN | apply Kd.R_drew)); exact HQ12.out⟩, ⟨by repeat (first | (with_reducible first | exact HK.out | apply zoW.alloc | apply zoW.drewN | apply zoW.drew | refine zoW.setCell ?_ HMgo8.out _ | refine zoW.setCell ?_ HMgo8.out _ | refine zoW.setCell ?_ HMgo8.out _ | refine zoW.setCell ?_ HMgo8.out _ | refine zoW.setCell ?_ HMgo8.out _ | refine zoW.setCell ?_ HMgo8.out _ | refine zoW.setCell ?_ HMgo8.out _ | refine zoW.setCell ?_ HMgo8.out _ | refine zoW.setCell ?_ HMgo8.out _ | refine zoW.setCell ?_ HMgo8.out _ | refine zoW.setCell ?_ HMgo8.out _ | refine zoW.setCell ?_ HMgo8.out _) | exact HK.out)⟩, ⟨by repeat (first | (with_reducible first | exact HB.out | apply znU | apply zkZ | apply zvF | refine zjG ?_ GB8.out | refine zjG ?_ GB8.out | refine zjG ?_ GB8.out | refine zjG ?_ GB8.out | refine zjG ?_ GB8.out | refine zjG ?_ GB8.out | refine zjG ?_ GB8.out | refine zjG ?_ GB8.out | refine zjG ?_ GB8.out | refine zjG ?_ GB8.out | refine zjG ?_ GB8.out | refine zjG ?_ GB8.out) | exact HB.out)⟩⟩
       ·rw [if_neg c7] at H
        exact absurd H (by simp)
      ·rw [if_neg c6] at H
       exact absurd H (by simp)
     ·rw [if_neg c5] at H
      exact absurd H (by simp)
    ·rw [if_neg c4] at H
     exact absurd H (by simp)
   ·rw [if_neg c3] at H
    have c3b0 : decide (x2_1 < x3_1) = false := decide_eq_false c3
    clear c3
    obtain rfl := Option.some.inj H
    go_wp2
    first | go_end0 | ((try simp only [Exit.inBlock, Exit.then]); refine bodyPost_ret (results_none rfl _ _ _) rfl ?_)
    exact ⟨by first | rfl | (simp [ziS, znJ] <;> rfl) | (simp [*, ziS, znJ] <;> rfl), (by first | exact (by (with_reducible repeat (first | apply Kd.R_alloc | apply Kd.R_drewN | apply Kd.R_drew)); exact HO_0.out) | (simp only [hl0_1]; exact (by (with_reducible repeat (first | apply Kd.R_alloc | apply Kd.R_drewN | apply Kd.R_drew)); exact HO_0.out))), bb_, by repeat (first | (with_reducible first | exact HK.out | apply zoW.alloc | apply zoW.drewN | apply zoW.drew) | exact HK.out)⟩

def zpU.f (a0 : Int) : Option (Int) := some (mx (-1) (mn 1 a0))
theorem zpU.calls (a0 : Int) (r : Int) (w : World) (h : zpU.f a0 = some r) :
  Calls Tryd.prog 68 #[.int .i64 a0] w fun e w' => e = .returned (.int .i64 r) ∧ Below w.heap.size w w' := by
 have HB := zpS (Below.refl w.heap.size w)
 have H : (some (mx (-1) (mn 1 a0))) = some r := h
 clear h
 obtain ⟨ji2, hji2⟩ : ∃ j_ : Int, (mn 1 a0) = j_ := ⟨_, rfl⟩
 replace H : (some (mx (-1) (ji2))) = some r := by first | (rw [hji2] at H; exact H) | (simp only [hji2] at H ⊢; exact H)
 (try (have hji2h : ji2 ≤ 1 := by (rw [← hji2]; unfold mn; (repeat' split) <;> omega)))
 (try (have hji2g : ji2 ≤ 64 := by omega))
 have hji2_ : (if a0 < 1 then a0 else 1) = ji2 := hji2
 obtain ⟨ji3, hji3⟩ : ∃ j_ : Int, (mx (-1) (ji2)) = j_ := ⟨_, rfl⟩
 replace H : (some ji3) = some r := by first | (rw [hji3] at H; exact H) | (simp only [hji3] at H ⊢; exact H)
 have hji3_ : (if (-1) < (ji2) then (ji2) else (-1)) = ji3 := hji3
 obtain rfl := Option.some.inj H
 go_enter Tryd.func68, Tryd.ntmps68
 go_wp2
 go_ret
 exact ⟨by first | rfl | (simp [ziS, znJ] <;> rfl) | (simp only [← hji2, ← hji3]; first | rfl | (simp [ziS, znJ] <;> rfl)) | (simp [*, ziS, znJ] <;> rfl), bb_⟩

def zoP.f (a0 : Int) (a1 : Int) : Option (Int × Int) := some (IntKind.u64.wrap ((IntKind.u64.wrap ((IntKind.u64.wrap ((a0 / 4294967296) * (a1 / 4294967296))) + ((IntKind.u64.wrap ((IntKind.u64.wrap ((a0 / 4294967296) * (Go.bits .and .u64 a1 4294967295))) + ((IntKind.u64.wrap ((Go.bits .and .u64 a0 4294967295) * (Go.bits .and .u64 a1 4294967295))) / 4294967296))) / 4294967296))) + ((IntKind.u64.wrap ((Go.bits .and .u64 (IntKind.u64.wrap ((IntKind.u64.wrap ((a0 / 4294967296) * (Go.bits .and .u64 a1 4294967295))) + ((IntKind.u64.wrap ((Go.bits .and .u64 a0 4294967295) * (Go.bits .and .u64 a1 4294967295))) / 4294967296))) 4294967295) + (IntKind.u64.wrap ((Go.bits .and .u64 a0 4294967295) * (a1 / 4294967296))))) / 4294967296)), IntKind.u64.wrap (a0 * a1))
theorem zoP.calls (a0 : Int) (a1 : Int) (r1 : Int) (r2 : Int) (w : World) (h : zoP.f a0 a1 = some (r1, r2)) :
  Calls Tryd.prog 73 #[.int .u64 a0, .int .u64 a1] w fun e w' => e = .returned (.tuple #[.int .u64 r1, .int .u64 r2]) ∧ Drawn0 w w' := by
 have H : (some (IntKind.u64.wrap ((IntKind.u64.wrap ((IntKind.u64.wrap ((a0 / 4294967296) * (a1 / 4294967296))) + ((IntKind.u64.wrap ((IntKind.u64.wrap ((a0 / 4294967296) * (Go.bits .and .u64 a1 4294967295))) + ((IntKind.u64.wrap ((Go.bits .and .u64 a0 4294967295) * (Go.bits .and .u64 a1 4294967295))) / 4294967296))) / 4294967296))) + ((IntKind.u64.wrap ((Go.bits .and .u64 (IntKind.u64.wrap ((IntKind.u64.wrap ((a0 / 4294967296) * (Go.bits .and .u64 a1 4294967295))) + ((IntKind.u64.wrap ((Go.bits .and .u64 a0 4294967295) * (Go.bits .and .u64 a1 4294967295))) / 4294967296))) 4294967295) + (IntKind.u64.wrap ((Go.bits .and .u64 a0 4294967295) * (a1 / 4294967296))))) / 4294967296)), IntKind.u64.wrap (a0 * a1))) = some (r1, r2) := h
 clear h
 simp only [Option.some.injEq, Prod.mk.injEq] at H
 obtain ⟨rfl, rfl⟩ := H
 go_enter Tryd.func73, Tryd.ntmps73
 go_wp2
 go_ret2
 exact ⟨by first | rfl | (simp; done) | (simp [*]; done), by repeat (first | exact Drawn0.refl _ | apply Drawn0.step)⟩

def zgD.f (a0 : Int) : Option (Int) := some (mx a0 (wrap64 (-a0)))
theorem zgD.calls (a0 : Int) (r : Int) (w : World) (h : zgD.f a0 = some r) :
  Calls Tryd.prog 74 #[.int .i64 a0] w fun e w' => e = .returned (.int .i64 r) ∧ Below w.heap.size w w' := by
 have HB := zpS (Below.refl w.heap.size w)
 have H : (some (mx a0 (wrap64 (-a0)))) = some r := h
 clear h
 obtain ⟨ji2, hji2⟩ : ∃ j_ : Int, (mx a0 (wrap64 (-a0))) = j_ := ⟨_, rfl⟩
 replace H : (some ji2) = some r := by first | (rw [hji2] at H; exact H) | (simp only [hji2] at H ⊢; exact H)
 have hji2_ : (if a0 < (wrap64 (-a0)) then (wrap64 (-a0)) else a0) = ji2 := hji2
 obtain rfl := Option.some.inj H
 go_enter Tryd.func74, Tryd.ntmps74
 go_wp2
 go_ret
 exact ⟨by first | rfl | (simp [ziS, znJ] <;> rfl) | (simp only [← hji2]; first | rfl | (simp [ziS, znJ] <;> rfl)) | (simp [*, ziS, znJ] <;> rfl), bb_⟩

def zyC.f (a0 : Int) (a1 : Int) : Option (Bool) := (zgD.f a0).bind fun t329 => ((zgD.f a0).bind fun t330 => ((zoP.f (IntKind.u64.wrap (t329)) (IntKind.u64.wrap (t330))).bind fun bt331 => ((zgD.f a1).bind fun t333 => ((zgD.f a1).bind fun t334 => ((zoP.f (IntKind.u64.wrap (t333)) (IntKind.u64.wrap (t334))).bind fun bt335 => (if bt331.1 > (Go.bits .or .u64 (IntKind.u64.wrap (bt335.1 * 2)) (bt335.2 / 9223372036854775808)) then (some true) else (if bt331.1 = (Go.bits .or .u64 (IntKind.u64.wrap (bt335.1 * 2)) (bt335.2 / 9223372036854775808)) then (some (decide (bt331.2 > (IntKind.u64.wrap (bt335.2 * 2))))) else (some false))))))))
theorem zyC.calls (a0 : Int) (a1 : Int) (r : Bool) (w : World) (h : zyC.f a0 a1 = some r) :
  Calls Tryd.prog 69 #[.int .i64 a0, .int .i64 a1] w fun e w' => e = .returned (.bool r) ∧ Below w.heap.size w w' := by
 have HB := zpS (Below.refl w.heap.size w)
 have H : ((zgD.f a0).bind fun t329 => ((zgD.f a0).bind fun t330 => ((zoP.f (IntKind.u64.wrap (t329)) (IntKind.u64.wrap (t330))).bind fun bt331 => ((zgD.f a1).bind fun t333 => ((zgD.f a1).bind fun t334 => ((zoP.f (IntKind.u64.wrap (t333)) (IntKind.u64.wrap (t334))).bind fun bt335 => (if bt331.1 > (Go.bits .or .u64 (IntKind.u64.wrap (bt335.1 * 2)) (bt335.2 / 9223372036854775808)) then (some true) else (if bt331.1 = (Go.bits .or .u64 (IntKind.u64.wrap (bt335.1 * 2)) (bt335.2 / 9223372036854775808)) then (some (decide (bt331.2 > (IntKind.u64.wrap (bt335.2 * 2))))) else (some false))))))))) = some r := h
 clear h
 replace H := Option.bind_eq_some_iff.mp H
 obtain ⟨t329, A30, H⟩ := H
 replace H : ((zgD.f a0).bind fun t330 => ((zoP.f (IntKind.u64.wrap (t329)) (IntKind.u64.wrap (t330))).bind fun bt331 => ((zgD.f a1).bind fun t333 => ((zgD.f a1).bind fun t334 => ((zoP.f (IntKind.u64.wrap (t333)) (IntKind.u64.wrap (t334))).bind fun bt335 => (if bt331.1 > (Go.bits .or .u64 (IntKind.u64.wrap (bt335.1 * 2)) (bt335.2 / 9223372036854775808)) then (some true) else (if bt331.1 = (Go.bits .or .u64 (IntKind.u64.wrap (bt335.1 * 2)) (bt335.2 / 9223372036854775808)) then (some (decide (bt331.2 > (IntKind.u64.wrap (bt335.2 * 2))))) else (some false)))))))) = some r := H
 have A3 := zpS A30
 clear A30
 replace H := Option.bind_eq_some_iff.mp H
 obtain ⟨t330, A40, H⟩ := H
 replace H : ((zoP.f (IntKind.u64.wrap (t329)) (IntKind.u64.wrap (t330))).bind fun bt331 => ((zgD.f a1).bind fun t333 => ((zgD.f a1).bind fun t334 => ((zoP.f (IntKind.u64.wrap (t333)) (IntKind.u64.wrap (t334))).bind fun bt335 => (if bt331.1 > (Go.bits .or .u64 (IntKind.u64.wrap (bt335.1 * 2)) (bt335.2 / 9223372036854775808)) then (some true) else (if bt331.1 = (Go.bits .or .u64 (IntKind.u64.wrap (bt335.1 * 2)) (bt335.2 / 9223372036854775808)) then (some (decide (bt331.2 > (IntKind.u64.wrap (bt335.2 * 2))))) else (some false))))))) = some r := H
 have A4 := zpS A40
 clear A40
 replace H := Option.bind_eq_some_iff.mp H
 obtain ⟨⟨t331, t332⟩, A50, H⟩ := H
 replace H : ((zgD.f a1).bind fun t333 => ((zgD.f a1).bind fun t334 => ((zoP.f (IntKind.u64.wrap (t333)) (IntKind.u64.wrap (t334))).bind fun bt335 => (if t331 > (Go.bits .or .u64 (IntKind.u64.wrap (bt335.1 * 2)) (bt335.2 / 9223372036854775808)) then (some true) else (if t331 = (Go.bits .or .u64 (IntKind.u64.wrap (bt335.1 * 2)) (bt335.2 / 9223372036854775808)) then (some (decide (t332 > (IntKind.u64.wrap (bt335.2 * 2))))) else (some false)))))) = some r := H
 have A5 := zpS A50
 clear A50
 replace H := Option.bind_eq_some_iff.mp H
 obtain ⟨t333, A60, H⟩ := H
 replace H : ((zgD.f a1).bind fun t334 => ((zoP.f (IntKind.u64.wrap (t333)) (IntKind.u64.wrap (t334))).bind fun bt335 => (if t331 > (Go.bits .or .u64 (IntKind.u64.wrap (bt335.1 * 2)) (bt335.2 / 9223372036854775808)) then (some true) else (if t331 = (Go.bits .or .u64 (IntKind.u64.wrap (bt335.1 * 2)) (bt335.2 / 9223372036854775808)) then (some (decide (t332 > (IntKind.u64.wrap (bt335.2 * 2))))) else (some false))))) = some r := H
 have A6 := zpS A60
 clear A60
 replace H := Option.bind_eq_some_iff.mp H
 obtain ⟨t334, A70, H⟩ := H
 replace H : ((zoP.f (IntKind.u64.wrap (t333)) (IntKind.u64.wrap (t334))).bind fun bt335 => (if t331 > (Go.bits .or .u64 (IntKind.u64.wrap (bt335.1 * 2)) (bt335.2 / 9223372036854775808)) then (some true) else (if t331 = (Go.bits .or .u64 (IntKind.u64.wrap (bt335.1 * 2)) (bt335.2 / 9223372036854775808)) then (some (decide (t332 > (IntKind.u64.wrap (bt335.2 * 2))))) else (some false)))) = some r := H
 have A7 := zpS A70
 clear A70
 replace H := Option.bind_eq_some_iff.mp H
 obtain ⟨⟨t335, t336⟩, A80, H⟩ := H
 replace H : (if t331 > (Go.bits .or .u64 (IntKind.u64.wrap (t335 * 2)) (t336 / 9223372036854775808)) then (some true) else (if t331 = (Go.bits .or .u64 (IntKind.u64.wrap (t335 * 2)) (t336 / 9223372036854775808)) then (some (decide (t332 > (IntKind.u64.wrap (t336 * 2))))) else (some false))) = some r := H
 have A8 := zpS A80
 clear A80
 by_cases c9 : t331 > (Go.bits .or .u64 (IntKind.u64.wrap (t335 * 2)) (t336 / 9223372036854775808))
 ·rw [if_pos c9] at H
  have c9b0 : decide ((Go.bits .or .u64 (IntKind.u64.wrap (t335 * 2)) (t336 / 9223372036854775808)) < t331) = true := decide_eq_true c9
  clear c9
  obtain rfl := Option.some.inj H
  go_enter Tryd.func69, Tryd.ntmps69
  go_wp2_with (first | ((with_reducible refine zgK (f := 74) rfl ?_); refine zqQ (some 11) rfl rfl Tryd.func74 (by kernel_rfl) rfl #[.int .i64 a0] rfl (by (try simp only [List.map_toArray, List.map_cons, List.map_nil]); first | done | rfl | (simp only [List.length_drop, List.length_take]; rfl)) ?_; (with_reducible refine (zgD.calls a0 t329 _ A3.out).mono ?_); rintro e w10 ⟨rfl, hb⟩; refine ⟨_, rfl, ?_⟩; have n0_ := (ns_ hb); clear HB; have HB := n0_; clear n0_; (try clear hb); (try clear hb2)) | ((with_reducible refine zgK (f := 74) rfl ?_); refine zqQ (some 14) rfl rfl Tryd.func74 (by kernel_rfl) rfl #[.int .i64 a0] rfl (by (try simp only [List.map_toArray, List.map_cons, List.map_nil]); first | done | rfl | (simp only [List.length_drop, List.length_take]; rfl)) ?_; (with_reducible refine (zgD.calls a0 t330 _ A4.out).mono ?_); rintro e w11 ⟨rfl, hb⟩; refine ⟨_, rfl, ?_⟩; have n0_ := (ns_ hb); clear HB; have HB := n0_; clear n0_; (try clear hb); (try clear hb2)) | ((with_reducible refine zgK (f := 73) rfl ?_); refine zqQ (some 16) rfl rfl Tryd.func73 (by kernel_rfl) rfl #[.int .u64 (IntKind.u64.wrap (t329)), .int .u64 (IntKind.u64.wrap (t330))] rfl (by (try simp only [List.map_toArray, List.map_cons, List.map_nil]); first | done | rfl | (simp only [List.length_drop, List.length_take]; rfl)) ?_; (with_reducible refine (zoP.calls (IntKind.u64.wrap (t329)) (IntKind.u64.wrap (t330)) t331 t332 _ A5.out).mono ?_); rintro e w' ⟨rfl, ⟨nd, rfl⟩⟩; refine ⟨_, rfl, ?_⟩) | ((with_reducible refine zgK (f := 74) rfl ?_); refine zqQ (some 21) rfl rfl Tryd.func74 (by kernel_rfl) rfl #[.int .i64 a1] rfl (by (try simp only [List.map_toArray, List.map_cons, List.map_nil]); first | done | rfl | (simp only [List.length_drop, List.length_take]; rfl)) ?_; (with_reducible refine (zgD.calls a1 t333 _ A6.out).mono ?_); rintro e w12 ⟨rfl, hb⟩; refine ⟨_, rfl, ?_⟩; have n0_ := (ns_ hb); clear HB; have HB := n0_; clear n0_; (try clear hb); (try clear hb2)) | ((with_reducible refine zgK (f := 74) rfl ?_); refine zqQ (some 24) rfl rfl Tryd.func74 (by kernel_rfl) rfl #[.int .i64 a1] rfl (by (try simp only [List.map_toArray, List.map_cons, List.map_nil]); first | done | rfl | (simp only [List.length_drop, List.length_take]; rfl)) ?_; (with_reducible refine (zgD.calls a1 t334 _ A7.out).mono ?_); rintro e w13 ⟨rfl, hb⟩; refine ⟨_, rfl, ?_⟩; have n0_ := (ns_ hb); clear HB; have HB := n0_; clear n0_; (try clear hb); (try clear hb2)) | ((with_reducible refine zgK (f := 73) rfl ?_); refine zqQ (some 26) rfl rfl Tryd.func73 (by kernel_rfl) rfl #[.int .u64 (IntKind.u64.wrap (t333)), .int .u64 (IntKind.u64.wrap (t334))] rfl (by (try simp only [List.map_toArray, List.map_cons, List.map_nil]); first | done | rfl | (simp only [List.length_drop, List.length_take]; rfl)) ?_; (with_reducible refine (zoP.calls (IntKind.u64.wrap (t333)) (IntKind.u64.wrap (t334)) t335 t336 _ A8.out).mono ?_); rintro e w' ⟨rfl, ⟨nd, rfl⟩⟩; refine ⟨_, rfl, ?_⟩))
  go_ret
  exact ⟨by first | rfl | (simp [ziS, znJ] <;> rfl) | (simp [*, ziS, znJ] <;> rfl), bb_⟩
 ·rw [if_neg c9] at H
  have c9b0 : decide ((Go.bits .or .u64 (IntKind.u64.wrap (t335 * 2)) (t336 / 9223372036854775808)) < t331) = false := decide_eq_false c9
  clear c9
  by_cases c14 : t331 = (Go.bits .or .u64 (IntKind.u64.wrap (t335 * 2)) (t336 / 9223372036854775808))
  ·rw [if_pos c14] at H
   have c14b0 : (t331 == (Go.bits .or .u64 (IntKind.u64.wrap (t335 * 2)) (t336 / 9223372036854775808))) = true := beq_iff_eq.mpr c14
   have c14b1 : (t331 != (Go.bits .or .u64 (IntKind.u64.wrap (t335 * 2)) (t336 / 9223372036854775808))) = false := bne_eq_false_iff_eq.mpr c14
   clear c14
   obtain rfl := Option.some.inj H
   go_enter Tryd.func69, Tryd.ntmps69
   go_wp2_with (first | ((with_reducible refine zgK (f := 74) rfl ?_); refine zqQ (some 11) rfl rfl Tryd.func74 (by kernel_rfl) rfl #[.int .i64 a0] rfl (by (try simp only [List.map_toArray, List.map_cons, List.map_nil]); first | done | rfl | (simp only [List.length_drop, List.length_take]; rfl)) ?_; (with_reducible refine (zgD.calls a0 t329 _ A3.out).mono ?_); rintro e w15 ⟨rfl, hb⟩; refine ⟨_, rfl, ?_⟩; have n0_ := (ns_ hb); clear HB; have HB := n0_; clear n0_; (try clear hb); (try clear hb2)) | ((with_reducible refine zgK (f := 74) rfl ?_); refine zqQ (some 14) rfl rfl Tryd.func74 (by kernel_rfl) rfl #[.int .i64 a0] rfl (by (try simp only [List.map_toArray, List.map_cons, List.map_nil]); first | done | rfl | (simp only [List.length_drop, List.length_take]; rfl)) ?_; (with_reducible refine (zgD.calls a0 t330 _ A4.out).mono ?_); rintro e w16 ⟨rfl, hb⟩; refine ⟨_, rfl, ?_⟩; have n0_ := (ns_ hb); clear HB; have HB := n0_; clear n0_; (try clear hb); (try clear hb2)) | ((with_reducible refine zgK (f := 73) rfl ?_); refine zqQ (some 16) rfl rfl Tryd.func73 (by kernel_rfl) rfl #[.int .u64 (IntKind.u64.wrap (t329)), .int .u64 (IntKind.u64.wrap (t330))] rfl (by (try simp only [List.map_toArray, List.map_cons, List.map_nil]); first | done | rfl | (simp only [List.length_drop, List.length_take]; rfl)) ?_; (with_reducible refine (zoP.calls (IntKind.u64.wrap (t329)) (IntKind.u64.wrap (t330)) t331 t332 _ A5.out).mono ?_); rintro e w' ⟨rfl, ⟨nd, rfl⟩⟩; refine ⟨_, rfl, ?_⟩) | ((with_reducible refine zgK (f := 74) rfl ?_); refine zqQ (some 21) rfl rfl Tryd.func74 (by kernel_rfl) rfl #[.int .i64 a1] rfl (by (try simp only [List.map_toArray, List.map_cons, List.map_nil]); first | done | rfl | (simp only [List.length_drop, List.length_take]; rfl)) ?_; (with_reducible refine (zgD.calls a1 t333 _ A6.out).mono ?_); rintro e w17 ⟨rfl, hb⟩; refine ⟨_, rfl, ?_⟩; have n0_ := (ns_ hb); clear HB; have HB := n0_; clear n0_; (try clear hb); (try clear hb2)) | ((with_reducible refine zgK (f := 74) rfl ?_); refine zqQ (some 24) rfl rfl Tryd.func74 (by kernel_rfl) rfl #[.int .i64 a1] rfl (by (try simp only [List.map_toArray, List.map_cons, List.map_nil]); first | done | rfl | (simp only [List.length_drop, List.length_take]; rfl)) ?_; (with_reducible refine (zgD.calls a1 t334 _ A7.out).mono ?_); rintro e w18 ⟨rfl, hb⟩; refine ⟨_, rfl, ?_⟩; have n0_ := (ns_ hb); clear HB; have HB := n0_; clear n0_; (try clear hb); (try clear hb2)) | ((with_reducible refine zgK (f := 73) rfl ?_); refine zqQ (some 26) rfl rfl Tryd.func73 (by kernel_rfl) rfl #[.int .u64 (IntKind.u64.wrap (t333)), .int .u64 (IntKind.u64.wrap (t334))] rfl (by (try simp only [List.map_toArray, List.map_cons, List.map_nil]); first | done | rfl | (simp only [List.length_drop, List.length_take]; rfl)) ?_; (with_reducible refine (zoP.calls (IntKind.u64.wrap (t333)) (IntKind.u64.wrap (t334)) t335 t336 _ A8.out).mono ?_); rintro e w' ⟨rfl, ⟨nd, rfl⟩⟩; refine ⟨_, rfl, ?_⟩))
   go_ret
   exact ⟨by first | rfl | (simp [ziS, znJ] <;> rfl) | (simp [*, ziS, znJ] <;> rfl), bb_⟩
  ·rw [if_neg c14] at H
   have c14b0 : (t331 == (Go.bits .or .u64 (IntKind.u64.wrap (t335 * 2)) (t336 / 9223372036854775808))) = false := beq_eq_false_iff_ne.mpr c14
   have c14b1 : (t331 != (Go.bits .or .u64 (IntKind.u64.wrap (t335 * 2)) (t336 / 9223372036854775808))) = true := bne_iff_ne.mpr c14
   obtain rfl := Option.some.inj H
   go_enter Tryd.func69, Tryd.ntmps69
   go_wp2_with (first | ((with_reducible refine zgK (f := 74) rfl ?_); refine zqQ (some 11) rfl rfl Tryd.func74 (by kernel_rfl) rfl #[.int .i64 a0] rfl (by (try simp only [List.map_toArray, List.map_cons, List.map_nil]); first | done | rfl | (simp only [List.length_drop, List.length_take]; rfl)) ?_; (with_reducible refine (zgD.calls a0 t329 _ A3.out).mono ?_); rintro e w19 ⟨rfl, hb⟩; refine ⟨_, rfl, ?_⟩; have n0_ := (ns_ hb); clear HB; have HB := n0_; clear n0_; (try clear hb); (try clear hb2)) | ((with_reducible refine zgK (f := 74) rfl ?_); refine zqQ (some 14) rfl rfl Tryd.func74 (by kernel_rfl) rfl #[.int .i64 a0] rfl (by (try simp only [List.map_toArray, List.map_cons, List.map_nil]); first | done | rfl | (simp only [List.length_drop, List.length_take]; rfl)) ?_; (with_reducible refine (zgD.calls a0 t330 _ A4.out).mono ?_); rintro e w20 ⟨rfl, hb⟩; refine ⟨_, rfl, ?_⟩; have n0_ := (ns_ hb); clear HB; have HB := n0_; clear n0_; (try clear hb); (try clear hb2)) | ((with_reducible refine zgK (f := 73) rfl ?_); refine zqQ (some 16) rfl rfl Tryd.func73 (by kernel_rfl) rfl #[.int .u64 (IntKind.u64.wrap (t329)), .int .u64 (IntKind.u64.wrap (t330))] rfl (by (try simp only [List.map_toArray, List.map_cons, List.map_nil]); first | done | rfl | (simp only [List.length_drop, List.length_take]; rfl)) ?_; (with_reducible refine (zoP.calls (IntKind.u64.wrap (t329)) (IntKind.u64.wrap (t330)) t331 t332 _ A5.out).mono ?_); rintro e w' ⟨rfl, ⟨nd, rfl⟩⟩; refine ⟨_, rfl, ?_⟩) | ((with_reducible refine zgK (f := 74) rfl ?_); refine zqQ (some 21) rfl rfl Tryd.func74 (by kernel_rfl) rfl #[.int .i64 a1] rfl (by (try simp only [List.map_toArray, List.map_cons, List.map_nil]); first | done | rfl | (simp only [List.length_drop, List.length_take]; rfl)) ?_; (with_reducible refine (zgD.calls a1 t333 _ A6.out).mono ?_); rintro e w21 ⟨rfl, hb⟩; refine ⟨_, rfl, ?_⟩; have n0_ := (ns_ hb); clear HB; have HB := n0_; clear n0_; (try clear hb); (try clear hb2)) | ((with_reducible refine zgK (f := 74) rfl ?_); refine zqQ (some 24) rfl rfl Tryd.func74 (by kernel_rfl) rfl #[.int .i64 a1] rfl (by (try simp only [List.map_toArray, List.map_cons, List.map_nil]); first | done | rfl | (simp only [List.length_drop, List.length_take]; rfl)) ?_; (with_reducible refine (zgD.calls a1 t334 _ A7.out).mono ?_); rintro e w22 ⟨rfl, hb⟩; refine ⟨_, rfl, ?_⟩; have n0_ := (ns_ hb); clear HB; have HB := n0_; clear n0_; (try clear hb); (try clear hb2)) | ((with_reducible refine zgK (f := 73) rfl ?_); refine zqQ (some 26) rfl rfl Tryd.func73 (by kernel_rfl) rfl #[.int .u64 (IntKind.u64.wrap (t333)), .int .u64 (IntKind.u64.wrap (t334))] rfl (by (try simp only [List.map_toArray, List.map_cons, List.map_nil]); first | done | rfl | (simp only [List.length_drop, List.length_take]; rfl)) ?_; (with_reducible refine (zoP.calls (IntKind.u64.wrap (t333)) (IntKind.u64.wrap (t334)) t335 t336 _ A8.out).mono ?_); rintro e w' ⟨rfl, ⟨nd, rfl⟩⟩; refine ⟨_, rfl, ?_⟩))
   go_ret
   exact ⟨by first | rfl | (simp [ziS, znJ] <;> rfl) | (simp [*, ziS, znJ] <;> rfl), bb_⟩

def zyE.j0 : Nat → Int → Int → Bool → Int → Int → Int → Option (Int)
 | 0, _, _, _, _, _, _ => none
 | k + 1, x3, x4, x12, x338000, x338001, x338002 => if x12 = true then (some x3) else (if x3 = 0 then (some x4) else ((zyC.f x338000 x338001).bind fun t340 => (if t340 = true then (some x3) else (some x4))))
def zyE.f (k : Nat) (a0_0 : Int) (a0_1 : Int) (a0_2 : Int) : Option (Int) := (zpU.f a0_0).bind fun t338 => ((zpU.f a0_1).bind fun t339 => (if t338 = t339 then (zyE.j0 k t338 t339 true a0_0 a0_1 a0_2) else (zyE.j0 k t338 t339 (t339 == 0) a0_0 a0_1 a0_2)))
theorem zyE.mono_l : ∀ k, (∀ y0 y1 y2 y3 y4 y5, LeO (zyE.j0 k y0 y1 y2 y3 y4 y5) (zyE.j0 (k + 1) y0 y1 y2 y3 y4 y5))
 | 0 => fun _ _ _ _ _ _ r h => by simp [zyE.j0] at h
 | k + 1 => by
  have ih0 := zyE.mono_l k
  ·intro y0 y1 y2 y3 y4 y5
   unfold zyE.j0
   repeat' first
   | (with_reducible exact ih0 _ _ _ _ _ _)
   | (with_reducible exact LeO.refl _)
   | (with_reducible exact LeO.none _)
   | (with_reducible refine LeO.ite ?_ ?_)
   | (with_reducible refine LeO.bind ?_ (fun _ => ?_))
   | exact ih0 _ _ _ _ _ _
   | exact LeO.none _
   | refine LeO.ite ?_ ?_
   | refine LeO.bind ?_ (fun _ => ?_)
theorem zyE.mono : ∀ a0 a1 a2 k, LeO (zyE.f k a0 a1 a2) (zyE.f (k + 1) a0 a1 a2) := by
 intro a0 a1 a2 k
 have ih0 := zyE.mono_l k
 unfold zyE.f
 repeat' first
   | (with_reducible exact ih0 _ _ _ _ _ _)
   | (with_reducible exact LeO.refl _)
   | (with_reducible exact LeO.none _)
   | (with_reducible refine LeO.ite ?_ ?_)
   | (with_reducible refine LeO.bind ?_ (fun _ => ?_))
   | exact ih0 _ _ _ _ _ _
   | exact LeO.none _
   | refine LeO.ite ?_ ?_
   | refine LeO.bind ?_ (fun _ => ?_)
def zyE.T1 : Bool × List (List Nat × List Nat) := (true, [([], []), ([0], [0]), ([1], [1]), ([], []), ([3], [3]), ([4, 2], [4]), ([2, 5, 0, 1, 2], [2]), ([5, 6, 0, 1, 2, 3, 4, 5, 6], [5])])
def zyE.B1 : List Nat := [0, 1, 3, 0, 8, 31, 63, 127]
theorem zyE.tab1 : rtab .any (opsOf Tryd.f58 1) = zyE.T1 := by kernel_rfl
theorem zyE.bits1 : ztG zyE.T1.2 zyE.B1 = true := by kernel_rfl
theorem zyE.calls (k : Nat) (a0_0 : Int) (a0_1 : Int) (a0_2 : Int) (r : Int) (w : World) (h : zyE.f k a0_0 a0_1 a0_2 = some r) :
  Calls Tryd.prog 58 #[.agg #[.int .i64 a0_0, .int .i64 a0_1, .int .i64 a0_2]] w fun e w' => e = .returned (.int .i64 r) ∧ Below w.heap.size w w' := by
 have hu33 := Tryd.underlying33
 have HB := zpS (Below.refl w.heap.size w)
 have H : ((zpU.f a0_0).bind fun t338 => ((zpU.f a0_1).bind fun t339 => (if t338 = t339 then (zyE.j0 k t338 t339 true a0_0 a0_1 a0_2) else (zyE.j0 k t338 t339 (t339 == 0) a0_0 a0_1 a0_2)))) = some r := h
 clear h
 replace H := Option.bind_eq_some_iff.mp H
 obtain ⟨t338, A20, H⟩ := H
 replace H : ((zpU.f a0_1).bind fun t339 => (if t338 = t339 then (zyE.j0 k t338 t339 true a0_0 a0_1 a0_2) else (zyE.j0 k t338 t339 (t339 == 0) a0_0 a0_1 a0_2))) = some r := H
 have A2 := zpS A20
 clear A20
 replace H := Option.bind_eq_some_iff.mp H
 obtain ⟨t339, A30, H⟩ := H
 replace H : (if t338 = t339 then (zyE.j0 k t338 t339 true a0_0 a0_1 a0_2) else (zyE.j0 k t338 t339 (t339 == 0) a0_0 a0_1 a0_2)) = some r := H
 have A3 := zpS A30
 clear A30
 have HC4 := zpS H
 clear H
 go_enter Tryd.func58, Tryd.ntmps58
 try go_wp2_with (first | ((with_reducible refine zpZ (N := 1) rfl ?_); refine bx_ 1 #[.int .i64 a0_0, .int .i64 a0_1, .int .i64 a0_2] 33 ?_; intro gb337 hg w5 hbox hb; have n0_ := (ns_ hb); have n1_ := zpS (hbox); have n2_ := (ng_ hg); have n3_ := n2_; clear HB; have HB := n0_; have BK337 := n1_; have GW337 := n2_; have GE337 := n3_; clear n0_ n1_ n2_ n3_; clear hb hbox hg))
 have n0_ := zpS (ztN BK337.out)
 have n1_ := zpS (zvF HB.out)
 clear BK337
 clear HB
 have BK337 := n0_
 have HB := n1_
 clear n0_ n1_
 refine zpB (n := 8) (S := fun w' => w'.cell? ⟨gb337, 0, none⟩ = some (.int .i64 a0_0) ∧ w'.cell? ⟨gb337, 1, none⟩ = some (.int .i64 a0_1) ∧ w'.cell? ⟨gb337, 2, none⟩ = some (.int .i64 a0_2)) (ds := []) #[false, false, false, false, false, false, false, false] (by kernel_rfl) rfl rfl ⟨(zzS BK337.out 0).trans rfl, (zzS BK337.out 1).trans rfl, (zzS BK337.out 2).trans rfl⟩ (fun hHeld => ?_); refine zwI zyE.tab1 zyE.bits1 (fun HT_ HW_ => ?_)
 generalize w5.drew = w6 at BK337 HB hHeld ⊢
 refine pu_ 0 (some 5) (bl_ 8 1) ?_
 refine pu_ 3 (some 8) (bl_ 8 9) ?_
 refine tk3_ 1 (some 6) (bl_ 8 11) hHeld ?_
 refine tk3_ 4 (some 9) (bl_ 8 27) hHeld ?_
 refine zdC (i := 2) (N := some 7) (bl_ 8 31) rfl rfl (zeO HT_.out (by kernel_rfl)) (by decide) (fun K hK => ?_)
 refine zqW Tryd.func68 (by kernel_rfl) rfl #[.int .i64 a0_0] (by rfl) rfl rfl (by (try simp only [List.map_toArray, List.map_cons, List.map_nil]); first | done | rfl | (simp only [List.length_drop, List.length_take]; rfl)) ?_
 with_reducible refine (zpU.calls a0_0 t338 _ A2.out).mono ?_
 rintro e w7 ⟨rfl, hb⟩
 refine ⟨_, rfl, ?_⟩
 have n0_ := zpS (zgM (g := gb337) (o := .cells #[.int .i64 a0_0, .int .i64 a0_1, .int .i64 a0_2] 33 (0, 0)) bk_ hb)
 have n1_ := (ns_ hb)
 clear BK337
 clear HB
 have BK337 := n0_
 have HB := n1_
 clear n0_ n1_
 (try clear hb)
 (try clear hb2)
 (try clear hk)
 (try clear hi)
 refine hK.out _ _ ⟨(zzS BK337.out 0).trans rfl, (zzS BK337.out 1).trans rfl, (zzS BK337.out 2).trans rfl⟩ (fun hHeld => ?_)
 clear hK K
 refine zaN (a' := ?_) ?_ ?_
 rotate_left
 ·show Act.put _ (some 7) _ = _
  simp only [Act.put, List.setIfInBounds_toArray, List.set_cons_zero, List.set_cons_succ, zcM, ziK]
  rfl
 refine zdC (i := 5) (N := some 10) (bl_ 8 63) rfl rfl (zeO HT_.out (by kernel_rfl)) (by decide) (fun K hK => ?_)
 refine zqW Tryd.func68 (by kernel_rfl) rfl #[.int .i64 a0_1] (by rfl) rfl rfl (by (try simp only [List.map_toArray, List.map_cons, List.map_nil]); first | done | rfl | (simp only [List.length_drop, List.length_take]; rfl)) ?_
 with_reducible refine (zpU.calls a0_1 t339 _ A3.out).mono ?_
 rintro e w8 ⟨rfl, hb⟩
 refine ⟨_, rfl, ?_⟩
 have n0_ := zpS (zgM (g := gb337) (o := .cells #[.int .i64 a0_0, .int .i64 a0_1, .int .i64 a0_2] 33 (0, 0)) bk_ hb)
 have n1_ := (ns_ hb)
 clear BK337
 clear HB
 have BK337 := n0_
 have HB := n1_
 clear n0_ n1_
 (try clear hb)
 (try clear hb2)
 (try clear hk)
 (try clear hi)
 refine hK.out _ _ ⟨(zzS BK337.out 0).trans rfl, (zzS BK337.out 1).trans rfl, (zzS BK337.out 2).trans rfl⟩ (fun hHeld => ?_)
 clear hK K
 refine zaN (a' := ?_) ?_ ?_
 rotate_left
 ·show Act.put _ (some 10) _ = _
  simp only [Act.put, List.setIfInBounds_toArray, List.set_cons_zero, List.set_cons_succ, zcM, ziK]
  rfl
 refine pu_ 6 (some 3) (bl_ 8 127) ?_
 refine pu_ 7 (some 4) (bl_ 8 255) ?_
 refine znK (zzP HT_.out (by kernel_rfl)) ?_
 go_upto_region 3 with (fail)
 go_cut [12] (fun v12 wc => ∃ (kq : Nat) (x12_3 : Bool), v12 = .bool x12_3 ∧ Aside0 (zyE.j0 kq t338 t339 x12_3 a0_0 a0_1 a0_2 = some r) ∧ Aside0 (kq ≤ k) ∧ Aside0 (wc.heap[gb337]? = some (.cells #[.int .i64 a0_0, .int .i64 a0_1, .int .i64 a0_2] 33 (0, 0))) ∧ Aside0 (Below w.heap.size w wc))
 case first =>
  have H := HC4.out
  clear HC4
  by_cases c9 : t338 = t339
  ·rw [if_pos c9] at H
   have c9b0 : (t338 == t339) = true := beq_iff_eq.mpr c9
   have c9b1 : (t338 != t339) = false := bne_eq_false_iff_eq.mpr c9
   clear c9
   (first | rw [c9b0] | (simp only [zcM, ziK]; rw [c9b0]) | skip)
   have H' := zpS H
   clear H
   go_wp2
   go_meet
   case rel => exact ⟨_, (true), (by first | rfl | (simp; done) | (simp [*]; done)), H', ⟨by first | omega | exact Nat.le_refl _⟩, ⟨bk_⟩, ⟨bb_⟩⟩
  ·rw [if_neg c9] at H
   have c9b0 : (t338 == t339) = false := beq_eq_false_iff_ne.mpr c9
   have c9b1 : (t338 != t339) = true := bne_iff_ne.mpr c9
   (first | rw [c9b0] | (simp only [zcM, ziK]; rw [c9b0]) | skip)
   have H' := zpS H
   clear H
   go_wp2
   go_meet
   case rel => exact ⟨_, ((t339 == 0)), (by first | rfl | (simp; done) | (simp [*]; done)), H', ⟨by first | omega | exact Nat.le_refl _⟩, ⟨bk_⟩, ⟨bb_⟩⟩
 case rest =>
  clear HC4
  try clear p2
  try clear c5
  try clear c6
  try clear c9
  try clear c9b0
  try clear c9b1
  obtain ⟨kq, x12_3, rfl, HA, HJ3, BK337, HB⟩ := hcut
  cases kq with
  | zero => exact absurd HA.out (by simp [zyE.j0])
  | succ kj3 =>
   have H := HA.out
   clear HA
   simp only [zyE.j0] at H
   by_cases c10 : x12_3 = true
   ·subst c10
    have H1 : (some t338) = some r := by rw [if_pos rfl] at H; exact H
    clear H
    have H := H1
    clear H1
    obtain rfl := Option.some.inj H
    go_wp2
    go_ret
    exact ⟨by first | rfl | (simp [ziS, znJ] <;> rfl) | (simp [*, ziS, znJ] <;> rfl), bb_⟩
   ·replace c10 := Bool.eq_false_iff.mpr c10
    subst c10
    have H1 : (if t338 = 0 then (some t339) else ((zyC.f a0_0 a0_1).bind fun t340 => (if t340 = true then (some t338) else (some t339)))) = some r := by rw [if_neg (show ¬ (false = true) by decide)] at H; exact H
    clear H
    have H := H1
    clear H1
    by_cases c11 : t338 = 0
    ·rw [if_pos c11] at H
     have c11b0 : (t338 == 0) = true := beq_iff_eq.mpr c11
     have c11b1 : (t338 != 0) = false := bne_eq_false_iff_eq.mpr c11
     clear c11
     obtain rfl := Option.some.inj H
     go_wp2
     go_ret
     exact ⟨by first | rfl | (simp [ziS, znJ] <;> rfl) | (simp [*, ziS, znJ] <;> rfl), bb_⟩
    ·rw [if_neg c11] at H
     have c11b0 : (t338 == 0) = false := beq_eq_false_iff_ne.mpr c11
     have c11b1 : (t338 != 0) = true := bne_iff_ne.mpr c11
     replace H := Option.bind_eq_some_iff.mp H
     obtain ⟨t340, A120, H⟩ := H
     replace H : (if t340 = true then (some t338) else (some t339)) = some r := H
     have A12 := zpS A120
     clear A120
     by_cases c13 : t340 = true
     ·subst c13
      have H1 : (some t338) = some r := by rw [if_pos rfl] at H; exact H
      clear H
      have H := H1
      clear H1
      obtain rfl := Option.some.inj H
      obtain ⟨hcz14_0, hcz14_1, hcz14_2⟩ := zdT BK337.out
      obtain ⟨hfz14_0, hfz14_1, hfz14_2⟩ := zqD BK337.out
      go_wp2_with (first | (go_at_call 69; (with_reducible refine (zyC.calls a0_0 a0_1 true _ A12.out).mono ?_); rintro e w15 ⟨rfl, hb⟩; have n0_ := zpS (zgM (g := gb337) (o := .cells #[.int .i64 a0_0, .int .i64 a0_1, .int .i64 a0_2] 33 (0, 0)) bk_ hb); have n1_ := (ns_ hb); clear BK337; clear HB; have BK337 := n0_; have HB := n1_; clear n0_ n1_; (try clear hb); (try clear hb2)))
      go_ret
      exact ⟨by first | rfl | (simp [ziS, znJ] <;> rfl) | (simp [*, ziS, znJ] <;> rfl), bb_⟩
     ·replace c13 := Bool.eq_false_iff.mpr c13
      subst c13
      have H1 : (some t339) = some r := by rw [if_neg (show ¬ (false = true) by decide)] at H; exact H
      clear H
      have H := H1
      clear H1
      obtain rfl := Option.some.inj H
      obtain ⟨hcz16_0, hcz16_1, hcz16_2⟩ := zdT BK337.out
      obtain ⟨hfz16_0, hfz16_1, hfz16_2⟩ := zqD BK337.out
      go_wp2_with (first | (go_at_call 69; (with_reducible refine (zyC.calls a0_0 a0_1 false _ A12.out).mono ?_); rintro e w17 ⟨rfl, hb⟩; have n0_ := zpS (zgM (g := gb337) (o := .cells #[.int .i64 a0_0, .int .i64 a0_1, .int .i64 a0_2] 33 (0, 0)) bk_ hb); have n1_ := (ns_ hb); clear BK337; clear HB; have BK337 := n0_; have HB := n1_; clear n0_ n1_; (try clear hb); (try clear hb2)))
      go_ret
      exact ⟨by first | rfl | (simp [ziS, znJ] <;> rfl) | (simp [*, ziS, znJ] <;> rfl), bb_⟩

def zjD.f (a0_0 : Int) (a0_1 : Int) (a0_2 : Int) : Option (Int × Int × Int) := some (wrap64 (-a0_0), wrap64 (-a0_1), a0_2)
theorem zjD.calls (a0_0 : Int) (a0_1 : Int) (a0_2 : Int) (r1 : Int) (r2 : Int) (r3 : Int) (w : World) (h : zjD.f a0_0 a0_1 a0_2 = some (r1, r2, r3)) :
  Calls Tryd.prog 65 #[.agg #[.int .i64 a0_0, .int .i64 a0_1, .int .i64 a0_2]] w fun e w' => e = .returned (.agg #[.int .i64 r1, .int .i64 r2, .int .i64 r3]) ∧ Below w.heap.size w w' := by
 have hu33 := Tryd.underlying33
 have HB := zpS (Below.refl w.heap.size w)
 have H : (some (wrap64 (-a0_0), wrap64 (-a0_1), a0_2)) = some (r1, r2, r3) := h
 clear h
 simp only [Option.some.injEq, Prod.mk.injEq] at H
 obtain ⟨rfl, rfl, rfl⟩ := H
 go_enter Tryd.func65, Tryd.ntmps65
 go_wp2_with (first | ((with_reducible refine zpZ (N := 1) rfl ?_); refine bx_ 1 #[.int .i64 a0_0, .int .i64 a0_1, .int .i64 a0_2] 33 ?_; intro gb341 hg w2 hbox hb; have n0_ := (ns_ hb); have n1_ := zpS (hbox); have n2_ := (ng_ hg); have n3_ := n2_; clear HB; have HB := n0_; have BK341 := n1_; have GW341 := n2_; have GE341 := n3_; clear n0_ n1_ n2_ n3_; clear hb hbox hg) | ((with_reducible refine zpZ (N := 2) rfl ?_); refine bx_ 2 #[.int .i64 0, .int .i64 0, .int .i64 0] 33 ?_; intro gb342 hg w3 hbox hb; have n0_ := zpS (zgM (g := gb341) (o := .cells #[.int .i64 a0_0, .int .i64 a0_1, .int .i64 a0_2] 33 (0, 0)) bk_ hb); have n1_ := (ns_ hb); have n2_ := zpS (hbox); have n3_ := (ng_ hg); have n4_ := n3_; have n5_ := zpS ((by rw [hg]; exact Nat.ne_of_lt (zmN (g := gb341) (o := .cells #[.int .i64 a0_0, .int .i64 a0_1, .int .i64 a0_2] 33 (0, 0)) bk_) : gb341 ≠ gb342)); have n6_ := zpS ((by rw [hg]; exact Nat.ne_of_gt (zmN (g := gb341) (o := .cells #[.int .i64 a0_0, .int .i64 a0_1, .int .i64 a0_2] 33 (0, 0)) bk_) : gb342 ≠ gb341)); clear BK341; clear HB; have BK341 := n0_; have HB := n1_; have BK342 := n2_; have GW342 := n3_; have GE342 := n4_; have NB341_342 := n5_; have NB342_341 := n6_; clear n0_ n1_ n2_ n3_ n4_ n5_ n6_; clear hb hbox hg; have hnb4 := NB341_342.out; have hnc4 := NB342_341.out; obtain ⟨hcz5_0, hcz5_1, hcz5_2⟩ := zdT BK341.out; obtain ⟨hfz5_0, hfz5_1, hfz5_2⟩ := zqD BK341.out; obtain ⟨hcz6_0, hcz6_1, hcz6_2⟩ := zdT BK342.out; obtain ⟨hfz6_0, hfz6_1, hfz6_2⟩ := zqD BK342.out))
 refine bodyPost_ret (results_cell_row rfl _ _ gb342 33 #[.int .i64 (wrap64 (-a0_0)), .int .i64 (wrap64 (-a0_1)), .int .i64 a0_2] (0, 0) _ rfl (by (with_reducible repeat (first | apply zuW | apply ztN | apply zqY)); refine zlL (cs := #[.int .i64 (wrap64 (-a0_0)), .int .i64 (wrap64 (-a0_1)), .int .i64 0]) ?_ 2 _ rfl; (with_reducible repeat (first | apply zuW | apply ztN | apply zqY)); refine zlL (cs := #[.int .i64 (wrap64 (-a0_0)), .int .i64 0, .int .i64 0]) ?_ 1 _ rfl; (with_reducible repeat (first | apply zuW | apply ztN | apply zqY)); refine zlL (cs := #[.int .i64 0, .int .i64 0, .int .i64 0]) ?_ 0 _ rfl; (with_reducible repeat (first | apply zuW | apply ztN | apply zqY)); exact BK342.out) Tryd.underlying33 rfl (by kernel_rfl)) rfl ?_
 exact ⟨by first | rfl | (simp [ziS, znJ] <;> rfl) | (simp [*, ziS, znJ] <;> rfl), bb_⟩

end Go.Proofs.YtbnfbflfhpniaaaDoor.PFnExactNormalPolygon
