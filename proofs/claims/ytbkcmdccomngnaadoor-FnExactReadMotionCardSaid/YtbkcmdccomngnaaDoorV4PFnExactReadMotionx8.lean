-- Printed for this claim by this session's program pp.py, which drives the kit's print with additions. Not trusted: Lean checks it.
import Derived.Test.YtbkcmdccomngnaaDoorV4PFnExactReadMotionx0
import Derived.Test.YtbkcmdccomngnaaDoorV4PFnExactReadMotionx7
namespace Go.Proofs.YtbkcmdccomngnaaDoor.PFnExactReadMotion
open Go.RowKit Go.Proofs.YtbkcmdccomngnaaDoorW.PrintWords Go.Proofs.YtbkcmdccomngnaaDoorW.PrintLast Go.Proofs.YtbkcmdccomngnaaDoorW.PrintMore
attribute [local go_sem] zbB ziA zrC zhD znE zuA znK zkT   -- for this text's walks alone
set_option linter.unusedVariables false
set_option maxHeartbeats 8000000
set_option maxRecDepth 100000
set_option linter.unusedSimpArgs false

theorem u8x_ (z : Int) : wrap64 (IntKind.u8.wrap z) = z % 256 := by
 have e : IntKind.u8.wrap z = z % 256 := by simp [IntKind.wrap, IntKind.signed, IntKind.bits]
 rw [e]; unfold wrap64; omega
def zmL.j0 : Nat → ByteArray → Bool → Option (Int × Bool × Int × Int × Int × Int × Int × Int × Bool)
 | 0, _, _ => none
 | k + 1, x0, x33 => if x33 = true then (some (0, false, 0, 0, 0, 0, 0, 0, false)) else (if 3 ≤ (x0.size : Int) then ((zkO.f k (x0.extract 3 x0.size)).bind fun bt172 => (if bt172.2.2.2.2.2.2 = true then (if 1 < (x0.size : Int) then (if 0 < (x0.size : Int) then (some (((bt x0 1) - 48) % 256, ((bt x0 0) == 102), bt172.1, bt172.2.1, bt172.2.2.1, bt172.2.2.2.1, bt172.2.2.2.2.1, bt172.2.2.2.2.2.1, true)) else (none)) else (none)) else (some (0, false, 0, 0, 0, 0, 0, 0, false)))) else (none))
def zmL.f (k : Nat) (a0 : ByteArray) : Option (Int × Bool × Int × Int × Int × Int × Int × Int × Bool) := if (a0.size : Int) < 4 then (zmL.j0 k a0 true) else (if 0 < (a0.size : Int) then (if (bt a0 0) = 114 then (if 1 < (a0.size : Int) then (if (bt a0 1) < 48 then (zmL.j0 k a0 true) else (if (bt a0 1) > 55 then (zmL.j0 k a0 true) else (if 2 < (a0.size : Int) then (zmL.j0 k a0 ((bt a0 2) != 32)) else (none)))) else (none)) else (if (bt a0 0) = 102 then (if 1 < (a0.size : Int) then (if (bt a0 1) < 48 then (zmL.j0 k a0 true) else (if (bt a0 1) > 55 then (zmL.j0 k a0 true) else (if 2 < (a0.size : Int) then (zmL.j0 k a0 ((bt a0 2) != 32)) else (none)))) else (none)) else (zmL.j0 k a0 true))) else (none))
theorem zmL.mono_l : ∀ k, (∀ y0 y1, LeO (zmL.j0 k y0 y1) (zmL.j0 (k + 1) y0 y1))
 | 0 => fun _ _ r h => by simp [zmL.j0] at h
 | k + 1 => by
  have ih0 := zmL.mono_l k
  ·intro y0 y1
   unfold zmL.j0
   repeat' first
   | (with_reducible exact ih0 _ _)
   | (with_reducible exact zkO.mono _ _)
   | (with_reducible exact LeO.refl _)
   | (with_reducible exact LeO.none _)
   | (with_reducible refine LeO.ite ?_ ?_)
   | (with_reducible refine LeO.bind ?_ (fun _ => ?_))
   | exact ih0 _ _
   | exact zkO.mono _ _
   | exact LeO.none _
   | refine LeO.ite ?_ ?_
   | refine LeO.bind ?_ (fun _ => ?_)
theorem zmL.mono : ∀ a0 k, LeO (zmL.f k a0) (zmL.f (k + 1) a0) := by
 intro a0 k
 have ih0 := zmL.mono_l k
 unfold zmL.f
 repeat' first
   | (with_reducible exact ih0 _ _)
   | (with_reducible exact zkO.mono _ _)
   | (with_reducible exact LeO.refl _)
   | (with_reducible exact LeO.none _)
   | (with_reducible refine LeO.ite ?_ ?_)
   | (with_reducible refine LeO.bind ?_ (fun _ => ?_))
   | exact ih0 _ _
   | exact zkO.mono _ _
   | exact LeO.none _
   | refine LeO.ite ?_ ?_
   | refine LeO.bind ?_ (fun _ => ?_)
def zmL.T6 : Bool × List (List Nat × List Nat) := (true, [([], []), ([0], [0]), ([1], [1]), ([2], [2]), ([], []), ([4], [4]), ([5], [5]), ([], []), ([7], [7]), ([], []), ([9], [9]), ([3, 6, 8, 10], [3, 6, 8, 10]), ([11, 0, 1, 2, 3, 4, 5, 6, 7, 8, 9, 10, 11], [11]), ([12, 0, 1, 2, 3, 4, 5, 6, 7, 8, 9, 10, 11, 12], [])])
def zmL.B6 : List Nat := [0, 1, 3, 7, 0, 16, 48, 0, 128, 0, 512, 2047, 4095, 8191]
theorem zmL.tab6 : rtab .any (opsOf Tryd.f16 6) = zmL.T6 := by kernel_rfl
theorem zmL.bits6 : waitsOk zmL.T6.2 zmL.B6 = true := by kernel_rfl
theorem zmL.calls (k : Nat) (a0 : ByteArray) (r1 : Int) (r2 : Bool) (r3 : Int) (r4 : Int) (r5 : Int) (r6 : Int) (r7 : Int) (r8 : Int) (r9 : Bool) (w : World) (h : zmL.f k a0 = some (r1, r2, r3, r4, r5, r6, r7, r8, r9)) :
  Calls Tryd.prog 16 #[.string a0] w fun e w' => e = .returned (.tuple #[.agg #[.int .i64 r1, .bool r2, .int .i64 r3, .int .i64 r4, .int .i64 r5, .int .i64 r6, .int .i64 r7, .int .i64 r8], .bool r9]) ∧ Below w.heap.size w w' := by
 have hu39 := Tryd.underlying39
 have hu34 := Tryd.underlying34
 have hu23 := Tryd.underlying23
 have HB := zpS (Below.refl w.heap.size w)
 have H : (if (a0.size : Int) < 4 then (zmL.j0 k a0 true) else (if 0 < (a0.size : Int) then (if (bt a0 0) = 114 then (if 1 < (a0.size : Int) then (if (bt a0 1) < 48 then (zmL.j0 k a0 true) else (if (bt a0 1) > 55 then (zmL.j0 k a0 true) else (if 2 < (a0.size : Int) then (zmL.j0 k a0 ((bt a0 2) != 32)) else (none)))) else (none)) else (if (bt a0 0) = 102 then (if 1 < (a0.size : Int) then (if (bt a0 1) < 48 then (zmL.j0 k a0 true) else (if (bt a0 1) > 55 then (zmL.j0 k a0 true) else (if 2 < (a0.size : Int) then (zmL.j0 k a0 ((bt a0 2) != 32)) else (none)))) else (none)) else (zmL.j0 k a0 true))) else (none))) = some (r1, r2, r3, r4, r5, r6, r7, r8, r9) := h
 clear h
 have HC2 := zpS H
 clear H
 go_enter Tryd.func16, Tryd.ntmps16
 go_upto_region 1 with (first | ((with_reducible refine zpZ (N := 2) rfl ?_); refine bx_ 2 #[.int .i64 0, .bool false, .int .i64 0, .int .i64 0, .int .i64 0, .int .i64 0, .int .i64 0, .int .i64 0] 39 ?_; intro gb171 hg w3 hbox hb; have n0_ := (ns_ hb); have n1_ := zpS (hbox); have n2_ := (ng_ hg); have n3_ := n2_; clear HB; have HB := n0_; have BK171 := n1_; have GW171 := n2_; have GE171 := n3_; clear n0_ n1_ n2_ n3_; clear hb hbox hg))
 (try simp only [Act.put, set_a_, set_b_, set_c_])
 go_cut [33] (fun v33 wc => ∃ (kq : Nat) (x33_1 : Bool), v33 = .bool x33_1 ∧ Aside0 (zmL.j0 kq a0 x33_1 = some (r1, r2, r3, r4, r5, r6, r7, r8, r9)) ∧ Aside0 (kq ≤ k) ∧ Aside0 (wc.heap[gb171]? = some (.cells #[.int .i64 0, .bool false, .int .i64 0, .int .i64 0, .int .i64 0, .int .i64 0, .int .i64 0, .int .i64 0] 39 (0, 0))) ∧ Aside0 (Below w.heap.size w wc))
 case first =>
  have H := HC2.out
  clear HC2
  by_cases c4 : (a0.size : Int) < 4
  ·rw [if_pos c4] at H
   have c4b0 : decide ((a0.size : Int) < 4) = true := decide_eq_true c4
   have c4b1 : decide (a0.size < 4) = true := decide_eq_true (by omega)
   clear c4
   (first | rw [c4b0] | (simp only [zcN, ziJ]; rw [c4b0]) | skip)
   have H' := zpS H
   clear H
   go_wp2
   go_meet
   case rel => exact ⟨_, (true), (by first | rfl | (simp; done) | (simp [*]; done)), H', ⟨by first | omega | exact Nat.le_refl _⟩, ⟨bk_⟩, ⟨bb_⟩⟩
  ·rw [if_neg c4] at H
   have c4b0 : decide ((a0.size : Int) < 4) = false := decide_eq_false c4
   have c4b1 : decide (a0.size < 4) = false := decide_eq_false (by omega)
   clear c4
   (first | rw [c4b0] | (simp only [zcN, ziJ]; rw [c4b0]) | skip)
   by_cases c5 : 0 < (a0.size : Int)
   ·rw [if_pos c5] at H
    have c5b0 : decide (0 < (a0.size : Int)) = true := decide_eq_true c5
    have c5b1 : decide (0 < a0.size) = true := decide_eq_true (by omega)
    clear c5
    by_cases c7 : (bt a0 0) = 114
    ·rw [if_pos c7] at H
     have c7b0 : ((bt a0 0) == 114) = true := beq_iff_eq.mpr c7
     have c7b1 : ((bt a0 0) != 114) = false := bne_eq_false_iff_eq.mpr c7
     clear c7
     by_cases c8 : 1 < (a0.size : Int)
     ·rw [if_pos c8] at H
      have c8b0 : decide (1 < (a0.size : Int)) = true := decide_eq_true c8
      have c8b1 : decide (1 < a0.size) = true := decide_eq_true (by omega)
      clear c8
      by_cases c10 : (bt a0 1) < 48
      ·rw [if_pos c10] at H
       have c10b0 : decide ((bt a0 1) < 48) = true := decide_eq_true c10
       clear c10
       have H' := zpS H
       clear H
       have p6 : 0 ≤ (0 : Int) := (by omega)
       have q6 : 0 < a0.size := (by have : (0 : Int) < (a0.size : Int) := dt_; omega)
       have hx6 : ∀ h : 0 < a0.size, ((a0[0]'h).toNat : Int) = bt a0 0 := zbX a0 0
       clear p6
       have qi6 : (0 < (a0.size : Int)) = True := eq_true dt_
       replace q6 := eq_true q6
       have p9 : 0 ≤ (1 : Int) := (by omega)
       have q9 : 1 < a0.size := (by have : (1 : Int) < (a0.size : Int) := dt_; omega)
       have hx9 : ∀ h : 1 < a0.size, ((a0[1]'h).toNat : Int) = bt a0 1 := zbX a0 1
       clear p9
       have qi9 : (1 < (a0.size : Int)) = True := eq_true dt_
       replace q9 := eq_true q9
       go_wp2
       go_meet
       case rel => exact ⟨_, (true), (by first | rfl | (simp; done) | (simp [*]; done)), H', ⟨by first | omega | exact Nat.le_refl _⟩, ⟨bk_⟩, ⟨bb_⟩⟩
      ·rw [if_neg c10] at H
       have c10b0 : decide ((bt a0 1) < 48) = false := decide_eq_false c10
       clear c10
       by_cases c12 : (bt a0 1) > 55
       ·rw [if_pos c12] at H
        have c12b0 : decide (55 < (bt a0 1)) = true := decide_eq_true c12
        clear c12
        have H' := zpS H
        clear H
        have p6 : 0 ≤ (0 : Int) := (by omega)
        have q6 : 0 < a0.size := (by have : (0 : Int) < (a0.size : Int) := dt_; omega)
        have hx6 : ∀ h : 0 < a0.size, ((a0[0]'h).toNat : Int) = bt a0 0 := zbX a0 0
        clear p6
        have qi6 : (0 < (a0.size : Int)) = True := eq_true dt_
        replace q6 := eq_true q6
        have p9 : 0 ≤ (1 : Int) := (by omega)
        have q9 : 1 < a0.size := (by have : (1 : Int) < (a0.size : Int) := dt_; omega)
        have hx9 : ∀ h : 1 < a0.size, ((a0[1]'h).toNat : Int) = bt a0 1 := zbX a0 1
        clear p9
        have qi9 : (1 < (a0.size : Int)) = True := eq_true dt_
        replace q9 := eq_true q9
        have p11 : 0 ≤ (1 : Int) := (by omega)
        have q11 : 1 < a0.size := (by have : (1 : Int) < (a0.size : Int) := dt_; omega)
        have hx11 : ∀ h : 1 < a0.size, ((a0[1]'h).toNat : Int) = bt a0 1 := zbX a0 1
        clear p11
        have qi11 : (1 < (a0.size : Int)) = True := eq_true dt_
        replace q11 := eq_true q11
        go_wp2
        go_meet
        case rel => exact ⟨_, (true), (by first | rfl | (simp; done) | (simp [*]; done)), H', ⟨by first | omega | exact Nat.le_refl _⟩, ⟨bk_⟩, ⟨bb_⟩⟩
       ·rw [if_neg c12] at H
        have c12b0 : decide (55 < (bt a0 1)) = false := decide_eq_false c12
        clear c12
        by_cases c13 : 2 < (a0.size : Int)
        ·rw [if_pos c13] at H
         have c13b0 : decide (2 < (a0.size : Int)) = true := decide_eq_true c13
         have c13b1 : decide (2 < a0.size) = true := decide_eq_true (by omega)
         clear c13
         have H' := zpS H
         clear H
         have p6 : 0 ≤ (0 : Int) := (by omega)
         have q6 : 0 < a0.size := (by have : (0 : Int) < (a0.size : Int) := dt_; omega)
         have hx6 : ∀ h : 0 < a0.size, ((a0[0]'h).toNat : Int) = bt a0 0 := zbX a0 0
         clear p6
         have qi6 : (0 < (a0.size : Int)) = True := eq_true dt_
         replace q6 := eq_true q6
         have p9 : 0 ≤ (1 : Int) := (by omega)
         have q9 : 1 < a0.size := (by have : (1 : Int) < (a0.size : Int) := dt_; omega)
         have hx9 : ∀ h : 1 < a0.size, ((a0[1]'h).toNat : Int) = bt a0 1 := zbX a0 1
         clear p9
         have qi9 : (1 < (a0.size : Int)) = True := eq_true dt_
         replace q9 := eq_true q9
         have p11 : 0 ≤ (1 : Int) := (by omega)
         have q11 : 1 < a0.size := (by have : (1 : Int) < (a0.size : Int) := dt_; omega)
         have hx11 : ∀ h : 1 < a0.size, ((a0[1]'h).toNat : Int) = bt a0 1 := zbX a0 1
         clear p11
         have qi11 : (1 < (a0.size : Int)) = True := eq_true dt_
         replace q11 := eq_true q11
         have p14 : 0 ≤ (2 : Int) := (by omega)
         have q14 : 2 < a0.size := (by have : (2 : Int) < (a0.size : Int) := dt_; omega)
         have hx14 : ∀ h : 2 < a0.size, ((a0[2]'h).toNat : Int) = bt a0 2 := zbX a0 2
         clear p14
         have qi14 : (2 < (a0.size : Int)) = True := eq_true dt_
         replace q14 := eq_true q14
         go_wp2
         go_meet
         case rel => exact ⟨_, (((bt a0 2) != 32)), (by first | rfl | (simp; done) | (simp [*]; done)), H', ⟨by first | omega | exact Nat.le_refl _⟩, ⟨bk_⟩, ⟨bb_⟩⟩
        ·rw [if_neg c13] at H
         exact absurd H (by simp)
     ·rw [if_neg c8] at H
      exact absurd H (by simp)
    ·rw [if_neg c7] at H
     have c7b0 : ((bt a0 0) == 114) = false := beq_eq_false_iff_ne.mpr c7
     have c7b1 : ((bt a0 0) != 114) = true := bne_iff_ne.mpr c7
     by_cases c16 : (bt a0 0) = 102
     ·rw [if_pos c16] at H
      have c16b0 : ((bt a0 0) == 102) = true := beq_iff_eq.mpr c16
      have c16b1 : ((bt a0 0) != 102) = false := bne_eq_false_iff_eq.mpr c16
      clear c16
      by_cases c17 : 1 < (a0.size : Int)
      ·rw [if_pos c17] at H
       have c17b0 : decide (1 < (a0.size : Int)) = true := decide_eq_true c17
       have c17b1 : decide (1 < a0.size) = true := decide_eq_true (by omega)
       clear c17
       by_cases c19 : (bt a0 1) < 48
       ·rw [if_pos c19] at H
        have c19b0 : decide ((bt a0 1) < 48) = true := decide_eq_true c19
        clear c19
        have H' := zpS H
        clear H
        have p6 : 0 ≤ (0 : Int) := (by omega)
        have q6 : 0 < a0.size := (by have : (0 : Int) < (a0.size : Int) := dt_; omega)
        have hx6 : ∀ h : 0 < a0.size, ((a0[0]'h).toNat : Int) = bt a0 0 := zbX a0 0
        clear p6
        have qi6 : (0 < (a0.size : Int)) = True := eq_true dt_
        replace q6 := eq_true q6
        have p15 : 0 ≤ (0 : Int) := (by omega)
        have q15 : 0 < a0.size := (by have : (0 : Int) < (a0.size : Int) := dt_; omega)
        have hx15 : ∀ h : 0 < a0.size, ((a0[0]'h).toNat : Int) = bt a0 0 := zbX a0 0
        clear p15
        have qi15 : (0 < (a0.size : Int)) = True := eq_true dt_
        replace q15 := eq_true q15
        have p18 : 0 ≤ (1 : Int) := (by omega)
        have q18 : 1 < a0.size := (by have : (1 : Int) < (a0.size : Int) := dt_; omega)
        have hx18 : ∀ h : 1 < a0.size, ((a0[1]'h).toNat : Int) = bt a0 1 := zbX a0 1
        clear p18
        have qi18 : (1 < (a0.size : Int)) = True := eq_true dt_
        replace q18 := eq_true q18
        go_wp2
        go_meet
        case rel => exact ⟨_, (true), (by first | rfl | (simp; done) | (simp [*]; done)), H', ⟨by first | omega | exact Nat.le_refl _⟩, ⟨bk_⟩, ⟨bb_⟩⟩
       ·rw [if_neg c19] at H
        have c19b0 : decide ((bt a0 1) < 48) = false := decide_eq_false c19
        clear c19
        by_cases c21 : (bt a0 1) > 55
        ·rw [if_pos c21] at H
         have c21b0 : decide (55 < (bt a0 1)) = true := decide_eq_true c21
         clear c21
         have H' := zpS H
         clear H
         have p6 : 0 ≤ (0 : Int) := (by omega)
         have q6 : 0 < a0.size := (by have : (0 : Int) < (a0.size : Int) := dt_; omega)
         have hx6 : ∀ h : 0 < a0.size, ((a0[0]'h).toNat : Int) = bt a0 0 := zbX a0 0
         clear p6
         have qi6 : (0 < (a0.size : Int)) = True := eq_true dt_
         replace q6 := eq_true q6
         have p15 : 0 ≤ (0 : Int) := (by omega)
         have q15 : 0 < a0.size := (by have : (0 : Int) < (a0.size : Int) := dt_; omega)
         have hx15 : ∀ h : 0 < a0.size, ((a0[0]'h).toNat : Int) = bt a0 0 := zbX a0 0
         clear p15
         have qi15 : (0 < (a0.size : Int)) = True := eq_true dt_
         replace q15 := eq_true q15
         have p18 : 0 ≤ (1 : Int) := (by omega)
         have q18 : 1 < a0.size := (by have : (1 : Int) < (a0.size : Int) := dt_; omega)
         have hx18 : ∀ h : 1 < a0.size, ((a0[1]'h).toNat : Int) = bt a0 1 := zbX a0 1
         clear p18
         have qi18 : (1 < (a0.size : Int)) = True := eq_true dt_
         replace q18 := eq_true q18
         have p20 : 0 ≤ (1 : Int) := (by omega)
         have q20 : 1 < a0.size := (by have : (1 : Int) < (a0.size : Int) := dt_; omega)
         have hx20 : ∀ h : 1 < a0.size, ((a0[1]'h).toNat : Int) = bt a0 1 := zbX a0 1
         clear p20
         have qi20 : (1 < (a0.size : Int)) = True := eq_true dt_
         replace q20 := eq_true q20
         go_wp2
         go_meet
         case rel => exact ⟨_, (true), (by first | rfl | (simp; done) | (simp [*]; done)), H', ⟨by first | omega | exact Nat.le_refl _⟩, ⟨bk_⟩, ⟨bb_⟩⟩
        ·rw [if_neg c21] at H
         have c21b0 : decide (55 < (bt a0 1)) = false := decide_eq_false c21
         clear c21
         by_cases c22 : 2 < (a0.size : Int)
         ·rw [if_pos c22] at H
          have c22b0 : decide (2 < (a0.size : Int)) = true := decide_eq_true c22
          have c22b1 : decide (2 < a0.size) = true := decide_eq_true (by omega)
          clear c22
          have H' := zpS H
          clear H
          have p6 : 0 ≤ (0 : Int) := (by omega)
          have q6 : 0 < a0.size := (by have : (0 : Int) < (a0.size : Int) := dt_; omega)
          have hx6 : ∀ h : 0 < a0.size, ((a0[0]'h).toNat : Int) = bt a0 0 := zbX a0 0
          clear p6
          have qi6 : (0 < (a0.size : Int)) = True := eq_true dt_
          replace q6 := eq_true q6
          have p15 : 0 ≤ (0 : Int) := (by omega)
          have q15 : 0 < a0.size := (by have : (0 : Int) < (a0.size : Int) := dt_; omega)
          have hx15 : ∀ h : 0 < a0.size, ((a0[0]'h).toNat : Int) = bt a0 0 := zbX a0 0
          clear p15
          have qi15 : (0 < (a0.size : Int)) = True := eq_true dt_
          replace q15 := eq_true q15
          have p18 : 0 ≤ (1 : Int) := (by omega)
          have q18 : 1 < a0.size := (by have : (1 : Int) < (a0.size : Int) := dt_; omega)
          have hx18 : ∀ h : 1 < a0.size, ((a0[1]'h).toNat : Int) = bt a0 1 := zbX a0 1
          clear p18
          have qi18 : (1 < (a0.size : Int)) = True := eq_true dt_
          replace q18 := eq_true q18
          have p20 : 0 ≤ (1 : Int) := (by omega)
          have q20 : 1 < a0.size := (by have : (1 : Int) < (a0.size : Int) := dt_; omega)
          have hx20 : ∀ h : 1 < a0.size, ((a0[1]'h).toNat : Int) = bt a0 1 := zbX a0 1
          clear p20
          have qi20 : (1 < (a0.size : Int)) = True := eq_true dt_
          replace q20 := eq_true q20
          have p23 : 0 ≤ (2 : Int) := (by omega)
          have q23 : 2 < a0.size := (by have : (2 : Int) < (a0.size : Int) := dt_; omega)
          have hx23 : ∀ h : 2 < a0.size, ((a0[2]'h).toNat : Int) = bt a0 2 := zbX a0 2
          clear p23
          have qi23 : (2 < (a0.size : Int)) = True := eq_true dt_
          replace q23 := eq_true q23
          go_wp2
          go_meet
          case rel => exact ⟨_, (((bt a0 2) != 32)), (by first | rfl | (simp; done) | (simp [*]; done)), H', ⟨by first | omega | exact Nat.le_refl _⟩, ⟨bk_⟩, ⟨bb_⟩⟩
         ·rw [if_neg c22] at H
          exact absurd H (by simp)
      ·rw [if_neg c17] at H
       exact absurd H (by simp)
     ·rw [if_neg c16] at H
      have c16b0 : ((bt a0 0) == 102) = false := beq_eq_false_iff_ne.mpr c16
      have c16b1 : ((bt a0 0) != 102) = true := bne_iff_ne.mpr c16
      have H' := zpS H
      clear H
      have p6 : 0 ≤ (0 : Int) := (by omega)
      have q6 : 0 < a0.size := (by have : (0 : Int) < (a0.size : Int) := dt_; omega)
      have hx6 : ∀ h : 0 < a0.size, ((a0[0]'h).toNat : Int) = bt a0 0 := zbX a0 0
      clear p6
      have qi6 : (0 < (a0.size : Int)) = True := eq_true dt_
      replace q6 := eq_true q6
      have p15 : 0 ≤ (0 : Int) := (by omega)
      have q15 : 0 < a0.size := (by have : (0 : Int) < (a0.size : Int) := dt_; omega)
      have hx15 : ∀ h : 0 < a0.size, ((a0[0]'h).toNat : Int) = bt a0 0 := zbX a0 0
      clear p15
      have qi15 : (0 < (a0.size : Int)) = True := eq_true dt_
      replace q15 := eq_true q15
      go_wp2
      go_meet
      case rel => exact ⟨_, (true), (by first | rfl | (simp; done) | (simp [*]; done)), H', ⟨by first | omega | exact Nat.le_refl _⟩, ⟨bk_⟩, ⟨bb_⟩⟩
   ·rw [if_neg c5] at H
    exact absurd H (by simp)
 case rest =>
  clear HC2
  try clear c1
  try clear p1
  try clear q1
  try clear hx1
  try clear qi1
  try clear c2
  try clear p2
  try clear q2
  try clear hx2
  try clear qi2
  try clear c4
  try clear c4b0
  try clear c4b1
  try clear c5
  try clear c5b0
  try clear c5b1
  try clear p6
  try clear q6
  try clear hx6
  try clear qi6
  try clear c7
  try clear c7b0
  try clear c7b1
  try clear c8
  try clear c8b0
  try clear c8b1
  try clear p9
  try clear q9
  try clear hx9
  try clear qi9
  try clear c10
  try clear c10b0
  try clear p11
  try clear q11
  try clear hx11
  try clear qi11
  try clear c12
  try clear c12b0
  try clear c13
  try clear c13b0
  try clear c13b1
  try clear p14
  try clear q14
  try clear hx14
  try clear qi14
  try clear p15
  try clear q15
  try clear hx15
  try clear qi15
  try clear c16
  try clear c16b0
  try clear c16b1
  try clear c17
  try clear c17b0
  try clear c17b1
  try clear p18
  try clear q18
  try clear hx18
  try clear qi18
  try clear c19
  try clear c19b0
  try clear p20
  try clear q20
  try clear hx20
  try clear qi20
  try clear c21
  try clear c21b0
  try clear c22
  try clear c22b0
  try clear c22b1
  try clear p23
  try clear q23
  try clear hx23
  try clear qi23
  try clear p11
  try clear p14
  try clear p15
  try clear p18
  try clear p20
  try clear p23
  try clear p6
  try clear p9
  try clear q11
  try clear q14
  try clear q15
  try clear q18
  try clear q20
  try clear q23
  try clear q6
  try clear q9
  obtain ⟨kq, x33_1, rfl, HA, HJ1, BK171, HB⟩ := hcut
  cases kq with
  | zero => exact absurd HA.out (by simp [zmL.j0])
  | succ kj1 =>
   have H := HA.out
   clear HA
   simp only [zmL.j0] at H
   by_cases c24 : x33_1 = true
   ·subst c24
    have H1 : (some (0, false, 0, 0, 0, 0, 0, 0, false)) = some (r1, r2, r3, r4, r5, r6, r7, r8, r9) := by rw [if_pos rfl] at H; exact H
    clear H
    have H := H1
    clear H1
    simp only [Option.some.injEq, Prod.mk.injEq] at H
    obtain ⟨rfl, rfl, rfl, rfl, rfl, rfl, rfl, rfl, rfl⟩ := H
    have hcz25_0 : wc.cell? ⟨gb171, 0, none⟩ = some (.int .i64 0) := (zzS BK171.out 0).trans rfl
    have hcz25_1 : wc.cell? ⟨gb171, 1, none⟩ = some (.bool false) := (zzS BK171.out 1).trans rfl
    have hcz25_2 : wc.cell? ⟨gb171, 2, none⟩ = some (.int .i64 0) := (zzS BK171.out 2).trans rfl
    have hcz25_3 : wc.cell? ⟨gb171, 3, none⟩ = some (.int .i64 0) := (zzS BK171.out 3).trans rfl
    have hcz25_4 : wc.cell? ⟨gb171, 4, none⟩ = some (.int .i64 0) := (zzS BK171.out 4).trans rfl
    have hcz25_5 : wc.cell? ⟨gb171, 5, none⟩ = some (.int .i64 0) := (zzS BK171.out 5).trans rfl
    have hcz25_6 : wc.cell? ⟨gb171, 6, none⟩ = some (.int .i64 0) := (zzS BK171.out 6).trans rfl
    have hcz25_7 : wc.cell? ⟨gb171, 7, none⟩ = some (.int .i64 0) := (zzS BK171.out 7).trans rfl
    have hfz25_0 := zjF BK171.out 0
    have hfz25_1 := zjF BK171.out 1
    have hfz25_2 := zjF BK171.out 2
    have hfz25_3 := zjF BK171.out 3
    have hfz25_4 := zjF BK171.out 4
    have hfz25_5 := zjF BK171.out 5
    have hfz25_6 := zjF BK171.out 6
    have hfz25_7 := zjF BK171.out 7
    go_wp2
    refine bodyPost_ret (zzB rfl _ _ gb171 39 #[.int .i64 0, .bool false, .int .i64 0, .int .i64 0, .int .i64 0, .int .i64 0, .int .i64 0, .int .i64 0] (0, 0) _ rfl (by (with_reducible repeat (first | apply zuW | apply ztN | apply zqY)); refine zlL (cs := #[.int .i64 0, .bool false, .int .i64 0, .int .i64 0, .int .i64 0, .int .i64 0, .int .i64 0, .int .i64 0]) ?_ 7 _ rfl; (with_reducible repeat (first | apply zuW | apply ztN | apply zqY)); refine zlL (cs := #[.int .i64 0, .bool false, .int .i64 0, .int .i64 0, .int .i64 0, .int .i64 0, .int .i64 0, .int .i64 0]) ?_ 6 _ rfl; (with_reducible repeat (first | apply zuW | apply ztN | apply zqY)); refine zlL (cs := #[.int .i64 0, .bool false, .int .i64 0, .int .i64 0, .int .i64 0, .int .i64 0, .int .i64 0, .int .i64 0]) ?_ 5 _ rfl; (with_reducible repeat (first | apply zuW | apply ztN | apply zqY)); refine zlL (cs := #[.int .i64 0, .bool false, .int .i64 0, .int .i64 0, .int .i64 0, .int .i64 0, .int .i64 0, .int .i64 0]) ?_ 4 _ rfl; (with_reducible repeat (first | apply zuW | apply ztN | apply zqY)); refine zlL (cs := #[.int .i64 0, .bool false, .int .i64 0, .int .i64 0, .int .i64 0, .int .i64 0, .int .i64 0, .int .i64 0]) ?_ 3 _ rfl; (with_reducible repeat (first | apply zuW | apply ztN | apply zqY)); refine zlL (cs := #[.int .i64 0, .bool false, .int .i64 0, .int .i64 0, .int .i64 0, .int .i64 0, .int .i64 0, .int .i64 0]) ?_ 2 _ rfl; (with_reducible repeat (first | apply zuW | apply ztN | apply zqY)); refine zlL (cs := #[.int .i64 0, .bool false, .int .i64 0, .int .i64 0, .int .i64 0, .int .i64 0, .int .i64 0, .int .i64 0]) ?_ 1 _ rfl; (with_reducible repeat (first | apply zuW | apply ztN | apply zqY)); refine zlL (cs := #[.int .i64 0, .bool false, .int .i64 0, .int .i64 0, .int .i64 0, .int .i64 0, .int .i64 0, .int .i64 0]) ?_ 0 _ rfl; (with_reducible repeat (first | apply zuW | apply ztN | apply zqY)); exact BK171.out) Tryd.underlying39 rfl (by kernel_rfl)) rfl ?_
    exact ⟨by first | rfl | (simp [ziS, znJ] <;> rfl) | (simp [*, ziS, znJ] <;> rfl), bb_⟩
   ·replace c24 := Bool.eq_false_iff.mpr c24
    subst c24
    have H1 : (if 3 ≤ (a0.size : Int) then ((zkO.f kj1 (a0.extract 3 a0.size)).bind fun bt172 => (if bt172.2.2.2.2.2.2 = true then (if 1 < (a0.size : Int) then (if 0 < (a0.size : Int) then (some (((bt a0 1) - 48) % 256, ((bt a0 0) == 102), bt172.1, bt172.2.1, bt172.2.2.1, bt172.2.2.2.1, bt172.2.2.2.2.1, bt172.2.2.2.2.2.1, true)) else (none)) else (none)) else (some (0, false, 0, 0, 0, 0, 0, 0, false)))) else (none)) = some (r1, r2, r3, r4, r5, r6, r7, r8, r9) := by rw [if_neg (show ¬ (false = true) by decide)] at H; exact H
    clear H
    have H := H1
    clear H1
    by_cases c26 : 3 ≤ (a0.size : Int)
    ·rw [if_pos c26] at H
     have c26b0 := eq_true c26
     have c26b1 : decide (3 ≤ (a0.size : Int)) = true := decide_eq_true c26
     clear c26
     replace H := Option.bind_eq_some_iff.mp H
     obtain ⟨⟨t172, t173, t174, t175, t176, t177, t178⟩, A270, H⟩ := H
     replace H : (if t178 = true then (if 1 < (a0.size : Int) then (if 0 < (a0.size : Int) then (some (((bt a0 1) - 48) % 256, ((bt a0 0) == 102), t172, t173, t174, t175, t176, t177, true)) else (none)) else (none)) else (some (0, false, 0, 0, 0, 0, 0, 0, false))) = some (r1, r2, r3, r4, r5, r6, r7, r8, r9) := H
     have A27 := zpS A270
     clear A270
     by_cases c28 : t178 = true
     ·subst c28
      have H1 : (if 1 < (a0.size : Int) then (if 0 < (a0.size : Int) then (some (((bt a0 1) - 48) % 256, ((bt a0 0) == 102), t172, t173, t174, t175, t176, t177, true)) else (none)) else (none)) = some (r1, r2, r3, r4, r5, r6, r7, r8, r9) := by rw [if_pos rfl] at H; exact H
      clear H
      have H := H1
      clear H1
      by_cases c29 : 1 < (a0.size : Int)
      ·rw [if_pos c29] at H
       have c29b0 : decide (1 < (a0.size : Int)) = true := decide_eq_true c29
       have c29b1 : decide (1 < a0.size) = true := decide_eq_true (by omega)
       clear c29
       by_cases c31 : 0 < (a0.size : Int)
       ·rw [if_pos c31] at H
        have c31b0 : decide (0 < (a0.size : Int)) = true := decide_eq_true c31
        have c31b1 : decide (0 < a0.size) = true := decide_eq_true (by omega)
        clear c31
        simp only [Option.some.injEq, Prod.mk.injEq] at H
        obtain ⟨rfl, rfl, rfl, rfl, rfl, rfl, rfl, rfl, rfl⟩ := H
        try go_wp2_with (first | ((with_reducible refine zgK (f := 13) rfl ?_); refine zqQ (some 38) rfl rfl Tryd.func13 (by kernel_rfl) rfl #[.string (a0.extract 3 a0.size)] rfl (by (try simp only [List.map_toArray, List.map_cons, List.map_nil]); first | done | rfl | (simp only [List.length_drop, List.length_take]; rfl)) ?_; (with_reducible refine (zkO.calls kj1 (a0.extract 3 a0.size) t172 t173 t174 t175 t176 t177 true _ A27.out).mono ?_); rintro e w33 ⟨rfl, hb⟩; refine ⟨_, rfl, ?_⟩; have n0_ := zpS (zgM (g := gb171) (o := .cells #[.int .i64 0, .bool false, .int .i64 0, .int .i64 0, .int .i64 0, .int .i64 0, .int .i64 0, .int .i64 0] 39 (0, 0)) bk_ hb); have n1_ := (ns_ hb); clear BK171; clear HB; have BK171 := n0_; have HB := n1_; clear n0_ n1_; (try clear hb); (try clear hb2)) | ((with_reducible refine zpZ (N := 4) rfl ?_); refine bx_ 4 #[.int .i64 0, .int .i64 0, .int .i64 0, .int .i64 0, .int .i64 0, .int .i64 0] 34 ?_; intro gb179 hg w34 hbox hb; have n0_ := zpS (zgM (g := gb171) (o := .cells #[.int .i64 0, .bool false, .int .i64 0, .int .i64 0, .int .i64 0, .int .i64 0, .int .i64 0, .int .i64 0] 39 (0, 0)) bk_ hb); have n1_ := (ns_ hb); have n2_ := zpS (hbox); have n3_ := (ng_ hg); have n4_ := n3_; have n5_ := zpS ((by rw [hg]; exact Nat.ne_of_lt (zmN (g := gb171) (o := .cells #[.int .i64 0, .bool false, .int .i64 0, .int .i64 0, .int .i64 0, .int .i64 0, .int .i64 0, .int .i64 0] 39 (0, 0)) bk_) : gb171 ≠ gb179)); have n6_ := zpS ((by rw [hg]; exact Nat.ne_of_gt (zmN (g := gb171) (o := .cells #[.int .i64 0, .bool false, .int .i64 0, .int .i64 0, .int .i64 0, .int .i64 0, .int .i64 0, .int .i64 0] 39 (0, 0)) bk_) : gb179 ≠ gb171)); clear BK171; clear HB; have BK171 := n0_; have HB := n1_; have BK179 := n2_; have GW179 := n3_; have GE179 := n4_; have NB171_179 := n5_; have NB179_171 := n6_; clear n0_ n1_ n2_ n3_ n4_ n5_ n6_; clear hb hbox hg; have hnb35 := NB179_171.out; have hnc35 := NB171_179.out; obtain ⟨hcz36_0, hcz36_1, hcz36_2, hcz36_3, hcz36_4, hcz36_5⟩ := cz6_ BK179.out; obtain ⟨hfz36_0, hfz36_1, hfz36_2, hfz36_3, hfz36_4, hfz36_5⟩ := fz6_ BK179.out))
        have n0_ : Aside0 (((((((w34.setCell ⟨gb179, 0, none⟩ (.int .i64 t172)).setCell ⟨gb179, 1, none⟩ (.int .i64 t173)).setCell ⟨gb179, 2, none⟩ (.int .i64 t174)).setCell ⟨gb179, 3, none⟩ (.int .i64 t175)).setCell ⟨gb179, 4, none⟩ (.int .i64 t176)).setCell ⟨gb179, 5, none⟩ (.int .i64 t177)).heap[gb171]? = some (.cells #[.int .i64 0, .bool false, .int .i64 0, .int .i64 0, .int .i64 0, .int .i64 0, .int .i64 0, .int .i64 0] 39 (0, 0))) := ⟨by (with_reducible repeat (first | apply zuW | apply ztN | apply zqY)); refine znI ?_ NB171_179.out _; (with_reducible repeat (first | apply zuW | apply ztN | apply zqY)); refine znI ?_ NB171_179.out _; (with_reducible repeat (first | apply zuW | apply ztN | apply zqY)); refine znI ?_ NB171_179.out _; (with_reducible repeat (first | apply zuW | apply ztN | apply zqY)); refine znI ?_ NB171_179.out _; (with_reducible repeat (first | apply zuW | apply ztN | apply zqY)); refine znI ?_ NB171_179.out _; (with_reducible repeat (first | apply zuW | apply ztN | apply zqY)); refine znI ?_ NB171_179.out _; (with_reducible repeat (first | apply zuW | apply ztN | apply zqY)); exact BK171.out⟩
        have n1_ : Aside0 (((((((w34.setCell ⟨gb179, 0, none⟩ (.int .i64 t172)).setCell ⟨gb179, 1, none⟩ (.int .i64 t173)).setCell ⟨gb179, 2, none⟩ (.int .i64 t174)).setCell ⟨gb179, 3, none⟩ (.int .i64 t175)).setCell ⟨gb179, 4, none⟩ (.int .i64 t176)).setCell ⟨gb179, 5, none⟩ (.int .i64 t177)).heap[gb179]? = some (.cells #[.int .i64 t172, .int .i64 t173, .int .i64 t174, .int .i64 t175, .int .i64 t176, .int .i64 t177] 34 (0, 0))) := ⟨by (with_reducible repeat (first | apply zuW | apply ztN | apply zqY)); refine zlL (cs := #[.int .i64 t172, .int .i64 t173, .int .i64 t174, .int .i64 t175, .int .i64 t176, .int .i64 0]) ?_ 5 _ rfl; (with_reducible repeat (first | apply zuW | apply ztN | apply zqY)); refine zlL (cs := #[.int .i64 t172, .int .i64 t173, .int .i64 t174, .int .i64 t175, .int .i64 0, .int .i64 0]) ?_ 4 _ rfl; (with_reducible repeat (first | apply zuW | apply ztN | apply zqY)); refine zlL (cs := #[.int .i64 t172, .int .i64 t173, .int .i64 t174, .int .i64 0, .int .i64 0, .int .i64 0]) ?_ 3 _ rfl; (with_reducible repeat (first | apply zuW | apply ztN | apply zqY)); refine zlL (cs := #[.int .i64 t172, .int .i64 t173, .int .i64 0, .int .i64 0, .int .i64 0, .int .i64 0]) ?_ 2 _ rfl; (with_reducible repeat (first | apply zuW | apply ztN | apply zqY)); refine zlL (cs := #[.int .i64 t172, .int .i64 0, .int .i64 0, .int .i64 0, .int .i64 0, .int .i64 0]) ?_ 1 _ rfl; (with_reducible repeat (first | apply zuW | apply ztN | apply zqY)); refine zlL (cs := #[.int .i64 0, .int .i64 0, .int .i64 0, .int .i64 0, .int .i64 0, .int .i64 0]) ?_ 0 _ rfl; (with_reducible repeat (first | apply zuW | apply ztN | apply zqY)); exact BK179.out⟩
        have n2_ : Aside0 (Below w.heap.size w ((((((w34.setCell ⟨gb179, 0, none⟩ (.int .i64 t172)).setCell ⟨gb179, 1, none⟩ (.int .i64 t173)).setCell ⟨gb179, 2, none⟩ (.int .i64 t174)).setCell ⟨gb179, 3, none⟩ (.int .i64 t175)).setCell ⟨gb179, 4, none⟩ (.int .i64 t176)).setCell ⟨gb179, 5, none⟩ (.int .i64 t177))) := ⟨bb_⟩
        (try clear BK171)
        (try clear BK179)
        (try clear HB)
        generalize ((((((w34.setCell ⟨gb179, 0, none⟩ (.int .i64 t172)).setCell ⟨gb179, 1, none⟩ (.int .i64 t173)).setCell ⟨gb179, 2, none⟩ (.int .i64 t174)).setCell ⟨gb179, 3, none⟩ (.int .i64 t175)).setCell ⟨gb179, 4, none⟩ (.int .i64 t176)).setCell ⟨gb179, 5, none⟩ (.int .i64 t177)) = w37 at n0_ n1_ n2_ ⊢
        have BK171 := n0_
        have BK179 := n1_
        have HB := n2_
        clear n0_ n1_ n2_
        have n0_ := zpS (ztN BK171.out)
        have n1_ := zpS (ztN BK179.out)
        have n2_ := zpS (zvF HB.out)
        clear BK171
        clear BK179
        clear HB
        have BK171 := n0_
        have BK179 := n1_
        have HB := n2_
        clear n0_ n1_ n2_
        have p30 : 0 ≤ (1 : Int) := (by omega)
        have q30 : 1 < a0.size := (by have : (1 : Int) < (a0.size : Int) := dt_; omega)
        have hx30 : ∀ h : 1 < a0.size, ((a0[1]'h).toNat : Int) = bt a0 1 := zbX a0 1
        clear p30
        have qi30 : (1 < (a0.size : Int)) = True := eq_true dt_
        replace q30 := eq_true q30
        have p32 : 0 ≤ (0 : Int) := (by omega)
        have q32 : 0 < a0.size := (by have : (0 : Int) < (a0.size : Int) := dt_; omega)
        have hx32 : ∀ h : 0 < a0.size, ((a0[0]'h).toNat : Int) = bt a0 0 := zbX a0 0
        clear p32
        have qi32 : (0 < (a0.size : Int)) = True := eq_true dt_
        replace q32 := eq_true q32
        refine start_ (n := 14) (S := fun w' => w'.cell? ⟨gb179, 0, none⟩ = some (.int .i64 t172) ∧ w'.cell? ⟨gb179, 1, none⟩ = some (.int .i64 t173) ∧ w'.cell? ⟨gb179, 2, none⟩ = some (.int .i64 t174) ∧ w'.cell? ⟨gb179, 3, none⟩ = some (.int .i64 t175) ∧ w'.cell? ⟨gb179, 4, none⟩ = some (.int .i64 t176) ∧ w'.cell? ⟨gb179, 5, none⟩ = some (.int .i64 t177)) (ds := []) #[false, false, false, false, false, false, false, false, false, false, false, false, false, false] (by kernel_rfl) rfl rfl ⟨(zzS BK179.out 0).trans rfl, (zzS BK179.out 1).trans rfl, (zzS BK179.out 2).trans rfl, (zzS BK179.out 3).trans rfl, (zzS BK179.out 4).trans rfl, (zzS BK179.out 5).trans rfl⟩ (fun hHeld => ?_); refine zwI zmL.tab6 zmL.bits6 (fun HT_ HW_ => ?_)
        generalize w37.drew = w38 at BK171 BK179 HB hHeld ⊢
        refine pu_ 0 (some 44) (bl_ 14 1) ?_
        refine pu_ 4 (some 48) (bl_ 14 17) ?_
        refine pu_ 7 (some 51) (bl_ 14 145) ?_
        refine pu_ 9 (some 53) (bl_ 14 657) ?_
        refine tk6_ 1 (some 45) (bl_ 14 659) hHeld ?_
        refine pu_ 2 (some 46) (bl_ 14 663) ?_
        refine pu_ 3 (some 47) (bl_ 14 671) ?_
        refine tk6_ 5 (some 49) (bl_ 14 703) hHeld ?_
        refine pu_ 6 (some 50) (bl_ 14 767) ?_
        refine tk6_ 8 (some 52) (bl_ 14 1023) hHeld ?_
        refine tk6_ 10 (some 54) (bl_ 14 2047) hHeld ?_
        refine pu_ 11 (some 55) (bl_ 14 4095) ?_
        refine one_ (i := 12) (N := none) (bl_ 14 8191) rfl rfl (zeO HT_.out (by kernel_rfl)) (by decide) (fun K hK => ?_)
        have hs39 : w38.cell? ⟨gb171, 0, none⟩ = some (.int .i64 0) := (zzS BK171.out 0).trans rfl
        have hfs39 := zjF BK171.out 0
        have hns39_1 := NB179_171.out
        have hms39_1 := NB171_179.out
        have hs40 : w38.cell? ⟨gb171, 1, none⟩ = some (.bool false) := (zzS BK171.out 1).trans rfl
        have hfs40 := zjF BK171.out 1
        have hns40_1 := NB179_171.out
        have hms40_1 := NB171_179.out
        have hs41 : w38.cell? ⟨gb171, 2, none⟩ = some (.int .i64 0) := (zzS BK171.out 2).trans rfl
        have hfs41 := zjF BK171.out 2
        have hns41_1 := NB179_171.out
        have hms41_1 := NB171_179.out
        have hs42 : w38.cell? ⟨gb171, 3, none⟩ = some (.int .i64 0) := (zzS BK171.out 3).trans rfl
        have hfs42 := zjF BK171.out 3
        have hns42_1 := NB179_171.out
        have hms42_1 := NB171_179.out
        have hs43 : w38.cell? ⟨gb171, 4, none⟩ = some (.int .i64 0) := (zzS BK171.out 4).trans rfl
        have hfs43 := zjF BK171.out 4
        have hns43_1 := NB179_171.out
        have hms43_1 := NB171_179.out
        have hs44 : w38.cell? ⟨gb171, 5, none⟩ = some (.int .i64 0) := (zzS BK171.out 5).trans rfl
        have hfs44 := zjF BK171.out 5
        have hns44_1 := NB179_171.out
        have hms44_1 := NB171_179.out
        have hs45 : w38.cell? ⟨gb171, 6, none⟩ = some (.int .i64 0) := (zzS BK171.out 6).trans rfl
        have hfs45 := zjF BK171.out 6
        have hns45_1 := NB179_171.out
        have hms45_1 := NB171_179.out
        have hs46 : w38.cell? ⟨gb171, 7, none⟩ = some (.int .i64 0) := (zzS BK171.out 7).trans rfl
        have hfs46 := zjF BK171.out 7
        have hns46_1 := NB179_171.out
        have hms46_1 := NB171_179.out
        refine skip_ (w1 := ?_) (by rfl) rfl ?_ ?_
        rotate_left
        ·go_simp
         rfl
        refine hK.out _ _ ⟨((zgQ (p := ⟨gb171, _, none⟩) NB179_171.out _).trans (((zgQ (p := ⟨gb171, _, none⟩) NB179_171.out _).trans (((zgQ (p := ⟨gb171, _, none⟩) NB179_171.out _).trans (((zgQ (p := ⟨gb171, _, none⟩) NB179_171.out _).trans (((zgQ (p := ⟨gb171, _, none⟩) NB179_171.out _).trans (((zgQ (p := ⟨gb171, _, none⟩) NB179_171.out _).trans (((zgQ (p := ⟨gb171, _, none⟩) NB179_171.out _).trans (((zgQ (p := ⟨gb171, _, none⟩) NB179_171.out _).trans (hHeld.1)))))))))))))))), ((zgQ (p := ⟨gb171, _, none⟩) NB179_171.out _).trans (((zgQ (p := ⟨gb171, _, none⟩) NB179_171.out _).trans (((zgQ (p := ⟨gb171, _, none⟩) NB179_171.out _).trans (((zgQ (p := ⟨gb171, _, none⟩) NB179_171.out _).trans (((zgQ (p := ⟨gb171, _, none⟩) NB179_171.out _).trans (((zgQ (p := ⟨gb171, _, none⟩) NB179_171.out _).trans (((zgQ (p := ⟨gb171, _, none⟩) NB179_171.out _).trans (((zgQ (p := ⟨gb171, _, none⟩) NB179_171.out _).trans (hHeld.2.1)))))))))))))))), ((zgQ (p := ⟨gb171, _, none⟩) NB179_171.out _).trans (((zgQ (p := ⟨gb171, _, none⟩) NB179_171.out _).trans (((zgQ (p := ⟨gb171, _, none⟩) NB179_171.out _).trans (((zgQ (p := ⟨gb171, _, none⟩) NB179_171.out _).trans (((zgQ (p := ⟨gb171, _, none⟩) NB179_171.out _).trans (((zgQ (p := ⟨gb171, _, none⟩) NB179_171.out _).trans (((zgQ (p := ⟨gb171, _, none⟩) NB179_171.out _).trans (((zgQ (p := ⟨gb171, _, none⟩) NB179_171.out _).trans (hHeld.2.2.1)))))))))))))))), ((zgQ (p := ⟨gb171, _, none⟩) NB179_171.out _).trans (((zgQ (p := ⟨gb171, _, none⟩) NB179_171.out _).trans (((zgQ (p := ⟨gb171, _, none⟩) NB179_171.out _).trans (((zgQ (p := ⟨gb171, _, none⟩) NB179_171.out _).trans (((zgQ (p := ⟨gb171, _, none⟩) NB179_171.out _).trans (((zgQ (p := ⟨gb171, _, none⟩) NB179_171.out _).trans (((zgQ (p := ⟨gb171, _, none⟩) NB179_171.out _).trans (((zgQ (p := ⟨gb171, _, none⟩) NB179_171.out _).trans (hHeld.2.2.2.1)))))))))))))))), ((zgQ (p := ⟨gb171, _, none⟩) NB179_171.out _).trans (((zgQ (p := ⟨gb171, _, none⟩) NB179_171.out _).trans (((zgQ (p := ⟨gb171, _, none⟩) NB179_171.out _).trans (((zgQ (p := ⟨gb171, _, none⟩) NB179_171.out _).trans (((zgQ (p := ⟨gb171, _, none⟩) NB179_171.out _).trans (((zgQ (p := ⟨gb171, _, none⟩) NB179_171.out _).trans (((zgQ (p := ⟨gb171, _, none⟩) NB179_171.out _).trans (((zgQ (p := ⟨gb171, _, none⟩) NB179_171.out _).trans (hHeld.2.2.2.2.1)))))))))))))))), ((zgQ (p := ⟨gb171, _, none⟩) NB179_171.out _).trans (((zgQ (p := ⟨gb171, _, none⟩) NB179_171.out _).trans (((zgQ (p := ⟨gb171, _, none⟩) NB179_171.out _).trans (((zgQ (p := ⟨gb171, _, none⟩) NB179_171.out _).trans (((zgQ (p := ⟨gb171, _, none⟩) NB179_171.out _).trans (((zgQ (p := ⟨gb171, _, none⟩) NB179_171.out _).trans (((zgQ (p := ⟨gb171, _, none⟩) NB179_171.out _).trans (((zgQ (p := ⟨gb171, _, none⟩) NB179_171.out _).trans (hHeld.2.2.2.2.2))))))))))))))))⟩ (fun hHeld => ?_)
        clear hK K
        refine pu_ 13 (some 3) (bl_ 14 16383) ?_
        refine done_ (done_of HT_.out (by kernel_rfl)) ?_
        try go_wp2
        refine bodyPost_ret (zzB rfl _ _ gb171 39 #[.int .i64 (((bt a0 1) - 48) % 256), .bool ((bt a0 0) == 102), .int .i64 t172, .int .i64 t173, .int .i64 t174, .int .i64 t175, .int .i64 t176, .int .i64 t177] (0, 0) _ rfl (by (with_reducible repeat (first | apply zuW | apply ztN | apply zqY)); refine zlL (cs := #[.int .i64 (((bt a0 1) - 48) % 256), .bool ((bt a0 0) == 102), .int .i64 t172, .int .i64 t173, .int .i64 t174, .int .i64 t175, .int .i64 t176, .int .i64 0]) ?_ 7 _ rfl; (with_reducible repeat (first | apply zuW | apply ztN | apply zqY)); refine zlL (cs := #[.int .i64 (((bt a0 1) - 48) % 256), .bool ((bt a0 0) == 102), .int .i64 t172, .int .i64 t173, .int .i64 t174, .int .i64 t175, .int .i64 0, .int .i64 0]) ?_ 6 _ rfl; (with_reducible repeat (first | apply zuW | apply ztN | apply zqY)); refine zlL (cs := #[.int .i64 (((bt a0 1) - 48) % 256), .bool ((bt a0 0) == 102), .int .i64 t172, .int .i64 t173, .int .i64 t174, .int .i64 0, .int .i64 0, .int .i64 0]) ?_ 5 _ rfl; (with_reducible repeat (first | apply zuW | apply ztN | apply zqY)); refine zlL (cs := #[.int .i64 (((bt a0 1) - 48) % 256), .bool ((bt a0 0) == 102), .int .i64 t172, .int .i64 t173, .int .i64 0, .int .i64 0, .int .i64 0, .int .i64 0]) ?_ 4 _ rfl; (with_reducible repeat (first | apply zuW | apply ztN | apply zqY)); refine zlL (cs := #[.int .i64 (((bt a0 1) - 48) % 256), .bool ((bt a0 0) == 102), .int .i64 t172, .int .i64 0, .int .i64 0, .int .i64 0, .int .i64 0, .int .i64 0]) ?_ 3 _ rfl; (with_reducible repeat (first | apply zuW | apply ztN | apply zqY)); refine zlL (cs := #[.int .i64 (((bt a0 1) - 48) % 256), .bool ((bt a0 0) == 102), .int .i64 0, .int .i64 0, .int .i64 0, .int .i64 0, .int .i64 0, .int .i64 0]) ?_ 2 _ rfl; (with_reducible repeat (first | apply zuW | apply ztN | apply zqY)); refine zlL (cs := #[.int .i64 (((bt a0 1) - 48) % 256), .bool false, .int .i64 0, .int .i64 0, .int .i64 0, .int .i64 0, .int .i64 0, .int .i64 0]) ?_ 1 _ rfl; (with_reducible repeat (first | apply zuW | apply ztN | apply zqY)); refine zlL (cs := #[.int .i64 0, .bool false, .int .i64 0, .int .i64 0, .int .i64 0, .int .i64 0, .int .i64 0, .int .i64 0]) ?_ 0 _ (by first | rfl | (rw [u8x_]; rfl)); (with_reducible repeat (first | apply zuW | apply ztN | apply zqY)); exact BK171.out) Tryd.underlying39 rfl (by kernel_rfl)) rfl ?_
        exact ⟨by first | rfl | (simp [ziS, znJ] <;> rfl) | (simp [*, ziS, znJ] <;> rfl), bb_⟩
       ·rw [if_neg c31] at H
        exact absurd H (by simp)
      ·rw [if_neg c29] at H
       exact absurd H (by simp)
     ·replace c28 := Bool.eq_false_iff.mpr c28
      subst c28
      have H1 : (some (0, false, 0, 0, 0, 0, 0, 0, false)) = some (r1, r2, r3, r4, r5, r6, r7, r8, r9) := by rw [if_neg (show ¬ (false = true) by decide)] at H; exact H
      clear H
      have H := H1
      clear H1
      simp only [Option.some.injEq, Prod.mk.injEq] at H
      obtain ⟨rfl, rfl, rfl, rfl, rfl, rfl, rfl, rfl, rfl⟩ := H
      go_wp2_with (first | ((with_reducible refine zgK (f := 13) rfl ?_); refine zqQ (some 38) rfl rfl Tryd.func13 (by kernel_rfl) rfl #[.string (a0.extract 3 a0.size)] rfl (by (try simp only [List.map_toArray, List.map_cons, List.map_nil]); first | done | rfl | (simp only [List.length_drop, List.length_take]; rfl)) ?_; (with_reducible refine (zkO.calls kj1 (a0.extract 3 a0.size) t172 t173 t174 t175 t176 t177 false _ A27.out).mono ?_); rintro e w47 ⟨rfl, hb⟩; refine ⟨_, rfl, ?_⟩; have n0_ := zpS (zgM (g := gb171) (o := .cells #[.int .i64 0, .bool false, .int .i64 0, .int .i64 0, .int .i64 0, .int .i64 0, .int .i64 0, .int .i64 0] 39 (0, 0)) bk_ hb); have n1_ := (ns_ hb); clear BK171; clear HB; have BK171 := n0_; have HB := n1_; clear n0_ n1_; (try clear hb); (try clear hb2)) | ((with_reducible refine zpZ (N := 4) rfl ?_); refine bx_ 4 #[.int .i64 0, .int .i64 0, .int .i64 0, .int .i64 0, .int .i64 0, .int .i64 0] 34 ?_; intro gb179 hg w48 hbox hb; have n0_ := zpS (zgM (g := gb171) (o := .cells #[.int .i64 0, .bool false, .int .i64 0, .int .i64 0, .int .i64 0, .int .i64 0, .int .i64 0, .int .i64 0] 39 (0, 0)) bk_ hb); have n1_ := (ns_ hb); have n2_ := zpS (hbox); have n3_ := (ng_ hg); have n4_ := n3_; have n5_ := zpS ((by rw [hg]; exact Nat.ne_of_lt (zmN (g := gb171) (o := .cells #[.int .i64 0, .bool false, .int .i64 0, .int .i64 0, .int .i64 0, .int .i64 0, .int .i64 0, .int .i64 0] 39 (0, 0)) bk_) : gb171 ≠ gb179)); have n6_ := zpS ((by rw [hg]; exact Nat.ne_of_gt (zmN (g := gb171) (o := .cells #[.int .i64 0, .bool false, .int .i64 0, .int .i64 0, .int .i64 0, .int .i64 0, .int .i64 0, .int .i64 0] 39 (0, 0)) bk_) : gb179 ≠ gb171)); clear BK171; clear HB; have BK171 := n0_; have HB := n1_; have BK179 := n2_; have GW179 := n3_; have GE179 := n4_; have NB171_179 := n5_; have NB179_171 := n6_; clear n0_ n1_ n2_ n3_ n4_ n5_ n6_; clear hb hbox hg; have hnb49 := NB179_171.out; have hnc49 := NB171_179.out; obtain ⟨hcz50_0, hcz50_1, hcz50_2, hcz50_3, hcz50_4, hcz50_5⟩ := cz6_ BK179.out; obtain ⟨hfz50_0, hfz50_1, hfz50_2, hfz50_3, hfz50_4, hfz50_5⟩ := fz6_ BK179.out; have hcz51_0 : w48.cell? ⟨gb171, 0, none⟩ = some (.int .i64 0) := (zzS BK171.out 0).trans rfl; have hcz51_1 : w48.cell? ⟨gb171, 1, none⟩ = some (.bool false) := (zzS BK171.out 1).trans rfl; have hcz51_2 : w48.cell? ⟨gb171, 2, none⟩ = some (.int .i64 0) := (zzS BK171.out 2).trans rfl; have hcz51_3 : w48.cell? ⟨gb171, 3, none⟩ = some (.int .i64 0) := (zzS BK171.out 3).trans rfl; have hcz51_4 : w48.cell? ⟨gb171, 4, none⟩ = some (.int .i64 0) := (zzS BK171.out 4).trans rfl; have hcz51_5 : w48.cell? ⟨gb171, 5, none⟩ = some (.int .i64 0) := (zzS BK171.out 5).trans rfl; have hcz51_6 : w48.cell? ⟨gb171, 6, none⟩ = some (.int .i64 0) := (zzS BK171.out 6).trans rfl; have hcz51_7 : w48.cell? ⟨gb171, 7, none⟩ = some (.int .i64 0) := (zzS BK171.out 7).trans rfl; have hfz51_0 := zjF BK171.out 0; have hfz51_1 := zjF BK171.out 1; have hfz51_2 := zjF BK171.out 2; have hfz51_3 := zjF BK171.out 3; have hfz51_4 := zjF BK171.out 4; have hfz51_5 := zjF BK171.out 5; have hfz51_6 := zjF BK171.out 6; have hfz51_7 := zjF BK171.out 7))
      refine bodyPost_ret (zzB rfl _ _ gb171 39 #[.int .i64 0, .bool false, .int .i64 0, .int .i64 0, .int .i64 0, .int .i64 0, .int .i64 0, .int .i64 0] (0, 0) _ rfl (by (with_reducible repeat (first | apply zuW | apply ztN | apply zqY)); refine zlL (cs := #[.int .i64 0, .bool false, .int .i64 0, .int .i64 0, .int .i64 0, .int .i64 0, .int .i64 0, .int .i64 0]) ?_ 7 _ rfl; (with_reducible repeat (first | apply zuW | apply ztN | apply zqY)); refine zlL (cs := #[.int .i64 0, .bool false, .int .i64 0, .int .i64 0, .int .i64 0, .int .i64 0, .int .i64 0, .int .i64 0]) ?_ 6 _ rfl; (with_reducible repeat (first | apply zuW | apply ztN | apply zqY)); refine zlL (cs := #[.int .i64 0, .bool false, .int .i64 0, .int .i64 0, .int .i64 0, .int .i64 0, .int .i64 0, .int .i64 0]) ?_ 5 _ rfl; (with_reducible repeat (first | apply zuW | apply ztN | apply zqY)); refine zlL (cs := #[.int .i64 0, .bool false, .int .i64 0, .int .i64 0, .int .i64 0, .int .i64 0, .int .i64 0, .int .i64 0]) ?_ 4 _ rfl; (with_reducible repeat (first | apply zuW | apply ztN | apply zqY)); refine zlL (cs := #[.int .i64 0, .bool false, .int .i64 0, .int .i64 0, .int .i64 0, .int .i64 0, .int .i64 0, .int .i64 0]) ?_ 3 _ rfl; (with_reducible repeat (first | apply zuW | apply ztN | apply zqY)); refine zlL (cs := #[.int .i64 0, .bool false, .int .i64 0, .int .i64 0, .int .i64 0, .int .i64 0, .int .i64 0, .int .i64 0]) ?_ 2 _ rfl; (with_reducible repeat (first | apply zuW | apply ztN | apply zqY)); refine zlL (cs := #[.int .i64 0, .bool false, .int .i64 0, .int .i64 0, .int .i64 0, .int .i64 0, .int .i64 0, .int .i64 0]) ?_ 1 _ rfl; (with_reducible repeat (first | apply zuW | apply ztN | apply zqY)); refine zlL (cs := #[.int .i64 0, .bool false, .int .i64 0, .int .i64 0, .int .i64 0, .int .i64 0, .int .i64 0, .int .i64 0]) ?_ 0 _ rfl; (with_reducible repeat (first | apply zuW | apply ztN | apply zqY)); refine znI ?_ NB171_179.out _; (with_reducible repeat (first | apply zuW | apply ztN | apply zqY)); refine znI ?_ NB171_179.out _; (with_reducible repeat (first | apply zuW | apply ztN | apply zqY)); refine znI ?_ NB171_179.out _; (with_reducible repeat (first | apply zuW | apply ztN | apply zqY)); refine znI ?_ NB171_179.out _; (with_reducible repeat (first | apply zuW | apply ztN | apply zqY)); refine znI ?_ NB171_179.out _; (with_reducible repeat (first | apply zuW | apply ztN | apply zqY)); refine znI ?_ NB171_179.out _; (with_reducible repeat (first | apply zuW | apply ztN | apply zqY)); exact BK171.out) Tryd.underlying39 rfl (by kernel_rfl)) rfl ?_
      exact ⟨by first | rfl | (simp [ziS, znJ] <;> rfl) | (simp [*, ziS, znJ] <;> rfl), bb_⟩
    ·rw [if_neg c26] at H
     exact absurd H (by simp)

def LaidV3 (w : World) : Prop := Lib.TabIs Tryd.prog w "internal/strconv.uint64pow10" .u64 Lib.pow10Tab
theorem LaidV3.below {w w' : World} (h : LaidV3 w) (hB : Below w.heap.size w w') : LaidV3 w' := by
 unfold LaidV3 Lib.TabIs World.var? at h ⊢
 cases hg : Tryd.prog.globalNamed "internal/strconv.uint64pow10" with
 | none => rw [hg] at h; cases h
 | some g =>
  rw [hg] at h
  simp only [Option.bind_some] at h ⊢
  have hlt : g < w.heap.size := by
   cases hh : w.heap[g]? with
   | none => rw [hh] at h; cases h
   | some o => exact (Array.getElem?_eq_some_iff.1 hh).1
  rw [hB.block g hlt]
  exact h
def LaidV2 (w : World) : Prop := ∃ v, w.cell? ⟨2, 0, none⟩ = some v ∧ (v = .nilIface ∨ ∃ te pe, v = .iface te pe)
theorem LaidV2.below {w w' : World} (h : LaidV2 w) (hB : Below w.heap.size w w') : LaidV2 w' := by
 obtain ⟨m, hm, h2⟩ := h
 exact ⟨m, (hB.cell (World.block_lt_of_cell? w _ hm)).trans hm, h2⟩
def LaidV1 (w : World) : Prop := ∃ v, w.cell? ⟨1, 0, none⟩ = some v ∧ (v = .nilIface ∨ ∃ te pe, v = .iface te pe)
theorem LaidV1.below {w w' : World} (h : LaidV1 w) (hB : Below w.heap.size w w') : LaidV1 w' := by
 obtain ⟨m, hm, h2⟩ := h
 exact ⟨m, (hB.cell (World.block_lt_of_cell? w _ hm)).trans hm, h2⟩
def LaidV4 (w : World) : Prop := Lib.Utf8Tabs 4 5 w
theorem LaidV4.below {w w' : World} (h : LaidV4 w) (hB : Below w.heap.size w w') : LaidV4 w' := Utf8Tabs_below h hB
def LaidV0 (w : World) : Prop := ∃ m : Int, w.cell? ⟨0, 0, none⟩ = some (.int .i64 m)
theorem LaidV0.below {w w' : World} (h : LaidV0 w) (hB : Below w.heap.size w w') : LaidV0 w' := by
 obtain ⟨m, hm⟩ := h
 exact ⟨m, (hB.cell (World.block_lt_of_cell? w _ hm)).trans hm⟩
structure LaidV (w : World) : Prop where
 v3 : LaidV3 w
 v2 : LaidV2 w
 v1 : LaidV1 w
 v4 : LaidV4 w
 v0 : LaidV0 w
theorem LaidV.below {w w' : World} (h : LaidV w) (hB : Below w.heap.size w w') : LaidV w' := ⟨LaidV3.below h.v3 hB, LaidV2.below h.v2 hB, LaidV1.below h.v1 hB, LaidV4.below h.v4 hB, LaidV0.below h.v0 hB⟩

def strings_Cut.f (a0 a1 : ByteArray) : Option (ByteArray × ByteArray × Bool) := if a0.size < 4294967281 then some (⟨(Lib.cut a0.data.toList a1.data.toList).1.toArray⟩, ⟨(Lib.cut a0.data.toList a1.data.toList).2.1.toArray⟩, (Lib.cut a0.data.toList a1.data.toList).2.2) else none
theorem strings_Cut.calls (a0 a1 : ByteArray) (r1 r2 : ByteArray) (r3 : Bool) (w : World) (hG : LaidV w) (h : strings_Cut.f a0 a1 = some (r1, r2, r3)) :
  Calls Tryd.prog 22 #[.string a0, .string a1] w fun e w' => e = .returned (.tuple #[.string r1, .string r2, .bool r3]) ∧ Drawn0 w w' := by
 unfold strings_Cut.f at h
 by_cases h1 : a0.size < 4294967281
 ·rw [if_pos h1] at h
  simp only [Option.some.injEq, Prod.mk.injEq] at h
  obtain ⟨rfl, rfl, rfl⟩ := h
  obtain ⟨m, hm⟩ := hG.v0
  refine (Tryd.strings_Cut a0 a1 m w h1 hm).mono ?_
  rintro e w' ⟨rfl, n, rfl⟩
  exact ⟨rfl, n, rfl⟩
 ·rw [if_neg h1] at h; cases h

def zkI.f (a0 : ByteArray) : Option (Int × Bool) := if a0.size ≤ 281474976710656 then (match Lib.parseIntB 64 a0.data.toList with | .ok v => if -9223372036854775808 ≤ v ∧ v ≤ 9223372036854775807 then some (v, Lib.itoa v == a0.toList) else none | .range => some (Lib.intSat 64 a0.data.toList, false) | _ => some (0, false)) else none
theorem impl_readNumber_fmt (v : Int) (h0 : -9223372036854775808 ≤ v) (h1 : v ≤ 9223372036854775807) (w W : World) (hG : LaidV w) (hB : Below w.heap.size w W) :
  Calls Tryd.prog 56 #[.int .i64 v, .int .i64 10] W fun e w' => e = .returned (.string ⟨(Lib.itoa v).toArray⟩) ∧ Below w.heap.size w w' := by
 refine (Tryd.strconv_FormatInt_10 v h0 h1 W (LaidV.below hG hB).v3).mono ?_
 rintro e w' ⟨rfl, k, os, rfl⟩
 exact ⟨rfl, hB.trans ((show Below W.heap.size W («Sort».grow (W.drewN k) os) from ⟨rfl, rfl, rfl, by show W.heap.size ≤ (W.heap ++ os).size; rw [Array.size_append]; omega, fun i hi => Array.getElem?_append_left hi⟩).mono hB.size)⟩
theorem impl_readNumber_dec (v : Int) (h0 : -9223372036854775808 ≤ v) (h1 : v ≤ 9223372036854775807) (w W : World) (hG : LaidV w) (hB : Below w.heap.size w W) :
  Calls Tryd.prog 42 #[.int .i64 v] W fun e w' => e = .returned (.string ⟨(Lib.itoa v).toArray⟩) ∧ Below w.heap.size w w' := by
 have HB := zpS hB
 have V0 := zpS h0
 have V1 := zpS h1
 clear hB h0 h1
 go_enter Tryd.func42, Tryd.ntmps42
 go_wp2_with (go_at_call 56; (refine (impl_readNumber_fmt v V0.out V1.out w _ hG HB.out).mono ?_); rintro e w' ⟨rfl, hw⟩; clear HB; have HB := zpS hw; clear hw)
 go_ret
 exact ⟨rfl, HB.out⟩
theorem impl_readNumber_bad (s : ByteArray) (h0 : s.size ≤ 281474976710656) (v : Int) (hv : (Lib.parseIntB 64 s.data.toList = Lib.parseIntB 64 [] ∧ v = 0) ∨ (Lib.parseIntB 64 s.data.toList = .range ∧ v = Lib.intSat 64 s.data.toList)) (w : World) (hG : LaidV w) :
  Calls Tryd.prog 41 #[.string s, .int .i64 10, .int .i64 64] w fun e w' => ∃ te pe, e = .returned (.tuple #[.int .i64 v, .iface te pe]) ∧ Below w.heap.size w w' := by
 rcases hv with ⟨hp, rfl⟩ | ⟨hp, rfl⟩
 ·obtain ⟨ev, h1, h2⟩ := hG.v1
  exact (Tryd.strconv_ParseInt_10_at64_syntax s h0 hp ev w h1 h2).mono (by rintro e w' ⟨N, rfl, _, _, hb⟩; exact ⟨_, _, rfl, hb⟩)
 ·obtain ⟨ev, h1, h2⟩ := hG.v2
  exact (Tryd.strconv_ParseInt_10_at64_range s h0 hp ev w h1 h2).mono (by rintro e w' ⟨N, rfl, _, _, hb⟩; exact ⟨_, _, rfl, hb⟩)
theorem impl_readNumber_good (s : ByteArray) (h0 : s.size ≤ 281474976710656) (v : Int) (hp : Lib.parseIntB 64 s.data.toList = .ok v) (w : World) :
  Calls Tryd.prog 41 #[.string s, .int .i64 10, .int .i64 64] w fun e w' => e = .returned (.tuple #[.int .i64 v, .nilIface]) ∧ Below w.heap.size w w' :=
 (Tryd.strconv_ParseInt_10_at64_ok s (by omega) v hp w).mono (by
  rintro e w' ⟨rfl, rfl | ⟨t, rfl⟩⟩
  ·exact ⟨rfl, Below.refl _ _⟩
  ·exact ⟨rfl, rfl, rfl, rfl, by rw [Lib.bytesWorld_size]; omega, fun k hk => Lib.bytesWorld_at_old w _ _ k (by omega)⟩)
theorem impl_readNumber_no (a0 : ByteArray) (v : Int) (w : World) (hG : LaidV w) (h1 : a0.size ≤ 281474976710656) (hv : (Lib.parseIntB 64 a0.data.toList = Lib.parseIntB 64 [] ∧ v = 0) ∨ (Lib.parseIntB 64 a0.data.toList = .range ∧ v = Lib.intSat 64 a0.data.toList)) :
  Calls Tryd.prog 23 #[.string a0] w fun e w' => e = .returned (.tuple #[.int .i64 v, .bool false]) ∧ Below w.heap.size w w' := by
 have HP := zpS hv
 have H1 := zpS h1
 clear hv h1
 go_enter Tryd.func23, Tryd.ntmps23
 go_wp2_with (first | (go_at_call 41; (refine (impl_readNumber_bad a0 H1.out v HP.out w hG).mono ?_); rintro e w' ⟨te, pe, rfl, hw⟩; have HB := zpS hw; clear hw))
 go_ret2
 exact ⟨rfl, HB.out⟩
theorem zkI.calls (a0 : ByteArray) (r1 : Int) (r2 : Bool) (w : World) (hG : LaidV w) (h : zkI.f a0 = some (r1, r2)) :
  Calls Tryd.prog 23 #[.string a0] w fun e w' => e = .returned (.tuple #[.int .i64 r1, .bool r2]) ∧ Below w.heap.size w w' := by
 unfold zkI.f at h
 by_cases h1 : a0.size ≤ 281474976710656
 ·rw [if_pos h1] at h
  cases hp : Lib.parseIntB 64 a0.data.toList with
  | ok v =>
   rw [hp] at h
   dsimp only at h
   by_cases hv : -9223372036854775808 ≤ v ∧ v ≤ 9223372036854775807
   ·rw [if_pos hv] at h
    simp only [Option.some.injEq, Prod.mk.injEq] at h
    obtain ⟨rfl, rfl⟩ := h
    obtain ⟨v0, v1⟩ := hv
    have HP := zpS hp
    have H1 := zpS h1
    have V0 := zpS v0
    have V1 := zpS v1
    clear hp h1 v0 v1
    go_enter Tryd.func23, Tryd.ntmps23
    go_wp2_with (first | (go_at_call 41; (refine (impl_readNumber_good a0 H1.out v HP.out w).mono ?_); rintro e w' ⟨rfl, hw⟩; have HB := zpS hw; clear hw) | (go_at_call 42; (refine (impl_readNumber_dec v V0.out V1.out w _ hG HB.out).mono ?_); rintro e w' ⟨rfl, hw⟩; clear HB; have HB := zpS hw; clear hw))
    go_ret2
    exact ⟨rfl, HB.out⟩
   ·rw [if_neg hv] at h; cases h
  | range =>
   rw [hp] at h
   simp only [Option.some.injEq, Prod.mk.injEq] at h
   obtain ⟨rfl, rfl⟩ := h
   exact impl_readNumber_no a0 _ w hG h1 (Or.inr ⟨hp, rfl⟩)
  | _ =>
   rw [hp] at h
   simp only [Option.some.injEq, Prod.mk.injEq] at h
   obtain ⟨rfl, rfl⟩ := h
   exact impl_readNumber_no a0 _ w hG h1 (Or.inl ⟨hp, rfl⟩)
 ·rw [if_neg h1] at h; cases h

def bits_Len64.f (a0 : Int) : Option Int := if 0 ≤ a0 ∧ a0 ≤ 18446744073709551615 then some (Lib.bitLen a0.toNat : Int) else none
theorem bits_Len64.calls (a0 : Int) (r : Int) (w : World) (h : bits_Len64.f a0 = some r) :
  Calls Tryd.prog 24 #[.int .u64 a0] w fun e w' => e = .returned (.int .i64 r) ∧ Drawn0 w w' := by
 unfold bits_Len64.f at h
 by_cases h1 : 0 ≤ a0 ∧ a0 ≤ 18446744073709551615
 ·rw [if_pos h1] at h
  obtain rfl := Option.some.inj h
  refine (Tryd.bits_Len64 a0 w h1.1 h1.2).mono ?_
  rintro e w' ⟨rfl, rfl⟩
  exact ⟨rfl, Drawn0.refl _⟩
 ·rw [if_neg h1] at h; cases h

def stringslite_HasPrefix.f (a0 : ByteArray) (a1 : ByteArray) : Option (Bool) := if (a0.size : Int) ≥ (a1.size : Int) then (if 0 ≤ (a1.size : Int) then (if (a1.size : Int) ≤ (a0.size : Int) then (some ((a0.extract 0 ((a1.size : Int) : Int).toNat).toList == a1.toList)) else (none)) else (none)) else (some false)
theorem stringslite_HasPrefix.calls (a0 : ByteArray) (a1 : ByteArray) (r : Bool) (w : World) (h : stringslite_HasPrefix.f a0 a1 = some r) :
  Calls Tryd.prog 63 #[.string a0, .string a1] w fun e w' => e = .returned (.bool r) ∧ Drawn0 w w' := by
 have H : (if (a0.size : Int) ≥ (a1.size : Int) then (if 0 ≤ (a1.size : Int) then (if (a1.size : Int) ≤ (a0.size : Int) then (some ((a0.extract 0 ((a1.size : Int) : Int).toNat).toList == a1.toList)) else (none)) else (none)) else (some false)) = some r := h
 clear h
 by_cases c3 : (a0.size : Int) ≥ (a1.size : Int)
 ·rw [if_pos c3] at H
  have c3b0 : decide ((a1.size : Int) ≤ (a0.size : Int)) = true := decide_eq_true c3
  have c3b1 : decide (a1.size ≤ a0.size) = true := decide_eq_true (Int.ofNat_le.mp c3)
  clear c3
  by_cases c4 : 0 ≤ (a1.size : Int)
  ·rw [if_pos c4] at H
   have c4b0 := eq_true c4
   have c4b1 : decide (0 ≤ (a1.size : Int)) = true := decide_eq_true c4
   clear c4
   by_cases c5 : (a1.size : Int) ≤ (a0.size : Int)
   ·rw [if_pos c5] at H
    have c5b0 := eq_true c5
    have c5b1 : decide ((a1.size : Int) ≤ (a0.size : Int)) = true := decide_eq_true c5
    clear c5
    obtain rfl := Option.some.inj H
    go_enter Tryd.func63, Tryd.ntmps63
    go_wp2
    go_ret
    exact ⟨by first | rfl | (simp; done) | (simp [*]; done), by repeat (first | exact Drawn0.refl _ | apply Drawn0.step)⟩
   ·rw [if_neg c5] at H
    exact absurd H (by simp)
  ·rw [if_neg c4] at H
   exact absurd H (by simp)
 ·rw [if_neg c3] at H
  have c3b0 : decide ((a1.size : Int) ≤ (a0.size : Int)) = false := decide_eq_false c3
  have c3b1 : decide (a1.size ≤ a0.size) = false := decide_eq_false (fun h => c3 (Int.ofNat_le.mpr h))
  clear c3
  obtain rfl := Option.some.inj H
  go_enter Tryd.func63, Tryd.ntmps63
  go_wp2
  go_ret
  exact ⟨by first | rfl | (simp; done) | (simp [*]; done), by repeat (first | exact Drawn0.refl _ | apply Drawn0.step)⟩

end Go.Proofs.YtbkcmdccomngnaaDoor.PFnExactReadMotion
