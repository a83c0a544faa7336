-- Printed for this claim by this session's program pp.py, which drives the kit's print with additions. Not trusted: Lean checks it.
import Derived.Test.YtbkcmdccomngnaaDoorV4PFnExactReadMotionx0
import Derived.Test.YtbkcmdccomngnaaDoorV4PFnExactReadMotionx5
import Derived.Test.YtbkcmdccomngnaaDoorV4PFnExactReadMotionx6
namespace Go.Proofs.YtbkcmdccomngnaaDoor.PFnExactReadMotion
open Go.RowKit Go.Proofs.YtbkcmdccomngnaaDoorW.PrintWords Go.Proofs.YtbkcmdccomngnaaDoorW.PrintLast Go.Proofs.YtbkcmdccomngnaaDoorW.PrintMore
attribute [local go_sem] zbB ziA zrC zhD znE zuA znK zkT   -- for this text's walks alone
set_option linter.unusedVariables false
set_option maxHeartbeats 8000000
set_option maxRecDepth 100000
set_option linter.unusedSimpArgs false

def zkO.j0 : Nat → List ByteArray → Bool → Option (Int × Int × Int × Int × Int × Int × Bool)
 | 0, _, _ => none
 | k + 1, x4, x31 => if x31 = true then (some (0, 0, 0, 0, 0, 0, false)) else (if 0 < (x4.length : Int) then (if 1 ≤ ((zzV ByteArray.empty x4 0).size : Int) then ((zhO.f k ((zzV ByteArray.empty x4 0).extract 1 (zzV ByteArray.empty x4 0).size)).bind fun bt159 => (if 1 < (x4.length : Int) then (if 0 ≤ (wrap64 (((zzV ByteArray.empty x4 1).size : Int) - 1)) then (if (wrap64 (((zzV ByteArray.empty x4 1).size : Int) - 1)) ≤ ((zzV ByteArray.empty x4 1).size : Int) then ((zhO.f k ((zzV ByteArray.empty x4 1).extract 0 ((wrap64 (((zzV ByteArray.empty x4 1).size : Int) - 1)) : Int).toNat)).bind fun bt166 => (if bt159.2.2.2 = true then (if bt166.2.2.2 = true then (some (bt159.1, bt159.2.1, bt159.2.2.1, bt166.1, bt166.2.1, bt166.2.2.1, true)) else (some (0, 0, 0, 0, 0, 0, false))) else (some (0, 0, 0, 0, 0, 0, false)))) else (none)) else (none)) else (none))) else (none)) else (none))
def zkO.f (k : Nat) (a0 : ByteArray) : Option (Int × Int × Int × Int × Int × Int × Bool) := (zjY.f k a0 44).bind fun t155 => (if (t155.length : Int) = 2 then (if (a0.size : Int) < 5 then (zkO.j0 k t155 true) else (if 0 < (a0.size : Int) then (if (bt a0 0) = 40 then (if 0 ≤ (wrap64 ((a0.size : Int) - 1)) then (if (wrap64 ((a0.size : Int) - 1)) < (a0.size : Int) then (zkO.j0 k t155 ((bt a0 (wrap64 ((a0.size : Int) - 1))) != 41)) else (none)) else (none)) else (zkO.j0 k t155 true)) else (none))) else (zkO.j0 k t155 true))
theorem zkO.mono_l : ∀ k, (∀ y0 y1, LeO (zkO.j0 k y0 y1) (zkO.j0 (k + 1) y0 y1))
 | 0 => fun _ _ r h => by simp [zkO.j0] at h
 | k + 1 => by
  have ih0 := zkO.mono_l k
  ·intro y0 y1
   unfold zkO.j0
   repeat' first
   | (with_reducible exact ih0 _ _)
   | (with_reducible exact zhO.mono _ _)
   | (with_reducible exact zjY.mono _ _ _)
   | (with_reducible exact LeO.refl _)
   | (with_reducible exact LeO.none _)
   | (with_reducible refine LeO.ite ?_ ?_)
   | (with_reducible refine LeO.bind ?_ (fun _ => ?_))
   | exact ih0 _ _
   | exact zhO.mono _ _
   | exact zjY.mono _ _ _
   | exact LeO.none _
   | refine LeO.ite ?_ ?_
   | refine LeO.bind ?_ (fun _ => ?_)
theorem zkO.mono : ∀ a0 k, LeO (zkO.f k a0) (zkO.f (k + 1) a0) := by
 intro a0 k
 have ih0 := zkO.mono_l k
 unfold zkO.f
 repeat' first
   | (with_reducible exact ih0 _ _)
   | (with_reducible exact zhO.mono _ _)
   | (with_reducible exact zjY.mono _ _ _)
   | (with_reducible exact LeO.refl _)
   | (with_reducible exact LeO.none _)
   | (with_reducible refine LeO.ite ?_ ?_)
   | (with_reducible refine LeO.bind ?_ (fun _ => ?_))
   | exact ih0 _ _
   | exact zhO.mono _ _
   | exact zjY.mono _ _ _
   | exact LeO.none _
   | refine LeO.ite ?_ ?_
   | refine LeO.bind ?_ (fun _ => ?_)
def zkO.T5 : Bool × List (List Nat × List Nat) := (true, [([], []), ([0], [0]), ([1], [1]), ([], []), ([3], [3]), ([4], [4]), ([5], [5]), ([6], [6]), ([2, 7], [2, 7]), ([8], [8]), ([9], [9]), ([10], [10]), ([10], [10]), ([], []), ([13, 11, 9, 0, 1, 2, 3, 4, 5, 6, 7, 8, 9, 10, 11, 13], [11, 13]), ([12, 14, 0, 1, 2, 3, 4, 5, 6, 7, 8, 9, 10, 11, 12, 13, 14], [12])])
def zkO.B5 : List Nat := [0, 1, 3, 0, 8, 24, 56, 120, 255, 511, 1023, 2047, 2047, 0, 12287, 32767]
theorem zkO.tab5 : rtab .any (opsOf Tryd.f13 5) = zkO.T5 := by kernel_rfl
theorem zkO.bits5 : waitsOk zkO.T5.2 zkO.B5 = true := by kernel_rfl
theorem zkO.calls (k : Nat) (a0 : ByteArray) (r1 : Int) (r2 : Int) (r3 : Int) (r4 : Int) (r5 : Int) (r6 : Int) (r7 : Bool) (w : World) (h : zkO.f k a0 = some (r1, r2, r3, r4, r5, r6, r7)) :
  Calls Tryd.prog 13 #[.string a0] w fun e w' => e = .returned (.tuple #[.agg #[.int .i64 r1, .int .i64 r2, .int .i64 r3, .int .i64 r4, .int .i64 r5, .int .i64 r6], .bool r7]) ∧ Below w.heap.size w w' := by
 have hu34 := Tryd.underlying34
 have hu23 := Tryd.underlying23
 have HB := zpS (Below.refl w.heap.size w)
 have H : ((zjY.f k a0 44).bind fun t155 => (if (t155.length : Int) = 2 then (if (a0.size : Int) < 5 then (zkO.j0 k t155 true) else (if 0 < (a0.size : Int) then (if (bt a0 0) = 40 then (if 0 ≤ (wrap64 ((a0.size : Int) - 1)) then (if (wrap64 ((a0.size : Int) - 1)) < (a0.size : Int) then (zkO.j0 k t155 ((bt a0 (wrap64 ((a0.size : Int) - 1))) != 41)) else (none)) else (none)) else (zkO.j0 k t155 true)) else (none))) else (zkO.j0 k t155 true))) = some (r1, r2, r3, r4, r5, r6, r7) := h
 clear h
 replace H := Option.bind_eq_some_iff.mp H
 obtain ⟨t155, A20, H⟩ := H
 replace H : (if (t155.length : Int) = 2 then (if (a0.size : Int) < 5 then (zkO.j0 k t155 true) else (if 0 < (a0.size : Int) then (if (bt a0 0) = 40 then (if 0 ≤ (wrap64 ((a0.size : Int) - 1)) then (if (wrap64 ((a0.size : Int) - 1)) < (a0.size : Int) then (zkO.j0 k t155 ((bt a0 (wrap64 ((a0.size : Int) - 1))) != 41)) else (none)) else (none)) else (zkO.j0 k t155 true)) else (none))) else (zkO.j0 k t155 true)) = some (r1, r2, r3, r4, r5, r6, r7) := H
 have A2 := zpS A20
 clear A20
 have HC3 := zpS H
 clear H
 go_enter Tryd.func13, Tryd.ntmps13
 go_upto_region 2 with (first | ((with_reducible refine zpZ (N := 2) rfl ?_); (try (refine gate_guard (by rfl) ?_; dsimp only)); refine box_event ?hg (N := 2) ?hd (cs := #[.int .i64 0, .int .i64 0, .int .i64 0, .int .i64 0, .int .i64 0, .int .i64 0]) (t := 34) ?hr ?_; (case hd => rfl); (case hg => rfl); (case hr => first | (go_simp; done) | (go_simp; rfl)); intro gb154 hg w4 hbox hb; have n0_ := (ns_ hb); have n1_ := zpS (hbox); have n2_ := (ng_ hg); have n3_ := n2_; clear HB; have HB := n0_; have BK154 := n1_; have GW154 := n2_; have GE154 := n3_; clear n0_ n1_ n2_ n3_; clear hb hbox hg) | ((with_reducible refine zgK (f := 32) rfl ?_); refine zqQ (some 10) rfl rfl Tryd.func32 (by kernel_rfl) rfl #[.string a0, .int .u8 44] rfl (by (try simp only [List.map_toArray, List.map_cons, List.map_nil]); first | done | rfl | (simp only [List.length_drop, List.length_take]; rfl)) ?_; (with_reducible refine (zjY.calls k a0 44 t155 _ A2.out).mono ?_); rintro e w5 ⟨v156, rfl, ho0, hb⟩; refine ⟨_, rfl, ?_⟩; have n0_ := zpS (Kd.R_lower ho0 (zuB bb_)); have n1_ := zpS (zgM (g := gb154) (o := .cells #[.int .i64 0, .int .i64 0, .int .i64 0, .int .i64 0, .int .i64 0, .int .i64 0] 34 (0, 0)) bk_ hb); have n2_ := (ns_ hb); clear BK154; clear HB; have HO157 := n0_; have BK154 := n1_; have HB := n2_; clear n0_ n1_ n2_; (try clear hb); (try clear hb2); (try clear ho0)))
 (try simp only [Act.put, set_a_, set_b_, set_c_])
 go_cut [31] (fun v31 wc => ∃ (kq : Nat) (x31_2 : Bool), v31 = .bool x31_2 ∧ Aside0 (zkO.j0 kq t155 x31_2 = some (r1, r2, r3, r4, r5, r6, r7)) ∧ Aside0 (kq ≤ k) ∧ Aside0 (Kd.R Kd.string 9 wc w.heap.size (fun _ => True) v156 t155) ∧ Aside0 (wc.heap[gb154]? = some (.cells #[.int .i64 0, .int .i64 0, .int .i64 0, .int .i64 0, .int .i64 0, .int .i64 0] 34 (0, 0))) ∧ Aside0 (Below w.heap.size w wc))
 case first =>
  have H := HC3.out
  clear HC3
  by_cases c6 : (t155.length : Int) = 2
  ·rw [if_pos c6] at H
   have c6b0 : ((t155.length : Int) == 2) = true := beq_iff_eq.mpr c6
   have c6b1 : ((t155.length : Int) != 2) = false := bne_eq_false_iff_eq.mpr c6
   clear c6
   (first | rw [c6b0] | (simp only [zcN, ziJ]; rw [c6b0]) | skip)
   by_cases c7 : (a0.size : Int) < 5
   ·rw [if_pos c7] at H
    have c7b0 : decide ((a0.size : Int) < 5) = true := decide_eq_true c7
    have c7b1 : decide (a0.size < 5) = true := decide_eq_true (by omega)
    clear c7
    have H' := zpS H
    clear H
    obtain ⟨Ao8, co8, eo8⟩ := Kd.R_slice HO157.out
    subst eo8
    go_wp2
    go_meet
    case rel => exact ⟨_, (true), (by first | rfl | (simp; done) | (simp [*]; done)), H', ⟨by first | omega | exact Nat.le_refl _⟩, ⟨by (with_reducible repeat (first | apply Kd.R_alloc | apply Kd.R_drewN | apply Kd.R_drew)); exact HO157.out⟩, ⟨bk_⟩, ⟨bb_⟩⟩
   ·rw [if_neg c7] at H
    have c7b0 : decide ((a0.size : Int) < 5) = false := decide_eq_false c7
    have c7b1 : decide (a0.size < 5) = false := decide_eq_false (by omega)
    clear c7
    by_cases c9 : 0 < (a0.size : Int)
    ·rw [if_pos c9] at H
     have c9b0 : decide (0 < (a0.size : Int)) = true := decide_eq_true c9
     have c9b1 : decide (0 < a0.size) = true := decide_eq_true (by omega)
     clear c9
     by_cases c11 : (bt a0 0) = 40
     ·rw [if_pos c11] at H
      have c11b0 : ((bt a0 0) == 40) = true := beq_iff_eq.mpr c11
      have c11b1 : ((bt a0 0) != 40) = false := bne_eq_false_iff_eq.mpr c11
      clear c11
      obtain ⟨ji12, hji12⟩ : ∃ j_ : Int, (wrap64 ((a0.size : Int) - 1)) = j_ := ⟨_, rfl⟩
      replace H : (if 0 ≤ (ji12) then (if (ji12) < (a0.size : Int) then (zkO.j0 k t155 ((bt a0 (ji12)) != 41)) else (none)) else (none)) = some (r1, r2, r3, r4, r5, r6, r7) := by first | (rw [hji12] at H; exact H) | (simp only [hji12] at H ⊢; exact H)
      have hji12w : (IntKind.i64.wrap ((a0.size : Int) - 1)) = ji12 := (zcN _).trans hji12
      by_cases c13 : 0 ≤ (ji12)
      ·rw [if_pos c13] at H
       have c13b0 : decide (0 ≤ (ji12)) = true := decide_eq_true c13
       clear c13
       by_cases c14 : (ji12) < (a0.size : Int)
       ·rw [if_pos c14] at H
        have c14b0 : decide ((ji12) < (a0.size : Int)) = true := decide_eq_true c14
        clear c14
        have H' := zpS H
        clear H
        obtain ⟨Ao16, co16, eo16⟩ := Kd.R_slice HO157.out
        subst eo16
        have p10 : 0 ≤ (0 : Int) := (by omega)
        have q10 : 0 < a0.size := (by have : (0 : Int) < (a0.size : Int) := dt_; omega)
        have hx10 : ∀ h : 0 < a0.size, ((a0[0]'h).toNat : Int) = bt a0 0 := zbX a0 0
        clear p10
        have qi10 : (0 < (a0.size : Int)) = True := eq_true dt_
        replace q10 := eq_true q10
        have p15 : 0 ≤ ((ji12) : Int) := dt_
        have q15 : (ji12) < (a0.size : Int) := dt_
        have hx15 := zbX a0 (ji12)
        replace p15 := eq_true p15
        replace q15 := eq_true q15
        go_wp2
        go_meet
        case rel => exact ⟨_, (((bt a0 (ji12)) != 41)), (by first | rfl | (simp; done) | (simp only [← hji12] <;> (first | rfl | simp)) | (simp [*]; done)), H', ⟨by first | omega | exact Nat.le_refl _⟩, ⟨by (with_reducible repeat (first | apply Kd.R_alloc | apply Kd.R_drewN | apply Kd.R_drew)); exact HO157.out⟩, ⟨bk_⟩, ⟨bb_⟩⟩
       ·rw [if_neg c14] at H
        exact absurd H (by simp)
      ·rw [if_neg c13] at H
       exact absurd H (by simp)
     ·rw [if_neg c11] at H
      have c11b0 : ((bt a0 0) == 40) = false := beq_eq_false_iff_ne.mpr c11
      have c11b1 : ((bt a0 0) != 40) = true := bne_iff_ne.mpr c11
      have H' := zpS H
      clear H
      obtain ⟨Ao17, co17, eo17⟩ := Kd.R_slice HO157.out
      subst eo17
      have p10 : 0 ≤ (0 : Int) := (by omega)
      have q10 : 0 < a0.size := (by have : (0 : Int) < (a0.size : Int) := dt_; omega)
      have hx10 : ∀ h : 0 < a0.size, ((a0[0]'h).toNat : Int) = bt a0 0 := zbX a0 0
      clear p10
      have qi10 : (0 < (a0.size : Int)) = True := eq_true dt_
      replace q10 := eq_true q10
      go_wp2
      go_meet
      case rel => exact ⟨_, (true), (by first | rfl | (simp; done) | (simp [*]; done)), H', ⟨by first | omega | exact Nat.le_refl _⟩, ⟨by (with_reducible repeat (first | apply Kd.R_alloc | apply Kd.R_drewN | apply Kd.R_drew)); exact HO157.out⟩, ⟨bk_⟩, ⟨bb_⟩⟩
    ·rw [if_neg c9] at H
     exact absurd H (by simp)
  ·rw [if_neg c6] at H
   have c6b0 : ((t155.length : Int) == 2) = false := beq_eq_false_iff_ne.mpr c6
   have c6b1 : ((t155.length : Int) != 2) = true := bne_iff_ne.mpr c6
   (first | rw [c6b0] | (simp only [zcN, ziJ]; rw [c6b0]) | skip)
   have H' := zpS H
   clear H
   obtain ⟨Ao18, co18, eo18⟩ := Kd.R_slice HO157.out
   subst eo18
   go_wp2
   go_meet
   case rel => exact ⟨_, (true), (by first | rfl | (simp; done) | (simp [*]; done)), H', ⟨by first | omega | exact Nat.le_refl _⟩, ⟨by (with_reducible repeat (first | apply Kd.R_alloc | apply Kd.R_drewN | apply Kd.R_drew)); exact HO157.out⟩, ⟨bk_⟩, ⟨bb_⟩⟩
 case rest =>
  clear HC3
  try clear c1
  try clear p1
  try clear q1
  try clear hx1
  try clear qi1
  try clear p2
  try clear c3
  try clear c6
  try clear c6b0
  try clear c6b1
  try clear p6
  try clear c7
  try clear c7b0
  try clear c7b1
  try clear c9
  try clear c9b0
  try clear c9b1
  try clear p10
  try clear q10
  try clear hx10
  try clear qi10
  try clear c11
  try clear c11b0
  try clear c11b1
  try clear c13
  try clear c13b0
  try clear c14
  try clear c14b0
  try clear p15
  try clear q15
  try clear hx15
  try clear p10
  try clear p15
  try clear q10
  try clear q15
  obtain ⟨kq, x31_2, rfl, HA, HJ2, HO_4, BK154, HB⟩ := hcut
  cases kq with
  | zero => exact absurd HA.out (by simp [zkO.j0])
  | succ kj2 =>
   have H := HA.out
   clear HA
   simp only [zkO.j0] at H
   by_cases c19 : x31_2 = true
   ·subst c19
    have H1 : (some (0, 0, 0, 0, 0, 0, false)) = some (r1, r2, r3, r4, r5, r6, r7) := by rw [if_pos rfl] at H; exact H
    clear H
    have H := H1
    clear H1
    simp only [Option.some.injEq, Prod.mk.injEq] at H
    obtain ⟨rfl, rfl, rfl, rfl, rfl, rfl, rfl⟩ := H
    obtain ⟨hcz20_0, hcz20_1, hcz20_2, hcz20_3, hcz20_4, hcz20_5⟩ := cz6_ BK154.out
    obtain ⟨hfz20_0, hfz20_1, hfz20_2, hfz20_3, hfz20_4, hfz20_5⟩ := fz6_ BK154.out
    go_wp2
    refine bodyPost_ret (zzB rfl _ _ gb154 34 #[.int .i64 0, .int .i64 0, .int .i64 0, .int .i64 0, .int .i64 0, .int .i64 0] (0, 0) _ rfl (by (with_reducible repeat (first | apply zuW | apply ztN | apply zqY)); refine zlL (cs := #[.int .i64 0, .int .i64 0, .int .i64 0, .int .i64 0, .int .i64 0, .int .i64 0]) ?_ 5 _ rfl; (with_reducible repeat (first | apply zuW | apply ztN | apply zqY)); refine zlL (cs := #[.int .i64 0, .int .i64 0, .int .i64 0, .int .i64 0, .int .i64 0, .int .i64 0]) ?_ 4 _ rfl; (with_reducible repeat (first | apply zuW | apply ztN | apply zqY)); refine zlL (cs := #[.int .i64 0, .int .i64 0, .int .i64 0, .int .i64 0, .int .i64 0, .int .i64 0]) ?_ 3 _ rfl; (with_reducible repeat (first | apply zuW | apply ztN | apply zqY)); refine zlL (cs := #[.int .i64 0, .int .i64 0, .int .i64 0, .int .i64 0, .int .i64 0, .int .i64 0]) ?_ 2 _ rfl; (with_reducible repeat (first | apply zuW | apply ztN | apply zqY)); refine zlL (cs := #[.int .i64 0, .int .i64 0, .int .i64 0, .int .i64 0, .int .i64 0, .int .i64 0]) ?_ 1 _ rfl; (with_reducible repeat (first | apply zuW | apply ztN | apply zqY)); refine zlL (cs := #[.int .i64 0, .int .i64 0, .int .i64 0, .int .i64 0, .int .i64 0, .int .i64 0]) ?_ 0 _ rfl; (with_reducible repeat (first | apply zuW | apply ztN | apply zqY)); exact BK154.out) Tryd.underlying34 rfl (by kernel_rfl)) rfl ?_
    exact ⟨by first | rfl | (simp [ziS, znJ] <;> rfl) | (simp [*, ziS, znJ] <;> rfl), bb_⟩
   ·replace c19 := Bool.eq_false_iff.mpr c19
    subst c19
    have H1 : (if 0 < (t155.length : Int) then (if 1 ≤ ((zzV ByteArray.empty t155 0).size : Int) then ((zhO.f kj2 ((zzV ByteArray.empty t155 0).extract 1 (zzV ByteArray.empty t155 0).size)).bind fun bt159 => (if 1 < (t155.length : Int) then (if 0 ≤ (wrap64 (((zzV ByteArray.empty t155 1).size : Int) - 1)) then (if (wrap64 (((zzV ByteArray.empty t155 1).size : Int) - 1)) ≤ ((zzV ByteArray.empty t155 1).size : Int) then ((zhO.f kj2 ((zzV ByteArray.empty t155 1).extract 0 ((wrap64 (((zzV ByteArray.empty t155 1).size : Int) - 1)) : Int).toNat)).bind fun bt166 => (if bt159.2.2.2 = true then (if bt166.2.2.2 = true then (some (bt159.1, bt159.2.1, bt159.2.2.1, bt166.1, bt166.2.1, bt166.2.2.1, true)) else (some (0, 0, 0, 0, 0, 0, false))) else (some (0, 0, 0, 0, 0, 0, false)))) else (none)) else (none)) else (none))) else (none)) else (none)) = some (r1, r2, r3, r4, r5, r6, r7) := by rw [if_neg (show ¬ (false = true) by decide)] at H; exact H
    clear H
    have H := H1
    clear H1
    by_cases c21 : 0 < (t155.length : Int)
    ·rw [if_pos c21] at H
     have c21b0 : decide (0 < (t155.length : Int)) = true := decide_eq_true c21
     have c21b1 : decide (0 < t155.length) = true := decide_eq_true (by omega)
     clear c21
     by_cases c22 : 1 ≤ ((zzV ByteArray.empty t155 0).size : Int)
     ·rw [if_pos c22] at H
      have c22b0 := eq_true c22
      have c22b1 : decide (1 ≤ ((zzV ByteArray.empty t155 0).size : Int)) = true := decide_eq_true c22
      clear c22
      replace H := Option.bind_eq_some_iff.mp H
      obtain ⟨⟨t159, t160, t161, t162⟩, A230, H⟩ := H
      replace H : (if 1 < (t155.length : Int) then (if 0 ≤ (wrap64 (((zzV ByteArray.empty t155 1).size : Int) - 1)) then (if (wrap64 (((zzV ByteArray.empty t155 1).size : Int) - 1)) ≤ ((zzV ByteArray.empty t155 1).size : Int) then ((zhO.f kj2 ((zzV ByteArray.empty t155 1).extract 0 ((wrap64 (((zzV ByteArray.empty t155 1).size : Int) - 1)) : Int).toNat)).bind fun bt166 => (if t162 = true then (if bt166.2.2.2 = true then (some (t159, t160, t161, bt166.1, bt166.2.1, bt166.2.2.1, true)) else (some (0, 0, 0, 0, 0, 0, false))) else (some (0, 0, 0, 0, 0, 0, false)))) else (none)) else (none)) else (none)) = some (r1, r2, r3, r4, r5, r6, r7) := H
      have A23 := zpS A230
      clear A230
      by_cases c24 : 1 < (t155.length : Int)
      ·rw [if_pos c24] at H
       have c24b0 : decide (1 < (t155.length : Int)) = true := decide_eq_true c24
       have c24b1 : decide (1 < t155.length) = true := decide_eq_true (by omega)
       clear c24
       obtain ⟨ji25, hji25⟩ : ∃ j_ : Int, (wrap64 (((zzV ByteArray.empty t155 1).size : Int) - 1)) = j_ := ⟨_, rfl⟩
       replace H : (if 0 ≤ (ji25) then (if (ji25) ≤ ((zzV ByteArray.empty t155 1).size : Int) then ((zhO.f kj2 ((zzV ByteArray.empty t155 1).extract 0 ((ji25) : Int).toNat)).bind fun bt166 => (if t162 = true then (if bt166.2.2.2 = true then (some (t159, t160, t161, bt166.1, bt166.2.1, bt166.2.2.1, true)) else (some (0, 0, 0, 0, 0, 0, false))) else (some (0, 0, 0, 0, 0, 0, false)))) else (none)) else (none)) = some (r1, r2, r3, r4, r5, r6, r7) := by first | (rw [hji25] at H; exact H) | (simp only [hji25] at H ⊢; exact H)
       (try rw [hji25] at A23)
       have hji25w : (IntKind.i64.wrap (((zzV ByteArray.empty t155 1).size : Int) - 1)) = ji25 := (zcN _).trans hji25
       by_cases c26 : 0 ≤ (ji25)
       ·rw [if_pos c26] at H
        have c26b0 := eq_true c26
        have c26b1 : decide (0 ≤ (ji25)) = true := decide_eq_true c26
        clear c26
        by_cases c27 : (ji25) ≤ ((zzV ByteArray.empty t155 1).size : Int)
        ·rw [if_pos c27] at H
         have c27b0 := eq_true c27
         have c27b1 : decide ((ji25) ≤ ((zzV ByteArray.empty t155 1).size : Int)) = true := decide_eq_true c27
         clear c27
         replace H := Option.bind_eq_some_iff.mp H
         obtain ⟨⟨t166, t167, t168, t169⟩, A280, H⟩ := H
         replace H : (if t162 = true then (if t169 = true then (some (t159, t160, t161, t166, t167, t168, true)) else (some (0, 0, 0, 0, 0, 0, false))) else (some (0, 0, 0, 0, 0, 0, false))) = some (r1, r2, r3, r4, r5, r6, r7) := H
         have A28 := zpS A280
         clear A280
         by_cases c29 : t162 = true
         ·subst c29
          have H1 : (if t169 = true then (some (t159, t160, t161, t166, t167, t168, true)) else (some (0, 0, 0, 0, 0, 0, false))) = some (r1, r2, r3, r4, r5, r6, r7) := by rw [if_pos rfl] at H; exact H
          clear H
          have H := H1
          clear H1
          by_cases c30 : t169 = true
          ·subst c30
           have H1 : (some (t159, t160, t161, t166, t167, t168, true)) = some (r1, r2, r3, r4, r5, r6, r7) := by rw [if_pos rfl] at H; exact H
           clear H
           have H := H1
           clear H1
           simp only [Option.some.injEq, Prod.mk.injEq] at H
           obtain ⟨rfl, rfl, rfl, rfl, rfl, rfl, rfl⟩ := H
           obtain ⟨Ao31, co31, eo31⟩ := Kd.R_slice HO_4.out
           subst eo31
           have p158 : 0 ≤ (0 : Int) := (by omega)
           have q158 : 0 < (t155.length : Int) := dt_
           obtain ⟨ad158, e158, hx158_0⟩ := Kd.at_string (Kd.R_reads' HO_4.out).2.2 0 p158 q158
           cases e158
           have qi158 : (0 < t155.length) = True := eq_true (by omega)
           (try rw [show ((0 : Int)).toNat = 0 from rfl] at hx158_0)
           (try rw [Addr.add_zero'] at hx158_0)
           replace p158 := eq_true p158
           replace q158 := eq_true q158
           try go_wp2_with (first | ((with_reducible refine zgK (f := 7) rfl ?_); refine zqQ (some 38) rfl rfl Tryd.func7 (by kernel_rfl) rfl #[.string ((zzV ByteArray.empty t155 0).extract 1 (zzV ByteArray.empty t155 0).size)] rfl (by (try simp only [List.map_toArray, List.map_cons, List.map_nil]); first | done | rfl | (simp only [List.length_drop, List.length_take]; rfl)) ?_; (with_reducible refine (zhO.calls kj2 ((zzV ByteArray.empty t155 0).extract 1 (zzV ByteArray.empty t155 0).size) t159 t160 t161 true _ A23.out).mono ?_); rintro e w32 ⟨rfl, hb⟩; refine ⟨_, rfl, ?_⟩; have n0_ := zpS (Kd.R_below (by (with_reducible repeat (first | apply Kd.R_alloc | apply Kd.R_drewN | apply Kd.R_drew)); exact HO_4.out) hb); have n1_ := zpS (zgM (g := gb154) (o := .cells #[.int .i64 0, .int .i64 0, .int .i64 0, .int .i64 0, .int .i64 0, .int .i64 0] 34 (0, 0)) bk_ hb); have n2_ := (ns_ hb); clear HO_4; clear BK154; clear HB; have HO_4 := n0_; have BK154 := n1_; have HB := n2_; clear n0_ n1_ n2_; (try clear hb); (try clear hb2)) | ((with_reducible refine zpZ (N := 5) rfl ?_); (try (refine gate_guard (by rfl) ?_; dsimp only)); refine box_event ?hg (N := 5) ?hd (cs := #[.int .i64 0, .int .i64 0, .int .i64 0]) (t := 23) ?hr ?_; (case hd => rfl); (case hg => rfl); (case hr => first | (go_simp; done) | (go_simp; rfl)); intro gb163 hg w33 hbox hb; have n0_ := zpS (Kd.R_below (by (with_reducible repeat (first | apply Kd.R_alloc | apply Kd.R_drewN | apply Kd.R_drew)); exact HO_4.out) hb); have n1_ := zpS (zgM (g := gb154) (o := .cells #[.int .i64 0, .int .i64 0, .int .i64 0, .int .i64 0, .int .i64 0, .int .i64 0] 34 (0, 0)) bk_ hb); have n2_ := (ns_ hb); have n3_ := zpS (hbox); have n4_ := (ng_ hg); have n5_ := n4_; have n6_ := zpS ((by rw [hg]; exact Nat.ne_of_lt (zmN (g := gb154) (o := .cells #[.int .i64 0, .int .i64 0, .int .i64 0, .int .i64 0, .int .i64 0, .int .i64 0] 34 (0, 0)) bk_) : gb154 ≠ gb163)); have n7_ := zpS ((by rw [hg]; exact Nat.ne_of_gt (zmN (g := gb154) (o := .cells #[.int .i64 0, .int .i64 0, .int .i64 0, .int .i64 0, .int .i64 0, .int .i64 0] 34 (0, 0)) bk_) : gb163 ≠ gb154)); clear HO_4; clear BK154; clear HB; have HO_4 := n0_; have BK154 := n1_; have HB := n2_; have BK163 := n3_; have GW163 := n4_; have GE163 := n5_; have NB154_163 := n6_; have NB163_154 := n7_; clear n0_ n1_ n2_ n3_ n4_ n5_ n6_ n7_; clear hb hbox hg; have hnb34 := NB163_154.out; have hnc34 := NB154_163.out; obtain ⟨hcz35_0, hcz35_1, hcz35_2⟩ := zdT BK163.out; obtain ⟨hfz35_0, hfz35_1, hfz35_2⟩ := zqD BK163.out))
           have n0_ : Aside0 (Kd.R Kd.string 9 (((w33.setCell ⟨gb163, 0, none⟩ (.int .i64 t159)).setCell ⟨gb163, 1, none⟩ (.int .i64 t160)).setCell ⟨gb163, 2, none⟩ (.int .i64 t161)) w.heap.size (fun _ => True) (.slice (some ad158) t155.length co31) t155) := ⟨by (with_reducible repeat (first | apply Kd.R_alloc | apply Kd.R_drewN | apply Kd.R_drew)); exact Kd.R_mono (Kd.R_far (p := ⟨gb163, 2, none⟩) (Kd.R_far (p := ⟨gb163, 1, none⟩) (Kd.R_far (p := ⟨gb163, 0, none⟩) (Kd.R_types HO_4.out BK163.out (by decide)) (fun _ hk => hk.2) (.int .i64 t159)) (fun _ hk => hk.2) (.int .i64 t160)) (fun _ hk => hk.2) (.int .i64 t161)) (fun _ hk => trivial)⟩
           have n1_ : Aside0 ((((w33.setCell ⟨gb163, 0, none⟩ (.int .i64 t159)).setCell ⟨gb163, 1, none⟩ (.int .i64 t160)).setCell ⟨gb163, 2, none⟩ (.int .i64 t161)).heap[gb154]? = some (.cells #[.int .i64 0, .int .i64 0, .int .i64 0, .int .i64 0, .int .i64 0, .int .i64 0] 34 (0, 0))) := ⟨by (with_reducible repeat (first | apply zuW | apply ztN | apply zqY)); refine znI ?_ NB154_163.out _; (with_reducible repeat (first | apply zuW | apply ztN | apply zqY)); refine znI ?_ NB154_163.out _; (with_reducible repeat (first | apply zuW | apply ztN | apply zqY)); refine znI ?_ NB154_163.out _; (with_reducible repeat (first | apply zuW | apply ztN | apply zqY)); exact BK154.out⟩
           have n2_ : Aside0 ((((w33.setCell ⟨gb163, 0, none⟩ (.int .i64 t159)).setCell ⟨gb163, 1, none⟩ (.int .i64 t160)).setCell ⟨gb163, 2, none⟩ (.int .i64 t161)).heap[gb163]? = some (.cells #[.int .i64 t159, .int .i64 t160, .int .i64 t161] 23 (0, 0))) := ⟨by (with_reducible repeat (first | apply zuW | apply ztN | apply zqY)); refine zlL (cs := #[.int .i64 t159, .int .i64 t160, .int .i64 0]) ?_ 2 _ rfl; (with_reducible repeat (first | apply zuW | apply ztN | apply zqY)); refine zlL (cs := #[.int .i64 t159, .int .i64 0, .int .i64 0]) ?_ 1 _ rfl; (with_reducible repeat (first | apply zuW | apply ztN | apply zqY)); refine zlL (cs := #[.int .i64 0, .int .i64 0, .int .i64 0]) ?_ 0 _ rfl; (with_reducible repeat (first | apply zuW | apply ztN | apply zqY)); exact BK163.out⟩
           have n3_ : Aside0 (Below w.heap.size w (((w33.setCell ⟨gb163, 0, none⟩ (.int .i64 t159)).setCell ⟨gb163, 1, none⟩ (.int .i64 t160)).setCell ⟨gb163, 2, none⟩ (.int .i64 t161))) := ⟨bb_⟩
           (try clear HO_4)
           (try clear BK154)
           (try clear BK163)
           (try clear HB)
           generalize (((w33.setCell ⟨gb163, 0, none⟩ (.int .i64 t159)).setCell ⟨gb163, 1, none⟩ (.int .i64 t160)).setCell ⟨gb163, 2, none⟩ (.int .i64 t161)) = w36 at n0_ n1_ n2_ n3_ ⊢
           have HO_4 := n0_
           have BK154 := n1_
           have BK163 := n2_
           have HB := n3_
           clear n0_ n1_ n2_ n3_
           have n0_ := zpS (Kd.R_drew HO_4.out)
           have n1_ := zpS (ztN BK154.out)
           have n2_ := zpS (ztN BK163.out)
           have n3_ := zpS (zvF HB.out)
           clear HO_4
           clear BK154
           clear BK163
           clear HB
           have HO_4 := n0_
           have BK154 := n1_
           have BK163 := n2_
           have HB := n3_
           clear n0_ n1_ n2_ n3_
           have p164 : 0 ≤ (1 : Int) := (by omega)
           have q164 : 1 < (t155.length : Int) := dt_
           obtain ⟨ad164, e164, hx164_0⟩ := Kd.at_string (Kd.R_reads' HO_4.out).2.2 1 p164 q164
           obtain rfl : ad158 = ad164 := (by injection e164)
           (try simp only [show (1 : Int).toNat = 1 from rfl, Nat.reduceMul, Nat.reduceEqDiff, Go.Addr.add, ↓reduceIte] at hx164_0)
           have qi164 : (1 < t155.length) = True := eq_true (by omega)
           (try rw [show ((1 : Int)).toNat = 1 from rfl] at hx164_0)
           replace p164 := eq_true p164
           replace q164 := eq_true q164
           have p165 : 0 ≤ (1 : Int) := (by omega)
           have q165 : 1 < (t155.length : Int) := dt_
           obtain ⟨ad165, e165, hx165_0⟩ := Kd.at_string (Kd.R_reads' HO_4.out).2.2 1 p165 q165
           obtain rfl : ad158 = ad165 := (by injection e165)
           (try simp only [show (1 : Int).toNat = 1 from rfl, Nat.reduceMul, Nat.reduceEqDiff, Go.Addr.add, ↓reduceIte] at hx165_0)
           have qi165 : (1 < t155.length) = True := eq_true (by omega)
           (try rw [show ((1 : Int)).toNat = 1 from rfl] at hx165_0)
           replace p165 := eq_true p165
           replace q165 := eq_true q165
           refine start_ (n := 16) (S := fun w' => w'.cell? ⟨ad158.block, ad158.off + 1, none⟩ = some (.string (zzV ByteArray.empty t155 1)) ∧ w'.cell? ⟨ad158.block, ad158.off + 1, none⟩ = some (.string (zzV ByteArray.empty t155 1))) (ds := []) #[false, false, false, false, false, false, false, false, false, false, false, false, false, false, false, false] (by kernel_rfl) rfl rfl ⟨hx164_0, hx165_0⟩ (fun hHeld => ?_); refine zwI zkO.tab5 zkO.bits5 (fun HT_ HW_ => ?_)
           generalize w36.drew = w37 at HO_4 BK154 BK163 HB hx164_0 hx165_0 hHeld ⊢
           refine pu_ 0 (some 42) (bl_ 16 1) ?_
           refine pu_ 1 (some 43) (bl_ 16 3) ?_
           refine pu_ 3 (some 45) (bl_ 16 11) ?_
           refine pu_ 4 (some 46) (bl_ 16 27) ?_
           refine tk2_ 2 (some 44) (bl_ 16 31) hHeld ?_
           refine tk2_ 5 (some 47) (bl_ 16 63) hHeld ?_
           refine pu_ 6 (some 48) (bl_ 16 127) ?_
           refine pu_ 7 (some 49) (bl_ 16 255) ?_
           refine pu_ 8 (some 50) (bl_ 16 511) ?_
           refine join_ (σ := Nat) 2 #[true, true, true, true, true, true, true, true, true, true, true, true, true, true, false, false] (fun s_ => [(51, .tuple #[.agg #[.int .i64 t166, .int .i64 t167, .int .i64 t168], .bool true]), (7, .pointer (some ⟨s_, 0, none⟩)), (41, .tuple #[.agg #[.int .i64 t166, .int .i64 t167, .int .i64 t168], .bool true]), (52, .agg #[.int .i64 t166, .int .i64 t167, .int .i64 t168]), (53, .bool true)]) (fun s_ w' => (w'.cell? ⟨ad158.block, ad158.off + 1, none⟩ = some (.string (zzV ByteArray.empty t155 1)) ∧ w'.cell? ⟨ad158.block, ad158.off + 1, none⟩ = some (.string (zzV ByteArray.empty t155 1))) ∧ (Kd.R Kd.string 9 w' w.heap.size (fun _ => True) (.slice (some ad158) t155.length co31) t155) ∧ (w'.heap[gb154]? = some (.cells #[.int .i64 0, .int .i64 0, .int .i64 0, .int .i64 0, .int .i64 0, .int .i64 0] 34 (0, 0))) ∧ (w'.heap[gb163]? = some (.cells #[.int .i64 t159, .int .i64 t160, .int .i64 t161] 23 (0, 0))) ∧ (w'.heap[s_]? = some (.cells #[.int .i64 0, .int .i64 0, .int .i64 0] 23 (0, 0))) ∧ (w.heap.size ≤ s_) ∧ (w.heap.size ≤ s_) ∧ (gb154 ≠ s_) ∧ (s_ ≠ gb154) ∧ (gb163 ≠ s_) ∧ (s_ ≠ gb163) ∧ (Below w.heap.size w w')) ?_ ?_
           rotate_left
           ·intro hCont
            refine two_ (i := 9) (j := 13) (Ni := some 51) (Nj := some 7) (bl_ 16 1023) (bl_ 16 8703) rfl rfl rfl rfl (two_of HT_.out (by kernel_rfl)) (by decide) (by decide) (fun K hK => ?_) (fun K hK => ?_)
            ·skip
             refine goes_ Tryd.func7 (by kernel_rfl) rfl #[.string ((zzV ByteArray.empty t155 1).extract 0 ((ji25) : Int).toNat)] (by rfl) rfl rfl (by (try simp only [List.map_toArray, List.map_cons, List.map_nil]); first | done | (simp only [hji25]; rfl) | rfl | (simp only [List.length_drop, List.length_take]; rfl)) ?_
             with_reducible refine (zhO.calls kj2 ((zzV ByteArray.empty t155 1).extract 0 ((ji25) : Int).toNat) t166 t167 t168 true _ A28.out).mono ?_
             rintro e w38 ⟨rfl, hb⟩
             have HS0_ := (hb.cell (World.block_lt_of_cell? _ _ (hHeld.1))).trans (hHeld.1)
             have HS1_ := (hb.cell (World.block_lt_of_cell? _ _ (hHeld.2))).trans (hHeld.2)
             refine ⟨_, rfl, ?_⟩
             have n0_ := zpS (Kd.R_below (by (with_reducible repeat (first | apply Kd.R_alloc | apply Kd.R_drewN | apply Kd.R_drew)); exact HO_4.out) hb)
             have n1_ := zpS (zgM (g := gb154) (o := .cells #[.int .i64 0, .int .i64 0, .int .i64 0, .int .i64 0, .int .i64 0, .int .i64 0] 34 (0, 0)) bk_ hb)
             have n2_ := zpS (zgM (g := gb163) (o := .cells #[.int .i64 t159, .int .i64 t160, .int .i64 t161] 23 (0, 0)) bk_ hb)
             have n3_ := (ns_ hb)
             clear HO_4
             clear BK154
             clear BK163
             clear HB
             have HO_4 := n0_
             have BK154 := n1_
             have BK163 := n2_
             have HB := n3_
             clear n0_ n1_ n2_ n3_
             (try clear hb)
             (try clear hb2)
             (try clear hk)
             (try clear hi)
             refine hK.out _ _ ⟨HS0_, HS1_⟩ (fun hHeld => ?_)
             clear hK K
             refine zaN (a' := ?_) ?_ ?_
             rotate_left
             ·show Act.put _ (some 51) _ = _
              simp only [Act.put, List.setIfInBounds_toArray, List.set_cons_zero, List.set_cons_succ, zcN, ziJ]
              rfl
             refine pu_ 10 (some 41) (bl_ 16 2047) ?_
             refine pu_ 11 (some 52) (bl_ 16 4095) ?_
             refine pu_ 12 (some 53) (bl_ 16 8191) ?_
             refine one_ (i := 13) (N := some 7) (bl_ 16 16383) rfl rfl (zeO HT_.out (by kernel_rfl)) (by decide) (fun K hK => ?_)
             refine box_step ?hg (N := 7) ?hd (cs := #[.int .i64 0, .int .i64 0, .int .i64 0]) (t := 23) ?hr ?_; (case hd => rfl); (case hg => rfl); (case hr => first | (go_simp; done) | (go_simp; rfl))
             intro gb170 hg w39 hbox hb
             have HS0_ := (hb.cell (World.block_lt_of_cell? _ _ (hHeld.1))).trans (hHeld.1)
             have HS1_ := (hb.cell (World.block_lt_of_cell? _ _ (hHeld.2))).trans (hHeld.2)
             have n0_ := zpS (Kd.R_below (by (with_reducible repeat (first | apply Kd.R_alloc | apply Kd.R_drewN | apply Kd.R_drew)); exact HO_4.out) hb)
             have n1_ := zpS (zgM (g := gb154) (o := .cells #[.int .i64 0, .int .i64 0, .int .i64 0, .int .i64 0, .int .i64 0, .int .i64 0] 34 (0, 0)) bk_ hb)
             have n2_ := zpS (zgM (g := gb163) (o := .cells #[.int .i64 t159, .int .i64 t160, .int .i64 t161] 23 (0, 0)) bk_ hb)
             have n3_ := (ns_ hb)
             have n4_ := zpS (hbox)
             have n5_ := (ng_ hg)
             have n6_ := (ng_ hg)
             have n7_ := zpS ((by rw [hg]; exact Nat.ne_of_lt (zmN (g := gb154) (o := .cells #[.int .i64 0, .int .i64 0, .int .i64 0, .int .i64 0, .int .i64 0, .int .i64 0] 34 (0, 0)) bk_) : gb154 ≠ gb170))
             have n8_ := zpS ((by rw [hg]; exact Nat.ne_of_gt (zmN (g := gb154) (o := .cells #[.int .i64 0, .int .i64 0, .int .i64 0, .int .i64 0, .int .i64 0, .int .i64 0] 34 (0, 0)) bk_) : gb170 ≠ gb154))
             have n9_ := zpS ((by rw [hg]; exact Nat.ne_of_lt (zmN (g := gb163) (o := .cells #[.int .i64 t159, .int .i64 t160, .int .i64 t161] 23 (0, 0)) bk_) : gb163 ≠ gb170))
             have n10_ := zpS ((by rw [hg]; exact Nat.ne_of_gt (zmN (g := gb163) (o := .cells #[.int .i64 t159, .int .i64 t160, .int .i64 t161] 23 (0, 0)) bk_) : gb170 ≠ gb163))
             clear HO_4
             clear BK154
             clear BK163
             clear HB
             have HO_4 := n0_
             have BK154 := n1_
             have BK163 := n2_
             have HB := n3_
             have BK170 := n4_
             have GW170 := n5_
             have GE170 := n6_
             have NB154_170 := n7_
             have NB170_154 := n8_
             have NB163_170 := n9_
             have NB170_163 := n10_
             clear n0_ n1_ n2_ n3_ n4_ n5_ n6_ n7_ n8_ n9_ n10_
             clear hb hbox hg
             refine hK.out _ _ ⟨HS0_, HS1_⟩ (fun hHeld => ?_)
             clear hK K
             refine zaN (a' := ?_) ?_ ?_
             rotate_left
             ·show Act.put _ (some 7) _ = _
              simp only [Act.put, List.setIfInBounds_toArray, List.set_cons_zero, List.set_cons_succ, zcN, ziJ]
              rfl
             exact zaN (by simp only [putAll, Act.put, List.setIfInBounds_toArray, List.set_cons_zero, List.set_cons_succ]) (hCont (gb170) _ ⟨hHeld, (by (with_reducible repeat (first | apply Kd.R_alloc | apply Kd.R_drewN | apply Kd.R_drew)); exact HO_4.out), bk_, bk_, bk_, GW170.out, GE170.out, NB154_170.out, NB170_154.out, NB163_170.out, NB170_163.out, bb_⟩)
            ·skip
             refine box_step ?hg (N := 7) ?hd (cs := #[.int .i64 0, .int .i64 0, .int .i64 0]) (t := 23) ?hr ?_; (case hd => rfl); (case hg => rfl); (case hr => first | (go_simp; done) | (go_simp; rfl))
             intro gb170 hg w38 hbox hb
             have HS0_ := (hb.cell (World.block_lt_of_cell? _ _ (hHeld.1))).trans (hHeld.1)
             have HS1_ := (hb.cell (World.block_lt_of_cell? _ _ (hHeld.2))).trans (hHeld.2)
             have n0_ := zpS (Kd.R_below (by (with_reducible repeat (first | apply Kd.R_alloc | apply Kd.R_drewN | apply Kd.R_drew)); exact HO_4.out) hb)
             have n1_ := zpS (zgM (g := gb154) (o := .cells #[.int .i64 0, .int .i64 0, .int .i64 0, .int .i64 0, .int .i64 0, .int .i64 0] 34 (0, 0)) bk_ hb)
             have n2_ := zpS (zgM (g := gb163) (o := .cells #[.int .i64 t159, .int .i64 t160, .int .i64 t161] 23 (0, 0)) bk_ hb)
             have n3_ := (ns_ hb)
             have n4_ := zpS (hbox)
             have n5_ := (ng_ hg)
             have n6_ := (ng_ hg)
             have n7_ := zpS ((by rw [hg]; exact Nat.ne_of_lt (zmN (g := gb154) (o := .cells #[.int .i64 0, .int .i64 0, .int .i64 0, .int .i64 0, .int .i64 0, .int .i64 0] 34 (0, 0)) bk_) : gb154 ≠ gb170))
             have n8_ := zpS ((by rw [hg]; exact Nat.ne_of_gt (zmN (g := gb154) (o := .cells #[.int .i64 0, .int .i64 0, .int .i64 0, .int .i64 0, .int .i64 0, .int .i64 0] 34 (0, 0)) bk_) : gb170 ≠ gb154))
             have n9_ := zpS ((by rw [hg]; exact Nat.ne_of_lt (zmN (g := gb163) (o := .cells #[.int .i64 t159, .int .i64 t160, .int .i64 t161] 23 (0, 0)) bk_) : gb163 ≠ gb170))
             have n10_ := zpS ((by rw [hg]; exact Nat.ne_of_gt (zmN (g := gb163) (o := .cells #[.int .i64 t159, .int .i64 t160, .int .i64 t161] 23 (0, 0)) bk_) : gb170 ≠ gb163))
             clear HO_4
             clear BK154
             clear BK163
             clear HB
             have HO_4 := n0_
             have BK154 := n1_
             have BK163 := n2_
             have HB := n3_
             have BK170 := n4_
             have GW170 := n5_
             have GE170 := n6_
             have NB154_170 := n7_
             have NB170_154 := n8_
             have NB163_170 := n9_
             have NB170_163 := n10_
             clear n0_ n1_ n2_ n3_ n4_ n5_ n6_ n7_ n8_ n9_ n10_
             clear hb hbox hg
             refine hK.out _ _ ⟨HS0_, HS1_⟩ (fun hHeld => ?_)
             clear hK K
             refine zaN (a' := ?_) ?_ ?_
             rotate_left
             ·show Act.put _ (some 7) _ = _
              simp only [Act.put, List.setIfInBounds_toArray, List.set_cons_zero, List.set_cons_succ, zcN, ziJ]
              rfl
             refine one_ (i := 9) (N := some 51) (bl_ 16 9215) rfl rfl (zeO HT_.out (by kernel_rfl)) (by decide) (fun K hK => ?_)
             refine goes_ Tryd.func7 (by kernel_rfl) rfl #[.string ((zzV ByteArray.empty t155 1).extract 0 ((ji25) : Int).toNat)] (by rfl) rfl rfl (by (try simp only [List.map_toArray, List.map_cons, List.map_nil]); first | done | (simp only [hji25]; rfl) | rfl | (simp only [List.length_drop, List.length_take]; rfl)) ?_
             with_reducible refine (zhO.calls kj2 ((zzV ByteArray.empty t155 1).extract 0 ((ji25) : Int).toNat) t166 t167 t168 true _ A28.out).mono ?_
             rintro e w39 ⟨rfl, hb⟩
             have HS0_ := (hb.cell (World.block_lt_of_cell? _ _ (hHeld.1))).trans (hHeld.1)
             have HS1_ := (hb.cell (World.block_lt_of_cell? _ _ (hHeld.2))).trans (hHeld.2)
             refine ⟨_, rfl, ?_⟩
             have n0_ := zpS (Kd.R_below (by (with_reducible repeat (first | apply Kd.R_alloc | apply Kd.R_drewN | apply Kd.R_drew)); exact HO_4.out) hb)
             have n1_ := zpS (zgM (g := gb154) (o := .cells #[.int .i64 0, .int .i64 0, .int .i64 0, .int .i64 0, .int .i64 0, .int .i64 0] 34 (0, 0)) bk_ hb)
             have n2_ := zpS (zgM (g := gb163) (o := .cells #[.int .i64 t159, .int .i64 t160, .int .i64 t161] 23 (0, 0)) bk_ hb)
             have n3_ := zpS (zgM (g := gb170) (o := .cells #[.int .i64 0, .int .i64 0, .int .i64 0] 23 (0, 0)) bk_ hb)
             have n4_ := (ns_ hb)
             clear HO_4
             clear BK154
             clear BK163
             clear BK170
             clear HB
             have HO_4 := n0_
             have BK154 := n1_
             have BK163 := n2_
             have BK170 := n3_
             have HB := n4_
             clear n0_ n1_ n2_ n3_ n4_
             (try clear hb)
             (try clear hb2)
             (try clear hk)
             (try clear hi)
             refine hK.out _ _ ⟨HS0_, HS1_⟩ (fun hHeld => ?_)
             clear hK K
             refine zaN (a' := ?_) ?_ ?_
             rotate_left
             ·show Act.put _ (some 51) _ = _
              simp only [Act.put, List.setIfInBounds_toArray, List.set_cons_zero, List.set_cons_succ, zcN, ziJ]
              rfl
             refine pu_ 10 (some 41) (bl_ 16 10239) ?_
             refine pu_ 11 (some 52) (bl_ 16 12287) ?_
             refine pu_ 12 (some 53) (bl_ 16 16383) ?_
             exact zaN (by simp only [putAll, Act.put, List.setIfInBounds_toArray, List.set_cons_zero, List.set_cons_succ]) (hCont (gb170) _ ⟨hHeld, (by (with_reducible repeat (first | apply Kd.R_alloc | apply Kd.R_drewN | apply Kd.R_drew)); exact HO_4.out), bk_, bk_, bk_, GW170.out, GE170.out, NB154_170.out, NB170_154.out, NB163_170.out, NB170_163.out, bb_⟩)
           rintro gb170 w40 ⟨hS_, h0_, h1_, h2_, h3_, h4_, h5_, h6_, h7_, h8_, h9_, h10_⟩
           have n0_ : Aside0 (Kd.R Kd.string 9 w40 w.heap.size (fun _ => True) (.slice (some ad158) t155.length co31) t155) := ⟨h0_⟩
           have n1_ : Aside0 (w40.heap[gb154]? = some (.cells #[.int .i64 0, .int .i64 0, .int .i64 0, .int .i64 0, .int .i64 0, .int .i64 0] 34 (0, 0))) := ⟨h1_⟩
           have n2_ : Aside0 (w40.heap[gb163]? = some (.cells #[.int .i64 t159, .int .i64 t160, .int .i64 t161] 23 (0, 0))) := ⟨h2_⟩
           have n3_ : Aside0 (w40.heap[gb170]? = some (.cells #[.int .i64 0, .int .i64 0, .int .i64 0] 23 (0, 0))) := ⟨h3_⟩
           have n4_ : Aside0 (w.heap.size ≤ gb170) := ⟨h4_⟩
           have n5_ : Aside0 (w.heap.size ≤ gb170) := ⟨h5_⟩
           have n6_ : Aside0 (gb154 ≠ gb170) := ⟨h6_⟩
           have n7_ : Aside0 (gb170 ≠ gb154) := ⟨h7_⟩
           have n8_ : Aside0 (gb163 ≠ gb170) := ⟨h8_⟩
           have n9_ : Aside0 (gb170 ≠ gb163) := ⟨h9_⟩
           have n10_ : Aside0 (Below w.heap.size w w40) := ⟨h10_⟩
           clear HO_4
           clear BK154
           clear BK163
           clear HB
           clear h0_ h1_ h2_ h3_ h4_ h5_ h6_ h7_ h8_ h9_ h10_
           have HO_4 := n0_
           have BK154 := n1_
           have BK163 := n2_
           have BK170 := n3_
           have GW170 := n4_
           have GE170 := n5_
           have NB154_170 := n6_
           have NB170_154 := n7_
           have NB163_170 := n8_
           have NB170_163 := n9_
           have HB := n10_
           clear n0_ n1_ n2_ n3_ n4_ n5_ n6_ n7_ n8_ n9_ n10_
           have hHeld : w40.cell? ⟨ad158.block, ad158.off + 1, none⟩ = some (.string (zzV ByteArray.empty t155 1)) ∧ w40.cell? ⟨ad158.block, ad158.off + 1, none⟩ = some (.string (zzV ByteArray.empty t155 1)) := hS_
           refine zaN (a' := ?_) ?_ ?_
           rotate_left
           ·simp only [putAll, Act.put, List.setIfInBounds_toArray, List.set_cons_zero, List.set_cons_succ]
            rfl
           refine one_ (i := 14) (N := none) (bl_ 16 32767) rfl rfl (zeO HT_.out (by kernel_rfl)) (by decide) (fun K hK => ?_)
           have hs41 : w40.cell? ⟨gb170, 0, none⟩ = some (.int .i64 0) := (zzS BK170.out 0).trans rfl
           have hfs41 := zjF BK170.out 0
           have hns41_0 := NB154_170.out
           have hns41_1 := NB163_170.out
           have hms41_0 := NB170_154.out
           have hms41_1 := NB170_163.out
           have hs42 : w40.cell? ⟨gb170, 1, none⟩ = some (.int .i64 0) := (zzS BK170.out 1).trans rfl
           have hfs42 := zjF BK170.out 1
           have hns42_0 := NB154_170.out
           have hns42_1 := NB163_170.out
           have hms42_0 := NB170_154.out
           have hms42_1 := NB170_163.out
           have hs43 : w40.cell? ⟨gb170, 2, none⟩ = some (.int .i64 0) := (zzS BK170.out 2).trans rfl
           have hfs43 := zjF BK170.out 2
           have hns43_0 := NB154_170.out
           have hns43_1 := NB163_170.out
           have hms43_0 := NB170_154.out
           have hms43_1 := NB170_163.out
           refine skip_ (w1 := ?_) (by rfl) rfl ?_ ?_
           rotate_left
           ·go_simp
            rfl
           refine hK.out _ _ ⟨((zgQ (p := ⟨gb170, _, none⟩) (by first | exact Kd.own_blk (Kd.R_ne HO_4.out BK170.out (by decide)) | (rw [zhT]; exact Kd.own_blk (Kd.R_ne HO_4.out BK170.out (by decide))) | (show (Addr.add _ _).block ≠ _; rw [zhT]; exact Kd.own_blk (Kd.R_ne HO_4.out BK170.out (by decide))) | (dsimp only; exact Kd.own_blk (Kd.R_ne HO_4.out BK170.out (by decide)))) _).trans (((zgQ (p := ⟨gb170, _, none⟩) (by first | exact Kd.own_blk (Kd.R_ne HO_4.out BK170.out (by decide)) | (rw [zhT]; exact Kd.own_blk (Kd.R_ne HO_4.out BK170.out (by decide))) | (show (Addr.add _ _).block ≠ _; rw [zhT]; exact Kd.own_blk (Kd.R_ne HO_4.out BK170.out (by decide))) | (dsimp only; exact Kd.own_blk (Kd.R_ne HO_4.out BK170.out (by decide)))) _).trans (((zgQ (p := ⟨gb170, _, none⟩) (by first | exact Kd.own_blk (Kd.R_ne HO_4.out BK170.out (by decide)) | (rw [zhT]; exact Kd.own_blk (Kd.R_ne HO_4.out BK170.out (by decide))) | (show (Addr.add _ _).block ≠ _; rw [zhT]; exact Kd.own_blk (Kd.R_ne HO_4.out BK170.out (by decide))) | (dsimp only; exact Kd.own_blk (Kd.R_ne HO_4.out BK170.out (by decide)))) _).trans (hHeld.1)))))), ((zgQ (p := ⟨gb170, _, none⟩) (by first | exact Kd.own_blk (Kd.R_ne HO_4.out BK170.out (by decide)) | (rw [zhT]; exact Kd.own_blk (Kd.R_ne HO_4.out BK170.out (by decide))) | (show (Addr.add _ _).block ≠ _; rw [zhT]; exact Kd.own_blk (Kd.R_ne HO_4.out BK170.out (by decide))) | (dsimp only; exact Kd.own_blk (Kd.R_ne HO_4.out BK170.out (by decide)))) _).trans (((zgQ (p := ⟨gb170, _, none⟩) (by first | exact Kd.own_blk (Kd.R_ne HO_4.out BK170.out (by decide)) | (rw [zhT]; exact Kd.own_blk (Kd.R_ne HO_4.out BK170.out (by decide))) | (show (Addr.add _ _).block ≠ _; rw [zhT]; exact Kd.own_blk (Kd.R_ne HO_4.out BK170.out (by decide))) | (dsimp only; exact Kd.own_blk (Kd.R_ne HO_4.out BK170.out (by decide)))) _).trans (((zgQ (p := ⟨gb170, _, none⟩) (by first | exact Kd.own_blk (Kd.R_ne HO_4.out BK170.out (by decide)) | (rw [zhT]; exact Kd.own_blk (Kd.R_ne HO_4.out BK170.out (by decide))) | (show (Addr.add _ _).block ≠ _; rw [zhT]; exact Kd.own_blk (Kd.R_ne HO_4.out BK170.out (by decide))) | (dsimp only; exact Kd.own_blk (Kd.R_ne HO_4.out BK170.out (by decide)))) _).trans (hHeld.2))))))⟩ (fun hHeld => ?_)
           clear hK K
           refine pu_ 15 (some 8) (bl_ 16 65535) ?_
           refine done_ (done_of HT_.out (by kernel_rfl)) ?_
           have hnb44 := NB163_170.out
           have hnc44 := NB170_163.out
           obtain ⟨hcz45_0, hcz45_1, hcz45_2⟩ := zdT BK163.out
           obtain ⟨hfz45_0, hfz45_1, hfz45_2⟩ := zqD BK163.out
           have hnb46 := NB170_154.out
           have hnc46 := NB154_170.out
           obtain ⟨hcz47_0, hcz47_1, hcz47_2⟩ := zdT BK170.out
           obtain ⟨hfz47_0, hfz47_1, hfz47_2⟩ := zqD BK170.out
           obtain ⟨hcz48_0, hcz48_1, hcz48_2, hcz48_3, hcz48_4, hcz48_5⟩ := cz6_ BK154.out
           obtain ⟨hfz48_0, hfz48_1, hfz48_2, hfz48_3, hfz48_4, hfz48_5⟩ := fz6_ BK154.out
           try go_wp2
           refine bodyPost_ret (zzB rfl _ _ gb154 34 #[.int .i64 t159, .int .i64 t160, .int .i64 t161, .int .i64 t166, .int .i64 t167, .int .i64 t168] (0, 0) _ rfl (by (with_reducible repeat (first | apply zuW | apply ztN | apply zqY)); refine zlL (cs := #[.int .i64 t159, .int .i64 t160, .int .i64 t161, .int .i64 t166, .int .i64 t167, .int .i64 0]) ?_ 5 _ rfl; (with_reducible repeat (first | apply zuW | apply ztN | apply zqY)); refine zlL (cs := #[.int .i64 t159, .int .i64 t160, .int .i64 t161, .int .i64 t166, .int .i64 0, .int .i64 0]) ?_ 4 _ rfl; (with_reducible repeat (first | apply zuW | apply ztN | apply zqY)); refine zlL (cs := #[.int .i64 t159, .int .i64 t160, .int .i64 t161, .int .i64 0, .int .i64 0, .int .i64 0]) ?_ 3 _ rfl; (with_reducible repeat (first | apply zuW | apply ztN | apply zqY)); refine zlL (cs := #[.int .i64 t159, .int .i64 t160, .int .i64 0, .int .i64 0, .int .i64 0, .int .i64 0]) ?_ 2 _ rfl; (with_reducible repeat (first | apply zuW | apply ztN | apply zqY)); refine zlL (cs := #[.int .i64 t159, .int .i64 0, .int .i64 0, .int .i64 0, .int .i64 0, .int .i64 0]) ?_ 1 _ rfl; (with_reducible repeat (first | apply zuW | apply ztN | apply zqY)); refine zlL (cs := #[.int .i64 0, .int .i64 0, .int .i64 0, .int .i64 0, .int .i64 0, .int .i64 0]) ?_ 0 _ rfl; (with_reducible repeat (first | apply zuW | apply ztN | apply zqY)); refine znI ?_ NB154_170.out _; (with_reducible repeat (first | apply zuW | apply ztN | apply zqY)); refine znI ?_ NB154_170.out _; (with_reducible repeat (first | apply zuW | apply ztN | apply zqY)); refine znI ?_ NB154_170.out _; (with_reducible repeat (first | apply zuW | apply ztN | apply zqY)); exact BK154.out) Tryd.underlying34 rfl (by kernel_rfl)) rfl ?_
           exact ⟨by first | rfl | (simp [ziS, znJ] <;> rfl) | (simp only [← hji25]; first | rfl | (simp [ziS, znJ] <;> rfl)) | (simp [*, ziS, znJ] <;> rfl), bb_⟩
          ·replace c30 := Bool.eq_false_iff.mpr c30
           subst c30
           have H1 : (some (0, 0, 0, 0, 0, 0, false)) = some (r1, r2, r3, r4, r5, r6, r7) := by rw [if_neg (show ¬ (false = true) by decide)] at H; exact H
           clear H
           have H := H1
           clear H1
           simp only [Option.some.injEq, Prod.mk.injEq] at H
           obtain ⟨rfl, rfl, rfl, rfl, rfl, rfl, rfl⟩ := H
           obtain ⟨Ao49, co49, eo49⟩ := Kd.R_slice HO_4.out
           subst eo49
           have p158 : 0 ≤ (0 : Int) := (by omega)
           have q158 : 0 < (t155.length : Int) := dt_
           obtain ⟨ad158, e158, hx158_0⟩ := Kd.at_string (Kd.R_reads' HO_4.out).2.2 0 p158 q158
           cases e158
           have qi158 : (0 < t155.length) = True := eq_true (by omega)
           (try rw [show ((0 : Int)).toNat = 0 from rfl] at hx158_0)
           (try rw [Addr.add_zero'] at hx158_0)
           replace p158 := eq_true p158
           replace q158 := eq_true q158
           try go_wp2_with (first | ((with_reducible refine zgK (f := 7) rfl ?_); refine zqQ (some 38) rfl rfl Tryd.func7 (by kernel_rfl) rfl #[.string ((zzV ByteArray.empty t155 0).extract 1 (zzV ByteArray.empty t155 0).size)] rfl (by (try simp only [List.map_toArray, List.map_cons, List.map_nil]); first | done | rfl | (simp only [List.length_drop, List.length_take]; rfl)) ?_; (with_reducible refine (zhO.calls kj2 ((zzV ByteArray.empty t155 0).extract 1 (zzV ByteArray.empty t155 0).size) t159 t160 t161 true _ A23.out).mono ?_); rintro e w50 ⟨rfl, hb⟩; refine ⟨_, rfl, ?_⟩; have n0_ := zpS (Kd.R_below (by (with_reducible repeat (first | apply Kd.R_alloc | apply Kd.R_drewN | apply Kd.R_drew)); exact HO_4.out) hb); have n1_ := zpS (zgM (g := gb154) (o := .cells #[.int .i64 0, .int .i64 0, .int .i64 0, .int .i64 0, .int .i64 0, .int .i64 0] 34 (0, 0)) bk_ hb); have n2_ := (ns_ hb); clear HO_4; clear BK154; clear HB; have HO_4 := n0_; have BK154 := n1_; have HB := n2_; clear n0_ n1_ n2_; (try clear hb); (try clear hb2)) | ((with_reducible refine zpZ (N := 5) rfl ?_); (try (refine gate_guard (by rfl) ?_; dsimp only)); refine box_event ?hg (N := 5) ?hd (cs := #[.int .i64 0, .int .i64 0, .int .i64 0]) (t := 23) ?hr ?_; (case hd => rfl); (case hg => rfl); (case hr => first | (go_simp; done) | (go_simp; rfl)); intro gb163 hg w51 hbox hb; have n0_ := zpS (Kd.R_below (by (with_reducible repeat (first | apply Kd.R_alloc | apply Kd.R_drewN | apply Kd.R_drew)); exact HO_4.out) hb); have n1_ := zpS (zgM (g := gb154) (o := .cells #[.int .i64 0, .int .i64 0, .int .i64 0, .int .i64 0, .int .i64 0, .int .i64 0] 34 (0, 0)) bk_ hb); have n2_ := (ns_ hb); have n3_ := zpS (hbox); have n4_ := (ng_ hg); have n5_ := n4_; have n6_ := zpS ((by rw [hg]; exact Nat.ne_of_lt (zmN (g := gb154) (o := .cells #[.int .i64 0, .int .i64 0, .int .i64 0, .int .i64 0, .int .i64 0, .int .i64 0] 34 (0, 0)) bk_) : gb154 ≠ gb163)); have n7_ := zpS ((by rw [hg]; exact Nat.ne_of_gt (zmN (g := gb154) (o := .cells #[.int .i64 0, .int .i64 0, .int .i64 0, .int .i64 0, .int .i64 0, .int .i64 0] 34 (0, 0)) bk_) : gb163 ≠ gb154)); clear HO_4; clear BK154; clear HB; have HO_4 := n0_; have BK154 := n1_; have HB := n2_; have BK163 := n3_; have GW163 := n4_; have GE163 := n5_; have NB154_163 := n6_; have NB163_154 := n7_; clear n0_ n1_ n2_ n3_ n4_ n5_ n6_ n7_; clear hb hbox hg; have hnb52 := NB163_154.out; have hnc52 := NB154_163.out; obtain ⟨hcz53_0, hcz53_1, hcz53_2⟩ := zdT BK163.out; obtain ⟨hfz53_0, hfz53_1, hfz53_2⟩ := zqD BK163.out))
           have n0_ : Aside0 (Kd.R Kd.string 9 (((w51.setCell ⟨gb163, 0, none⟩ (.int .i64 t159)).setCell ⟨gb163, 1, none⟩ (.int .i64 t160)).setCell ⟨gb163, 2, none⟩ (.int .i64 t161)) w.heap.size (fun _ => True) (.slice (some ad158) t155.length co49) t155) := ⟨by (with_reducible repeat (first | apply Kd.R_alloc | apply Kd.R_drewN | apply Kd.R_drew)); exact Kd.R_mono (Kd.R_far (p := ⟨gb163, 2, none⟩) (Kd.R_far (p := ⟨gb163, 1, none⟩) (Kd.R_far (p := ⟨gb163, 0, none⟩) (Kd.R_types HO_4.out BK163.out (by decide)) (fun _ hk => hk.2) (.int .i64 t159)) (fun _ hk => hk.2) (.int .i64 t160)) (fun _ hk => hk.2) (.int .i64 t161)) (fun _ hk => trivial)⟩
           have n1_ : Aside0 ((((w51.setCell ⟨gb163, 0, none⟩ (.int .i64 t159)).setCell ⟨gb163, 1, none⟩ (.int .i64 t160)).setCell ⟨gb163, 2, none⟩ (.int .i64 t161)).heap[gb154]? = some (.cells #[.int .i64 0, .int .i64 0, .int .i64 0, .int .i64 0, .int .i64 0, .int .i64 0] 34 (0, 0))) := ⟨by (with_reducible repeat (first | apply zuW | apply ztN | apply zqY)); refine znI ?_ NB154_163.out _; (with_reducible repeat (first | apply zuW | apply ztN | apply zqY)); refine znI ?_ NB154_163.out _; (with_reducible repeat (first | apply zuW | apply ztN | apply zqY)); refine znI ?_ NB154_163.out _; (with_reducible repeat (first | apply zuW | apply ztN | apply zqY)); exact BK154.out⟩
           have n2_ : Aside0 ((((w51.setCell ⟨gb163, 0, none⟩ (.int .i64 t159)).setCell ⟨gb163, 1, none⟩ (.int .i64 t160)).setCell ⟨gb163, 2, none⟩ (.int .i64 t161)).heap[gb163]? = some (.cells #[.int .i64 t159, .int .i64 t160, .int .i64 t161] 23 (0, 0))) := ⟨by (with_reducible repeat (first | apply zuW | apply ztN | apply zqY)); refine zlL (cs := #[.int .i64 t159, .int .i64 t160, .int .i64 0]) ?_ 2 _ rfl; (with_reducible repeat (first | apply zuW | apply ztN | apply zqY)); refine zlL (cs := #[.int .i64 t159, .int .i64 0, .int .i64 0]) ?_ 1 _ rfl; (with_reducible repeat (first | apply zuW | apply ztN | apply zqY)); refine zlL (cs := #[.int .i64 0, .int .i64 0, .int .i64 0]) ?_ 0 _ rfl; (with_reducible repeat (first | apply zuW | apply ztN | apply zqY)); exact BK163.out⟩
           have n3_ : Aside0 (Below w.heap.size w (((w51.setCell ⟨gb163, 0, none⟩ (.int .i64 t159)).setCell ⟨gb163, 1, none⟩ (.int .i64 t160)).setCell ⟨gb163, 2, none⟩ (.int .i64 t161))) := ⟨bb_⟩
           (try clear HO_4)
           (try clear BK154)
           (try clear BK163)
           (try clear HB)
           generalize (((w51.setCell ⟨gb163, 0, none⟩ (.int .i64 t159)).setCell ⟨gb163, 1, none⟩ (.int .i64 t160)).setCell ⟨gb163, 2, none⟩ (.int .i64 t161)) = w54 at n0_ n1_ n2_ n3_ ⊢
           have HO_4 := n0_
           have BK154 := n1_
           have BK163 := n2_
           have HB := n3_
           clear n0_ n1_ n2_ n3_
           have n0_ := zpS (Kd.R_drew HO_4.out)
           have n1_ := zpS (ztN BK154.out)
           have n2_ := zpS (ztN BK163.out)
           have n3_ := zpS (zvF HB.out)
           clear HO_4
           clear BK154
           clear BK163
           clear HB
           have HO_4 := n0_
           have BK154 := n1_
           have BK163 := n2_
           have HB := n3_
           clear n0_ n1_ n2_ n3_
           have p164 : 0 ≤ (1 : Int) := (by omega)
           have q164 : 1 < (t155.length : Int) := dt_
           obtain ⟨ad164, e164, hx164_0⟩ := Kd.at_string (Kd.R_reads' HO_4.out).2.2 1 p164 q164
           obtain rfl : ad158 = ad164 := (by injection e164)
           (try simp only [show (1 : Int).toNat = 1 from rfl, Nat.reduceMul, Nat.reduceEqDiff, Go.Addr.add, ↓reduceIte] at hx164_0)
           have qi164 : (1 < t155.length) = True := eq_true (by omega)
           (try rw [show ((1 : Int)).toNat = 1 from rfl] at hx164_0)
           replace p164 := eq_true p164
           replace q164 := eq_true q164
           have p165 : 0 ≤ (1 : Int) := (by omega)
           have q165 : 1 < (t155.length : Int) := dt_
           obtain ⟨ad165, e165, hx165_0⟩ := Kd.at_string (Kd.R_reads' HO_4.out).2.2 1 p165 q165
           obtain rfl : ad158 = ad165 := (by injection e165)
           (try simp only [show (1 : Int).toNat = 1 from rfl, Nat.reduceMul, Nat.reduceEqDiff, Go.Addr.add, ↓reduceIte] at hx165_0)
           have qi165 : (1 < t155.length) = True := eq_true (by omega)
           (try rw [show ((1 : Int)).toNat = 1 from rfl] at hx165_0)
           replace p165 := eq_true p165
           replace q165 := eq_true q165
           refine start_ (n := 16) (S := fun w' => w'.cell? ⟨ad158.block, ad158.off + 1, none⟩ = some (.string (zzV ByteArray.empty t155 1)) ∧ w'.cell? ⟨ad158.block, ad158.off + 1, none⟩ = some (.string (zzV ByteArray.empty t155 1))) (ds := []) #[false, false, false, false, false, false, false, false, false, false, false, false, false, false, false, false] (by kernel_rfl) rfl rfl ⟨hx164_0, hx165_0⟩ (fun hHeld => ?_); refine zwI zkO.tab5 zkO.bits5 (fun HT_ HW_ => ?_)
           generalize w54.drew = w55 at HO_4 BK154 BK163 HB hx164_0 hx165_0 hHeld ⊢
           refine pu_ 0 (some 42) (bl_ 16 1) ?_
           refine pu_ 1 (some 43) (bl_ 16 3) ?_
           refine pu_ 3 (some 45) (bl_ 16 11) ?_
           refine pu_ 4 (some 46) (bl_ 16 27) ?_
           refine tk2_ 2 (some 44) (bl_ 16 31) hHeld ?_
           refine tk2_ 5 (some 47) (bl_ 16 63) hHeld ?_
           refine pu_ 6 (some 48) (bl_ 16 127) ?_
           refine pu_ 7 (some 49) (bl_ 16 255) ?_
           refine pu_ 8 (some 50) (bl_ 16 511) ?_
           refine join_ (σ := Nat) 2 #[true, true, true, true, true, true, true, true, true, true, true, true, true, true, false, false] (fun s_ => [(51, .tuple #[.agg #[.int .i64 t166, .int .i64 t167, .int .i64 t168], .bool false]), (7, .pointer (some ⟨s_, 0, none⟩)), (41, .tuple #[.agg #[.int .i64 t166, .int .i64 t167, .int .i64 t168], .bool false]), (52, .agg #[.int .i64 t166, .int .i64 t167, .int .i64 t168]), (53, .bool false)]) (fun s_ w' => (w'.cell? ⟨ad158.block, ad158.off + 1, none⟩ = some (.string (zzV ByteArray.empty t155 1)) ∧ w'.cell? ⟨ad158.block, ad158.off + 1, none⟩ = some (.string (zzV ByteArray.empty t155 1))) ∧ (Kd.R Kd.string 9 w' w.heap.size (fun _ => True) (.slice (some ad158) t155.length co49) t155) ∧ (w'.heap[gb154]? = some (.cells #[.int .i64 0, .int .i64 0, .int .i64 0, .int .i64 0, .int .i64 0, .int .i64 0] 34 (0, 0))) ∧ (w'.heap[gb163]? = some (.cells #[.int .i64 t159, .int .i64 t160, .int .i64 t161] 23 (0, 0))) ∧ (w'.heap[s_]? = some (.cells #[.int .i64 0, .int .i64 0, .int .i64 0] 23 (0, 0))) ∧ (w.heap.size ≤ s_) ∧ (w.heap.size ≤ s_) ∧ (gb154 ≠ s_) ∧ (s_ ≠ gb154) ∧ (gb163 ≠ s_) ∧ (s_ ≠ gb163) ∧ (Below w.heap.size w w')) ?_ ?_
           rotate_left
           ·intro hCont
            refine two_ (i := 9) (j := 13) (Ni := some 51) (Nj := some 7) (bl_ 16 1023) (bl_ 16 8703) rfl rfl rfl rfl (two_of HT_.out (by kernel_rfl)) (by decide) (by decide) (fun K hK => ?_) (fun K hK => ?_)
            ·skip
             refine goes_ Tryd.func7 (by kernel_rfl) rfl #[.string ((zzV ByteArray.empty t155 1).extract 0 ((ji25) : Int).toNat)] (by rfl) rfl rfl (by (try simp only [List.map_toArray, List.map_cons, List.map_nil]); first | done | (simp only [hji25]; rfl) | rfl | (simp only [List.length_drop, List.length_take]; rfl)) ?_
             with_reducible refine (zhO.calls kj2 ((zzV ByteArray.empty t155 1).extract 0 ((ji25) : Int).toNat) t166 t167 t168 false _ A28.out).mono ?_
             rintro e w56 ⟨rfl, hb⟩
             have HS0_ := (hb.cell (World.block_lt_of_cell? _ _ (hHeld.1))).trans (hHeld.1)
             have HS1_ := (hb.cell (World.block_lt_of_cell? _ _ (hHeld.2))).trans (hHeld.2)
             refine ⟨_, rfl, ?_⟩
             have n0_ := zpS (Kd.R_below (by (with_reducible repeat (first | apply Kd.R_alloc | apply Kd.R_drewN | apply Kd.R_drew)); exact HO_4.out) hb)
             have n1_ := zpS (zgM (g := gb154) (o := .cells #[.int .i64 0, .int .i64 0, .int .i64 0, .int .i64 0, .int .i64 0, .int .i64 0] 34 (0, 0)) bk_ hb)
             have n2_ := zpS (zgM (g := gb163) (o := .cells #[.int .i64 t159, .int .i64 t160, .int .i64 t161] 23 (0, 0)) bk_ hb)
             have n3_ := (ns_ hb)
             clear HO_4
             clear BK154
             clear BK163
             clear HB
             have HO_4 := n0_
             have BK154 := n1_
             have BK163 := n2_
             have HB := n3_
             clear n0_ n1_ n2_ n3_
             (try clear hb)
             (try clear hb2)
             (try clear hk)
             (try clear hi)
             refine hK.out _ _ ⟨HS0_, HS1_⟩ (fun hHeld => ?_)
             clear hK K
             refine zaN (a' := ?_) ?_ ?_
             rotate_left
             ·show Act.put _ (some 51) _ = _
              simp only [Act.put, List.setIfInBounds_toArray, List.set_cons_zero, List.set_cons_succ, zcN, ziJ]
              rfl
             refine pu_ 10 (some 41) (bl_ 16 2047) ?_
             refine pu_ 11 (some 52) (bl_ 16 4095) ?_
             refine pu_ 12 (some 53) (bl_ 16 8191) ?_
             refine one_ (i := 13) (N := some 7) (bl_ 16 16383) rfl rfl (zeO HT_.out (by kernel_rfl)) (by decide) (fun K hK => ?_)
             refine box_step ?hg (N := 7) ?hd (cs := #[.int .i64 0, .int .i64 0, .int .i64 0]) (t := 23) ?hr ?_; (case hd => rfl); (case hg => rfl); (case hr => first | (go_simp; done) | (go_simp; rfl))
             intro gb170 hg w57 hbox hb
             have HS0_ := (hb.cell (World.block_lt_of_cell? _ _ (hHeld.1))).trans (hHeld.1)
             have HS1_ := (hb.cell (World.block_lt_of_cell? _ _ (hHeld.2))).trans (hHeld.2)
             have n0_ := zpS (Kd.R_below (by (with_reducible repeat (first | apply Kd.R_alloc | apply Kd.R_drewN | apply Kd.R_drew)); exact HO_4.out) hb)
             have n1_ := zpS (zgM (g := gb154) (o := .cells #[.int .i64 0, .int .i64 0, .int .i64 0, .int .i64 0, .int .i64 0, .int .i64 0] 34 (0, 0)) bk_ hb)
             have n2_ := zpS (zgM (g := gb163) (o := .cells #[.int .i64 t159, .int .i64 t160, .int .i64 t161] 23 (0, 0)) bk_ hb)
             have n3_ := (ns_ hb)
             have n4_ := zpS (hbox)
             have n5_ := (ng_ hg)
             have n6_ := (ng_ hg)
             have n7_ := zpS ((by rw [hg]; exact Nat.ne_of_lt (zmN (g := gb154) (o := .cells #[.int .i64 0, .int .i64 0, .int .i64 0, .int .i64 0, .int .i64 0, .int .i64 0] 34 (0, 0)) bk_) : gb154 ≠ gb170))
             have n8_ := zpS ((by rw [hg]; exact Nat.ne_of_gt (zmN (g := gb154) (o := .cells #[.int .i64 0, .int .i64 0, .int .i64 0, .int .i64 0, .int .i64 0, .int .i64 0] 34 (0, 0)) bk_) : gb170 ≠ gb154))
             have n9_ := zpS ((by rw [hg]; exact Nat.ne_of_lt (zmN (g := gb163) (o := .cells #[.int .i64 t159, .int .i64 t160, .int .i64 t161] 23 (0, 0)) bk_) : gb163 ≠ gb170))
             have n10_ := zpS ((by rw [hg]; exact Nat.ne_of_gt (zmN (g := gb163) (o := .cells #[.int .i64 t159, .int .i64 t160, .int .i64 t161] 23 (0, 0)) bk_) : gb170 ≠ gb163))
             clear HO_4
             clear BK154
             clear BK163
             clear HB
             have HO_4 := n0_
             have BK154 := n1_
             have BK163 := n2_
             have HB := n3_
             have BK170 := n4_
             have GW170 := n5_
             have GE170 := n6_
             have NB154_170 := n7_
             have NB170_154 := n8_
             have NB163_170 := n9_
             have NB170_163 := n10_
             clear n0_ n1_ n2_ n3_ n4_ n5_ n6_ n7_ n8_ n9_ n10_
             clear hb hbox hg
             refine hK.out _ _ ⟨HS0_, HS1_⟩ (fun hHeld => ?_)
             clear hK K
             refine zaN (a' := ?_) ?_ ?_
             rotate_left
             ·show Act.put _ (some 7) _ = _
              simp only [Act.put, List.setIfInBounds_toArray, List.set_cons_zero, List.set_cons_succ, zcN, ziJ]
              rfl
             exact zaN (by simp only [putAll, Act.put, List.setIfInBounds_toArray, List.set_cons_zero, List.set_cons_succ]) (hCont (gb170) _ ⟨hHeld, (by (with_reducible repeat (first | apply Kd.R_alloc | apply Kd.R_drewN | apply Kd.R_drew)); exact HO_4.out), bk_, bk_, bk_, GW170.out, GE170.out, NB154_170.out, NB170_154.out, NB163_170.out, NB170_163.out, bb_⟩)
            ·skip
             refine box_step ?hg (N := 7) ?hd (cs := #[.int .i64 0, .int .i64 0, .int .i64 0]) (t := 23) ?hr ?_; (case hd => rfl); (case hg => rfl); (case hr => first | (go_simp; done) | (go_simp; rfl))
             intro gb170 hg w56 hbox hb
             have HS0_ := (hb.cell (World.block_lt_of_cell? _ _ (hHeld.1))).trans (hHeld.1)
             have HS1_ := (hb.cell (World.block_lt_of_cell? _ _ (hHeld.2))).trans (hHeld.2)
             have n0_ := zpS (Kd.R_below (by (with_reducible repeat (first | apply Kd.R_alloc | apply Kd.R_drewN | apply Kd.R_drew)); exact HO_4.out) hb)
             have n1_ := zpS (zgM (g := gb154) (o := .cells #[.int .i64 0, .int .i64 0, .int .i64 0, .int .i64 0, .int .i64 0, .int .i64 0] 34 (0, 0)) bk_ hb)
             have n2_ := zpS (zgM (g := gb163) (o := .cells #[.int .i64 t159, .int .i64 t160, .int .i64 t161] 23 (0, 0)) bk_ hb)
             have n3_ := (ns_ hb)
             have n4_ := zpS (hbox)
             have n5_ := (ng_ hg)
             have n6_ := (ng_ hg)
             have n7_ := zpS ((by rw [hg]; exact Nat.ne_of_lt (zmN (g := gb154) (o := .cells #[.int .i64 0, .int .i64 0, .int .i64 0, .int .i64 0, .int .i64 0, .int .i64 0] 34 (0, 0)) bk_) : gb154 ≠ gb170))
             have n8_ := zpS ((by rw [hg]; exact Nat.ne_of_gt (zmN (g := gb154) (o := .cells #[.int .i64 0, .int .i64 0, .int .i64 0, .int .i64 0, .int .i64 0, .int .i64 0] 34 (0, 0)) bk_) : gb170 ≠ gb154))
             have n9_ := zpS ((by rw [hg]; exact Nat.ne_of_lt (zmN (g := gb163) (o := .cells #[.int .i64 t159, .int .i64 t160, .int .i64 t161] 23 (0, 0)) bk_) : gb163 ≠ gb170))
             have n10_ := zpS ((by rw [hg]; exact Nat.ne_of_gt (zmN (g := gb163) (o := .cells #[.int .i64 t159, .int .i64 t160, .int .i64 t161] 23 (0, 0)) bk_) : gb170 ≠ gb163))
             clear HO_4
             clear BK154
             clear BK163
             clear HB
             have HO_4 := n0_
             have BK154 := n1_
             have BK163 := n2_
             have HB := n3_
             have BK170 := n4_
             have GW170 := n5_
             have GE170 := n6_
             have NB154_170 := n7_
             have NB170_154 := n8_
             have NB163_170 := n9_
             have NB170_163 := n10_
             clear n0_ n1_ n2_ n3_ n4_ n5_ n6_ n7_ n8_ n9_ n10_
             clear hb hbox hg
             refine hK.out _ _ ⟨HS0_, HS1_⟩ (fun hHeld => ?_)
             clear hK K
             refine zaN (a' := ?_) ?_ ?_
             rotate_left
             ·show Act.put _ (some 7) _ = _
              simp only [Act.put, List.setIfInBounds_toArray, List.set_cons_zero, List.set_cons_succ, zcN, ziJ]
              rfl
             refine one_ (i := 9) (N := some 51) (bl_ 16 9215) rfl rfl (zeO HT_.out (by kernel_rfl)) (by decide) (fun K hK => ?_)
             refine goes_ Tryd.func7 (by kernel_rfl) rfl #[.string ((zzV ByteArray.empty t155 1).extract 0 ((ji25) : Int).toNat)] (by rfl) rfl rfl (by (try simp only [List.map_toArray, List.map_cons, List.map_nil]); first | done | (simp only [hji25]; rfl) | rfl | (simp only [List.length_drop, List.length_take]; rfl)) ?_
             with_reducible refine (zhO.calls kj2 ((zzV ByteArray.empty t155 1).extract 0 ((ji25) : Int).toNat) t166 t167 t168 false _ A28.out).mono ?_
             rintro e w57 ⟨rfl, hb⟩
             have HS0_ := (hb.cell (World.block_lt_of_cell? _ _ (hHeld.1))).trans (hHeld.1)
             have HS1_ := (hb.cell (World.block_lt_of_cell? _ _ (hHeld.2))).trans (hHeld.2)
             refine ⟨_, rfl, ?_⟩
             have n0_ := zpS (Kd.R_below (by (with_reducible repeat (first | apply Kd.R_alloc | apply Kd.R_drewN | apply Kd.R_drew)); exact HO_4.out) hb)
             have n1_ := zpS (zgM (g := gb154) (o := .cells #[.int .i64 0, .int .i64 0, .int .i64 0, .int .i64 0, .int .i64 0, .int .i64 0] 34 (0, 0)) bk_ hb)
             have n2_ := zpS (zgM (g := gb163) (o := .cells #[.int .i64 t159, .int .i64 t160, .int .i64 t161] 23 (0, 0)) bk_ hb)
             have n3_ := zpS (zgM (g := gb170) (o := .cells #[.int .i64 0, .int .i64 0, .int .i64 0] 23 (0, 0)) bk_ hb)
             have n4_ := (ns_ hb)
             clear HO_4
             clear BK154
             clear BK163
             clear BK170
             clear HB
             have HO_4 := n0_
             have BK154 := n1_
             have BK163 := n2_
             have BK170 := n3_
             have HB := n4_
             clear n0_ n1_ n2_ n3_ n4_
             (try clear hb)
             (try clear hb2)
             (try clear hk)
             (try clear hi)
             refine hK.out _ _ ⟨HS0_, HS1_⟩ (fun hHeld => ?_)
             clear hK K
             refine zaN (a' := ?_) ?_ ?_
             rotate_left
             ·show Act.put _ (some 51) _ = _
              simp only [Act.put, List.setIfInBounds_toArray, List.set_cons_zero, List.set_cons_succ, zcN, ziJ]
              rfl
             refine pu_ 10 (some 41) (bl_ 16 10239) ?_
             refine pu_ 11 (some 52) (bl_ 16 12287) ?_
             refine pu_ 12 (some 53) (bl_ 16 16383) ?_
             exact zaN (by simp only [putAll, Act.put, List.setIfInBounds_toArray, List.set_cons_zero, List.set_cons_succ]) (hCont (gb170) _ ⟨hHeld, (by (with_reducible repeat (first | apply Kd.R_alloc | apply Kd.R_drewN | apply Kd.R_drew)); exact HO_4.out), bk_, bk_, bk_, GW170.out, GE170.out, NB154_170.out, NB170_154.out, NB163_170.out, NB170_163.out, bb_⟩)
           rintro gb170 w58 ⟨hS_, h0_, h1_, h2_, h3_, h4_, h5_, h6_, h7_, h8_, h9_, h10_⟩
           have n0_ : Aside0 (Kd.R Kd.string 9 w58 w.heap.size (fun _ => True) (.slice (some ad158) t155.length co49) t155) := ⟨h0_⟩
           have n1_ : Aside0 (w58.heap[gb154]? = some (.cells #[.int .i64 0, .int .i64 0, .int .i64 0, .int .i64 0, .int .i64 0, .int .i64 0] 34 (0, 0))) := ⟨h1_⟩
           have n2_ : Aside0 (w58.heap[gb163]? = some (.cells #[.int .i64 t159, .int .i64 t160, .int .i64 t161] 23 (0, 0))) := ⟨h2_⟩
           have n3_ : Aside0 (w58.heap[gb170]? = some (.cells #[.int .i64 0, .int .i64 0, .int .i64 0] 23 (0, 0))) := ⟨h3_⟩
           have n4_ : Aside0 (w.heap.size ≤ gb170) := ⟨h4_⟩
           have n5_ : Aside0 (w.heap.size ≤ gb170) := ⟨h5_⟩
           have n6_ : Aside0 (gb154 ≠ gb170) := ⟨h6_⟩
           have n7_ : Aside0 (gb170 ≠ gb154) := ⟨h7_⟩
           have n8_ : Aside0 (gb163 ≠ gb170) := ⟨h8_⟩
           have n9_ : Aside0 (gb170 ≠ gb163) := ⟨h9_⟩
           have n10_ : Aside0 (Below w.heap.size w w58) := ⟨h10_⟩
           clear HO_4
           clear BK154
           clear BK163
           clear HB
           clear h0_ h1_ h2_ h3_ h4_ h5_ h6_ h7_ h8_ h9_ h10_
           have HO_4 := n0_
           have BK154 := n1_
           have BK163 := n2_
           have BK170 := n3_
           have GW170 := n4_
           have GE170 := n5_
           have NB154_170 := n6_
           have NB170_154 := n7_
           have NB163_170 := n8_
           have NB170_163 := n9_
           have HB := n10_
           clear n0_ n1_ n2_ n3_ n4_ n5_ n6_ n7_ n8_ n9_ n10_
           have hHeld : w58.cell? ⟨ad158.block, ad158.off + 1, none⟩ = some (.string (zzV ByteArray.empty t155 1)) ∧ w58.cell? ⟨ad158.block, ad158.off + 1, none⟩ = some (.string (zzV ByteArray.empty t155 1)) := hS_
           refine zaN (a' := ?_) ?_ ?_
           rotate_left
           ·simp only [putAll, Act.put, List.setIfInBounds_toArray, List.set_cons_zero, List.set_cons_succ]
            rfl
           refine one_ (i := 14) (N := none) (bl_ 16 32767) rfl rfl (zeO HT_.out (by kernel_rfl)) (by decide) (fun K hK => ?_)
           have hs59 : w58.cell? ⟨gb170, 0, none⟩ = some (.int .i64 0) := (zzS BK170.out 0).trans rfl
           have hfs59 := zjF BK170.out 0
           have hns59_0 := NB154_170.out
           have hns59_1 := NB163_170.out
           have hms59_0 := NB170_154.out
           have hms59_1 := NB170_163.out
           have hs60 : w58.cell? ⟨gb170, 1, none⟩ = some (.int .i64 0) := (zzS BK170.out 1).trans rfl
           have hfs60 := zjF BK170.out 1
           have hns60_0 := NB154_170.out
           have hns60_1 := NB163_170.out
           have hms60_0 := NB170_154.out
           have hms60_1 := NB170_163.out
           have hs61 : w58.cell? ⟨gb170, 2, none⟩ = some (.int .i64 0) := (zzS BK170.out 2).trans rfl
           have hfs61 := zjF BK170.out 2
           have hns61_0 := NB154_170.out
           have hns61_1 := NB163_170.out
           have hms61_0 := NB170_154.out
           have hms61_1 := NB170_163.out
           refine skip_ (w1 := ?_) (by rfl) rfl ?_ ?_
           rotate_left
           ·go_simp
            rfl
           refine hK.out _ _ ⟨((zgQ (p := ⟨gb170, _, none⟩) (by first | exact Kd.own_blk (Kd.R_ne HO_4.out BK170.out (by decide)) | (rw [zhT]; exact Kd.own_blk (Kd.R_ne HO_4.out BK170.out (by decide))) | (show (Addr.add _ _).block ≠ _; rw [zhT]; exact Kd.own_blk (Kd.R_ne HO_4.out BK170.out (by decide))) | (dsimp only; exact Kd.own_blk (Kd.R_ne HO_4.out BK170.out (by decide)))) _).trans (((zgQ (p := ⟨gb170, _, none⟩) (by first | exact Kd.own_blk (Kd.R_ne HO_4.out BK170.out (by decide)) | (rw [zhT]; exact Kd.own_blk (Kd.R_ne HO_4.out BK170.out (by decide))) | (show (Addr.add _ _).block ≠ _; rw [zhT]; exact Kd.own_blk (Kd.R_ne HO_4.out BK170.out (by decide))) | (dsimp only; exact Kd.own_blk (Kd.R_ne HO_4.out BK170.out (by decide)))) _).trans (((zgQ (p := ⟨gb170, _, none⟩) (by first | exact Kd.own_blk (Kd.R_ne HO_4.out BK170.out (by decide)) | (rw [zhT]; exact Kd.own_blk (Kd.R_ne HO_4.out BK170.out (by decide))) | (show (Addr.add _ _).block ≠ _; rw [zhT]; exact Kd.own_blk (Kd.R_ne HO_4.out BK170.out (by decide))) | (dsimp only; exact Kd.own_blk (Kd.R_ne HO_4.out BK170.out (by decide)))) _).trans (hHeld.1)))))), ((zgQ (p := ⟨gb170, _, none⟩) (by first | exact Kd.own_blk (Kd.R_ne HO_4.out BK170.out (by decide)) | (rw [zhT]; exact Kd.own_blk (Kd.R_ne HO_4.out BK170.out (by decide))) | (show (Addr.add _ _).block ≠ _; rw [zhT]; exact Kd.own_blk (Kd.R_ne HO_4.out BK170.out (by decide))) | (dsimp only; exact Kd.own_blk (Kd.R_ne HO_4.out BK170.out (by decide)))) _).trans (((zgQ (p := ⟨gb170, _, none⟩) (by first | exact Kd.own_blk (Kd.R_ne HO_4.out BK170.out (by decide)) | (rw [zhT]; exact Kd.own_blk (Kd.R_ne HO_4.out BK170.out (by decide))) | (show (Addr.add _ _).block ≠ _; rw [zhT]; exact Kd.own_blk (Kd.R_ne HO_4.out BK170.out (by decide))) | (dsimp only; exact Kd.own_blk (Kd.R_ne HO_4.out BK170.out (by decide)))) _).trans (((zgQ (p := ⟨gb170, _, none⟩) (by first | exact Kd.own_blk (Kd.R_ne HO_4.out BK170.out (by decide)) | (rw [zhT]; exact Kd.own_blk (Kd.R_ne HO_4.out BK170.out (by decide))) | (show (Addr.add _ _).block ≠ _; rw [zhT]; exact Kd.own_blk (Kd.R_ne HO_4.out BK170.out (by decide))) | (dsimp only; exact Kd.own_blk (Kd.R_ne HO_4.out BK170.out (by decide)))) _).trans (hHeld.2))))))⟩ (fun hHeld => ?_)
           clear hK K
           refine pu_ 15 (some 8) (bl_ 16 65535) ?_
           refine done_ (done_of HT_.out (by kernel_rfl)) ?_
           have hnb62 := NB154_170.out
           have hnc62 := NB170_154.out
           obtain ⟨hcz63_0, hcz63_1, hcz63_2, hcz63_3, hcz63_4, hcz63_5⟩ := cz6_ BK154.out
           obtain ⟨hfz63_0, hfz63_1, hfz63_2, hfz63_3, hfz63_4, hfz63_5⟩ := fz6_ BK154.out
           try go_wp2
           refine bodyPost_ret (zzB rfl _ _ gb154 34 #[.int .i64 0, .int .i64 0, .int .i64 0, .int .i64 0, .int .i64 0, .int .i64 0] (0, 0) _ rfl (by (with_reducible repeat (first | apply zuW | apply ztN | apply zqY)); refine zlL (cs := #[.int .i64 0, .int .i64 0, .int .i64 0, .int .i64 0, .int .i64 0, .int .i64 0]) ?_ 5 _ rfl; (with_reducible repeat (first | apply zuW | apply ztN | apply zqY)); refine zlL (cs := #[.int .i64 0, .int .i64 0, .int .i64 0, .int .i64 0, .int .i64 0, .int .i64 0]) ?_ 4 _ rfl; (with_reducible repeat (first | apply zuW | apply ztN | apply zqY)); refine zlL (cs := #[.int .i64 0, .int .i64 0, .int .i64 0, .int .i64 0, .int .i64 0, .int .i64 0]) ?_ 3 _ rfl; (with_reducible repeat (first | apply zuW | apply ztN | apply zqY)); refine zlL (cs := #[.int .i64 0, .int .i64 0, .int .i64 0, .int .i64 0, .int .i64 0, .int .i64 0]) ?_ 2 _ rfl; (with_reducible repeat (first | apply zuW | apply ztN | apply zqY)); refine zlL (cs := #[.int .i64 0, .int .i64 0, .int .i64 0, .int .i64 0, .int .i64 0, .int .i64 0]) ?_ 1 _ rfl; (with_reducible repeat (first | apply zuW | apply ztN | apply zqY)); refine zlL (cs := #[.int .i64 0, .int .i64 0, .int .i64 0, .int .i64 0, .int .i64 0, .int .i64 0]) ?_ 0 _ rfl; (with_reducible repeat (first | apply zuW | apply ztN | apply zqY)); refine znI ?_ NB154_170.out _; (with_reducible repeat (first | apply zuW | apply ztN | apply zqY)); refine znI ?_ NB154_170.out _; (with_reducible repeat (first | apply zuW | apply ztN | apply zqY)); refine znI ?_ NB154_170.out _; (with_reducible repeat (first | apply zuW | apply ztN | apply zqY)); exact BK154.out) Tryd.underlying34 rfl (by kernel_rfl)) rfl ?_
           exact ⟨by first | rfl | (simp [ziS, znJ] <;> rfl) | (simp only [← hji25]; first | rfl | (simp [ziS, znJ] <;> rfl)) | (simp [*, ziS, znJ] <;> rfl), bb_⟩
         ·replace c29 := Bool.eq_false_iff.mpr c29
          subst c29
          have H1 : (some (0, 0, 0, 0, 0, 0, false)) = some (r1, r2, r3, r4, r5, r6, r7) := by rw [if_neg (show ¬ (false = true) by decide)] at H; exact H
          clear H
          have H := H1
          clear H1
          simp only [Option.some.injEq, Prod.mk.injEq] at H
          obtain ⟨rfl, rfl, rfl, rfl, rfl, rfl, rfl⟩ := H
          obtain ⟨Ao64, co64, eo64⟩ := Kd.R_slice HO_4.out
          subst eo64
          have p158 : 0 ≤ (0 : Int) := (by omega)
          have q158 : 0 < (t155.length : Int) := dt_
          obtain ⟨ad158, e158, hx158_0⟩ := Kd.at_string (Kd.R_reads' HO_4.out).2.2 0 p158 q158
          cases e158
          have qi158 : (0 < t155.length) = True := eq_true (by omega)
          (try rw [show ((0 : Int)).toNat = 0 from rfl] at hx158_0)
          (try rw [Addr.add_zero'] at hx158_0)
          replace p158 := eq_true p158
          replace q158 := eq_true q158
          try go_wp2_with (first | ((with_reducible refine zgK (f := 7) rfl ?_); refine zqQ (some 38) rfl rfl Tryd.func7 (by kernel_rfl) rfl #[.string ((zzV ByteArray.empty t155 0).extract 1 (zzV ByteArray.empty t155 0).size)] rfl (by (try simp only [List.map_toArray, List.map_cons, List.map_nil]); first | done | rfl | (simp only [List.length_drop, List.length_take]; rfl)) ?_; (with_reducible refine (zhO.calls kj2 ((zzV ByteArray.empty t155 0).extract 1 (zzV ByteArray.empty t155 0).size) t159 t160 t161 false _ A23.out).mono ?_); rintro e w65 ⟨rfl, hb⟩; refine ⟨_, rfl, ?_⟩; have n0_ := zpS (Kd.R_below (by (with_reducible repeat (first | apply Kd.R_alloc | apply Kd.R_drewN | apply Kd.R_drew)); exact HO_4.out) hb); have n1_ := zpS (zgM (g := gb154) (o := .cells #[.int .i64 0, .int .i64 0, .int .i64 0, .int .i64 0, .int .i64 0, .int .i64 0] 34 (0, 0)) bk_ hb); have n2_ := (ns_ hb); clear HO_4; clear BK154; clear HB; have HO_4 := n0_; have BK154 := n1_; have HB := n2_; clear n0_ n1_ n2_; (try clear hb); (try clear hb2)) | ((with_reducible refine zpZ (N := 5) rfl ?_); (try (refine gate_guard (by rfl) ?_; dsimp only)); refine box_event ?hg (N := 5) ?hd (cs := #[.int .i64 0, .int .i64 0, .int .i64 0]) (t := 23) ?hr ?_; (case hd => rfl); (case hg => rfl); (case hr => first | (go_simp; done) | (go_simp; rfl)); intro gb163 hg w66 hbox hb; have n0_ := zpS (Kd.R_below (by (with_reducible repeat (first | apply Kd.R_alloc | apply Kd.R_drewN | apply Kd.R_drew)); exact HO_4.out) hb); have n1_ := zpS (zgM (g := gb154) (o := .cells #[.int .i64 0, .int .i64 0, .int .i64 0, .int .i64 0, .int .i64 0, .int .i64 0] 34 (0, 0)) bk_ hb); have n2_ := (ns_ hb); have n3_ := zpS (hbox); have n4_ := (ng_ hg); have n5_ := n4_; have n6_ := zpS ((by rw [hg]; exact Nat.ne_of_lt (zmN (g := gb154) (o := .cells #[.int .i64 0, .int .i64 0, .int .i64 0, .int .i64 0, .int .i64 0, .int .i64 0] 34 (0, 0)) bk_) : gb154 ≠ gb163)); have n7_ := zpS ((by rw [hg]; exact Nat.ne_of_gt (zmN (g := gb154) (o := .cells #[.int .i64 0, .int .i64 0, .int .i64 0, .int .i64 0, .int .i64 0, .int .i64 0] 34 (0, 0)) bk_) : gb163 ≠ gb154)); clear HO_4; clear BK154; clear HB; have HO_4 := n0_; have BK154 := n1_; have HB := n2_; have BK163 := n3_; have GW163 := n4_; have GE163 := n5_; have NB154_163 := n6_; have NB163_154 := n7_; clear n0_ n1_ n2_ n3_ n4_ n5_ n6_ n7_; clear hb hbox hg; have hnb67 := NB163_154.out; have hnc67 := NB154_163.out; obtain ⟨hcz68_0, hcz68_1, hcz68_2⟩ := zdT BK163.out; obtain ⟨hfz68_0, hfz68_1, hfz68_2⟩ := zqD BK163.out))
          have n0_ : Aside0 (Kd.R Kd.string 9 (((w66.setCell ⟨gb163, 0, none⟩ (.int .i64 t159)).setCell ⟨gb163, 1, none⟩ (.int .i64 t160)).setCell ⟨gb163, 2, none⟩ (.int .i64 t161)) w.heap.size (fun _ => True) (.slice (some ad158) t155.length co64) t155) := ⟨by (with_reducible repeat (first | apply Kd.R_alloc | apply Kd.R_drewN | apply Kd.R_drew)); exact Kd.R_mono (Kd.R_far (p := ⟨gb163, 2, none⟩) (Kd.R_far (p := ⟨gb163, 1, none⟩) (Kd.R_far (p := ⟨gb163, 0, none⟩) (Kd.R_types HO_4.out BK163.out (by decide)) (fun _ hk => hk.2) (.int .i64 t159)) (fun _ hk => hk.2) (.int .i64 t160)) (fun _ hk => hk.2) (.int .i64 t161)) (fun _ hk => trivial)⟩
          have n1_ : Aside0 ((((w66.setCell ⟨gb163, 0, none⟩ (.int .i64 t159)).setCell ⟨gb163, 1, none⟩ (.int .i64 t160)).setCell ⟨gb163, 2, none⟩ (.int .i64 t161)).heap[gb154]? = some (.cells #[.int .i64 0, .int .i64 0, .int .i64 0, .int .i64 0, .int .i64 0, .int .i64 0] 34 (0, 0))) := ⟨by (with_reducible repeat (first | apply zuW | apply ztN | apply zqY)); refine znI ?_ NB154_163.out _; (with_reducible repeat (first | apply zuW | apply ztN | apply zqY)); refine znI ?_ NB154_163.out _; (with_reducible repeat (first | apply zuW | apply ztN | apply zqY)); refine znI ?_ NB154_163.out _; (with_reducible repeat (first | apply zuW | apply ztN | apply zqY)); exact BK154.out⟩
          have n2_ : Aside0 ((((w66.setCell ⟨gb163, 0, none⟩ (.int .i64 t159)).setCell ⟨gb163, 1, none⟩ (.int .i64 t160)).setCell ⟨gb163, 2, none⟩ (.int .i64 t161)).heap[gb163]? = some (.cells #[.int .i64 t159, .int .i64 t160, .int .i64 t161] 23 (0, 0))) := ⟨by (with_reducible repeat (first | apply zuW | apply ztN | apply zqY)); refine zlL (cs := #[.int .i64 t159, .int .i64 t160, .int .i64 0]) ?_ 2 _ rfl; (with_reducible repeat (first | apply zuW | apply ztN | apply zqY)); refine zlL (cs := #[.int .i64 t159, .int .i64 0, .int .i64 0]) ?_ 1 _ rfl; (with_reducible repeat (first | apply zuW | apply ztN | apply zqY)); refine zlL (cs := #[.int .i64 0, .int .i64 0, .int .i64 0]) ?_ 0 _ rfl; (with_reducible repeat (first | apply zuW | apply ztN | apply zqY)); exact BK163.out⟩
          have n3_ : Aside0 (Below w.heap.size w (((w66.setCell ⟨gb163, 0, none⟩ (.int .i64 t159)).setCell ⟨gb163, 1, none⟩ (.int .i64 t160)).setCell ⟨gb163, 2, none⟩ (.int .i64 t161))) := ⟨bb_⟩
          (try clear HO_4)
          (try clear BK154)
          (try clear BK163)
          (try clear HB)
          generalize (((w66.setCell ⟨gb163, 0, none⟩ (.int .i64 t159)).setCell ⟨gb163, 1, none⟩ (.int .i64 t160)).setCell ⟨gb163, 2, none⟩ (.int .i64 t161)) = w69 at n0_ n1_ n2_ n3_ ⊢
          have HO_4 := n0_
          have BK154 := n1_
          have BK163 := n2_
          have HB := n3_
          clear n0_ n1_ n2_ n3_
          have n0_ := zpS (Kd.R_drew HO_4.out)
          have n1_ := zpS (ztN BK154.out)
          have n2_ := zpS (ztN BK163.out)
          have n3_ := zpS (zvF HB.out)
          clear HO_4
          clear BK154
          clear BK163
          clear HB
          have HO_4 := n0_
          have BK154 := n1_
          have BK163 := n2_
          have HB := n3_
          clear n0_ n1_ n2_ n3_
          have p164 : 0 ≤ (1 : Int) := (by omega)
          have q164 : 1 < (t155.length : Int) := dt_
          obtain ⟨ad164, e164, hx164_0⟩ := Kd.at_string (Kd.R_reads' HO_4.out).2.2 1 p164 q164
          obtain rfl : ad158 = ad164 := (by injection e164)
          (try simp only [show (1 : Int).toNat = 1 from rfl, Nat.reduceMul, Nat.reduceEqDiff, Go.Addr.add, ↓reduceIte] at hx164_0)
          have qi164 : (1 < t155.length) = True := eq_true (by omega)
          (try rw [show ((1 : Int)).toNat = 1 from rfl] at hx164_0)
          replace p164 := eq_true p164
          replace q164 := eq_true q164
          have p165 : 0 ≤ (1 : Int) := (by omega)
          have q165 : 1 < (t155.length : Int) := dt_
          obtain ⟨ad165, e165, hx165_0⟩ := Kd.at_string (Kd.R_reads' HO_4.out).2.2 1 p165 q165
          obtain rfl : ad158 = ad165 := (by injection e165)
          (try simp only [show (1 : Int).toNat = 1 from rfl, Nat.reduceMul, Nat.reduceEqDiff, Go.Addr.add, ↓reduceIte] at hx165_0)
          have qi165 : (1 < t155.length) = True := eq_true (by omega)
          (try rw [show ((1 : Int)).toNat = 1 from rfl] at hx165_0)
          replace p165 := eq_true p165
          replace q165 := eq_true q165
          refine start_ (n := 16) (S := fun w' => w'.cell? ⟨ad158.block, ad158.off + 1, none⟩ = some (.string (zzV ByteArray.empty t155 1)) ∧ w'.cell? ⟨ad158.block, ad158.off + 1, none⟩ = some (.string (zzV ByteArray.empty t155 1))) (ds := []) #[false, false, false, false, false, false, false, false, false, false, false, false, false, false, false, false] (by kernel_rfl) rfl rfl ⟨hx164_0, hx165_0⟩ (fun hHeld => ?_); refine zwI zkO.tab5 zkO.bits5 (fun HT_ HW_ => ?_)
          generalize w69.drew = w70 at HO_4 BK154 BK163 HB hx164_0 hx165_0 hHeld ⊢
          refine pu_ 0 (some 42) (bl_ 16 1) ?_
          refine pu_ 1 (some 43) (bl_ 16 3) ?_
          refine pu_ 3 (some 45) (bl_ 16 11) ?_
          refine pu_ 4 (some 46) (bl_ 16 27) ?_
          refine tk2_ 2 (some 44) (bl_ 16 31) hHeld ?_
          refine tk2_ 5 (some 47) (bl_ 16 63) hHeld ?_
          refine pu_ 6 (some 48) (bl_ 16 127) ?_
          refine pu_ 7 (some 49) (bl_ 16 255) ?_
          refine pu_ 8 (some 50) (bl_ 16 511) ?_
          refine join_ (σ := Nat) 2 #[true, true, true, true, true, true, true, true, true, true, true, true, true, true, false, false] (fun s_ => [(51, .tuple #[.agg #[.int .i64 t166, .int .i64 t167, .int .i64 t168], .bool t169]), (7, .pointer (some ⟨s_, 0, none⟩)), (41, .tuple #[.agg #[.int .i64 t166, .int .i64 t167, .int .i64 t168], .bool t169]), (52, .agg #[.int .i64 t166, .int .i64 t167, .int .i64 t168]), (53, .bool t169)]) (fun s_ w' => (w'.cell? ⟨ad158.block, ad158.off + 1, none⟩ = some (.string (zzV ByteArray.empty t155 1)) ∧ w'.cell? ⟨ad158.block, ad158.off + 1, none⟩ = some (.string (zzV ByteArray.empty t155 1))) ∧ (Kd.R Kd.string 9 w' w.heap.size (fun _ => True) (.slice (some ad158) t155.length co64) t155) ∧ (w'.heap[gb154]? = some (.cells #[.int .i64 0, .int .i64 0, .int .i64 0, .int .i64 0, .int .i64 0, .int .i64 0] 34 (0, 0))) ∧ (w'.heap[gb163]? = some (.cells #[.int .i64 t159, .int .i64 t160, .int .i64 t161] 23 (0, 0))) ∧ (w'.heap[s_]? = some (.cells #[.int .i64 0, .int .i64 0, .int .i64 0] 23 (0, 0))) ∧ (w.heap.size ≤ s_) ∧ (w.heap.size ≤ s_) ∧ (gb154 ≠ s_) ∧ (s_ ≠ gb154) ∧ (gb163 ≠ s_) ∧ (s_ ≠ gb163) ∧ (Below w.heap.size w w')) ?_ ?_
          rotate_left
          ·intro hCont
           refine two_ (i := 9) (j := 13) (Ni := some 51) (Nj := some 7) (bl_ 16 1023) (bl_ 16 8703) rfl rfl rfl rfl (two_of HT_.out (by kernel_rfl)) (by decide) (by decide) (fun K hK => ?_) (fun K hK => ?_)
           ·skip
            refine goes_ Tryd.func7 (by kernel_rfl) rfl #[.string ((zzV ByteArray.empty t155 1).extract 0 ((ji25) : Int).toNat)] (by rfl) rfl rfl (by (try simp only [List.map_toArray, List.map_cons, List.map_nil]); first | done | (simp only [hji25]; rfl) | rfl | (simp only [List.length_drop, List.length_take]; rfl)) ?_
            with_reducible refine (zhO.calls kj2 ((zzV ByteArray.empty t155 1).extract 0 ((ji25) : Int).toNat) t166 t167 t168 t169 _ A28.out).mono ?_
            rintro e w71 ⟨rfl, hb⟩
            have HS0_ := (hb.cell (World.block_lt_of_cell? _ _ (hHeld.1))).trans (hHeld.1)
            have HS1_ := (hb.cell (World.block_lt_of_cell? _ _ (hHeld.2))).trans (hHeld.2)
            refine ⟨_, rfl, ?_⟩
            have n0_ := zpS (Kd.R_below (by (with_reducible repeat (first | apply Kd.R_alloc | apply Kd.R_drewN | apply Kd.R_drew)); exact HO_4.out) hb)
            have n1_ := zpS (zgM (g := gb154) (o := .cells #[.int .i64 0, .int .i64 0, .int .i64 0, .int .i64 0, .int .i64 0, .int .i64 0] 34 (0, 0)) bk_ hb)
            have n2_ := zpS (zgM (g := gb163) (o := .cells #[.int .i64 t159, .int .i64 t160, .int .i64 t161] 23 (0, 0)) bk_ hb)
            have n3_ := (ns_ hb)
            clear HO_4
            clear BK154
            clear BK163
            clear HB
            have HO_4 := n0_
            have BK154 := n1_
            have BK163 := n2_
            have HB := n3_
            clear n0_ n1_ n2_ n3_
            (try clear hb)
            (try clear hb2)
            (try clear hk)
            (try clear hi)
            refine hK.out _ _ ⟨HS0_, HS1_⟩ (fun hHeld => ?_)
            clear hK K
            refine zaN (a' := ?_) ?_ ?_
            rotate_left
            ·show Act.put _ (some 51) _ = _
             simp only [Act.put, List.setIfInBounds_toArray, List.set_cons_zero, List.set_cons_succ, zcN, ziJ]
             rfl
            refine pu_ 10 (some 41) (bl_ 16 2047) ?_
            refine pu_ 11 (some 52) (bl_ 16 4095) ?_
            refine pu_ 12 (some 53) (bl_ 16 8191) ?_
            refine one_ (i := 13) (N := some 7) (bl_ 16 16383) rfl rfl (zeO HT_.out (by kernel_rfl)) (by decide) (fun K hK => ?_)
            refine box_step ?hg (N := 7) ?hd (cs := #[.int .i64 0, .int .i64 0, .int .i64 0]) (t := 23) ?hr ?_; (case hd => rfl); (case hg => rfl); (case hr => first | (go_simp; done) | (go_simp; rfl))
            intro gb170 hg w72 hbox hb
            have HS0_ := (hb.cell (World.block_lt_of_cell? _ _ (hHeld.1))).trans (hHeld.1)
            have HS1_ := (hb.cell (World.block_lt_of_cell? _ _ (hHeld.2))).trans (hHeld.2)
            have n0_ := zpS (Kd.R_below (by (with_reducible repeat (first | apply Kd.R_alloc | apply Kd.R_drewN | apply Kd.R_drew)); exact HO_4.out) hb)
            have n1_ := zpS (zgM (g := gb154) (o := .cells #[.int .i64 0, .int .i64 0, .int .i64 0, .int .i64 0, .int .i64 0, .int .i64 0] 34 (0, 0)) bk_ hb)
            have n2_ := zpS (zgM (g := gb163) (o := .cells #[.int .i64 t159, .int .i64 t160, .int .i64 t161] 23 (0, 0)) bk_ hb)
            have n3_ := (ns_ hb)
            have n4_ := zpS (hbox)
            have n5_ := (ng_ hg)
            have n6_ := (ng_ hg)
            have n7_ := zpS ((by rw [hg]; exact Nat.ne_of_lt (zmN (g := gb154) (o := .cells #[.int .i64 0, .int .i64 0, .int .i64 0, .int .i64 0, .int .i64 0, .int .i64 0] 34 (0, 0)) bk_) : gb154 ≠ gb170))
            have n8_ := zpS ((by rw [hg]; exact Nat.ne_of_gt (zmN (g := gb154) (o := .cells #[.int .i64 0, .int .i64 0, .int .i64 0, .int .i64 0, .int .i64 0, .int .i64 0] 34 (0, 0)) bk_) : gb170 ≠ gb154))
            have n9_ := zpS ((by rw [hg]; exact Nat.ne_of_lt (zmN (g := gb163) (o := .cells #[.int .i64 t159, .int .i64 t160, .int .i64 t161] 23 (0, 0)) bk_) : gb163 ≠ gb170))
            have n10_ := zpS ((by rw [hg]; exact Nat.ne_of_gt (zmN (g := gb163) (o := .cells #[.int .i64 t159, .int .i64 t160, .int .i64 t161] 23 (0, 0)) bk_) : gb170 ≠ gb163))
            clear HO_4
            clear BK154
            clear BK163
            clear HB
            have HO_4 := n0_
            have BK154 := n1_
            have BK163 := n2_
            have HB := n3_
            have BK170 := n4_
            have GW170 := n5_
            have GE170 := n6_
            have NB154_170 := n7_
            have NB170_154 := n8_
            have NB163_170 := n9_
            have NB170_163 := n10_
            clear n0_ n1_ n2_ n3_ n4_ n5_ n6_ n7_ n8_ n9_ n10_
            clear hb hbox hg
            refine hK.out _ _ ⟨HS0_, HS1_⟩ (fun hHeld => ?_)
            clear hK K
            refine zaN (a' := ?_) ?_ ?_
            rotate_left
            ·show Act.put _ (some 7) _ = _
             simp only [Act.put, List.setIfInBounds_toArray, List.set_cons_zero, List.set_cons_succ, zcN, ziJ]
             rfl
            exact zaN (by simp only [putAll, Act.put, List.setIfInBounds_toArray, List.set_cons_zero, List.set_cons_succ]) (hCont (gb170) _ ⟨hHeld, (by (with_reducible repeat (first | apply Kd.R_alloc | apply Kd.R_drewN | apply Kd.R_drew)); exact HO_4.out), bk_, bk_, bk_, GW170.out, GE170.out, NB154_170.out, NB170_154.out, NB163_170.out, NB170_163.out, bb_⟩)
           ·skip
            refine box_step ?hg (N := 7) ?hd (cs := #[.int .i64 0, .int .i64 0, .int .i64 0]) (t := 23) ?hr ?_; (case hd => rfl); (case hg => rfl); (case hr => first | (go_simp; done) | (go_simp; rfl))
            intro gb170 hg w71 hbox hb
            have HS0_ := (hb.cell (World.block_lt_of_cell? _ _ (hHeld.1))).trans (hHeld.1)
            have HS1_ := (hb.cell (World.block_lt_of_cell? _ _ (hHeld.2))).trans (hHeld.2)
            have n0_ := zpS (Kd.R_below (by (with_reducible repeat (first | apply Kd.R_alloc | apply Kd.R_drewN | apply Kd.R_drew)); exact HO_4.out) hb)
            have n1_ := zpS (zgM (g := gb154) (o := .cells #[.int .i64 0, .int .i64 0, .int .i64 0, .int .i64 0, .int .i64 0, .int .i64 0] 34 (0, 0)) bk_ hb)
            have n2_ := zpS (zgM (g := gb163) (o := .cells #[.int .i64 t159, .int .i64 t160, .int .i64 t161] 23 (0, 0)) bk_ hb)
            have n3_ := (ns_ hb)
            have n4_ := zpS (hbox)
            have n5_ := (ng_ hg)
            have n6_ := (ng_ hg)
            have n7_ := zpS ((by rw [hg]; exact Nat.ne_of_lt (zmN (g := gb154) (o := .cells #[.int .i64 0, .int .i64 0, .int .i64 0, .int .i64 0, .int .i64 0, .int .i64 0] 34 (0, 0)) bk_) : gb154 ≠ gb170))
            have n8_ := zpS ((by rw [hg]; exact Nat.ne_of_gt (zmN (g := gb154) (o := .cells #[.int .i64 0, .int .i64 0, .int .i64 0, .int .i64 0, .int .i64 0, .int .i64 0] 34 (0, 0)) bk_) : gb170 ≠ gb154))
            have n9_ := zpS ((by rw [hg]; exact Nat.ne_of_lt (zmN (g := gb163) (o := .cells #[.int .i64 t159, .int .i64 t160, .int .i64 t161] 23 (0, 0)) bk_) : gb163 ≠ gb170))
            have n10_ := zpS ((by rw [hg]; exact Nat.ne_of_gt (zmN (g := gb163) (o := .cells #[.int .i64 t159, .int .i64 t160, .int .i64 t161] 23 (0, 0)) bk_) : gb170 ≠ gb163))
            clear HO_4
            clear BK154
            clear BK163
            clear HB
            have HO_4 := n0_
            have BK154 := n1_
            have BK163 := n2_
            have HB := n3_
            have BK170 := n4_
            have GW170 := n5_
            have GE170 := n6_
            have NB154_170 := n7_
            have NB170_154 := n8_
            have NB163_170 := n9_
            have NB170_163 := n10_
            clear n0_ n1_ n2_ n3_ n4_ n5_ n6_ n7_ n8_ n9_ n10_
            clear hb hbox hg
            refine hK.out _ _ ⟨HS0_, HS1_⟩ (fun hHeld => ?_)
            clear hK K
            refine zaN (a' := ?_) ?_ ?_
            rotate_left
            ·show Act.put _ (some 7) _ = _
             simp only [Act.put, List.setIfInBounds_toArray, List.set_cons_zero, List.set_cons_succ, zcN, ziJ]
             rfl
            refine one_ (i := 9) (N := some 51) (bl_ 16 9215) rfl rfl (zeO HT_.out (by kernel_rfl)) (by decide) (fun K hK => ?_)
            refine goes_ Tryd.func7 (by kernel_rfl) rfl #[.string ((zzV ByteArray.empty t155 1).extract 0 ((ji25) : Int).toNat)] (by rfl) rfl rfl (by (try simp only [List.map_toArray, List.map_cons, List.map_nil]); first | done | (simp only [hji25]; rfl) | rfl | (simp only [List.length_drop, List.length_take]; rfl)) ?_
            with_reducible refine (zhO.calls kj2 ((zzV ByteArray.empty t155 1).extract 0 ((ji25) : Int).toNat) t166 t167 t168 t169 _ A28.out).mono ?_
            rintro e w72 ⟨rfl, hb⟩
            have HS0_ := (hb.cell (World.block_lt_of_cell? _ _ (hHeld.1))).trans (hHeld.1)
            have HS1_ := (hb.cell (World.block_lt_of_cell? _ _ (hHeld.2))).trans (hHeld.2)
            refine ⟨_, rfl, ?_⟩
            have n0_ := zpS (Kd.R_below (by (with_reducible repeat (first | apply Kd.R_alloc | apply Kd.R_drewN | apply Kd.R_drew)); exact HO_4.out) hb)
            have n1_ := zpS (zgM (g := gb154) (o := .cells #[.int .i64 0, .int .i64 0, .int .i64 0, .int .i64 0, .int .i64 0, .int .i64 0] 34 (0, 0)) bk_ hb)
            have n2_ := zpS (zgM (g := gb163) (o := .cells #[.int .i64 t159, .int .i64 t160, .int .i64 t161] 23 (0, 0)) bk_ hb)
            have n3_ := zpS (zgM (g := gb170) (o := .cells #[.int .i64 0, .int .i64 0, .int .i64 0] 23 (0, 0)) bk_ hb)
            have n4_ := (ns_ hb)
            clear HO_4
            clear BK154
            clear BK163
            clear BK170
            clear HB
            have HO_4 := n0_
            have BK154 := n1_
            have BK163 := n2_
            have BK170 := n3_
            have HB := n4_
            clear n0_ n1_ n2_ n3_ n4_
            (try clear hb)
            (try clear hb2)
            (try clear hk)
            (try clear hi)
            refine hK.out _ _ ⟨HS0_, HS1_⟩ (fun hHeld => ?_)
            clear hK K
            refine zaN (a' := ?_) ?_ ?_
            rotate_left
            ·show Act.put _ (some 51) _ = _
             simp only [Act.put, List.setIfInBounds_toArray, List.set_cons_zero, List.set_cons_succ, zcN, ziJ]
             rfl
            refine pu_ 10 (some 41) (bl_ 16 10239) ?_
            refine pu_ 11 (some 52) (bl_ 16 12287) ?_
            refine pu_ 12 (some 53) (bl_ 16 16383) ?_
            exact zaN (by simp only [putAll, Act.put, List.setIfInBounds_toArray, List.set_cons_zero, List.set_cons_succ]) (hCont (gb170) _ ⟨hHeld, (by (with_reducible repeat (first | apply Kd.R_alloc | apply Kd.R_drewN | apply Kd.R_drew)); exact HO_4.out), bk_, bk_, bk_, GW170.out, GE170.out, NB154_170.out, NB170_154.out, NB163_170.out, NB170_163.out, bb_⟩)
          rintro gb170 w73 ⟨hS_, h0_, h1_, h2_, h3_, h4_, h5_, h6_, h7_, h8_, h9_, h10_⟩
          have n0_ : Aside0 (Kd.R Kd.string 9 w73 w.heap.size (fun _ => True) (.slice (some ad158) t155.length co64) t155) := ⟨h0_⟩
          have n1_ : Aside0 (w73.heap[gb154]? = some (.cells #[.int .i64 0, .int .i64 0, .int .i64 0, .int .i64 0, .int .i64 0, .int .i64 0] 34 (0, 0))) := ⟨h1_⟩
          have n2_ : Aside0 (w73.heap[gb163]? = some (.cells #[.int .i64 t159, .int .i64 t160, .int .i64 t161] 23 (0, 0))) := ⟨h2_⟩
          have n3_ : Aside0 (w73.heap[gb170]? = some (.cells #[.int .i64 0, .int .i64 0, .int .i64 0] 23 (0, 0))) := ⟨h3_⟩
          have n4_ : Aside0 (w.heap.size ≤ gb170) := ⟨h4_⟩
          have n5_ : Aside0 (w.heap.size ≤ gb170) := ⟨h5_⟩
          have n6_ : Aside0 (gb154 ≠ gb170) := ⟨h6_⟩
          have n7_ : Aside0 (gb170 ≠ gb154) := ⟨h7_⟩
          have n8_ : Aside0 (gb163 ≠ gb170) := ⟨h8_⟩
          have n9_ : Aside0 (gb170 ≠ gb163) := ⟨h9_⟩
          have n10_ : Aside0 (Below w.heap.size w w73) := ⟨h10_⟩
          clear HO_4
          clear BK154
          clear BK163
          clear HB
          clear h0_ h1_ h2_ h3_ h4_ h5_ h6_ h7_ h8_ h9_ h10_
          have HO_4 := n0_
          have BK154 := n1_
          have BK163 := n2_
          have BK170 := n3_
          have GW170 := n4_
          have GE170 := n5_
          have NB154_170 := n6_
          have NB170_154 := n7_
          have NB163_170 := n8_
          have NB170_163 := n9_
          have HB := n10_
          clear n0_ n1_ n2_ n3_ n4_ n5_ n6_ n7_ n8_ n9_ n10_
          have hHeld : w73.cell? ⟨ad158.block, ad158.off + 1, none⟩ = some (.string (zzV ByteArray.empty t155 1)) ∧ w73.cell? ⟨ad158.block, ad158.off + 1, none⟩ = some (.string (zzV ByteArray.empty t155 1)) := hS_
          refine zaN (a' := ?_) ?_ ?_
          rotate_left
          ·simp only [putAll, Act.put, List.setIfInBounds_toArray, List.set_cons_zero, List.set_cons_succ]
           rfl
          refine one_ (i := 14) (N := none) (bl_ 16 32767) rfl rfl (zeO HT_.out (by kernel_rfl)) (by decide) (fun K hK => ?_)
          have hs74 : w73.cell? ⟨gb170, 0, none⟩ = some (.int .i64 0) := (zzS BK170.out 0).trans rfl
          have hfs74 := zjF BK170.out 0
          have hns74_0 := NB154_170.out
          have hns74_1 := NB163_170.out
          have hms74_0 := NB170_154.out
          have hms74_1 := NB170_163.out
          have hs75 : w73.cell? ⟨gb170, 1, none⟩ = some (.int .i64 0) := (zzS BK170.out 1).trans rfl
          have hfs75 := zjF BK170.out 1
          have hns75_0 := NB154_170.out
          have hns75_1 := NB163_170.out
          have hms75_0 := NB170_154.out
          have hms75_1 := NB170_163.out
          have hs76 : w73.cell? ⟨gb170, 2, none⟩ = some (.int .i64 0) := (zzS BK170.out 2).trans rfl
          have hfs76 := zjF BK170.out 2
          have hns76_0 := NB154_170.out
          have hns76_1 := NB163_170.out
          have hms76_0 := NB170_154.out
          have hms76_1 := NB170_163.out
          refine skip_ (w1 := ?_) (by rfl) rfl ?_ ?_
          rotate_left
          ·go_simp
           rfl
          refine hK.out _ _ ⟨((zgQ (p := ⟨gb170, _, none⟩) (by first | exact Kd.own_blk (Kd.R_ne HO_4.out BK170.out (by decide)) | (rw [zhT]; exact Kd.own_blk (Kd.R_ne HO_4.out BK170.out (by decide))) | (show (Addr.add _ _).block ≠ _; rw [zhT]; exact Kd.own_blk (Kd.R_ne HO_4.out BK170.out (by decide))) | (dsimp only; exact Kd.own_blk (Kd.R_ne HO_4.out BK170.out (by decide)))) _).trans (((zgQ (p := ⟨gb170, _, none⟩) (by first | exact Kd.own_blk (Kd.R_ne HO_4.out BK170.out (by decide)) | (rw [zhT]; exact Kd.own_blk (Kd.R_ne HO_4.out BK170.out (by decide))) | (show (Addr.add _ _).block ≠ _; rw [zhT]; exact Kd.own_blk (Kd.R_ne HO_4.out BK170.out (by decide))) | (dsimp only; exact Kd.own_blk (Kd.R_ne HO_4.out BK170.out (by decide)))) _).trans (((zgQ (p := ⟨gb170, _, none⟩) (by first | exact Kd.own_blk (Kd.R_ne HO_4.out BK170.out (by decide)) | (rw [zhT]; exact Kd.own_blk (Kd.R_ne HO_4.out BK170.out (by decide))) | (show (Addr.add _ _).block ≠ _; rw [zhT]; exact Kd.own_blk (Kd.R_ne HO_4.out BK170.out (by decide))) | (dsimp only; exact Kd.own_blk (Kd.R_ne HO_4.out BK170.out (by decide)))) _).trans (hHeld.1)))))), ((zgQ (p := ⟨gb170, _, none⟩) (by first | exact Kd.own_blk (Kd.R_ne HO_4.out BK170.out (by decide)) | (rw [zhT]; exact Kd.own_blk (Kd.R_ne HO_4.out BK170.out (by decide))) | (show (Addr.add _ _).block ≠ _; rw [zhT]; exact Kd.own_blk (Kd.R_ne HO_4.out BK170.out (by decide))) | (dsimp only; exact Kd.own_blk (Kd.R_ne HO_4.out BK170.out (by decide)))) _).trans (((zgQ (p := ⟨gb170, _, none⟩) (by first | exact Kd.own_blk (Kd.R_ne HO_4.out BK170.out (by decide)) | (rw [zhT]; exact Kd.own_blk (Kd.R_ne HO_4.out BK170.out (by decide))) | (show (Addr.add _ _).block ≠ _; rw [zhT]; exact Kd.own_blk (Kd.R_ne HO_4.out BK170.out (by decide))) | (dsimp only; exact Kd.own_blk (Kd.R_ne HO_4.out BK170.out (by decide)))) _).trans (((zgQ (p := ⟨gb170, _, none⟩) (by first | exact Kd.own_blk (Kd.R_ne HO_4.out BK170.out (by decide)) | (rw [zhT]; exact Kd.own_blk (Kd.R_ne HO_4.out BK170.out (by decide))) | (show (Addr.add _ _).block ≠ _; rw [zhT]; exact Kd.own_blk (Kd.R_ne HO_4.out BK170.out (by decide))) | (dsimp only; exact Kd.own_blk (Kd.R_ne HO_4.out BK170.out (by decide)))) _).trans (hHeld.2))))))⟩ (fun hHeld => ?_)
          clear hK K
          refine pu_ 15 (some 8) (bl_ 16 65535) ?_
          refine done_ (done_of HT_.out (by kernel_rfl)) ?_
          have hnb77 := NB154_170.out
          have hnc77 := NB170_154.out
          obtain ⟨hcz78_0, hcz78_1, hcz78_2, hcz78_3, hcz78_4, hcz78_5⟩ := cz6_ BK154.out
          obtain ⟨hfz78_0, hfz78_1, hfz78_2, hfz78_3, hfz78_4, hfz78_5⟩ := fz6_ BK154.out
          try go_wp2
          refine bodyPost_ret (zzB rfl _ _ gb154 34 #[.int .i64 0, .int .i64 0, .int .i64 0, .int .i64 0, .int .i64 0, .int .i64 0] (0, 0) _ rfl (by (with_reducible repeat (first | apply zuW | apply ztN | apply zqY)); refine zlL (cs := #[.int .i64 0, .int .i64 0, .int .i64 0, .int .i64 0, .int .i64 0, .int .i64 0]) ?_ 5 _ rfl; (with_reducible repeat (first | apply zuW | apply ztN | apply zqY)); refine zlL (cs := #[.int .i64 0, .int .i64 0, .int .i64 0, .int .i64 0, .int .i64 0, .int .i64 0]) ?_ 4 _ rfl; (with_reducible repeat (first | apply zuW | apply ztN | apply zqY)); refine zlL (cs := #[.int .i64 0, .int .i64 0, .int .i64 0, .int .i64 0, .int .i64 0, .int .i64 0]) ?_ 3 _ rfl; (with_reducible repeat (first | apply zuW | apply ztN | apply zqY)); refine zlL (cs := #[.int .i64 0, .int .i64 0, .int .i64 0, .int .i64 0, .int .i64 0, .int .i64 0]) ?_ 2 _ rfl; (with_reducible repeat (first | apply zuW | apply ztN | apply zqY)); refine zlL (cs := #[.int .i64 0, .int .i64 0, .int .i64 0, .int .i64 0, .int .i64 0, .int .i64 0]) ?_ 1 _ rfl; (with_reducible repeat (first | apply zuW | apply ztN | apply zqY)); refine zlL (cs := #[.int .i64 0, .int .i64 0, .int .i64 0, .int .i64 0, .int .i64 0, .int .i64 0]) ?_ 0 _ rfl; (with_reducible repeat (first | apply zuW | apply ztN | apply zqY)); refine znI ?_ NB154_170.out _; (with_reducible repeat (first | apply zuW | apply ztN | apply zqY)); refine znI ?_ NB154_170.out _; (with_reducible repeat (first | apply zuW | apply ztN | apply zqY)); refine znI ?_ NB154_170.out _; (with_reducible repeat (first | apply zuW | apply ztN | apply zqY)); exact BK154.out) Tryd.underlying34 rfl (by kernel_rfl)) rfl ?_
          exact ⟨by first | rfl | (simp [ziS, znJ] <;> rfl) | (simp only [← hji25]; first | rfl | (simp [ziS, znJ] <;> rfl)) | (simp [*, ziS, znJ] <;> rfl), bb_⟩
        ·rw [if_neg c27] at H
         exact absurd H (by simp)
       ·rw [if_neg c26] at H
        exact absurd H (by simp)
      ·rw [if_neg c24] at H
       exact absurd H (by simp)
     ·rw [if_neg c22] at H
      exact absurd H (by simp)
    ·rw [if_neg c21] at H
     exact absurd H (by simp)

end Go.Proofs.YtbkcmdccomngnaaDoor.PFnExactReadMotion
