-- Printed for this claim by this session's program pp.py, which drives the kit's print with additions. Not trusted: Lean checks it.
import Derived.Test.YtbkcmdccomngnaaDoorV3PFnExactReadLinex0
import Derived.Test.YtbkcmdccomngnaaDoorV3PFnExactReadLinex2
import Derived.Test.YtbkcmdccomngnaaDoorV3PFnExactReadLinex5
namespace Go.Proofs.YtbkcmdccomngnaaDoor.PFnExactReadLine
open Go.RowKit Go.Proofs.YtbkcmdccomngnaaDoorW.PrintWords Go.Proofs.YtbkcmdccomngnaaDoorW.PrintLast Go.Proofs.YtbkcmdccomngnaaDoorW.PrintMore
attribute [local go_sem] max2_int min2_int max_two min_two znE zuA max_four min_four   -- for this text's walks alone
set_option linter.unusedVariables false
set_option maxHeartbeats 8000000
set_option maxRecDepth 100000
set_option linter.unusedSimpArgs false

theorem u8x_ (z : Int) : wrap64 (IntKind.u8.wrap z) = z % 256 := by
 have e : IntKind.u8.wrap z = z % 256 := by simp [IntKind.wrap, IntKind.signed, IntKind.bits]
 rw [e]; unfold wrap64; omega
def zhP.j0 : Nat → ByteArray → Bool → Option (Int × Int × Int × Int × Bool)
 | 0, _, _ => none
 | k + 1, x0, x20 => if x20 = true then (some (0, 0, 0, 0, false)) else (if 2 ≤ (x0.size : Int) then ((zhO.f k (x0.extract 2 x0.size)).bind fun bt147 => (if bt147.2.2.2 = true then (if 0 < (x0.size : Int) then (some (((bt x0 0) - 48) % 256, bt147.1, bt147.2.1, bt147.2.2.1, true)) else (none)) else (some (0, 0, 0, 0, false)))) else (none))
def zhP.f (k : Nat) (a0 : ByteArray) : Option (Int × Int × Int × Int × Bool) := if (a0.size : Int) < 3 then (zhP.j0 k a0 true) else (if 1 < (a0.size : Int) then (if (bt a0 1) = 64 then (if 0 < (a0.size : Int) then ((ziE.f (wrap64 (bt a0 0)) 48 55).bind fun t146 => (zhP.j0 k a0 (!t146))) else (none)) else (zhP.j0 k a0 true)) else (none))
theorem zhP.mono_l : ∀ k, (∀ y0 y1, LeO (zhP.j0 k y0 y1) (zhP.j0 (k + 1) y0 y1))
 | 0 => fun _ _ r h => by simp [zhP.j0] at h
 | k + 1 => by
  have ih0 := zhP.mono_l k
  ·intro y0 y1
   unfold zhP.j0
   repeat' first
   | (with_reducible exact ih0 _ _)
   | (with_reducible exact zhO.mono _ _)
   | (with_reducible exact LeO.refl _)
   | (with_reducible exact LeO.none _)
   | (with_reducible refine LeO.ite ?_ ?_)
   | (with_reducible refine LeO.bind ?_ (fun _ => ?_))
   | exact ih0 _ _
   | exact zhO.mono _ _
   | exact LeO.none _
   | refine LeO.ite ?_ ?_
   | refine LeO.bind ?_ (fun _ => ?_)
theorem zhP.mono : ∀ a0 k, LeO (zhP.f k a0) (zhP.f (k + 1) a0) := by
 intro a0 k
 have ih0 := zhP.mono_l k
 unfold zhP.f
 repeat' first
   | (with_reducible exact ih0 _ _)
   | (with_reducible exact zhO.mono _ _)
   | (with_reducible exact LeO.refl _)
   | (with_reducible exact LeO.none _)
   | (with_reducible refine LeO.ite ?_ ?_)
   | (with_reducible refine LeO.bind ?_ (fun _ => ?_))
   | exact ih0 _ _
   | exact zhO.mono _ _
   | exact LeO.none _
   | refine LeO.ite ?_ ?_
   | refine LeO.bind ?_ (fun _ => ?_)
def zhP.T6 : Bool × List (List Nat × List Nat) := (true, [([], []), ([0], [0]), ([1], [1]), ([2], [2]), ([], []), ([3, 4], [3, 4]), ([5, 0, 1, 2, 3, 4, 5], [5]), ([6, 0, 1, 2, 3, 4, 5, 6], [])])
def zhP.B6 : List Nat := [0, 1, 3, 7, 0, 31, 63, 127]
theorem zhP.tab6 : rtab .any (opsOf Tryd.f10 6) = zhP.T6 := by kernel_rfl
theorem zhP.bits6 : waitsOk zhP.T6.2 zhP.B6 = true := by kernel_rfl
theorem zhP.calls (k : Nat) (a0 : ByteArray) (r1 : Int) (r2 : Int) (r3 : Int) (r4 : Int) (r5 : Bool) (w : World) (h : zhP.f k a0 = some (r1, r2, r3, r4, r5)) :
  Calls Tryd.prog 10 #[.string a0] w fun e w' => e = .returned (.tuple #[.agg #[.int .i64 r1, .int .i64 r2, .int .i64 r3, .int .i64 r4], .bool r5]) ∧ Below w.heap.size w w' := by
 have hu29 := Tryd.underlying29
 have hu23 := Tryd.underlying23
 have HB := zpS (Below.refl w.heap.size w)
 have H : (if (a0.size : Int) < 3 then (zhP.j0 k a0 true) else (if 1 < (a0.size : Int) then (if (bt a0 1) = 64 then (if 0 < (a0.size : Int) then ((ziE.f (wrap64 (bt a0 0)) 48 55).bind fun t146 => (zhP.j0 k a0 (!t146))) else (none)) else (zhP.j0 k a0 true)) else (none))) = some (r1, r2, r3, r4, r5) := h
 clear h
 have HC2 := zpS H
 clear H
 go_enter Tryd.func10, Tryd.ntmps10
 go_upto_region 1 with (first | ((with_reducible refine zpZ (N := 2) rfl ?_); refine bx_ 2 #[.int .i64 0, .int .i64 0, .int .i64 0, .int .i64 0] 29 ?_; intro gb145 hg w3 hbox hb; have n0_ := (ns_ hb); have n1_ := zpS (hbox); have n2_ := (ng_ hg); have n3_ := n2_; clear HB; have HB := n0_; have BK145 := n1_; have GW145 := n2_; have GE145 := n3_; clear n0_ n1_ n2_ n3_; clear hb hbox hg))
 (try simp only [Act.put, set_a_, set_b_, set_c_])
 go_cut [20] (fun v20 wc => ∃ (kq : Nat) (x20_1 : Bool), v20 = .bool x20_1 ∧ Aside0 (zhP.j0 kq a0 x20_1 = some (r1, r2, r3, r4, r5)) ∧ Aside0 (kq ≤ k) ∧ Aside0 (wc.heap[gb145]? = some (.cells #[.int .i64 0, .int .i64 0, .int .i64 0, .int .i64 0] 29 (0, 0))) ∧ Aside0 (Below w.heap.size w wc))
 case first =>
  have H := HC2.out
  clear HC2
  by_cases c4 : (a0.size : Int) < 3
  ·rw [if_pos c4] at H
   have c4b0 : decide ((a0.size : Int) < 3) = true := decide_eq_true c4
   have c4b1 : decide (a0.size < 3) = true := decide_eq_true (by omega)
   clear c4
   (first | rw [c4b0] | (simp only [zcN, ziJ]; rw [c4b0]) | skip)
   have H' := zpS H
   clear H
   go_wp2
   go_meet
   case rel => exact ⟨_, (true), (by first | rfl | (simp; done) | (simp [*]; done)), H', ⟨by first | omega | exact Nat.le_refl _⟩, ⟨bk_⟩, ⟨bb_⟩⟩
  ·rw [if_neg c4] at H
   have c4b0 : decide ((a0.size : Int) < 3) = false := decide_eq_false c4
   have c4b1 : decide (a0.size < 3) = false := decide_eq_false (by omega)
   clear c4
   (first | rw [c4b0] | (simp only [zcN, ziJ]; rw [c4b0]) | skip)
   by_cases c5 : 1 < (a0.size : Int)
   ·rw [if_pos c5] at H
    have c5b0 : decide (1 < (a0.size : Int)) = true := decide_eq_true c5
    have c5b1 : decide (1 < a0.size) = true := decide_eq_true (by omega)
    clear c5
    by_cases c7 : (bt a0 1) = 64
    ·rw [if_pos c7] at H
     have c7b0 : ((bt a0 1) == 64) = true := beq_iff_eq.mpr c7
     have c7b1 : ((bt a0 1) != 64) = false := bne_eq_false_iff_eq.mpr c7
     clear c7
     by_cases c8 : 0 < (a0.size : Int)
     ·rw [if_pos c8] at H
      have c8b0 : decide (0 < (a0.size : Int)) = true := decide_eq_true c8
      have c8b1 : decide (0 < a0.size) = true := decide_eq_true (by omega)
      clear c8
      replace H := Option.bind_eq_some_iff.mp H
      obtain ⟨t146, A100, H⟩ := H
      replace H : (zhP.j0 k a0 (!t146)) = some (r1, r2, r3, r4, r5) := H
      have A10 := zpS A100
      clear A100
      have H' := zpS H
      clear H
      have p6 : 0 ≤ (1 : Int) := (by omega)
      have q6 : 1 < a0.size := (by have : (1 : Int) < (a0.size : Int) := dt_; omega)
      have hx6 : ∀ h : 1 < a0.size, ((a0[1]'h).toNat : Int) = bt a0 1 := bt_at a0 1
      clear p6
      have qi6 : (1 < (a0.size : Int)) = True := eq_true dt_
      replace q6 := eq_true q6
      have p9 : 0 ≤ (0 : Int) := (by omega)
      have q9 : 0 < a0.size := (by have : (0 : Int) < (a0.size : Int) := dt_; omega)
      have hx9 : ∀ h : 0 < a0.size, ((a0[0]'h).toNat : Int) = bt a0 0 := bt_at a0 0
      clear p9
      have qi9 : (0 < (a0.size : Int)) = True := eq_true dt_
      replace q9 := eq_true q9
      go_wp2_with (first | (go_at_call 30; (with_reducible refine (ziE.calls (wrap64 (bt a0 0)) 48 55 t146 _ A10.out).mono ?_); rintro e w' ⟨rfl, ⟨nd, rfl⟩⟩))
      go_meet
      case rel => exact ⟨_, (!t146), (by first | rfl | (simp; done) | (simp [*]; done)), H', ⟨by first | omega | exact Nat.le_refl _⟩, ⟨bk_⟩, ⟨bb_⟩⟩
     ·rw [if_neg c8] at H
      exact absurd H (by simp)
    ·rw [if_neg c7] at H
     have c7b0 : ((bt a0 1) == 64) = false := beq_eq_false_iff_ne.mpr c7
     have c7b1 : ((bt a0 1) != 64) = true := bne_iff_ne.mpr c7
     have H' := zpS H
     clear H
     have p6 : 0 ≤ (1 : Int) := (by omega)
     have q6 : 1 < a0.size := (by have : (1 : Int) < (a0.size : Int) := dt_; omega)
     have hx6 : ∀ h : 1 < a0.size, ((a0[1]'h).toNat : Int) = bt a0 1 := bt_at a0 1
     clear p6
     have qi6 : (1 < (a0.size : Int)) = True := eq_true dt_
     replace q6 := eq_true q6
     go_wp2
     go_meet
     case rel => exact ⟨_, (true), (by first | rfl | (simp; done) | (simp [*]; done)), H', ⟨by first | omega | exact Nat.le_refl _⟩, ⟨bk_⟩, ⟨bb_⟩⟩
   ·rw [if_neg c5] at H
    exact absurd H (by simp)
 case rest =>
  clear HC2
  try clear c1
  try clear p2
  try clear c4
  try clear c4b0
  try clear c4b1
  try clear c5
  try clear c5b0
  try clear c5b1
  try clear p6
  try clear q6
  try clear hx6
  try clear qi6
  try clear c7
  try clear c7b0
  try clear c7b1
  try clear c8
  try clear c8b0
  try clear c8b1
  try clear p9
  try clear q9
  try clear hx9
  try clear qi9
  try clear c10
  try clear p6
  try clear p9
  try clear q6
  try clear q9
  obtain ⟨kq, x20_1, rfl, HA, HJ1, BK145, HB⟩ := hcut
  cases kq with
  | zero => exact absurd HA.out (by simp [zhP.j0])
  | succ kj1 =>
   have H := HA.out
   clear HA
   simp only [zhP.j0] at H
   by_cases c11 : x20_1 = true
   ·subst c11
    have H1 : (some (0, 0, 0, 0, false)) = some (r1, r2, r3, r4, r5) := by rw [if_pos rfl] at H; exact H
    clear H
    have H := H1
    clear H1
    simp only [Option.some.injEq, Prod.mk.injEq] at H
    obtain ⟨rfl, rfl, rfl, rfl, rfl⟩ := H
    have hcz12_0 : wc.cell? ⟨gb145, 0, none⟩ = some (.int .i64 0) := (zzS BK145.out 0).trans rfl
    have hcz12_1 : wc.cell? ⟨gb145, 1, none⟩ = some (.int .i64 0) := (zzS BK145.out 1).trans rfl
    have hcz12_2 : wc.cell? ⟨gb145, 2, none⟩ = some (.int .i64 0) := (zzS BK145.out 2).trans rfl
    have hcz12_3 : wc.cell? ⟨gb145, 3, none⟩ = some (.int .i64 0) := (zzS BK145.out 3).trans rfl
    have hfz12_0 := zjF BK145.out 0
    have hfz12_1 := zjF BK145.out 1
    have hfz12_2 := zjF BK145.out 2
    have hfz12_3 := zjF BK145.out 3
    go_wp2
    refine bodyPost_ret (zzB rfl _ _ gb145 29 #[.int .i64 0, .int .i64 0, .int .i64 0, .int .i64 0] (0, 0) _ rfl (by (with_reducible repeat (first | apply zuW | apply ztN | apply zqY)); refine zlL (cs := #[.int .i64 0, .int .i64 0, .int .i64 0, .int .i64 0]) ?_ 3 _ rfl; (with_reducible repeat (first | apply zuW | apply ztN | apply zqY)); refine zlL (cs := #[.int .i64 0, .int .i64 0, .int .i64 0, .int .i64 0]) ?_ 2 _ rfl; (with_reducible repeat (first | apply zuW | apply ztN | apply zqY)); refine zlL (cs := #[.int .i64 0, .int .i64 0, .int .i64 0, .int .i64 0]) ?_ 1 _ rfl; (with_reducible repeat (first | apply zuW | apply ztN | apply zqY)); refine zlL (cs := #[.int .i64 0, .int .i64 0, .int .i64 0, .int .i64 0]) ?_ 0 _ rfl; (with_reducible repeat (first | apply zuW | apply ztN | apply zqY)); exact BK145.out) Tryd.underlying29 rfl (by kernel_rfl)) rfl ?_
    exact ⟨by first | rfl | (simp [ziS, znJ] <;> rfl) | (simp [*, ziS, znJ] <;> rfl), bb_⟩
   ·replace c11 := Bool.eq_false_iff.mpr c11
    subst c11
    have H1 : (if 2 ≤ (a0.size : Int) then ((zhO.f kj1 (a0.extract 2 a0.size)).bind fun bt147 => (if bt147.2.2.2 = true then (if 0 < (a0.size : Int) then (some (((bt a0 0) - 48) % 256, bt147.1, bt147.2.1, bt147.2.2.1, true)) else (none)) else (some (0, 0, 0, 0, false)))) else (none)) = some (r1, r2, r3, r4, r5) := by rw [if_neg (show ¬ (false = true) by decide)] at H; exact H
    clear H
    have H := H1
    clear H1
    by_cases c13 : 2 ≤ (a0.size : Int)
    ·rw [if_pos c13] at H
     have c13b0 := eq_true c13
     have c13b1 : decide (2 ≤ (a0.size : Int)) = true := decide_eq_true c13
     clear c13
     replace H := Option.bind_eq_some_iff.mp H
     obtain ⟨⟨t147, t148, t149, t150⟩, A140, H⟩ := H
     replace H : (if t150 = true then (if 0 < (a0.size : Int) then (some (((bt a0 0) - 48) % 256, t147, t148, t149, true)) else (none)) else (some (0, 0, 0, 0, false))) = some (r1, r2, r3, r4, r5) := H
     have A14 := zpS A140
     clear A140
     by_cases c15 : t150 = true
     ·subst c15
      have H1 : (if 0 < (a0.size : Int) then (some (((bt a0 0) - 48) % 256, t147, t148, t149, true)) else (none)) = some (r1, r2, r3, r4, r5) := by rw [if_pos rfl] at H; exact H
      clear H
      have H := H1
      clear H1
      by_cases c16 : 0 < (a0.size : Int)
      ·rw [if_pos c16] at H
       have c16b0 : decide (0 < (a0.size : Int)) = true := decide_eq_true c16
       have c16b1 : decide (0 < a0.size) = true := decide_eq_true (by omega)
       clear c16
       simp only [Option.some.injEq, Prod.mk.injEq] at H
       obtain ⟨rfl, rfl, rfl, rfl, rfl⟩ := H
       try go_wp2_with (first | ((with_reducible refine zgK (f := 7) rfl ?_); refine zqQ (some 25) rfl rfl Tryd.func7 (by kernel_rfl) rfl #[.string (a0.extract 2 a0.size)] rfl (by (try simp only [List.map_toArray, List.map_cons, List.map_nil]); first | done | rfl | (simp only [List.length_drop, List.length_take]; rfl)) ?_; (with_reducible refine (zhO.calls kj1 (a0.extract 2 a0.size) t147 t148 t149 true _ A14.out).mono ?_); rintro e w18 ⟨rfl, hb⟩; refine ⟨_, rfl, ?_⟩; have n0_ := zpS (zgM (g := gb145) (o := .cells #[.int .i64 0, .int .i64 0, .int .i64 0, .int .i64 0] 29 (0, 0)) bk_ hb); have n1_ := (ns_ hb); clear BK145; clear HB; have BK145 := n0_; have HB := n1_; clear n0_ n1_; (try clear hb); (try clear hb2)) | ((with_reducible refine zpZ (N := 4) rfl ?_); refine bx_ 4 #[.int .i64 0, .int .i64 0, .int .i64 0] 23 ?_; intro gb151 hg w19 hbox hb; have n0_ := zpS (zgM (g := gb145) (o := .cells #[.int .i64 0, .int .i64 0, .int .i64 0, .int .i64 0] 29 (0, 0)) bk_ hb); have n1_ := (ns_ hb); have n2_ := zpS (hbox); have n3_ := (ng_ hg); have n4_ := n3_; have n5_ := zpS ((by rw [hg]; exact Nat.ne_of_lt (zmN (g := gb145) (o := .cells #[.int .i64 0, .int .i64 0, .int .i64 0, .int .i64 0] 29 (0, 0)) bk_) : gb145 ≠ gb151)); have n6_ := zpS ((by rw [hg]; exact Nat.ne_of_gt (zmN (g := gb145) (o := .cells #[.int .i64 0, .int .i64 0, .int .i64 0, .int .i64 0] 29 (0, 0)) bk_) : gb151 ≠ gb145)); clear BK145; clear HB; have BK145 := n0_; have HB := n1_; have BK151 := n2_; have GW151 := n3_; have GE151 := n4_; have NB145_151 := n5_; have NB151_145 := n6_; clear n0_ n1_ n2_ n3_ n4_ n5_ n6_; clear hb hbox hg; have hnb20 := NB151_145.out; have hnc20 := NB145_151.out; obtain ⟨hcz21_0, hcz21_1, hcz21_2⟩ := zdT BK151.out; obtain ⟨hfz21_0, hfz21_1, hfz21_2⟩ := zqD BK151.out))
       have n0_ : Aside0 ((((w19.setCell ⟨gb151, 0, none⟩ (.int .i64 t147)).setCell ⟨gb151, 1, none⟩ (.int .i64 t148)).setCell ⟨gb151, 2, none⟩ (.int .i64 t149)).heap[gb145]? = some (.cells #[.int .i64 0, .int .i64 0, .int .i64 0, .int .i64 0] 29 (0, 0))) := ⟨by (with_reducible repeat (first | apply zuW | apply ztN | apply zqY)); refine znI ?_ NB145_151.out _; (with_reducible repeat (first | apply zuW | apply ztN | apply zqY)); refine znI ?_ NB145_151.out _; (with_reducible repeat (first | apply zuW | apply ztN | apply zqY)); refine znI ?_ NB145_151.out _; (with_reducible repeat (first | apply zuW | apply ztN | apply zqY)); exact BK145.out⟩
       have n1_ : Aside0 ((((w19.setCell ⟨gb151, 0, none⟩ (.int .i64 t147)).setCell ⟨gb151, 1, none⟩ (.int .i64 t148)).setCell ⟨gb151, 2, none⟩ (.int .i64 t149)).heap[gb151]? = some (.cells #[.int .i64 t147, .int .i64 t148, .int .i64 t149] 23 (0, 0))) := ⟨by (with_reducible repeat (first | apply zuW | apply ztN | apply zqY)); refine zlL (cs := #[.int .i64 t147, .int .i64 t148, .int .i64 0]) ?_ 2 _ rfl; (with_reducible repeat (first | apply zuW | apply ztN | apply zqY)); refine zlL (cs := #[.int .i64 t147, .int .i64 0, .int .i64 0]) ?_ 1 _ rfl; (with_reducible repeat (first | apply zuW | apply ztN | apply zqY)); refine zlL (cs := #[.int .i64 0, .int .i64 0, .int .i64 0]) ?_ 0 _ rfl; (with_reducible repeat (first | apply zuW | apply ztN | apply zqY)); exact BK151.out⟩
       have n2_ : Aside0 (Below w.heap.size w (((w19.setCell ⟨gb151, 0, none⟩ (.int .i64 t147)).setCell ⟨gb151, 1, none⟩ (.int .i64 t148)).setCell ⟨gb151, 2, none⟩ (.int .i64 t149))) := ⟨bb_⟩
       (try clear BK145)
       (try clear BK151)
       (try clear HB)
       generalize (((w19.setCell ⟨gb151, 0, none⟩ (.int .i64 t147)).setCell ⟨gb151, 1, none⟩ (.int .i64 t148)).setCell ⟨gb151, 2, none⟩ (.int .i64 t149)) = w22 at n0_ n1_ n2_ ⊢
       have BK145 := n0_
       have BK151 := n1_
       have HB := n2_
       clear n0_ n1_ n2_
       have n0_ := zpS (ztN BK145.out)
       have n1_ := zpS (ztN BK151.out)
       have n2_ := zpS (below_drew1 HB.out)
       clear BK145
       clear BK151
       clear HB
       have BK145 := n0_
       have BK151 := n1_
       have HB := n2_
       clear n0_ n1_ n2_
       have p17 : 0 ≤ (0 : Int) := (by omega)
       have q17 : 0 < a0.size := (by have : (0 : Int) < (a0.size : Int) := dt_; omega)
       have hx17 : ∀ h : 0 < a0.size, ((a0[0]'h).toNat : Int) = bt a0 0 := bt_at a0 0
       clear p17
       have qi17 : (0 < (a0.size : Int)) = True := eq_true dt_
       replace q17 := eq_true q17
       refine start_ (n := 8) (S := fun w' => w'.cell? ⟨gb151, 0, none⟩ = some (.int .i64 t147) ∧ w'.cell? ⟨gb151, 1, none⟩ = some (.int .i64 t148) ∧ w'.cell? ⟨gb151, 2, none⟩ = some (.int .i64 t149)) (ds := []) #[false, false, false, false, false, false, false, false] (by kernel_rfl) rfl rfl ⟨(zzS BK151.out 0).trans rfl, (zzS BK151.out 1).trans rfl, (zzS BK151.out 2).trans rfl⟩ (fun hHeld => ?_); refine with_tabW zhP.tab6 zhP.bits6 (fun HT_ HW_ => ?_)
       generalize w22.drew = w23 at BK145 BK151 HB hHeld ⊢
       refine pu_ 0 (some 31) (bl_ 8 1) ?_
       refine tk3_ 1 (some 32) (bl_ 8 3) hHeld ?_
       refine pu_ 2 (some 33) (bl_ 8 7) ?_
       refine pu_ 3 (some 34) (bl_ 8 15) ?_
       refine tk3_ 4 (some 35) (bl_ 8 31) hHeld ?_
       refine pu_ 5 (some 36) (bl_ 8 63) ?_
       refine one_ (i := 6) (N := none) (bl_ 8 127) rfl rfl (one_of HT_.out (by kernel_rfl)) (by decide) (fun K hK => ?_)
       have hs24 : w23.cell? ⟨gb145, 0, none⟩ = some (.int .i64 0) := (zzS BK145.out 0).trans rfl
       have hfs24 := zjF BK145.out 0
       have hns24_1 := NB151_145.out
       have hms24_1 := NB145_151.out
       have hs25 : w23.cell? ⟨gb145, 1, none⟩ = some (.int .i64 0) := (zzS BK145.out 1).trans rfl
       have hfs25 := zjF BK145.out 1
       have hns25_1 := NB151_145.out
       have hms25_1 := NB145_151.out
       have hs26 : w23.cell? ⟨gb145, 2, none⟩ = some (.int .i64 0) := (zzS BK145.out 2).trans rfl
       have hfs26 := zjF BK145.out 2
       have hns26_1 := NB151_145.out
       have hms26_1 := NB145_151.out
       have hs27 : w23.cell? ⟨gb145, 3, none⟩ = some (.int .i64 0) := (zzS BK145.out 3).trans rfl
       have hfs27 := zjF BK145.out 3
       have hns27_1 := NB151_145.out
       have hms27_1 := NB145_151.out
       refine skip_ (w1 := ?_) (by rfl) rfl ?_ ?_
       rotate_left
       ·go_simp
        rfl
       refine hK.out _ _ ⟨((zgQ (p := ⟨gb145, _, none⟩) NB151_145.out _).trans (((zgQ (p := ⟨gb145, _, none⟩) NB151_145.out _).trans (((zgQ (p := ⟨gb145, _, none⟩) NB151_145.out _).trans (((zgQ (p := ⟨gb145, _, none⟩) NB151_145.out _).trans (hHeld.1)))))))), ((zgQ (p := ⟨gb145, _, none⟩) NB151_145.out _).trans (((zgQ (p := ⟨gb145, _, none⟩) NB151_145.out _).trans (((zgQ (p := ⟨gb145, _, none⟩) NB151_145.out _).trans (((zgQ (p := ⟨gb145, _, none⟩) NB151_145.out _).trans (hHeld.2.1)))))))), ((zgQ (p := ⟨gb145, _, none⟩) NB151_145.out _).trans (((zgQ (p := ⟨gb145, _, none⟩) NB151_145.out _).trans (((zgQ (p := ⟨gb145, _, none⟩) NB151_145.out _).trans (((zgQ (p := ⟨gb145, _, none⟩) NB151_145.out _).trans (hHeld.2.2))))))))⟩ (fun hHeld => ?_)
       clear hK K
       refine pu_ 7 (some 3) (bl_ 8 255) ?_
       refine done_ (done_of HT_.out (by kernel_rfl)) ?_
       try go_wp2
       refine bodyPost_ret (zzB rfl _ _ gb145 29 #[.int .i64 (((bt a0 0) - 48) % 256), .int .i64 t147, .int .i64 t148, .int .i64 t149] (0, 0) _ rfl (by (with_reducible repeat (first | apply zuW | apply ztN | apply zqY)); refine zlL (cs := #[.int .i64 (((bt a0 0) - 48) % 256), .int .i64 t147, .int .i64 t148, .int .i64 0]) ?_ 3 _ rfl; (with_reducible repeat (first | apply zuW | apply ztN | apply zqY)); refine zlL (cs := #[.int .i64 (((bt a0 0) - 48) % 256), .int .i64 t147, .int .i64 0, .int .i64 0]) ?_ 2 _ rfl; (with_reducible repeat (first | apply zuW | apply ztN | apply zqY)); refine zlL (cs := #[.int .i64 (((bt a0 0) - 48) % 256), .int .i64 0, .int .i64 0, .int .i64 0]) ?_ 1 _ rfl; (with_reducible repeat (first | apply zuW | apply ztN | apply zqY)); refine zlL (cs := #[.int .i64 0, .int .i64 0, .int .i64 0, .int .i64 0]) ?_ 0 _ (by first | rfl | (rw [u8x_]; rfl)); (with_reducible repeat (first | apply zuW | apply ztN | apply zqY)); exact BK145.out) Tryd.underlying29 rfl (by kernel_rfl)) rfl ?_
       exact ⟨by first | rfl | (simp [ziS, znJ] <;> rfl) | (simp [*, ziS, znJ] <;> rfl), bb_⟩
      ·rw [if_neg c16] at H
       exact absurd H (by simp)
     ·replace c15 := Bool.eq_false_iff.mpr c15
      subst c15
      have H1 : (some (0, 0, 0, 0, false)) = some (r1, r2, r3, r4, r5) := by rw [if_neg (show ¬ (false = true) by decide)] at H; exact H
      clear H
      have H := H1
      clear H1
      simp only [Option.some.injEq, Prod.mk.injEq] at H
      obtain ⟨rfl, rfl, rfl, rfl, rfl⟩ := H
      go_wp2_with (first | ((with_reducible refine zgK (f := 7) rfl ?_); refine zqQ (some 25) rfl rfl Tryd.func7 (by kernel_rfl) rfl #[.string (a0.extract 2 a0.size)] rfl (by (try simp only [List.map_toArray, List.map_cons, List.map_nil]); first | done | rfl | (simp only [List.length_drop, List.length_take]; rfl)) ?_; (with_reducible refine (zhO.calls kj1 (a0.extract 2 a0.size) t147 t148 t149 false _ A14.out).mono ?_); rintro e w28 ⟨rfl, hb⟩; refine ⟨_, rfl, ?_⟩; have n0_ := zpS (zgM (g := gb145) (o := .cells #[.int .i64 0, .int .i64 0, .int .i64 0, .int .i64 0] 29 (0, 0)) bk_ hb); have n1_ := (ns_ hb); clear BK145; clear HB; have BK145 := n0_; have HB := n1_; clear n0_ n1_; (try clear hb); (try clear hb2)) | ((with_reducible refine zpZ (N := 4) rfl ?_); refine bx_ 4 #[.int .i64 0, .int .i64 0, .int .i64 0] 23 ?_; intro gb151 hg w29 hbox hb; have n0_ := zpS (zgM (g := gb145) (o := .cells #[.int .i64 0, .int .i64 0, .int .i64 0, .int .i64 0] 29 (0, 0)) bk_ hb); have n1_ := (ns_ hb); have n2_ := zpS (hbox); have n3_ := (ng_ hg); have n4_ := n3_; have n5_ := zpS ((by rw [hg]; exact Nat.ne_of_lt (zmN (g := gb145) (o := .cells #[.int .i64 0, .int .i64 0, .int .i64 0, .int .i64 0] 29 (0, 0)) bk_) : gb145 ≠ gb151)); have n6_ := zpS ((by rw [hg]; exact Nat.ne_of_gt (zmN (g := gb145) (o := .cells #[.int .i64 0, .int .i64 0, .int .i64 0, .int .i64 0] 29 (0, 0)) bk_) : gb151 ≠ gb145)); clear BK145; clear HB; have BK145 := n0_; have HB := n1_; have BK151 := n2_; have GW151 := n3_; have GE151 := n4_; have NB145_151 := n5_; have NB151_145 := n6_; clear n0_ n1_ n2_ n3_ n4_ n5_ n6_; clear hb hbox hg; have hnb30 := NB151_145.out; have hnc30 := NB145_151.out; obtain ⟨hcz31_0, hcz31_1, hcz31_2⟩ := zdT BK151.out; obtain ⟨hfz31_0, hfz31_1, hfz31_2⟩ := zqD BK151.out; have hcz32_0 : w29.cell? ⟨gb145, 0, none⟩ = some (.int .i64 0) := (zzS BK145.out 0).trans rfl; have hcz32_1 : w29.cell? ⟨gb145, 1, none⟩ = some (.int .i64 0) := (zzS BK145.out 1).trans rfl; have hcz32_2 : w29.cell? ⟨gb145, 2, none⟩ = some (.int .i64 0) := (zzS BK145.out 2).trans rfl; have hcz32_3 : w29.cell? ⟨gb145, 3, none⟩ = some (.int .i64 0) := (zzS BK145.out 3).trans rfl; have hfz32_0 := zjF BK145.out 0; have hfz32_1 := zjF BK145.out 1; have hfz32_2 := zjF BK145.out 2; have hfz32_3 := zjF BK145.out 3))
      refine bodyPost_ret (zzB rfl _ _ gb145 29 #[.int .i64 0, .int .i64 0, .int .i64 0, .int .i64 0] (0, 0) _ rfl (by (with_reducible repeat (first | apply zuW | apply ztN | apply zqY)); refine zlL (cs := #[.int .i64 0, .int .i64 0, .int .i64 0, .int .i64 0]) ?_ 3 _ rfl; (with_reducible repeat (first | apply zuW | apply ztN | apply zqY)); refine zlL (cs := #[.int .i64 0, .int .i64 0, .int .i64 0, .int .i64 0]) ?_ 2 _ rfl; (with_reducible repeat (first | apply zuW | apply ztN | apply zqY)); refine zlL (cs := #[.int .i64 0, .int .i64 0, .int .i64 0, .int .i64 0]) ?_ 1 _ rfl; (with_reducible repeat (first | apply zuW | apply ztN | apply zqY)); refine zlL (cs := #[.int .i64 0, .int .i64 0, .int .i64 0, .int .i64 0]) ?_ 0 _ rfl; (with_reducible repeat (first | apply zuW | apply ztN | apply zqY)); refine znI ?_ NB145_151.out _; (with_reducible repeat (first | apply zuW | apply ztN | apply zqY)); refine znI ?_ NB145_151.out _; (with_reducible repeat (first | apply zuW | apply ztN | apply zqY)); refine znI ?_ NB145_151.out _; (with_reducible repeat (first | apply zuW | apply ztN | apply zqY)); exact BK145.out) Tryd.underlying29 rfl (by kernel_rfl)) rfl ?_
      exact ⟨by first | rfl | (simp [ziS, znJ] <;> rfl) | (simp [*, ziS, znJ] <;> rfl), bb_⟩
    ·rw [if_neg c13] at H
     exact absurd H (by simp)

def LaidV3 (w : World) : Prop := Lib.TabIs Tryd.prog w "internal/strconv.uint64pow10" .u64 Lib.pow10Tab
theorem LaidV3.below {w w' : World} (h : LaidV3 w) (hB : Below w.heap.size w w') : LaidV3 w' := by
 unfold LaidV3 Lib.TabIs World.var? at h ⊢
 cases hg : Tryd.prog.globalNamed "internal/strconv.uint64pow10" with
 | none => rw [hg] at h; cases h
 | some g =>
  rw [hg] at h
  simp only [Option.bind_some] at h ⊢
  have hlt : g < w.heap.size := by
   cases hh : w.heap[g]? with
   | none => rw [hh] at h; cases h
   | some o => exact (Array.getElem?_eq_some_iff.1 hh).1
  rw [hB.block g hlt]
  exact h
def LaidV2 (w : World) : Prop := ∃ v, w.cell? ⟨2, 0, none⟩ = some v ∧ (v = .nilIface ∨ ∃ te pe, v = .iface te pe)
theorem LaidV2.below {w w' : World} (h : LaidV2 w) (hB : Below w.heap.size w w') : LaidV2 w' := by
 obtain ⟨m, hm, h2⟩ := h
 exact ⟨m, (hB.cell (World.block_lt_of_cell? w _ hm)).trans hm, h2⟩
def LaidV1 (w : World) : Prop := ∃ v, w.cell? ⟨1, 0, none⟩ = some v ∧ (v = .nilIface ∨ ∃ te pe, v = .iface te pe)
theorem LaidV1.below {w w' : World} (h : LaidV1 w) (hB : Below w.heap.size w w') : LaidV1 w' := by
 obtain ⟨m, hm, h2⟩ := h
 exact ⟨m, (hB.cell (World.block_lt_of_cell? w _ hm)).trans hm, h2⟩
def LaidV4 (w : World) : Prop := Lib.Utf8Tabs 4 5 w
theorem LaidV4.below {w w' : World} (h : LaidV4 w) (hB : Below w.heap.size w w') : LaidV4 w' := Utf8Tabs_below h hB
def LaidV0 (w : World) : Prop := ∃ m : Int, w.cell? ⟨0, 0, none⟩ = some (.int .i64 m)
theorem LaidV0.below {w w' : World} (h : LaidV0 w) (hB : Below w.heap.size w w') : LaidV0 w' := by
 obtain ⟨m, hm⟩ := h
 exact ⟨m, (hB.cell (World.block_lt_of_cell? w _ hm)).trans hm⟩
structure LaidV (w : World) : Prop where
 v3 : LaidV3 w
 v2 : LaidV2 w
 v1 : LaidV1 w
 v4 : LaidV4 w
 v0 : LaidV0 w
theorem LaidV.below {w w' : World} (h : LaidV w) (hB : Below w.heap.size w w') : LaidV w' := ⟨LaidV3.below h.v3 hB, LaidV2.below h.v2 hB, LaidV1.below h.v1 hB, LaidV4.below h.v4 hB, LaidV0.below h.v0 hB⟩

def strings_Cut.f (a0 a1 : ByteArray) : Option (ByteArray × ByteArray × Bool) := if a0.size < 4294967281 then some (⟨(Lib.cut a0.data.toList a1.data.toList).1.toArray⟩, ⟨(Lib.cut a0.data.toList a1.data.toList).2.1.toArray⟩, (Lib.cut a0.data.toList a1.data.toList).2.2) else none
theorem strings_Cut.calls (a0 a1 : ByteArray) (r1 r2 : ByteArray) (r3 : Bool) (w : World) (hG : LaidV w) (h : strings_Cut.f a0 a1 = some (r1, r2, r3)) :
  Calls Tryd.prog 22 #[.string a0, .string a1] w fun e w' => e = .returned (.tuple #[.string r1, .string r2, .bool r3]) ∧ Drawn0 w w' := by
 unfold strings_Cut.f at h
 by_cases h1 : a0.size < 4294967281
 ·rw [if_pos h1] at h
  simp only [Option.some.injEq, Prod.mk.injEq] at h
  obtain ⟨rfl, rfl, rfl⟩ := h
  obtain ⟨m, hm⟩ := hG.v0
  refine (Tryd.strings_Cut a0 a1 m w h1 hm).mono ?_
  rintro e w' ⟨rfl, n, rfl⟩
  exact ⟨rfl, n, rfl⟩
 ·rw [if_neg h1] at h; cases h

def zkI.f (a0 : ByteArray) : Option (Int × Bool) := if a0.size ≤ 281474976710656 then (match Lib.parseIntB 64 a0.data.toList with | .ok v => if -9223372036854775808 ≤ v ∧ v ≤ 9223372036854775807 then some (v, Lib.itoa v == a0.toList) else none | .range => some (Lib.intSat 64 a0.data.toList, false) | _ => some (0, false)) else none
theorem impl_readNumber_fmt (v : Int) (h0 : -9223372036854775808 ≤ v) (h1 : v ≤ 9223372036854775807) (w W : World) (hG : LaidV w) (hB : Below w.heap.size w W) :
  Calls Tryd.prog 56 #[.int .i64 v, .int .i64 10] W fun e w' => e = .returned (.string ⟨(Lib.itoa v).toArray⟩) ∧ Below w.heap.size w w' := by
 refine (Tryd.strconv_FormatInt_10 v h0 h1 W (LaidV.below hG hB).v3).mono ?_
 rintro e w' ⟨rfl, k, os, rfl⟩
 exact ⟨rfl, hB.trans ((show Below W.heap.size W («Sort».grow (W.drewN k) os) from ⟨rfl, rfl, rfl, by show W.heap.size ≤ (W.heap ++ os).size; rw [Array.size_append]; omega, fun i hi => Array.getElem?_append_left hi⟩).mono hB.size)⟩
theorem impl_readNumber_dec (v : Int) (h0 : -9223372036854775808 ≤ v) (h1 : v ≤ 9223372036854775807) (w W : World) (hG : LaidV w) (hB : Below w.heap.size w W) :
  Calls Tryd.prog 42 #[.int .i64 v] W fun e w' => e = .returned (.string ⟨(Lib.itoa v).toArray⟩) ∧ Below w.heap.size w w' := by
 have HB := zpS hB
 have V0 := zpS h0
 have V1 := zpS h1
 clear hB h0 h1
 go_enter Tryd.func42, Tryd.ntmps42
 go_wp2_with (go_at_call 56; (refine (impl_readNumber_fmt v V0.out V1.out w _ hG HB.out).mono ?_); rintro e w' ⟨rfl, hw⟩; clear HB; have HB := zpS hw; clear hw)
 go_ret
 exact ⟨rfl, HB.out⟩
theorem impl_readNumber_bad (s : ByteArray) (h0 : s.size ≤ 281474976710656) (v : Int) (hv : (Lib.parseIntB 64 s.data.toList = Lib.parseIntB 64 [] ∧ v = 0) ∨ (Lib.parseIntB 64 s.data.toList = .range ∧ v = Lib.intSat 64 s.data.toList)) (w : World) (hG : LaidV w) :
  Calls Tryd.prog 41 #[.string s, .int .i64 10, .int .i64 64] w fun e w' => ∃ te pe, e = .returned (.tuple #[.int .i64 v, .iface te pe]) ∧ Below w.heap.size w w' := by
 rcases hv with ⟨hp, rfl⟩ | ⟨hp, rfl⟩
 ·obtain ⟨ev, h1, h2⟩ := hG.v1
  exact (Tryd.strconv_ParseInt_10_at64_syntax s h0 hp ev w h1 h2).mono (by rintro e w' ⟨N, rfl, _, _, hb⟩; exact ⟨_, _, rfl, hb⟩)
 ·obtain ⟨ev, h1, h2⟩ := hG.v2
  exact (Tryd.strconv_ParseInt_10_at64_range s h0 hp ev w h1 h2).mono (by rintro e w' ⟨N, rfl, _, _, hb⟩; exact ⟨_, _, rfl, hb⟩)
theorem impl_readNumber_good (s : ByteArray) (h0 : s.size ≤ 281474976710656) (v : Int) (hp : Lib.parseIntB 64 s.data.toList = .ok v) (w : World) :
  Calls Tryd.prog 41 #[.string s, .int .i64 10, .int .i64 64] w fun e w' => e = .returned (.tuple #[.int .i64 v, .nilIface]) ∧ Below w.heap.size w w' :=
 (Tryd.strconv_ParseInt_10_at64_ok s (by omega) v hp w).mono (by
  rintro e w' ⟨rfl, rfl | ⟨t, rfl⟩⟩
  ·exact ⟨rfl, Below.refl _ _⟩
  ·exact ⟨rfl, rfl, rfl, rfl, by rw [Lib.bytesWorld_size]; omega, fun k hk => Lib.bytesWorld_at_old w _ _ k (by omega)⟩)
theorem impl_readNumber_no (a0 : ByteArray) (v : Int) (w : World) (hG : LaidV w) (h1 : a0.size ≤ 281474976710656) (hv : (Lib.parseIntB 64 a0.data.toList = Lib.parseIntB 64 [] ∧ v = 0) ∨ (Lib.parseIntB 64 a0.data.toList = .range ∧ v = Lib.intSat 64 a0.data.toList)) :
  Calls Tryd.prog 23 #[.string a0] w fun e w' => e = .returned (.tuple #[.int .i64 v, .bool false]) ∧ Below w.heap.size w w' := by
 have HP := zpS hv
 have H1 := zpS h1
 clear hv h1
 go_enter Tryd.func23, Tryd.ntmps23
 go_wp2_with (first | (go_at_call 41; (refine (impl_readNumber_bad a0 H1.out v HP.out w hG).mono ?_); rintro e w' ⟨te, pe, rfl, hw⟩; have HB := zpS hw; clear hw))
 go_ret2
 exact ⟨rfl, HB.out⟩
theorem zkI.calls (a0 : ByteArray) (r1 : Int) (r2 : Bool) (w : World) (hG : LaidV w) (h : zkI.f a0 = some (r1, r2)) :
  Calls Tryd.prog 23 #[.string a0] w fun e w' => e = .returned (.tuple #[.int .i64 r1, .bool r2]) ∧ Below w.heap.size w w' := by
 unfold zkI.f at h
 by_cases h1 : a0.size ≤ 281474976710656
 ·rw [if_pos h1] at h
  cases hp : Lib.parseIntB 64 a0.data.toList with
  | ok v =>
   rw [hp] at h
   dsimp only at h
   by_cases hv : -9223372036854775808 ≤ v ∧ v ≤ 9223372036854775807
   ·rw [if_pos hv] at h
    simp only [Option.some.injEq, Prod.mk.injEq] at h
    obtain ⟨rfl, rfl⟩ := h
    obtain ⟨v0, v1⟩ := hv
    have HP := zpS hp
    have H1 := zpS h1
    have V0 := zpS v0
    have V1 := zpS v1
    clear hp h1 v0 v1
    go_enter Tryd.func23, Tryd.ntmps23
    go_wp2_with (first | (go_at_call 41; (refine (impl_readNumber_good a0 H1.out v HP.out w).mono ?_); rintro e w' ⟨rfl, hw⟩; have HB := zpS hw; clear hw) | (go_at_call 42; (refine (impl_readNumber_dec v V0.out V1.out w _ hG HB.out).mono ?_); rintro e w' ⟨rfl, hw⟩; clear HB; have HB := zpS hw; clear hw))
    go_ret2
    exact ⟨rfl, HB.out⟩
   ·rw [if_neg hv] at h; cases h
  | range =>
   rw [hp] at h
   simp only [Option.some.injEq, Prod.mk.injEq] at h
   obtain ⟨rfl, rfl⟩ := h
   exact impl_readNumber_no a0 _ w hG h1 (Or.inr ⟨hp, rfl⟩)
  | _ =>
   rw [hp] at h
   simp only [Option.some.injEq, Prod.mk.injEq] at h
   obtain ⟨rfl, rfl⟩ := h
   exact impl_readNumber_no a0 _ w hG h1 (Or.inl ⟨hp, rfl⟩)
 ·rw [if_neg h1] at h; cases h

def bits_Len64.f (a0 : Int) : Option Int := if 0 ≤ a0 ∧ a0 ≤ 18446744073709551615 then some (Lib.bitLen a0.toNat : Int) else none
theorem bits_Len64.calls (a0 : Int) (r : Int) (w : World) (h : bits_Len64.f a0 = some r) :
  Calls Tryd.prog 24 #[.int .u64 a0] w fun e w' => e = .returned (.int .i64 r) ∧ Drawn0 w w' := by
 unfold bits_Len64.f at h
 by_cases h1 : 0 ≤ a0 ∧ a0 ≤ 18446744073709551615
 ·rw [if_pos h1] at h
  obtain rfl := Option.some.inj h
  refine (Tryd.bits_Len64 a0 w h1.1 h1.2).mono ?_
  rintro e w' ⟨rfl, rfl⟩
  exact ⟨rfl, Drawn0.refl _⟩
 ·rw [if_neg h1] at h; cases h

def stringslite_HasPrefix.f (a0 : ByteArray) (a1 : ByteArray) : Option (Bool) := if (a0.size : Int) ≥ (a1.size : Int) then (if 0 ≤ (a1.size : Int) then (if (a1.size : Int) ≤ (a0.size : Int) then (some ((a0.extract 0 ((a1.size : Int) : Int).toNat).toList == a1.toList)) else (none)) else (none)) else (some false)
theorem stringslite_HasPrefix.calls (a0 : ByteArray) (a1 : ByteArray) (r : Bool) (w : World) (h : stringslite_HasPrefix.f a0 a1 = some r) :
  Calls Tryd.prog 63 #[.string a0, .string a1] w fun e w' => e = .returned (.bool r) ∧ Drawn0 w w' := by
 have H : (if (a0.size : Int) ≥ (a1.size : Int) then (if 0 ≤ (a1.size : Int) then (if (a1.size : Int) ≤ (a0.size : Int) then (some ((a0.extract 0 ((a1.size : Int) : Int).toNat).toList == a1.toList)) else (none)) else (none)) else (some false)) = some r := h
 clear h
 by_cases c3 : (a0.size : Int) ≥ (a1.size : Int)
 ·rw [if_pos c3] at H
  have c3b0 : decide ((a1.size : Int) ≤ (a0.size : Int)) = true := decide_eq_true c3
  have c3b1 : decide (a1.size ≤ a0.size) = true := decide_eq_true (Int.ofNat_le.mp c3)
  clear c3
  by_cases c4 : 0 ≤ (a1.size : Int)
  ·rw [if_pos c4] at H
   have c4b0 := eq_true c4
   have c4b1 : decide (0 ≤ (a1.size : Int)) = true := decide_eq_true c4
   clear c4
   by_cases c5 : (a1.size : Int) ≤ (a0.size : Int)
   ·rw [if_pos c5] at H
    have c5b0 := eq_true c5
    have c5b1 : decide ((a1.size : Int) ≤ (a0.size : Int)) = true := decide_eq_true c5
    clear c5
    obtain rfl := Option.some.inj H
    go_enter Tryd.func63, Tryd.ntmps63
    go_wp2
    go_ret
    exact ⟨by first | rfl | (simp; done) | (simp [*]; done), by repeat (first | exact Drawn0.refl _ | apply Drawn0.step)⟩
   ·rw [if_neg c5] at H
    exact absurd H (by simp)
  ·rw [if_neg c4] at H
   exact absurd H (by simp)
 ·rw [if_neg c3] at H
  have c3b0 : decide ((a1.size : Int) ≤ (a0.size : Int)) = false := decide_eq_false c3
  have c3b1 : decide (a1.size ≤ a0.size) = false := decide_eq_false (fun h => c3 (Int.ofNat_le.mpr h))
  clear c3
  obtain rfl := Option.some.inj H
  go_enter Tryd.func63, Tryd.ntmps63
  go_wp2
  go_ret
  exact ⟨by first | rfl | (simp; done) | (simp [*]; done), by repeat (first | exact Drawn0.refl _ | apply Drawn0.step)⟩

def stringslite_TrimPrefix.f (a0 : ByteArray) (a1 : ByteArray) : Option (ByteArray) := (stringslite_HasPrefix.f a0 a1).bind fun t152 => (if t152 = true then (if 0 ≤ (a1.size : Int) then (if (a1.size : Int) ≤ (a0.size : Int) then (some (a0.extract ((a1.size : Int) : Int).toNat a0.size)) else (none)) else (none)) else (some a0))
theorem stringslite_TrimPrefix.calls (a0 : ByteArray) (a1 : ByteArray) (r : ByteArray) (w : World) (h : stringslite_TrimPrefix.f a0 a1 = some r) :
  Calls Tryd.prog 45 #[.string a0, .string a1] w fun e w' => e = .returned (.string r) ∧ Drawn0 w w' := by
 have H : ((stringslite_HasPrefix.f a0 a1).bind fun t152 => (if t152 = true then (if 0 ≤ (a1.size : Int) then (if (a1.size : Int) ≤ (a0.size : Int) then (some (a0.extract ((a1.size : Int) : Int).toNat a0.size)) else (none)) else (none)) else (some a0))) = some r := h
 clear h
 replace H := Option.bind_eq_some_iff.mp H
 obtain ⟨t152, A30, H⟩ := H
 replace H : (if t152 = true then (if 0 ≤ (a1.size : Int) then (if (a1.size : Int) ≤ (a0.size : Int) then (some (a0.extract ((a1.size : Int) : Int).toNat a0.size)) else (none)) else (none)) else (some a0)) = some r := H
 have A3 := zpS A30
 clear A30
 by_cases c4 : t152 = true
 ·subst c4
  have H1 : (if 0 ≤ (a1.size : Int) then (if (a1.size : Int) ≤ (a0.size : Int) then (some (a0.extract ((a1.size : Int) : Int).toNat a0.size)) else (none)) else (none)) = some r := by rw [if_pos rfl] at H; exact H
  clear H
  have H := H1
  clear H1
  by_cases c5 : 0 ≤ (a1.size : Int)
  ·rw [if_pos c5] at H
   have c5b0 := eq_true c5
   have c5b1 : decide (0 ≤ (a1.size : Int)) = true := decide_eq_true c5
   clear c5
   by_cases c6 : (a1.size : Int) ≤ (a0.size : Int)
   ·rw [if_pos c6] at H
    have c6b0 := eq_true c6
    have c6b1 : decide ((a1.size : Int) ≤ (a0.size : Int)) = true := decide_eq_true c6
    clear c6
    obtain rfl := Option.some.inj H
    go_enter Tryd.func45, Tryd.ntmps45
    go_wp2_with (first | ((with_reducible refine zgK (f := 63) rfl ?_); refine zqQ (some 7) rfl rfl Tryd.func63 (by kernel_rfl) rfl #[.string a0, .string a1] rfl (by (try simp only [List.map_toArray, List.map_cons, List.map_nil]); first | done | rfl | (simp only [List.length_drop, List.length_take]; rfl)) ?_; (with_reducible refine (stringslite_HasPrefix.calls a0 a1 true _ A3.out).mono ?_); rintro e w' ⟨rfl, ⟨nd, rfl⟩⟩; refine ⟨_, rfl, ?_⟩))
    go_ret
    exact ⟨by first | rfl | (simp; done) | (simp [*]; done), by repeat (first | exact Drawn0.refl _ | apply Drawn0.step)⟩
   ·rw [if_neg c6] at H
    exact absurd H (by simp)
  ·rw [if_neg c5] at H
   exact absurd H (by simp)
 ·replace c4 := Bool.eq_false_iff.mpr c4
  subst c4
  have H1 : (some a0) = some r := by rw [if_neg (show ¬ (false = true) by decide)] at H; exact H
  clear H
  have H := H1
  clear H1
  obtain rfl := Option.some.inj H
  go_enter Tryd.func45, Tryd.ntmps45
  go_wp2_with (first | ((with_reducible refine zgK (f := 63) rfl ?_); refine zqQ (some 7) rfl rfl Tryd.func63 (by kernel_rfl) rfl #[.string a0, .string a1] rfl (by (try simp only [List.map_toArray, List.map_cons, List.map_nil]); first | done | rfl | (simp only [List.length_drop, List.length_take]; rfl)) ?_; (with_reducible refine (stringslite_HasPrefix.calls a0 a1 false _ A3.out).mono ?_); rintro e w' ⟨rfl, ⟨nd, rfl⟩⟩; refine ⟨_, rfl, ?_⟩))
  go_ret
  exact ⟨by first | rfl | (simp; done) | (simp [*]; done), by repeat (first | exact Drawn0.refl _ | apply Drawn0.step)⟩

def zjE.f (a0 : ByteArray) (a1 : ByteArray) : Option (ByteArray) := (stringslite_TrimPrefix.f a0 a1).bind fun t153 => (some t153)
theorem zjE.calls (a0 : ByteArray) (a1 : ByteArray) (r : ByteArray) (w : World) (h : zjE.f a0 a1 = some r) :
  Calls Tryd.prog 27 #[.string a0, .string a1] w fun e w' => e = .returned (.string r) ∧ Drawn0 w w' := by
 have H : ((stringslite_TrimPrefix.f a0 a1).bind fun t153 => (some t153)) = some r := h
 clear h
 replace H := Option.bind_eq_some_iff.mp H
 obtain ⟨t153, A30, H⟩ := H
 replace H : (some t153) = some r := H
 have A3 := zpS A30
 clear A30
 obtain rfl := Option.some.inj H
 go_enter Tryd.func27, Tryd.ntmps27
 go_wp2_with (first | ((with_reducible refine zgK (f := 45) rfl ?_); refine zqQ (some 7) rfl rfl Tryd.func45 (by kernel_rfl) rfl #[.string a0, .string a1] rfl (by (try simp only [List.map_toArray, List.map_cons, List.map_nil]); first | done | rfl | (simp only [List.length_drop, List.length_take]; rfl)) ?_; (with_reducible refine (stringslite_TrimPrefix.calls a0 a1 t153 _ A3.out).mono ?_); rintro e w' ⟨rfl, ⟨nd, rfl⟩⟩; refine ⟨_, rfl, ?_⟩))
 go_ret
 exact ⟨by first | rfl | (simp; done) | (simp [*]; done), by repeat (first | exact Drawn0.refl _ | apply Drawn0.step)⟩

def stringslite_HasSuffix.f (a0 : ByteArray) (a1 : ByteArray) : Option (Bool) := if (a0.size : Int) ≥ (a1.size : Int) then (if 0 ≤ (wrap64 ((a0.size : Int) - (a1.size : Int))) then (if (wrap64 ((a0.size : Int) - (a1.size : Int))) ≤ (a0.size : Int) then (some ((a0.extract ((wrap64 ((a0.size : Int) - (a1.size : Int))) : Int).toNat a0.size).toList == a1.toList)) else (none)) else (none)) else (some false)
theorem stringslite_HasSuffix.calls (a0 : ByteArray) (a1 : ByteArray) (r : Bool) (w : World) (h : stringslite_HasSuffix.f a0 a1 = some r) :
  Calls Tryd.prog 62 #[.string a0, .string a1] w fun e w' => e = .returned (.bool r) ∧ Drawn0 w w' := by
 have H : (if (a0.size : Int) ≥ (a1.size : Int) then (if 0 ≤ (wrap64 ((a0.size : Int) - (a1.size : Int))) then (if (wrap64 ((a0.size : Int) - (a1.size : Int))) ≤ (a0.size : Int) then (some ((a0.extract ((wrap64 ((a0.size : Int) - (a1.size : Int))) : Int).toNat a0.size).toList == a1.toList)) else (none)) else (none)) else (some false)) = some r := h
 clear h
 by_cases c3 : (a0.size : Int) ≥ (a1.size : Int)
 ·rw [if_pos c3] at H
  have c3b0 : decide ((a1.size : Int) ≤ (a0.size : Int)) = true := decide_eq_true c3
  have c3b1 : decide (a1.size ≤ a0.size) = true := decide_eq_true (Int.ofNat_le.mp c3)
  clear c3
  obtain ⟨ji4, hji4⟩ : ∃ j_ : Int, (wrap64 ((a0.size : Int) - (a1.size : Int))) = j_ := ⟨_, rfl⟩
  replace H : (if 0 ≤ (ji4) then (if (ji4) ≤ (a0.size : Int) then (some ((a0.extract ((ji4) : Int).toNat a0.size).toList == a1.toList)) else (none)) else (none)) = some r := by first | (rw [hji4] at H; exact H) | (simp only [hji4] at H ⊢; exact H)
  have hji4w : (IntKind.i64.wrap ((a0.size : Int) - (a1.size : Int))) = ji4 := (zcN _).trans hji4
  by_cases c5 : 0 ≤ (ji4)
  ·rw [if_pos c5] at H
   have c5b0 := eq_true c5
   have c5b1 : decide (0 ≤ (ji4)) = true := decide_eq_true c5
   clear c5
   by_cases c6 : (ji4) ≤ (a0.size : Int)
   ·rw [if_pos c6] at H
    have c6b0 := eq_true c6
    have c6b1 : decide ((ji4) ≤ (a0.size : Int)) = true := decide_eq_true c6
    clear c6
    obtain rfl := Option.some.inj H
    go_enter Tryd.func62, Tryd.ntmps62
    go_wp2
    go_ret
    exact ⟨by first | rfl | (simp; done) | (simp only [← hji4] <;> (first | rfl | simp)) | (simp [*]; done), by repeat (first | exact Drawn0.refl _ | apply Drawn0.step)⟩
   ·rw [if_neg c6] at H
    exact absurd H (by simp)
  ·rw [if_neg c5] at H
   exact absurd H (by simp)
 ·rw [if_neg c3] at H
  have c3b0 : decide ((a1.size : Int) ≤ (a0.size : Int)) = false := decide_eq_false c3
  have c3b1 : decide (a1.size ≤ a0.size) = false := decide_eq_false (fun h => c3 (Int.ofNat_le.mpr h))
  clear c3
  obtain rfl := Option.some.inj H
  go_enter Tryd.func62, Tryd.ntmps62
  go_wp2
  go_ret
  exact ⟨by first | rfl | (simp; done) | (simp [*]; done), by repeat (first | exact Drawn0.refl _ | apply Drawn0.step)⟩

def stringslite_CutSuffix.f (a0 : ByteArray) (a1 : ByteArray) : Option (ByteArray × Bool) := (stringslite_HasSuffix.f a0 a1).bind fun t154 => (if t154 = true then (if 0 ≤ (wrap64 ((a0.size : Int) - (a1.size : Int))) then (if (wrap64 ((a0.size : Int) - (a1.size : Int))) ≤ (a0.size : Int) then (some (a0.extract 0 ((wrap64 ((a0.size : Int) - (a1.size : Int))) : Int).toNat, true)) else (none)) else (none)) else (some (a0, false)))
theorem stringslite_CutSuffix.calls (a0 : ByteArray) (a1 : ByteArray) (r1 : ByteArray) (r2 : Bool) (w : World) (h : stringslite_CutSuffix.f a0 a1 = some (r1, r2)) :
  Calls Tryd.prog 49 #[.string a0, .string a1] w fun e w' => e = .returned (.tuple #[.string r1, .bool r2]) ∧ Drawn0 w w' := by
 have H : ((stringslite_HasSuffix.f a0 a1).bind fun t154 => (if t154 = true then (if 0 ≤ (wrap64 ((a0.size : Int) - (a1.size : Int))) then (if (wrap64 ((a0.size : Int) - (a1.size : Int))) ≤ (a0.size : Int) then (some (a0.extract 0 ((wrap64 ((a0.size : Int) - (a1.size : Int))) : Int).toNat, true)) else (none)) else (none)) else (some (a0, false)))) = some (r1, r2) := h
 clear h
 replace H := Option.bind_eq_some_iff.mp H
 obtain ⟨t154, A30, H⟩ := H
 replace H : (if t154 = true then (if 0 ≤ (wrap64 ((a0.size : Int) - (a1.size : Int))) then (if (wrap64 ((a0.size : Int) - (a1.size : Int))) ≤ (a0.size : Int) then (some (a0.extract 0 ((wrap64 ((a0.size : Int) - (a1.size : Int))) : Int).toNat, true)) else (none)) else (none)) else (some (a0, false))) = some (r1, r2) := H
 have A3 := zpS A30
 clear A30
 by_cases c4 : t154 = true
 ·subst c4
  have H1 : (if 0 ≤ (wrap64 ((a0.size : Int) - (a1.size : Int))) then (if (wrap64 ((a0.size : Int) - (a1.size : Int))) ≤ (a0.size : Int) then (some (a0.extract 0 ((wrap64 ((a0.size : Int) - (a1.size : Int))) : Int).toNat, true)) else (none)) else (none)) = some (r1, r2) := by rw [if_pos rfl] at H; exact H
  clear H
  have H := H1
  clear H1
  obtain ⟨ji5, hji5⟩ : ∃ j_ : Int, (wrap64 ((a0.size : Int) - (a1.size : Int))) = j_ := ⟨_, rfl⟩
  replace H : (if 0 ≤ (ji5) then (if (ji5) ≤ (a0.size : Int) then (some (a0.extract 0 ((ji5) : Int).toNat, true)) else (none)) else (none)) = some (r1, r2) := by first | (rw [hji5] at H; exact H) | (simp only [hji5] at H ⊢; exact H)
  (try rw [hji5] at A3)
  have hji5w : (IntKind.i64.wrap ((a0.size : Int) - (a1.size : Int))) = ji5 := (zcN _).trans hji5
  by_cases c6 : 0 ≤ (ji5)
  ·rw [if_pos c6] at H
   have c6b0 := eq_true c6
   have c6b1 : decide (0 ≤ (ji5)) = true := decide_eq_true c6
   clear c6
   by_cases c7 : (ji5) ≤ (a0.size : Int)
   ·rw [if_pos c7] at H
    have c7b0 := eq_true c7
    have c7b1 : decide ((ji5) ≤ (a0.size : Int)) = true := decide_eq_true c7
    clear c7
    simp only [Option.some.injEq, Prod.mk.injEq] at H
    obtain ⟨rfl, rfl⟩ := H
    go_enter Tryd.func49, Tryd.ntmps49
    go_wp2_with (first | ((with_reducible refine zgK (f := 62) rfl ?_); refine zqQ (some 8) rfl rfl Tryd.func62 (by kernel_rfl) rfl #[.string a0, .string a1] rfl (by (try simp only [List.map_toArray, List.map_cons, List.map_nil]); first | done | rfl | (simp only [List.length_drop, List.length_take]; rfl)) ?_; (with_reducible refine (stringslite_HasSuffix.calls a0 a1 true _ A3.out).mono ?_); rintro e w' ⟨rfl, ⟨nd, rfl⟩⟩; refine ⟨_, rfl, ?_⟩))
    go_ret2
    exact ⟨by first | rfl | (simp; done) | (simp only [← hji5] <;> (first | rfl | simp)) | (simp [*]; done), by repeat (first | exact Drawn0.refl _ | apply Drawn0.step)⟩
   ·rw [if_neg c7] at H
    exact absurd H (by simp)
  ·rw [if_neg c6] at H
   exact absurd H (by simp)
 ·replace c4 := Bool.eq_false_iff.mpr c4
  subst c4
  have H1 : (some (a0, false)) = some (r1, r2) := by rw [if_neg (show ¬ (false = true) by decide)] at H; exact H
  clear H
  have H := H1
  clear H1
  simp only [Option.some.injEq, Prod.mk.injEq] at H
  obtain ⟨rfl, rfl⟩ := H
  go_enter Tryd.func49, Tryd.ntmps49
  go_wp2_with (first | ((with_reducible refine zgK (f := 62) rfl ?_); refine zqQ (some 8) rfl rfl Tryd.func62 (by kernel_rfl) rfl #[.string a0, .string a1] rfl (by (try simp only [List.map_toArray, List.map_cons, List.map_nil]); first | done | rfl | (simp only [List.length_drop, List.length_take]; rfl)) ?_; (with_reducible refine (stringslite_HasSuffix.calls a0 a1 false _ A3.out).mono ?_); rintro e w' ⟨rfl, ⟨nd, rfl⟩⟩; refine ⟨_, rfl, ?_⟩))
  go_ret2
  exact ⟨by first | rfl | (simp; done) | (simp [*]; done), by repeat (first | exact Drawn0.refl _ | apply Drawn0.step)⟩

def zlW.f (a0 : ByteArray) (a1 : ByteArray) : Option (ByteArray × Bool) := (stringslite_CutSuffix.f a0 a1).bind fun bt155 => (some (bt155.1, bt155.2))
theorem zlW.calls (a0 : ByteArray) (a1 : ByteArray) (r1 : ByteArray) (r2 : Bool) (w : World) (h : zlW.f a0 a1 = some (r1, r2)) :
  Calls Tryd.prog 34 #[.string a0, .string a1] w fun e w' => e = .returned (.tuple #[.string r1, .bool r2]) ∧ Drawn0 w w' := by
 have H : ((stringslite_CutSuffix.f a0 a1).bind fun bt155 => (some (bt155.1, bt155.2))) = some (r1, r2) := h
 clear h
 replace H := Option.bind_eq_some_iff.mp H
 obtain ⟨⟨t155, t156⟩, A30, H⟩ := H
 replace H : (some (t155, t156)) = some (r1, r2) := H
 have A3 := zpS A30
 clear A30
 simp only [Option.some.injEq, Prod.mk.injEq] at H
 obtain ⟨rfl, rfl⟩ := H
 go_enter Tryd.func34, Tryd.ntmps34
 go_wp2_with (first | ((with_reducible refine zgK (f := 49) rfl ?_); refine zqQ (some 8) rfl rfl Tryd.func49 (by kernel_rfl) rfl #[.string a0, .string a1] rfl (by (try simp only [List.map_toArray, List.map_cons, List.map_nil]); first | done | rfl | (simp only [List.length_drop, List.length_take]; rfl)) ?_; (with_reducible refine (stringslite_CutSuffix.calls a0 a1 t155 t156 _ A3.out).mono ?_); rintro e w' ⟨rfl, ⟨nd, rfl⟩⟩; refine ⟨_, rfl, ?_⟩))
 go_ret2
 exact ⟨by first | rfl | (simp; done) | (simp [*]; done), by repeat (first | exact Drawn0.refl _ | apply Drawn0.step)⟩

end Go.Proofs.YtbkcmdccomngnaaDoor.PFnExactReadLine
