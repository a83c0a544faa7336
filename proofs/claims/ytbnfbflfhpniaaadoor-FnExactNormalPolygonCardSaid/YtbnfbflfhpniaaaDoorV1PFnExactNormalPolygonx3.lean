-- Printed for this claim by this session's program pp.py, which drives the kit's print with additions. Not trusted: Lean checks it.
import Derived.Test.YtbnfbflfhpniaaaDoorV1PFnExactNormalPolygonx0
namespace Go.Proofs.YtbnfbflfhpniaaaDoor.PFnExactNormalPolygon
open Go.RowKit Go.Proofs.YtbnfbflfhpniaaaDoorW.PrintWords Go.Proofs.YtbnfbflfhpniaaaDoorW.PrintLast Go.Proofs.YtbnfbflfhpniaaaDoorW.PrintMore
attribute [local go_sem] zbB ziC zrC zhD znE zuB znH zkT   -- for this text's walks alone
set_option linter.unusedVariables false
set_option maxHeartbeats 8000000
set_option maxRecDepth 100000
set_option linter.unusedSimpArgs false

mutual
def zhR.j0 : Nat → Bool → Int → Int → Int → Option (Int × Int × Int)
 | 0, _, _, _, _ => none
 | k + 1, x10, x115000, x115001, x115002 => if x10 = true then (some (0, 0, 0)) else (zhR.l0 k x115000 x115001 x115002)
def zhR.l0 : Nat → Int → Int → Int → Option (Int × Int × Int)
 | 0, _, _, _ => none
 | k + 1, x115000, x115001, x115002 => if x115002 > 0 then (if (Int.tmod x115000 2) = 0 then (if (Int.tmod x115001 2) = 0 then (zhR.l0 k (wrap64 (Int.tdiv x115000 2)) (wrap64 (Int.tdiv x115001 2)) (wrap64 (x115002 - 1))) else (some (x115000, x115001, x115002))) else (some (x115000, x115001, x115002))) else (some (x115000, x115001, x115002))
end
def zhR.f (k : Nat) (a0_0 : Int) (a0_1 : Int) (a0_2 : Int) : Option (Int × Int × Int) := if a0_0 = 0 then (zhR.j0 k (a0_1 == 0) a0_0 a0_1 a0_2) else (zhR.j0 k false a0_0 a0_1 a0_2)
theorem zhR.mono_l : ∀ k, (∀ y0 y1 y2 y3, LeO (zhR.j0 k y0 y1 y2 y3) (zhR.j0 (k + 1) y0 y1 y2 y3)) ∧ (∀ y0 y1 y2, LeO (zhR.l0 k y0 y1 y2) (zhR.l0 (k + 1) y0 y1 y2))
 | 0 => ⟨fun _ _ _ _ r h => by simp [zhR.j0] at h, fun _ _ _ r h => by simp [zhR.l0] at h⟩
 | k + 1 => by
  obtain ⟨ih0, ih1⟩ := zhR.mono_l k
  refine ⟨?_, ?_⟩
  ·intro y0 y1 y2 y3
   unfold zhR.j0
   repeat' first
   | (with_reducible exact ih0 _ _ _ _)
   | (with_reducible exact ih1 _ _ _)
   | (with_reducible exact LeO.refl _)
   | (with_reducible exact LeO.none _)
   | (with_reducible refine LeO.ite ?_ ?_)
   | (with_reducible refine LeO.bind ?_ (fun _ => ?_))
   | exact ih0 _ _ _ _
   | exact ih1 _ _ _
   | exact LeO.none _
   | refine LeO.ite ?_ ?_
   | refine LeO.bind ?_ (fun _ => ?_)
  ·intro y0 y1 y2
   unfold zhR.l0
   repeat' first
   | (with_reducible exact ih0 _ _ _ _)
   | (with_reducible exact ih1 _ _ _)
   | (with_reducible exact LeO.refl _)
   | (with_reducible exact LeO.none _)
   | (with_reducible refine LeO.ite ?_ ?_)
   | (with_reducible refine LeO.bind ?_ (fun _ => ?_))
   | exact ih0 _ _ _ _
   | exact ih1 _ _ _
   | exact LeO.none _
   | refine LeO.ite ?_ ?_
   | refine LeO.bind ?_ (fun _ => ?_)
theorem zhR.mono : ∀ a0 a1 a2 k, LeO (zhR.f k a0 a1 a2) (zhR.f (k + 1) a0 a1 a2) := by
 intro a0 a1 a2 k
 obtain ⟨ih0, ih1⟩ := zhR.mono_l k
 unfold zhR.f
 repeat' first
   | (with_reducible exact ih0 _ _ _ _)
   | (with_reducible exact ih1 _ _ _)
   | (with_reducible exact LeO.refl _)
   | (with_reducible exact LeO.none _)
   | (with_reducible refine LeO.ite ?_ ?_)
   | (with_reducible refine LeO.bind ?_ (fun _ => ?_))
   | exact ih0 _ _ _ _
   | exact ih1 _ _ _
   | exact LeO.none _
   | refine LeO.ite ?_ ?_
   | refine LeO.bind ?_ (fun _ => ?_)
theorem zhR.calls (k : Nat) (a0_0 : Int) (a0_1 : Int) (a0_2 : Int) (r1 : Int) (r2 : Int) (r3 : Int) (w : World) (h : zhR.f k a0_0 a0_1 a0_2 = some (r1, r2, r3)) :
  Calls Tryd.prog 71 #[.agg #[.int .i64 a0_0, .int .i64 a0_1, .int .i64 a0_2]] w fun e w' => e = .returned (.agg #[.int .i64 r1, .int .i64 r2, .int .i64 r3]) ∧ Below w.heap.size w w' := by
 have hu63 := Tryd.underlying63
 have HB := zpS (Below.refl w.heap.size w)
 have H : (if a0_0 = 0 then (zhR.j0 k (a0_1 == 0) a0_0 a0_1 a0_2) else (zhR.j0 k false a0_0 a0_1 a0_2)) = some (r1, r2, r3) := h
 clear h
 have HC2 := zpS H
 clear H
 go_enter Tryd.func71, Tryd.ntmps71
 go_upto_region 1 with (first | ((with_reducible refine zpZ (N := 1) rfl ?_); refine bx_ 1 #[.int .i64 a0_0, .int .i64 a0_1, .int .i64 a0_2] 63 ?_; intro gb114 hg w3 hbox hb; have n0_ := (ns_ hb); have n1_ := zpS (hbox); have n2_ := (ng_ hg); have n3_ := n2_; clear HB; have HB := n0_; have BK114 := n1_; have GW114 := n2_; have GE114 := n3_; clear n0_ n1_ n2_ n3_; clear hb hbox hg) | ((with_reducible refine zpZ (N := 2) rfl ?_); refine bx_ 2 #[.int .i64 0, .int .i64 0, .int .i64 0] 63 ?_; intro gb115 hg w4 hbox hb; have n0_ := zpS (zgM (g := gb114) (o := .cells #[.int .i64 a0_0, .int .i64 a0_1, .int .i64 a0_2] 63 (0, 0)) bk_ hb); have n1_ := (ns_ hb); have n2_ := zpS (hbox); have n3_ := (ng_ hg); have n4_ := n3_; have n5_ := zpS ((by rw [hg]; exact Nat.ne_of_lt (zmN (g := gb114) (o := .cells #[.int .i64 a0_0, .int .i64 a0_1, .int .i64 a0_2] 63 (0, 0)) bk_) : gb114 ≠ gb115)); have n6_ := zpS ((by rw [hg]; exact Nat.ne_of_gt (zmN (g := gb114) (o := .cells #[.int .i64 a0_0, .int .i64 a0_1, .int .i64 a0_2] 63 (0, 0)) bk_) : gb115 ≠ gb114)); clear BK114; clear HB; have BK114 := n0_; have HB := n1_; have BK115 := n2_; have GW115 := n3_; have GE115 := n4_; have NB114_115 := n5_; have NB115_114 := n6_; clear n0_ n1_ n2_ n3_ n4_ n5_ n6_; clear hb hbox hg))
 (try simp only [Act.put, set_a_, set_b_, set_c_])
 go_cut [10] (fun v10 wc => ∃ (kq : Nat) (x10_1 : Bool), v10 = .bool x10_1 ∧ Aside0 (zhR.j0 kq x10_1 a0_0 a0_1 a0_2 = some (r1, r2, r3)) ∧ Aside0 (kq ≤ k) ∧ Aside0 (wc.heap[gb114]? = some (.cells #[.int .i64 a0_0, .int .i64 a0_1, .int .i64 a0_2] 63 (0, 0))) ∧ Aside0 (wc.heap[gb115]? = some (.cells #[.int .i64 0, .int .i64 0, .int .i64 0] 63 (0, 0))) ∧ Aside0 (Below w.heap.size w wc))
 case first =>
  have H := HC2.out
  clear HC2
  by_cases c5 : a0_0 = 0
  ·rw [if_pos c5] at H
   have c5b0 : (a0_0 == 0) = true := beq_iff_eq.mpr c5
   have c5b1 : (a0_0 != 0) = false := bne_eq_false_iff_eq.mpr c5
   clear c5
   (first | rw [c5b0] | (simp only [zcM, ziK]; rw [c5b0]) | skip)
   have H' := zpS H
   clear H
   have hnb6 := NB114_115.out
   have hnc6 := NB115_114.out
   obtain ⟨hcz7_0, hcz7_1, hcz7_2⟩ := zdT BK114.out
   obtain ⟨hfz7_0, hfz7_1, hfz7_2⟩ := zqD BK114.out
   go_wp2
   go_meet
   case rel => exact ⟨_, ((a0_1 == 0)), (by first | rfl | (simp; done) | (simp [*]; done)), H', ⟨by first | omega | exact Nat.le_refl _⟩, ⟨bk_⟩, ⟨bk_⟩, ⟨bb_⟩⟩
  ·rw [if_neg c5] at H
   have c5b0 : (a0_0 == 0) = false := beq_eq_false_iff_ne.mpr c5
   have c5b1 : (a0_0 != 0) = true := bne_iff_ne.mpr c5
   (first | rw [c5b0] | (simp only [zcM, ziK]; rw [c5b0]) | skip)
   have H' := zpS H
   clear H
   have hnb8 := NB114_115.out
   have hnc8 := NB115_114.out
   obtain ⟨hcz9_0, hcz9_1, hcz9_2⟩ := zdT BK114.out
   obtain ⟨hfz9_0, hfz9_1, hfz9_2⟩ := zqD BK114.out
   go_wp2
   go_meet
   case rel => exact ⟨_, (false), (by first | rfl | (simp; done) | (simp [*]; done)), H', ⟨by first | omega | exact Nat.le_refl _⟩, ⟨bk_⟩, ⟨bk_⟩, ⟨bb_⟩⟩
 case rest =>
  clear HC2
  try clear p2
  try clear c5
  try clear c5b0
  try clear c5b1
  try clear c6
  try clear c7
  try clear c8
  try clear hcz7_0
  try clear hcz7_1
  try clear hcz7_2
  try clear hcz9_0
  try clear hcz9_1
  try clear hcz9_2
  try clear hfz7_0
  try clear hfz7_1
  try clear hfz7_2
  try clear hfz9_0
  try clear hfz9_1
  try clear hfz9_2
  obtain ⟨kq, x10_1, rfl, HA, HJ1, BK114, BK115, HB⟩ := hcut
  cases kq with
  | zero => exact absurd HA.out (by simp [zhR.j0])
  | succ kj1 =>
   have H := HA.out
   clear HA
   simp only [zhR.j0] at H
   by_cases c10 : x10_1 = true
   ·subst c10
    have H1 : (some (0, 0, 0)) = some (r1, r2, r3) := by rw [if_pos rfl] at H; exact H
    clear H
    have H := H1
    clear H1
    simp only [Option.some.injEq, Prod.mk.injEq] at H
    obtain ⟨rfl, rfl, rfl⟩ := H
    have hnb11 := NB115_114.out
    have hnc11 := NB114_115.out
    obtain ⟨hcz12_0, hcz12_1, hcz12_2⟩ := zdT BK115.out
    obtain ⟨hfz12_0, hfz12_1, hfz12_2⟩ := zqD BK115.out
    go_wp2
    refine bodyPost_ret (results_cell_row rfl _ _ gb115 63 #[.int .i64 0, .int .i64 0, .int .i64 0] (0, 0) _ rfl (by (with_reducible repeat (first | apply zuW | apply ztN | apply zqY)); refine zlL (cs := #[.int .i64 0, .int .i64 0, .int .i64 0]) ?_ 2 _ rfl; (with_reducible repeat (first | apply zuW | apply ztN | apply zqY)); refine zlL (cs := #[.int .i64 0, .int .i64 0, .int .i64 0]) ?_ 1 _ rfl; (with_reducible repeat (first | apply zuW | apply ztN | apply zqY)); refine zlL (cs := #[.int .i64 0, .int .i64 0, .int .i64 0]) ?_ 0 _ rfl; (with_reducible repeat (first | apply zuW | apply ztN | apply zqY)); exact BK115.out) Tryd.underlying63 rfl (by kernel_rfl)) rfl ?_
    exact ⟨by first | rfl | (simp [ziS, znJ] <;> rfl) | (simp [*, ziS, znJ] <;> rfl), bb_⟩
   ·replace c10 := Bool.eq_false_iff.mpr c10
    subst c10
    have H1 : (zhR.l0 kj1 a0_0 a0_1 a0_2) = some (r1, r2, r3) := by rw [if_neg (show ¬ (false = true) by decide)] at H; exact H
    clear H
    have H := H1
    clear H1
    have H' := zpS H
    clear H
    go_wp2
    (try go_simp)
    go_loopg [] kj1 (fun kq w' => ∃ (x115000_2 : Int) (x115001_2 : Int) (x115002_2 : Int), Aside0 (zhR.l0 kq x115000_2 x115001_2 x115002_2 = some (r1, r2, r3)) ∧ Aside0 (kq ≤ kj1) ∧ Aside0 (w'.heap[gb114]? = some (.cells #[.int .i64 x115000_2, .int .i64 x115001_2, .int .i64 x115002_2] 63 (0, 0))) ∧ Aside0 (w'.heap[gb115]? = some (.cells #[.int .i64 0, .int .i64 0, .int .i64 0] 63 (0, 0))) ∧ Aside0 (Below w.heap.size w w'))
    case atStart => exact ⟨(a0_0), (a0_1), (a0_2), H', ⟨Nat.le_refl _⟩, ⟨bk_⟩, ⟨bk_⟩, ⟨bb_⟩⟩
    case round =>
     clear H'
     try clear c1
     try clear p2
     try clear c5
     try clear c5b0
     try clear c5b1
     try clear c6
     try clear c7
     try clear c8
     try clear c10
     try clear c11
     try clear hcz12_0
     try clear hcz12_1
     try clear hcz12_2
     try clear hcz7_0
     try clear hcz7_1
     try clear hcz7_2
     try clear hcz9_0
     try clear hcz9_1
     try clear hcz9_2
     try clear hfz12_0
     try clear hfz12_1
     try clear hfz12_2
     try clear hfz7_0
     try clear hfz7_1
     try clear hfz7_2
     try clear hfz9_0
     try clear hfz9_1
     try clear hfz9_2
     try clear p2
     obtain ⟨x115000_2, x115001_2, x115002_2, HA, HK2, BK114, BK115, HB⟩ := hrel
     cases gk with
     | zero => exact absurd HA.out (by simp [zhR.l0])
     | succ k2 =>
      have H := HA.out
      clear HA
      simp only [zhR.l0] at H
      by_cases c13 : x115002_2 > 0
      ·rw [if_pos c13] at H
       have c13b0 : decide (0 < x115002_2) = true := decide_eq_true c13
       clear c13
       by_cases c14 : (Int.tmod x115000_2 2) = 0
       ·rw [if_pos c14] at H
        have c14b0 : ((Int.tmod x115000_2 2) == 0) = true := beq_iff_eq.mpr c14
        have c14b1 : ((Int.tmod x115000_2 2) != 0) = false := bne_eq_false_iff_eq.mpr c14
        clear c14
        by_cases c15 : (Int.tmod x115001_2 2) = 0
        ·rw [if_pos c15] at H
         have c15b0 : ((Int.tmod x115001_2 2) == 0) = true := beq_iff_eq.mpr c15
         have c15b1 : ((Int.tmod x115001_2 2) != 0) = false := bne_eq_false_iff_eq.mpr c15
         clear c15
         have H' := zpS H
         clear H
         have hnb16 := NB114_115.out
         have hnc16 := NB115_114.out
         obtain ⟨hcz17_0, hcz17_1, hcz17_2⟩ := zdT BK114.out
         obtain ⟨hfz17_0, hfz17_1, hfz17_2⟩ := zqD BK114.out
         go_wp2
         go_roundg k2
         case measure => have := HJ1.out; have := HK2.out; omega
         case rel => exact ⟨(wrap64 (Int.tdiv x115000_2 2)), (wrap64 (Int.tdiv x115001_2 2)), (wrap64 (x115002_2 - 1)), H', ⟨by have := HJ1.out; have := HK2.out; omega⟩, ⟨by (with_reducible repeat (first | apply zuW | apply ztN | apply zqY)); refine zlL (cs := #[.int .i64 (wrap64 (Int.tdiv x115000_2 2)), .int .i64 (wrap64 (Int.tdiv x115001_2 2)), .int .i64 x115002_2]) ?_ 2 _ rfl; (with_reducible repeat (first | apply zuW | apply ztN | apply zqY)); refine zlL (cs := #[.int .i64 (wrap64 (Int.tdiv x115000_2 2)), .int .i64 x115001_2, .int .i64 x115002_2]) ?_ 1 _ rfl; (with_reducible repeat (first | apply zuW | apply ztN | apply zqY)); refine zlL (cs := #[.int .i64 x115000_2, .int .i64 x115001_2, .int .i64 x115002_2]) ?_ 0 _ rfl; (with_reducible repeat (first | apply zuW | apply ztN | apply zqY)); exact BK114.out⟩, ⟨by (with_reducible repeat (first | apply zuW | apply ztN | apply zqY)); refine znI ?_ NB115_114.out _; (with_reducible repeat (first | apply zuW | apply ztN | apply zqY)); refine znI ?_ NB115_114.out _; (with_reducible repeat (first | apply zuW | apply ztN | apply zqY)); refine znI ?_ NB115_114.out _; (with_reducible repeat (first | apply zuW | apply ztN | apply zqY)); exact BK115.out⟩, ⟨bb_⟩⟩
        ·rw [if_neg c15] at H
         have c15b0 : ((Int.tmod x115001_2 2) == 0) = false := beq_eq_false_iff_ne.mpr c15
         have c15b1 : ((Int.tmod x115001_2 2) != 0) = true := bne_iff_ne.mpr c15
         simp only [Option.some.injEq, Prod.mk.injEq] at H
         obtain ⟨rfl, rfl, rfl⟩ := H
         have hnb18 := NB114_115.out
         have hnc18 := NB115_114.out
         obtain ⟨hcz19_0, hcz19_1, hcz19_2⟩ := zdT BK114.out
         obtain ⟨hfz19_0, hfz19_1, hfz19_2⟩ := zqD BK114.out
         obtain ⟨hcz20_0, hcz20_1, hcz20_2⟩ := zdT BK115.out
         obtain ⟨hfz20_0, hfz20_1, hfz20_2⟩ := zqD BK115.out
         go_wp2
         refine bodyPost_ret (results_cell_row rfl _ _ gb115 63 #[.int .i64 x115000_2, .int .i64 x115001_2, .int .i64 x115002_2] (0, 0) _ rfl (by (with_reducible repeat (first | apply zuW | apply ztN | apply zqY)); refine zlL (cs := #[.int .i64 x115000_2, .int .i64 x115001_2, .int .i64 0]) ?_ 2 _ rfl; (with_reducible repeat (first | apply zuW | apply ztN | apply zqY)); refine zlL (cs := #[.int .i64 x115000_2, .int .i64 0, .int .i64 0]) ?_ 1 _ rfl; (with_reducible repeat (first | apply zuW | apply ztN | apply zqY)); refine zlL (cs := #[.int .i64 0, .int .i64 0, .int .i64 0]) ?_ 0 _ rfl; (with_reducible repeat (first | apply zuW | apply ztN | apply zqY)); exact BK115.out) Tryd.underlying63 rfl (by kernel_rfl)) rfl ?_
         exact ⟨by first | rfl | (simp [ziS, znJ] <;> rfl) | (simp [*, ziS, znJ] <;> rfl), bb_⟩
       ·rw [if_neg c14] at H
        have c14b0 : ((Int.tmod x115000_2 2) == 0) = false := beq_eq_false_iff_ne.mpr c14
        have c14b1 : ((Int.tmod x115000_2 2) != 0) = true := bne_iff_ne.mpr c14
        simp only [Option.some.injEq, Prod.mk.injEq] at H
        obtain ⟨rfl, rfl, rfl⟩ := H
        have hnb21 := NB114_115.out
        have hnc21 := NB115_114.out
        obtain ⟨hcz22_0, hcz22_1, hcz22_2⟩ := zdT BK114.out
        obtain ⟨hfz22_0, hfz22_1, hfz22_2⟩ := zqD BK114.out
        obtain ⟨hcz23_0, hcz23_1, hcz23_2⟩ := zdT BK115.out
        obtain ⟨hfz23_0, hfz23_1, hfz23_2⟩ := zqD BK115.out
        go_wp2
        refine bodyPost_ret (results_cell_row rfl _ _ gb115 63 #[.int .i64 x115000_2, .int .i64 x115001_2, .int .i64 x115002_2] (0, 0) _ rfl (by (with_reducible repeat (first | apply zuW | apply ztN | apply zqY)); refine zlL (cs := #[.int .i64 x115000_2, .int .i64 x115001_2, .int .i64 0]) ?_ 2 _ rfl; (with_reducible repeat (first | apply zuW | apply ztN | apply zqY)); refine zlL (cs := #[.int .i64 x115000_2, .int .i64 0, .int .i64 0]) ?_ 1 _ rfl; (with_reducible repeat (first | apply zuW | apply ztN | apply zqY)); refine zlL (cs := #[.int .i64 0, .int .i64 0, .int .i64 0]) ?_ 0 _ rfl; (with_reducible repeat (first | apply zuW | apply ztN | apply zqY)); exact BK115.out) Tryd.underlying63 rfl (by kernel_rfl)) rfl ?_
        exact ⟨by first | rfl | (simp [ziS, znJ] <;> rfl) | (simp [*, ziS, znJ] <;> rfl), bb_⟩
      ·rw [if_neg c13] at H
       have c13b0 : decide (0 < x115002_2) = false := decide_eq_false c13
       clear c13
       simp only [Option.some.injEq, Prod.mk.injEq] at H
       obtain ⟨rfl, rfl, rfl⟩ := H
       have hnb24 := NB114_115.out
       have hnc24 := NB115_114.out
       obtain ⟨hcz25_0, hcz25_1, hcz25_2⟩ := zdT BK114.out
       obtain ⟨hfz25_0, hfz25_1, hfz25_2⟩ := zqD BK114.out
       obtain ⟨hcz26_0, hcz26_1, hcz26_2⟩ := zdT BK115.out
       obtain ⟨hfz26_0, hfz26_1, hfz26_2⟩ := zqD BK115.out
       go_wp2
       refine bodyPost_ret (results_cell_row rfl _ _ gb115 63 #[.int .i64 x115000_2, .int .i64 x115001_2, .int .i64 x115002_2] (0, 0) _ rfl (by (with_reducible repeat (first | apply zuW | apply ztN | apply zqY)); refine zlL (cs := #[.int .i64 x115000_2, .int .i64 x115001_2, .int .i64 0]) ?_ 2 _ rfl; (with_reducible repeat (first | apply zuW | apply ztN | apply zqY)); refine zlL (cs := #[.int .i64 x115000_2, .int .i64 0, .int .i64 0]) ?_ 1 _ rfl; (with_reducible repeat (first | apply zuW | apply ztN | apply zqY)); refine zlL (cs := #[.int .i64 0, .int .i64 0, .int .i64 0]) ?_ 0 _ rfl; (with_reducible repeat (first | apply zuW | apply ztN | apply zqY)); exact BK115.out) Tryd.underlying63 rfl (by kernel_rfl)) rfl ?_
       exact ⟨by first | rfl | (simp [ziS, znJ] <;> rfl) | (simp [*, ziS, znJ] <;> rfl), bb_⟩

mutual
def zhQ.l0 : Nat → Int → Int → Int → Int → Int → Int → Option (Int × Int × Int)
 | 0, _, _, _, _, _, _ => none
 | k + 1, x117000, x117001, x117002, x118000, x118001, x118002 => if x117002 < x118002 then (zhQ.l0 k (wrap64 (x117000 * 2)) (wrap64 (x117001 * 2)) (wrap64 (x117002 + 1)) x118000 x118001 x118002) else (zhQ.l1 k x117000 x117001 x117002 x118000 x118001 x118002)
def zhQ.l1 : Nat → Int → Int → Int → Int → Int → Int → Option (Int × Int × Int)
 | 0, _, _, _, _, _, _ => none
 | k + 1, x117000, x117001, x117002, x118000, x118001, x118002 => if x118002 < x117002 then (zhQ.l1 k x117000 x117001 x117002 (wrap64 (x118000 * 2)) (wrap64 (x118001 * 2)) (wrap64 (x118002 + 1))) else ((zhR.f k (wrap64 (x117000 + x118000)) (wrap64 (x117001 + x118001)) x117002).bind fun bt119 => (some (bt119.1, bt119.2.1, bt119.2.2)))
end
def zhQ.f (k : Nat) (a0_0 : Int) (a0_1 : Int) (a0_2 : Int) (a1_0 : Int) (a1_1 : Int) (a1_2 : Int) : Option (Int × Int × Int) := zhQ.l0 k a0_0 a0_1 a0_2 a1_0 a1_1 a1_2
theorem zhQ.mono_l : ∀ k, (∀ y0 y1 y2 y3 y4 y5, LeO (zhQ.l0 k y0 y1 y2 y3 y4 y5) (zhQ.l0 (k + 1) y0 y1 y2 y3 y4 y5)) ∧ (∀ y0 y1 y2 y3 y4 y5, LeO (zhQ.l1 k y0 y1 y2 y3 y4 y5) (zhQ.l1 (k + 1) y0 y1 y2 y3 y4 y5))
 | 0 => ⟨fun _ _ _ _ _ _ r h => by simp [zhQ.l0] at h, fun _ _ _ _ _ _ r h => by simp [zhQ.l1] at h⟩
 | k + 1 => by
  obtain ⟨ih0, ih1⟩ := zhQ.mono_l k
  refine ⟨?_, ?_⟩
  ·intro y0 y1 y2 y3 y4 y5
   unfold zhQ.l0
   repeat' first
   | (with_reducible exact ih0 _ _ _ _ _ _)
   | (with_reducible exact ih1 _ _ _ _ _ _)
   | (with_reducible exact zhR.mono _ _ _ _)
   | (with_reducible exact LeO.refl _)
   | (with_reducible exact LeO.none _)
   | (with_reducible refine LeO.ite ?_ ?_)
   | (with_reducible refine LeO.bind ?_ (fun _ => ?_))
   | exact ih0 _ _ _ _ _ _
   | exact ih1 _ _ _ _ _ _
   | exact zhR.mono _ _ _ _
   | exact LeO.none _
   | refine LeO.ite ?_ ?_
   | refine LeO.bind ?_ (fun _ => ?_)
  ·intro y0 y1 y2 y3 y4 y5
   unfold zhQ.l1
   repeat' first
   | (with_reducible exact ih0 _ _ _ _ _ _)
   | (with_reducible exact ih1 _ _ _ _ _ _)
   | (with_reducible exact zhR.mono _ _ _ _)
   | (with_reducible exact LeO.refl _)
   | (with_reducible exact LeO.none _)
   | (with_reducible refine LeO.ite ?_ ?_)
   | (with_reducible refine LeO.bind ?_ (fun _ => ?_))
   | exact ih0 _ _ _ _ _ _
   | exact ih1 _ _ _ _ _ _
   | exact zhR.mono _ _ _ _
   | exact LeO.none _
   | refine LeO.ite ?_ ?_
   | refine LeO.bind ?_ (fun _ => ?_)
theorem zhQ.mono : ∀ a0 a1 a2 a3 a4 a5 k, LeO (zhQ.f k a0 a1 a2 a3 a4 a5) (zhQ.f (k + 1) a0 a1 a2 a3 a4 a5) := by
 intro a0 a1 a2 a3 a4 a5 k
 obtain ⟨ih0, ih1⟩ := zhQ.mono_l k
 unfold zhQ.f
 repeat' first
   | (with_reducible exact ih0 _ _ _ _ _ _)
   | (with_reducible exact ih1 _ _ _ _ _ _)
   | (with_reducible exact zhR.mono _ _ _ _)
   | (with_reducible exact LeO.refl _)
   | (with_reducible exact LeO.none _)
   | (with_reducible refine LeO.ite ?_ ?_)
   | (with_reducible refine LeO.bind ?_ (fun _ => ?_))
   | exact ih0 _ _ _ _ _ _
   | exact ih1 _ _ _ _ _ _
   | exact zhR.mono _ _ _ _
   | exact LeO.none _
   | refine LeO.ite ?_ ?_
   | refine LeO.bind ?_ (fun _ => ?_)
theorem zhQ.calls (k : Nat) (a0_0 : Int) (a0_1 : Int) (a0_2 : Int) (a1_0 : Int) (a1_1 : Int) (a1_2 : Int) (r1 : Int) (r2 : Int) (r3 : Int) (w : World) (h : zhQ.f k a0_0 a0_1 a0_2 a1_0 a1_1 a1_2 = some (r1, r2, r3)) :
  Calls Tryd.prog 60 #[.agg #[.int .i64 a0_0, .int .i64 a0_1, .int .i64 a0_2], .agg #[.int .i64 a1_0, .int .i64 a1_1, .int .i64 a1_2]] w fun e w' => e = .returned (.agg #[.int .i64 r1, .int .i64 r2, .int .i64 r3]) ∧ Below w.heap.size w w' := by
 have hu63 := Tryd.underlying63
 have HB := zpS (Below.refl w.heap.size w)
 have H : (zhQ.l0 k a0_0 a0_1 a0_2 a1_0 a1_1 a1_2) = some (r1, r2, r3) := h
 clear h
 have H' := zpS H
 clear H
 go_enter Tryd.func60, Tryd.ntmps60
 go_wp2_with (first | ((with_reducible refine zpZ (N := 2) rfl ?_); refine bx_ 2 #[.int .i64 a0_0, .int .i64 a0_1, .int .i64 a0_2] 63 ?_; intro gb116 hg w3 hbox hb; have n0_ := (ns_ hb); have n1_ := zpS (hbox); have n2_ := (ng_ hg); have n3_ := n2_; clear HB; have HB := n0_; have BK116 := n1_; have GW116 := n2_; have GE116 := n3_; clear n0_ n1_ n2_ n3_; clear hb hbox hg) | ((with_reducible refine zpZ (N := 3) rfl ?_); refine bx_ 3 #[.int .i64 a1_0, .int .i64 a1_1, .int .i64 a1_2] 63 ?_; intro gb117 hg w4 hbox hb; have n0_ := zpS (zgM (g := gb116) (o := .cells #[.int .i64 a0_0, .int .i64 a0_1, .int .i64 a0_2] 63 (0, 0)) bk_ hb); have n1_ := (ns_ hb); have n2_ := zpS (hbox); have n3_ := (ng_ hg); have n4_ := n3_; have n5_ := zpS ((by rw [hg]; exact Nat.ne_of_lt (zmN (g := gb116) (o := .cells #[.int .i64 a0_0, .int .i64 a0_1, .int .i64 a0_2] 63 (0, 0)) bk_) : gb116 ≠ gb117)); have n6_ := zpS ((by rw [hg]; exact Nat.ne_of_gt (zmN (g := gb116) (o := .cells #[.int .i64 a0_0, .int .i64 a0_1, .int .i64 a0_2] 63 (0, 0)) bk_) : gb117 ≠ gb116)); clear BK116; clear HB; have BK116 := n0_; have HB := n1_; have BK117 := n2_; have GW117 := n3_; have GE117 := n4_; have NB116_117 := n5_; have NB117_116 := n6_; clear n0_ n1_ n2_ n3_ n4_ n5_ n6_; clear hb hbox hg) | ((with_reducible refine zpZ (N := 4) rfl ?_); refine bx_ 4 #[.int .i64 0, .int .i64 0, .int .i64 0] 63 ?_; intro gb118 hg w5 hbox hb; have n0_ := zpS (zgM (g := gb116) (o := .cells #[.int .i64 a0_0, .int .i64 a0_1, .int .i64 a0_2] 63 (0, 0)) bk_ hb); have n1_ := zpS (zgM (g := gb117) (o := .cells #[.int .i64 a1_0, .int .i64 a1_1, .int .i64 a1_2] 63 (0, 0)) bk_ hb); have n2_ := (ns_ hb); have n3_ := zpS (hbox); have n4_ := (ng_ hg); have n5_ := n4_; have n6_ := zpS ((by rw [hg]; exact Nat.ne_of_lt (zmN (g := gb116) (o := .cells #[.int .i64 a0_0, .int .i64 a0_1, .int .i64 a0_2] 63 (0, 0)) bk_) : gb116 ≠ gb118)); have n7_ := zpS ((by rw [hg]; exact Nat.ne_of_gt (zmN (g := gb116) (o := .cells #[.int .i64 a0_0, .int .i64 a0_1, .int .i64 a0_2] 63 (0, 0)) bk_) : gb118 ≠ gb116)); have n8_ := zpS ((by rw [hg]; exact Nat.ne_of_lt (zmN (g := gb117) (o := .cells #[.int .i64 a1_0, .int .i64 a1_1, .int .i64 a1_2] 63 (0, 0)) bk_) : gb117 ≠ gb118)); have n9_ := zpS ((by rw [hg]; exact Nat.ne_of_gt (zmN (g := gb117) (o := .cells #[.int .i64 a1_0, .int .i64 a1_1, .int .i64 a1_2] 63 (0, 0)) bk_) : gb118 ≠ gb117)); clear BK116; clear BK117; clear HB; have BK116 := n0_; have BK117 := n1_; have HB := n2_; have BK118 := n3_; have GW118 := n4_; have GE118 := n5_; have NB116_118 := n6_; have NB118_116 := n7_; have NB117_118 := n8_; have NB118_117 := n9_; clear n0_ n1_ n2_ n3_ n4_ n5_ n6_ n7_ n8_ n9_; clear hb hbox hg))
 (try go_simp)
 go_loopg [] k (fun kq w' => ∃ (x117000_1 : Int) (x117001_1 : Int) (x117002_1 : Int), Aside0 (zhQ.l0 kq x117000_1 x117001_1 x117002_1 a1_0 a1_1 a1_2 = some (r1, r2, r3)) ∧ Aside0 (kq ≤ k) ∧ Aside0 (w'.heap[gb116]? = some (.cells #[.int .i64 x117000_1, .int .i64 x117001_1, .int .i64 x117002_1] 63 (0, 0))) ∧ Aside0 (w'.heap[gb117]? = some (.cells #[.int .i64 a1_0, .int .i64 a1_1, .int .i64 a1_2] 63 (0, 0))) ∧ Aside0 (w'.heap[gb118]? = some (.cells #[.int .i64 0, .int .i64 0, .int .i64 0] 63 (0, 0))) ∧ Aside0 (Below w.heap.size w w'))
 case atStart => exact ⟨(a0_0), (a0_1), (a0_2), H', ⟨Nat.le_refl _⟩, ⟨bk_⟩, ⟨bk_⟩, ⟨bk_⟩, ⟨bb_⟩⟩
 case round =>
  clear H'
  try clear p2
  obtain ⟨x117000_1, x117001_1, x117002_1, HA, HK1, BK116, BK117, BK118, HB⟩ := hrel
  cases gk with
  | zero => exact absurd HA.out (by simp [zhQ.l0])
  | succ k1 =>
   have H := HA.out
   clear HA
   simp only [zhQ.l0] at H
   by_cases c6 : x117002_1 < a1_2
   ·rw [if_pos c6] at H
    have c6b0 : decide (x117002_1 < a1_2) = true := decide_eq_true c6
    clear c6
    have H' := zpS H
    clear H
    have hnb7 := NB116_117.out
    have hnc7 := NB117_116.out
    have hnb8 := NB116_118.out
    have hnc8 := NB118_116.out
    obtain ⟨hcz9_0, hcz9_1, hcz9_2⟩ := zdT BK116.out
    obtain ⟨hfz9_0, hfz9_1, hfz9_2⟩ := zqD BK116.out
    have hnb10 := NB117_118.out
    have hnc10 := NB118_117.out
    obtain ⟨hcz11_0, hcz11_1, hcz11_2⟩ := zdT BK117.out
    obtain ⟨hfz11_0, hfz11_1, hfz11_2⟩ := zqD BK117.out
    go_wp2
    go_roundg k1
    case measure => have := HK1.out; omega
    case rel => exact ⟨(wrap64 (x117000_1 * 2)), (wrap64 (x117001_1 * 2)), (wrap64 (x117002_1 + 1)), H', ⟨by have := HK1.out; omega⟩, ⟨by (with_reducible repeat (first | apply zuW | apply ztN | apply zqY)); refine zlL (cs := #[.int .i64 (wrap64 (x117000_1 * 2)), .int .i64 (wrap64 (x117001_1 * 2)), .int .i64 x117002_1]) ?_ 2 _ rfl; (with_reducible repeat (first | apply zuW | apply ztN | apply zqY)); refine zlL (cs := #[.int .i64 (wrap64 (x117000_1 * 2)), .int .i64 x117001_1, .int .i64 x117002_1]) ?_ 1 _ rfl; (with_reducible repeat (first | apply zuW | apply ztN | apply zqY)); refine zlL (cs := #[.int .i64 x117000_1, .int .i64 x117001_1, .int .i64 x117002_1]) ?_ 0 _ rfl; (with_reducible repeat (first | apply zuW | apply ztN | apply zqY)); exact BK116.out⟩, ⟨by (with_reducible repeat (first | apply zuW | apply ztN | apply zqY)); refine znI ?_ NB117_116.out _; (with_reducible repeat (first | apply zuW | apply ztN | apply zqY)); refine znI ?_ NB117_116.out _; (with_reducible repeat (first | apply zuW | apply ztN | apply zqY)); refine znI ?_ NB117_116.out _; (with_reducible repeat (first | apply zuW | apply ztN | apply zqY)); exact BK117.out⟩, ⟨by (with_reducible repeat (first | apply zuW | apply ztN | apply zqY)); refine znI ?_ NB118_116.out _; (with_reducible repeat (first | apply zuW | apply ztN | apply zqY)); refine znI ?_ NB118_116.out _; (with_reducible repeat (first | apply zuW | apply ztN | apply zqY)); refine znI ?_ NB118_116.out _; (with_reducible repeat (first | apply zuW | apply ztN | apply zqY)); exact BK118.out⟩, ⟨bb_⟩⟩
   ·rw [if_neg c6] at H
    have c6b0 : decide (x117002_1 < a1_2) = false := decide_eq_false c6
    clear c6
    have H' := zpS H
    clear H
    have hnb12 := NB116_117.out
    have hnc12 := NB117_116.out
    have hnb13 := NB116_118.out
    have hnc13 := NB118_116.out
    obtain ⟨hcz14_0, hcz14_1, hcz14_2⟩ := zdT BK116.out
    obtain ⟨hfz14_0, hfz14_1, hfz14_2⟩ := zqD BK116.out
    have hnb15 := NB117_118.out
    have hnc15 := NB118_117.out
    obtain ⟨hcz16_0, hcz16_1, hcz16_2⟩ := zdT BK117.out
    obtain ⟨hfz16_0, hfz16_1, hfz16_2⟩ := zqD BK117.out
    go_wp2
    (try go_simp)
    go_loopg [] k1 (fun kq w' => ∃ (x118000_2 : Int) (x118001_2 : Int) (x118002_2 : Int), Aside0 (zhQ.l1 kq x117000_1 x117001_1 x117002_1 x118000_2 x118001_2 x118002_2 = some (r1, r2, r3)) ∧ Aside0 (kq ≤ k1) ∧ Aside0 (w'.heap[gb116]? = some (.cells #[.int .i64 x117000_1, .int .i64 x117001_1, .int .i64 x117002_1] 63 (0, 0))) ∧ Aside0 (w'.heap[gb117]? = some (.cells #[.int .i64 x118000_2, .int .i64 x118001_2, .int .i64 x118002_2] 63 (0, 0))) ∧ Aside0 (w'.heap[gb118]? = some (.cells #[.int .i64 0, .int .i64 0, .int .i64 0] 63 (0, 0))) ∧ Aside0 (Below w.heap.size w w'))
    case atStart => exact ⟨(a1_0), (a1_1), (a1_2), H', ⟨Nat.le_refl _⟩, ⟨bk_⟩, ⟨bk_⟩, ⟨bk_⟩, ⟨bb_⟩⟩
    case round =>
     clear H'
     try clear c1
     try clear p2
     try clear c6
     try clear c6b0
     try clear p6
     try clear c7
     try clear c8
     try clear c10
     try clear c12
     try clear c13
     try clear c15
     try clear hcz11_0
     try clear hcz11_1
     try clear hcz11_2
     try clear hcz14_0
     try clear hcz14_1
     try clear hcz14_2
     try clear hcz16_0
     try clear hcz16_1
     try clear hcz16_2
     try clear hcz9_0
     try clear hcz9_1
     try clear hcz9_2
     try clear hfz11_0
     try clear hfz11_1
     try clear hfz11_2
     try clear hfz14_0
     try clear hfz14_1
     try clear hfz14_2
     try clear hfz16_0
     try clear hfz16_1
     try clear hfz16_2
     try clear hfz9_0
     try clear hfz9_1
     try clear hfz9_2
     try clear p2
     obtain ⟨x118000_2, x118001_2, x118002_2, HA, HK2, BK116, BK117, BK118, HB⟩ := hrel
     cases gk with
     | zero => exact absurd HA.out (by simp [zhQ.l1])
     | succ k2 =>
      have H := HA.out
      clear HA
      simp only [zhQ.l1] at H
      by_cases c17 : x118002_2 < x117002_1
      ·rw [if_pos c17] at H
       have c17b0 : decide (x118002_2 < x117002_1) = true := decide_eq_true c17
       clear c17
       have H' := zpS H
       clear H
       have hnb18 := NB117_116.out
       have hnc18 := NB116_117.out
       have hnb19 := NB117_118.out
       have hnc19 := NB118_117.out
       obtain ⟨hcz20_0, hcz20_1, hcz20_2⟩ := zdT BK117.out
       obtain ⟨hfz20_0, hfz20_1, hfz20_2⟩ := zqD BK117.out
       have hnb21 := NB116_118.out
       have hnc21 := NB118_116.out
       obtain ⟨hcz22_0, hcz22_1, hcz22_2⟩ := zdT BK116.out
       obtain ⟨hfz22_0, hfz22_1, hfz22_2⟩ := zqD BK116.out
       go_wp2
       go_roundg k2
       case measure => have := HK1.out; have := HK2.out; omega
       case rel => exact ⟨(wrap64 (x118000_2 * 2)), (wrap64 (x118001_2 * 2)), (wrap64 (x118002_2 + 1)), H', ⟨by have := HK1.out; have := HK2.out; omega⟩, ⟨by (with_reducible repeat (first | apply zuW | apply ztN | apply zqY)); refine znI ?_ NB116_117.out _; (with_reducible repeat (first | apply zuW | apply ztN | apply zqY)); refine znI ?_ NB116_117.out _; (with_reducible repeat (first | apply zuW | apply ztN | apply zqY)); refine znI ?_ NB116_117.out _; (with_reducible repeat (first | apply zuW | apply ztN | apply zqY)); exact BK116.out⟩, ⟨by (with_reducible repeat (first | apply zuW | apply ztN | apply zqY)); refine zlL (cs := #[.int .i64 (wrap64 (x118000_2 * 2)), .int .i64 (wrap64 (x118001_2 * 2)), .int .i64 x118002_2]) ?_ 2 _ rfl; (with_reducible repeat (first | apply zuW | apply ztN | apply zqY)); refine zlL (cs := #[.int .i64 (wrap64 (x118000_2 * 2)), .int .i64 x118001_2, .int .i64 x118002_2]) ?_ 1 _ rfl; (with_reducible repeat (first | apply zuW | apply ztN | apply zqY)); refine zlL (cs := #[.int .i64 x118000_2, .int .i64 x118001_2, .int .i64 x118002_2]) ?_ 0 _ rfl; (with_reducible repeat (first | apply zuW | apply ztN | apply zqY)); exact BK117.out⟩, ⟨by (with_reducible repeat (first | apply zuW | apply ztN | apply zqY)); refine znI ?_ NB118_117.out _; (with_reducible repeat (first | apply zuW | apply ztN | apply zqY)); refine znI ?_ NB118_117.out _; (with_reducible repeat (first | apply zuW | apply ztN | apply zqY)); refine znI ?_ NB118_117.out _; (with_reducible repeat (first | apply zuW | apply ztN | apply zqY)); exact BK118.out⟩, ⟨bb_⟩⟩
      ·rw [if_neg c17] at H
       have c17b0 : decide (x118002_2 < x117002_1) = false := decide_eq_false c17
       clear c17
       replace H := Option.bind_eq_some_iff.mp H
       obtain ⟨⟨t119, t120, t121⟩, A230, H⟩ := H
       replace H : (some (t119, t120, t121)) = some (r1, r2, r3) := H
       have A23 := zpS A230
       clear A230
       simp only [Option.some.injEq, Prod.mk.injEq] at H
       obtain ⟨rfl, rfl, rfl⟩ := H
       have hnb24 := NB117_116.out
       have hnc24 := NB116_117.out
       have hnb25 := NB117_118.out
       have hnc25 := NB118_117.out
       obtain ⟨hcz26_0, hcz26_1, hcz26_2⟩ := zdT BK117.out
       obtain ⟨hfz26_0, hfz26_1, hfz26_2⟩ := zqD BK117.out
       have hnb27 := NB116_118.out
       have hnc27 := NB118_116.out
       obtain ⟨hcz28_0, hcz28_1, hcz28_2⟩ := zdT BK116.out
       obtain ⟨hfz28_0, hfz28_1, hfz28_2⟩ := zqD BK116.out
       go_wp2_with (first | ((with_reducible refine zgK (f := 71) rfl ?_); refine zqQ (some 52) rfl rfl Tryd.func71 (by kernel_rfl) rfl #[.agg #[.int .i64 (wrap64 (x117000_1 + x118000_2)), .int .i64 (wrap64 (x117001_1 + x118001_2)), .int .i64 x117002_1]] rfl (by (try simp only [List.map_toArray, List.map_cons, List.map_nil]); first | done | rfl | (simp only [List.length_drop, List.length_take]; rfl)) ?_; (with_reducible refine (zhR.calls k2 (wrap64 (x117000_1 + x118000_2)) (wrap64 (x117001_1 + x118001_2)) x117002_1 t119 t120 t121 _ A23.out).mono ?_); rintro e w29 ⟨rfl, hb⟩; refine ⟨_, rfl, ?_⟩; have n0_ := zpS (zgM (g := gb116) (o := .cells #[.int .i64 x117000_1, .int .i64 x117001_1, .int .i64 x117002_1] 63 (0, 0)) bk_ hb); have n1_ := zpS (zgM (g := gb117) (o := .cells #[.int .i64 x118000_2, .int .i64 x118001_2, .int .i64 x118002_2] 63 (0, 0)) bk_ hb); have n2_ := zpS (zgM (g := gb118) (o := .cells #[.int .i64 0, .int .i64 0, .int .i64 0] 63 (0, 0)) bk_ hb); have n3_ := (ns_ hb); clear BK116; clear BK117; clear BK118; clear HB; have BK116 := n0_; have BK117 := n1_; have BK118 := n2_; have HB := n3_; clear n0_ n1_ n2_ n3_; (try clear hb); (try clear hb2); obtain ⟨hcz30_0, hcz30_1, hcz30_2⟩ := zdT BK118.out; obtain ⟨hfz30_0, hfz30_1, hfz30_2⟩ := zqD BK118.out))
       refine bodyPost_ret (results_cell_row rfl _ _ gb118 63 #[.int .i64 t119, .int .i64 t120, .int .i64 t121] (0, 0) _ rfl (by (with_reducible repeat (first | apply zuW | apply ztN | apply zqY)); refine zlL (cs := #[.int .i64 t119, .int .i64 t120, .int .i64 0]) ?_ 2 _ rfl; (with_reducible repeat (first | apply zuW | apply ztN | apply zqY)); refine zlL (cs := #[.int .i64 t119, .int .i64 0, .int .i64 0]) ?_ 1 _ rfl; (with_reducible repeat (first | apply zuW | apply ztN | apply zqY)); refine zlL (cs := #[.int .i64 0, .int .i64 0, .int .i64 0]) ?_ 0 _ rfl; (with_reducible repeat (first | apply zuW | apply ztN | apply zqY)); exact BK118.out) Tryd.underlying63 rfl (by kernel_rfl)) rfl ?_
       exact ⟨by first | rfl | (simp [ziS, znJ] <;> rfl) | (simp [*, ziS, znJ] <;> rfl), bb_⟩

def zpH.f (a0_0 : Int) (a0_1 : Int) (a0_2 : Int) : Option (Int × Int × Int) := some (wrap64 (-a0_0), wrap64 (-a0_1), a0_2)
theorem zpH.calls (a0_0 : Int) (a0_1 : Int) (a0_2 : Int) (r1 : Int) (r2 : Int) (r3 : Int) (w : World) (h : zpH.f a0_0 a0_1 a0_2 = some (r1, r2, r3)) :
  Calls Tryd.prog 61 #[.agg #[.int .i64 a0_0, .int .i64 a0_1, .int .i64 a0_2]] w fun e w' => e = .returned (.agg #[.int .i64 r1, .int .i64 r2, .int .i64 r3]) ∧ Below w.heap.size w w' := by
 have hu63 := Tryd.underlying63
 have HB := zpS (Below.refl w.heap.size w)
 have H : (some (wrap64 (-a0_0), wrap64 (-a0_1), a0_2)) = some (r1, r2, r3) := h
 clear h
 simp only [Option.some.injEq, Prod.mk.injEq] at H
 obtain ⟨rfl, rfl, rfl⟩ := H
 go_enter Tryd.func61, Tryd.ntmps61
 go_wp2_with (first | ((with_reducible refine zpZ (N := 1) rfl ?_); refine bx_ 1 #[.int .i64 a0_0, .int .i64 a0_1, .int .i64 a0_2] 63 ?_; intro gb122 hg w2 hbox hb; have n0_ := (ns_ hb); have n1_ := zpS (hbox); have n2_ := (ng_ hg); have n3_ := n2_; clear HB; have HB := n0_; have BK122 := n1_; have GW122 := n2_; have GE122 := n3_; clear n0_ n1_ n2_ n3_; clear hb hbox hg) | ((with_reducible refine zpZ (N := 2) rfl ?_); refine bx_ 2 #[.int .i64 0, .int .i64 0, .int .i64 0] 63 ?_; intro gb123 hg w3 hbox hb; have n0_ := zpS (zgM (g := gb122) (o := .cells #[.int .i64 a0_0, .int .i64 a0_1, .int .i64 a0_2] 63 (0, 0)) bk_ hb); have n1_ := (ns_ hb); have n2_ := zpS (hbox); have n3_ := (ng_ hg); have n4_ := n3_; have n5_ := zpS ((by rw [hg]; exact Nat.ne_of_lt (zmN (g := gb122) (o := .cells #[.int .i64 a0_0, .int .i64 a0_1, .int .i64 a0_2] 63 (0, 0)) bk_) : gb122 ≠ gb123)); have n6_ := zpS ((by rw [hg]; exact Nat.ne_of_gt (zmN (g := gb122) (o := .cells #[.int .i64 a0_0, .int .i64 a0_1, .int .i64 a0_2] 63 (0, 0)) bk_) : gb123 ≠ gb122)); clear BK122; clear HB; have BK122 := n0_; have HB := n1_; have BK123 := n2_; have GW123 := n3_; have GE123 := n4_; have NB122_123 := n5_; have NB123_122 := n6_; clear n0_ n1_ n2_ n3_ n4_ n5_ n6_; clear hb hbox hg; have hnb4 := NB122_123.out; have hnc4 := NB123_122.out; obtain ⟨hcz5_0, hcz5_1, hcz5_2⟩ := zdT BK122.out; obtain ⟨hfz5_0, hfz5_1, hfz5_2⟩ := zqD BK122.out; obtain ⟨hcz6_0, hcz6_1, hcz6_2⟩ := zdT BK123.out; obtain ⟨hfz6_0, hfz6_1, hfz6_2⟩ := zqD BK123.out))
 refine bodyPost_ret (results_cell_row rfl _ _ gb123 63 #[.int .i64 (wrap64 (-a0_0)), .int .i64 (wrap64 (-a0_1)), .int .i64 a0_2] (0, 0) _ rfl (by (with_reducible repeat (first | apply zuW | apply ztN | apply zqY)); refine zlL (cs := #[.int .i64 (wrap64 (-a0_0)), .int .i64 (wrap64 (-a0_1)), .int .i64 0]) ?_ 2 _ rfl; (with_reducible repeat (first | apply zuW | apply ztN | apply zqY)); refine zlL (cs := #[.int .i64 (wrap64 (-a0_0)), .int .i64 0, .int .i64 0]) ?_ 1 _ rfl; (with_reducible repeat (first | apply zuW | apply ztN | apply zqY)); refine zlL (cs := #[.int .i64 0, .int .i64 0, .int .i64 0]) ?_ 0 _ rfl; (with_reducible repeat (first | apply zuW | apply ztN | apply zqY)); exact BK123.out) Tryd.underlying63 rfl (by kernel_rfl)) rfl ?_
 exact ⟨by first | rfl | (simp [ziS, znJ] <;> rfl) | (simp [*, ziS, znJ] <;> rfl), bb_⟩

def zyB.f (k : Nat) (a0_0 : Int) (a0_1 : Int) (a0_2 : Int) (a1_0 : Int) (a1_1 : Int) (a1_2 : Int) : Option (Int × Int × Int) := (zpH.f a1_0 a1_1 a1_2).bind fun bt127 => ((zhQ.f k a0_0 a0_1 a0_2 bt127.1 bt127.2.1 bt127.2.2).bind fun bt130 => (some (bt130.1, bt130.2.1, bt130.2.2)))
theorem zyB.mono : ∀ a0 a1 a2 a3 a4 a5 k, LeO (zyB.f k a0 a1 a2 a3 a4 a5) (zyB.f (k + 1) a0 a1 a2 a3 a4 a5) := by
 intro a0 a1 a2 a3 a4 a5 k
 unfold zyB.f
 repeat' first
   | (with_reducible exact zhQ.mono _ _ _ _ _ _ _)
   | (with_reducible exact LeO.refl _)
   | (with_reducible exact LeO.none _)
   | (with_reducible refine LeO.ite ?_ ?_)
   | (with_reducible refine LeO.bind ?_ (fun _ => ?_))
   | exact zhQ.mono _ _ _ _ _ _ _
   | exact LeO.none _
   | refine LeO.ite ?_ ?_
   | refine LeO.bind ?_ (fun _ => ?_)
theorem zyB.calls (k : Nat) (a0_0 : Int) (a0_1 : Int) (a0_2 : Int) (a1_0 : Int) (a1_1 : Int) (a1_2 : Int) (r1 : Int) (r2 : Int) (r3 : Int) (w : World) (h : zyB.f k a0_0 a0_1 a0_2 a1_0 a1_1 a1_2 = some (r1, r2, r3)) :
  Calls Tryd.prog 49 #[.agg #[.int .i64 a0_0, .int .i64 a0_1, .int .i64 a0_2], .agg #[.int .i64 a1_0, .int .i64 a1_1, .int .i64 a1_2]] w fun e w' => e = .returned (.agg #[.int .i64 r1, .int .i64 r2, .int .i64 r3]) ∧ Below w.heap.size w w' := by
 have hu63 := Tryd.underlying63
 have HB := zpS (Below.refl w.heap.size w)
 have H : ((zpH.f a1_0 a1_1 a1_2).bind fun bt127 => ((zhQ.f k a0_0 a0_1 a0_2 bt127.1 bt127.2.1 bt127.2.2).bind fun bt130 => (some (bt130.1, bt130.2.1, bt130.2.2)))) = some (r1, r2, r3) := h
 clear h
 replace H := Option.bind_eq_some_iff.mp H
 obtain ⟨⟨t127, t128, t129⟩, A30, H⟩ := H
 replace H : ((zhQ.f k a0_0 a0_1 a0_2 t127 t128 t129).bind fun bt130 => (some (bt130.1, bt130.2.1, bt130.2.2))) = some (r1, r2, r3) := H
 have A3 := zpS A30
 clear A30
 replace H := Option.bind_eq_some_iff.mp H
 obtain ⟨⟨t130, t131, t132⟩, A40, H⟩ := H
 replace H : (some (t130, t131, t132)) = some (r1, r2, r3) := H
 have A4 := zpS A40
 clear A40
 simp only [Option.some.injEq, Prod.mk.injEq] at H
 obtain ⟨rfl, rfl, rfl⟩ := H
 go_enter Tryd.func49, Tryd.ntmps49
 try go_wp2_with (first | ((with_reducible refine zpZ (N := 2) rfl ?_); refine bx_ 2 #[.int .i64 a0_0, .int .i64 a0_1, .int .i64 a0_2] 63 ?_; intro gb124 hg w5 hbox hb; have n0_ := (ns_ hb); have n1_ := zpS (hbox); have n2_ := (ng_ hg); have n3_ := n2_; clear HB; have HB := n0_; have BK124 := n1_; have GW124 := n2_; have GE124 := n3_; clear n0_ n1_ n2_ n3_; clear hb hbox hg) | ((with_reducible refine zpZ (N := 3) rfl ?_); refine bx_ 3 #[.int .i64 a1_0, .int .i64 a1_1, .int .i64 a1_2] 63 ?_; intro gb125 hg w6 hbox hb; have n0_ := zpS (zgM (g := gb124) (o := .cells #[.int .i64 a0_0, .int .i64 a0_1, .int .i64 a0_2] 63 (0, 0)) bk_ hb); have n1_ := (ns_ hb); have n2_ := zpS (hbox); have n3_ := (ng_ hg); have n4_ := n3_; have n5_ := zpS ((by rw [hg]; exact Nat.ne_of_lt (zmN (g := gb124) (o := .cells #[.int .i64 a0_0, .int .i64 a0_1, .int .i64 a0_2] 63 (0, 0)) bk_) : gb124 ≠ gb125)); have n6_ := zpS ((by rw [hg]; exact Nat.ne_of_gt (zmN (g := gb124) (o := .cells #[.int .i64 a0_0, .int .i64 a0_1, .int .i64 a0_2] 63 (0, 0)) bk_) : gb125 ≠ gb124)); clear BK124; clear HB; have BK124 := n0_; have HB := n1_; have BK125 := n2_; have GW125 := n3_; have GE125 := n4_; have NB124_125 := n5_; have NB125_124 := n6_; clear n0_ n1_ n2_ n3_ n4_ n5_ n6_; clear hb hbox hg) | ((with_reducible refine zpZ (N := 4) rfl ?_); refine bx_ 4 #[.int .i64 0, .int .i64 0, .int .i64 0] 63 ?_; intro gb126 hg w7 hbox hb; have n0_ := zpS (zgM (g := gb124) (o := .cells #[.int .i64 a0_0, .int .i64 a0_1, .int .i64 a0_2] 63 (0, 0)) bk_ hb); have n1_ := zpS (zgM (g := gb125) (o := .cells #[.int .i64 a1_0, .int .i64 a1_1, .int .i64 a1_2] 63 (0, 0)) bk_ hb); have n2_ := (ns_ hb); have n3_ := zpS (hbox); have n4_ := (ng_ hg); have n5_ := n4_; have n6_ := zpS ((by rw [hg]; exact Nat.ne_of_lt (zmN (g := gb124) (o := .cells #[.int .i64 a0_0, .int .i64 a0_1, .int .i64 a0_2] 63 (0, 0)) bk_) : gb124 ≠ gb126)); have n7_ := zpS ((by rw [hg]; exact Nat.ne_of_gt (zmN (g := gb124) (o := .cells #[.int .i64 a0_0, .int .i64 a0_1, .int .i64 a0_2] 63 (0, 0)) bk_) : gb126 ≠ gb124)); have n8_ := zpS ((by rw [hg]; exact Nat.ne_of_lt (zmN (g := gb125) (o := .cells #[.int .i64 a1_0, .int .i64 a1_1, .int .i64 a1_2] 63 (0, 0)) bk_) : gb125 ≠ gb126)); have n9_ := zpS ((by rw [hg]; exact Nat.ne_of_gt (zmN (g := gb125) (o := .cells #[.int .i64 a1_0, .int .i64 a1_1, .int .i64 a1_2] 63 (0, 0)) bk_) : gb126 ≠ gb125)); clear BK124; clear BK125; clear HB; have BK124 := n0_; have BK125 := n1_; have HB := n2_; have BK126 := n3_; have GW126 := n4_; have GE126 := n5_; have NB124_126 := n6_; have NB126_124 := n7_; have NB125_126 := n8_; have NB126_125 := n9_; clear n0_ n1_ n2_ n3_ n4_ n5_ n6_ n7_ n8_ n9_; clear hb hbox hg))
 have n0_ := zpS (ztN BK124.out)
 have n1_ := zpS (ztN BK125.out)
 have n2_ := zpS (ztN BK126.out)
 have n3_ := zpS (zvF HB.out)
 clear BK124
 clear BK125
 clear BK126
 clear HB
 have BK124 := n0_
 have BK125 := n1_
 have BK126 := n2_
 have HB := n3_
 clear n0_ n1_ n2_ n3_
 refine zpB (n := 5) (S := fun w' => w'.cell? ⟨gb124, 0, none⟩ = some (.int .i64 a0_0) ∧ w'.cell? ⟨gb124, 1, none⟩ = some (.int .i64 a0_1) ∧ w'.cell? ⟨gb124, 2, none⟩ = some (.int .i64 a0_2) ∧ w'.cell? ⟨gb125, 0, none⟩ = some (.int .i64 a1_0) ∧ w'.cell? ⟨gb125, 1, none⟩ = some (.int .i64 a1_1) ∧ w'.cell? ⟨gb125, 2, none⟩ = some (.int .i64 a1_2)) (ds := []) #[false, false, false, false, false] (by kernel_rfl) rfl rfl ⟨(zzS BK124.out 0).trans rfl, (zzS BK124.out 1).trans rfl, (zzS BK124.out 2).trans rfl, (zzS BK125.out 0).trans rfl, (zzS BK125.out 1).trans rfl, (zzS BK125.out 2).trans rfl⟩ (fun hHeld => ?_)
 generalize w7.drew = w8 at BK124 BK125 BK126 HB hHeld ⊢
 refine take_ (i := 0) (N := some 5) (v := ?_) (a' := ?_) (bl_ 5 1) rfl rfl (by kernel_rfl) (fun _ _ _ h => h) (Or.inl ⟨by rfl, ?_⟩) hHeld ?_ ?_
 rotate_left
 ·rintro w' ⟨s0, s1, s2, s3, s4, s5⟩
  go_simp
  with_reducible rfl
 rotate_left
 ·simp only [Act.put, List.setIfInBounds_toArray, List.set_cons_zero, List.set_cons_succ, zcM, ziK]
  rfl
 refine take_ (i := 1) (N := some 6) (v := ?_) (a' := ?_) (bl_ 5 3) rfl rfl (by kernel_rfl) (fun _ _ _ h => h) (Or.inl ⟨by rfl, ?_⟩) hHeld ?_ ?_
 rotate_left
 ·rintro w' ⟨s0, s1, s2, s3, s4, s5⟩
  go_simp
  with_reducible rfl
 rotate_left
 ·simp only [Act.put, List.setIfInBounds_toArray, List.set_cons_zero, List.set_cons_succ, zcM, ziK]
  rfl
 refine zdC (i := 2) (N := some 7) (bl_ 5 7) rfl rfl (by kernel_rfl) (by decide) (fun K hK => ?_)
 refine zqW Tryd.func61 (by kernel_rfl) rfl #[.agg #[.int .i64 a1_0, .int .i64 a1_1, .int .i64 a1_2]] (by rfl) rfl rfl (by (try simp only [List.map_toArray, List.map_cons, List.map_nil]); first | done | rfl | (simp only [List.length_drop, List.length_take]; rfl)) ?_
 with_reducible refine (zpH.calls a1_0 a1_1 a1_2 t127 t128 t129 _ A3.out).mono ?_
 rintro e w9 ⟨rfl, hb⟩
 refine ⟨_, rfl, ?_⟩
 have n0_ := zpS (zgM (g := gb124) (o := .cells #[.int .i64 a0_0, .int .i64 a0_1, .int .i64 a0_2] 63 (0, 0)) bk_ hb)
 have n1_ := zpS (zgM (g := gb125) (o := .cells #[.int .i64 a1_0, .int .i64 a1_1, .int .i64 a1_2] 63 (0, 0)) bk_ hb)
 have n2_ := zpS (zgM (g := gb126) (o := .cells #[.int .i64 0, .int .i64 0, .int .i64 0] 63 (0, 0)) bk_ hb)
 have n3_ := (ns_ hb)
 clear BK124
 clear BK125
 clear BK126
 clear HB
 have BK124 := n0_
 have BK125 := n1_
 have BK126 := n2_
 have HB := n3_
 clear n0_ n1_ n2_ n3_
 (try clear hb)
 (try clear hb2)
 (try clear hk)
 (try clear hi)
 refine hK.out _ _ ⟨(zzS BK124.out 0).trans rfl, (zzS BK124.out 1).trans rfl, (zzS BK124.out 2).trans rfl, (zzS BK125.out 0).trans rfl, (zzS BK125.out 1).trans rfl, (zzS BK125.out 2).trans rfl⟩ (fun hHeld => ?_)
 clear hK K
 refine zaN (a' := ?_) ?_ ?_
 rotate_left
 ·show Act.put _ (some 7) _ = _
  simp only [Act.put, List.setIfInBounds_toArray, List.set_cons_zero, List.set_cons_succ, zcM, ziK]
  rfl
 refine zdC (i := 3) (N := some 8) (bl_ 5 15) rfl rfl (by kernel_rfl) (by decide) (fun K hK => ?_)
 refine zqW Tryd.func60 (by kernel_rfl) rfl #[.agg #[.int .i64 a0_0, .int .i64 a0_1, .int .i64 a0_2], .agg #[.int .i64 t127, .int .i64 t128, .int .i64 t129]] (by rfl) rfl rfl (by (try simp only [List.map_toArray, List.map_cons, List.map_nil]); first | done | rfl | (simp only [List.length_drop, List.length_take]; rfl)) ?_
 with_reducible refine (zhQ.calls k a0_0 a0_1 a0_2 t127 t128 t129 t130 t131 t132 _ A4.out).mono ?_
 rintro e w10 ⟨rfl, hb⟩
 refine ⟨_, rfl, ?_⟩
 have n0_ := zpS (zgM (g := gb124) (o := .cells #[.int .i64 a0_0, .int .i64 a0_1, .int .i64 a0_2] 63 (0, 0)) bk_ hb)
 have n1_ := zpS (zgM (g := gb125) (o := .cells #[.int .i64 a1_0, .int .i64 a1_1, .int .i64 a1_2] 63 (0, 0)) bk_ hb)
 have n2_ := zpS (zgM (g := gb126) (o := .cells #[.int .i64 0, .int .i64 0, .int .i64 0] 63 (0, 0)) bk_ hb)
 have n3_ := (ns_ hb)
 clear BK124
 clear BK125
 clear BK126
 clear HB
 have BK124 := n0_
 have BK125 := n1_
 have BK126 := n2_
 have HB := n3_
 clear n0_ n1_ n2_ n3_
 (try clear hb)
 (try clear hb2)
 (try clear hk)
 (try clear hi)
 refine hK.out _ _ ⟨(zzS BK124.out 0).trans rfl, (zzS BK124.out 1).trans rfl, (zzS BK124.out 2).trans rfl, (zzS BK125.out 0).trans rfl, (zzS BK125.out 1).trans rfl, (zzS BK125.out 2).trans rfl⟩ (fun hHeld => ?_)
 clear hK K
 refine zaN (a' := ?_) ?_ ?_
 rotate_left
 ·show Act.put _ (some 8) _ = _
  simp only [Act.put, List.setIfInBounds_toArray, List.set_cons_zero, List.set_cons_succ, zcM, ziK]
  rfl
 refine zdC (i := 4) (N := none) (bl_ 5 31) rfl rfl (by kernel_rfl) (by decide) (fun K hK => ?_)
 have hs11 : w10.cell? ⟨gb126, 0, none⟩ = some (.int .i64 0) := (zzS BK126.out 0).trans rfl
 have hfs11 := zjF BK126.out 0
 have hns11_0 := NB124_126.out
 have hns11_1 := NB125_126.out
 have hms11_0 := NB126_124.out
 have hms11_1 := NB126_125.out
 have hs12 : w10.cell? ⟨gb126, 1, none⟩ = some (.int .i64 0) := (zzS BK126.out 1).trans rfl
 have hfs12 := zjF BK126.out 1
 have hns12_0 := NB124_126.out
 have hns12_1 := NB125_126.out
 have hms12_0 := NB126_124.out
 have hms12_1 := NB126_125.out
 have hs13 : w10.cell? ⟨gb126, 2, none⟩ = some (.int .i64 0) := (zzS BK126.out 2).trans rfl
 have hfs13 := zjF BK126.out 2
 have hns13_0 := NB124_126.out
 have hns13_1 := NB125_126.out
 have hms13_0 := NB126_124.out
 have hms13_1 := NB126_125.out
 refine skip_ (w1 := ?_) (by rfl) rfl ?_ ?_
 rotate_left
 ·go_simp
  rfl
 refine hK.out _ _ ⟨((zgQ (p := ⟨gb126, _, none⟩) NB124_126.out _).trans (((zgQ (p := ⟨gb126, _, none⟩) NB124_126.out _).trans (((zgQ (p := ⟨gb126, _, none⟩) NB124_126.out _).trans (hHeld.1)))))), ((zgQ (p := ⟨gb126, _, none⟩) NB124_126.out _).trans (((zgQ (p := ⟨gb126, _, none⟩) NB124_126.out _).trans (((zgQ (p := ⟨gb126, _, none⟩) NB124_126.out _).trans (hHeld.2.1)))))), ((zgQ (p := ⟨gb126, _, none⟩) NB124_126.out _).trans (((zgQ (p := ⟨gb126, _, none⟩) NB124_126.out _).trans (((zgQ (p := ⟨gb126, _, none⟩) NB124_126.out _).trans (hHeld.2.2.1)))))), ((zgQ (p := ⟨gb126, _, none⟩) NB125_126.out _).trans (((zgQ (p := ⟨gb126, _, none⟩) NB125_126.out _).trans (((zgQ (p := ⟨gb126, _, none⟩) NB125_126.out _).trans (hHeld.2.2.2.1)))))), ((zgQ (p := ⟨gb126, _, none⟩) NB125_126.out _).trans (((zgQ (p := ⟨gb126, _, none⟩) NB125_126.out _).trans (((zgQ (p := ⟨gb126, _, none⟩) NB125_126.out _).trans (hHeld.2.2.2.2.1)))))), ((zgQ (p := ⟨gb126, _, none⟩) NB125_126.out _).trans (((zgQ (p := ⟨gb126, _, none⟩) NB125_126.out _).trans (((zgQ (p := ⟨gb126, _, none⟩) NB125_126.out _).trans (hHeld.2.2.2.2.2))))))⟩ (fun hHeld => ?_)
 clear hK K
 refine znK (by kernel_rfl) ?_
 try go_wp2
 refine bodyPost_ret (results_cell_row rfl _ _ gb126 63 #[.int .i64 t130, .int .i64 t131, .int .i64 t132] (0, 0) _ rfl (by (with_reducible repeat (first | apply zuW | apply ztN | apply zqY)); refine zlL (cs := #[.int .i64 t130, .int .i64 t131, .int .i64 0]) ?_ 2 _ rfl; (with_reducible repeat (first | apply zuW | apply ztN | apply zqY)); refine zlL (cs := #[.int .i64 t130, .int .i64 0, .int .i64 0]) ?_ 1 _ rfl; (with_reducible repeat (first | apply zuW | apply ztN | apply zqY)); refine zlL (cs := #[.int .i64 0, .int .i64 0, .int .i64 0]) ?_ 0 _ rfl; (with_reducible repeat (first | apply zuW | apply ztN | apply zqY)); exact BK126.out) Tryd.underlying63 rfl (by kernel_rfl)) rfl ?_
 exact ⟨by first | rfl | (simp [ziS, znJ] <;> rfl) | (simp [*, ziS, znJ] <;> rfl), bb_⟩

def zqO.f (a0_0 : Int) (a0_1 : Int) (a0_2 : Int) : Option (Int × Int × Int) := some (a0_0, a0_1, a0_2)
theorem zqO.calls (a0_0 : Int) (a0_1 : Int) (a0_2 : Int) (r1 : Int) (r2 : Int) (r3 : Int) (w : World) (h : zqO.f a0_0 a0_1 a0_2 = some (r1, r2, r3)) :
  Calls Tryd.prog 50 #[.agg #[.int .i64 a0_0, .int .i64 a0_1, .int .i64 a0_2]] w fun e w' => e = .returned (.agg #[.int .i64 r1, .int .i64 r2, .int .i64 r3]) ∧ Below w.heap.size w w' := by
 have hu33 := Tryd.underlying33
 have hu63 := Tryd.underlying63
 have HB := zpS (Below.refl w.heap.size w)
 have H : (some (a0_0, a0_1, a0_2)) = some (r1, r2, r3) := h
 clear h
 simp only [Option.some.injEq, Prod.mk.injEq] at H
 obtain ⟨rfl, rfl, rfl⟩ := H
 go_enter Tryd.func50, Tryd.ntmps50
 go_wp2_with (first | ((with_reducible refine zpZ (N := 1) rfl ?_); refine bx_ 1 #[.int .i64 a0_0, .int .i64 a0_1, .int .i64 a0_2] 33 ?_; intro gb133 hg w2 hbox hb; have n0_ := (ns_ hb); have n1_ := zpS (hbox); have n2_ := (ng_ hg); have n3_ := n2_; clear HB; have HB := n0_; have BK133 := n1_; have GW133 := n2_; have GE133 := n3_; clear n0_ n1_ n2_ n3_; clear hb hbox hg) | ((with_reducible refine zpZ (N := 2) rfl ?_); refine bx_ 2 #[.int .i64 0, .int .i64 0, .int .i64 0] 63 ?_; intro gb134 hg w3 hbox hb; have n0_ := zpS (zgM (g := gb133) (o := .cells #[.int .i64 a0_0, .int .i64 a0_1, .int .i64 a0_2] 33 (0, 0)) bk_ hb); have n1_ := (ns_ hb); have n2_ := zpS (hbox); have n3_ := (ng_ hg); have n4_ := n3_; have n5_ := zpS ((by rw [hg]; exact Nat.ne_of_lt (zmN (g := gb133) (o := .cells #[.int .i64 a0_0, .int .i64 a0_1, .int .i64 a0_2] 33 (0, 0)) bk_) : gb133 ≠ gb134)); have n6_ := zpS ((by rw [hg]; exact Nat.ne_of_gt (zmN (g := gb133) (o := .cells #[.int .i64 a0_0, .int .i64 a0_1, .int .i64 a0_2] 33 (0, 0)) bk_) : gb134 ≠ gb133)); clear BK133; clear HB; have BK133 := n0_; have HB := n1_; have BK134 := n2_; have GW134 := n3_; have GE134 := n4_; have NB133_134 := n5_; have NB134_133 := n6_; clear n0_ n1_ n2_ n3_ n4_ n5_ n6_; clear hb hbox hg; have hnb4 := NB133_134.out; have hnc4 := NB134_133.out; obtain ⟨hcz5_0, hcz5_1, hcz5_2⟩ := zdT BK133.out; obtain ⟨hfz5_0, hfz5_1, hfz5_2⟩ := zqD BK133.out; obtain ⟨hcz6_0, hcz6_1, hcz6_2⟩ := zdT BK134.out; obtain ⟨hfz6_0, hfz6_1, hfz6_2⟩ := zqD BK134.out))
 refine bodyPost_ret (results_cell_row rfl _ _ gb134 63 #[.int .i64 a0_0, .int .i64 a0_1, .int .i64 a0_2] (0, 0) _ rfl (by (with_reducible repeat (first | apply zuW | apply ztN | apply zqY)); refine zlL (cs := #[.int .i64 a0_0, .int .i64 a0_1, .int .i64 0]) ?_ 2 _ rfl; (with_reducible repeat (first | apply zuW | apply ztN | apply zqY)); refine zlL (cs := #[.int .i64 a0_0, .int .i64 0, .int .i64 0]) ?_ 1 _ rfl; (with_reducible repeat (first | apply zuW | apply ztN | apply zqY)); refine zlL (cs := #[.int .i64 0, .int .i64 0, .int .i64 0]) ?_ 0 _ rfl; (with_reducible repeat (first | apply zuW | apply ztN | apply zqY)); exact BK134.out) Tryd.underlying63 rfl (by kernel_rfl)) rfl ?_
 exact ⟨by first | rfl | (simp [ziS, znJ] <;> rfl) | (simp [*, ziS, znJ] <;> rfl), bb_⟩

end Go.Proofs.YtbnfbflfhpniaaaDoor.PFnExactNormalPolygon
