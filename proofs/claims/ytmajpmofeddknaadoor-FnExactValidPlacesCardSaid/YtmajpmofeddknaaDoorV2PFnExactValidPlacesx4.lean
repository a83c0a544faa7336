-- Printed for this claim by this session's program pp.py, which drives the kit's print with additions. Not trusted: Lean checks it.
import Derived.Test.YtmajpmofeddknaaDoorV2PFnExactValidPlacesx0
import Derived.Test.YtmajpmofeddknaaDoorV2PFnExactValidPlacesx2
import Derived.Test.YtmajpmofeddknaaDoorV2PFnExactValidPlacesx3
namespace Go.Proofs.YtmajpmofeddknaaDoor.PFnExactValidPlaces
open Go.RowKit Go.Proofs.YtmajpmofeddknaaDoorW.PrintWords Go.Proofs.YtmajpmofeddknaaDoorW.PrintLast Go.Proofs.YtmajpmofeddknaaDoorW.PrintMore
attribute [local go_sem] zbB ziC zrC zhD znE zuB znH zkT   -- for this text's walks alone
set_option linter.unusedVariables false
set_option linter.unusedSimpArgs false

mutual
def zhR.j0 : Nat → Bool → Int → Int → Int → Option (Int × Int × Int)
 | 0, _, _, _, _ => none
 | k + 1, x10, x140000, x140001, x140002 => if x10 = true then (some (0, 0, 0)) else (zhR.l0 k x140000 x140001 x140002)
def zhR.l0 : Nat → Int → Int → Int → Option (Int × Int × Int)
 | 0, _, _, _ => none
 | k + 1, x140000, x140001, x140002 => if x140002 > 0 then (if (Int.tmod x140000 2) = 0 then (if (Int.tmod x140001 2) = 0 then (zhR.l0 k (wrap64 (Int.tdiv x140000 2)) (wrap64 (Int.tdiv x140001 2)) (wrap64 (x140002 - 1))) else (some (x140000, x140001, x140002))) else (some (x140000, x140001, x140002))) else (some (x140000, x140001, x140002))
end
def zhR.f (k : Nat) (a0_0 : Int) (a0_1 : Int) (a0_2 : Int) : Option (Int × Int × Int) := if a0_0 = 0 then (zhR.j0 k (a0_1 == 0) a0_0 a0_1 a0_2) else (zhR.j0 k false a0_0 a0_1 a0_2)
theorem zhR.mono_l : ∀ k, (∀ y0 y1 y2 y3, LeO (zhR.j0 k y0 y1 y2 y3) (zhR.j0 (k + 1) y0 y1 y2 y3)) ∧ (∀ y0 y1 y2, LeO (zhR.l0 k y0 y1 y2) (zhR.l0 (k + 1) y0 y1 y2))
 | 0 => ⟨fun _ _ _ _ r h => by simp [zhR.j0] at h, fun _ _ _ r h => by simp [zhR.l0] at h⟩
 | k + 1 => by
  obtain ⟨ih0, ih1⟩ := zhR.mono_l k
  refine ⟨?_, ?_⟩
  ·intro y0 y1 y2 y3
   unfold zhR.j0
   repeat' first
   | (with_reducible exact ih0 _ _ _ _)
   | (with_reducible exact ih1 _ _ _)
   | (with_reducible exact LeO.refl _)
   | (with_reducible exact LeO.none _)
   | (with_reducible refine LeO.ite ?_ ?_)
   | (with_reducible refine LeO.bind ?_ (fun _ => ?_))
   | exact ih0 _ _ _ _
   | exact ih1 _ _ _
   | exact LeO.none _
   | refine LeO.ite ?_ ?_
   | refine LeO.bind ?_ (fun _ => ?_)
  ·intro y0 y1 y2
   unfold zhR.l0
   repeat' first
   | (with_reducible exact ih0 _ _ _ _)
   | (with_reducible exact ih1 _ _ _)
   | (with_reducible exact LeO.refl _)
   | (with_reducible exact LeO.none _)
   | (with_reducible refine LeO.ite ?_ ?_)
   | (with_reducible refine LeO.bind ?_ (fun _ => ?_))
   | exact ih0 _ _ _ _
   | exact ih1 _ _ _
   | exact LeO.none _
   | refine LeO.ite ?_ ?_
   | refine LeO.bind ?_ (fun _ => ?_)
theorem zhR.mono : ∀ a0 a1 a2 k, LeO (zhR.f k a0 a1 a2) (zhR.f (k + 1) a0 a1 a2) := by
 intro a0 a1 a2 k
 obtain ⟨ih0, ih1⟩ := zhR.mono_l k
 unfold zhR.f
 repeat' first
   | (with_reducible exact ih0 _ _ _ _)
   | (with_reducible exact ih1 _ _ _)
   | (with_reducible exact LeO.refl _)
   | (with_reducible exact LeO.none _)
   | (with_reducible refine LeO.ite ?_ ?_)
   | (with_reducible refine LeO.bind ?_ (fun _ => ?_))
   | exact ih0 _ _ _ _
   | exact ih1 _ _ _
   | exact LeO.none _
   | refine LeO.ite ?_ ?_
   | refine LeO.bind ?_ (fun _ => ?_)
set_option maxHeartbeats 8000000 in
set_option maxRecDepth 100000 in
theorem zhR.calls (k : Nat) (a0_0 : Int) (a0_1 : Int) (a0_2 : Int) (r1 : Int) (r2 : Int) (r3 : Int) (w : World) (h : zhR.f k a0_0 a0_1 a0_2 = some (r1, r2, r3)) :
  Calls Tryd.prog 174 #[.agg #[.int .i64 a0_0, .int .i64 a0_1, .int .i64 a0_2]] w fun e w' => e = .returned (.agg #[.int .i64 r1, .int .i64 r2, .int .i64 r3]) ∧ Below w.heap.size w w' := by
 have hu92 := Tryd.underlying92
 have HB := zpS (Below.refl w.heap.size w)
 have H : (if a0_0 = 0 then (zhR.j0 k (a0_1 == 0) a0_0 a0_1 a0_2) else (zhR.j0 k false a0_0 a0_1 a0_2)) = some (r1, r2, r3) := h
 clear h
 have HC2 := zpS H
 clear H
 go_enter Tryd.func174, Tryd.ntmps174
 go_upto_region 1 with (first | ((with_reducible refine zpZ (N := 1) rfl ?_); refine bx_ 1 #[.int .i64 a0_0, .int .i64 a0_1, .int .i64 a0_2] 92 ?_; intro gb139 hg w3 hbox hb; have n0_ := (ns_ hb); have n1_ := zpS (hbox); have n2_ := (ng_ hg); have n3_ := n2_; clear HB; have HB := n0_; have BK139 := n1_; have GW139 := n2_; have GE139 := n3_; clear n0_ n1_ n2_ n3_; clear hb hbox hg) | ((with_reducible refine zpZ (N := 2) rfl ?_); refine bx_ 2 #[.int .i64 0, .int .i64 0, .int .i64 0] 92 ?_; intro gb140 hg w4 hbox hb; have n0_ := zpS (zgM (g := gb139) (o := .cells #[.int .i64 a0_0, .int .i64 a0_1, .int .i64 a0_2] 92 (0, 0)) bk_ hb); have n1_ := (ns_ hb); have n2_ := zpS (hbox); have n3_ := (ng_ hg); have n4_ := n3_; have n5_ := zpS ((by rw [hg]; exact Nat.ne_of_lt (zmN (g := gb139) (o := .cells #[.int .i64 a0_0, .int .i64 a0_1, .int .i64 a0_2] 92 (0, 0)) bk_) : gb139 ≠ gb140)); have n6_ := zpS ((by rw [hg]; exact Nat.ne_of_gt (zmN (g := gb139) (o := .cells #[.int .i64 a0_0, .int .i64 a0_1, .int .i64 a0_2] 92 (0, 0)) bk_) : gb140 ≠ gb139)); clear BK139; clear HB; have BK139 := n0_; have HB := n1_; have BK140 := n2_; have GW140 := n3_; have GE140 := n4_; have NB139_140 := n5_; have NB140_139 := n6_; clear n0_ n1_ n2_ n3_ n4_ n5_ n6_; clear hb hbox hg))
 (try simp only [Act.put, set_a_, set_b_, set_c_])
 go_cut [10] (fun v10 wc => ∃ (kq : Nat) (x10_1 : Bool), v10 = .bool x10_1 ∧ Aside0 (zhR.j0 kq x10_1 a0_0 a0_1 a0_2 = some (r1, r2, r3)) ∧ Aside0 (kq ≤ k) ∧ Aside0 (wc.heap[gb139]? = some (.cells #[.int .i64 a0_0, .int .i64 a0_1, .int .i64 a0_2] 92 (0, 0))) ∧ Aside0 (wc.heap[gb140]? = some (.cells #[.int .i64 0, .int .i64 0, .int .i64 0] 92 (0, 0))) ∧ Aside0 (Below w.heap.size w wc))
 case first =>
  have H := HC2.out
  clear HC2
  by_cases c5 : a0_0 = 0
  ·rw [if_pos c5] at H
   have c5b0 : (a0_0 == 0) = true := beq_iff_eq.mpr c5
   have c5b1 : (a0_0 != 0) = false := bne_eq_false_iff_eq.mpr c5
   clear c5
   (first | rw [c5b0] | (simp only [zcM, ziJ]; rw [c5b0]) | skip)
   have H' := zpS H
   clear H
   have hnb6 := NB139_140.out
   have hnc6 := NB140_139.out
   obtain ⟨hcz7_0, hcz7_1, hcz7_2⟩ := zdT BK139.out
   obtain ⟨hfz7_0, hfz7_1, hfz7_2⟩ := zqD BK139.out
   go_wp2
   go_meet
   case rel => exact ⟨_, ((a0_1 == 0)), (by first | rfl | (simp; done) | (simp [*]; done)), H', ⟨by first | omega | exact Nat.le_refl _⟩, ⟨bk_⟩, ⟨bk_⟩, ⟨bb_⟩⟩
  ·rw [if_neg c5] at H
   have c5b0 : (a0_0 == 0) = false := beq_eq_false_iff_ne.mpr c5
   have c5b1 : (a0_0 != 0) = true := bne_iff_ne.mpr c5
   (first | rw [c5b0] | (simp only [zcM, ziJ]; rw [c5b0]) | skip)
   have H' := zpS H
   clear H
   have hnb8 := NB139_140.out
   have hnc8 := NB140_139.out
   obtain ⟨hcz9_0, hcz9_1, hcz9_2⟩ := zdT BK139.out
   obtain ⟨hfz9_0, hfz9_1, hfz9_2⟩ := zqD BK139.out
   go_wp2
   go_meet
   case rel => exact ⟨_, (false), (by first | rfl | (simp; done) | (simp [*]; done)), H', ⟨by first | omega | exact Nat.le_refl _⟩, ⟨bk_⟩, ⟨bk_⟩, ⟨bb_⟩⟩
 case rest =>
  clear HC2
  try clear c1
  try clear p2
  try clear c5
  try clear c5b0
  try clear c5b1
  try clear c6
  try clear c8
  try clear hcz7_0
  try clear hcz7_1
  try clear hcz7_2
  try clear hcz9_0
  try clear hcz9_1
  try clear hcz9_2
  try clear hfz7_0
  try clear hfz7_1
  try clear hfz7_2
  try clear hfz9_0
  try clear hfz9_1
  try clear hfz9_2
  obtain ⟨kq, x10_1, rfl, HA, HJ1, BK139, BK140, HB⟩ := hcut
  cases kq with
  | zero => exact absurd HA.out (by simp [zhR.j0])
  | succ kj1 =>
   have H := HA.out
   clear HA
   simp only [zhR.j0] at H
   by_cases c10 : x10_1 = true
   ·subst c10
    have H1 : (some (0, 0, 0)) = some (r1, r2, r3) := by rw [if_pos rfl] at H; exact H
    clear H
    have H := H1
    clear H1
    simp only [Option.some.injEq, Prod.mk.injEq] at H
    obtain ⟨rfl, rfl, rfl⟩ := H
    have hnb11 := NB140_139.out
    have hnc11 := NB139_140.out
    obtain ⟨hcz12_0, hcz12_1, hcz12_2⟩ := zdT BK140.out
    obtain ⟨hfz12_0, hfz12_1, hfz12_2⟩ := zqD BK140.out
    go_wp2
    refine bodyPost_ret (results_cell_row rfl _ _ gb140 92 #[.int .i64 0, .int .i64 0, .int .i64 0] (0, 0) _ rfl (by (with_reducible repeat (first | apply zuW | apply ztN | apply zqY)); refine zlL (cs := #[.int .i64 0, .int .i64 0, .int .i64 0]) ?_ 2 _ rfl; (with_reducible repeat (first | apply zuW | apply ztN | apply zqY)); refine zlL (cs := #[.int .i64 0, .int .i64 0, .int .i64 0]) ?_ 1 _ rfl; (with_reducible repeat (first | apply zuW | apply ztN | apply zqY)); refine zlL (cs := #[.int .i64 0, .int .i64 0, .int .i64 0]) ?_ 0 _ rfl; (with_reducible repeat (first | apply zuW | apply ztN | apply zqY)); exact BK140.out) Tryd.underlying92 rfl (by kernel_rfl)) rfl ?_
    exact ⟨by first | rfl | (simp [ziS, znJ] <;> rfl) | (simp [*, ziS, znJ] <;> rfl), bb_⟩
   ·replace c10 := Bool.eq_false_iff.mpr c10
    subst c10
    have H1 : (zhR.l0 kj1 a0_0 a0_1 a0_2) = some (r1, r2, r3) := by rw [if_neg (show ¬ (false = true) by decide)] at H; exact H
    clear H
    have H := H1
    clear H1
    have H' := zpS H
    clear H
    go_wp2
    (try go_simp)
    go_loopg [] kj1 (fun kq w' => ∃ (x140000_2 : Int) (x140001_2 : Int) (x140002_2 : Int), Aside0 (zhR.l0 kq x140000_2 x140001_2 x140002_2 = some (r1, r2, r3)) ∧ Aside0 (kq ≤ kj1) ∧ Aside0 (w'.heap[gb139]? = some (.cells #[.int .i64 x140000_2, .int .i64 x140001_2, .int .i64 x140002_2] 92 (0, 0))) ∧ Aside0 (w'.heap[gb140]? = some (.cells #[.int .i64 0, .int .i64 0, .int .i64 0] 92 (0, 0))) ∧ Aside0 (Below w.heap.size w w'))
    case atStart => exact ⟨(a0_0), (a0_1), (a0_2), H', ⟨Nat.le_refl _⟩, ⟨bk_⟩, ⟨bk_⟩, ⟨bb_⟩⟩
    case round =>
     clear H'
     try clear c1
     try clear p2
     try clear c5
     try clear c5b0
     try clear c5b1
     try clear c6
     try clear c8
     try clear c10
     try clear c11
     try clear hcz12_0
     try clear hcz12_1
     try clear hcz12_2
     try clear hcz7_0
     try clear hcz7_1
     try clear hcz7_2
     try clear hcz9_0
     try clear hcz9_1
     try clear hcz9_2
     try clear hfz12_0
     try clear hfz12_1
     try clear hfz12_2
     try clear hfz7_0
     try clear hfz7_1
     try clear hfz7_2
     try clear hfz9_0
     try clear hfz9_1
     try clear hfz9_2
     try clear p2
     obtain ⟨x140000_2, x140001_2, x140002_2, HA, HK2, BK139, BK140, HB⟩ := hrel
     cases gk with
     | zero => exact absurd HA.out (by simp [zhR.l0])
     | succ k2 =>
      have H := HA.out
      clear HA
      simp only [zhR.l0] at H
      by_cases c13 : x140002_2 > 0
      ·rw [if_pos c13] at H
       have c13b0 : decide (0 < x140002_2) = true := decide_eq_true c13
       clear c13
       by_cases c14 : (Int.tmod x140000_2 2) = 0
       ·rw [if_pos c14] at H
        have c14b0 : ((Int.tmod x140000_2 2) == 0) = true := beq_iff_eq.mpr c14
        have c14b1 : ((Int.tmod x140000_2 2) != 0) = false := bne_eq_false_iff_eq.mpr c14
        clear c14
        by_cases c15 : (Int.tmod x140001_2 2) = 0
        ·rw [if_pos c15] at H
         have c15b0 : ((Int.tmod x140001_2 2) == 0) = true := beq_iff_eq.mpr c15
         have c15b1 : ((Int.tmod x140001_2 2) != 0) = false := bne_eq_false_iff_eq.mpr c15
         clear c15
         have H' := zpS H
         clear H
         have hnb16 := NB139_140.out
         have hnc16 := NB140_139.out
         obtain ⟨hcz17_0, hcz17_1, hcz17_2⟩ := zdT BK139.out
         obtain ⟨hfz17_0, hfz17_1, hfz17_2⟩ := zqD BK139.out
         go_wp2
         go_roundg k2
         case measure => have := HJ1.out; have := HK2.out; omega
         case rel => exact ⟨(wrap64 (Int.tdiv x140000_2 2)), (wrap64 (Int.tdiv x140001_2 2)), (wrap64 (x140002_2 - 1)), H', ⟨by have := HJ1.out; have := HK2.out; omega⟩, ⟨by (with_reducible repeat (first | apply zuW | apply ztN | apply zqY)); refine zlL (cs := #[.int .i64 (wrap64 (Int.tdiv x140000_2 2)), .int .i64 (wrap64 (Int.tdiv x140001_2 2)), .int .i64 x140002_2]) ?_ 2 _ rfl; (with_reducible repeat (first | apply zuW | apply ztN | apply zqY)); refine zlL (cs := #[.int .i64 (wrap64 (Int.tdiv x140000_2 2)), .int .i64 x140001_2, .int .i64 x140002_2]) ?_ 1 _ rfl; (with_reducible repeat (first | apply zuW | apply ztN | apply zqY)); refine zlL (cs := #[.int .i64 x140000_2, .int .i64 x140001_2, .int .i64 x140002_2]) ?_ 0 _ rfl; (with_reducible repeat (first | apply zuW | apply ztN | apply zqY)); exact BK139.out⟩, ⟨by (with_reducible repeat (first | apply zuW | apply ztN | apply zqY)); refine znI ?_ NB140_139.out _; (with_reducible repeat (first | apply zuW | apply ztN | apply zqY)); refine znI ?_ NB140_139.out _; (with_reducible repeat (first | apply zuW | apply ztN | apply zqY)); refine znI ?_ NB140_139.out _; (with_reducible repeat (first | apply zuW | apply ztN | apply zqY)); exact BK140.out⟩, ⟨bb_⟩⟩
        ·rw [if_neg c15] at H
         have c15b0 : ((Int.tmod x140001_2 2) == 0) = false := beq_eq_false_iff_ne.mpr c15
         have c15b1 : ((Int.tmod x140001_2 2) != 0) = true := bne_iff_ne.mpr c15
         simp only [Option.some.injEq, Prod.mk.injEq] at H
         obtain ⟨rfl, rfl, rfl⟩ := H
         have hnb18 := NB139_140.out
         have hnc18 := NB140_139.out
         obtain ⟨hcz19_0, hcz19_1, hcz19_2⟩ := zdT BK139.out
         obtain ⟨hfz19_0, hfz19_1, hfz19_2⟩ := zqD BK139.out
         obtain ⟨hcz20_0, hcz20_1, hcz20_2⟩ := zdT BK140.out
         obtain ⟨hfz20_0, hfz20_1, hfz20_2⟩ := zqD BK140.out
         go_wp2
         refine bodyPost_ret (results_cell_row rfl _ _ gb140 92 #[.int .i64 x140000_2, .int .i64 x140001_2, .int .i64 x140002_2] (0, 0) _ rfl (by (with_reducible repeat (first | apply zuW | apply ztN | apply zqY)); refine zlL (cs := #[.int .i64 x140000_2, .int .i64 x140001_2, .int .i64 0]) ?_ 2 _ rfl; (with_reducible repeat (first | apply zuW | apply ztN | apply zqY)); refine zlL (cs := #[.int .i64 x140000_2, .int .i64 0, .int .i64 0]) ?_ 1 _ rfl; (with_reducible repeat (first | apply zuW | apply ztN | apply zqY)); refine zlL (cs := #[.int .i64 0, .int .i64 0, .int .i64 0]) ?_ 0 _ rfl; (with_reducible repeat (first | apply zuW | apply ztN | apply zqY)); exact BK140.out) Tryd.underlying92 rfl (by kernel_rfl)) rfl ?_
         exact ⟨by first | rfl | (simp [ziS, znJ] <;> rfl) | (simp [*, ziS, znJ] <;> rfl), bb_⟩
       ·rw [if_neg c14] at H
        have c14b0 : ((Int.tmod x140000_2 2) == 0) = false := beq_eq_false_iff_ne.mpr c14
        have c14b1 : ((Int.tmod x140000_2 2) != 0) = true := bne_iff_ne.mpr c14
        simp only [Option.some.injEq, Prod.mk.injEq] at H
        obtain ⟨rfl, rfl, rfl⟩ := H
        have hnb21 := NB139_140.out
        have hnc21 := NB140_139.out
        obtain ⟨hcz22_0, hcz22_1, hcz22_2⟩ := zdT BK139.out
        obtain ⟨hfz22_0, hfz22_1, hfz22_2⟩ := zqD BK139.out
        obtain ⟨hcz23_0, hcz23_1, hcz23_2⟩ := zdT BK140.out
        obtain ⟨hfz23_0, hfz23_1, hfz23_2⟩ := zqD BK140.out
        go_wp2
        refine bodyPost_ret (results_cell_row rfl _ _ gb140 92 #[.int .i64 x140000_2, .int .i64 x140001_2, .int .i64 x140002_2] (0, 0) _ rfl (by (with_reducible repeat (first | apply zuW | apply ztN | apply zqY)); refine zlL (cs := #[.int .i64 x140000_2, .int .i64 x140001_2, .int .i64 0]) ?_ 2 _ rfl; (with_reducible repeat (first | apply zuW | apply ztN | apply zqY)); refine zlL (cs := #[.int .i64 x140000_2, .int .i64 0, .int .i64 0]) ?_ 1 _ rfl; (with_reducible repeat (first | apply zuW | apply ztN | apply zqY)); refine zlL (cs := #[.int .i64 0, .int .i64 0, .int .i64 0]) ?_ 0 _ rfl; (with_reducible repeat (first | apply zuW | apply ztN | apply zqY)); exact BK140.out) Tryd.underlying92 rfl (by kernel_rfl)) rfl ?_
        exact ⟨by first | rfl | (simp [ziS, znJ] <;> rfl) | (simp [*, ziS, znJ] <;> rfl), bb_⟩
      ·rw [if_neg c13] at H
       have c13b0 : decide (0 < x140002_2) = false := decide_eq_false c13
       clear c13
       simp only [Option.some.injEq, Prod.mk.injEq] at H
       obtain ⟨rfl, rfl, rfl⟩ := H
       have hnb24 := NB139_140.out
       have hnc24 := NB140_139.out
       obtain ⟨hcz25_0, hcz25_1, hcz25_2⟩ := zdT BK139.out
       obtain ⟨hfz25_0, hfz25_1, hfz25_2⟩ := zqD BK139.out
       obtain ⟨hcz26_0, hcz26_1, hcz26_2⟩ := zdT BK140.out
       obtain ⟨hfz26_0, hfz26_1, hfz26_2⟩ := zqD BK140.out
       go_wp2
       refine bodyPost_ret (results_cell_row rfl _ _ gb140 92 #[.int .i64 x140000_2, .int .i64 x140001_2, .int .i64 x140002_2] (0, 0) _ rfl (by (with_reducible repeat (first | apply zuW | apply ztN | apply zqY)); refine zlL (cs := #[.int .i64 x140000_2, .int .i64 x140001_2, .int .i64 0]) ?_ 2 _ rfl; (with_reducible repeat (first | apply zuW | apply ztN | apply zqY)); refine zlL (cs := #[.int .i64 x140000_2, .int .i64 0, .int .i64 0]) ?_ 1 _ rfl; (with_reducible repeat (first | apply zuW | apply ztN | apply zqY)); refine zlL (cs := #[.int .i64 0, .int .i64 0, .int .i64 0]) ?_ 0 _ rfl; (with_reducible repeat (first | apply zuW | apply ztN | apply zqY)); exact BK140.out) Tryd.underlying92 rfl (by kernel_rfl)) rfl ?_
       exact ⟨by first | rfl | (simp [ziS, znJ] <;> rfl) | (simp [*, ziS, znJ] <;> rfl), bb_⟩

mutual
def zhQ.l0 : Nat → Int → Int → Int → Int → Int → Int → Option (Int × Int × Int)
 | 0, _, _, _, _, _, _ => none
 | k + 1, x142000, x142001, x142002, x143000, x143001, x143002 => if x142002 < x143002 then (zhQ.l0 k (wrap64 (x142000 * 2)) (wrap64 (x142001 * 2)) (wrap64 (x142002 + 1)) x143000 x143001 x143002) else (zhQ.l1 k x142000 x142001 x142002 x143000 x143001 x143002)
def zhQ.l1 : Nat → Int → Int → Int → Int → Int → Int → Option (Int × Int × Int)
 | 0, _, _, _, _, _, _ => none
 | k + 1, x142000, x142001, x142002, x143000, x143001, x143002 => if x143002 < x142002 then (zhQ.l1 k x142000 x142001 x142002 (wrap64 (x143000 * 2)) (wrap64 (x143001 * 2)) (wrap64 (x143002 + 1))) else ((zhR.f k (wrap64 (x142000 + x143000)) (wrap64 (x142001 + x143001)) x142002).bind fun bt144 => (some (bt144.1, bt144.2.1, bt144.2.2)))
end
def zhQ.f (k : Nat) (a0_0 : Int) (a0_1 : Int) (a0_2 : Int) (a1_0 : Int) (a1_1 : Int) (a1_2 : Int) : Option (Int × Int × Int) := zhQ.l0 k a0_0 a0_1 a0_2 a1_0 a1_1 a1_2
theorem zhQ.mono_l : ∀ k, (∀ y0 y1 y2 y3 y4 y5, LeO (zhQ.l0 k y0 y1 y2 y3 y4 y5) (zhQ.l0 (k + 1) y0 y1 y2 y3 y4 y5)) ∧ (∀ y0 y1 y2 y3 y4 y5, LeO (zhQ.l1 k y0 y1 y2 y3 y4 y5) (zhQ.l1 (k + 1) y0 y1 y2 y3 y4 y5))
 | 0 => ⟨fun _ _ _ _ _ _ r h => by simp [zhQ.l0] at h, fun _ _ _ _ _ _ r h => by simp [zhQ.l1] at h⟩
 | k + 1 => by
  obtain ⟨ih0, ih1⟩ := zhQ.mono_l k
  refine ⟨?_, ?_⟩
  ·intro y0 y1 y2 y3 y4 y5
   unfold zhQ.l0
   repeat' first
   | (with_reducible exact ih0 _ _ _ _ _ _)
   | (with_reducible exact ih1 _ _ _ _ _ _)
   | (with_reducible exact zhR.mono _ _ _ _)
   | (with_reducible exact LeO.refl _)
   | (with_reducible exact LeO.none _)
   | (with_reducible refine LeO.ite ?_ ?_)
   | (with_reducible refine LeO.bind ?_ (fun _ => ?_))
   | exact ih0 _ _ _ _ _ _
   | exact ih1 _ _ _ _ _ _
   | exact zhR.mono _ _ _ _
   | exact LeO.none _
   | refine LeO.ite ?_ ?_
   | refine LeO.bind ?_ (fun _ => ?_)
  ·intro y0 y1 y2 y3 y4 y5
   unfold zhQ.l1
   repeat' first
   | (with_reducible exact ih0 _ _ _ _ _ _)
   | (with_reducible exact ih1 _ _ _ _ _ _)
   | (with_reducible exact zhR.mono _ _ _ _)
   | (with_reducible exact LeO.refl _)
   | (with_reducible exact LeO.none _)
   | (with_reducible refine LeO.ite ?_ ?_)
   | (with_reducible refine LeO.bind ?_ (fun _ => ?_))
   | exact ih0 _ _ _ _ _ _
   | exact ih1 _ _ _ _ _ _
   | exact zhR.mono _ _ _ _
   | exact LeO.none _
   | refine LeO.ite ?_ ?_
   | refine LeO.bind ?_ (fun _ => ?_)
theorem zhQ.mono : ∀ a0 a1 a2 a3 a4 a5 k, LeO (zhQ.f k a0 a1 a2 a3 a4 a5) (zhQ.f (k + 1) a0 a1 a2 a3 a4 a5) := by
 intro a0 a1 a2 a3 a4 a5 k
 obtain ⟨ih0, ih1⟩ := zhQ.mono_l k
 unfold zhQ.f
 repeat' first
   | (with_reducible exact ih0 _ _ _ _ _ _)
   | (with_reducible exact ih1 _ _ _ _ _ _)
   | (with_reducible exact zhR.mono _ _ _ _)
   | (with_reducible exact LeO.refl _)
   | (with_reducible exact LeO.none _)
   | (with_reducible refine LeO.ite ?_ ?_)
   | (with_reducible refine LeO.bind ?_ (fun _ => ?_))
   | exact ih0 _ _ _ _ _ _
   | exact ih1 _ _ _ _ _ _
   | exact zhR.mono _ _ _ _
   | exact LeO.none _
   | refine LeO.ite ?_ ?_
   | refine LeO.bind ?_ (fun _ => ?_)
set_option maxHeartbeats 8000000 in
set_option maxRecDepth 100000 in
theorem zhQ.calls (k : Nat) (a0_0 : Int) (a0_1 : Int) (a0_2 : Int) (a1_0 : Int) (a1_1 : Int) (a1_2 : Int) (r1 : Int) (r2 : Int) (r3 : Int) (w : World) (h : zhQ.f k a0_0 a0_1 a0_2 a1_0 a1_1 a1_2 = some (r1, r2, r3)) :
  Calls Tryd.prog 148 #[.agg #[.int .i64 a0_0, .int .i64 a0_1, .int .i64 a0_2], .agg #[.int .i64 a1_0, .int .i64 a1_1, .int .i64 a1_2]] w fun e w' => e = .returned (.agg #[.int .i64 r1, .int .i64 r2, .int .i64 r3]) ∧ Below w.heap.size w w' := by
 have hu92 := Tryd.underlying92
 have HB := zpS (Below.refl w.heap.size w)
 have H : (zhQ.l0 k a0_0 a0_1 a0_2 a1_0 a1_1 a1_2) = some (r1, r2, r3) := h
 clear h
 have H' := zpS H
 clear H
 go_enter Tryd.func148, Tryd.ntmps148
 go_wp2_with (first | ((with_reducible refine zpZ (N := 2) rfl ?_); refine bx_ 2 #[.int .i64 a0_0, .int .i64 a0_1, .int .i64 a0_2] 92 ?_; intro gb141 hg w3 hbox hb; have n0_ := (ns_ hb); have n1_ := zpS (hbox); have n2_ := (ng_ hg); have n3_ := n2_; clear HB; have HB := n0_; have BK141 := n1_; have GW141 := n2_; have GE141 := n3_; clear n0_ n1_ n2_ n3_; clear hb hbox hg) | ((with_reducible refine zpZ (N := 3) rfl ?_); refine bx_ 3 #[.int .i64 a1_0, .int .i64 a1_1, .int .i64 a1_2] 92 ?_; intro gb142 hg w4 hbox hb; have n0_ := zpS (zgM (g := gb141) (o := .cells #[.int .i64 a0_0, .int .i64 a0_1, .int .i64 a0_2] 92 (0, 0)) bk_ hb); have n1_ := (ns_ hb); have n2_ := zpS (hbox); have n3_ := (ng_ hg); have n4_ := n3_; have n5_ := zpS ((by rw [hg]; exact Nat.ne_of_lt (zmN (g := gb141) (o := .cells #[.int .i64 a0_0, .int .i64 a0_1, .int .i64 a0_2] 92 (0, 0)) bk_) : gb141 ≠ gb142)); have n6_ := zpS ((by rw [hg]; exact Nat.ne_of_gt (zmN (g := gb141) (o := .cells #[.int .i64 a0_0, .int .i64 a0_1, .int .i64 a0_2] 92 (0, 0)) bk_) : gb142 ≠ gb141)); clear BK141; clear HB; have BK141 := n0_; have HB := n1_; have BK142 := n2_; have GW142 := n3_; have GE142 := n4_; have NB141_142 := n5_; have NB142_141 := n6_; clear n0_ n1_ n2_ n3_ n4_ n5_ n6_; clear hb hbox hg) | ((with_reducible refine zpZ (N := 4) rfl ?_); refine bx_ 4 #[.int .i64 0, .int .i64 0, .int .i64 0] 92 ?_; intro gb143 hg w5 hbox hb; have n0_ := zpS (zgM (g := gb141) (o := .cells #[.int .i64 a0_0, .int .i64 a0_1, .int .i64 a0_2] 92 (0, 0)) bk_ hb); have n1_ := zpS (zgM (g := gb142) (o := .cells #[.int .i64 a1_0, .int .i64 a1_1, .int .i64 a1_2] 92 (0, 0)) bk_ hb); have n2_ := (ns_ hb); have n3_ := zpS (hbox); have n4_ := (ng_ hg); have n5_ := n4_; have n6_ := zpS ((by rw [hg]; exact Nat.ne_of_lt (zmN (g := gb141) (o := .cells #[.int .i64 a0_0, .int .i64 a0_1, .int .i64 a0_2] 92 (0, 0)) bk_) : gb141 ≠ gb143)); have n7_ := zpS ((by rw [hg]; exact Nat.ne_of_gt (zmN (g := gb141) (o := .cells #[.int .i64 a0_0, .int .i64 a0_1, .int .i64 a0_2] 92 (0, 0)) bk_) : gb143 ≠ gb141)); have n8_ := zpS ((by rw [hg]; exact Nat.ne_of_lt (zmN (g := gb142) (o := .cells #[.int .i64 a1_0, .int .i64 a1_1, .int .i64 a1_2] 92 (0, 0)) bk_) : gb142 ≠ gb143)); have n9_ := zpS ((by rw [hg]; exact Nat.ne_of_gt (zmN (g := gb142) (o := .cells #[.int .i64 a1_0, .int .i64 a1_1, .int .i64 a1_2] 92 (0, 0)) bk_) : gb143 ≠ gb142)); clear BK141; clear BK142; clear HB; have BK141 := n0_; have BK142 := n1_; have HB := n2_; have BK143 := n3_; have GW143 := n4_; have GE143 := n5_; have NB141_143 := n6_; have NB143_141 := n7_; have NB142_143 := n8_; have NB143_142 := n9_; clear n0_ n1_ n2_ n3_ n4_ n5_ n6_ n7_ n8_ n9_; clear hb hbox hg))
 (try go_simp)
 go_loopg [] k (fun kq w' => ∃ (x142000_1 : Int) (x142001_1 : Int) (x142002_1 : Int), Aside0 (zhQ.l0 kq x142000_1 x142001_1 x142002_1 a1_0 a1_1 a1_2 = some (r1, r2, r3)) ∧ Aside0 (kq ≤ k) ∧ Aside0 (w'.heap[gb141]? = some (.cells #[.int .i64 x142000_1, .int .i64 x142001_1, .int .i64 x142002_1] 92 (0, 0))) ∧ Aside0 (w'.heap[gb142]? = some (.cells #[.int .i64 a1_0, .int .i64 a1_1, .int .i64 a1_2] 92 (0, 0))) ∧ Aside0 (w'.heap[gb143]? = some (.cells #[.int .i64 0, .int .i64 0, .int .i64 0] 92 (0, 0))) ∧ Aside0 (Below w.heap.size w w'))
 case atStart => exact ⟨(a0_0), (a0_1), (a0_2), H', ⟨Nat.le_refl _⟩, ⟨bk_⟩, ⟨bk_⟩, ⟨bk_⟩, ⟨bb_⟩⟩
 case round =>
  clear H'
  try clear c1
  try clear p2
  obtain ⟨x142000_1, x142001_1, x142002_1, HA, HK1, BK141, BK142, BK143, HB⟩ := hrel
  cases gk with
  | zero => exact absurd HA.out (by simp [zhQ.l0])
  | succ k1 =>
   have H := HA.out
   clear HA
   simp only [zhQ.l0] at H
   by_cases c6 : x142002_1 < a1_2
   ·rw [if_pos c6] at H
    have c6b0 : decide (x142002_1 < a1_2) = true := decide_eq_true c6
    clear c6
    have H' := zpS H
    clear H
    have hnb7 := NB141_142.out
    have hnc7 := NB142_141.out
    have hnb8 := NB141_143.out
    have hnc8 := NB143_141.out
    obtain ⟨hcz9_0, hcz9_1, hcz9_2⟩ := zdT BK141.out
    obtain ⟨hfz9_0, hfz9_1, hfz9_2⟩ := zqD BK141.out
    have hnb10 := NB142_143.out
    have hnc10 := NB143_142.out
    obtain ⟨hcz11_0, hcz11_1, hcz11_2⟩ := zdT BK142.out
    obtain ⟨hfz11_0, hfz11_1, hfz11_2⟩ := zqD BK142.out
    go_wp2
    go_roundg k1
    case measure => have := HK1.out; omega
    case rel => exact ⟨(wrap64 (x142000_1 * 2)), (wrap64 (x142001_1 * 2)), (wrap64 (x142002_1 + 1)), H', ⟨by have := HK1.out; omega⟩, ⟨by (with_reducible repeat (first | apply zuW | apply ztN | apply zqY)); refine zlL (cs := #[.int .i64 (wrap64 (x142000_1 * 2)), .int .i64 (wrap64 (x142001_1 * 2)), .int .i64 x142002_1]) ?_ 2 _ rfl; (with_reducible repeat (first | apply zuW | apply ztN | apply zqY)); refine zlL (cs := #[.int .i64 (wrap64 (x142000_1 * 2)), .int .i64 x142001_1, .int .i64 x142002_1]) ?_ 1 _ rfl; (with_reducible repeat (first | apply zuW | apply ztN | apply zqY)); refine zlL (cs := #[.int .i64 x142000_1, .int .i64 x142001_1, .int .i64 x142002_1]) ?_ 0 _ rfl; (with_reducible repeat (first | apply zuW | apply ztN | apply zqY)); exact BK141.out⟩, ⟨by (with_reducible repeat (first | apply zuW | apply ztN | apply zqY)); refine znI ?_ NB142_141.out _; (with_reducible repeat (first | apply zuW | apply ztN | apply zqY)); refine znI ?_ NB142_141.out _; (with_reducible repeat (first | apply zuW | apply ztN | apply zqY)); refine znI ?_ NB142_141.out _; (with_reducible repeat (first | apply zuW | apply ztN | apply zqY)); exact BK142.out⟩, ⟨by (with_reducible repeat (first | apply zuW | apply ztN | apply zqY)); refine znI ?_ NB143_141.out _; (with_reducible repeat (first | apply zuW | apply ztN | apply zqY)); refine znI ?_ NB143_141.out _; (with_reducible repeat (first | apply zuW | apply ztN | apply zqY)); refine znI ?_ NB143_141.out _; (with_reducible repeat (first | apply zuW | apply ztN | apply zqY)); exact BK143.out⟩, ⟨bb_⟩⟩
   ·rw [if_neg c6] at H
    have c6b0 : decide (x142002_1 < a1_2) = false := decide_eq_false c6
    clear c6
    have H' := zpS H
    clear H
    have hnb12 := NB141_142.out
    have hnc12 := NB142_141.out
    have hnb13 := NB141_143.out
    have hnc13 := NB143_141.out
    obtain ⟨hcz14_0, hcz14_1, hcz14_2⟩ := zdT BK141.out
    obtain ⟨hfz14_0, hfz14_1, hfz14_2⟩ := zqD BK141.out
    have hnb15 := NB142_143.out
    have hnc15 := NB143_142.out
    obtain ⟨hcz16_0, hcz16_1, hcz16_2⟩ := zdT BK142.out
    obtain ⟨hfz16_0, hfz16_1, hfz16_2⟩ := zqD BK142.out
    go_wp2
    (try go_simp)
    go_loopg [] k1 (fun kq w' => ∃ (x143000_2 : Int) (x143001_2 : Int) (x143002_2 : Int), Aside0 (zhQ.l1 kq x142000_1 x142001_1 x142002_1 x143000_2 x143001_2 x143002_2 = some (r1, r2, r3)) ∧ Aside0 (kq ≤ k1) ∧ Aside0 (w'.heap[gb141]? = some (.cells #[.int .i64 x142000_1, .int .i64 x142001_1, .int .i64 x142002_1] 92 (0, 0))) ∧ Aside0 (w'.heap[gb142]? = some (.cells #[.int .i64 x143000_2, .int .i64 x143001_2, .int .i64 x143002_2] 92 (0, 0))) ∧ Aside0 (w'.heap[gb143]? = some (.cells #[.int .i64 0, .int .i64 0, .int .i64 0] 92 (0, 0))) ∧ Aside0 (Below w.heap.size w w'))
    case atStart => exact ⟨(a1_0), (a1_1), (a1_2), H', ⟨Nat.le_refl _⟩, ⟨bk_⟩, ⟨bk_⟩, ⟨bk_⟩, ⟨bb_⟩⟩
    case round =>
     clear H'
     try clear c1
     try clear p2
     try clear c6
     try clear c6b0
     try clear p6
     try clear c7
     try clear c8
     try clear c10
     try clear c12
     try clear c13
     try clear c14
     try clear c15
     try clear hcz11_0
     try clear hcz11_1
     try clear hcz11_2
     try clear hcz14_0
     try clear hcz14_1
     try clear hcz14_2
     try clear hcz16_0
     try clear hcz16_1
     try clear hcz16_2
     try clear hcz9_0
     try clear hcz9_1
     try clear hcz9_2
     try clear hfz11_0
     try clear hfz11_1
     try clear hfz11_2
     try clear hfz14_0
     try clear hfz14_1
     try clear hfz14_2
     try clear hfz16_0
     try clear hfz16_1
     try clear hfz16_2
     try clear hfz9_0
     try clear hfz9_1
     try clear hfz9_2
     try clear p2
     obtain ⟨x143000_2, x143001_2, x143002_2, HA, HK2, BK141, BK142, BK143, HB⟩ := hrel
     cases gk with
     | zero => exact absurd HA.out (by simp [zhQ.l1])
     | succ k2 =>
      have H := HA.out
      clear HA
      simp only [zhQ.l1] at H
      by_cases c17 : x143002_2 < x142002_1
      ·rw [if_pos c17] at H
       have c17b0 : decide (x143002_2 < x142002_1) = true := decide_eq_true c17
       clear c17
       have H' := zpS H
       clear H
       have hnb18 := NB142_141.out
       have hnc18 := NB141_142.out
       have hnb19 := NB142_143.out
       have hnc19 := NB143_142.out
       obtain ⟨hcz20_0, hcz20_1, hcz20_2⟩ := zdT BK142.out
       obtain ⟨hfz20_0, hfz20_1, hfz20_2⟩ := zqD BK142.out
       have hnb21 := NB141_143.out
       have hnc21 := NB143_141.out
       obtain ⟨hcz22_0, hcz22_1, hcz22_2⟩ := zdT BK141.out
       obtain ⟨hfz22_0, hfz22_1, hfz22_2⟩ := zqD BK141.out
       go_wp2
       go_roundg k2
       case measure => have := HK1.out; have := HK2.out; omega
       case rel => exact ⟨(wrap64 (x143000_2 * 2)), (wrap64 (x143001_2 * 2)), (wrap64 (x143002_2 + 1)), H', ⟨by have := HK1.out; have := HK2.out; omega⟩, ⟨by (with_reducible repeat (first | apply zuW | apply ztN | apply zqY)); refine znI ?_ NB141_142.out _; (with_reducible repeat (first | apply zuW | apply ztN | apply zqY)); refine znI ?_ NB141_142.out _; (with_reducible repeat (first | apply zuW | apply ztN | apply zqY)); refine znI ?_ NB141_142.out _; (with_reducible repeat (first | apply zuW | apply ztN | apply zqY)); exact BK141.out⟩, ⟨by (with_reducible repeat (first | apply zuW | apply ztN | apply zqY)); refine zlL (cs := #[.int .i64 (wrap64 (x143000_2 * 2)), .int .i64 (wrap64 (x143001_2 * 2)), .int .i64 x143002_2]) ?_ 2 _ rfl; (with_reducible repeat (first | apply zuW | apply ztN | apply zqY)); refine zlL (cs := #[.int .i64 (wrap64 (x143000_2 * 2)), .int .i64 x143001_2, .int .i64 x143002_2]) ?_ 1 _ rfl; (with_reducible repeat (first | apply zuW | apply ztN | apply zqY)); refine zlL (cs := #[.int .i64 x143000_2, .int .i64 x143001_2, .int .i64 x143002_2]) ?_ 0 _ rfl; (with_reducible repeat (first | apply zuW | apply ztN | apply zqY)); exact BK142.out⟩, ⟨by (with_reducible repeat (first | apply zuW | apply ztN | apply zqY)); refine znI ?_ NB143_142.out _; (with_reducible repeat (first | apply zuW | apply ztN | apply zqY)); refine znI ?_ NB143_142.out _; (with_reducible repeat (first | apply zuW | apply ztN | apply zqY)); refine znI ?_ NB143_142.out _; (with_reducible repeat (first | apply zuW | apply ztN | apply zqY)); exact BK143.out⟩, ⟨bb_⟩⟩
      ·rw [if_neg c17] at H
       have c17b0 : decide (x143002_2 < x142002_1) = false := decide_eq_false c17
       clear c17
       replace H := Option.bind_eq_some_iff.mp H
       obtain ⟨⟨t144, t145, t146⟩, A230, H⟩ := H
       replace H : (some (t144, t145, t146)) = some (r1, r2, r3) := H
       have A23 := zpS A230
       clear A230
       simp only [Option.some.injEq, Prod.mk.injEq] at H
       obtain ⟨rfl, rfl, rfl⟩ := H
       have hnb24 := NB142_141.out
       have hnc24 := NB141_142.out
       have hnb25 := NB142_143.out
       have hnc25 := NB143_142.out
       obtain ⟨hcz26_0, hcz26_1, hcz26_2⟩ := zdT BK142.out
       obtain ⟨hfz26_0, hfz26_1, hfz26_2⟩ := zqD BK142.out
       have hnb27 := NB141_143.out
       have hnc27 := NB143_141.out
       obtain ⟨hcz28_0, hcz28_1, hcz28_2⟩ := zdT BK141.out
       obtain ⟨hfz28_0, hfz28_1, hfz28_2⟩ := zqD BK141.out
       go_wp2_with (first | ((with_reducible refine zgK (f := 174) rfl ?_); refine zqQ (some 52) rfl rfl Tryd.func174 (by kernel_rfl) rfl #[.agg #[.int .i64 (wrap64 (x142000_1 + x143000_2)), .int .i64 (wrap64 (x142001_1 + x143001_2)), .int .i64 x142002_1]] rfl (by (try simp only [List.map_toArray, List.map_cons, List.map_nil]); first | done | rfl | (simp only [List.length_drop, List.length_take]; rfl)) ?_; (with_reducible refine (zhR.calls k2 (wrap64 (x142000_1 + x143000_2)) (wrap64 (x142001_1 + x143001_2)) x142002_1 t144 t145 t146 _ A23.out).mono ?_); rintro e w29 ⟨rfl, hb⟩; refine ⟨_, rfl, ?_⟩; have n0_ := zpS (zgM (g := gb141) (o := .cells #[.int .i64 x142000_1, .int .i64 x142001_1, .int .i64 x142002_1] 92 (0, 0)) bk_ hb); have n1_ := zpS (zgM (g := gb142) (o := .cells #[.int .i64 x143000_2, .int .i64 x143001_2, .int .i64 x143002_2] 92 (0, 0)) bk_ hb); have n2_ := zpS (zgM (g := gb143) (o := .cells #[.int .i64 0, .int .i64 0, .int .i64 0] 92 (0, 0)) bk_ hb); have n3_ := (ns_ hb); clear BK141; clear BK142; clear BK143; clear HB; have BK141 := n0_; have BK142 := n1_; have BK143 := n2_; have HB := n3_; clear n0_ n1_ n2_ n3_; (try clear hb); (try clear hb2); obtain ⟨hcz30_0, hcz30_1, hcz30_2⟩ := zdT BK143.out; obtain ⟨hfz30_0, hfz30_1, hfz30_2⟩ := zqD BK143.out))
       refine bodyPost_ret (results_cell_row rfl _ _ gb143 92 #[.int .i64 t144, .int .i64 t145, .int .i64 t146] (0, 0) _ rfl (by (with_reducible repeat (first | apply zuW | apply ztN | apply zqY)); refine zlL (cs := #[.int .i64 t144, .int .i64 t145, .int .i64 0]) ?_ 2 _ rfl; (with_reducible repeat (first | apply zuW | apply ztN | apply zqY)); refine zlL (cs := #[.int .i64 t144, .int .i64 0, .int .i64 0]) ?_ 1 _ rfl; (with_reducible repeat (first | apply zuW | apply ztN | apply zqY)); refine zlL (cs := #[.int .i64 0, .int .i64 0, .int .i64 0]) ?_ 0 _ rfl; (with_reducible repeat (first | apply zuW | apply ztN | apply zqY)); exact BK143.out) Tryd.underlying92 rfl (by kernel_rfl)) rfl ?_
       exact ⟨by first | rfl | (simp [ziS, znJ] <;> rfl) | (simp [*, ziS, znJ] <;> rfl), bb_⟩

def zhW.f (k : Nat) (a0_0 : Int) (a0_1 : Int) (a0_2 : Int) (a1_0 : Int) (a1_1 : Int) (a1_2 : Int) : Option (Int × Int × Int) := (zhR.f k (wrap64 ((wrap64 (a0_0 * a1_0)) + (wrap64 ((wrap64 (2 * a0_1)) * a1_1)))) (wrap64 ((wrap64 (a0_0 * a1_1)) + (wrap64 (a0_1 * a1_0)))) (wrap64 (a0_2 + a1_2))).bind fun bt150 => (some (bt150.1, bt150.2.1, bt150.2.2))
theorem zhW.mono : ∀ a0 a1 a2 a3 a4 a5 k, LeO (zhW.f k a0 a1 a2 a3 a4 a5) (zhW.f (k + 1) a0 a1 a2 a3 a4 a5) := by
 intro a0 a1 a2 a3 a4 a5 k
 unfold zhW.f
 repeat' first
   | (with_reducible exact zhR.mono _ _ _ _)
   | (with_reducible exact LeO.refl _)
   | (with_reducible exact LeO.none _)
   | (with_reducible refine LeO.ite ?_ ?_)
   | (with_reducible refine LeO.bind ?_ (fun _ => ?_))
   | exact zhR.mono _ _ _ _
   | exact LeO.none _
   | refine LeO.ite ?_ ?_
   | refine LeO.bind ?_ (fun _ => ?_)
set_option maxHeartbeats 8000000 in
set_option maxRecDepth 100000 in
theorem zhW.calls (k : Nat) (a0_0 : Int) (a0_1 : Int) (a0_2 : Int) (a1_0 : Int) (a1_1 : Int) (a1_2 : Int) (r1 : Int) (r2 : Int) (r3 : Int) (w : World) (h : zhW.f k a0_0 a0_1 a0_2 a1_0 a1_1 a1_2 = some (r1, r2, r3)) :
  Calls Tryd.prog 149 #[.agg #[.int .i64 a0_0, .int .i64 a0_1, .int .i64 a0_2], .agg #[.int .i64 a1_0, .int .i64 a1_1, .int .i64 a1_2]] w fun e w' => e = .returned (.agg #[.int .i64 r1, .int .i64 r2, .int .i64 r3]) ∧ Below w.heap.size w w' := by
 have hu92 := Tryd.underlying92
 have HB := zpS (Below.refl w.heap.size w)
 have H : ((zhR.f k (wrap64 ((wrap64 (a0_0 * a1_0)) + (wrap64 ((wrap64 (2 * a0_1)) * a1_1)))) (wrap64 ((wrap64 (a0_0 * a1_1)) + (wrap64 (a0_1 * a1_0)))) (wrap64 (a0_2 + a1_2))).bind fun bt150 => (some (bt150.1, bt150.2.1, bt150.2.2))) = some (r1, r2, r3) := h
 clear h
 replace H := Option.bind_eq_some_iff.mp H
 obtain ⟨⟨t150, t151, t152⟩, A30, H⟩ := H
 replace H : (some (t150, t151, t152)) = some (r1, r2, r3) := H
 have A3 := zpS A30
 clear A30
 simp only [Option.some.injEq, Prod.mk.injEq] at H
 obtain ⟨rfl, rfl, rfl⟩ := H
 go_enter Tryd.func149, Tryd.ntmps149
 go_wp2_with (first | ((with_reducible refine zpZ (N := 2) rfl ?_); refine bx_ 2 #[.int .i64 a0_0, .int .i64 a0_1, .int .i64 a0_2] 92 ?_; intro gb147 hg w4 hbox hb; have n0_ := (ns_ hb); have n1_ := zpS (hbox); have n2_ := (ng_ hg); have n3_ := n2_; clear HB; have HB := n0_; have BK147 := n1_; have GW147 := n2_; have GE147 := n3_; clear n0_ n1_ n2_ n3_; clear hb hbox hg) | ((with_reducible refine zpZ (N := 3) rfl ?_); refine bx_ 3 #[.int .i64 a1_0, .int .i64 a1_1, .int .i64 a1_2] 92 ?_; intro gb148 hg w5 hbox hb; have n0_ := zpS (zgM (g := gb147) (o := .cells #[.int .i64 a0_0, .int .i64 a0_1, .int .i64 a0_2] 92 (0, 0)) bk_ hb); have n1_ := (ns_ hb); have n2_ := zpS (hbox); have n3_ := (ng_ hg); have n4_ := n3_; have n5_ := zpS ((by rw [hg]; exact Nat.ne_of_lt (zmN (g := gb147) (o := .cells #[.int .i64 a0_0, .int .i64 a0_1, .int .i64 a0_2] 92 (0, 0)) bk_) : gb147 ≠ gb148)); have n6_ := zpS ((by rw [hg]; exact Nat.ne_of_gt (zmN (g := gb147) (o := .cells #[.int .i64 a0_0, .int .i64 a0_1, .int .i64 a0_2] 92 (0, 0)) bk_) : gb148 ≠ gb147)); clear BK147; clear HB; have BK147 := n0_; have HB := n1_; have BK148 := n2_; have GW148 := n3_; have GE148 := n4_; have NB147_148 := n5_; have NB148_147 := n6_; clear n0_ n1_ n2_ n3_ n4_ n5_ n6_; clear hb hbox hg) | ((with_reducible refine zpZ (N := 4) rfl ?_); refine bx_ 4 #[.int .i64 0, .int .i64 0, .int .i64 0] 92 ?_; intro gb149 hg w6 hbox hb; have n0_ := zpS (zgM (g := gb147) (o := .cells #[.int .i64 a0_0, .int .i64 a0_1, .int .i64 a0_2] 92 (0, 0)) bk_ hb); have n1_ := zpS (zgM (g := gb148) (o := .cells #[.int .i64 a1_0, .int .i64 a1_1, .int .i64 a1_2] 92 (0, 0)) bk_ hb); have n2_ := (ns_ hb); have n3_ := zpS (hbox); have n4_ := (ng_ hg); have n5_ := n4_; have n6_ := zpS ((by rw [hg]; exact Nat.ne_of_lt (zmN (g := gb147) (o := .cells #[.int .i64 a0_0, .int .i64 a0_1, .int .i64 a0_2] 92 (0, 0)) bk_) : gb147 ≠ gb149)); have n7_ := zpS ((by rw [hg]; exact Nat.ne_of_gt (zmN (g := gb147) (o := .cells #[.int .i64 a0_0, .int .i64 a0_1, .int .i64 a0_2] 92 (0, 0)) bk_) : gb149 ≠ gb147)); have n8_ := zpS ((by rw [hg]; exact Nat.ne_of_lt (zmN (g := gb148) (o := .cells #[.int .i64 a1_0, .int .i64 a1_1, .int .i64 a1_2] 92 (0, 0)) bk_) : gb148 ≠ gb149)); have n9_ := zpS ((by rw [hg]; exact Nat.ne_of_gt (zmN (g := gb148) (o := .cells #[.int .i64 a1_0, .int .i64 a1_1, .int .i64 a1_2] 92 (0, 0)) bk_) : gb149 ≠ gb148)); clear BK147; clear BK148; clear HB; have BK147 := n0_; have BK148 := n1_; have HB := n2_; have BK149 := n3_; have GW149 := n4_; have GE149 := n5_; have NB147_149 := n6_; have NB149_147 := n7_; have NB148_149 := n8_; have NB149_148 := n9_; clear n0_ n1_ n2_ n3_ n4_ n5_ n6_ n7_ n8_ n9_; clear hb hbox hg; have hnb7 := NB147_148.out; have hnc7 := NB148_147.out; have hnb8 := NB147_149.out; have hnc8 := NB149_147.out; obtain ⟨hcz9_0, hcz9_1, hcz9_2⟩ := zdT BK147.out; obtain ⟨hfz9_0, hfz9_1, hfz9_2⟩ := zqD BK147.out; have hnb10 := NB148_149.out; have hnc10 := NB149_148.out; obtain ⟨hcz11_0, hcz11_1, hcz11_2⟩ := zdT BK148.out; obtain ⟨hfz11_0, hfz11_1, hfz11_2⟩ := zqD BK148.out) | ((with_reducible refine zgK (f := 174) rfl ?_); refine zqQ (some 34) rfl rfl Tryd.func174 (by kernel_rfl) rfl #[.agg #[.int .i64 (wrap64 ((wrap64 (a0_0 * a1_0)) + (wrap64 ((wrap64 (2 * a0_1)) * a1_1)))), .int .i64 (wrap64 ((wrap64 (a0_0 * a1_1)) + (wrap64 (a0_1 * a1_0)))), .int .i64 (wrap64 (a0_2 + a1_2))]] rfl (by (try simp only [List.map_toArray, List.map_cons, List.map_nil]); first | done | rfl | (simp only [List.length_drop, List.length_take]; rfl)) ?_; (with_reducible refine (zhR.calls k (wrap64 ((wrap64 (a0_0 * a1_0)) + (wrap64 ((wrap64 (2 * a0_1)) * a1_1)))) (wrap64 ((wrap64 (a0_0 * a1_1)) + (wrap64 (a0_1 * a1_0)))) (wrap64 (a0_2 + a1_2)) t150 t151 t152 _ A3.out).mono ?_); rintro e w12 ⟨rfl, hb⟩; refine ⟨_, rfl, ?_⟩; have n0_ := zpS (zgM (g := gb147) (o := .cells #[.int .i64 a0_0, .int .i64 a0_1, .int .i64 a0_2] 92 (0, 0)) bk_ hb); have n1_ := zpS (zgM (g := gb148) (o := .cells #[.int .i64 a1_0, .int .i64 a1_1, .int .i64 a1_2] 92 (0, 0)) bk_ hb); have n2_ := zpS (zgM (g := gb149) (o := .cells #[.int .i64 0, .int .i64 0, .int .i64 0] 92 (0, 0)) bk_ hb); have n3_ := (ns_ hb); clear BK147; clear BK148; clear BK149; clear HB; have BK147 := n0_; have BK148 := n1_; have BK149 := n2_; have HB := n3_; clear n0_ n1_ n2_ n3_; (try clear hb); (try clear hb2); obtain ⟨hcz13_0, hcz13_1, hcz13_2⟩ := zdT BK149.out; obtain ⟨hfz13_0, hfz13_1, hfz13_2⟩ := zqD BK149.out))
 refine bodyPost_ret (results_cell_row rfl _ _ gb149 92 #[.int .i64 t150, .int .i64 t151, .int .i64 t152] (0, 0) _ rfl (by (with_reducible repeat (first | apply zuW | apply ztN | apply zqY)); refine zlL (cs := #[.int .i64 t150, .int .i64 t151, .int .i64 0]) ?_ 2 _ rfl; (with_reducible repeat (first | apply zuW | apply ztN | apply zqY)); refine zlL (cs := #[.int .i64 t150, .int .i64 0, .int .i64 0]) ?_ 1 _ rfl; (with_reducible repeat (first | apply zuW | apply ztN | apply zqY)); refine zlL (cs := #[.int .i64 0, .int .i64 0, .int .i64 0]) ?_ 0 _ rfl; (with_reducible repeat (first | apply zuW | apply ztN | apply zqY)); exact BK149.out) Tryd.underlying92 rfl (by kernel_rfl)) rfl ?_
 exact ⟨by first | rfl | (simp [ziS, znJ] <;> rfl) | (simp [*, ziS, znJ] <;> rfl), bb_⟩

def zmD.f (k : Nat) (a0 : Int) (a1_0 : Int) (a1_1 : Int) (a1_2 : Int) (a1_3 : Int) (a1_4 : Int) (a1_5 : Int) : Option (Int × Int × Int) := (zqB.f a0).bind fun bt155 => ((ziY.f bt155.1 bt155.2.1 bt155.2.2.1 bt155.2.2.2.1 bt155.2.2.2.2.1 bt155.2.2.2.2.2).bind fun bt161 => ((zhW.f k bt161.1 bt161.2.1 bt161.2.2.1 a1_0 a1_1 a1_2).bind fun bt168 => ((zhW.f k bt161.2.2.2.1 bt161.2.2.2.2.1 bt161.2.2.2.2.2 a1_3 a1_4 a1_5).bind fun bt171 => ((zhQ.f k bt168.1 bt168.2.1 bt168.2.2 bt171.1 bt171.2.1 bt171.2.2).bind fun bt174 => (some (bt174.1, bt174.2.1, bt174.2.2))))))
theorem zmD.mono : ∀ a0 a1 a2 a3 a4 a5 a6 k, LeO (zmD.f k a0 a1 a2 a3 a4 a5 a6) (zmD.f (k + 1) a0 a1 a2 a3 a4 a5 a6) := by
 intro a0 a1 a2 a3 a4 a5 a6 k
 unfold zmD.f
 repeat' first
   | (with_reducible exact zhQ.mono _ _ _ _ _ _ _)
   | (with_reducible exact zhW.mono _ _ _ _ _ _ _)
   | (with_reducible exact LeO.refl _)
   | (with_reducible exact LeO.none _)
   | (with_reducible refine LeO.ite ?_ ?_)
   | (with_reducible refine LeO.bind ?_ (fun _ => ?_))
   | exact zhQ.mono _ _ _ _ _ _ _
   | exact zhW.mono _ _ _ _ _ _ _
   | exact LeO.none _
   | refine LeO.ite ?_ ?_
   | refine LeO.bind ?_ (fun _ => ?_)
def zmD.T2 : Bool × List (List Nat × List Nat) := (true, [([], []), ([0], [0]), ([], []), ([2], [2]), ([1, 3], [1, 3]), ([], []), ([5], [5]), ([], []), ([7], [7]), ([6, 8, 4], [6, 8]), ([4, 9, 9], [4, 9]), ([10, 10, 0, 1, 2, 3, 4, 5, 6, 7, 8, 9, 10], [10])])
def zmD.B2 : List Nat := [0, 1, 0, 4, 15, 0, 32, 0, 128, 511, 1023, 2047]
theorem zmD.tab2 : rtab .any (opsOf Tryd.f113 2) = zmD.T2 := by kernel_rfl
theorem zmD.bits2 : ztG zmD.T2.2 zmD.B2 = true := by kernel_rfl
set_option maxHeartbeats 8000000 in
set_option maxRecDepth 100000 in
theorem zmD.calls (k : Nat) (a0 : Int) (a1_0 : Int) (a1_1 : Int) (a1_2 : Int) (a1_3 : Int) (a1_4 : Int) (a1_5 : Int) (r1 : Int) (r2 : Int) (r3 : Int) (w : World) (h : zmD.f k a0 a1_0 a1_1 a1_2 a1_3 a1_4 a1_5 = some (r1, r2, r3)) :
  Calls Tryd.prog 113 #[.int .i64 a0, .agg #[.int .i64 a1_0, .int .i64 a1_1, .int .i64 a1_2, .int .i64 a1_3, .int .i64 a1_4, .int .i64 a1_5]] w fun e w' => e = .returned (.agg #[.int .i64 r1, .int .i64 r2, .int .i64 r3]) ∧ Below w.heap.size w w' := by
 have hu94 := Tryd.underlying94
 have hu92 := Tryd.underlying92
 have HB := zpS (Below.refl w.heap.size w)
 have H : ((zqB.f a0).bind fun bt155 => ((ziY.f bt155.1 bt155.2.1 bt155.2.2.1 bt155.2.2.2.1 bt155.2.2.2.2.1 bt155.2.2.2.2.2).bind fun bt161 => ((zhW.f k bt161.1 bt161.2.1 bt161.2.2.1 a1_0 a1_1 a1_2).bind fun bt168 => ((zhW.f k bt161.2.2.2.1 bt161.2.2.2.2.1 bt161.2.2.2.2.2 a1_3 a1_4 a1_5).bind fun bt171 => ((zhQ.f k bt168.1 bt168.2.1 bt168.2.2 bt171.1 bt171.2.1 bt171.2.2).bind fun bt174 => (some (bt174.1, bt174.2.1, bt174.2.2))))))) = some (r1, r2, r3) := h
 clear h
 replace H := Option.bind_eq_some_iff.mp H
 obtain ⟨⟨t155, t156, t157, t158, t159, t160⟩, A30, H⟩ := H
 replace H : ((ziY.f t155 t156 t157 t158 t159 t160).bind fun bt161 => ((zhW.f k bt161.1 bt161.2.1 bt161.2.2.1 a1_0 a1_1 a1_2).bind fun bt168 => ((zhW.f k bt161.2.2.2.1 bt161.2.2.2.2.1 bt161.2.2.2.2.2 a1_3 a1_4 a1_5).bind fun bt171 => ((zhQ.f k bt168.1 bt168.2.1 bt168.2.2 bt171.1 bt171.2.1 bt171.2.2).bind fun bt174 => (some (bt174.1, bt174.2.1, bt174.2.2)))))) = some (r1, r2, r3) := H
 have A3 := zpS A30
 clear A30
 replace H := Option.bind_eq_some_iff.mp H
 obtain ⟨⟨t161, t162, t163, t164, t165, t166⟩, A40, H⟩ := H
 replace H : ((zhW.f k t161 t162 t163 a1_0 a1_1 a1_2).bind fun bt168 => ((zhW.f k t164 t165 t166 a1_3 a1_4 a1_5).bind fun bt171 => ((zhQ.f k bt168.1 bt168.2.1 bt168.2.2 bt171.1 bt171.2.1 bt171.2.2).bind fun bt174 => (some (bt174.1, bt174.2.1, bt174.2.2))))) = some (r1, r2, r3) := H
 have A4 := zpS A40
 clear A40
 replace H := Option.bind_eq_some_iff.mp H
 obtain ⟨⟨t168, t169, t170⟩, A50, H⟩ := H
 replace H : ((zhW.f k t164 t165 t166 a1_3 a1_4 a1_5).bind fun bt171 => ((zhQ.f k t168 t169 t170 bt171.1 bt171.2.1 bt171.2.2).bind fun bt174 => (some (bt174.1, bt174.2.1, bt174.2.2)))) = some (r1, r2, r3) := H
 have A5 := zpS A50
 clear A50
 replace H := Option.bind_eq_some_iff.mp H
 obtain ⟨⟨t171, t172, t173⟩, A60, H⟩ := H
 replace H : ((zhQ.f k t168 t169 t170 t171 t172 t173).bind fun bt174 => (some (bt174.1, bt174.2.1, bt174.2.2))) = some (r1, r2, r3) := H
 have A6 := zpS A60
 clear A60
 replace H := Option.bind_eq_some_iff.mp H
 obtain ⟨⟨t174, t175, t176⟩, A70, H⟩ := H
 replace H : (some (t174, t175, t176)) = some (r1, r2, r3) := H
 have A7 := zpS A70
 clear A70
 simp only [Option.some.injEq, Prod.mk.injEq] at H
 obtain ⟨rfl, rfl, rfl⟩ := H
 go_enter Tryd.func113, Tryd.ntmps113
 try go_wp2_with (first | ((with_reducible refine zpZ (N := 3) rfl ?_); refine bx_ 3 #[.int .i64 a1_0, .int .i64 a1_1, .int .i64 a1_2, .int .i64 a1_3, .int .i64 a1_4, .int .i64 a1_5] 94 ?_; intro gb153 hg w8 hbox hb; have n0_ := (ns_ hb); have n1_ := zpS (hbox); have n2_ := (ng_ hg); have n3_ := n2_; clear HB; have HB := n0_; have BK153 := n1_; have GW153 := n2_; have GE153 := n3_; clear n0_ n1_ n2_ n3_; clear hb hbox hg) | ((with_reducible refine zpZ (N := 4) rfl ?_); refine bx_ 4 #[.int .i64 0, .int .i64 0, .int .i64 0] 92 ?_; intro gb154 hg w9 hbox hb; have n0_ := zpS (zgM (g := gb153) (o := .cells #[.int .i64 a1_0, .int .i64 a1_1, .int .i64 a1_2, .int .i64 a1_3, .int .i64 a1_4, .int .i64 a1_5] 94 (0, 0)) bk_ hb); have n1_ := (ns_ hb); have n2_ := zpS (hbox); have n3_ := (ng_ hg); have n4_ := n3_; have n5_ := zpS ((by rw [hg]; exact Nat.ne_of_lt (zmN (g := gb153) (o := .cells #[.int .i64 a1_0, .int .i64 a1_1, .int .i64 a1_2, .int .i64 a1_3, .int .i64 a1_4, .int .i64 a1_5] 94 (0, 0)) bk_) : gb153 ≠ gb154)); have n6_ := zpS ((by rw [hg]; exact Nat.ne_of_gt (zmN (g := gb153) (o := .cells #[.int .i64 a1_0, .int .i64 a1_1, .int .i64 a1_2, .int .i64 a1_3, .int .i64 a1_4, .int .i64 a1_5] 94 (0, 0)) bk_) : gb154 ≠ gb153)); clear BK153; clear HB; have BK153 := n0_; have HB := n1_; have BK154 := n2_; have GW154 := n3_; have GE154 := n4_; have NB153_154 := n5_; have NB154_153 := n6_; clear n0_ n1_ n2_ n3_ n4_ n5_ n6_; clear hb hbox hg) | ((with_reducible refine zgK (f := 147) rfl ?_); refine zqQ (some 7) rfl rfl Tryd.func147 (by kernel_rfl) rfl #[.int .i64 a0] rfl (by (try simp only [List.map_toArray, List.map_cons, List.map_nil]); first | done | rfl | (simp only [List.length_drop, List.length_take]; rfl)) ?_; (with_reducible refine (zqB.calls a0 t155 t156 t157 t158 t159 t160 _ A3.out).mono ?_); rintro e w10 ⟨rfl, hb⟩; refine ⟨_, rfl, ?_⟩; have n0_ := zpS (zgM (g := gb153) (o := .cells #[.int .i64 a1_0, .int .i64 a1_1, .int .i64 a1_2, .int .i64 a1_3, .int .i64 a1_4, .int .i64 a1_5] 94 (0, 0)) bk_ hb); have n1_ := zpS (zgM (g := gb154) (o := .cells #[.int .i64 0, .int .i64 0, .int .i64 0] 92 (0, 0)) bk_ hb); have n2_ := (ns_ hb); clear BK153; clear BK154; clear HB; have BK153 := n0_; have BK154 := n1_; have HB := n2_; clear n0_ n1_ n2_; (try clear hb); (try clear hb2)) | ((with_reducible refine zgK (f := 63) rfl ?_); refine zqQ (some 8) rfl rfl Tryd.func63 (by kernel_rfl) rfl #[.agg #[.int .i64 t155, .int .i64 t156, .int .i64 t157, .int .i64 t158, .int .i64 t159, .int .i64 t160]] rfl (by (try simp only [List.map_toArray, List.map_cons, List.map_nil]); first | done | rfl | (simp only [List.length_drop, List.length_take]; rfl)) ?_; (with_reducible refine (ziY.calls t155 t156 t157 t158 t159 t160 t161 t162 t163 t164 t165 t166 _ A4.out).mono ?_); rintro e w11 ⟨rfl, hb⟩; refine ⟨_, rfl, ?_⟩; have n0_ := zpS (zgM (g := gb153) (o := .cells #[.int .i64 a1_0, .int .i64 a1_1, .int .i64 a1_2, .int .i64 a1_3, .int .i64 a1_4, .int .i64 a1_5] 94 (0, 0)) bk_ hb); have n1_ := zpS (zgM (g := gb154) (o := .cells #[.int .i64 0, .int .i64 0, .int .i64 0] 92 (0, 0)) bk_ hb); have n2_ := (ns_ hb); clear BK153; clear BK154; clear HB; have BK153 := n0_; have BK154 := n1_; have HB := n2_; clear n0_ n1_ n2_; (try clear hb); (try clear hb2)) | ((with_reducible refine zpZ (N := 5) rfl ?_); refine bx_ 5 #[.int .i64 0, .int .i64 0, .int .i64 0, .int .i64 0, .int .i64 0, .int .i64 0] 94 ?_; intro gb167 hg w12 hbox hb; have n0_ := zpS (zgM (g := gb153) (o := .cells #[.int .i64 a1_0, .int .i64 a1_1, .int .i64 a1_2, .int .i64 a1_3, .int .i64 a1_4, .int .i64 a1_5] 94 (0, 0)) bk_ hb); have n1_ := zpS (zgM (g := gb154) (o := .cells #[.int .i64 0, .int .i64 0, .int .i64 0] 92 (0, 0)) bk_ hb); have n2_ := (ns_ hb); have n3_ := zpS (hbox); have n4_ := (ng_ hg); have n5_ := n4_; have n6_ := zpS ((by rw [hg]; exact Nat.ne_of_lt (zmN (g := gb153) (o := .cells #[.int .i64 a1_0, .int .i64 a1_1, .int .i64 a1_2, .int .i64 a1_3, .int .i64 a1_4, .int .i64 a1_5] 94 (0, 0)) bk_) : gb153 ≠ gb167)); have n7_ := zpS ((by rw [hg]; exact Nat.ne_of_gt (zmN (g := gb153) (o := .cells #[.int .i64 a1_0, .int .i64 a1_1, .int .i64 a1_2, .int .i64 a1_3, .int .i64 a1_4, .int .i64 a1_5] 94 (0, 0)) bk_) : gb167 ≠ gb153)); have n8_ := zpS ((by rw [hg]; exact Nat.ne_of_lt (zmN (g := gb154) (o := .cells #[.int .i64 0, .int .i64 0, .int .i64 0] 92 (0, 0)) bk_) : gb154 ≠ gb167)); have n9_ := zpS ((by rw [hg]; exact Nat.ne_of_gt (zmN (g := gb154) (o := .cells #[.int .i64 0, .int .i64 0, .int .i64 0] 92 (0, 0)) bk_) : gb167 ≠ gb154)); clear BK153; clear BK154; clear HB; have BK153 := n0_; have BK154 := n1_; have HB := n2_; have BK167 := n3_; have GW167 := n4_; have GE167 := n5_; have NB153_167 := n6_; have NB167_153 := n7_; have NB154_167 := n8_; have NB167_154 := n9_; clear n0_ n1_ n2_ n3_ n4_ n5_ n6_ n7_ n8_ n9_; clear hb hbox hg; have hnb13 := NB167_153.out; have hnc13 := NB153_167.out; have hnb14 := NB167_154.out; have hnc14 := NB154_167.out; obtain ⟨hcz15_0, hcz15_1, hcz15_2, hcz15_3, hcz15_4, hcz15_5⟩ := zrN BK167.out; obtain ⟨hfz15_0, hfz15_1, hfz15_2, hfz15_3, hfz15_4, hfz15_5⟩ := zoQ BK167.out))
 have n0_ : Aside0 (((((((w12.setCell ⟨gb167, 0, none⟩ (.int .i64 t161)).setCell ⟨gb167, 1, none⟩ (.int .i64 t162)).setCell ⟨gb167, 2, none⟩ (.int .i64 t163)).setCell ⟨gb167, 3, none⟩ (.int .i64 t164)).setCell ⟨gb167, 4, none⟩ (.int .i64 t165)).setCell ⟨gb167, 5, none⟩ (.int .i64 t166)).heap[gb153]? = some (.cells #[.int .i64 a1_0, .int .i64 a1_1, .int .i64 a1_2, .int .i64 a1_3, .int .i64 a1_4, .int .i64 a1_5] 94 (0, 0))) := ⟨by (with_reducible repeat (first | apply zuW | apply ztN | apply zqY)); refine znI ?_ NB153_167.out _; (with_reducible repeat (first | apply zuW | apply ztN | apply zqY)); refine znI ?_ NB153_167.out _; (with_reducible repeat (first | apply zuW | apply ztN | apply zqY)); refine znI ?_ NB153_167.out _; (with_reducible repeat (first | apply zuW | apply ztN | apply zqY)); refine znI ?_ NB153_167.out _; (with_reducible repeat (first | apply zuW | apply ztN | apply zqY)); refine znI ?_ NB153_167.out _; (with_reducible repeat (first | apply zuW | apply ztN | apply zqY)); refine znI ?_ NB153_167.out _; (with_reducible repeat (first | apply zuW | apply ztN | apply zqY)); exact BK153.out⟩
 have n1_ : Aside0 (((((((w12.setCell ⟨gb167, 0, none⟩ (.int .i64 t161)).setCell ⟨gb167, 1, none⟩ (.int .i64 t162)).setCell ⟨gb167, 2, none⟩ (.int .i64 t163)).setCell ⟨gb167, 3, none⟩ (.int .i64 t164)).setCell ⟨gb167, 4, none⟩ (.int .i64 t165)).setCell ⟨gb167, 5, none⟩ (.int .i64 t166)).heap[gb154]? = some (.cells #[.int .i64 0, .int .i64 0, .int .i64 0] 92 (0, 0))) := ⟨by (with_reducible repeat (first | apply zuW | apply ztN | apply zqY)); refine znI ?_ NB154_167.out _; (with_reducible repeat (first | apply zuW | apply ztN | apply zqY)); refine znI ?_ NB154_167.out _; (with_reducible repeat (first | apply zuW | apply ztN | apply zqY)); refine znI ?_ NB154_167.out _; (with_reducible repeat (first | apply zuW | apply ztN | apply zqY)); refine znI ?_ NB154_167.out _; (with_reducible repeat (first | apply zuW | apply ztN | apply zqY)); refine znI ?_ NB154_167.out _; (with_reducible repeat (first | apply zuW | apply ztN | apply zqY)); refine znI ?_ NB154_167.out _; (with_reducible repeat (first | apply zuW | apply ztN | apply zqY)); exact BK154.out⟩
 have n2_ : Aside0 (((((((w12.setCell ⟨gb167, 0, none⟩ (.int .i64 t161)).setCell ⟨gb167, 1, none⟩ (.int .i64 t162)).setCell ⟨gb167, 2, none⟩ (.int .i64 t163)).setCell ⟨gb167, 3, none⟩ (.int .i64 t164)).setCell ⟨gb167, 4, none⟩ (.int .i64 t165)).setCell ⟨gb167, 5, none⟩ (.int .i64 t166)).heap[gb167]? = some (.cells #[.int .i64 t161, .int .i64 t162, .int .i64 t163, .int .i64 t164, .int .i64 t165, .int .i64 t166] 94 (0, 0))) := ⟨by (with_reducible repeat (first | apply zuW | apply ztN | apply zqY)); refine zlL (cs := #[.int .i64 t161, .int .i64 t162, .int .i64 t163, .int .i64 t164, .int .i64 t165, .int .i64 0]) ?_ 5 _ rfl; (with_reducible repeat (first | apply zuW | apply ztN | apply zqY)); refine zlL (cs := #[.int .i64 t161, .int .i64 t162, .int .i64 t163, .int .i64 t164, .int .i64 0, .int .i64 0]) ?_ 4 _ rfl; (with_reducible repeat (first | apply zuW | apply ztN | apply zqY)); refine zlL (cs := #[.int .i64 t161, .int .i64 t162, .int .i64 t163, .int .i64 0, .int .i64 0, .int .i64 0]) ?_ 3 _ rfl; (with_reducible repeat (first | apply zuW | apply ztN | apply zqY)); refine zlL (cs := #[.int .i64 t161, .int .i64 t162, .int .i64 0, .int .i64 0, .int .i64 0, .int .i64 0]) ?_ 2 _ rfl; (with_reducible repeat (first | apply zuW | apply ztN | apply zqY)); refine zlL (cs := #[.int .i64 t161, .int .i64 0, .int .i64 0, .int .i64 0, .int .i64 0, .int .i64 0]) ?_ 1 _ rfl; (with_reducible repeat (first | apply zuW | apply ztN | apply zqY)); refine zlL (cs := #[.int .i64 0, .int .i64 0, .int .i64 0, .int .i64 0, .int .i64 0, .int .i64 0]) ?_ 0 _ rfl; (with_reducible repeat (first | apply zuW | apply ztN | apply zqY)); exact BK167.out⟩
 have n3_ : Aside0 (Below w.heap.size w ((((((w12.setCell ⟨gb167, 0, none⟩ (.int .i64 t161)).setCell ⟨gb167, 1, none⟩ (.int .i64 t162)).setCell ⟨gb167, 2, none⟩ (.int .i64 t163)).setCell ⟨gb167, 3, none⟩ (.int .i64 t164)).setCell ⟨gb167, 4, none⟩ (.int .i64 t165)).setCell ⟨gb167, 5, none⟩ (.int .i64 t166))) := ⟨bb_⟩
 (try clear BK153)
 (try clear BK154)
 (try clear BK167)
 (try clear HB)
 generalize ((((((w12.setCell ⟨gb167, 0, none⟩ (.int .i64 t161)).setCell ⟨gb167, 1, none⟩ (.int .i64 t162)).setCell ⟨gb167, 2, none⟩ (.int .i64 t163)).setCell ⟨gb167, 3, none⟩ (.int .i64 t164)).setCell ⟨gb167, 4, none⟩ (.int .i64 t165)).setCell ⟨gb167, 5, none⟩ (.int .i64 t166)) = w16 at n0_ n1_ n2_ n3_ ⊢
 have BK153 := n0_
 have BK154 := n1_
 have BK167 := n2_
 have HB := n3_
 clear n0_ n1_ n2_ n3_
 have n0_ := zpS (ztN BK153.out)
 have n1_ := zpS (ztN BK154.out)
 have n2_ := zpS (ztN BK167.out)
 have n3_ := zpS (zvF HB.out)
 clear BK153
 clear BK154
 clear BK167
 clear HB
 have BK153 := n0_
 have BK154 := n1_
 have BK167 := n2_
 have HB := n3_
 clear n0_ n1_ n2_ n3_
 refine zpB (n := 12) (S := fun w' => w'.cell? ⟨gb167, 0, none⟩ = some (.int .i64 t161) ∧ w'.cell? ⟨gb167, 1, none⟩ = some (.int .i64 t162) ∧ w'.cell? ⟨gb167, 2, none⟩ = some (.int .i64 t163) ∧ w'.cell? ⟨gb167, 3, none⟩ = some (.int .i64 t164) ∧ w'.cell? ⟨gb167, 4, none⟩ = some (.int .i64 t165) ∧ w'.cell? ⟨gb167, 5, none⟩ = some (.int .i64 t166) ∧ w'.cell? ⟨gb153, 0, none⟩ = some (.int .i64 a1_0) ∧ w'.cell? ⟨gb153, 1, none⟩ = some (.int .i64 a1_1) ∧ w'.cell? ⟨gb153, 2, none⟩ = some (.int .i64 a1_2) ∧ w'.cell? ⟨gb153, 3, none⟩ = some (.int .i64 a1_3) ∧ w'.cell? ⟨gb153, 4, none⟩ = some (.int .i64 a1_4) ∧ w'.cell? ⟨gb153, 5, none⟩ = some (.int .i64 a1_5)) (ds := []) #[false, false, false, false, false, false, false, false, false, false, false, false] (by kernel_rfl) rfl rfl ⟨(zzS BK167.out 0).trans rfl, (zzS BK167.out 1).trans rfl, (zzS BK167.out 2).trans rfl, (zzS BK167.out 3).trans rfl, (zzS BK167.out 4).trans rfl, (zzS BK167.out 5).trans rfl, (zzS BK153.out 0).trans rfl, (zzS BK153.out 1).trans rfl, (zzS BK153.out 2).trans rfl, (zzS BK153.out 3).trans rfl, (zzS BK153.out 4).trans rfl, (zzS BK153.out 5).trans rfl⟩ (fun hHeld => ?_); refine zwI zmD.tab2 zmD.bits2 (fun HT_ HW_ => ?_)
 generalize w16.drew = w17 at BK153 BK154 BK167 HB hHeld ⊢
 refine pu_ 0 (some 9) (bl_ 12 1) ?_
 refine pu_ 2 (some 11) (bl_ 12 5) ?_
 refine pu_ 5 (some 14) (bl_ 12 37) ?_
 refine pu_ 7 (some 16) (bl_ 12 165) ?_
 refine zmW 1 (some 10) (bl_ 12 167) hHeld ?_
 refine zmW 3 (some 12) (bl_ 12 175) hHeld ?_
 refine zmW 6 (some 15) (bl_ 12 239) hHeld ?_
 refine zmW 8 (some 17) (bl_ 12 495) hHeld ?_
 refine zdC (i := 4) (N := some 13) (bl_ 12 511) rfl rfl (zeO HT_.out (by kernel_rfl)) (by decide) (fun K hK => ?_)
 refine zqW Tryd.func149 (by kernel_rfl) rfl #[.agg #[.int .i64 t161, .int .i64 t162, .int .i64 t163], .agg #[.int .i64 a1_0, .int .i64 a1_1, .int .i64 a1_2]] (by rfl) rfl rfl (by (try simp only [List.map_toArray, List.map_cons, List.map_nil]); first | done | rfl | (simp only [List.length_drop, List.length_take]; rfl)) ?_
 with_reducible refine (zhW.calls k t161 t162 t163 a1_0 a1_1 a1_2 t168 t169 t170 _ A5.out).mono ?_
 rintro e w18 ⟨rfl, hb⟩
 refine ⟨_, rfl, ?_⟩
 have n0_ := zpS (zgM (g := gb153) (o := .cells #[.int .i64 a1_0, .int .i64 a1_1, .int .i64 a1_2, .int .i64 a1_3, .int .i64 a1_4, .int .i64 a1_5] 94 (0, 0)) bk_ hb)
 have n1_ := zpS (zgM (g := gb154) (o := .cells #[.int .i64 0, .int .i64 0, .int .i64 0] 92 (0, 0)) bk_ hb)
 have n2_ := zpS (zgM (g := gb167) (o := .cells #[.int .i64 t161, .int .i64 t162, .int .i64 t163, .int .i64 t164, .int .i64 t165, .int .i64 t166] 94 (0, 0)) bk_ hb)
 have n3_ := (ns_ hb)
 clear BK153
 clear BK154
 clear BK167
 clear HB
 have BK153 := n0_
 have BK154 := n1_
 have BK167 := n2_
 have HB := n3_
 clear n0_ n1_ n2_ n3_
 (try clear hb)
 (try clear hb2)
 (try clear hk)
 (try clear hi)
 refine hK.out _ _ ⟨(zzS BK167.out 0).trans rfl, (zzS BK167.out 1).trans rfl, (zzS BK167.out 2).trans rfl, (zzS BK167.out 3).trans rfl, (zzS BK167.out 4).trans rfl, (zzS BK167.out 5).trans rfl, (zzS BK153.out 0).trans rfl, (zzS BK153.out 1).trans rfl, (zzS BK153.out 2).trans rfl, (zzS BK153.out 3).trans rfl, (zzS BK153.out 4).trans rfl, (zzS BK153.out 5).trans rfl⟩ (fun hHeld => ?_)
 clear hK K
 refine zaN (a' := ?_) ?_ ?_
 rotate_left
 ·show Act.put _ (some 13) _ = _
  simp only [Act.put, List.setIfInBounds_toArray, List.set_cons_zero, List.set_cons_succ, zcM, ziJ]
  rfl
 refine zdC (i := 9) (N := some 18) (bl_ 12 1023) rfl rfl (zeO HT_.out (by kernel_rfl)) (by decide) (fun K hK => ?_)
 refine zqW Tryd.func149 (by kernel_rfl) rfl #[.agg #[.int .i64 t164, .int .i64 t165, .int .i64 t166], .agg #[.int .i64 a1_3, .int .i64 a1_4, .int .i64 a1_5]] (by rfl) rfl rfl (by (try simp only [List.map_toArray, List.map_cons, List.map_nil]); first | done | rfl | (simp only [List.length_drop, List.length_take]; rfl)) ?_
 with_reducible refine (zhW.calls k t164 t165 t166 a1_3 a1_4 a1_5 t171 t172 t173 _ A6.out).mono ?_
 rintro e w19 ⟨rfl, hb⟩
 refine ⟨_, rfl, ?_⟩
 have n0_ := zpS (zgM (g := gb153) (o := .cells #[.int .i64 a1_0, .int .i64 a1_1, .int .i64 a1_2, .int .i64 a1_3, .int .i64 a1_4, .int .i64 a1_5] 94 (0, 0)) bk_ hb)
 have n1_ := zpS (zgM (g := gb154) (o := .cells #[.int .i64 0, .int .i64 0, .int .i64 0] 92 (0, 0)) bk_ hb)
 have n2_ := zpS (zgM (g := gb167) (o := .cells #[.int .i64 t161, .int .i64 t162, .int .i64 t163, .int .i64 t164, .int .i64 t165, .int .i64 t166] 94 (0, 0)) bk_ hb)
 have n3_ := (ns_ hb)
 clear BK153
 clear BK154
 clear BK167
 clear HB
 have BK153 := n0_
 have BK154 := n1_
 have BK167 := n2_
 have HB := n3_
 clear n0_ n1_ n2_ n3_
 (try clear hb)
 (try clear hb2)
 (try clear hk)
 (try clear hi)
 refine hK.out _ _ ⟨(zzS BK167.out 0).trans rfl, (zzS BK167.out 1).trans rfl, (zzS BK167.out 2).trans rfl, (zzS BK167.out 3).trans rfl, (zzS BK167.out 4).trans rfl, (zzS BK167.out 5).trans rfl, (zzS BK153.out 0).trans rfl, (zzS BK153.out 1).trans rfl, (zzS BK153.out 2).trans rfl, (zzS BK153.out 3).trans rfl, (zzS BK153.out 4).trans rfl, (zzS BK153.out 5).trans rfl⟩ (fun hHeld => ?_)
 clear hK K
 refine zaN (a' := ?_) ?_ ?_
 rotate_left
 ·show Act.put _ (some 18) _ = _
  simp only [Act.put, List.setIfInBounds_toArray, List.set_cons_zero, List.set_cons_succ, zcM, ziJ]
  rfl
 refine zdC (i := 10) (N := some 19) (bl_ 12 2047) rfl rfl (zeO HT_.out (by kernel_rfl)) (by decide) (fun K hK => ?_)
 refine zqW Tryd.func148 (by kernel_rfl) rfl #[.agg #[.int .i64 t168, .int .i64 t169, .int .i64 t170], .agg #[.int .i64 t171, .int .i64 t172, .int .i64 t173]] (by rfl) rfl rfl (by (try simp only [List.map_toArray, List.map_cons, List.map_nil]); first | done | rfl | (simp only [List.length_drop, List.length_take]; rfl)) ?_
 with_reducible refine (zhQ.calls k t168 t169 t170 t171 t172 t173 t174 t175 t176 _ A7.out).mono ?_
 rintro e w20 ⟨rfl, hb⟩
 refine ⟨_, rfl, ?_⟩
 have n0_ := zpS (zgM (g := gb153) (o := .cells #[.int .i64 a1_0, .int .i64 a1_1, .int .i64 a1_2, .int .i64 a1_3, .int .i64 a1_4, .int .i64 a1_5] 94 (0, 0)) bk_ hb)
 have n1_ := zpS (zgM (g := gb154) (o := .cells #[.int .i64 0, .int .i64 0, .int .i64 0] 92 (0, 0)) bk_ hb)
 have n2_ := zpS (zgM (g := gb167) (o := .cells #[.int .i64 t161, .int .i64 t162, .int .i64 t163, .int .i64 t164, .int .i64 t165, .int .i64 t166] 94 (0, 0)) bk_ hb)
 have n3_ := (ns_ hb)
 clear BK153
 clear BK154
 clear BK167
 clear HB
 have BK153 := n0_
 have BK154 := n1_
 have BK167 := n2_
 have HB := n3_
 clear n0_ n1_ n2_ n3_
 (try clear hb)
 (try clear hb2)
 (try clear hk)
 (try clear hi)
 refine hK.out _ _ ⟨(zzS BK167.out 0).trans rfl, (zzS BK167.out 1).trans rfl, (zzS BK167.out 2).trans rfl, (zzS BK167.out 3).trans rfl, (zzS BK167.out 4).trans rfl, (zzS BK167.out 5).trans rfl, (zzS BK153.out 0).trans rfl, (zzS BK153.out 1).trans rfl, (zzS BK153.out 2).trans rfl, (zzS BK153.out 3).trans rfl, (zzS BK153.out 4).trans rfl, (zzS BK153.out 5).trans rfl⟩ (fun hHeld => ?_)
 clear hK K
 refine zaN (a' := ?_) ?_ ?_
 rotate_left
 ·show Act.put _ (some 19) _ = _
  simp only [Act.put, List.setIfInBounds_toArray, List.set_cons_zero, List.set_cons_succ, zcM, ziJ]
  rfl
 refine zdC (i := 11) (N := none) (bl_ 12 4095) rfl rfl (zeO HT_.out (by kernel_rfl)) (by decide) (fun K hK => ?_)
 have hs21 : w20.cell? ⟨gb154, 0, none⟩ = some (.int .i64 0) := (zzS BK154.out 0).trans rfl
 have hfs21 := zjF BK154.out 0
 have hns21_0 := NB153_154.out
 have hns21_2 := NB167_154.out
 have hms21_0 := NB154_153.out
 have hms21_2 := NB154_167.out
 have hs22 : w20.cell? ⟨gb154, 1, none⟩ = some (.int .i64 0) := (zzS BK154.out 1).trans rfl
 have hfs22 := zjF BK154.out 1
 have hns22_0 := NB153_154.out
 have hns22_2 := NB167_154.out
 have hms22_0 := NB154_153.out
 have hms22_2 := NB154_167.out
 have hs23 : w20.cell? ⟨gb154, 2, none⟩ = some (.int .i64 0) := (zzS BK154.out 2).trans rfl
 have hfs23 := zjF BK154.out 2
 have hns23_0 := NB153_154.out
 have hns23_2 := NB167_154.out
 have hms23_0 := NB154_153.out
 have hms23_2 := NB154_167.out
 refine skip_ (w1 := ?_) (by rfl) rfl ?_ ?_
 rotate_left
 ·go_simp
  rfl
 refine hK.out _ _ ⟨((zgQ (p := ⟨gb154, _, none⟩) NB167_154.out _).trans (((zgQ (p := ⟨gb154, _, none⟩) NB167_154.out _).trans (((zgQ (p := ⟨gb154, _, none⟩) NB167_154.out _).trans (hHeld.1)))))), ((zgQ (p := ⟨gb154, _, none⟩) NB167_154.out _).trans (((zgQ (p := ⟨gb154, _, none⟩) NB167_154.out _).trans (((zgQ (p := ⟨gb154, _, none⟩) NB167_154.out _).trans (hHeld.2.1)))))), ((zgQ (p := ⟨gb154, _, none⟩) NB167_154.out _).trans (((zgQ (p := ⟨gb154, _, none⟩) NB167_154.out _).trans (((zgQ (p := ⟨gb154, _, none⟩) NB167_154.out _).trans (hHeld.2.2.1)))))), ((zgQ (p := ⟨gb154, _, none⟩) NB167_154.out _).trans (((zgQ (p := ⟨gb154, _, none⟩) NB167_154.out _).trans (((zgQ (p := ⟨gb154, _, none⟩) NB167_154.out _).trans (hHeld.2.2.2.1)))))), ((zgQ (p := ⟨gb154, _, none⟩) NB167_154.out _).trans (((zgQ (p := ⟨gb154, _, none⟩) NB167_154.out _).trans (((zgQ (p := ⟨gb154, _, none⟩) NB167_154.out _).trans (hHeld.2.2.2.2.1)))))), ((zgQ (p := ⟨gb154, _, none⟩) NB167_154.out _).trans (((zgQ (p := ⟨gb154, _, none⟩) NB167_154.out _).trans (((zgQ (p := ⟨gb154, _, none⟩) NB167_154.out _).trans (hHeld.2.2.2.2.2.1)))))), ((zgQ (p := ⟨gb154, _, none⟩) NB153_154.out _).trans (((zgQ (p := ⟨gb154, _, none⟩) NB153_154.out _).trans (((zgQ (p := ⟨gb154, _, none⟩) NB153_154.out _).trans (hHeld.2.2.2.2.2.2.1)))))), ((zgQ (p := ⟨gb154, _, none⟩) NB153_154.out _).trans (((zgQ (p := ⟨gb154, _, none⟩) NB153_154.out _).trans (((zgQ (p := ⟨gb154, _, none⟩) NB153_154.out _).trans (hHeld.2.2.2.2.2.2.2.1)))))), ((zgQ (p := ⟨gb154, _, none⟩) NB153_154.out _).trans (((zgQ (p := ⟨gb154, _, none⟩) NB153_154.out _).trans (((zgQ (p := ⟨gb154, _, none⟩) NB153_154.out _).trans (hHeld.2.2.2.2.2.2.2.2.1)))))), ((zgQ (p := ⟨gb154, _, none⟩) NB153_154.out _).trans (((zgQ (p := ⟨gb154, _, none⟩) NB153_154.out _).trans (((zgQ (p := ⟨gb154, _, none⟩) NB153_154.out _).trans (hHeld.2.2.2.2.2.2.2.2.2.1)))))), ((zgQ (p := ⟨gb154, _, none⟩) NB153_154.out _).trans (((zgQ (p := ⟨gb154, _, none⟩) NB153_154.out _).trans (((zgQ (p := ⟨gb154, _, none⟩) NB153_154.out _).trans (hHeld.2.2.2.2.2.2.2.2.2.2.1)))))), ((zgQ (p := ⟨gb154, _, none⟩) NB153_154.out _).trans (((zgQ (p := ⟨gb154, _, none⟩) NB153_154.out _).trans (((zgQ (p := ⟨gb154, _, none⟩) NB153_154.out _).trans (hHeld.2.2.2.2.2.2.2.2.2.2.2))))))⟩ (fun hHeld => ?_)
 clear hK K
 refine znK (zzP HT_.out (by kernel_rfl)) ?_
 try go_wp2
 refine bodyPost_ret (results_cell_row rfl _ _ gb154 92 #[.int .i64 t174, .int .i64 t175, .int .i64 t176] (0, 0) _ rfl (by (with_reducible repeat (first | apply zuW | apply ztN | apply zqY)); refine zlL (cs := #[.int .i64 t174, .int .i64 t175, .int .i64 0]) ?_ 2 _ rfl; (with_reducible repeat (first | apply zuW | apply ztN | apply zqY)); refine zlL (cs := #[.int .i64 t174, .int .i64 0, .int .i64 0]) ?_ 1 _ rfl; (with_reducible repeat (first | apply zuW | apply ztN | apply zqY)); refine zlL (cs := #[.int .i64 0, .int .i64 0, .int .i64 0]) ?_ 0 _ rfl; (with_reducible repeat (first | apply zuW | apply ztN | apply zqY)); exact BK154.out) Tryd.underlying92 rfl (by kernel_rfl)) rfl ?_
 exact ⟨by first | rfl | (simp [ziS, znJ] <;> rfl) | (simp [*, ziS, znJ] <;> rfl), bb_⟩

def zbR.f (a0_0 : Int) (a0_1 : Int) (a0_2 : Int) : Option (Bool) := if a0_0 = 0 then (some (a0_1 == 0)) else (some false)
set_option maxHeartbeats 8000000 in
set_option maxRecDepth 100000 in
theorem zbR.calls (a0_0 : Int) (a0_1 : Int) (a0_2 : Int) (r : Bool) (w : World) (h : zbR.f a0_0 a0_1 a0_2 = some r) :
  Calls Tryd.prog 144 #[.agg #[.int .i64 a0_0, .int .i64 a0_1, .int .i64 a0_2]] w fun e w' => e = .returned (.bool r) ∧ Below w.heap.size w w' := by
 have hu92 := Tryd.underlying92
 have HB := zpS (Below.refl w.heap.size w)
 have H : (if a0_0 = 0 then (some (a0_1 == 0)) else (some false)) = some r := h
 clear h
 by_cases c2 : a0_0 = 0
 ·rw [if_pos c2] at H
  have c2b0 : (a0_0 == 0) = true := beq_iff_eq.mpr c2
  have c2b1 : (a0_0 != 0) = false := bne_eq_false_iff_eq.mpr c2
  clear c2
  obtain rfl := Option.some.inj H
  go_enter Tryd.func144, Tryd.ntmps144
  go_wp2_with (first | ((with_reducible refine zpZ (N := 1) rfl ?_); refine bx_ 1 #[.int .i64 a0_0, .int .i64 a0_1, .int .i64 a0_2] 92 ?_; intro gb177 hg w3 hbox hb; have n0_ := (ns_ hb); have n1_ := zpS (hbox); have n2_ := (ng_ hg); have n3_ := n2_; clear HB; have HB := n0_; have BK177 := n1_; have GW177 := n2_; have GE177 := n3_; clear n0_ n1_ n2_ n3_; clear hb hbox hg; obtain ⟨hcz4_0, hcz4_1, hcz4_2⟩ := zdT BK177.out; obtain ⟨hfz4_0, hfz4_1, hfz4_2⟩ := zqD BK177.out))
  go_ret
  exact ⟨by first | rfl | (simp [ziS, znJ] <;> rfl) | (simp [*, ziS, znJ] <;> rfl), bb_⟩
 ·rw [if_neg c2] at H
  have c2b0 : (a0_0 == 0) = false := beq_eq_false_iff_ne.mpr c2
  have c2b1 : (a0_0 != 0) = true := bne_iff_ne.mpr c2
  obtain rfl := Option.some.inj H
  go_enter Tryd.func144, Tryd.ntmps144
  go_wp2_with (first | ((with_reducible refine zpZ (N := 1) rfl ?_); refine bx_ 1 #[.int .i64 a0_0, .int .i64 a0_1, .int .i64 a0_2] 92 ?_; intro gb177 hg w5 hbox hb; have n0_ := (ns_ hb); have n1_ := zpS (hbox); have n2_ := (ng_ hg); have n3_ := n2_; clear HB; have HB := n0_; have BK177 := n1_; have GW177 := n2_; have GE177 := n3_; clear n0_ n1_ n2_ n3_; clear hb hbox hg; obtain ⟨hcz6_0, hcz6_1, hcz6_2⟩ := zdT BK177.out; obtain ⟨hfz6_0, hfz6_1, hfz6_2⟩ := zqD BK177.out))
  go_ret
  exact ⟨by first | rfl | (simp [ziS, znJ] <;> rfl) | (simp [*, ziS, znJ] <;> rfl), bb_⟩

end Go.Proofs.YtmajpmofeddknaaDoor.PFnExactValidPlaces
