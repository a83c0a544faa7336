-- Printed for this claim by this session's program pp.py, which drives the kit's print with additions. Not trusted: Lean checks it.
import Derived.Test.YtbnfbflfhpniaaaDoorV1PFnExactNormalPolygonx0
import Derived.Test.YtbnfbflfhpniaaaDoorV1PFnExactNormalPolygonx9
namespace Go.Proofs.YtbnfbflfhpniaaaDoor.PFnExactNormalPolygon
open Go.RowKit Go.Proofs.YtbnfbflfhpniaaaDoorW.PrintWords Go.Proofs.YtbnfbflfhpniaaaDoorW.PrintLast Go.Proofs.YtbnfbflfhpniaaaDoorW.PrintMore
attribute [local go_sem] zbB ziC zrC zhD znE zuB znH zkT   -- for this text's walks alone
set_option linter.unusedVariables false
set_option maxHeartbeats 8000000
set_option maxRecDepth 100000
set_option linter.unusedSimpArgs false

mutual
def zbI.l0 : Nat → Int → Int → Int → Option (Int × Int × Int)
 | 0, _, _, _ => none
 | k + 1, x344000, x344001, x344002 => if x344002 > 0 then (if (Go.bits .and .i64 x344000 1) = 0 then (zbI.j1 k ((Go.bits .and .i64 x344001 1) == 0) x344000 x344001 x344002) else (zbI.j1 k false x344000 x344001 x344002)) else (zbI.j1 k false x344000 x344001 x344002)
def zbI.j1 : Nat → Bool → Int → Int → Int → Option (Int × Int × Int)
 | 0, _, _, _, _ => none
 | k + 1, x17, x344000, x344001, x344002 => if x17 = true then (if (wrap64 (Int.tdiv x344000 2)) = 0 then (if (wrap64 (Int.tdiv x344001 2)) = 0 then (zbI.l0 k (wrap64 (Int.tdiv x344000 2)) (wrap64 (Int.tdiv x344001 2)) 0) else (zbI.l0 k (wrap64 (Int.tdiv x344000 2)) (wrap64 (Int.tdiv x344001 2)) (wrap64 (x344002 - 1)))) else (zbI.l0 k (wrap64 (Int.tdiv x344000 2)) (wrap64 (Int.tdiv x344001 2)) (wrap64 (x344002 - 1)))) else (some (x344000, x344001, x344002))
end
def zbI.f (k : Nat) (a0_0 : Int) (a0_1 : Int) (a0_2 : Int) : Option (Int × Int × Int) := zbI.l0 k a0_0 a0_1 a0_2
theorem zbI.mono_l : ∀ k, (∀ y0 y1 y2, LeO (zbI.l0 k y0 y1 y2) (zbI.l0 (k + 1) y0 y1 y2)) ∧ (∀ y0 y1 y2 y3, LeO (zbI.j1 k y0 y1 y2 y3) (zbI.j1 (k + 1) y0 y1 y2 y3))
 | 0 => ⟨fun _ _ _ r h => by simp [zbI.l0] at h, fun _ _ _ _ r h => by simp [zbI.j1] at h⟩
 | k + 1 => by
  obtain ⟨ih0, ih1⟩ := zbI.mono_l k
  refine ⟨?_, ?_⟩
  ·intro y0 y1 y2
   unfold zbI.l0
   repeat' first
   | (with_reducible exact ih0 _ _ _)
   | (with_reducible exact ih1 _ _ _ _)
   | (with_reducible exact LeO.refl _)
   | (with_reducible exact LeO.none _)
   | (with_reducible refine LeO.ite ?_ ?_)
   | (with_reducible refine LeO.bind ?_ (fun _ => ?_))
   | exact ih0 _ _ _
   | exact ih1 _ _ _ _
   | exact LeO.none _
   | refine LeO.ite ?_ ?_
   | refine LeO.bind ?_ (fun _ => ?_)
  ·intro y0 y1 y2 y3
   unfold zbI.j1
   repeat' first
   | (with_reducible exact ih0 _ _ _)
   | (with_reducible exact ih1 _ _ _ _)
   | (with_reducible exact LeO.refl _)
   | (with_reducible exact LeO.none _)
   | (with_reducible refine LeO.ite ?_ ?_)
   | (with_reducible refine LeO.bind ?_ (fun _ => ?_))
   | exact ih0 _ _ _
   | exact ih1 _ _ _ _
   | exact LeO.none _
   | refine LeO.ite ?_ ?_
   | refine LeO.bind ?_ (fun _ => ?_)
theorem zbI.mono : ∀ a0 a1 a2 k, LeO (zbI.f k a0 a1 a2) (zbI.f (k + 1) a0 a1 a2) := by
 intro a0 a1 a2 k
 obtain ⟨ih0, ih1⟩ := zbI.mono_l k
 unfold zbI.f
 repeat' first
   | (with_reducible exact ih0 _ _ _)
   | (with_reducible exact ih1 _ _ _ _)
   | (with_reducible exact LeO.refl _)
   | (with_reducible exact LeO.none _)
   | (with_reducible refine LeO.ite ?_ ?_)
   | (with_reducible refine LeO.bind ?_ (fun _ => ?_))
   | exact ih0 _ _ _
   | exact ih1 _ _ _ _
   | exact LeO.none _
   | refine LeO.ite ?_ ?_
   | refine LeO.bind ?_ (fun _ => ?_)
theorem zbI.calls (k : Nat) (a0_0 : Int) (a0_1 : Int) (a0_2 : Int) (r1 : Int) (r2 : Int) (r3 : Int) (w : World) (h : zbI.f k a0_0 a0_1 a0_2 = some (r1, r2, r3)) :
  Calls Tryd.prog 72 #[.agg #[.int .i64 a0_0, .int .i64 a0_1, .int .i64 a0_2]] w fun e w' => e = .returned (.agg #[.int .i64 r1, .int .i64 r2, .int .i64 r3]) ∧ Below w.heap.size w w' := by
 have hu33 := Tryd.underlying33
 have HB := zpS (Below.refl w.heap.size w)
 have H : (zbI.l0 k a0_0 a0_1 a0_2) = some (r1, r2, r3) := h
 clear h
 have H' := zpS H
 clear H
 go_enter Tryd.func72, Tryd.ntmps72
 go_wp2_with (first | ((with_reducible refine zpZ (N := 1) rfl ?_); refine bx_ 1 #[.int .i64 a0_0, .int .i64 a0_1, .int .i64 a0_2] 33 ?_; intro gb343 hg w2 hbox hb; have n0_ := (ns_ hb); have n1_ := zpS (hbox); have n2_ := (ng_ hg); have n3_ := n2_; clear HB; have HB := n0_; have BK343 := n1_; have GW343 := n2_; have GE343 := n3_; clear n0_ n1_ n2_ n3_; clear hb hbox hg) | ((with_reducible refine zpZ (N := 2) rfl ?_); refine bx_ 2 #[.int .i64 0, .int .i64 0, .int .i64 0] 33 ?_; intro gb344 hg w3 hbox hb; have n0_ := zpS (zgM (g := gb343) (o := .cells #[.int .i64 a0_0, .int .i64 a0_1, .int .i64 a0_2] 33 (0, 0)) bk_ hb); have n1_ := (ns_ hb); have n2_ := zpS (hbox); have n3_ := (ng_ hg); have n4_ := n3_; have n5_ := zpS ((by rw [hg]; exact Nat.ne_of_lt (zmN (g := gb343) (o := .cells #[.int .i64 a0_0, .int .i64 a0_1, .int .i64 a0_2] 33 (0, 0)) bk_) : gb343 ≠ gb344)); have n6_ := zpS ((by rw [hg]; exact Nat.ne_of_gt (zmN (g := gb343) (o := .cells #[.int .i64 a0_0, .int .i64 a0_1, .int .i64 a0_2] 33 (0, 0)) bk_) : gb344 ≠ gb343)); clear BK343; clear HB; have BK343 := n0_; have HB := n1_; have BK344 := n2_; have GW344 := n3_; have GE344 := n4_; have NB343_344 := n5_; have NB344_343 := n6_; clear n0_ n1_ n2_ n3_ n4_ n5_ n6_; clear hb hbox hg))
 (try go_simp)
 go_loopg [] k (fun kq w' => ∃ (x344000_1 : Int) (x344001_1 : Int) (x344002_1 : Int), Aside0 (zbI.l0 kq x344000_1 x344001_1 x344002_1 = some (r1, r2, r3)) ∧ Aside0 (kq ≤ k) ∧ Aside0 (w'.heap[gb343]? = some (.cells #[.int .i64 x344000_1, .int .i64 x344001_1, .int .i64 x344002_1] 33 (0, 0))) ∧ Aside0 (w'.heap[gb344]? = some (.cells #[.int .i64 0, .int .i64 0, .int .i64 0] 33 (0, 0))) ∧ Aside0 (Below w.heap.size w w'))
 case atStart => exact ⟨(a0_0), (a0_1), (a0_2), H', ⟨Nat.le_refl _⟩, ⟨bk_⟩, ⟨bk_⟩, ⟨bb_⟩⟩
 case round =>
  clear H'
  try clear p2
  obtain ⟨x344000_1, x344001_1, x344002_1, HA, HK1, BK343, BK344, HB⟩ := hrel
  cases gk with
  | zero => exact absurd HA.out (by simp [zbI.l0])
  | succ k1 =>
   have H := HA.out
   clear HA
   simp only [zbI.l0] at H
   have HC4 := zpS H
   clear H
   go_upto_region 1 with (fail)
   go_cut [17] (fun v17 wc => ∃ (kq : Nat) (x17_3 : Bool), v17 = .bool x17_3 ∧ Aside0 (zbI.j1 kq x17_3 x344000_1 x344001_1 x344002_1 = some (r1, r2, r3)) ∧ Aside0 (kq ≤ k1) ∧ Aside0 (wc.heap[gb343]? = some (.cells #[.int .i64 x344000_1, .int .i64 x344001_1, .int .i64 x344002_1] 33 (0, 0))) ∧ Aside0 (wc.heap[gb344]? = some (.cells #[.int .i64 0, .int .i64 0, .int .i64 0] 33 (0, 0))) ∧ Aside0 (Below w.heap.size w wc))
   case first =>
    have H := HC4.out
    clear HC4
    by_cases c5 : x344002_1 > 0
    ·rw [if_pos c5] at H
     have c5b0 : decide (0 < x344002_1) = true := decide_eq_true c5
     clear c5
     (first | rw [c5b0] | (simp only [zcM, ziK]; rw [c5b0]) | skip)
     by_cases c6 : (Go.bits .and .i64 x344000_1 1) = 0
     ·rw [if_pos c6] at H
      have c6b0 : ((Go.bits .and .i64 x344000_1 1) == 0) = true := beq_iff_eq.mpr c6
      have c6b1 : ((Go.bits .and .i64 x344000_1 1) != 0) = false := bne_eq_false_iff_eq.mpr c6
      clear c6
      have H' := zpS H
      clear H
      have hnb7 := NB343_344.out
      have hnc7 := NB344_343.out
      obtain ⟨hcz8_0, hcz8_1, hcz8_2⟩ := zdT BK343.out
      obtain ⟨hfz8_0, hfz8_1, hfz8_2⟩ := zqD BK343.out
      go_wp2
      go_meet
      case rel => exact ⟨_, (((Go.bits .and .i64 x344001_1 1) == 0)), (by first | rfl | (simp; done) | (simp [*]; done)), H', ⟨by have := HK1.out; first | omega | exact Nat.le_refl _⟩, ⟨bk_⟩, ⟨bk_⟩, ⟨bb_⟩⟩
     ·rw [if_neg c6] at H
      have c6b0 : ((Go.bits .and .i64 x344000_1 1) == 0) = false := beq_eq_false_iff_ne.mpr c6
      have c6b1 : ((Go.bits .and .i64 x344000_1 1) != 0) = true := bne_iff_ne.mpr c6
      have H' := zpS H
      clear H
      have hnb9 := NB343_344.out
      have hnc9 := NB344_343.out
      obtain ⟨hcz10_0, hcz10_1, hcz10_2⟩ := zdT BK343.out
      obtain ⟨hfz10_0, hfz10_1, hfz10_2⟩ := zqD BK343.out
      go_wp2
      go_meet
      case rel => exact ⟨_, (false), (by first | rfl | (simp; done) | (simp [*]; done)), H', ⟨by have := HK1.out; first | omega | exact Nat.le_refl _⟩, ⟨bk_⟩, ⟨bk_⟩, ⟨bb_⟩⟩
    ·rw [if_neg c5] at H
     have c5b0 : decide (0 < x344002_1) = false := decide_eq_false c5
     clear c5
     (first | rw [c5b0] | (simp only [zcM, ziK]; rw [c5b0]) | skip)
     have H' := zpS H
     clear H
     have hnb11 := NB343_344.out
     have hnc11 := NB344_343.out
     obtain ⟨hcz12_0, hcz12_1, hcz12_2⟩ := zdT BK343.out
     obtain ⟨hfz12_0, hfz12_1, hfz12_2⟩ := zqD BK343.out
     go_wp2
     go_meet
     case rel => exact ⟨_, (false), (by first | rfl | (simp; done) | (simp [*]; done)), H', ⟨by have := HK1.out; first | omega | exact Nat.le_refl _⟩, ⟨bk_⟩, ⟨bk_⟩, ⟨bb_⟩⟩
   case rest =>
    clear HC4
    try clear c1
    try clear p2
    try clear c5
    try clear c5b0
    try clear c6
    try clear c6b0
    try clear c6b1
    try clear c7
    try clear c9
    try clear c11
    try clear hcz10_0
    try clear hcz10_1
    try clear hcz10_2
    try clear hcz12_0
    try clear hcz12_1
    try clear hcz12_2
    try clear hcz8_0
    try clear hcz8_1
    try clear hcz8_2
    try clear hfz10_0
    try clear hfz10_1
    try clear hfz10_2
    try clear hfz12_0
    try clear hfz12_1
    try clear hfz12_2
    try clear hfz8_0
    try clear hfz8_1
    try clear hfz8_2
    try clear p2
    obtain ⟨kq, x17_3, rfl, HA, HJ3, BK343, BK344, HB⟩ := hcut
    cases kq with
    | zero => exact absurd HA.out (by simp [zbI.j1])
    | succ kj3 =>
     have H := HA.out
     clear HA
     simp only [zbI.j1] at H
     by_cases c13 : x17_3 = true
     ·subst c13
      have H1 : (if (wrap64 (Int.tdiv x344000_1 2)) = 0 then (if (wrap64 (Int.tdiv x344001_1 2)) = 0 then (zbI.l0 kj3 (wrap64 (Int.tdiv x344000_1 2)) (wrap64 (Int.tdiv x344001_1 2)) 0) else (zbI.l0 kj3 (wrap64 (Int.tdiv x344000_1 2)) (wrap64 (Int.tdiv x344001_1 2)) (wrap64 (x344002_1 - 1)))) else (zbI.l0 kj3 (wrap64 (Int.tdiv x344000_1 2)) (wrap64 (Int.tdiv x344001_1 2)) (wrap64 (x344002_1 - 1)))) = some (r1, r2, r3) := by rw [if_pos rfl] at H; exact H
      clear H
      have H := H1
      clear H1
      by_cases c14 : (wrap64 (Int.tdiv x344000_1 2)) = 0
      ·rw [if_pos c14] at H
       have c14b0 : ((wrap64 (Int.tdiv x344000_1 2)) == 0) = true := beq_iff_eq.mpr c14
       have c14b1 : ((wrap64 (Int.tdiv x344000_1 2)) != 0) = false := bne_eq_false_iff_eq.mpr c14
       clear c14
       by_cases c15 : (wrap64 (Int.tdiv x344001_1 2)) = 0
       ·rw [if_pos c15] at H
        have c15b0 : ((wrap64 (Int.tdiv x344001_1 2)) == 0) = true := beq_iff_eq.mpr c15
        have c15b1 : ((wrap64 (Int.tdiv x344001_1 2)) != 0) = false := bne_eq_false_iff_eq.mpr c15
        clear c15
        have H' := zpS H
        clear H
        have hnb16 := NB343_344.out
        have hnc16 := NB344_343.out
        obtain ⟨hcz17_0, hcz17_1, hcz17_2⟩ := zdT BK343.out
        obtain ⟨hfz17_0, hfz17_1, hfz17_2⟩ := zqD BK343.out
        go_wp2
        go_roundg kj3
        case measure => have := HK1.out; have := HJ3.out; omega
        case rel => exact ⟨(wrap64 (Int.tdiv x344000_1 2)), (wrap64 (Int.tdiv x344001_1 2)), (0), H', ⟨by have := HK1.out; have := HJ3.out; omega⟩, ⟨by (with_reducible repeat (first | apply zuW | apply ztN | apply zqY)); refine zlL (cs := #[.int .i64 (wrap64 (Int.tdiv x344000_1 2)), .int .i64 (wrap64 (Int.tdiv x344001_1 2)), .int .i64 (wrap64 (x344002_1 - 1))]) ?_ 2 _ rfl; (with_reducible repeat (first | apply zuW | apply ztN | apply zqY)); refine zlL (cs := #[.int .i64 (wrap64 (Int.tdiv x344000_1 2)), .int .i64 (wrap64 (Int.tdiv x344001_1 2)), .int .i64 x344002_1]) ?_ 2 _ rfl; (with_reducible repeat (first | apply zuW | apply ztN | apply zqY)); refine zlL (cs := #[.int .i64 (wrap64 (Int.tdiv x344000_1 2)), .int .i64 x344001_1, .int .i64 x344002_1]) ?_ 1 _ rfl; (with_reducible repeat (first | apply zuW | apply ztN | apply zqY)); refine zlL (cs := #[.int .i64 x344000_1, .int .i64 x344001_1, .int .i64 x344002_1]) ?_ 0 _ rfl; (with_reducible repeat (first | apply zuW | apply ztN | apply zqY)); exact BK343.out⟩, ⟨by (with_reducible repeat (first | apply zuW | apply ztN | apply zqY)); refine znI ?_ NB344_343.out _; (with_reducible repeat (first | apply zuW | apply ztN | apply zqY)); refine znI ?_ NB344_343.out _; (with_reducible repeat (first | apply zuW | apply ztN | apply zqY)); refine znI ?_ NB344_343.out _; (with_reducible repeat (first | apply zuW | apply ztN | apply zqY)); refine znI ?_ NB344_343.out _; (with_reducible repeat (first | apply zuW | apply ztN | apply zqY)); exact BK344.out⟩, ⟨bb_⟩⟩
       ·rw [if_neg c15] at H
        have c15b0 : ((wrap64 (Int.tdiv x344001_1 2)) == 0) = false := beq_eq_false_iff_ne.mpr c15
        have c15b1 : ((wrap64 (Int.tdiv x344001_1 2)) != 0) = true := bne_iff_ne.mpr c15
        have H' := zpS H
        clear H
        have hnb18 := NB343_344.out
        have hnc18 := NB344_343.out
        obtain ⟨hcz19_0, hcz19_1, hcz19_2⟩ := zdT BK343.out
        obtain ⟨hfz19_0, hfz19_1, hfz19_2⟩ := zqD BK343.out
        go_wp2
        go_roundg kj3
        case measure => have := HK1.out; have := HJ3.out; omega
        case rel => exact ⟨(wrap64 (Int.tdiv x344000_1 2)), (wrap64 (Int.tdiv x344001_1 2)), (wrap64 (x344002_1 - 1)), H', ⟨by have := HK1.out; have := HJ3.out; omega⟩, ⟨by (with_reducible repeat (first | apply zuW | apply ztN | apply zqY)); refine zlL (cs := #[.int .i64 (wrap64 (Int.tdiv x344000_1 2)), .int .i64 (wrap64 (Int.tdiv x344001_1 2)), .int .i64 x344002_1]) ?_ 2 _ rfl; (with_reducible repeat (first | apply zuW | apply ztN | apply zqY)); refine zlL (cs := #[.int .i64 (wrap64 (Int.tdiv x344000_1 2)), .int .i64 x344001_1, .int .i64 x344002_1]) ?_ 1 _ rfl; (with_reducible repeat (first | apply zuW | apply ztN | apply zqY)); refine zlL (cs := #[.int .i64 x344000_1, .int .i64 x344001_1, .int .i64 x344002_1]) ?_ 0 _ rfl; (with_reducible repeat (first | apply zuW | apply ztN | apply zqY)); exact BK343.out⟩, ⟨by (with_reducible repeat (first | apply zuW | apply ztN | apply zqY)); refine znI ?_ NB344_343.out _; (with_reducible repeat (first | apply zuW | apply ztN | apply zqY)); refine znI ?_ NB344_343.out _; (with_reducible repeat (first | apply zuW | apply ztN | apply zqY)); refine znI ?_ NB344_343.out _; (with_reducible repeat (first | apply zuW | apply ztN | apply zqY)); exact BK344.out⟩, ⟨bb_⟩⟩
      ·rw [if_neg c14] at H
       have c14b0 : ((wrap64 (Int.tdiv x344000_1 2)) == 0) = false := beq_eq_false_iff_ne.mpr c14
       have c14b1 : ((wrap64 (Int.tdiv x344000_1 2)) != 0) = true := bne_iff_ne.mpr c14
       have H' := zpS H
       clear H
       have hnb20 := NB343_344.out
       have hnc20 := NB344_343.out
       obtain ⟨hcz21_0, hcz21_1, hcz21_2⟩ := zdT BK343.out
       obtain ⟨hfz21_0, hfz21_1, hfz21_2⟩ := zqD BK343.out
       go_wp2
       go_roundg kj3
       case measure => have := HK1.out; have := HJ3.out; omega
       case rel => exact ⟨(wrap64 (Int.tdiv x344000_1 2)), (wrap64 (Int.tdiv x344001_1 2)), (wrap64 (x344002_1 - 1)), H', ⟨by have := HK1.out; have := HJ3.out; omega⟩, ⟨by (with_reducible repeat (first | apply zuW | apply ztN | apply zqY)); refine zlL (cs := #[.int .i64 (wrap64 (Int.tdiv x344000_1 2)), .int .i64 (wrap64 (Int.tdiv x344001_1 2)), .int .i64 x344002_1]) ?_ 2 _ rfl; (with_reducible repeat (first | apply zuW | apply ztN | apply zqY)); refine zlL (cs := #[.int .i64 (wrap64 (Int.tdiv x344000_1 2)), .int .i64 x344001_1, .int .i64 x344002_1]) ?_ 1 _ rfl; (with_reducible repeat (first | apply zuW | apply ztN | apply zqY)); refine zlL (cs := #[.int .i64 x344000_1, .int .i64 x344001_1, .int .i64 x344002_1]) ?_ 0 _ rfl; (with_reducible repeat (first | apply zuW | apply ztN | apply zqY)); exact BK343.out⟩, ⟨by (with_reducible repeat (first | apply zuW | apply ztN | apply zqY)); refine znI ?_ NB344_343.out _; (with_reducible repeat (first | apply zuW | apply ztN | apply zqY)); refine znI ?_ NB344_343.out _; (with_reducible repeat (first | apply zuW | apply ztN | apply zqY)); refine znI ?_ NB344_343.out _; (with_reducible repeat (first | apply zuW | apply ztN | apply zqY)); exact BK344.out⟩, ⟨bb_⟩⟩
     ·replace c13 := Bool.eq_false_iff.mpr c13
      subst c13
      have H1 : (some (x344000_1, x344001_1, x344002_1)) = some (r1, r2, r3) := by rw [if_neg (show ¬ (false = true) by decide)] at H; exact H
      clear H
      have H := H1
      clear H1
      simp only [Option.some.injEq, Prod.mk.injEq] at H
      obtain ⟨rfl, rfl, rfl⟩ := H
      have hnb22 := NB343_344.out
      have hnc22 := NB344_343.out
      obtain ⟨hcz23_0, hcz23_1, hcz23_2⟩ := zdT BK343.out
      obtain ⟨hfz23_0, hfz23_1, hfz23_2⟩ := zqD BK343.out
      obtain ⟨hcz24_0, hcz24_1, hcz24_2⟩ := zdT BK344.out
      obtain ⟨hfz24_0, hfz24_1, hfz24_2⟩ := zqD BK344.out
      go_wp2
      refine bodyPost_ret (results_cell_row rfl _ _ gb344 33 #[.int .i64 x344000_1, .int .i64 x344001_1, .int .i64 x344002_1] (0, 0) _ rfl (by (with_reducible repeat (first | apply zuW | apply ztN | apply zqY)); refine zlL (cs := #[.int .i64 x344000_1, .int .i64 x344001_1, .int .i64 0]) ?_ 2 _ rfl; (with_reducible repeat (first | apply zuW | apply ztN | apply zqY)); refine zlL (cs := #[.int .i64 x344000_1, .int .i64 0, .int .i64 0]) ?_ 1 _ rfl; (with_reducible repeat (first | apply zuW | apply ztN | apply zqY)); refine zlL (cs := #[.int .i64 0, .int .i64 0, .int .i64 0]) ?_ 0 _ rfl; (with_reducible repeat (first | apply zuW | apply ztN | apply zqY)); exact BK344.out) Tryd.underlying33 rfl (by kernel_rfl)) rfl ?_
      exact ⟨by first | rfl | (simp [ziS, znJ] <;> rfl) | (simp [*, ziS, znJ] <;> rfl), bb_⟩

def zjL.f (k : Nat) (a0_0 : Int) (a0_1 : Int) (a0_2 : Int) (a1_0 : Int) (a1_1 : Int) (a1_2 : Int) : Option (Int × Int × Int) := if 0 ≤ (wrap64 ((mx a0_2 a1_2) - a0_2)) then (if 0 ≤ (wrap64 ((mx a0_2 a1_2) - a1_2)) then ((zbI.f k (wrap64 ((shl .i64 a0_0 (wrap64 ((mx a0_2 a1_2) - a0_2))) + (shl .i64 a1_0 (wrap64 ((mx a0_2 a1_2) - a1_2))))) (wrap64 ((shl .i64 a0_1 (wrap64 ((mx a0_2 a1_2) - a0_2))) + (shl .i64 a1_1 (wrap64 ((mx a0_2 a1_2) - a1_2))))) (mx a0_2 a1_2)).bind fun bt348 => (some (bt348.1, bt348.2.1, bt348.2.2))) else (none)) else (none)
theorem zjL.mono : ∀ a0 a1 a2 a3 a4 a5 k, LeO (zjL.f k a0 a1 a2 a3 a4 a5) (zjL.f (k + 1) a0 a1 a2 a3 a4 a5) := by
 intro a0 a1 a2 a3 a4 a5 k
 unfold zjL.f
 repeat' first
   | (with_reducible exact zbI.mono _ _ _ _)
   | (with_reducible exact LeO.refl _)
   | (with_reducible exact LeO.none _)
   | (with_reducible refine LeO.ite ?_ ?_)
   | (with_reducible refine LeO.bind ?_ (fun _ => ?_))
   | exact zbI.mono _ _ _ _
   | exact LeO.none _
   | refine LeO.ite ?_ ?_
   | refine LeO.bind ?_ (fun _ => ?_)
def zjL.T2 : Bool × List (List Nat × List Nat) := (true, [([], []), ([0], [0]), ([], []), ([], []), ([3], [3]), ([2, 4], [2, 4]), ([1, 5], [1, 5]), ([], []), ([7], [7]), ([], []), ([], []), ([10], [10]), ([9, 11], [9, 11]), ([8, 12], [8, 12]), ([6, 13], [6, 13]), ([], []), ([15], [15]), ([], []), ([], []), ([18], [18]), ([17, 19], [17, 19]), ([16, 20], [16, 20]), ([], []), ([22], [22]), ([], []), ([], []), ([25], [25]), ([24, 26], [24, 26]), ([23, 27], [23, 27]), ([21, 28], [21, 28]), ([], []), ([14, 29, 30], [14, 29, 30]), ([31], [31]), ([32, 32, 0, 1, 2, 3, 4, 5, 6, 7, 8, 9, 10, 11, 12, 13, 14, 15, 16, 17, 18, 19, 20, 21, 22, 23, 24, 25, 26, 27, 28, 29, 30, 31, 32], [32])])
def zjL.B2 : List Nat := [0, 1, 0, 0, 8, 28, 63, 0, 128, 0, 0, 1024, 3584, 8064, 16383, 0, 32768, 0, 0, 262144, 917504, 2064384, 0, 4194304, 0, 0, 33554432, 117440512, 264241152, 536838144, 0, 2147483647, 4294967295, 8589934591]
theorem zjL.tab2 : rtab .any (opsOf Tryd.f67 2) = zjL.T2 := by kernel_rfl
theorem zjL.bits2 : ztG zjL.T2.2 zjL.B2 = true := by kernel_rfl
theorem zjL.calls (k : Nat) (a0_0 : Int) (a0_1 : Int) (a0_2 : Int) (a1_0 : Int) (a1_1 : Int) (a1_2 : Int) (r1 : Int) (r2 : Int) (r3 : Int) (w : World) (h : zjL.f k a0_0 a0_1 a0_2 a1_0 a1_1 a1_2 = some (r1, r2, r3)) :
  Calls Tryd.prog 67 #[.agg #[.int .i64 a0_0, .int .i64 a0_1, .int .i64 a0_2], .agg #[.int .i64 a1_0, .int .i64 a1_1, .int .i64 a1_2]] w fun e w' => e = .returned (.agg #[.int .i64 r1, .int .i64 r2, .int .i64 r3]) ∧ Below w.heap.size w w' := by
 have hu33 := Tryd.underlying33
 have HB := zpS (Below.refl w.heap.size w)
 have H : (if 0 ≤ (wrap64 ((mx a0_2 a1_2) - a0_2)) then (if 0 ≤ (wrap64 ((mx a0_2 a1_2) - a1_2)) then ((zbI.f k (wrap64 ((shl .i64 a0_0 (wrap64 ((mx a0_2 a1_2) - a0_2))) + (shl .i64 a1_0 (wrap64 ((mx a0_2 a1_2) - a1_2))))) (wrap64 ((shl .i64 a0_1 (wrap64 ((mx a0_2 a1_2) - a0_2))) + (shl .i64 a1_1 (wrap64 ((mx a0_2 a1_2) - a1_2))))) (mx a0_2 a1_2)).bind fun bt348 => (some (bt348.1, bt348.2.1, bt348.2.2))) else (none)) else (none)) = some (r1, r2, r3) := h
 clear h
 obtain ⟨ji3, hji3⟩ : ∃ j_ : Int, (mx a0_2 a1_2) = j_ := ⟨_, rfl⟩
 replace H : (if 0 ≤ (wrap64 ((ji3) - a0_2)) then (if 0 ≤ (wrap64 ((ji3) - a1_2)) then ((zbI.f k (wrap64 ((shl .i64 a0_0 (wrap64 ((ji3) - a0_2))) + (shl .i64 a1_0 (wrap64 ((ji3) - a1_2))))) (wrap64 ((shl .i64 a0_1 (wrap64 ((ji3) - a0_2))) + (shl .i64 a1_1 (wrap64 ((ji3) - a1_2))))) (ji3)).bind fun bt348 => (some (bt348.1, bt348.2.1, bt348.2.2))) else (none)) else (none)) = some (r1, r2, r3) := by first | (rw [hji3] at H; exact H) | (simp only [hji3] at H ⊢; exact H)
 have hji3_ : (if a0_2 < a1_2 then a1_2 else a0_2) = ji3 := hji3
 obtain ⟨ji4, hji4⟩ : ∃ j_ : Int, (wrap64 ((ji3) - a0_2)) = j_ := ⟨_, rfl⟩
 replace H : (if 0 ≤ (ji4) then (if 0 ≤ (wrap64 ((ji3) - a1_2)) then ((zbI.f k (wrap64 ((shl .i64 a0_0 (ji4)) + (shl .i64 a1_0 (wrap64 ((ji3) - a1_2))))) (wrap64 ((shl .i64 a0_1 (ji4)) + (shl .i64 a1_1 (wrap64 ((ji3) - a1_2))))) (ji3)).bind fun bt348 => (some (bt348.1, bt348.2.1, bt348.2.2))) else (none)) else (none)) = some (r1, r2, r3) := by first | (rw [hji4] at H; exact H) | (simp only [hji4] at H ⊢; exact H)
 have hji4w : (IntKind.i64.wrap ((ji3) - a0_2)) = ji4 := (zcM _).trans hji4
 by_cases c5 : 0 ≤ (ji4)
 ·rw [if_pos c5] at H
  have c5b0 := eq_true c5
  have c5b1 : decide (0 ≤ (ji4)) = true := decide_eq_true c5
  clear c5
  obtain ⟨ji6, hji6⟩ : ∃ j_ : Int, (shl .i64 a0_0 (ji4)) = j_ := ⟨_, rfl⟩
  replace H : (if 0 ≤ (wrap64 ((ji3) - a1_2)) then ((zbI.f k (wrap64 ((ji6) + (shl .i64 a1_0 (wrap64 ((ji3) - a1_2))))) (wrap64 ((shl .i64 a0_1 (ji4)) + (shl .i64 a1_1 (wrap64 ((ji3) - a1_2))))) (ji3)).bind fun bt348 => (some (bt348.1, bt348.2.1, bt348.2.2))) else (none)) = some (r1, r2, r3) := by first | (rw [hji6] at H; exact H) | (simp only [hji6] at H ⊢; exact H)
  have hji6_ : (IntKind.i64.wrap (a0_0 * 2 ^ min (ji4).toNat 64)) = ji6 := hji6
  have hji6z : (ji4) ≤ 64 → (IntKind.i64.wrap (a0_0 * 2 ^ (ji4).toNat)) = ji6 := shl_small hji6
  have hji6y : (wrap64 (a0_0 * 2 ^ min (ji4).toNat 64)) = ji6 := (zcM _).symm.trans hji6_
  have hji6x : (ji4) ≤ 64 → (wrap64 (a0_0 * 2 ^ (ji4).toNat)) = ji6 := fun h_ => (zcM _).symm.trans (hji6z h_)
  obtain ⟨ji7, hji7⟩ : ∃ j_ : Int, (wrap64 ((ji3) - a1_2)) = j_ := ⟨_, rfl⟩
  replace H : (if 0 ≤ (ji7) then ((zbI.f k (wrap64 ((ji6) + (shl .i64 a1_0 (ji7)))) (wrap64 ((shl .i64 a0_1 (ji4)) + (shl .i64 a1_1 (ji7)))) (ji3)).bind fun bt348 => (some (bt348.1, bt348.2.1, bt348.2.2))) else (none)) = some (r1, r2, r3) := by first | (rw [hji7] at H; exact H) | (simp only [hji7] at H ⊢; exact H)
  have hji7w : (IntKind.i64.wrap ((ji3) - a1_2)) = ji7 := (zcM _).trans hji7
  by_cases c8 : 0 ≤ (ji7)
  ·rw [if_pos c8] at H
   have c8b0 := eq_true c8
   have c8b1 : decide (0 ≤ (ji7)) = true := decide_eq_true c8
   clear c8
   obtain ⟨ji9, hji9⟩ : ∃ j_ : Int, (shl .i64 a1_0 (ji7)) = j_ := ⟨_, rfl⟩
   replace H : ((zbI.f k (wrap64 ((ji6) + (ji9))) (wrap64 ((shl .i64 a0_1 (ji4)) + (shl .i64 a1_1 (ji7)))) (ji3)).bind fun bt348 => (some (bt348.1, bt348.2.1, bt348.2.2))) = some (r1, r2, r3) := by first | (rw [hji9] at H; exact H) | (simp only [hji9] at H ⊢; exact H)
   have hji9_ : (IntKind.i64.wrap (a1_0 * 2 ^ min (ji7).toNat 64)) = ji9 := hji9
   have hji9z : (ji7) ≤ 64 → (IntKind.i64.wrap (a1_0 * 2 ^ (ji7).toNat)) = ji9 := shl_small hji9
   have hji9y : (wrap64 (a1_0 * 2 ^ min (ji7).toNat 64)) = ji9 := (zcM _).symm.trans hji9_
   have hji9x : (ji7) ≤ 64 → (wrap64 (a1_0 * 2 ^ (ji7).toNat)) = ji9 := fun h_ => (zcM _).symm.trans (hji9z h_)
   have c10b0 := eq_true (dt_ : 0 ≤ (ji4))
   obtain ⟨ji11, hji11⟩ : ∃ j_ : Int, (shl .i64 a0_1 (ji4)) = j_ := ⟨_, rfl⟩
   replace H : ((zbI.f k (wrap64 ((ji6) + (ji9))) (wrap64 ((ji11) + (shl .i64 a1_1 (ji7)))) (ji3)).bind fun bt348 => (some (bt348.1, bt348.2.1, bt348.2.2))) = some (r1, r2, r3) := by first | (rw [hji11] at H; exact H) | (simp only [hji11] at H ⊢; exact H)
   have hji11_ : (IntKind.i64.wrap (a0_1 * 2 ^ min (ji4).toNat 64)) = ji11 := hji11
   have hji11z : (ji4) ≤ 64 → (IntKind.i64.wrap (a0_1 * 2 ^ (ji4).toNat)) = ji11 := shl_small hji11
   have hji11y : (wrap64 (a0_1 * 2 ^ min (ji4).toNat 64)) = ji11 := (zcM _).symm.trans hji11_
   have hji11x : (ji4) ≤ 64 → (wrap64 (a0_1 * 2 ^ (ji4).toNat)) = ji11 := fun h_ => (zcM _).symm.trans (hji11z h_)
   have c12b0 := eq_true (dt_ : 0 ≤ (ji7))
   obtain ⟨ji13, hji13⟩ : ∃ j_ : Int, (shl .i64 a1_1 (ji7)) = j_ := ⟨_, rfl⟩
   replace H : ((zbI.f k (wrap64 ((ji6) + (ji9))) (wrap64 ((ji11) + (ji13))) (ji3)).bind fun bt348 => (some (bt348.1, bt348.2.1, bt348.2.2))) = some (r1, r2, r3) := by first | (rw [hji13] at H; exact H) | (simp only [hji13] at H ⊢; exact H)
   have hji13_ : (IntKind.i64.wrap (a1_1 * 2 ^ min (ji7).toNat 64)) = ji13 := hji13
   have hji13z : (ji7) ≤ 64 → (IntKind.i64.wrap (a1_1 * 2 ^ (ji7).toNat)) = ji13 := shl_small hji13
   have hji13y : (wrap64 (a1_1 * 2 ^ min (ji7).toNat 64)) = ji13 := (zcM _).symm.trans hji13_
   have hji13x : (ji7) ≤ 64 → (wrap64 (a1_1 * 2 ^ (ji7).toNat)) = ji13 := fun h_ => (zcM _).symm.trans (hji13z h_)
   replace H := Option.bind_eq_some_iff.mp H
   obtain ⟨⟨t348, t349, t350⟩, A140, H⟩ := H
   replace H : (some (t348, t349, t350)) = some (r1, r2, r3) := H
   have A14 := zpS A140
   clear A140
   simp only [Option.some.injEq, Prod.mk.injEq] at H
   obtain ⟨rfl, rfl, rfl⟩ := H
   go_enter Tryd.func67, Tryd.ntmps67
   try go_wp2_with (first | ((with_reducible refine zpZ (N := 2) rfl ?_); refine bx_ 2 #[.int .i64 a0_0, .int .i64 a0_1, .int .i64 a0_2] 33 ?_; intro gb345 hg w15 hbox hb; have n0_ := (ns_ hb); have n1_ := zpS (hbox); have n2_ := (ng_ hg); have n3_ := n2_; clear HB; have HB := n0_; have BK345 := n1_; have GW345 := n2_; have GE345 := n3_; clear n0_ n1_ n2_ n3_; clear hb hbox hg) | ((with_reducible refine zpZ (N := 3) rfl ?_); refine bx_ 3 #[.int .i64 a1_0, .int .i64 a1_1, .int .i64 a1_2] 33 ?_; intro gb346 hg w16 hbox hb; have n0_ := zpS (zgM (g := gb345) (o := .cells #[.int .i64 a0_0, .int .i64 a0_1, .int .i64 a0_2] 33 (0, 0)) bk_ hb); have n1_ := (ns_ hb); have n2_ := zpS (hbox); have n3_ := (ng_ hg); have n4_ := n3_; have n5_ := zpS ((by rw [hg]; exact Nat.ne_of_lt (zmN (g := gb345) (o := .cells #[.int .i64 a0_0, .int .i64 a0_1, .int .i64 a0_2] 33 (0, 0)) bk_) : gb345 ≠ gb346)); have n6_ := zpS ((by rw [hg]; exact Nat.ne_of_gt (zmN (g := gb345) (o := .cells #[.int .i64 a0_0, .int .i64 a0_1, .int .i64 a0_2] 33 (0, 0)) bk_) : gb346 ≠ gb345)); clear BK345; clear HB; have BK345 := n0_; have HB := n1_; have BK346 := n2_; have GW346 := n3_; have GE346 := n4_; have NB345_346 := n5_; have NB346_345 := n6_; clear n0_ n1_ n2_ n3_ n4_ n5_ n6_; clear hb hbox hg) | ((with_reducible refine zpZ (N := 4) rfl ?_); refine bx_ 4 #[.int .i64 0, .int .i64 0, .int .i64 0] 33 ?_; intro gb347 hg w17 hbox hb; have n0_ := zpS (zgM (g := gb345) (o := .cells #[.int .i64 a0_0, .int .i64 a0_1, .int .i64 a0_2] 33 (0, 0)) bk_ hb); have n1_ := zpS (zgM (g := gb346) (o := .cells #[.int .i64 a1_0, .int .i64 a1_1, .int .i64 a1_2] 33 (0, 0)) bk_ hb); have n2_ := (ns_ hb); have n3_ := zpS (hbox); have n4_ := (ng_ hg); have n5_ := n4_; have n6_ := zpS ((by rw [hg]; exact Nat.ne_of_lt (zmN (g := gb345) (o := .cells #[.int .i64 a0_0, .int .i64 a0_1, .int .i64 a0_2] 33 (0, 0)) bk_) : gb345 ≠ gb347)); have n7_ := zpS ((by rw [hg]; exact Nat.ne_of_gt (zmN (g := gb345) (o := .cells #[.int .i64 a0_0, .int .i64 a0_1, .int .i64 a0_2] 33 (0, 0)) bk_) : gb347 ≠ gb345)); have n8_ := zpS ((by rw [hg]; exact Nat.ne_of_lt (zmN (g := gb346) (o := .cells #[.int .i64 a1_0, .int .i64 a1_1, .int .i64 a1_2] 33 (0, 0)) bk_) : gb346 ≠ gb347)); have n9_ := zpS ((by rw [hg]; exact Nat.ne_of_gt (zmN (g := gb346) (o := .cells #[.int .i64 a1_0, .int .i64 a1_1, .int .i64 a1_2] 33 (0, 0)) bk_) : gb347 ≠ gb346)); clear BK345; clear BK346; clear HB; have BK345 := n0_; have BK346 := n1_; have HB := n2_; have BK347 := n3_; have GW347 := n4_; have GE347 := n5_; have NB345_347 := n6_; have NB347_345 := n7_; have NB346_347 := n8_; have NB347_346 := n9_; clear n0_ n1_ n2_ n3_ n4_ n5_ n6_ n7_ n8_ n9_; clear hb hbox hg; have hnb18 := NB345_346.out; have hnc18 := NB346_345.out; have hnb19 := NB345_347.out; have hnc19 := NB347_345.out; obtain ⟨hcz20_0, hcz20_1, hcz20_2⟩ := zdT BK345.out; obtain ⟨hfz20_0, hfz20_1, hfz20_2⟩ := zqD BK345.out; have hnb21 := NB346_347.out; have hnc21 := NB347_346.out; obtain ⟨hcz22_0, hcz22_1, hcz22_2⟩ := zdT BK346.out; obtain ⟨hfz22_0, hfz22_1, hfz22_2⟩ := zqD BK346.out))
   have n0_ := zpS (ztN BK345.out)
   have n1_ := zpS (ztN BK346.out)
   have n2_ := zpS (ztN BK347.out)
   have n3_ := zpS (zvF HB.out)
   clear BK345
   clear BK346
   clear BK347
   clear HB
   have BK345 := n0_
   have BK346 := n1_
   have BK347 := n2_
   have HB := n3_
   clear n0_ n1_ n2_ n3_
   refine zpB (n := 34) (S := fun w' => w'.cell? ⟨gb345, 0, none⟩ = some (.int .i64 a0_0) ∧ w'.cell? ⟨gb345, 1, none⟩ = some (.int .i64 a0_1) ∧ w'.cell? ⟨gb345, 2, none⟩ = some (.int .i64 a0_2) ∧ w'.cell? ⟨gb346, 0, none⟩ = some (.int .i64 a1_0) ∧ w'.cell? ⟨gb346, 1, none⟩ = some (.int .i64 a1_1) ∧ w'.cell? ⟨gb346, 2, none⟩ = some (.int .i64 a1_2)) (ds := []) #[false, false, false, false, false, false, false, false, false, false, false, false, false, false, false, false, false, false, false, false, false, false, false, false, false, false, false, false, false, false, false, false, false, false] (by kernel_rfl) rfl rfl ⟨(zzS BK345.out 0).trans rfl, (zzS BK345.out 1).trans rfl, (zzS BK345.out 2).trans rfl, (zzS BK346.out 0).trans rfl, (zzS BK346.out 1).trans rfl, (zzS BK346.out 2).trans rfl⟩ (fun hHeld => ?_); refine zwI zjL.tab2 zjL.bits2 (fun HT_ HW_ => ?_)
   generalize w17.drew = w23 at BK345 BK346 BK347 HB hHeld ⊢
   refine pu_ 0 (some 11) (bl_ 34 1) ?_
   refine pu_ 2 (some 13) (bl_ 34 5) ?_
   refine pu_ 3 (some 14) (bl_ 34 13) ?_
   refine pu_ 7 (some 18) (bl_ 34 141) ?_
   refine pu_ 9 (some 20) (bl_ 34 653) ?_
   refine pu_ 10 (some 21) (bl_ 34 1677) ?_
   refine pu_ 15 (some 26) (bl_ 34 34445) ?_
   refine pu_ 17 (some 28) (bl_ 34 165517) ?_
   refine pu_ 18 (some 29) (bl_ 34 427661) ?_
   refine pu_ 22 (some 33) (bl_ 34 4621965) ?_
   refine pu_ 24 (some 35) (bl_ 34 21399181) ?_
   refine pu_ 25 (some 36) (bl_ 34 54953613) ?_
   refine pu_ 30 (some 41) (bl_ 34 1128695437) ?_
   refine tk6_ 1 (some 12) (bl_ 34 1128695439) hHeld ?_
   refine tk6_ 4 (some 15) (bl_ 34 1128695455) hHeld ?_
   refine pu_ 5 (some 16) (bl_ 34 1128695487) ?_
   refine pu_ 6 (some 17) (bl_ 34 1128695551) ?_
   refine tk6_ 8 (some 19) (bl_ 34 1128695807) hHeld ?_
   refine tk6_ 11 (some 22) (bl_ 34 1128697855) hHeld ?_
   refine pu_ 12 (some 23) (bl_ 34 1128701951) ?_
   refine pu_ 13 (some 24) (bl_ 34 1128710143) ?_
   refine pu_ 14 (some 25) (bl_ 34 1128726527) ?_
   refine tk6_ 16 (some 27) (bl_ 34 1128792063) hHeld ?_
   refine tk6_ 19 (some 30) (bl_ 34 1129316351) hHeld ?_
   refine pu_ 20 (some 31) (bl_ 34 1130364927) ?_
   refine pu_ 21 (some 32) (bl_ 34 1132462079) ?_
   refine tk6_ 23 (some 34) (bl_ 34 1140850687) hHeld ?_
   refine tk6_ 26 (some 37) (bl_ 34 1207959551) hHeld ?_
   refine pu_ 27 (some 38) (bl_ 34 1342177279) ?_
   refine pu_ 28 (some 39) (bl_ 34 1610612735) ?_
   refine pu_ 29 (some 40) (bl_ 34 2147483647) ?_
   refine pu_ 31 (some 42) (bl_ 34 4294967295) ?_
   refine zdC (i := 32) (N := some 43) (bl_ 34 8589934591) rfl rfl (zeO HT_.out (by kernel_rfl)) (by decide) (fun K hK => ?_)
   refine zqW Tryd.func72 (by kernel_rfl) rfl #[.agg #[.int .i64 (wrap64 ((ji6) + (ji9))), .int .i64 (wrap64 ((ji11) + (ji13))), .int .i64 ji3]] (by rfl) rfl rfl (by (try simp only [List.map_toArray, List.map_cons, List.map_nil]); first | done | (simp only [hji11, hji13, hji3, hji6, hji9]; rfl) | rfl | (simp only [List.length_drop, List.length_take]; rfl)) ?_
   with_reducible refine (zbI.calls k (wrap64 ((ji6) + (ji9))) (wrap64 ((ji11) + (ji13))) ji3 t348 t349 t350 _ A14.out).mono ?_
   rintro e w24 ⟨rfl, hb⟩
   refine ⟨_, rfl, ?_⟩
   have n0_ := zpS (zgM (g := gb345) (o := .cells #[.int .i64 a0_0, .int .i64 a0_1, .int .i64 a0_2] 33 (0, 0)) bk_ hb)
   have n1_ := zpS (zgM (g := gb346) (o := .cells #[.int .i64 a1_0, .int .i64 a1_1, .int .i64 a1_2] 33 (0, 0)) bk_ hb)
   have n2_ := zpS (zgM (g := gb347) (o := .cells #[.int .i64 0, .int .i64 0, .int .i64 0] 33 (0, 0)) bk_ hb)
   have n3_ := (ns_ hb)
   clear BK345
   clear BK346
   clear BK347
   clear HB
   have BK345 := n0_
   have BK346 := n1_
   have BK347 := n2_
   have HB := n3_
   clear n0_ n1_ n2_ n3_
   (try clear hb)
   (try clear hb2)
   (try clear hk)
   (try clear hi)
   refine hK.out _ _ ⟨(zzS BK345.out 0).trans rfl, (zzS BK345.out 1).trans rfl, (zzS BK345.out 2).trans rfl, (zzS BK346.out 0).trans rfl, (zzS BK346.out 1).trans rfl, (zzS BK346.out 2).trans rfl⟩ (fun hHeld => ?_)
   clear hK K
   refine zaN (a' := ?_) ?_ ?_
   rotate_left
   ·show Act.put _ (some 43) _ = _
    simp only [Act.put, List.setIfInBounds_toArray, List.set_cons_zero, List.set_cons_succ, zcM, ziK]
    rfl
   refine zdC (i := 33) (N := none) (bl_ 34 17179869183) rfl rfl (zeO HT_.out (by kernel_rfl)) (by decide) (fun K hK => ?_)
   have hs25 : w24.cell? ⟨gb347, 0, none⟩ = some (.int .i64 0) := (zzS BK347.out 0).trans rfl
   have hfs25 := zjF BK347.out 0
   have hns25_0 := NB345_347.out
   have hns25_1 := NB346_347.out
   have hms25_0 := NB347_345.out
   have hms25_1 := NB347_346.out
   have hs26 : w24.cell? ⟨gb347, 1, none⟩ = some (.int .i64 0) := (zzS BK347.out 1).trans rfl
   have hfs26 := zjF BK347.out 1
   have hns26_0 := NB345_347.out
   have hns26_1 := NB346_347.out
   have hms26_0 := NB347_345.out
   have hms26_1 := NB347_346.out
   have hs27 : w24.cell? ⟨gb347, 2, none⟩ = some (.int .i64 0) := (zzS BK347.out 2).trans rfl
   have hfs27 := zjF BK347.out 2
   have hns27_0 := NB345_347.out
   have hns27_1 := NB346_347.out
   have hms27_0 := NB347_345.out
   have hms27_1 := NB347_346.out
   refine skip_ (w1 := ?_) (by rfl) rfl ?_ ?_
   rotate_left
   ·go_simp
    rfl
   refine hK.out _ _ ⟨((zgQ (p := ⟨gb347, _, none⟩) NB345_347.out _).trans (((zgQ (p := ⟨gb347, _, none⟩) NB345_347.out _).trans (((zgQ (p := ⟨gb347, _, none⟩) NB345_347.out _).trans (hHeld.1)))))), ((zgQ (p := ⟨gb347, _, none⟩) NB345_347.out _).trans (((zgQ (p := ⟨gb347, _, none⟩) NB345_347.out _).trans (((zgQ (p := ⟨gb347, _, none⟩) NB345_347.out _).trans (hHeld.2.1)))))), ((zgQ (p := ⟨gb347, _, none⟩) NB345_347.out _).trans (((zgQ (p := ⟨gb347, _, none⟩) NB345_347.out _).trans (((zgQ (p := ⟨gb347, _, none⟩) NB345_347.out _).trans (hHeld.2.2.1)))))), ((zgQ (p := ⟨gb347, _, none⟩) NB346_347.out _).trans (((zgQ (p := ⟨gb347, _, none⟩) NB346_347.out _).trans (((zgQ (p := ⟨gb347, _, none⟩) NB346_347.out _).trans (hHeld.2.2.2.1)))))), ((zgQ (p := ⟨gb347, _, none⟩) NB346_347.out _).trans (((zgQ (p := ⟨gb347, _, none⟩) NB346_347.out _).trans (((zgQ (p := ⟨gb347, _, none⟩) NB346_347.out _).trans (hHeld.2.2.2.2.1)))))), ((zgQ (p := ⟨gb347, _, none⟩) NB346_347.out _).trans (((zgQ (p := ⟨gb347, _, none⟩) NB346_347.out _).trans (((zgQ (p := ⟨gb347, _, none⟩) NB346_347.out _).trans (hHeld.2.2.2.2.2))))))⟩ (fun hHeld => ?_)
   clear hK K
   refine znK (zzP HT_.out (by kernel_rfl)) ?_
   try go_wp2
   refine bodyPost_ret (results_cell_row rfl _ _ gb347 33 #[.int .i64 t348, .int .i64 t349, .int .i64 t350] (0, 0) _ rfl (by (with_reducible repeat (first | apply zuW | apply ztN | apply zqY)); refine zlL (cs := #[.int .i64 t348, .int .i64 t349, .int .i64 0]) ?_ 2 _ rfl; (with_reducible repeat (first | apply zuW | apply ztN | apply zqY)); refine zlL (cs := #[.int .i64 t348, .int .i64 0, .int .i64 0]) ?_ 1 _ rfl; (with_reducible repeat (first | apply zuW | apply ztN | apply zqY)); refine zlL (cs := #[.int .i64 0, .int .i64 0, .int .i64 0]) ?_ 0 _ rfl; (with_reducible repeat (first | apply zuW | apply ztN | apply zqY)); exact BK347.out) Tryd.underlying33 rfl (by kernel_rfl)) rfl ?_
   exact ⟨by first | rfl | (simp [ziS, znJ] <;> rfl) | (simp only [← hji3, ← hji4, ← hji6, ← hji7, ← hji9, ← hji11, ← hji13]; first | rfl | (simp [ziS, znJ] <;> rfl)) | (simp [*, ziS, znJ] <;> rfl), bb_⟩
  ·rw [if_neg c8] at H
   exact absurd H (by simp)
 ·rw [if_neg c5] at H
  exact absurd H (by simp)

def zpR.f (k : Nat) (a0_0 : Int) (a0_1 : Int) (a0_2 : Int) (a1_0 : Int) (a1_1 : Int) (a1_2 : Int) : Option (Int × Int × Int) := (zjD.f a1_0 a1_1 a1_2).bind fun bt354 => ((zjL.f k a0_0 a0_1 a0_2 bt354.1 bt354.2.1 bt354.2.2).bind fun bt357 => (some (bt357.1, bt357.2.1, bt357.2.2)))
theorem zpR.mono : ∀ a0 a1 a2 a3 a4 a5 k, LeO (zpR.f k a0 a1 a2 a3 a4 a5) (zpR.f (k + 1) a0 a1 a2 a3 a4 a5) := by
 intro a0 a1 a2 a3 a4 a5 k
 unfold zpR.f
 repeat' first
   | (with_reducible exact zjL.mono _ _ _ _ _ _ _)
   | (with_reducible exact LeO.refl _)
   | (with_reducible exact LeO.none _)
   | (with_reducible refine LeO.ite ?_ ?_)
   | (with_reducible refine LeO.bind ?_ (fun _ => ?_))
   | exact zjL.mono _ _ _ _ _ _ _
   | exact LeO.none _
   | refine LeO.ite ?_ ?_
   | refine LeO.bind ?_ (fun _ => ?_)
theorem zpR.calls (k : Nat) (a0_0 : Int) (a0_1 : Int) (a0_2 : Int) (a1_0 : Int) (a1_1 : Int) (a1_2 : Int) (r1 : Int) (r2 : Int) (r3 : Int) (w : World) (h : zpR.f k a0_0 a0_1 a0_2 a1_0 a1_1 a1_2 = some (r1, r2, r3)) :
  Calls Tryd.prog 64 #[.agg #[.int .i64 a0_0, .int .i64 a0_1, .int .i64 a0_2], .agg #[.int .i64 a1_0, .int .i64 a1_1, .int .i64 a1_2]] w fun e w' => e = .returned (.agg #[.int .i64 r1, .int .i64 r2, .int .i64 r3]) ∧ Below w.heap.size w w' := by
 have hu33 := Tryd.underlying33
 have HB := zpS (Below.refl w.heap.size w)
 have H : ((zjD.f a1_0 a1_1 a1_2).bind fun bt354 => ((zjL.f k a0_0 a0_1 a0_2 bt354.1 bt354.2.1 bt354.2.2).bind fun bt357 => (some (bt357.1, bt357.2.1, bt357.2.2)))) = some (r1, r2, r3) := h
 clear h
 replace H := Option.bind_eq_some_iff.mp H
 obtain ⟨⟨t354, t355, t356⟩, A30, H⟩ := H
 replace H : ((zjL.f k a0_0 a0_1 a0_2 t354 t355 t356).bind fun bt357 => (some (bt357.1, bt357.2.1, bt357.2.2))) = some (r1, r2, r3) := H
 have A3 := zpS A30
 clear A30
 replace H := Option.bind_eq_some_iff.mp H
 obtain ⟨⟨t357, t358, t359⟩, A40, H⟩ := H
 replace H : (some (t357, t358, t359)) = some (r1, r2, r3) := H
 have A4 := zpS A40
 clear A40
 simp only [Option.some.injEq, Prod.mk.injEq] at H
 obtain ⟨rfl, rfl, rfl⟩ := H
 go_enter Tryd.func64, Tryd.ntmps64
 try go_wp2_with (first | ((with_reducible refine zpZ (N := 2) rfl ?_); refine bx_ 2 #[.int .i64 a0_0, .int .i64 a0_1, .int .i64 a0_2] 33 ?_; intro gb351 hg w5 hbox hb; have n0_ := (ns_ hb); have n1_ := zpS (hbox); have n2_ := (ng_ hg); have n3_ := n2_; clear HB; have HB := n0_; have BK351 := n1_; have GW351 := n2_; have GE351 := n3_; clear n0_ n1_ n2_ n3_; clear hb hbox hg) | ((with_reducible refine zpZ (N := 3) rfl ?_); refine bx_ 3 #[.int .i64 a1_0, .int .i64 a1_1, .int .i64 a1_2] 33 ?_; intro gb352 hg w6 hbox hb; have n0_ := zpS (zgM (g := gb351) (o := .cells #[.int .i64 a0_0, .int .i64 a0_1, .int .i64 a0_2] 33 (0, 0)) bk_ hb); have n1_ := (ns_ hb); have n2_ := zpS (hbox); have n3_ := (ng_ hg); have n4_ := n3_; have n5_ := zpS ((by rw [hg]; exact Nat.ne_of_lt (zmN (g := gb351) (o := .cells #[.int .i64 a0_0, .int .i64 a0_1, .int .i64 a0_2] 33 (0, 0)) bk_) : gb351 ≠ gb352)); have n6_ := zpS ((by rw [hg]; exact Nat.ne_of_gt (zmN (g := gb351) (o := .cells #[.int .i64 a0_0, .int .i64 a0_1, .int .i64 a0_2] 33 (0, 0)) bk_) : gb352 ≠ gb351)); clear BK351; clear HB; have BK351 := n0_; have HB := n1_; have BK352 := n2_; have GW352 := n3_; have GE352 := n4_; have NB351_352 := n5_; have NB352_351 := n6_; clear n0_ n1_ n2_ n3_ n4_ n5_ n6_; clear hb hbox hg) | ((with_reducible refine zpZ (N := 4) rfl ?_); refine bx_ 4 #[.int .i64 0, .int .i64 0, .int .i64 0] 33 ?_; intro gb353 hg w7 hbox hb; have n0_ := zpS (zgM (g := gb351) (o := .cells #[.int .i64 a0_0, .int .i64 a0_1, .int .i64 a0_2] 33 (0, 0)) bk_ hb); have n1_ := zpS (zgM (g := gb352) (o := .cells #[.int .i64 a1_0, .int .i64 a1_1, .int .i64 a1_2] 33 (0, 0)) bk_ hb); have n2_ := (ns_ hb); have n3_ := zpS (hbox); have n4_ := (ng_ hg); have n5_ := n4_; have n6_ := zpS ((by rw [hg]; exact Nat.ne_of_lt (zmN (g := gb351) (o := .cells #[.int .i64 a0_0, .int .i64 a0_1, .int .i64 a0_2] 33 (0, 0)) bk_) : gb351 ≠ gb353)); have n7_ := zpS ((by rw [hg]; exact Nat.ne_of_gt (zmN (g := gb351) (o := .cells #[.int .i64 a0_0, .int .i64 a0_1, .int .i64 a0_2] 33 (0, 0)) bk_) : gb353 ≠ gb351)); have n8_ := zpS ((by rw [hg]; exact Nat.ne_of_lt (zmN (g := gb352) (o := .cells #[.int .i64 a1_0, .int .i64 a1_1, .int .i64 a1_2] 33 (0, 0)) bk_) : gb352 ≠ gb353)); have n9_ := zpS ((by rw [hg]; exact Nat.ne_of_gt (zmN (g := gb352) (o := .cells #[.int .i64 a1_0, .int .i64 a1_1, .int .i64 a1_2] 33 (0, 0)) bk_) : gb353 ≠ gb352)); clear BK351; clear BK352; clear HB; have BK351 := n0_; have BK352 := n1_; have HB := n2_; have BK353 := n3_; have GW353 := n4_; have GE353 := n5_; have NB351_353 := n6_; have NB353_351 := n7_; have NB352_353 := n8_; have NB353_352 := n9_; clear n0_ n1_ n2_ n3_ n4_ n5_ n6_ n7_ n8_ n9_; clear hb hbox hg))
 have n0_ := zpS (ztN BK351.out)
 have n1_ := zpS (ztN BK352.out)
 have n2_ := zpS (ztN BK353.out)
 have n3_ := zpS (zvF HB.out)
 clear BK351
 clear BK352
 clear BK353
 clear HB
 have BK351 := n0_
 have BK352 := n1_
 have BK353 := n2_
 have HB := n3_
 clear n0_ n1_ n2_ n3_
 refine zpB (n := 5) (S := fun w' => w'.cell? ⟨gb351, 0, none⟩ = some (.int .i64 a0_0) ∧ w'.cell? ⟨gb351, 1, none⟩ = some (.int .i64 a0_1) ∧ w'.cell? ⟨gb351, 2, none⟩ = some (.int .i64 a0_2) ∧ w'.cell? ⟨gb352, 0, none⟩ = some (.int .i64 a1_0) ∧ w'.cell? ⟨gb352, 1, none⟩ = some (.int .i64 a1_1) ∧ w'.cell? ⟨gb352, 2, none⟩ = some (.int .i64 a1_2)) (ds := []) #[false, false, false, false, false] (by kernel_rfl) rfl rfl ⟨(zzS BK351.out 0).trans rfl, (zzS BK351.out 1).trans rfl, (zzS BK351.out 2).trans rfl, (zzS BK352.out 0).trans rfl, (zzS BK352.out 1).trans rfl, (zzS BK352.out 2).trans rfl⟩ (fun hHeld => ?_)
 generalize w7.drew = w8 at BK351 BK352 BK353 HB hHeld ⊢
 refine take_ (i := 0) (N := some 5) (v := ?_) (a' := ?_) (bl_ 5 1) rfl rfl (by kernel_rfl) (fun _ _ _ h => h) (Or.inl ⟨by rfl, ?_⟩) hHeld ?_ ?_
 rotate_left
 ·rintro w' ⟨s0, s1, s2, s3, s4, s5⟩
  go_simp
  with_reducible rfl
 rotate_left
 ·simp only [Act.put, List.setIfInBounds_toArray, List.set_cons_zero, List.set_cons_succ, zcM, ziK]
  rfl
 refine take_ (i := 1) (N := some 6) (v := ?_) (a' := ?_) (bl_ 5 3) rfl rfl (by kernel_rfl) (fun _ _ _ h => h) (Or.inl ⟨by rfl, ?_⟩) hHeld ?_ ?_
 rotate_left
 ·rintro w' ⟨s0, s1, s2, s3, s4, s5⟩
  go_simp
  with_reducible rfl
 rotate_left
 ·simp only [Act.put, List.setIfInBounds_toArray, List.set_cons_zero, List.set_cons_succ, zcM, ziK]
  rfl
 refine zdC (i := 2) (N := some 7) (bl_ 5 7) rfl rfl (by kernel_rfl) (by decide) (fun K hK => ?_)
 refine zqW Tryd.func65 (by kernel_rfl) rfl #[.agg #[.int .i64 a1_0, .int .i64 a1_1, .int .i64 a1_2]] (by rfl) rfl rfl (by (try simp only [List.map_toArray, List.map_cons, List.map_nil]); first | done | rfl | (simp only [List.length_drop, List.length_take]; rfl)) ?_
 with_reducible refine (zjD.calls a1_0 a1_1 a1_2 t354 t355 t356 _ A3.out).mono ?_
 rintro e w9 ⟨rfl, hb⟩
 refine ⟨_, rfl, ?_⟩
 have n0_ := zpS (zgM (g := gb351) (o := .cells #[.int .i64 a0_0, .int .i64 a0_1, .int .i64 a0_2] 33 (0, 0)) bk_ hb)
 have n1_ := zpS (zgM (g := gb352) (o := .cells #[.int .i64 a1_0, .int .i64 a1_1, .int .i64 a1_2] 33 (0, 0)) bk_ hb)
 have n2_ := zpS (zgM (g := gb353) (o := .cells #[.int .i64 0, .int .i64 0, .int .i64 0] 33 (0, 0)) bk_ hb)
 have n3_ := (ns_ hb)
 clear BK351
 clear BK352
 clear BK353
 clear HB
 have BK351 := n0_
 have BK352 := n1_
 have BK353 := n2_
 have HB := n3_
 clear n0_ n1_ n2_ n3_
 (try clear hb)
 (try clear hb2)
 (try clear hk)
 (try clear hi)
 refine hK.out _ _ ⟨(zzS BK351.out 0).trans rfl, (zzS BK351.out 1).trans rfl, (zzS BK351.out 2).trans rfl, (zzS BK352.out 0).trans rfl, (zzS BK352.out 1).trans rfl, (zzS BK352.out 2).trans rfl⟩ (fun hHeld => ?_)
 clear hK K
 refine zaN (a' := ?_) ?_ ?_
 rotate_left
 ·show Act.put _ (some 7) _ = _
  simp only [Act.put, List.setIfInBounds_toArray, List.set_cons_zero, List.set_cons_succ, zcM, ziK]
  rfl
 refine zdC (i := 3) (N := some 8) (bl_ 5 15) rfl rfl (by kernel_rfl) (by decide) (fun K hK => ?_)
 refine zqW Tryd.func67 (by kernel_rfl) rfl #[.agg #[.int .i64 a0_0, .int .i64 a0_1, .int .i64 a0_2], .agg #[.int .i64 t354, .int .i64 t355, .int .i64 t356]] (by rfl) rfl rfl (by (try simp only [List.map_toArray, List.map_cons, List.map_nil]); first | done | rfl | (simp only [List.length_drop, List.length_take]; rfl)) ?_
 with_reducible refine (zjL.calls k a0_0 a0_1 a0_2 t354 t355 t356 t357 t358 t359 _ A4.out).mono ?_
 rintro e w10 ⟨rfl, hb⟩
 refine ⟨_, rfl, ?_⟩
 have n0_ := zpS (zgM (g := gb351) (o := .cells #[.int .i64 a0_0, .int .i64 a0_1, .int .i64 a0_2] 33 (0, 0)) bk_ hb)
 have n1_ := zpS (zgM (g := gb352) (o := .cells #[.int .i64 a1_0, .int .i64 a1_1, .int .i64 a1_2] 33 (0, 0)) bk_ hb)
 have n2_ := zpS (zgM (g := gb353) (o := .cells #[.int .i64 0, .int .i64 0, .int .i64 0] 33 (0, 0)) bk_ hb)
 have n3_ := (ns_ hb)
 clear BK351
 clear BK352
 clear BK353
 clear HB
 have BK351 := n0_
 have BK352 := n1_
 have BK353 := n2_
 have HB := n3_
 clear n0_ n1_ n2_ n3_
 (try clear hb)
 (try clear hb2)
 (try clear hk)
 (try clear hi)
 refine hK.out _ _ ⟨(zzS BK351.out 0).trans rfl, (zzS BK351.out 1).trans rfl, (zzS BK351.out 2).trans rfl, (zzS BK352.out 0).trans rfl, (zzS BK352.out 1).trans rfl, (zzS BK352.out 2).trans rfl⟩ (fun hHeld => ?_)
 clear hK K
 refine zaN (a' := ?_) ?_ ?_
 rotate_left
 ·show Act.put _ (some 8) _ = _
  simp only [Act.put, List.setIfInBounds_toArray, List.set_cons_zero, List.set_cons_succ, zcM, ziK]
  rfl
 refine zdC (i := 4) (N := none) (bl_ 5 31) rfl rfl (by kernel_rfl) (by decide) (fun K hK => ?_)
 have hs11 : w10.cell? ⟨gb353, 0, none⟩ = some (.int .i64 0) := (zzS BK353.out 0).trans rfl
 have hfs11 := zjF BK353.out 0
 have hns11_0 := NB351_353.out
 have hns11_1 := NB352_353.out
 have hms11_0 := NB353_351.out
 have hms11_1 := NB353_352.out
 have hs12 : w10.cell? ⟨gb353, 1, none⟩ = some (.int .i64 0) := (zzS BK353.out 1).trans rfl
 have hfs12 := zjF BK353.out 1
 have hns12_0 := NB351_353.out
 have hns12_1 := NB352_353.out
 have hms12_0 := NB353_351.out
 have hms12_1 := NB353_352.out
 have hs13 : w10.cell? ⟨gb353, 2, none⟩ = some (.int .i64 0) := (zzS BK353.out 2).trans rfl
 have hfs13 := zjF BK353.out 2
 have hns13_0 := NB351_353.out
 have hns13_1 := NB352_353.out
 have hms13_0 := NB353_351.out
 have hms13_1 := NB353_352.out
 refine skip_ (w1 := ?_) (by rfl) rfl ?_ ?_
 rotate_left
 ·go_simp
  rfl
 refine hK.out _ _ ⟨((zgQ (p := ⟨gb353, _, none⟩) NB351_353.out _).trans (((zgQ (p := ⟨gb353, _, none⟩) NB351_353.out _).trans (((zgQ (p := ⟨gb353, _, none⟩) NB351_353.out _).trans (hHeld.1)))))), ((zgQ (p := ⟨gb353, _, none⟩) NB351_353.out _).trans (((zgQ (p := ⟨gb353, _, none⟩) NB351_353.out _).trans (((zgQ (p := ⟨gb353, _, none⟩) NB351_353.out _).trans (hHeld.2.1)))))), ((zgQ (p := ⟨gb353, _, none⟩) NB351_353.out _).trans (((zgQ (p := ⟨gb353, _, none⟩) NB351_353.out _).trans (((zgQ (p := ⟨gb353, _, none⟩) NB351_353.out _).trans (hHeld.2.2.1)))))), ((zgQ (p := ⟨gb353, _, none⟩) NB352_353.out _).trans (((zgQ (p := ⟨gb353, _, none⟩) NB352_353.out _).trans (((zgQ (p := ⟨gb353, _, none⟩) NB352_353.out _).trans (hHeld.2.2.2.1)))))), ((zgQ (p := ⟨gb353, _, none⟩) NB352_353.out _).trans (((zgQ (p := ⟨gb353, _, none⟩) NB352_353.out _).trans (((zgQ (p := ⟨gb353, _, none⟩) NB352_353.out _).trans (hHeld.2.2.2.2.1)))))), ((zgQ (p := ⟨gb353, _, none⟩) NB352_353.out _).trans (((zgQ (p := ⟨gb353, _, none⟩) NB352_353.out _).trans (((zgQ (p := ⟨gb353, _, none⟩) NB352_353.out _).trans (hHeld.2.2.2.2.2))))))⟩ (fun hHeld => ?_)
 clear hK K
 refine znK (by kernel_rfl) ?_
 try go_wp2
 refine bodyPost_ret (results_cell_row rfl _ _ gb353 33 #[.int .i64 t357, .int .i64 t358, .int .i64 t359] (0, 0) _ rfl (by (with_reducible repeat (first | apply zuW | apply ztN | apply zqY)); refine zlL (cs := #[.int .i64 t357, .int .i64 t358, .int .i64 0]) ?_ 2 _ rfl; (with_reducible repeat (first | apply zuW | apply ztN | apply zqY)); refine zlL (cs := #[.int .i64 t357, .int .i64 0, .int .i64 0]) ?_ 1 _ rfl; (with_reducible repeat (first | apply zuW | apply ztN | apply zqY)); refine zlL (cs := #[.int .i64 0, .int .i64 0, .int .i64 0]) ?_ 0 _ rfl; (with_reducible repeat (first | apply zuW | apply ztN | apply zqY)); exact BK353.out) Tryd.underlying33 rfl (by kernel_rfl)) rfl ?_
 exact ⟨by first | rfl | (simp [ziS, znJ] <;> rfl) | (simp [*, ziS, znJ] <;> rfl), bb_⟩

def ziA.f (k : Nat) (a0_0 : Int) (a0_1 : Int) (a0_2 : Int) (a1_0 : Int) (a1_1 : Int) (a1_2 : Int) : Option (Int) := (zpR.f k a0_0 a0_1 a0_2 a1_0 a1_1 a1_2).bind fun bt362 => ((zyE.f k bt362.1 bt362.2.1 bt362.2.2).bind fun t365 => (some t365))
theorem ziA.mono : ∀ a0 a1 a2 a3 a4 a5 k, LeO (ziA.f k a0 a1 a2 a3 a4 a5) (ziA.f (k + 1) a0 a1 a2 a3 a4 a5) := by
 intro a0 a1 a2 a3 a4 a5 k
 unfold ziA.f
 repeat' first
   | (with_reducible exact zpR.mono _ _ _ _ _ _ _)
   | (with_reducible exact zyE.mono _ _ _ _)
   | (with_reducible exact LeO.refl _)
   | (with_reducible exact LeO.none _)
   | (with_reducible refine LeO.ite ?_ ?_)
   | (with_reducible refine LeO.bind ?_ (fun _ => ?_))
   | exact zpR.mono _ _ _ _ _ _ _
   | exact zyE.mono _ _ _ _
   | exact LeO.none _
   | refine LeO.ite ?_ ?_
   | refine LeO.bind ?_ (fun _ => ?_)
theorem ziA.calls (k : Nat) (a0_0 : Int) (a0_1 : Int) (a0_2 : Int) (a1_0 : Int) (a1_1 : Int) (a1_2 : Int) (r : Int) (w : World) (h : ziA.f k a0_0 a0_1 a0_2 a1_0 a1_1 a1_2 = some r) :
  Calls Tryd.prog 53 #[.agg #[.int .i64 a0_0, .int .i64 a0_1, .int .i64 a0_2], .agg #[.int .i64 a1_0, .int .i64 a1_1, .int .i64 a1_2]] w fun e w' => e = .returned (.int .i64 r) ∧ Below w.heap.size w w' := by
 have hu33 := Tryd.underlying33
 have HB := zpS (Below.refl w.heap.size w)
 have H : ((zpR.f k a0_0 a0_1 a0_2 a1_0 a1_1 a1_2).bind fun bt362 => ((zyE.f k bt362.1 bt362.2.1 bt362.2.2).bind fun t365 => (some t365))) = some r := h
 clear h
 replace H := Option.bind_eq_some_iff.mp H
 obtain ⟨⟨t362, t363, t364⟩, A30, H⟩ := H
 replace H : ((zyE.f k t362 t363 t364).bind fun t365 => (some t365)) = some r := H
 have A3 := zpS A30
 clear A30
 replace H := Option.bind_eq_some_iff.mp H
 obtain ⟨t365, A40, H⟩ := H
 replace H : (some t365) = some r := H
 have A4 := zpS A40
 clear A40
 obtain rfl := Option.some.inj H
 go_enter Tryd.func53, Tryd.ntmps53
 go_wp2_with (first | ((with_reducible refine zpZ (N := 2) rfl ?_); refine bx_ 2 #[.int .i64 a0_0, .int .i64 a0_1, .int .i64 a0_2] 33 ?_; intro gb360 hg w5 hbox hb; have n0_ := (ns_ hb); have n1_ := zpS (hbox); have n2_ := (ng_ hg); have n3_ := n2_; clear HB; have HB := n0_; have BK360 := n1_; have GW360 := n2_; have GE360 := n3_; clear n0_ n1_ n2_ n3_; clear hb hbox hg) | ((with_reducible refine zpZ (N := 3) rfl ?_); refine bx_ 3 #[.int .i64 a1_0, .int .i64 a1_1, .int .i64 a1_2] 33 ?_; intro gb361 hg w6 hbox hb; have n0_ := zpS (zgM (g := gb360) (o := .cells #[.int .i64 a0_0, .int .i64 a0_1, .int .i64 a0_2] 33 (0, 0)) bk_ hb); have n1_ := (ns_ hb); have n2_ := zpS (hbox); have n3_ := (ng_ hg); have n4_ := n3_; have n5_ := zpS ((by rw [hg]; exact Nat.ne_of_lt (zmN (g := gb360) (o := .cells #[.int .i64 a0_0, .int .i64 a0_1, .int .i64 a0_2] 33 (0, 0)) bk_) : gb360 ≠ gb361)); have n6_ := zpS ((by rw [hg]; exact Nat.ne_of_gt (zmN (g := gb360) (o := .cells #[.int .i64 a0_0, .int .i64 a0_1, .int .i64 a0_2] 33 (0, 0)) bk_) : gb361 ≠ gb360)); clear BK360; clear HB; have BK360 := n0_; have HB := n1_; have BK361 := n2_; have GW361 := n3_; have GE361 := n4_; have NB360_361 := n5_; have NB361_360 := n6_; clear n0_ n1_ n2_ n3_ n4_ n5_ n6_; clear hb hbox hg; have hnb7 := NB360_361.out; have hnc7 := NB361_360.out; obtain ⟨hcz8_0, hcz8_1, hcz8_2⟩ := zdT BK360.out; obtain ⟨hfz8_0, hfz8_1, hfz8_2⟩ := zqD BK360.out; obtain ⟨hcz9_0, hcz9_1, hcz9_2⟩ := zdT BK361.out; obtain ⟨hfz9_0, hfz9_1, hfz9_2⟩ := zqD BK361.out) | ((with_reducible refine zgK (f := 64) rfl ?_); refine zqQ (some 7) rfl rfl Tryd.func64 (by kernel_rfl) rfl #[.agg #[.int .i64 a0_0, .int .i64 a0_1, .int .i64 a0_2], .agg #[.int .i64 a1_0, .int .i64 a1_1, .int .i64 a1_2]] rfl (by (try simp only [List.map_toArray, List.map_cons, List.map_nil]); first | done | rfl | (simp only [List.length_drop, List.length_take]; rfl)) ?_; (with_reducible refine (zpR.calls k a0_0 a0_1 a0_2 a1_0 a1_1 a1_2 t362 t363 t364 _ A3.out).mono ?_); rintro e w10 ⟨rfl, hb⟩; refine ⟨_, rfl, ?_⟩; have n0_ := zpS (zgM (g := gb360) (o := .cells #[.int .i64 a0_0, .int .i64 a0_1, .int .i64 a0_2] 33 (0, 0)) bk_ hb); have n1_ := zpS (zgM (g := gb361) (o := .cells #[.int .i64 a1_0, .int .i64 a1_1, .int .i64 a1_2] 33 (0, 0)) bk_ hb); have n2_ := (ns_ hb); clear BK360; clear BK361; clear HB; have BK360 := n0_; have BK361 := n1_; have HB := n2_; clear n0_ n1_ n2_; (try clear hb); (try clear hb2)) | ((with_reducible refine zgK (f := 58) rfl ?_); refine zqQ (some 8) rfl rfl Tryd.func58 (by kernel_rfl) rfl #[.agg #[.int .i64 t362, .int .i64 t363, .int .i64 t364]] rfl (by (try simp only [List.map_toArray, List.map_cons, List.map_nil]); first | done | rfl | (simp only [List.length_drop, List.length_take]; rfl)) ?_; (with_reducible refine (zyE.calls k t362 t363 t364 t365 _ A4.out).mono ?_); rintro e w11 ⟨rfl, hb⟩; refine ⟨_, rfl, ?_⟩; have n0_ := zpS (zgM (g := gb360) (o := .cells #[.int .i64 a0_0, .int .i64 a0_1, .int .i64 a0_2] 33 (0, 0)) bk_ hb); have n1_ := zpS (zgM (g := gb361) (o := .cells #[.int .i64 a1_0, .int .i64 a1_1, .int .i64 a1_2] 33 (0, 0)) bk_ hb); have n2_ := (ns_ hb); clear BK360; clear BK361; clear HB; have BK360 := n0_; have BK361 := n1_; have HB := n2_; clear n0_ n1_ n2_; (try clear hb); (try clear hb2)))
 go_ret
 exact ⟨by first | rfl | (simp [ziS, znJ] <;> rfl) | (simp [*, ziS, znJ] <;> rfl), bb_⟩

end Go.Proofs.YtbnfbflfhpniaaaDoor.PFnExactNormalPolygon
