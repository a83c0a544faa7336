-- Printed for this claim by this session's program pp.py, which drives the kit's print with additions. Not trusted: Lean checks it.
import Derived.Test.YtmajpmofeddknaaDoorV1PFnExactValidPolygonx0
import Derived.Test.YtmajpmofeddknaaDoorV1PFnExactValidPolygonx2
import Derived.Test.YtmajpmofeddknaaDoorV1PFnExactValidPolygonx3
namespace Go.Proofs.YtmajpmofeddknaaDoor.PFnExactValidPolygon
open Go.RowKit Go.Proofs.YtmajpmofeddknaaDoorW.PrintWords Go.Proofs.YtmajpmofeddknaaDoorW.PrintLast Go.Proofs.YtmajpmofeddknaaDoorW.PrintMore
attribute [local go_sem] zdZ zdY zeP zeQ zdG zdH zdX zeA   -- for this text's walks alone
set_option linter.unusedVariables false
set_option linter.unusedSimpArgs false

mutual
def zbP.j0 : Nat → Bool → Int → Int → Int → Option (Int × Int × Int)
 | 0, _, _, _, _ => none
 | k + 1, x10, x138000, x138001, x138002 => if x10 = true then (some (0, 0, 0)) else (zbP.l0 k x138000 x138001 x138002)
def zbP.l0 : Nat → Int → Int → Int → Option (Int × Int × Int)
 | 0, _, _, _ => none
 | k + 1, x138000, x138001, x138002 => if x138002 > 0 then (if (Int.tmod x138000 2) = 0 then (if (Int.tmod x138001 2) = 0 then (zbP.l0 k (wrap64 (Int.tdiv x138000 2)) (wrap64 (Int.tdiv x138001 2)) (wrap64 (x138002 - 1))) else (some (x138000, x138001, x138002))) else (some (x138000, x138001, x138002))) else (some (x138000, x138001, x138002))
end
def zbP.f (k : Nat) (a0_0 : Int) (a0_1 : Int) (a0_2 : Int) : Option (Int × Int × Int) := if a0_0 = 0 then (zbP.j0 k (a0_1 == 0) a0_0 a0_1 a0_2) else (zbP.j0 k false a0_0 a0_1 a0_2)
theorem zbP.mono_l : ∀ k, (∀ y0 y1 y2 y3, LeO (zbP.j0 k y0 y1 y2 y3) (zbP.j0 (k + 1) y0 y1 y2 y3)) ∧ (∀ y0 y1 y2, LeO (zbP.l0 k y0 y1 y2) (zbP.l0 (k + 1) y0 y1 y2))
 | 0 => ⟨fun _ _ _ _ r h => by simp [zbP.j0] at h, fun _ _ _ r h => by simp [zbP.l0] at h⟩
 | k + 1 => by
  obtain ⟨ih0, ih1⟩ := zbP.mono_l k
  refine ⟨?_, ?_⟩
  ·intro y0 y1 y2 y3
   unfold zbP.j0
   repeat' first
   | (with_reducible exact ih0 _ _ _ _)
   | (with_reducible exact ih1 _ _ _)
   | (with_reducible exact LeO.refl _)
   | (with_reducible exact LeO.none _)
   | (with_reducible refine LeO.ite ?_ ?_)
   | (with_reducible refine LeO.bind ?_ (fun _ => ?_))
   | exact ih0 _ _ _ _
   | exact ih1 _ _ _
   | exact LeO.none _
   | refine LeO.ite ?_ ?_
   | refine LeO.bind ?_ (fun _ => ?_)
  ·intro y0 y1 y2
   unfold zbP.l0
   repeat' first
   | (with_reducible exact ih0 _ _ _ _)
   | (with_reducible exact ih1 _ _ _)
   | (with_reducible exact LeO.refl _)
   | (with_reducible exact LeO.none _)
   | (with_reducible refine LeO.ite ?_ ?_)
   | (with_reducible refine LeO.bind ?_ (fun _ => ?_))
   | exact ih0 _ _ _ _
   | exact ih1 _ _ _
   | exact LeO.none _
   | refine LeO.ite ?_ ?_
   | refine LeO.bind ?_ (fun _ => ?_)
theorem zbP.mono : ∀ a0 a1 a2 k, LeO (zbP.f k a0 a1 a2) (zbP.f (k + 1) a0 a1 a2) := by
 intro a0 a1 a2 k
 obtain ⟨ih0, ih1⟩ := zbP.mono_l k
 unfold zbP.f
 repeat' first
   | (with_reducible exact ih0 _ _ _ _)
   | (with_reducible exact ih1 _ _ _)
   | (with_reducible exact LeO.refl _)
   | (with_reducible exact LeO.none _)
   | (with_reducible refine LeO.ite ?_ ?_)
   | (with_reducible refine LeO.bind ?_ (fun _ => ?_))
   | exact ih0 _ _ _ _
   | exact ih1 _ _ _
   | exact LeO.none _
   | refine LeO.ite ?_ ?_
   | refine LeO.bind ?_ (fun _ => ?_)
set_option maxHeartbeats 8000000 in
set_option maxRecDepth 100000 in
theorem zbP.calls (k : Nat) (a0_0 : Int) (a0_1 : Int) (a0_2 : Int) (r1 : Int) (r2 : Int) (r3 : Int) (w : World) (h : zbP.f k a0_0 a0_1 a0_2 = some (r1, r2, r3)) :
  Calls Tryd.prog 174 #[.agg #[.int .i64 a0_0, .int .i64 a0_1, .int .i64 a0_2]] w fun e w' => e = .returned (.agg #[.int .i64 r1, .int .i64 r2, .int .i64 r3]) ∧ Below w.heap.size w w' := by
 have hu92 := Tryd.underlying92
 have HB := zaO (Below.refl w.heap.size w)
 have H : (if a0_0 = 0 then (zbP.j0 k (a0_1 == 0) a0_0 a0_1 a0_2) else (zbP.j0 k false a0_0 a0_1 a0_2)) = some (r1, r2, r3) := h
 clear h
 have HC2 := zaO H
 clear H
 go_enter Tryd.func174, Tryd.ntmps174
 go_upto_region 1 with (first | ((with_reducible refine zbC (N := 1) rfl ?_); refine zaW ?hg (N := 1) ?hd (cs := #[.int .i64 a0_0, .int .i64 a0_1, .int .i64 a0_2]) (t := 92) ?hr ?_; (case hd => rfl); (case hg => rfl); (case hr => first | (go_simp; done) | (go_simp; rfl)); intro gb137 hg w3 hbox hb; have n0_ := zaO (zaK (by repeat (first | (with_reducible first | exact HB.out | apply zaE | apply zaA | apply zaD) | exact HB.out)) hb); have n1_ := zaO (hbox); have n2_ := zaO ((by rw [hg]; exact (zaP (by repeat (first | (with_reducible first | exact HB.out | apply zaE | apply zaA | apply zaD) | exact HB.out))) : w.heap.size ≤ gb137)); have n3_ := n2_; clear HB; have HB := n0_; have BK137 := n1_; have GW137 := n2_; have GE137 := n3_; clear n0_ n1_ n2_ n3_; clear hb hbox hg) | ((with_reducible refine zbC (N := 2) rfl ?_); refine zaW ?hg (N := 2) ?hd (cs := #[.int .i64 0, .int .i64 0, .int .i64 0]) (t := 92) ?hr ?_; (case hd => rfl); (case hg => rfl); (case hr => first | (go_simp; done) | (go_simp; rfl)); intro gb138 hg w4 hbox hb; have n0_ := zaO (zaL (g := gb137) (o := .cells #[.int .i64 a0_0, .int .i64 a0_1, .int .i64 a0_2] 92 (0, 0)) (by (with_reducible repeat (first | apply zaC | apply zaF | apply zaB)); exact BK137.out) hb); have n1_ := zaO (zaK (by repeat (first | (with_reducible first | exact HB.out | apply zaE | apply zaA | apply zaD | refine zaH ?_ GE137.out) | exact HB.out)) hb); have n2_ := zaO (hbox); have n3_ := zaO ((by rw [hg]; exact (zaP (by repeat (first | (with_reducible first | exact HB.out | apply zaE | apply zaA | apply zaD | refine zaH ?_ GE137.out) | exact HB.out))) : w.heap.size ≤ gb138)); have n4_ := n3_; have n5_ := zaO ((by rw [hg]; exact Nat.ne_of_lt (zbN (g := gb137) (o := .cells #[.int .i64 a0_0, .int .i64 a0_1, .int .i64 a0_2] 92 (0, 0)) (by (with_reducible repeat (first | apply zaC | apply zaF | apply zaB)); exact BK137.out)) : gb137 ≠ gb138)); have n6_ := zaO ((by rw [hg]; exact Nat.ne_of_gt (zbN (g := gb137) (o := .cells #[.int .i64 a0_0, .int .i64 a0_1, .int .i64 a0_2] 92 (0, 0)) (by (with_reducible repeat (first | apply zaC | apply zaF | apply zaB)); exact BK137.out)) : gb138 ≠ gb137)); clear BK137; clear HB; have BK137 := n0_; have HB := n1_; have BK138 := n2_; have GW138 := n3_; have GE138 := n4_; have NB137_138 := n5_; have NB138_137 := n6_; clear n0_ n1_ n2_ n3_ n4_ n5_ n6_; clear hb hbox hg))
 (try simp only [Act.put, set_a_, set_b_, set_c_])
 go_cut [10] (fun v10 wc => ∃ (kq : Nat) (x10_1 : Bool), v10 = .bool x10_1 ∧ Aside0 (zbP.j0 kq x10_1 a0_0 a0_1 a0_2 = some (r1, r2, r3)) ∧ Aside0 (kq ≤ k) ∧ Aside0 (wc.heap[gb137]? = some (.cells #[.int .i64 a0_0, .int .i64 a0_1, .int .i64 a0_2] 92 (0, 0))) ∧ Aside0 (wc.heap[gb138]? = some (.cells #[.int .i64 0, .int .i64 0, .int .i64 0] 92 (0, 0))) ∧ Aside0 (Below w.heap.size w wc))
 case first =>
  have H := HC2.out
  clear HC2
  by_cases c5 : a0_0 = 0
  ·rw [if_pos c5] at H
   have c5b0 : (a0_0 == 0) = true := beq_iff_eq.mpr c5
   have c5b1 : (a0_0 != 0) = false := bne_eq_false_iff_eq.mpr c5
   clear c5
   (first | rw [c5b0] | (simp only [zaT, zaU]; rw [c5b0]) | skip)
   have H' := zaO H
   clear H
   have hnb6 := NB137_138.out
   have hnc6 := NB138_137.out
   obtain ⟨hcz7_0, hcz7_1, hcz7_2⟩ := zeE BK137.out
   obtain ⟨hfz7_0, hfz7_1, hfz7_2⟩ := zeD BK137.out
   go_wp2
   go_meet
   case rel => exact ⟨_, ((a0_1 == 0)), (by first | rfl | (simp; done) | (simp [*]; done)), H', ⟨by first | omega | exact Nat.le_refl _⟩, ⟨by (with_reducible repeat (first | apply zaC | apply zaF | apply zaB)); exact BK137.out⟩, ⟨by (with_reducible repeat (first | apply zaC | apply zaF | apply zaB)); exact BK138.out⟩, ⟨by repeat (first | (with_reducible first | exact HB.out | apply zaE | apply zaA | apply zaD | refine zaH ?_ GE137.out | refine zaH ?_ GE138.out) | exact HB.out)⟩⟩
  ·rw [if_neg c5] at H
   have c5b0 : (a0_0 == 0) = false := beq_eq_false_iff_ne.mpr c5
   have c5b1 : (a0_0 != 0) = true := bne_iff_ne.mpr c5
   (first | rw [c5b0] | (simp only [zaT, zaU]; rw [c5b0]) | skip)
   have H' := zaO H
   clear H
   have hnb8 := NB137_138.out
   have hnc8 := NB138_137.out
   obtain ⟨hcz9_0, hcz9_1, hcz9_2⟩ := zeE BK137.out
   obtain ⟨hfz9_0, hfz9_1, hfz9_2⟩ := zeD BK137.out
   go_wp2
   go_meet
   case rel => exact ⟨_, (false), (by first | rfl | (simp; done) | (simp [*]; done)), H', ⟨by first | omega | exact Nat.le_refl _⟩, ⟨by (with_reducible repeat (first | apply zaC | apply zaF | apply zaB)); exact BK137.out⟩, ⟨by (with_reducible repeat (first | apply zaC | apply zaF | apply zaB)); exact BK138.out⟩, ⟨by repeat (first | (with_reducible first | exact HB.out | apply zaE | apply zaA | apply zaD | refine zaH ?_ GE137.out | refine zaH ?_ GE138.out) | exact HB.out)⟩⟩
 case rest =>
  clear HC2
  try clear c1
  try clear p2
  try clear c5
  try clear c5b0
  try clear c5b1
  try clear c6
  try clear c8
  try clear hcz7_0
  try clear hcz7_1
  try clear hcz7_2
  try clear hcz9_0
  try clear hcz9_1
  try clear hcz9_2
  try clear hfz7_0
  try clear hfz7_1
  try clear hfz7_2
  try clear hfz9_0
  try clear hfz9_1
  try clear hfz9_2
  obtain ⟨kq, x10_1, rfl, HA, HJ1, BK137, BK138, HB⟩ := hcut
  cases kq with
  | zero => exact absurd HA.out (by simp [zbP.j0])
  | succ kj1 =>
   have H := HA.out
   clear HA
   simp only [zbP.j0] at H
   by_cases c10 : x10_1 = true
   ·subst c10
    have H1 : (some (0, 0, 0)) = some (r1, r2, r3) := by rw [if_pos rfl] at H; exact H
    clear H
    have H := H1
    clear H1
    simp only [Option.some.injEq, Prod.mk.injEq] at H
    obtain ⟨rfl, rfl, rfl⟩ := H
    have hnb11 := NB138_137.out
    have hnc11 := NB137_138.out
    obtain ⟨hcz12_0, hcz12_1, hcz12_2⟩ := zeE BK138.out
    obtain ⟨hfz12_0, hfz12_1, hfz12_2⟩ := zeD BK138.out
    go_wp2
    refine bodyPost_ret (results_cell_row rfl _ _ gb138 92 #[.int .i64 0, .int .i64 0, .int .i64 0] (0, 0) _ rfl (by (with_reducible repeat (first | apply zaC | apply zaF | apply zaB)); refine zaR (cs := #[.int .i64 0, .int .i64 0, .int .i64 0]) ?_ 2 _ rfl; (with_reducible repeat (first | apply zaC | apply zaF | apply zaB)); refine zaR (cs := #[.int .i64 0, .int .i64 0, .int .i64 0]) ?_ 1 _ rfl; (with_reducible repeat (first | apply zaC | apply zaF | apply zaB)); refine zaR (cs := #[.int .i64 0, .int .i64 0, .int .i64 0]) ?_ 0 _ rfl; (with_reducible repeat (first | apply zaC | apply zaF | apply zaB)); exact BK138.out) Tryd.underlying92 rfl (by kernel_rfl)) rfl ?_
    exact ⟨by first | rfl | (simp [zaN, zaM] <;> rfl) | (simp [*, zaN, zaM] <;> rfl), by repeat (first | (with_reducible first | exact HB.out | apply zaE | apply zaA | apply zaD | refine zaH ?_ GE137.out | refine zaH ?_ GE138.out) | exact HB.out)⟩
   ·replace c10 := Bool.eq_false_iff.mpr c10
    subst c10
    have H1 : (zbP.l0 kj1 a0_0 a0_1 a0_2) = some (r1, r2, r3) := by rw [if_neg (show ¬ (false = true) by decide)] at H; exact H
    clear H
    have H := H1
    clear H1
    have H' := zaO H
    clear H
    go_wp2
    (try go_simp)
    go_loopg [] kj1 (fun kq w' => ∃ (x138000_2 : Int) (x138001_2 : Int) (x138002_2 : Int), Aside0 (zbP.l0 kq x138000_2 x138001_2 x138002_2 = some (r1, r2, r3)) ∧ Aside0 (kq ≤ kj1) ∧ Aside0 (w'.heap[gb137]? = some (.cells #[.int .i64 x138000_2, .int .i64 x138001_2, .int .i64 x138002_2] 92 (0, 0))) ∧ Aside0 (w'.heap[gb138]? = some (.cells #[.int .i64 0, .int .i64 0, .int .i64 0] 92 (0, 0))) ∧ Aside0 (Below w.heap.size w w'))
    case atStart => exact ⟨(a0_0), (a0_1), (a0_2), H', ⟨Nat.le_refl _⟩, ⟨by (with_reducible repeat (first | apply zaC | apply zaF | apply zaB)); exact BK137.out⟩, ⟨by (with_reducible repeat (first | apply zaC | apply zaF | apply zaB)); exact BK138.out⟩, ⟨by repeat (first | (with_reducible first | exact HB.out | apply zaE | apply zaA | apply zaD | refine zaH ?_ GE137.out | refine zaH ?_ GE138.out) | exact HB.out)⟩⟩
    case round =>
     clear H'
     try clear c1
     try clear p2
     try clear c5
     try clear c5b0
     try clear c5b1
     try clear c6
     try clear c8
     try clear c10
     try clear c11
     try clear hcz12_0
     try clear hcz12_1
     try clear hcz12_2
     try clear hcz7_0
     try clear hcz7_1
     try clear hcz7_2
     try clear hcz9_0
     try clear hcz9_1
     try clear hcz9_2
     try clear hfz12_0
     try clear hfz12_1
     try clear hfz12_2
     try clear hfz7_0
     try clear hfz7_1
     try clear hfz7_2
     try clear hfz9_0
     try clear hfz9_1
     try clear hfz9_2
     try clear p2
     obtain ⟨x138000_2, x138001_2, x138002_2, HA, HK2, BK137, BK138, HB⟩ := hrel
     cases gk with
     | zero => exact absurd HA.out (by simp [zbP.l0])
     | succ k2 =>
      have H := HA.out
      clear HA
      simp only [zbP.l0] at H
      by_cases c13 : x138002_2 > 0
      ·rw [if_pos c13] at H
       have c13b0 : decide (0 < x138002_2) = true := decide_eq_true c13
       clear c13
       by_cases c14 : (Int.tmod x138000_2 2) = 0
       ·rw [if_pos c14] at H
        have c14b0 : ((Int.tmod x138000_2 2) == 0) = true := beq_iff_eq.mpr c14
        have c14b1 : ((Int.tmod x138000_2 2) != 0) = false := bne_eq_false_iff_eq.mpr c14
        clear c14
        by_cases c15 : (Int.tmod x138001_2 2) = 0
        ·rw [if_pos c15] at H
         have c15b0 : ((Int.tmod x138001_2 2) == 0) = true := beq_iff_eq.mpr c15
         have c15b1 : ((Int.tmod x138001_2 2) != 0) = false := bne_eq_false_iff_eq.mpr c15
         clear c15
         have H' := zaO H
         clear H
         have hnb16 := NB137_138.out
         have hnc16 := NB138_137.out
         obtain ⟨hcz17_0, hcz17_1, hcz17_2⟩ := zeE BK137.out
         obtain ⟨hfz17_0, hfz17_1, hfz17_2⟩ := zeD BK137.out
         go_wp2
         go_roundg k2
         case measure => have := HJ1.out; have := HK2.out; omega
         case rel => exact ⟨(wrap64 (Int.tdiv x138000_2 2)), (wrap64 (Int.tdiv x138001_2 2)), (wrap64 (x138002_2 - 1)), H', ⟨by have := HJ1.out; have := HK2.out; omega⟩, ⟨by (with_reducible repeat (first | apply zaC | apply zaF | apply zaB)); refine zaR (cs := #[.int .i64 (wrap64 (Int.tdiv x138000_2 2)), .int .i64 (wrap64 (Int.tdiv x138001_2 2)), .int .i64 x138002_2]) ?_ 2 _ rfl; (with_reducible repeat (first | apply zaC | apply zaF | apply zaB)); refine zaR (cs := #[.int .i64 (wrap64 (Int.tdiv x138000_2 2)), .int .i64 x138001_2, .int .i64 x138002_2]) ?_ 1 _ rfl; (with_reducible repeat (first | apply zaC | apply zaF | apply zaB)); refine zaR (cs := #[.int .i64 x138000_2, .int .i64 x138001_2, .int .i64 x138002_2]) ?_ 0 _ rfl; (with_reducible repeat (first | apply zaC | apply zaF | apply zaB)); exact BK137.out⟩, ⟨by (with_reducible repeat (first | apply zaC | apply zaF | apply zaB)); refine zbK ?_ NB138_137.out _; (with_reducible repeat (first | apply zaC | apply zaF | apply zaB)); refine zbK ?_ NB138_137.out _; (with_reducible repeat (first | apply zaC | apply zaF | apply zaB)); refine zbK ?_ NB138_137.out _; (with_reducible repeat (first | apply zaC | apply zaF | apply zaB)); exact BK138.out⟩, ⟨by repeat (first | (with_reducible first | exact HB.out | apply zaE | apply zaA | apply zaD | refine zaH ?_ GE137.out | refine zaH ?_ GE138.out) | exact HB.out)⟩⟩
        ·rw [if_neg c15] at H
         have c15b0 : ((Int.tmod x138001_2 2) == 0) = false := beq_eq_false_iff_ne.mpr c15
         have c15b1 : ((Int.tmod x138001_2 2) != 0) = true := bne_iff_ne.mpr c15
         simp only [Option.some.injEq, Prod.mk.injEq] at H
         obtain ⟨rfl, rfl, rfl⟩ := H
         have hnb18 := NB137_138.out
         have hnc18 := NB138_137.out
         obtain ⟨hcz19_0, hcz19_1, hcz19_2⟩ := zeE BK137.out
         obtain ⟨hfz19_0, hfz19_1, hfz19_2⟩ := zeD BK137.out
         obtain ⟨hcz20_0, hcz20_1, hcz20_2⟩ := zeE BK138.out
         obtain ⟨hfz20_0, hfz20_1, hfz20_2⟩ := zeD BK138.out
         go_wp2
         refine bodyPost_ret (results_cell_row rfl _ _ gb138 92 #[.int .i64 x138000_2, .int .i64 x138001_2, .int .i64 x138002_2] (0, 0) _ rfl (by (with_reducible repeat (first | apply zaC | apply zaF | apply zaB)); refine zaR (cs := #[.int .i64 x138000_2, .int .i64 x138001_2, .int .i64 0]) ?_ 2 _ rfl; (with_reducible repeat (first | apply zaC | apply zaF | apply zaB)); refine zaR (cs := #[.int .i64 x138000_2, .int .i64 0, .int .i64 0]) ?_ 1 _ rfl; (with_reducible repeat (first | apply zaC | apply zaF | apply zaB)); refine zaR (cs := #[.int .i64 0, .int .i64 0, .int .i64 0]) ?_ 0 _ rfl; (with_reducible repeat (first | apply zaC | apply zaF | apply zaB)); exact BK138.out) Tryd.underlying92 rfl (by kernel_rfl)) rfl ?_
         exact ⟨by first | rfl | (simp [zaN, zaM] <;> rfl) | (simp [*, zaN, zaM] <;> rfl), by repeat (first | (with_reducible first | exact HB.out | apply zaE | apply zaA | apply zaD | refine zaH ?_ GE137.out | refine zaH ?_ GE138.out) | exact HB.out)⟩
       ·rw [if_neg c14] at H
        have c14b0 : ((Int.tmod x138000_2 2) == 0) = false := beq_eq_false_iff_ne.mpr c14
        have c14b1 : ((Int.tmod x138000_2 2) != 0) = true := bne_iff_ne.mpr c14
        simp only [Option.some.injEq, Prod.mk.injEq] at H
        obtain ⟨rfl, rfl, rfl⟩ := H
        have hnb21 := NB137_138.out
        have hnc21 := NB138_137.out
        obtain ⟨hcz22_0, hcz22_1, hcz22_2⟩ := zeE BK137.out
        obtain ⟨hfz22_0, hfz22_1, hfz22_2⟩ := zeD BK137.out
        obtain ⟨hcz23_0, hcz23_1, hcz23_2⟩ := zeE BK138.out
        obtain ⟨hfz23_0, hfz23_1, hfz23_2⟩ := zeD BK138.out
        go_wp2
        refine bodyPost_ret (results_cell_row rfl _ _ gb138 92 #[.int .i64 x138000_2, .int .i64 x138001_2, .int .i64 x138002_2] (0, 0) _ rfl (by (with_reducible repeat (first | apply zaC | apply zaF | apply zaB)); refine zaR (cs := #[.int .i64 x138000_2, .int .i64 x138001_2, .int .i64 0]) ?_ 2 _ rfl; (with_reducible repeat (first | apply zaC | apply zaF | apply zaB)); refine zaR (cs := #[.int .i64 x138000_2, .int .i64 0, .int .i64 0]) ?_ 1 _ rfl; (with_reducible repeat (first | apply zaC | apply zaF | apply zaB)); refine zaR (cs := #[.int .i64 0, .int .i64 0, .int .i64 0]) ?_ 0 _ rfl; (with_reducible repeat (first | apply zaC | apply zaF | apply zaB)); exact BK138.out) Tryd.underlying92 rfl (by kernel_rfl)) rfl ?_
        exact ⟨by first | rfl | (simp [zaN, zaM] <;> rfl) | (simp [*, zaN, zaM] <;> rfl), by repeat (first | (with_reducible first | exact HB.out | apply zaE | apply zaA | apply zaD | refine zaH ?_ GE137.out | refine zaH ?_ GE138.out) | exact HB.out)⟩
      ·rw [if_neg c13] at H
       have c13b0 : decide (0 < x138002_2) = false := decide_eq_false c13
       clear c13
       simp only [Option.some.injEq, Prod.mk.injEq] at H
       obtain ⟨rfl, rfl, rfl⟩ := H
       have hnb24 := NB137_138.out
       have hnc24 := NB138_137.out
       obtain ⟨hcz25_0, hcz25_1, hcz25_2⟩ := zeE BK137.out
       obtain ⟨hfz25_0, hfz25_1, hfz25_2⟩ := zeD BK137.out
       obtain ⟨hcz26_0, hcz26_1, hcz26_2⟩ := zeE BK138.out
       obtain ⟨hfz26_0, hfz26_1, hfz26_2⟩ := zeD BK138.out
       go_wp2
       refine bodyPost_ret (results_cell_row rfl _ _ gb138 92 #[.int .i64 x138000_2, .int .i64 x138001_2, .int .i64 x138002_2] (0, 0) _ rfl (by (with_reducible repeat (first | apply zaC | apply zaF | apply zaB)); refine zaR (cs := #[.int .i64 x138000_2, .int .i64 x138001_2, .int .i64 0]) ?_ 2 _ rfl; (with_reducible repeat (first | apply zaC | apply zaF | apply zaB)); refine zaR (cs := #[.int .i64 x138000_2, .int .i64 0, .int .i64 0]) ?_ 1 _ rfl; (with_reducible repeat (first | apply zaC | apply zaF | apply zaB)); refine zaR (cs := #[.int .i64 0, .int .i64 0, .int .i64 0]) ?_ 0 _ rfl; (with_reducible repeat (first | apply zaC | apply zaF | apply zaB)); exact BK138.out) Tryd.underlying92 rfl (by kernel_rfl)) rfl ?_
       exact ⟨by first | rfl | (simp [zaN, zaM] <;> rfl) | (simp [*, zaN, zaM] <;> rfl), by repeat (first | (with_reducible first | exact HB.out | apply zaE | apply zaA | apply zaD | refine zaH ?_ GE137.out | refine zaH ?_ GE138.out) | exact HB.out)⟩

mutual
def zbO.l0 : Nat → Int → Int → Int → Int → Int → Int → Option (Int × Int × Int)
 | 0, _, _, _, _, _, _ => none
 | k + 1, x140000, x140001, x140002, x141000, x141001, x141002 => if x140002 < x141002 then (zbO.l0 k (wrap64 (x140000 * 2)) (wrap64 (x140001 * 2)) (wrap64 (x140002 + 1)) x141000 x141001 x141002) else (zbO.l1 k x140000 x140001 x140002 x141000 x141001 x141002)
def zbO.l1 : Nat → Int → Int → Int → Int → Int → Int → Option (Int × Int × Int)
 | 0, _, _, _, _, _, _ => none
 | k + 1, x140000, x140001, x140002, x141000, x141001, x141002 => if x141002 < x140002 then (zbO.l1 k x140000 x140001 x140002 (wrap64 (x141000 * 2)) (wrap64 (x141001 * 2)) (wrap64 (x141002 + 1))) else ((zbP.f k (wrap64 (x140000 + x141000)) (wrap64 (x140001 + x141001)) x140002).bind fun bt142 => (some (bt142.1, bt142.2.1, bt142.2.2)))
end
def zbO.f (k : Nat) (a0_0 : Int) (a0_1 : Int) (a0_2 : Int) (a1_0 : Int) (a1_1 : Int) (a1_2 : Int) : Option (Int × Int × Int) := zbO.l0 k a0_0 a0_1 a0_2 a1_0 a1_1 a1_2
theorem zbO.mono_l : ∀ k, (∀ y0 y1 y2 y3 y4 y5, LeO (zbO.l0 k y0 y1 y2 y3 y4 y5) (zbO.l0 (k + 1) y0 y1 y2 y3 y4 y5)) ∧ (∀ y0 y1 y2 y3 y4 y5, LeO (zbO.l1 k y0 y1 y2 y3 y4 y5) (zbO.l1 (k + 1) y0 y1 y2 y3 y4 y5))
 | 0 => ⟨fun _ _ _ _ _ _ r h => by simp [zbO.l0] at h, fun _ _ _ _ _ _ r h => by simp [zbO.l1] at h⟩
 | k + 1 => by
  obtain ⟨ih0, ih1⟩ := zbO.mono_l k
  refine ⟨?_, ?_⟩
  ·intro y0 y1 y2 y3 y4 y5
   unfold zbO.l0
   repeat' first
   | (with_reducible exact ih0 _ _ _ _ _ _)
   | (with_reducible exact ih1 _ _ _ _ _ _)
   | (with_reducible exact zbP.mono _ _ _ _)
   | (with_reducible exact LeO.refl _)
   | (with_reducible exact LeO.none _)
   | (with_reducible refine LeO.ite ?_ ?_)
   | (with_reducible refine LeO.bind ?_ (fun _ => ?_))
   | exact ih0 _ _ _ _ _ _
   | exact ih1 _ _ _ _ _ _
   | exact zbP.mono _ _ _ _
   | exact LeO.none _
   | refine LeO.ite ?_ ?_
   | refine LeO.bind ?_ (fun _ => ?_)
  ·intro y0 y1 y2 y3 y4 y5
   unfold zbO.l1
   repeat' first
   | (with_reducible exact ih0 _ _ _ _ _ _)
   | (with_reducible exact ih1 _ _ _ _ _ _)
   | (with_reducible exact zbP.mono _ _ _ _)
   | (with_reducible exact LeO.refl _)
   | (with_reducible exact LeO.none _)
   | (with_reducible refine LeO.ite ?_ ?_)
   | (with_reducible refine LeO.bind ?_ (fun _ => ?_))
   | exact ih0 _ _ _ _ _ _
   | exact ih1 _ _ _ _ _ _
   | exact zbP.mono _ _ _ _
   | exact LeO.none _
   | refine LeO.ite ?_ ?_
   | refine LeO.bind ?_ (fun _ => ?_)
theorem zbO.mono : ∀ a0 a1 a2 a3 a4 a5 k, LeO (zbO.f k a0 a1 a2 a3 a4 a5) (zbO.f (k + 1) a0 a1 a2 a3 a4 a5) := by
 intro a0 a1 a2 a3 a4 a5 k
 obtain ⟨ih0, ih1⟩ := zbO.mono_l k
 unfold zbO.f
 repeat' first
   | (with_reducible exact ih0 _ _ _ _ _ _)
   | (with_reducible exact ih1 _ _ _ _ _ _)
   | (with_reducible exact zbP.mono _ _ _ _)
   | (with_reducible exact LeO.refl _)
   | (with_reducible exact LeO.none _)
   | (with_reducible refine LeO.ite ?_ ?_)
   | (with_reducible refine LeO.bind ?_ (fun _ => ?_))
   | exact ih0 _ _ _ _ _ _
   | exact ih1 _ _ _ _ _ _
   | exact zbP.mono _ _ _ _
   | exact LeO.none _
   | refine LeO.ite ?_ ?_
   | refine LeO.bind ?_ (fun _ => ?_)
set_option maxHeartbeats 8000000 in
set_option maxRecDepth 100000 in
theorem zbO.calls (k : Nat) (a0_0 : Int) (a0_1 : Int) (a0_2 : Int) (a1_0 : Int) (a1_1 : Int) (a1_2 : Int) (r1 : Int) (r2 : Int) (r3 : Int) (w : World) (h : zbO.f k a0_0 a0_1 a0_2 a1_0 a1_1 a1_2 = some (r1, r2, r3)) :
  Calls Tryd.prog 148 #[.agg #[.int .i64 a0_0, .int .i64 a0_1, .int .i64 a0_2], .agg #[.int .i64 a1_0, .int .i64 a1_1, .int .i64 a1_2]] w fun e w' => e = .returned (.agg #[.int .i64 r1, .int .i64 r2, .int .i64 r3]) ∧ Below w.heap.size w w' := by
 have hu92 := Tryd.underlying92
 have HB := zaO (Below.refl w.heap.size w)
 have H : (zbO.l0 k a0_0 a0_1 a0_2 a1_0 a1_1 a1_2) = some (r1, r2, r3) := h
 clear h
 have H' := zaO H
 clear H
 go_enter Tryd.func148, Tryd.ntmps148
 go_wp2_with (first | ((with_reducible refine zbC (N := 2) rfl ?_); refine zaW ?hg (N := 2) ?hd (cs := #[.int .i64 a0_0, .int .i64 a0_1, .int .i64 a0_2]) (t := 92) ?hr ?_; (case hd => rfl); (case hg => rfl); (case hr => first | (go_simp; done) | (go_simp; rfl)); intro gb139 hg w3 hbox hb; have n0_ := zaO (zaK (by repeat (first | (with_reducible first | exact HB.out | apply zaE | apply zaA | apply zaD) | exact HB.out)) hb); have n1_ := zaO (hbox); have n2_ := zaO ((by rw [hg]; exact (zaP (by repeat (first | (with_reducible first | exact HB.out | apply zaE | apply zaA | apply zaD) | exact HB.out))) : w.heap.size ≤ gb139)); have n3_ := n2_; clear HB; have HB := n0_; have BK139 := n1_; have GW139 := n2_; have GE139 := n3_; clear n0_ n1_ n2_ n3_; clear hb hbox hg) | ((with_reducible refine zbC (N := 3) rfl ?_); refine zaW ?hg (N := 3) ?hd (cs := #[.int .i64 a1_0, .int .i64 a1_1, .int .i64 a1_2]) (t := 92) ?hr ?_; (case hd => rfl); (case hg => rfl); (case hr => first | (go_simp; done) | (go_simp; rfl)); intro gb140 hg w4 hbox hb; have n0_ := zaO (zaL (g := gb139) (o := .cells #[.int .i64 a0_0, .int .i64 a0_1, .int .i64 a0_2] 92 (0, 0)) (by (with_reducible repeat (first | apply zaC | apply zaF | apply zaB)); exact BK139.out) hb); have n1_ := zaO (zaK (by repeat (first | (with_reducible first | exact HB.out | apply zaE | apply zaA | apply zaD | refine zaH ?_ GE139.out) | exact HB.out)) hb); have n2_ := zaO (hbox); have n3_ := zaO ((by rw [hg]; exact (zaP (by repeat (first | (with_reducible first | exact HB.out | apply zaE | apply zaA | apply zaD | refine zaH ?_ GE139.out) | exact HB.out))) : w.heap.size ≤ gb140)); have n4_ := n3_; have n5_ := zaO ((by rw [hg]; exact Nat.ne_of_lt (zbN (g := gb139) (o := .cells #[.int .i64 a0_0, .int .i64 a0_1, .int .i64 a0_2] 92 (0, 0)) (by (with_reducible repeat (first | apply zaC | apply zaF | apply zaB)); exact BK139.out)) : gb139 ≠ gb140)); have n6_ := zaO ((by rw [hg]; exact Nat.ne_of_gt (zbN (g := gb139) (o := .cells #[.int .i64 a0_0, .int .i64 a0_1, .int .i64 a0_2] 92 (0, 0)) (by (with_reducible repeat (first | apply zaC | apply zaF | apply zaB)); exact BK139.out)) : gb140 ≠ gb139)); clear BK139; clear HB; have BK139 := n0_; have HB := n1_; have BK140 := n2_; have GW140 := n3_; have GE140 := n4_; have NB139_140 := n5_; have NB140_139 := n6_; clear n0_ n1_ n2_ n3_ n4_ n5_ n6_; clear hb hbox hg) | ((with_reducible refine zbC (N := 4) rfl ?_); refine zaW ?hg (N := 4) ?hd (cs := #[.int .i64 0, .int .i64 0, .int .i64 0]) (t := 92) ?hr ?_; (case hd => rfl); (case hg => rfl); (case hr => first | (go_simp; done) | (go_simp; rfl)); intro gb141 hg w5 hbox hb; have n0_ := zaO (zaL (g := gb139) (o := .cells #[.int .i64 a0_0, .int .i64 a0_1, .int .i64 a0_2] 92 (0, 0)) (by (with_reducible repeat (first | apply zaC | apply zaF | apply zaB)); exact BK139.out) hb); have n1_ := zaO (zaL (g := gb140) (o := .cells #[.int .i64 a1_0, .int .i64 a1_1, .int .i64 a1_2] 92 (0, 0)) (by (with_reducible repeat (first | apply zaC | apply zaF | apply zaB)); exact BK140.out) hb); have n2_ := zaO (zaK (by repeat (first | (with_reducible first | exact HB.out | apply zaE | apply zaA | apply zaD | refine zaH ?_ GE139.out | refine zaH ?_ GE140.out) | exact HB.out)) hb); have n3_ := zaO (hbox); have n4_ := zaO ((by rw [hg]; exact (zaP (by repeat (first | (with_reducible first | exact HB.out | apply zaE | apply zaA | apply zaD | refine zaH ?_ GE139.out | refine zaH ?_ GE140.out) | exact HB.out))) : w.heap.size ≤ gb141)); have n5_ := n4_; have n6_ := zaO ((by rw [hg]; exact Nat.ne_of_lt (zbN (g := gb139) (o := .cells #[.int .i64 a0_0, .int .i64 a0_1, .int .i64 a0_2] 92 (0, 0)) (by (with_reducible repeat (first | apply zaC | apply zaF | apply zaB)); exact BK139.out)) : gb139 ≠ gb141)); have n7_ := zaO ((by rw [hg]; exact Nat.ne_of_gt (zbN (g := gb139) (o := .cells #[.int .i64 a0_0, .int .i64 a0_1, .int .i64 a0_2] 92 (0, 0)) (by (with_reducible repeat (first | apply zaC | apply zaF | apply zaB)); exact BK139.out)) : gb141 ≠ gb139)); have n8_ := zaO ((by rw [hg]; exact Nat.ne_of_lt (zbN (g := gb140) (o := .cells #[.int .i64 a1_0, .int .i64 a1_1, .int .i64 a1_2] 92 (0, 0)) (by (with_reducible repeat (first | apply zaC | apply zaF | apply zaB)); exact BK140.out)) : gb140 ≠ gb141)); have n9_ := zaO ((by rw [hg]; exact Nat.ne_of_gt (zbN (g := gb140) (o := .cells #[.int .i64 a1_0, .int .i64 a1_1, .int .i64 a1_2] 92 (0, 0)) (by (with_reducible repeat (first | apply zaC | apply zaF | apply zaB)); exact BK140.out)) : gb141 ≠ gb140)); clear BK139; clear BK140; clear HB; have BK139 := n0_; have BK140 := n1_; have HB := n2_; have BK141 := n3_; have GW141 := n4_; have GE141 := n5_; have NB139_141 := n6_; have NB141_139 := n7_; have NB140_141 := n8_; have NB141_140 := n9_; clear n0_ n1_ n2_ n3_ n4_ n5_ n6_ n7_ n8_ n9_; clear hb hbox hg))
 (try go_simp)
 go_loopg [] k (fun kq w' => ∃ (x140000_1 : Int) (x140001_1 : Int) (x140002_1 : Int), Aside0 (zbO.l0 kq x140000_1 x140001_1 x140002_1 a1_0 a1_1 a1_2 = some (r1, r2, r3)) ∧ Aside0 (kq ≤ k) ∧ Aside0 (w'.heap[gb139]? = some (.cells #[.int .i64 x140000_1, .int .i64 x140001_1, .int .i64 x140002_1] 92 (0, 0))) ∧ Aside0 (w'.heap[gb140]? = some (.cells #[.int .i64 a1_0, .int .i64 a1_1, .int .i64 a1_2] 92 (0, 0))) ∧ Aside0 (w'.heap[gb141]? = some (.cells #[.int .i64 0, .int .i64 0, .int .i64 0] 92 (0, 0))) ∧ Aside0 (Below w.heap.size w w'))
 case atStart => exact ⟨(a0_0), (a0_1), (a0_2), H', ⟨Nat.le_refl _⟩, ⟨by (with_reducible repeat (first | apply zaC | apply zaF | apply zaB)); exact BK139.out⟩, ⟨by (with_reducible repeat (first | apply zaC | apply zaF | apply zaB)); exact BK140.out⟩, ⟨by (with_reducible repeat (first | apply zaC | apply zaF | apply zaB)); exact BK141.out⟩, ⟨by repeat (first | (with_reducible first | exact HB.out | apply zaE | apply zaA | apply zaD | refine zaH ?_ GE139.out | refine zaH ?_ GE140.out | refine zaH ?_ GE141.out) | exact HB.out)⟩⟩
 case round =>
  clear H'
  try clear c1
  try clear p2
  obtain ⟨x140000_1, x140001_1, x140002_1, HA, HK1, BK139, BK140, BK141, HB⟩ := hrel
  cases gk with
  | zero => exact absurd HA.out (by simp [zbO.l0])
  | succ k1 =>
   have H := HA.out
   clear HA
   simp only [zbO.l0] at H
   by_cases c6 : x140002_1 < a1_2
   ·rw [if_pos c6] at H
    have c6b0 : decide (x140002_1 < a1_2) = true := decide_eq_true c6
    clear c6
    have H' := zaO H
    clear H
    have hnb7 := NB139_140.out
    have hnc7 := NB140_139.out
    have hnb8 := NB139_141.out
    have hnc8 := NB141_139.out
    obtain ⟨hcz9_0, hcz9_1, hcz9_2⟩ := zeE BK139.out
    obtain ⟨hfz9_0, hfz9_1, hfz9_2⟩ := zeD BK139.out
    have hnb10 := NB140_141.out
    have hnc10 := NB141_140.out
    obtain ⟨hcz11_0, hcz11_1, hcz11_2⟩ := zeE BK140.out
    obtain ⟨hfz11_0, hfz11_1, hfz11_2⟩ := zeD BK140.out
    go_wp2
    go_roundg k1
    case measure => have := HK1.out; omega
    case rel => exact ⟨(wrap64 (x140000_1 * 2)), (wrap64 (x140001_1 * 2)), (wrap64 (x140002_1 + 1)), H', ⟨by have := HK1.out; omega⟩, ⟨by (with_reducible repeat (first | apply zaC | apply zaF | apply zaB)); refine zaR (cs := #[.int .i64 (wrap64 (x140000_1 * 2)), .int .i64 (wrap64 (x140001_1 * 2)), .int .i64 x140002_1]) ?_ 2 _ rfl; (with_reducible repeat (first | apply zaC | apply zaF | apply zaB)); refine zaR (cs := #[.int .i64 (wrap64 (x140000_1 * 2)), .int .i64 x140001_1, .int .i64 x140002_1]) ?_ 1 _ rfl; (with_reducible repeat (first | apply zaC | apply zaF | apply zaB)); refine zaR (cs := #[.int .i64 x140000_1, .int .i64 x140001_1, .int .i64 x140002_1]) ?_ 0 _ rfl; (with_reducible repeat (first | apply zaC | apply zaF | apply zaB)); exact BK139.out⟩, ⟨by (with_reducible repeat (first | apply zaC | apply zaF | apply zaB)); refine zbK ?_ NB140_139.out _; (with_reducible repeat (first | apply zaC | apply zaF | apply zaB)); refine zbK ?_ NB140_139.out _; (with_reducible repeat (first | apply zaC | apply zaF | apply zaB)); refine zbK ?_ NB140_139.out _; (with_reducible repeat (first | apply zaC | apply zaF | apply zaB)); exact BK140.out⟩, ⟨by (with_reducible repeat (first | apply zaC | apply zaF | apply zaB)); refine zbK ?_ NB141_139.out _; (with_reducible repeat (first | apply zaC | apply zaF | apply zaB)); refine zbK ?_ NB141_139.out _; (with_reducible repeat (first | apply zaC | apply zaF | apply zaB)); refine zbK ?_ NB141_139.out _; (with_reducible repeat (first | apply zaC | apply zaF | apply zaB)); exact BK141.out⟩, ⟨by repeat (first | (with_reducible first | exact HB.out | apply zaE | apply zaA | apply zaD | refine zaH ?_ GE139.out | refine zaH ?_ GE140.out | refine zaH ?_ GE141.out) | exact HB.out)⟩⟩
   ·rw [if_neg c6] at H
    have c6b0 : decide (x140002_1 < a1_2) = false := decide_eq_false c6
    clear c6
    have H' := zaO H
    clear H
    have hnb12 := NB139_140.out
    have hnc12 := NB140_139.out
    have hnb13 := NB139_141.out
    have hnc13 := NB141_139.out
    obtain ⟨hcz14_0, hcz14_1, hcz14_2⟩ := zeE BK139.out
    obtain ⟨hfz14_0, hfz14_1, hfz14_2⟩ := zeD BK139.out
    have hnb15 := NB140_141.out
    have hnc15 := NB141_140.out
    obtain ⟨hcz16_0, hcz16_1, hcz16_2⟩ := zeE BK140.out
    obtain ⟨hfz16_0, hfz16_1, hfz16_2⟩ := zeD BK140.out
    go_wp2
    (try go_simp)
    go_loopg [] k1 (fun kq w' => ∃ (x141000_2 : Int) (x141001_2 : Int) (x141002_2 : Int), Aside0 (zbO.l1 kq x140000_1 x140001_1 x140002_1 x141000_2 x141001_2 x141002_2 = some (r1, r2, r3)) ∧ Aside0 (kq ≤ k1) ∧ Aside0 (w'.heap[gb139]? = some (.cells #[.int .i64 x140000_1, .int .i64 x140001_1, .int .i64 x140002_1] 92 (0, 0))) ∧ Aside0 (w'.heap[gb140]? = some (.cells #[.int .i64 x141000_2, .int .i64 x141001_2, .int .i64 x141002_2] 92 (0, 0))) ∧ Aside0 (w'.heap[gb141]? = some (.cells #[.int .i64 0, .int .i64 0, .int .i64 0] 92 (0, 0))) ∧ Aside0 (Below w.heap.size w w'))
    case atStart => exact ⟨(a1_0), (a1_1), (a1_2), H', ⟨Nat.le_refl _⟩, ⟨by (with_reducible repeat (first | apply zaC | apply zaF | apply zaB)); exact BK139.out⟩, ⟨by (with_reducible repeat (first | apply zaC | apply zaF | apply zaB)); exact BK140.out⟩, ⟨by (with_reducible repeat (first | apply zaC | apply zaF | apply zaB)); exact BK141.out⟩, ⟨by repeat (first | (with_reducible first | exact HB.out | apply zaE | apply zaA | apply zaD | refine zaH ?_ GE139.out | refine zaH ?_ GE140.out | refine zaH ?_ GE141.out) | exact HB.out)⟩⟩
    case round =>
     clear H'
     try clear c1
     try clear p2
     try clear c6
     try clear c6b0
     try clear p6
     try clear c7
     try clear c8
     try clear c10
     try clear c12
     try clear c13
     try clear c14
     try clear c15
     try clear hcz11_0
     try clear hcz11_1
     try clear hcz11_2
     try clear hcz14_0
     try clear hcz14_1
     try clear hcz14_2
     try clear hcz16_0
     try clear hcz16_1
     try clear hcz16_2
     try clear hcz9_0
     try clear hcz9_1
     try clear hcz9_2
     try clear hfz11_0
     try clear hfz11_1
     try clear hfz11_2
     try clear hfz14_0
     try clear hfz14_1
     try clear hfz14_2
     try clear hfz16_0
     try clear hfz16_1
     try clear hfz16_2
     try clear hfz9_0
     try clear hfz9_1
     try clear hfz9_2
     try clear p2
     obtain ⟨x141000_2, x141001_2, x141002_2, HA, HK2, BK139, BK140, BK141, HB⟩ := hrel
     cases gk with
     | zero => exact absurd HA.out (by simp [zbO.l1])
     | succ k2 =>
      have H := HA.out
      clear HA
      simp only [zbO.l1] at H
      by_cases c17 : x141002_2 < x140002_1
      ·rw [if_pos c17] at H
       have c17b0 : decide (x141002_2 < x140002_1) = true := decide_eq_true c17
       clear c17
       have H' := zaO H
       clear H
       have hnb18 := NB140_139.out
       have hnc18 := NB139_140.out
       have hnb19 := NB140_141.out
       have hnc19 := NB141_140.out
       obtain ⟨hcz20_0, hcz20_1, hcz20_2⟩ := zeE BK140.out
       obtain ⟨hfz20_0, hfz20_1, hfz20_2⟩ := zeD BK140.out
       have hnb21 := NB139_141.out
       have hnc21 := NB141_139.out
       obtain ⟨hcz22_0, hcz22_1, hcz22_2⟩ := zeE BK139.out
       obtain ⟨hfz22_0, hfz22_1, hfz22_2⟩ := zeD BK139.out
       go_wp2
       go_roundg k2
       case measure => have := HK1.out; have := HK2.out; omega
       case rel => exact ⟨(wrap64 (x141000_2 * 2)), (wrap64 (x141001_2 * 2)), (wrap64 (x141002_2 + 1)), H', ⟨by have := HK1.out; have := HK2.out; omega⟩, ⟨by (with_reducible repeat (first | apply zaC | apply zaF | apply zaB)); refine zbK ?_ NB139_140.out _; (with_reducible repeat (first | apply zaC | apply zaF | apply zaB)); refine zbK ?_ NB139_140.out _; (with_reducible repeat (first | apply zaC | apply zaF | apply zaB)); refine zbK ?_ NB139_140.out _; (with_reducible repeat (first | apply zaC | apply zaF | apply zaB)); exact BK139.out⟩, ⟨by (with_reducible repeat (first | apply zaC | apply zaF | apply zaB)); refine zaR (cs := #[.int .i64 (wrap64 (x141000_2 * 2)), .int .i64 (wrap64 (x141001_2 * 2)), .int .i64 x141002_2]) ?_ 2 _ rfl; (with_reducible repeat (first | apply zaC | apply zaF | apply zaB)); refine zaR (cs := #[.int .i64 (wrap64 (x141000_2 * 2)), .int .i64 x141001_2, .int .i64 x141002_2]) ?_ 1 _ rfl; (with_reducible repeat (first | apply zaC | apply zaF | apply zaB)); refine zaR (cs := #[.int .i64 x141000_2, .int .i64 x141001_2, .int .i64 x141002_2]) ?_ 0 _ rfl; (with_reducible repeat (first | apply zaC | apply zaF | apply zaB)); exact BK140.out⟩, ⟨by (with_reducible repeat (first | apply zaC | apply zaF | apply zaB)); refine zbK ?_ NB141_140.out _; (with_reducible repeat (first | apply zaC | apply zaF | apply zaB)); refine zbK ?_ NB141_140.out _; (with_reducible repeat (first | apply zaC | apply zaF | apply zaB)); refine zbK ?_ NB141_140.out _; (with_reducible repeat (first | apply zaC | apply zaF | apply zaB)); exact BK141.out⟩, ⟨by repeat (first | (with_reducible first | exact HB.out | apply zaE | apply zaA | apply zaD | refine zaH ?_ GE139.out | refine zaH ?_ GE140.out | refine zaH ?_ GE141.out) | exact HB.out)⟩⟩
      ·rw [if_neg c17] at H
       have c17b0 : decide (x141002_2 < x140002_1) = false := decide_eq_false c17
       clear c17
       replace H := Option.bind_eq_some_iff.mp H
       obtain ⟨⟨t142, t143, t144⟩, A230, H⟩ := H
       replace H : (some (t142, t143, t144)) = some (r1, r2, r3) := H
       have A23 := zaO A230
       clear A230
       simp only [Option.some.injEq, Prod.mk.injEq] at H
       obtain ⟨rfl, rfl, rfl⟩ := H
       have hnb24 := NB140_139.out
       have hnc24 := NB139_140.out
       have hnb25 := NB140_141.out
       have hnc25 := NB141_140.out
       obtain ⟨hcz26_0, hcz26_1, hcz26_2⟩ := zeE BK140.out
       obtain ⟨hfz26_0, hfz26_1, hfz26_2⟩ := zeD BK140.out
       have hnb27 := NB139_141.out
       have hnc27 := NB141_139.out
       obtain ⟨hcz28_0, hcz28_1, hcz28_2⟩ := zeE BK139.out
       obtain ⟨hfz28_0, hfz28_1, hfz28_2⟩ := zeD BK139.out
       go_wp2_with (first | ((with_reducible refine zaQ (f := 174) rfl ?_); refine zbV (some 52) rfl rfl Tryd.func174 (by kernel_rfl) rfl #[.agg #[.int .i64 (wrap64 (x140000_1 + x141000_2)), .int .i64 (wrap64 (x140001_1 + x141001_2)), .int .i64 x140002_1]] rfl (by (try simp only [List.map_toArray, List.map_cons, List.map_nil]); first | done | rfl | (simp only [List.length_drop, List.length_take]; rfl)) ?_; (with_reducible refine (zbP.calls k2 (wrap64 (x140000_1 + x141000_2)) (wrap64 (x140001_1 + x141001_2)) x140002_1 t142 t143 t144 _ A23.out).mono ?_); rintro e w29 ⟨rfl, hb⟩; refine ⟨_, rfl, ?_⟩; have n0_ := zaO (zaL (g := gb139) (o := .cells #[.int .i64 x140000_1, .int .i64 x140001_1, .int .i64 x140002_1] 92 (0, 0)) (by (with_reducible repeat (first | apply zaC | apply zaF | apply zaB)); exact BK139.out) hb); have n1_ := zaO (zaL (g := gb140) (o := .cells #[.int .i64 x141000_2, .int .i64 x141001_2, .int .i64 x141002_2] 92 (0, 0)) (by (with_reducible repeat (first | apply zaC | apply zaF | apply zaB)); exact BK140.out) hb); have n2_ := zaO (zaL (g := gb141) (o := .cells #[.int .i64 0, .int .i64 0, .int .i64 0] 92 (0, 0)) (by (with_reducible repeat (first | apply zaC | apply zaF | apply zaB)); exact BK141.out) hb); have n3_ := zaO (zaK (by repeat (first | (with_reducible first | exact HB.out | apply zaE | apply zaA | apply zaD | refine zaH ?_ GE139.out | refine zaH ?_ GE140.out | refine zaH ?_ GE141.out) | exact HB.out)) hb); clear BK139; clear BK140; clear BK141; clear HB; have BK139 := n0_; have BK140 := n1_; have BK141 := n2_; have HB := n3_; clear n0_ n1_ n2_ n3_; (try clear hb); (try clear hb2); (try clear hk); (try clear hi); obtain ⟨hcz30_0, hcz30_1, hcz30_2⟩ := zeE BK141.out; obtain ⟨hfz30_0, hfz30_1, hfz30_2⟩ := zeD BK141.out))
       refine bodyPost_ret (results_cell_row rfl _ _ gb141 92 #[.int .i64 t142, .int .i64 t143, .int .i64 t144] (0, 0) _ rfl (by (with_reducible repeat (first | apply zaC | apply zaF | apply zaB)); refine zaR (cs := #[.int .i64 t142, .int .i64 t143, .int .i64 0]) ?_ 2 _ rfl; (with_reducible repeat (first | apply zaC | apply zaF | apply zaB)); refine zaR (cs := #[.int .i64 t142, .int .i64 0, .int .i64 0]) ?_ 1 _ rfl; (with_reducible repeat (first | apply zaC | apply zaF | apply zaB)); refine zaR (cs := #[.int .i64 0, .int .i64 0, .int .i64 0]) ?_ 0 _ rfl; (with_reducible repeat (first | apply zaC | apply zaF | apply zaB)); exact BK141.out) Tryd.underlying92 rfl (by kernel_rfl)) rfl ?_
       exact ⟨by first | rfl | (simp [zaN, zaM] <;> rfl) | (simp [*, zaN, zaM] <;> rfl), by repeat (first | (with_reducible first | exact HB.out | apply zaE | apply zaA | apply zaD | refine zaH ?_ GE139.out | refine zaH ?_ GE140.out | refine zaH ?_ GE141.out) | exact HB.out)⟩

def zcO.f (k : Nat) (a0_0 : Int) (a0_1 : Int) (a0_2 : Int) (a1_0 : Int) (a1_1 : Int) (a1_2 : Int) : Option (Int × Int × Int) := (zbP.f k (wrap64 ((wrap64 (a0_0 * a1_0)) + (wrap64 ((wrap64 (2 * a0_1)) * a1_1)))) (wrap64 ((wrap64 (a0_0 * a1_1)) + (wrap64 (a0_1 * a1_0)))) (wrap64 (a0_2 + a1_2))).bind fun bt148 => (some (bt148.1, bt148.2.1, bt148.2.2))
theorem zcO.mono : ∀ a0 a1 a2 a3 a4 a5 k, LeO (zcO.f k a0 a1 a2 a3 a4 a5) (zcO.f (k + 1) a0 a1 a2 a3 a4 a5) := by
 intro a0 a1 a2 a3 a4 a5 k
 unfold zcO.f
 repeat' first
   | (with_reducible exact zbP.mono _ _ _ _)
   | (with_reducible exact LeO.refl _)
   | (with_reducible exact LeO.none _)
   | (with_reducible refine LeO.ite ?_ ?_)
   | (with_reducible refine LeO.bind ?_ (fun _ => ?_))
   | exact zbP.mono _ _ _ _
   | exact LeO.none _
   | refine LeO.ite ?_ ?_
   | refine LeO.bind ?_ (fun _ => ?_)
set_option maxHeartbeats 8000000 in
set_option maxRecDepth 100000 in
theorem zcO.calls (k : Nat) (a0_0 : Int) (a0_1 : Int) (a0_2 : Int) (a1_0 : Int) (a1_1 : Int) (a1_2 : Int) (r1 : Int) (r2 : Int) (r3 : Int) (w : World) (h : zcO.f k a0_0 a0_1 a0_2 a1_0 a1_1 a1_2 = some (r1, r2, r3)) :
  Calls Tryd.prog 149 #[.agg #[.int .i64 a0_0, .int .i64 a0_1, .int .i64 a0_2], .agg #[.int .i64 a1_0, .int .i64 a1_1, .int .i64 a1_2]] w fun e w' => e = .returned (.agg #[.int .i64 r1, .int .i64 r2, .int .i64 r3]) ∧ Below w.heap.size w w' := by
 have hu92 := Tryd.underlying92
 have HB := zaO (Below.refl w.heap.size w)
 have H : ((zbP.f k (wrap64 ((wrap64 (a0_0 * a1_0)) + (wrap64 ((wrap64 (2 * a0_1)) * a1_1)))) (wrap64 ((wrap64 (a0_0 * a1_1)) + (wrap64 (a0_1 * a1_0)))) (wrap64 (a0_2 + a1_2))).bind fun bt148 => (some (bt148.1, bt148.2.1, bt148.2.2))) = some (r1, r2, r3) := h
 clear h
 replace H := Option.bind_eq_some_iff.mp H
 obtain ⟨⟨t148, t149, t150⟩, A30, H⟩ := H
 replace H : (some (t148, t149, t150)) = some (r1, r2, r3) := H
 have A3 := zaO A30
 clear A30
 simp only [Option.some.injEq, Prod.mk.injEq] at H
 obtain ⟨rfl, rfl, rfl⟩ := H
 go_enter Tryd.func149, Tryd.ntmps149
 go_wp2_with (first | ((with_reducible refine zbC (N := 2) rfl ?_); refine zaW ?hg (N := 2) ?hd (cs := #[.int .i64 a0_0, .int .i64 a0_1, .int .i64 a0_2]) (t := 92) ?hr ?_; (case hd => rfl); (case hg => rfl); (case hr => first | (go_simp; done) | (go_simp; rfl)); intro gb145 hg w4 hbox hb; have n0_ := zaO (zaK (by repeat (first | (with_reducible first | exact HB.out | apply zaE | apply zaA | apply zaD) | exact HB.out)) hb); have n1_ := zaO (hbox); have n2_ := zaO ((by rw [hg]; exact (zaP (by repeat (first | (with_reducible first | exact HB.out | apply zaE | apply zaA | apply zaD) | exact HB.out))) : w.heap.size ≤ gb145)); have n3_ := n2_; clear HB; have HB := n0_; have BK145 := n1_; have GW145 := n2_; have GE145 := n3_; clear n0_ n1_ n2_ n3_; clear hb hbox hg) | ((with_reducible refine zbC (N := 3) rfl ?_); refine zaW ?hg (N := 3) ?hd (cs := #[.int .i64 a1_0, .int .i64 a1_1, .int .i64 a1_2]) (t := 92) ?hr ?_; (case hd => rfl); (case hg => rfl); (case hr => first | (go_simp; done) | (go_simp; rfl)); intro gb146 hg w5 hbox hb; have n0_ := zaO (zaL (g := gb145) (o := .cells #[.int .i64 a0_0, .int .i64 a0_1, .int .i64 a0_2] 92 (0, 0)) (by (with_reducible repeat (first | apply zaC | apply zaF | apply zaB)); exact BK145.out) hb); have n1_ := zaO (zaK (by repeat (first | (with_reducible first | exact HB.out | apply zaE | apply zaA | apply zaD | refine zaH ?_ GE145.out) | exact HB.out)) hb); have n2_ := zaO (hbox); have n3_ := zaO ((by rw [hg]; exact (zaP (by repeat (first | (with_reducible first | exact HB.out | apply zaE | apply zaA | apply zaD | refine zaH ?_ GE145.out) | exact HB.out))) : w.heap.size ≤ gb146)); have n4_ := n3_; have n5_ := zaO ((by rw [hg]; exact Nat.ne_of_lt (zbN (g := gb145) (o := .cells #[.int .i64 a0_0, .int .i64 a0_1, .int .i64 a0_2] 92 (0, 0)) (by (with_reducible repeat (first | apply zaC | apply zaF | apply zaB)); exact BK145.out)) : gb145 ≠ gb146)); have n6_ := zaO ((by rw [hg]; exact Nat.ne_of_gt (zbN (g := gb145) (o := .cells #[.int .i64 a0_0, .int .i64 a0_1, .int .i64 a0_2] 92 (0, 0)) (by (with_reducible repeat (first | apply zaC | apply zaF | apply zaB)); exact BK145.out)) : gb146 ≠ gb145)); clear BK145; clear HB; have BK145 := n0_; have HB := n1_; have BK146 := n2_; have GW146 := n3_; have GE146 := n4_; have NB145_146 := n5_; have NB146_145 := n6_; clear n0_ n1_ n2_ n3_ n4_ n5_ n6_; clear hb hbox hg) | ((with_reducible refine zbC (N := 4) rfl ?_); refine zaW ?hg (N := 4) ?hd (cs := #[.int .i64 0, .int .i64 0, .int .i64 0]) (t := 92) ?hr ?_; (case hd => rfl); (case hg => rfl); (case hr => first | (go_simp; done) | (go_simp; rfl)); intro gb147 hg w6 hbox hb; have n0_ := zaO (zaL (g := gb145) (o := .cells #[.int .i64 a0_0, .int .i64 a0_1, .int .i64 a0_2] 92 (0, 0)) (by (with_reducible repeat (first | apply zaC | apply zaF | apply zaB)); exact BK145.out) hb); have n1_ := zaO (zaL (g := gb146) (o := .cells #[.int .i64 a1_0, .int .i64 a1_1, .int .i64 a1_2] 92 (0, 0)) (by (with_reducible repeat (first | apply zaC | apply zaF | apply zaB)); exact BK146.out) hb); have n2_ := zaO (zaK (by repeat (first | (with_reducible first | exact HB.out | apply zaE | apply zaA | apply zaD | refine zaH ?_ GE145.out | refine zaH ?_ GE146.out) | exact HB.out)) hb); have n3_ := zaO (hbox); have n4_ := zaO ((by rw [hg]; exact (zaP (by repeat (first | (with_reducible first | exact HB.out | apply zaE | apply zaA | apply zaD | refine zaH ?_ GE145.out | refine zaH ?_ GE146.out) | exact HB.out))) : w.heap.size ≤ gb147)); have n5_ := n4_; have n6_ := zaO ((by rw [hg]; exact Nat.ne_of_lt (zbN (g := gb145) (o := .cells #[.int .i64 a0_0, .int .i64 a0_1, .int .i64 a0_2] 92 (0, 0)) (by (with_reducible repeat (first | apply zaC | apply zaF | apply zaB)); exact BK145.out)) : gb145 ≠ gb147)); have n7_ := zaO ((by rw [hg]; exact Nat.ne_of_gt (zbN (g := gb145) (o := .cells #[.int .i64 a0_0, .int .i64 a0_1, .int .i64 a0_2] 92 (0, 0)) (by (with_reducible repeat (first | apply zaC | apply zaF | apply zaB)); exact BK145.out)) : gb147 ≠ gb145)); have n8_ := zaO ((by rw [hg]; exact Nat.ne_of_lt (zbN (g := gb146) (o := .cells #[.int .i64 a1_0, .int .i64 a1_1, .int .i64 a1_2] 92 (0, 0)) (by (with_reducible repeat (first | apply zaC | apply zaF | apply zaB)); exact BK146.out)) : gb146 ≠ gb147)); have n9_ := zaO ((by rw [hg]; exact Nat.ne_of_gt (zbN (g := gb146) (o := .cells #[.int .i64 a1_0, .int .i64 a1_1, .int .i64 a1_2] 92 (0, 0)) (by (with_reducible repeat (first | apply zaC | apply zaF | apply zaB)); exact BK146.out)) : gb147 ≠ gb146)); clear BK145; clear BK146; clear HB; have BK145 := n0_; have BK146 := n1_; have HB := n2_; have BK147 := n3_; have GW147 := n4_; have GE147 := n5_; have NB145_147 := n6_; have NB147_145 := n7_; have NB146_147 := n8_; have NB147_146 := n9_; clear n0_ n1_ n2_ n3_ n4_ n5_ n6_ n7_ n8_ n9_; clear hb hbox hg; have hnb7 := NB145_146.out; have hnc7 := NB146_145.out; have hnb8 := NB145_147.out; have hnc8 := NB147_145.out; obtain ⟨hcz9_0, hcz9_1, hcz9_2⟩ := zeE BK145.out; obtain ⟨hfz9_0, hfz9_1, hfz9_2⟩ := zeD BK145.out; have hnb10 := NB146_147.out; have hnc10 := NB147_146.out; obtain ⟨hcz11_0, hcz11_1, hcz11_2⟩ := zeE BK146.out; obtain ⟨hfz11_0, hfz11_1, hfz11_2⟩ := zeD BK146.out) | ((with_reducible refine zaQ (f := 174) rfl ?_); refine zbV (some 34) rfl rfl Tryd.func174 (by kernel_rfl) rfl #[.agg #[.int .i64 (wrap64 ((wrap64 (a0_0 * a1_0)) + (wrap64 ((wrap64 (2 * a0_1)) * a1_1)))), .int .i64 (wrap64 ((wrap64 (a0_0 * a1_1)) + (wrap64 (a0_1 * a1_0)))), .int .i64 (wrap64 (a0_2 + a1_2))]] rfl (by (try simp only [List.map_toArray, List.map_cons, List.map_nil]); first | done | rfl | (simp only [List.length_drop, List.length_take]; rfl)) ?_; (with_reducible refine (zbP.calls k (wrap64 ((wrap64 (a0_0 * a1_0)) + (wrap64 ((wrap64 (2 * a0_1)) * a1_1)))) (wrap64 ((wrap64 (a0_0 * a1_1)) + (wrap64 (a0_1 * a1_0)))) (wrap64 (a0_2 + a1_2)) t148 t149 t150 _ A3.out).mono ?_); rintro e w12 ⟨rfl, hb⟩; refine ⟨_, rfl, ?_⟩; have n0_ := zaO (zaL (g := gb145) (o := .cells #[.int .i64 a0_0, .int .i64 a0_1, .int .i64 a0_2] 92 (0, 0)) (by (with_reducible repeat (first | apply zaC | apply zaF | apply zaB)); exact BK145.out) hb); have n1_ := zaO (zaL (g := gb146) (o := .cells #[.int .i64 a1_0, .int .i64 a1_1, .int .i64 a1_2] 92 (0, 0)) (by (with_reducible repeat (first | apply zaC | apply zaF | apply zaB)); exact BK146.out) hb); have n2_ := zaO (zaL (g := gb147) (o := .cells #[.int .i64 0, .int .i64 0, .int .i64 0] 92 (0, 0)) (by (with_reducible repeat (first | apply zaC | apply zaF | apply zaB)); exact BK147.out) hb); have n3_ := zaO (zaK (by repeat (first | (with_reducible first | exact HB.out | apply zaE | apply zaA | apply zaD | refine zaH ?_ GE145.out | refine zaH ?_ GE146.out | refine zaH ?_ GE147.out) | exact HB.out)) hb); clear BK145; clear BK146; clear BK147; clear HB; have BK145 := n0_; have BK146 := n1_; have BK147 := n2_; have HB := n3_; clear n0_ n1_ n2_ n3_; (try clear hb); (try clear hb2); (try clear hk); (try clear hi); obtain ⟨hcz13_0, hcz13_1, hcz13_2⟩ := zeE BK147.out; obtain ⟨hfz13_0, hfz13_1, hfz13_2⟩ := zeD BK147.out))
 refine bodyPost_ret (results_cell_row rfl _ _ gb147 92 #[.int .i64 t148, .int .i64 t149, .int .i64 t150] (0, 0) _ rfl (by (with_reducible repeat (first | apply zaC | apply zaF | apply zaB)); refine zaR (cs := #[.int .i64 t148, .int .i64 t149, .int .i64 0]) ?_ 2 _ rfl; (with_reducible repeat (first | apply zaC | apply zaF | apply zaB)); refine zaR (cs := #[.int .i64 t148, .int .i64 0, .int .i64 0]) ?_ 1 _ rfl; (with_reducible repeat (first | apply zaC | apply zaF | apply zaB)); refine zaR (cs := #[.int .i64 0, .int .i64 0, .int .i64 0]) ?_ 0 _ rfl; (with_reducible repeat (first | apply zaC | apply zaF | apply zaB)); exact BK147.out) Tryd.underlying92 rfl (by kernel_rfl)) rfl ?_
 exact ⟨by first | rfl | (simp [zaN, zaM] <;> rfl) | (simp [*, zaN, zaM] <;> rfl), by repeat (first | (with_reducible first | exact HB.out | apply zaE | apply zaA | apply zaD | refine zaH ?_ GE145.out | refine zaH ?_ GE146.out | refine zaH ?_ GE147.out) | exact HB.out)⟩

def zcF.f (k : Nat) (a0 : Int) (a1_0 : Int) (a1_1 : Int) (a1_2 : Int) (a1_3 : Int) (a1_4 : Int) (a1_5 : Int) : Option (Int × Int × Int) := (zeH.f a0).bind fun bt153 => ((zcV.f bt153.1 bt153.2.1 bt153.2.2.1 bt153.2.2.2.1 bt153.2.2.2.2.1 bt153.2.2.2.2.2).bind fun bt159 => ((zcO.f k bt159.1 bt159.2.1 bt159.2.2.1 a1_0 a1_1 a1_2).bind fun bt166 => ((zcO.f k bt159.2.2.2.1 bt159.2.2.2.2.1 bt159.2.2.2.2.2 a1_3 a1_4 a1_5).bind fun bt169 => ((zbO.f k bt166.1 bt166.2.1 bt166.2.2 bt169.1 bt169.2.1 bt169.2.2).bind fun bt172 => (some (bt172.1, bt172.2.1, bt172.2.2))))))
theorem zcF.mono : ∀ a0 a1 a2 a3 a4 a5 a6 k, LeO (zcF.f k a0 a1 a2 a3 a4 a5 a6) (zcF.f (k + 1) a0 a1 a2 a3 a4 a5 a6) := by
 intro a0 a1 a2 a3 a4 a5 a6 k
 unfold zcF.f
 repeat' first
   | (with_reducible exact zbO.mono _ _ _ _ _ _ _)
   | (with_reducible exact zcO.mono _ _ _ _ _ _ _)
   | (with_reducible exact LeO.refl _)
   | (with_reducible exact LeO.none _)
   | (with_reducible refine LeO.ite ?_ ?_)
   | (with_reducible refine LeO.bind ?_ (fun _ => ?_))
   | exact zbO.mono _ _ _ _ _ _ _
   | exact zcO.mono _ _ _ _ _ _ _
   | exact LeO.none _
   | refine LeO.ite ?_ ?_
   | refine LeO.bind ?_ (fun _ => ?_)
def zcF.T2 : Bool × List (List Nat × List Nat) := (true, [([], []), ([0], [0]), ([], []), ([2], [2]), ([1, 3], [1, 3]), ([], []), ([5], [5]), ([], []), ([7], [7]), ([6, 8, 4], [6, 8]), ([4, 9, 9], [4, 9]), ([10, 10, 0, 1, 2, 3, 4, 5, 6, 7, 8, 9, 10], [10])])
def zcF.B2 : List Nat := [0, 1, 0, 4, 15, 0, 32, 0, 128, 511, 1023, 2047]
theorem zcF.tab2 : rtab .any (opsOf Tryd.f113 2) = zcF.T2 := by kernel_rfl
theorem zcF.bits2 : zeC zcF.T2.2 zcF.B2 = true := by kernel_rfl
set_option maxHeartbeats 8000000 in
set_option maxRecDepth 100000 in
theorem zcF.calls (k : Nat) (a0 : Int) (a1_0 : Int) (a1_1 : Int) (a1_2 : Int) (a1_3 : Int) (a1_4 : Int) (a1_5 : Int) (r1 : Int) (r2 : Int) (r3 : Int) (w : World) (h : zcF.f k a0 a1_0 a1_1 a1_2 a1_3 a1_4 a1_5 = some (r1, r2, r3)) :
  Calls Tryd.prog 113 #[.int .i64 a0, .agg #[.int .i64 a1_0, .int .i64 a1_1, .int .i64 a1_2, .int .i64 a1_3, .int .i64 a1_4, .int .i64 a1_5]] w fun e w' => e = .returned (.agg #[.int .i64 r1, .int .i64 r2, .int .i64 r3]) ∧ Below w.heap.size w w' := by
 have hu94 := Tryd.underlying94
 have hu92 := Tryd.underlying92
 have HB := zaO (Below.refl w.heap.size w)
 have H : ((zeH.f a0).bind fun bt153 => ((zcV.f bt153.1 bt153.2.1 bt153.2.2.1 bt153.2.2.2.1 bt153.2.2.2.2.1 bt153.2.2.2.2.2).bind fun bt159 => ((zcO.f k bt159.1 bt159.2.1 bt159.2.2.1 a1_0 a1_1 a1_2).bind fun bt166 => ((zcO.f k bt159.2.2.2.1 bt159.2.2.2.2.1 bt159.2.2.2.2.2 a1_3 a1_4 a1_5).bind fun bt169 => ((zbO.f k bt166.1 bt166.2.1 bt166.2.2 bt169.1 bt169.2.1 bt169.2.2).bind fun bt172 => (some (bt172.1, bt172.2.1, bt172.2.2))))))) = some (r1, r2, r3) := h
 clear h
 replace H := Option.bind_eq_some_iff.mp H
 obtain ⟨⟨t153, t154, t155, t156, t157, t158⟩, A30, H⟩ := H
 replace H : ((zcV.f t153 t154 t155 t156 t157 t158).bind fun bt159 => ((zcO.f k bt159.1 bt159.2.1 bt159.2.2.1 a1_0 a1_1 a1_2).bind fun bt166 => ((zcO.f k bt159.2.2.2.1 bt159.2.2.2.2.1 bt159.2.2.2.2.2 a1_3 a1_4 a1_5).bind fun bt169 => ((zbO.f k bt166.1 bt166.2.1 bt166.2.2 bt169.1 bt169.2.1 bt169.2.2).bind fun bt172 => (some (bt172.1, bt172.2.1, bt172.2.2)))))) = some (r1, r2, r3) := H
 have A3 := zaO A30
 clear A30
 replace H := Option.bind_eq_some_iff.mp H
 obtain ⟨⟨t159, t160, t161, t162, t163, t164⟩, A40, H⟩ := H
 replace H : ((zcO.f k t159 t160 t161 a1_0 a1_1 a1_2).bind fun bt166 => ((zcO.f k t162 t163 t164 a1_3 a1_4 a1_5).bind fun bt169 => ((zbO.f k bt166.1 bt166.2.1 bt166.2.2 bt169.1 bt169.2.1 bt169.2.2).bind fun bt172 => (some (bt172.1, bt172.2.1, bt172.2.2))))) = some (r1, r2, r3) := H
 have A4 := zaO A40
 clear A40
 replace H := Option.bind_eq_some_iff.mp H
 obtain ⟨⟨t166, t167, t168⟩, A50, H⟩ := H
 replace H : ((zcO.f k t162 t163 t164 a1_3 a1_4 a1_5).bind fun bt169 => ((zbO.f k t166 t167 t168 bt169.1 bt169.2.1 bt169.2.2).bind fun bt172 => (some (bt172.1, bt172.2.1, bt172.2.2)))) = some (r1, r2, r3) := H
 have A5 := zaO A50
 clear A50
 replace H := Option.bind_eq_some_iff.mp H
 obtain ⟨⟨t169, t170, t171⟩, A60, H⟩ := H
 replace H : ((zbO.f k t166 t167 t168 t169 t170 t171).bind fun bt172 => (some (bt172.1, bt172.2.1, bt172.2.2))) = some (r1, r2, r3) := H
 have A6 := zaO A60
 clear A60
 replace H := Option.bind_eq_some_iff.mp H
 obtain ⟨⟨t172, t173, t174⟩, A70, H⟩ := H
 replace H : (some (t172, t173, t174)) = some (r1, r2, r3) := H
 have A7 := zaO A70
 clear A70
 simp only [Option.some.injEq, Prod.mk.injEq] at H
 obtain ⟨rfl, rfl, rfl⟩ := H
 go_enter Tryd.func113, Tryd.ntmps113
 try go_wp2_with (first | ((with_reducible refine zbC (N := 3) rfl ?_); refine zaW ?hg (N := 3) ?hd (cs := #[.int .i64 a1_0, .int .i64 a1_1, .int .i64 a1_2, .int .i64 a1_3, .int .i64 a1_4, .int .i64 a1_5]) (t := 94) ?hr ?_; (case hd => rfl); (case hg => rfl); (case hr => first | (go_simp; done) | (go_simp; rfl)); intro gb151 hg w8 hbox hb; have n0_ := zaO (zaK (by repeat (first | (with_reducible first | exact HB.out | apply zaE | apply zaA | apply zaD) | exact HB.out)) hb); have n1_ := zaO (hbox); have n2_ := zaO ((by rw [hg]; exact (zaP (by repeat (first | (with_reducible first | exact HB.out | apply zaE | apply zaA | apply zaD) | exact HB.out))) : w.heap.size ≤ gb151)); have n3_ := n2_; clear HB; have HB := n0_; have BK151 := n1_; have GW151 := n2_; have GE151 := n3_; clear n0_ n1_ n2_ n3_; clear hb hbox hg) | ((with_reducible refine zbC (N := 4) rfl ?_); refine zaW ?hg (N := 4) ?hd (cs := #[.int .i64 0, .int .i64 0, .int .i64 0]) (t := 92) ?hr ?_; (case hd => rfl); (case hg => rfl); (case hr => first | (go_simp; done) | (go_simp; rfl)); intro gb152 hg w9 hbox hb; have n0_ := zaO (zaL (g := gb151) (o := .cells #[.int .i64 a1_0, .int .i64 a1_1, .int .i64 a1_2, .int .i64 a1_3, .int .i64 a1_4, .int .i64 a1_5] 94 (0, 0)) (by (with_reducible repeat (first | apply zaC | apply zaF | apply zaB)); exact BK151.out) hb); have n1_ := zaO (zaK (by repeat (first | (with_reducible first | exact HB.out | apply zaE | apply zaA | apply zaD | refine zaH ?_ GE151.out) | exact HB.out)) hb); have n2_ := zaO (hbox); have n3_ := zaO ((by rw [hg]; exact (zaP (by repeat (first | (with_reducible first | exact HB.out | apply zaE | apply zaA | apply zaD | refine zaH ?_ GE151.out) | exact HB.out))) : w.heap.size ≤ gb152)); have n4_ := n3_; have n5_ := zaO ((by rw [hg]; exact Nat.ne_of_lt (zbN (g := gb151) (o := .cells #[.int .i64 a1_0, .int .i64 a1_1, .int .i64 a1_2, .int .i64 a1_3, .int .i64 a1_4, .int .i64 a1_5] 94 (0, 0)) (by (with_reducible repeat (first | apply zaC | apply zaF | apply zaB)); exact BK151.out)) : gb151 ≠ gb152)); have n6_ := zaO ((by rw [hg]; exact Nat.ne_of_gt (zbN (g := gb151) (o := .cells #[.int .i64 a1_0, .int .i64 a1_1, .int .i64 a1_2, .int .i64 a1_3, .int .i64 a1_4, .int .i64 a1_5] 94 (0, 0)) (by (with_reducible repeat (first | apply zaC | apply zaF | apply zaB)); exact BK151.out)) : gb152 ≠ gb151)); clear BK151; clear HB; have BK151 := n0_; have HB := n1_; have BK152 := n2_; have GW152 := n3_; have GE152 := n4_; have NB151_152 := n5_; have NB152_151 := n6_; clear n0_ n1_ n2_ n3_ n4_ n5_ n6_; clear hb hbox hg) | ((with_reducible refine zaQ (f := 147) rfl ?_); refine zbV (some 7) rfl rfl Tryd.func147 (by kernel_rfl) rfl #[.int .i64 a0] rfl (by (try simp only [List.map_toArray, List.map_cons, List.map_nil]); first | done | rfl | (simp only [List.length_drop, List.length_take]; rfl)) ?_; (with_reducible refine (zeH.calls a0 t153 t154 t155 t156 t157 t158 _ A3.out).mono ?_); rintro e w10 ⟨rfl, hb⟩; refine ⟨_, rfl, ?_⟩; have n0_ := zaO (zaL (g := gb151) (o := .cells #[.int .i64 a1_0, .int .i64 a1_1, .int .i64 a1_2, .int .i64 a1_3, .int .i64 a1_4, .int .i64 a1_5] 94 (0, 0)) (by (with_reducible repeat (first | apply zaC | apply zaF | apply zaB)); exact BK151.out) hb); have n1_ := zaO (zaL (g := gb152) (o := .cells #[.int .i64 0, .int .i64 0, .int .i64 0] 92 (0, 0)) (by (with_reducible repeat (first | apply zaC | apply zaF | apply zaB)); exact BK152.out) hb); have n2_ := zaO (zaK (by repeat (first | (with_reducible first | exact HB.out | apply zaE | apply zaA | apply zaD | refine zaH ?_ GE151.out | refine zaH ?_ GE152.out) | exact HB.out)) hb); clear BK151; clear BK152; clear HB; have BK151 := n0_; have BK152 := n1_; have HB := n2_; clear n0_ n1_ n2_; (try clear hb); (try clear hb2); (try clear hk); (try clear hi)) | ((with_reducible refine zaQ (f := 63) rfl ?_); refine zbV (some 8) rfl rfl Tryd.func63 (by kernel_rfl) rfl #[.agg #[.int .i64 t153, .int .i64 t154, .int .i64 t155, .int .i64 t156, .int .i64 t157, .int .i64 t158]] rfl (by (try simp only [List.map_toArray, List.map_cons, List.map_nil]); first | done | rfl | (simp only [List.length_drop, List.length_take]; rfl)) ?_; (with_reducible refine (zcV.calls t153 t154 t155 t156 t157 t158 t159 t160 t161 t162 t163 t164 _ A4.out).mono ?_); rintro e w11 ⟨rfl, hb⟩; refine ⟨_, rfl, ?_⟩; have n0_ := zaO (zaL (g := gb151) (o := .cells #[.int .i64 a1_0, .int .i64 a1_1, .int .i64 a1_2, .int .i64 a1_3, .int .i64 a1_4, .int .i64 a1_5] 94 (0, 0)) (by (with_reducible repeat (first | apply zaC | apply zaF | apply zaB)); exact BK151.out) hb); have n1_ := zaO (zaL (g := gb152) (o := .cells #[.int .i64 0, .int .i64 0, .int .i64 0] 92 (0, 0)) (by (with_reducible repeat (first | apply zaC | apply zaF | apply zaB)); exact BK152.out) hb); have n2_ := zaO (zaK (by repeat (first | (with_reducible first | exact HB.out | apply zaE | apply zaA | apply zaD | refine zaH ?_ GE151.out | refine zaH ?_ GE152.out) | exact HB.out)) hb); clear BK151; clear BK152; clear HB; have BK151 := n0_; have BK152 := n1_; have HB := n2_; clear n0_ n1_ n2_; (try clear hb); (try clear hb2); (try clear hk); (try clear hi)) | ((with_reducible refine zbC (N := 5) rfl ?_); refine zaW ?hg (N := 5) ?hd (cs := #[.int .i64 0, .int .i64 0, .int .i64 0, .int .i64 0, .int .i64 0, .int .i64 0]) (t := 94) ?hr ?_; (case hd => rfl); (case hg => rfl); (case hr => first | (go_simp; done) | (go_simp; rfl)); intro gb165 hg w12 hbox hb; have n0_ := zaO (zaL (g := gb151) (o := .cells #[.int .i64 a1_0, .int .i64 a1_1, .int .i64 a1_2, .int .i64 a1_3, .int .i64 a1_4, .int .i64 a1_5] 94 (0, 0)) (by (with_reducible repeat (first | apply zaC | apply zaF | apply zaB)); exact BK151.out) hb); have n1_ := zaO (zaL (g := gb152) (o := .cells #[.int .i64 0, .int .i64 0, .int .i64 0] 92 (0, 0)) (by (with_reducible repeat (first | apply zaC | apply zaF | apply zaB)); exact BK152.out) hb); have n2_ := zaO (zaK (by repeat (first | (with_reducible first | exact HB.out | apply zaE | apply zaA | apply zaD | refine zaH ?_ GE151.out | refine zaH ?_ GE152.out) | exact HB.out)) hb); have n3_ := zaO (hbox); have n4_ := zaO ((by rw [hg]; exact (zaP (by repeat (first | (with_reducible first | exact HB.out | apply zaE | apply zaA | apply zaD | refine zaH ?_ GE151.out | refine zaH ?_ GE152.out) | exact HB.out))) : w.heap.size ≤ gb165)); have n5_ := n4_; have n6_ := zaO ((by rw [hg]; exact Nat.ne_of_lt (zbN (g := gb151) (o := .cells #[.int .i64 a1_0, .int .i64 a1_1, .int .i64 a1_2, .int .i64 a1_3, .int .i64 a1_4, .int .i64 a1_5] 94 (0, 0)) (by (with_reducible repeat (first | apply zaC | apply zaF | apply zaB)); exact BK151.out)) : gb151 ≠ gb165)); have n7_ := zaO ((by rw [hg]; exact Nat.ne_of_gt (zbN (g := gb151) (o := .cells #[.int .i64 a1_0, .int .i64 a1_1, .int .i64 a1_2, .int .i64 a1_3, .int .i64 a1_4, .int .i64 a1_5] 94 (0, 0)) (by (with_reducible repeat (first | apply zaC | apply zaF | apply zaB)); exact BK151.out)) : gb165 ≠ gb151)); have n8_ := zaO ((by rw [hg]; exact Nat.ne_of_lt (zbN (g := gb152) (o := .cells #[.int .i64 0, .int .i64 0, .int .i64 0] 92 (0, 0)) (by (with_reducible repeat (first | apply zaC | apply zaF | apply zaB)); exact BK152.out)) : gb152 ≠ gb165)); have n9_ := zaO ((by rw [hg]; exact Nat.ne_of_gt (zbN (g := gb152) (o := .cells #[.int .i64 0, .int .i64 0, .int .i64 0] 92 (0, 0)) (by (with_reducible repeat (first | apply zaC | apply zaF | apply zaB)); exact BK152.out)) : gb165 ≠ gb152)); clear BK151; clear BK152; clear HB; have BK151 := n0_; have BK152 := n1_; have HB := n2_; have BK165 := n3_; have GW165 := n4_; have GE165 := n5_; have NB151_165 := n6_; have NB165_151 := n7_; have NB152_165 := n8_; have NB165_152 := n9_; clear n0_ n1_ n2_ n3_ n4_ n5_ n6_ n7_ n8_ n9_; clear hb hbox hg; have hnb13 := NB165_151.out; have hnc13 := NB151_165.out; have hnb14 := NB165_152.out; have hnc14 := NB152_165.out; obtain ⟨hcz15_0, hcz15_1, hcz15_2, hcz15_3, hcz15_4, hcz15_5⟩ := zeV BK165.out; obtain ⟨hfz15_0, hfz15_1, hfz15_2, hfz15_3, hfz15_4, hfz15_5⟩ := zeW BK165.out))
 have n0_ : Aside0 (((((((w12.setCell ⟨gb165, 0, none⟩ (.int .i64 t159)).setCell ⟨gb165, 1, none⟩ (.int .i64 t160)).setCell ⟨gb165, 2, none⟩ (.int .i64 t161)).setCell ⟨gb165, 3, none⟩ (.int .i64 t162)).setCell ⟨gb165, 4, none⟩ (.int .i64 t163)).setCell ⟨gb165, 5, none⟩ (.int .i64 t164)).heap[gb151]? = some (.cells #[.int .i64 a1_0, .int .i64 a1_1, .int .i64 a1_2, .int .i64 a1_3, .int .i64 a1_4, .int .i64 a1_5] 94 (0, 0))) := ⟨by (with_reducible repeat (first | apply zaC | apply zaF | apply zaB)); refine zbK ?_ NB151_165.out _; (with_reducible repeat (first | apply zaC | apply zaF | apply zaB)); refine zbK ?_ NB151_165.out _; (with_reducible repeat (first | apply zaC | apply zaF | apply zaB)); refine zbK ?_ NB151_165.out _; (with_reducible repeat (first | apply zaC | apply zaF | apply zaB)); refine zbK ?_ NB151_165.out _; (with_reducible repeat (first | apply zaC | apply zaF | apply zaB)); refine zbK ?_ NB151_165.out _; (with_reducible repeat (first | apply zaC | apply zaF | apply zaB)); refine zbK ?_ NB151_165.out _; (with_reducible repeat (first | apply zaC | apply zaF | apply zaB)); exact BK151.out⟩
 have n1_ : Aside0 (((((((w12.setCell ⟨gb165, 0, none⟩ (.int .i64 t159)).setCell ⟨gb165, 1, none⟩ (.int .i64 t160)).setCell ⟨gb165, 2, none⟩ (.int .i64 t161)).setCell ⟨gb165, 3, none⟩ (.int .i64 t162)).setCell ⟨gb165, 4, none⟩ (.int .i64 t163)).setCell ⟨gb165, 5, none⟩ (.int .i64 t164)).heap[gb152]? = some (.cells #[.int .i64 0, .int .i64 0, .int .i64 0] 92 (0, 0))) := ⟨by (with_reducible repeat (first | apply zaC | apply zaF | apply zaB)); refine zbK ?_ NB152_165.out _; (with_reducible repeat (first | apply zaC | apply zaF | apply zaB)); refine zbK ?_ NB152_165.out _; (with_reducible repeat (first | apply zaC | apply zaF | apply zaB)); refine zbK ?_ NB152_165.out _; (with_reducible repeat (first | apply zaC | apply zaF | apply zaB)); refine zbK ?_ NB152_165.out _; (with_reducible repeat (first | apply zaC | apply zaF | apply zaB)); refine zbK ?_ NB152_165.out _; (with_reducible repeat (first | apply zaC | apply zaF | apply zaB)); refine zbK ?_ NB152_165.out _; (with_reducible repeat (first | apply zaC | apply zaF | apply zaB)); exact BK152.out⟩
 have n2_ : Aside0 (((((((w12.setCell ⟨gb165, 0, none⟩ (.int .i64 t159)).setCell ⟨gb165, 1, none⟩ (.int .i64 t160)).setCell ⟨gb165, 2, none⟩ (.int .i64 t161)).setCell ⟨gb165, 3, none⟩ (.int .i64 t162)).setCell ⟨gb165, 4, none⟩ (.int .i64 t163)).setCell ⟨gb165, 5, none⟩ (.int .i64 t164)).heap[gb165]? = some (.cells #[.int .i64 t159, .int .i64 t160, .int .i64 t161, .int .i64 t162, .int .i64 t163, .int .i64 t164] 94 (0, 0))) := ⟨by (with_reducible repeat (first | apply zaC | apply zaF | apply zaB)); refine zaR (cs := #[.int .i64 t159, .int .i64 t160, .int .i64 t161, .int .i64 t162, .int .i64 t163, .int .i64 0]) ?_ 5 _ rfl; (with_reducible repeat (first | apply zaC | apply zaF | apply zaB)); refine zaR (cs := #[.int .i64 t159, .int .i64 t160, .int .i64 t161, .int .i64 t162, .int .i64 0, .int .i64 0]) ?_ 4 _ rfl; (with_reducible repeat (first | apply zaC | apply zaF | apply zaB)); refine zaR (cs := #[.int .i64 t159, .int .i64 t160, .int .i64 t161, .int .i64 0, .int .i64 0, .int .i64 0]) ?_ 3 _ rfl; (with_reducible repeat (first | apply zaC | apply zaF | apply zaB)); refine zaR (cs := #[.int .i64 t159, .int .i64 t160, .int .i64 0, .int .i64 0, .int .i64 0, .int .i64 0]) ?_ 2 _ rfl; (with_reducible repeat (first | apply zaC | apply zaF | apply zaB)); refine zaR (cs := #[.int .i64 t159, .int .i64 0, .int .i64 0, .int .i64 0, .int .i64 0, .int .i64 0]) ?_ 1 _ rfl; (with_reducible repeat (first | apply zaC | apply zaF | apply zaB)); refine zaR (cs := #[.int .i64 0, .int .i64 0, .int .i64 0, .int .i64 0, .int .i64 0, .int .i64 0]) ?_ 0 _ rfl; (with_reducible repeat (first | apply zaC | apply zaF | apply zaB)); exact BK165.out⟩
 have n3_ : Aside0 (Below w.heap.size w ((((((w12.setCell ⟨gb165, 0, none⟩ (.int .i64 t159)).setCell ⟨gb165, 1, none⟩ (.int .i64 t160)).setCell ⟨gb165, 2, none⟩ (.int .i64 t161)).setCell ⟨gb165, 3, none⟩ (.int .i64 t162)).setCell ⟨gb165, 4, none⟩ (.int .i64 t163)).setCell ⟨gb165, 5, none⟩ (.int .i64 t164))) := ⟨by repeat (first | (with_reducible first | exact HB.out | apply zaE | apply zaA | apply zaD | refine zaH ?_ GE151.out | refine zaH ?_ GE152.out | refine zaH ?_ GE165.out) | exact HB.out)⟩
 (try clear BK151)
 (try clear BK152)
 (try clear BK165)
 (try clear HB)
 generalize ((((((w12.setCell ⟨gb165, 0, none⟩ (.int .i64 t159)).setCell ⟨gb165, 1, none⟩ (.int .i64 t160)).setCell ⟨gb165, 2, none⟩ (.int .i64 t161)).setCell ⟨gb165, 3, none⟩ (.int .i64 t162)).setCell ⟨gb165, 4, none⟩ (.int .i64 t163)).setCell ⟨gb165, 5, none⟩ (.int .i64 t164)) = w16 at n0_ n1_ n2_ n3_ ⊢
 have BK151 := n0_
 have BK152 := n1_
 have BK165 := n2_
 have HB := n3_
 clear n0_ n1_ n2_ n3_
 have n0_ := zaO (zaF BK151.out)
 have n1_ := zaO (zaF BK152.out)
 have n2_ := zaO (zaF BK165.out)
 have n3_ := zaO (zaD HB.out)
 clear BK151
 clear BK152
 clear BK165
 clear HB
 have BK151 := n0_
 have BK152 := n1_
 have BK165 := n2_
 have HB := n3_
 clear n0_ n1_ n2_ n3_
 refine zdU (n := 12) (S := fun w' => w'.cell? ⟨gb165, 0, none⟩ = some (.int .i64 t159) ∧ w'.cell? ⟨gb165, 1, none⟩ = some (.int .i64 t160) ∧ w'.cell? ⟨gb165, 2, none⟩ = some (.int .i64 t161) ∧ w'.cell? ⟨gb165, 3, none⟩ = some (.int .i64 t162) ∧ w'.cell? ⟨gb165, 4, none⟩ = some (.int .i64 t163) ∧ w'.cell? ⟨gb165, 5, none⟩ = some (.int .i64 t164) ∧ w'.cell? ⟨gb151, 0, none⟩ = some (.int .i64 a1_0) ∧ w'.cell? ⟨gb151, 1, none⟩ = some (.int .i64 a1_1) ∧ w'.cell? ⟨gb151, 2, none⟩ = some (.int .i64 a1_2) ∧ w'.cell? ⟨gb151, 3, none⟩ = some (.int .i64 a1_3) ∧ w'.cell? ⟨gb151, 4, none⟩ = some (.int .i64 a1_4) ∧ w'.cell? ⟨gb151, 5, none⟩ = some (.int .i64 a1_5)) (ds := []) #[false, false, false, false, false, false, false, false, false, false, false, false] (by kernel_rfl) rfl rfl ⟨(zaI BK165.out 0).trans rfl, (zaI BK165.out 1).trans rfl, (zaI BK165.out 2).trans rfl, (zaI BK165.out 3).trans rfl, (zaI BK165.out 4).trans rfl, (zaI BK165.out 5).trans rfl, (zaI BK151.out 0).trans rfl, (zaI BK151.out 1).trans rfl, (zaI BK151.out 2).trans rfl, (zaI BK151.out 3).trans rfl, (zaI BK151.out 4).trans rfl, (zaI BK151.out 5).trans rfl⟩ (fun hHeld => ?_); refine zcT zcF.tab2 zcF.bits2 (fun HT_ HW_ => ?_)
 generalize w16.drew = w17 at BK151 BK152 BK165 HB hHeld ⊢
 refine zbL (i := 0) (N := some 9) (v := ?_) (a' := ?_) #[true, false, false, false, false, false, false, false, false, false, false, false] rfl rfl (zaY HT_.out (by kernel_rfl)) (fun _ _ _ h => h) (Or.inl ⟨by rfl, ?_⟩) ?_ ?_
 rotate_left
 ·intro w'
  go_simp
  with_reducible rfl
 rotate_left
 ·simp only [Act.put, List.setIfInBounds_toArray, List.set_cons_zero, List.set_cons_succ, zaT, zaU]
  rfl
 refine zbL (i := 2) (N := some 11) (v := ?_) (a' := ?_) #[true, false, true, false, false, false, false, false, false, false, false, false] rfl rfl (zaY HT_.out (by kernel_rfl)) (fun _ _ _ h => h) (Or.inl ⟨by rfl, ?_⟩) ?_ ?_
 rotate_left
 ·intro w'
  go_simp
  with_reducible rfl
 rotate_left
 ·simp only [Act.put, List.setIfInBounds_toArray, List.set_cons_zero, List.set_cons_succ, zaT, zaU]
  rfl
 refine zbL (i := 5) (N := some 14) (v := ?_) (a' := ?_) #[true, false, true, false, false, true, false, false, false, false, false, false] rfl rfl (zaY HT_.out (by kernel_rfl)) (fun _ _ _ h => h) (Or.inl ⟨by rfl, ?_⟩) ?_ ?_
 rotate_left
 ·intro w'
  go_simp
  with_reducible rfl
 rotate_left
 ·simp only [Act.put, List.setIfInBounds_toArray, List.set_cons_zero, List.set_cons_succ, zaT, zaU]
  rfl
 refine zbL (i := 7) (N := some 16) (v := ?_) (a' := ?_) #[true, false, true, false, false, true, false, true, false, false, false, false] rfl rfl (zaY HT_.out (by kernel_rfl)) (fun _ _ _ h => h) (Or.inl ⟨by rfl, ?_⟩) ?_ ?_
 rotate_left
 ·intro w'
  go_simp
  with_reducible rfl
 rotate_left
 ·simp only [Act.put, List.setIfInBounds_toArray, List.set_cons_zero, List.set_cons_succ, zaT, zaU]
  rfl
 refine take_ (i := 1) (N := some 10) (v := ?_) (a' := ?_) #[true, true, true, false, false, true, false, true, false, false, false, false] rfl rfl (zbU HT_.out HW_.out (by kernel_rfl)) (fun _ _ _ h => h) (Or.inl ⟨by rfl, ?_⟩) hHeld ?_ ?_
 rotate_left
 ·rintro w' ⟨s0, s1, s2, s3, s4, s5, s6, s7, s8, s9, s10, s11⟩
  go_simp
  with_reducible rfl
 rotate_left
 ·simp only [Act.put, List.setIfInBounds_toArray, List.set_cons_zero, List.set_cons_succ, zaT, zaU]
  rfl
 refine take_ (i := 3) (N := some 12) (v := ?_) (a' := ?_) #[true, true, true, true, false, true, false, true, false, false, false, false] rfl rfl (zbU HT_.out HW_.out (by kernel_rfl)) (fun _ _ _ h => h) (Or.inl ⟨by rfl, ?_⟩) hHeld ?_ ?_
 rotate_left
 ·rintro w' ⟨s0, s1, s2, s3, s4, s5, s6, s7, s8, s9, s10, s11⟩
  go_simp
  with_reducible rfl
 rotate_left
 ·simp only [Act.put, List.setIfInBounds_toArray, List.set_cons_zero, List.set_cons_succ, zaT, zaU]
  rfl
 refine take_ (i := 6) (N := some 15) (v := ?_) (a' := ?_) #[true, true, true, true, false, true, true, true, false, false, false, false] rfl rfl (zbU HT_.out HW_.out (by kernel_rfl)) (fun _ _ _ h => h) (Or.inl ⟨by rfl, ?_⟩) hHeld ?_ ?_
 rotate_left
 ·rintro w' ⟨s0, s1, s2, s3, s4, s5, s6, s7, s8, s9, s10, s11⟩
  go_simp
  with_reducible rfl
 rotate_left
 ·simp only [Act.put, List.setIfInBounds_toArray, List.set_cons_zero, List.set_cons_succ, zaT, zaU]
  rfl
 refine take_ (i := 8) (N := some 17) (v := ?_) (a' := ?_) #[true, true, true, true, false, true, true, true, true, false, false, false] rfl rfl (zbU HT_.out HW_.out (by kernel_rfl)) (fun _ _ _ h => h) (Or.inl ⟨by rfl, ?_⟩) hHeld ?_ ?_
 rotate_left
 ·rintro w' ⟨s0, s1, s2, s3, s4, s5, s6, s7, s8, s9, s10, s11⟩
  go_simp
  with_reducible rfl
 rotate_left
 ·simp only [Act.put, List.setIfInBounds_toArray, List.set_cons_zero, List.set_cons_succ, zaT, zaU]
  rfl
 refine zeX (i := 4) (N := some 13) #[true, true, true, true, true, true, true, true, true, false, false, false] rfl rfl (zcU HT_.out (by kernel_rfl)) (by decide) (fun K hK => ?_)
 refine zdI Tryd.func149 (by kernel_rfl) rfl #[.agg #[.int .i64 t159, .int .i64 t160, .int .i64 t161], .agg #[.int .i64 a1_0, .int .i64 a1_1, .int .i64 a1_2]] (by rfl) rfl rfl (by (try simp only [List.map_toArray, List.map_cons, List.map_nil]); first | done | rfl | (simp only [List.length_drop, List.length_take]; rfl)) ?_
 with_reducible refine (zcO.calls k t159 t160 t161 a1_0 a1_1 a1_2 t166 t167 t168 _ A5.out).mono ?_
 rintro e w18 ⟨rfl, hb⟩
 refine ⟨_, rfl, ?_⟩
 have n0_ := zaO (zaL (g := gb151) (o := .cells #[.int .i64 a1_0, .int .i64 a1_1, .int .i64 a1_2, .int .i64 a1_3, .int .i64 a1_4, .int .i64 a1_5] 94 (0, 0)) (by (with_reducible repeat (first | apply zaC | apply zaF | apply zaB)); exact BK151.out) hb)
 have n1_ := zaO (zaL (g := gb152) (o := .cells #[.int .i64 0, .int .i64 0, .int .i64 0] 92 (0, 0)) (by (with_reducible repeat (first | apply zaC | apply zaF | apply zaB)); exact BK152.out) hb)
 have n2_ := zaO (zaL (g := gb165) (o := .cells #[.int .i64 t159, .int .i64 t160, .int .i64 t161, .int .i64 t162, .int .i64 t163, .int .i64 t164] 94 (0, 0)) (by (with_reducible repeat (first | apply zaC | apply zaF | apply zaB)); exact BK165.out) hb)
 have n3_ := zaO (zaK (by repeat (first | (with_reducible first | exact HB.out | apply zaE | apply zaA | apply zaD | refine zaH ?_ GE151.out | refine zaH ?_ GE152.out | refine zaH ?_ GE165.out) | exact HB.out)) hb)
 clear BK151
 clear BK152
 clear BK165
 clear HB
 have BK151 := n0_
 have BK152 := n1_
 have BK165 := n2_
 have HB := n3_
 clear n0_ n1_ n2_ n3_
 (try clear hb)
 (try clear hb2)
 (try clear hk)
 (try clear hi)
 refine hK.out _ _ ⟨(zaI BK165.out 0).trans rfl, (zaI BK165.out 1).trans rfl, (zaI BK165.out 2).trans rfl, (zaI BK165.out 3).trans rfl, (zaI BK165.out 4).trans rfl, (zaI BK165.out 5).trans rfl, (zaI BK151.out 0).trans rfl, (zaI BK151.out 1).trans rfl, (zaI BK151.out 2).trans rfl, (zaI BK151.out 3).trans rfl, (zaI BK151.out 4).trans rfl, (zaI BK151.out 5).trans rfl⟩ (fun hHeld => ?_)
 clear hK K
 refine zdL (a' := ?_) ?_ ?_
 rotate_left
 ·show Act.put _ (some 13) _ = _
  simp only [Act.put, List.setIfInBounds_toArray, List.set_cons_zero, List.set_cons_succ, zaT, zaU]
  rfl
 refine zeX (i := 9) (N := some 18) #[true, true, true, true, true, true, true, true, true, true, false, false] rfl rfl (zcU HT_.out (by kernel_rfl)) (by decide) (fun K hK => ?_)
 refine zdI Tryd.func149 (by kernel_rfl) rfl #[.agg #[.int .i64 t162, .int .i64 t163, .int .i64 t164], .agg #[.int .i64 a1_3, .int .i64 a1_4, .int .i64 a1_5]] (by rfl) rfl rfl (by (try simp only [List.map_toArray, List.map_cons, List.map_nil]); first | done | rfl | (simp only [List.length_drop, List.length_take]; rfl)) ?_
 with_reducible refine (zcO.calls k t162 t163 t164 a1_3 a1_4 a1_5 t169 t170 t171 _ A6.out).mono ?_
 rintro e w19 ⟨rfl, hb⟩
 refine ⟨_, rfl, ?_⟩
 have n0_ := zaO (zaL (g := gb151) (o := .cells #[.int .i64 a1_0, .int .i64 a1_1, .int .i64 a1_2, .int .i64 a1_3, .int .i64 a1_4, .int .i64 a1_5] 94 (0, 0)) (by (with_reducible repeat (first | apply zaC | apply zaF | apply zaB)); exact BK151.out) hb)
 have n1_ := zaO (zaL (g := gb152) (o := .cells #[.int .i64 0, .int .i64 0, .int .i64 0] 92 (0, 0)) (by (with_reducible repeat (first | apply zaC | apply zaF | apply zaB)); exact BK152.out) hb)
 have n2_ := zaO (zaL (g := gb165) (o := .cells #[.int .i64 t159, .int .i64 t160, .int .i64 t161, .int .i64 t162, .int .i64 t163, .int .i64 t164] 94 (0, 0)) (by (with_reducible repeat (first | apply zaC | apply zaF | apply zaB)); exact BK165.out) hb)
 have n3_ := zaO (zaK (by repeat (first | (with_reducible first | exact HB.out | apply zaE | apply zaA | apply zaD | refine zaH ?_ GE151.out | refine zaH ?_ GE152.out | refine zaH ?_ GE165.out) | exact HB.out)) hb)
 clear BK151
 clear BK152
 clear BK165
 clear HB
 have BK151 := n0_
 have BK152 := n1_
 have BK165 := n2_
 have HB := n3_
 clear n0_ n1_ n2_ n3_
 (try clear hb)
 (try clear hb2)
 (try clear hk)
 (try clear hi)
 refine hK.out _ _ ⟨(zaI BK165.out 0).trans rfl, (zaI BK165.out 1).trans rfl, (zaI BK165.out 2).trans rfl, (zaI BK165.out 3).trans rfl, (zaI BK165.out 4).trans rfl, (zaI BK165.out 5).trans rfl, (zaI BK151.out 0).trans rfl, (zaI BK151.out 1).trans rfl, (zaI BK151.out 2).trans rfl, (zaI BK151.out 3).trans rfl, (zaI BK151.out 4).trans rfl, (zaI BK151.out 5).trans rfl⟩ (fun hHeld => ?_)
 clear hK K
 refine zdL (a' := ?_) ?_ ?_
 rotate_left
 ·show Act.put _ (some 18) _ = _
  simp only [Act.put, List.setIfInBounds_toArray, List.set_cons_zero, List.set_cons_succ, zaT, zaU]
  rfl
 refine zeX (i := 10) (N := some 19) #[true, true, true, true, true, true, true, true, true, true, true, false] rfl rfl (zcU HT_.out (by kernel_rfl)) (by decide) (fun K hK => ?_)
 refine zdI Tryd.func148 (by kernel_rfl) rfl #[.agg #[.int .i64 t166, .int .i64 t167, .int .i64 t168], .agg #[.int .i64 t169, .int .i64 t170, .int .i64 t171]] (by rfl) rfl rfl (by (try simp only [List.map_toArray, List.map_cons, List.map_nil]); first | done | rfl | (simp only [List.length_drop, List.length_take]; rfl)) ?_
 with_reducible refine (zbO.calls k t166 t167 t168 t169 t170 t171 t172 t173 t174 _ A7.out).mono ?_
 rintro e w20 ⟨rfl, hb⟩
 refine ⟨_, rfl, ?_⟩
 have n0_ := zaO (zaL (g := gb151) (o := .cells #[.int .i64 a1_0, .int .i64 a1_1, .int .i64 a1_2, .int .i64 a1_3, .int .i64 a1_4, .int .i64 a1_5] 94 (0, 0)) (by (with_reducible repeat (first | apply zaC | apply zaF | apply zaB)); exact BK151.out) hb)
 have n1_ := zaO (zaL (g := gb152) (o := .cells #[.int .i64 0, .int .i64 0, .int .i64 0] 92 (0, 0)) (by (with_reducible repeat (first | apply zaC | apply zaF | apply zaB)); exact BK152.out) hb)
 have n2_ := zaO (zaL (g := gb165) (o := .cells #[.int .i64 t159, .int .i64 t160, .int .i64 t161, .int .i64 t162, .int .i64 t163, .int .i64 t164] 94 (0, 0)) (by (with_reducible repeat (first | apply zaC | apply zaF | apply zaB)); exact BK165.out) hb)
 have n3_ := zaO (zaK (by repeat (first | (with_reducible first | exact HB.out | apply zaE | apply zaA | apply zaD | refine zaH ?_ GE151.out | refine zaH ?_ GE152.out | refine zaH ?_ GE165.out) | exact HB.out)) hb)
 clear BK151
 clear BK152
 clear BK165
 clear HB
 have BK151 := n0_
 have BK152 := n1_
 have BK165 := n2_
 have HB := n3_
 clear n0_ n1_ n2_ n3_
 (try clear hb)
 (try clear hb2)
 (try clear hk)
 (try clear hi)
 refine hK.out _ _ ⟨(zaI BK165.out 0).trans rfl, (zaI BK165.out 1).trans rfl, (zaI BK165.out 2).trans rfl, (zaI BK165.out 3).trans rfl, (zaI BK165.out 4).trans rfl, (zaI BK165.out 5).trans rfl, (zaI BK151.out 0).trans rfl, (zaI BK151.out 1).trans rfl, (zaI BK151.out 2).trans rfl, (zaI BK151.out 3).trans rfl, (zaI BK151.out 4).trans rfl, (zaI BK151.out 5).trans rfl⟩ (fun hHeld => ?_)
 clear hK K
 refine zdL (a' := ?_) ?_ ?_
 rotate_left
 ·show Act.put _ (some 19) _ = _
  simp only [Act.put, List.setIfInBounds_toArray, List.set_cons_zero, List.set_cons_succ, zaT, zaU]
  rfl
 refine zeX (i := 11) (N := none) #[true, true, true, true, true, true, true, true, true, true, true, true] rfl rfl (zcU HT_.out (by kernel_rfl)) (by decide) (fun K hK => ?_)
 have hs21 : w20.cell? ⟨gb152, 0, none⟩ = some (.int .i64 0) := (zaI BK152.out 0).trans rfl
 have hfs21 := zbM BK152.out 0
 have hns21_0 := NB151_152.out
 have hns21_2 := NB165_152.out
 have hms21_0 := NB152_151.out
 have hms21_2 := NB152_165.out
 have hs22 : w20.cell? ⟨gb152, 1, none⟩ = some (.int .i64 0) := (zaI BK152.out 1).trans rfl
 have hfs22 := zbM BK152.out 1
 have hns22_0 := NB151_152.out
 have hns22_2 := NB165_152.out
 have hms22_0 := NB152_151.out
 have hms22_2 := NB152_165.out
 have hs23 : w20.cell? ⟨gb152, 2, none⟩ = some (.int .i64 0) := (zaI BK152.out 2).trans rfl
 have hfs23 := zbM BK152.out 2
 have hns23_0 := NB151_152.out
 have hns23_2 := NB165_152.out
 have hms23_0 := NB152_151.out
 have hms23_2 := NB152_165.out
 refine skip_ (w1 := ?_) (by rfl) rfl ?_ ?_
 rotate_left
 ·go_simp
  rfl
 refine hK.out _ _ ⟨((zaJ (p := ⟨gb152, _, none⟩) NB165_152.out _).trans (((zaJ (p := ⟨gb152, _, none⟩) NB165_152.out _).trans (((zaJ (p := ⟨gb152, _, none⟩) NB165_152.out _).trans (hHeld.1)))))), ((zaJ (p := ⟨gb152, _, none⟩) NB165_152.out _).trans (((zaJ (p := ⟨gb152, _, none⟩) NB165_152.out _).trans (((zaJ (p := ⟨gb152, _, none⟩) NB165_152.out _).trans (hHeld.2.1)))))), ((zaJ (p := ⟨gb152, _, none⟩) NB165_152.out _).trans (((zaJ (p := ⟨gb152, _, none⟩) NB165_152.out _).trans (((zaJ (p := ⟨gb152, _, none⟩) NB165_152.out _).trans (hHeld.2.2.1)))))), ((zaJ (p := ⟨gb152, _, none⟩) NB165_152.out _).trans (((zaJ (p := ⟨gb152, _, none⟩) NB165_152.out _).trans (((zaJ (p := ⟨gb152, _, none⟩) NB165_152.out _).trans (hHeld.2.2.2.1)))))), ((zaJ (p := ⟨gb152, _, none⟩) NB165_152.out _).trans (((zaJ (p := ⟨gb152, _, none⟩) NB165_152.out _).trans (((zaJ (p := ⟨gb152, _, none⟩) NB165_152.out _).trans (hHeld.2.2.2.2.1)))))), ((zaJ (p := ⟨gb152, _, none⟩) NB165_152.out _).trans (((zaJ (p := ⟨gb152, _, none⟩) NB165_152.out _).trans (((zaJ (p := ⟨gb152, _, none⟩) NB165_152.out _).trans (hHeld.2.2.2.2.2.1)))))), ((zaJ (p := ⟨gb152, _, none⟩) NB151_152.out _).trans (((zaJ (p := ⟨gb152, _, none⟩) NB151_152.out _).trans (((zaJ (p := ⟨gb152, _, none⟩) NB151_152.out _).trans (hHeld.2.2.2.2.2.2.1)))))), ((zaJ (p := ⟨gb152, _, none⟩) NB151_152.out _).trans (((zaJ (p := ⟨gb152, _, none⟩) NB151_152.out _).trans (((zaJ (p := ⟨gb152, _, none⟩) NB151_152.out _).trans (hHeld.2.2.2.2.2.2.2.1)))))), ((zaJ (p := ⟨gb152, _, none⟩) NB151_152.out _).trans (((zaJ (p := ⟨gb152, _, none⟩) NB151_152.out _).trans (((zaJ (p := ⟨gb152, _, none⟩) NB151_152.out _).trans (hHeld.2.2.2.2.2.2.2.2.1)))))), ((zaJ (p := ⟨gb152, _, none⟩) NB151_152.out _).trans (((zaJ (p := ⟨gb152, _, none⟩) NB151_152.out _).trans (((zaJ (p := ⟨gb152, _, none⟩) NB151_152.out _).trans (hHeld.2.2.2.2.2.2.2.2.2.1)))))), ((zaJ (p := ⟨gb152, _, none⟩) NB151_152.out _).trans (((zaJ (p := ⟨gb152, _, none⟩) NB151_152.out _).trans (((zaJ (p := ⟨gb152, _, none⟩) NB151_152.out _).trans (hHeld.2.2.2.2.2.2.2.2.2.2.1)))))), ((zaJ (p := ⟨gb152, _, none⟩) NB151_152.out _).trans (((zaJ (p := ⟨gb152, _, none⟩) NB151_152.out _).trans (((zaJ (p := ⟨gb152, _, none⟩) NB151_152.out _).trans (hHeld.2.2.2.2.2.2.2.2.2.2.2))))))⟩ (fun hHeld => ?_)
 clear hK K
 refine done_ (zdJ HT_.out (by kernel_rfl)) ?_
 try go_wp2
 refine bodyPost_ret (results_cell_row rfl _ _ gb152 92 #[.int .i64 t172, .int .i64 t173, .int .i64 t174] (0, 0) _ rfl (by (with_reducible repeat (first | apply zaC | apply zaF | apply zaB)); refine zaR (cs := #[.int .i64 t172, .int .i64 t173, .int .i64 0]) ?_ 2 _ rfl; (with_reducible repeat (first | apply zaC | apply zaF | apply zaB)); refine zaR (cs := #[.int .i64 t172, .int .i64 0, .int .i64 0]) ?_ 1 _ rfl; (with_reducible repeat (first | apply zaC | apply zaF | apply zaB)); refine zaR (cs := #[.int .i64 0, .int .i64 0, .int .i64 0]) ?_ 0 _ rfl; (with_reducible repeat (first | apply zaC | apply zaF | apply zaB)); exact BK152.out) Tryd.underlying92 rfl (by kernel_rfl)) rfl ?_
 exact ⟨by first | rfl | (simp [zaN, zaM] <;> rfl) | (simp [*, zaN, zaM] <;> rfl), by repeat (first | (with_reducible first | exact HB.out | apply zaE | apply zaA | apply zaD | refine zaH ?_ GE151.out | refine zaH ?_ GE152.out | refine zaH ?_ GE165.out) | exact HB.out)⟩

def zdV.f (a0_0 : Int) (a0_1 : Int) (a0_2 : Int) : Option (Bool) := if a0_0 = 0 then (some (a0_1 == 0)) else (some false)
set_option maxHeartbeats 8000000 in
set_option maxRecDepth 100000 in
theorem zdV.calls (a0_0 : Int) (a0_1 : Int) (a0_2 : Int) (r : Bool) (w : World) (h : zdV.f a0_0 a0_1 a0_2 = some r) :
  Calls Tryd.prog 144 #[.agg #[.int .i64 a0_0, .int .i64 a0_1, .int .i64 a0_2]] w fun e w' => e = .returned (.bool r) ∧ Below w.heap.size w w' := by
 have hu92 := Tryd.underlying92
 have HB := zaO (Below.refl w.heap.size w)
 have H : (if a0_0 = 0 then (some (a0_1 == 0)) else (some false)) = some r := h
 clear h
 by_cases c2 : a0_0 = 0
 ·rw [if_pos c2] at H
  have c2b0 : (a0_0 == 0) = true := beq_iff_eq.mpr c2
  have c2b1 : (a0_0 != 0) = false := bne_eq_false_iff_eq.mpr c2
  clear c2
  obtain rfl := Option.some.inj H
  go_enter Tryd.func144, Tryd.ntmps144
  go_wp2_with (first | ((with_reducible refine zbC (N := 1) rfl ?_); refine zaW ?hg (N := 1) ?hd (cs := #[.int .i64 a0_0, .int .i64 a0_1, .int .i64 a0_2]) (t := 92) ?hr ?_; (case hd => rfl); (case hg => rfl); (case hr => first | (go_simp; done) | (go_simp; rfl)); intro gb175 hg w3 hbox hb; have n0_ := zaO (zaK (by repeat (first | (with_reducible first | exact HB.out | apply zaE | apply zaA | apply zaD) | exact HB.out)) hb); have n1_ := zaO (hbox); have n2_ := zaO ((by rw [hg]; exact (zaP (by repeat (first | (with_reducible first | exact HB.out | apply zaE | apply zaA | apply zaD) | exact HB.out))) : w.heap.size ≤ gb175)); have n3_ := n2_; clear HB; have HB := n0_; have BK175 := n1_; have GW175 := n2_; have GE175 := n3_; clear n0_ n1_ n2_ n3_; clear hb hbox hg; obtain ⟨hcz4_0, hcz4_1, hcz4_2⟩ := zeE BK175.out; obtain ⟨hfz4_0, hfz4_1, hfz4_2⟩ := zeD BK175.out))
  go_ret
  exact ⟨by first | rfl | (simp [zaN, zaM] <;> rfl) | (simp [*, zaN, zaM] <;> rfl), by repeat (first | (with_reducible first | exact HB.out | apply zaE | apply zaA | apply zaD | refine zaH ?_ GE175.out) | exact HB.out)⟩
 ·rw [if_neg c2] at H
  have c2b0 : (a0_0 == 0) = false := beq_eq_false_iff_ne.mpr c2
  have c2b1 : (a0_0 != 0) = true := bne_iff_ne.mpr c2
  obtain rfl := Option.some.inj H
  go_enter Tryd.func144, Tryd.ntmps144
  go_wp2_with (first | ((with_reducible refine zbC (N := 1) rfl ?_); refine zaW ?hg (N := 1) ?hd (cs := #[.int .i64 a0_0, .int .i64 a0_1, .int .i64 a0_2]) (t := 92) ?hr ?_; (case hd => rfl); (case hg => rfl); (case hr => first | (go_simp; done) | (go_simp; rfl)); intro gb175 hg w5 hbox hb; have n0_ := zaO (zaK (by repeat (first | (with_reducible first | exact HB.out | apply zaE | apply zaA | apply zaD) | exact HB.out)) hb); have n1_ := zaO (hbox); have n2_ := zaO ((by rw [hg]; exact (zaP (by repeat (first | (with_reducible first | exact HB.out | apply zaE | apply zaA | apply zaD) | exact HB.out))) : w.heap.size ≤ gb175)); have n3_ := n2_; clear HB; have HB := n0_; have BK175 := n1_; have GW175 := n2_; have GE175 := n3_; clear n0_ n1_ n2_ n3_; clear hb hbox hg; obtain ⟨hcz6_0, hcz6_1, hcz6_2⟩ := zeE BK175.out; obtain ⟨hfz6_0, hfz6_1, hfz6_2⟩ := zeD BK175.out))
  go_ret
  exact ⟨by first | rfl | (simp [zaN, zaM] <;> rfl) | (simp [*, zaN, zaM] <;> rfl), by repeat (first | (with_reducible first | exact HB.out | apply zaE | apply zaA | apply zaD | refine zaH ?_ GE175.out) | exact HB.out)⟩

end Go.Proofs.YtmajpmofeddknaaDoor.PFnExactValidPolygon
