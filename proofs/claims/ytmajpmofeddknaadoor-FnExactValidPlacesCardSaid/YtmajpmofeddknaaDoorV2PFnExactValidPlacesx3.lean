-- Printed for this claim by this session's program pp.py, which drives the kit's print with additions. Not trusted: Lean checks it.
import Derived.Test.YtmajpmofeddknaaDoorV2PFnExactValidPlacesx0
import Derived.Test.YtmajpmofeddknaaDoorV2PFnExactValidPlacesx2
namespace Go.Proofs.YtmajpmofeddknaaDoor.PFnExactValidPlaces
open Go.RowKit Go.Proofs.YtmajpmofeddknaaDoorW.PrintWords Go.Proofs.YtmajpmofeddknaaDoorW.PrintLast Go.Proofs.YtmajpmofeddknaaDoorW.PrintMore
attribute [local go_sem] zbB ziC zrC zhD znE zuB znH zkT   -- for this text's walks alone
set_option linter.unusedVariables false
set_option linter.unusedSimpArgs false

mutual
def zxR.j0 : Nat → Bool → Int → Int → Int → Option (Int)
 | 0, _, _, _, _ => none
 | k + 1, x3, x138000, x138001, x138002 => if x3 = true then (some 0) else (if x138000 ≥ 0 then (zxR.j1 k (decide (x138001 ≥ 0)) x138000 x138001 x138002) else (zxR.j1 k false x138000 x138001 x138002))
def zxR.j1 : Nat → Bool → Int → Int → Int → Option (Int)
 | 0, _, _, _, _ => none
 | k + 1, x12, x138000, x138001, x138002 => if x12 = true then (some 1) else (if x138000 ≤ 0 then (zxR.j2 k (decide (x138001 ≤ 0)) x138000 x138001 x138002) else (zxR.j2 k false x138000 x138001 x138002))
def zxR.j2 : Nat → Bool → Int → Int → Int → Option (Int)
 | 0, _, _, _, _ => none
 | k + 1, x21, x138000, x138001, x138002 => if x21 = true then (some (-1)) else ((zoU.f x138000 x138001).bind fun t138 => (if (t138 == (decide (x138001 > 0))) = true then (some 1) else (some (-1))))
end
def zxR.f (k : Nat) (a0_0 : Int) (a0_1 : Int) (a0_2 : Int) : Option (Int) := if a0_0 = 0 then (zxR.j0 k (a0_1 == 0) a0_0 a0_1 a0_2) else (zxR.j0 k false a0_0 a0_1 a0_2)
theorem zxR.mono_l : ∀ k, (∀ y0 y1 y2 y3, LeO (zxR.j0 k y0 y1 y2 y3) (zxR.j0 (k + 1) y0 y1 y2 y3)) ∧ (∀ y0 y1 y2 y3, LeO (zxR.j1 k y0 y1 y2 y3) (zxR.j1 (k + 1) y0 y1 y2 y3)) ∧ (∀ y0 y1 y2 y3, LeO (zxR.j2 k y0 y1 y2 y3) (zxR.j2 (k + 1) y0 y1 y2 y3))
 | 0 => ⟨fun _ _ _ _ r h => by simp [zxR.j0] at h, fun _ _ _ _ r h => by simp [zxR.j1] at h, fun _ _ _ _ r h => by simp [zxR.j2] at h⟩
 | k + 1 => by
  obtain ⟨ih0, ih1, ih2⟩ := zxR.mono_l k
  refine ⟨?_, ?_, ?_⟩
  ·intro y0 y1 y2 y3
   unfold zxR.j0
   repeat' first
   | (with_reducible exact ih0 _ _ _ _)
   | (with_reducible exact ih1 _ _ _ _)
   | (with_reducible exact ih2 _ _ _ _)
   | (with_reducible exact LeO.refl _)
   | (with_reducible exact LeO.none _)
   | (with_reducible refine LeO.ite ?_ ?_)
   | (with_reducible refine LeO.bind ?_ (fun _ => ?_))
   | exact ih0 _ _ _ _
   | exact ih1 _ _ _ _
   | exact ih2 _ _ _ _
   | exact LeO.none _
   | refine LeO.ite ?_ ?_
   | refine LeO.bind ?_ (fun _ => ?_)
  ·intro y0 y1 y2 y3
   unfold zxR.j1
   repeat' first
   | (with_reducible exact ih0 _ _ _ _)
   | (with_reducible exact ih1 _ _ _ _)
   | (with_reducible exact ih2 _ _ _ _)
   | (with_reducible exact LeO.refl _)
   | (with_reducible exact LeO.none _)
   | (with_reducible refine LeO.ite ?_ ?_)
   | (with_reducible refine LeO.bind ?_ (fun _ => ?_))
   | exact ih0 _ _ _ _
   | exact ih1 _ _ _ _
   | exact ih2 _ _ _ _
   | exact LeO.none _
   | refine LeO.ite ?_ ?_
   | refine LeO.bind ?_ (fun _ => ?_)
  ·intro y0 y1 y2 y3
   unfold zxR.j2
   repeat' first
   | (with_reducible exact ih0 _ _ _ _)
   | (with_reducible exact ih1 _ _ _ _)
   | (with_reducible exact ih2 _ _ _ _)
   | (with_reducible exact LeO.refl _)
   | (with_reducible exact LeO.none _)
   | (with_reducible refine LeO.ite ?_ ?_)
   | (with_reducible refine LeO.bind ?_ (fun _ => ?_))
   | exact ih0 _ _ _ _
   | exact ih1 _ _ _ _
   | exact ih2 _ _ _ _
   | exact LeO.none _
   | refine LeO.ite ?_ ?_
   | refine LeO.bind ?_ (fun _ => ?_)
theorem zxR.mono : ∀ a0 a1 a2 k, LeO (zxR.f k a0 a1 a2) (zxR.f (k + 1) a0 a1 a2) := by
 intro a0 a1 a2 k
 obtain ⟨ih0, ih1, ih2⟩ := zxR.mono_l k
 unfold zxR.f
 repeat' first
   | (with_reducible exact ih0 _ _ _ _)
   | (with_reducible exact ih1 _ _ _ _)
   | (with_reducible exact ih2 _ _ _ _)
   | (with_reducible exact LeO.refl _)
   | (with_reducible exact LeO.none _)
   | (with_reducible refine LeO.ite ?_ ?_)
   | (with_reducible refine LeO.bind ?_ (fun _ => ?_))
   | exact ih0 _ _ _ _
   | exact ih1 _ _ _ _
   | exact ih2 _ _ _ _
   | exact LeO.none _
   | refine LeO.ite ?_ ?_
   | refine LeO.bind ?_ (fun _ => ?_)
set_option maxHeartbeats 8000000 in
set_option maxRecDepth 100000 in
theorem zxR.calls (k : Nat) (a0_0 : Int) (a0_1 : Int) (a0_2 : Int) (r : Int) (w : World) (h : zxR.f k a0_0 a0_1 a0_2 = some r) :
  Calls Tryd.prog 112 #[.agg #[.int .i64 a0_0, .int .i64 a0_1, .int .i64 a0_2]] w fun e w' => e = .returned (.int .i64 r) ∧ Below w.heap.size w w' := by
 have hu92 := Tryd.underlying92
 have HB := zpS (Below.refl w.heap.size w)
 have H : (if a0_0 = 0 then (zxR.j0 k (a0_1 == 0) a0_0 a0_1 a0_2) else (zxR.j0 k false a0_0 a0_1 a0_2)) = some r := h
 clear h
 have HC2 := zpS H
 clear H
 go_enter Tryd.func112, Tryd.ntmps112
 go_upto_region 1 with (first | ((with_reducible refine zpZ (N := 1) rfl ?_); refine bx_ 1 #[.int .i64 a0_0, .int .i64 a0_1, .int .i64 a0_2] 92 ?_; intro gb137 hg w3 hbox hb; have n0_ := (ns_ hb); have n1_ := zpS (hbox); have n2_ := (ng_ hg); have n3_ := n2_; clear HB; have HB := n0_; have BK137 := n1_; have GW137 := n2_; have GE137 := n3_; clear n0_ n1_ n2_ n3_; clear hb hbox hg))
 repeat (go_quiet (first | ((with_reducible refine zpZ (N := 1) rfl ?_); refine bx_ 1 #[.int .i64 a0_0, .int .i64 a0_1, .int .i64 a0_2] 92 ?_; intro gb137 hg w3 hbox hb; have n0_ := (ns_ hb); have n1_ := zpS (hbox); have n2_ := (ng_ hg); have n3_ := n2_; clear HB; have HB := n0_; have BK137 := n1_; have GW137 := n2_; have GE137 := n3_; clear n0_ n1_ n2_ n3_; clear hb hbox hg)); go_upto_region 1 with (first | ((with_reducible refine zpZ (N := 1) rfl ?_); refine bx_ 1 #[.int .i64 a0_0, .int .i64 a0_1, .int .i64 a0_2] 92 ?_; intro gb137 hg w3 hbox hb; have n0_ := (ns_ hb); have n1_ := zpS (hbox); have n2_ := (ng_ hg); have n3_ := n2_; clear HB; have HB := n0_; have BK137 := n1_; have GW137 := n2_; have GE137 := n3_; clear n0_ n1_ n2_ n3_; clear hb hbox hg)))
 (try simp only [Act.put, set_a_, set_b_, set_c_])
 go_cut [3] (fun v3 wc => ∃ (kq : Nat) (x3_1 : Bool), v3 = .bool x3_1 ∧ Aside0 (zxR.j0 kq x3_1 a0_0 a0_1 a0_2 = some r) ∧ Aside0 (kq ≤ k) ∧ Aside0 (wc.heap[gb137]? = some (.cells #[.int .i64 a0_0, .int .i64 a0_1, .int .i64 a0_2] 92 (0, 0))) ∧ Aside0 (Below w.heap.size w wc))
 case first =>
  have H := HC2.out
  clear HC2
  by_cases c4 : a0_0 = 0
  ·rw [if_pos c4] at H
   have c4b0 : (a0_0 == 0) = true := beq_iff_eq.mpr c4
   have c4b1 : (a0_0 != 0) = false := bne_eq_false_iff_eq.mpr c4
   clear c4
   (first | rw [c4b0] | (simp only [zcM, ziJ]; rw [c4b0]) | skip)
   have H' := zpS H
   clear H
   obtain ⟨hcz5_0, hcz5_1, hcz5_2⟩ := zdT BK137.out
   obtain ⟨hfz5_0, hfz5_1, hfz5_2⟩ := zqD BK137.out
   go_wp2
   repeat (go_quiet (fail); try go_wp2)
   go_meet
   case rel => exact ⟨_, ((a0_1 == 0)), (by first | rfl | (simp; done) | (simp [*]; done)), H', ⟨by first | omega | exact Nat.le_refl _⟩, ⟨bk_⟩, ⟨bb_⟩⟩
  ·rw [if_neg c4] at H
   have c4b0 : (a0_0 == 0) = false := beq_eq_false_iff_ne.mpr c4
   have c4b1 : (a0_0 != 0) = true := bne_iff_ne.mpr c4
   (first | rw [c4b0] | (simp only [zcM, ziJ]; rw [c4b0]) | skip)
   have H' := zpS H
   clear H
   obtain ⟨hcz6_0, hcz6_1, hcz6_2⟩ := zdT BK137.out
   obtain ⟨hfz6_0, hfz6_1, hfz6_2⟩ := zqD BK137.out
   go_wp2
   repeat (go_quiet (fail); try go_wp2)
   go_meet
   case rel => exact ⟨_, (false), (by first | rfl | (simp; done) | (simp [*]; done)), H', ⟨by first | omega | exact Nat.le_refl _⟩, ⟨bk_⟩, ⟨bb_⟩⟩
 case rest =>
  clear HC2
  try clear c1
  try clear p2
  try clear c4
  try clear c4b0
  try clear c4b1
  try clear hcz5_0
  try clear hcz5_1
  try clear hcz5_2
  try clear hcz6_0
  try clear hcz6_1
  try clear hcz6_2
  try clear hfz5_0
  try clear hfz5_1
  try clear hfz5_2
  try clear hfz6_0
  try clear hfz6_1
  try clear hfz6_2
  obtain ⟨kq, x3_1, rfl, HA, HJ1, BK137, HB⟩ := hcut
  cases kq with
  | zero => exact absurd HA.out (by simp [zxR.j0])
  | succ kj1 =>
   have H := HA.out
   clear HA
   simp only [zxR.j0] at H
   by_cases c7 : x3_1 = true
   ·subst c7
    have H1 : (some 0) = some r := by rw [if_pos rfl] at H; exact H
    clear H
    have H := H1
    clear H1
    obtain rfl := Option.some.inj H
    go_wp2
    repeat (go_quiet (fail); try go_wp2)
    go_ret
    exact ⟨by first | rfl | (simp [ziS, znJ] <;> rfl) | (simp [*, ziS, znJ] <;> rfl), bb_⟩
   ·replace c7 := Bool.eq_false_iff.mpr c7
    subst c7
    have H1 : (if a0_0 ≥ 0 then (zxR.j1 kj1 (decide (a0_1 ≥ 0)) a0_0 a0_1 a0_2) else (zxR.j1 kj1 false a0_0 a0_1 a0_2)) = some r := by rw [if_neg (show ¬ (false = true) by decide)] at H; exact H
    clear H
    have H := H1
    clear H1
    have HC8 := zpS H
    clear H
    go_upto_region 3 with (fail)
    repeat (go_quiet (fail); go_upto_region 3 with (fail))
    go_cut [12] (fun v12 wc => ∃ (kq : Nat) (x12_7 : Bool), v12 = .bool x12_7 ∧ Aside0 (zxR.j1 kq x12_7 a0_0 a0_1 a0_2 = some r) ∧ Aside0 (kq ≤ kj1) ∧ Aside0 (wc.heap[gb137]? = some (.cells #[.int .i64 a0_0, .int .i64 a0_1, .int .i64 a0_2] 92 (0, 0))) ∧ Aside0 (Below w.heap.size w wc))
    case first =>
     have H := HC8.out
     clear HC8
     by_cases c9 : a0_0 ≥ 0
     ·rw [if_pos c9] at H
      have c9b0 : decide (0 ≤ a0_0) = true := decide_eq_true c9
      clear c9
      (first | rw [c9b0] | (simp only [zcM, ziJ]; rw [c9b0]) | skip)
      have H' := zpS H
      clear H
      obtain ⟨hcz10_0, hcz10_1, hcz10_2⟩ := zdT BK137.out
      obtain ⟨hfz10_0, hfz10_1, hfz10_2⟩ := zqD BK137.out
      go_wp2
      repeat (go_quiet (fail); try go_wp2)
      go_meet
      case rel => exact ⟨_, (decide (a0_1 ≥ 0)), (by first | rfl | (simp; done) | (simp [*]; done)), H', ⟨by have := HJ1.out; first | omega | exact Nat.le_refl _⟩, ⟨bk_⟩, ⟨bb_⟩⟩
     ·rw [if_neg c9] at H
      have c9b0 : decide (0 ≤ a0_0) = false := decide_eq_false c9
      clear c9
      (first | rw [c9b0] | (simp only [zcM, ziJ]; rw [c9b0]) | skip)
      have H' := zpS H
      clear H
      obtain ⟨hcz11_0, hcz11_1, hcz11_2⟩ := zdT BK137.out
      obtain ⟨hfz11_0, hfz11_1, hfz11_2⟩ := zqD BK137.out
      go_wp2
      repeat (go_quiet (fail); try go_wp2)
      go_meet
      case rel => exact ⟨_, (false), (by first | rfl | (simp; done) | (simp [*]; done)), H', ⟨by have := HJ1.out; first | omega | exact Nat.le_refl _⟩, ⟨bk_⟩, ⟨bb_⟩⟩
    case rest =>
     clear HC8
     try clear c1
     try clear p2
     try clear c4
     try clear c4b0
     try clear c4b1
     try clear c7
     try clear c9
     try clear c9b0
     try clear c11
     try clear hcz10_0
     try clear hcz10_1
     try clear hcz10_2
     try clear hcz11_0
     try clear hcz11_1
     try clear hcz11_2
     try clear hcz5_0
     try clear hcz5_1
     try clear hcz5_2
     try clear hcz6_0
     try clear hcz6_1
     try clear hcz6_2
     try clear hfz10_0
     try clear hfz10_1
     try clear hfz10_2
     try clear hfz11_0
     try clear hfz11_1
     try clear hfz11_2
     try clear hfz5_0
     try clear hfz5_1
     try clear hfz5_2
     try clear hfz6_0
     try clear hfz6_1
     try clear hfz6_2
     try clear p2
     obtain ⟨kq, x12_7, rfl, HA, HJ7, BK137, HB⟩ := hcut
     cases kq with
     | zero => exact absurd HA.out (by simp [zxR.j1])
     | succ kj7 =>
      have H := HA.out
      clear HA
      simp only [zxR.j1] at H
      by_cases c12 : x12_7 = true
      ·subst c12
       have H1 : (some 1) = some r := by rw [if_pos rfl] at H; exact H
       clear H
       have H := H1
       clear H1
       obtain rfl := Option.some.inj H
       go_wp2
       repeat (go_quiet (fail); try go_wp2)
       go_ret
       exact ⟨by first | rfl | (simp [ziS, znJ] <;> rfl) | (simp [*, ziS, znJ] <;> rfl), bb_⟩
      ·replace c12 := Bool.eq_false_iff.mpr c12
       subst c12
       have H1 : (if a0_0 ≤ 0 then (zxR.j2 kj7 (decide (a0_1 ≤ 0)) a0_0 a0_1 a0_2) else (zxR.j2 kj7 false a0_0 a0_1 a0_2)) = some r := by rw [if_neg (show ¬ (false = true) by decide)] at H; exact H
       clear H
       have H := H1
       clear H1
       have HC13 := zpS H
       clear H
       go_upto_region 5 with (fail)
       repeat (go_quiet (fail); go_upto_region 5 with (fail))
       go_cut [21] (fun v21 wc => ∃ (kq : Nat) (x21_12 : Bool), v21 = .bool x21_12 ∧ Aside0 (zxR.j2 kq x21_12 a0_0 a0_1 a0_2 = some r) ∧ Aside0 (kq ≤ kj7) ∧ Aside0 (wc.heap[gb137]? = some (.cells #[.int .i64 a0_0, .int .i64 a0_1, .int .i64 a0_2] 92 (0, 0))) ∧ Aside0 (Below w.heap.size w wc))
       case first =>
        have H := HC13.out
        clear HC13
        by_cases c14 : a0_0 ≤ 0
        ·rw [if_pos c14] at H
         have c14b0 : decide (a0_0 ≤ 0) = true := decide_eq_true c14
         clear c14
         (first | rw [c14b0] | (simp only [zcM, ziJ]; rw [c14b0]) | skip)
         have H' := zpS H
         clear H
         obtain ⟨hcz15_0, hcz15_1, hcz15_2⟩ := zdT BK137.out
         obtain ⟨hfz15_0, hfz15_1, hfz15_2⟩ := zqD BK137.out
         go_wp2
         repeat (go_quiet (fail); try go_wp2)
         go_meet
         case rel => exact ⟨_, (decide (a0_1 ≤ 0)), (by first | rfl | (simp; done) | (simp [*]; done)), H', ⟨by have := HJ1.out; have := HJ7.out; first | omega | exact Nat.le_refl _⟩, ⟨bk_⟩, ⟨bb_⟩⟩
        ·rw [if_neg c14] at H
         have c14b0 : decide (a0_0 ≤ 0) = false := decide_eq_false c14
         clear c14
         (first | rw [c14b0] | (simp only [zcM, ziJ]; rw [c14b0]) | skip)
         have H' := zpS H
         clear H
         obtain ⟨hcz16_0, hcz16_1, hcz16_2⟩ := zdT BK137.out
         obtain ⟨hfz16_0, hfz16_1, hfz16_2⟩ := zqD BK137.out
         go_wp2
         repeat (go_quiet (fail); try go_wp2)
         go_meet
         case rel => exact ⟨_, (false), (by first | rfl | (simp; done) | (simp [*]; done)), H', ⟨by have := HJ1.out; have := HJ7.out; first | omega | exact Nat.le_refl _⟩, ⟨bk_⟩, ⟨bb_⟩⟩
       case rest =>
        clear HC13
        try clear c1
        try clear p2
        try clear c4
        try clear c4b0
        try clear c4b1
        try clear c7
        try clear c9
        try clear c9b0
        try clear c11
        try clear c12
        try clear c14
        try clear c14b0
        try clear hcz10_0
        try clear hcz10_1
        try clear hcz10_2
        try clear hcz11_0
        try clear hcz11_1
        try clear hcz11_2
        try clear hcz15_0
        try clear hcz15_1
        try clear hcz15_2
        try clear hcz16_0
        try clear hcz16_1
        try clear hcz16_2
        try clear hcz5_0
        try clear hcz5_1
        try clear hcz5_2
        try clear hcz6_0
        try clear hcz6_1
        try clear hcz6_2
        try clear hfz10_0
        try clear hfz10_1
        try clear hfz10_2
        try clear hfz11_0
        try clear hfz11_1
        try clear hfz11_2
        try clear hfz15_0
        try clear hfz15_1
        try clear hfz15_2
        try clear hfz16_0
        try clear hfz16_1
        try clear hfz16_2
        try clear hfz5_0
        try clear hfz5_1
        try clear hfz5_2
        try clear hfz6_0
        try clear hfz6_1
        try clear hfz6_2
        try clear p2
        obtain ⟨kq, x21_12, rfl, HA, HJ12, BK137, HB⟩ := hcut
        cases kq with
        | zero => exact absurd HA.out (by simp [zxR.j2])
        | succ kj12 =>
         have H := HA.out
         clear HA
         simp only [zxR.j2] at H
         by_cases c17 : x21_12 = true
         ·subst c17
          have H1 : (some (-1)) = some r := by rw [if_pos rfl] at H; exact H
          clear H
          have H := H1
          clear H1
          obtain rfl := Option.some.inj H
          go_wp2
          repeat (go_quiet (fail); try go_wp2)
          go_ret
          exact ⟨by first | rfl | (simp [ziS, znJ] <;> rfl) | (simp [*, ziS, znJ] <;> rfl), bb_⟩
         ·replace c17 := Bool.eq_false_iff.mpr c17
          subst c17
          have H1 : ((zoU.f a0_0 a0_1).bind fun t138 => (if (t138 == (decide (a0_1 > 0))) = true then (some 1) else (some (-1)))) = some r := by rw [if_neg (show ¬ (false = true) by decide)] at H; exact H
          clear H
          have H := H1
          clear H1
          replace H := Option.bind_eq_some_iff.mp H
          obtain ⟨t138, A180, H⟩ := H
          replace H : (if (t138 == (decide (a0_1 > 0))) = true then (some 1) else (some (-1))) = some r := H
          have A18 := zpS A180
          clear A180
          by_cases c19 : (t138 == (decide (a0_1 > 0))) = true
          ·rw [if_pos c19] at H
           have c19b0 : (t138 == (decide (a0_1 > 0))) = true := c19
           (try (have c19b1 : decide (t138 = (decide (a0_1 > 0))) = true := by simpa using c19))
           (try (have c19b2 : (t138 == (decide (a0_1 > 0))) = true := by simpa using c19))
           clear c19
           obtain rfl := Option.some.inj H
           obtain ⟨hcz20_0, hcz20_1, hcz20_2⟩ := zdT BK137.out
           obtain ⟨hfz20_0, hfz20_1, hfz20_2⟩ := zqD BK137.out
           go_wp2_with (first | (go_at_call 146; (with_reducible refine (zoU.calls a0_0 a0_1 t138 _ A18.out).mono ?_); rintro e w' ⟨rfl, ⟨nd, rfl⟩⟩; (try first | exact ⟨rfl, _, World.drewN_drewN _ _ _⟩ | exact ⟨rfl, _, Eq.trans (World.drewN_drewN _ _ _) (congrArg (World.drewN _) (Nat.add_assoc _ _ _))⟩)))
           repeat (go_quiet (first | (go_at_call 146; (with_reducible refine (zoU.calls a0_0 a0_1 t138 _ A18.out).mono ?_); rintro e w' ⟨rfl, ⟨nd, rfl⟩⟩; (try first | exact ⟨rfl, _, World.drewN_drewN _ _ _⟩ | exact ⟨rfl, _, Eq.trans (World.drewN_drewN _ _ _) (congrArg (World.drewN _) (Nat.add_assoc _ _ _))⟩))); try go_wp2_with (first | (go_at_call 146; (with_reducible refine (zoU.calls a0_0 a0_1 t138 _ A18.out).mono ?_); rintro e w' ⟨rfl, ⟨nd, rfl⟩⟩; (try first | exact ⟨rfl, _, World.drewN_drewN _ _ _⟩ | exact ⟨rfl, _, Eq.trans (World.drewN_drewN _ _ _) (congrArg (World.drewN _) (Nat.add_assoc _ _ _))⟩))))
           go_ret
           exact ⟨by first | rfl | (simp [ziS, znJ] <;> rfl) | (simp [*, ziS, znJ] <;> rfl), bb_⟩
          ·rw [if_neg c19] at H
           have c19b0 : (t138 == (decide (a0_1 > 0))) = false := by simpa using c19
           (try (have c19b1 : decide (t138 = (decide (a0_1 > 0))) = false := by simpa using c19))
           (try (have c19b2 : (t138 == (decide (a0_1 > 0))) = false := by simpa using c19))
           (try (have c19b3 : ¬ (t138 = (decide (a0_1 > 0))) := by simpa using c19))
           clear c19
           obtain rfl := Option.some.inj H
           obtain ⟨hcz21_0, hcz21_1, hcz21_2⟩ := zdT BK137.out
           obtain ⟨hfz21_0, hfz21_1, hfz21_2⟩ := zqD BK137.out
           go_wp2_with (first | (go_at_call 146; (with_reducible refine (zoU.calls a0_0 a0_1 t138 _ A18.out).mono ?_); rintro e w' ⟨rfl, ⟨nd, rfl⟩⟩; (try first | exact ⟨rfl, _, World.drewN_drewN _ _ _⟩ | exact ⟨rfl, _, Eq.trans (World.drewN_drewN _ _ _) (congrArg (World.drewN _) (Nat.add_assoc _ _ _))⟩)))
           repeat (go_quiet (first | (go_at_call 146; (with_reducible refine (zoU.calls a0_0 a0_1 t138 _ A18.out).mono ?_); rintro e w' ⟨rfl, ⟨nd, rfl⟩⟩; (try first | exact ⟨rfl, _, World.drewN_drewN _ _ _⟩ | exact ⟨rfl, _, Eq.trans (World.drewN_drewN _ _ _) (congrArg (World.drewN _) (Nat.add_assoc _ _ _))⟩))); try go_wp2_with (first | (go_at_call 146; (with_reducible refine (zoU.calls a0_0 a0_1 t138 _ A18.out).mono ?_); rintro e w' ⟨rfl, ⟨nd, rfl⟩⟩; (try first | exact ⟨rfl, _, World.drewN_drewN _ _ _⟩ | exact ⟨rfl, _, Eq.trans (World.drewN_drewN _ _ _) (congrArg (World.drewN _) (Nat.add_assoc _ _ _))⟩))))
           go_ret
           exact ⟨by first | rfl | (simp [ziS, znJ] <;> rfl) | (simp [*, ziS, znJ] <;> rfl), bb_⟩

def ziB.f (a0 : Int) : Option (Int) := some (Int.tmod (wrap64 ((Int.tmod a0 16) + 16)) 16)
set_option maxHeartbeats 8000000 in
set_option maxRecDepth 100000 in
theorem ziB.calls (a0 : Int) (r : Int) (w : World) (h : ziB.f a0 = some r) :
  Calls Tryd.prog 103 #[.int .i64 a0] w fun e w' => e = .returned (.int .i64 r) ∧ Drawn0 w w' := by
 have H : (some (Int.tmod (wrap64 ((Int.tmod a0 16) + 16)) 16)) = some r := h
 clear h
 obtain rfl := Option.some.inj H
 go_enter Tryd.func103, Tryd.ntmps103
 go_wp2
 go_ret
 exact ⟨by first | rfl | (simp; done) | (simp [*]; done), by repeat (first | exact Drawn0.refl _ | apply Drawn0.step)⟩

def zqB.f (a0 : Int) : Option (Int × Int × Int × Int × Int × Int) := (some (([(⟨(⟨1, 0, 0⟩ : S34), (⟨0, 0, 0⟩ : S34)⟩ : S36), (⟨(⟨1, 0, 0⟩ : S34), (⟨(-1), 1, 0⟩ : S34)⟩ : S36), (⟨(⟨1, 0, 0⟩ : S34), (⟨1, 0, 0⟩ : S34)⟩ : S36), (⟨(⟨(-1), 1, 0⟩ : S34), (⟨1, 0, 0⟩ : S34)⟩ : S36), (⟨(⟨0, 0, 0⟩ : S34), (⟨1, 0, 0⟩ : S34)⟩ : S36), (⟨(⟨1, (-1), 0⟩ : S34), (⟨1, 0, 0⟩ : S34)⟩ : S36), (⟨(⟨(-1), 0, 0⟩ : S34), (⟨1, 0, 0⟩ : S34)⟩ : S36), (⟨(⟨(-1), 0, 0⟩ : S34), (⟨(-1), 1, 0⟩ : S34)⟩ : S36)] : List (S36)) : List (S36))).bind fun y102 => ((ziB.f a0).bind fun t105 => (if 0 ≤ (Int.tmod t105 8) then (if (Int.tmod t105 8) < (y102.length : Int) then (if t105 ≥ 8 then (some (wrap64 (-((ztO y102 (Int.tmod t105 8)).f0.f0)), wrap64 (-((ztO y102 (Int.tmod t105 8)).f0.f1)), 0, wrap64 (-((ztO y102 (Int.tmod t105 8)).f1.f0)), wrap64 (-((ztO y102 (Int.tmod t105 8)).f1.f1)), 0)) else (some ((ztO y102 (Int.tmod t105 8)).f0.f0, (ztO y102 (Int.tmod t105 8)).f0.f1, (ztO y102 (Int.tmod t105 8)).f0.f2, (ztO y102 (Int.tmod t105 8)).f1.f0, (ztO y102 (Int.tmod t105 8)).f1.f1, (ztO y102 (Int.tmod t105 8)).f1.f2))) else (none)) else (none)))
def lv8 : List S36 := ([(⟨(⟨1, 0, 0⟩ : S34), (⟨0, 0, 0⟩ : S34)⟩ : S36), (⟨(⟨1, 0, 0⟩ : S34), (⟨(-1), 1, 0⟩ : S34)⟩ : S36), (⟨(⟨1, 0, 0⟩ : S34), (⟨1, 0, 0⟩ : S34)⟩ : S36), (⟨(⟨(-1), 1, 0⟩ : S34), (⟨1, 0, 0⟩ : S34)⟩ : S36), (⟨(⟨0, 0, 0⟩ : S34), (⟨1, 0, 0⟩ : S34)⟩ : S36), (⟨(⟨1, (-1), 0⟩ : S34), (⟨1, 0, 0⟩ : S34)⟩ : S36), (⟨(⟨(-1), 0, 0⟩ : S34), (⟨1, 0, 0⟩ : S34)⟩ : S36), (⟨(⟨(-1), 0, 0⟩ : S34), (⟨(-1), 1, 0⟩ : S34)⟩ : S36)] : List (S36))
theorem lv8_C (W : World) : Kd.C k36 (W.alloc (Obj.cells #[Value.int IntKind.i64 1, Value.int IntKind.i64 0, Value.int IntKind.i64 0, Value.int IntKind.i64 0, Value.int IntKind.i64 0, Value.int IntKind.i64 0, Value.int IntKind.i64 1, Value.int IntKind.i64 0, Value.int IntKind.i64 0, Value.int IntKind.i64 (-1), Value.int IntKind.i64 1, Value.int IntKind.i64 0, Value.int IntKind.i64 1, Value.int IntKind.i64 0, Value.int IntKind.i64 0, Value.int IntKind.i64 1, Value.int IntKind.i64 0, Value.int IntKind.i64 0, Value.int IntKind.i64 (-1), Value.int IntKind.i64 1, Value.int IntKind.i64 0, Value.int IntKind.i64 1, Value.int IntKind.i64 0, Value.int IntKind.i64 0, Value.int IntKind.i64 0, Value.int IntKind.i64 0, Value.int IntKind.i64 0, Value.int IntKind.i64 1, Value.int IntKind.i64 0, Value.int IntKind.i64 0, Value.int IntKind.i64 1, Value.int IntKind.i64 (-1), Value.int IntKind.i64 0, Value.int IntKind.i64 1, Value.int IntKind.i64 0, Value.int IntKind.i64 0, Value.int IntKind.i64 (-1), Value.int IntKind.i64 0, Value.int IntKind.i64 0, Value.int IntKind.i64 1, Value.int IntKind.i64 0, Value.int IntKind.i64 0, Value.int IntKind.i64 (-1), Value.int IntKind.i64 0, Value.int IntKind.i64 0, Value.int IntKind.i64 (-1), Value.int IntKind.i64 1, Value.int IntKind.i64 0] 36)) (some ⟨W.heap.size, 0, none⟩) 8 lv8 := by
 refine ⟨rfl, by decide, fun _ => ⟨_, rfl, fun j p hp => ⟨_, rfl, k36_mk _ p, fun i u hu => ?_⟩⟩⟩
 have hb := blk_new W (Obj.cells #[Value.int IntKind.i64 1, Value.int IntKind.i64 0, Value.int IntKind.i64 0, Value.int IntKind.i64 0, Value.int IntKind.i64 0, Value.int IntKind.i64 0, Value.int IntKind.i64 1, Value.int IntKind.i64 0, Value.int IntKind.i64 0, Value.int IntKind.i64 (-1), Value.int IntKind.i64 1, Value.int IntKind.i64 0, Value.int IntKind.i64 1, Value.int IntKind.i64 0, Value.int IntKind.i64 0, Value.int IntKind.i64 1, Value.int IntKind.i64 0, Value.int IntKind.i64 0, Value.int IntKind.i64 (-1), Value.int IntKind.i64 1, Value.int IntKind.i64 0, Value.int IntKind.i64 1, Value.int IntKind.i64 0, Value.int IntKind.i64 0, Value.int IntKind.i64 0, Value.int IntKind.i64 0, Value.int IntKind.i64 0, Value.int IntKind.i64 1, Value.int IntKind.i64 0, Value.int IntKind.i64 0, Value.int IntKind.i64 1, Value.int IntKind.i64 (-1), Value.int IntKind.i64 0, Value.int IntKind.i64 1, Value.int IntKind.i64 0, Value.int IntKind.i64 0, Value.int IntKind.i64 (-1), Value.int IntKind.i64 0, Value.int IntKind.i64 0, Value.int IntKind.i64 1, Value.int IntKind.i64 0, Value.int IntKind.i64 0, Value.int IntKind.i64 (-1), Value.int IntKind.i64 0, Value.int IntKind.i64 0, Value.int IntKind.i64 (-1), Value.int IntKind.i64 1, Value.int IntKind.i64 0] 36)
 have hc : ∀ n, (W.alloc (Obj.cells #[Value.int IntKind.i64 1, Value.int IntKind.i64 0, Value.int IntKind.i64 0, Value.int IntKind.i64 0, Value.int IntKind.i64 0, Value.int IntKind.i64 0, Value.int IntKind.i64 1, Value.int IntKind.i64 0, Value.int IntKind.i64 0, Value.int IntKind.i64 (-1), Value.int IntKind.i64 1, Value.int IntKind.i64 0, Value.int IntKind.i64 1, Value.int IntKind.i64 0, Value.int IntKind.i64 0, Value.int IntKind.i64 1, Value.int IntKind.i64 0, Value.int IntKind.i64 0, Value.int IntKind.i64 (-1), Value.int IntKind.i64 1, Value.int IntKind.i64 0, Value.int IntKind.i64 1, Value.int IntKind.i64 0, Value.int IntKind.i64 0, Value.int IntKind.i64 0, Value.int IntKind.i64 0, Value.int IntKind.i64 0, Value.int IntKind.i64 1, Value.int IntKind.i64 0, Value.int IntKind.i64 0, Value.int IntKind.i64 1, Value.int IntKind.i64 (-1), Value.int IntKind.i64 0, Value.int IntKind.i64 1, Value.int IntKind.i64 0, Value.int IntKind.i64 0, Value.int IntKind.i64 (-1), Value.int IntKind.i64 0, Value.int IntKind.i64 0, Value.int IntKind.i64 1, Value.int IntKind.i64 0, Value.int IntKind.i64 0, Value.int IntKind.i64 (-1), Value.int IntKind.i64 0, Value.int IntKind.i64 0, Value.int IntKind.i64 (-1), Value.int IntKind.i64 1, Value.int IntKind.i64 0] 36)).cell? ⟨W.heap.size, n, none⟩ = (#[Value.int IntKind.i64 1, Value.int IntKind.i64 0, Value.int IntKind.i64 0, Value.int IntKind.i64 0, Value.int IntKind.i64 0, Value.int IntKind.i64 0, Value.int IntKind.i64 1, Value.int IntKind.i64 0, Value.int IntKind.i64 0, Value.int IntKind.i64 (-1), Value.int IntKind.i64 1, Value.int IntKind.i64 0, Value.int IntKind.i64 1, Value.int IntKind.i64 0, Value.int IntKind.i64 0, Value.int IntKind.i64 1, Value.int IntKind.i64 0, Value.int IntKind.i64 0, Value.int IntKind.i64 (-1), Value.int IntKind.i64 1, Value.int IntKind.i64 0, Value.int IntKind.i64 1, Value.int IntKind.i64 0, Value.int IntKind.i64 0, Value.int IntKind.i64 0, Value.int IntKind.i64 0, Value.int IntKind.i64 0, Value.int IntKind.i64 1, Value.int IntKind.i64 0, Value.int IntKind.i64 0, Value.int IntKind.i64 1, Value.int IntKind.i64 (-1), Value.int IntKind.i64 0, Value.int IntKind.i64 1, Value.int IntKind.i64 0, Value.int IntKind.i64 0, Value.int IntKind.i64 (-1), Value.int IntKind.i64 0, Value.int IntKind.i64 0, Value.int IntKind.i64 1, Value.int IntKind.i64 0, Value.int IntKind.i64 0, Value.int IntKind.i64 (-1), Value.int IntKind.i64 0, Value.int IntKind.i64 0, Value.int IntKind.i64 (-1), Value.int IntKind.i64 1, Value.int IntKind.i64 0] : Array Value)[n]? := fun n => zzS hb n
 have hj : j < 8 := (List.getElem?_eq_some_iff.1 hp).1
 have hi : i < 6 := (List.getElem?_eq_some_iff.1 hu).1
 have ha : (⟨W.heap.size, 0, none⟩ : Addr).add (j * k36.sz + i) = ⟨W.heap.size, j * 6 + i, none⟩ := by show Addr.add _ (j * 6 + i) = _; first | (rw [zyK]; done) | (rw [zyK]; simp; done) | (simp [Addr.add]; done) | (unfold Addr.add; split <;> simp_all)
 rw [ha, hc]
 have : j = 0 ∨ j = 1 ∨ j = 2 ∨ j = 3 ∨ j = 4 ∨ j = 5 ∨ j = 6 ∨ j = 7 := by omega
 have : i = 0 ∨ i = 1 ∨ i = 2 ∨ i = 3 ∨ i = 4 ∨ i = 5 := by omega
 rcases ‹j = 0 ∨ _› with rfl | rfl | rfl | rfl | rfl | rfl | rfl | rfl <;> cases hp <;> rcases ‹i = 0 ∨ _› with rfl | rfl | rfl | rfl | rfl | rfl <;> cases hu <;> rfl
set_option maxHeartbeats 8000000 in
set_option maxRecDepth 100000 in
theorem zqB.calls (a0 : Int) (r1 : Int) (r2 : Int) (r3 : Int) (r4 : Int) (r5 : Int) (r6 : Int) (w : World) (h : zqB.f a0 = some (r1, r2, r3, r4, r5, r6)) :
  Calls Tryd.prog 147 #[.int .i64 a0] w fun e w' => e = .returned (.agg #[.int .i64 r1, .int .i64 r2, .int .i64 r3, .int .i64 r4, .int .i64 r5, .int .i64 r6]) ∧ Below w.heap.size w w' := by
 have hu36 := Tryd.underlying36
 have hu34 := Tryd.underlying34
 have HB := zpS (Below.refl w.heap.size w)
 have H : ((some (([(⟨(⟨1, 0, 0⟩ : S34), (⟨0, 0, 0⟩ : S34)⟩ : S36), (⟨(⟨1, 0, 0⟩ : S34), (⟨(-1), 1, 0⟩ : S34)⟩ : S36), (⟨(⟨1, 0, 0⟩ : S34), (⟨1, 0, 0⟩ : S34)⟩ : S36), (⟨(⟨(-1), 1, 0⟩ : S34), (⟨1, 0, 0⟩ : S34)⟩ : S36), (⟨(⟨0, 0, 0⟩ : S34), (⟨1, 0, 0⟩ : S34)⟩ : S36), (⟨(⟨1, (-1), 0⟩ : S34), (⟨1, 0, 0⟩ : S34)⟩ : S36), (⟨(⟨(-1), 0, 0⟩ : S34), (⟨1, 0, 0⟩ : S34)⟩ : S36), (⟨(⟨(-1), 0, 0⟩ : S34), (⟨(-1), 1, 0⟩ : S34)⟩ : S36)] : List (S36)) : List (S36))).bind fun y102 => ((ziB.f a0).bind fun t105 => (if 0 ≤ (Int.tmod t105 8) then (if (Int.tmod t105 8) < (y102.length : Int) then (if t105 ≥ 8 then (some (wrap64 (-((ztO y102 (Int.tmod t105 8)).f0.f0)), wrap64 (-((ztO y102 (Int.tmod t105 8)).f0.f1)), 0, wrap64 (-((ztO y102 (Int.tmod t105 8)).f1.f0)), wrap64 (-((ztO y102 (Int.tmod t105 8)).f1.f1)), 0)) else (some ((ztO y102 (Int.tmod t105 8)).f0.f0, (ztO y102 (Int.tmod t105 8)).f0.f1, (ztO y102 (Int.tmod t105 8)).f0.f2, (ztO y102 (Int.tmod t105 8)).f1.f0, (ztO y102 (Int.tmod t105 8)).f1.f1, (ztO y102 (Int.tmod t105 8)).f1.f2))) else (none)) else (none)))) = some (r1, r2, r3, r4, r5, r6) := h
 clear h
 obtain ⟨y102, hy102⟩ : ∃ y_ : List (S36), y_ = (([(⟨(⟨1, 0, 0⟩ : S34), (⟨0, 0, 0⟩ : S34)⟩ : S36), (⟨(⟨1, 0, 0⟩ : S34), (⟨(-1), 1, 0⟩ : S34)⟩ : S36), (⟨(⟨1, 0, 0⟩ : S34), (⟨1, 0, 0⟩ : S34)⟩ : S36), (⟨(⟨(-1), 1, 0⟩ : S34), (⟨1, 0, 0⟩ : S34)⟩ : S36), (⟨(⟨0, 0, 0⟩ : S34), (⟨1, 0, 0⟩ : S34)⟩ : S36), (⟨(⟨1, (-1), 0⟩ : S34), (⟨1, 0, 0⟩ : S34)⟩ : S36), (⟨(⟨(-1), 0, 0⟩ : S34), (⟨1, 0, 0⟩ : S34)⟩ : S36), (⟨(⟨(-1), 0, 0⟩ : S34), (⟨(-1), 1, 0⟩ : S34)⟩ : S36)] : List (S36))) := ⟨_, rfl⟩
 replace H : ((ziB.f a0).bind fun t105 => (if 0 ≤ (Int.tmod t105 8) then (if (Int.tmod t105 8) < (y102.length : Int) then (if t105 ≥ 8 then (some (wrap64 (-((ztO y102 (Int.tmod t105 8)).f0.f0)), wrap64 (-((ztO y102 (Int.tmod t105 8)).f0.f1)), 0, wrap64 (-((ztO y102 (Int.tmod t105 8)).f1.f0)), wrap64 (-((ztO y102 (Int.tmod t105 8)).f1.f1)), 0)) else (some ((ztO y102 (Int.tmod t105 8)).f0.f0, (ztO y102 (Int.tmod t105 8)).f0.f1, (ztO y102 (Int.tmod t105 8)).f0.f2, (ztO y102 (Int.tmod t105 8)).f1.f0, (ztO y102 (Int.tmod t105 8)).f1.f1, (ztO y102 (Int.tmod t105 8)).f1.f2))) else (none)) else (none))) = some (r1, r2, r3, r4, r5, r6) := by first | (rw [hy102]; with_reducible exact H) | (have H2_ := (Option.bind_some _ _).symm.trans H; rw [hy102]; with_reducible exact H2_) | (have H2_ := (Option.bind_some _ _).symm.trans H; with_reducible exact H2_) | with_reducible exact H | (rw [hy102]; exact H) | exact H
 have Ny102 := zpS hy102
 clear hy102
 replace H := Option.bind_eq_some_iff.mp H
 obtain ⟨t105, A20, H⟩ := H
 replace H : (if 0 ≤ (Int.tmod t105 8) then (if (Int.tmod t105 8) < (y102.length : Int) then (if t105 ≥ 8 then (some (wrap64 (-((ztO y102 (Int.tmod t105 8)).f0.f0)), wrap64 (-((ztO y102 (Int.tmod t105 8)).f0.f1)), 0, wrap64 (-((ztO y102 (Int.tmod t105 8)).f1.f0)), wrap64 (-((ztO y102 (Int.tmod t105 8)).f1.f1)), 0)) else (some ((ztO y102 (Int.tmod t105 8)).f0.f0, (ztO y102 (Int.tmod t105 8)).f0.f1, (ztO y102 (Int.tmod t105 8)).f0.f2, (ztO y102 (Int.tmod t105 8)).f1.f0, (ztO y102 (Int.tmod t105 8)).f1.f1, (ztO y102 (Int.tmod t105 8)).f1.f2))) else (none)) else (none)) = some (r1, r2, r3, r4, r5, r6) := H
 have A2 := zpS A20
 clear A20
 obtain ⟨ji3, hji3⟩ : ∃ j_ : Int, (Int.tmod t105 8) = j_ := ⟨_, rfl⟩
 replace H : (if 0 ≤ (ji3) then (if (ji3) < (y102.length : Int) then (if t105 ≥ 8 then (some (wrap64 (-((ztO y102 (ji3)).f0.f0)), wrap64 (-((ztO y102 (ji3)).f0.f1)), 0, wrap64 (-((ztO y102 (ji3)).f1.f0)), wrap64 (-((ztO y102 (ji3)).f1.f1)), 0)) else (some ((ztO y102 (ji3)).f0.f0, (ztO y102 (ji3)).f0.f1, (ztO y102 (ji3)).f0.f2, (ztO y102 (ji3)).f1.f0, (ztO y102 (ji3)).f1.f1, (ztO y102 (ji3)).f1.f2))) else (none)) else (none)) = some (r1, r2, r3, r4, r5, r6) := by first | (rw [hji3] at H; exact H) | (simp only [hji3] at H ⊢; exact H)
 (try rw [hji3] at A2)
 by_cases c4 : 0 ≤ (ji3)
 ·rw [if_pos c4] at H
  have c4b0 : decide (0 ≤ (ji3)) = true := decide_eq_true c4
  clear c4
  by_cases c5 : (ji3) < (y102.length : Int)
  ·rw [if_pos c5] at H
   have c5b0 : decide ((ji3) < (y102.length : Int)) = true := decide_eq_true c5
   clear c5
   by_cases c6 : t105 ≥ 8
   ·rw [if_pos c6] at H
    have c6b0 : decide (8 ≤ t105) = true := decide_eq_true c6
    clear c6
    simp only [Option.some.injEq, Prod.mk.injEq] at H
    obtain ⟨rfl, rfl, rfl, rfl, rfl, rfl⟩ := H
    go_enter Tryd.func147, Tryd.ntmps147
    go_wp2_with (first | ((with_reducible refine zpZ (N := 2) rfl ?_); refine bx_ 2 #[.int .i64 0, .int .i64 0, .int .i64 0, .int .i64 0, .int .i64 0, .int .i64 0] 36 ?_; intro gb101 hg w7 hbox hb; have n0_ := (ns_ hb); have n1_ := zpS (hbox); have n2_ := (ng_ hg); have n3_ := n2_; clear HB; have HB := n0_; have BK101 := n1_; have GW101 := n2_; have GE101 := n3_; clear n0_ n1_ n2_ n3_; clear hb hbox hg))
    refine (ziB.calls a0 t105 _ A2.out).mono ?_
    rintro e w' ⟨rfl, nd, rfl⟩
    have hC := Kd.C_drewN (lv8_C w7) nd
    have hB8 := zkZ (znU HB.out (Obj.cells #[Value.int IntKind.i64 1, Value.int IntKind.i64 0, Value.int IntKind.i64 0, Value.int IntKind.i64 0, Value.int IntKind.i64 0, Value.int IntKind.i64 0, Value.int IntKind.i64 1, Value.int IntKind.i64 0, Value.int IntKind.i64 0, Value.int IntKind.i64 (-1), Value.int IntKind.i64 1, Value.int IntKind.i64 0, Value.int IntKind.i64 1, Value.int IntKind.i64 0, Value.int IntKind.i64 0, Value.int IntKind.i64 1, Value.int IntKind.i64 0, Value.int IntKind.i64 0, Value.int IntKind.i64 (-1), Value.int IntKind.i64 1, Value.int IntKind.i64 0, Value.int IntKind.i64 1, Value.int IntKind.i64 0, Value.int IntKind.i64 0, Value.int IntKind.i64 0, Value.int IntKind.i64 0, Value.int IntKind.i64 0, Value.int IntKind.i64 1, Value.int IntKind.i64 0, Value.int IntKind.i64 0, Value.int IntKind.i64 1, Value.int IntKind.i64 (-1), Value.int IntKind.i64 0, Value.int IntKind.i64 1, Value.int IntKind.i64 0, Value.int IntKind.i64 0, Value.int IntKind.i64 (-1), Value.int IntKind.i64 0, Value.int IntKind.i64 0, Value.int IntKind.i64 1, Value.int IntKind.i64 0, Value.int IntKind.i64 0, Value.int IntKind.i64 (-1), Value.int IntKind.i64 0, Value.int IntKind.i64 0, Value.int IntKind.i64 (-1), Value.int IntKind.i64 1, Value.int IntKind.i64 0] 36)) nd
    have hK8 := zuW (zqY BK101.out (Obj.cells #[Value.int IntKind.i64 1, Value.int IntKind.i64 0, Value.int IntKind.i64 0, Value.int IntKind.i64 0, Value.int IntKind.i64 0, Value.int IntKind.i64 0, Value.int IntKind.i64 1, Value.int IntKind.i64 0, Value.int IntKind.i64 0, Value.int IntKind.i64 (-1), Value.int IntKind.i64 1, Value.int IntKind.i64 0, Value.int IntKind.i64 1, Value.int IntKind.i64 0, Value.int IntKind.i64 0, Value.int IntKind.i64 1, Value.int IntKind.i64 0, Value.int IntKind.i64 0, Value.int IntKind.i64 (-1), Value.int IntKind.i64 1, Value.int IntKind.i64 0, Value.int IntKind.i64 1, Value.int IntKind.i64 0, Value.int IntKind.i64 0, Value.int IntKind.i64 0, Value.int IntKind.i64 0, Value.int IntKind.i64 0, Value.int IntKind.i64 1, Value.int IntKind.i64 0, Value.int IntKind.i64 0, Value.int IntKind.i64 1, Value.int IntKind.i64 (-1), Value.int IntKind.i64 0, Value.int IntKind.i64 1, Value.int IntKind.i64 0, Value.int IntKind.i64 0, Value.int IntKind.i64 (-1), Value.int IntKind.i64 0, Value.int IntKind.i64 0, Value.int IntKind.i64 1, Value.int IntKind.i64 0, Value.int IntKind.i64 0, Value.int IntKind.i64 (-1), Value.int IntKind.i64 0, Value.int IntKind.i64 0, Value.int IntKind.i64 (-1), Value.int IntKind.i64 1, Value.int IntKind.i64 0] 36)) nd
    generalize Value.agg #[Value.int IntKind.i64 1, Value.int IntKind.i64 0, Value.int IntKind.i64 0, Value.int IntKind.i64 0, Value.int IntKind.i64 0, Value.int IntKind.i64 0] = dd0
    generalize Value.agg #[Value.int IntKind.i64 1, Value.int IntKind.i64 0, Value.int IntKind.i64 0, Value.int IntKind.i64 (-1), Value.int IntKind.i64 1, Value.int IntKind.i64 0] = dd1
    generalize Value.agg #[Value.int IntKind.i64 1, Value.int IntKind.i64 0, Value.int IntKind.i64 0, Value.int IntKind.i64 1, Value.int IntKind.i64 0, Value.int IntKind.i64 0] = dd2
    generalize Value.agg #[Value.int IntKind.i64 (-1), Value.int IntKind.i64 1, Value.int IntKind.i64 0, Value.int IntKind.i64 1, Value.int IntKind.i64 0, Value.int IntKind.i64 0] = dd3
    generalize Value.agg #[Value.int IntKind.i64 0, Value.int IntKind.i64 0, Value.int IntKind.i64 0, Value.int IntKind.i64 1, Value.int IntKind.i64 0, Value.int IntKind.i64 0] = dd4
    generalize Value.agg #[Value.int IntKind.i64 1, Value.int IntKind.i64 (-1), Value.int IntKind.i64 0, Value.int IntKind.i64 1, Value.int IntKind.i64 0, Value.int IntKind.i64 0] = dd5
    generalize Value.agg #[Value.int IntKind.i64 (-1), Value.int IntKind.i64 0, Value.int IntKind.i64 0, Value.int IntKind.i64 1, Value.int IntKind.i64 0, Value.int IntKind.i64 0] = dd6
    generalize Value.agg #[Value.int IntKind.i64 (-1), Value.int IntKind.i64 0, Value.int IntKind.i64 0, Value.int IntKind.i64 (-1), Value.int IntKind.i64 1, Value.int IntKind.i64 0] = dd7
    generalize Value.agg #[Value.int IntKind.i64 1, Value.int IntKind.i64 0, Value.int IntKind.i64 0] = dd8
    generalize Value.agg #[Value.int IntKind.i64 (-1), Value.int IntKind.i64 1, Value.int IntKind.i64 0] = dd9
    generalize Value.agg #[Value.int IntKind.i64 1, Value.int IntKind.i64 (-1), Value.int IntKind.i64 0] = dd10
    generalize Value.agg #[Value.int IntKind.i64 (-1), Value.int IntKind.i64 0, Value.int IntKind.i64 0] = dd11
    clear HB BK101
    generalize World.drewN (w7.alloc (Obj.cells #[Value.int IntKind.i64 1, Value.int IntKind.i64 0, Value.int IntKind.i64 0, Value.int IntKind.i64 0, Value.int IntKind.i64 0, Value.int IntKind.i64 0, Value.int IntKind.i64 1, Value.int IntKind.i64 0, Value.int IntKind.i64 0, Value.int IntKind.i64 (-1), Value.int IntKind.i64 1, Value.int IntKind.i64 0, Value.int IntKind.i64 1, Value.int IntKind.i64 0, Value.int IntKind.i64 0, Value.int IntKind.i64 1, Value.int IntKind.i64 0, Value.int IntKind.i64 0, Value.int IntKind.i64 (-1), Value.int IntKind.i64 1, Value.int IntKind.i64 0, Value.int IntKind.i64 1, Value.int IntKind.i64 0, Value.int IntKind.i64 0, Value.int IntKind.i64 0, Value.int IntKind.i64 0, Value.int IntKind.i64 0, Value.int IntKind.i64 1, Value.int IntKind.i64 0, Value.int IntKind.i64 0, Value.int IntKind.i64 1, Value.int IntKind.i64 (-1), Value.int IntKind.i64 0, Value.int IntKind.i64 1, Value.int IntKind.i64 0, Value.int IntKind.i64 0, Value.int IntKind.i64 (-1), Value.int IntKind.i64 0, Value.int IntKind.i64 0, Value.int IntKind.i64 1, Value.int IntKind.i64 0, Value.int IntKind.i64 0, Value.int IntKind.i64 (-1), Value.int IntKind.i64 0, Value.int IntKind.i64 0, Value.int IntKind.i64 (-1), Value.int IntKind.i64 1, Value.int IntKind.i64 0] 36)) nd = w8 at hC hB8 hK8 ⊢
    generalize w7.heap.size = gs at hC ⊢
    have HB := zpS hB8
    have BK101 := zpS hK8
    clear hB8 hK8
    rw [show lv8 = y102 from Ny102.out.symm] at hC
    have p106 : 0 ≤ ((ji3) : Int) := of_decide_eq_true (by first | (with_reducible assumption) | assumption)
    have q106 : (ji3) < (y102.length : Int) := of_decide_eq_true (by first | (with_reducible assumption) | assumption)
    have q106' : (ji3) < ((8 : Nat) : Int) := by rw [← hC.1]; exact q106
    obtain ⟨ad106, e106, hx106_0, hx106_1, hx106_2, hx106_3, hx106_4, hx106_5⟩ := zqG hC (ji3) p106 q106'
    obtain rfl : (⟨gs, 0, none⟩ : Addr) = ad106 := (by injection e106)
    first | simp only [zyK] at hx106_0 hx106_1 hx106_2 hx106_3 hx106_4 hx106_5 | simp only [add_at] at hx106_0 hx106_1 hx106_2 hx106_3 hx106_4 hx106_5 | simp only [Addr.add, Nat.zero_add] at hx106_0 hx106_1 hx106_2 hx106_3 hx106_4 hx106_5 | skip
    replace p106 := eq_true p106
    replace q106' := eq_true q106'
    have q106'' : (ji3 < 8) = True := q106'
    have hcz14_0 : ∀ cs : Array Value, (w8.alloc (Obj.cells cs 36)).cell? ⟨gb101, 0, none⟩ = some (.int .i64 0) := fun cs => (zzS (zqY BK101.out _) 0).trans rfl
    have hfz14_0 : ∀ cs : Array Value, (w8.alloc (Obj.cells cs 36)).frozen? ⟨gb101, 0, none⟩ = false := fun cs => zjF (zqY BK101.out _) 0
    have hcz14_1 : ∀ cs : Array Value, (w8.alloc (Obj.cells cs 36)).cell? ⟨gb101, 1, none⟩ = some (.int .i64 0) := fun cs => (zzS (zqY BK101.out _) 1).trans rfl
    have hfz14_1 : ∀ cs : Array Value, (w8.alloc (Obj.cells cs 36)).frozen? ⟨gb101, 1, none⟩ = false := fun cs => zjF (zqY BK101.out _) 1
    have hcz14_2 : ∀ cs : Array Value, (w8.alloc (Obj.cells cs 36)).cell? ⟨gb101, 2, none⟩ = some (.int .i64 0) := fun cs => (zzS (zqY BK101.out _) 2).trans rfl
    have hfz14_2 : ∀ cs : Array Value, (w8.alloc (Obj.cells cs 36)).frozen? ⟨gb101, 2, none⟩ = false := fun cs => zjF (zqY BK101.out _) 2
    have hcz14_3 : ∀ cs : Array Value, (w8.alloc (Obj.cells cs 36)).cell? ⟨gb101, 3, none⟩ = some (.int .i64 0) := fun cs => (zzS (zqY BK101.out _) 3).trans rfl
    have hfz14_3 : ∀ cs : Array Value, (w8.alloc (Obj.cells cs 36)).frozen? ⟨gb101, 3, none⟩ = false := fun cs => zjF (zqY BK101.out _) 3
    have hcz14_4 : ∀ cs : Array Value, (w8.alloc (Obj.cells cs 36)).cell? ⟨gb101, 4, none⟩ = some (.int .i64 0) := fun cs => (zzS (zqY BK101.out _) 4).trans rfl
    have hfz14_4 : ∀ cs : Array Value, (w8.alloc (Obj.cells cs 36)).frozen? ⟨gb101, 4, none⟩ = false := fun cs => zjF (zqY BK101.out _) 4
    have hcz14_5 : ∀ cs : Array Value, (w8.alloc (Obj.cells cs 36)).cell? ⟨gb101, 5, none⟩ = some (.int .i64 0) := fun cs => (zzS (zqY BK101.out _) 5).trans rfl
    have hfz14_5 : ∀ cs : Array Value, (w8.alloc (Obj.cells cs 36)).frozen? ⟨gb101, 5, none⟩ = false := fun cs => zjF (zqY BK101.out _) 5
    have hnb : gb101 ≠ w8.heap.size := Nat.ne_of_lt (zmN BK101.out)
    have hnc : w8.heap.size ≠ gb101 := fun e => hnb e.symm
    have GE107 := zpS (zuA HB.out)
    go_wp2
    refine bodyPost_ret (results_cell_row rfl _ _ gb101 36 #[.int .i64 (wrap64 (-((ztO y102 (ji3)).f0.f0))), .int .i64 (wrap64 (-((ztO y102 (ji3)).f0.f1))), .int .i64 0, .int .i64 (wrap64 (-((ztO y102 (ji3)).f1.f0))), .int .i64 (wrap64 (-((ztO y102 (ji3)).f1.f1))), .int .i64 0] (0, 0) _ rfl (by (with_reducible repeat (first | apply zuW | apply ztN | apply zqY)); refine zlL (cs := #[.int .i64 (wrap64 (-((ztO y102 (ji3)).f0.f0))), .int .i64 (wrap64 (-((ztO y102 (ji3)).f0.f1))), .int .i64 0, .int .i64 (wrap64 (-((ztO y102 (ji3)).f1.f0))), .int .i64 (wrap64 (-((ztO y102 (ji3)).f1.f1))), .int .i64 0]) ?_ 5 _ rfl; (with_reducible repeat (first | apply zuW | apply ztN | apply zqY)); refine zlL (cs := #[.int .i64 (wrap64 (-((ztO y102 (ji3)).f0.f0))), .int .i64 (wrap64 (-((ztO y102 (ji3)).f0.f1))), .int .i64 0, .int .i64 (wrap64 (-((ztO y102 (ji3)).f1.f0))), .int .i64 0, .int .i64 0]) ?_ 4 _ rfl; (with_reducible repeat (first | apply zuW | apply ztN | apply zqY)); refine zlL (cs := #[.int .i64 (wrap64 (-((ztO y102 (ji3)).f0.f0))), .int .i64 (wrap64 (-((ztO y102 (ji3)).f0.f1))), .int .i64 0, .int .i64 0, .int .i64 0, .int .i64 0]) ?_ 3 _ rfl; (with_reducible repeat (first | apply zuW | apply ztN | apply zqY)); refine zlL (cs := #[.int .i64 (wrap64 (-((ztO y102 (ji3)).f0.f0))), .int .i64 (wrap64 (-((ztO y102 (ji3)).f0.f1))), .int .i64 0, .int .i64 0, .int .i64 0, .int .i64 0]) ?_ 2 _ rfl; (with_reducible repeat (first | apply zuW | apply ztN | apply zqY)); refine zlL (cs := #[.int .i64 (wrap64 (-((ztO y102 (ji3)).f0.f0))), .int .i64 0, .int .i64 0, .int .i64 0, .int .i64 0, .int .i64 0]) ?_ 1 _ rfl; (with_reducible repeat (first | apply zuW | apply ztN | apply zqY)); refine zlL (cs := #[.int .i64 0, .int .i64 0, .int .i64 0, .int .i64 0, .int .i64 0, .int .i64 0]) ?_ 0 _ rfl; (with_reducible repeat (first | apply zuW | apply ztN | apply zqY)); exact BK101.out) Tryd.underlying36 rfl (by kernel_rfl)) rfl ?_
    exact ⟨by first | rfl | (simp [ziS, znJ] <;> rfl) | (simp only [← hji3]; first | rfl | (simp [ziS, znJ] <;> rfl)) | (simp [*, ziS, znJ] <;> rfl), bb_⟩
   ·rw [if_neg c6] at H
    have c6b0 : decide (8 ≤ t105) = false := decide_eq_false c6
    clear c6
    simp only [Option.some.injEq, Prod.mk.injEq] at H
    obtain ⟨rfl, rfl, rfl, rfl, rfl, rfl⟩ := H
    go_enter Tryd.func147, Tryd.ntmps147
    go_wp2_with (first | ((with_reducible refine zpZ (N := 2) rfl ?_); refine bx_ 2 #[.int .i64 0, .int .i64 0, .int .i64 0, .int .i64 0, .int .i64 0, .int .i64 0] 36 ?_; intro gb101 hg w7 hbox hb; have n0_ := (ns_ hb); have n1_ := zpS (hbox); have n2_ := (ng_ hg); have n3_ := n2_; clear HB; have HB := n0_; have BK101 := n1_; have GW101 := n2_; have GE101 := n3_; clear n0_ n1_ n2_ n3_; clear hb hbox hg))
    refine (ziB.calls a0 t105 _ A2.out).mono ?_
    rintro e w' ⟨rfl, nd, rfl⟩
    have hC := Kd.C_drewN (lv8_C w7) nd
    have hB8 := zkZ (znU HB.out (Obj.cells #[Value.int IntKind.i64 1, Value.int IntKind.i64 0, Value.int IntKind.i64 0, Value.int IntKind.i64 0, Value.int IntKind.i64 0, Value.int IntKind.i64 0, Value.int IntKind.i64 1, Value.int IntKind.i64 0, Value.int IntKind.i64 0, Value.int IntKind.i64 (-1), Value.int IntKind.i64 1, Value.int IntKind.i64 0, Value.int IntKind.i64 1, Value.int IntKind.i64 0, Value.int IntKind.i64 0, Value.int IntKind.i64 1, Value.int IntKind.i64 0, Value.int IntKind.i64 0, Value.int IntKind.i64 (-1), Value.int IntKind.i64 1, Value.int IntKind.i64 0, Value.int IntKind.i64 1, Value.int IntKind.i64 0, Value.int IntKind.i64 0, Value.int IntKind.i64 0, Value.int IntKind.i64 0, Value.int IntKind.i64 0, Value.int IntKind.i64 1, Value.int IntKind.i64 0, Value.int IntKind.i64 0, Value.int IntKind.i64 1, Value.int IntKind.i64 (-1), Value.int IntKind.i64 0, Value.int IntKind.i64 1, Value.int IntKind.i64 0, Value.int IntKind.i64 0, Value.int IntKind.i64 (-1), Value.int IntKind.i64 0, Value.int IntKind.i64 0, Value.int IntKind.i64 1, Value.int IntKind.i64 0, Value.int IntKind.i64 0, Value.int IntKind.i64 (-1), Value.int IntKind.i64 0, Value.int IntKind.i64 0, Value.int IntKind.i64 (-1), Value.int IntKind.i64 1, Value.int IntKind.i64 0] 36)) nd
    have hK8 := zuW (zqY BK101.out (Obj.cells #[Value.int IntKind.i64 1, Value.int IntKind.i64 0, Value.int IntKind.i64 0, Value.int IntKind.i64 0, Value.int IntKind.i64 0, Value.int IntKind.i64 0, Value.int IntKind.i64 1, Value.int IntKind.i64 0, Value.int IntKind.i64 0, Value.int IntKind.i64 (-1), Value.int IntKind.i64 1, Value.int IntKind.i64 0, Value.int IntKind.i64 1, Value.int IntKind.i64 0, Value.int IntKind.i64 0, Value.int IntKind.i64 1, Value.int IntKind.i64 0, Value.int IntKind.i64 0, Value.int IntKind.i64 (-1), Value.int IntKind.i64 1, Value.int IntKind.i64 0, Value.int IntKind.i64 1, Value.int IntKind.i64 0, Value.int IntKind.i64 0, Value.int IntKind.i64 0, Value.int IntKind.i64 0, Value.int IntKind.i64 0, Value.int IntKind.i64 1, Value.int IntKind.i64 0, Value.int IntKind.i64 0, Value.int IntKind.i64 1, Value.int IntKind.i64 (-1), Value.int IntKind.i64 0, Value.int IntKind.i64 1, Value.int IntKind.i64 0, Value.int IntKind.i64 0, Value.int IntKind.i64 (-1), Value.int IntKind.i64 0, Value.int IntKind.i64 0, Value.int IntKind.i64 1, Value.int IntKind.i64 0, Value.int IntKind.i64 0, Value.int IntKind.i64 (-1), Value.int IntKind.i64 0, Value.int IntKind.i64 0, Value.int IntKind.i64 (-1), Value.int IntKind.i64 1, Value.int IntKind.i64 0] 36)) nd
    generalize Value.agg #[Value.int IntKind.i64 1, Value.int IntKind.i64 0, Value.int IntKind.i64 0, Value.int IntKind.i64 0, Value.int IntKind.i64 0, Value.int IntKind.i64 0] = dd0
    generalize Value.agg #[Value.int IntKind.i64 1, Value.int IntKind.i64 0, Value.int IntKind.i64 0, Value.int IntKind.i64 (-1), Value.int IntKind.i64 1, Value.int IntKind.i64 0] = dd1
    generalize Value.agg #[Value.int IntKind.i64 1, Value.int IntKind.i64 0, Value.int IntKind.i64 0, Value.int IntKind.i64 1, Value.int IntKind.i64 0, Value.int IntKind.i64 0] = dd2
    generalize Value.agg #[Value.int IntKind.i64 (-1), Value.int IntKind.i64 1, Value.int IntKind.i64 0, Value.int IntKind.i64 1, Value.int IntKind.i64 0, Value.int IntKind.i64 0] = dd3
    generalize Value.agg #[Value.int IntKind.i64 0, Value.int IntKind.i64 0, Value.int IntKind.i64 0, Value.int IntKind.i64 1, Value.int IntKind.i64 0, Value.int IntKind.i64 0] = dd4
    generalize Value.agg #[Value.int IntKind.i64 1, Value.int IntKind.i64 (-1), Value.int IntKind.i64 0, Value.int IntKind.i64 1, Value.int IntKind.i64 0, Value.int IntKind.i64 0] = dd5
    generalize Value.agg #[Value.int IntKind.i64 (-1), Value.int IntKind.i64 0, Value.int IntKind.i64 0, Value.int IntKind.i64 1, Value.int IntKind.i64 0, Value.int IntKind.i64 0] = dd6
    generalize Value.agg #[Value.int IntKind.i64 (-1), Value.int IntKind.i64 0, Value.int IntKind.i64 0, Value.int IntKind.i64 (-1), Value.int IntKind.i64 1, Value.int IntKind.i64 0] = dd7
    generalize Value.agg #[Value.int IntKind.i64 1, Value.int IntKind.i64 0, Value.int IntKind.i64 0] = dd8
    generalize Value.agg #[Value.int IntKind.i64 (-1), Value.int IntKind.i64 1, Value.int IntKind.i64 0] = dd9
    generalize Value.agg #[Value.int IntKind.i64 1, Value.int IntKind.i64 (-1), Value.int IntKind.i64 0] = dd10
    generalize Value.agg #[Value.int IntKind.i64 (-1), Value.int IntKind.i64 0, Value.int IntKind.i64 0] = dd11
    clear HB BK101
    generalize World.drewN (w7.alloc (Obj.cells #[Value.int IntKind.i64 1, Value.int IntKind.i64 0, Value.int IntKind.i64 0, Value.int IntKind.i64 0, Value.int IntKind.i64 0, Value.int IntKind.i64 0, Value.int IntKind.i64 1, Value.int IntKind.i64 0, Value.int IntKind.i64 0, Value.int IntKind.i64 (-1), Value.int IntKind.i64 1, Value.int IntKind.i64 0, Value.int IntKind.i64 1, Value.int IntKind.i64 0, Value.int IntKind.i64 0, Value.int IntKind.i64 1, Value.int IntKind.i64 0, Value.int IntKind.i64 0, Value.int IntKind.i64 (-1), Value.int IntKind.i64 1, Value.int IntKind.i64 0, Value.int IntKind.i64 1, Value.int IntKind.i64 0, Value.int IntKind.i64 0, Value.int IntKind.i64 0, Value.int IntKind.i64 0, Value.int IntKind.i64 0, Value.int IntKind.i64 1, Value.int IntKind.i64 0, Value.int IntKind.i64 0, Value.int IntKind.i64 1, Value.int IntKind.i64 (-1), Value.int IntKind.i64 0, Value.int IntKind.i64 1, Value.int IntKind.i64 0, Value.int IntKind.i64 0, Value.int IntKind.i64 (-1), Value.int IntKind.i64 0, Value.int IntKind.i64 0, Value.int IntKind.i64 1, Value.int IntKind.i64 0, Value.int IntKind.i64 0, Value.int IntKind.i64 (-1), Value.int IntKind.i64 0, Value.int IntKind.i64 0, Value.int IntKind.i64 (-1), Value.int IntKind.i64 1, Value.int IntKind.i64 0] 36)) nd = w8 at hC hB8 hK8 ⊢
    generalize w7.heap.size = gs at hC ⊢
    have HB := zpS hB8
    have BK101 := zpS hK8
    clear hB8 hK8
    rw [show lv8 = y102 from Ny102.out.symm] at hC
    have p106 : 0 ≤ ((ji3) : Int) := of_decide_eq_true (by first | (with_reducible assumption) | assumption)
    have q106 : (ji3) < (y102.length : Int) := of_decide_eq_true (by first | (with_reducible assumption) | assumption)
    have q106' : (ji3) < ((8 : Nat) : Int) := by rw [← hC.1]; exact q106
    obtain ⟨ad106, e106, hx106_0, hx106_1, hx106_2, hx106_3, hx106_4, hx106_5⟩ := zqG hC (ji3) p106 q106'
    obtain rfl : (⟨gs, 0, none⟩ : Addr) = ad106 := (by injection e106)
    first | simp only [zyK] at hx106_0 hx106_1 hx106_2 hx106_3 hx106_4 hx106_5 | simp only [add_at] at hx106_0 hx106_1 hx106_2 hx106_3 hx106_4 hx106_5 | simp only [Addr.add, Nat.zero_add] at hx106_0 hx106_1 hx106_2 hx106_3 hx106_4 hx106_5 | skip
    replace p106 := eq_true p106
    replace q106' := eq_true q106'
    have q106'' : (ji3 < 8) = True := q106'
    have hcz14_0 : ∀ cs : Array Value, (w8.alloc (Obj.cells cs 36)).cell? ⟨gb101, 0, none⟩ = some (.int .i64 0) := fun cs => (zzS (zqY BK101.out _) 0).trans rfl
    have hfz14_0 : ∀ cs : Array Value, (w8.alloc (Obj.cells cs 36)).frozen? ⟨gb101, 0, none⟩ = false := fun cs => zjF (zqY BK101.out _) 0
    have hcz14_1 : ∀ cs : Array Value, (w8.alloc (Obj.cells cs 36)).cell? ⟨gb101, 1, none⟩ = some (.int .i64 0) := fun cs => (zzS (zqY BK101.out _) 1).trans rfl
    have hfz14_1 : ∀ cs : Array Value, (w8.alloc (Obj.cells cs 36)).frozen? ⟨gb101, 1, none⟩ = false := fun cs => zjF (zqY BK101.out _) 1
    have hcz14_2 : ∀ cs : Array Value, (w8.alloc (Obj.cells cs 36)).cell? ⟨gb101, 2, none⟩ = some (.int .i64 0) := fun cs => (zzS (zqY BK101.out _) 2).trans rfl
    have hfz14_2 : ∀ cs : Array Value, (w8.alloc (Obj.cells cs 36)).frozen? ⟨gb101, 2, none⟩ = false := fun cs => zjF (zqY BK101.out _) 2
    have hcz14_3 : ∀ cs : Array Value, (w8.alloc (Obj.cells cs 36)).cell? ⟨gb101, 3, none⟩ = some (.int .i64 0) := fun cs => (zzS (zqY BK101.out _) 3).trans rfl
    have hfz14_3 : ∀ cs : Array Value, (w8.alloc (Obj.cells cs 36)).frozen? ⟨gb101, 3, none⟩ = false := fun cs => zjF (zqY BK101.out _) 3
    have hcz14_4 : ∀ cs : Array Value, (w8.alloc (Obj.cells cs 36)).cell? ⟨gb101, 4, none⟩ = some (.int .i64 0) := fun cs => (zzS (zqY BK101.out _) 4).trans rfl
    have hfz14_4 : ∀ cs : Array Value, (w8.alloc (Obj.cells cs 36)).frozen? ⟨gb101, 4, none⟩ = false := fun cs => zjF (zqY BK101.out _) 4
    have hcz14_5 : ∀ cs : Array Value, (w8.alloc (Obj.cells cs 36)).cell? ⟨gb101, 5, none⟩ = some (.int .i64 0) := fun cs => (zzS (zqY BK101.out _) 5).trans rfl
    have hfz14_5 : ∀ cs : Array Value, (w8.alloc (Obj.cells cs 36)).frozen? ⟨gb101, 5, none⟩ = false := fun cs => zjF (zqY BK101.out _) 5
    have hnb : gb101 ≠ w8.heap.size := Nat.ne_of_lt (zmN BK101.out)
    have hnc : w8.heap.size ≠ gb101 := fun e => hnb e.symm
    have GE107 := zpS (zuA HB.out)
    go_wp2
    refine bodyPost_ret (results_cell_row rfl _ _ gb101 36 #[.int .i64 ((ztO y102 (ji3)).f0.f0), .int .i64 ((ztO y102 (ji3)).f0.f1), .int .i64 ((ztO y102 (ji3)).f0.f2), .int .i64 ((ztO y102 (ji3)).f1.f0), .int .i64 ((ztO y102 (ji3)).f1.f1), .int .i64 ((ztO y102 (ji3)).f1.f2)] (0, 0) _ rfl (by (with_reducible repeat (first | apply zuW | apply ztN | apply zqY)); refine zlL (cs := #[.int .i64 ((ztO y102 (ji3)).f0.f0), .int .i64 ((ztO y102 (ji3)).f0.f1), .int .i64 ((ztO y102 (ji3)).f0.f2), .int .i64 ((ztO y102 (ji3)).f1.f0), .int .i64 ((ztO y102 (ji3)).f1.f1), .int .i64 0]) ?_ 5 _ rfl; (with_reducible repeat (first | apply zuW | apply ztN | apply zqY)); refine zlL (cs := #[.int .i64 ((ztO y102 (ji3)).f0.f0), .int .i64 ((ztO y102 (ji3)).f0.f1), .int .i64 ((ztO y102 (ji3)).f0.f2), .int .i64 ((ztO y102 (ji3)).f1.f0), .int .i64 0, .int .i64 0]) ?_ 4 _ rfl; (with_reducible repeat (first | apply zuW | apply ztN | apply zqY)); refine zlL (cs := #[.int .i64 ((ztO y102 (ji3)).f0.f0), .int .i64 ((ztO y102 (ji3)).f0.f1), .int .i64 ((ztO y102 (ji3)).f0.f2), .int .i64 0, .int .i64 0, .int .i64 0]) ?_ 3 _ rfl; (with_reducible repeat (first | apply zuW | apply ztN | apply zqY)); refine zlL (cs := #[.int .i64 ((ztO y102 (ji3)).f0.f0), .int .i64 ((ztO y102 (ji3)).f0.f1), .int .i64 0, .int .i64 0, .int .i64 0, .int .i64 0]) ?_ 2 _ rfl; (with_reducible repeat (first | apply zuW | apply ztN | apply zqY)); refine zlL (cs := #[.int .i64 ((ztO y102 (ji3)).f0.f0), .int .i64 0, .int .i64 0, .int .i64 0, .int .i64 0, .int .i64 0]) ?_ 1 _ rfl; (with_reducible repeat (first | apply zuW | apply ztN | apply zqY)); refine zlL (cs := #[.int .i64 0, .int .i64 0, .int .i64 0, .int .i64 0, .int .i64 0, .int .i64 0]) ?_ 0 _ rfl; (with_reducible repeat (first | apply zuW | apply ztN | apply zqY)); exact BK101.out) Tryd.underlying36 rfl (by kernel_rfl)) rfl ?_
    exact ⟨by first | rfl | (simp [ziS, znJ] <;> rfl) | (simp only [← hji3]; first | rfl | (simp [ziS, znJ] <;> rfl)) | (simp [*, ziS, znJ] <;> rfl), bb_⟩
  ·rw [if_neg c5] at H
   exact absurd H (by simp)
 ·rw [if_neg c4] at H
  exact absurd H (by simp)

end Go.Proofs.YtmajpmofeddknaaDoor.PFnExactValidPlaces
