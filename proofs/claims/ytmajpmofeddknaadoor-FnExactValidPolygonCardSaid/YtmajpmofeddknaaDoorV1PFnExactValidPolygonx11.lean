-- Printed for this claim by this session's program pp.py, which drives the kit's print with additions. Not trusted: Lean checks it.
import Derived.Test.YtmajpmofeddknaaDoorV1PFnExactValidPolygonx0
import Derived.Test.YtmajpmofeddknaaDoorV1PFnExactValidPolygonx1
import Derived.Test.YtmajpmofeddknaaDoorV1PFnExactValidPolygonx9
import Derived.Test.YtmajpmofeddknaaDoorV1PFnExactValidPolygonx10
namespace Go.Proofs.YtmajpmofeddknaaDoor.PFnExactValidPolygon
open Go.RowKit Go.Proofs.YtmajpmofeddknaaDoorW.PrintWords Go.Proofs.YtmajpmofeddknaaDoorW.PrintLast Go.Proofs.YtmajpmofeddknaaDoorW.PrintMore
attribute [local go_sem] zdZ zdY zeP zeQ zdG zdH zdX zeA   -- for this text's walks alone
set_option linter.unusedVariables false
set_option linter.unusedSimpArgs false

attribute [local go_sem high] eqA34
def zbG.j0 : Nat → Int → Int → Bool → Int → Int → Int → Option (Int)
 | 0, _, _, _, _, _, _ => none
 | k + 1, x3, x4, x12, x363000, x363001, x363002 => if x12 = true then (some x3) else (if x3 = 0 then (some x4) else ((zdN.f x363000 x363001).bind fun t365 => (if t365 = true then (some x3) else (some x4))))
def zbG.f (k : Nat) (a0_0 : Int) (a0_1 : Int) (a0_2 : Int) : Option (Int) := (zdQ.f a0_0).bind fun t363 => ((zdQ.f a0_1).bind fun t364 => (if t363 = t364 then (zbG.j0 k t363 t364 true a0_0 a0_1 a0_2) else (zbG.j0 k t363 t364 (t364 == 0) a0_0 a0_1 a0_2)))
theorem zbG.mono_l : ∀ k, (∀ y0 y1 y2 y3 y4 y5, LeO (zbG.j0 k y0 y1 y2 y3 y4 y5) (zbG.j0 (k + 1) y0 y1 y2 y3 y4 y5))
 | 0 => fun _ _ _ _ _ _ r h => by simp [zbG.j0] at h
 | k + 1 => by
  have ih0 := zbG.mono_l k
  ·intro y0 y1 y2 y3 y4 y5
   unfold zbG.j0
   repeat' first
   | (with_reducible exact ih0 _ _ _ _ _ _)
   | (with_reducible exact LeO.refl _)
   | (with_reducible exact LeO.none _)
   | (with_reducible refine LeO.ite ?_ ?_)
   | (with_reducible refine LeO.bind ?_ (fun _ => ?_))
   | exact ih0 _ _ _ _ _ _
   | exact LeO.none _
   | refine LeO.ite ?_ ?_
   | refine LeO.bind ?_ (fun _ => ?_)
theorem zbG.mono : ∀ a0 a1 a2 k, LeO (zbG.f k a0 a1 a2) (zbG.f (k + 1) a0 a1 a2) := by
 intro a0 a1 a2 k
 have ih0 := zbG.mono_l k
 unfold zbG.f
 repeat' first
   | (with_reducible exact ih0 _ _ _ _ _ _)
   | (with_reducible exact LeO.refl _)
   | (with_reducible exact LeO.none _)
   | (with_reducible refine LeO.ite ?_ ?_)
   | (with_reducible refine LeO.bind ?_ (fun _ => ?_))
   | exact ih0 _ _ _ _ _ _
   | exact LeO.none _
   | refine LeO.ite ?_ ?_
   | refine LeO.bind ?_ (fun _ => ?_)
def zbG.T1 : Bool × List (List Nat × List Nat) := (true, [([], []), ([0], [0]), ([1], [1]), ([], []), ([3], [3]), ([4, 2], [4]), ([2, 5, 0, 1, 2], [2]), ([5, 6, 0, 1, 2, 3, 4, 5, 6], [5])])
def zbG.B1 : List Nat := [0, 1, 3, 0, 8, 31, 63, 127]
theorem zbG.tab1 : rtab .any (opsOf Tryd.f142 1) = zbG.T1 := by kernel_rfl
theorem zbG.bits1 : zeC zbG.T1.2 zbG.B1 = true := by kernel_rfl
set_option maxHeartbeats 8000000 in
set_option maxRecDepth 100000 in
theorem zbG.calls (k : Nat) (a0_0 : Int) (a0_1 : Int) (a0_2 : Int) (r : Int) (w : World) (h : zbG.f k a0_0 a0_1 a0_2 = some r) :
  Calls Tryd.prog 142 #[.agg #[.int .i64 a0_0, .int .i64 a0_1, .int .i64 a0_2]] w fun e w' => e = .returned (.int .i64 r) ∧ Below w.heap.size w w' := by
 have hu34 := Tryd.underlying34
 have HB := zaO (Below.refl w.heap.size w)
 have H : ((zdQ.f a0_0).bind fun t363 => ((zdQ.f a0_1).bind fun t364 => (if t363 = t364 then (zbG.j0 k t363 t364 true a0_0 a0_1 a0_2) else (zbG.j0 k t363 t364 (t364 == 0) a0_0 a0_1 a0_2)))) = some r := h
 clear h
 replace H := Option.bind_eq_some_iff.mp H
 obtain ⟨t363, A20, H⟩ := H
 replace H : ((zdQ.f a0_1).bind fun t364 => (if t363 = t364 then (zbG.j0 k t363 t364 true a0_0 a0_1 a0_2) else (zbG.j0 k t363 t364 (t364 == 0) a0_0 a0_1 a0_2))) = some r := H
 have A2 := zaO A20
 clear A20
 replace H := Option.bind_eq_some_iff.mp H
 obtain ⟨t364, A30, H⟩ := H
 replace H : (if t363 = t364 then (zbG.j0 k t363 t364 true a0_0 a0_1 a0_2) else (zbG.j0 k t363 t364 (t364 == 0) a0_0 a0_1 a0_2)) = some r := H
 have A3 := zaO A30
 clear A30
 have HC4 := zaO H
 clear H
 go_enter Tryd.func142, Tryd.ntmps142
 try go_wp2_with (first | ((with_reducible refine zbC (N := 1) rfl ?_); refine zaW ?hg (N := 1) ?hd (cs := #[.int .i64 a0_0, .int .i64 a0_1, .int .i64 a0_2]) (t := 34) ?hr ?_; (case hd => rfl); (case hg => rfl); (case hr => first | (go_simp; done) | (go_simp; rfl)); intro gb362 hg w5 hbox hb; have n0_ := zaO (zaK (by repeat (first | (with_reducible first | exact HB.out | apply zaE | apply zaA | apply zaD) | exact HB.out)) hb); have n1_ := zaO (hbox); have n2_ := zaO ((by rw [hg]; exact (zaP (by repeat (first | (with_reducible first | exact HB.out | apply zaE | apply zaA | apply zaD) | exact HB.out))) : w.heap.size ≤ gb362)); have n3_ := n2_; clear HB; have HB := n0_; have BK362 := n1_; have GW362 := n2_; have GE362 := n3_; clear n0_ n1_ n2_ n3_; clear hb hbox hg))
 have n0_ := zaO (zaF BK362.out)
 have n1_ := zaO (zaD HB.out)
 clear BK362
 clear HB
 have BK362 := n0_
 have HB := n1_
 clear n0_ n1_
 refine zdU (n := 8) (S := fun w' => w'.cell? ⟨gb362, 0, none⟩ = some (.int .i64 a0_0) ∧ w'.cell? ⟨gb362, 1, none⟩ = some (.int .i64 a0_1) ∧ w'.cell? ⟨gb362, 2, none⟩ = some (.int .i64 a0_2)) (ds := []) #[false, false, false, false, false, false, false, false] (by kernel_rfl) rfl rfl ⟨(zaI BK362.out 0).trans rfl, (zaI BK362.out 1).trans rfl, (zaI BK362.out 2).trans rfl⟩ (fun hHeld => ?_); refine zcT zbG.tab1 zbG.bits1 (fun HT_ HW_ => ?_)
 generalize w5.drew = w6 at BK362 HB hHeld ⊢
 refine zbL (i := 0) (N := some 5) (v := ?_) (a' := ?_) #[true, false, false, false, false, false, false, false] rfl rfl (zaY HT_.out (by kernel_rfl)) (fun _ _ _ h => h) (Or.inl ⟨by rfl, ?_⟩) ?_ ?_
 rotate_left
 ·intro w'
  go_simp
  with_reducible rfl
 rotate_left
 ·simp only [Act.put, List.setIfInBounds_toArray, List.set_cons_zero, List.set_cons_succ, zaT, zaU]
  rfl
 refine zbL (i := 3) (N := some 8) (v := ?_) (a' := ?_) #[true, false, false, true, false, false, false, false] rfl rfl (zaY HT_.out (by kernel_rfl)) (fun _ _ _ h => h) (Or.inl ⟨by rfl, ?_⟩) ?_ ?_
 rotate_left
 ·intro w'
  go_simp
  with_reducible rfl
 rotate_left
 ·simp only [Act.put, List.setIfInBounds_toArray, List.set_cons_zero, List.set_cons_succ, zaT, zaU]
  rfl
 refine take_ (i := 1) (N := some 6) (v := ?_) (a' := ?_) #[true, true, false, true, false, false, false, false] rfl rfl (zbU HT_.out HW_.out (by kernel_rfl)) (fun _ _ _ h => h) (Or.inl ⟨by rfl, ?_⟩) hHeld ?_ ?_
 rotate_left
 ·rintro w' ⟨s0, s1, s2⟩
  go_simp
  with_reducible rfl
 rotate_left
 ·simp only [Act.put, List.setIfInBounds_toArray, List.set_cons_zero, List.set_cons_succ, zaT, zaU]
  rfl
 refine take_ (i := 4) (N := some 9) (v := ?_) (a' := ?_) #[true, true, false, true, true, false, false, false] rfl rfl (zbU HT_.out HW_.out (by kernel_rfl)) (fun _ _ _ h => h) (Or.inl ⟨by rfl, ?_⟩) hHeld ?_ ?_
 rotate_left
 ·rintro w' ⟨s0, s1, s2⟩
  go_simp
  with_reducible rfl
 rotate_left
 ·simp only [Act.put, List.setIfInBounds_toArray, List.set_cons_zero, List.set_cons_succ, zaT, zaU]
  rfl
 refine zeX (i := 2) (N := some 7) #[true, true, true, true, true, false, false, false] rfl rfl (zcU HT_.out (by kernel_rfl)) (by decide) (fun K hK => ?_)
 refine zdI Tryd.func170 (by kernel_rfl) rfl #[.int .i64 a0_0] (by rfl) rfl rfl (by (try simp only [List.map_toArray, List.map_cons, List.map_nil]); first | done | rfl | (simp only [List.length_drop, List.length_take]; rfl)) ?_
 with_reducible refine (zdQ.calls a0_0 t363 _ A2.out).mono ?_
 rintro e w7 ⟨rfl, hb⟩
 refine ⟨_, rfl, ?_⟩
 have n0_ := zaO (zaL (g := gb362) (o := .cells #[.int .i64 a0_0, .int .i64 a0_1, .int .i64 a0_2] 34 (0, 0)) (by (with_reducible repeat (first | apply zaC | apply zaF | apply zaB)); exact BK362.out) hb)
 have n1_ := zaO (zaK (by repeat (first | (with_reducible first | exact HB.out | apply zaE | apply zaA | apply zaD | refine zaH ?_ GE362.out) | exact HB.out)) hb)
 clear BK362
 clear HB
 have BK362 := n0_
 have HB := n1_
 clear n0_ n1_
 (try clear hb)
 (try clear hb2)
 (try clear hk)
 (try clear hi)
 refine hK.out _ _ ⟨(zaI BK362.out 0).trans rfl, (zaI BK362.out 1).trans rfl, (zaI BK362.out 2).trans rfl⟩ (fun hHeld => ?_)
 clear hK K
 refine zdL (a' := ?_) ?_ ?_
 rotate_left
 ·show Act.put _ (some 7) _ = _
  simp only [Act.put, List.setIfInBounds_toArray, List.set_cons_zero, List.set_cons_succ, zaT, zaU]
  rfl
 refine zeX (i := 5) (N := some 10) #[true, true, true, true, true, true, false, false] rfl rfl (zcU HT_.out (by kernel_rfl)) (by decide) (fun K hK => ?_)
 refine zdI Tryd.func170 (by kernel_rfl) rfl #[.int .i64 a0_1] (by rfl) rfl rfl (by (try simp only [List.map_toArray, List.map_cons, List.map_nil]); first | done | rfl | (simp only [List.length_drop, List.length_take]; rfl)) ?_
 with_reducible refine (zdQ.calls a0_1 t364 _ A3.out).mono ?_
 rintro e w8 ⟨rfl, hb⟩
 refine ⟨_, rfl, ?_⟩
 have n0_ := zaO (zaL (g := gb362) (o := .cells #[.int .i64 a0_0, .int .i64 a0_1, .int .i64 a0_2] 34 (0, 0)) (by (with_reducible repeat (first | apply zaC | apply zaF | apply zaB)); exact BK362.out) hb)
 have n1_ := zaO (zaK (by repeat (first | (with_reducible first | exact HB.out | apply zaE | apply zaA | apply zaD | refine zaH ?_ GE362.out) | exact HB.out)) hb)
 clear BK362
 clear HB
 have BK362 := n0_
 have HB := n1_
 clear n0_ n1_
 (try clear hb)
 (try clear hb2)
 (try clear hk)
 (try clear hi)
 refine hK.out _ _ ⟨(zaI BK362.out 0).trans rfl, (zaI BK362.out 1).trans rfl, (zaI BK362.out 2).trans rfl⟩ (fun hHeld => ?_)
 clear hK K
 refine zdL (a' := ?_) ?_ ?_
 rotate_left
 ·show Act.put _ (some 10) _ = _
  simp only [Act.put, List.setIfInBounds_toArray, List.set_cons_zero, List.set_cons_succ, zaT, zaU]
  rfl
 refine zbL (i := 6) (N := some 3) (v := ?_) (a' := ?_) #[true, true, true, true, true, true, true, false] rfl rfl (zaY HT_.out (by kernel_rfl)) (fun _ _ _ h => h) (Or.inl ⟨by rfl, ?_⟩) ?_ ?_
 rotate_left
 ·intro w'
  go_simp
  with_reducible rfl
 rotate_left
 ·simp only [Act.put, List.setIfInBounds_toArray, List.set_cons_zero, List.set_cons_succ, zaT, zaU]
  rfl
 refine zbL (i := 7) (N := some 4) (v := ?_) (a' := ?_) #[true, true, true, true, true, true, true, true] rfl rfl (zaY HT_.out (by kernel_rfl)) (fun _ _ _ h => h) (Or.inl ⟨by rfl, ?_⟩) ?_ ?_
 rotate_left
 ·intro w'
  go_simp
  with_reducible rfl
 rotate_left
 ·simp only [Act.put, List.setIfInBounds_toArray, List.set_cons_zero, List.set_cons_succ, zaT, zaU]
  rfl
 refine done_ (zdJ HT_.out (by kernel_rfl)) ?_
 go_upto_region 3 with (fail)
 go_cut [12] (fun v12 wc => ∃ (kq : Nat) (x12_3 : Bool), v12 = .bool x12_3 ∧ Aside0 (zbG.j0 kq t363 t364 x12_3 a0_0 a0_1 a0_2 = some r) ∧ Aside0 (kq ≤ k) ∧ Aside0 (wc.heap[gb362]? = some (.cells #[.int .i64 a0_0, .int .i64 a0_1, .int .i64 a0_2] 34 (0, 0))) ∧ Aside0 (Below w.heap.size w wc))
 case first =>
  have H := HC4.out
  clear HC4
  by_cases c9 : t363 = t364
  ·rw [if_pos c9] at H
   have c9b0 : (t363 == t364) = true := beq_iff_eq.mpr c9
   have c9b1 : (t363 != t364) = false := bne_eq_false_iff_eq.mpr c9
   clear c9
   (first | rw [c9b0] | (simp only [zaT, zaU]; rw [c9b0]) | skip)
   have H' := zaO H
   clear H
   go_wp2
   go_meet
   case rel => exact ⟨_, (true), (by first | rfl | (simp; done) | (simp [*]; done)), H', ⟨by first | omega | exact Nat.le_refl _⟩, ⟨by (with_reducible repeat (first | apply zaC | apply zaF | apply zaB)); exact BK362.out⟩, ⟨by repeat (first | (with_reducible first | exact HB.out | apply zaE | apply zaA | apply zaD | refine zaH ?_ GE362.out) | exact HB.out)⟩⟩
  ·rw [if_neg c9] at H
   have c9b0 : (t363 == t364) = false := beq_eq_false_iff_ne.mpr c9
   have c9b1 : (t363 != t364) = true := bne_iff_ne.mpr c9
   (first | rw [c9b0] | (simp only [zaT, zaU]; rw [c9b0]) | skip)
   have H' := zaO H
   clear H
   go_wp2
   go_meet
   case rel => exact ⟨_, ((t364 == 0)), (by first | rfl | (simp; done) | (simp [*]; done)), H', ⟨by first | omega | exact Nat.le_refl _⟩, ⟨by (with_reducible repeat (first | apply zaC | apply zaF | apply zaB)); exact BK362.out⟩, ⟨by repeat (first | (with_reducible first | exact HB.out | apply zaE | apply zaA | apply zaD | refine zaH ?_ GE362.out) | exact HB.out)⟩⟩
 case rest =>
  clear HC4
  try clear c1
  try clear p2
  try clear c9
  try clear c9b0
  try clear c9b1
  obtain ⟨kq, x12_3, rfl, HA, HJ3, BK362, HB⟩ := hcut
  cases kq with
  | zero => exact absurd HA.out (by simp [zbG.j0])
  | succ kj3 =>
   have H := HA.out
   clear HA
   simp only [zbG.j0] at H
   by_cases c10 : x12_3 = true
   ·subst c10
    have H1 : (some t363) = some r := by rw [if_pos rfl] at H; exact H
    clear H
    have H := H1
    clear H1
    obtain rfl := Option.some.inj H
    go_wp2
    go_ret
    exact ⟨by first | rfl | (simp [zaN, zaM] <;> rfl) | (simp [*, zaN, zaM] <;> rfl), by repeat (first | (with_reducible first | exact HB.out | apply zaE | apply zaA | apply zaD | refine zaH ?_ GE362.out) | exact HB.out)⟩
   ·replace c10 := Bool.eq_false_iff.mpr c10
    subst c10
    have H1 : (if t363 = 0 then (some t364) else ((zdN.f a0_0 a0_1).bind fun t365 => (if t365 = true then (some t363) else (some t364)))) = some r := by rw [if_neg (show ¬ (false = true) by decide)] at H; exact H
    clear H
    have H := H1
    clear H1
    by_cases c11 : t363 = 0
    ·rw [if_pos c11] at H
     have c11b0 : (t363 == 0) = true := beq_iff_eq.mpr c11
     have c11b1 : (t363 != 0) = false := bne_eq_false_iff_eq.mpr c11
     clear c11
     obtain rfl := Option.some.inj H
     go_wp2
     go_ret
     exact ⟨by first | rfl | (simp [zaN, zaM] <;> rfl) | (simp [*, zaN, zaM] <;> rfl), by repeat (first | (with_reducible first | exact HB.out | apply zaE | apply zaA | apply zaD | refine zaH ?_ GE362.out) | exact HB.out)⟩
    ·rw [if_neg c11] at H
     have c11b0 : (t363 == 0) = false := beq_eq_false_iff_ne.mpr c11
     have c11b1 : (t363 != 0) = true := bne_iff_ne.mpr c11
     replace H := Option.bind_eq_some_iff.mp H
     obtain ⟨t365, A120, H⟩ := H
     replace H : (if t365 = true then (some t363) else (some t364)) = some r := H
     have A12 := zaO A120
     clear A120
     by_cases c13 : t365 = true
     ·subst c13
      have H1 : (some t363) = some r := by rw [if_pos rfl] at H; exact H
      clear H
      have H := H1
      clear H1
      obtain rfl := Option.some.inj H
      obtain ⟨hcz14_0, hcz14_1, hcz14_2⟩ := zeE BK362.out
      obtain ⟨hfz14_0, hfz14_1, hfz14_2⟩ := zeD BK362.out
      go_wp2_with (first | (go_at_call 171; (with_reducible refine (zdN.calls a0_0 a0_1 true _ A12.out).mono ?_); rintro e w15 ⟨rfl, hb⟩; have n0_ := zaO (zaL (g := gb362) (o := .cells #[.int .i64 a0_0, .int .i64 a0_1, .int .i64 a0_2] 34 (0, 0)) (by (with_reducible repeat (first | apply zaC | apply zaF | apply zaB)); exact BK362.out) hb); have n1_ := zaO (zaK (by repeat (first | (with_reducible first | exact HB.out | apply zaE | apply zaA | apply zaD | refine zaH ?_ GE362.out) | exact HB.out)) hb); clear BK362; clear HB; have BK362 := n0_; have HB := n1_; clear n0_ n1_; (try clear hb); (try clear hb2); (try clear hk); (try clear hi)))
      go_ret
      exact ⟨by first | rfl | (simp [zaN, zaM] <;> rfl) | (simp [*, zaN, zaM] <;> rfl), by repeat (first | (with_reducible first | exact HB.out | apply zaE | apply zaA | apply zaD | refine zaH ?_ GE362.out) | exact HB.out)⟩
     ·replace c13 := Bool.eq_false_iff.mpr c13
      subst c13
      have H1 : (some t364) = some r := by rw [if_neg (show ¬ (false = true) by decide)] at H; exact H
      clear H
      have H := H1
      clear H1
      obtain rfl := Option.some.inj H
      obtain ⟨hcz16_0, hcz16_1, hcz16_2⟩ := zeE BK362.out
      obtain ⟨hfz16_0, hfz16_1, hfz16_2⟩ := zeD BK362.out
      go_wp2_with (first | (go_at_call 171; (with_reducible refine (zdN.calls a0_0 a0_1 false _ A12.out).mono ?_); rintro e w17 ⟨rfl, hb⟩; have n0_ := zaO (zaL (g := gb362) (o := .cells #[.int .i64 a0_0, .int .i64 a0_1, .int .i64 a0_2] 34 (0, 0)) (by (with_reducible repeat (first | apply zaC | apply zaF | apply zaB)); exact BK362.out) hb); have n1_ := zaO (zaK (by repeat (first | (with_reducible first | exact HB.out | apply zaE | apply zaA | apply zaD | refine zaH ?_ GE362.out) | exact HB.out)) hb); clear BK362; clear HB; have BK362 := n0_; have HB := n1_; clear n0_ n1_; (try clear hb); (try clear hb2); (try clear hk); (try clear hi)))
      go_ret
      exact ⟨by first | rfl | (simp [zaN, zaM] <;> rfl) | (simp [*, zaN, zaM] <;> rfl), by repeat (first | (with_reducible first | exact HB.out | apply zaE | apply zaA | apply zaD | refine zaH ?_ GE362.out) | exact HB.out)⟩

def zbE.l0 : Nat → Int → Int → Int → Int → Int → Int → Int → Option (Int)
 | 0, _, _, _, _, _, _, _ => none
 | k + 1, x11, x375000, x375001, x375002, x375003, x375004, x375005 => if x11 < 16 then ((zcC.f x11).bind fun bt375 => ((zbS.f k bt375.1 bt375.2.1 bt375.2.2.1 bt375.2.2.2.1 bt375.2.2.2.2.1 bt375.2.2.2.2.2 x375000 x375001 x375002 x375003 x375004 x375005).bind fun bt382 => (if (bt382.1 == 0 && (bt382.2.1 == 0 && (bt382.2.2 == 0))) = true then ((zbZ.f k bt375.1 bt375.2.1 bt375.2.2.1 bt375.2.2.2.1 bt375.2.2.2.2.1 bt375.2.2.2.2.2 x375000 x375001 x375002 x375003 x375004 x375005).bind fun bt385 => ((zbG.f k bt385.1 bt385.2.1 bt385.2.2).bind fun t388 => (if t388 > 0 then (some x11) else (zbE.l0 k (wrap64 (x11 + 1)) x375000 x375001 x375002 x375003 x375004 x375005)))) else (zbE.l0 k (wrap64 (x11 + 1)) x375000 x375001 x375002 x375003 x375004 x375005)))) else (some (-1))
def zbE.f (k : Nat) (a0_0 : Int) (a0_1 : Int) (a0_2 : Int) (a0_3 : Int) (a0_4 : Int) (a0_5 : Int) (a1_0 : Int) (a1_1 : Int) (a1_2 : Int) (a1_3 : Int) (a1_4 : Int) (a1_5 : Int) : Option (Int) := (zbX.f k a1_0 a1_1 a1_2 a1_3 a1_4 a1_5 a0_0 a0_1 a0_2 a0_3 a0_4 a0_5).bind fun bt368 => (zbE.l0 k 0 bt368.1 bt368.2.1 bt368.2.2.1 bt368.2.2.2.1 bt368.2.2.2.2.1 bt368.2.2.2.2.2)
theorem zbE.mono_l : ∀ k, (∀ y0 y1 y2 y3 y4 y5 y6, LeO (zbE.l0 k y0 y1 y2 y3 y4 y5 y6) (zbE.l0 (k + 1) y0 y1 y2 y3 y4 y5 y6))
 | 0 => fun _ _ _ _ _ _ _ r h => by simp [zbE.l0] at h
 | k + 1 => by
  have ih0 := zbE.mono_l k
  ·intro y0 y1 y2 y3 y4 y5 y6
   unfold zbE.l0
   repeat' first
   | (with_reducible exact ih0 _ _ _ _ _ _ _)
   | (with_reducible exact zbG.mono _ _ _ _)
   | (with_reducible exact zbS.mono _ _ _ _ _ _ _ _ _ _ _ _ _)
   | (with_reducible exact zbZ.mono _ _ _ _ _ _ _ _ _ _ _ _ _)
   | (with_reducible exact zbX.mono _ _ _ _ _ _ _ _ _ _ _ _ _)
   | (with_reducible exact LeO.refl _)
   | (with_reducible exact LeO.none _)
   | (with_reducible refine LeO.ite ?_ ?_)
   | (with_reducible refine LeO.bind ?_ (fun _ => ?_))
   | exact ih0 _ _ _ _ _ _ _
   | exact zbG.mono _ _ _ _
   | exact zbS.mono _ _ _ _ _ _ _ _ _ _ _ _ _
   | exact zbZ.mono _ _ _ _ _ _ _ _ _ _ _ _ _
   | exact zbX.mono _ _ _ _ _ _ _ _ _ _ _ _ _
   | exact LeO.none _
   | refine LeO.ite ?_ ?_
   | refine LeO.bind ?_ (fun _ => ?_)
theorem zbE.mono : ∀ a0 a1 a2 a3 a4 a5 a6 a7 a8 a9 a10 a11 k, LeO (zbE.f k a0 a1 a2 a3 a4 a5 a6 a7 a8 a9 a10 a11) (zbE.f (k + 1) a0 a1 a2 a3 a4 a5 a6 a7 a8 a9 a10 a11) := by
 intro a0 a1 a2 a3 a4 a5 a6 a7 a8 a9 a10 a11 k
 have ih0 := zbE.mono_l k
 unfold zbE.f
 repeat' first
   | (with_reducible exact ih0 _ _ _ _ _ _ _)
   | (with_reducible exact zbG.mono _ _ _ _)
   | (with_reducible exact zbS.mono _ _ _ _ _ _ _ _ _ _ _ _ _)
   | (with_reducible exact zbZ.mono _ _ _ _ _ _ _ _ _ _ _ _ _)
   | (with_reducible exact zbX.mono _ _ _ _ _ _ _ _ _ _ _ _ _)
   | (with_reducible exact LeO.refl _)
   | (with_reducible exact LeO.none _)
   | (with_reducible refine LeO.ite ?_ ?_)
   | (with_reducible refine LeO.bind ?_ (fun _ => ?_))
   | exact ih0 _ _ _ _ _ _ _
   | exact zbG.mono _ _ _ _
   | exact zbS.mono _ _ _ _ _ _ _ _ _ _ _ _ _
   | exact zbZ.mono _ _ _ _ _ _ _ _ _ _ _ _ _
   | exact zbX.mono _ _ _ _ _ _ _ _ _ _ _ _ _
   | exact LeO.none _
   | refine LeO.ite ?_ ?_
   | refine LeO.bind ?_ (fun _ => ?_)
set_option maxHeartbeats 8000000 in
set_option maxRecDepth 100000 in
theorem zbE.calls (k : Nat) (a0_0 : Int) (a0_1 : Int) (a0_2 : Int) (a0_3 : Int) (a0_4 : Int) (a0_5 : Int) (a1_0 : Int) (a1_1 : Int) (a1_2 : Int) (a1_3 : Int) (a1_4 : Int) (a1_5 : Int) (r : Int) (w : World) (hG : LaidV w) (h : zbE.f k a0_0 a0_1 a0_2 a0_3 a0_4 a0_5 a1_0 a1_1 a1_2 a1_3 a1_4 a1_5 = some r) :
  Calls Tryd.prog 106 #[.agg #[.int .i64 a0_0, .int .i64 a0_1, .int .i64 a0_2, .int .i64 a0_3, .int .i64 a0_4, .int .i64 a0_5], .agg #[.int .i64 a1_0, .int .i64 a1_1, .int .i64 a1_2, .int .i64 a1_3, .int .i64 a1_4, .int .i64 a1_5]] w fun e w' => e = .returned (.int .i64 r) ∧ Below w.heap.size w w' := by
 have hu36 := Tryd.underlying36
 have hu34 := Tryd.underlying34
 have HB := zaO (Below.refl w.heap.size w)
 have H : ((zbX.f k a1_0 a1_1 a1_2 a1_3 a1_4 a1_5 a0_0 a0_1 a0_2 a0_3 a0_4 a0_5).bind fun bt368 => (zbE.l0 k 0 bt368.1 bt368.2.1 bt368.2.2.1 bt368.2.2.2.1 bt368.2.2.2.2.1 bt368.2.2.2.2.2)) = some r := h
 clear h
 replace H := Option.bind_eq_some_iff.mp H
 obtain ⟨⟨t368, t369, t370, t371, t372, t373⟩, A30, H⟩ := H
 replace H : (zbE.l0 k 0 t368 t369 t370 t371 t372 t373) = some r := H
 have A3 := zaO A30
 clear A30
 have H' := zaO H
 clear H
 go_enter Tryd.func106, Tryd.ntmps106
 go_wp2_with (first | ((with_reducible refine zbC (N := 2) rfl ?_); refine zaW ?hg (N := 2) ?hd (cs := #[.int .i64 a0_0, .int .i64 a0_1, .int .i64 a0_2, .int .i64 a0_3, .int .i64 a0_4, .int .i64 a0_5]) (t := 36) ?hr ?_; (case hd => rfl); (case hg => rfl); (case hr => first | (go_simp; done) | (go_simp; rfl)); intro gb366 hg w4 hbox hb; have n0_ := zaO (zaK (by repeat (first | (with_reducible first | exact HB.out | apply zaE | apply zaA | apply zaD) | exact HB.out)) hb); have n1_ := zaO (hbox); have n2_ := zaO ((by rw [hg]; exact (zaP (by repeat (first | (with_reducible first | exact HB.out | apply zaE | apply zaA | apply zaD) | exact HB.out))) : w.heap.size ≤ gb366)); have n3_ := n2_; clear HB; have HB := n0_; have BK366 := n1_; have GW366 := n2_; have GE366 := n3_; clear n0_ n1_ n2_ n3_; clear hb hbox hg) | ((with_reducible refine zbC (N := 3) rfl ?_); refine zaW ?hg (N := 3) ?hd (cs := #[.int .i64 a1_0, .int .i64 a1_1, .int .i64 a1_2, .int .i64 a1_3, .int .i64 a1_4, .int .i64 a1_5]) (t := 36) ?hr ?_; (case hd => rfl); (case hg => rfl); (case hr => first | (go_simp; done) | (go_simp; rfl)); intro gb367 hg w5 hbox hb; have n0_ := zaO (zaL (g := gb366) (o := .cells #[.int .i64 a0_0, .int .i64 a0_1, .int .i64 a0_2, .int .i64 a0_3, .int .i64 a0_4, .int .i64 a0_5] 36 (0, 0)) (by (with_reducible repeat (first | apply zaC | apply zaF | apply zaB)); exact BK366.out) hb); have n1_ := zaO (zaK (by repeat (first | (with_reducible first | exact HB.out | apply zaE | apply zaA | apply zaD | refine zaH ?_ GE366.out) | exact HB.out)) hb); have n2_ := zaO (hbox); have n3_ := zaO ((by rw [hg]; exact (zaP (by repeat (first | (with_reducible first | exact HB.out | apply zaE | apply zaA | apply zaD | refine zaH ?_ GE366.out) | exact HB.out))) : w.heap.size ≤ gb367)); have n4_ := n3_; have n5_ := zaO ((by rw [hg]; exact Nat.ne_of_lt (zbN (g := gb366) (o := .cells #[.int .i64 a0_0, .int .i64 a0_1, .int .i64 a0_2, .int .i64 a0_3, .int .i64 a0_4, .int .i64 a0_5] 36 (0, 0)) (by (with_reducible repeat (first | apply zaC | apply zaF | apply zaB)); exact BK366.out)) : gb366 ≠ gb367)); have n6_ := zaO ((by rw [hg]; exact Nat.ne_of_gt (zbN (g := gb366) (o := .cells #[.int .i64 a0_0, .int .i64 a0_1, .int .i64 a0_2, .int .i64 a0_3, .int .i64 a0_4, .int .i64 a0_5] 36 (0, 0)) (by (with_reducible repeat (first | apply zaC | apply zaF | apply zaB)); exact BK366.out)) : gb367 ≠ gb366)); clear BK366; clear HB; have BK366 := n0_; have HB := n1_; have BK367 := n2_; have GW367 := n3_; have GE367 := n4_; have NB366_367 := n5_; have NB367_366 := n6_; clear n0_ n1_ n2_ n3_ n4_ n5_ n6_; clear hb hbox hg; have hnb6 := NB367_366.out; have hnc6 := NB366_367.out; obtain ⟨hcz7_0, hcz7_1, hcz7_2, hcz7_3, hcz7_4, hcz7_5⟩ := zeV BK367.out; obtain ⟨hfz7_0, hfz7_1, hfz7_2, hfz7_3, hfz7_4, hfz7_5⟩ := zeW BK367.out; obtain ⟨hcz8_0, hcz8_1, hcz8_2, hcz8_3, hcz8_4, hcz8_5⟩ := zeV BK366.out; obtain ⟨hfz8_0, hfz8_1, hfz8_2, hfz8_3, hfz8_4, hfz8_5⟩ := zeW BK366.out) | ((with_reducible refine zaQ (f := 138) rfl ?_); refine zbV (some 10) rfl rfl Tryd.func138 (by kernel_rfl) rfl #[.agg #[.int .i64 a1_0, .int .i64 a1_1, .int .i64 a1_2, .int .i64 a1_3, .int .i64 a1_4, .int .i64 a1_5], .agg #[.int .i64 a0_0, .int .i64 a0_1, .int .i64 a0_2, .int .i64 a0_3, .int .i64 a0_4, .int .i64 a0_5]] rfl (by (try simp only [List.map_toArray, List.map_cons, List.map_nil]); first | done | rfl | (simp only [List.length_drop, List.length_take]; rfl)) ?_; (with_reducible refine (zbX.calls k a1_0 a1_1 a1_2 a1_3 a1_4 a1_5 a0_0 a0_1 a0_2 a0_3 a0_4 a0_5 t368 t369 t370 t371 t372 t373 _ A3.out).mono ?_); rintro e w9 ⟨rfl, hb⟩; refine ⟨_, rfl, ?_⟩; have n0_ := zaO (zaL (g := gb366) (o := .cells #[.int .i64 a0_0, .int .i64 a0_1, .int .i64 a0_2, .int .i64 a0_3, .int .i64 a0_4, .int .i64 a0_5] 36 (0, 0)) (by (with_reducible repeat (first | apply zaC | apply zaF | apply zaB)); exact BK366.out) hb); have n1_ := zaO (zaL (g := gb367) (o := .cells #[.int .i64 a1_0, .int .i64 a1_1, .int .i64 a1_2, .int .i64 a1_3, .int .i64 a1_4, .int .i64 a1_5] 36 (0, 0)) (by (with_reducible repeat (first | apply zaC | apply zaF | apply zaB)); exact BK367.out) hb); have n2_ := zaO (zaK (by repeat (first | (with_reducible first | exact HB.out | apply zaE | apply zaA | apply zaD | refine zaH ?_ GE366.out | refine zaH ?_ GE367.out) | exact HB.out)) hb); clear BK366; clear BK367; clear HB; have BK366 := n0_; have BK367 := n1_; have HB := n2_; clear n0_ n1_ n2_; (try clear hb); (try clear hb2); (try clear hk); (try clear hi)) | ((with_reducible refine zbC (N := 5) rfl ?_); refine zaW ?hg (N := 5) ?hd (cs := #[.int .i64 0, .int .i64 0, .int .i64 0, .int .i64 0, .int .i64 0, .int .i64 0]) (t := 36) ?hr ?_; (case hd => rfl); (case hg => rfl); (case hr => first | (go_simp; done) | (go_simp; rfl)); intro gb374 hg w10 hbox hb; have n0_ := zaO (zaL (g := gb366) (o := .cells #[.int .i64 a0_0, .int .i64 a0_1, .int .i64 a0_2, .int .i64 a0_3, .int .i64 a0_4, .int .i64 a0_5] 36 (0, 0)) (by (with_reducible repeat (first | apply zaC | apply zaF | apply zaB)); exact BK366.out) hb); have n1_ := zaO (zaL (g := gb367) (o := .cells #[.int .i64 a1_0, .int .i64 a1_1, .int .i64 a1_2, .int .i64 a1_3, .int .i64 a1_4, .int .i64 a1_5] 36 (0, 0)) (by (with_reducible repeat (first | apply zaC | apply zaF | apply zaB)); exact BK367.out) hb); have n2_ := zaO (zaK (by repeat (first | (with_reducible first | exact HB.out | apply zaE | apply zaA | apply zaD | refine zaH ?_ GE366.out | refine zaH ?_ GE367.out) | exact HB.out)) hb); have n3_ := zaO (hbox); have n4_ := zaO ((by rw [hg]; exact (zaP (by repeat (first | (with_reducible first | exact HB.out | apply zaE | apply zaA | apply zaD | refine zaH ?_ GE366.out | refine zaH ?_ GE367.out) | exact HB.out))) : w.heap.size ≤ gb374)); have n5_ := n4_; have n6_ := zaO ((by rw [hg]; exact Nat.ne_of_lt (zbN (g := gb366) (o := .cells #[.int .i64 a0_0, .int .i64 a0_1, .int .i64 a0_2, .int .i64 a0_3, .int .i64 a0_4, .int .i64 a0_5] 36 (0, 0)) (by (with_reducible repeat (first | apply zaC | apply zaF | apply zaB)); exact BK366.out)) : gb366 ≠ gb374)); have n7_ := zaO ((by rw [hg]; exact Nat.ne_of_gt (zbN (g := gb366) (o := .cells #[.int .i64 a0_0, .int .i64 a0_1, .int .i64 a0_2, .int .i64 a0_3, .int .i64 a0_4, .int .i64 a0_5] 36 (0, 0)) (by (with_reducible repeat (first | apply zaC | apply zaF | apply zaB)); exact BK366.out)) : gb374 ≠ gb366)); have n8_ := zaO ((by rw [hg]; exact Nat.ne_of_lt (zbN (g := gb367) (o := .cells #[.int .i64 a1_0, .int .i64 a1_1, .int .i64 a1_2, .int .i64 a1_3, .int .i64 a1_4, .int .i64 a1_5] 36 (0, 0)) (by (with_reducible repeat (first | apply zaC | apply zaF | apply zaB)); exact BK367.out)) : gb367 ≠ gb374)); have n9_ := zaO ((by rw [hg]; exact Nat.ne_of_gt (zbN (g := gb367) (o := .cells #[.int .i64 a1_0, .int .i64 a1_1, .int .i64 a1_2, .int .i64 a1_3, .int .i64 a1_4, .int .i64 a1_5] 36 (0, 0)) (by (with_reducible repeat (first | apply zaC | apply zaF | apply zaB)); exact BK367.out)) : gb374 ≠ gb367)); clear BK366; clear BK367; clear HB; have BK366 := n0_; have BK367 := n1_; have HB := n2_; have BK374 := n3_; have GW374 := n4_; have GE374 := n5_; have NB366_374 := n6_; have NB374_366 := n7_; have NB367_374 := n8_; have NB374_367 := n9_; clear n0_ n1_ n2_ n3_ n4_ n5_ n6_ n7_ n8_ n9_; clear hb hbox hg; have hnb11 := NB374_366.out; have hnc11 := NB366_374.out; have hnb12 := NB374_367.out; have hnc12 := NB367_374.out; obtain ⟨hcz13_0, hcz13_1, hcz13_2, hcz13_3, hcz13_4, hcz13_5⟩ := zeV BK374.out; obtain ⟨hfz13_0, hfz13_1, hfz13_2, hfz13_3, hfz13_4, hfz13_5⟩ := zeW BK374.out))
 (try go_simp)
 go_loopg [11] k (fun kq v11 w' => ∃ (x11_1 : Int), v11 = .int .i64 x11_1 ∧ Aside0 (zbE.l0 kq x11_1 t368 t369 t370 t371 t372 t373 = some r) ∧ Aside0 (kq ≤ k) ∧ Aside0 (w'.heap[gb366]? = some (.cells #[.int .i64 a0_0, .int .i64 a0_1, .int .i64 a0_2, .int .i64 a0_3, .int .i64 a0_4, .int .i64 a0_5] 36 (0, 0))) ∧ Aside0 (w'.heap[gb367]? = some (.cells #[.int .i64 a1_0, .int .i64 a1_1, .int .i64 a1_2, .int .i64 a1_3, .int .i64 a1_4, .int .i64 a1_5] 36 (0, 0))) ∧ Aside0 (w'.heap[gb374]? = some (.cells #[.int .i64 t368, .int .i64 t369, .int .i64 t370, .int .i64 t371, .int .i64 t372, .int .i64 t373] 36 (0, 0))) ∧ Aside0 (Below w.heap.size w w'))
 case atStart => exact ⟨(0), (by first | rfl | (simp; done) | (simp [*]; done)), H', ⟨Nat.le_refl _⟩, ⟨by (with_reducible repeat (first | apply zaC | apply zaF | apply zaB)); refine zbK ?_ NB366_374.out _; (with_reducible repeat (first | apply zaC | apply zaF | apply zaB)); refine zbK ?_ NB366_374.out _; (with_reducible repeat (first | apply zaC | apply zaF | apply zaB)); refine zbK ?_ NB366_374.out _; (with_reducible repeat (first | apply zaC | apply zaF | apply zaB)); refine zbK ?_ NB366_374.out _; (with_reducible repeat (first | apply zaC | apply zaF | apply zaB)); refine zbK ?_ NB366_374.out _; (with_reducible repeat (first | apply zaC | apply zaF | apply zaB)); refine zbK ?_ NB366_374.out _; (with_reducible repeat (first | apply zaC | apply zaF | apply zaB)); exact BK366.out⟩, ⟨by (with_reducible repeat (first | apply zaC | apply zaF | apply zaB)); refine zbK ?_ NB367_374.out _; (with_reducible repeat (first | apply zaC | apply zaF | apply zaB)); refine zbK ?_ NB367_374.out _; (with_reducible repeat (first | apply zaC | apply zaF | apply zaB)); refine zbK ?_ NB367_374.out _; (with_reducible repeat (first | apply zaC | apply zaF | apply zaB)); refine zbK ?_ NB367_374.out _; (with_reducible repeat (first | apply zaC | apply zaF | apply zaB)); refine zbK ?_ NB367_374.out _; (with_reducible repeat (first | apply zaC | apply zaF | apply zaB)); refine zbK ?_ NB367_374.out _; (with_reducible repeat (first | apply zaC | apply zaF | apply zaB)); exact BK367.out⟩, ⟨by (with_reducible repeat (first | apply zaC | apply zaF | apply zaB)); refine zaR (cs := #[.int .i64 t368, .int .i64 t369, .int .i64 t370, .int .i64 t371, .int .i64 t372, .int .i64 0]) ?_ 5 _ rfl; (with_reducible repeat (first | apply zaC | apply zaF | apply zaB)); refine zaR (cs := #[.int .i64 t368, .int .i64 t369, .int .i64 t370, .int .i64 t371, .int .i64 0, .int .i64 0]) ?_ 4 _ rfl; (with_reducible repeat (first | apply zaC | apply zaF | apply zaB)); refine zaR (cs := #[.int .i64 t368, .int .i64 t369, .int .i64 t370, .int .i64 0, .int .i64 0, .int .i64 0]) ?_ 3 _ rfl; (with_reducible repeat (first | apply zaC | apply zaF | apply zaB)); refine zaR (cs := #[.int .i64 t368, .int .i64 t369, .int .i64 0, .int .i64 0, .int .i64 0, .int .i64 0]) ?_ 2 _ rfl; (with_reducible repeat (first | apply zaC | apply zaF | apply zaB)); refine zaR (cs := #[.int .i64 t368, .int .i64 0, .int .i64 0, .int .i64 0, .int .i64 0, .int .i64 0]) ?_ 1 _ rfl; (with_reducible repeat (first | apply zaC | apply zaF | apply zaB)); refine zaR (cs := #[.int .i64 0, .int .i64 0, .int .i64 0, .int .i64 0, .int .i64 0, .int .i64 0]) ?_ 0 _ rfl; (with_reducible repeat (first | apply zaC | apply zaF | apply zaB)); exact BK374.out⟩, ⟨by repeat (first | (with_reducible first | exact HB.out | apply zaE | apply zaA | apply zaD | refine zaH ?_ GE366.out | refine zaH ?_ GE367.out | refine zaH ?_ GE374.out) | exact HB.out)⟩⟩
 case round =>
  clear H'
  try clear c1
  try clear p2
  try clear c6
  try clear c10
  try clear c11
  try clear c12
  try clear c13
  try clear hcz13_0
  try clear hcz13_1
  try clear hcz13_2
  try clear hcz13_3
  try clear hcz13_4
  try clear hcz13_5
  try clear hcz7_0
  try clear hcz7_1
  try clear hcz7_2
  try clear hcz7_3
  try clear hcz7_4
  try clear hcz7_5
  try clear hcz8_0
  try clear hcz8_1
  try clear hcz8_2
  try clear hcz8_3
  try clear hcz8_4
  try clear hcz8_5
  try clear hfz13_0
  try clear hfz13_1
  try clear hfz13_2
  try clear hfz13_3
  try clear hfz13_4
  try clear hfz13_5
  try clear hfz7_0
  try clear hfz7_1
  try clear hfz7_2
  try clear hfz7_3
  try clear hfz7_4
  try clear hfz7_5
  try clear hfz8_0
  try clear hfz8_1
  try clear hfz8_2
  try clear hfz8_3
  try clear hfz8_4
  try clear hfz8_5
  obtain ⟨x11_1, rfl, HA, HK1, BK366, BK367, BK374, HB⟩ := hrel
  cases gk with
  | zero => exact absurd HA.out (by simp [zbE.l0])
  | succ k1 =>
   have H := HA.out
   clear HA
   simp only [zbE.l0] at H
   by_cases c14 : x11_1 < 16
   ·rw [if_pos c14] at H
    have c14b0 : decide (x11_1 < 16) = true := decide_eq_true c14
    clear c14
    replace H := Option.bind_eq_some_iff.mp H
    obtain ⟨⟨t375, t376, t377, t378, t379, t380⟩, A150, H⟩ := H
    replace H : ((zbS.f k1 t375 t376 t377 t378 t379 t380 t368 t369 t370 t371 t372 t373).bind fun bt382 => (if (bt382.1 == 0 && (bt382.2.1 == 0 && (bt382.2.2 == 0))) = true then ((zbZ.f k1 t375 t376 t377 t378 t379 t380 t368 t369 t370 t371 t372 t373).bind fun bt385 => ((zbG.f k1 bt385.1 bt385.2.1 bt385.2.2).bind fun t388 => (if t388 > 0 then (some x11_1) else (zbE.l0 k1 (wrap64 (x11_1 + 1)) t368 t369 t370 t371 t372 t373)))) else (zbE.l0 k1 (wrap64 (x11_1 + 1)) t368 t369 t370 t371 t372 t373))) = some r := H
    have A15 := zaO A150
    clear A150
    replace H := Option.bind_eq_some_iff.mp H
    obtain ⟨⟨t382, t383, t384⟩, A160, H⟩ := H
    replace H : (if (t382 == 0 && (t383 == 0 && (t384 == 0))) = true then ((zbZ.f k1 t375 t376 t377 t378 t379 t380 t368 t369 t370 t371 t372 t373).bind fun bt385 => ((zbG.f k1 bt385.1 bt385.2.1 bt385.2.2).bind fun t388 => (if t388 > 0 then (some x11_1) else (zbE.l0 k1 (wrap64 (x11_1 + 1)) t368 t369 t370 t371 t372 t373)))) else (zbE.l0 k1 (wrap64 (x11_1 + 1)) t368 t369 t370 t371 t372 t373)) = some r := H
    have A16 := zaO A160
    clear A160
    by_cases c17 : (t382 == 0 && (t383 == 0 && (t384 == 0))) = true
    ·rw [if_pos c17] at H
     have c17b0 : (t382 == 0 && (t383 == 0 && (t384 == 0))) = true := c17
     (try (have c17b1 : decide (t382 = 0 && (t383 == 0 && (t384 == 0))) = true := by simpa using c17))
     (try (have c17b2 : (t382 == 0 && (t383 == 0 && (t384 == 0))) = true := by simpa using c17))
     clear c17
     replace H := Option.bind_eq_some_iff.mp H
     obtain ⟨⟨t385, t386, t387⟩, A180, H⟩ := H
     replace H : ((zbG.f k1 t385 t386 t387).bind fun t388 => (if t388 > 0 then (some x11_1) else (zbE.l0 k1 (wrap64 (x11_1 + 1)) t368 t369 t370 t371 t372 t373))) = some r := H
     have A18 := zaO A180
     clear A180
     replace H := Option.bind_eq_some_iff.mp H
     obtain ⟨t388, A190, H⟩ := H
     replace H : (if t388 > 0 then (some x11_1) else (zbE.l0 k1 (wrap64 (x11_1 + 1)) t368 t369 t370 t371 t372 t373)) = some r := H
     have A19 := zaO A190
     clear A190
     by_cases c20 : t388 > 0
     ·rw [if_pos c20] at H
      have c20b0 : decide (0 < t388) = true := decide_eq_true c20
      clear c20
      obtain rfl := Option.some.inj H
      go_wp2_with (first | ((with_reducible refine zaQ (f := 139) rfl ?_); refine zbV (some 15) rfl rfl Tryd.func139 (by kernel_rfl) rfl #[.int .i64 x11_1] rfl (by (try simp only [List.map_toArray, List.map_cons, List.map_nil]); first | done | rfl | (simp only [List.length_drop, List.length_take]; rfl)) ?_; (with_reducible refine (zcC.calls x11_1 t375 t376 t377 t378 t379 t380 _ ?side1 A15.out).mono ?_); (case side1 => exact LaidV.below hG (by repeat (first | (with_reducible first | exact HB.out | apply zaE | apply zaA | apply zaD | refine zaH ?_ GE366.out | refine zaH ?_ GE367.out | refine zaH ?_ GE374.out) | exact HB.out))); rintro e w21 ⟨rfl, hb⟩; refine ⟨_, rfl, ?_⟩; have n0_ := zaO (zaL (g := gb366) (o := .cells #[.int .i64 a0_0, .int .i64 a0_1, .int .i64 a0_2, .int .i64 a0_3, .int .i64 a0_4, .int .i64 a0_5] 36 (0, 0)) (by (with_reducible repeat (first | apply zaC | apply zaF | apply zaB)); exact BK366.out) hb); have n1_ := zaO (zaL (g := gb367) (o := .cells #[.int .i64 a1_0, .int .i64 a1_1, .int .i64 a1_2, .int .i64 a1_3, .int .i64 a1_4, .int .i64 a1_5] 36 (0, 0)) (by (with_reducible repeat (first | apply zaC | apply zaF | apply zaB)); exact BK367.out) hb); have n2_ := zaO (zaL (g := gb374) (o := .cells #[.int .i64 t368, .int .i64 t369, .int .i64 t370, .int .i64 t371, .int .i64 t372, .int .i64 t373] 36 (0, 0)) (by (with_reducible repeat (first | apply zaC | apply zaF | apply zaB)); exact BK374.out) hb); have n3_ := zaO (zaK (by repeat (first | (with_reducible first | exact HB.out | apply zaE | apply zaA | apply zaD | refine zaH ?_ GE366.out | refine zaH ?_ GE367.out | refine zaH ?_ GE374.out) | exact HB.out)) hb); clear BK366; clear BK367; clear BK374; clear HB; have BK366 := n0_; have BK367 := n1_; have BK374 := n2_; have HB := n3_; clear n0_ n1_ n2_ n3_; (try clear hb); (try clear hb2); (try clear hk); (try clear hi)) | ((with_reducible refine zbC (N := 7) rfl ?_); refine zaW ?hg (N := 7) ?hd (cs := #[.int .i64 0, .int .i64 0, .int .i64 0, .int .i64 0, .int .i64 0, .int .i64 0]) (t := 36) ?hr ?_; (case hd => rfl); (case hg => rfl); (case hr => first | (go_simp; done) | (go_simp; rfl)); intro gb381 hg w22 hbox hb; have n0_ := zaO (zaL (g := gb366) (o := .cells #[.int .i64 a0_0, .int .i64 a0_1, .int .i64 a0_2, .int .i64 a0_3, .int .i64 a0_4, .int .i64 a0_5] 36 (0, 0)) (by (with_reducible repeat (first | apply zaC | apply zaF | apply zaB)); exact BK366.out) hb); have n1_ := zaO (zaL (g := gb367) (o := .cells #[.int .i64 a1_0, .int .i64 a1_1, .int .i64 a1_2, .int .i64 a1_3, .int .i64 a1_4, .int .i64 a1_5] 36 (0, 0)) (by (with_reducible repeat (first | apply zaC | apply zaF | apply zaB)); exact BK367.out) hb); have n2_ := zaO (zaL (g := gb374) (o := .cells #[.int .i64 t368, .int .i64 t369, .int .i64 t370, .int .i64 t371, .int .i64 t372, .int .i64 t373] 36 (0, 0)) (by (with_reducible repeat (first | apply zaC | apply zaF | apply zaB)); exact BK374.out) hb); have n3_ := zaO (zaK (by repeat (first | (with_reducible first | exact HB.out | apply zaE | apply zaA | apply zaD | refine zaH ?_ GE366.out | refine zaH ?_ GE367.out | refine zaH ?_ GE374.out) | exact HB.out)) hb); have n4_ := zaO (hbox); have n5_ := zaO ((by rw [hg]; exact (zaP (by repeat (first | (with_reducible first | exact HB.out | apply zaE | apply zaA | apply zaD | refine zaH ?_ GE366.out | refine zaH ?_ GE367.out | refine zaH ?_ GE374.out) | exact HB.out))) : w.heap.size ≤ gb381)); have n6_ := n5_; have n7_ := zaO ((by rw [hg]; exact Nat.ne_of_lt (zbN (g := gb366) (o := .cells #[.int .i64 a0_0, .int .i64 a0_1, .int .i64 a0_2, .int .i64 a0_3, .int .i64 a0_4, .int .i64 a0_5] 36 (0, 0)) (by (with_reducible repeat (first | apply zaC | apply zaF | apply zaB)); exact BK366.out)) : gb366 ≠ gb381)); have n8_ := zaO ((by rw [hg]; exact Nat.ne_of_gt (zbN (g := gb366) (o := .cells #[.int .i64 a0_0, .int .i64 a0_1, .int .i64 a0_2, .int .i64 a0_3, .int .i64 a0_4, .int .i64 a0_5] 36 (0, 0)) (by (with_reducible repeat (first | apply zaC | apply zaF | apply zaB)); exact BK366.out)) : gb381 ≠ gb366)); have n9_ := zaO ((by rw [hg]; exact Nat.ne_of_lt (zbN (g := gb367) (o := .cells #[.int .i64 a1_0, .int .i64 a1_1, .int .i64 a1_2, .int .i64 a1_3, .int .i64 a1_4, .int .i64 a1_5] 36 (0, 0)) (by (with_reducible repeat (first | apply zaC | apply zaF | apply zaB)); exact BK367.out)) : gb367 ≠ gb381)); have n10_ := zaO ((by rw [hg]; exact Nat.ne_of_gt (zbN (g := gb367) (o := .cells #[.int .i64 a1_0, .int .i64 a1_1, .int .i64 a1_2, .int .i64 a1_3, .int .i64 a1_4, .int .i64 a1_5] 36 (0, 0)) (by (with_reducible repeat (first | apply zaC | apply zaF | apply zaB)); exact BK367.out)) : gb381 ≠ gb367)); have n11_ := zaO ((by rw [hg]; exact Nat.ne_of_lt (zbN (g := gb374) (o := .cells #[.int .i64 t368, .int .i64 t369, .int .i64 t370, .int .i64 t371, .int .i64 t372, .int .i64 t373] 36 (0, 0)) (by (with_reducible repeat (first | apply zaC | apply zaF | apply zaB)); exact BK374.out)) : gb374 ≠ gb381)); have n12_ := zaO ((by rw [hg]; exact Nat.ne_of_gt (zbN (g := gb374) (o := .cells #[.int .i64 t368, .int .i64 t369, .int .i64 t370, .int .i64 t371, .int .i64 t372, .int .i64 t373] 36 (0, 0)) (by (with_reducible repeat (first | apply zaC | apply zaF | apply zaB)); exact BK374.out)) : gb381 ≠ gb374)); clear BK366; clear BK367; clear BK374; clear HB; have BK366 := n0_; have BK367 := n1_; have BK374 := n2_; have HB := n3_; have BK381 := n4_; have GW381 := n5_; have GE381 := n6_; have NB366_381 := n7_; have NB381_366 := n8_; have NB367_381 := n9_; have NB381_367 := n10_; have NB374_381 := n11_; have NB381_374 := n12_; clear n0_ n1_ n2_ n3_ n4_ n5_ n6_ n7_ n8_ n9_ n10_ n11_ n12_; clear hb hbox hg; have hnb23 := NB381_366.out; have hnc23 := NB366_381.out; have hnb24 := NB381_367.out; have hnc24 := NB367_381.out; have hnb25 := NB381_374.out; have hnc25 := NB374_381.out; obtain ⟨hcz26_0, hcz26_1, hcz26_2, hcz26_3, hcz26_4, hcz26_5⟩ := zeV BK381.out; obtain ⟨hfz26_0, hfz26_1, hfz26_2, hfz26_3, hfz26_4, hfz26_5⟩ := zeW BK381.out; have hnb27 := NB374_366.out; have hnc27 := NB366_374.out; have hnb28 := NB374_367.out; have hnc28 := NB367_374.out; obtain ⟨hcz29_0, hcz29_1, hcz29_2, hcz29_3, hcz29_4, hcz29_5⟩ := zeV BK374.out; obtain ⟨hfz29_0, hfz29_1, hfz29_2, hfz29_3, hfz29_4, hfz29_5⟩ := zeW BK374.out) | ((with_reducible refine zaQ (f := 140) rfl ?_); refine zbV (some 18) rfl rfl Tryd.func140 (by kernel_rfl) rfl #[.agg #[.int .i64 t375, .int .i64 t376, .int .i64 t377, .int .i64 t378, .int .i64 t379, .int .i64 t380], .agg #[.int .i64 t368, .int .i64 t369, .int .i64 t370, .int .i64 t371, .int .i64 t372, .int .i64 t373]] rfl (by (try simp only [List.map_toArray, List.map_cons, List.map_nil]); first | done | rfl | (simp only [List.length_drop, List.length_take]; rfl)) ?_; (with_reducible refine (zbS.calls k1 t375 t376 t377 t378 t379 t380 t368 t369 t370 t371 t372 t373 t382 t383 t384 _ A16.out).mono ?_); rintro e w30 ⟨rfl, hb⟩; refine ⟨_, rfl, ?_⟩; have n0_ := zaO (zaL (g := gb366) (o := .cells #[.int .i64 a0_0, .int .i64 a0_1, .int .i64 a0_2, .int .i64 a0_3, .int .i64 a0_4, .int .i64 a0_5] 36 (0, 0)) (by (with_reducible repeat (first | apply zaC | apply zaF | apply zaB)); refine zbK ?_ NB366_381.out _; (with_reducible repeat (first | apply zaC | apply zaF | apply zaB)); refine zbK ?_ NB366_381.out _; (with_reducible repeat (first | apply zaC | apply zaF | apply zaB)); refine zbK ?_ NB366_381.out _; (with_reducible repeat (first | apply zaC | apply zaF | apply zaB)); refine zbK ?_ NB366_381.out _; (with_reducible repeat (first | apply zaC | apply zaF | apply zaB)); refine zbK ?_ NB366_381.out _; (with_reducible repeat (first | apply zaC | apply zaF | apply zaB)); refine zbK ?_ NB366_381.out _; (with_reducible repeat (first | apply zaC | apply zaF | apply zaB)); exact BK366.out) hb); have n1_ := zaO (zaL (g := gb367) (o := .cells #[.int .i64 a1_0, .int .i64 a1_1, .int .i64 a1_2, .int .i64 a1_3, .int .i64 a1_4, .int .i64 a1_5] 36 (0, 0)) (by (with_reducible repeat (first | apply zaC | apply zaF | apply zaB)); refine zbK ?_ NB367_381.out _; (with_reducible repeat (first | apply zaC | apply zaF | apply zaB)); refine zbK ?_ NB367_381.out _; (with_reducible repeat (first | apply zaC | apply zaF | apply zaB)); refine zbK ?_ NB367_381.out _; (with_reducible repeat (first | apply zaC | apply zaF | apply zaB)); refine zbK ?_ NB367_381.out _; (with_reducible repeat (first | apply zaC | apply zaF | apply zaB)); refine zbK ?_ NB367_381.out _; (with_reducible repeat (first | apply zaC | apply zaF | apply zaB)); refine zbK ?_ NB367_381.out _; (with_reducible repeat (first | apply zaC | apply zaF | apply zaB)); exact BK367.out) hb); have n2_ := zaO (zaL (g := gb374) (o := .cells #[.int .i64 t368, .int .i64 t369, .int .i64 t370, .int .i64 t371, .int .i64 t372, .int .i64 t373] 36 (0, 0)) (by (with_reducible repeat (first | apply zaC | apply zaF | apply zaB)); refine zbK ?_ NB374_381.out _; (with_reducible repeat (first | apply zaC | apply zaF | apply zaB)); refine zbK ?_ NB374_381.out _; (with_reducible repeat (first | apply zaC | apply zaF | apply zaB)); refine zbK ?_ NB374_381.out _; (with_reducible repeat (first | apply zaC | apply zaF | apply zaB)); refine zbK ?_ NB374_381.out _; (with_reducible repeat (first | apply zaC | apply zaF | apply zaB)); refine zbK ?_ NB374_381.out _; (with_reducible repeat (first | apply zaC | apply zaF | apply zaB)); refine zbK ?_ NB374_381.out _; (with_reducible repeat (first | apply zaC | apply zaF | apply zaB)); exact BK374.out) hb); have n3_ := zaO (zaL (g := gb381) (o := .cells #[.int .i64 t375, .int .i64 t376, .int .i64 t377, .int .i64 t378, .int .i64 t379, .int .i64 t380] 36 (0, 0)) (by (with_reducible repeat (first | apply zaC | apply zaF | apply zaB)); refine zaR (cs := #[.int .i64 t375, .int .i64 t376, .int .i64 t377, .int .i64 t378, .int .i64 t379, .int .i64 0]) ?_ 5 _ rfl; (with_reducible repeat (first | apply zaC | apply zaF | apply zaB)); refine zaR (cs := #[.int .i64 t375, .int .i64 t376, .int .i64 t377, .int .i64 t378, .int .i64 0, .int .i64 0]) ?_ 4 _ rfl; (with_reducible repeat (first | apply zaC | apply zaF | apply zaB)); refine zaR (cs := #[.int .i64 t375, .int .i64 t376, .int .i64 t377, .int .i64 0, .int .i64 0, .int .i64 0]) ?_ 3 _ rfl; (with_reducible repeat (first | apply zaC | apply zaF | apply zaB)); refine zaR (cs := #[.int .i64 t375, .int .i64 t376, .int .i64 0, .int .i64 0, .int .i64 0, .int .i64 0]) ?_ 2 _ rfl; (with_reducible repeat (first | apply zaC | apply zaF | apply zaB)); refine zaR (cs := #[.int .i64 t375, .int .i64 0, .int .i64 0, .int .i64 0, .int .i64 0, .int .i64 0]) ?_ 1 _ rfl; (with_reducible repeat (first | apply zaC | apply zaF | apply zaB)); refine zaR (cs := #[.int .i64 0, .int .i64 0, .int .i64 0, .int .i64 0, .int .i64 0, .int .i64 0]) ?_ 0 _ rfl; (with_reducible repeat (first | apply zaC | apply zaF | apply zaB)); exact BK381.out) hb); have n4_ := zaO (zaK (by repeat (first | (with_reducible first | exact HB.out | apply zaE | apply zaA | apply zaD | refine zaH ?_ GE366.out | refine zaH ?_ GE367.out | refine zaH ?_ GE374.out | refine zaH ?_ GE381.out) | exact HB.out)) hb); clear BK366; clear BK367; clear BK374; clear BK381; clear HB; have BK366 := n0_; have BK367 := n1_; have BK374 := n2_; have BK381 := n3_; have HB := n4_; clear n0_ n1_ n2_ n3_ n4_; (try clear hb); (try clear hb2); (try clear hk); (try clear hi); obtain ⟨hcz31_0, hcz31_1, hcz31_2, hcz31_3, hcz31_4, hcz31_5⟩ := zeV BK381.out; obtain ⟨hfz31_0, hfz31_1, hfz31_2, hfz31_3, hfz31_4, hfz31_5⟩ := zeW BK381.out; obtain ⟨hcz32_0, hcz32_1, hcz32_2, hcz32_3, hcz32_4, hcz32_5⟩ := zeV BK374.out; obtain ⟨hfz32_0, hfz32_1, hfz32_2, hfz32_3, hfz32_4, hfz32_5⟩ := zeW BK374.out) | (go_at_call 141; (with_reducible refine (zbZ.calls k1 t375 t376 t377 t378 t379 t380 t368 t369 t370 t371 t372 t373 t385 t386 t387 _ A18.out).mono ?_); rintro e w33 ⟨rfl, hb⟩; have n0_ := zaO (zaL (g := gb366) (o := .cells #[.int .i64 a0_0, .int .i64 a0_1, .int .i64 a0_2, .int .i64 a0_3, .int .i64 a0_4, .int .i64 a0_5] 36 (0, 0)) (by (with_reducible repeat (first | apply zaC | apply zaF | apply zaB)); exact BK366.out) hb); have n1_ := zaO (zaL (g := gb367) (o := .cells #[.int .i64 a1_0, .int .i64 a1_1, .int .i64 a1_2, .int .i64 a1_3, .int .i64 a1_4, .int .i64 a1_5] 36 (0, 0)) (by (with_reducible repeat (first | apply zaC | apply zaF | apply zaB)); exact BK367.out) hb); have n2_ := zaO (zaL (g := gb374) (o := .cells #[.int .i64 t368, .int .i64 t369, .int .i64 t370, .int .i64 t371, .int .i64 t372, .int .i64 t373] 36 (0, 0)) (by (with_reducible repeat (first | apply zaC | apply zaF | apply zaB)); exact BK374.out) hb); have n3_ := zaO (zaL (g := gb381) (o := .cells #[.int .i64 t375, .int .i64 t376, .int .i64 t377, .int .i64 t378, .int .i64 t379, .int .i64 t380] 36 (0, 0)) (by (with_reducible repeat (first | apply zaC | apply zaF | apply zaB)); exact BK381.out) hb); have n4_ := zaO (zaK (by repeat (first | (with_reducible first | exact HB.out | apply zaE | apply zaA | apply zaD | refine zaH ?_ GE366.out | refine zaH ?_ GE367.out | refine zaH ?_ GE374.out | refine zaH ?_ GE381.out) | exact HB.out)) hb); clear BK366; clear BK367; clear BK374; clear BK381; clear HB; have BK366 := n0_; have BK367 := n1_; have BK374 := n2_; have BK381 := n3_; have HB := n4_; clear n0_ n1_ n2_ n3_ n4_; (try clear hb); (try clear hb2); (try clear hk); (try clear hi)) | (go_at_call 142; (with_reducible refine (zbG.calls k1 t385 t386 t387 t388 _ A19.out).mono ?_); rintro e w34 ⟨rfl, hb⟩; have n0_ := zaO (zaL (g := gb366) (o := .cells #[.int .i64 a0_0, .int .i64 a0_1, .int .i64 a0_2, .int .i64 a0_3, .int .i64 a0_4, .int .i64 a0_5] 36 (0, 0)) (by (with_reducible repeat (first | apply zaC | apply zaF | apply zaB)); exact BK366.out) hb); have n1_ := zaO (zaL (g := gb367) (o := .cells #[.int .i64 a1_0, .int .i64 a1_1, .int .i64 a1_2, .int .i64 a1_3, .int .i64 a1_4, .int .i64 a1_5] 36 (0, 0)) (by (with_reducible repeat (first | apply zaC | apply zaF | apply zaB)); exact BK367.out) hb); have n2_ := zaO (zaL (g := gb374) (o := .cells #[.int .i64 t368, .int .i64 t369, .int .i64 t370, .int .i64 t371, .int .i64 t372, .int .i64 t373] 36 (0, 0)) (by (with_reducible repeat (first | apply zaC | apply zaF | apply zaB)); exact BK374.out) hb); have n3_ := zaO (zaL (g := gb381) (o := .cells #[.int .i64 t375, .int .i64 t376, .int .i64 t377, .int .i64 t378, .int .i64 t379, .int .i64 t380] 36 (0, 0)) (by (with_reducible repeat (first | apply zaC | apply zaF | apply zaB)); exact BK381.out) hb); have n4_ := zaO (zaK (by repeat (first | (with_reducible first | exact HB.out | apply zaE | apply zaA | apply zaD | refine zaH ?_ GE366.out | refine zaH ?_ GE367.out | refine zaH ?_ GE374.out | refine zaH ?_ GE381.out) | exact HB.out)) hb); clear BK366; clear BK367; clear BK374; clear BK381; clear HB; have BK366 := n0_; have BK367 := n1_; have BK374 := n2_; have BK381 := n3_; have HB := n4_; clear n0_ n1_ n2_ n3_ n4_; (try clear hb); (try clear hb2); (try clear hk); (try clear hi)))
      go_ret
      exact ⟨by first | rfl | (simp [zaN, zaM] <;> rfl) | (simp [*, zaN, zaM] <;> rfl), by repeat (first | (with_reducible first | exact HB.out | apply zaE | apply zaA | apply zaD | refine zaH ?_ GE366.out | refine zaH ?_ GE367.out | refine zaH ?_ GE374.out | refine zaH ?_ GE381.out) | exact HB.out)⟩
     ·rw [if_neg c20] at H
      have c20b0 : decide (0 < t388) = false := decide_eq_false c20
      clear c20
      have H' := zaO H
      clear H
      go_wp2_with (first | ((with_reducible refine zaQ (f := 139) rfl ?_); refine zbV (some 15) rfl rfl Tryd.func139 (by kernel_rfl) rfl #[.int .i64 x11_1] rfl (by (try simp only [List.map_toArray, List.map_cons, List.map_nil]); first | done | rfl | (simp only [List.length_drop, List.length_take]; rfl)) ?_; (with_reducible refine (zcC.calls x11_1 t375 t376 t377 t378 t379 t380 _ ?side1 A15.out).mono ?_); (case side1 => exact LaidV.below hG (by repeat (first | (with_reducible first | exact HB.out | apply zaE | apply zaA | apply zaD | refine zaH ?_ GE366.out | refine zaH ?_ GE367.out | refine zaH ?_ GE374.out) | exact HB.out))); rintro e w35 ⟨rfl, hb⟩; refine ⟨_, rfl, ?_⟩; have n0_ := zaO (zaL (g := gb366) (o := .cells #[.int .i64 a0_0, .int .i64 a0_1, .int .i64 a0_2, .int .i64 a0_3, .int .i64 a0_4, .int .i64 a0_5] 36 (0, 0)) (by (with_reducible repeat (first | apply zaC | apply zaF | apply zaB)); exact BK366.out) hb); have n1_ := zaO (zaL (g := gb367) (o := .cells #[.int .i64 a1_0, .int .i64 a1_1, .int .i64 a1_2, .int .i64 a1_3, .int .i64 a1_4, .int .i64 a1_5] 36 (0, 0)) (by (with_reducible repeat (first | apply zaC | apply zaF | apply zaB)); exact BK367.out) hb); have n2_ := zaO (zaL (g := gb374) (o := .cells #[.int .i64 t368, .int .i64 t369, .int .i64 t370, .int .i64 t371, .int .i64 t372, .int .i64 t373] 36 (0, 0)) (by (with_reducible repeat (first | apply zaC | apply zaF | apply zaB)); exact BK374.out) hb); have n3_ := zaO (zaK (by repeat (first | (with_reducible first | exact HB.out | apply zaE | apply zaA | apply zaD | refine zaH ?_ GE366.out | refine zaH ?_ GE367.out | refine zaH ?_ GE374.out) | exact HB.out)) hb); clear BK366; clear BK367; clear BK374; clear HB; have BK366 := n0_; have BK367 := n1_; have BK374 := n2_; have HB := n3_; clear n0_ n1_ n2_ n3_; (try clear hb); (try clear hb2); (try clear hk); (try clear hi)) | ((with_reducible refine zbC (N := 7) rfl ?_); refine zaW ?hg (N := 7) ?hd (cs := #[.int .i64 0, .int .i64 0, .int .i64 0, .int .i64 0, .int .i64 0, .int .i64 0]) (t := 36) ?hr ?_; (case hd => rfl); (case hg => rfl); (case hr => first | (go_simp; done) | (go_simp; rfl)); intro gb381 hg w36 hbox hb; have n0_ := zaO (zaL (g := gb366) (o := .cells #[.int .i64 a0_0, .int .i64 a0_1, .int .i64 a0_2, .int .i64 a0_3, .int .i64 a0_4, .int .i64 a0_5] 36 (0, 0)) (by (with_reducible repeat (first | apply zaC | apply zaF | apply zaB)); exact BK366.out) hb); have n1_ := zaO (zaL (g := gb367) (o := .cells #[.int .i64 a1_0, .int .i64 a1_1, .int .i64 a1_2, .int .i64 a1_3, .int .i64 a1_4, .int .i64 a1_5] 36 (0, 0)) (by (with_reducible repeat (first | apply zaC | apply zaF | apply zaB)); exact BK367.out) hb); have n2_ := zaO (zaL (g := gb374) (o := .cells #[.int .i64 t368, .int .i64 t369, .int .i64 t370, .int .i64 t371, .int .i64 t372, .int .i64 t373] 36 (0, 0)) (by (with_reducible repeat (first | apply zaC | apply zaF | apply zaB)); exact BK374.out) hb); have n3_ := zaO (zaK (by repeat (first | (with_reducible first | exact HB.out | apply zaE | apply zaA | apply zaD | refine zaH ?_ GE366.out | refine zaH ?_ GE367.out | refine zaH ?_ GE374.out) | exact HB.out)) hb); have n4_ := zaO (hbox); have n5_ := zaO ((by rw [hg]; exact (zaP (by repeat (first | (with_reducible first | exact HB.out | apply zaE | apply zaA | apply zaD | refine zaH ?_ GE366.out | refine zaH ?_ GE367.out | refine zaH ?_ GE374.out) | exact HB.out))) : w.heap.size ≤ gb381)); have n6_ := n5_; have n7_ := zaO ((by rw [hg]; exact Nat.ne_of_lt (zbN (g := gb366) (o := .cells #[.int .i64 a0_0, .int .i64 a0_1, .int .i64 a0_2, .int .i64 a0_3, .int .i64 a0_4, .int .i64 a0_5] 36 (0, 0)) (by (with_reducible repeat (first | apply zaC | apply zaF | apply zaB)); exact BK366.out)) : gb366 ≠ gb381)); have n8_ := zaO ((by rw [hg]; exact Nat.ne_of_gt (zbN (g := gb366) (o := .cells #[.int .i64 a0_0, .int .i64 a0_1, .int .i64 a0_2, .int .i64 a0_3, .int .i64 a0_4, .int .i64 a0_5] 36 (0, 0)) (by (with_reducible repeat (first | apply zaC | apply zaF | apply zaB)); exact BK366.out)) : gb381 ≠ gb366)); have n9_ := zaO ((by rw [hg]; exact Nat.ne_of_lt (zbN (g := gb367) (o := .cells #[.int .i64 a1_0, .int .i64 a1_1, .int .i64 a1_2, .int .i64 a1_3, .int .i64 a1_4, .int .i64 a1_5] 36 (0, 0)) (by (with_reducible repeat (first | apply zaC | apply zaF | apply zaB)); exact BK367.out)) : gb367 ≠ gb381)); have n10_ := zaO ((by rw [hg]; exact Nat.ne_of_gt (zbN (g := gb367) (o := .cells #[.int .i64 a1_0, .int .i64 a1_1, .int .i64 a1_2, .int .i64 a1_3, .int .i64 a1_4, .int .i64 a1_5] 36 (0, 0)) (by (with_reducible repeat (first | apply zaC | apply zaF | apply zaB)); exact BK367.out)) : gb381 ≠ gb367)); have n11_ := zaO ((by rw [hg]; exact Nat.ne_of_lt (zbN (g := gb374) (o := .cells #[.int .i64 t368, .int .i64 t369, .int .i64 t370, .int .i64 t371, .int .i64 t372, .int .i64 t373] 36 (0, 0)) (by (with_reducible repeat (first | apply zaC | apply zaF | apply zaB)); exact BK374.out)) : gb374 ≠ gb381)); have n12_ := zaO ((by rw [hg]; exact Nat.ne_of_gt (zbN (g := gb374) (o := .cells #[.int .i64 t368, .int .i64 t369, .int .i64 t370, .int .i64 t371, .int .i64 t372, .int .i64 t373] 36 (0, 0)) (by (with_reducible repeat (first | apply zaC | apply zaF | apply zaB)); exact BK374.out)) : gb381 ≠ gb374)); clear BK366; clear BK367; clear BK374; clear HB; have BK366 := n0_; have BK367 := n1_; have BK374 := n2_; have HB := n3_; have BK381 := n4_; have GW381 := n5_; have GE381 := n6_; have NB366_381 := n7_; have NB381_366 := n8_; have NB367_381 := n9_; have NB381_367 := n10_; have NB374_381 := n11_; have NB381_374 := n12_; clear n0_ n1_ n2_ n3_ n4_ n5_ n6_ n7_ n8_ n9_ n10_ n11_ n12_; clear hb hbox hg; have hnb37 := NB381_366.out; have hnc37 := NB366_381.out; have hnb38 := NB381_367.out; have hnc38 := NB367_381.out; have hnb39 := NB381_374.out; have hnc39 := NB374_381.out; obtain ⟨hcz40_0, hcz40_1, hcz40_2, hcz40_3, hcz40_4, hcz40_5⟩ := zeV BK381.out; obtain ⟨hfz40_0, hfz40_1, hfz40_2, hfz40_3, hfz40_4, hfz40_5⟩ := zeW BK381.out; have hnb41 := NB374_366.out; have hnc41 := NB366_374.out; have hnb42 := NB374_367.out; have hnc42 := NB367_374.out; obtain ⟨hcz43_0, hcz43_1, hcz43_2, hcz43_3, hcz43_4, hcz43_5⟩ := zeV BK374.out; obtain ⟨hfz43_0, hfz43_1, hfz43_2, hfz43_3, hfz43_4, hfz43_5⟩ := zeW BK374.out) | ((with_reducible refine zaQ (f := 140) rfl ?_); refine zbV (some 18) rfl rfl Tryd.func140 (by kernel_rfl) rfl #[.agg #[.int .i64 t375, .int .i64 t376, .int .i64 t377, .int .i64 t378, .int .i64 t379, .int .i64 t380], .agg #[.int .i64 t368, .int .i64 t369, .int .i64 t370, .int .i64 t371, .int .i64 t372, .int .i64 t373]] rfl (by (try simp only [List.map_toArray, List.map_cons, List.map_nil]); first | done | rfl | (simp only [List.length_drop, List.length_take]; rfl)) ?_; (with_reducible refine (zbS.calls k1 t375 t376 t377 t378 t379 t380 t368 t369 t370 t371 t372 t373 t382 t383 t384 _ A16.out).mono ?_); rintro e w44 ⟨rfl, hb⟩; refine ⟨_, rfl, ?_⟩; have n0_ := zaO (zaL (g := gb366) (o := .cells #[.int .i64 a0_0, .int .i64 a0_1, .int .i64 a0_2, .int .i64 a0_3, .int .i64 a0_4, .int .i64 a0_5] 36 (0, 0)) (by (with_reducible repeat (first | apply zaC | apply zaF | apply zaB)); refine zbK ?_ NB366_381.out _; (with_reducible repeat (first | apply zaC | apply zaF | apply zaB)); refine zbK ?_ NB366_381.out _; (with_reducible repeat (first | apply zaC | apply zaF | apply zaB)); refine zbK ?_ NB366_381.out _; (with_reducible repeat (first | apply zaC | apply zaF | apply zaB)); refine zbK ?_ NB366_381.out _; (with_reducible repeat (first | apply zaC | apply zaF | apply zaB)); refine zbK ?_ NB366_381.out _; (with_reducible repeat (first | apply zaC | apply zaF | apply zaB)); refine zbK ?_ NB366_381.out _; (with_reducible repeat (first | apply zaC | apply zaF | apply zaB)); exact BK366.out) hb); have n1_ := zaO (zaL (g := gb367) (o := .cells #[.int .i64 a1_0, .int .i64 a1_1, .int .i64 a1_2, .int .i64 a1_3, .int .i64 a1_4, .int .i64 a1_5] 36 (0, 0)) (by (with_reducible repeat (first | apply zaC | apply zaF | apply zaB)); refine zbK ?_ NB367_381.out _; (with_reducible repeat (first | apply zaC | apply zaF | apply zaB)); refine zbK ?_ NB367_381.out _; (with_reducible repeat (first | apply zaC | apply zaF | apply zaB)); refine zbK ?_ NB367_381.out _; (with_reducible repeat (first | apply zaC | apply zaF | apply zaB)); refine zbK ?_ NB367_381.out _; (with_reducible repeat (first | apply zaC | apply zaF | apply zaB)); refine zbK ?_ NB367_381.out _; (with_reducible repeat (first | apply zaC | apply zaF | apply zaB)); refine zbK ?_ NB367_381.out _; (with_reducible repeat (first | apply zaC | apply zaF | apply zaB)); exact BK367.out) hb); have n2_ := zaO (zaL (g := gb374) (o := .cells #[.int .i64 t368, .int .i64 t369, .int .i64 t370, .int .i64 t371, .int .i64 t372, .int .i64 t373] 36 (0, 0)) (by (with_reducible repeat (first | apply zaC | apply zaF | apply zaB)); refine zbK ?_ NB374_381.out _; (with_reducible repeat (first | apply zaC | apply zaF | apply zaB)); refine zbK ?_ NB374_381.out _; (with_reducible repeat (first | apply zaC | apply zaF | apply zaB)); refine zbK ?_ NB374_381.out _; (with_reducible repeat (first | apply zaC | apply zaF | apply zaB)); refine zbK ?_ NB374_381.out _; (with_reducible repeat (first | apply zaC | apply zaF | apply zaB)); refine zbK ?_ NB374_381.out _; (with_reducible repeat (first | apply zaC | apply zaF | apply zaB)); refine zbK ?_ NB374_381.out _; (with_reducible repeat (first | apply zaC | apply zaF | apply zaB)); exact BK374.out) hb); have n3_ := zaO (zaL (g := gb381) (o := .cells #[.int .i64 t375, .int .i64 t376, .int .i64 t377, .int .i64 t378, .int .i64 t379, .int .i64 t380] 36 (0, 0)) (by (with_reducible repeat (first | apply zaC | apply zaF | apply zaB)); refine zaR (cs := #[.int .i64 t375, .int .i64 t376, .int .i64 t377, .int .i64 t378, .int .i64 t379, .int .i64 0]) ?_ 5 _ rfl; (with_reducible repeat (first | apply zaC | apply zaF | apply zaB)); refine zaR (cs := #[.int .i64 t375, .int .i64 t376, .int .i64 t377, .int .i64 t378, .int .i64 0, .int .i64 0]) ?_ 4 _ rfl; (with_reducible repeat (first | apply zaC | apply zaF | apply zaB)); refine zaR (cs := #[.int .i64 t375, .int .i64 t376, .int .i64 t377, .int .i64 0, .int .i64 0, .int .i64 0]) ?_ 3 _ rfl; (with_reducible repeat (first | apply zaC | apply zaF | apply zaB)); refine zaR (cs := #[.int .i64 t375, .int .i64 t376, .int .i64 0, .int .i64 0, .int .i64 0, .int .i64 0]) ?_ 2 _ rfl; (with_reducible repeat (first | apply zaC | apply zaF | apply zaB)); refine zaR (cs := #[.int .i64 t375, .int .i64 0, .int .i64 0, .int .i64 0, .int .i64 0, .int .i64 0]) ?_ 1 _ rfl; (with_reducible repeat (first | apply zaC | apply zaF | apply zaB)); refine zaR (cs := #[.int .i64 0, .int .i64 0, .int .i64 0, .int .i64 0, .int .i64 0, .int .i64 0]) ?_ 0 _ rfl; (with_reducible repeat (first | apply zaC | apply zaF | apply zaB)); exact BK381.out) hb); have n4_ := zaO (zaK (by repeat (first | (with_reducible first | exact HB.out | apply zaE | apply zaA | apply zaD | refine zaH ?_ GE366.out | refine zaH ?_ GE367.out | refine zaH ?_ GE374.out | refine zaH ?_ GE381.out) | exact HB.out)) hb); clear BK366; clear BK367; clear BK374; clear BK381; clear HB; have BK366 := n0_; have BK367 := n1_; have BK374 := n2_; have BK381 := n3_; have HB := n4_; clear n0_ n1_ n2_ n3_ n4_; (try clear hb); (try clear hb2); (try clear hk); (try clear hi); obtain ⟨hcz45_0, hcz45_1, hcz45_2, hcz45_3, hcz45_4, hcz45_5⟩ := zeV BK381.out; obtain ⟨hfz45_0, hfz45_1, hfz45_2, hfz45_3, hfz45_4, hfz45_5⟩ := zeW BK381.out; obtain ⟨hcz46_0, hcz46_1, hcz46_2, hcz46_3, hcz46_4, hcz46_5⟩ := zeV BK374.out; obtain ⟨hfz46_0, hfz46_1, hfz46_2, hfz46_3, hfz46_4, hfz46_5⟩ := zeW BK374.out) | (go_at_call 141; (with_reducible refine (zbZ.calls k1 t375 t376 t377 t378 t379 t380 t368 t369 t370 t371 t372 t373 t385 t386 t387 _ A18.out).mono ?_); rintro e w47 ⟨rfl, hb⟩; have n0_ := zaO (zaL (g := gb366) (o := .cells #[.int .i64 a0_0, .int .i64 a0_1, .int .i64 a0_2, .int .i64 a0_3, .int .i64 a0_4, .int .i64 a0_5] 36 (0, 0)) (by (with_reducible repeat (first | apply zaC | apply zaF | apply zaB)); exact BK366.out) hb); have n1_ := zaO (zaL (g := gb367) (o := .cells #[.int .i64 a1_0, .int .i64 a1_1, .int .i64 a1_2, .int .i64 a1_3, .int .i64 a1_4, .int .i64 a1_5] 36 (0, 0)) (by (with_reducible repeat (first | apply zaC | apply zaF | apply zaB)); exact BK367.out) hb); have n2_ := zaO (zaL (g := gb374) (o := .cells #[.int .i64 t368, .int .i64 t369, .int .i64 t370, .int .i64 t371, .int .i64 t372, .int .i64 t373] 36 (0, 0)) (by (with_reducible repeat (first | apply zaC | apply zaF | apply zaB)); exact BK374.out) hb); have n3_ := zaO (zaL (g := gb381) (o := .cells #[.int .i64 t375, .int .i64 t376, .int .i64 t377, .int .i64 t378, .int .i64 t379, .int .i64 t380] 36 (0, 0)) (by (with_reducible repeat (first | apply zaC | apply zaF | apply zaB)); exact BK381.out) hb); have n4_ := zaO (zaK (by repeat (first | (with_reducible first | exact HB.out | apply zaE | apply zaA | apply zaD | refine zaH ?_ GE366.out | refine zaH ?_ GE367.out | refine zaH ?_ GE374.out | refine zaH ?_ GE381.out) | exact HB.out)) hb); clear BK366; clear BK367; clear BK374; clear BK381; clear HB; have BK366 := n0_; have BK367 := n1_; have BK374 := n2_; have BK381 := n3_; have HB := n4_; clear n0_ n1_ n2_ n3_ n4_; (try clear hb); (try clear hb2); (try clear hk); (try clear hi)) | (go_at_call 142; (with_reducible refine (zbG.calls k1 t385 t386 t387 t388 _ A19.out).mono ?_); rintro e w48 ⟨rfl, hb⟩; have n0_ := zaO (zaL (g := gb366) (o := .cells #[.int .i64 a0_0, .int .i64 a0_1, .int .i64 a0_2, .int .i64 a0_3, .int .i64 a0_4, .int .i64 a0_5] 36 (0, 0)) (by (with_reducible repeat (first | apply zaC | apply zaF | apply zaB)); exact BK366.out) hb); have n1_ := zaO (zaL (g := gb367) (o := .cells #[.int .i64 a1_0, .int .i64 a1_1, .int .i64 a1_2, .int .i64 a1_3, .int .i64 a1_4, .int .i64 a1_5] 36 (0, 0)) (by (with_reducible repeat (first | apply zaC | apply zaF | apply zaB)); exact BK367.out) hb); have n2_ := zaO (zaL (g := gb374) (o := .cells #[.int .i64 t368, .int .i64 t369, .int .i64 t370, .int .i64 t371, .int .i64 t372, .int .i64 t373] 36 (0, 0)) (by (with_reducible repeat (first | apply zaC | apply zaF | apply zaB)); exact BK374.out) hb); have n3_ := zaO (zaL (g := gb381) (o := .cells #[.int .i64 t375, .int .i64 t376, .int .i64 t377, .int .i64 t378, .int .i64 t379, .int .i64 t380] 36 (0, 0)) (by (with_reducible repeat (first | apply zaC | apply zaF | apply zaB)); exact BK381.out) hb); have n4_ := zaO (zaK (by repeat (first | (with_reducible first | exact HB.out | apply zaE | apply zaA | apply zaD | refine zaH ?_ GE366.out | refine zaH ?_ GE367.out | refine zaH ?_ GE374.out | refine zaH ?_ GE381.out) | exact HB.out)) hb); clear BK366; clear BK367; clear BK374; clear BK381; clear HB; have BK366 := n0_; have BK367 := n1_; have BK374 := n2_; have BK381 := n3_; have HB := n4_; clear n0_ n1_ n2_ n3_ n4_; (try clear hb); (try clear hb2); (try clear hk); (try clear hi)))
      go_roundg k1
      case measure => have := HK1.out; omega
      case rel => exact ⟨(wrap64 (x11_1 + 1)), (by first | rfl | (simp; done) | (simp [*]; done)), H', ⟨by have := HK1.out; omega⟩, ⟨by (with_reducible repeat (first | apply zaC | apply zaF | apply zaB)); exact BK366.out⟩, ⟨by (with_reducible repeat (first | apply zaC | apply zaF | apply zaB)); exact BK367.out⟩, ⟨by (with_reducible repeat (first | apply zaC | apply zaF | apply zaB)); exact BK374.out⟩, ⟨by repeat (first | (with_reducible first | exact HB.out | apply zaE | apply zaA | apply zaD | refine zaH ?_ GE366.out | refine zaH ?_ GE367.out | refine zaH ?_ GE374.out | refine zaH ?_ GE381.out) | exact HB.out)⟩⟩
    ·rw [if_neg c17] at H
     have c17b0 : (t382 == 0 && (t383 == 0 && (t384 == 0))) = false := by simpa using c17
     (try (have c17b1 : decide (t382 = 0 && (t383 == 0 && (t384 == 0))) = false := by simpa using c17))
     (try (have c17b2 : (t382 == 0 && (t383 == 0 && (t384 == 0))) = false := by simpa using c17))
     (try (have c17b3 : ¬ (t382 = 0 && (t383 == 0 && (t384 == 0))) := by simpa using c17))
     clear c17
     have H' := zaO H
     clear H
     go_wp2_with (first | ((with_reducible refine zaQ (f := 139) rfl ?_); refine zbV (some 15) rfl rfl Tryd.func139 (by kernel_rfl) rfl #[.int .i64 x11_1] rfl (by (try simp only [List.map_toArray, List.map_cons, List.map_nil]); first | done | rfl | (simp only [List.length_drop, List.length_take]; rfl)) ?_; (with_reducible refine (zcC.calls x11_1 t375 t376 t377 t378 t379 t380 _ ?side1 A15.out).mono ?_); (case side1 => exact LaidV.below hG (by repeat (first | (with_reducible first | exact HB.out | apply zaE | apply zaA | apply zaD | refine zaH ?_ GE366.out | refine zaH ?_ GE367.out | refine zaH ?_ GE374.out) | exact HB.out))); rintro e w49 ⟨rfl, hb⟩; refine ⟨_, rfl, ?_⟩; have n0_ := zaO (zaL (g := gb366) (o := .cells #[.int .i64 a0_0, .int .i64 a0_1, .int .i64 a0_2, .int .i64 a0_3, .int .i64 a0_4, .int .i64 a0_5] 36 (0, 0)) (by (with_reducible repeat (first | apply zaC | apply zaF | apply zaB)); exact BK366.out) hb); have n1_ := zaO (zaL (g := gb367) (o := .cells #[.int .i64 a1_0, .int .i64 a1_1, .int .i64 a1_2, .int .i64 a1_3, .int .i64 a1_4, .int .i64 a1_5] 36 (0, 0)) (by (with_reducible repeat (first | apply zaC | apply zaF | apply zaB)); exact BK367.out) hb); have n2_ := zaO (zaL (g := gb374) (o := .cells #[.int .i64 t368, .int .i64 t369, .int .i64 t370, .int .i64 t371, .int .i64 t372, .int .i64 t373] 36 (0, 0)) (by (with_reducible repeat (first | apply zaC | apply zaF | apply zaB)); exact BK374.out) hb); have n3_ := zaO (zaK (by repeat (first | (with_reducible first | exact HB.out | apply zaE | apply zaA | apply zaD | refine zaH ?_ GE366.out | refine zaH ?_ GE367.out | refine zaH ?_ GE374.out) | exact HB.out)) hb); clear BK366; clear BK367; clear BK374; clear HB; have BK366 := n0_; have BK367 := n1_; have BK374 := n2_; have HB := n3_; clear n0_ n1_ n2_ n3_; (try clear hb); (try clear hb2); (try clear hk); (try clear hi)) | ((with_reducible refine zbC (N := 7) rfl ?_); refine zaW ?hg (N := 7) ?hd (cs := #[.int .i64 0, .int .i64 0, .int .i64 0, .int .i64 0, .int .i64 0, .int .i64 0]) (t := 36) ?hr ?_; (case hd => rfl); (case hg => rfl); (case hr => first | (go_simp; done) | (go_simp; rfl)); intro gb381 hg w50 hbox hb; have n0_ := zaO (zaL (g := gb366) (o := .cells #[.int .i64 a0_0, .int .i64 a0_1, .int .i64 a0_2, .int .i64 a0_3, .int .i64 a0_4, .int .i64 a0_5] 36 (0, 0)) (by (with_reducible repeat (first | apply zaC | apply zaF | apply zaB)); exact BK366.out) hb); have n1_ := zaO (zaL (g := gb367) (o := .cells #[.int .i64 a1_0, .int .i64 a1_1, .int .i64 a1_2, .int .i64 a1_3, .int .i64 a1_4, .int .i64 a1_5] 36 (0, 0)) (by (with_reducible repeat (first | apply zaC | apply zaF | apply zaB)); exact BK367.out) hb); have n2_ := zaO (zaL (g := gb374) (o := .cells #[.int .i64 t368, .int .i64 t369, .int .i64 t370, .int .i64 t371, .int .i64 t372, .int .i64 t373] 36 (0, 0)) (by (with_reducible repeat (first | apply zaC | apply zaF | apply zaB)); exact BK374.out) hb); have n3_ := zaO (zaK (by repeat (first | (with_reducible first | exact HB.out | apply zaE | apply zaA | apply zaD | refine zaH ?_ GE366.out | refine zaH ?_ GE367.out | refine zaH ?_ GE374.out) | exact HB.out)) hb); have n4_ := zaO (hbox); have n5_ := zaO ((by rw [hg]; exact (zaP (by repeat (first | (with_reducible first | exact HB.out | apply zaE | apply zaA | apply zaD | refine zaH ?_ GE366.out | refine zaH ?_ GE367.out | refine zaH ?_ GE374.out) | exact HB.out))) : w.heap.size ≤ gb381)); have n6_ := n5_; have n7_ := zaO ((by rw [hg]; exact Nat.ne_of_lt (zbN (g := gb366) (o := .cells #[.int .i64 a0_0, .int .i64 a0_1, .int .i64 a0_2, .int .i64 a0_3, .int .i64 a0_4, .int .i64 a0_5] 36 (0, 0)) (by (with_reducible repeat (first | apply zaC | apply zaF | apply zaB)); exact BK366.out)) : gb366 ≠ gb381)); have n8_ := zaO ((by rw [hg]; exact Nat.ne_of_gt (zbN (g := gb366) (o := .cells #[.int .i64 a0_0, .int .i64 a0_1, .int .i64 a0_2, .int .i64 a0_3, .int .i64 a0_4, .int .i64 a0_5] 36 (0, 0)) (by (with_reducible repeat (first | apply zaC | apply zaF | apply zaB)); exact BK366.out)) : gb381 ≠ gb366)); have n9_ := zaO ((by rw [hg]; exact Nat.ne_of_lt (zbN (g := gb367) (o := .cells #[.int .i64 a1_0, .int .i64 a1_1, .int .i64 a1_2, .int .i64 a1_3, .int .i64 a1_4, .int .i64 a1_5] 36 (0, 0)) (by (with_reducible repeat (first | apply zaC | apply zaF | apply zaB)); exact BK367.out)) : gb367 ≠ gb381)); have n10_ := zaO ((by rw [hg]; exact Nat.ne_of_gt (zbN (g := gb367) (o := .cells #[.int .i64 a1_0, .int .i64 a1_1, .int .i64 a1_2, .int .i64 a1_3, .int .i64 a1_4, .int .i64 a1_5] 36 (0, 0)) (by (with_reducible repeat (first | apply zaC | apply zaF | apply zaB)); exact BK367.out)) : gb381 ≠ gb367)); have n11_ := zaO ((by rw [hg]; exact Nat.ne_of_lt (zbN (g := gb374) (o := .cells #[.int .i64 t368, .int .i64 t369, .int .i64 t370, .int .i64 t371, .int .i64 t372, .int .i64 t373] 36 (0, 0)) (by (with_reducible repeat (first | apply zaC | apply zaF | apply zaB)); exact BK374.out)) : gb374 ≠ gb381)); have n12_ := zaO ((by rw [hg]; exact Nat.ne_of_gt (zbN (g := gb374) (o := .cells #[.int .i64 t368, .int .i64 t369, .int .i64 t370, .int .i64 t371, .int .i64 t372, .int .i64 t373] 36 (0, 0)) (by (with_reducible repeat (first | apply zaC | apply zaF | apply zaB)); exact BK374.out)) : gb381 ≠ gb374)); clear BK366; clear BK367; clear BK374; clear HB; have BK366 := n0_; have BK367 := n1_; have BK374 := n2_; have HB := n3_; have BK381 := n4_; have GW381 := n5_; have GE381 := n6_; have NB366_381 := n7_; have NB381_366 := n8_; have NB367_381 := n9_; have NB381_367 := n10_; have NB374_381 := n11_; have NB381_374 := n12_; clear n0_ n1_ n2_ n3_ n4_ n5_ n6_ n7_ n8_ n9_ n10_ n11_ n12_; clear hb hbox hg; have hnb51 := NB381_366.out; have hnc51 := NB366_381.out; have hnb52 := NB381_367.out; have hnc52 := NB367_381.out; have hnb53 := NB381_374.out; have hnc53 := NB374_381.out; obtain ⟨hcz54_0, hcz54_1, hcz54_2, hcz54_3, hcz54_4, hcz54_5⟩ := zeV BK381.out; obtain ⟨hfz54_0, hfz54_1, hfz54_2, hfz54_3, hfz54_4, hfz54_5⟩ := zeW BK381.out; have hnb55 := NB374_366.out; have hnc55 := NB366_374.out; have hnb56 := NB374_367.out; have hnc56 := NB367_374.out; obtain ⟨hcz57_0, hcz57_1, hcz57_2, hcz57_3, hcz57_4, hcz57_5⟩ := zeV BK374.out; obtain ⟨hfz57_0, hfz57_1, hfz57_2, hfz57_3, hfz57_4, hfz57_5⟩ := zeW BK374.out) | ((with_reducible refine zaQ (f := 140) rfl ?_); refine zbV (some 18) rfl rfl Tryd.func140 (by kernel_rfl) rfl #[.agg #[.int .i64 t375, .int .i64 t376, .int .i64 t377, .int .i64 t378, .int .i64 t379, .int .i64 t380], .agg #[.int .i64 t368, .int .i64 t369, .int .i64 t370, .int .i64 t371, .int .i64 t372, .int .i64 t373]] rfl (by (try simp only [List.map_toArray, List.map_cons, List.map_nil]); first | done | rfl | (simp only [List.length_drop, List.length_take]; rfl)) ?_; (with_reducible refine (zbS.calls k1 t375 t376 t377 t378 t379 t380 t368 t369 t370 t371 t372 t373 t382 t383 t384 _ A16.out).mono ?_); rintro e w58 ⟨rfl, hb⟩; refine ⟨_, rfl, ?_⟩; have n0_ := zaO (zaL (g := gb366) (o := .cells #[.int .i64 a0_0, .int .i64 a0_1, .int .i64 a0_2, .int .i64 a0_3, .int .i64 a0_4, .int .i64 a0_5] 36 (0, 0)) (by (with_reducible repeat (first | apply zaC | apply zaF | apply zaB)); refine zbK ?_ NB366_381.out _; (with_reducible repeat (first | apply zaC | apply zaF | apply zaB)); refine zbK ?_ NB366_381.out _; (with_reducible repeat (first | apply zaC | apply zaF | apply zaB)); refine zbK ?_ NB366_381.out _; (with_reducible repeat (first | apply zaC | apply zaF | apply zaB)); refine zbK ?_ NB366_381.out _; (with_reducible repeat (first | apply zaC | apply zaF | apply zaB)); refine zbK ?_ NB366_381.out _; (with_reducible repeat (first | apply zaC | apply zaF | apply zaB)); refine zbK ?_ NB366_381.out _; (with_reducible repeat (first | apply zaC | apply zaF | apply zaB)); exact BK366.out) hb); have n1_ := zaO (zaL (g := gb367) (o := .cells #[.int .i64 a1_0, .int .i64 a1_1, .int .i64 a1_2, .int .i64 a1_3, .int .i64 a1_4, .int .i64 a1_5] 36 (0, 0)) (by (with_reducible repeat (first | apply zaC | apply zaF | apply zaB)); refine zbK ?_ NB367_381.out _; (with_reducible repeat (first | apply zaC | apply zaF | apply zaB)); refine zbK ?_ NB367_381.out _; (with_reducible repeat (first | apply zaC | apply zaF | apply zaB)); refine zbK ?_ NB367_381.out _; (with_reducible repeat (first | apply zaC | apply zaF | apply zaB)); refine zbK ?_ NB367_381.out _; (with_reducible repeat (first | apply zaC | apply zaF | apply zaB)); refine zbK ?_ NB367_381.out _; (with_reducible repeat (first | apply zaC | apply zaF | apply zaB)); refine zbK ?_ NB367_381.out _; (with_reducible repeat (first | apply zaC | apply zaF | apply zaB)); exact BK367.out) hb); have n2_ := zaO (zaL (g := gb374) (o := .cells #[.int .i64 t368, .int .i64 t369, .int .i64 t370, .int .i64 t371, .int .i64 t372, .int .i64 t373] 36 (0, 0)) (by (with_reducible repeat (first | apply zaC | apply zaF | apply zaB)); refine zbK ?_ NB374_381.out _; (with_reducible repeat (first | apply zaC | apply zaF | apply zaB)); refine zbK ?_ NB374_381.out _; (with_reducible repeat (first | apply zaC | apply zaF | apply zaB)); refine zbK ?_ NB374_381.out _; (with_reducible repeat (first | apply zaC | apply zaF | apply zaB)); refine zbK ?_ NB374_381.out _; (with_reducible repeat (first | apply zaC | apply zaF | apply zaB)); refine zbK ?_ NB374_381.out _; (with_reducible repeat (first | apply zaC | apply zaF | apply zaB)); refine zbK ?_ NB374_381.out _; (with_reducible repeat (first | apply zaC | apply zaF | apply zaB)); exact BK374.out) hb); have n3_ := zaO (zaL (g := gb381) (o := .cells #[.int .i64 t375, .int .i64 t376, .int .i64 t377, .int .i64 t378, .int .i64 t379, .int .i64 t380] 36 (0, 0)) (by (with_reducible repeat (first | apply zaC | apply zaF | apply zaB)); refine zaR (cs := #[.int .i64 t375, .int .i64 t376, .int .i64 t377, .int .i64 t378, .int .i64 t379, .int .i64 0]) ?_ 5 _ rfl; (with_reducible repeat (first | apply zaC | apply zaF | apply zaB)); refine zaR (cs := #[.int .i64 t375, .int .i64 t376, .int .i64 t377, .int .i64 t378, .int .i64 0, .int .i64 0]) ?_ 4 _ rfl; (with_reducible repeat (first | apply zaC | apply zaF | apply zaB)); refine zaR (cs := #[.int .i64 t375, .int .i64 t376, .int .i64 t377, .int .i64 0, .int .i64 0, .int .i64 0]) ?_ 3 _ rfl; (with_reducible repeat (first | apply zaC | apply zaF | apply zaB)); refine zaR (cs := #[.int .i64 t375, .int .i64 t376, .int .i64 0, .int .i64 0, .int .i64 0, .int .i64 0]) ?_ 2 _ rfl; (with_reducible repeat (first | apply zaC | apply zaF | apply zaB)); refine zaR (cs := #[.int .i64 t375, .int .i64 0, .int .i64 0, .int .i64 0, .int .i64 0, .int .i64 0]) ?_ 1 _ rfl; (with_reducible repeat (first | apply zaC | apply zaF | apply zaB)); refine zaR (cs := #[.int .i64 0, .int .i64 0, .int .i64 0, .int .i64 0, .int .i64 0, .int .i64 0]) ?_ 0 _ rfl; (with_reducible repeat (first | apply zaC | apply zaF | apply zaB)); exact BK381.out) hb); have n4_ := zaO (zaK (by repeat (first | (with_reducible first | exact HB.out | apply zaE | apply zaA | apply zaD | refine zaH ?_ GE366.out | refine zaH ?_ GE367.out | refine zaH ?_ GE374.out | refine zaH ?_ GE381.out) | exact HB.out)) hb); clear BK366; clear BK367; clear BK374; clear BK381; clear HB; have BK366 := n0_; have BK367 := n1_; have BK374 := n2_; have BK381 := n3_; have HB := n4_; clear n0_ n1_ n2_ n3_ n4_; (try clear hb); (try clear hb2); (try clear hk); (try clear hi)))
     go_roundg k1
     case measure => have := HK1.out; omega
     case rel => exact ⟨(wrap64 (x11_1 + 1)), (by first | rfl | (simp; done) | (simp [*]; done)), H', ⟨by have := HK1.out; omega⟩, ⟨by (with_reducible repeat (first | apply zaC | apply zaF | apply zaB)); exact BK366.out⟩, ⟨by (with_reducible repeat (first | apply zaC | apply zaF | apply zaB)); exact BK367.out⟩, ⟨by (with_reducible repeat (first | apply zaC | apply zaF | apply zaB)); exact BK374.out⟩, ⟨by repeat (first | (with_reducible first | exact HB.out | apply zaE | apply zaA | apply zaD | refine zaH ?_ GE366.out | refine zaH ?_ GE367.out | refine zaH ?_ GE374.out | refine zaH ?_ GE381.out) | exact HB.out)⟩⟩
   ·rw [if_neg c14] at H
    have c14b0 : decide (x11_1 < 16) = false := decide_eq_false c14
    clear c14
    obtain rfl := Option.some.inj H
    go_wp2
    go_ret
    exact ⟨by first | rfl | (simp [zaN, zaM] <;> rfl) | (simp [*, zaN, zaM] <;> rfl), by repeat (first | (with_reducible first | exact HB.out | apply zaE | apply zaA | apply zaD | refine zaH ?_ GE366.out | refine zaH ?_ GE367.out | refine zaH ?_ GE374.out) | exact HB.out)⟩

def zdS.f (a0 : Int) : Option (Int) := some (Go.bits .and .i64 a0 15)
set_option maxHeartbeats 8000000 in
set_option maxRecDepth 100000 in
theorem zdS.calls (a0 : Int) (r : Int) (w : World) (h : zdS.f a0 = some r) :
  Calls Tryd.prog 107 #[.int .i64 a0] w fun e w' => e = .returned (.int .i64 r) ∧ Drawn0 w w' := by
 have H : (some (Go.bits .and .i64 a0 15)) = some r := h
 clear h
 obtain rfl := Option.some.inj H
 go_enter Tryd.func107, Tryd.ntmps107
 go_wp2
 go_ret
 exact ⟨by first | rfl | (simp; done) | (simp [*]; done), by repeat (first | exact Drawn0.refl _ | apply Drawn0.step)⟩

end Go.Proofs.YtmajpmofeddknaaDoor.PFnExactValidPolygon
