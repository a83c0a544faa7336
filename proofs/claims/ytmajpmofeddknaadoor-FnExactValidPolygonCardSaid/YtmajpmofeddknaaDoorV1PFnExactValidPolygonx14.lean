-- Printed for this claim by this session's program pp.py, which drives the kit's print with additions. Not trusted: Lean checks it.
import Derived.Test.YtmajpmofeddknaaDoorV1PFnExactValidPolygonx0
import Derived.Test.YtmajpmofeddknaaDoorV1PFnExactValidPolygonx2
import Derived.Test.YtmajpmofeddknaaDoorV1PFnExactValidPolygonx8
import Derived.Test.YtmajpmofeddknaaDoorV1PFnExactValidPolygonx9
import Derived.Test.YtmajpmofeddknaaDoorV1PFnExactValidPolygonx13
namespace Go.Proofs.YtmajpmofeddknaaDoor.PFnExactValidPolygon
open Go.RowKit Go.Proofs.YtmajpmofeddknaaDoorW.PrintWords Go.Proofs.YtmajpmofeddknaaDoorW.PrintLast Go.Proofs.YtmajpmofeddknaaDoorW.PrintMore
attribute [local go_sem] zdZ zdY zeP zeQ zdG zdH zdX zeA   -- for this text's walks alone
set_option linter.unusedVariables false
set_option linter.unusedSimpArgs false

def zbI.l0 : Nat → List (S36) → List (S36) → Int → Option (Bool)
 | 0, _, _, _ => none
 | k + 1, x0, x1, x5 => if x5 < (x0.length : Int) then (if 0 ≤ x5 then (if x5 < (x1.length : Int) then ((zeJ.f ((zaG x0 x5).f0.f0) ((zaG x0 x5).f0.f1) ((zaG x0 x5).f0.f2) ((zaG x0 x5).f1.f0) ((zaG x0 x5).f1.f1) ((zaG x0 x5).f1.f2) ((zaG x1 x5).f0.f0) ((zaG x1 x5).f0.f1) ((zaG x1 x5).f0.f2) ((zaG x1 x5).f1.f0) ((zaG x1 x5).f1.f1) ((zaG x1 x5).f1.f2)).bind fun t425 => (if t425 = true then (zbI.l0 k x0 x1 (wrap64 (x5 + 1))) else (some false))) else (none)) else (none)) else (some true)
def zbI.f (k : Nat) (l0 : List (S36)) (l1 : List (S36)) : Option (Bool) := if (l0.length : Int) = (l1.length : Int) then (zbI.l0 k l0 l1 0) else (some false)
theorem zbI.mono_l : ∀ k, (∀ y0 y1 y2, LeO (zbI.l0 k y0 y1 y2) (zbI.l0 (k + 1) y0 y1 y2))
 | 0 => fun _ _ _ r h => by simp [zbI.l0] at h
 | k + 1 => by
  have ih0 := zbI.mono_l k
  ·intro y0 y1 y2
   unfold zbI.l0
   repeat' first
   | (with_reducible exact ih0 _ _ _)
   | (with_reducible exact LeO.refl _)
   | (with_reducible exact LeO.none _)
   | (with_reducible refine LeO.ite ?_ ?_)
   | (with_reducible refine LeO.bind ?_ (fun _ => ?_))
   | exact ih0 _ _ _
   | exact LeO.none _
   | refine LeO.ite ?_ ?_
   | refine LeO.bind ?_ (fun _ => ?_)
theorem zbI.mono : ∀ a0 a1 k, LeO (zbI.f k a0 a1) (zbI.f (k + 1) a0 a1) := by
 intro a0 a1 k
 have ih0 := zbI.mono_l k
 unfold zbI.f
 repeat' first
   | (with_reducible exact ih0 _ _ _)
   | (with_reducible exact LeO.refl _)
   | (with_reducible exact LeO.none _)
   | (with_reducible refine LeO.ite ?_ ?_)
   | (with_reducible refine LeO.bind ?_ (fun _ => ?_))
   | exact ih0 _ _ _
   | exact LeO.none _
   | refine LeO.ite ?_ ?_
   | refine LeO.bind ?_ (fun _ => ?_)
def zbI.T6 : Bool × List (List Nat × List Nat) := (true, [([], []), ([], []), ([0, 1], [0, 1]), ([2], [2]), ([], []), ([], []), ([4, 5], [4, 5]), ([6], [6]), ([3, 7], [3, 7]), ([8], [8])])
def zbI.B6 : List Nat := [0, 0, 3, 7, 0, 0, 48, 112, 255, 511]
theorem zbI.tab6 : rtab .any (opsOf Tryd.f18 6) = zbI.T6 := by kernel_rfl
theorem zbI.bits6 : zeC zbI.T6.2 zbI.B6 = true := by kernel_rfl
set_option maxHeartbeats 8000000 in
set_option maxRecDepth 100000 in
theorem zbI.calls (k : Nat) (A0 : Option Addr) (c0 : Nat) (l0 : List (S36)) (A1 : Option Addr) (c1 : Nat) (l1 : List (S36)) (r : Bool) (w : World) (hr0 : Kd.C k36 w A0 l0.length l0) (hc0 : l0.length ≤ c0) (hr1 : Kd.C k36 w A1 l1.length l1) (hc1 : l1.length ≤ c1) (h : zbI.f k l0 l1 = some r) :
  Calls Tryd.prog 18 #[.slice A0 l0.length c0, .slice A1 l1.length c1] w fun e w' => e = .returned (.bool r) ∧ Below w.heap.size w w' := by
 have hu36 := Tryd.underlying36
 have HR0 := zaO hr0
 have HC0 := zaO hc0
 clear hr0 hc0
 have HR1 := zaO hr1
 have HC1 := zaO hc1
 clear hr1 hc1
 have HB := zaO (Below.refl w.heap.size w)
 have H : (if (l0.length : Int) = (l1.length : Int) then (zbI.l0 k l0 l1 0) else (some false)) = some r := h
 clear h
 by_cases c3 : (l0.length : Int) = (l1.length : Int)
 ·rw [if_pos c3] at H
  have c3b0 : ((l0.length : Int) == (l1.length : Int)) = true := beq_iff_eq.mpr c3
  have c3b1 : ((l0.length : Int) != (l1.length : Int)) = false := bne_eq_false_iff_eq.mpr c3
  have c3b2 : (l0.length == l1.length) = true := by first | simpa using c3 | (simp at c3 ⊢; omega)
  clear c3
  have H' := zaO H
  clear H
  go_enter Tryd.func18, Tryd.ntmps18
  go_wp2
  (try go_simp)
  go_loopg [5] k (fun kq v5 w' => ∃ (x5_1 : Int), v5 = .int .i64 x5_1 ∧ Aside0 (zbI.l0 kq l0 l1 x5_1 = some r) ∧ Aside0 (kq ≤ k) ∧ Aside0 (Below w.heap.size w w'))
  case atStart => exact ⟨(0), (by first | rfl | (simp; done) | (simp [*]; done)), H', ⟨Nat.le_refl _⟩, ⟨by repeat (first | (with_reducible first | exact HB.out | apply zaE | apply zaA | apply zaD) | exact HB.out)⟩⟩
  case round =>
   clear H'
   try clear c1
   try clear p2
   try clear c3
   try clear c3b0
   try clear c3b1
   try clear c3b2
   obtain ⟨x5_1, rfl, HA, HK1, HB⟩ := hrel
   cases gk with
   | zero => exact absurd HA.out (by simp [zbI.l0])
   | succ k1 =>
    have H := HA.out
    clear HA
    simp only [zbI.l0] at H
    by_cases c4 : x5_1 < (l0.length : Int)
    ·rw [if_pos c4] at H
     have c4b0 : decide (x5_1 < (l0.length : Int)) = true := decide_eq_true c4
     clear c4
     by_cases c5 : 0 ≤ x5_1
     ·rw [if_pos c5] at H
      have c5b0 : decide (0 ≤ x5_1) = true := decide_eq_true c5
      clear c5
      by_cases c6 : x5_1 < (l1.length : Int)
      ·rw [if_pos c6] at H
       have c6b0 : decide (x5_1 < (l1.length : Int)) = true := decide_eq_true c6
       clear c6
       replace H := Option.bind_eq_some_iff.mp H
       obtain ⟨t425, A70, H⟩ := H
       replace H : (if t425 = true then (zbI.l0 k1 l0 l1 (wrap64 (x5_1 + 1))) else (some false)) = some r := H
       have A7 := zaO A70
       clear A70
       by_cases c8 : t425 = true
       ·subst c8
        have H1 : (zbI.l0 k1 l0 l1 (wrap64 (x5_1 + 1))) = some r := by rw [if_pos rfl] at H; exact H
        clear H
        have H := H1
        clear H1
        have H' := zaO H
        clear H
        try go_wp2
        have n0_ := zaO (zaD HB.out)
        clear HB
        have HB := n0_
        clear n0_
        have p423 : 0 ≤ (x5_1 : Int) := of_decide_eq_true (by first | (with_reducible assumption) | assumption)
        have q423 : x5_1 < (l0.length : Int) := of_decide_eq_true (by first | (with_reducible assumption) | assumption)
        obtain ⟨ad423, e423, hx423_0, hx423_1, hx423_2, hx423_3, hx423_4, hx423_5⟩ := zdM HR0.out x5_1 p423 q423
        have hw423_5 := hx423_5
        have hw423_4 := hx423_4
        have hw423_3 := hx423_3
        have hw423_2 := hx423_2
        have hw423_1 := hx423_1
        have hw423_0 := hx423_0
        cases e423
        replace hx423_0 := zbF HB.out hx423_0
        replace hx423_1 := zbF HB.out hx423_1
        replace hx423_2 := zbF HB.out hx423_2
        replace hx423_3 := zbF HB.out hx423_3
        replace hx423_4 := zbF HB.out hx423_4
        replace hx423_5 := zbF HB.out hx423_5
        replace p423 := eq_true p423
        replace q423 := eq_true q423
        have p424 : 0 ≤ (x5_1 : Int) := of_decide_eq_true (by first | (with_reducible assumption) | assumption)
        have q424 : x5_1 < (l1.length : Int) := of_decide_eq_true (by first | (with_reducible assumption) | assumption)
        obtain ⟨ad424, e424, hx424_0, hx424_1, hx424_2, hx424_3, hx424_4, hx424_5⟩ := zdM HR1.out x5_1 p424 q424
        have hw424_5 := hx424_5
        have hw424_4 := hx424_4
        have hw424_3 := hx424_3
        have hw424_2 := hx424_2
        have hw424_1 := hx424_1
        have hw424_0 := hx424_0
        cases e424
        replace hx424_0 := zbF HB.out hx424_0
        replace hx424_1 := zbF HB.out hx424_1
        replace hx424_2 := zbF HB.out hx424_2
        replace hx424_3 := zbF HB.out hx424_3
        replace hx424_4 := zbF HB.out hx424_4
        replace hx424_5 := zbF HB.out hx424_5
        replace p424 := eq_true p424
        replace q424 := eq_true q424
        refine zdU (n := 10) (S := fun w' => w'.cell? (ad423.add ((x5_1).toNat * 6)) = some (.int .i64 ((zaG l0 x5_1).f0.f0)) ∧ w'.cell? ⟨(ad423.add ((x5_1).toNat * 6)).block, (ad423.add ((x5_1).toNat * 6)).off + 1, none⟩ = some (.int .i64 ((zaG l0 x5_1).f0.f1)) ∧ w'.cell? ⟨(ad423.add ((x5_1).toNat * 6)).block, (ad423.add ((x5_1).toNat * 6)).off + 2, none⟩ = some (.int .i64 ((zaG l0 x5_1).f0.f2)) ∧ w'.cell? ⟨(ad423.add ((x5_1).toNat * 6)).block, (ad423.add ((x5_1).toNat * 6)).off + 3, none⟩ = some (.int .i64 ((zaG l0 x5_1).f1.f0)) ∧ w'.cell? ⟨(ad423.add ((x5_1).toNat * 6)).block, (ad423.add ((x5_1).toNat * 6)).off + 4, none⟩ = some (.int .i64 ((zaG l0 x5_1).f1.f1)) ∧ w'.cell? ⟨(ad423.add ((x5_1).toNat * 6)).block, (ad423.add ((x5_1).toNat * 6)).off + 5, none⟩ = some (.int .i64 ((zaG l0 x5_1).f1.f2)) ∧ w'.cell? (ad424.add ((x5_1).toNat * 6)) = some (.int .i64 ((zaG l1 x5_1).f0.f0)) ∧ w'.cell? ⟨(ad424.add ((x5_1).toNat * 6)).block, (ad424.add ((x5_1).toNat * 6)).off + 1, none⟩ = some (.int .i64 ((zaG l1 x5_1).f0.f1)) ∧ w'.cell? ⟨(ad424.add ((x5_1).toNat * 6)).block, (ad424.add ((x5_1).toNat * 6)).off + 2, none⟩ = some (.int .i64 ((zaG l1 x5_1).f0.f2)) ∧ w'.cell? ⟨(ad424.add ((x5_1).toNat * 6)).block, (ad424.add ((x5_1).toNat * 6)).off + 3, none⟩ = some (.int .i64 ((zaG l1 x5_1).f1.f0)) ∧ w'.cell? ⟨(ad424.add ((x5_1).toNat * 6)).block, (ad424.add ((x5_1).toNat * 6)).off + 4, none⟩ = some (.int .i64 ((zaG l1 x5_1).f1.f1)) ∧ w'.cell? ⟨(ad424.add ((x5_1).toNat * 6)).block, (ad424.add ((x5_1).toNat * 6)).off + 5, none⟩ = some (.int .i64 ((zaG l1 x5_1).f1.f2))) (ds := []) #[false, false, false, false, false, false, false, false, false, false] (by kernel_rfl) rfl rfl ⟨(zbF HB.out hw423_0), (zbF HB.out hw423_1), (zbF HB.out hw423_2), (zbF HB.out hw423_3), (zbF HB.out hw423_4), (zbF HB.out hw423_5), (zbF HB.out hw424_0), (zbF HB.out hw424_1), (zbF HB.out hw424_2), (zbF HB.out hw424_3), (zbF HB.out hw424_4), (zbF HB.out hw424_5)⟩ (fun hHeld => ?_); refine zcT zbI.tab6 zbI.bits6 (fun HT_ HW_ => ?_)
        generalize wr.drew = w9 at HB hx423_0 hx423_1 hx423_2 hx423_3 hx423_4 hx423_5 hx424_0 hx424_1 hx424_2 hx424_3 hx424_4 hx424_5 hHeld ⊢
        refine zbL (i := 0) (N := some 17) (v := ?_) (a' := ?_) #[true, false, false, false, false, false, false, false, false, false] rfl rfl (zaY HT_.out (by kernel_rfl)) (fun _ _ _ h => h) (Or.inl ⟨by rfl, ?_⟩) ?_ ?_
        rotate_left
        ·intro w'
         go_simp
         with_reducible rfl
        rotate_left
        ·simp only [Act.put, List.setIfInBounds_toArray, List.set_cons_zero, List.set_cons_succ, zaT, zaU]
         rfl
        refine zbL (i := 1) (N := some 18) (v := ?_) (a' := ?_) #[true, true, false, false, false, false, false, false, false, false] rfl rfl (zaY HT_.out (by kernel_rfl)) (fun _ _ _ h => h) (Or.inl ⟨by rfl, ?_⟩) ?_ ?_
        rotate_left
        ·intro w'
         go_simp
         with_reducible rfl
        rotate_left
        ·simp only [Act.put, List.setIfInBounds_toArray, List.set_cons_zero, List.set_cons_succ, zaT, zaU]
         rfl
        refine zbL (i := 2) (N := some 19) (v := ?_) (a' := ?_) #[true, true, true, false, false, false, false, false, false, false] rfl rfl (zaY HT_.out (by kernel_rfl)) (fun _ _ _ h => h) (Or.inl ⟨by rfl, ?_⟩) ?_ ?_
        rotate_left
        ·intro w'
         go_simp
         with_reducible rfl
        rotate_left
        ·simp only [Act.put, List.setIfInBounds_toArray, List.set_cons_zero, List.set_cons_succ, zaT, zaU]
         rfl
        refine zbL (i := 4) (N := some 21) (v := ?_) (a' := ?_) #[true, true, true, false, true, false, false, false, false, false] rfl rfl (zaY HT_.out (by kernel_rfl)) (fun _ _ _ h => h) (Or.inl ⟨by rfl, ?_⟩) ?_ ?_
        rotate_left
        ·intro w'
         go_simp
         with_reducible rfl
        rotate_left
        ·simp only [Act.put, List.setIfInBounds_toArray, List.set_cons_zero, List.set_cons_succ, zaT, zaU]
         rfl
        refine zbL (i := 5) (N := some 22) (v := ?_) (a' := ?_) #[true, true, true, false, true, true, false, false, false, false] rfl rfl (zaY HT_.out (by kernel_rfl)) (fun _ _ _ h => h) (Or.inl ⟨by rfl, ?_⟩) ?_ ?_
        rotate_left
        ·intro w'
         go_simp
         with_reducible rfl
        rotate_left
        ·simp only [Act.put, List.setIfInBounds_toArray, List.set_cons_zero, List.set_cons_succ, zaT, zaU]
         rfl
        refine zbL (i := 6) (N := some 23) (v := ?_) (a' := ?_) #[true, true, true, false, true, true, true, false, false, false] rfl rfl (zaY HT_.out (by kernel_rfl)) (fun _ _ _ h => h) (Or.inl ⟨by rfl, ?_⟩) ?_ ?_
        rotate_left
        ·intro w'
         go_simp
         with_reducible rfl
        rotate_left
        ·simp only [Act.put, List.setIfInBounds_toArray, List.set_cons_zero, List.set_cons_succ, zaT, zaU]
         rfl
        refine take_ (i := 3) (N := some 20) (v := ?_) (a' := ?_) #[true, true, true, true, true, true, true, false, false, false] rfl rfl (zbU HT_.out HW_.out (by kernel_rfl)) (fun _ _ _ h => h) (Or.inl ⟨by rfl, ?_⟩) hHeld ?_ ?_
        rotate_left
        ·rintro w' ⟨s0, s1, s2, s3, s4, s5, s6, s7, s8, s9, s10, s11⟩
         go_simp
         with_reducible rfl
        rotate_left
        ·simp only [Act.put, List.setIfInBounds_toArray, List.set_cons_zero, List.set_cons_succ, zaT, zaU]
         rfl
        refine take_ (i := 7) (N := some 24) (v := ?_) (a' := ?_) #[true, true, true, true, true, true, true, true, false, false] rfl rfl (zbU HT_.out HW_.out (by kernel_rfl)) (fun _ _ _ h => h) (Or.inl ⟨by rfl, ?_⟩) hHeld ?_ ?_
        rotate_left
        ·rintro w' ⟨s0, s1, s2, s3, s4, s5, s6, s7, s8, s9, s10, s11⟩
         go_simp
         with_reducible rfl
        rotate_left
        ·simp only [Act.put, List.setIfInBounds_toArray, List.set_cons_zero, List.set_cons_succ, zaT, zaU]
         rfl
        refine zeX (i := 8) (N := some 25) #[true, true, true, true, true, true, true, true, true, false] rfl rfl (zcU HT_.out (by kernel_rfl)) (by decide) (fun K hK => ?_)
        refine zdI Tryd.func49 (by kernel_rfl) rfl #[.agg #[.int .i64 ((zaG l0 x5_1).f0.f0), .int .i64 ((zaG l0 x5_1).f0.f1), .int .i64 ((zaG l0 x5_1).f0.f2), .int .i64 ((zaG l0 x5_1).f1.f0), .int .i64 ((zaG l0 x5_1).f1.f1), .int .i64 ((zaG l0 x5_1).f1.f2)], .agg #[.int .i64 ((zaG l1 x5_1).f0.f0), .int .i64 ((zaG l1 x5_1).f0.f1), .int .i64 ((zaG l1 x5_1).f0.f2), .int .i64 ((zaG l1 x5_1).f1.f0), .int .i64 ((zaG l1 x5_1).f1.f1), .int .i64 ((zaG l1 x5_1).f1.f2)]] (by rfl) rfl rfl (by (try simp only [List.map_toArray, List.map_cons, List.map_nil]); first | done | rfl | (simp only [List.length_drop, List.length_take]; rfl)) ?_
        with_reducible refine (zeJ.calls ((zaG l0 x5_1).f0.f0) ((zaG l0 x5_1).f0.f1) ((zaG l0 x5_1).f0.f2) ((zaG l0 x5_1).f1.f0) ((zaG l0 x5_1).f1.f1) ((zaG l0 x5_1).f1.f2) ((zaG l1 x5_1).f0.f0) ((zaG l1 x5_1).f0.f1) ((zaG l1 x5_1).f0.f2) ((zaG l1 x5_1).f1.f0) ((zaG l1 x5_1).f1.f1) ((zaG l1 x5_1).f1.f2) true _ A7.out).mono ?_
        rintro e w10 ⟨rfl, hb⟩
        refine ⟨_, rfl, ?_⟩
        have n0_ := zaO (zaK (by repeat (first | (with_reducible first | exact HB.out | apply zaE | apply zaA | apply zaD) | exact HB.out)) hb)
        clear HB
        have HB := n0_
        clear n0_
        (try clear hb)
        (try clear hb2)
        (try clear hk)
        (try clear hi)
        refine hK.out _ _ ⟨(zbF HB.out hw423_0), (zbF HB.out hw423_1), (zbF HB.out hw423_2), (zbF HB.out hw423_3), (zbF HB.out hw423_4), (zbF HB.out hw423_5), (zbF HB.out hw424_0), (zbF HB.out hw424_1), (zbF HB.out hw424_2), (zbF HB.out hw424_3), (zbF HB.out hw424_4), (zbF HB.out hw424_5)⟩ (fun hHeld => ?_)
        clear hK K
        refine zdL (a' := ?_) ?_ ?_
        rotate_left
        ·show Act.put _ (some 25) _ = _
         simp only [Act.put, List.setIfInBounds_toArray, List.set_cons_zero, List.set_cons_succ, zaT, zaU]
         rfl
        refine zbL (i := 9) (N := some 26) (v := ?_) (a' := ?_) #[true, true, true, true, true, true, true, true, true, true] rfl rfl (zaY HT_.out (by kernel_rfl)) (fun _ _ _ h => h) (Or.inl ⟨by rfl, ?_⟩) ?_ ?_
        rotate_left
        ·intro w'
         go_simp
         with_reducible rfl
        rotate_left
        ·simp only [Act.put, List.setIfInBounds_toArray, List.set_cons_zero, List.set_cons_succ, zaT, zaU]
         rfl
        refine done_ (zdJ HT_.out (by kernel_rfl)) ?_
        try go_wp2
        go_roundg k1
        case measure => have := HK1.out; omega
        case rel => exact ⟨(wrap64 (x5_1 + 1)), (by first | rfl | (simp; done) | (simp [*]; done)), H', ⟨by have := HK1.out; omega⟩, ⟨by repeat (first | (with_reducible first | exact HB.out | apply zaE | apply zaA | apply zaD) | exact HB.out)⟩⟩
       ·replace c8 := Bool.eq_false_iff.mpr c8
        subst c8
        have H1 : (some false) = some r := by rw [if_neg (show ¬ (false = true) by decide)] at H; exact H
        clear H
        have H := H1
        clear H1
        obtain rfl := Option.some.inj H
        try go_wp2
        have n0_ := zaO (zaD HB.out)
        clear HB
        have HB := n0_
        clear n0_
        have p423 : 0 ≤ (x5_1 : Int) := of_decide_eq_true (by first | (with_reducible assumption) | assumption)
        have q423 : x5_1 < (l0.length : Int) := of_decide_eq_true (by first | (with_reducible assumption) | assumption)
        obtain ⟨ad423, e423, hx423_0, hx423_1, hx423_2, hx423_3, hx423_4, hx423_5⟩ := zdM HR0.out x5_1 p423 q423
        have hw423_5 := hx423_5
        have hw423_4 := hx423_4
        have hw423_3 := hx423_3
        have hw423_2 := hx423_2
        have hw423_1 := hx423_1
        have hw423_0 := hx423_0
        cases e423
        replace hx423_0 := zbF HB.out hx423_0
        replace hx423_1 := zbF HB.out hx423_1
        replace hx423_2 := zbF HB.out hx423_2
        replace hx423_3 := zbF HB.out hx423_3
        replace hx423_4 := zbF HB.out hx423_4
        replace hx423_5 := zbF HB.out hx423_5
        replace p423 := eq_true p423
        replace q423 := eq_true q423
        have p424 : 0 ≤ (x5_1 : Int) := of_decide_eq_true (by first | (with_reducible assumption) | assumption)
        have q424 : x5_1 < (l1.length : Int) := of_decide_eq_true (by first | (with_reducible assumption) | assumption)
        obtain ⟨ad424, e424, hx424_0, hx424_1, hx424_2, hx424_3, hx424_4, hx424_5⟩ := zdM HR1.out x5_1 p424 q424
        have hw424_5 := hx424_5
        have hw424_4 := hx424_4
        have hw424_3 := hx424_3
        have hw424_2 := hx424_2
        have hw424_1 := hx424_1
        have hw424_0 := hx424_0
        cases e424
        replace hx424_0 := zbF HB.out hx424_0
        replace hx424_1 := zbF HB.out hx424_1
        replace hx424_2 := zbF HB.out hx424_2
        replace hx424_3 := zbF HB.out hx424_3
        replace hx424_4 := zbF HB.out hx424_4
        replace hx424_5 := zbF HB.out hx424_5
        replace p424 := eq_true p424
        replace q424 := eq_true q424
        refine zdU (n := 10) (S := fun w' => w'.cell? (ad423.add ((x5_1).toNat * 6)) = some (.int .i64 ((zaG l0 x5_1).f0.f0)) ∧ w'.cell? ⟨(ad423.add ((x5_1).toNat * 6)).block, (ad423.add ((x5_1).toNat * 6)).off + 1, none⟩ = some (.int .i64 ((zaG l0 x5_1).f0.f1)) ∧ w'.cell? ⟨(ad423.add ((x5_1).toNat * 6)).block, (ad423.add ((x5_1).toNat * 6)).off + 2, none⟩ = some (.int .i64 ((zaG l0 x5_1).f0.f2)) ∧ w'.cell? ⟨(ad423.add ((x5_1).toNat * 6)).block, (ad423.add ((x5_1).toNat * 6)).off + 3, none⟩ = some (.int .i64 ((zaG l0 x5_1).f1.f0)) ∧ w'.cell? ⟨(ad423.add ((x5_1).toNat * 6)).block, (ad423.add ((x5_1).toNat * 6)).off + 4, none⟩ = some (.int .i64 ((zaG l0 x5_1).f1.f1)) ∧ w'.cell? ⟨(ad423.add ((x5_1).toNat * 6)).block, (ad423.add ((x5_1).toNat * 6)).off + 5, none⟩ = some (.int .i64 ((zaG l0 x5_1).f1.f2)) ∧ w'.cell? (ad424.add ((x5_1).toNat * 6)) = some (.int .i64 ((zaG l1 x5_1).f0.f0)) ∧ w'.cell? ⟨(ad424.add ((x5_1).toNat * 6)).block, (ad424.add ((x5_1).toNat * 6)).off + 1, none⟩ = some (.int .i64 ((zaG l1 x5_1).f0.f1)) ∧ w'.cell? ⟨(ad424.add ((x5_1).toNat * 6)).block, (ad424.add ((x5_1).toNat * 6)).off + 2, none⟩ = some (.int .i64 ((zaG l1 x5_1).f0.f2)) ∧ w'.cell? ⟨(ad424.add ((x5_1).toNat * 6)).block, (ad424.add ((x5_1).toNat * 6)).off + 3, none⟩ = some (.int .i64 ((zaG l1 x5_1).f1.f0)) ∧ w'.cell? ⟨(ad424.add ((x5_1).toNat * 6)).block, (ad424.add ((x5_1).toNat * 6)).off + 4, none⟩ = some (.int .i64 ((zaG l1 x5_1).f1.f1)) ∧ w'.cell? ⟨(ad424.add ((x5_1).toNat * 6)).block, (ad424.add ((x5_1).toNat * 6)).off + 5, none⟩ = some (.int .i64 ((zaG l1 x5_1).f1.f2))) (ds := []) #[false, false, false, false, false, false, false, false, false, false] (by kernel_rfl) rfl rfl ⟨(zbF HB.out hw423_0), (zbF HB.out hw423_1), (zbF HB.out hw423_2), (zbF HB.out hw423_3), (zbF HB.out hw423_4), (zbF HB.out hw423_5), (zbF HB.out hw424_0), (zbF HB.out hw424_1), (zbF HB.out hw424_2), (zbF HB.out hw424_3), (zbF HB.out hw424_4), (zbF HB.out hw424_5)⟩ (fun hHeld => ?_); refine zcT zbI.tab6 zbI.bits6 (fun HT_ HW_ => ?_)
        generalize wr.drew = w11 at HB hx423_0 hx423_1 hx423_2 hx423_3 hx423_4 hx423_5 hx424_0 hx424_1 hx424_2 hx424_3 hx424_4 hx424_5 hHeld ⊢
        refine zbL (i := 0) (N := some 17) (v := ?_) (a' := ?_) #[true, false, false, false, false, false, false, false, false, false] rfl rfl (zaY HT_.out (by kernel_rfl)) (fun _ _ _ h => h) (Or.inl ⟨by rfl, ?_⟩) ?_ ?_
        rotate_left
        ·intro w'
         go_simp
         with_reducible rfl
        rotate_left
        ·simp only [Act.put, List.setIfInBounds_toArray, List.set_cons_zero, List.set_cons_succ, zaT, zaU]
         rfl
        refine zbL (i := 1) (N := some 18) (v := ?_) (a' := ?_) #[true, true, false, false, false, false, false, false, false, false] rfl rfl (zaY HT_.out (by kernel_rfl)) (fun _ _ _ h => h) (Or.inl ⟨by rfl, ?_⟩) ?_ ?_
        rotate_left
        ·intro w'
         go_simp
         with_reducible rfl
        rotate_left
        ·simp only [Act.put, List.setIfInBounds_toArray, List.set_cons_zero, List.set_cons_succ, zaT, zaU]
         rfl
        refine zbL (i := 2) (N := some 19) (v := ?_) (a' := ?_) #[true, true, true, false, false, false, false, false, false, false] rfl rfl (zaY HT_.out (by kernel_rfl)) (fun _ _ _ h => h) (Or.inl ⟨by rfl, ?_⟩) ?_ ?_
        rotate_left
        ·intro w'
         go_simp
         with_reducible rfl
        rotate_left
        ·simp only [Act.put, List.setIfInBounds_toArray, List.set_cons_zero, List.set_cons_succ, zaT, zaU]
         rfl
        refine zbL (i := 4) (N := some 21) (v := ?_) (a' := ?_) #[true, true, true, false, true, false, false, false, false, false] rfl rfl (zaY HT_.out (by kernel_rfl)) (fun _ _ _ h => h) (Or.inl ⟨by rfl, ?_⟩) ?_ ?_
        rotate_left
        ·intro w'
         go_simp
         with_reducible rfl
        rotate_left
        ·simp only [Act.put, List.setIfInBounds_toArray, List.set_cons_zero, List.set_cons_succ, zaT, zaU]
         rfl
        refine zbL (i := 5) (N := some 22) (v := ?_) (a' := ?_) #[true, true, true, false, true, true, false, false, false, false] rfl rfl (zaY HT_.out (by kernel_rfl)) (fun _ _ _ h => h) (Or.inl ⟨by rfl, ?_⟩) ?_ ?_
        rotate_left
        ·intro w'
         go_simp
         with_reducible rfl
        rotate_left
        ·simp only [Act.put, List.setIfInBounds_toArray, List.set_cons_zero, List.set_cons_succ, zaT, zaU]
         rfl
        refine zbL (i := 6) (N := some 23) (v := ?_) (a' := ?_) #[true, true, true, false, true, true, true, false, false, false] rfl rfl (zaY HT_.out (by kernel_rfl)) (fun _ _ _ h => h) (Or.inl ⟨by rfl, ?_⟩) ?_ ?_
        rotate_left
        ·intro w'
         go_simp
         with_reducible rfl
        rotate_left
        ·simp only [Act.put, List.setIfInBounds_toArray, List.set_cons_zero, List.set_cons_succ, zaT, zaU]
         rfl
        refine take_ (i := 3) (N := some 20) (v := ?_) (a' := ?_) #[true, true, true, true, true, true, true, false, false, false] rfl rfl (zbU HT_.out HW_.out (by kernel_rfl)) (fun _ _ _ h => h) (Or.inl ⟨by rfl, ?_⟩) hHeld ?_ ?_
        rotate_left
        ·rintro w' ⟨s0, s1, s2, s3, s4, s5, s6, s7, s8, s9, s10, s11⟩
         go_simp
         with_reducible rfl
        rotate_left
        ·simp only [Act.put, List.setIfInBounds_toArray, List.set_cons_zero, List.set_cons_succ, zaT, zaU]
         rfl
        refine take_ (i := 7) (N := some 24) (v := ?_) (a' := ?_) #[true, true, true, true, true, true, true, true, false, false] rfl rfl (zbU HT_.out HW_.out (by kernel_rfl)) (fun _ _ _ h => h) (Or.inl ⟨by rfl, ?_⟩) hHeld ?_ ?_
        rotate_left
        ·rintro w' ⟨s0, s1, s2, s3, s4, s5, s6, s7, s8, s9, s10, s11⟩
         go_simp
         with_reducible rfl
        rotate_left
        ·simp only [Act.put, List.setIfInBounds_toArray, List.set_cons_zero, List.set_cons_succ, zaT, zaU]
         rfl
        refine zeX (i := 8) (N := some 25) #[true, true, true, true, true, true, true, true, true, false] rfl rfl (zcU HT_.out (by kernel_rfl)) (by decide) (fun K hK => ?_)
        refine zdI Tryd.func49 (by kernel_rfl) rfl #[.agg #[.int .i64 ((zaG l0 x5_1).f0.f0), .int .i64 ((zaG l0 x5_1).f0.f1), .int .i64 ((zaG l0 x5_1).f0.f2), .int .i64 ((zaG l0 x5_1).f1.f0), .int .i64 ((zaG l0 x5_1).f1.f1), .int .i64 ((zaG l0 x5_1).f1.f2)], .agg #[.int .i64 ((zaG l1 x5_1).f0.f0), .int .i64 ((zaG l1 x5_1).f0.f1), .int .i64 ((zaG l1 x5_1).f0.f2), .int .i64 ((zaG l1 x5_1).f1.f0), .int .i64 ((zaG l1 x5_1).f1.f1), .int .i64 ((zaG l1 x5_1).f1.f2)]] (by rfl) rfl rfl (by (try simp only [List.map_toArray, List.map_cons, List.map_nil]); first | done | rfl | (simp only [List.length_drop, List.length_take]; rfl)) ?_
        with_reducible refine (zeJ.calls ((zaG l0 x5_1).f0.f0) ((zaG l0 x5_1).f0.f1) ((zaG l0 x5_1).f0.f2) ((zaG l0 x5_1).f1.f0) ((zaG l0 x5_1).f1.f1) ((zaG l0 x5_1).f1.f2) ((zaG l1 x5_1).f0.f0) ((zaG l1 x5_1).f0.f1) ((zaG l1 x5_1).f0.f2) ((zaG l1 x5_1).f1.f0) ((zaG l1 x5_1).f1.f1) ((zaG l1 x5_1).f1.f2) false _ A7.out).mono ?_
        rintro e w12 ⟨rfl, hb⟩
        refine ⟨_, rfl, ?_⟩
        have n0_ := zaO (zaK (by repeat (first | (with_reducible first | exact HB.out | apply zaE | apply zaA | apply zaD) | exact HB.out)) hb)
        clear HB
        have HB := n0_
        clear n0_
        (try clear hb)
        (try clear hb2)
        (try clear hk)
        (try clear hi)
        refine hK.out _ _ ⟨(zbF HB.out hw423_0), (zbF HB.out hw423_1), (zbF HB.out hw423_2), (zbF HB.out hw423_3), (zbF HB.out hw423_4), (zbF HB.out hw423_5), (zbF HB.out hw424_0), (zbF HB.out hw424_1), (zbF HB.out hw424_2), (zbF HB.out hw424_3), (zbF HB.out hw424_4), (zbF HB.out hw424_5)⟩ (fun hHeld => ?_)
        clear hK K
        refine zdL (a' := ?_) ?_ ?_
        rotate_left
        ·show Act.put _ (some 25) _ = _
         simp only [Act.put, List.setIfInBounds_toArray, List.set_cons_zero, List.set_cons_succ, zaT, zaU]
         rfl
        refine zbL (i := 9) (N := some 26) (v := ?_) (a' := ?_) #[true, true, true, true, true, true, true, true, true, true] rfl rfl (zaY HT_.out (by kernel_rfl)) (fun _ _ _ h => h) (Or.inl ⟨by rfl, ?_⟩) ?_ ?_
        rotate_left
        ·intro w'
         go_simp
         with_reducible rfl
        rotate_left
        ·simp only [Act.put, List.setIfInBounds_toArray, List.set_cons_zero, List.set_cons_succ, zaT, zaU]
         rfl
        refine done_ (zdJ HT_.out (by kernel_rfl)) ?_
        try go_wp2
        go_ret
        exact ⟨by first | rfl | (simp [zaN, zaM] <;> rfl) | (simp [*, zaN, zaM] <;> rfl), by repeat (first | (with_reducible first | exact HB.out | apply zaE | apply zaA | apply zaD) | exact HB.out)⟩
      ·rw [if_neg c6] at H
       exact absurd H (by simp)
     ·rw [if_neg c5] at H
      exact absurd H (by simp)
    ·rw [if_neg c4] at H
     have c4b0 : decide (x5_1 < (l0.length : Int)) = false := decide_eq_false c4
     clear c4
     obtain rfl := Option.some.inj H
     go_wp2
     go_ret
     exact ⟨by first | rfl | (simp [zaN, zaM] <;> rfl) | (simp [*, zaN, zaM] <;> rfl), by repeat (first | (with_reducible first | exact HB.out | apply zaE | apply zaA | apply zaD) | exact HB.out)⟩
 ·rw [if_neg c3] at H
  have c3b0 : ((l0.length : Int) == (l1.length : Int)) = false := beq_eq_false_iff_ne.mpr c3
  have c3b1 : ((l0.length : Int) != (l1.length : Int)) = true := bne_iff_ne.mpr c3
  have c3b2 : (l0.length == l1.length) = false := by first | simpa using c3 | (simp at c3 ⊢; omega)
  obtain rfl := Option.some.inj H
  go_enter Tryd.func18, Tryd.ntmps18
  go_wp2
  go_ret
  exact ⟨by first | rfl | (simp [zaN, zaM] <;> rfl) | (simp [*, zaN, zaM] <;> rfl), by repeat (first | (with_reducible first | exact HB.out | apply zaE | apply zaA | apply zaD) | exact HB.out)⟩

def laws_FnExactValidPolygon.f (k : Nat) (l0 : List (S32)) : Option (Bool) := (zdT.f l0 1048576).bind fun t426 => (if t426 < 0 then (some true) else ((zbJ.f k l0).bind fun t427 => ((zcK.f k t427).bind fun t430 => ((zbJ.f k l0).bind fun t431 => ((zcB.f k t431).bind fun t434 => (if (t434 != t430) = true then (none) else ((zbJ.f k l0).bind fun t435 => ((zbI.f k t431 t435).bind fun t438 => (if t438 = true then (some true) else (none))))))))))
theorem laws_FnExactValidPolygon.mono : ∀ a0 k, LeO (laws_FnExactValidPolygon.f k a0) (laws_FnExactValidPolygon.f (k + 1) a0) := by
 intro a0 k
 unfold laws_FnExactValidPolygon.f
 repeat' first
   | (with_reducible exact zcB.mono _ _)
   | (with_reducible exact zbI.mono _ _ _)
   | (with_reducible exact zbJ.mono _ _)
   | (with_reducible exact zcK.mono _ _)
   | (with_reducible exact LeO.refl _)
   | (with_reducible exact LeO.none _)
   | (with_reducible refine LeO.ite ?_ ?_)
   | (with_reducible refine LeO.bind ?_ (fun _ => ?_))
   | exact zcB.mono _ _
   | exact zbI.mono _ _ _
   | exact zbJ.mono _ _
   | exact zcK.mono _ _
   | exact LeO.none _
   | refine LeO.ite ?_ ?_
   | refine LeO.bind ?_ (fun _ => ?_)
set_option maxHeartbeats 8000000 in
set_option maxRecDepth 100000 in
theorem laws_FnExactValidPolygon.calls (k : Nat) (A0 : Option Addr) (c0 : Nat) (l0 : List (S32)) (r : Bool) (w : World) (hG : LaidV w) (hr0 : Kd.C k32 w A0 l0.length l0) (hc0 : l0.length ≤ c0) (h : laws_FnExactValidPolygon.f k l0 = some r) :
  Calls Tryd.prog 3 #[.slice A0 l0.length c0] w fun e w' => e = .returned (.bool r) ∧ Below w.heap.size w w' := by
 have HR0 := zaO hr0
 have HC0 := zaO hc0
 clear hr0 hc0
 have HB := zaO (Below.refl w.heap.size w)
 have H : ((zdT.f l0 1048576).bind fun t426 => (if t426 < 0 then (some true) else ((zbJ.f k l0).bind fun t427 => ((zcK.f k t427).bind fun t430 => ((zbJ.f k l0).bind fun t431 => ((zcB.f k t431).bind fun t434 => (if (t434 != t430) = true then (none) else ((zbJ.f k l0).bind fun t435 => ((zbI.f k t431 t435).bind fun t438 => (if t438 = true then (some true) else (none))))))))))) = some r := h
 clear h
 replace H := Option.bind_eq_some_iff.mp H
 obtain ⟨t426, A20, H⟩ := H
 replace H : (if t426 < 0 then (some true) else ((zbJ.f k l0).bind fun t427 => ((zcK.f k t427).bind fun t430 => ((zbJ.f k l0).bind fun t431 => ((zcB.f k t431).bind fun t434 => (if (t434 != t430) = true then (none) else ((zbJ.f k l0).bind fun t435 => ((zbI.f k t431 t435).bind fun t438 => (if t438 = true then (some true) else (none)))))))))) = some r := H
 have A2 := zaO A20
 clear A20
 by_cases c3 : t426 < 0
 ·rw [if_pos c3] at H
  have c3b0 : decide (t426 < 0) = true := decide_eq_true c3
  clear c3
  obtain rfl := Option.some.inj H
  go_enter Tryd.func3, Tryd.ntmps3
  go_wp2_with (first | ((with_reducible refine zaQ (f := 14) rfl ?_); refine zbV (some 9) rfl rfl Tryd.func14 (by kernel_rfl) rfl #[.slice A0 l0.length c0, .int .i64 1048576] rfl (by (try simp only [List.map_toArray, List.map_cons, List.map_nil]); first | done | rfl | (simp only [List.length_drop, List.length_take]; rfl)) ?_; (with_reducible refine (zdT.calls _ _ l0 1048576 t426 _ ?side1 ?side2 A2.out).mono ?_); (case side1 => repeat (first | exact HR0.out | (with_reducible refine Kd.C_alloc ?_ _) | (with_reducible refine Kd.C_drewN ?_ _) | (with_reducible refine Kd.C_drew ?_))); (case side2 => exact HC0.out); rintro e w' ⟨rfl, ⟨nd, rfl⟩⟩; refine ⟨_, rfl, ?_⟩))
  go_ret
  exact ⟨by first | rfl | (simp [zaN, zaM] <;> rfl) | (simp [*, zaN, zaM] <;> rfl), by repeat (first | (with_reducible first | exact HB.out | apply zaE | apply zaA | apply zaD) | exact HB.out)⟩
 ·rw [if_neg c3] at H
  have c3b0 : decide (t426 < 0) = false := decide_eq_false c3
  clear c3
  replace H := Option.bind_eq_some_iff.mp H
  obtain ⟨t427, A40, H⟩ := H
  replace H : ((zcK.f k t427).bind fun t430 => ((zbJ.f k l0).bind fun t431 => ((zcB.f k t431).bind fun t434 => (if (t434 != t430) = true then (none) else ((zbJ.f k l0).bind fun t435 => ((zbI.f k t431 t435).bind fun t438 => (if t438 = true then (some true) else (none)))))))) = some r := H
  have A4 := zaO A40
  clear A40
  replace H := Option.bind_eq_some_iff.mp H
  obtain ⟨t430, A50, H⟩ := H
  replace H : ((zbJ.f k l0).bind fun t431 => ((zcB.f k t431).bind fun t434 => (if (t434 != t430) = true then (none) else ((zbJ.f k l0).bind fun t435 => ((zbI.f k t431 t435).bind fun t438 => (if t438 = true then (some true) else (none))))))) = some r := H
  have A5 := zaO A50
  clear A50
  replace H := Option.bind_eq_some_iff.mp H
  obtain ⟨t431, A60, H⟩ := H
  replace H : ((zcB.f k t431).bind fun t434 => (if (t434 != t430) = true then (none) else ((zbJ.f k l0).bind fun t435 => ((zbI.f k t431 t435).bind fun t438 => (if t438 = true then (some true) else (none)))))) = some r := H
  have A6 := zaO A60
  clear A60
  replace H := Option.bind_eq_some_iff.mp H
  obtain ⟨t434, A70, H⟩ := H
  replace H : (if (t434 != t430) = true then (none) else ((zbJ.f k l0).bind fun t435 => ((zbI.f k t431 t435).bind fun t438 => (if t438 = true then (some true) else (none))))) = some r := H
  have A7 := zaO A70
  clear A70
  by_cases c8 : (t434 != t430) = true
  ·rw [if_pos c8] at H
   exact absurd H (by simp)
  ·rw [if_neg c8] at H
   have c8b0 : (t434 != t430) = false := by simpa using c8
   (try (have c8b1 : decide (t434 = t430) = true := by simpa using c8))
   (try (have c8b2 : (t434 == t430) = true := by simpa using c8))
   clear c8
   replace H := Option.bind_eq_some_iff.mp H
   obtain ⟨t435, A90, H⟩ := H
   replace H : ((zbI.f k t431 t435).bind fun t438 => (if t438 = true then (some true) else (none))) = some r := H
   have A9 := zaO A90
   clear A90
   replace H := Option.bind_eq_some_iff.mp H
   obtain ⟨t438, A100, H⟩ := H
   replace H : (if t438 = true then (some true) else (none)) = some r := H
   have A10 := zaO A100
   clear A100
   by_cases c11 : t438 = true
   ·subst c11
    have H1 : (some true) = some r := by rw [if_pos rfl] at H; exact H
    clear H
    have H := H1
    clear H1
    obtain rfl := Option.some.inj H
    go_enter Tryd.func3, Tryd.ntmps3
    go_wp2_with (first | ((with_reducible refine zaQ (f := 14) rfl ?_); refine zbV (some 9) rfl rfl Tryd.func14 (by kernel_rfl) rfl #[.slice A0 l0.length c0, .int .i64 1048576] rfl (by (try simp only [List.map_toArray, List.map_cons, List.map_nil]); first | done | rfl | (simp only [List.length_drop, List.length_take]; rfl)) ?_; (with_reducible refine (zdT.calls _ _ l0 1048576 t426 _ ?side1 ?side2 A2.out).mono ?_); (case side1 => repeat (first | exact HR0.out | (with_reducible refine Kd.C_alloc ?_ _) | (with_reducible refine Kd.C_drewN ?_ _) | (with_reducible refine Kd.C_drew ?_))); (case side2 => exact HC0.out); rintro e w' ⟨rfl, ⟨nd, rfl⟩⟩; refine ⟨_, rfl, ?_⟩) | ((with_reducible refine zaQ (f := 16) rfl ?_); refine zbV (some 13) rfl rfl Tryd.func16 (by kernel_rfl) rfl #[.slice A0 l0.length c0] rfl (by (try simp only [List.map_toArray, List.map_cons, List.map_nil]); first | done | rfl | (simp only [List.length_drop, List.length_take]; rfl)) ?_; (with_reducible refine (zbJ.calls k _ _ l0 t427 _ ?side1 ?side2 A4.out).mono ?_); (case side1 => repeat (first | exact HR0.out | (with_reducible refine Kd.C_alloc ?_ _) | (with_reducible refine Kd.C_drewN ?_ _) | (with_reducible refine Kd.C_drew ?_))); (case side2 => exact HC0.out); rintro e w12 ⟨v428, rfl, ho0, hb⟩; refine ⟨_, rfl, ?_⟩; have n0_ := zaO (Kd.R_lower ho0 (zaP (by repeat (first | (with_reducible first | exact HB.out | apply zaE | apply zaA | apply zaD) | exact HB.out)))); have n1_ := zaO (zaK (by repeat (first | (with_reducible first | exact HB.out | apply zaE | apply zaA | apply zaD) | exact HB.out)) hb); clear HB; have HO429 := n0_; have HB := n1_; clear n0_ n1_; (try clear hb); (try clear hb2); (try clear hk); (try clear hi); (try clear ho0); obtain ⟨Ao13, co13, eo13⟩ := Kd.R_slice HO429.out; subst eo13) | ((with_reducible refine zaQ (f := 15) rfl ?_); refine zbV (some 14) rfl rfl Tryd.func15 (by kernel_rfl) rfl #[.slice Ao13 t427.length co13] rfl (by (try simp only [List.map_toArray, List.map_cons, List.map_nil]); first | done | rfl | (simp only [List.length_drop, List.length_take]; rfl)) ?_; (with_reducible refine (zcK.calls k _ _ t427 t430 _ ?side1 ?side2 A5.out).mono ?_); (case side1 => repeat (first | exact (Kd.R_reads' HO429.out).2.2 | (with_reducible refine Kd.C_alloc ?_ _) | (with_reducible refine Kd.C_drewN ?_ _) | (with_reducible refine Kd.C_drew ?_))); (case side2 => exact (Kd.R_reads' HO429.out).2.1); rintro e w14 ⟨rfl, hb⟩; refine ⟨_, rfl, ?_⟩; have n0_ := zaO (Kd.R_below (by (with_reducible repeat (first | apply Kd.R_alloc | apply Kd.R_drewN | apply Kd.R_drew)); exact HO429.out) hb); have n1_ := zaO (zaK (by repeat (first | (with_reducible first | exact HB.out | apply zaE | apply zaA | apply zaD) | exact HB.out)) hb); clear HO429; clear HB; have HO429 := n0_; have HB := n1_; clear n0_ n1_; (try clear hb); (try clear hb2); (try clear hk); (try clear hi)) | ((with_reducible refine zaQ (f := 16) rfl ?_); refine zbV (some 16) rfl rfl Tryd.func16 (by kernel_rfl) rfl #[.slice A0 l0.length c0] rfl (by (try simp only [List.map_toArray, List.map_cons, List.map_nil]); first | done | rfl | (simp only [List.length_drop, List.length_take]; rfl)) ?_; (with_reducible refine (zbJ.calls k _ _ l0 t431 _ ?side1 ?side2 A6.out).mono ?_); (case side1 => repeat (first | exact (Kd.C_below HR0.out HB.out) | (with_reducible refine Kd.C_alloc ?_ _) | (with_reducible refine Kd.C_drewN ?_ _) | (with_reducible refine Kd.C_drew ?_))); (case side2 => exact HC0.out); rintro e w15 ⟨v432, rfl, ho0, hb⟩; refine ⟨_, rfl, ?_⟩; have n0_ := zaO (Kd.R_elder' (by (with_reducible repeat (first | apply Kd.R_alloc | apply Kd.R_drewN | apply Kd.R_drew)); exact HO429.out) (Kd.R_base ho0) hb); have n1_ := zaO (Kd.R_lower (Kd.R_new' ho0 (Kd.R_lt (by (with_reducible repeat (first | apply Kd.R_alloc | apply Kd.R_drewN | apply Kd.R_drew)); exact HO429.out))) (zaP (by repeat (first | (with_reducible first | exact HB.out | apply zaE | apply zaA | apply zaD) | exact HB.out)))); have n2_ := zaO (zaK (by repeat (first | (with_reducible first | exact HB.out | apply zaE | apply zaA | apply zaD) | exact HB.out)) hb); clear HO429; clear HB; have HO429 := n0_; have HO433 := n1_; have HB := n2_; clear n0_ n1_ n2_; (try clear hb); (try clear hb2); (try clear hk); (try clear hi); (try clear ho0); obtain ⟨Ao16, co16, eo16⟩ := Kd.R_slice HO433.out; subst eo16) | ((with_reducible refine zaQ (f := 17) rfl ?_); refine zbV (some 18) rfl rfl Tryd.func17 (by kernel_rfl) rfl #[.slice Ao16 t431.length co16] rfl (by (try simp only [List.map_toArray, List.map_cons, List.map_nil]); first | done | rfl | (simp only [List.length_drop, List.length_take]; rfl)) ?_; (with_reducible refine (zcB.calls k _ _ t431 t434 _ ?side3 ?side1 ?side2 A7.out).mono ?_); (case side1 => repeat (first | exact (Kd.R_reads' HO433.out).2.2 | (with_reducible refine Kd.C_alloc ?_ _) | (with_reducible refine Kd.C_drewN ?_ _) | (with_reducible refine Kd.C_drew ?_))); (case side2 => exact (Kd.R_reads' HO433.out).2.1); (case side3 => exact LaidV.below hG (by repeat (first | (with_reducible first | exact HB.out | apply zaE | apply zaA | apply zaD) | exact HB.out))); rintro e w17 ⟨rfl, hb⟩; refine ⟨_, rfl, ?_⟩; have n0_ := zaO (Kd.R_below (by (with_reducible repeat (first | apply Kd.R_alloc | apply Kd.R_drewN | apply Kd.R_drew)); exact HO429.out) hb); have n1_ := zaO (Kd.R_below (by (with_reducible repeat (first | apply Kd.R_alloc | apply Kd.R_drewN | apply Kd.R_drew)); exact HO433.out) hb); have n2_ := zaO (zaK (by repeat (first | (with_reducible first | exact HB.out | apply zaE | apply zaA | apply zaD) | exact HB.out)) hb); clear HO429; clear HO433; clear HB; have HO429 := n0_; have HO433 := n1_; have HB := n2_; clear n0_ n1_ n2_; (try clear hb); (try clear hb2); (try clear hk); (try clear hi)) | ((with_reducible refine zaQ (f := 16) rfl ?_); refine zbV (some 24) rfl rfl Tryd.func16 (by kernel_rfl) rfl #[.slice A0 l0.length c0] rfl (by (try simp only [List.map_toArray, List.map_cons, List.map_nil]); first | done | rfl | (simp only [List.length_drop, List.length_take]; rfl)) ?_; (with_reducible refine (zbJ.calls k _ _ l0 t435 _ ?side1 ?side2 A9.out).mono ?_); (case side1 => repeat (first | exact (Kd.C_below HR0.out HB.out) | (with_reducible refine Kd.C_alloc ?_ _) | (with_reducible refine Kd.C_drewN ?_ _) | (with_reducible refine Kd.C_drew ?_))); (case side2 => exact HC0.out); rintro e w18 ⟨v436, rfl, ho0, hb⟩; refine ⟨_, rfl, ?_⟩; have n0_ := zaO (Kd.R_elder' (by (with_reducible repeat (first | apply Kd.R_alloc | apply Kd.R_drewN | apply Kd.R_drew)); exact HO429.out) (Kd.R_base ho0) hb); have n1_ := zaO (Kd.R_elder' (by (with_reducible repeat (first | apply Kd.R_alloc | apply Kd.R_drewN | apply Kd.R_drew)); exact HO433.out) (Kd.R_base ho0) hb); have n2_ := zaO (Kd.R_lower (Kd.R_new' (Kd.R_new' ho0 (Kd.R_lt (by (with_reducible repeat (first | apply Kd.R_alloc | apply Kd.R_drewN | apply Kd.R_drew)); exact HO429.out))) (Kd.R_lt (by (with_reducible repeat (first | apply Kd.R_alloc | apply Kd.R_drewN | apply Kd.R_drew)); exact HO433.out))) (zaP (by repeat (first | (with_reducible first | exact HB.out | apply zaE | apply zaA | apply zaD) | exact HB.out)))); have n3_ := zaO (zaK (by repeat (first | (with_reducible first | exact HB.out | apply zaE | apply zaA | apply zaD) | exact HB.out)) hb); clear HO429; clear HO433; clear HB; have HO429 := n0_; have HO433 := n1_; have HO437 := n2_; have HB := n3_; clear n0_ n1_ n2_ n3_; (try clear hb); (try clear hb2); (try clear hk); (try clear hi); (try clear ho0); obtain ⟨Ao19, co19, eo19⟩ := Kd.R_slice HO437.out; subst eo19) | ((with_reducible refine zaQ (f := 18) rfl ?_); refine zbV (some 25) rfl rfl Tryd.func18 (by kernel_rfl) rfl #[.slice Ao16 t431.length co16, .slice Ao19 t435.length co19] rfl (by (try simp only [List.map_toArray, List.map_cons, List.map_nil]); first | done | rfl | (simp only [List.length_drop, List.length_take]; rfl)) ?_; (with_reducible refine (zbI.calls k _ _ t431 _ _ t435 true _ ?side1 ?side2 ?side3 ?side4 A10.out).mono ?_); (case side1 => repeat (first | exact (Kd.R_reads' HO433.out).2.2 | (with_reducible refine Kd.C_alloc ?_ _) | (with_reducible refine Kd.C_drewN ?_ _) | (with_reducible refine Kd.C_drew ?_))); (case side2 => exact (Kd.R_reads' HO433.out).2.1); (case side3 => repeat (first | exact (Kd.R_reads' HO437.out).2.2 | (with_reducible refine Kd.C_alloc ?_ _) | (with_reducible refine Kd.C_drewN ?_ _) | (with_reducible refine Kd.C_drew ?_))); (case side4 => exact (Kd.R_reads' HO437.out).2.1); rintro e w20 ⟨rfl, hb⟩; refine ⟨_, rfl, ?_⟩; have n0_ := zaO (Kd.R_below (by (with_reducible repeat (first | apply Kd.R_alloc | apply Kd.R_drewN | apply Kd.R_drew)); exact HO429.out) hb); have n1_ := zaO (Kd.R_below (by (with_reducible repeat (first | apply Kd.R_alloc | apply Kd.R_drewN | apply Kd.R_drew)); exact HO433.out) hb); have n2_ := zaO (Kd.R_below (by (with_reducible repeat (first | apply Kd.R_alloc | apply Kd.R_drewN | apply Kd.R_drew)); exact HO437.out) hb); have n3_ := zaO (zaK (by repeat (first | (with_reducible first | exact HB.out | apply zaE | apply zaA | apply zaD) | exact HB.out)) hb); clear HO429; clear HO433; clear HO437; clear HB; have HO429 := n0_; have HO433 := n1_; have HO437 := n2_; have HB := n3_; clear n0_ n1_ n2_ n3_; (try clear hb); (try clear hb2); (try clear hk); (try clear hi)))
    go_ret
    exact ⟨by first | rfl | (simp [zaN, zaM] <;> rfl) | (simp [*, zaN, zaM] <;> rfl), by repeat (first | (with_reducible first | exact HB.out | apply zaE | apply zaA | apply zaD) | exact HB.out)⟩
   ·replace c11 := Bool.eq_false_iff.mpr c11
    subst c11
    have H1 : (none) = some r := by rw [if_neg (show ¬ (false = true) by decide)] at H; exact H
    clear H
    have H := H1
    clear H1
    exact absurd H (by simp)
def ok30 (x : S30) : Prop := (Lit.int .i64 x.f0).wf = true ∧ (Lit.int .i64 x.f1).wf = true ∧ (Lit.int .i64 x.f2).wf = true
def ok32 (x : S32) : Prop := ok30 x.f0 ∧ ok30 x.f1

def laws_FnExactValidPolygon.Pure : Prop := ∀ (l0 : List (S32)), (l0.length ≤ maxLen ∧ ∀ x_ ∈ l0, ok32 x_) → ∃ k, laws_FnExactValidPolygon.f k l0 = some true

end Go.Proofs.YtmajpmofeddknaaDoor.PFnExactValidPolygon
