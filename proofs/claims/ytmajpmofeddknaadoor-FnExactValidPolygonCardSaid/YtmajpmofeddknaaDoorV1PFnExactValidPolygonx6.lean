-- Printed for this claim by this session's program pp.py, which drives the kit's print with additions. Not trusted: Lean checks it.
import Derived.Test.YtmajpmofeddknaaDoorV1PFnExactValidPolygonx0
import Derived.Test.YtmajpmofeddknaaDoorV1PFnExactValidPolygonx2
import Derived.Test.YtmajpmofeddknaaDoorV1PFnExactValidPolygonx3
import Derived.Test.YtmajpmofeddknaaDoorV1PFnExactValidPolygonx5
namespace Go.Proofs.YtmajpmofeddknaaDoor.PFnExactValidPolygon
open Go.RowKit Go.Proofs.YtmajpmofeddknaaDoorW.PrintWords Go.Proofs.YtmajpmofeddknaaDoorW.PrintLast Go.Proofs.YtmajpmofeddknaaDoorW.PrintMore
attribute [local go_sem] zdZ zdY zeP zeQ zdG zdH zdX zeA   -- for this text's walks alone
set_option linter.unusedVariables false
set_option linter.unusedSimpArgs false

def zbH.l0 : Nat → List (S94) → List Int → Int → Option (List Int × Bool)
 | 0, _, _, _ => none
 | k + 1, x0, x4, x5 => if x5 < (x0.length : Int) then (if (x0.length : Int) = 0 then (none) else (if 0 ≤ (Int.tmod (wrap64 (x5 + 1)) (x0.length : Int)) then (if (Int.tmod (wrap64 (x5 + 1)) (x0.length : Int)) < (x0.length : Int) then (if 0 ≤ x5 then ((zcD.f k ((zbW x0 (Int.tmod (wrap64 (x5 + 1)) (x0.length : Int))).f0.f0) ((zbW x0 (Int.tmod (wrap64 (x5 + 1)) (x0.length : Int))).f0.f1) ((zbW x0 (Int.tmod (wrap64 (x5 + 1)) (x0.length : Int))).f0.f2) ((zbW x0 (Int.tmod (wrap64 (x5 + 1)) (x0.length : Int))).f1.f0) ((zbW x0 (Int.tmod (wrap64 (x5 + 1)) (x0.length : Int))).f1.f1) ((zbW x0 (Int.tmod (wrap64 (x5 + 1)) (x0.length : Int))).f1.f2) ((zbW x0 x5).f0.f0) ((zbW x0 x5).f0.f1) ((zbW x0 x5).f0.f2) ((zbW x0 x5).f1.f0) ((zbW x0 x5).f1.f1) ((zbW x0 x5).f1.f2)).bind fun bt210 => ((zbA.f k bt210.1 bt210.2.1 bt210.2.2.1 bt210.2.2.2.1 bt210.2.2.2.2.1 bt210.2.2.2.2.2).bind fun t216 => (if t216 < 0 then (some (([] : List Int), false)) else (if x4.length < 17592186044416 then (zbH.l0 k x0 (x4 ++ [t216]) (wrap64 (x5 + 1))) else (none))))) else (none)) else (none)) else (none))) else (some (x4, true))
def zbH.f (k : Nat) (l0 : List (S94)) : Option (List Int × Bool) := zbH.l0 k l0 (([] : List Int)) 0
theorem zbH.mono_l : ∀ k, (∀ y0 y1 y2, LeO (zbH.l0 k y0 y1 y2) (zbH.l0 (k + 1) y0 y1 y2))
 | 0 => fun _ _ _ r h => by simp [zbH.l0] at h
 | k + 1 => by
  have ih0 := zbH.mono_l k
  ·intro y0 y1 y2
   unfold zbH.l0
   repeat' first
   | (with_reducible exact ih0 _ _ _)
   | (with_reducible exact zbA.mono _ _ _ _ _ _ _)
   | (with_reducible exact zcD.mono _ _ _ _ _ _ _ _ _ _ _ _ _)
   | (with_reducible exact LeO.refl _)
   | (with_reducible exact LeO.none _)
   | (with_reducible refine LeO.ite ?_ ?_)
   | (with_reducible refine LeO.bind ?_ (fun _ => ?_))
   | exact ih0 _ _ _
   | exact zbA.mono _ _ _ _ _ _ _
   | exact zcD.mono _ _ _ _ _ _ _ _ _ _ _ _ _
   | exact LeO.none _
   | refine LeO.ite ?_ ?_
   | refine LeO.bind ?_ (fun _ => ?_)
theorem zbH.mono : ∀ a0 k, LeO (zbH.f k a0) (zbH.f (k + 1) a0) := by
 intro a0 k
 have ih0 := zbH.mono_l k
 unfold zbH.f
 repeat' first
   | (with_reducible exact ih0 _ _ _)
   | (with_reducible exact zbA.mono _ _ _ _ _ _ _)
   | (with_reducible exact zcD.mono _ _ _ _ _ _ _ _ _ _ _ _ _)
   | (with_reducible exact LeO.refl _)
   | (with_reducible exact LeO.none _)
   | (with_reducible refine LeO.ite ?_ ?_)
   | (with_reducible refine LeO.bind ?_ (fun _ => ?_))
   | exact ih0 _ _ _
   | exact zbA.mono _ _ _ _ _ _ _
   | exact zcD.mono _ _ _ _ _ _ _ _ _ _ _ _ _
   | exact LeO.none _
   | refine LeO.ite ?_ ?_
   | refine LeO.bind ?_ (fun _ => ?_)
def zbH.T5 : Bool × List (List Nat × List Nat) := (true, [([], []), ([], []), ([1], [1]), ([], []), ([3], [3]), ([2, 4], [2, 4]), ([0, 5], [0, 5]), ([6], [6]), ([], []), ([], []), ([8, 9], [8, 9]), ([10], [10]), ([7, 11], [7, 11]), ([12, 12], [12]), ([13, 13, 0, 1, 2, 3, 4, 5, 6, 7, 8, 9, 10, 11, 12, 13], [13])])
def zbH.B5 : List Nat := [0, 0, 2, 0, 8, 30, 63, 127, 0, 0, 768, 1792, 4095, 8191, 16383]
theorem zbH.tab5 : rtab .any (opsOf Tryd.f61 5) = zbH.T5 := by kernel_rfl
theorem zbH.bits5 : zeC zbH.T5.2 zbH.B5 = true := by kernel_rfl
set_option maxHeartbeats 8000000 in
set_option maxRecDepth 100000 in
theorem zbH.calls (k : Nat) (A0 : Option Addr) (c0 : Nat) (l0 : List (S94)) (r1 : List Int) (r2 : Bool) (w : World) (hr0 : Kd.C k94 w A0 l0.length l0) (hc0 : l0.length ≤ c0) (h : zbH.f k l0 = some (r1, r2)) :
  Calls Tryd.prog 61 #[.slice A0 l0.length c0] w fun e w' => ∃ v0_ : Value, e = .returned (.tuple #[v0_, .bool r2]) ∧ Kd.R (Kd.int .i64) 2 w' w.heap.size (fun _ => True) v0_ r1 ∧ Below w.heap.size w w' := by
 have hu94 := Tryd.underlying94
 have HR0 := zaO hr0
 have HC0 := zaO hc0
 clear hr0 hc0
 have HB := zaO (Below.refl w.heap.size w)
 have H : (zbH.l0 k l0 (([] : List Int)) 0) = some (r1, r2) := h
 clear h
 obtain ⟨y205, hy205⟩ : ∃ y_ : List Int, y_ = (([] : List Int)) := ⟨_, rfl⟩
 replace H : (zbH.l0 k l0 y205 0) = some (r1, r2) := by first | (rw [hy205]; with_reducible exact H) | (have H2_ := (Option.bind_some _ _).symm.trans H; rw [hy205]; with_reducible exact H2_) | (have H2_ := (Option.bind_some _ _).symm.trans H; with_reducible exact H2_) | with_reducible exact H | (rw [hy205]; exact H) | exact H
 have Ny205 := zaO hy205
 clear hy205
 have H' := zaO H
 clear H
 go_enter Tryd.func61, Tryd.ntmps61
 go_wp2_with (first | ((with_reducible refine zbC (N := 7) rfl ?_); refine Kd.R_lit (Kd.int .i64) _ 2 ?hg (N := 7) ?hd (xs := ([] : List Int)) (inner := []) (ok := fun _ => True) (okp := fun _ => True) ?hr ?hp (fun _ hk => hk) trivial (Below.refl _ _) (Nat.le_refl _) (by simp) ?_; (case hd => rfl); (case hg => rfl); (case hr => first | (go_simp; done) | (go_simp; rfl)); (case hp => exact (zeR.none _ _)); intro v206 w2 ho3 hb hg_ hnew_; clear hg_ hnew_; (first | rw [← Ny205.out] at ho3 | (simp only [Int.reduceToNat] at ho3; rw [← Ny205.out] at ho3)); have n0_ := zaO (Kd.R_lower ho3 (zaP (by repeat (first | (with_reducible first | exact HB.out | apply zaE | apply zaA | apply zaD) | exact HB.out)))); have n1_ := zaO (zaK (by repeat (first | (with_reducible first | exact HB.out | apply zaE | apply zaA | apply zaD) | exact HB.out)) hb); clear HB; have HO207 := n0_; have HB := n1_; clear n0_ n1_; clear hb ho3))
 (try go_simp)
 go_loopg [4, 5] k (fun kq v4 v5 w' => ∃ (x4_1 : List Int) (x5_1 : Int), v5 = .int .i64 x5_1 ∧ Aside0 (zbH.l0 kq l0 x4_1 x5_1 = some (r1, r2)) ∧ Aside0 (kq ≤ k) ∧ Aside0 (Kd.R (Kd.int .i64) 2 w' w.heap.size (fun _ => True) v4 x4_1) ∧ Aside0 (Below w.heap.size w w'))
 case atStart => exact ⟨(y205), (0), (by first | rfl | (simp; done) | (simp [*]; done)), H', ⟨Nat.le_refl _⟩, ⟨by (with_reducible repeat (first | apply Kd.R_alloc | apply Kd.R_drewN | apply Kd.R_drew)); exact HO207.out⟩, ⟨by repeat (first | (with_reducible first | exact HB.out | apply zaE | apply zaA | apply zaD) | exact HB.out)⟩⟩
 case round =>
  clear H'
  try clear p2
  obtain ⟨x4_1, x5_1, rfl, HA, HK1, HO_4, HB⟩ := hrel
  cases gk with
  | zero => exact absurd HA.out (by simp [zbH.l0])
  | succ k1 =>
   have H := HA.out
   clear HA
   simp only [zbH.l0] at H
   by_cases c4 : x5_1 < (l0.length : Int)
   ·rw [if_pos c4] at H
    have c4b0 : decide (x5_1 < (l0.length : Int)) = true := decide_eq_true c4
    clear c4
    by_cases c5 : (l0.length : Int) = 0
    ·rw [if_pos c5] at H
     exact absurd H (by simp)
    ·rw [if_neg c5] at H
     have c5b0 : ((l0.length : Int) == 0) = false := beq_eq_false_iff_ne.mpr c5
     have c5b1 : ((l0.length : Int) != 0) = true := bne_iff_ne.mpr c5
     have c5b2 : ¬ (l0 = []) := fun h_ => c5 (by rw [h_]; rfl)
     obtain ⟨ji6, hji6⟩ : ∃ j_ : Int, (Int.tmod (wrap64 (x5_1 + 1)) (l0.length : Int)) = j_ := ⟨_, rfl⟩
     replace H : (if 0 ≤ (ji6) then (if (ji6) < (l0.length : Int) then (if 0 ≤ x5_1 then ((zcD.f k1 ((zbW l0 (ji6)).f0.f0) ((zbW l0 (ji6)).f0.f1) ((zbW l0 (ji6)).f0.f2) ((zbW l0 (ji6)).f1.f0) ((zbW l0 (ji6)).f1.f1) ((zbW l0 (ji6)).f1.f2) ((zbW l0 x5_1).f0.f0) ((zbW l0 x5_1).f0.f1) ((zbW l0 x5_1).f0.f2) ((zbW l0 x5_1).f1.f0) ((zbW l0 x5_1).f1.f1) ((zbW l0 x5_1).f1.f2)).bind fun bt210 => ((zbA.f k1 bt210.1 bt210.2.1 bt210.2.2.1 bt210.2.2.2.1 bt210.2.2.2.2.1 bt210.2.2.2.2.2).bind fun t216 => (if t216 < 0 then (some (([] : List Int), false)) else (if x4_1.length < 17592186044416 then (zbH.l0 k1 l0 (x4_1 ++ [t216]) (wrap64 (x5_1 + 1))) else (none))))) else (none)) else (none)) else (none)) = some (r1, r2) := by first | (rw [hji6] at H; exact H) | (simp only [hji6] at H ⊢; exact H)
     by_cases c7 : 0 ≤ (ji6)
     ·rw [if_pos c7] at H
      have c7b0 : decide (0 ≤ (ji6)) = true := decide_eq_true c7
      clear c7
      by_cases c8 : (ji6) < (l0.length : Int)
      ·rw [if_pos c8] at H
       have c8b0 : decide ((ji6) < (l0.length : Int)) = true := decide_eq_true c8
       clear c8
       by_cases c9 : 0 ≤ x5_1
       ·rw [if_pos c9] at H
        have c9b0 : decide (0 ≤ x5_1) = true := decide_eq_true c9
        clear c9
        replace H := Option.bind_eq_some_iff.mp H
        obtain ⟨⟨t210, t211, t212, t213, t214, t215⟩, A100, H⟩ := H
        replace H : ((zbA.f k1 t210 t211 t212 t213 t214 t215).bind fun t216 => (if t216 < 0 then (some (([] : List Int), false)) else (if x4_1.length < 17592186044416 then (zbH.l0 k1 l0 (x4_1 ++ [t216]) (wrap64 (x5_1 + 1))) else (none)))) = some (r1, r2) := H
        have A10 := zaO A100
        clear A100
        replace H := Option.bind_eq_some_iff.mp H
        obtain ⟨t216, A110, H⟩ := H
        replace H : (if t216 < 0 then (some (([] : List Int), false)) else (if x4_1.length < 17592186044416 then (zbH.l0 k1 l0 (x4_1 ++ [t216]) (wrap64 (x5_1 + 1))) else (none))) = some (r1, r2) := H
        have A11 := zaO A110
        clear A110
        by_cases c12 : t216 < 0
        ·rw [if_pos c12] at H
         have c12b0 : decide (t216 < 0) = true := decide_eq_true c12
         clear c12
         simp only [Option.some.injEq, Prod.mk.injEq] at H
         obtain ⟨rfl, rfl⟩ := H
         try go_wp2
         have n0_ := zaO (Kd.R_drew HO_4.out)
         have n1_ := zaO (zaD HB.out)
         clear HO_4
         clear HB
         have HO_4 := n0_
         have HB := n1_
         clear n0_ n1_
         have p208 : 0 ≤ ((ji6) : Int) := of_decide_eq_true (by first | (with_reducible assumption) | assumption)
         have q208 : (ji6) < (l0.length : Int) := of_decide_eq_true (by first | (with_reducible assumption) | assumption)
         obtain ⟨ad208, e208, hx208_0, hx208_1, hx208_2, hx208_3, hx208_4, hx208_5⟩ := at_T94 HR0.out (ji6) p208 q208
         have hw208_5 := hx208_5
         have hw208_4 := hx208_4
         have hw208_3 := hx208_3
         have hw208_2 := hx208_2
         have hw208_1 := hx208_1
         have hw208_0 := hx208_0
         cases e208
         replace hx208_0 := zbF HB.out hx208_0
         replace hx208_1 := zbF HB.out hx208_1
         replace hx208_2 := zbF HB.out hx208_2
         replace hx208_3 := zbF HB.out hx208_3
         replace hx208_4 := zbF HB.out hx208_4
         replace hx208_5 := zbF HB.out hx208_5
         replace p208 := eq_true p208
         replace q208 := eq_true q208
         have p209 : 0 ≤ (x5_1 : Int) := of_decide_eq_true (by first | (with_reducible assumption) | assumption)
         have q209 : x5_1 < (l0.length : Int) := of_decide_eq_true (by first | (with_reducible assumption) | assumption)
         obtain ⟨ad209, e209, hx209_0, hx209_1, hx209_2, hx209_3, hx209_4, hx209_5⟩ := at_T94 HR0.out x5_1 p209 q209
         have hw209_5 := hx209_5
         have hw209_4 := hx209_4
         have hw209_3 := hx209_3
         have hw209_2 := hx209_2
         have hw209_1 := hx209_1
         have hw209_0 := hx209_0
         obtain rfl : ad208 = ad209 := (by injection e209)
         replace hx209_0 := zbF HB.out hx209_0
         replace hx209_1 := zbF HB.out hx209_1
         replace hx209_2 := zbF HB.out hx209_2
         replace hx209_3 := zbF HB.out hx209_3
         replace hx209_4 := zbF HB.out hx209_4
         replace hx209_5 := zbF HB.out hx209_5
         replace p209 := eq_true p209
         replace q209 := eq_true q209
         refine zdU (n := 15) (S := fun w' => w'.cell? (ad208.add (((ji6)).toNat * 6)) = some (.int .i64 ((zbW l0 (ji6)).f0.f0)) ∧ w'.cell? ⟨(ad208.add (((ji6)).toNat * 6)).block, (ad208.add (((ji6)).toNat * 6)).off + 1, none⟩ = some (.int .i64 ((zbW l0 (ji6)).f0.f1)) ∧ w'.cell? ⟨(ad208.add (((ji6)).toNat * 6)).block, (ad208.add (((ji6)).toNat * 6)).off + 2, none⟩ = some (.int .i64 ((zbW l0 (ji6)).f0.f2)) ∧ w'.cell? ⟨(ad208.add (((ji6)).toNat * 6)).block, (ad208.add (((ji6)).toNat * 6)).off + 3, none⟩ = some (.int .i64 ((zbW l0 (ji6)).f1.f0)) ∧ w'.cell? ⟨(ad208.add (((ji6)).toNat * 6)).block, (ad208.add (((ji6)).toNat * 6)).off + 4, none⟩ = some (.int .i64 ((zbW l0 (ji6)).f1.f1)) ∧ w'.cell? ⟨(ad208.add (((ji6)).toNat * 6)).block, (ad208.add (((ji6)).toNat * 6)).off + 5, none⟩ = some (.int .i64 ((zbW l0 (ji6)).f1.f2)) ∧ w'.cell? (ad208.add ((x5_1).toNat * 6)) = some (.int .i64 ((zbW l0 x5_1).f0.f0)) ∧ w'.cell? ⟨(ad208.add ((x5_1).toNat * 6)).block, (ad208.add ((x5_1).toNat * 6)).off + 1, none⟩ = some (.int .i64 ((zbW l0 x5_1).f0.f1)) ∧ w'.cell? ⟨(ad208.add ((x5_1).toNat * 6)).block, (ad208.add ((x5_1).toNat * 6)).off + 2, none⟩ = some (.int .i64 ((zbW l0 x5_1).f0.f2)) ∧ w'.cell? ⟨(ad208.add ((x5_1).toNat * 6)).block, (ad208.add ((x5_1).toNat * 6)).off + 3, none⟩ = some (.int .i64 ((zbW l0 x5_1).f1.f0)) ∧ w'.cell? ⟨(ad208.add ((x5_1).toNat * 6)).block, (ad208.add ((x5_1).toNat * 6)).off + 4, none⟩ = some (.int .i64 ((zbW l0 x5_1).f1.f1)) ∧ w'.cell? ⟨(ad208.add ((x5_1).toNat * 6)).block, (ad208.add ((x5_1).toNat * 6)).off + 5, none⟩ = some (.int .i64 ((zbW l0 x5_1).f1.f2))) (ds := []) #[false, false, false, false, false, false, false, false, false, false, false, false, false, false, false] (by kernel_rfl) rfl rfl ⟨(zbF HB.out hw208_0), (zbF HB.out hw208_1), (zbF HB.out hw208_2), (zbF HB.out hw208_3), (zbF HB.out hw208_4), (zbF HB.out hw208_5), (zbF HB.out hw209_0), (zbF HB.out hw209_1), (zbF HB.out hw209_2), (zbF HB.out hw209_3), (zbF HB.out hw209_4), (zbF HB.out hw209_5)⟩ (fun hHeld => ?_); refine zcT zbH.tab5 zbH.bits5 (fun HT_ HW_ => ?_)
         generalize wr.drew = w13 at HO_4 HB hx208_0 hx208_1 hx208_2 hx208_3 hx208_4 hx208_5 hx209_0 hx209_1 hx209_2 hx209_3 hx209_4 hx209_5 hHeld ⊢
         refine zbL (i := 0) (N := some 14) (v := ?_) (a' := ?_) #[true, false, false, false, false, false, false, false, false, false, false, false, false, false, false] rfl rfl (zaY HT_.out (by kernel_rfl)) (fun _ _ _ h => h) (Or.inl ⟨by rfl, ?_⟩) ?_ ?_
         rotate_left
         ·intro w'
          go_simp
          with_reducible rfl
         rotate_left
         ·simp only [Act.put, List.setIfInBounds_toArray, List.set_cons_zero, List.set_cons_succ, zaT, zaU]
          rfl
         refine zbL (i := 1) (N := some 15) (v := ?_) (a' := ?_) #[true, true, false, false, false, false, false, false, false, false, false, false, false, false, false] rfl rfl (zaY HT_.out (by kernel_rfl)) (fun _ _ _ h => h) (Or.inl ⟨by rfl, ?_⟩) ?_ ?_
         rotate_left
         ·intro w'
          go_simp
          with_reducible rfl
         rotate_left
         ·simp only [Act.put, List.setIfInBounds_toArray, List.set_cons_zero, List.set_cons_succ, zaT, zaU]
          rfl
         refine zbL (i := 2) (N := some 16) (v := ?_) (a' := ?_) #[true, true, true, false, false, false, false, false, false, false, false, false, false, false, false] rfl rfl (zaY HT_.out (by kernel_rfl)) (fun _ _ _ h => h) (Or.inl ⟨by rfl, ?_⟩) ?_ ?_
         rotate_left
         ·intro w'
          go_simp
          with_reducible rfl
         rotate_left
         ·simp only [Act.put, List.setIfInBounds_toArray, List.set_cons_zero, List.set_cons_succ, zaT, zaU]
          rfl
         refine zbL (i := 3) (N := some 17) (v := ?_) (a' := ?_) #[true, true, true, true, false, false, false, false, false, false, false, false, false, false, false] rfl rfl (zaY HT_.out (by kernel_rfl)) (fun _ _ _ h => h) (Or.inl ⟨by rfl, ?_⟩) ?_ ?_
         rotate_left
         ·intro w'
          go_simp
          with_reducible rfl
         rotate_left
         ·simp only [Act.put, List.setIfInBounds_toArray, List.set_cons_zero, List.set_cons_succ, zaT, zaU]
          rfl
         refine zbL (i := 4) (N := some 18) (v := ?_) (a' := ?_) #[true, true, true, true, true, false, false, false, false, false, false, false, false, false, false] rfl rfl (zaY HT_.out (by kernel_rfl)) (fun _ _ _ h => h) (Or.inl ⟨by rfl, ?_⟩) ?_ ?_
         rotate_left
         ·intro w'
          go_simp
          with_reducible rfl
         rotate_left
         ·simp only [Act.put, List.setIfInBounds_toArray, List.set_cons_zero, List.set_cons_succ, zaT, zaU]
          rfl
         refine zbL (i := 5) (N := some 19) (v := ?_) (a' := ?_) #[true, true, true, true, true, true, false, false, false, false, false, false, false, false, false] rfl rfl (zaY HT_.out (by kernel_rfl)) (fun _ _ _ h => h) (Or.inl ⟨by rfl, ?_⟩) ?_ ?_
         rotate_left
         ·intro w'
          go_simp
          with_reducible rfl
         rotate_left
         ·simp only [Act.put, List.setIfInBounds_toArray, List.set_cons_zero, List.set_cons_succ, zaT, zaU]
          rfl
         refine zbL (i := 6) (N := some 20) (v := ?_) (a' := ?_) #[true, true, true, true, true, true, true, false, false, false, false, false, false, false, false] rfl rfl (zaY HT_.out (by kernel_rfl)) (fun _ _ _ h => h) (Or.inl ⟨by rfl, ?_⟩) ?_ ?_
         rotate_left
         ·intro w'
          go_simp
          with_reducible rfl
         rotate_left
         ·simp only [Act.put, List.setIfInBounds_toArray, List.set_cons_zero, List.set_cons_succ, zaT, zaU]
          rfl
         refine zbL (i := 8) (N := some 22) (v := ?_) (a' := ?_) #[true, true, true, true, true, true, true, false, true, false, false, false, false, false, false] rfl rfl (zaY HT_.out (by kernel_rfl)) (fun _ _ _ h => h) (Or.inl ⟨by rfl, ?_⟩) ?_ ?_
         rotate_left
         ·intro w'
          go_simp
          with_reducible rfl
         rotate_left
         ·simp only [Act.put, List.setIfInBounds_toArray, List.set_cons_zero, List.set_cons_succ, zaT, zaU]
          rfl
         refine zbL (i := 9) (N := some 23) (v := ?_) (a' := ?_) #[true, true, true, true, true, true, true, false, true, true, false, false, false, false, false] rfl rfl (zaY HT_.out (by kernel_rfl)) (fun _ _ _ h => h) (Or.inl ⟨by rfl, ?_⟩) ?_ ?_
         rotate_left
         ·intro w'
          go_simp
          with_reducible rfl
         rotate_left
         ·simp only [Act.put, List.setIfInBounds_toArray, List.set_cons_zero, List.set_cons_succ, zaT, zaU]
          rfl
         refine zbL (i := 10) (N := some 24) (v := ?_) (a' := ?_) #[true, true, true, true, true, true, true, false, true, true, true, false, false, false, false] rfl rfl (zaY HT_.out (by kernel_rfl)) (fun _ _ _ h => h) (Or.inl ⟨by rfl, ?_⟩) ?_ ?_
         rotate_left
         ·intro w'
          go_simp
          with_reducible rfl
         rotate_left
         ·simp only [Act.put, List.setIfInBounds_toArray, List.set_cons_zero, List.set_cons_succ, zaT, zaU]
          rfl
         refine take_ (i := 7) (N := some 21) (v := ?_) (a' := ?_) #[true, true, true, true, true, true, true, true, true, true, true, false, false, false, false] rfl rfl (zbU HT_.out HW_.out (by kernel_rfl)) (fun _ _ _ h => h) (Or.inl ⟨by rfl, ?_⟩) hHeld ?_ ?_
         rotate_left
         ·rintro w' ⟨s0, s1, s2, s3, s4, s5, s6, s7, s8, s9, s10, s11⟩
          go_simp
          with_reducible rfl
         rotate_left
         ·simp only [Act.put, List.setIfInBounds_toArray, List.set_cons_zero, List.set_cons_succ, zaT, zaU]
          rfl
         refine take_ (i := 11) (N := some 25) (v := ?_) (a' := ?_) #[true, true, true, true, true, true, true, true, true, true, true, true, false, false, false] rfl rfl (zbU HT_.out HW_.out (by kernel_rfl)) (fun _ _ _ h => h) (Or.inl ⟨by rfl, ?_⟩) hHeld ?_ ?_
         rotate_left
         ·rintro w' ⟨s0, s1, s2, s3, s4, s5, s6, s7, s8, s9, s10, s11⟩
          go_simp
          with_reducible rfl
         rotate_left
         ·simp only [Act.put, List.setIfInBounds_toArray, List.set_cons_zero, List.set_cons_succ, zaT, zaU]
          rfl
         refine zeX (i := 12) (N := some 26) #[true, true, true, true, true, true, true, true, true, true, true, true, true, false, false] rfl rfl (zcU HT_.out (by kernel_rfl)) (by decide) (fun K hK => ?_)
         refine zdI Tryd.func111 (by kernel_rfl) rfl #[.agg #[.int .i64 ((zbW l0 (ji6)).f0.f0), .int .i64 ((zbW l0 (ji6)).f0.f1), .int .i64 ((zbW l0 (ji6)).f0.f2), .int .i64 ((zbW l0 (ji6)).f1.f0), .int .i64 ((zbW l0 (ji6)).f1.f1), .int .i64 ((zbW l0 (ji6)).f1.f2)], .agg #[.int .i64 ((zbW l0 x5_1).f0.f0), .int .i64 ((zbW l0 x5_1).f0.f1), .int .i64 ((zbW l0 x5_1).f0.f2), .int .i64 ((zbW l0 x5_1).f1.f0), .int .i64 ((zbW l0 x5_1).f1.f1), .int .i64 ((zbW l0 x5_1).f1.f2)]] (by rfl) rfl rfl (by (try simp only [List.map_toArray, List.map_cons, List.map_nil]); first | done | (simp only [hji6]; rfl) | rfl | (simp only [List.length_drop, List.length_take]; rfl)) ?_
         with_reducible refine (zcD.calls k1 ((zbW l0 (ji6)).f0.f0) ((zbW l0 (ji6)).f0.f1) ((zbW l0 (ji6)).f0.f2) ((zbW l0 (ji6)).f1.f0) ((zbW l0 (ji6)).f1.f1) ((zbW l0 (ji6)).f1.f2) ((zbW l0 x5_1).f0.f0) ((zbW l0 x5_1).f0.f1) ((zbW l0 x5_1).f0.f2) ((zbW l0 x5_1).f1.f0) ((zbW l0 x5_1).f1.f1) ((zbW l0 x5_1).f1.f2) t210 t211 t212 t213 t214 t215 _ A10.out).mono ?_
         rintro e w14 ⟨rfl, hb⟩
         refine ⟨_, rfl, ?_⟩
         have n0_ := zaO (Kd.R_below (by (with_reducible repeat (first | apply Kd.R_alloc | apply Kd.R_drewN | apply Kd.R_drew)); exact HO_4.out) hb)
         have n1_ := zaO (zaK (by repeat (first | (with_reducible first | exact HB.out | apply zaE | apply zaA | apply zaD) | exact HB.out)) hb)
         clear HO_4
         clear HB
         have HO_4 := n0_
         have HB := n1_
         clear n0_ n1_
         (try clear hb)
         (try clear hb2)
         (try clear hk)
         (try clear hi)
         refine hK.out _ _ ⟨(zbF HB.out hw208_0), (zbF HB.out hw208_1), (zbF HB.out hw208_2), (zbF HB.out hw208_3), (zbF HB.out hw208_4), (zbF HB.out hw208_5), (zbF HB.out hw209_0), (zbF HB.out hw209_1), (zbF HB.out hw209_2), (zbF HB.out hw209_3), (zbF HB.out hw209_4), (zbF HB.out hw209_5)⟩ (fun hHeld => ?_)
         clear hK K
         refine zdL (a' := ?_) ?_ ?_
         rotate_left
         ·show Act.put _ (some 26) _ = _
          simp only [Act.put, List.setIfInBounds_toArray, List.set_cons_zero, List.set_cons_succ, zaT, zaU]
          rfl
         refine zeX (i := 13) (N := some 27) #[true, true, true, true, true, true, true, true, true, true, true, true, true, true, false] rfl rfl (zcU HT_.out (by kernel_rfl)) (by decide) (fun K hK => ?_)
         refine zdI Tryd.func110 (by kernel_rfl) rfl #[.agg #[.int .i64 t210, .int .i64 t211, .int .i64 t212, .int .i64 t213, .int .i64 t214, .int .i64 t215]] (by rfl) rfl rfl (by (try simp only [List.map_toArray, List.map_cons, List.map_nil]); first | done | rfl | (simp only [List.length_drop, List.length_take]; rfl)) ?_
         with_reducible refine (zbA.calls k1 t210 t211 t212 t213 t214 t215 t216 _ A11.out).mono ?_
         rintro e w15 ⟨rfl, hb⟩
         refine ⟨_, rfl, ?_⟩
         have n0_ := zaO (Kd.R_below (by (with_reducible repeat (first | apply Kd.R_alloc | apply Kd.R_drewN | apply Kd.R_drew)); exact HO_4.out) hb)
         have n1_ := zaO (zaK (by repeat (first | (with_reducible first | exact HB.out | apply zaE | apply zaA | apply zaD) | exact HB.out)) hb)
         clear HO_4
         clear HB
         have HO_4 := n0_
         have HB := n1_
         clear n0_ n1_
         (try clear hb)
         (try clear hb2)
         (try clear hk)
         (try clear hi)
         refine hK.out _ _ ⟨(zbF HB.out hw208_0), (zbF HB.out hw208_1), (zbF HB.out hw208_2), (zbF HB.out hw208_3), (zbF HB.out hw208_4), (zbF HB.out hw208_5), (zbF HB.out hw209_0), (zbF HB.out hw209_1), (zbF HB.out hw209_2), (zbF HB.out hw209_3), (zbF HB.out hw209_4), (zbF HB.out hw209_5)⟩ (fun hHeld => ?_)
         clear hK K
         refine zdL (a' := ?_) ?_ ?_
         rotate_left
         ·show Act.put _ (some 27) _ = _
          simp only [Act.put, List.setIfInBounds_toArray, List.set_cons_zero, List.set_cons_succ, zaT, zaU]
          rfl
         refine zbL (i := 14) (N := some 6) (v := ?_) (a' := ?_) #[true, true, true, true, true, true, true, true, true, true, true, true, true, true, true] rfl rfl (zaY HT_.out (by kernel_rfl)) (fun _ _ _ h => h) (Or.inl ⟨by rfl, ?_⟩) ?_ ?_
         rotate_left
         ·intro w'
          go_simp
          with_reducible rfl
         rotate_left
         ·simp only [Act.put, List.setIfInBounds_toArray, List.set_cons_zero, List.set_cons_succ, zaT, zaU]
          rfl
         refine done_ (zdJ HT_.out (by kernel_rfl)) ?_
         try go_wp2
         go_ret2
         exact ⟨_, by first | rfl | (simp [zaN, zaM] <;> rfl) | (simp only [← hji6]; first | rfl | (simp [zaN, zaM] <;> rfl)) | (simp [*, zaN, zaM] <;> rfl), by first | exact Kd.R_nil _ _ _ _ _ | exact Kd.N_nil _ _ _ _ _ | exact Kd.V_nil _ _ _ _ _ | exact Kd.Q_nil _ _ _ _ _ | exact Kd.S_nil _ _ _ _ _, by repeat (first | (with_reducible first | exact HB.out | apply zaE | apply zaA | apply zaD) | exact HB.out)⟩
        ·rw [if_neg c12] at H
         have c12b0 : decide (t216 < 0) = false := decide_eq_false c12
         clear c12
         by_cases c16 : x4_1.length < 17592186044416
         ·rw [if_pos c16] at H
          have LMc16 := zaO c16
          clear c16
          obtain ⟨y217, hy217⟩ : ∃ y_ : List Int, y_ = (x4_1 ++ [t216]) := ⟨_, rfl⟩
          replace H : (zbH.l0 k1 l0 y217 (wrap64 (x5_1 + 1))) = some (r1, r2) := by first | (rw [hy217]; with_reducible exact H) | (have H2_ := (Option.bind_some _ _).symm.trans H; rw [hy217]; with_reducible exact H2_) | (have H2_ := (Option.bind_some _ _).symm.trans H; with_reducible exact H2_) | with_reducible exact H | (rw [hy217]; exact H) | exact H
          have Ny217 := zaO hy217
          clear hy217
          have H' := zaO H
          clear H
          try go_wp2
          have n0_ := zaO (Kd.R_drew HO_4.out)
          have n1_ := zaO (zaD HB.out)
          clear HO_4
          clear HB
          have HO_4 := n0_
          have HB := n1_
          clear n0_ n1_
          have p208 : 0 ≤ ((ji6) : Int) := of_decide_eq_true (by first | (with_reducible assumption) | assumption)
          have q208 : (ji6) < (l0.length : Int) := of_decide_eq_true (by first | (with_reducible assumption) | assumption)
          obtain ⟨ad208, e208, hx208_0, hx208_1, hx208_2, hx208_3, hx208_4, hx208_5⟩ := at_T94 HR0.out (ji6) p208 q208
          have hw208_5 := hx208_5
          have hw208_4 := hx208_4
          have hw208_3 := hx208_3
          have hw208_2 := hx208_2
          have hw208_1 := hx208_1
          have hw208_0 := hx208_0
          cases e208
          replace hx208_0 := zbF HB.out hx208_0
          replace hx208_1 := zbF HB.out hx208_1
          replace hx208_2 := zbF HB.out hx208_2
          replace hx208_3 := zbF HB.out hx208_3
          replace hx208_4 := zbF HB.out hx208_4
          replace hx208_5 := zbF HB.out hx208_5
          replace p208 := eq_true p208
          replace q208 := eq_true q208
          have p209 : 0 ≤ (x5_1 : Int) := of_decide_eq_true (by first | (with_reducible assumption) | assumption)
          have q209 : x5_1 < (l0.length : Int) := of_decide_eq_true (by first | (with_reducible assumption) | assumption)
          obtain ⟨ad209, e209, hx209_0, hx209_1, hx209_2, hx209_3, hx209_4, hx209_5⟩ := at_T94 HR0.out x5_1 p209 q209
          have hw209_5 := hx209_5
          have hw209_4 := hx209_4
          have hw209_3 := hx209_3
          have hw209_2 := hx209_2
          have hw209_1 := hx209_1
          have hw209_0 := hx209_0
          obtain rfl : ad208 = ad209 := (by injection e209)
          replace hx209_0 := zbF HB.out hx209_0
          replace hx209_1 := zbF HB.out hx209_1
          replace hx209_2 := zbF HB.out hx209_2
          replace hx209_3 := zbF HB.out hx209_3
          replace hx209_4 := zbF HB.out hx209_4
          replace hx209_5 := zbF HB.out hx209_5
          replace p209 := eq_true p209
          replace q209 := eq_true q209
          refine zdU (n := 15) (S := fun w' => w'.cell? (ad208.add (((ji6)).toNat * 6)) = some (.int .i64 ((zbW l0 (ji6)).f0.f0)) ∧ w'.cell? ⟨(ad208.add (((ji6)).toNat * 6)).block, (ad208.add (((ji6)).toNat * 6)).off + 1, none⟩ = some (.int .i64 ((zbW l0 (ji6)).f0.f1)) ∧ w'.cell? ⟨(ad208.add (((ji6)).toNat * 6)).block, (ad208.add (((ji6)).toNat * 6)).off + 2, none⟩ = some (.int .i64 ((zbW l0 (ji6)).f0.f2)) ∧ w'.cell? ⟨(ad208.add (((ji6)).toNat * 6)).block, (ad208.add (((ji6)).toNat * 6)).off + 3, none⟩ = some (.int .i64 ((zbW l0 (ji6)).f1.f0)) ∧ w'.cell? ⟨(ad208.add (((ji6)).toNat * 6)).block, (ad208.add (((ji6)).toNat * 6)).off + 4, none⟩ = some (.int .i64 ((zbW l0 (ji6)).f1.f1)) ∧ w'.cell? ⟨(ad208.add (((ji6)).toNat * 6)).block, (ad208.add (((ji6)).toNat * 6)).off + 5, none⟩ = some (.int .i64 ((zbW l0 (ji6)).f1.f2)) ∧ w'.cell? (ad208.add ((x5_1).toNat * 6)) = some (.int .i64 ((zbW l0 x5_1).f0.f0)) ∧ w'.cell? ⟨(ad208.add ((x5_1).toNat * 6)).block, (ad208.add ((x5_1).toNat * 6)).off + 1, none⟩ = some (.int .i64 ((zbW l0 x5_1).f0.f1)) ∧ w'.cell? ⟨(ad208.add ((x5_1).toNat * 6)).block, (ad208.add ((x5_1).toNat * 6)).off + 2, none⟩ = some (.int .i64 ((zbW l0 x5_1).f0.f2)) ∧ w'.cell? ⟨(ad208.add ((x5_1).toNat * 6)).block, (ad208.add ((x5_1).toNat * 6)).off + 3, none⟩ = some (.int .i64 ((zbW l0 x5_1).f1.f0)) ∧ w'.cell? ⟨(ad208.add ((x5_1).toNat * 6)).block, (ad208.add ((x5_1).toNat * 6)).off + 4, none⟩ = some (.int .i64 ((zbW l0 x5_1).f1.f1)) ∧ w'.cell? ⟨(ad208.add ((x5_1).toNat * 6)).block, (ad208.add ((x5_1).toNat * 6)).off + 5, none⟩ = some (.int .i64 ((zbW l0 x5_1).f1.f2))) (ds := []) #[false, false, false, false, false, false, false, false, false, false, false, false, false, false, false] (by kernel_rfl) rfl rfl ⟨(zbF HB.out hw208_0), (zbF HB.out hw208_1), (zbF HB.out hw208_2), (zbF HB.out hw208_3), (zbF HB.out hw208_4), (zbF HB.out hw208_5), (zbF HB.out hw209_0), (zbF HB.out hw209_1), (zbF HB.out hw209_2), (zbF HB.out hw209_3), (zbF HB.out hw209_4), (zbF HB.out hw209_5)⟩ (fun hHeld => ?_); refine zcT zbH.tab5 zbH.bits5 (fun HT_ HW_ => ?_)
          generalize wr.drew = w17 at HO_4 HB hx208_0 hx208_1 hx208_2 hx208_3 hx208_4 hx208_5 hx209_0 hx209_1 hx209_2 hx209_3 hx209_4 hx209_5 hHeld ⊢
          refine zbL (i := 0) (N := some 14) (v := ?_) (a' := ?_) #[true, false, false, false, false, false, false, false, false, false, false, false, false, false, false] rfl rfl (zaY HT_.out (by kernel_rfl)) (fun _ _ _ h => h) (Or.inl ⟨by rfl, ?_⟩) ?_ ?_
          rotate_left
          ·intro w'
           go_simp
           with_reducible rfl
          rotate_left
          ·simp only [Act.put, List.setIfInBounds_toArray, List.set_cons_zero, List.set_cons_succ, zaT, zaU]
           rfl
          refine zbL (i := 1) (N := some 15) (v := ?_) (a' := ?_) #[true, true, false, false, false, false, false, false, false, false, false, false, false, false, false] rfl rfl (zaY HT_.out (by kernel_rfl)) (fun _ _ _ h => h) (Or.inl ⟨by rfl, ?_⟩) ?_ ?_
          rotate_left
          ·intro w'
           go_simp
           with_reducible rfl
          rotate_left
          ·simp only [Act.put, List.setIfInBounds_toArray, List.set_cons_zero, List.set_cons_succ, zaT, zaU]
           rfl
          refine zbL (i := 2) (N := some 16) (v := ?_) (a' := ?_) #[true, true, true, false, false, false, false, false, false, false, false, false, false, false, false] rfl rfl (zaY HT_.out (by kernel_rfl)) (fun _ _ _ h => h) (Or.inl ⟨by rfl, ?_⟩) ?_ ?_
          rotate_left
          ·intro w'
           go_simp
           with_reducible rfl
          rotate_left
          ·simp only [Act.put, List.setIfInBounds_toArray, List.set_cons_zero, List.set_cons_succ, zaT, zaU]
           rfl
          refine zbL (i := 3) (N := some 17) (v := ?_) (a' := ?_) #[true, true, true, true, false, false, false, false, false, false, false, false, false, false, false] rfl rfl (zaY HT_.out (by kernel_rfl)) (fun _ _ _ h => h) (Or.inl ⟨by rfl, ?_⟩) ?_ ?_
          rotate_left
          ·intro w'
           go_simp
           with_reducible rfl
          rotate_left
          ·simp only [Act.put, List.setIfInBounds_toArray, List.set_cons_zero, List.set_cons_succ, zaT, zaU]
           rfl
          refine zbL (i := 4) (N := some 18) (v := ?_) (a' := ?_) #[true, true, true, true, true, false, false, false, false, false, false, false, false, false, false] rfl rfl (zaY HT_.out (by kernel_rfl)) (fun _ _ _ h => h) (Or.inl ⟨by rfl, ?_⟩) ?_ ?_
          rotate_left
          ·intro w'
           go_simp
           with_reducible rfl
          rotate_left
          ·simp only [Act.put, List.setIfInBounds_toArray, List.set_cons_zero, List.set_cons_succ, zaT, zaU]
           rfl
          refine zbL (i := 5) (N := some 19) (v := ?_) (a' := ?_) #[true, true, true, true, true, true, false, false, false, false, false, false, false, false, false] rfl rfl (zaY HT_.out (by kernel_rfl)) (fun _ _ _ h => h) (Or.inl ⟨by rfl, ?_⟩) ?_ ?_
          rotate_left
          ·intro w'
           go_simp
           with_reducible rfl
          rotate_left
          ·simp only [Act.put, List.setIfInBounds_toArray, List.set_cons_zero, List.set_cons_succ, zaT, zaU]
           rfl
          refine zbL (i := 6) (N := some 20) (v := ?_) (a' := ?_) #[true, true, true, true, true, true, true, false, false, false, false, false, false, false, false] rfl rfl (zaY HT_.out (by kernel_rfl)) (fun _ _ _ h => h) (Or.inl ⟨by rfl, ?_⟩) ?_ ?_
          rotate_left
          ·intro w'
           go_simp
           with_reducible rfl
          rotate_left
          ·simp only [Act.put, List.setIfInBounds_toArray, List.set_cons_zero, List.set_cons_succ, zaT, zaU]
           rfl
          refine zbL (i := 8) (N := some 22) (v := ?_) (a' := ?_) #[true, true, true, true, true, true, true, false, true, false, false, false, false, false, false] rfl rfl (zaY HT_.out (by kernel_rfl)) (fun _ _ _ h => h) (Or.inl ⟨by rfl, ?_⟩) ?_ ?_
          rotate_left
          ·intro w'
           go_simp
           with_reducible rfl
          rotate_left
          ·simp only [Act.put, List.setIfInBounds_toArray, List.set_cons_zero, List.set_cons_succ, zaT, zaU]
           rfl
          refine zbL (i := 9) (N := some 23) (v := ?_) (a' := ?_) #[true, true, true, true, true, true, true, false, true, true, false, false, false, false, false] rfl rfl (zaY HT_.out (by kernel_rfl)) (fun _ _ _ h => h) (Or.inl ⟨by rfl, ?_⟩) ?_ ?_
          rotate_left
          ·intro w'
           go_simp
           with_reducible rfl
          rotate_left
          ·simp only [Act.put, List.setIfInBounds_toArray, List.set_cons_zero, List.set_cons_succ, zaT, zaU]
           rfl
          refine zbL (i := 10) (N := some 24) (v := ?_) (a' := ?_) #[true, true, true, true, true, true, true, false, true, true, true, false, false, false, false] rfl rfl (zaY HT_.out (by kernel_rfl)) (fun _ _ _ h => h) (Or.inl ⟨by rfl, ?_⟩) ?_ ?_
          rotate_left
          ·intro w'
           go_simp
           with_reducible rfl
          rotate_left
          ·simp only [Act.put, List.setIfInBounds_toArray, List.set_cons_zero, List.set_cons_succ, zaT, zaU]
           rfl
          refine take_ (i := 7) (N := some 21) (v := ?_) (a' := ?_) #[true, true, true, true, true, true, true, true, true, true, true, false, false, false, false] rfl rfl (zbU HT_.out HW_.out (by kernel_rfl)) (fun _ _ _ h => h) (Or.inl ⟨by rfl, ?_⟩) hHeld ?_ ?_
          rotate_left
          ·rintro w' ⟨s0, s1, s2, s3, s4, s5, s6, s7, s8, s9, s10, s11⟩
           go_simp
           with_reducible rfl
          rotate_left
          ·simp only [Act.put, List.setIfInBounds_toArray, List.set_cons_zero, List.set_cons_succ, zaT, zaU]
           rfl
          refine take_ (i := 11) (N := some 25) (v := ?_) (a' := ?_) #[true, true, true, true, true, true, true, true, true, true, true, true, false, false, false] rfl rfl (zbU HT_.out HW_.out (by kernel_rfl)) (fun _ _ _ h => h) (Or.inl ⟨by rfl, ?_⟩) hHeld ?_ ?_
          rotate_left
          ·rintro w' ⟨s0, s1, s2, s3, s4, s5, s6, s7, s8, s9, s10, s11⟩
           go_simp
           with_reducible rfl
          rotate_left
          ·simp only [Act.put, List.setIfInBounds_toArray, List.set_cons_zero, List.set_cons_succ, zaT, zaU]
           rfl
          refine zeX (i := 12) (N := some 26) #[true, true, true, true, true, true, true, true, true, true, true, true, true, false, false] rfl rfl (zcU HT_.out (by kernel_rfl)) (by decide) (fun K hK => ?_)
          refine zdI Tryd.func111 (by kernel_rfl) rfl #[.agg #[.int .i64 ((zbW l0 (ji6)).f0.f0), .int .i64 ((zbW l0 (ji6)).f0.f1), .int .i64 ((zbW l0 (ji6)).f0.f2), .int .i64 ((zbW l0 (ji6)).f1.f0), .int .i64 ((zbW l0 (ji6)).f1.f1), .int .i64 ((zbW l0 (ji6)).f1.f2)], .agg #[.int .i64 ((zbW l0 x5_1).f0.f0), .int .i64 ((zbW l0 x5_1).f0.f1), .int .i64 ((zbW l0 x5_1).f0.f2), .int .i64 ((zbW l0 x5_1).f1.f0), .int .i64 ((zbW l0 x5_1).f1.f1), .int .i64 ((zbW l0 x5_1).f1.f2)]] (by rfl) rfl rfl (by (try simp only [List.map_toArray, List.map_cons, List.map_nil]); first | done | (simp only [hji6]; rfl) | rfl | (simp only [List.length_drop, List.length_take]; rfl)) ?_
          with_reducible refine (zcD.calls k1 ((zbW l0 (ji6)).f0.f0) ((zbW l0 (ji6)).f0.f1) ((zbW l0 (ji6)).f0.f2) ((zbW l0 (ji6)).f1.f0) ((zbW l0 (ji6)).f1.f1) ((zbW l0 (ji6)).f1.f2) ((zbW l0 x5_1).f0.f0) ((zbW l0 x5_1).f0.f1) ((zbW l0 x5_1).f0.f2) ((zbW l0 x5_1).f1.f0) ((zbW l0 x5_1).f1.f1) ((zbW l0 x5_1).f1.f2) t210 t211 t212 t213 t214 t215 _ A10.out).mono ?_
          rintro e w18 ⟨rfl, hb⟩
          refine ⟨_, rfl, ?_⟩
          have n0_ := zaO (Kd.R_below (by (with_reducible repeat (first | apply Kd.R_alloc | apply Kd.R_drewN | apply Kd.R_drew)); exact HO_4.out) hb)
          have n1_ := zaO (zaK (by repeat (first | (with_reducible first | exact HB.out | apply zaE | apply zaA | apply zaD) | exact HB.out)) hb)
          clear HO_4
          clear HB
          have HO_4 := n0_
          have HB := n1_
          clear n0_ n1_
          (try clear hb)
          (try clear hb2)
          (try clear hk)
          (try clear hi)
          refine hK.out _ _ ⟨(zbF HB.out hw208_0), (zbF HB.out hw208_1), (zbF HB.out hw208_2), (zbF HB.out hw208_3), (zbF HB.out hw208_4), (zbF HB.out hw208_5), (zbF HB.out hw209_0), (zbF HB.out hw209_1), (zbF HB.out hw209_2), (zbF HB.out hw209_3), (zbF HB.out hw209_4), (zbF HB.out hw209_5)⟩ (fun hHeld => ?_)
          clear hK K
          refine zdL (a' := ?_) ?_ ?_
          rotate_left
          ·show Act.put _ (some 26) _ = _
           simp only [Act.put, List.setIfInBounds_toArray, List.set_cons_zero, List.set_cons_succ, zaT, zaU]
           rfl
          refine zeX (i := 13) (N := some 27) #[true, true, true, true, true, true, true, true, true, true, true, true, true, true, false] rfl rfl (zcU HT_.out (by kernel_rfl)) (by decide) (fun K hK => ?_)
          refine zdI Tryd.func110 (by kernel_rfl) rfl #[.agg #[.int .i64 t210, .int .i64 t211, .int .i64 t212, .int .i64 t213, .int .i64 t214, .int .i64 t215]] (by rfl) rfl rfl (by (try simp only [List.map_toArray, List.map_cons, List.map_nil]); first | done | rfl | (simp only [List.length_drop, List.length_take]; rfl)) ?_
          with_reducible refine (zbA.calls k1 t210 t211 t212 t213 t214 t215 t216 _ A11.out).mono ?_
          rintro e w19 ⟨rfl, hb⟩
          refine ⟨_, rfl, ?_⟩
          have n0_ := zaO (Kd.R_below (by (with_reducible repeat (first | apply Kd.R_alloc | apply Kd.R_drewN | apply Kd.R_drew)); exact HO_4.out) hb)
          have n1_ := zaO (zaK (by repeat (first | (with_reducible first | exact HB.out | apply zaE | apply zaA | apply zaD) | exact HB.out)) hb)
          clear HO_4
          clear HB
          have HO_4 := n0_
          have HB := n1_
          clear n0_ n1_
          (try clear hb)
          (try clear hb2)
          (try clear hk)
          (try clear hi)
          refine hK.out _ _ ⟨(zbF HB.out hw208_0), (zbF HB.out hw208_1), (zbF HB.out hw208_2), (zbF HB.out hw208_3), (zbF HB.out hw208_4), (zbF HB.out hw208_5), (zbF HB.out hw209_0), (zbF HB.out hw209_1), (zbF HB.out hw209_2), (zbF HB.out hw209_3), (zbF HB.out hw209_4), (zbF HB.out hw209_5)⟩ (fun hHeld => ?_)
          clear hK K
          refine zdL (a' := ?_) ?_ ?_
          rotate_left
          ·show Act.put _ (some 27) _ = _
           simp only [Act.put, List.setIfInBounds_toArray, List.set_cons_zero, List.set_cons_succ, zaT, zaU]
           rfl
          refine zbL (i := 14) (N := some 6) (v := ?_) (a' := ?_) #[true, true, true, true, true, true, true, true, true, true, true, true, true, true, true] rfl rfl (zaY HT_.out (by kernel_rfl)) (fun _ _ _ h => h) (Or.inl ⟨by rfl, ?_⟩) ?_ ?_
          rotate_left
          ·intro w'
           go_simp
           with_reducible rfl
          rotate_left
          ·simp only [Act.put, List.setIfInBounds_toArray, List.set_cons_zero, List.set_cons_succ, zaT, zaU]
           rfl
          refine done_ (zdJ HT_.out (by kernel_rfl)) ?_
          try go_wp2_with (first | ((with_reducible refine gate_builtin (b := .append) (xs := #[.tmp 30, .tmp 32]) rfl ?_); at_builtin; refine Kd.R_append (Kd.int .i64) (w0 := w) w.heap.size rfl (.tmp 30) (.tmp 32) 87 2 (.int .i64 0) 8 rfl Tryd.underlying87 info2 rfl (by decide) (by omega) u4 x4_1 t216 [.int .i64 t216] (fun _ => True) (fun _ => False) rfl rfl ?aP (fun _ hk => hk.elim) ?aF ?aO ?aB ?aS ?aL ?_; (case aP => exact rfl); (case aB => exact (by repeat (first | (with_reducible first | exact HB.out | apply zaE | apply zaA | apply zaD) | exact HB.out))); (case aF => exact (fun _ _ => trivial)); (case aO => exact (by (with_reducible repeat (first | apply Kd.R_alloc | apply Kd.R_drewN | apply Kd.R_drew)); exact HO_4.out)); (case aS => exact (zaP (by repeat (first | (with_reducible first | exact HB.out | apply zaE | apply zaA | apply zaD) | exact HB.out)))); (case aL => have := LMc16.out; omega); intro v218 w20 ho hb hg hat; rw [← Ny217.out] at ho; have n0_ := zaO (hb); have n1_ := zaO (ho); clear HB; clear HO_4; have HB := n0_; have HO219 := n1_; clear n0_ n1_; clear ho hb hg hat))
          go_roundg k1
          case measure => have := HK1.out; omega
          case rel => exact ⟨(y217), (wrap64 (x5_1 + 1)), (by first | rfl | (simp; done) | (simp [*]; done)), H', ⟨by have := HK1.out; omega⟩, ⟨by (with_reducible repeat (first | apply Kd.R_alloc | apply Kd.R_drewN | apply Kd.R_drew)); exact HO219.out⟩, ⟨by repeat (first | (with_reducible first | exact HB.out | apply zaE | apply zaA | apply zaD) | exact HB.out)⟩⟩
         ·rw [if_neg c16] at H
          exact absurd H (by simp)
       ·rw [if_neg c9] at H
        exact absurd H (by simp)
      ·rw [if_neg c8] at H
       exact absurd H (by simp)
     ·rw [if_neg c7] at H
      exact absurd H (by simp)
   ·rw [if_neg c4] at H
    have c4b0 : decide (x5_1 < (l0.length : Int)) = false := decide_eq_false c4
    clear c4
    simp only [Option.some.injEq, Prod.mk.injEq] at H
    obtain ⟨rfl, rfl⟩ := H
    go_wp2
    go_ret2
    exact ⟨_, by first | rfl | (simp [zaN, zaM] <;> rfl) | (simp [*, zaN, zaM] <;> rfl), by (with_reducible repeat (first | apply Kd.R_alloc | apply Kd.R_drewN | apply Kd.R_drew)); exact HO_4.out, by repeat (first | (with_reducible first | exact HB.out | apply zaE | apply zaA | apply zaD) | exact HB.out)⟩

def zcJ.f (k : Nat) (a0_0 : Int) (a0_1 : Int) (a0_2 : Int) (a1_0 : Int) (a1_1 : Int) (a1_2 : Int) : Option (Int) := (zcY.f a0_0 a0_1 a0_2).bind fun bt222 => ((zcY.f a1_0 a1_1 a1_2).bind fun bt225 => ((zcL.f k bt222.1 bt222.2.1 bt222.2.2 bt225.1 bt225.2.1 bt225.2.2).bind fun bt228 => ((zaZ.f k bt228.1 bt228.2.1 bt228.2.2).bind fun t231 => (some t231))))
theorem zcJ.mono : ∀ a0 a1 a2 a3 a4 a5 k, LeO (zcJ.f k a0 a1 a2 a3 a4 a5) (zcJ.f (k + 1) a0 a1 a2 a3 a4 a5) := by
 intro a0 a1 a2 a3 a4 a5 k
 unfold zcJ.f
 repeat' first
   | (with_reducible exact zaZ.mono _ _ _ _)
   | (with_reducible exact zcL.mono _ _ _ _ _ _ _)
   | (with_reducible exact LeO.refl _)
   | (with_reducible exact LeO.none _)
   | (with_reducible refine LeO.ite ?_ ?_)
   | (with_reducible refine LeO.bind ?_ (fun _ => ?_))
   | exact zaZ.mono _ _ _ _
   | exact zcL.mono _ _ _ _ _ _ _
   | exact LeO.none _
   | refine LeO.ite ?_ ?_
   | refine LeO.bind ?_ (fun _ => ?_)
set_option maxHeartbeats 8000000 in
set_option maxRecDepth 100000 in
theorem zcJ.calls (k : Nat) (a0_0 : Int) (a0_1 : Int) (a0_2 : Int) (a1_0 : Int) (a1_1 : Int) (a1_2 : Int) (r : Int) (w : World) (h : zcJ.f k a0_0 a0_1 a0_2 a1_0 a1_1 a1_2 = some r) :
  Calls Tryd.prog 136 #[.agg #[.int .i64 a0_0, .int .i64 a0_1, .int .i64 a0_2], .agg #[.int .i64 a1_0, .int .i64 a1_1, .int .i64 a1_2]] w fun e w' => e = .returned (.int .i64 r) ∧ Below w.heap.size w w' := by
 have hu34 := Tryd.underlying34
 have HB := zaO (Below.refl w.heap.size w)
 have H : ((zcY.f a0_0 a0_1 a0_2).bind fun bt222 => ((zcY.f a1_0 a1_1 a1_2).bind fun bt225 => ((zcL.f k bt222.1 bt222.2.1 bt222.2.2 bt225.1 bt225.2.1 bt225.2.2).bind fun bt228 => ((zaZ.f k bt228.1 bt228.2.1 bt228.2.2).bind fun t231 => (some t231))))) = some r := h
 clear h
 replace H := Option.bind_eq_some_iff.mp H
 obtain ⟨⟨t222, t223, t224⟩, A30, H⟩ := H
 replace H : ((zcY.f a1_0 a1_1 a1_2).bind fun bt225 => ((zcL.f k t222 t223 t224 bt225.1 bt225.2.1 bt225.2.2).bind fun bt228 => ((zaZ.f k bt228.1 bt228.2.1 bt228.2.2).bind fun t231 => (some t231)))) = some r := H
 have A3 := zaO A30
 clear A30
 replace H := Option.bind_eq_some_iff.mp H
 obtain ⟨⟨t225, t226, t227⟩, A40, H⟩ := H
 replace H : ((zcL.f k t222 t223 t224 t225 t226 t227).bind fun bt228 => ((zaZ.f k bt228.1 bt228.2.1 bt228.2.2).bind fun t231 => (some t231))) = some r := H
 have A4 := zaO A40
 clear A40
 replace H := Option.bind_eq_some_iff.mp H
 obtain ⟨⟨t228, t229, t230⟩, A50, H⟩ := H
 replace H : ((zaZ.f k t228 t229 t230).bind fun t231 => (some t231)) = some r := H
 have A5 := zaO A50
 clear A50
 replace H := Option.bind_eq_some_iff.mp H
 obtain ⟨t231, A60, H⟩ := H
 replace H : (some t231) = some r := H
 have A6 := zaO A60
 clear A60
 obtain rfl := Option.some.inj H
 go_enter Tryd.func136, Tryd.ntmps136
 try go_wp2_with (first | ((with_reducible refine zbC (N := 2) rfl ?_); refine zaW ?hg (N := 2) ?hd (cs := #[.int .i64 a0_0, .int .i64 a0_1, .int .i64 a0_2]) (t := 34) ?hr ?_; (case hd => rfl); (case hg => rfl); (case hr => first | (go_simp; done) | (go_simp; rfl)); intro gb220 hg w7 hbox hb; have n0_ := zaO (zaK (by repeat (first | (with_reducible first | exact HB.out | apply zaE | apply zaA | apply zaD) | exact HB.out)) hb); have n1_ := zaO (hbox); have n2_ := zaO ((by rw [hg]; exact (zaP (by repeat (first | (with_reducible first | exact HB.out | apply zaE | apply zaA | apply zaD) | exact HB.out))) : w.heap.size ≤ gb220)); have n3_ := n2_; clear HB; have HB := n0_; have BK220 := n1_; have GW220 := n2_; have GE220 := n3_; clear n0_ n1_ n2_ n3_; clear hb hbox hg) | ((with_reducible refine zbC (N := 3) rfl ?_); refine zaW ?hg (N := 3) ?hd (cs := #[.int .i64 a1_0, .int .i64 a1_1, .int .i64 a1_2]) (t := 34) ?hr ?_; (case hd => rfl); (case hg => rfl); (case hr => first | (go_simp; done) | (go_simp; rfl)); intro gb221 hg w8 hbox hb; have n0_ := zaO (zaL (g := gb220) (o := .cells #[.int .i64 a0_0, .int .i64 a0_1, .int .i64 a0_2] 34 (0, 0)) (by (with_reducible repeat (first | apply zaC | apply zaF | apply zaB)); exact BK220.out) hb); have n1_ := zaO (zaK (by repeat (first | (with_reducible first | exact HB.out | apply zaE | apply zaA | apply zaD | refine zaH ?_ GE220.out) | exact HB.out)) hb); have n2_ := zaO (hbox); have n3_ := zaO ((by rw [hg]; exact (zaP (by repeat (first | (with_reducible first | exact HB.out | apply zaE | apply zaA | apply zaD | refine zaH ?_ GE220.out) | exact HB.out))) : w.heap.size ≤ gb221)); have n4_ := n3_; have n5_ := zaO ((by rw [hg]; exact Nat.ne_of_lt (zbN (g := gb220) (o := .cells #[.int .i64 a0_0, .int .i64 a0_1, .int .i64 a0_2] 34 (0, 0)) (by (with_reducible repeat (first | apply zaC | apply zaF | apply zaB)); exact BK220.out)) : gb220 ≠ gb221)); have n6_ := zaO ((by rw [hg]; exact Nat.ne_of_gt (zbN (g := gb220) (o := .cells #[.int .i64 a0_0, .int .i64 a0_1, .int .i64 a0_2] 34 (0, 0)) (by (with_reducible repeat (first | apply zaC | apply zaF | apply zaB)); exact BK220.out)) : gb221 ≠ gb220)); clear BK220; clear HB; have BK220 := n0_; have HB := n1_; have BK221 := n2_; have GW221 := n3_; have GE221 := n4_; have NB220_221 := n5_; have NB221_220 := n6_; clear n0_ n1_ n2_ n3_ n4_ n5_ n6_; clear hb hbox hg))
 have n0_ := zaO (zaF BK220.out)
 have n1_ := zaO (zaF BK221.out)
 have n2_ := zaO (zaD HB.out)
 clear BK220
 clear BK221
 clear HB
 have BK220 := n0_
 have BK221 := n1_
 have HB := n2_
 clear n0_ n1_ n2_
 refine zdU (n := 7) (S := fun w' => w'.cell? ⟨gb220, 0, none⟩ = some (.int .i64 a0_0) ∧ w'.cell? ⟨gb220, 1, none⟩ = some (.int .i64 a0_1) ∧ w'.cell? ⟨gb220, 2, none⟩ = some (.int .i64 a0_2) ∧ w'.cell? ⟨gb221, 0, none⟩ = some (.int .i64 a1_0) ∧ w'.cell? ⟨gb221, 1, none⟩ = some (.int .i64 a1_1) ∧ w'.cell? ⟨gb221, 2, none⟩ = some (.int .i64 a1_2)) (ds := []) #[false, false, false, false, false, false, false] (by kernel_rfl) rfl rfl ⟨(zaI BK220.out 0).trans rfl, (zaI BK220.out 1).trans rfl, (zaI BK220.out 2).trans rfl, (zaI BK221.out 0).trans rfl, (zaI BK221.out 1).trans rfl, (zaI BK221.out 2).trans rfl⟩ (fun hHeld => ?_)
 generalize w8.drew = w9 at BK220 BK221 HB hHeld ⊢
 refine take_ (i := 0) (N := some 5) (v := ?_) (a' := ?_) #[true, false, false, false, false, false, false] rfl rfl (by kernel_rfl) (fun _ _ _ h => h) (Or.inl ⟨by rfl, ?_⟩) hHeld ?_ ?_
 rotate_left
 ·rintro w' ⟨s0, s1, s2, s3, s4, s5⟩
  go_simp
  with_reducible rfl
 rotate_left
 ·simp only [Act.put, List.setIfInBounds_toArray, List.set_cons_zero, List.set_cons_succ, zaT, zaU]
  rfl
 refine take_ (i := 2) (N := some 7) (v := ?_) (a' := ?_) #[true, false, true, false, false, false, false] rfl rfl (by kernel_rfl) (fun _ _ _ h => h) (Or.inl ⟨by rfl, ?_⟩) hHeld ?_ ?_
 rotate_left
 ·rintro w' ⟨s0, s1, s2, s3, s4, s5⟩
  go_simp
  with_reducible rfl
 rotate_left
 ·simp only [Act.put, List.setIfInBounds_toArray, List.set_cons_zero, List.set_cons_succ, zaT, zaU]
  rfl
 refine zeX (i := 1) (N := some 6) #[true, true, true, false, false, false, false] rfl rfl (by kernel_rfl) (by decide) (fun K hK => ?_)
 refine zdI Tryd.func114 (by kernel_rfl) rfl #[.agg #[.int .i64 a0_0, .int .i64 a0_1, .int .i64 a0_2]] (by rfl) rfl rfl (by (try simp only [List.map_toArray, List.map_cons, List.map_nil]); first | done | rfl | (simp only [List.length_drop, List.length_take]; rfl)) ?_
 with_reducible refine (zcY.calls a0_0 a0_1 a0_2 t222 t223 t224 _ A3.out).mono ?_
 rintro e w10 ⟨rfl, hb⟩
 refine ⟨_, rfl, ?_⟩
 have n0_ := zaO (zaL (g := gb220) (o := .cells #[.int .i64 a0_0, .int .i64 a0_1, .int .i64 a0_2] 34 (0, 0)) (by (with_reducible repeat (first | apply zaC | apply zaF | apply zaB)); exact BK220.out) hb)
 have n1_ := zaO (zaL (g := gb221) (o := .cells #[.int .i64 a1_0, .int .i64 a1_1, .int .i64 a1_2] 34 (0, 0)) (by (with_reducible repeat (first | apply zaC | apply zaF | apply zaB)); exact BK221.out) hb)
 have n2_ := zaO (zaK (by repeat (first | (with_reducible first | exact HB.out | apply zaE | apply zaA | apply zaD | refine zaH ?_ GE220.out | refine zaH ?_ GE221.out) | exact HB.out)) hb)
 clear BK220
 clear BK221
 clear HB
 have BK220 := n0_
 have BK221 := n1_
 have HB := n2_
 clear n0_ n1_ n2_
 (try clear hb)
 (try clear hb2)
 (try clear hk)
 (try clear hi)
 refine hK.out _ _ ⟨(zaI BK220.out 0).trans rfl, (zaI BK220.out 1).trans rfl, (zaI BK220.out 2).trans rfl, (zaI BK221.out 0).trans rfl, (zaI BK221.out 1).trans rfl, (zaI BK221.out 2).trans rfl⟩ (fun hHeld => ?_)
 clear hK K
 refine zdL (a' := ?_) ?_ ?_
 rotate_left
 ·show Act.put _ (some 6) _ = _
  simp only [Act.put, List.setIfInBounds_toArray, List.set_cons_zero, List.set_cons_succ, zaT, zaU]
  rfl
 refine zeX (i := 3) (N := some 8) #[true, true, true, true, false, false, false] rfl rfl (by kernel_rfl) (by decide) (fun K hK => ?_)
 refine zdI Tryd.func114 (by kernel_rfl) rfl #[.agg #[.int .i64 a1_0, .int .i64 a1_1, .int .i64 a1_2]] (by rfl) rfl rfl (by (try simp only [List.map_toArray, List.map_cons, List.map_nil]); first | done | rfl | (simp only [List.length_drop, List.length_take]; rfl)) ?_
 with_reducible refine (zcY.calls a1_0 a1_1 a1_2 t225 t226 t227 _ A4.out).mono ?_
 rintro e w11 ⟨rfl, hb⟩
 refine ⟨_, rfl, ?_⟩
 have n0_ := zaO (zaL (g := gb220) (o := .cells #[.int .i64 a0_0, .int .i64 a0_1, .int .i64 a0_2] 34 (0, 0)) (by (with_reducible repeat (first | apply zaC | apply zaF | apply zaB)); exact BK220.out) hb)
 have n1_ := zaO (zaL (g := gb221) (o := .cells #[.int .i64 a1_0, .int .i64 a1_1, .int .i64 a1_2] 34 (0, 0)) (by (with_reducible repeat (first | apply zaC | apply zaF | apply zaB)); exact BK221.out) hb)
 have n2_ := zaO (zaK (by repeat (first | (with_reducible first | exact HB.out | apply zaE | apply zaA | apply zaD | refine zaH ?_ GE220.out | refine zaH ?_ GE221.out) | exact HB.out)) hb)
 clear BK220
 clear BK221
 clear HB
 have BK220 := n0_
 have BK221 := n1_
 have HB := n2_
 clear n0_ n1_ n2_
 (try clear hb)
 (try clear hb2)
 (try clear hk)
 (try clear hi)
 refine hK.out _ _ ⟨(zaI BK220.out 0).trans rfl, (zaI BK220.out 1).trans rfl, (zaI BK220.out 2).trans rfl, (zaI BK221.out 0).trans rfl, (zaI BK221.out 1).trans rfl, (zaI BK221.out 2).trans rfl⟩ (fun hHeld => ?_)
 clear hK K
 refine zdL (a' := ?_) ?_ ?_
 rotate_left
 ·show Act.put _ (some 8) _ = _
  simp only [Act.put, List.setIfInBounds_toArray, List.set_cons_zero, List.set_cons_succ, zaT, zaU]
  rfl
 refine zeX (i := 4) (N := some 9) #[true, true, true, true, true, false, false] rfl rfl (by kernel_rfl) (by decide) (fun K hK => ?_)
 refine zdI Tryd.func145 (by kernel_rfl) rfl #[.agg #[.int .i64 t222, .int .i64 t223, .int .i64 t224], .agg #[.int .i64 t225, .int .i64 t226, .int .i64 t227]] (by rfl) rfl rfl (by (try simp only [List.map_toArray, List.map_cons, List.map_nil]); first | done | rfl | (simp only [List.length_drop, List.length_take]; rfl)) ?_
 with_reducible refine (zcL.calls k t222 t223 t224 t225 t226 t227 t228 t229 t230 _ A5.out).mono ?_
 rintro e w12 ⟨rfl, hb⟩
 refine ⟨_, rfl, ?_⟩
 have n0_ := zaO (zaL (g := gb220) (o := .cells #[.int .i64 a0_0, .int .i64 a0_1, .int .i64 a0_2] 34 (0, 0)) (by (with_reducible repeat (first | apply zaC | apply zaF | apply zaB)); exact BK220.out) hb)
 have n1_ := zaO (zaL (g := gb221) (o := .cells #[.int .i64 a1_0, .int .i64 a1_1, .int .i64 a1_2] 34 (0, 0)) (by (with_reducible repeat (first | apply zaC | apply zaF | apply zaB)); exact BK221.out) hb)
 have n2_ := zaO (zaK (by repeat (first | (with_reducible first | exact HB.out | apply zaE | apply zaA | apply zaD | refine zaH ?_ GE220.out | refine zaH ?_ GE221.out) | exact HB.out)) hb)
 clear BK220
 clear BK221
 clear HB
 have BK220 := n0_
 have BK221 := n1_
 have HB := n2_
 clear n0_ n1_ n2_
 (try clear hb)
 (try clear hb2)
 (try clear hk)
 (try clear hi)
 refine hK.out _ _ ⟨(zaI BK220.out 0).trans rfl, (zaI BK220.out 1).trans rfl, (zaI BK220.out 2).trans rfl, (zaI BK221.out 0).trans rfl, (zaI BK221.out 1).trans rfl, (zaI BK221.out 2).trans rfl⟩ (fun hHeld => ?_)
 clear hK K
 refine zdL (a' := ?_) ?_ ?_
 rotate_left
 ·show Act.put _ (some 9) _ = _
  simp only [Act.put, List.setIfInBounds_toArray, List.set_cons_zero, List.set_cons_succ, zaT, zaU]
  rfl
 refine zeX (i := 5) (N := some 10) #[true, true, true, true, true, true, false] rfl rfl (by kernel_rfl) (by decide) (fun K hK => ?_)
 refine zdI Tryd.func112 (by kernel_rfl) rfl #[.agg #[.int .i64 t228, .int .i64 t229, .int .i64 t230]] (by rfl) rfl rfl (by (try simp only [List.map_toArray, List.map_cons, List.map_nil]); first | done | rfl | (simp only [List.length_drop, List.length_take]; rfl)) ?_
 with_reducible refine (zaZ.calls k t228 t229 t230 t231 _ A6.out).mono ?_
 rintro e w13 ⟨rfl, hb⟩
 refine ⟨_, rfl, ?_⟩
 have n0_ := zaO (zaL (g := gb220) (o := .cells #[.int .i64 a0_0, .int .i64 a0_1, .int .i64 a0_2] 34 (0, 0)) (by (with_reducible repeat (first | apply zaC | apply zaF | apply zaB)); exact BK220.out) hb)
 have n1_ := zaO (zaL (g := gb221) (o := .cells #[.int .i64 a1_0, .int .i64 a1_1, .int .i64 a1_2] 34 (0, 0)) (by (with_reducible repeat (first | apply zaC | apply zaF | apply zaB)); exact BK221.out) hb)
 have n2_ := zaO (zaK (by repeat (first | (with_reducible first | exact HB.out | apply zaE | apply zaA | apply zaD | refine zaH ?_ GE220.out | refine zaH ?_ GE221.out) | exact HB.out)) hb)
 clear BK220
 clear BK221
 clear HB
 have BK220 := n0_
 have BK221 := n1_
 have HB := n2_
 clear n0_ n1_ n2_
 (try clear hb)
 (try clear hb2)
 (try clear hk)
 (try clear hi)
 refine hK.out _ _ ⟨(zaI BK220.out 0).trans rfl, (zaI BK220.out 1).trans rfl, (zaI BK220.out 2).trans rfl, (zaI BK221.out 0).trans rfl, (zaI BK221.out 1).trans rfl, (zaI BK221.out 2).trans rfl⟩ (fun hHeld => ?_)
 clear hK K
 refine zdL (a' := ?_) ?_ ?_
 rotate_left
 ·show Act.put _ (some 10) _ = _
  simp only [Act.put, List.setIfInBounds_toArray, List.set_cons_zero, List.set_cons_succ, zaT, zaU]
  rfl
 refine zbL (i := 6) (N := some 4) (v := ?_) (a' := ?_) #[true, true, true, true, true, true, true] rfl rfl (by kernel_rfl) (fun _ _ _ h => h) (Or.inl ⟨by rfl, ?_⟩) ?_ ?_
 rotate_left
 ·intro w'
  go_simp
  with_reducible rfl
 rotate_left
 ·simp only [Act.put, List.setIfInBounds_toArray, List.set_cons_zero, List.set_cons_succ, zaT, zaU]
  rfl
 refine done_ (by kernel_rfl) ?_
 try go_wp2
 go_ret
 exact ⟨by first | rfl | (simp [zaN, zaM] <;> rfl) | (simp [*, zaN, zaM] <;> rfl), by repeat (first | (with_reducible first | exact HB.out | apply zaE | apply zaA | apply zaD | refine zaH ?_ GE220.out | refine zaH ?_ GE221.out) | exact HB.out)⟩

def zcH.f (k : Nat) (a0_0 : Int) (a0_1 : Int) (a0_2 : Int) (a0_3 : Int) (a0_4 : Int) (a0_5 : Int) (a1_0 : Int) (a1_1 : Int) (a1_2 : Int) (a1_3 : Int) (a1_4 : Int) (a1_5 : Int) : Option (Int) := (zcJ.f k a0_0 a0_1 a0_2 a1_0 a1_1 a1_2).bind fun t234 => (if t234 = 0 then ((zcJ.f k a0_3 a0_4 a0_5 a1_3 a1_4 a1_5).bind fun t235 => (some t235)) else (some t234))
theorem zcH.mono : ∀ a0 a1 a2 a3 a4 a5 a6 a7 a8 a9 a10 a11 k, LeO (zcH.f k a0 a1 a2 a3 a4 a5 a6 a7 a8 a9 a10 a11) (zcH.f (k + 1) a0 a1 a2 a3 a4 a5 a6 a7 a8 a9 a10 a11) := by
 intro a0 a1 a2 a3 a4 a5 a6 a7 a8 a9 a10 a11 k
 unfold zcH.f
 repeat' first
   | (with_reducible exact zcJ.mono _ _ _ _ _ _ _)
   | (with_reducible exact LeO.refl _)
   | (with_reducible exact LeO.none _)
   | (with_reducible refine LeO.ite ?_ ?_)
   | (with_reducible refine LeO.bind ?_ (fun _ => ?_))
   | exact zcJ.mono _ _ _ _ _ _ _
   | exact LeO.none _
   | refine LeO.ite ?_ ?_
   | refine LeO.bind ?_ (fun _ => ?_)
set_option maxHeartbeats 8000000 in
set_option maxRecDepth 100000 in
theorem zcH.calls (k : Nat) (a0_0 : Int) (a0_1 : Int) (a0_2 : Int) (a0_3 : Int) (a0_4 : Int) (a0_5 : Int) (a1_0 : Int) (a1_1 : Int) (a1_2 : Int) (a1_3 : Int) (a1_4 : Int) (a1_5 : Int) (r : Int) (w : World) (h : zcH.f k a0_0 a0_1 a0_2 a0_3 a0_4 a0_5 a1_0 a1_1 a1_2 a1_3 a1_4 a1_5 = some r) :
  Calls Tryd.prog 102 #[.agg #[.int .i64 a0_0, .int .i64 a0_1, .int .i64 a0_2, .int .i64 a0_3, .int .i64 a0_4, .int .i64 a0_5], .agg #[.int .i64 a1_0, .int .i64 a1_1, .int .i64 a1_2, .int .i64 a1_3, .int .i64 a1_4, .int .i64 a1_5]] w fun e w' => e = .returned (.int .i64 r) ∧ Below w.heap.size w w' := by
 have hu36 := Tryd.underlying36
 have hu34 := Tryd.underlying34
 have HB := zaO (Below.refl w.heap.size w)
 have H : ((zcJ.f k a0_0 a0_1 a0_2 a1_0 a1_1 a1_2).bind fun t234 => (if t234 = 0 then ((zcJ.f k a0_3 a0_4 a0_5 a1_3 a1_4 a1_5).bind fun t235 => (some t235)) else (some t234))) = some r := h
 clear h
 replace H := Option.bind_eq_some_iff.mp H
 obtain ⟨t234, A30, H⟩ := H
 replace H : (if t234 = 0 then ((zcJ.f k a0_3 a0_4 a0_5 a1_3 a1_4 a1_5).bind fun t235 => (some t235)) else (some t234)) = some r := H
 have A3 := zaO A30
 clear A30
 by_cases c4 : t234 = 0
 ·rw [if_pos c4] at H
  have c4b0 : (t234 == 0) = true := beq_iff_eq.mpr c4
  have c4b1 : (t234 != 0) = false := bne_eq_false_iff_eq.mpr c4
  clear c4
  replace H := Option.bind_eq_some_iff.mp H
  obtain ⟨t235, A50, H⟩ := H
  replace H : (some t235) = some r := H
  have A5 := zaO A50
  clear A50
  obtain rfl := Option.some.inj H
  go_enter Tryd.func102, Tryd.ntmps102
  go_wp2_with (first | ((with_reducible refine zbC (N := 2) rfl ?_); refine zaW ?hg (N := 2) ?hd (cs := #[.int .i64 a0_0, .int .i64 a0_1, .int .i64 a0_2, .int .i64 a0_3, .int .i64 a0_4, .int .i64 a0_5]) (t := 36) ?hr ?_; (case hd => rfl); (case hg => rfl); (case hr => first | (go_simp; done) | (go_simp; rfl)); intro gb232 hg w6 hbox hb; have n0_ := zaO (zaK (by repeat (first | (with_reducible first | exact HB.out | apply zaE | apply zaA | apply zaD) | exact HB.out)) hb); have n1_ := zaO (hbox); have n2_ := zaO ((by rw [hg]; exact (zaP (by repeat (first | (with_reducible first | exact HB.out | apply zaE | apply zaA | apply zaD) | exact HB.out))) : w.heap.size ≤ gb232)); have n3_ := n2_; clear HB; have HB := n0_; have BK232 := n1_; have GW232 := n2_; have GE232 := n3_; clear n0_ n1_ n2_ n3_; clear hb hbox hg) | ((with_reducible refine zbC (N := 3) rfl ?_); refine zaW ?hg (N := 3) ?hd (cs := #[.int .i64 a1_0, .int .i64 a1_1, .int .i64 a1_2, .int .i64 a1_3, .int .i64 a1_4, .int .i64 a1_5]) (t := 36) ?hr ?_; (case hd => rfl); (case hg => rfl); (case hr => first | (go_simp; done) | (go_simp; rfl)); intro gb233 hg w7 hbox hb; have n0_ := zaO (zaL (g := gb232) (o := .cells #[.int .i64 a0_0, .int .i64 a0_1, .int .i64 a0_2, .int .i64 a0_3, .int .i64 a0_4, .int .i64 a0_5] 36 (0, 0)) (by (with_reducible repeat (first | apply zaC | apply zaF | apply zaB)); exact BK232.out) hb); have n1_ := zaO (zaK (by repeat (first | (with_reducible first | exact HB.out | apply zaE | apply zaA | apply zaD | refine zaH ?_ GE232.out) | exact HB.out)) hb); have n2_ := zaO (hbox); have n3_ := zaO ((by rw [hg]; exact (zaP (by repeat (first | (with_reducible first | exact HB.out | apply zaE | apply zaA | apply zaD | refine zaH ?_ GE232.out) | exact HB.out))) : w.heap.size ≤ gb233)); have n4_ := n3_; have n5_ := zaO ((by rw [hg]; exact Nat.ne_of_lt (zbN (g := gb232) (o := .cells #[.int .i64 a0_0, .int .i64 a0_1, .int .i64 a0_2, .int .i64 a0_3, .int .i64 a0_4, .int .i64 a0_5] 36 (0, 0)) (by (with_reducible repeat (first | apply zaC | apply zaF | apply zaB)); exact BK232.out)) : gb232 ≠ gb233)); have n6_ := zaO ((by rw [hg]; exact Nat.ne_of_gt (zbN (g := gb232) (o := .cells #[.int .i64 a0_0, .int .i64 a0_1, .int .i64 a0_2, .int .i64 a0_3, .int .i64 a0_4, .int .i64 a0_5] 36 (0, 0)) (by (with_reducible repeat (first | apply zaC | apply zaF | apply zaB)); exact BK232.out)) : gb233 ≠ gb232)); clear BK232; clear HB; have BK232 := n0_; have HB := n1_; have BK233 := n2_; have GW233 := n3_; have GE233 := n4_; have NB232_233 := n5_; have NB233_232 := n6_; clear n0_ n1_ n2_ n3_ n4_ n5_ n6_; clear hb hbox hg; have hnb8 := NB232_233.out; have hnc8 := NB233_232.out; obtain ⟨hcz9_0, hcz9_1, hcz9_2, hcz9_3, hcz9_4, hcz9_5⟩ := zeV BK232.out; obtain ⟨hfz9_0, hfz9_1, hfz9_2, hfz9_3, hfz9_4, hfz9_5⟩ := zeW BK232.out; obtain ⟨hcz10_0, hcz10_1, hcz10_2, hcz10_3, hcz10_4, hcz10_5⟩ := zeV BK233.out; obtain ⟨hfz10_0, hfz10_1, hfz10_2, hfz10_3, hfz10_4, hfz10_5⟩ := zeW BK233.out) | ((with_reducible refine zaQ (f := 136) rfl ?_); refine zbV (some 10) rfl rfl Tryd.func136 (by kernel_rfl) rfl #[.agg #[.int .i64 a0_0, .int .i64 a0_1, .int .i64 a0_2], .agg #[.int .i64 a1_0, .int .i64 a1_1, .int .i64 a1_2]] rfl (by (try simp only [List.map_toArray, List.map_cons, List.map_nil]); first | done | rfl | (simp only [List.length_drop, List.length_take]; rfl)) ?_; (with_reducible refine (zcJ.calls k a0_0 a0_1 a0_2 a1_0 a1_1 a1_2 t234 _ A3.out).mono ?_); rintro e w11 ⟨rfl, hb⟩; refine ⟨_, rfl, ?_⟩; have n0_ := zaO (zaL (g := gb232) (o := .cells #[.int .i64 a0_0, .int .i64 a0_1, .int .i64 a0_2, .int .i64 a0_3, .int .i64 a0_4, .int .i64 a0_5] 36 (0, 0)) (by (with_reducible repeat (first | apply zaC | apply zaF | apply zaB)); exact BK232.out) hb); have n1_ := zaO (zaL (g := gb233) (o := .cells #[.int .i64 a1_0, .int .i64 a1_1, .int .i64 a1_2, .int .i64 a1_3, .int .i64 a1_4, .int .i64 a1_5] 36 (0, 0)) (by (with_reducible repeat (first | apply zaC | apply zaF | apply zaB)); exact BK233.out) hb); have n2_ := zaO (zaK (by repeat (first | (with_reducible first | exact HB.out | apply zaE | apply zaA | apply zaD | refine zaH ?_ GE232.out | refine zaH ?_ GE233.out) | exact HB.out)) hb); clear BK232; clear BK233; clear HB; have BK232 := n0_; have BK233 := n1_; have HB := n2_; clear n0_ n1_ n2_; (try clear hb); (try clear hb2); (try clear hk); (try clear hi); obtain ⟨hcz12_0, hcz12_1, hcz12_2, hcz12_3, hcz12_4, hcz12_5⟩ := zeV BK232.out; obtain ⟨hfz12_0, hfz12_1, hfz12_2, hfz12_3, hfz12_4, hfz12_5⟩ := zeW BK232.out; obtain ⟨hcz13_0, hcz13_1, hcz13_2, hcz13_3, hcz13_4, hcz13_5⟩ := zeV BK233.out; obtain ⟨hfz13_0, hfz13_1, hfz13_2, hfz13_3, hfz13_4, hfz13_5⟩ := zeW BK233.out) | ((with_reducible refine zaQ (f := 136) rfl ?_); refine zbV (some 18) rfl rfl Tryd.func136 (by kernel_rfl) rfl #[.agg #[.int .i64 a0_3, .int .i64 a0_4, .int .i64 a0_5], .agg #[.int .i64 a1_3, .int .i64 a1_4, .int .i64 a1_5]] rfl (by (try simp only [List.map_toArray, List.map_cons, List.map_nil]); first | done | rfl | (simp only [List.length_drop, List.length_take]; rfl)) ?_; (with_reducible refine (zcJ.calls k a0_3 a0_4 a0_5 a1_3 a1_4 a1_5 t235 _ A5.out).mono ?_); rintro e w14 ⟨rfl, hb⟩; refine ⟨_, rfl, ?_⟩; have n0_ := zaO (zaL (g := gb232) (o := .cells #[.int .i64 a0_0, .int .i64 a0_1, .int .i64 a0_2, .int .i64 a0_3, .int .i64 a0_4, .int .i64 a0_5] 36 (0, 0)) (by (with_reducible repeat (first | apply zaC | apply zaF | apply zaB)); exact BK232.out) hb); have n1_ := zaO (zaL (g := gb233) (o := .cells #[.int .i64 a1_0, .int .i64 a1_1, .int .i64 a1_2, .int .i64 a1_3, .int .i64 a1_4, .int .i64 a1_5] 36 (0, 0)) (by (with_reducible repeat (first | apply zaC | apply zaF | apply zaB)); exact BK233.out) hb); have n2_ := zaO (zaK (by repeat (first | (with_reducible first | exact HB.out | apply zaE | apply zaA | apply zaD | refine zaH ?_ GE232.out | refine zaH ?_ GE233.out) | exact HB.out)) hb); clear BK232; clear BK233; clear HB; have BK232 := n0_; have BK233 := n1_; have HB := n2_; clear n0_ n1_ n2_; (try clear hb); (try clear hb2); (try clear hk); (try clear hi)))
  go_ret
  exact ⟨by first | rfl | (simp [zaN, zaM] <;> rfl) | (simp [*, zaN, zaM] <;> rfl), by repeat (first | (with_reducible first | exact HB.out | apply zaE | apply zaA | apply zaD | refine zaH ?_ GE232.out | refine zaH ?_ GE233.out) | exact HB.out)⟩
 ·rw [if_neg c4] at H
  have c4b0 : (t234 == 0) = false := beq_eq_false_iff_ne.mpr c4
  have c4b1 : (t234 != 0) = true := bne_iff_ne.mpr c4
  obtain rfl := Option.some.inj H
  go_enter Tryd.func102, Tryd.ntmps102
  go_wp2_with (first | ((with_reducible refine zbC (N := 2) rfl ?_); refine zaW ?hg (N := 2) ?hd (cs := #[.int .i64 a0_0, .int .i64 a0_1, .int .i64 a0_2, .int .i64 a0_3, .int .i64 a0_4, .int .i64 a0_5]) (t := 36) ?hr ?_; (case hd => rfl); (case hg => rfl); (case hr => first | (go_simp; done) | (go_simp; rfl)); intro gb232 hg w15 hbox hb; have n0_ := zaO (zaK (by repeat (first | (with_reducible first | exact HB.out | apply zaE | apply zaA | apply zaD) | exact HB.out)) hb); have n1_ := zaO (hbox); have n2_ := zaO ((by rw [hg]; exact (zaP (by repeat (first | (with_reducible first | exact HB.out | apply zaE | apply zaA | apply zaD) | exact HB.out))) : w.heap.size ≤ gb232)); have n3_ := n2_; clear HB; have HB := n0_; have BK232 := n1_; have GW232 := n2_; have GE232 := n3_; clear n0_ n1_ n2_ n3_; clear hb hbox hg) | ((with_reducible refine zbC (N := 3) rfl ?_); refine zaW ?hg (N := 3) ?hd (cs := #[.int .i64 a1_0, .int .i64 a1_1, .int .i64 a1_2, .int .i64 a1_3, .int .i64 a1_4, .int .i64 a1_5]) (t := 36) ?hr ?_; (case hd => rfl); (case hg => rfl); (case hr => first | (go_simp; done) | (go_simp; rfl)); intro gb233 hg w16 hbox hb; have n0_ := zaO (zaL (g := gb232) (o := .cells #[.int .i64 a0_0, .int .i64 a0_1, .int .i64 a0_2, .int .i64 a0_3, .int .i64 a0_4, .int .i64 a0_5] 36 (0, 0)) (by (with_reducible repeat (first | apply zaC | apply zaF | apply zaB)); exact BK232.out) hb); have n1_ := zaO (zaK (by repeat (first | (with_reducible first | exact HB.out | apply zaE | apply zaA | apply zaD | refine zaH ?_ GE232.out) | exact HB.out)) hb); have n2_ := zaO (hbox); have n3_ := zaO ((by rw [hg]; exact (zaP (by repeat (first | (with_reducible first | exact HB.out | apply zaE | apply zaA | apply zaD | refine zaH ?_ GE232.out) | exact HB.out))) : w.heap.size ≤ gb233)); have n4_ := n3_; have n5_ := zaO ((by rw [hg]; exact Nat.ne_of_lt (zbN (g := gb232) (o := .cells #[.int .i64 a0_0, .int .i64 a0_1, .int .i64 a0_2, .int .i64 a0_3, .int .i64 a0_4, .int .i64 a0_5] 36 (0, 0)) (by (with_reducible repeat (first | apply zaC | apply zaF | apply zaB)); exact BK232.out)) : gb232 ≠ gb233)); have n6_ := zaO ((by rw [hg]; exact Nat.ne_of_gt (zbN (g := gb232) (o := .cells #[.int .i64 a0_0, .int .i64 a0_1, .int .i64 a0_2, .int .i64 a0_3, .int .i64 a0_4, .int .i64 a0_5] 36 (0, 0)) (by (with_reducible repeat (first | apply zaC | apply zaF | apply zaB)); exact BK232.out)) : gb233 ≠ gb232)); clear BK232; clear HB; have BK232 := n0_; have HB := n1_; have BK233 := n2_; have GW233 := n3_; have GE233 := n4_; have NB232_233 := n5_; have NB233_232 := n6_; clear n0_ n1_ n2_ n3_ n4_ n5_ n6_; clear hb hbox hg; have hnb17 := NB232_233.out; have hnc17 := NB233_232.out; obtain ⟨hcz18_0, hcz18_1, hcz18_2, hcz18_3, hcz18_4, hcz18_5⟩ := zeV BK232.out; obtain ⟨hfz18_0, hfz18_1, hfz18_2, hfz18_3, hfz18_4, hfz18_5⟩ := zeW BK232.out; obtain ⟨hcz19_0, hcz19_1, hcz19_2, hcz19_3, hcz19_4, hcz19_5⟩ := zeV BK233.out; obtain ⟨hfz19_0, hfz19_1, hfz19_2, hfz19_3, hfz19_4, hfz19_5⟩ := zeW BK233.out) | ((with_reducible refine zaQ (f := 136) rfl ?_); refine zbV (some 10) rfl rfl Tryd.func136 (by kernel_rfl) rfl #[.agg #[.int .i64 a0_0, .int .i64 a0_1, .int .i64 a0_2], .agg #[.int .i64 a1_0, .int .i64 a1_1, .int .i64 a1_2]] rfl (by (try simp only [List.map_toArray, List.map_cons, List.map_nil]); first | done | rfl | (simp only [List.length_drop, List.length_take]; rfl)) ?_; (with_reducible refine (zcJ.calls k a0_0 a0_1 a0_2 a1_0 a1_1 a1_2 t234 _ A3.out).mono ?_); rintro e w20 ⟨rfl, hb⟩; refine ⟨_, rfl, ?_⟩; have n0_ := zaO (zaL (g := gb232) (o := .cells #[.int .i64 a0_0, .int .i64 a0_1, .int .i64 a0_2, .int .i64 a0_3, .int .i64 a0_4, .int .i64 a0_5] 36 (0, 0)) (by (with_reducible repeat (first | apply zaC | apply zaF | apply zaB)); exact BK232.out) hb); have n1_ := zaO (zaL (g := gb233) (o := .cells #[.int .i64 a1_0, .int .i64 a1_1, .int .i64 a1_2, .int .i64 a1_3, .int .i64 a1_4, .int .i64 a1_5] 36 (0, 0)) (by (with_reducible repeat (first | apply zaC | apply zaF | apply zaB)); exact BK233.out) hb); have n2_ := zaO (zaK (by repeat (first | (with_reducible first | exact HB.out | apply zaE | apply zaA | apply zaD | refine zaH ?_ GE232.out | refine zaH ?_ GE233.out) | exact HB.out)) hb); clear BK232; clear BK233; clear HB; have BK232 := n0_; have BK233 := n1_; have HB := n2_; clear n0_ n1_ n2_; (try clear hb); (try clear hb2); (try clear hk); (try clear hi)))
  go_ret
  exact ⟨by first | rfl | (simp [zaN, zaM] <;> rfl) | (simp [*, zaN, zaM] <;> rfl), by repeat (first | (with_reducible first | exact HB.out | apply zaE | apply zaA | apply zaD | refine zaH ?_ GE232.out | refine zaH ?_ GE233.out) | exact HB.out)⟩

end Go.Proofs.YtmajpmofeddknaaDoor.PFnExactValidPolygon
