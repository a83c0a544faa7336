-- Printed for this claim by this session's program pp.py, which drives the kit's print with additions. Not trusted: Lean checks it.
import Derived.Test.YtmajpmofeddknaaDoorV1PFnExactValidPolygonx0
import Derived.Test.YtmajpmofeddknaaDoorV1PFnExactValidPolygonx8
import Derived.Test.YtmajpmofeddknaaDoorV1PFnExactValidPolygonx9
import Derived.Test.YtmajpmofeddknaaDoorV1PFnExactValidPolygonx11
namespace Go.Proofs.YtmajpmofeddknaaDoor.PFnExactValidPolygon
open Go.RowKit Go.Proofs.YtmajpmofeddknaaDoorW.PrintWords Go.Proofs.YtmajpmofeddknaaDoorW.PrintLast Go.Proofs.YtmajpmofeddknaaDoorW.PrintMore
attribute [local go_sem] zdZ zdY zeP zeQ zdG zdH zdX zeA   -- for this text's walks alone
set_option linter.unusedVariables false
set_option linter.unusedSimpArgs false

def zaX.l0 : Nat → List (S36) → Int → Int → Int → List (S36) → Int → Int → Option (Bool)
 | 0, _, _, _, _, _, _, _ => none
 | k + 1, x0, x3, x4, x5, x23, x24, x25 => if x25 < x24 then (if 0 ≤ x25 then (if x25 < (x23.length : Int) then (if x3 = 0 then (none) else (if 0 ≤ (Int.tmod (wrap64 (x25 + 1)) x3) then (if (Int.tmod (wrap64 (x25 + 1)) x3) < (x0.length : Int) then ((zbE.f k ((zaG x23 x25).f0.f0) ((zaG x23 x25).f0.f1) ((zaG x23 x25).f0.f2) ((zaG x23 x25).f1.f0) ((zaG x23 x25).f1.f1) ((zaG x23 x25).f1.f2) ((zaG x0 (Int.tmod (wrap64 (x25 + 1)) x3)).f0.f0) ((zaG x0 (Int.tmod (wrap64 (x25 + 1)) x3)).f0.f1) ((zaG x0 (Int.tmod (wrap64 (x25 + 1)) x3)).f0.f2) ((zaG x0 (Int.tmod (wrap64 (x25 + 1)) x3)).f1.f0) ((zaG x0 (Int.tmod (wrap64 (x25 + 1)) x3)).f1.f1) ((zaG x0 (Int.tmod (wrap64 (x25 + 1)) x3)).f1.f2)).bind fun t395 => ((zdS.f (wrap64 (t395 - x5))).bind fun t396 => (if t395 < 0 then (some false) else (if x5 < 0 then (some false) else ((zbR.f t396 1 7).bind fun t397 => (if t397 = true then (zaX.l0 k x0 x3 (wrap64 (x4 + t396)) t395 x23 x24 (wrap64 (x25 + 1))) else (some false))))))) else (none)) else (none))) else (none)) else (none)) else (some (x4 == 16))
def zaX.f (k : Nat) (l0 : List (S36)) : Option (Bool) := if (l0.length : Int) < 3 then (some false) else (if 0 ≤ (wrap64 ((l0.length : Int) - 1)) then (if (wrap64 ((l0.length : Int) - 1)) < (l0.length : Int) then (if 0 < (l0.length : Int) then ((zbE.f k ((zaG l0 (wrap64 ((l0.length : Int) - 1))).f0.f0) ((zaG l0 (wrap64 ((l0.length : Int) - 1))).f0.f1) ((zaG l0 (wrap64 ((l0.length : Int) - 1))).f0.f2) ((zaG l0 (wrap64 ((l0.length : Int) - 1))).f1.f0) ((zaG l0 (wrap64 ((l0.length : Int) - 1))).f1.f1) ((zaG l0 (wrap64 ((l0.length : Int) - 1))).f1.f2) ((zaG l0 0).f0.f0) ((zaG l0 0).f0.f1) ((zaG l0 0).f0.f2) ((zaG l0 0).f1.f0) ((zaG l0 0).f1.f1) ((zaG l0 0).f1.f2)).bind fun t391 => (zaX.l0 k l0 (l0.length : Int) 0 t391 l0 (l0.length : Int) 0)) else (none)) else (none)) else (none))
theorem zaX.mono_l : ∀ k, (∀ y0 y1 y2 y3 y4 y5 y6, LeO (zaX.l0 k y0 y1 y2 y3 y4 y5 y6) (zaX.l0 (k + 1) y0 y1 y2 y3 y4 y5 y6))
 | 0 => fun _ _ _ _ _ _ _ r h => by simp [zaX.l0] at h
 | k + 1 => by
  have ih0 := zaX.mono_l k
  ·intro y0 y1 y2 y3 y4 y5 y6
   unfold zaX.l0
   repeat' first
   | (with_reducible exact ih0 _ _ _ _ _ _ _)
   | (with_reducible exact zbE.mono _ _ _ _ _ _ _ _ _ _ _ _ _)
   | (with_reducible exact LeO.refl _)
   | (with_reducible exact LeO.none _)
   | (with_reducible refine LeO.ite ?_ ?_)
   | (with_reducible refine LeO.bind ?_ (fun _ => ?_))
   | exact ih0 _ _ _ _ _ _ _
   | exact zbE.mono _ _ _ _ _ _ _ _ _ _ _ _ _
   | exact LeO.none _
   | refine LeO.ite ?_ ?_
   | refine LeO.bind ?_ (fun _ => ?_)
theorem zaX.mono : ∀ a0 k, LeO (zaX.f k a0) (zaX.f (k + 1) a0) := by
 intro a0 k
 have ih0 := zaX.mono_l k
 unfold zaX.f
 repeat' first
   | (with_reducible exact ih0 _ _ _ _ _ _ _)
   | (with_reducible exact zbE.mono _ _ _ _ _ _ _ _ _ _ _ _ _)
   | (with_reducible exact LeO.refl _)
   | (with_reducible exact LeO.none _)
   | (with_reducible refine LeO.ite ?_ ?_)
   | (with_reducible refine LeO.bind ?_ (fun _ => ?_))
   | exact ih0 _ _ _ _ _ _ _
   | exact zbE.mono _ _ _ _ _ _ _ _ _ _ _ _ _
   | exact LeO.none _
   | refine LeO.ite ?_ ?_
   | refine LeO.bind ?_ (fun _ => ?_)
def zaX.T5 : Bool × List (List Nat × List Nat) := (true, [([], []), ([], []), ([1], [1]), ([0, 2], [0, 2]), ([3], [3]), ([], []), ([5], [5]), ([6], [6]), ([4, 7], [4, 7]), ([8, 8, 0, 1, 2, 3, 4, 5, 6, 7, 8], [8])])
def zaX.B5 : List Nat := [0, 0, 2, 7, 15, 0, 32, 96, 255, 511]
theorem zaX.tab5 : rtab .any (opsOf Tryd.f57 5) = zaX.T5 := by kernel_rfl
theorem zaX.bits5 : zeC zaX.T5.2 zaX.B5 = true := by kernel_rfl
def zaX.T9 : Bool × List (List Nat × List Nat) := (true, [([], []), ([], []), ([], []), ([2], [2]), ([], []), ([3, 4], [3, 4]), ([1, 5], [1, 5]), ([6], [6]), ([0, 7], [0, 7]), ([8, 8, 0, 1, 2, 3, 4, 5, 6, 7, 8], [8])])
def zaX.B9 : List Nat := [0, 0, 0, 4, 0, 28, 62, 126, 255, 511]
theorem zaX.tab9 : rtab .any (opsOf Tryd.f57 9) = zaX.T9 := by kernel_rfl
theorem zaX.bits9 : zeC zaX.T9.2 zaX.B9 = true := by kernel_rfl
set_option maxHeartbeats 8000000 in
set_option maxRecDepth 100000 in
theorem zaX.calls (k : Nat) (A0 : Option Addr) (c0 : Nat) (l0 : List (S36)) (r : Bool) (w : World) (hG : LaidV w) (hr0 : Kd.C k36 w A0 l0.length l0) (hc0 : l0.length ≤ c0) (h : zaX.f k l0 = some r) :
  Calls Tryd.prog 57 #[.slice A0 l0.length c0] w fun e w' => e = .returned (.bool r) ∧ Below w.heap.size w w' := by
 have hu36 := Tryd.underlying36
 have HR0 := zaO hr0
 have HC0 := zaO hc0
 clear hr0 hc0
 have HB := zaO (Below.refl w.heap.size w)
 have H : (if (l0.length : Int) < 3 then (some false) else (if 0 ≤ (wrap64 ((l0.length : Int) - 1)) then (if (wrap64 ((l0.length : Int) - 1)) < (l0.length : Int) then (if 0 < (l0.length : Int) then ((zbE.f k ((zaG l0 (wrap64 ((l0.length : Int) - 1))).f0.f0) ((zaG l0 (wrap64 ((l0.length : Int) - 1))).f0.f1) ((zaG l0 (wrap64 ((l0.length : Int) - 1))).f0.f2) ((zaG l0 (wrap64 ((l0.length : Int) - 1))).f1.f0) ((zaG l0 (wrap64 ((l0.length : Int) - 1))).f1.f1) ((zaG l0 (wrap64 ((l0.length : Int) - 1))).f1.f2) ((zaG l0 0).f0.f0) ((zaG l0 0).f0.f1) ((zaG l0 0).f0.f2) ((zaG l0 0).f1.f0) ((zaG l0 0).f1.f1) ((zaG l0 0).f1.f2)).bind fun t391 => (zaX.l0 k l0 (l0.length : Int) 0 t391 l0 (l0.length : Int) 0)) else (none)) else (none)) else (none))) = some r := h
 clear h
 by_cases c2 : (l0.length : Int) < 3
 ·rw [if_pos c2] at H
  have c2b0 : decide ((l0.length : Int) < 3) = true := decide_eq_true c2
  have c2b1 : decide (l0.length < 3) = true := decide_eq_true (by omega)
  clear c2
  obtain rfl := Option.some.inj H
  go_enter Tryd.func57, Tryd.ntmps57
  go_wp2
  go_ret
  exact ⟨by first | rfl | (simp [zaN, zaM] <;> rfl) | (simp [*, zaN, zaM] <;> rfl), by repeat (first | (with_reducible first | exact HB.out | apply zaE | apply zaA | apply zaD) | exact HB.out)⟩
 ·rw [if_neg c2] at H
  have c2b0 : decide ((l0.length : Int) < 3) = false := decide_eq_false c2
  have c2b1 : decide (l0.length < 3) = false := decide_eq_false (by omega)
  clear c2
  obtain ⟨ji3, hji3⟩ : ∃ j_ : Int, (wrap64 ((l0.length : Int) - 1)) = j_ := ⟨_, rfl⟩
  replace H : (if 0 ≤ (ji3) then (if (ji3) < (l0.length : Int) then (if 0 < (l0.length : Int) then ((zbE.f k ((zaG l0 (ji3)).f0.f0) ((zaG l0 (ji3)).f0.f1) ((zaG l0 (ji3)).f0.f2) ((zaG l0 (ji3)).f1.f0) ((zaG l0 (ji3)).f1.f1) ((zaG l0 (ji3)).f1.f2) ((zaG l0 0).f0.f0) ((zaG l0 0).f0.f1) ((zaG l0 0).f0.f2) ((zaG l0 0).f1.f0) ((zaG l0 0).f1.f1) ((zaG l0 0).f1.f2)).bind fun t391 => (zaX.l0 k l0 (l0.length : Int) 0 t391 l0 (l0.length : Int) 0)) else (none)) else (none)) else (none)) = some r := by first | (rw [hji3] at H; exact H) | (simp only [hji3] at H ⊢; exact H)
  have hji3w : (IntKind.i64.wrap ((l0.length : Int) - 1)) = ji3 := (zaT _).trans hji3
  by_cases c4 : 0 ≤ (ji3)
  ·rw [if_pos c4] at H
   have c4b0 : decide (0 ≤ (ji3)) = true := decide_eq_true c4
   clear c4
   by_cases c5 : (ji3) < (l0.length : Int)
   ·rw [if_pos c5] at H
    have c5b0 : decide ((ji3) < (l0.length : Int)) = true := decide_eq_true c5
    clear c5
    by_cases c6 : 0 < (l0.length : Int)
    ·rw [if_pos c6] at H
     have c6b0 : decide (0 < (l0.length : Int)) = true := decide_eq_true c6
     have c6b1 : decide (0 < l0.length) = true := decide_eq_true (by omega)
     clear c6
     replace H := Option.bind_eq_some_iff.mp H
     obtain ⟨t391, A70, H⟩ := H
     replace H : (zaX.l0 k l0 (l0.length : Int) 0 t391 l0 (l0.length : Int) 0) = some r := H
     have A7 := zaO A70
     clear A70
     have H' := zaO H
     clear H
     go_enter Tryd.func57, Tryd.ntmps57
     try go_wp2
     have n0_ := zaO (zaD HB.out)
     clear HB
     have HB := n0_
     clear n0_
     have p389 : 0 ≤ ((ji3) : Int) := of_decide_eq_true (by first | (with_reducible assumption) | assumption)
     have q389 : (ji3) < (l0.length : Int) := of_decide_eq_true (by first | (with_reducible assumption) | assumption)
     obtain ⟨ad389, e389, hx389_0, hx389_1, hx389_2, hx389_3, hx389_4, hx389_5⟩ := zdM HR0.out (ji3) p389 q389
     have hw389_5 := hx389_5
     have hw389_4 := hx389_4
     have hw389_3 := hx389_3
     have hw389_2 := hx389_2
     have hw389_1 := hx389_1
     have hw389_0 := hx389_0
     cases e389
     replace hx389_0 := zbF HB.out hx389_0
     replace hx389_1 := zbF HB.out hx389_1
     replace hx389_2 := zbF HB.out hx389_2
     replace hx389_3 := zbF HB.out hx389_3
     replace hx389_4 := zbF HB.out hx389_4
     replace hx389_5 := zbF HB.out hx389_5
     replace p389 := eq_true p389
     replace q389 := eq_true q389
     have p390 : 0 ≤ (0 : Int) := (by omega)
     have q390 : 0 < (l0.length : Int) := of_decide_eq_true (by first | (with_reducible assumption) | assumption)
     obtain ⟨ad390, e390, hx390_0, hx390_1, hx390_2, hx390_3, hx390_4, hx390_5⟩ := zdM HR0.out 0 p390 q390
     have hw390_5 := hx390_5
     (try rw [show ((0 : Int)).toNat = 0 from rfl] at hw390_5)
     (try rw [show 0 * 6 = 0 from rfl] at hw390_5)
     (try rw [Addr.add_zero'] at hw390_5)
     have hw390_4 := hx390_4
     (try rw [show ((0 : Int)).toNat = 0 from rfl] at hw390_4)
     (try rw [show 0 * 6 = 0 from rfl] at hw390_4)
     (try rw [Addr.add_zero'] at hw390_4)
     have hw390_3 := hx390_3
     (try rw [show ((0 : Int)).toNat = 0 from rfl] at hw390_3)
     (try rw [show 0 * 6 = 0 from rfl] at hw390_3)
     (try rw [Addr.add_zero'] at hw390_3)
     have hw390_2 := hx390_2
     (try rw [show ((0 : Int)).toNat = 0 from rfl] at hw390_2)
     (try rw [show 0 * 6 = 0 from rfl] at hw390_2)
     (try rw [Addr.add_zero'] at hw390_2)
     have hw390_1 := hx390_1
     (try rw [show ((0 : Int)).toNat = 0 from rfl] at hw390_1)
     (try rw [show 0 * 6 = 0 from rfl] at hw390_1)
     (try rw [Addr.add_zero'] at hw390_1)
     have hw390_0 := hx390_0
     (try rw [show ((0 : Int)).toNat = 0 from rfl] at hw390_0)
     (try rw [show 0 * 6 = 0 from rfl] at hw390_0)
     (try rw [Addr.add_zero'] at hw390_0)
     obtain rfl : ad389 = ad390 := (by injection e390)
     have qi390 : (0 < l0.length) = True := eq_true (by omega)
     (try rw [show ((0 : Int)).toNat = 0 from rfl] at hx390_0)
     (try rw [show 0 * 6 = 0 from rfl] at hx390_0)
     (try rw [Addr.add_zero'] at hx390_0)
     (try rw [show ((0 : Int)).toNat = 0 from rfl] at hx390_1)
     (try rw [show 0 * 6 = 0 from rfl] at hx390_1)
     (try rw [Addr.add_zero'] at hx390_1)
     (try rw [show ((0 : Int)).toNat = 0 from rfl] at hx390_2)
     (try rw [show 0 * 6 = 0 from rfl] at hx390_2)
     (try rw [Addr.add_zero'] at hx390_2)
     (try rw [show ((0 : Int)).toNat = 0 from rfl] at hx390_3)
     (try rw [show 0 * 6 = 0 from rfl] at hx390_3)
     (try rw [Addr.add_zero'] at hx390_3)
     (try rw [show ((0 : Int)).toNat = 0 from rfl] at hx390_4)
     (try rw [show 0 * 6 = 0 from rfl] at hx390_4)
     (try rw [Addr.add_zero'] at hx390_4)
     (try rw [show ((0 : Int)).toNat = 0 from rfl] at hx390_5)
     (try rw [show 0 * 6 = 0 from rfl] at hx390_5)
     (try rw [Addr.add_zero'] at hx390_5)
     replace hx390_0 := zbF HB.out hx390_0
     replace hx390_1 := zbF HB.out hx390_1
     replace hx390_2 := zbF HB.out hx390_2
     replace hx390_3 := zbF HB.out hx390_3
     replace hx390_4 := zbF HB.out hx390_4
     replace hx390_5 := zbF HB.out hx390_5
     replace p390 := eq_true p390
     replace q390 := eq_true q390
     refine zdU (n := 10) (S := fun w' => w'.cell? (ad389.add (((ji3)).toNat * 6)) = some (.int .i64 ((zaG l0 (ji3)).f0.f0)) ∧ w'.cell? ⟨(ad389.add (((ji3)).toNat * 6)).block, (ad389.add (((ji3)).toNat * 6)).off + 1, none⟩ = some (.int .i64 ((zaG l0 (ji3)).f0.f1)) ∧ w'.cell? ⟨(ad389.add (((ji3)).toNat * 6)).block, (ad389.add (((ji3)).toNat * 6)).off + 2, none⟩ = some (.int .i64 ((zaG l0 (ji3)).f0.f2)) ∧ w'.cell? ⟨(ad389.add (((ji3)).toNat * 6)).block, (ad389.add (((ji3)).toNat * 6)).off + 3, none⟩ = some (.int .i64 ((zaG l0 (ji3)).f1.f0)) ∧ w'.cell? ⟨(ad389.add (((ji3)).toNat * 6)).block, (ad389.add (((ji3)).toNat * 6)).off + 4, none⟩ = some (.int .i64 ((zaG l0 (ji3)).f1.f1)) ∧ w'.cell? ⟨(ad389.add (((ji3)).toNat * 6)).block, (ad389.add (((ji3)).toNat * 6)).off + 5, none⟩ = some (.int .i64 ((zaG l0 (ji3)).f1.f2)) ∧ w'.cell? ad389 = some (.int .i64 ((zaG l0 0).f0.f0)) ∧ w'.cell? ⟨ad389.block, ad389.off + 1, none⟩ = some (.int .i64 ((zaG l0 0).f0.f1)) ∧ w'.cell? ⟨ad389.block, ad389.off + 2, none⟩ = some (.int .i64 ((zaG l0 0).f0.f2)) ∧ w'.cell? ⟨ad389.block, ad389.off + 3, none⟩ = some (.int .i64 ((zaG l0 0).f1.f0)) ∧ w'.cell? ⟨ad389.block, ad389.off + 4, none⟩ = some (.int .i64 ((zaG l0 0).f1.f1)) ∧ w'.cell? ⟨ad389.block, ad389.off + 5, none⟩ = some (.int .i64 ((zaG l0 0).f1.f2))) (ds := []) #[false, false, false, false, false, false, false, false, false, false] (by kernel_rfl) rfl rfl ⟨(zbF HB.out hw389_0), (zbF HB.out hw389_1), (zbF HB.out hw389_2), (zbF HB.out hw389_3), (zbF HB.out hw389_4), (zbF HB.out hw389_5), (zbF HB.out hw390_0), (zbF HB.out hw390_1), (zbF HB.out hw390_2), (zbF HB.out hw390_3), (zbF HB.out hw390_4), (zbF HB.out hw390_5)⟩ (fun hHeld => ?_); refine zcT zaX.tab5 zaX.bits5 (fun HT_ HW_ => ?_)
     generalize w.drew = w8 at HB hx389_0 hx389_1 hx389_2 hx389_3 hx389_4 hx389_5 hx390_0 hx390_1 hx390_2 hx390_3 hx390_4 hx390_5 hHeld ⊢
     refine zbL (i := 0) (N := some 14) (v := ?_) (a' := ?_) #[true, false, false, false, false, false, false, false, false, false] rfl rfl (zaY HT_.out (by kernel_rfl)) (fun _ _ _ h => h) (Or.inl ⟨by rfl, ?_⟩) ?_ ?_
     rotate_left
     ·intro w'
      go_simp
      with_reducible rfl
     rotate_left
     ·simp only [Act.put, List.setIfInBounds_toArray, List.set_cons_zero, List.set_cons_succ, zaT, zaU]
      rfl
     refine zbL (i := 1) (N := some 15) (v := ?_) (a' := ?_) #[true, true, false, false, false, false, false, false, false, false] rfl rfl (zaY HT_.out (by kernel_rfl)) (fun _ _ _ h => h) (Or.inl ⟨by rfl, ?_⟩) ?_ ?_
     rotate_left
     ·intro w'
      go_simp
      with_reducible rfl
     rotate_left
     ·simp only [Act.put, List.setIfInBounds_toArray, List.set_cons_zero, List.set_cons_succ, zaT, zaU]
      rfl
     refine zbL (i := 2) (N := some 16) (v := ?_) (a' := ?_) #[true, true, true, false, false, false, false, false, false, false] rfl rfl (zaY HT_.out (by kernel_rfl)) (fun _ _ _ h => h) (Or.inl ⟨by rfl, ?_⟩) ?_ ?_
     rotate_left
     ·intro w'
      go_simp
      with_reducible rfl
     rotate_left
     ·simp only [Act.put, List.setIfInBounds_toArray, List.set_cons_zero, List.set_cons_succ, zaT, zaU]
      rfl
     refine zbL (i := 3) (N := some 17) (v := ?_) (a' := ?_) #[true, true, true, true, false, false, false, false, false, false] rfl rfl (zaY HT_.out (by kernel_rfl)) (fun _ _ _ h => h) (Or.inl ⟨by rfl, ?_⟩) ?_ ?_
     rotate_left
     ·intro w'
      go_simp
      with_reducible rfl
     rotate_left
     ·simp only [Act.put, List.setIfInBounds_toArray, List.set_cons_zero, List.set_cons_succ, zaT, zaU]
      rfl
     refine zbL (i := 5) (N := some 19) (v := ?_) (a' := ?_) #[true, true, true, true, false, true, false, false, false, false] rfl rfl (zaY HT_.out (by kernel_rfl)) (fun _ _ _ h => h) (Or.inl ⟨by rfl, ?_⟩) ?_ ?_
     rotate_left
     ·intro w'
      go_simp
      with_reducible rfl
     rotate_left
     ·simp only [Act.put, List.setIfInBounds_toArray, List.set_cons_zero, List.set_cons_succ, zaT, zaU]
      rfl
     refine zbL (i := 6) (N := some 20) (v := ?_) (a' := ?_) #[true, true, true, true, false, true, true, false, false, false] rfl rfl (zaY HT_.out (by kernel_rfl)) (fun _ _ _ h => h) (Or.inl ⟨by rfl, ?_⟩) ?_ ?_
     rotate_left
     ·intro w'
      go_simp
      with_reducible rfl
     rotate_left
     ·simp only [Act.put, List.setIfInBounds_toArray, List.set_cons_zero, List.set_cons_succ, zaT, zaU]
      rfl
     refine take_ (i := 4) (N := some 18) (v := ?_) (a' := ?_) #[true, true, true, true, true, true, true, false, false, false] rfl rfl (zbU HT_.out HW_.out (by kernel_rfl)) (fun _ _ _ h => h) (Or.inl ⟨by rfl, ?_⟩) hHeld ?_ ?_
     rotate_left
     ·rintro w' ⟨s0, s1, s2, s3, s4, s5, s6, s7, s8, s9, s10, s11⟩
      go_simp
      with_reducible rfl
     rotate_left
     ·simp only [Act.put, List.setIfInBounds_toArray, List.set_cons_zero, List.set_cons_succ, zaT, zaU]
      rfl
     refine take_ (i := 7) (N := some 21) (v := ?_) (a' := ?_) #[true, true, true, true, true, true, true, true, false, false] rfl rfl (zbU HT_.out HW_.out (by kernel_rfl)) (fun _ _ _ h => h) (Or.inl ⟨by rfl, ?_⟩) hHeld ?_ ?_
     rotate_left
     ·rintro w' ⟨s0, s1, s2, s3, s4, s5, s6, s7, s8, s9, s10, s11⟩
      go_simp
      with_reducible rfl
     rotate_left
     ·simp only [Act.put, List.setIfInBounds_toArray, List.set_cons_zero, List.set_cons_succ, zaT, zaU]
      rfl
     refine zeX (i := 8) (N := some 22) #[true, true, true, true, true, true, true, true, true, false] rfl rfl (zcU HT_.out (by kernel_rfl)) (by decide) (fun K hK => ?_)
     refine zdI Tryd.func106 (by kernel_rfl) rfl #[.agg #[.int .i64 ((zaG l0 (ji3)).f0.f0), .int .i64 ((zaG l0 (ji3)).f0.f1), .int .i64 ((zaG l0 (ji3)).f0.f2), .int .i64 ((zaG l0 (ji3)).f1.f0), .int .i64 ((zaG l0 (ji3)).f1.f1), .int .i64 ((zaG l0 (ji3)).f1.f2)], .agg #[.int .i64 ((zaG l0 0).f0.f0), .int .i64 ((zaG l0 0).f0.f1), .int .i64 ((zaG l0 0).f0.f2), .int .i64 ((zaG l0 0).f1.f0), .int .i64 ((zaG l0 0).f1.f1), .int .i64 ((zaG l0 0).f1.f2)]] (by rfl) rfl rfl (by (try simp only [List.map_toArray, List.map_cons, List.map_nil]); first | done | (simp only [hji3]; rfl) | rfl | (simp only [List.length_drop, List.length_take]; rfl)) ?_
     with_reducible refine (zbE.calls k ((zaG l0 (ji3)).f0.f0) ((zaG l0 (ji3)).f0.f1) ((zaG l0 (ji3)).f0.f2) ((zaG l0 (ji3)).f1.f0) ((zaG l0 (ji3)).f1.f1) ((zaG l0 (ji3)).f1.f2) ((zaG l0 0).f0.f0) ((zaG l0 0).f0.f1) ((zaG l0 0).f0.f2) ((zaG l0 0).f1.f0) ((zaG l0 0).f1.f1) ((zaG l0 0).f1.f2) t391 _ ?side1 A7.out).mono ?_
     (case side1 => exact LaidV.below hG (by repeat (first | (with_reducible first | exact HB.out | apply zaE | apply zaA | apply zaD) | exact HB.out)))
     rintro e w9 ⟨rfl, hb⟩
     refine ⟨_, rfl, ?_⟩
     have n0_ := zaO (zaK (by repeat (first | (with_reducible first | exact HB.out | apply zaE | apply zaA | apply zaD) | exact HB.out)) hb)
     clear HB
     have HB := n0_
     clear n0_
     (try clear hb)
     (try clear hb2)
     (try clear hk)
     (try clear hi)
     refine hK.out _ _ ⟨(zbF HB.out hw389_0), (zbF HB.out hw389_1), (zbF HB.out hw389_2), (zbF HB.out hw389_3), (zbF HB.out hw389_4), (zbF HB.out hw389_5), (zbF HB.out hw390_0), (zbF HB.out hw390_1), (zbF HB.out hw390_2), (zbF HB.out hw390_3), (zbF HB.out hw390_4), (zbF HB.out hw390_5)⟩ (fun hHeld => ?_)
     clear hK K
     refine zdL (a' := ?_) ?_ ?_
     rotate_left
     ·show Act.put _ (some 22) _ = _
      simp only [Act.put, List.setIfInBounds_toArray, List.set_cons_zero, List.set_cons_succ, zaT, zaU]
      rfl
     refine zbL (i := 9) (N := some 5) (v := ?_) (a' := ?_) #[true, true, true, true, true, true, true, true, true, true] rfl rfl (zaY HT_.out (by kernel_rfl)) (fun _ _ _ h => h) (Or.inl ⟨by rfl, ?_⟩) ?_ ?_
     rotate_left
     ·intro w'
      go_simp
      with_reducible rfl
     rotate_left
     ·simp only [Act.put, List.setIfInBounds_toArray, List.set_cons_zero, List.set_cons_succ, zaT, zaU]
      rfl
     refine done_ (zdJ HT_.out (by kernel_rfl)) ?_
     try go_wp2
     (try go_simp)
     go_loopg [4, 5, 25] k (fun kq v4 v5 v25 w' => ∃ (x4_1 : Int) (x5_1 : Int) (x25_1 : Int), v4 = .int .i64 x4_1 ∧ v5 = .int .i64 x5_1 ∧ v25 = .int .i64 x25_1 ∧ Aside0 (zaX.l0 kq l0 (l0.length : Int) x4_1 x5_1 l0 (l0.length : Int) x25_1 = some r) ∧ Aside0 (kq ≤ k) ∧ Aside0 (Below w.heap.size w w'))
     case atStart => exact ⟨(0), (t391), (0), (by first | rfl | (simp; done) | (simp [*]; done)), (by first | rfl | (simp; done) | (simp [*]; done)), (by first | rfl | (simp; done) | (simp [*]; done)), H', ⟨Nat.le_refl _⟩, ⟨by repeat (first | (with_reducible first | exact HB.out | apply zaE | apply zaA | apply zaD) | exact HB.out)⟩⟩
     case round =>
      clear H'
      try clear c1
      try clear c2
      try clear c2b0
      try clear c2b1
      try clear p2
      try clear p3
      try clear q3
      try clear hx3
      try clear qi3
      try clear c4
      try clear c4b0
      try clear c5
      try clear c5b0
      try clear c6
      try clear c6b0
      try clear c6b1
      try clear p6
      try clear hx389_0
      try clear hx389_1
      try clear hx389_2
      try clear hx389_3
      try clear hx389_4
      try clear hx389_5
      try clear hx390_0
      try clear hx390_1
      try clear hx390_2
      try clear hx390_3
      try clear hx390_4
      try clear hx390_5
      try clear p389
      try clear p390
      try clear q389
      try clear q390
      obtain ⟨x4_1, x5_1, x25_1, rfl, rfl, rfl, HA, HK1, HB⟩ := hrel
      cases gk with
      | zero => exact absurd HA.out (by simp [zaX.l0])
      | succ k1 =>
       have H := HA.out
       clear HA
       simp only [zaX.l0] at H
       by_cases c10 : x25_1 < (l0.length : Int)
       ·rw [if_pos c10] at H
        have c10b0 : decide (x25_1 < (l0.length : Int)) = true := decide_eq_true c10
        clear c10
        by_cases c11 : 0 ≤ x25_1
        ·rw [if_pos c11] at H
         have c11b0 : decide (0 ≤ x25_1) = true := decide_eq_true c11
         clear c11
         by_cases c12 : x25_1 < (l0.length : Int)
         ·rw [if_pos c12] at H
          have c12b0 : decide (x25_1 < (l0.length : Int)) = true := decide_eq_true c12
          clear c12
          by_cases c13 : (l0.length : Int) = 0
          ·rw [if_pos c13] at H
           exact absurd H (by simp)
          ·rw [if_neg c13] at H
           have c13b0 : ((l0.length : Int) == 0) = false := beq_eq_false_iff_ne.mpr c13
           have c13b1 : ((l0.length : Int) != 0) = true := bne_iff_ne.mpr c13
           have c13b2 : ¬ (l0 = []) := fun h_ => c13 (by rw [h_]; rfl)
           obtain ⟨ji14, hji14⟩ : ∃ j_ : Int, (Int.tmod (wrap64 (x25_1 + 1)) (l0.length : Int)) = j_ := ⟨_, rfl⟩
           replace H : (if 0 ≤ (ji14) then (if (ji14) < (l0.length : Int) then ((zbE.f k1 ((zaG l0 x25_1).f0.f0) ((zaG l0 x25_1).f0.f1) ((zaG l0 x25_1).f0.f2) ((zaG l0 x25_1).f1.f0) ((zaG l0 x25_1).f1.f1) ((zaG l0 x25_1).f1.f2) ((zaG l0 (ji14)).f0.f0) ((zaG l0 (ji14)).f0.f1) ((zaG l0 (ji14)).f0.f2) ((zaG l0 (ji14)).f1.f0) ((zaG l0 (ji14)).f1.f1) ((zaG l0 (ji14)).f1.f2)).bind fun t395 => ((zdS.f (wrap64 (t395 - x5_1))).bind fun t396 => (if t395 < 0 then (some false) else (if x5_1 < 0 then (some false) else ((zbR.f t396 1 7).bind fun t397 => (if t397 = true then (zaX.l0 k1 l0 (l0.length : Int) (wrap64 (x4_1 + t396)) t395 l0 (l0.length : Int) (wrap64 (x25_1 + 1))) else (some false))))))) else (none)) else (none)) = some r := by first | (rw [hji14] at H; exact H) | (simp only [hji14] at H ⊢; exact H)
           by_cases c15 : 0 ≤ (ji14)
           ·rw [if_pos c15] at H
            have c15b0 : decide (0 ≤ (ji14)) = true := decide_eq_true c15
            clear c15
            by_cases c16 : (ji14) < (l0.length : Int)
            ·rw [if_pos c16] at H
             have c16b0 : decide ((ji14) < (l0.length : Int)) = true := decide_eq_true c16
             clear c16
             replace H := Option.bind_eq_some_iff.mp H
             obtain ⟨t395, A170, H⟩ := H
             replace H : ((zdS.f (wrap64 (t395 - x5_1))).bind fun t396 => (if t395 < 0 then (some false) else (if x5_1 < 0 then (some false) else ((zbR.f t396 1 7).bind fun t397 => (if t397 = true then (zaX.l0 k1 l0 (l0.length : Int) (wrap64 (x4_1 + t396)) t395 l0 (l0.length : Int) (wrap64 (x25_1 + 1))) else (some false)))))) = some r := H
             have A17 := zaO A170
             clear A170
             replace H := Option.bind_eq_some_iff.mp H
             obtain ⟨t396, A180, H⟩ := H
             replace H : (if t395 < 0 then (some false) else (if x5_1 < 0 then (some false) else ((zbR.f t396 1 7).bind fun t397 => (if t397 = true then (zaX.l0 k1 l0 (l0.length : Int) (wrap64 (x4_1 + t396)) t395 l0 (l0.length : Int) (wrap64 (x25_1 + 1))) else (some false))))) = some r := H
             have A18 := zaO A180
             clear A180
             by_cases c19 : t395 < 0
             ·rw [if_pos c19] at H
              have c19b0 : decide (t395 < 0) = true := decide_eq_true c19
              clear c19
              obtain rfl := Option.some.inj H
              have p392 : 0 ≤ (x25_1 : Int) := of_decide_eq_true (by first | (with_reducible assumption) | assumption)
              have q392 : x25_1 < (l0.length : Int) := of_decide_eq_true (by first | (with_reducible assumption) | assumption)
              obtain ⟨ad392, e392, hx392_0, hx392_1, hx392_2, hx392_3, hx392_4, hx392_5⟩ := zdM HR0.out x25_1 p392 q392
              obtain rfl : ad389 = ad392 := (by injection e392)
              replace hx392_0 := zbF HB.out hx392_0
              replace hx392_1 := zbF HB.out hx392_1
              replace hx392_2 := zbF HB.out hx392_2
              replace hx392_3 := zbF HB.out hx392_3
              replace hx392_4 := zbF HB.out hx392_4
              replace hx392_5 := zbF HB.out hx392_5
              replace p392 := eq_true p392
              replace q392 := eq_true q392
              try go_wp2_with (first | ((with_reducible refine zbC (N := 7) rfl ?_); refine zaW ?hg (N := 7) ?hd (cs := #[.int .i64 0, .int .i64 0, .int .i64 0, .int .i64 0, .int .i64 0, .int .i64 0]) (t := 36) ?hr ?_; (case hd => rfl); (case hg => rfl); (case hr => first | (go_simp; done) | (go_simp; rfl)); intro gb393 hg w20 hbox hb; have n0_ := zaO (zaK (by repeat (first | (with_reducible first | exact HB.out | apply zaE | apply zaA | apply zaD) | exact HB.out)) hb); have n1_ := zaO (hbox); have n2_ := zaO ((by rw [hg]; exact (zaP (by repeat (first | (with_reducible first | exact HB.out | apply zaE | apply zaA | apply zaD) | exact HB.out))) : w.heap.size ≤ gb393)); have n3_ := n2_; clear HB; have HB := n0_; have BK393 := n1_; have GW393 := n2_; have GE393 := n3_; clear n0_ n1_ n2_ n3_; clear hb hbox hg; obtain ⟨hcz21_0, hcz21_1, hcz21_2, hcz21_3, hcz21_4, hcz21_5⟩ := zeV BK393.out; obtain ⟨hfz21_0, hfz21_1, hfz21_2, hfz21_3, hfz21_4, hfz21_5⟩ := zeW BK393.out))
              have n0_ : Aside0 (((((((w20.setCell ⟨gb393, 0, none⟩ (.int .i64 ((zaG l0 x25_1).f0.f0))).setCell ⟨gb393, 1, none⟩ (.int .i64 ((zaG l0 x25_1).f0.f1))).setCell ⟨gb393, 2, none⟩ (.int .i64 ((zaG l0 x25_1).f0.f2))).setCell ⟨gb393, 3, none⟩ (.int .i64 ((zaG l0 x25_1).f1.f0))).setCell ⟨gb393, 4, none⟩ (.int .i64 ((zaG l0 x25_1).f1.f1))).setCell ⟨gb393, 5, none⟩ (.int .i64 ((zaG l0 x25_1).f1.f2))).heap[gb393]? = some (.cells #[.int .i64 ((zaG l0 x25_1).f0.f0), .int .i64 ((zaG l0 x25_1).f0.f1), .int .i64 ((zaG l0 x25_1).f0.f2), .int .i64 ((zaG l0 x25_1).f1.f0), .int .i64 ((zaG l0 x25_1).f1.f1), .int .i64 ((zaG l0 x25_1).f1.f2)] 36 (0, 0))) := ⟨by (with_reducible repeat (first | apply zaC | apply zaF | apply zaB)); refine zaR (cs := #[.int .i64 ((zaG l0 x25_1).f0.f0), .int .i64 ((zaG l0 x25_1).f0.f1), .int .i64 ((zaG l0 x25_1).f0.f2), .int .i64 ((zaG l0 x25_1).f1.f0), .int .i64 ((zaG l0 x25_1).f1.f1), .int .i64 0]) ?_ 5 _ rfl; (with_reducible repeat (first | apply zaC | apply zaF | apply zaB)); refine zaR (cs := #[.int .i64 ((zaG l0 x25_1).f0.f0), .int .i64 ((zaG l0 x25_1).f0.f1), .int .i64 ((zaG l0 x25_1).f0.f2), .int .i64 ((zaG l0 x25_1).f1.f0), .int .i64 0, .int .i64 0]) ?_ 4 _ rfl; (with_reducible repeat (first | apply zaC | apply zaF | apply zaB)); refine zaR (cs := #[.int .i64 ((zaG l0 x25_1).f0.f0), .int .i64 ((zaG l0 x25_1).f0.f1), .int .i64 ((zaG l0 x25_1).f0.f2), .int .i64 0, .int .i64 0, .int .i64 0]) ?_ 3 _ rfl; (with_reducible repeat (first | apply zaC | apply zaF | apply zaB)); refine zaR (cs := #[.int .i64 ((zaG l0 x25_1).f0.f0), .int .i64 ((zaG l0 x25_1).f0.f1), .int .i64 0, .int .i64 0, .int .i64 0, .int .i64 0]) ?_ 2 _ rfl; (with_reducible repeat (first | apply zaC | apply zaF | apply zaB)); refine zaR (cs := #[.int .i64 ((zaG l0 x25_1).f0.f0), .int .i64 0, .int .i64 0, .int .i64 0, .int .i64 0, .int .i64 0]) ?_ 1 _ rfl; (with_reducible repeat (first | apply zaC | apply zaF | apply zaB)); refine zaR (cs := #[.int .i64 0, .int .i64 0, .int .i64 0, .int .i64 0, .int .i64 0, .int .i64 0]) ?_ 0 _ rfl; (with_reducible repeat (first | apply zaC | apply zaF | apply zaB)); exact BK393.out⟩
              have n1_ : Aside0 (Below w.heap.size w ((((((w20.setCell ⟨gb393, 0, none⟩ (.int .i64 ((zaG l0 x25_1).f0.f0))).setCell ⟨gb393, 1, none⟩ (.int .i64 ((zaG l0 x25_1).f0.f1))).setCell ⟨gb393, 2, none⟩ (.int .i64 ((zaG l0 x25_1).f0.f2))).setCell ⟨gb393, 3, none⟩ (.int .i64 ((zaG l0 x25_1).f1.f0))).setCell ⟨gb393, 4, none⟩ (.int .i64 ((zaG l0 x25_1).f1.f1))).setCell ⟨gb393, 5, none⟩ (.int .i64 ((zaG l0 x25_1).f1.f2)))) := ⟨by repeat (first | (with_reducible first | exact HB.out | apply zaE | apply zaA | apply zaD | refine zaH ?_ GE393.out) | exact HB.out)⟩
              (try clear BK393)
              (try clear HB)
              generalize ((((((w20.setCell ⟨gb393, 0, none⟩ (.int .i64 ((zaG l0 x25_1).f0.f0))).setCell ⟨gb393, 1, none⟩ (.int .i64 ((zaG l0 x25_1).f0.f1))).setCell ⟨gb393, 2, none⟩ (.int .i64 ((zaG l0 x25_1).f0.f2))).setCell ⟨gb393, 3, none⟩ (.int .i64 ((zaG l0 x25_1).f1.f0))).setCell ⟨gb393, 4, none⟩ (.int .i64 ((zaG l0 x25_1).f1.f1))).setCell ⟨gb393, 5, none⟩ (.int .i64 ((zaG l0 x25_1).f1.f2))) = w22 at n0_ n1_ ⊢
              have BK393 := n0_
              have HB := n1_
              clear n0_ n1_
              have n0_ := zaO (zaF BK393.out)
              have n1_ := zaO (zaD HB.out)
              clear BK393
              clear HB
              have BK393 := n0_
              have HB := n1_
              clear n0_ n1_
              have p394 : 0 ≤ ((ji14) : Int) := of_decide_eq_true (by first | (with_reducible assumption) | assumption)
              have q394 : (ji14) < (l0.length : Int) := of_decide_eq_true (by first | (with_reducible assumption) | assumption)
              obtain ⟨ad394, e394, hx394_0, hx394_1, hx394_2, hx394_3, hx394_4, hx394_5⟩ := zdM HR0.out (ji14) p394 q394
              have hw394_5 := hx394_5
              have hw394_4 := hx394_4
              have hw394_3 := hx394_3
              have hw394_2 := hx394_2
              have hw394_1 := hx394_1
              have hw394_0 := hx394_0
              obtain rfl : ad389 = ad394 := (by injection e394)
              replace hx394_0 := zbF HB.out hx394_0
              replace hx394_1 := zbF HB.out hx394_1
              replace hx394_2 := zbF HB.out hx394_2
              replace hx394_3 := zbF HB.out hx394_3
              replace hx394_4 := zbF HB.out hx394_4
              replace hx394_5 := zbF HB.out hx394_5
              replace p394 := eq_true p394
              replace q394 := eq_true q394
              refine zdU (n := 10) (S := fun w' => w'.cell? ⟨gb393, 0, none⟩ = some (.int .i64 ((zaG l0 x25_1).f0.f0)) ∧ w'.cell? ⟨gb393, 1, none⟩ = some (.int .i64 ((zaG l0 x25_1).f0.f1)) ∧ w'.cell? ⟨gb393, 2, none⟩ = some (.int .i64 ((zaG l0 x25_1).f0.f2)) ∧ w'.cell? ⟨gb393, 3, none⟩ = some (.int .i64 ((zaG l0 x25_1).f1.f0)) ∧ w'.cell? ⟨gb393, 4, none⟩ = some (.int .i64 ((zaG l0 x25_1).f1.f1)) ∧ w'.cell? ⟨gb393, 5, none⟩ = some (.int .i64 ((zaG l0 x25_1).f1.f2)) ∧ w'.cell? (ad389.add (((ji14)).toNat * 6)) = some (.int .i64 ((zaG l0 (ji14)).f0.f0)) ∧ w'.cell? ⟨(ad389.add (((ji14)).toNat * 6)).block, (ad389.add (((ji14)).toNat * 6)).off + 1, none⟩ = some (.int .i64 ((zaG l0 (ji14)).f0.f1)) ∧ w'.cell? ⟨(ad389.add (((ji14)).toNat * 6)).block, (ad389.add (((ji14)).toNat * 6)).off + 2, none⟩ = some (.int .i64 ((zaG l0 (ji14)).f0.f2)) ∧ w'.cell? ⟨(ad389.add (((ji14)).toNat * 6)).block, (ad389.add (((ji14)).toNat * 6)).off + 3, none⟩ = some (.int .i64 ((zaG l0 (ji14)).f1.f0)) ∧ w'.cell? ⟨(ad389.add (((ji14)).toNat * 6)).block, (ad389.add (((ji14)).toNat * 6)).off + 4, none⟩ = some (.int .i64 ((zaG l0 (ji14)).f1.f1)) ∧ w'.cell? ⟨(ad389.add (((ji14)).toNat * 6)).block, (ad389.add (((ji14)).toNat * 6)).off + 5, none⟩ = some (.int .i64 ((zaG l0 (ji14)).f1.f2))) (ds := []) #[false, false, false, false, false, false, false, false, false, false] (by kernel_rfl) rfl rfl ⟨(zaI BK393.out 0).trans rfl, (zaI BK393.out 1).trans rfl, (zaI BK393.out 2).trans rfl, (zaI BK393.out 3).trans rfl, (zaI BK393.out 4).trans rfl, (zaI BK393.out 5).trans rfl, (zbF HB.out hw394_0), (zbF HB.out hw394_1), (zbF HB.out hw394_2), (zbF HB.out hw394_3), (zbF HB.out hw394_4), (zbF HB.out hw394_5)⟩ (fun hHeld => ?_); refine zcT zaX.tab9 zaX.bits9 (fun HT_ HW_ => ?_)
              generalize w22.drew = w23 at BK393 HB hx394_0 hx394_1 hx394_2 hx394_3 hx394_4 hx394_5 hHeld ⊢
              refine zbL (i := 1) (N := some 31) (v := ?_) (a' := ?_) #[false, true, false, false, false, false, false, false, false, false] rfl rfl (zaY HT_.out (by kernel_rfl)) (fun _ _ _ h => h) (Or.inl ⟨by rfl, ?_⟩) ?_ ?_
              rotate_left
              ·intro w'
               go_simp
               with_reducible rfl
              rotate_left
              ·simp only [Act.put, List.setIfInBounds_toArray, List.set_cons_zero, List.set_cons_succ, zaT, zaU]
               rfl
              refine zbL (i := 2) (N := some 32) (v := ?_) (a' := ?_) #[false, true, true, false, false, false, false, false, false, false] rfl rfl (zaY HT_.out (by kernel_rfl)) (fun _ _ _ h => h) (Or.inl ⟨by rfl, ?_⟩) ?_ ?_
              rotate_left
              ·intro w'
               go_simp
               with_reducible rfl
              rotate_left
              ·simp only [Act.put, List.setIfInBounds_toArray, List.set_cons_zero, List.set_cons_succ, zaT, zaU]
               rfl
              refine zbL (i := 3) (N := some 33) (v := ?_) (a' := ?_) #[false, true, true, true, false, false, false, false, false, false] rfl rfl (zaY HT_.out (by kernel_rfl)) (fun _ _ _ h => h) (Or.inl ⟨by rfl, ?_⟩) ?_ ?_
              rotate_left
              ·intro w'
               go_simp
               with_reducible rfl
              rotate_left
              ·simp only [Act.put, List.setIfInBounds_toArray, List.set_cons_zero, List.set_cons_succ, zaT, zaU]
               rfl
              refine zbL (i := 4) (N := some 34) (v := ?_) (a' := ?_) #[false, true, true, true, true, false, false, false, false, false] rfl rfl (zaY HT_.out (by kernel_rfl)) (fun _ _ _ h => h) (Or.inl ⟨by rfl, ?_⟩) ?_ ?_
              rotate_left
              ·intro w'
               go_simp
               with_reducible rfl
              rotate_left
              ·simp only [Act.put, List.setIfInBounds_toArray, List.set_cons_zero, List.set_cons_succ, zaT, zaU]
               rfl
              refine zbL (i := 5) (N := some 35) (v := ?_) (a' := ?_) #[false, true, true, true, true, true, false, false, false, false] rfl rfl (zaY HT_.out (by kernel_rfl)) (fun _ _ _ h => h) (Or.inl ⟨by rfl, ?_⟩) ?_ ?_
              rotate_left
              ·intro w'
               go_simp
               with_reducible rfl
              rotate_left
              ·simp only [Act.put, List.setIfInBounds_toArray, List.set_cons_zero, List.set_cons_succ, zaT, zaU]
               rfl
              refine zbL (i := 6) (N := some 36) (v := ?_) (a' := ?_) #[false, true, true, true, true, true, true, false, false, false] rfl rfl (zaY HT_.out (by kernel_rfl)) (fun _ _ _ h => h) (Or.inl ⟨by rfl, ?_⟩) ?_ ?_
              rotate_left
              ·intro w'
               go_simp
               with_reducible rfl
              rotate_left
              ·simp only [Act.put, List.setIfInBounds_toArray, List.set_cons_zero, List.set_cons_succ, zaT, zaU]
               rfl
              refine take_ (i := 0) (N := some 30) (v := ?_) (a' := ?_) #[true, true, true, true, true, true, true, false, false, false] rfl rfl (zbU HT_.out HW_.out (by kernel_rfl)) (fun _ _ _ h => h) (Or.inl ⟨by rfl, ?_⟩) hHeld ?_ ?_
              rotate_left
              ·rintro w' ⟨s0, s1, s2, s3, s4, s5, s6, s7, s8, s9, s10, s11⟩
               go_simp
               with_reducible rfl
              rotate_left
              ·simp only [Act.put, List.setIfInBounds_toArray, List.set_cons_zero, List.set_cons_succ, zaT, zaU]
               rfl
              refine take_ (i := 7) (N := some 37) (v := ?_) (a' := ?_) #[true, true, true, true, true, true, true, true, false, false] rfl rfl (zbU HT_.out HW_.out (by kernel_rfl)) (fun _ _ _ h => h) (Or.inl ⟨by rfl, ?_⟩) hHeld ?_ ?_
              rotate_left
              ·rintro w' ⟨s0, s1, s2, s3, s4, s5, s6, s7, s8, s9, s10, s11⟩
               go_simp
               with_reducible rfl
              rotate_left
              ·simp only [Act.put, List.setIfInBounds_toArray, List.set_cons_zero, List.set_cons_succ, zaT, zaU]
               rfl
              refine zeX (i := 8) (N := some 38) #[true, true, true, true, true, true, true, true, true, false] rfl rfl (zcU HT_.out (by kernel_rfl)) (by decide) (fun K hK => ?_)
              refine zdI Tryd.func106 (by kernel_rfl) rfl #[.agg #[.int .i64 ((zaG l0 x25_1).f0.f0), .int .i64 ((zaG l0 x25_1).f0.f1), .int .i64 ((zaG l0 x25_1).f0.f2), .int .i64 ((zaG l0 x25_1).f1.f0), .int .i64 ((zaG l0 x25_1).f1.f1), .int .i64 ((zaG l0 x25_1).f1.f2)], .agg #[.int .i64 ((zaG l0 (ji14)).f0.f0), .int .i64 ((zaG l0 (ji14)).f0.f1), .int .i64 ((zaG l0 (ji14)).f0.f2), .int .i64 ((zaG l0 (ji14)).f1.f0), .int .i64 ((zaG l0 (ji14)).f1.f1), .int .i64 ((zaG l0 (ji14)).f1.f2)]] (by rfl) rfl rfl (by (try simp only [List.map_toArray, List.map_cons, List.map_nil]); first | done | (simp only [hji14]; rfl) | rfl | (simp only [List.length_drop, List.length_take]; rfl)) ?_
              with_reducible refine (zbE.calls k1 ((zaG l0 x25_1).f0.f0) ((zaG l0 x25_1).f0.f1) ((zaG l0 x25_1).f0.f2) ((zaG l0 x25_1).f1.f0) ((zaG l0 x25_1).f1.f1) ((zaG l0 x25_1).f1.f2) ((zaG l0 (ji14)).f0.f0) ((zaG l0 (ji14)).f0.f1) ((zaG l0 (ji14)).f0.f2) ((zaG l0 (ji14)).f1.f0) ((zaG l0 (ji14)).f1.f1) ((zaG l0 (ji14)).f1.f2) t395 _ ?side1 A17.out).mono ?_
              (case side1 => exact LaidV.below hG (by repeat (first | (with_reducible first | exact HB.out | apply zaE | apply zaA | apply zaD | refine zaH ?_ GE393.out) | exact HB.out)))
              rintro e w24 ⟨rfl, hb⟩
              refine ⟨_, rfl, ?_⟩
              have n0_ := zaO (zaL (g := gb393) (o := .cells #[.int .i64 ((zaG l0 x25_1).f0.f0), .int .i64 ((zaG l0 x25_1).f0.f1), .int .i64 ((zaG l0 x25_1).f0.f2), .int .i64 ((zaG l0 x25_1).f1.f0), .int .i64 ((zaG l0 x25_1).f1.f1), .int .i64 ((zaG l0 x25_1).f1.f2)] 36 (0, 0)) (by (with_reducible repeat (first | apply zaC | apply zaF | apply zaB)); exact BK393.out) hb)
              have n1_ := zaO (zaK (by repeat (first | (with_reducible first | exact HB.out | apply zaE | apply zaA | apply zaD | refine zaH ?_ GE393.out) | exact HB.out)) hb)
              clear BK393
              clear HB
              have BK393 := n0_
              have HB := n1_
              clear n0_ n1_
              (try clear hb)
              (try clear hb2)
              (try clear hk)
              (try clear hi)
              refine hK.out _ _ ⟨(zaI BK393.out 0).trans rfl, (zaI BK393.out 1).trans rfl, (zaI BK393.out 2).trans rfl, (zaI BK393.out 3).trans rfl, (zaI BK393.out 4).trans rfl, (zaI BK393.out 5).trans rfl, (zbF HB.out hw394_0), (zbF HB.out hw394_1), (zbF HB.out hw394_2), (zbF HB.out hw394_3), (zbF HB.out hw394_4), (zbF HB.out hw394_5)⟩ (fun hHeld => ?_)
              clear hK K
              refine zdL (a' := ?_) ?_ ?_
              rotate_left
              ·show Act.put _ (some 38) _ = _
               simp only [Act.put, List.setIfInBounds_toArray, List.set_cons_zero, List.set_cons_succ, zaT, zaU]
               rfl
              refine zbL (i := 9) (N := some 8) (v := ?_) (a' := ?_) #[true, true, true, true, true, true, true, true, true, true] rfl rfl (zaY HT_.out (by kernel_rfl)) (fun _ _ _ h => h) (Or.inl ⟨by rfl, ?_⟩) ?_ ?_
              rotate_left
              ·intro w'
               go_simp
               with_reducible rfl
              rotate_left
              ·simp only [Act.put, List.setIfInBounds_toArray, List.set_cons_zero, List.set_cons_succ, zaT, zaU]
               rfl
              refine done_ (zdJ HT_.out (by kernel_rfl)) ?_
              try go_wp2_with (first | ((with_reducible refine zaQ (f := 107) rfl ?_); refine zbV (some 42) rfl rfl Tryd.func107 (by kernel_rfl) rfl #[.int .i64 (wrap64 (t395 - x5_1))] rfl (by (try simp only [List.map_toArray, List.map_cons, List.map_nil]); first | done | rfl | (simp only [List.length_drop, List.length_take]; rfl)) ?_; (with_reducible refine (zdS.calls (wrap64 (t395 - x5_1)) t396 _ A18.out).mono ?_); rintro e w' ⟨rfl, ⟨nd, rfl⟩⟩; refine ⟨_, rfl, ?_⟩))
              go_ret
              exact ⟨by first | rfl | (simp [zaN, zaM] <;> rfl) | (simp only [← hji3, ← hji14]; first | rfl | (simp [zaN, zaM] <;> rfl)) | (simp [*, zaN, zaM] <;> rfl), by repeat (first | (with_reducible first | exact HB.out | apply zaE | apply zaA | apply zaD | refine zaH ?_ GE393.out) | exact HB.out)⟩
             ·rw [if_neg c19] at H
              have c19b0 : decide (t395 < 0) = false := decide_eq_false c19
              clear c19
              by_cases c25 : x5_1 < 0
              ·rw [if_pos c25] at H
               have c25b0 : decide (x5_1 < 0) = true := decide_eq_true c25
               clear c25
               obtain rfl := Option.some.inj H
               have p392 : 0 ≤ (x25_1 : Int) := of_decide_eq_true (by first | (with_reducible assumption) | assumption)
               have q392 : x25_1 < (l0.length : Int) := of_decide_eq_true (by first | (with_reducible assumption) | assumption)
               obtain ⟨ad392, e392, hx392_0, hx392_1, hx392_2, hx392_3, hx392_4, hx392_5⟩ := zdM HR0.out x25_1 p392 q392
               obtain rfl : ad389 = ad392 := (by injection e392)
               replace hx392_0 := zbF HB.out hx392_0
               replace hx392_1 := zbF HB.out hx392_1
               replace hx392_2 := zbF HB.out hx392_2
               replace hx392_3 := zbF HB.out hx392_3
               replace hx392_4 := zbF HB.out hx392_4
               replace hx392_5 := zbF HB.out hx392_5
               replace p392 := eq_true p392
               replace q392 := eq_true q392
               try go_wp2_with (first | ((with_reducible refine zbC (N := 7) rfl ?_); refine zaW ?hg (N := 7) ?hd (cs := #[.int .i64 0, .int .i64 0, .int .i64 0, .int .i64 0, .int .i64 0, .int .i64 0]) (t := 36) ?hr ?_; (case hd => rfl); (case hg => rfl); (case hr => first | (go_simp; done) | (go_simp; rfl)); intro gb393 hg w26 hbox hb; have n0_ := zaO (zaK (by repeat (first | (with_reducible first | exact HB.out | apply zaE | apply zaA | apply zaD) | exact HB.out)) hb); have n1_ := zaO (hbox); have n2_ := zaO ((by rw [hg]; exact (zaP (by repeat (first | (with_reducible first | exact HB.out | apply zaE | apply zaA | apply zaD) | exact HB.out))) : w.heap.size ≤ gb393)); have n3_ := n2_; clear HB; have HB := n0_; have BK393 := n1_; have GW393 := n2_; have GE393 := n3_; clear n0_ n1_ n2_ n3_; clear hb hbox hg; obtain ⟨hcz27_0, hcz27_1, hcz27_2, hcz27_3, hcz27_4, hcz27_5⟩ := zeV BK393.out; obtain ⟨hfz27_0, hfz27_1, hfz27_2, hfz27_3, hfz27_4, hfz27_5⟩ := zeW BK393.out))
               have n0_ : Aside0 (((((((w26.setCell ⟨gb393, 0, none⟩ (.int .i64 ((zaG l0 x25_1).f0.f0))).setCell ⟨gb393, 1, none⟩ (.int .i64 ((zaG l0 x25_1).f0.f1))).setCell ⟨gb393, 2, none⟩ (.int .i64 ((zaG l0 x25_1).f0.f2))).setCell ⟨gb393, 3, none⟩ (.int .i64 ((zaG l0 x25_1).f1.f0))).setCell ⟨gb393, 4, none⟩ (.int .i64 ((zaG l0 x25_1).f1.f1))).setCell ⟨gb393, 5, none⟩ (.int .i64 ((zaG l0 x25_1).f1.f2))).heap[gb393]? = some (.cells #[.int .i64 ((zaG l0 x25_1).f0.f0), .int .i64 ((zaG l0 x25_1).f0.f1), .int .i64 ((zaG l0 x25_1).f0.f2), .int .i64 ((zaG l0 x25_1).f1.f0), .int .i64 ((zaG l0 x25_1).f1.f1), .int .i64 ((zaG l0 x25_1).f1.f2)] 36 (0, 0))) := ⟨by (with_reducible repeat (first | apply zaC | apply zaF | apply zaB)); refine zaR (cs := #[.int .i64 ((zaG l0 x25_1).f0.f0), .int .i64 ((zaG l0 x25_1).f0.f1), .int .i64 ((zaG l0 x25_1).f0.f2), .int .i64 ((zaG l0 x25_1).f1.f0), .int .i64 ((zaG l0 x25_1).f1.f1), .int .i64 0]) ?_ 5 _ rfl; (with_reducible repeat (first | apply zaC | apply zaF | apply zaB)); refine zaR (cs := #[.int .i64 ((zaG l0 x25_1).f0.f0), .int .i64 ((zaG l0 x25_1).f0.f1), .int .i64 ((zaG l0 x25_1).f0.f2), .int .i64 ((zaG l0 x25_1).f1.f0), .int .i64 0, .int .i64 0]) ?_ 4 _ rfl; (with_reducible repeat (first | apply zaC | apply zaF | apply zaB)); refine zaR (cs := #[.int .i64 ((zaG l0 x25_1).f0.f0), .int .i64 ((zaG l0 x25_1).f0.f1), .int .i64 ((zaG l0 x25_1).f0.f2), .int .i64 0, .int .i64 0, .int .i64 0]) ?_ 3 _ rfl; (with_reducible repeat (first | apply zaC | apply zaF | apply zaB)); refine zaR (cs := #[.int .i64 ((zaG l0 x25_1).f0.f0), .int .i64 ((zaG l0 x25_1).f0.f1), .int .i64 0, .int .i64 0, .int .i64 0, .int .i64 0]) ?_ 2 _ rfl; (with_reducible repeat (first | apply zaC | apply zaF | apply zaB)); refine zaR (cs := #[.int .i64 ((zaG l0 x25_1).f0.f0), .int .i64 0, .int .i64 0, .int .i64 0, .int .i64 0, .int .i64 0]) ?_ 1 _ rfl; (with_reducible repeat (first | apply zaC | apply zaF | apply zaB)); refine zaR (cs := #[.int .i64 0, .int .i64 0, .int .i64 0, .int .i64 0, .int .i64 0, .int .i64 0]) ?_ 0 _ rfl; (with_reducible repeat (first | apply zaC | apply zaF | apply zaB)); exact BK393.out⟩
               have n1_ : Aside0 (Below w.heap.size w ((((((w26.setCell ⟨gb393, 0, none⟩ (.int .i64 ((zaG l0 x25_1).f0.f0))).setCell ⟨gb393, 1, none⟩ (.int .i64 ((zaG l0 x25_1).f0.f1))).setCell ⟨gb393, 2, none⟩ (.int .i64 ((zaG l0 x25_1).f0.f2))).setCell ⟨gb393, 3, none⟩ (.int .i64 ((zaG l0 x25_1).f1.f0))).setCell ⟨gb393, 4, none⟩ (.int .i64 ((zaG l0 x25_1).f1.f1))).setCell ⟨gb393, 5, none⟩ (.int .i64 ((zaG l0 x25_1).f1.f2)))) := ⟨by repeat (first | (with_reducible first | exact HB.out | apply zaE | apply zaA | apply zaD | refine zaH ?_ GE393.out) | exact HB.out)⟩
               (try clear BK393)
               (try clear HB)
               generalize ((((((w26.setCell ⟨gb393, 0, none⟩ (.int .i64 ((zaG l0 x25_1).f0.f0))).setCell ⟨gb393, 1, none⟩ (.int .i64 ((zaG l0 x25_1).f0.f1))).setCell ⟨gb393, 2, none⟩ (.int .i64 ((zaG l0 x25_1).f0.f2))).setCell ⟨gb393, 3, none⟩ (.int .i64 ((zaG l0 x25_1).f1.f0))).setCell ⟨gb393, 4, none⟩ (.int .i64 ((zaG l0 x25_1).f1.f1))).setCell ⟨gb393, 5, none⟩ (.int .i64 ((zaG l0 x25_1).f1.f2))) = w28 at n0_ n1_ ⊢
               have BK393 := n0_
               have HB := n1_
               clear n0_ n1_
               have n0_ := zaO (zaF BK393.out)
               have n1_ := zaO (zaD HB.out)
               clear BK393
               clear HB
               have BK393 := n0_
               have HB := n1_
               clear n0_ n1_
               have p394 : 0 ≤ ((ji14) : Int) := of_decide_eq_true (by first | (with_reducible assumption) | assumption)
               have q394 : (ji14) < (l0.length : Int) := of_decide_eq_true (by first | (with_reducible assumption) | assumption)
               obtain ⟨ad394, e394, hx394_0, hx394_1, hx394_2, hx394_3, hx394_4, hx394_5⟩ := zdM HR0.out (ji14) p394 q394
               have hw394_5 := hx394_5
               have hw394_4 := hx394_4
               have hw394_3 := hx394_3
               have hw394_2 := hx394_2
               have hw394_1 := hx394_1
               have hw394_0 := hx394_0
               obtain rfl : ad389 = ad394 := (by injection e394)
               replace hx394_0 := zbF HB.out hx394_0
               replace hx394_1 := zbF HB.out hx394_1
               replace hx394_2 := zbF HB.out hx394_2
               replace hx394_3 := zbF HB.out hx394_3
               replace hx394_4 := zbF HB.out hx394_4
               replace hx394_5 := zbF HB.out hx394_5
               replace p394 := eq_true p394
               replace q394 := eq_true q394
               refine zdU (n := 10) (S := fun w' => w'.cell? ⟨gb393, 0, none⟩ = some (.int .i64 ((zaG l0 x25_1).f0.f0)) ∧ w'.cell? ⟨gb393, 1, none⟩ = some (.int .i64 ((zaG l0 x25_1).f0.f1)) ∧ w'.cell? ⟨gb393, 2, none⟩ = some (.int .i64 ((zaG l0 x25_1).f0.f2)) ∧ w'.cell? ⟨gb393, 3, none⟩ = some (.int .i64 ((zaG l0 x25_1).f1.f0)) ∧ w'.cell? ⟨gb393, 4, none⟩ = some (.int .i64 ((zaG l0 x25_1).f1.f1)) ∧ w'.cell? ⟨gb393, 5, none⟩ = some (.int .i64 ((zaG l0 x25_1).f1.f2)) ∧ w'.cell? (ad389.add (((ji14)).toNat * 6)) = some (.int .i64 ((zaG l0 (ji14)).f0.f0)) ∧ w'.cell? ⟨(ad389.add (((ji14)).toNat * 6)).block, (ad389.add (((ji14)).toNat * 6)).off + 1, none⟩ = some (.int .i64 ((zaG l0 (ji14)).f0.f1)) ∧ w'.cell? ⟨(ad389.add (((ji14)).toNat * 6)).block, (ad389.add (((ji14)).toNat * 6)).off + 2, none⟩ = some (.int .i64 ((zaG l0 (ji14)).f0.f2)) ∧ w'.cell? ⟨(ad389.add (((ji14)).toNat * 6)).block, (ad389.add (((ji14)).toNat * 6)).off + 3, none⟩ = some (.int .i64 ((zaG l0 (ji14)).f1.f0)) ∧ w'.cell? ⟨(ad389.add (((ji14)).toNat * 6)).block, (ad389.add (((ji14)).toNat * 6)).off + 4, none⟩ = some (.int .i64 ((zaG l0 (ji14)).f1.f1)) ∧ w'.cell? ⟨(ad389.add (((ji14)).toNat * 6)).block, (ad389.add (((ji14)).toNat * 6)).off + 5, none⟩ = some (.int .i64 ((zaG l0 (ji14)).f1.f2))) (ds := []) #[false, false, false, false, false, false, false, false, false, false] (by kernel_rfl) rfl rfl ⟨(zaI BK393.out 0).trans rfl, (zaI BK393.out 1).trans rfl, (zaI BK393.out 2).trans rfl, (zaI BK393.out 3).trans rfl, (zaI BK393.out 4).trans rfl, (zaI BK393.out 5).trans rfl, (zbF HB.out hw394_0), (zbF HB.out hw394_1), (zbF HB.out hw394_2), (zbF HB.out hw394_3), (zbF HB.out hw394_4), (zbF HB.out hw394_5)⟩ (fun hHeld => ?_); refine zcT zaX.tab9 zaX.bits9 (fun HT_ HW_ => ?_)
               generalize w28.drew = w29 at BK393 HB hx394_0 hx394_1 hx394_2 hx394_3 hx394_4 hx394_5 hHeld ⊢
               refine zbL (i := 1) (N := some 31) (v := ?_) (a' := ?_) #[false, true, false, false, false, false, false, false, false, false] rfl rfl (zaY HT_.out (by kernel_rfl)) (fun _ _ _ h => h) (Or.inl ⟨by rfl, ?_⟩) ?_ ?_
               rotate_left
               ·intro w'
                go_simp
                with_reducible rfl
               rotate_left
               ·simp only [Act.put, List.setIfInBounds_toArray, List.set_cons_zero, List.set_cons_succ, zaT, zaU]
                rfl
               refine zbL (i := 2) (N := some 32) (v := ?_) (a' := ?_) #[false, true, true, false, false, false, false, false, false, false] rfl rfl (zaY HT_.out (by kernel_rfl)) (fun _ _ _ h => h) (Or.inl ⟨by rfl, ?_⟩) ?_ ?_
               rotate_left
               ·intro w'
                go_simp
                with_reducible rfl
               rotate_left
               ·simp only [Act.put, List.setIfInBounds_toArray, List.set_cons_zero, List.set_cons_succ, zaT, zaU]
                rfl
               refine zbL (i := 3) (N := some 33) (v := ?_) (a' := ?_) #[false, true, true, true, false, false, false, false, false, false] rfl rfl (zaY HT_.out (by kernel_rfl)) (fun _ _ _ h => h) (Or.inl ⟨by rfl, ?_⟩) ?_ ?_
               rotate_left
               ·intro w'
                go_simp
                with_reducible rfl
               rotate_left
               ·simp only [Act.put, List.setIfInBounds_toArray, List.set_cons_zero, List.set_cons_succ, zaT, zaU]
                rfl
               refine zbL (i := 4) (N := some 34) (v := ?_) (a' := ?_) #[false, true, true, true, true, false, false, false, false, false] rfl rfl (zaY HT_.out (by kernel_rfl)) (fun _ _ _ h => h) (Or.inl ⟨by rfl, ?_⟩) ?_ ?_
               rotate_left
               ·intro w'
                go_simp
                with_reducible rfl
               rotate_left
               ·simp only [Act.put, List.setIfInBounds_toArray, List.set_cons_zero, List.set_cons_succ, zaT, zaU]
                rfl
               refine zbL (i := 5) (N := some 35) (v := ?_) (a' := ?_) #[false, true, true, true, true, true, false, false, false, false] rfl rfl (zaY HT_.out (by kernel_rfl)) (fun _ _ _ h => h) (Or.inl ⟨by rfl, ?_⟩) ?_ ?_
               rotate_left
               ·intro w'
                go_simp
                with_reducible rfl
               rotate_left
               ·simp only [Act.put, List.setIfInBounds_toArray, List.set_cons_zero, List.set_cons_succ, zaT, zaU]
                rfl
               refine zbL (i := 6) (N := some 36) (v := ?_) (a' := ?_) #[false, true, true, true, true, true, true, false, false, false] rfl rfl (zaY HT_.out (by kernel_rfl)) (fun _ _ _ h => h) (Or.inl ⟨by rfl, ?_⟩) ?_ ?_
               rotate_left
               ·intro w'
                go_simp
                with_reducible rfl
               rotate_left
               ·simp only [Act.put, List.setIfInBounds_toArray, List.set_cons_zero, List.set_cons_succ, zaT, zaU]
                rfl
               refine take_ (i := 0) (N := some 30) (v := ?_) (a' := ?_) #[true, true, true, true, true, true, true, false, false, false] rfl rfl (zbU HT_.out HW_.out (by kernel_rfl)) (fun _ _ _ h => h) (Or.inl ⟨by rfl, ?_⟩) hHeld ?_ ?_
               rotate_left
               ·rintro w' ⟨s0, s1, s2, s3, s4, s5, s6, s7, s8, s9, s10, s11⟩
                go_simp
                with_reducible rfl
               rotate_left
               ·simp only [Act.put, List.setIfInBounds_toArray, List.set_cons_zero, List.set_cons_succ, zaT, zaU]
                rfl
               refine take_ (i := 7) (N := some 37) (v := ?_) (a' := ?_) #[true, true, true, true, true, true, true, true, false, false] rfl rfl (zbU HT_.out HW_.out (by kernel_rfl)) (fun _ _ _ h => h) (Or.inl ⟨by rfl, ?_⟩) hHeld ?_ ?_
               rotate_left
               ·rintro w' ⟨s0, s1, s2, s3, s4, s5, s6, s7, s8, s9, s10, s11⟩
                go_simp
                with_reducible rfl
               rotate_left
               ·simp only [Act.put, List.setIfInBounds_toArray, List.set_cons_zero, List.set_cons_succ, zaT, zaU]
                rfl
               refine zeX (i := 8) (N := some 38) #[true, true, true, true, true, true, true, true, true, false] rfl rfl (zcU HT_.out (by kernel_rfl)) (by decide) (fun K hK => ?_)
               refine zdI Tryd.func106 (by kernel_rfl) rfl #[.agg #[.int .i64 ((zaG l0 x25_1).f0.f0), .int .i64 ((zaG l0 x25_1).f0.f1), .int .i64 ((zaG l0 x25_1).f0.f2), .int .i64 ((zaG l0 x25_1).f1.f0), .int .i64 ((zaG l0 x25_1).f1.f1), .int .i64 ((zaG l0 x25_1).f1.f2)], .agg #[.int .i64 ((zaG l0 (ji14)).f0.f0), .int .i64 ((zaG l0 (ji14)).f0.f1), .int .i64 ((zaG l0 (ji14)).f0.f2), .int .i64 ((zaG l0 (ji14)).f1.f0), .int .i64 ((zaG l0 (ji14)).f1.f1), .int .i64 ((zaG l0 (ji14)).f1.f2)]] (by rfl) rfl rfl (by (try simp only [List.map_toArray, List.map_cons, List.map_nil]); first | done | (simp only [hji14]; rfl) | rfl | (simp only [List.length_drop, List.length_take]; rfl)) ?_
               with_reducible refine (zbE.calls k1 ((zaG l0 x25_1).f0.f0) ((zaG l0 x25_1).f0.f1) ((zaG l0 x25_1).f0.f2) ((zaG l0 x25_1).f1.f0) ((zaG l0 x25_1).f1.f1) ((zaG l0 x25_1).f1.f2) ((zaG l0 (ji14)).f0.f0) ((zaG l0 (ji14)).f0.f1) ((zaG l0 (ji14)).f0.f2) ((zaG l0 (ji14)).f1.f0) ((zaG l0 (ji14)).f1.f1) ((zaG l0 (ji14)).f1.f2) t395 _ ?side1 A17.out).mono ?_
               (case side1 => exact LaidV.below hG (by repeat (first | (with_reducible first | exact HB.out | apply zaE | apply zaA | apply zaD | refine zaH ?_ GE393.out) | exact HB.out)))
               rintro e w30 ⟨rfl, hb⟩
               refine ⟨_, rfl, ?_⟩
               have n0_ := zaO (zaL (g := gb393) (o := .cells #[.int .i64 ((zaG l0 x25_1).f0.f0), .int .i64 ((zaG l0 x25_1).f0.f1), .int .i64 ((zaG l0 x25_1).f0.f2), .int .i64 ((zaG l0 x25_1).f1.f0), .int .i64 ((zaG l0 x25_1).f1.f1), .int .i64 ((zaG l0 x25_1).f1.f2)] 36 (0, 0)) (by (with_reducible repeat (first | apply zaC | apply zaF | apply zaB)); exact BK393.out) hb)
               have n1_ := zaO (zaK (by repeat (first | (with_reducible first | exact HB.out | apply zaE | apply zaA | apply zaD | refine zaH ?_ GE393.out) | exact HB.out)) hb)
               clear BK393
               clear HB
               have BK393 := n0_
               have HB := n1_
               clear n0_ n1_
               (try clear hb)
               (try clear hb2)
               (try clear hk)
               (try clear hi)
               refine hK.out _ _ ⟨(zaI BK393.out 0).trans rfl, (zaI BK393.out 1).trans rfl, (zaI BK393.out 2).trans rfl, (zaI BK393.out 3).trans rfl, (zaI BK393.out 4).trans rfl, (zaI BK393.out 5).trans rfl, (zbF HB.out hw394_0), (zbF HB.out hw394_1), (zbF HB.out hw394_2), (zbF HB.out hw394_3), (zbF HB.out hw394_4), (zbF HB.out hw394_5)⟩ (fun hHeld => ?_)
               clear hK K
               refine zdL (a' := ?_) ?_ ?_
               rotate_left
               ·show Act.put _ (some 38) _ = _
                simp only [Act.put, List.setIfInBounds_toArray, List.set_cons_zero, List.set_cons_succ, zaT, zaU]
                rfl
               refine zbL (i := 9) (N := some 8) (v := ?_) (a' := ?_) #[true, true, true, true, true, true, true, true, true, true] rfl rfl (zaY HT_.out (by kernel_rfl)) (fun _ _ _ h => h) (Or.inl ⟨by rfl, ?_⟩) ?_ ?_
               rotate_left
               ·intro w'
                go_simp
                with_reducible rfl
               rotate_left
               ·simp only [Act.put, List.setIfInBounds_toArray, List.set_cons_zero, List.set_cons_succ, zaT, zaU]
                rfl
               refine done_ (zdJ HT_.out (by kernel_rfl)) ?_
               try go_wp2_with (first | ((with_reducible refine zaQ (f := 107) rfl ?_); refine zbV (some 42) rfl rfl Tryd.func107 (by kernel_rfl) rfl #[.int .i64 (wrap64 (t395 - x5_1))] rfl (by (try simp only [List.map_toArray, List.map_cons, List.map_nil]); first | done | rfl | (simp only [List.length_drop, List.length_take]; rfl)) ?_; (with_reducible refine (zdS.calls (wrap64 (t395 - x5_1)) t396 _ A18.out).mono ?_); rintro e w' ⟨rfl, ⟨nd, rfl⟩⟩; refine ⟨_, rfl, ?_⟩))
               go_ret
               exact ⟨by first | rfl | (simp [zaN, zaM] <;> rfl) | (simp only [← hji3, ← hji14]; first | rfl | (simp [zaN, zaM] <;> rfl)) | (simp [*, zaN, zaM] <;> rfl), by repeat (first | (with_reducible first | exact HB.out | apply zaE | apply zaA | apply zaD | refine zaH ?_ GE393.out) | exact HB.out)⟩
              ·rw [if_neg c25] at H
               have c25b0 : decide (x5_1 < 0) = false := decide_eq_false c25
               clear c25
               replace H := Option.bind_eq_some_iff.mp H
               obtain ⟨t397, A310, H⟩ := H
               replace H : (if t397 = true then (zaX.l0 k1 l0 (l0.length : Int) (wrap64 (x4_1 + t396)) t395 l0 (l0.length : Int) (wrap64 (x25_1 + 1))) else (some false)) = some r := H
               have A31 := zaO A310
               clear A310
               by_cases c32 : t397 = true
               ·subst c32
                have H1 : (zaX.l0 k1 l0 (l0.length : Int) (wrap64 (x4_1 + t396)) t395 l0 (l0.length : Int) (wrap64 (x25_1 + 1))) = some r := by rw [if_pos rfl] at H; exact H
                clear H
                have H := H1
                clear H1
                have H' := zaO H
                clear H
                have p392 : 0 ≤ (x25_1 : Int) := of_decide_eq_true (by first | (with_reducible assumption) | assumption)
                have q392 : x25_1 < (l0.length : Int) := of_decide_eq_true (by first | (with_reducible assumption) | assumption)
                obtain ⟨ad392, e392, hx392_0, hx392_1, hx392_2, hx392_3, hx392_4, hx392_5⟩ := zdM HR0.out x25_1 p392 q392
                obtain rfl : ad389 = ad392 := (by injection e392)
                replace hx392_0 := zbF HB.out hx392_0
                replace hx392_1 := zbF HB.out hx392_1
                replace hx392_2 := zbF HB.out hx392_2
                replace hx392_3 := zbF HB.out hx392_3
                replace hx392_4 := zbF HB.out hx392_4
                replace hx392_5 := zbF HB.out hx392_5
                replace p392 := eq_true p392
                replace q392 := eq_true q392
                try go_wp2_with (first | ((with_reducible refine zbC (N := 7) rfl ?_); refine zaW ?hg (N := 7) ?hd (cs := #[.int .i64 0, .int .i64 0, .int .i64 0, .int .i64 0, .int .i64 0, .int .i64 0]) (t := 36) ?hr ?_; (case hd => rfl); (case hg => rfl); (case hr => first | (go_simp; done) | (go_simp; rfl)); intro gb393 hg w33 hbox hb; have n0_ := zaO (zaK (by repeat (first | (with_reducible first | exact HB.out | apply zaE | apply zaA | apply zaD) | exact HB.out)) hb); have n1_ := zaO (hbox); have n2_ := zaO ((by rw [hg]; exact (zaP (by repeat (first | (with_reducible first | exact HB.out | apply zaE | apply zaA | apply zaD) | exact HB.out))) : w.heap.size ≤ gb393)); have n3_ := n2_; clear HB; have HB := n0_; have BK393 := n1_; have GW393 := n2_; have GE393 := n3_; clear n0_ n1_ n2_ n3_; clear hb hbox hg; obtain ⟨hcz34_0, hcz34_1, hcz34_2, hcz34_3, hcz34_4, hcz34_5⟩ := zeV BK393.out; obtain ⟨hfz34_0, hfz34_1, hfz34_2, hfz34_3, hfz34_4, hfz34_5⟩ := zeW BK393.out))
                have n0_ : Aside0 (((((((w33.setCell ⟨gb393, 0, none⟩ (.int .i64 ((zaG l0 x25_1).f0.f0))).setCell ⟨gb393, 1, none⟩ (.int .i64 ((zaG l0 x25_1).f0.f1))).setCell ⟨gb393, 2, none⟩ (.int .i64 ((zaG l0 x25_1).f0.f2))).setCell ⟨gb393, 3, none⟩ (.int .i64 ((zaG l0 x25_1).f1.f0))).setCell ⟨gb393, 4, none⟩ (.int .i64 ((zaG l0 x25_1).f1.f1))).setCell ⟨gb393, 5, none⟩ (.int .i64 ((zaG l0 x25_1).f1.f2))).heap[gb393]? = some (.cells #[.int .i64 ((zaG l0 x25_1).f0.f0), .int .i64 ((zaG l0 x25_1).f0.f1), .int .i64 ((zaG l0 x25_1).f0.f2), .int .i64 ((zaG l0 x25_1).f1.f0), .int .i64 ((zaG l0 x25_1).f1.f1), .int .i64 ((zaG l0 x25_1).f1.f2)] 36 (0, 0))) := ⟨by (with_reducible repeat (first | apply zaC | apply zaF | apply zaB)); refine zaR (cs := #[.int .i64 ((zaG l0 x25_1).f0.f0), .int .i64 ((zaG l0 x25_1).f0.f1), .int .i64 ((zaG l0 x25_1).f0.f2), .int .i64 ((zaG l0 x25_1).f1.f0), .int .i64 ((zaG l0 x25_1).f1.f1), .int .i64 0]) ?_ 5 _ rfl; (with_reducible repeat (first | apply zaC | apply zaF | apply zaB)); refine zaR (cs := #[.int .i64 ((zaG l0 x25_1).f0.f0), .int .i64 ((zaG l0 x25_1).f0.f1), .int .i64 ((zaG l0 x25_1).f0.f2), .int .i64 ((zaG l0 x25_1).f1.f0), .int .i64 0, .int .i64 0]) ?_ 4 _ rfl; (with_reducible repeat (first | apply zaC | apply zaF | apply zaB)); refine zaR (cs := #[.int .i64 ((zaG l0 x25_1).f0.f0), .int .i64 ((zaG l0 x25_1).f0.f1), .int .i64 ((zaG l0 x25_1).f0.f2), .int .i64 0, .int .i64 0, .int .i64 0]) ?_ 3 _ rfl; (with_reducible repeat (first | apply zaC | apply zaF | apply zaB)); refine zaR (cs := #[.int .i64 ((zaG l0 x25_1).f0.f0), .int .i64 ((zaG l0 x25_1).f0.f1), .int .i64 0, .int .i64 0, .int .i64 0, .int .i64 0]) ?_ 2 _ rfl; (with_reducible repeat (first | apply zaC | apply zaF | apply zaB)); refine zaR (cs := #[.int .i64 ((zaG l0 x25_1).f0.f0), .int .i64 0, .int .i64 0, .int .i64 0, .int .i64 0, .int .i64 0]) ?_ 1 _ rfl; (with_reducible repeat (first | apply zaC | apply zaF | apply zaB)); refine zaR (cs := #[.int .i64 0, .int .i64 0, .int .i64 0, .int .i64 0, .int .i64 0, .int .i64 0]) ?_ 0 _ rfl; (with_reducible repeat (first | apply zaC | apply zaF | apply zaB)); exact BK393.out⟩
                have n1_ : Aside0 (Below w.heap.size w ((((((w33.setCell ⟨gb393, 0, none⟩ (.int .i64 ((zaG l0 x25_1).f0.f0))).setCell ⟨gb393, 1, none⟩ (.int .i64 ((zaG l0 x25_1).f0.f1))).setCell ⟨gb393, 2, none⟩ (.int .i64 ((zaG l0 x25_1).f0.f2))).setCell ⟨gb393, 3, none⟩ (.int .i64 ((zaG l0 x25_1).f1.f0))).setCell ⟨gb393, 4, none⟩ (.int .i64 ((zaG l0 x25_1).f1.f1))).setCell ⟨gb393, 5, none⟩ (.int .i64 ((zaG l0 x25_1).f1.f2)))) := ⟨by repeat (first | (with_reducible first | exact HB.out | apply zaE | apply zaA | apply zaD | refine zaH ?_ GE393.out) | exact HB.out)⟩
                (try clear BK393)
                (try clear HB)
                generalize ((((((w33.setCell ⟨gb393, 0, none⟩ (.int .i64 ((zaG l0 x25_1).f0.f0))).setCell ⟨gb393, 1, none⟩ (.int .i64 ((zaG l0 x25_1).f0.f1))).setCell ⟨gb393, 2, none⟩ (.int .i64 ((zaG l0 x25_1).f0.f2))).setCell ⟨gb393, 3, none⟩ (.int .i64 ((zaG l0 x25_1).f1.f0))).setCell ⟨gb393, 4, none⟩ (.int .i64 ((zaG l0 x25_1).f1.f1))).setCell ⟨gb393, 5, none⟩ (.int .i64 ((zaG l0 x25_1).f1.f2))) = w35 at n0_ n1_ ⊢
                have BK393 := n0_
                have HB := n1_
                clear n0_ n1_
                have n0_ := zaO (zaF BK393.out)
                have n1_ := zaO (zaD HB.out)
                clear BK393
                clear HB
                have BK393 := n0_
                have HB := n1_
                clear n0_ n1_
                have p394 : 0 ≤ ((ji14) : Int) := of_decide_eq_true (by first | (with_reducible assumption) | assumption)
                have q394 : (ji14) < (l0.length : Int) := of_decide_eq_true (by first | (with_reducible assumption) | assumption)
                obtain ⟨ad394, e394, hx394_0, hx394_1, hx394_2, hx394_3, hx394_4, hx394_5⟩ := zdM HR0.out (ji14) p394 q394
                have hw394_5 := hx394_5
                have hw394_4 := hx394_4
                have hw394_3 := hx394_3
                have hw394_2 := hx394_2
                have hw394_1 := hx394_1
                have hw394_0 := hx394_0
                obtain rfl : ad389 = ad394 := (by injection e394)
                replace hx394_0 := zbF HB.out hx394_0
                replace hx394_1 := zbF HB.out hx394_1
                replace hx394_2 := zbF HB.out hx394_2
                replace hx394_3 := zbF HB.out hx394_3
                replace hx394_4 := zbF HB.out hx394_4
                replace hx394_5 := zbF HB.out hx394_5
                replace p394 := eq_true p394
                replace q394 := eq_true q394
                refine zdU (n := 10) (S := fun w' => w'.cell? ⟨gb393, 0, none⟩ = some (.int .i64 ((zaG l0 x25_1).f0.f0)) ∧ w'.cell? ⟨gb393, 1, none⟩ = some (.int .i64 ((zaG l0 x25_1).f0.f1)) ∧ w'.cell? ⟨gb393, 2, none⟩ = some (.int .i64 ((zaG l0 x25_1).f0.f2)) ∧ w'.cell? ⟨gb393, 3, none⟩ = some (.int .i64 ((zaG l0 x25_1).f1.f0)) ∧ w'.cell? ⟨gb393, 4, none⟩ = some (.int .i64 ((zaG l0 x25_1).f1.f1)) ∧ w'.cell? ⟨gb393, 5, none⟩ = some (.int .i64 ((zaG l0 x25_1).f1.f2)) ∧ w'.cell? (ad389.add (((ji14)).toNat * 6)) = some (.int .i64 ((zaG l0 (ji14)).f0.f0)) ∧ w'.cell? ⟨(ad389.add (((ji14)).toNat * 6)).block, (ad389.add (((ji14)).toNat * 6)).off + 1, none⟩ = some (.int .i64 ((zaG l0 (ji14)).f0.f1)) ∧ w'.cell? ⟨(ad389.add (((ji14)).toNat * 6)).block, (ad389.add (((ji14)).toNat * 6)).off + 2, none⟩ = some (.int .i64 ((zaG l0 (ji14)).f0.f2)) ∧ w'.cell? ⟨(ad389.add (((ji14)).toNat * 6)).block, (ad389.add (((ji14)).toNat * 6)).off + 3, none⟩ = some (.int .i64 ((zaG l0 (ji14)).f1.f0)) ∧ w'.cell? ⟨(ad389.add (((ji14)).toNat * 6)).block, (ad389.add (((ji14)).toNat * 6)).off + 4, none⟩ = some (.int .i64 ((zaG l0 (ji14)).f1.f1)) ∧ w'.cell? ⟨(ad389.add (((ji14)).toNat * 6)).block, (ad389.add (((ji14)).toNat * 6)).off + 5, none⟩ = some (.int .i64 ((zaG l0 (ji14)).f1.f2))) (ds := []) #[false, false, false, false, false, false, false, false, false, false] (by kernel_rfl) rfl rfl ⟨(zaI BK393.out 0).trans rfl, (zaI BK393.out 1).trans rfl, (zaI BK393.out 2).trans rfl, (zaI BK393.out 3).trans rfl, (zaI BK393.out 4).trans rfl, (zaI BK393.out 5).trans rfl, (zbF HB.out hw394_0), (zbF HB.out hw394_1), (zbF HB.out hw394_2), (zbF HB.out hw394_3), (zbF HB.out hw394_4), (zbF HB.out hw394_5)⟩ (fun hHeld => ?_); refine zcT zaX.tab9 zaX.bits9 (fun HT_ HW_ => ?_)
                generalize w35.drew = w36 at BK393 HB hx394_0 hx394_1 hx394_2 hx394_3 hx394_4 hx394_5 hHeld ⊢
                refine zbL (i := 1) (N := some 31) (v := ?_) (a' := ?_) #[false, true, false, false, false, false, false, false, false, false] rfl rfl (zaY HT_.out (by kernel_rfl)) (fun _ _ _ h => h) (Or.inl ⟨by rfl, ?_⟩) ?_ ?_
                rotate_left
                ·intro w'
                 go_simp
                 with_reducible rfl
                rotate_left
                ·simp only [Act.put, List.setIfInBounds_toArray, List.set_cons_zero, List.set_cons_succ, zaT, zaU]
                 rfl
                refine zbL (i := 2) (N := some 32) (v := ?_) (a' := ?_) #[false, true, true, false, false, false, false, false, false, false] rfl rfl (zaY HT_.out (by kernel_rfl)) (fun _ _ _ h => h) (Or.inl ⟨by rfl, ?_⟩) ?_ ?_
                rotate_left
                ·intro w'
                 go_simp
                 with_reducible rfl
                rotate_left
                ·simp only [Act.put, List.setIfInBounds_toArray, List.set_cons_zero, List.set_cons_succ, zaT, zaU]
                 rfl
                refine zbL (i := 3) (N := some 33) (v := ?_) (a' := ?_) #[false, true, true, true, false, false, false, false, false, false] rfl rfl (zaY HT_.out (by kernel_rfl)) (fun _ _ _ h => h) (Or.inl ⟨by rfl, ?_⟩) ?_ ?_
                rotate_left
                ·intro w'
                 go_simp
                 with_reducible rfl
                rotate_left
                ·simp only [Act.put, List.setIfInBounds_toArray, List.set_cons_zero, List.set_cons_succ, zaT, zaU]
                 rfl
                refine zbL (i := 4) (N := some 34) (v := ?_) (a' := ?_) #[false, true, true, true, true, false, false, false, false, false] rfl rfl (zaY HT_.out (by kernel_rfl)) (fun _ _ _ h => h) (Or.inl ⟨by rfl, ?_⟩) ?_ ?_
                rotate_left
                ·intro w'
                 go_simp
                 with_reducible rfl
                rotate_left
                ·simp only [Act.put, List.setIfInBounds_toArray, List.set_cons_zero, List.set_cons_succ, zaT, zaU]
                 rfl
                refine zbL (i := 5) (N := some 35) (v := ?_) (a' := ?_) #[false, true, true, true, true, true, false, false, false, false] rfl rfl (zaY HT_.out (by kernel_rfl)) (fun _ _ _ h => h) (Or.inl ⟨by rfl, ?_⟩) ?_ ?_
                rotate_left
                ·intro w'
                 go_simp
                 with_reducible rfl
                rotate_left
                ·simp only [Act.put, List.setIfInBounds_toArray, List.set_cons_zero, List.set_cons_succ, zaT, zaU]
                 rfl
                refine zbL (i := 6) (N := some 36) (v := ?_) (a' := ?_) #[false, true, true, true, true, true, true, false, false, false] rfl rfl (zaY HT_.out (by kernel_rfl)) (fun _ _ _ h => h) (Or.inl ⟨by rfl, ?_⟩) ?_ ?_
                rotate_left
                ·intro w'
                 go_simp
                 with_reducible rfl
                rotate_left
                ·simp only [Act.put, List.setIfInBounds_toArray, List.set_cons_zero, List.set_cons_succ, zaT, zaU]
                 rfl
                refine take_ (i := 0) (N := some 30) (v := ?_) (a' := ?_) #[true, true, true, true, true, true, true, false, false, false] rfl rfl (zbU HT_.out HW_.out (by kernel_rfl)) (fun _ _ _ h => h) (Or.inl ⟨by rfl, ?_⟩) hHeld ?_ ?_
                rotate_left
                ·rintro w' ⟨s0, s1, s2, s3, s4, s5, s6, s7, s8, s9, s10, s11⟩
                 go_simp
                 with_reducible rfl
                rotate_left
                ·simp only [Act.put, List.setIfInBounds_toArray, List.set_cons_zero, List.set_cons_succ, zaT, zaU]
                 rfl
                refine take_ (i := 7) (N := some 37) (v := ?_) (a' := ?_) #[true, true, true, true, true, true, true, true, false, false] rfl rfl (zbU HT_.out HW_.out (by kernel_rfl)) (fun _ _ _ h => h) (Or.inl ⟨by rfl, ?_⟩) hHeld ?_ ?_
                rotate_left
                ·rintro w' ⟨s0, s1, s2, s3, s4, s5, s6, s7, s8, s9, s10, s11⟩
                 go_simp
                 with_reducible rfl
                rotate_left
                ·simp only [Act.put, List.setIfInBounds_toArray, List.set_cons_zero, List.set_cons_succ, zaT, zaU]
                 rfl
                refine zeX (i := 8) (N := some 38) #[true, true, true, true, true, true, true, true, true, false] rfl rfl (zcU HT_.out (by kernel_rfl)) (by decide) (fun K hK => ?_)
                refine zdI Tryd.func106 (by kernel_rfl) rfl #[.agg #[.int .i64 ((zaG l0 x25_1).f0.f0), .int .i64 ((zaG l0 x25_1).f0.f1), .int .i64 ((zaG l0 x25_1).f0.f2), .int .i64 ((zaG l0 x25_1).f1.f0), .int .i64 ((zaG l0 x25_1).f1.f1), .int .i64 ((zaG l0 x25_1).f1.f2)], .agg #[.int .i64 ((zaG l0 (ji14)).f0.f0), .int .i64 ((zaG l0 (ji14)).f0.f1), .int .i64 ((zaG l0 (ji14)).f0.f2), .int .i64 ((zaG l0 (ji14)).f1.f0), .int .i64 ((zaG l0 (ji14)).f1.f1), .int .i64 ((zaG l0 (ji14)).f1.f2)]] (by rfl) rfl rfl (by (try simp only [List.map_toArray, List.map_cons, List.map_nil]); first | done | (simp only [hji14]; rfl) | rfl | (simp only [List.length_drop, List.length_take]; rfl)) ?_
                with_reducible refine (zbE.calls k1 ((zaG l0 x25_1).f0.f0) ((zaG l0 x25_1).f0.f1) ((zaG l0 x25_1).f0.f2) ((zaG l0 x25_1).f1.f0) ((zaG l0 x25_1).f1.f1) ((zaG l0 x25_1).f1.f2) ((zaG l0 (ji14)).f0.f0) ((zaG l0 (ji14)).f0.f1) ((zaG l0 (ji14)).f0.f2) ((zaG l0 (ji14)).f1.f0) ((zaG l0 (ji14)).f1.f1) ((zaG l0 (ji14)).f1.f2) t395 _ ?side1 A17.out).mono ?_
                (case side1 => exact LaidV.below hG (by repeat (first | (with_reducible first | exact HB.out | apply zaE | apply zaA | apply zaD | refine zaH ?_ GE393.out) | exact HB.out)))
                rintro e w37 ⟨rfl, hb⟩
                refine ⟨_, rfl, ?_⟩
                have n0_ := zaO (zaL (g := gb393) (o := .cells #[.int .i64 ((zaG l0 x25_1).f0.f0), .int .i64 ((zaG l0 x25_1).f0.f1), .int .i64 ((zaG l0 x25_1).f0.f2), .int .i64 ((zaG l0 x25_1).f1.f0), .int .i64 ((zaG l0 x25_1).f1.f1), .int .i64 ((zaG l0 x25_1).f1.f2)] 36 (0, 0)) (by (with_reducible repeat (first | apply zaC | apply zaF | apply zaB)); exact BK393.out) hb)
                have n1_ := zaO (zaK (by repeat (first | (with_reducible first | exact HB.out | apply zaE | apply zaA | apply zaD | refine zaH ?_ GE393.out) | exact HB.out)) hb)
                clear BK393
                clear HB
                have BK393 := n0_
                have HB := n1_
                clear n0_ n1_
                (try clear hb)
                (try clear hb2)
                (try clear hk)
                (try clear hi)
                refine hK.out _ _ ⟨(zaI BK393.out 0).trans rfl, (zaI BK393.out 1).trans rfl, (zaI BK393.out 2).trans rfl, (zaI BK393.out 3).trans rfl, (zaI BK393.out 4).trans rfl, (zaI BK393.out 5).trans rfl, (zbF HB.out hw394_0), (zbF HB.out hw394_1), (zbF HB.out hw394_2), (zbF HB.out hw394_3), (zbF HB.out hw394_4), (zbF HB.out hw394_5)⟩ (fun hHeld => ?_)
                clear hK K
                refine zdL (a' := ?_) ?_ ?_
                rotate_left
                ·show Act.put _ (some 38) _ = _
                 simp only [Act.put, List.setIfInBounds_toArray, List.set_cons_zero, List.set_cons_succ, zaT, zaU]
                 rfl
                refine zbL (i := 9) (N := some 8) (v := ?_) (a' := ?_) #[true, true, true, true, true, true, true, true, true, true] rfl rfl (zaY HT_.out (by kernel_rfl)) (fun _ _ _ h => h) (Or.inl ⟨by rfl, ?_⟩) ?_ ?_
                rotate_left
                ·intro w'
                 go_simp
                 with_reducible rfl
                rotate_left
                ·simp only [Act.put, List.setIfInBounds_toArray, List.set_cons_zero, List.set_cons_succ, zaT, zaU]
                 rfl
                refine done_ (zdJ HT_.out (by kernel_rfl)) ?_
                try go_wp2_with (first | ((with_reducible refine zaQ (f := 107) rfl ?_); refine zbV (some 42) rfl rfl Tryd.func107 (by kernel_rfl) rfl #[.int .i64 (wrap64 (t395 - x5_1))] rfl (by (try simp only [List.map_toArray, List.map_cons, List.map_nil]); first | done | rfl | (simp only [List.length_drop, List.length_take]; rfl)) ?_; (with_reducible refine (zdS.calls (wrap64 (t395 - x5_1)) t396 _ A18.out).mono ?_); rintro e w' ⟨rfl, ⟨nd, rfl⟩⟩; refine ⟨_, rfl, ?_⟩) | (go_at_call 54; (with_reducible refine (zbR.calls t396 1 7 true _ A31.out).mono ?_); rintro e w' ⟨rfl, ⟨nd, rfl⟩⟩))
                go_roundg k1
                case measure => have := HK1.out; omega
                case rel => exact ⟨(wrap64 (x4_1 + t396)), (t395), (wrap64 (x25_1 + 1)), (by first | rfl | (simp; done) | (simp [*]; done)), (by first | rfl | (simp; done) | (simp [*]; done)), (by first | rfl | (simp; done) | (simp [*]; done)), H', ⟨by have := HK1.out; omega⟩, ⟨by repeat (first | (with_reducible first | exact HB.out | apply zaE | apply zaA | apply zaD | refine zaH ?_ GE393.out) | exact HB.out)⟩⟩
               ·replace c32 := Bool.eq_false_iff.mpr c32
                subst c32
                have H1 : (some false) = some r := by rw [if_neg (show ¬ (false = true) by decide)] at H; exact H
                clear H
                have H := H1
                clear H1
                obtain rfl := Option.some.inj H
                have p392 : 0 ≤ (x25_1 : Int) := of_decide_eq_true (by first | (with_reducible assumption) | assumption)
                have q392 : x25_1 < (l0.length : Int) := of_decide_eq_true (by first | (with_reducible assumption) | assumption)
                obtain ⟨ad392, e392, hx392_0, hx392_1, hx392_2, hx392_3, hx392_4, hx392_5⟩ := zdM HR0.out x25_1 p392 q392
                obtain rfl : ad389 = ad392 := (by injection e392)
                replace hx392_0 := zbF HB.out hx392_0
                replace hx392_1 := zbF HB.out hx392_1
                replace hx392_2 := zbF HB.out hx392_2
                replace hx392_3 := zbF HB.out hx392_3
                replace hx392_4 := zbF HB.out hx392_4
                replace hx392_5 := zbF HB.out hx392_5
                replace p392 := eq_true p392
                replace q392 := eq_true q392
                try go_wp2_with (first | ((with_reducible refine zbC (N := 7) rfl ?_); refine zaW ?hg (N := 7) ?hd (cs := #[.int .i64 0, .int .i64 0, .int .i64 0, .int .i64 0, .int .i64 0, .int .i64 0]) (t := 36) ?hr ?_; (case hd => rfl); (case hg => rfl); (case hr => first | (go_simp; done) | (go_simp; rfl)); intro gb393 hg w38 hbox hb; have n0_ := zaO (zaK (by repeat (first | (with_reducible first | exact HB.out | apply zaE | apply zaA | apply zaD) | exact HB.out)) hb); have n1_ := zaO (hbox); have n2_ := zaO ((by rw [hg]; exact (zaP (by repeat (first | (with_reducible first | exact HB.out | apply zaE | apply zaA | apply zaD) | exact HB.out))) : w.heap.size ≤ gb393)); have n3_ := n2_; clear HB; have HB := n0_; have BK393 := n1_; have GW393 := n2_; have GE393 := n3_; clear n0_ n1_ n2_ n3_; clear hb hbox hg; obtain ⟨hcz39_0, hcz39_1, hcz39_2, hcz39_3, hcz39_4, hcz39_5⟩ := zeV BK393.out; obtain ⟨hfz39_0, hfz39_1, hfz39_2, hfz39_3, hfz39_4, hfz39_5⟩ := zeW BK393.out))
                have n0_ : Aside0 (((((((w38.setCell ⟨gb393, 0, none⟩ (.int .i64 ((zaG l0 x25_1).f0.f0))).setCell ⟨gb393, 1, none⟩ (.int .i64 ((zaG l0 x25_1).f0.f1))).setCell ⟨gb393, 2, none⟩ (.int .i64 ((zaG l0 x25_1).f0.f2))).setCell ⟨gb393, 3, none⟩ (.int .i64 ((zaG l0 x25_1).f1.f0))).setCell ⟨gb393, 4, none⟩ (.int .i64 ((zaG l0 x25_1).f1.f1))).setCell ⟨gb393, 5, none⟩ (.int .i64 ((zaG l0 x25_1).f1.f2))).heap[gb393]? = some (.cells #[.int .i64 ((zaG l0 x25_1).f0.f0), .int .i64 ((zaG l0 x25_1).f0.f1), .int .i64 ((zaG l0 x25_1).f0.f2), .int .i64 ((zaG l0 x25_1).f1.f0), .int .i64 ((zaG l0 x25_1).f1.f1), .int .i64 ((zaG l0 x25_1).f1.f2)] 36 (0, 0))) := ⟨by (with_reducible repeat (first | apply zaC | apply zaF | apply zaB)); refine zaR (cs := #[.int .i64 ((zaG l0 x25_1).f0.f0), .int .i64 ((zaG l0 x25_1).f0.f1), .int .i64 ((zaG l0 x25_1).f0.f2), .int .i64 ((zaG l0 x25_1).f1.f0), .int .i64 ((zaG l0 x25_1).f1.f1), .int .i64 0]) ?_ 5 _ rfl; (with_reducible repeat (first | apply zaC | apply zaF | apply zaB)); refine zaR (cs := #[.int .i64 ((zaG l0 x25_1).f0.f0), .int .i64 ((zaG l0 x25_1).f0.f1), .int .i64 ((zaG l0 x25_1).f0.f2), .int .i64 ((zaG l0 x25_1).f1.f0), .int .i64 0, .int .i64 0]) ?_ 4 _ rfl; (with_reducible repeat (first | apply zaC | apply zaF | apply zaB)); refine zaR (cs := #[.int .i64 ((zaG l0 x25_1).f0.f0), .int .i64 ((zaG l0 x25_1).f0.f1), .int .i64 ((zaG l0 x25_1).f0.f2), .int .i64 0, .int .i64 0, .int .i64 0]) ?_ 3 _ rfl; (with_reducible repeat (first | apply zaC | apply zaF | apply zaB)); refine zaR (cs := #[.int .i64 ((zaG l0 x25_1).f0.f0), .int .i64 ((zaG l0 x25_1).f0.f1), .int .i64 0, .int .i64 0, .int .i64 0, .int .i64 0]) ?_ 2 _ rfl; (with_reducible repeat (first | apply zaC | apply zaF | apply zaB)); refine zaR (cs := #[.int .i64 ((zaG l0 x25_1).f0.f0), .int .i64 0, .int .i64 0, .int .i64 0, .int .i64 0, .int .i64 0]) ?_ 1 _ rfl; (with_reducible repeat (first | apply zaC | apply zaF | apply zaB)); refine zaR (cs := #[.int .i64 0, .int .i64 0, .int .i64 0, .int .i64 0, .int .i64 0, .int .i64 0]) ?_ 0 _ rfl; (with_reducible repeat (first | apply zaC | apply zaF | apply zaB)); exact BK393.out⟩
                have n1_ : Aside0 (Below w.heap.size w ((((((w38.setCell ⟨gb393, 0, none⟩ (.int .i64 ((zaG l0 x25_1).f0.f0))).setCell ⟨gb393, 1, none⟩ (.int .i64 ((zaG l0 x25_1).f0.f1))).setCell ⟨gb393, 2, none⟩ (.int .i64 ((zaG l0 x25_1).f0.f2))).setCell ⟨gb393, 3, none⟩ (.int .i64 ((zaG l0 x25_1).f1.f0))).setCell ⟨gb393, 4, none⟩ (.int .i64 ((zaG l0 x25_1).f1.f1))).setCell ⟨gb393, 5, none⟩ (.int .i64 ((zaG l0 x25_1).f1.f2)))) := ⟨by repeat (first | (with_reducible first | exact HB.out | apply zaE | apply zaA | apply zaD | refine zaH ?_ GE393.out) | exact HB.out)⟩
                (try clear BK393)
                (try clear HB)
                generalize ((((((w38.setCell ⟨gb393, 0, none⟩ (.int .i64 ((zaG l0 x25_1).f0.f0))).setCell ⟨gb393, 1, none⟩ (.int .i64 ((zaG l0 x25_1).f0.f1))).setCell ⟨gb393, 2, none⟩ (.int .i64 ((zaG l0 x25_1).f0.f2))).setCell ⟨gb393, 3, none⟩ (.int .i64 ((zaG l0 x25_1).f1.f0))).setCell ⟨gb393, 4, none⟩ (.int .i64 ((zaG l0 x25_1).f1.f1))).setCell ⟨gb393, 5, none⟩ (.int .i64 ((zaG l0 x25_1).f1.f2))) = w40 at n0_ n1_ ⊢
                have BK393 := n0_
                have HB := n1_
                clear n0_ n1_
                have n0_ := zaO (zaF BK393.out)
                have n1_ := zaO (zaD HB.out)
                clear BK393
                clear HB
                have BK393 := n0_
                have HB := n1_
                clear n0_ n1_
                have p394 : 0 ≤ ((ji14) : Int) := of_decide_eq_true (by first | (with_reducible assumption) | assumption)
                have q394 : (ji14) < (l0.length : Int) := of_decide_eq_true (by first | (with_reducible assumption) | assumption)
                obtain ⟨ad394, e394, hx394_0, hx394_1, hx394_2, hx394_3, hx394_4, hx394_5⟩ := zdM HR0.out (ji14) p394 q394
                have hw394_5 := hx394_5
                have hw394_4 := hx394_4
                have hw394_3 := hx394_3
                have hw394_2 := hx394_2
                have hw394_1 := hx394_1
                have hw394_0 := hx394_0
                obtain rfl : ad389 = ad394 := (by injection e394)
                replace hx394_0 := zbF HB.out hx394_0
                replace hx394_1 := zbF HB.out hx394_1
                replace hx394_2 := zbF HB.out hx394_2
                replace hx394_3 := zbF HB.out hx394_3
                replace hx394_4 := zbF HB.out hx394_4
                replace hx394_5 := zbF HB.out hx394_5
                replace p394 := eq_true p394
                replace q394 := eq_true q394
                refine zdU (n := 10) (S := fun w' => w'.cell? ⟨gb393, 0, none⟩ = some (.int .i64 ((zaG l0 x25_1).f0.f0)) ∧ w'.cell? ⟨gb393, 1, none⟩ = some (.int .i64 ((zaG l0 x25_1).f0.f1)) ∧ w'.cell? ⟨gb393, 2, none⟩ = some (.int .i64 ((zaG l0 x25_1).f0.f2)) ∧ w'.cell? ⟨gb393, 3, none⟩ = some (.int .i64 ((zaG l0 x25_1).f1.f0)) ∧ w'.cell? ⟨gb393, 4, none⟩ = some (.int .i64 ((zaG l0 x25_1).f1.f1)) ∧ w'.cell? ⟨gb393, 5, none⟩ = some (.int .i64 ((zaG l0 x25_1).f1.f2)) ∧ w'.cell? (ad389.add (((ji14)).toNat * 6)) = some (.int .i64 ((zaG l0 (ji14)).f0.f0)) ∧ w'.cell? ⟨(ad389.add (((ji14)).toNat * 6)).block, (ad389.add (((ji14)).toNat * 6)).off + 1, none⟩ = some (.int .i64 ((zaG l0 (ji14)).f0.f1)) ∧ w'.cell? ⟨(ad389.add (((ji14)).toNat * 6)).block, (ad389.add (((ji14)).toNat * 6)).off + 2, none⟩ = some (.int .i64 ((zaG l0 (ji14)).f0.f2)) ∧ w'.cell? ⟨(ad389.add (((ji14)).toNat * 6)).block, (ad389.add (((ji14)).toNat * 6)).off + 3, none⟩ = some (.int .i64 ((zaG l0 (ji14)).f1.f0)) ∧ w'.cell? ⟨(ad389.add (((ji14)).toNat * 6)).block, (ad389.add (((ji14)).toNat * 6)).off + 4, none⟩ = some (.int .i64 ((zaG l0 (ji14)).f1.f1)) ∧ w'.cell? ⟨(ad389.add (((ji14)).toNat * 6)).block, (ad389.add (((ji14)).toNat * 6)).off + 5, none⟩ = some (.int .i64 ((zaG l0 (ji14)).f1.f2))) (ds := []) #[false, false, false, false, false, false, false, false, false, false] (by kernel_rfl) rfl rfl ⟨(zaI BK393.out 0).trans rfl, (zaI BK393.out 1).trans rfl, (zaI BK393.out 2).trans rfl, (zaI BK393.out 3).trans rfl, (zaI BK393.out 4).trans rfl, (zaI BK393.out 5).trans rfl, (zbF HB.out hw394_0), (zbF HB.out hw394_1), (zbF HB.out hw394_2), (zbF HB.out hw394_3), (zbF HB.out hw394_4), (zbF HB.out hw394_5)⟩ (fun hHeld => ?_); refine zcT zaX.tab9 zaX.bits9 (fun HT_ HW_ => ?_)
                generalize w40.drew = w41 at BK393 HB hx394_0 hx394_1 hx394_2 hx394_3 hx394_4 hx394_5 hHeld ⊢
                refine zbL (i := 1) (N := some 31) (v := ?_) (a' := ?_) #[false, true, false, false, false, false, false, false, false, false] rfl rfl (zaY HT_.out (by kernel_rfl)) (fun _ _ _ h => h) (Or.inl ⟨by rfl, ?_⟩) ?_ ?_
                rotate_left
                ·intro w'
                 go_simp
                 with_reducible rfl
                rotate_left
                ·simp only [Act.put, List.setIfInBounds_toArray, List.set_cons_zero, List.set_cons_succ, zaT, zaU]
                 rfl
                refine zbL (i := 2) (N := some 32) (v := ?_) (a' := ?_) #[false, true, true, false, false, false, false, false, false, false] rfl rfl (zaY HT_.out (by kernel_rfl)) (fun _ _ _ h => h) (Or.inl ⟨by rfl, ?_⟩) ?_ ?_
                rotate_left
                ·intro w'
                 go_simp
                 with_reducible rfl
                rotate_left
                ·simp only [Act.put, List.setIfInBounds_toArray, List.set_cons_zero, List.set_cons_succ, zaT, zaU]
                 rfl
                refine zbL (i := 3) (N := some 33) (v := ?_) (a' := ?_) #[false, true, true, true, false, false, false, false, false, false] rfl rfl (zaY HT_.out (by kernel_rfl)) (fun _ _ _ h => h) (Or.inl ⟨by rfl, ?_⟩) ?_ ?_
                rotate_left
                ·intro w'
                 go_simp
                 with_reducible rfl
                rotate_left
                ·simp only [Act.put, List.setIfInBounds_toArray, List.set_cons_zero, List.set_cons_succ, zaT, zaU]
                 rfl
                refine zbL (i := 4) (N := some 34) (v := ?_) (a' := ?_) #[false, true, true, true, true, false, false, false, false, false] rfl rfl (zaY HT_.out (by kernel_rfl)) (fun _ _ _ h => h) (Or.inl ⟨by rfl, ?_⟩) ?_ ?_
                rotate_left
                ·intro w'
                 go_simp
                 with_reducible rfl
                rotate_left
                ·simp only [Act.put, List.setIfInBounds_toArray, List.set_cons_zero, List.set_cons_succ, zaT, zaU]
                 rfl
                refine zbL (i := 5) (N := some 35) (v := ?_) (a' := ?_) #[false, true, true, true, true, true, false, false, false, false] rfl rfl (zaY HT_.out (by kernel_rfl)) (fun _ _ _ h => h) (Or.inl ⟨by rfl, ?_⟩) ?_ ?_
                rotate_left
                ·intro w'
                 go_simp
                 with_reducible rfl
                rotate_left
                ·simp only [Act.put, List.setIfInBounds_toArray, List.set_cons_zero, List.set_cons_succ, zaT, zaU]
                 rfl
                refine zbL (i := 6) (N := some 36) (v := ?_) (a' := ?_) #[false, true, true, true, true, true, true, false, false, false] rfl rfl (zaY HT_.out (by kernel_rfl)) (fun _ _ _ h => h) (Or.inl ⟨by rfl, ?_⟩) ?_ ?_
                rotate_left
                ·intro w'
                 go_simp
                 with_reducible rfl
                rotate_left
                ·simp only [Act.put, List.setIfInBounds_toArray, List.set_cons_zero, List.set_cons_succ, zaT, zaU]
                 rfl
                refine take_ (i := 0) (N := some 30) (v := ?_) (a' := ?_) #[true, true, true, true, true, true, true, false, false, false] rfl rfl (zbU HT_.out HW_.out (by kernel_rfl)) (fun _ _ _ h => h) (Or.inl ⟨by rfl, ?_⟩) hHeld ?_ ?_
                rotate_left
                ·rintro w' ⟨s0, s1, s2, s3, s4, s5, s6, s7, s8, s9, s10, s11⟩
                 go_simp
                 with_reducible rfl
                rotate_left
                ·simp only [Act.put, List.setIfInBounds_toArray, List.set_cons_zero, List.set_cons_succ, zaT, zaU]
                 rfl
                refine take_ (i := 7) (N := some 37) (v := ?_) (a' := ?_) #[true, true, true, true, true, true, true, true, false, false] rfl rfl (zbU HT_.out HW_.out (by kernel_rfl)) (fun _ _ _ h => h) (Or.inl ⟨by rfl, ?_⟩) hHeld ?_ ?_
                rotate_left
                ·rintro w' ⟨s0, s1, s2, s3, s4, s5, s6, s7, s8, s9, s10, s11⟩
                 go_simp
                 with_reducible rfl
                rotate_left
                ·simp only [Act.put, List.setIfInBounds_toArray, List.set_cons_zero, List.set_cons_succ, zaT, zaU]
                 rfl
                refine zeX (i := 8) (N := some 38) #[true, true, true, true, true, true, true, true, true, false] rfl rfl (zcU HT_.out (by kernel_rfl)) (by decide) (fun K hK => ?_)
                refine zdI Tryd.func106 (by kernel_rfl) rfl #[.agg #[.int .i64 ((zaG l0 x25_1).f0.f0), .int .i64 ((zaG l0 x25_1).f0.f1), .int .i64 ((zaG l0 x25_1).f0.f2), .int .i64 ((zaG l0 x25_1).f1.f0), .int .i64 ((zaG l0 x25_1).f1.f1), .int .i64 ((zaG l0 x25_1).f1.f2)], .agg #[.int .i64 ((zaG l0 (ji14)).f0.f0), .int .i64 ((zaG l0 (ji14)).f0.f1), .int .i64 ((zaG l0 (ji14)).f0.f2), .int .i64 ((zaG l0 (ji14)).f1.f0), .int .i64 ((zaG l0 (ji14)).f1.f1), .int .i64 ((zaG l0 (ji14)).f1.f2)]] (by rfl) rfl rfl (by (try simp only [List.map_toArray, List.map_cons, List.map_nil]); first | done | (simp only [hji14]; rfl) | rfl | (simp only [List.length_drop, List.length_take]; rfl)) ?_
                with_reducible refine (zbE.calls k1 ((zaG l0 x25_1).f0.f0) ((zaG l0 x25_1).f0.f1) ((zaG l0 x25_1).f0.f2) ((zaG l0 x25_1).f1.f0) ((zaG l0 x25_1).f1.f1) ((zaG l0 x25_1).f1.f2) ((zaG l0 (ji14)).f0.f0) ((zaG l0 (ji14)).f0.f1) ((zaG l0 (ji14)).f0.f2) ((zaG l0 (ji14)).f1.f0) ((zaG l0 (ji14)).f1.f1) ((zaG l0 (ji14)).f1.f2) t395 _ ?side1 A17.out).mono ?_
                (case side1 => exact LaidV.below hG (by repeat (first | (with_reducible first | exact HB.out | apply zaE | apply zaA | apply zaD | refine zaH ?_ GE393.out) | exact HB.out)))
                rintro e w42 ⟨rfl, hb⟩
                refine ⟨_, rfl, ?_⟩
                have n0_ := zaO (zaL (g := gb393) (o := .cells #[.int .i64 ((zaG l0 x25_1).f0.f0), .int .i64 ((zaG l0 x25_1).f0.f1), .int .i64 ((zaG l0 x25_1).f0.f2), .int .i64 ((zaG l0 x25_1).f1.f0), .int .i64 ((zaG l0 x25_1).f1.f1), .int .i64 ((zaG l0 x25_1).f1.f2)] 36 (0, 0)) (by (with_reducible repeat (first | apply zaC | apply zaF | apply zaB)); exact BK393.out) hb)
                have n1_ := zaO (zaK (by repeat (first | (with_reducible first | exact HB.out | apply zaE | apply zaA | apply zaD | refine zaH ?_ GE393.out) | exact HB.out)) hb)
                clear BK393
                clear HB
                have BK393 := n0_
                have HB := n1_
                clear n0_ n1_
                (try clear hb)
                (try clear hb2)
                (try clear hk)
                (try clear hi)
                refine hK.out _ _ ⟨(zaI BK393.out 0).trans rfl, (zaI BK393.out 1).trans rfl, (zaI BK393.out 2).trans rfl, (zaI BK393.out 3).trans rfl, (zaI BK393.out 4).trans rfl, (zaI BK393.out 5).trans rfl, (zbF HB.out hw394_0), (zbF HB.out hw394_1), (zbF HB.out hw394_2), (zbF HB.out hw394_3), (zbF HB.out hw394_4), (zbF HB.out hw394_5)⟩ (fun hHeld => ?_)
                clear hK K
                refine zdL (a' := ?_) ?_ ?_
                rotate_left
                ·show Act.put _ (some 38) _ = _
                 simp only [Act.put, List.setIfInBounds_toArray, List.set_cons_zero, List.set_cons_succ, zaT, zaU]
                 rfl
                refine zbL (i := 9) (N := some 8) (v := ?_) (a' := ?_) #[true, true, true, true, true, true, true, true, true, true] rfl rfl (zaY HT_.out (by kernel_rfl)) (fun _ _ _ h => h) (Or.inl ⟨by rfl, ?_⟩) ?_ ?_
                rotate_left
                ·intro w'
                 go_simp
                 with_reducible rfl
                rotate_left
                ·simp only [Act.put, List.setIfInBounds_toArray, List.set_cons_zero, List.set_cons_succ, zaT, zaU]
                 rfl
                refine done_ (zdJ HT_.out (by kernel_rfl)) ?_
                try go_wp2_with (first | ((with_reducible refine zaQ (f := 107) rfl ?_); refine zbV (some 42) rfl rfl Tryd.func107 (by kernel_rfl) rfl #[.int .i64 (wrap64 (t395 - x5_1))] rfl (by (try simp only [List.map_toArray, List.map_cons, List.map_nil]); first | done | rfl | (simp only [List.length_drop, List.length_take]; rfl)) ?_; (with_reducible refine (zdS.calls (wrap64 (t395 - x5_1)) t396 _ A18.out).mono ?_); rintro e w' ⟨rfl, ⟨nd, rfl⟩⟩; refine ⟨_, rfl, ?_⟩) | (go_at_call 54; (with_reducible refine (zbR.calls t396 1 7 false _ A31.out).mono ?_); rintro e w' ⟨rfl, ⟨nd, rfl⟩⟩))
                go_ret
                exact ⟨by first | rfl | (simp [zaN, zaM] <;> rfl) | (simp only [← hji3, ← hji14]; first | rfl | (simp [zaN, zaM] <;> rfl)) | (simp [*, zaN, zaM] <;> rfl), by repeat (first | (with_reducible first | exact HB.out | apply zaE | apply zaA | apply zaD | refine zaH ?_ GE393.out) | exact HB.out)⟩
            ·rw [if_neg c16] at H
             exact absurd H (by simp)
           ·rw [if_neg c15] at H
            exact absurd H (by simp)
         ·rw [if_neg c12] at H
          exact absurd H (by simp)
        ·rw [if_neg c11] at H
         exact absurd H (by simp)
       ·rw [if_neg c10] at H
        have c10b0 : decide (x25_1 < (l0.length : Int)) = false := decide_eq_false c10
        clear c10
        obtain rfl := Option.some.inj H
        go_wp2
        go_ret
        exact ⟨by first | rfl | (simp [zaN, zaM] <;> rfl) | (simp only [← hji3]; first | rfl | (simp [zaN, zaM] <;> rfl)) | (simp [*, zaN, zaM] <;> rfl), by repeat (first | (with_reducible first | exact HB.out | apply zaE | apply zaA | apply zaD) | exact HB.out)⟩
    ·rw [if_neg c6] at H
     exact absurd H (by simp)
   ·rw [if_neg c5] at H
    exact absurd H (by simp)
  ·rw [if_neg c4] at H
   exact absurd H (by simp)

end Go.Proofs.YtmajpmofeddknaaDoor.PFnExactValidPolygon
