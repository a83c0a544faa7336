-- Printed for this claim by this session's program pp.py, which drives the kit's print with additions. Not trusted: Lean checks it.
import Derived.Test.YtmmedohdjfhmnaaDoorV1PFnExactPolygonTextx0
import Derived.Test.YtmmedohdjfhmnaaDoorV1PFnExactPolygonTextx4
import Derived.Test.YtmmedohdjfhmnaaDoorV1PFnExactPolygonTextx5
namespace Go.Proofs.YtmmedohdjfhmnaaDoor.PFnExactPolygonText
open Go.RowKit Go.Proofs.YtmmedohdjfhmnaaDoorW.PrintWords Go.Proofs.YtmmedohdjfhmnaaDoorW.PrintLast Go.Proofs.YtmmedohdjfhmnaaDoorW.PrintMore
attribute [local go_sem] zbB ziC zrC zhD znE zuB znH zkT   -- for this text's walks alone
set_option linter.unusedVariables false
set_option linter.unusedSimpArgs false

def zlQ.l0 : Nat → List (S61) → List Int → Int → Option (List Int × Bool)
 | 0, _, _, _ => none
 | k + 1, x0, x4, x5 => if x5 < (x0.length : Int) then (if (x0.length : Int) = 0 then (none) else (if 0 ≤ (Int.tmod (wrap64 (x5 + 1)) (x0.length : Int)) then (if (Int.tmod (wrap64 (x5 + 1)) (x0.length : Int)) < (x0.length : Int) then (if 0 ≤ x5 then ((zkL.f k ((zbJ x0 (Int.tmod (wrap64 (x5 + 1)) (x0.length : Int))).f0.f0) ((zbJ x0 (Int.tmod (wrap64 (x5 + 1)) (x0.length : Int))).f0.f1) ((zbJ x0 (Int.tmod (wrap64 (x5 + 1)) (x0.length : Int))).f0.f2) ((zbJ x0 (Int.tmod (wrap64 (x5 + 1)) (x0.length : Int))).f1.f0) ((zbJ x0 (Int.tmod (wrap64 (x5 + 1)) (x0.length : Int))).f1.f1) ((zbJ x0 (Int.tmod (wrap64 (x5 + 1)) (x0.length : Int))).f1.f2) ((zbJ x0 x5).f0.f0) ((zbJ x0 x5).f0.f1) ((zbJ x0 x5).f0.f2) ((zbJ x0 x5).f1.f0) ((zbJ x0 x5).f1.f1) ((zbJ x0 x5).f1.f2)).bind fun bt213 => ((znA.f k bt213.1 bt213.2.1 bt213.2.2.1 bt213.2.2.2.1 bt213.2.2.2.2.1 bt213.2.2.2.2.2).bind fun t219 => (if t219 < 0 then (some (([] : List Int), false)) else (if x4.length < 17592186044416 then (zlQ.l0 k x0 (x4 ++ [t219]) (wrap64 (x5 + 1))) else (none))))) else (none)) else (none)) else (none))) else (some (x4, true))
def zlQ.f (k : Nat) (l0 : List (S61)) : Option (List Int × Bool) := zlQ.l0 k l0 (([] : List Int)) 0
theorem zlQ.mono_l : ∀ k, (∀ y0 y1 y2, LeO (zlQ.l0 k y0 y1 y2) (zlQ.l0 (k + 1) y0 y1 y2))
 | 0 => fun _ _ _ r h => by simp [zlQ.l0] at h
 | k + 1 => by
  have ih0 := zlQ.mono_l k
  ·intro y0 y1 y2
   unfold zlQ.l0
   repeat' first
   | (with_reducible exact ih0 _ _ _)
   | (with_reducible exact znA.mono _ _ _ _ _ _ _)
   | (with_reducible exact zkL.mono _ _ _ _ _ _ _ _ _ _ _ _ _)
   | (with_reducible exact LeO.refl _)
   | (with_reducible exact LeO.none _)
   | (with_reducible refine LeO.ite ?_ ?_)
   | (with_reducible refine LeO.bind ?_ (fun _ => ?_))
   | exact ih0 _ _ _
   | exact znA.mono _ _ _ _ _ _ _
   | exact zkL.mono _ _ _ _ _ _ _ _ _ _ _ _ _
   | exact LeO.none _
   | refine LeO.ite ?_ ?_
   | refine LeO.bind ?_ (fun _ => ?_)
theorem zlQ.mono : ∀ a0 k, LeO (zlQ.f k a0) (zlQ.f (k + 1) a0) := by
 intro a0 k
 have ih0 := zlQ.mono_l k
 unfold zlQ.f
 repeat' first
   | (with_reducible exact ih0 _ _ _)
   | (with_reducible exact znA.mono _ _ _ _ _ _ _)
   | (with_reducible exact zkL.mono _ _ _ _ _ _ _ _ _ _ _ _ _)
   | (with_reducible exact LeO.refl _)
   | (with_reducible exact LeO.none _)
   | (with_reducible refine LeO.ite ?_ ?_)
   | (with_reducible refine LeO.bind ?_ (fun _ => ?_))
   | exact ih0 _ _ _
   | exact znA.mono _ _ _ _ _ _ _
   | exact zkL.mono _ _ _ _ _ _ _ _ _ _ _ _ _
   | exact LeO.none _
   | refine LeO.ite ?_ ?_
   | refine LeO.bind ?_ (fun _ => ?_)
def zlQ.T5 : Bool × List (List Nat × List Nat) := (true, [([], []), ([], []), ([1], [1]), ([], []), ([3], [3]), ([2, 4], [2, 4]), ([0, 5], [0, 5]), ([6], [6]), ([], []), ([], []), ([8, 9], [8, 9]), ([10], [10]), ([7, 11], [7, 11]), ([12, 12], [12]), ([13, 13, 0, 1, 2, 3, 4, 5, 6, 7, 8, 9, 10, 11, 12, 13], [13])])
def zlQ.B5 : List Nat := [0, 0, 2, 0, 8, 30, 63, 127, 0, 0, 768, 1792, 4095, 8191, 16383]
theorem zlQ.tab5 : rtab .any (opsOf Tryd.f17 5) = zlQ.T5 := by kernel_rfl
theorem zlQ.bits5 : ztG zlQ.T5.2 zlQ.B5 = true := by kernel_rfl
set_option maxHeartbeats 8000000 in
set_option maxRecDepth 100000 in
theorem zlQ.calls (k : Nat) (A0 : Option Addr) (c0 : Nat) (l0 : List (S61)) (r1 : List Int) (r2 : Bool) (w : World) (hr0 : Kd.C k61 w A0 l0.length l0) (hc0 : l0.length ≤ c0) (h : zlQ.f k l0 = some (r1, r2)) :
  Calls Tryd.prog 17 #[.slice A0 l0.length c0] w fun e w' => ∃ v0_ : Value, e = .returned (.tuple #[v0_, .bool r2]) ∧ Kd.R (Kd.int .i64) 2 w' w.heap.size (fun _ => True) v0_ r1 ∧ Below w.heap.size w w' := by
 have hu61 := Tryd.underlying61
 have HR0 := zpS hr0
 have HC0 := zpS hc0
 clear hr0 hc0
 have HB := zpS (Below.refl w.heap.size w)
 have H : (zlQ.l0 k l0 (([] : List Int)) 0) = some (r1, r2) := h
 clear h
 obtain ⟨y208, hy208⟩ : ∃ y_ : List Int, y_ = (([] : List Int)) := ⟨_, rfl⟩
 replace H : (zlQ.l0 k l0 y208 0) = some (r1, r2) := by first | (rw [hy208]; with_reducible exact H) | (have H2_ := (Option.bind_some _ _).symm.trans H; rw [hy208]; with_reducible exact H2_) | (have H2_ := (Option.bind_some _ _).symm.trans H; with_reducible exact H2_) | with_reducible exact H | (rw [hy208]; exact H) | exact H
 have Ny208 := zpS hy208
 clear hy208
 have H' := zpS H
 clear H
 go_enter Tryd.func17, Tryd.ntmps17
 go_wp2_with (first | ((with_reducible refine zpZ (N := 7) rfl ?_); refine Kd.R_lit (Kd.int .i64) _ 2 ?hg (N := 7) ?hd (xs := ([] : List Int)) (inner := []) (ok := fun _ => True) (okp := fun _ => True) ?hr ?hp (fun _ hk => hk) trivial (Below.refl _ _) (Nat.le_refl _) (by simp) ?_; (case hd => rfl); (case hg => rfl); (case hr => first | (go_simp; done) | (go_simp; rfl)); (case hp => exact (zfI.none _ _)); intro v209 w2 ho3 hb hg_ hnew_; clear hg_ hnew_; (first | rw [← Ny208.out] at ho3 | (simp only [Int.reduceToNat] at ho3; rw [← Ny208.out] at ho3)); have n0_ := zpS (Kd.R_lower ho3 (zuA bb_)); have n1_ := (ns_ hb); clear HB; have HO210 := n0_; have HB := n1_; clear n0_ n1_; clear hb ho3))
 (try go_simp)
 go_loopg [4, 5] k (fun kq v4 v5 w' => ∃ (x4_1 : List Int) (x5_1 : Int), v5 = .int .i64 x5_1 ∧ Aside0 (zlQ.l0 kq l0 x4_1 x5_1 = some (r1, r2)) ∧ Aside0 (kq ≤ k) ∧ Aside0 (Kd.R (Kd.int .i64) 2 w' w.heap.size (fun _ => True) v4 x4_1) ∧ Aside0 (Below w.heap.size w w'))
 case atStart => exact ⟨(y208), (0), (by first | rfl | (simp; done) | (simp [*]; done)), H', ⟨Nat.le_refl _⟩, ⟨by (with_reducible repeat (first | apply Kd.R_alloc | apply Kd.R_drewN | apply Kd.R_drew)); exact HO210.out⟩, ⟨bb_⟩⟩
 case round =>
  clear H'
  try clear c1
  try clear p2
  obtain ⟨x4_1, x5_1, rfl, HA, HK1, HO_4, HB⟩ := hrel
  cases gk with
  | zero => exact absurd HA.out (by simp [zlQ.l0])
  | succ k1 =>
   have H := HA.out
   clear HA
   simp only [zlQ.l0] at H
   by_cases c4 : x5_1 < (l0.length : Int)
   ·rw [if_pos c4] at H
    have c4b0 : decide (x5_1 < (l0.length : Int)) = true := decide_eq_true c4
    clear c4
    by_cases c5 : (l0.length : Int) = 0
    ·rw [if_pos c5] at H
     exact absurd H (by simp)
    ·rw [if_neg c5] at H
     have c5b0 : ((l0.length : Int) == 0) = false := beq_eq_false_iff_ne.mpr c5
     have c5b1 : ((l0.length : Int) != 0) = true := bne_iff_ne.mpr c5
     have c5b2 : ¬ (l0 = []) := fun h_ => c5 (by rw [h_]; rfl)
     obtain ⟨ji6, hji6⟩ : ∃ j_ : Int, (Int.tmod (wrap64 (x5_1 + 1)) (l0.length : Int)) = j_ := ⟨_, rfl⟩
     replace H : (if 0 ≤ (ji6) then (if (ji6) < (l0.length : Int) then (if 0 ≤ x5_1 then ((zkL.f k1 ((zbJ l0 (ji6)).f0.f0) ((zbJ l0 (ji6)).f0.f1) ((zbJ l0 (ji6)).f0.f2) ((zbJ l0 (ji6)).f1.f0) ((zbJ l0 (ji6)).f1.f1) ((zbJ l0 (ji6)).f1.f2) ((zbJ l0 x5_1).f0.f0) ((zbJ l0 x5_1).f0.f1) ((zbJ l0 x5_1).f0.f2) ((zbJ l0 x5_1).f1.f0) ((zbJ l0 x5_1).f1.f1) ((zbJ l0 x5_1).f1.f2)).bind fun bt213 => ((znA.f k1 bt213.1 bt213.2.1 bt213.2.2.1 bt213.2.2.2.1 bt213.2.2.2.2.1 bt213.2.2.2.2.2).bind fun t219 => (if t219 < 0 then (some (([] : List Int), false)) else (if x4_1.length < 17592186044416 then (zlQ.l0 k1 l0 (x4_1 ++ [t219]) (wrap64 (x5_1 + 1))) else (none))))) else (none)) else (none)) else (none)) = some (r1, r2) := by first | (rw [hji6] at H; exact H) | (simp only [hji6] at H ⊢; exact H)
     by_cases c7 : 0 ≤ (ji6)
     ·rw [if_pos c7] at H
      have c7b0 : decide (0 ≤ (ji6)) = true := decide_eq_true c7
      clear c7
      by_cases c8 : (ji6) < (l0.length : Int)
      ·rw [if_pos c8] at H
       have c8b0 : decide ((ji6) < (l0.length : Int)) = true := decide_eq_true c8
       clear c8
       by_cases c9 : 0 ≤ x5_1
       ·rw [if_pos c9] at H
        have c9b0 : decide (0 ≤ x5_1) = true := decide_eq_true c9
        clear c9
        replace H := Option.bind_eq_some_iff.mp H
        obtain ⟨⟨t213, t214, t215, t216, t217, t218⟩, A100, H⟩ := H
        replace H : ((znA.f k1 t213 t214 t215 t216 t217 t218).bind fun t219 => (if t219 < 0 then (some (([] : List Int), false)) else (if x4_1.length < 17592186044416 then (zlQ.l0 k1 l0 (x4_1 ++ [t219]) (wrap64 (x5_1 + 1))) else (none)))) = some (r1, r2) := H
        have A10 := zpS A100
        clear A100
        replace H := Option.bind_eq_some_iff.mp H
        obtain ⟨t219, A110, H⟩ := H
        replace H : (if t219 < 0 then (some (([] : List Int), false)) else (if x4_1.length < 17592186044416 then (zlQ.l0 k1 l0 (x4_1 ++ [t219]) (wrap64 (x5_1 + 1))) else (none))) = some (r1, r2) := H
        have A11 := zpS A110
        clear A110
        by_cases c12 : t219 < 0
        ·rw [if_pos c12] at H
         have c12b0 : decide (t219 < 0) = true := decide_eq_true c12
         clear c12
         simp only [Option.some.injEq, Prod.mk.injEq] at H
         obtain ⟨rfl, rfl⟩ := H
         try go_wp2
         have n0_ := zpS (Kd.R_drew HO_4.out)
         have n1_ := zpS (zvF HB.out)
         clear HO_4
         clear HB
         have HO_4 := n0_
         have HB := n1_
         clear n0_ n1_
         have p211 : 0 ≤ ((ji6) : Int) := of_decide_eq_true (by first | (with_reducible assumption) | assumption)
         have q211 : (ji6) < (l0.length : Int) := of_decide_eq_true (by first | (with_reducible assumption) | assumption)
         obtain ⟨ad211, e211, hx211_0, hx211_1, hx211_2, hx211_3, hx211_4, hx211_5⟩ := at_T61 HR0.out (ji6) p211 q211
         have hw211_5 := hx211_5
         have hw211_4 := hx211_4
         have hw211_3 := hx211_3
         have hw211_2 := hx211_2
         have hw211_1 := hx211_1
         have hw211_0 := hx211_0
         cases e211
         replace hx211_0 := zeA HB.out hx211_0
         replace hx211_1 := zeA HB.out hx211_1
         replace hx211_2 := zeA HB.out hx211_2
         replace hx211_3 := zeA HB.out hx211_3
         replace hx211_4 := zeA HB.out hx211_4
         replace hx211_5 := zeA HB.out hx211_5
         replace p211 := eq_true p211
         replace q211 := eq_true q211
         have p212 : 0 ≤ (x5_1 : Int) := of_decide_eq_true (by first | (with_reducible assumption) | assumption)
         have q212 : x5_1 < (l0.length : Int) := of_decide_eq_true (by first | (with_reducible assumption) | assumption)
         obtain ⟨ad212, e212, hx212_0, hx212_1, hx212_2, hx212_3, hx212_4, hx212_5⟩ := at_T61 HR0.out x5_1 p212 q212
         have hw212_5 := hx212_5
         have hw212_4 := hx212_4
         have hw212_3 := hx212_3
         have hw212_2 := hx212_2
         have hw212_1 := hx212_1
         have hw212_0 := hx212_0
         obtain rfl : ad211 = ad212 := (by injection e212)
         replace hx212_0 := zeA HB.out hx212_0
         replace hx212_1 := zeA HB.out hx212_1
         replace hx212_2 := zeA HB.out hx212_2
         replace hx212_3 := zeA HB.out hx212_3
         replace hx212_4 := zeA HB.out hx212_4
         replace hx212_5 := zeA HB.out hx212_5
         replace p212 := eq_true p212
         replace q212 := eq_true q212
         refine zpB (n := 15) (S := fun w' => w'.cell? (ad211.add (((ji6)).toNat * 6)) = some (.int .i64 ((zbJ l0 (ji6)).f0.f0)) ∧ w'.cell? ⟨(ad211.add (((ji6)).toNat * 6)).block, (ad211.add (((ji6)).toNat * 6)).off + 1, none⟩ = some (.int .i64 ((zbJ l0 (ji6)).f0.f1)) ∧ w'.cell? ⟨(ad211.add (((ji6)).toNat * 6)).block, (ad211.add (((ji6)).toNat * 6)).off + 2, none⟩ = some (.int .i64 ((zbJ l0 (ji6)).f0.f2)) ∧ w'.cell? ⟨(ad211.add (((ji6)).toNat * 6)).block, (ad211.add (((ji6)).toNat * 6)).off + 3, none⟩ = some (.int .i64 ((zbJ l0 (ji6)).f1.f0)) ∧ w'.cell? ⟨(ad211.add (((ji6)).toNat * 6)).block, (ad211.add (((ji6)).toNat * 6)).off + 4, none⟩ = some (.int .i64 ((zbJ l0 (ji6)).f1.f1)) ∧ w'.cell? ⟨(ad211.add (((ji6)).toNat * 6)).block, (ad211.add (((ji6)).toNat * 6)).off + 5, none⟩ = some (.int .i64 ((zbJ l0 (ji6)).f1.f2)) ∧ w'.cell? (ad211.add ((x5_1).toNat * 6)) = some (.int .i64 ((zbJ l0 x5_1).f0.f0)) ∧ w'.cell? ⟨(ad211.add ((x5_1).toNat * 6)).block, (ad211.add ((x5_1).toNat * 6)).off + 1, none⟩ = some (.int .i64 ((zbJ l0 x5_1).f0.f1)) ∧ w'.cell? ⟨(ad211.add ((x5_1).toNat * 6)).block, (ad211.add ((x5_1).toNat * 6)).off + 2, none⟩ = some (.int .i64 ((zbJ l0 x5_1).f0.f2)) ∧ w'.cell? ⟨(ad211.add ((x5_1).toNat * 6)).block, (ad211.add ((x5_1).toNat * 6)).off + 3, none⟩ = some (.int .i64 ((zbJ l0 x5_1).f1.f0)) ∧ w'.cell? ⟨(ad211.add ((x5_1).toNat * 6)).block, (ad211.add ((x5_1).toNat * 6)).off + 4, none⟩ = some (.int .i64 ((zbJ l0 x5_1).f1.f1)) ∧ w'.cell? ⟨(ad211.add ((x5_1).toNat * 6)).block, (ad211.add ((x5_1).toNat * 6)).off + 5, none⟩ = some (.int .i64 ((zbJ l0 x5_1).f1.f2))) (ds := []) #[false, false, false, false, false, false, false, false, false, false, false, false, false, false, false] (by kernel_rfl) rfl rfl ⟨(zeA HB.out hw211_0), (zeA HB.out hw211_1), (zeA HB.out hw211_2), (zeA HB.out hw211_3), (zeA HB.out hw211_4), (zeA HB.out hw211_5), (zeA HB.out hw212_0), (zeA HB.out hw212_1), (zeA HB.out hw212_2), (zeA HB.out hw212_3), (zeA HB.out hw212_4), (zeA HB.out hw212_5)⟩ (fun hHeld => ?_); refine zwI zlQ.tab5 zlQ.bits5 (fun HT_ HW_ => ?_)
         generalize wr.drew = w13 at HO_4 HB hx211_0 hx211_1 hx211_2 hx211_3 hx211_4 hx211_5 hx212_0 hx212_1 hx212_2 hx212_3 hx212_4 hx212_5 hHeld ⊢
         refine pu_ 0 (some 14) (bl_ 15 1) ?_
         refine pu_ 1 (some 15) (bl_ 15 3) ?_
         refine pu_ 2 (some 16) (bl_ 15 7) ?_
         refine pu_ 3 (some 17) (bl_ 15 15) ?_
         refine pu_ 4 (some 18) (bl_ 15 31) ?_
         refine pu_ 5 (some 19) (bl_ 15 63) ?_
         refine pu_ 6 (some 20) (bl_ 15 127) ?_
         refine pu_ 8 (some 22) (bl_ 15 383) ?_
         refine pu_ 9 (some 23) (bl_ 15 895) ?_
         refine pu_ 10 (some 24) (bl_ 15 1919) ?_
         refine zmW 7 (some 21) (bl_ 15 2047) hHeld ?_
         refine zmW 11 (some 25) (bl_ 15 4095) hHeld ?_
         refine zdC (i := 12) (N := some 26) (bl_ 15 8191) rfl rfl (zeO HT_.out (by kernel_rfl)) (by decide) (fun K hK => ?_)
         refine zqW Tryd.func34 (by kernel_rfl) rfl #[.agg #[.int .i64 ((zbJ l0 (ji6)).f0.f0), .int .i64 ((zbJ l0 (ji6)).f0.f1), .int .i64 ((zbJ l0 (ji6)).f0.f2), .int .i64 ((zbJ l0 (ji6)).f1.f0), .int .i64 ((zbJ l0 (ji6)).f1.f1), .int .i64 ((zbJ l0 (ji6)).f1.f2)], .agg #[.int .i64 ((zbJ l0 x5_1).f0.f0), .int .i64 ((zbJ l0 x5_1).f0.f1), .int .i64 ((zbJ l0 x5_1).f0.f2), .int .i64 ((zbJ l0 x5_1).f1.f0), .int .i64 ((zbJ l0 x5_1).f1.f1), .int .i64 ((zbJ l0 x5_1).f1.f2)]] (by rfl) rfl rfl (by (try simp only [List.map_toArray, List.map_cons, List.map_nil]); first | done | (simp only [hji6]; rfl) | rfl | (simp only [List.length_drop, List.length_take]; rfl)) ?_
         with_reducible refine (zkL.calls k1 ((zbJ l0 (ji6)).f0.f0) ((zbJ l0 (ji6)).f0.f1) ((zbJ l0 (ji6)).f0.f2) ((zbJ l0 (ji6)).f1.f0) ((zbJ l0 (ji6)).f1.f1) ((zbJ l0 (ji6)).f1.f2) ((zbJ l0 x5_1).f0.f0) ((zbJ l0 x5_1).f0.f1) ((zbJ l0 x5_1).f0.f2) ((zbJ l0 x5_1).f1.f0) ((zbJ l0 x5_1).f1.f1) ((zbJ l0 x5_1).f1.f2) t213 t214 t215 t216 t217 t218 _ A10.out).mono ?_
         rintro e w14 ⟨rfl, hb⟩
         refine ⟨_, rfl, ?_⟩
         have n0_ := zpS (Kd.R_below (by (with_reducible repeat (first | apply Kd.R_alloc | apply Kd.R_drewN | apply Kd.R_drew)); exact HO_4.out) hb)
         have n1_ := (ns_ hb)
         clear HO_4
         clear HB
         have HO_4 := n0_
         have HB := n1_
         clear n0_ n1_
         (try clear hb)
         (try clear hb2)
         (try clear hk)
         (try clear hi)
         refine hK.out _ _ ⟨(zeA HB.out hw211_0), (zeA HB.out hw211_1), (zeA HB.out hw211_2), (zeA HB.out hw211_3), (zeA HB.out hw211_4), (zeA HB.out hw211_5), (zeA HB.out hw212_0), (zeA HB.out hw212_1), (zeA HB.out hw212_2), (zeA HB.out hw212_3), (zeA HB.out hw212_4), (zeA HB.out hw212_5)⟩ (fun hHeld => ?_)
         clear hK K
         refine zaN (a' := ?_) ?_ ?_
         rotate_left
         ·show Act.put _ (some 26) _ = _
          simp only [Act.put, List.setIfInBounds_toArray, List.set_cons_zero, List.set_cons_succ, zcM, ziJ]
          rfl
         refine zdC (i := 13) (N := some 27) (bl_ 15 16383) rfl rfl (zeO HT_.out (by kernel_rfl)) (by decide) (fun K hK => ?_)
         refine zqW Tryd.func33 (by kernel_rfl) rfl #[.agg #[.int .i64 t213, .int .i64 t214, .int .i64 t215, .int .i64 t216, .int .i64 t217, .int .i64 t218]] (by rfl) rfl rfl (by (try simp only [List.map_toArray, List.map_cons, List.map_nil]); first | done | rfl | (simp only [List.length_drop, List.length_take]; rfl)) ?_
         with_reducible refine (znA.calls k1 t213 t214 t215 t216 t217 t218 t219 _ A11.out).mono ?_
         rintro e w15 ⟨rfl, hb⟩
         refine ⟨_, rfl, ?_⟩
         have n0_ := zpS (Kd.R_below (by (with_reducible repeat (first | apply Kd.R_alloc | apply Kd.R_drewN | apply Kd.R_drew)); exact HO_4.out) hb)
         have n1_ := (ns_ hb)
         clear HO_4
         clear HB
         have HO_4 := n0_
         have HB := n1_
         clear n0_ n1_
         (try clear hb)
         (try clear hb2)
         (try clear hk)
         (try clear hi)
         refine hK.out _ _ ⟨(zeA HB.out hw211_0), (zeA HB.out hw211_1), (zeA HB.out hw211_2), (zeA HB.out hw211_3), (zeA HB.out hw211_4), (zeA HB.out hw211_5), (zeA HB.out hw212_0), (zeA HB.out hw212_1), (zeA HB.out hw212_2), (zeA HB.out hw212_3), (zeA HB.out hw212_4), (zeA HB.out hw212_5)⟩ (fun hHeld => ?_)
         clear hK K
         refine zaN (a' := ?_) ?_ ?_
         rotate_left
         ·show Act.put _ (some 27) _ = _
          simp only [Act.put, List.setIfInBounds_toArray, List.set_cons_zero, List.set_cons_succ, zcM, ziJ]
          rfl
         refine pu_ 14 (some 6) (bl_ 15 32767) ?_
         refine znK (zzP HT_.out (by kernel_rfl)) ?_
         try go_wp2
         go_ret2
         exact ⟨_, by first | rfl | (simp [ziS, znJ] <;> rfl) | (simp only [← hji6]; first | rfl | (simp [ziS, znJ] <;> rfl)) | (simp [*, ziS, znJ] <;> rfl), by first | exact Kd.R_nil _ _ _ _ _ | exact Kd.N_nil _ _ _ _ _ | exact Kd.V_nil _ _ _ _ _ | exact Kd.Q_nil _ _ _ _ _ | exact Kd.S_nil _ _ _ _ _, bb_⟩
        ·rw [if_neg c12] at H
         have c12b0 : decide (t219 < 0) = false := decide_eq_false c12
         clear c12
         by_cases c16 : x4_1.length < 17592186044416
         ·rw [if_pos c16] at H
          have LMc16 := zpS c16
          clear c16
          obtain ⟨y220, hy220⟩ : ∃ y_ : List Int, y_ = (x4_1 ++ [t219]) := ⟨_, rfl⟩
          replace H : (zlQ.l0 k1 l0 y220 (wrap64 (x5_1 + 1))) = some (r1, r2) := by first | (rw [hy220]; with_reducible exact H) | (have H2_ := (Option.bind_some _ _).symm.trans H; rw [hy220]; with_reducible exact H2_) | (have H2_ := (Option.bind_some _ _).symm.trans H; with_reducible exact H2_) | with_reducible exact H | (rw [hy220]; exact H) | exact H
          have Ny220 := zpS hy220
          clear hy220
          have H' := zpS H
          clear H
          try go_wp2
          have n0_ := zpS (Kd.R_drew HO_4.out)
          have n1_ := zpS (zvF HB.out)
          clear HO_4
          clear HB
          have HO_4 := n0_
          have HB := n1_
          clear n0_ n1_
          have p211 : 0 ≤ ((ji6) : Int) := of_decide_eq_true (by first | (with_reducible assumption) | assumption)
          have q211 : (ji6) < (l0.length : Int) := of_decide_eq_true (by first | (with_reducible assumption) | assumption)
          obtain ⟨ad211, e211, hx211_0, hx211_1, hx211_2, hx211_3, hx211_4, hx211_5⟩ := at_T61 HR0.out (ji6) p211 q211
          have hw211_5 := hx211_5
          have hw211_4 := hx211_4
          have hw211_3 := hx211_3
          have hw211_2 := hx211_2
          have hw211_1 := hx211_1
          have hw211_0 := hx211_0
          cases e211
          replace hx211_0 := zeA HB.out hx211_0
          replace hx211_1 := zeA HB.out hx211_1
          replace hx211_2 := zeA HB.out hx211_2
          replace hx211_3 := zeA HB.out hx211_3
          replace hx211_4 := zeA HB.out hx211_4
          replace hx211_5 := zeA HB.out hx211_5
          replace p211 := eq_true p211
          replace q211 := eq_true q211
          have p212 : 0 ≤ (x5_1 : Int) := of_decide_eq_true (by first | (with_reducible assumption) | assumption)
          have q212 : x5_1 < (l0.length : Int) := of_decide_eq_true (by first | (with_reducible assumption) | assumption)
          obtain ⟨ad212, e212, hx212_0, hx212_1, hx212_2, hx212_3, hx212_4, hx212_5⟩ := at_T61 HR0.out x5_1 p212 q212
          have hw212_5 := hx212_5
          have hw212_4 := hx212_4
          have hw212_3 := hx212_3
          have hw212_2 := hx212_2
          have hw212_1 := hx212_1
          have hw212_0 := hx212_0
          obtain rfl : ad211 = ad212 := (by injection e212)
          replace hx212_0 := zeA HB.out hx212_0
          replace hx212_1 := zeA HB.out hx212_1
          replace hx212_2 := zeA HB.out hx212_2
          replace hx212_3 := zeA HB.out hx212_3
          replace hx212_4 := zeA HB.out hx212_4
          replace hx212_5 := zeA HB.out hx212_5
          replace p212 := eq_true p212
          replace q212 := eq_true q212
          refine zpB (n := 15) (S := fun w' => w'.cell? (ad211.add (((ji6)).toNat * 6)) = some (.int .i64 ((zbJ l0 (ji6)).f0.f0)) ∧ w'.cell? ⟨(ad211.add (((ji6)).toNat * 6)).block, (ad211.add (((ji6)).toNat * 6)).off + 1, none⟩ = some (.int .i64 ((zbJ l0 (ji6)).f0.f1)) ∧ w'.cell? ⟨(ad211.add (((ji6)).toNat * 6)).block, (ad211.add (((ji6)).toNat * 6)).off + 2, none⟩ = some (.int .i64 ((zbJ l0 (ji6)).f0.f2)) ∧ w'.cell? ⟨(ad211.add (((ji6)).toNat * 6)).block, (ad211.add (((ji6)).toNat * 6)).off + 3, none⟩ = some (.int .i64 ((zbJ l0 (ji6)).f1.f0)) ∧ w'.cell? ⟨(ad211.add (((ji6)).toNat * 6)).block, (ad211.add (((ji6)).toNat * 6)).off + 4, none⟩ = some (.int .i64 ((zbJ l0 (ji6)).f1.f1)) ∧ w'.cell? ⟨(ad211.add (((ji6)).toNat * 6)).block, (ad211.add (((ji6)).toNat * 6)).off + 5, none⟩ = some (.int .i64 ((zbJ l0 (ji6)).f1.f2)) ∧ w'.cell? (ad211.add ((x5_1).toNat * 6)) = some (.int .i64 ((zbJ l0 x5_1).f0.f0)) ∧ w'.cell? ⟨(ad211.add ((x5_1).toNat * 6)).block, (ad211.add ((x5_1).toNat * 6)).off + 1, none⟩ = some (.int .i64 ((zbJ l0 x5_1).f0.f1)) ∧ w'.cell? ⟨(ad211.add ((x5_1).toNat * 6)).block, (ad211.add ((x5_1).toNat * 6)).off + 2, none⟩ = some (.int .i64 ((zbJ l0 x5_1).f0.f2)) ∧ w'.cell? ⟨(ad211.add ((x5_1).toNat * 6)).block, (ad211.add ((x5_1).toNat * 6)).off + 3, none⟩ = some (.int .i64 ((zbJ l0 x5_1).f1.f0)) ∧ w'.cell? ⟨(ad211.add ((x5_1).toNat * 6)).block, (ad211.add ((x5_1).toNat * 6)).off + 4, none⟩ = some (.int .i64 ((zbJ l0 x5_1).f1.f1)) ∧ w'.cell? ⟨(ad211.add ((x5_1).toNat * 6)).block, (ad211.add ((x5_1).toNat * 6)).off + 5, none⟩ = some (.int .i64 ((zbJ l0 x5_1).f1.f2))) (ds := []) #[false, false, false, false, false, false, false, false, false, false, false, false, false, false, false] (by kernel_rfl) rfl rfl ⟨(zeA HB.out hw211_0), (zeA HB.out hw211_1), (zeA HB.out hw211_2), (zeA HB.out hw211_3), (zeA HB.out hw211_4), (zeA HB.out hw211_5), (zeA HB.out hw212_0), (zeA HB.out hw212_1), (zeA HB.out hw212_2), (zeA HB.out hw212_3), (zeA HB.out hw212_4), (zeA HB.out hw212_5)⟩ (fun hHeld => ?_); refine zwI zlQ.tab5 zlQ.bits5 (fun HT_ HW_ => ?_)
          generalize wr.drew = w17 at HO_4 HB hx211_0 hx211_1 hx211_2 hx211_3 hx211_4 hx211_5 hx212_0 hx212_1 hx212_2 hx212_3 hx212_4 hx212_5 hHeld ⊢
          refine pu_ 0 (some 14) (bl_ 15 1) ?_
          refine pu_ 1 (some 15) (bl_ 15 3) ?_
          refine pu_ 2 (some 16) (bl_ 15 7) ?_
          refine pu_ 3 (some 17) (bl_ 15 15) ?_
          refine pu_ 4 (some 18) (bl_ 15 31) ?_
          refine pu_ 5 (some 19) (bl_ 15 63) ?_
          refine pu_ 6 (some 20) (bl_ 15 127) ?_
          refine pu_ 8 (some 22) (bl_ 15 383) ?_
          refine pu_ 9 (some 23) (bl_ 15 895) ?_
          refine pu_ 10 (some 24) (bl_ 15 1919) ?_
          refine zmW 7 (some 21) (bl_ 15 2047) hHeld ?_
          refine zmW 11 (some 25) (bl_ 15 4095) hHeld ?_
          refine zdC (i := 12) (N := some 26) (bl_ 15 8191) rfl rfl (zeO HT_.out (by kernel_rfl)) (by decide) (fun K hK => ?_)
          refine zqW Tryd.func34 (by kernel_rfl) rfl #[.agg #[.int .i64 ((zbJ l0 (ji6)).f0.f0), .int .i64 ((zbJ l0 (ji6)).f0.f1), .int .i64 ((zbJ l0 (ji6)).f0.f2), .int .i64 ((zbJ l0 (ji6)).f1.f0), .int .i64 ((zbJ l0 (ji6)).f1.f1), .int .i64 ((zbJ l0 (ji6)).f1.f2)], .agg #[.int .i64 ((zbJ l0 x5_1).f0.f0), .int .i64 ((zbJ l0 x5_1).f0.f1), .int .i64 ((zbJ l0 x5_1).f0.f2), .int .i64 ((zbJ l0 x5_1).f1.f0), .int .i64 ((zbJ l0 x5_1).f1.f1), .int .i64 ((zbJ l0 x5_1).f1.f2)]] (by rfl) rfl rfl (by (try simp only [List.map_toArray, List.map_cons, List.map_nil]); first | done | (simp only [hji6]; rfl) | rfl | (simp only [List.length_drop, List.length_take]; rfl)) ?_
          with_reducible refine (zkL.calls k1 ((zbJ l0 (ji6)).f0.f0) ((zbJ l0 (ji6)).f0.f1) ((zbJ l0 (ji6)).f0.f2) ((zbJ l0 (ji6)).f1.f0) ((zbJ l0 (ji6)).f1.f1) ((zbJ l0 (ji6)).f1.f2) ((zbJ l0 x5_1).f0.f0) ((zbJ l0 x5_1).f0.f1) ((zbJ l0 x5_1).f0.f2) ((zbJ l0 x5_1).f1.f0) ((zbJ l0 x5_1).f1.f1) ((zbJ l0 x5_1).f1.f2) t213 t214 t215 t216 t217 t218 _ A10.out).mono ?_
          rintro e w18 ⟨rfl, hb⟩
          refine ⟨_, rfl, ?_⟩
          have n0_ := zpS (Kd.R_below (by (with_reducible repeat (first | apply Kd.R_alloc | apply Kd.R_drewN | apply Kd.R_drew)); exact HO_4.out) hb)
          have n1_ := (ns_ hb)
          clear HO_4
          clear HB
          have HO_4 := n0_
          have HB := n1_
          clear n0_ n1_
          (try clear hb)
          (try clear hb2)
          (try clear hk)
          (try clear hi)
          refine hK.out _ _ ⟨(zeA HB.out hw211_0), (zeA HB.out hw211_1), (zeA HB.out hw211_2), (zeA HB.out hw211_3), (zeA HB.out hw211_4), (zeA HB.out hw211_5), (zeA HB.out hw212_0), (zeA HB.out hw212_1), (zeA HB.out hw212_2), (zeA HB.out hw212_3), (zeA HB.out hw212_4), (zeA HB.out hw212_5)⟩ (fun hHeld => ?_)
          clear hK K
          refine zaN (a' := ?_) ?_ ?_
          rotate_left
          ·show Act.put _ (some 26) _ = _
           simp only [Act.put, List.setIfInBounds_toArray, List.set_cons_zero, List.set_cons_succ, zcM, ziJ]
           rfl
          refine zdC (i := 13) (N := some 27) (bl_ 15 16383) rfl rfl (zeO HT_.out (by kernel_rfl)) (by decide) (fun K hK => ?_)
          refine zqW Tryd.func33 (by kernel_rfl) rfl #[.agg #[.int .i64 t213, .int .i64 t214, .int .i64 t215, .int .i64 t216, .int .i64 t217, .int .i64 t218]] (by rfl) rfl rfl (by (try simp only [List.map_toArray, List.map_cons, List.map_nil]); first | done | rfl | (simp only [List.length_drop, List.length_take]; rfl)) ?_
          with_reducible refine (znA.calls k1 t213 t214 t215 t216 t217 t218 t219 _ A11.out).mono ?_
          rintro e w19 ⟨rfl, hb⟩
          refine ⟨_, rfl, ?_⟩
          have n0_ := zpS (Kd.R_below (by (with_reducible repeat (first | apply Kd.R_alloc | apply Kd.R_drewN | apply Kd.R_drew)); exact HO_4.out) hb)
          have n1_ := (ns_ hb)
          clear HO_4
          clear HB
          have HO_4 := n0_
          have HB := n1_
          clear n0_ n1_
          (try clear hb)
          (try clear hb2)
          (try clear hk)
          (try clear hi)
          refine hK.out _ _ ⟨(zeA HB.out hw211_0), (zeA HB.out hw211_1), (zeA HB.out hw211_2), (zeA HB.out hw211_3), (zeA HB.out hw211_4), (zeA HB.out hw211_5), (zeA HB.out hw212_0), (zeA HB.out hw212_1), (zeA HB.out hw212_2), (zeA HB.out hw212_3), (zeA HB.out hw212_4), (zeA HB.out hw212_5)⟩ (fun hHeld => ?_)
          clear hK K
          refine zaN (a' := ?_) ?_ ?_
          rotate_left
          ·show Act.put _ (some 27) _ = _
           simp only [Act.put, List.setIfInBounds_toArray, List.set_cons_zero, List.set_cons_succ, zcM, ziJ]
           rfl
          refine pu_ 14 (some 6) (bl_ 15 32767) ?_
          refine znK (zzP HT_.out (by kernel_rfl)) ?_
          try go_wp2_with (first | ((with_reducible refine gate_builtin (b := .append) (xs := #[.tmp 30, .tmp 32]) rfl ?_); at_builtin; refine Kd.R_append (Kd.int .i64) (w0 := w) w.heap.size rfl (.tmp 30) (.tmp 32) 41 2 (.int .i64 0) 8 rfl Tryd.underlying41 info2 rfl (by decide) (by omega) u4 x4_1 t219 [.int .i64 t219] (fun _ => True) (fun _ => False) rfl rfl ?aP (fun _ hk => hk.elim) ?aF ?aO ?aB ?aS ?aL ?_; (case aP => exact rfl); (case aB => exact bb_); (case aF => exact (fun _ _ => trivial)); (case aO => exact (by (with_reducible repeat (first | apply Kd.R_alloc | apply Kd.R_drewN | apply Kd.R_drew)); exact HO_4.out)); (case aS => exact (zuA bb_)); (case aL => have := LMc16.out; omega); intro v221 w20 ho hb hg hat; rw [← Ny220.out] at ho; have n0_ := zpS (hb); have n1_ := zpS (ho); clear HB; clear HO_4; have HB := n0_; have HO222 := n1_; clear n0_ n1_; clear ho hb hg hat))
          go_roundg k1
          case measure => have := HK1.out; omega
          case rel => exact ⟨(y220), (wrap64 (x5_1 + 1)), (by first | rfl | (simp; done) | (simp [*]; done)), H', ⟨by have := HK1.out; omega⟩, ⟨by (with_reducible repeat (first | apply Kd.R_alloc | apply Kd.R_drewN | apply Kd.R_drew)); exact HO222.out⟩, ⟨bb_⟩⟩
         ·rw [if_neg c16] at H
          exact absurd H (by simp)
       ·rw [if_neg c9] at H
        exact absurd H (by simp)
      ·rw [if_neg c8] at H
       exact absurd H (by simp)
     ·rw [if_neg c7] at H
      exact absurd H (by simp)
   ·rw [if_neg c4] at H
    have c4b0 : decide (x5_1 < (l0.length : Int)) = false := decide_eq_false c4
    clear c4
    simp only [Option.some.injEq, Prod.mk.injEq] at H
    obtain ⟨rfl, rfl⟩ := H
    go_wp2
    go_ret2
    exact ⟨_, by first | rfl | (simp [ziS, znJ] <;> rfl) | (simp [*, ziS, znJ] <;> rfl), by (with_reducible repeat (first | apply Kd.R_alloc | apply Kd.R_drewN | apply Kd.R_drew)); exact HO_4.out, bb_⟩

def zsN.l0 : Nat → List (S33) → List (S61) → Int → Option ((List (S61)))
 | 0, _, _, _ => none
 | k + 1, x0, x3, x4 => if x4 < (x0.length : Int) then (if 0 ≤ x4 then ((ziY.f ((zdH x0 x4).f0.f0) ((zdH x0 x4).f0.f1) ((zdH x0 x4).f0.f2) ((zdH x0 x4).f1.f0) ((zdH x0 x4).f1.f1) ((zdH x0 x4).f1.f2)).bind fun bt227 => (if x3.length < 2932031007402 then (zsN.l0 k x0 (x3 ++ [(⟨(⟨bt227.1, bt227.2.1, bt227.2.2.1⟩ : S59), (⟨bt227.2.2.2.1, bt227.2.2.2.2.1, bt227.2.2.2.2.2⟩ : S59)⟩ : S61)]) (wrap64 (x4 + 1))) else (none))) else (none)) else (some x3)
def zsN.f (k : Nat) (l0 : List (S33)) : Option ((List (S61))) := zsN.l0 k l0 (([] : List (S61))) 0
theorem zsN.mono_l : ∀ k, (∀ y0 y1 y2, LeO (zsN.l0 k y0 y1 y2) (zsN.l0 (k + 1) y0 y1 y2))
 | 0 => fun _ _ _ r h => by simp [zsN.l0] at h
 | k + 1 => by
  have ih0 := zsN.mono_l k
  ·intro y0 y1 y2
   unfold zsN.l0
   repeat' first
   | (with_reducible exact ih0 _ _ _)
   | (with_reducible exact LeO.refl _)
   | (with_reducible exact LeO.none _)
   | (with_reducible refine LeO.ite ?_ ?_)
   | (with_reducible refine LeO.bind ?_ (fun _ => ?_))
   | exact ih0 _ _ _
   | exact LeO.none _
   | refine LeO.ite ?_ ?_
   | refine LeO.bind ?_ (fun _ => ?_)
theorem zsN.mono : ∀ a0 k, LeO (zsN.f k a0) (zsN.f (k + 1) a0) := by
 intro a0 k
 have ih0 := zsN.mono_l k
 unfold zsN.f
 repeat' first
   | (with_reducible exact ih0 _ _ _)
   | (with_reducible exact LeO.refl _)
   | (with_reducible exact LeO.none _)
   | (with_reducible refine LeO.ite ?_ ?_)
   | (with_reducible refine LeO.bind ?_ (fun _ => ?_))
   | exact ih0 _ _ _
   | exact LeO.none _
   | refine LeO.ite ?_ ?_
   | refine LeO.bind ?_ (fun _ => ?_)
set_option maxHeartbeats 8000000 in
set_option maxRecDepth 100000 in
theorem zsN.calls (k : Nat) (A0 : Option Addr) (c0 : Nat) (l0 : List (S33)) (r : List (S61)) (w : World) (hr0 : Kd.C k33 w A0 l0.length l0) (hc0 : l0.length ≤ c0) (h : zsN.f k l0 = some r) :
  Calls Tryd.prog 18 #[.slice A0 l0.length c0] w fun e w' => ∃ v0_ : Value, e = .returned (v0_) ∧ Kd.R k61 61 w' w.heap.size (fun _ => True) v0_ r ∧ Below w.heap.size w w' := by
 have hu33 := Tryd.underlying33
 have HR0 := zpS hr0
 have HC0 := zpS hc0
 clear hr0 hc0
 have HB := zpS (Below.refl w.heap.size w)
 have H : (zsN.l0 k l0 (([] : List (S61))) 0) = some r := h
 clear h
 obtain ⟨y223, hy223⟩ : ∃ y_ : List (S61), y_ = (([] : List (S61))) := ⟨_, rfl⟩
 replace H : (zsN.l0 k l0 y223 0) = some r := by first | (rw [hy223]; with_reducible exact H) | (have H2_ := (Option.bind_some _ _).symm.trans H; rw [hy223]; with_reducible exact H2_) | (have H2_ := (Option.bind_some _ _).symm.trans H; with_reducible exact H2_) | with_reducible exact H | (rw [hy223]; exact H) | exact H
 have Ny223 := zpS hy223
 clear hy223
 have H' := zpS H
 clear H
 go_enter Tryd.func18, Tryd.ntmps18
 go_wp2_with (first | ((with_reducible refine zpZ (N := 5) rfl ?_); refine Kd.R_lit k61 _ 61 ?hg (N := 5) ?hd (xs := ([] : List (S61))) (inner := []) (ok := fun _ => True) (okp := fun _ => True) ?hr ?hp (fun _ hk => hk) trivial (Below.refl _ _) (Nat.le_refl _) (by simp) ?_; (case hd => rfl); (case hg => rfl); (case hr => first | (go_simp; done) | (go_simp; rfl)); (case hp => exact (zfI.none _ _)); intro v224 w2 ho3 hb hg_ hnew_; clear hg_ hnew_; (first | rw [← Ny223.out] at ho3 | (simp only [Int.reduceToNat] at ho3; rw [← Ny223.out] at ho3)); have n0_ := zpS (Kd.R_lower ho3 (zuA bb_)); have n1_ := (ns_ hb); clear HB; have HO225 := n0_; have HB := n1_; clear n0_ n1_; clear hb ho3))
 (try go_simp)
 go_loopg [3, 4] k (fun kq v3 v4 w' => ∃ (x3_1 : List (S61)) (x4_1 : Int), v4 = .int .i64 x4_1 ∧ Aside0 (zsN.l0 kq l0 x3_1 x4_1 = some r) ∧ Aside0 (kq ≤ k) ∧ Aside0 (Kd.R k61 61 w' w.heap.size (fun _ => True) v3 x3_1) ∧ Aside0 (Below w.heap.size w w'))
 case atStart => exact ⟨(y223), (0), (by first | rfl | (simp; done) | (simp [*]; done)), H', ⟨Nat.le_refl _⟩, ⟨by (with_reducible repeat (first | apply Kd.R_alloc | apply Kd.R_drewN | apply Kd.R_drew)); exact HO225.out⟩, ⟨bb_⟩⟩
 case round =>
  clear H'
  try clear c1
  try clear p2
  obtain ⟨x3_1, x4_1, rfl, HA, HK1, HO_3, HB⟩ := hrel
  cases gk with
  | zero => exact absurd HA.out (by simp [zsN.l0])
  | succ k1 =>
   have H := HA.out
   clear HA
   simp only [zsN.l0] at H
   by_cases c4 : x4_1 < (l0.length : Int)
   ·rw [if_pos c4] at H
    have c4b0 : decide (x4_1 < (l0.length : Int)) = true := decide_eq_true c4
    clear c4
    by_cases c5 : 0 ≤ x4_1
    ·rw [if_pos c5] at H
     have c5b0 : decide (0 ≤ x4_1) = true := decide_eq_true c5
     clear c5
     replace H := Option.bind_eq_some_iff.mp H
     obtain ⟨⟨t227, t228, t229, t230, t231, t232⟩, A60, H⟩ := H
     replace H : (if x3_1.length < 2932031007402 then (zsN.l0 k1 l0 (x3_1 ++ [(⟨(⟨t227, t228, t229⟩ : S59), (⟨t230, t231, t232⟩ : S59)⟩ : S61)]) (wrap64 (x4_1 + 1))) else (none)) = some r := H
     have A6 := zpS A60
     clear A60
     by_cases c7 : x3_1.length < 2932031007402
     ·rw [if_pos c7] at H
      have LMc7 := zpS c7
      clear c7
      obtain ⟨y233, hy233⟩ : ∃ y_ : List (S61), y_ = (x3_1 ++ [(⟨(⟨t227, t228, t229⟩ : S59), (⟨t230, t231, t232⟩ : S59)⟩ : S61)]) := ⟨_, rfl⟩
      replace H : (zsN.l0 k1 l0 y233 (wrap64 (x4_1 + 1))) = some r := by first | (rw [hy233]; with_reducible exact H) | (have H2_ := (Option.bind_some _ _).symm.trans H; rw [hy233]; with_reducible exact H2_) | (have H2_ := (Option.bind_some _ _).symm.trans H; with_reducible exact H2_) | with_reducible exact H | (rw [hy233]; exact H) | exact H
      have Ny233 := zpS hy233
      clear hy233
      have H' := zpS H
      clear H
      have p226 : 0 ≤ (x4_1 : Int) := of_decide_eq_true (by first | (with_reducible assumption) | assumption)
      have q226 : x4_1 < (l0.length : Int) := of_decide_eq_true (by first | (with_reducible assumption) | assumption)
      obtain ⟨ad226, e226, hx226_0, hx226_1, hx226_2, hx226_3, hx226_4, hx226_5⟩ := zuR HR0.out x4_1 p226 q226
      cases e226
      replace hx226_0 := zeA HB.out hx226_0
      replace hx226_1 := zeA HB.out hx226_1
      replace hx226_2 := zeA HB.out hx226_2
      replace hx226_3 := zeA HB.out hx226_3
      replace hx226_4 := zeA HB.out hx226_4
      replace hx226_5 := zeA HB.out hx226_5
      replace p226 := eq_true p226
      replace q226 := eq_true q226
      go_wp2_with (first | ((with_reducible refine zgK (f := 35) rfl ?_); refine zqQ (some 17) rfl rfl Tryd.func35 (by kernel_rfl) rfl #[.agg #[.int .i64 ((zdH l0 x4_1).f0.f0), .int .i64 ((zdH l0 x4_1).f0.f1), .int .i64 ((zdH l0 x4_1).f0.f2), .int .i64 ((zdH l0 x4_1).f1.f0), .int .i64 ((zdH l0 x4_1).f1.f1), .int .i64 ((zdH l0 x4_1).f1.f2)]] rfl (by (try simp only [List.map_toArray, List.map_cons, List.map_nil]); first | done | rfl | (simp only [List.length_drop, List.length_take]; rfl)) ?_; (with_reducible refine (ziY.calls ((zdH l0 x4_1).f0.f0) ((zdH l0 x4_1).f0.f1) ((zdH l0 x4_1).f0.f2) ((zdH l0 x4_1).f1.f0) ((zdH l0 x4_1).f1.f1) ((zdH l0 x4_1).f1.f2) t227 t228 t229 t230 t231 t232 _ A6.out).mono ?_); rintro e w8 ⟨rfl, hb⟩; refine ⟨_, rfl, ?_⟩; have n0_ := zpS (Kd.R_below (by (with_reducible repeat (first | apply Kd.R_alloc | apply Kd.R_drewN | apply Kd.R_drew)); exact HO_3.out) hb); have n1_ := (ns_ hb); clear HO_3; clear HB; have HO_3 := n0_; have HB := n1_; clear n0_ n1_; (try clear hb); (try clear hb2)) | ((with_reducible refine gate_builtin (b := .append) (xs := #[.tmp 12, .tmp 18]) rfl ?_); at_builtin; refine Kd.R_append k61 (w0 := w) w.heap.size rfl (.tmp 12) (.tmp 18) 44 61 (.agg #[(.int .i64 0), (.int .i64 0), (.int .i64 0), (.int .i64 0), (.int .i64 0), (.int .i64 0)]) 48 rfl Tryd.underlying44 info61 rfl (by decide) (by omega) u3 x3_1 (⟨(⟨t227, t228, t229⟩ : S59), (⟨t230, t231, t232⟩ : S59)⟩ : S61) [.int .i64 t227, .int .i64 t228, .int .i64 t229, .int .i64 t230, .int .i64 t231, .int .i64 t232] (fun _ => True) (fun _ => False) rfl rfl ?aP (fun _ hk => hk.elim) ?aF ?aO ?aB ?aS ?aL ?_; (case aP => exact k61_mkM _ _ _ (⟨(⟨t227, t228, t229⟩ : S59), (⟨t230, t231, t232⟩ : S59)⟩ : S61)); (case aB => exact bb_); (case aF => exact (fun _ _ => trivial)); (case aO => exact (by (with_reducible repeat (first | apply Kd.R_alloc | apply Kd.R_drewN | apply Kd.R_drew)); exact HO_3.out)); (case aS => exact (zuA bb_)); (case aL => have := LMc7.out; omega); intro v234 w9 ho hb hg hat; rw [← Ny233.out] at ho; have n0_ := zpS (hb); have n1_ := zpS (ho); clear HB; clear HO_3; have HB := n0_; have HO235 := n1_; clear n0_ n1_; clear ho hb hg hat))
      go_roundg k1
      case measure => have := HK1.out; omega
      case rel => exact ⟨(y233), (wrap64 (x4_1 + 1)), (by first | rfl | (simp; done) | (simp [*]; done)), H', ⟨by have := HK1.out; omega⟩, ⟨by (with_reducible repeat (first | apply Kd.R_alloc | apply Kd.R_drewN | apply Kd.R_drew)); exact HO235.out⟩, ⟨bb_⟩⟩
     ·rw [if_neg c7] at H
      exact absurd H (by simp)
    ·rw [if_neg c5] at H
     exact absurd H (by simp)
   ·rw [if_neg c4] at H
    have c4b0 : decide (x4_1 < (l0.length : Int)) = false := decide_eq_false c4
    clear c4
    obtain rfl := Option.some.inj H
    go_wp2
    go_ret
    exact ⟨_, by first | rfl | (simp [ziS, znJ] <;> rfl) | (simp [*, ziS, znJ] <;> rfl), by (with_reducible repeat (first | apply Kd.R_alloc | apply Kd.R_drewN | apply Kd.R_drew)); exact HO_3.out, bb_⟩

end Go.Proofs.YtmmedohdjfhmnaaDoor.PFnExactPolygonText
