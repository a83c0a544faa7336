-- Printed for this claim by this session's program pp.py, which drives the kit's print with additions. Not trusted: Lean checks it.
import Derived.Test.YtmajpmofeddknaaDoorV2PFnExactValidPlacesx0
import Derived.Test.YtmajpmofeddknaaDoorV2PFnExactValidPlacesx2
import Derived.Test.YtmajpmofeddknaaDoorV2PFnExactValidPlacesx3
import Derived.Test.YtmajpmofeddknaaDoorV2PFnExactValidPlacesx5
namespace Go.Proofs.YtmajpmofeddknaaDoor.PFnExactValidPlaces
open Go.RowKit Go.Proofs.YtmajpmofeddknaaDoorW.PrintWords Go.Proofs.YtmajpmofeddknaaDoorW.PrintLast Go.Proofs.YtmajpmofeddknaaDoorW.PrintMore
attribute [local go_sem] zbB ziC zrC zhD znE zuB znH zkT   -- for this text's walks alone
set_option linter.unusedVariables false
set_option linter.unusedSimpArgs false

def zlQ.l0 : Nat → List (S94) → List Int → Int → Option (List Int × Bool)
 | 0, _, _, _ => none
 | k + 1, x0, x4, x5 => if x5 < (x0.length : Int) then (if (x0.length : Int) = 0 then (none) else (if 0 ≤ (Int.tmod (wrap64 (x5 + 1)) (x0.length : Int)) then (if (Int.tmod (wrap64 (x5 + 1)) (x0.length : Int)) < (x0.length : Int) then (if 0 ≤ x5 then ((zkL.f k ((zvP x0 (Int.tmod (wrap64 (x5 + 1)) (x0.length : Int))).f0.f0) ((zvP x0 (Int.tmod (wrap64 (x5 + 1)) (x0.length : Int))).f0.f1) ((zvP x0 (Int.tmod (wrap64 (x5 + 1)) (x0.length : Int))).f0.f2) ((zvP x0 (Int.tmod (wrap64 (x5 + 1)) (x0.length : Int))).f1.f0) ((zvP x0 (Int.tmod (wrap64 (x5 + 1)) (x0.length : Int))).f1.f1) ((zvP x0 (Int.tmod (wrap64 (x5 + 1)) (x0.length : Int))).f1.f2) ((zvP x0 x5).f0.f0) ((zvP x0 x5).f0.f1) ((zvP x0 x5).f0.f2) ((zvP x0 x5).f1.f0) ((zvP x0 x5).f1.f1) ((zvP x0 x5).f1.f2)).bind fun bt212 => ((znA.f k bt212.1 bt212.2.1 bt212.2.2.1 bt212.2.2.2.1 bt212.2.2.2.2.1 bt212.2.2.2.2.2).bind fun t218 => (if t218 < 0 then (some (([] : List Int), false)) else (if x4.length < 17592186044416 then (zlQ.l0 k x0 (x4 ++ [t218]) (wrap64 (x5 + 1))) else (none))))) else (none)) else (none)) else (none))) else (some (x4, true))
def zlQ.f (k : Nat) (l0 : List (S94)) : Option (List Int × Bool) := zlQ.l0 k l0 (([] : List Int)) 0
theorem zlQ.mono_l : ∀ k, (∀ y0 y1 y2, LeO (zlQ.l0 k y0 y1 y2) (zlQ.l0 (k + 1) y0 y1 y2))
 | 0 => fun _ _ _ r h => by simp [zlQ.l0] at h
 | k + 1 => by
  have ih0 := zlQ.mono_l k
  ·intro y0 y1 y2
   unfold zlQ.l0
   repeat' first
   | (with_reducible exact ih0 _ _ _)
   | (with_reducible exact znA.mono _ _ _ _ _ _ _)
   | (with_reducible exact zkL.mono _ _ _ _ _ _ _ _ _ _ _ _ _)
   | (with_reducible exact LeO.refl _)
   | (with_reducible exact LeO.none _)
   | (with_reducible refine LeO.ite ?_ ?_)
   | (with_reducible refine LeO.bind ?_ (fun _ => ?_))
   | exact ih0 _ _ _
   | exact znA.mono _ _ _ _ _ _ _
   | exact zkL.mono _ _ _ _ _ _ _ _ _ _ _ _ _
   | exact LeO.none _
   | refine LeO.ite ?_ ?_
   | refine LeO.bind ?_ (fun _ => ?_)
theorem zlQ.mono : ∀ a0 k, LeO (zlQ.f k a0) (zlQ.f (k + 1) a0) := by
 intro a0 k
 have ih0 := zlQ.mono_l k
 unfold zlQ.f
 repeat' first
   | (with_reducible exact ih0 _ _ _)
   | (with_reducible exact znA.mono _ _ _ _ _ _ _)
   | (with_reducible exact zkL.mono _ _ _ _ _ _ _ _ _ _ _ _ _)
   | (with_reducible exact LeO.refl _)
   | (with_reducible exact LeO.none _)
   | (with_reducible refine LeO.ite ?_ ?_)
   | (with_reducible refine LeO.bind ?_ (fun _ => ?_))
   | exact ih0 _ _ _
   | exact znA.mono _ _ _ _ _ _ _
   | exact zkL.mono _ _ _ _ _ _ _ _ _ _ _ _ _
   | exact LeO.none _
   | refine LeO.ite ?_ ?_
   | refine LeO.bind ?_ (fun _ => ?_)
def zlQ.T5 : Bool × List (List Nat × List Nat) := (true, [([], []), ([], []), ([1], [1]), ([], []), ([3], [3]), ([2, 4], [2, 4]), ([0, 5], [0, 5]), ([6], [6]), ([], []), ([], []), ([8, 9], [8, 9]), ([10], [10]), ([7, 11], [7, 11]), ([12, 12], [12]), ([13, 13, 0, 1, 2, 3, 4, 5, 6, 7, 8, 9, 10, 11, 12, 13], [13])])
def zlQ.B5 : List Nat := [0, 0, 2, 0, 8, 30, 63, 127, 0, 0, 768, 1792, 4095, 8191, 16383]
theorem zlQ.tab5 : rtab .any (opsOf Tryd.f61 5) = zlQ.T5 := by kernel_rfl
theorem zlQ.bits5 : ztG zlQ.T5.2 zlQ.B5 = true := by kernel_rfl
set_option maxHeartbeats 8000000 in
set_option maxRecDepth 100000 in
theorem zlQ.calls (k : Nat) (A0 : Option Addr) (c0 : Nat) (l0 : List (S94)) (r1 : List Int) (r2 : Bool) (w : World) (hr0 : Kd.C k94 w A0 l0.length l0) (hc0 : l0.length ≤ c0) (h : zlQ.f k l0 = some (r1, r2)) :
  Calls Tryd.prog 61 #[.slice A0 l0.length c0] w fun e w' => ∃ v0_ : Value, e = .returned (.tuple #[v0_, .bool r2]) ∧ Kd.R (Kd.int .i64) 2 w' w.heap.size (fun _ => True) v0_ r1 ∧ Below w.heap.size w w' := by
 have hu94 := Tryd.underlying94
 have HR0 := zpS hr0
 have HC0 := zpS hc0
 clear hr0 hc0
 have HB := zpS (Below.refl w.heap.size w)
 have H : (zlQ.l0 k l0 (([] : List Int)) 0) = some (r1, r2) := h
 clear h
 obtain ⟨y207, hy207⟩ : ∃ y_ : List Int, y_ = (([] : List Int)) := ⟨_, rfl⟩
 replace H : (zlQ.l0 k l0 y207 0) = some (r1, r2) := by first | (rw [hy207]; with_reducible exact H) | (have H2_ := (Option.bind_some _ _).symm.trans H; rw [hy207]; with_reducible exact H2_) | (have H2_ := (Option.bind_some _ _).symm.trans H; with_reducible exact H2_) | with_reducible exact H | (rw [hy207]; exact H) | exact H
 have Ny207 := zpS hy207
 clear hy207
 have H' := zpS H
 clear H
 go_enter Tryd.func61, Tryd.ntmps61
 go_wp2_with (first | ((with_reducible refine zpZ (N := 7) rfl ?_); refine Kd.R_lit (Kd.int .i64) _ 2 ?hg (N := 7) ?hd (xs := ([] : List Int)) (inner := []) (ok := fun _ => True) (okp := fun _ => True) ?hr ?hp (fun _ hk => hk) trivial (Below.refl _ _) (Nat.le_refl _) (by simp) ?_; (case hd => rfl); (case hg => rfl); (case hr => first | (go_simp; done) | (go_simp; rfl)); (case hp => exact (zfH.none _ _)); intro v208 w2 ho3 hb hg_ hnew_; clear hg_ hnew_; (first | rw [← Ny207.out] at ho3 | (simp only [Int.reduceToNat] at ho3; rw [← Ny207.out] at ho3)); have n0_ := zpS (Kd.R_lower ho3 (zuA bb_)); have n1_ := (ns_ hb); clear HB; have HO209 := n0_; have HB := n1_; clear n0_ n1_; clear hb ho3))
 (try go_simp)
 go_loopg [4, 5] k (fun kq v4 v5 w' => ∃ (x4_1 : List Int) (x5_1 : Int), v5 = .int .i64 x5_1 ∧ Aside0 (zlQ.l0 kq l0 x4_1 x5_1 = some (r1, r2)) ∧ Aside0 (kq ≤ k) ∧ Aside0 (Kd.R (Kd.int .i64) 2 w' w.heap.size (fun _ => True) v4 x4_1) ∧ Aside0 (Below w.heap.size w w'))
 case atStart => exact ⟨(y207), (0), (by first | rfl | (simp; done) | (simp [*]; done)), H', ⟨Nat.le_refl _⟩, ⟨by (with_reducible repeat (first | apply Kd.R_alloc | apply Kd.R_drewN | apply Kd.R_drew)); exact HO209.out⟩, ⟨bb_⟩⟩
 case round =>
  clear H'
  try clear p2
  obtain ⟨x4_1, x5_1, rfl, HA, HK1, HO_4, HB⟩ := hrel
  cases gk with
  | zero => exact absurd HA.out (by simp [zlQ.l0])
  | succ k1 =>
   have H := HA.out
   clear HA
   simp only [zlQ.l0] at H
   by_cases c4 : x5_1 < (l0.length : Int)
   ·rw [if_pos c4] at H
    have c4b0 : decide (x5_1 < (l0.length : Int)) = true := decide_eq_true c4
    clear c4
    by_cases c5 : (l0.length : Int) = 0
    ·rw [if_pos c5] at H
     exact absurd H (by simp)
    ·rw [if_neg c5] at H
     have c5b0 : ((l0.length : Int) == 0) = false := beq_eq_false_iff_ne.mpr c5
     have c5b1 : ((l0.length : Int) != 0) = true := bne_iff_ne.mpr c5
     have c5b2 : ¬ (l0 = []) := fun h_ => c5 (by rw [h_]; rfl)
     obtain ⟨ji6, hji6⟩ : ∃ j_ : Int, (Int.tmod (wrap64 (x5_1 + 1)) (l0.length : Int)) = j_ := ⟨_, rfl⟩
     replace H : (if 0 ≤ (ji6) then (if (ji6) < (l0.length : Int) then (if 0 ≤ x5_1 then ((zkL.f k1 ((zvP l0 (ji6)).f0.f0) ((zvP l0 (ji6)).f0.f1) ((zvP l0 (ji6)).f0.f2) ((zvP l0 (ji6)).f1.f0) ((zvP l0 (ji6)).f1.f1) ((zvP l0 (ji6)).f1.f2) ((zvP l0 x5_1).f0.f0) ((zvP l0 x5_1).f0.f1) ((zvP l0 x5_1).f0.f2) ((zvP l0 x5_1).f1.f0) ((zvP l0 x5_1).f1.f1) ((zvP l0 x5_1).f1.f2)).bind fun bt212 => ((znA.f k1 bt212.1 bt212.2.1 bt212.2.2.1 bt212.2.2.2.1 bt212.2.2.2.2.1 bt212.2.2.2.2.2).bind fun t218 => (if t218 < 0 then (some (([] : List Int), false)) else (if x4_1.length < 17592186044416 then (zlQ.l0 k1 l0 (x4_1 ++ [t218]) (wrap64 (x5_1 + 1))) else (none))))) else (none)) else (none)) else (none)) = some (r1, r2) := by first | (rw [hji6] at H; exact H) | (simp only [hji6] at H ⊢; exact H)
     by_cases c7 : 0 ≤ (ji6)
     ·rw [if_pos c7] at H
      have c7b0 : decide (0 ≤ (ji6)) = true := decide_eq_true c7
      clear c7
      by_cases c8 : (ji6) < (l0.length : Int)
      ·rw [if_pos c8] at H
       have c8b0 : decide ((ji6) < (l0.length : Int)) = true := decide_eq_true c8
       clear c8
       by_cases c9 : 0 ≤ x5_1
       ·rw [if_pos c9] at H
        have c9b0 : decide (0 ≤ x5_1) = true := decide_eq_true c9
        clear c9
        replace H := Option.bind_eq_some_iff.mp H
        obtain ⟨⟨t212, t213, t214, t215, t216, t217⟩, A100, H⟩ := H
        replace H : ((znA.f k1 t212 t213 t214 t215 t216 t217).bind fun t218 => (if t218 < 0 then (some (([] : List Int), false)) else (if x4_1.length < 17592186044416 then (zlQ.l0 k1 l0 (x4_1 ++ [t218]) (wrap64 (x5_1 + 1))) else (none)))) = some (r1, r2) := H
        have A10 := zpS A100
        clear A100
        replace H := Option.bind_eq_some_iff.mp H
        obtain ⟨t218, A110, H⟩ := H
        replace H : (if t218 < 0 then (some (([] : List Int), false)) else (if x4_1.length < 17592186044416 then (zlQ.l0 k1 l0 (x4_1 ++ [t218]) (wrap64 (x5_1 + 1))) else (none))) = some (r1, r2) := H
        have A11 := zpS A110
        clear A110
        by_cases c12 : t218 < 0
        ·rw [if_pos c12] at H
         have c12b0 : decide (t218 < 0) = true := decide_eq_true c12
         clear c12
         simp only [Option.some.injEq, Prod.mk.injEq] at H
         obtain ⟨rfl, rfl⟩ := H
         try go_wp2
         have n0_ := zpS (Kd.R_drew HO_4.out)
         have n1_ := zpS (zvF HB.out)
         clear HO_4
         clear HB
         have HO_4 := n0_
         have HB := n1_
         clear n0_ n1_
         have p210 : 0 ≤ ((ji6) : Int) := of_decide_eq_true (by first | (with_reducible assumption) | assumption)
         have q210 : (ji6) < (l0.length : Int) := of_decide_eq_true (by first | (with_reducible assumption) | assumption)
         obtain ⟨ad210, e210, hx210_0, hx210_1, hx210_2, hx210_3, hx210_4, hx210_5⟩ := at_T94 HR0.out (ji6) p210 q210
         have hw210_5 := hx210_5
         have hw210_4 := hx210_4
         have hw210_3 := hx210_3
         have hw210_2 := hx210_2
         have hw210_1 := hx210_1
         have hw210_0 := hx210_0
         cases e210
         replace hx210_0 := zeA HB.out hx210_0
         replace hx210_1 := zeA HB.out hx210_1
         replace hx210_2 := zeA HB.out hx210_2
         replace hx210_3 := zeA HB.out hx210_3
         replace hx210_4 := zeA HB.out hx210_4
         replace hx210_5 := zeA HB.out hx210_5
         replace p210 := eq_true p210
         replace q210 := eq_true q210
         have p211 : 0 ≤ (x5_1 : Int) := of_decide_eq_true (by first | (with_reducible assumption) | assumption)
         have q211 : x5_1 < (l0.length : Int) := of_decide_eq_true (by first | (with_reducible assumption) | assumption)
         obtain ⟨ad211, e211, hx211_0, hx211_1, hx211_2, hx211_3, hx211_4, hx211_5⟩ := at_T94 HR0.out x5_1 p211 q211
         have hw211_5 := hx211_5
         have hw211_4 := hx211_4
         have hw211_3 := hx211_3
         have hw211_2 := hx211_2
         have hw211_1 := hx211_1
         have hw211_0 := hx211_0
         obtain rfl : ad210 = ad211 := (by injection e211)
         replace hx211_0 := zeA HB.out hx211_0
         replace hx211_1 := zeA HB.out hx211_1
         replace hx211_2 := zeA HB.out hx211_2
         replace hx211_3 := zeA HB.out hx211_3
         replace hx211_4 := zeA HB.out hx211_4
         replace hx211_5 := zeA HB.out hx211_5
         replace p211 := eq_true p211
         replace q211 := eq_true q211
         refine zpB (n := 15) (S := fun w' => w'.cell? (ad210.add (((ji6)).toNat * 6)) = some (.int .i64 ((zvP l0 (ji6)).f0.f0)) ∧ w'.cell? ⟨(ad210.add (((ji6)).toNat * 6)).block, (ad210.add (((ji6)).toNat * 6)).off + 1, none⟩ = some (.int .i64 ((zvP l0 (ji6)).f0.f1)) ∧ w'.cell? ⟨(ad210.add (((ji6)).toNat * 6)).block, (ad210.add (((ji6)).toNat * 6)).off + 2, none⟩ = some (.int .i64 ((zvP l0 (ji6)).f0.f2)) ∧ w'.cell? ⟨(ad210.add (((ji6)).toNat * 6)).block, (ad210.add (((ji6)).toNat * 6)).off + 3, none⟩ = some (.int .i64 ((zvP l0 (ji6)).f1.f0)) ∧ w'.cell? ⟨(ad210.add (((ji6)).toNat * 6)).block, (ad210.add (((ji6)).toNat * 6)).off + 4, none⟩ = some (.int .i64 ((zvP l0 (ji6)).f1.f1)) ∧ w'.cell? ⟨(ad210.add (((ji6)).toNat * 6)).block, (ad210.add (((ji6)).toNat * 6)).off + 5, none⟩ = some (.int .i64 ((zvP l0 (ji6)).f1.f2)) ∧ w'.cell? (ad210.add ((x5_1).toNat * 6)) = some (.int .i64 ((zvP l0 x5_1).f0.f0)) ∧ w'.cell? ⟨(ad210.add ((x5_1).toNat * 6)).block, (ad210.add ((x5_1).toNat * 6)).off + 1, none⟩ = some (.int .i64 ((zvP l0 x5_1).f0.f1)) ∧ w'.cell? ⟨(ad210.add ((x5_1).toNat * 6)).block, (ad210.add ((x5_1).toNat * 6)).off + 2, none⟩ = some (.int .i64 ((zvP l0 x5_1).f0.f2)) ∧ w'.cell? ⟨(ad210.add ((x5_1).toNat * 6)).block, (ad210.add ((x5_1).toNat * 6)).off + 3, none⟩ = some (.int .i64 ((zvP l0 x5_1).f1.f0)) ∧ w'.cell? ⟨(ad210.add ((x5_1).toNat * 6)).block, (ad210.add ((x5_1).toNat * 6)).off + 4, none⟩ = some (.int .i64 ((zvP l0 x5_1).f1.f1)) ∧ w'.cell? ⟨(ad210.add ((x5_1).toNat * 6)).block, (ad210.add ((x5_1).toNat * 6)).off + 5, none⟩ = some (.int .i64 ((zvP l0 x5_1).f1.f2))) (ds := []) #[false, false, false, false, false, false, false, false, false, false, false, false, false, false, false] (by kernel_rfl) rfl rfl ⟨(zeA HB.out hw210_0), (zeA HB.out hw210_1), (zeA HB.out hw210_2), (zeA HB.out hw210_3), (zeA HB.out hw210_4), (zeA HB.out hw210_5), (zeA HB.out hw211_0), (zeA HB.out hw211_1), (zeA HB.out hw211_2), (zeA HB.out hw211_3), (zeA HB.out hw211_4), (zeA HB.out hw211_5)⟩ (fun hHeld => ?_); refine zwI zlQ.tab5 zlQ.bits5 (fun HT_ HW_ => ?_)
         generalize wr.drew = w13 at HO_4 HB hx210_0 hx210_1 hx210_2 hx210_3 hx210_4 hx210_5 hx211_0 hx211_1 hx211_2 hx211_3 hx211_4 hx211_5 hHeld ⊢
         refine pu_ 0 (some 14) (bl_ 15 1) ?_
         refine pu_ 1 (some 15) (bl_ 15 3) ?_
         refine pu_ 2 (some 16) (bl_ 15 7) ?_
         refine pu_ 3 (some 17) (bl_ 15 15) ?_
         refine pu_ 4 (some 18) (bl_ 15 31) ?_
         refine pu_ 5 (some 19) (bl_ 15 63) ?_
         refine pu_ 6 (some 20) (bl_ 15 127) ?_
         refine pu_ 8 (some 22) (bl_ 15 383) ?_
         refine pu_ 9 (some 23) (bl_ 15 895) ?_
         refine pu_ 10 (some 24) (bl_ 15 1919) ?_
         refine zmW 7 (some 21) (bl_ 15 2047) hHeld ?_
         refine zmW 11 (some 25) (bl_ 15 4095) hHeld ?_
         refine zdC (i := 12) (N := some 26) (bl_ 15 8191) rfl rfl (zeO HT_.out (by kernel_rfl)) (by decide) (fun K hK => ?_)
         refine zqW Tryd.func111 (by kernel_rfl) rfl #[.agg #[.int .i64 ((zvP l0 (ji6)).f0.f0), .int .i64 ((zvP l0 (ji6)).f0.f1), .int .i64 ((zvP l0 (ji6)).f0.f2), .int .i64 ((zvP l0 (ji6)).f1.f0), .int .i64 ((zvP l0 (ji6)).f1.f1), .int .i64 ((zvP l0 (ji6)).f1.f2)], .agg #[.int .i64 ((zvP l0 x5_1).f0.f0), .int .i64 ((zvP l0 x5_1).f0.f1), .int .i64 ((zvP l0 x5_1).f0.f2), .int .i64 ((zvP l0 x5_1).f1.f0), .int .i64 ((zvP l0 x5_1).f1.f1), .int .i64 ((zvP l0 x5_1).f1.f2)]] (by rfl) rfl rfl (by (try simp only [List.map_toArray, List.map_cons, List.map_nil]); first | done | (simp only [hji6]; rfl) | rfl | (simp only [List.length_drop, List.length_take]; rfl)) ?_
         with_reducible refine (zkL.calls k1 ((zvP l0 (ji6)).f0.f0) ((zvP l0 (ji6)).f0.f1) ((zvP l0 (ji6)).f0.f2) ((zvP l0 (ji6)).f1.f0) ((zvP l0 (ji6)).f1.f1) ((zvP l0 (ji6)).f1.f2) ((zvP l0 x5_1).f0.f0) ((zvP l0 x5_1).f0.f1) ((zvP l0 x5_1).f0.f2) ((zvP l0 x5_1).f1.f0) ((zvP l0 x5_1).f1.f1) ((zvP l0 x5_1).f1.f2) t212 t213 t214 t215 t216 t217 _ A10.out).mono ?_
         rintro e w14 ⟨rfl, hb⟩
         refine ⟨_, rfl, ?_⟩
         have n0_ := zpS (Kd.R_below (by (with_reducible repeat (first | apply Kd.R_alloc | apply Kd.R_drewN | apply Kd.R_drew)); exact HO_4.out) hb)
         have n1_ := (ns_ hb)
         clear HO_4
         clear HB
         have HO_4 := n0_
         have HB := n1_
         clear n0_ n1_
         (try clear hb)
         (try clear hb2)
         (try clear hk)
         (try clear hi)
         refine hK.out _ _ ⟨(zeA HB.out hw210_0), (zeA HB.out hw210_1), (zeA HB.out hw210_2), (zeA HB.out hw210_3), (zeA HB.out hw210_4), (zeA HB.out hw210_5), (zeA HB.out hw211_0), (zeA HB.out hw211_1), (zeA HB.out hw211_2), (zeA HB.out hw211_3), (zeA HB.out hw211_4), (zeA HB.out hw211_5)⟩ (fun hHeld => ?_)
         clear hK K
         refine zaN (a' := ?_) ?_ ?_
         rotate_left
         ·show Act.put _ (some 26) _ = _
          simp only [Act.put, List.setIfInBounds_toArray, List.set_cons_zero, List.set_cons_succ, zcM, ziJ]
          rfl
         refine zdC (i := 13) (N := some 27) (bl_ 15 16383) rfl rfl (zeO HT_.out (by kernel_rfl)) (by decide) (fun K hK => ?_)
         refine zqW Tryd.func110 (by kernel_rfl) rfl #[.agg #[.int .i64 t212, .int .i64 t213, .int .i64 t214, .int .i64 t215, .int .i64 t216, .int .i64 t217]] (by rfl) rfl rfl (by (try simp only [List.map_toArray, List.map_cons, List.map_nil]); first | done | rfl | (simp only [List.length_drop, List.length_take]; rfl)) ?_
         with_reducible refine (znA.calls k1 t212 t213 t214 t215 t216 t217 t218 _ A11.out).mono ?_
         rintro e w15 ⟨rfl, hb⟩
         refine ⟨_, rfl, ?_⟩
         have n0_ := zpS (Kd.R_below (by (with_reducible repeat (first | apply Kd.R_alloc | apply Kd.R_drewN | apply Kd.R_drew)); exact HO_4.out) hb)
         have n1_ := (ns_ hb)
         clear HO_4
         clear HB
         have HO_4 := n0_
         have HB := n1_
         clear n0_ n1_
         (try clear hb)
         (try clear hb2)
         (try clear hk)
         (try clear hi)
         refine hK.out _ _ ⟨(zeA HB.out hw210_0), (zeA HB.out hw210_1), (zeA HB.out hw210_2), (zeA HB.out hw210_3), (zeA HB.out hw210_4), (zeA HB.out hw210_5), (zeA HB.out hw211_0), (zeA HB.out hw211_1), (zeA HB.out hw211_2), (zeA HB.out hw211_3), (zeA HB.out hw211_4), (zeA HB.out hw211_5)⟩ (fun hHeld => ?_)
         clear hK K
         refine zaN (a' := ?_) ?_ ?_
         rotate_left
         ·show Act.put _ (some 27) _ = _
          simp only [Act.put, List.setIfInBounds_toArray, List.set_cons_zero, List.set_cons_succ, zcM, ziJ]
          rfl
         refine pu_ 14 (some 6) (bl_ 15 32767) ?_
         refine znK (zzP HT_.out (by kernel_rfl)) ?_
         try go_wp2
         go_ret2
         exact ⟨_, by first | rfl | (simp [ziS, znJ] <;> rfl) | (simp only [← hji6]; first | rfl | (simp [ziS, znJ] <;> rfl)) | (simp [*, ziS, znJ] <;> rfl), by first | exact Kd.R_nil _ _ _ _ _ | exact Kd.N_nil _ _ _ _ _ | exact Kd.V_nil _ _ _ _ _ | exact Kd.Q_nil _ _ _ _ _ | exact Kd.S_nil _ _ _ _ _, bb_⟩
        ·rw [if_neg c12] at H
         have c12b0 : decide (t218 < 0) = false := decide_eq_false c12
         clear c12
         by_cases c16 : x4_1.length < 17592186044416
         ·rw [if_pos c16] at H
          have LMc16 := zpS c16
          clear c16
          obtain ⟨y219, hy219⟩ : ∃ y_ : List Int, y_ = (x4_1 ++ [t218]) := ⟨_, rfl⟩
          replace H : (zlQ.l0 k1 l0 y219 (wrap64 (x5_1 + 1))) = some (r1, r2) := by first | (rw [hy219]; with_reducible exact H) | (have H2_ := (Option.bind_some _ _).symm.trans H; rw [hy219]; with_reducible exact H2_) | (have H2_ := (Option.bind_some _ _).symm.trans H; with_reducible exact H2_) | with_reducible exact H | (rw [hy219]; exact H) | exact H
          have Ny219 := zpS hy219
          clear hy219
          have H' := zpS H
          clear H
          try go_wp2
          have n0_ := zpS (Kd.R_drew HO_4.out)
          have n1_ := zpS (zvF HB.out)
          clear HO_4
          clear HB
          have HO_4 := n0_
          have HB := n1_
          clear n0_ n1_
          have p210 : 0 ≤ ((ji6) : Int) := of_decide_eq_true (by first | (with_reducible assumption) | assumption)
          have q210 : (ji6) < (l0.length : Int) := of_decide_eq_true (by first | (with_reducible assumption) | assumption)
          obtain ⟨ad210, e210, hx210_0, hx210_1, hx210_2, hx210_3, hx210_4, hx210_5⟩ := at_T94 HR0.out (ji6) p210 q210
          have hw210_5 := hx210_5
          have hw210_4 := hx210_4
          have hw210_3 := hx210_3
          have hw210_2 := hx210_2
          have hw210_1 := hx210_1
          have hw210_0 := hx210_0
          cases e210
          replace hx210_0 := zeA HB.out hx210_0
          replace hx210_1 := zeA HB.out hx210_1
          replace hx210_2 := zeA HB.out hx210_2
          replace hx210_3 := zeA HB.out hx210_3
          replace hx210_4 := zeA HB.out hx210_4
          replace hx210_5 := zeA HB.out hx210_5
          replace p210 := eq_true p210
          replace q210 := eq_true q210
          have p211 : 0 ≤ (x5_1 : Int) := of_decide_eq_true (by first | (with_reducible assumption) | assumption)
          have q211 : x5_1 < (l0.length : Int) := of_decide_eq_true (by first | (with_reducible assumption) | assumption)
          obtain ⟨ad211, e211, hx211_0, hx211_1, hx211_2, hx211_3, hx211_4, hx211_5⟩ := at_T94 HR0.out x5_1 p211 q211
          have hw211_5 := hx211_5
          have hw211_4 := hx211_4
          have hw211_3 := hx211_3
          have hw211_2 := hx211_2
          have hw211_1 := hx211_1
          have hw211_0 := hx211_0
          obtain rfl : ad210 = ad211 := (by injection e211)
          replace hx211_0 := zeA HB.out hx211_0
          replace hx211_1 := zeA HB.out hx211_1
          replace hx211_2 := zeA HB.out hx211_2
          replace hx211_3 := zeA HB.out hx211_3
          replace hx211_4 := zeA HB.out hx211_4
          replace hx211_5 := zeA HB.out hx211_5
          replace p211 := eq_true p211
          replace q211 := eq_true q211
          refine zpB (n := 15) (S := fun w' => w'.cell? (ad210.add (((ji6)).toNat * 6)) = some (.int .i64 ((zvP l0 (ji6)).f0.f0)) ∧ w'.cell? ⟨(ad210.add (((ji6)).toNat * 6)).block, (ad210.add (((ji6)).toNat * 6)).off + 1, none⟩ = some (.int .i64 ((zvP l0 (ji6)).f0.f1)) ∧ w'.cell? ⟨(ad210.add (((ji6)).toNat * 6)).block, (ad210.add (((ji6)).toNat * 6)).off + 2, none⟩ = some (.int .i64 ((zvP l0 (ji6)).f0.f2)) ∧ w'.cell? ⟨(ad210.add (((ji6)).toNat * 6)).block, (ad210.add (((ji6)).toNat * 6)).off + 3, none⟩ = some (.int .i64 ((zvP l0 (ji6)).f1.f0)) ∧ w'.cell? ⟨(ad210.add (((ji6)).toNat * 6)).block, (ad210.add (((ji6)).toNat * 6)).off + 4, none⟩ = some (.int .i64 ((zvP l0 (ji6)).f1.f1)) ∧ w'.cell? ⟨(ad210.add (((ji6)).toNat * 6)).block, (ad210.add (((ji6)).toNat * 6)).off + 5, none⟩ = some (.int .i64 ((zvP l0 (ji6)).f1.f2)) ∧ w'.cell? (ad210.add ((x5_1).toNat * 6)) = some (.int .i64 ((zvP l0 x5_1).f0.f0)) ∧ w'.cell? ⟨(ad210.add ((x5_1).toNat * 6)).block, (ad210.add ((x5_1).toNat * 6)).off + 1, none⟩ = some (.int .i64 ((zvP l0 x5_1).f0.f1)) ∧ w'.cell? ⟨(ad210.add ((x5_1).toNat * 6)).block, (ad210.add ((x5_1).toNat * 6)).off + 2, none⟩ = some (.int .i64 ((zvP l0 x5_1).f0.f2)) ∧ w'.cell? ⟨(ad210.add ((x5_1).toNat * 6)).block, (ad210.add ((x5_1).toNat * 6)).off + 3, none⟩ = some (.int .i64 ((zvP l0 x5_1).f1.f0)) ∧ w'.cell? ⟨(ad210.add ((x5_1).toNat * 6)).block, (ad210.add ((x5_1).toNat * 6)).off + 4, none⟩ = some (.int .i64 ((zvP l0 x5_1).f1.f1)) ∧ w'.cell? ⟨(ad210.add ((x5_1).toNat * 6)).block, (ad210.add ((x5_1).toNat * 6)).off + 5, none⟩ = some (.int .i64 ((zvP l0 x5_1).f1.f2))) (ds := []) #[false, false, false, false, false, false, false, false, false, false, false, false, false, false, false] (by kernel_rfl) rfl rfl ⟨(zeA HB.out hw210_0), (zeA HB.out hw210_1), (zeA HB.out hw210_2), (zeA HB.out hw210_3), (zeA HB.out hw210_4), (zeA HB.out hw210_5), (zeA HB.out hw211_0), (zeA HB.out hw211_1), (zeA HB.out hw211_2), (zeA HB.out hw211_3), (zeA HB.out hw211_4), (zeA HB.out hw211_5)⟩ (fun hHeld => ?_); refine zwI zlQ.tab5 zlQ.bits5 (fun HT_ HW_ => ?_)
          generalize wr.drew = w17 at HO_4 HB hx210_0 hx210_1 hx210_2 hx210_3 hx210_4 hx210_5 hx211_0 hx211_1 hx211_2 hx211_3 hx211_4 hx211_5 hHeld ⊢
          refine pu_ 0 (some 14) (bl_ 15 1) ?_
          refine pu_ 1 (some 15) (bl_ 15 3) ?_
          refine pu_ 2 (some 16) (bl_ 15 7) ?_
          refine pu_ 3 (some 17) (bl_ 15 15) ?_
          refine pu_ 4 (some 18) (bl_ 15 31) ?_
          refine pu_ 5 (some 19) (bl_ 15 63) ?_
          refine pu_ 6 (some 20) (bl_ 15 127) ?_
          refine pu_ 8 (some 22) (bl_ 15 383) ?_
          refine pu_ 9 (some 23) (bl_ 15 895) ?_
          refine pu_ 10 (some 24) (bl_ 15 1919) ?_
          refine zmW 7 (some 21) (bl_ 15 2047) hHeld ?_
          refine zmW 11 (some 25) (bl_ 15 4095) hHeld ?_
          refine zdC (i := 12) (N := some 26) (bl_ 15 8191) rfl rfl (zeO HT_.out (by kernel_rfl)) (by decide) (fun K hK => ?_)
          refine zqW Tryd.func111 (by kernel_rfl) rfl #[.agg #[.int .i64 ((zvP l0 (ji6)).f0.f0), .int .i64 ((zvP l0 (ji6)).f0.f1), .int .i64 ((zvP l0 (ji6)).f0.f2), .int .i64 ((zvP l0 (ji6)).f1.f0), .int .i64 ((zvP l0 (ji6)).f1.f1), .int .i64 ((zvP l0 (ji6)).f1.f2)], .agg #[.int .i64 ((zvP l0 x5_1).f0.f0), .int .i64 ((zvP l0 x5_1).f0.f1), .int .i64 ((zvP l0 x5_1).f0.f2), .int .i64 ((zvP l0 x5_1).f1.f0), .int .i64 ((zvP l0 x5_1).f1.f1), .int .i64 ((zvP l0 x5_1).f1.f2)]] (by rfl) rfl rfl (by (try simp only [List.map_toArray, List.map_cons, List.map_nil]); first | done | (simp only [hji6]; rfl) | rfl | (simp only [List.length_drop, List.length_take]; rfl)) ?_
          with_reducible refine (zkL.calls k1 ((zvP l0 (ji6)).f0.f0) ((zvP l0 (ji6)).f0.f1) ((zvP l0 (ji6)).f0.f2) ((zvP l0 (ji6)).f1.f0) ((zvP l0 (ji6)).f1.f1) ((zvP l0 (ji6)).f1.f2) ((zvP l0 x5_1).f0.f0) ((zvP l0 x5_1).f0.f1) ((zvP l0 x5_1).f0.f2) ((zvP l0 x5_1).f1.f0) ((zvP l0 x5_1).f1.f1) ((zvP l0 x5_1).f1.f2) t212 t213 t214 t215 t216 t217 _ A10.out).mono ?_
          rintro e w18 ⟨rfl, hb⟩
          refine ⟨_, rfl, ?_⟩
          have n0_ := zpS (Kd.R_below (by (with_reducible repeat (first | apply Kd.R_alloc | apply Kd.R_drewN | apply Kd.R_drew)); exact HO_4.out) hb)
          have n1_ := (ns_ hb)
          clear HO_4
          clear HB
          have HO_4 := n0_
          have HB := n1_
          clear n0_ n1_
          (try clear hb)
          (try clear hb2)
          (try clear hk)
          (try clear hi)
          refine hK.out _ _ ⟨(zeA HB.out hw210_0), (zeA HB.out hw210_1), (zeA HB.out hw210_2), (zeA HB.out hw210_3), (zeA HB.out hw210_4), (zeA HB.out hw210_5), (zeA HB.out hw211_0), (zeA HB.out hw211_1), (zeA HB.out hw211_2), (zeA HB.out hw211_3), (zeA HB.out hw211_4), (zeA HB.out hw211_5)⟩ (fun hHeld => ?_)
          clear hK K
          refine zaN (a' := ?_) ?_ ?_
          rotate_left
          ·show Act.put _ (some 26) _ = _
           simp only [Act.put, List.setIfInBounds_toArray, List.set_cons_zero, List.set_cons_succ, zcM, ziJ]
           rfl
          refine zdC (i := 13) (N := some 27) (bl_ 15 16383) rfl rfl (zeO HT_.out (by kernel_rfl)) (by decide) (fun K hK => ?_)
          refine zqW Tryd.func110 (by kernel_rfl) rfl #[.agg #[.int .i64 t212, .int .i64 t213, .int .i64 t214, .int .i64 t215, .int .i64 t216, .int .i64 t217]] (by rfl) rfl rfl (by (try simp only [List.map_toArray, List.map_cons, List.map_nil]); first | done | rfl | (simp only [List.length_drop, List.length_take]; rfl)) ?_
          with_reducible refine (znA.calls k1 t212 t213 t214 t215 t216 t217 t218 _ A11.out).mono ?_
          rintro e w19 ⟨rfl, hb⟩
          refine ⟨_, rfl, ?_⟩
          have n0_ := zpS (Kd.R_below (by (with_reducible repeat (first | apply Kd.R_alloc | apply Kd.R_drewN | apply Kd.R_drew)); exact HO_4.out) hb)
          have n1_ := (ns_ hb)
          clear HO_4
          clear HB
          have HO_4 := n0_
          have HB := n1_
          clear n0_ n1_
          (try clear hb)
          (try clear hb2)
          (try clear hk)
          (try clear hi)
          refine hK.out _ _ ⟨(zeA HB.out hw210_0), (zeA HB.out hw210_1), (zeA HB.out hw210_2), (zeA HB.out hw210_3), (zeA HB.out hw210_4), (zeA HB.out hw210_5), (zeA HB.out hw211_0), (zeA HB.out hw211_1), (zeA HB.out hw211_2), (zeA HB.out hw211_3), (zeA HB.out hw211_4), (zeA HB.out hw211_5)⟩ (fun hHeld => ?_)
          clear hK K
          refine zaN (a' := ?_) ?_ ?_
          rotate_left
          ·show Act.put _ (some 27) _ = _
           simp only [Act.put, List.setIfInBounds_toArray, List.set_cons_zero, List.set_cons_succ, zcM, ziJ]
           rfl
          refine pu_ 14 (some 6) (bl_ 15 32767) ?_
          refine znK (zzP HT_.out (by kernel_rfl)) ?_
          try go_wp2_with (first | ((with_reducible refine gate_builtin (b := .append) (xs := #[.tmp 30, .tmp 32]) rfl ?_); at_builtin; refine Kd.R_append (Kd.int .i64) (w0 := w) w.heap.size rfl (.tmp 30) (.tmp 32) 87 2 (.int .i64 0) 8 rfl Tryd.underlying87 info2 rfl (by decide) (by omega) u4 x4_1 t218 [.int .i64 t218] (fun _ => True) (fun _ => False) rfl rfl ?aP (fun _ hk => hk.elim) ?aF ?aO ?aB ?aS ?aL ?_; (case aP => exact rfl); (case aB => exact bb_); (case aF => exact (fun _ _ => trivial)); (case aO => exact (by (with_reducible repeat (first | apply Kd.R_alloc | apply Kd.R_drewN | apply Kd.R_drew)); exact HO_4.out)); (case aS => exact (zuA bb_)); (case aL => have := LMc16.out; omega); intro v220 w20 ho hb hg hat; rw [← Ny219.out] at ho; have n0_ := zpS (hb); have n1_ := zpS (ho); clear HB; clear HO_4; have HB := n0_; have HO221 := n1_; clear n0_ n1_; clear ho hb hg hat))
          go_roundg k1
          case measure => have := HK1.out; omega
          case rel => exact ⟨(y219), (wrap64 (x5_1 + 1)), (by first | rfl | (simp; done) | (simp [*]; done)), H', ⟨by have := HK1.out; omega⟩, ⟨by (with_reducible repeat (first | apply Kd.R_alloc | apply Kd.R_drewN | apply Kd.R_drew)); exact HO221.out⟩, ⟨bb_⟩⟩
         ·rw [if_neg c16] at H
          exact absurd H (by simp)
       ·rw [if_neg c9] at H
        exact absurd H (by simp)
      ·rw [if_neg c8] at H
       exact absurd H (by simp)
     ·rw [if_neg c7] at H
      exact absurd H (by simp)
   ·rw [if_neg c4] at H
    have c4b0 : decide (x5_1 < (l0.length : Int)) = false := decide_eq_false c4
    clear c4
    simp only [Option.some.injEq, Prod.mk.injEq] at H
    obtain ⟨rfl, rfl⟩ := H
    go_wp2
    go_ret2
    exact ⟨_, by first | rfl | (simp [ziS, znJ] <;> rfl) | (simp [*, ziS, znJ] <;> rfl), by (with_reducible repeat (first | apply Kd.R_alloc | apply Kd.R_drewN | apply Kd.R_drew)); exact HO_4.out, bb_⟩

def ztF.f (k : Nat) (a0_0 : Int) (a0_1 : Int) (a0_2 : Int) (a1_0 : Int) (a1_1 : Int) (a1_2 : Int) : Option (Int) := (zqO.f a0_0 a0_1 a0_2).bind fun bt224 => ((zqO.f a1_0 a1_1 a1_2).bind fun bt227 => ((zyB.f k bt224.1 bt224.2.1 bt224.2.2 bt227.1 bt227.2.1 bt227.2.2).bind fun bt230 => ((zxR.f k bt230.1 bt230.2.1 bt230.2.2).bind fun t233 => (some t233))))
theorem ztF.mono : ∀ a0 a1 a2 a3 a4 a5 k, LeO (ztF.f k a0 a1 a2 a3 a4 a5) (ztF.f (k + 1) a0 a1 a2 a3 a4 a5) := by
 intro a0 a1 a2 a3 a4 a5 k
 unfold ztF.f
 repeat' first
   | (with_reducible exact zxR.mono _ _ _ _)
   | (with_reducible exact zyB.mono _ _ _ _ _ _ _)
   | (with_reducible exact LeO.refl _)
   | (with_reducible exact LeO.none _)
   | (with_reducible refine LeO.ite ?_ ?_)
   | (with_reducible refine LeO.bind ?_ (fun _ => ?_))
   | exact zxR.mono _ _ _ _
   | exact zyB.mono _ _ _ _ _ _ _
   | exact LeO.none _
   | refine LeO.ite ?_ ?_
   | refine LeO.bind ?_ (fun _ => ?_)
set_option maxHeartbeats 8000000 in
set_option maxRecDepth 100000 in
theorem ztF.calls (k : Nat) (a0_0 : Int) (a0_1 : Int) (a0_2 : Int) (a1_0 : Int) (a1_1 : Int) (a1_2 : Int) (r : Int) (w : World) (h : ztF.f k a0_0 a0_1 a0_2 a1_0 a1_1 a1_2 = some r) :
  Calls Tryd.prog 136 #[.agg #[.int .i64 a0_0, .int .i64 a0_1, .int .i64 a0_2], .agg #[.int .i64 a1_0, .int .i64 a1_1, .int .i64 a1_2]] w fun e w' => e = .returned (.int .i64 r) ∧ Below w.heap.size w w' := by
 have hu34 := Tryd.underlying34
 have HB := zpS (Below.refl w.heap.size w)
 have H : ((zqO.f a0_0 a0_1 a0_2).bind fun bt224 => ((zqO.f a1_0 a1_1 a1_2).bind fun bt227 => ((zyB.f k bt224.1 bt224.2.1 bt224.2.2 bt227.1 bt227.2.1 bt227.2.2).bind fun bt230 => ((zxR.f k bt230.1 bt230.2.1 bt230.2.2).bind fun t233 => (some t233))))) = some r := h
 clear h
 replace H := Option.bind_eq_some_iff.mp H
 obtain ⟨⟨t224, t225, t226⟩, A30, H⟩ := H
 replace H : ((zqO.f a1_0 a1_1 a1_2).bind fun bt227 => ((zyB.f k t224 t225 t226 bt227.1 bt227.2.1 bt227.2.2).bind fun bt230 => ((zxR.f k bt230.1 bt230.2.1 bt230.2.2).bind fun t233 => (some t233)))) = some r := H
 have A3 := zpS A30
 clear A30
 replace H := Option.bind_eq_some_iff.mp H
 obtain ⟨⟨t227, t228, t229⟩, A40, H⟩ := H
 replace H : ((zyB.f k t224 t225 t226 t227 t228 t229).bind fun bt230 => ((zxR.f k bt230.1 bt230.2.1 bt230.2.2).bind fun t233 => (some t233))) = some r := H
 have A4 := zpS A40
 clear A40
 replace H := Option.bind_eq_some_iff.mp H
 obtain ⟨⟨t230, t231, t232⟩, A50, H⟩ := H
 replace H : ((zxR.f k t230 t231 t232).bind fun t233 => (some t233)) = some r := H
 have A5 := zpS A50
 clear A50
 replace H := Option.bind_eq_some_iff.mp H
 obtain ⟨t233, A60, H⟩ := H
 replace H : (some t233) = some r := H
 have A6 := zpS A60
 clear A60
 obtain rfl := Option.some.inj H
 go_enter Tryd.func136, Tryd.ntmps136
 try go_wp2_with (first | ((with_reducible refine zpZ (N := 2) rfl ?_); refine bx_ 2 #[.int .i64 a0_0, .int .i64 a0_1, .int .i64 a0_2] 34 ?_; intro gb222 hg w7 hbox hb; have n0_ := (ns_ hb); have n1_ := zpS (hbox); have n2_ := (ng_ hg); have n3_ := n2_; clear HB; have HB := n0_; have BK222 := n1_; have GW222 := n2_; have GE222 := n3_; clear n0_ n1_ n2_ n3_; clear hb hbox hg) | ((with_reducible refine zpZ (N := 3) rfl ?_); refine bx_ 3 #[.int .i64 a1_0, .int .i64 a1_1, .int .i64 a1_2] 34 ?_; intro gb223 hg w8 hbox hb; have n0_ := zpS (zgM (g := gb222) (o := .cells #[.int .i64 a0_0, .int .i64 a0_1, .int .i64 a0_2] 34 (0, 0)) bk_ hb); have n1_ := (ns_ hb); have n2_ := zpS (hbox); have n3_ := (ng_ hg); have n4_ := n3_; have n5_ := zpS ((by rw [hg]; exact Nat.ne_of_lt (zmN (g := gb222) (o := .cells #[.int .i64 a0_0, .int .i64 a0_1, .int .i64 a0_2] 34 (0, 0)) bk_) : gb222 ≠ gb223)); have n6_ := zpS ((by rw [hg]; exact Nat.ne_of_gt (zmN (g := gb222) (o := .cells #[.int .i64 a0_0, .int .i64 a0_1, .int .i64 a0_2] 34 (0, 0)) bk_) : gb223 ≠ gb222)); clear BK222; clear HB; have BK222 := n0_; have HB := n1_; have BK223 := n2_; have GW223 := n3_; have GE223 := n4_; have NB222_223 := n5_; have NB223_222 := n6_; clear n0_ n1_ n2_ n3_ n4_ n5_ n6_; clear hb hbox hg))
 have n0_ := zpS (ztN BK222.out)
 have n1_ := zpS (ztN BK223.out)
 have n2_ := zpS (zvF HB.out)
 clear BK222
 clear BK223
 clear HB
 have BK222 := n0_
 have BK223 := n1_
 have HB := n2_
 clear n0_ n1_ n2_
 refine zpB (n := 7) (S := fun w' => w'.cell? ⟨gb222, 0, none⟩ = some (.int .i64 a0_0) ∧ w'.cell? ⟨gb222, 1, none⟩ = some (.int .i64 a0_1) ∧ w'.cell? ⟨gb222, 2, none⟩ = some (.int .i64 a0_2) ∧ w'.cell? ⟨gb223, 0, none⟩ = some (.int .i64 a1_0) ∧ w'.cell? ⟨gb223, 1, none⟩ = some (.int .i64 a1_1) ∧ w'.cell? ⟨gb223, 2, none⟩ = some (.int .i64 a1_2)) (ds := []) #[false, false, false, false, false, false, false] (by kernel_rfl) rfl rfl ⟨(zzS BK222.out 0).trans rfl, (zzS BK222.out 1).trans rfl, (zzS BK222.out 2).trans rfl, (zzS BK223.out 0).trans rfl, (zzS BK223.out 1).trans rfl, (zzS BK223.out 2).trans rfl⟩ (fun hHeld => ?_)
 generalize w8.drew = w9 at BK222 BK223 HB hHeld ⊢
 refine take_ (i := 0) (N := some 5) (v := ?_) (a' := ?_) (bl_ 7 1) rfl rfl (by kernel_rfl) (fun _ _ _ h => h) (Or.inl ⟨by rfl, ?_⟩) hHeld ?_ ?_
 rotate_left
 ·rintro w' ⟨s0, s1, s2, s3, s4, s5⟩
  go_simp
  with_reducible rfl
 rotate_left
 ·simp only [Act.put, List.setIfInBounds_toArray, List.set_cons_zero, List.set_cons_succ, zcM, ziJ]
  rfl
 refine take_ (i := 2) (N := some 7) (v := ?_) (a' := ?_) (bl_ 7 5) rfl rfl (by kernel_rfl) (fun _ _ _ h => h) (Or.inl ⟨by rfl, ?_⟩) hHeld ?_ ?_
 rotate_left
 ·rintro w' ⟨s0, s1, s2, s3, s4, s5⟩
  go_simp
  with_reducible rfl
 rotate_left
 ·simp only [Act.put, List.setIfInBounds_toArray, List.set_cons_zero, List.set_cons_succ, zcM, ziJ]
  rfl
 refine zdC (i := 1) (N := some 6) (bl_ 7 7) rfl rfl (by kernel_rfl) (by decide) (fun K hK => ?_)
 refine zqW Tryd.func114 (by kernel_rfl) rfl #[.agg #[.int .i64 a0_0, .int .i64 a0_1, .int .i64 a0_2]] (by rfl) rfl rfl (by (try simp only [List.map_toArray, List.map_cons, List.map_nil]); first | done | rfl | (simp only [List.length_drop, List.length_take]; rfl)) ?_
 with_reducible refine (zqO.calls a0_0 a0_1 a0_2 t224 t225 t226 _ A3.out).mono ?_
 rintro e w10 ⟨rfl, hb⟩
 refine ⟨_, rfl, ?_⟩
 have n0_ := zpS (zgM (g := gb222) (o := .cells #[.int .i64 a0_0, .int .i64 a0_1, .int .i64 a0_2] 34 (0, 0)) bk_ hb)
 have n1_ := zpS (zgM (g := gb223) (o := .cells #[.int .i64 a1_0, .int .i64 a1_1, .int .i64 a1_2] 34 (0, 0)) bk_ hb)
 have n2_ := (ns_ hb)
 clear BK222
 clear BK223
 clear HB
 have BK222 := n0_
 have BK223 := n1_
 have HB := n2_
 clear n0_ n1_ n2_
 (try clear hb)
 (try clear hb2)
 (try clear hk)
 (try clear hi)
 refine hK.out _ _ ⟨(zzS BK222.out 0).trans rfl, (zzS BK222.out 1).trans rfl, (zzS BK222.out 2).trans rfl, (zzS BK223.out 0).trans rfl, (zzS BK223.out 1).trans rfl, (zzS BK223.out 2).trans rfl⟩ (fun hHeld => ?_)
 clear hK K
 refine zaN (a' := ?_) ?_ ?_
 rotate_left
 ·show Act.put _ (some 6) _ = _
  simp only [Act.put, List.setIfInBounds_toArray, List.set_cons_zero, List.set_cons_succ, zcM, ziJ]
  rfl
 refine zdC (i := 3) (N := some 8) (bl_ 7 15) rfl rfl (by kernel_rfl) (by decide) (fun K hK => ?_)
 refine zqW Tryd.func114 (by kernel_rfl) rfl #[.agg #[.int .i64 a1_0, .int .i64 a1_1, .int .i64 a1_2]] (by rfl) rfl rfl (by (try simp only [List.map_toArray, List.map_cons, List.map_nil]); first | done | rfl | (simp only [List.length_drop, List.length_take]; rfl)) ?_
 with_reducible refine (zqO.calls a1_0 a1_1 a1_2 t227 t228 t229 _ A4.out).mono ?_
 rintro e w11 ⟨rfl, hb⟩
 refine ⟨_, rfl, ?_⟩
 have n0_ := zpS (zgM (g := gb222) (o := .cells #[.int .i64 a0_0, .int .i64 a0_1, .int .i64 a0_2] 34 (0, 0)) bk_ hb)
 have n1_ := zpS (zgM (g := gb223) (o := .cells #[.int .i64 a1_0, .int .i64 a1_1, .int .i64 a1_2] 34 (0, 0)) bk_ hb)
 have n2_ := (ns_ hb)
 clear BK222
 clear BK223
 clear HB
 have BK222 := n0_
 have BK223 := n1_
 have HB := n2_
 clear n0_ n1_ n2_
 (try clear hb)
 (try clear hb2)
 (try clear hk)
 (try clear hi)
 refine hK.out _ _ ⟨(zzS BK222.out 0).trans rfl, (zzS BK222.out 1).trans rfl, (zzS BK222.out 2).trans rfl, (zzS BK223.out 0).trans rfl, (zzS BK223.out 1).trans rfl, (zzS BK223.out 2).trans rfl⟩ (fun hHeld => ?_)
 clear hK K
 refine zaN (a' := ?_) ?_ ?_
 rotate_left
 ·show Act.put _ (some 8) _ = _
  simp only [Act.put, List.setIfInBounds_toArray, List.set_cons_zero, List.set_cons_succ, zcM, ziJ]
  rfl
 refine zdC (i := 4) (N := some 9) (bl_ 7 31) rfl rfl (by kernel_rfl) (by decide) (fun K hK => ?_)
 refine zqW Tryd.func145 (by kernel_rfl) rfl #[.agg #[.int .i64 t224, .int .i64 t225, .int .i64 t226], .agg #[.int .i64 t227, .int .i64 t228, .int .i64 t229]] (by rfl) rfl rfl (by (try simp only [List.map_toArray, List.map_cons, List.map_nil]); first | done | rfl | (simp only [List.length_drop, List.length_take]; rfl)) ?_
 with_reducible refine (zyB.calls k t224 t225 t226 t227 t228 t229 t230 t231 t232 _ A5.out).mono ?_
 rintro e w12 ⟨rfl, hb⟩
 refine ⟨_, rfl, ?_⟩
 have n0_ := zpS (zgM (g := gb222) (o := .cells #[.int .i64 a0_0, .int .i64 a0_1, .int .i64 a0_2] 34 (0, 0)) bk_ hb)
 have n1_ := zpS (zgM (g := gb223) (o := .cells #[.int .i64 a1_0, .int .i64 a1_1, .int .i64 a1_2] 34 (0, 0)) bk_ hb)
 have n2_ := (ns_ hb)
 clear BK222
 clear BK223
 clear HB
 have BK222 := n0_
 have BK223 := n1_
 have HB := n2_
 clear n0_ n1_ n2_
 (try clear hb)
 (try clear hb2)
 (try clear hk)
 (try clear hi)
 refine hK.out _ _ ⟨(zzS BK222.out 0).trans rfl, (zzS BK222.out 1).trans rfl, (zzS BK222.out 2).trans rfl, (zzS BK223.out 0).trans rfl, (zzS BK223.out 1).trans rfl, (zzS BK223.out 2).trans rfl⟩ (fun hHeld => ?_)
 clear hK K
 refine zaN (a' := ?_) ?_ ?_
 rotate_left
 ·show Act.put _ (some 9) _ = _
  simp only [Act.put, List.setIfInBounds_toArray, List.set_cons_zero, List.set_cons_succ, zcM, ziJ]
  rfl
 refine zdC (i := 5) (N := some 10) (bl_ 7 63) rfl rfl (by kernel_rfl) (by decide) (fun K hK => ?_)
 refine zqW Tryd.func112 (by kernel_rfl) rfl #[.agg #[.int .i64 t230, .int .i64 t231, .int .i64 t232]] (by rfl) rfl rfl (by (try simp only [List.map_toArray, List.map_cons, List.map_nil]); first | done | rfl | (simp only [List.length_drop, List.length_take]; rfl)) ?_
 with_reducible refine (zxR.calls k t230 t231 t232 t233 _ A6.out).mono ?_
 rintro e w13 ⟨rfl, hb⟩
 refine ⟨_, rfl, ?_⟩
 have n0_ := zpS (zgM (g := gb222) (o := .cells #[.int .i64 a0_0, .int .i64 a0_1, .int .i64 a0_2] 34 (0, 0)) bk_ hb)
 have n1_ := zpS (zgM (g := gb223) (o := .cells #[.int .i64 a1_0, .int .i64 a1_1, .int .i64 a1_2] 34 (0, 0)) bk_ hb)
 have n2_ := (ns_ hb)
 clear BK222
 clear BK223
 clear HB
 have BK222 := n0_
 have BK223 := n1_
 have HB := n2_
 clear n0_ n1_ n2_
 (try clear hb)
 (try clear hb2)
 (try clear hk)
 (try clear hi)
 refine hK.out _ _ ⟨(zzS BK222.out 0).trans rfl, (zzS BK222.out 1).trans rfl, (zzS BK222.out 2).trans rfl, (zzS BK223.out 0).trans rfl, (zzS BK223.out 1).trans rfl, (zzS BK223.out 2).trans rfl⟩ (fun hHeld => ?_)
 clear hK K
 refine zaN (a' := ?_) ?_ ?_
 rotate_left
 ·show Act.put _ (some 10) _ = _
  simp only [Act.put, List.setIfInBounds_toArray, List.set_cons_zero, List.set_cons_succ, zcM, ziJ]
  rfl
 refine ztK (i := 6) (N := some 4) (v := ?_) (a' := ?_) (bl_ 7 127) rfl rfl (by kernel_rfl) (fun _ _ _ h => h) (Or.inl ⟨by rfl, ?_⟩) ?_ ?_
 rotate_left
 ·intro w'
  go_simp
  with_reducible rfl
 rotate_left
 ·simp only [Act.put, List.setIfInBounds_toArray, List.set_cons_zero, List.set_cons_succ, zcM, ziJ]
  rfl
 refine znK (by kernel_rfl) ?_
 try go_wp2
 go_ret
 exact ⟨by first | rfl | (simp [ziS, znJ] <;> rfl) | (simp [*, ziS, znJ] <;> rfl), bb_⟩

def zwB.f (k : Nat) (a0_0 : Int) (a0_1 : Int) (a0_2 : Int) (a0_3 : Int) (a0_4 : Int) (a0_5 : Int) (a1_0 : Int) (a1_1 : Int) (a1_2 : Int) (a1_3 : Int) (a1_4 : Int) (a1_5 : Int) : Option (Int) := (ztF.f k a0_0 a0_1 a0_2 a1_0 a1_1 a1_2).bind fun t236 => (if t236 = 0 then ((ztF.f k a0_3 a0_4 a0_5 a1_3 a1_4 a1_5).bind fun t237 => (some t237)) else (some t236))
theorem zwB.mono : ∀ a0 a1 a2 a3 a4 a5 a6 a7 a8 a9 a10 a11 k, LeO (zwB.f k a0 a1 a2 a3 a4 a5 a6 a7 a8 a9 a10 a11) (zwB.f (k + 1) a0 a1 a2 a3 a4 a5 a6 a7 a8 a9 a10 a11) := by
 intro a0 a1 a2 a3 a4 a5 a6 a7 a8 a9 a10 a11 k
 unfold zwB.f
 repeat' first
   | (with_reducible exact ztF.mono _ _ _ _ _ _ _)
   | (with_reducible exact LeO.refl _)
   | (with_reducible exact LeO.none _)
   | (with_reducible refine LeO.ite ?_ ?_)
   | (with_reducible refine LeO.bind ?_ (fun _ => ?_))
   | exact ztF.mono _ _ _ _ _ _ _
   | exact LeO.none _
   | refine LeO.ite ?_ ?_
   | refine LeO.bind ?_ (fun _ => ?_)
set_option maxHeartbeats 8000000 in
set_option maxRecDepth 100000 in
theorem zwB.calls (k : Nat) (a0_0 : Int) (a0_1 : Int) (a0_2 : Int) (a0_3 : Int) (a0_4 : Int) (a0_5 : Int) (a1_0 : Int) (a1_1 : Int) (a1_2 : Int) (a1_3 : Int) (a1_4 : Int) (a1_5 : Int) (r : Int) (w : World) (h : zwB.f k a0_0 a0_1 a0_2 a0_3 a0_4 a0_5 a1_0 a1_1 a1_2 a1_3 a1_4 a1_5 = some r) :
  Calls Tryd.prog 102 #[.agg #[.int .i64 a0_0, .int .i64 a0_1, .int .i64 a0_2, .int .i64 a0_3, .int .i64 a0_4, .int .i64 a0_5], .agg #[.int .i64 a1_0, .int .i64 a1_1, .int .i64 a1_2, .int .i64 a1_3, .int .i64 a1_4, .int .i64 a1_5]] w fun e w' => e = .returned (.int .i64 r) ∧ Below w.heap.size w w' := by
 have hu36 := Tryd.underlying36
 have hu34 := Tryd.underlying34
 have HB := zpS (Below.refl w.heap.size w)
 have H : ((ztF.f k a0_0 a0_1 a0_2 a1_0 a1_1 a1_2).bind fun t236 => (if t236 = 0 then ((ztF.f k a0_3 a0_4 a0_5 a1_3 a1_4 a1_5).bind fun t237 => (some t237)) else (some t236))) = some r := h
 clear h
 replace H := Option.bind_eq_some_iff.mp H
 obtain ⟨t236, A30, H⟩ := H
 replace H : (if t236 = 0 then ((ztF.f k a0_3 a0_4 a0_5 a1_3 a1_4 a1_5).bind fun t237 => (some t237)) else (some t236)) = some r := H
 have A3 := zpS A30
 clear A30
 by_cases c4 : t236 = 0
 ·rw [if_pos c4] at H
  have c4b0 : (t236 == 0) = true := beq_iff_eq.mpr c4
  have c4b1 : (t236 != 0) = false := bne_eq_false_iff_eq.mpr c4
  clear c4
  replace H := Option.bind_eq_some_iff.mp H
  obtain ⟨t237, A50, H⟩ := H
  replace H : (some t237) = some r := H
  have A5 := zpS A50
  clear A50
  obtain rfl := Option.some.inj H
  go_enter Tryd.func102, Tryd.ntmps102
  go_wp2_with (first | ((with_reducible refine zpZ (N := 2) rfl ?_); refine bx_ 2 #[.int .i64 a0_0, .int .i64 a0_1, .int .i64 a0_2, .int .i64 a0_3, .int .i64 a0_4, .int .i64 a0_5] 36 ?_; intro gb234 hg w6 hbox hb; have n0_ := (ns_ hb); have n1_ := zpS (hbox); have n2_ := (ng_ hg); have n3_ := n2_; clear HB; have HB := n0_; have BK234 := n1_; have GW234 := n2_; have GE234 := n3_; clear n0_ n1_ n2_ n3_; clear hb hbox hg) | ((with_reducible refine zpZ (N := 3) rfl ?_); refine bx_ 3 #[.int .i64 a1_0, .int .i64 a1_1, .int .i64 a1_2, .int .i64 a1_3, .int .i64 a1_4, .int .i64 a1_5] 36 ?_; intro gb235 hg w7 hbox hb; have n0_ := zpS (zgM (g := gb234) (o := .cells #[.int .i64 a0_0, .int .i64 a0_1, .int .i64 a0_2, .int .i64 a0_3, .int .i64 a0_4, .int .i64 a0_5] 36 (0, 0)) bk_ hb); have n1_ := (ns_ hb); have n2_ := zpS (hbox); have n3_ := (ng_ hg); have n4_ := n3_; have n5_ := zpS ((by rw [hg]; exact Nat.ne_of_lt (zmN (g := gb234) (o := .cells #[.int .i64 a0_0, .int .i64 a0_1, .int .i64 a0_2, .int .i64 a0_3, .int .i64 a0_4, .int .i64 a0_5] 36 (0, 0)) bk_) : gb234 ≠ gb235)); have n6_ := zpS ((by rw [hg]; exact Nat.ne_of_gt (zmN (g := gb234) (o := .cells #[.int .i64 a0_0, .int .i64 a0_1, .int .i64 a0_2, .int .i64 a0_3, .int .i64 a0_4, .int .i64 a0_5] 36 (0, 0)) bk_) : gb235 ≠ gb234)); clear BK234; clear HB; have BK234 := n0_; have HB := n1_; have BK235 := n2_; have GW235 := n3_; have GE235 := n4_; have NB234_235 := n5_; have NB235_234 := n6_; clear n0_ n1_ n2_ n3_ n4_ n5_ n6_; clear hb hbox hg; have hnb8 := NB234_235.out; have hnc8 := NB235_234.out; obtain ⟨hcz9_0, hcz9_1, hcz9_2, hcz9_3, hcz9_4, hcz9_5⟩ := zrN BK234.out; obtain ⟨hfz9_0, hfz9_1, hfz9_2, hfz9_3, hfz9_4, hfz9_5⟩ := zoQ BK234.out; obtain ⟨hcz10_0, hcz10_1, hcz10_2, hcz10_3, hcz10_4, hcz10_5⟩ := zrN BK235.out; obtain ⟨hfz10_0, hfz10_1, hfz10_2, hfz10_3, hfz10_4, hfz10_5⟩ := zoQ BK235.out) | ((with_reducible refine zgK (f := 136) rfl ?_); refine zqQ (some 10) rfl rfl Tryd.func136 (by kernel_rfl) rfl #[.agg #[.int .i64 a0_0, .int .i64 a0_1, .int .i64 a0_2], .agg #[.int .i64 a1_0, .int .i64 a1_1, .int .i64 a1_2]] rfl (by (try simp only [List.map_toArray, List.map_cons, List.map_nil]); first | done | rfl | (simp only [List.length_drop, List.length_take]; rfl)) ?_; (with_reducible refine (ztF.calls k a0_0 a0_1 a0_2 a1_0 a1_1 a1_2 t236 _ A3.out).mono ?_); rintro e w11 ⟨rfl, hb⟩; refine ⟨_, rfl, ?_⟩; have n0_ := zpS (zgM (g := gb234) (o := .cells #[.int .i64 a0_0, .int .i64 a0_1, .int .i64 a0_2, .int .i64 a0_3, .int .i64 a0_4, .int .i64 a0_5] 36 (0, 0)) bk_ hb); have n1_ := zpS (zgM (g := gb235) (o := .cells #[.int .i64 a1_0, .int .i64 a1_1, .int .i64 a1_2, .int .i64 a1_3, .int .i64 a1_4, .int .i64 a1_5] 36 (0, 0)) bk_ hb); have n2_ := (ns_ hb); clear BK234; clear BK235; clear HB; have BK234 := n0_; have BK235 := n1_; have HB := n2_; clear n0_ n1_ n2_; (try clear hb); (try clear hb2); obtain ⟨hcz12_0, hcz12_1, hcz12_2, hcz12_3, hcz12_4, hcz12_5⟩ := zrN BK234.out; obtain ⟨hfz12_0, hfz12_1, hfz12_2, hfz12_3, hfz12_4, hfz12_5⟩ := zoQ BK234.out; obtain ⟨hcz13_0, hcz13_1, hcz13_2, hcz13_3, hcz13_4, hcz13_5⟩ := zrN BK235.out; obtain ⟨hfz13_0, hfz13_1, hfz13_2, hfz13_3, hfz13_4, hfz13_5⟩ := zoQ BK235.out) | ((with_reducible refine zgK (f := 136) rfl ?_); refine zqQ (some 18) rfl rfl Tryd.func136 (by kernel_rfl) rfl #[.agg #[.int .i64 a0_3, .int .i64 a0_4, .int .i64 a0_5], .agg #[.int .i64 a1_3, .int .i64 a1_4, .int .i64 a1_5]] rfl (by (try simp only [List.map_toArray, List.map_cons, List.map_nil]); first | done | rfl | (simp only [List.length_drop, List.length_take]; rfl)) ?_; (with_reducible refine (ztF.calls k a0_3 a0_4 a0_5 a1_3 a1_4 a1_5 t237 _ A5.out).mono ?_); rintro e w14 ⟨rfl, hb⟩; refine ⟨_, rfl, ?_⟩; have n0_ := zpS (zgM (g := gb234) (o := .cells #[.int .i64 a0_0, .int .i64 a0_1, .int .i64 a0_2, .int .i64 a0_3, .int .i64 a0_4, .int .i64 a0_5] 36 (0, 0)) bk_ hb); have n1_ := zpS (zgM (g := gb235) (o := .cells #[.int .i64 a1_0, .int .i64 a1_1, .int .i64 a1_2, .int .i64 a1_3, .int .i64 a1_4, .int .i64 a1_5] 36 (0, 0)) bk_ hb); have n2_ := (ns_ hb); clear BK234; clear BK235; clear HB; have BK234 := n0_; have BK235 := n1_; have HB := n2_; clear n0_ n1_ n2_; (try clear hb); (try clear hb2)))
  go_ret
  exact ⟨by first | rfl | (simp [ziS, znJ] <;> rfl) | (simp [*, ziS, znJ] <;> rfl), bb_⟩
 ·rw [if_neg c4] at H
  have c4b0 : (t236 == 0) = false := beq_eq_false_iff_ne.mpr c4
  have c4b1 : (t236 != 0) = true := bne_iff_ne.mpr c4
  obtain rfl := Option.some.inj H
  go_enter Tryd.func102, Tryd.ntmps102
  go_wp2_with (first | ((with_reducible refine zpZ (N := 2) rfl ?_); refine bx_ 2 #[.int .i64 a0_0, .int .i64 a0_1, .int .i64 a0_2, .int .i64 a0_3, .int .i64 a0_4, .int .i64 a0_5] 36 ?_; intro gb234 hg w15 hbox hb; have n0_ := (ns_ hb); have n1_ := zpS (hbox); have n2_ := (ng_ hg); have n3_ := n2_; clear HB; have HB := n0_; have BK234 := n1_; have GW234 := n2_; have GE234 := n3_; clear n0_ n1_ n2_ n3_; clear hb hbox hg) | ((with_reducible refine zpZ (N := 3) rfl ?_); refine bx_ 3 #[.int .i64 a1_0, .int .i64 a1_1, .int .i64 a1_2, .int .i64 a1_3, .int .i64 a1_4, .int .i64 a1_5] 36 ?_; intro gb235 hg w16 hbox hb; have n0_ := zpS (zgM (g := gb234) (o := .cells #[.int .i64 a0_0, .int .i64 a0_1, .int .i64 a0_2, .int .i64 a0_3, .int .i64 a0_4, .int .i64 a0_5] 36 (0, 0)) bk_ hb); have n1_ := (ns_ hb); have n2_ := zpS (hbox); have n3_ := (ng_ hg); have n4_ := n3_; have n5_ := zpS ((by rw [hg]; exact Nat.ne_of_lt (zmN (g := gb234) (o := .cells #[.int .i64 a0_0, .int .i64 a0_1, .int .i64 a0_2, .int .i64 a0_3, .int .i64 a0_4, .int .i64 a0_5] 36 (0, 0)) bk_) : gb234 ≠ gb235)); have n6_ := zpS ((by rw [hg]; exact Nat.ne_of_gt (zmN (g := gb234) (o := .cells #[.int .i64 a0_0, .int .i64 a0_1, .int .i64 a0_2, .int .i64 a0_3, .int .i64 a0_4, .int .i64 a0_5] 36 (0, 0)) bk_) : gb235 ≠ gb234)); clear BK234; clear HB; have BK234 := n0_; have HB := n1_; have BK235 := n2_; have GW235 := n3_; have GE235 := n4_; have NB234_235 := n5_; have NB235_234 := n6_; clear n0_ n1_ n2_ n3_ n4_ n5_ n6_; clear hb hbox hg; have hnb17 := NB234_235.out; have hnc17 := NB235_234.out; obtain ⟨hcz18_0, hcz18_1, hcz18_2, hcz18_3, hcz18_4, hcz18_5⟩ := zrN BK234.out; obtain ⟨hfz18_0, hfz18_1, hfz18_2, hfz18_3, hfz18_4, hfz18_5⟩ := zoQ BK234.out; obtain ⟨hcz19_0, hcz19_1, hcz19_2, hcz19_3, hcz19_4, hcz19_5⟩ := zrN BK235.out; obtain ⟨hfz19_0, hfz19_1, hfz19_2, hfz19_3, hfz19_4, hfz19_5⟩ := zoQ BK235.out) | ((with_reducible refine zgK (f := 136) rfl ?_); refine zqQ (some 10) rfl rfl Tryd.func136 (by kernel_rfl) rfl #[.agg #[.int .i64 a0_0, .int .i64 a0_1, .int .i64 a0_2], .agg #[.int .i64 a1_0, .int .i64 a1_1, .int .i64 a1_2]] rfl (by (try simp only [List.map_toArray, List.map_cons, List.map_nil]); first | done | rfl | (simp only [List.length_drop, List.length_take]; rfl)) ?_; (with_reducible refine (ztF.calls k a0_0 a0_1 a0_2 a1_0 a1_1 a1_2 t236 _ A3.out).mono ?_); rintro e w20 ⟨rfl, hb⟩; refine ⟨_, rfl, ?_⟩; have n0_ := zpS (zgM (g := gb234) (o := .cells #[.int .i64 a0_0, .int .i64 a0_1, .int .i64 a0_2, .int .i64 a0_3, .int .i64 a0_4, .int .i64 a0_5] 36 (0, 0)) bk_ hb); have n1_ := zpS (zgM (g := gb235) (o := .cells #[.int .i64 a1_0, .int .i64 a1_1, .int .i64 a1_2, .int .i64 a1_3, .int .i64 a1_4, .int .i64 a1_5] 36 (0, 0)) bk_ hb); have n2_ := (ns_ hb); clear BK234; clear BK235; clear HB; have BK234 := n0_; have BK235 := n1_; have HB := n2_; clear n0_ n1_ n2_; (try clear hb); (try clear hb2)))
  go_ret
  exact ⟨by first | rfl | (simp [ziS, znJ] <;> rfl) | (simp [*, ziS, znJ] <;> rfl), bb_⟩

end Go.Proofs.YtmajpmofeddknaaDoor.PFnExactValidPlaces
