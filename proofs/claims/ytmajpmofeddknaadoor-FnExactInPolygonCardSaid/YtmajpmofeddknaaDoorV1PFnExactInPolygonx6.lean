-- Printed for this claim by this session's program pp.py, which drives the kit's print with additions. Not trusted: Lean checks it.
import Derived.Test.YtmajpmofeddknaaDoorV1PFnExactInPolygonx0
import Derived.Test.YtmajpmofeddknaaDoorV1PFnExactInPolygonx3
import Derived.Test.YtmajpmofeddknaaDoorV1PFnExactInPolygonx5
namespace Go.Proofs.YtmajpmofeddknaaDoor.PFnExactInPolygon
open Go.RowKit Go.Proofs.YtmajpmofeddknaaDoorW.PrintWords Go.Proofs.YtmajpmofeddknaaDoorW.PrintLast Go.Proofs.YtmajpmofeddknaaDoorW.PrintMore
attribute [local go_sem] zeE zdX zeQ zeO zdK zdI zeA zeC   -- for this text's walks alone
set_option linter.unusedVariables false
set_option linter.unusedSimpArgs false

def zaS.l0 : Nat → List (S94) → List Int → Int → Option (List Int × Bool)
 | 0, _, _, _ => none
 | k + 1, x0, x4, x5 => if x5 < (x0.length : Int) then (if (x0.length : Int) = 0 then (none) else (if 0 ≤ (Int.tmod (wrap64 (x5 + 1)) (x0.length : Int)) then (if (Int.tmod (wrap64 (x5 + 1)) (x0.length : Int)) < (x0.length : Int) then (if 0 ≤ x5 then ((zbL.f k ((zbF x0 (Int.tmod (wrap64 (x5 + 1)) (x0.length : Int))).f0.f0) ((zbF x0 (Int.tmod (wrap64 (x5 + 1)) (x0.length : Int))).f0.f1) ((zbF x0 (Int.tmod (wrap64 (x5 + 1)) (x0.length : Int))).f0.f2) ((zbF x0 (Int.tmod (wrap64 (x5 + 1)) (x0.length : Int))).f1.f0) ((zbF x0 (Int.tmod (wrap64 (x5 + 1)) (x0.length : Int))).f1.f1) ((zbF x0 (Int.tmod (wrap64 (x5 + 1)) (x0.length : Int))).f1.f2) ((zbF x0 x5).f0.f0) ((zbF x0 x5).f0.f1) ((zbF x0 x5).f0.f2) ((zbF x0 x5).f1.f0) ((zbF x0 x5).f1.f1) ((zbF x0 x5).f1.f2)).bind fun bt242 => ((zaV.f k bt242.1 bt242.2.1 bt242.2.2.1 bt242.2.2.2.1 bt242.2.2.2.2.1 bt242.2.2.2.2.2).bind fun t248 => (if t248 < 0 then (some (([] : List Int), false)) else (if x4.length < 17592186044416 then (zaS.l0 k x0 (x4 ++ [t248]) (wrap64 (x5 + 1))) else (none))))) else (none)) else (none)) else (none))) else (some (x4, true))
def zaS.f (k : Nat) (l0 : List (S94)) : Option (List Int × Bool) := zaS.l0 k l0 (([] : List Int)) 0
theorem zaS.mono_l : ∀ k, (∀ y0 y1 y2, LeO (zaS.l0 k y0 y1 y2) (zaS.l0 (k + 1) y0 y1 y2))
 | 0 => fun _ _ _ r h => by simp [zaS.l0] at h
 | k + 1 => by
  have ih0 := zaS.mono_l k
  ·intro y0 y1 y2
   unfold zaS.l0
   repeat' first
   | (with_reducible exact ih0 _ _ _)
   | (with_reducible exact zaV.mono _ _ _ _ _ _ _)
   | (with_reducible exact zbL.mono _ _ _ _ _ _ _ _ _ _ _ _ _)
   | (with_reducible exact LeO.refl _)
   | (with_reducible exact LeO.none _)
   | (with_reducible refine LeO.ite ?_ ?_)
   | (with_reducible refine LeO.bind ?_ (fun _ => ?_))
   | exact ih0 _ _ _
   | exact zaV.mono _ _ _ _ _ _ _
   | exact zbL.mono _ _ _ _ _ _ _ _ _ _ _ _ _
   | exact LeO.none _
   | refine LeO.ite ?_ ?_
   | refine LeO.bind ?_ (fun _ => ?_)
theorem zaS.mono : ∀ a0 k, LeO (zaS.f k a0) (zaS.f (k + 1) a0) := by
 intro a0 k
 have ih0 := zaS.mono_l k
 unfold zaS.f
 repeat' first
   | (with_reducible exact ih0 _ _ _)
   | (with_reducible exact zaV.mono _ _ _ _ _ _ _)
   | (with_reducible exact zbL.mono _ _ _ _ _ _ _ _ _ _ _ _ _)
   | (with_reducible exact LeO.refl _)
   | (with_reducible exact LeO.none _)
   | (with_reducible refine LeO.ite ?_ ?_)
   | (with_reducible refine LeO.bind ?_ (fun _ => ?_))
   | exact ih0 _ _ _
   | exact zaV.mono _ _ _ _ _ _ _
   | exact zbL.mono _ _ _ _ _ _ _ _ _ _ _ _ _
   | exact LeO.none _
   | refine LeO.ite ?_ ?_
   | refine LeO.bind ?_ (fun _ => ?_)
def zaS.T5 : Bool × List (List Nat × List Nat) := (true, [([], []), ([], []), ([1], [1]), ([], []), ([3], [3]), ([2, 4], [2, 4]), ([0, 5], [0, 5]), ([6], [6]), ([], []), ([], []), ([8, 9], [8, 9]), ([10], [10]), ([7, 11], [7, 11]), ([12, 12], [12]), ([13, 13, 0, 1, 2, 3, 4, 5, 6, 7, 8, 9, 10, 11, 12, 13], [13])])
def zaS.B5 : List Nat := [0, 0, 2, 0, 8, 30, 63, 127, 0, 0, 768, 1792, 4095, 8191, 16383]
theorem zaS.tab5 : rtab .any (opsOf Tryd.f61 5) = zaS.T5 := by kernel_rfl
theorem zaS.bits5 : zdW zaS.T5.2 zaS.B5 = true := by kernel_rfl
set_option maxHeartbeats 8000000 in
set_option maxRecDepth 100000 in
theorem zaS.calls (k : Nat) (A0 : Option Addr) (c0 : Nat) (l0 : List (S94)) (r1 : List Int) (r2 : Bool) (w : World) (hr0 : Kd.C k94 w A0 l0.length l0) (hc0 : l0.length ≤ c0) (h : zaS.f k l0 = some (r1, r2)) :
  Calls Tryd.prog 61 #[.slice A0 l0.length c0] w fun e w' => ∃ v0_ : Value, e = .returned (.tuple #[v0_, .bool r2]) ∧ Kd.R (Kd.int .i64) 2 w' w.heap.size (fun _ => True) v0_ r1 ∧ Below w.heap.size w w' := by
 have hu94 := Tryd.underlying94
 have HR0 := zaJ hr0
 have HC0 := zaJ hc0
 clear hr0 hc0
 have HB := zaJ (Below.refl w.heap.size w)
 have H : (zaS.l0 k l0 (([] : List Int)) 0) = some (r1, r2) := h
 clear h
 obtain ⟨y237, hy237⟩ : ∃ y_ : List Int, y_ = (([] : List Int)) := ⟨_, rfl⟩
 replace H : (zaS.l0 k l0 y237 0) = some (r1, r2) := by first | (rw [hy237]; with_reducible exact H) | (have H2_ := (Option.bind_some _ _).symm.trans H; rw [hy237]; with_reducible exact H2_) | (have H2_ := (Option.bind_some _ _).symm.trans H; with_reducible exact H2_) | with_reducible exact H | (rw [hy237]; exact H) | exact H
 have Ny237 := zaJ hy237
 clear hy237
 have H' := zaJ H
 clear H
 go_enter Tryd.func61, Tryd.ntmps61
 go_wp2_with (first | ((with_reducible refine zaQ (N := 7) rfl ?_); refine Kd.R_lit (Kd.int .i64) _ 2 ?hg (N := 7) ?hd (xs := ([] : List Int)) (inner := []) (ok := fun _ => True) (okp := fun _ => True) ?hr ?hp (fun _ hk => hk) trivial (Below.refl _ _) (Nat.le_refl _) (by simp) ?_; (case hd => rfl); (case hg => rfl); (case hr => first | (go_simp; done) | (go_simp; rfl)); (case hp => exact (zfB.none _ _)); intro v238 w2 ho3 hb hg_ hnew_; clear hg_ hnew_; (first | rw [← Ny237.out] at ho3 | (simp only [Int.reduceToNat] at ho3; rw [← Ny237.out] at ho3)); have n0_ := zaJ (Kd.R_lower ho3 (zdA bb_)); have n1_ := (ns_ hb); clear HB; have HO239 := n0_; have HB := n1_; clear n0_ n1_; clear hb ho3))
 (try go_simp)
 go_loopg [4, 5] k (fun kq v4 v5 w' => ∃ (x4_1 : List Int) (x5_1 : Int), v5 = .int .i64 x5_1 ∧ Aside0 (zaS.l0 kq l0 x4_1 x5_1 = some (r1, r2)) ∧ Aside0 (kq ≤ k) ∧ Aside0 (Kd.R (Kd.int .i64) 2 w' w.heap.size (fun _ => True) v4 x4_1) ∧ Aside0 (Below w.heap.size w w'))
 case atStart => exact ⟨(y237), (0), (by first | rfl | (simp; done) | (simp [*]; done)), H', ⟨Nat.le_refl _⟩, ⟨by (with_reducible repeat (first | apply Kd.R_alloc | apply Kd.R_drewN | apply Kd.R_drew)); exact HO239.out⟩, ⟨bb_⟩⟩
 case round =>
  clear H'
  try clear p2
  obtain ⟨x4_1, x5_1, rfl, HA, HK1, HO_4, HB⟩ := hrel
  cases gk with
  | zero => exact absurd HA.out (by simp [zaS.l0])
  | succ k1 =>
   have H := HA.out
   clear HA
   simp only [zaS.l0] at H
   by_cases c4 : x5_1 < (l0.length : Int)
   ·rw [if_pos c4] at H
    have c4b0 : decide (x5_1 < (l0.length : Int)) = true := decide_eq_true c4
    clear c4
    by_cases c5 : (l0.length : Int) = 0
    ·rw [if_pos c5] at H
     exact absurd H (by simp)
    ·rw [if_neg c5] at H
     have c5b0 : ((l0.length : Int) == 0) = false := beq_eq_false_iff_ne.mpr c5
     have c5b1 : ((l0.length : Int) != 0) = true := bne_iff_ne.mpr c5
     have c5b2 : ¬ (l0 = []) := fun h_ => c5 (by rw [h_]; rfl)
     obtain ⟨ji6, hji6⟩ : ∃ j_ : Int, (Int.tmod (wrap64 (x5_1 + 1)) (l0.length : Int)) = j_ := ⟨_, rfl⟩
     replace H : (if 0 ≤ (ji6) then (if (ji6) < (l0.length : Int) then (if 0 ≤ x5_1 then ((zbL.f k1 ((zbF l0 (ji6)).f0.f0) ((zbF l0 (ji6)).f0.f1) ((zbF l0 (ji6)).f0.f2) ((zbF l0 (ji6)).f1.f0) ((zbF l0 (ji6)).f1.f1) ((zbF l0 (ji6)).f1.f2) ((zbF l0 x5_1).f0.f0) ((zbF l0 x5_1).f0.f1) ((zbF l0 x5_1).f0.f2) ((zbF l0 x5_1).f1.f0) ((zbF l0 x5_1).f1.f1) ((zbF l0 x5_1).f1.f2)).bind fun bt242 => ((zaV.f k1 bt242.1 bt242.2.1 bt242.2.2.1 bt242.2.2.2.1 bt242.2.2.2.2.1 bt242.2.2.2.2.2).bind fun t248 => (if t248 < 0 then (some (([] : List Int), false)) else (if x4_1.length < 17592186044416 then (zaS.l0 k1 l0 (x4_1 ++ [t248]) (wrap64 (x5_1 + 1))) else (none))))) else (none)) else (none)) else (none)) = some (r1, r2) := by first | (rw [hji6] at H; exact H) | (simp only [hji6] at H ⊢; exact H)
     by_cases c7 : 0 ≤ (ji6)
     ·rw [if_pos c7] at H
      have c7b0 : decide (0 ≤ (ji6)) = true := decide_eq_true c7
      clear c7
      by_cases c8 : (ji6) < (l0.length : Int)
      ·rw [if_pos c8] at H
       have c8b0 : decide ((ji6) < (l0.length : Int)) = true := decide_eq_true c8
       clear c8
       by_cases c9 : 0 ≤ x5_1
       ·rw [if_pos c9] at H
        have c9b0 : decide (0 ≤ x5_1) = true := decide_eq_true c9
        clear c9
        replace H := Option.bind_eq_some_iff.mp H
        obtain ⟨⟨t242, t243, t244, t245, t246, t247⟩, A100, H⟩ := H
        replace H : ((zaV.f k1 t242 t243 t244 t245 t246 t247).bind fun t248 => (if t248 < 0 then (some (([] : List Int), false)) else (if x4_1.length < 17592186044416 then (zaS.l0 k1 l0 (x4_1 ++ [t248]) (wrap64 (x5_1 + 1))) else (none)))) = some (r1, r2) := H
        have A10 := zaJ A100
        clear A100
        replace H := Option.bind_eq_some_iff.mp H
        obtain ⟨t248, A110, H⟩ := H
        replace H : (if t248 < 0 then (some (([] : List Int), false)) else (if x4_1.length < 17592186044416 then (zaS.l0 k1 l0 (x4_1 ++ [t248]) (wrap64 (x5_1 + 1))) else (none))) = some (r1, r2) := H
        have A11 := zaJ A110
        clear A110
        by_cases c12 : t248 < 0
        ·rw [if_pos c12] at H
         have c12b0 : decide (t248 < 0) = true := decide_eq_true c12
         clear c12
         simp only [Option.some.injEq, Prod.mk.injEq] at H
         obtain ⟨rfl, rfl⟩ := H
         try go_wp2
         have n0_ := zaJ (Kd.R_drew HO_4.out)
         have n1_ := zaJ (zbT HB.out)
         clear HO_4
         clear HB
         have HO_4 := n0_
         have HB := n1_
         clear n0_ n1_
         have p240 : 0 ≤ ((ji6) : Int) := of_decide_eq_true (by first | (with_reducible assumption) | assumption)
         have q240 : (ji6) < (l0.length : Int) := of_decide_eq_true (by first | (with_reducible assumption) | assumption)
         obtain ⟨ad240, e240, hx240_0, hx240_1, hx240_2, hx240_3, hx240_4, hx240_5⟩ := at_T94 HR0.out (ji6) p240 q240
         have hw240_5 := hx240_5
         have hw240_4 := hx240_4
         have hw240_3 := hx240_3
         have hw240_2 := hx240_2
         have hw240_1 := hx240_1
         have hw240_0 := hx240_0
         cases e240
         replace hx240_0 := zaR HB.out hx240_0
         replace hx240_1 := zaR HB.out hx240_1
         replace hx240_2 := zaR HB.out hx240_2
         replace hx240_3 := zaR HB.out hx240_3
         replace hx240_4 := zaR HB.out hx240_4
         replace hx240_5 := zaR HB.out hx240_5
         replace p240 := eq_true p240
         replace q240 := eq_true q240
         have p241 : 0 ≤ (x5_1 : Int) := of_decide_eq_true (by first | (with_reducible assumption) | assumption)
         have q241 : x5_1 < (l0.length : Int) := of_decide_eq_true (by first | (with_reducible assumption) | assumption)
         obtain ⟨ad241, e241, hx241_0, hx241_1, hx241_2, hx241_3, hx241_4, hx241_5⟩ := at_T94 HR0.out x5_1 p241 q241
         have hw241_5 := hx241_5
         have hw241_4 := hx241_4
         have hw241_3 := hx241_3
         have hw241_2 := hx241_2
         have hw241_1 := hx241_1
         have hw241_0 := hx241_0
         obtain rfl : ad240 = ad241 := (by injection e241)
         replace hx241_0 := zaR HB.out hx241_0
         replace hx241_1 := zaR HB.out hx241_1
         replace hx241_2 := zaR HB.out hx241_2
         replace hx241_3 := zaR HB.out hx241_3
         replace hx241_4 := zaR HB.out hx241_4
         replace hx241_5 := zaR HB.out hx241_5
         replace p241 := eq_true p241
         replace q241 := eq_true q241
         refine zdL (n := 15) (S := fun w' => w'.cell? (ad240.add (((ji6)).toNat * 6)) = some (.int .i64 ((zbF l0 (ji6)).f0.f0)) ∧ w'.cell? ⟨(ad240.add (((ji6)).toNat * 6)).block, (ad240.add (((ji6)).toNat * 6)).off + 1, none⟩ = some (.int .i64 ((zbF l0 (ji6)).f0.f1)) ∧ w'.cell? ⟨(ad240.add (((ji6)).toNat * 6)).block, (ad240.add (((ji6)).toNat * 6)).off + 2, none⟩ = some (.int .i64 ((zbF l0 (ji6)).f0.f2)) ∧ w'.cell? ⟨(ad240.add (((ji6)).toNat * 6)).block, (ad240.add (((ji6)).toNat * 6)).off + 3, none⟩ = some (.int .i64 ((zbF l0 (ji6)).f1.f0)) ∧ w'.cell? ⟨(ad240.add (((ji6)).toNat * 6)).block, (ad240.add (((ji6)).toNat * 6)).off + 4, none⟩ = some (.int .i64 ((zbF l0 (ji6)).f1.f1)) ∧ w'.cell? ⟨(ad240.add (((ji6)).toNat * 6)).block, (ad240.add (((ji6)).toNat * 6)).off + 5, none⟩ = some (.int .i64 ((zbF l0 (ji6)).f1.f2)) ∧ w'.cell? (ad240.add ((x5_1).toNat * 6)) = some (.int .i64 ((zbF l0 x5_1).f0.f0)) ∧ w'.cell? ⟨(ad240.add ((x5_1).toNat * 6)).block, (ad240.add ((x5_1).toNat * 6)).off + 1, none⟩ = some (.int .i64 ((zbF l0 x5_1).f0.f1)) ∧ w'.cell? ⟨(ad240.add ((x5_1).toNat * 6)).block, (ad240.add ((x5_1).toNat * 6)).off + 2, none⟩ = some (.int .i64 ((zbF l0 x5_1).f0.f2)) ∧ w'.cell? ⟨(ad240.add ((x5_1).toNat * 6)).block, (ad240.add ((x5_1).toNat * 6)).off + 3, none⟩ = some (.int .i64 ((zbF l0 x5_1).f1.f0)) ∧ w'.cell? ⟨(ad240.add ((x5_1).toNat * 6)).block, (ad240.add ((x5_1).toNat * 6)).off + 4, none⟩ = some (.int .i64 ((zbF l0 x5_1).f1.f1)) ∧ w'.cell? ⟨(ad240.add ((x5_1).toNat * 6)).block, (ad240.add ((x5_1).toNat * 6)).off + 5, none⟩ = some (.int .i64 ((zbF l0 x5_1).f1.f2))) (ds := []) #[false, false, false, false, false, false, false, false, false, false, false, false, false, false, false] (by kernel_rfl) rfl rfl ⟨(zaR HB.out hw240_0), (zaR HB.out hw240_1), (zaR HB.out hw240_2), (zaR HB.out hw240_3), (zaR HB.out hw240_4), (zaR HB.out hw240_5), (zaR HB.out hw241_0), (zaR HB.out hw241_1), (zaR HB.out hw241_2), (zaR HB.out hw241_3), (zaR HB.out hw241_4), (zaR HB.out hw241_5)⟩ (fun hHeld => ?_); refine zcN zaS.tab5 zaS.bits5 (fun HT_ HW_ => ?_)
         generalize wr.drew = w13 at HO_4 HB hx240_0 hx240_1 hx240_2 hx240_3 hx240_4 hx240_5 hx241_0 hx241_1 hx241_2 hx241_3 hx241_4 hx241_5 hHeld ⊢
         refine pu_ 0 (some 14) (bl_ 15 1) ?_
         refine pu_ 1 (some 15) (bl_ 15 3) ?_
         refine pu_ 2 (some 16) (bl_ 15 7) ?_
         refine pu_ 3 (some 17) (bl_ 15 15) ?_
         refine pu_ 4 (some 18) (bl_ 15 31) ?_
         refine pu_ 5 (some 19) (bl_ 15 63) ?_
         refine pu_ 6 (some 20) (bl_ 15 127) ?_
         refine pu_ 8 (some 22) (bl_ 15 383) ?_
         refine pu_ 9 (some 23) (bl_ 15 895) ?_
         refine pu_ 10 (some 24) (bl_ 15 1919) ?_
         refine zeJ 7 (some 21) (bl_ 15 2047) hHeld ?_
         refine zeJ 11 (some 25) (bl_ 15 4095) hHeld ?_
         refine zeK (i := 12) (N := some 26) (bl_ 15 8191) rfl rfl (zcK HT_.out (by kernel_rfl)) (by decide) (fun K hK => ?_)
         refine zcY Tryd.func111 (by kernel_rfl) rfl #[.agg #[.int .i64 ((zbF l0 (ji6)).f0.f0), .int .i64 ((zbF l0 (ji6)).f0.f1), .int .i64 ((zbF l0 (ji6)).f0.f2), .int .i64 ((zbF l0 (ji6)).f1.f0), .int .i64 ((zbF l0 (ji6)).f1.f1), .int .i64 ((zbF l0 (ji6)).f1.f2)], .agg #[.int .i64 ((zbF l0 x5_1).f0.f0), .int .i64 ((zbF l0 x5_1).f0.f1), .int .i64 ((zbF l0 x5_1).f0.f2), .int .i64 ((zbF l0 x5_1).f1.f0), .int .i64 ((zbF l0 x5_1).f1.f1), .int .i64 ((zbF l0 x5_1).f1.f2)]] (by rfl) rfl rfl (by (try simp only [List.map_toArray, List.map_cons, List.map_nil]); first | done | (simp only [hji6]; rfl) | rfl | (simp only [List.length_drop, List.length_take]; rfl)) ?_
         with_reducible refine (zbL.calls k1 ((zbF l0 (ji6)).f0.f0) ((zbF l0 (ji6)).f0.f1) ((zbF l0 (ji6)).f0.f2) ((zbF l0 (ji6)).f1.f0) ((zbF l0 (ji6)).f1.f1) ((zbF l0 (ji6)).f1.f2) ((zbF l0 x5_1).f0.f0) ((zbF l0 x5_1).f0.f1) ((zbF l0 x5_1).f0.f2) ((zbF l0 x5_1).f1.f0) ((zbF l0 x5_1).f1.f1) ((zbF l0 x5_1).f1.f2) t242 t243 t244 t245 t246 t247 _ A10.out).mono ?_
         rintro e w14 ⟨rfl, hb⟩
         refine ⟨_, rfl, ?_⟩
         have n0_ := zaJ (Kd.R_below (by (with_reducible repeat (first | apply Kd.R_alloc | apply Kd.R_drewN | apply Kd.R_drew)); exact HO_4.out) hb)
         have n1_ := (ns_ hb)
         clear HO_4
         clear HB
         have HO_4 := n0_
         have HB := n1_
         clear n0_ n1_
         (try clear hb)
         (try clear hb2)
         (try clear hk)
         (try clear hi)
         refine hK.out _ _ ⟨(zaR HB.out hw240_0), (zaR HB.out hw240_1), (zaR HB.out hw240_2), (zaR HB.out hw240_3), (zaR HB.out hw240_4), (zaR HB.out hw240_5), (zaR HB.out hw241_0), (zaR HB.out hw241_1), (zaR HB.out hw241_2), (zaR HB.out hw241_3), (zaR HB.out hw241_4), (zaR HB.out hw241_5)⟩ (fun hHeld => ?_)
         clear hK K
         refine zcX (a' := ?_) ?_ ?_
         rotate_left
         ·show Act.put _ (some 26) _ = _
          simp only [Act.put, List.setIfInBounds_toArray, List.set_cons_zero, List.set_cons_succ, zbW, zbY]
          rfl
         refine zeK (i := 13) (N := some 27) (bl_ 15 16383) rfl rfl (zcK HT_.out (by kernel_rfl)) (by decide) (fun K hK => ?_)
         refine zcY Tryd.func110 (by kernel_rfl) rfl #[.agg #[.int .i64 t242, .int .i64 t243, .int .i64 t244, .int .i64 t245, .int .i64 t246, .int .i64 t247]] (by rfl) rfl rfl (by (try simp only [List.map_toArray, List.map_cons, List.map_nil]); first | done | rfl | (simp only [List.length_drop, List.length_take]; rfl)) ?_
         with_reducible refine (zaV.calls k1 t242 t243 t244 t245 t246 t247 t248 _ A11.out).mono ?_
         rintro e w15 ⟨rfl, hb⟩
         refine ⟨_, rfl, ?_⟩
         have n0_ := zaJ (Kd.R_below (by (with_reducible repeat (first | apply Kd.R_alloc | apply Kd.R_drewN | apply Kd.R_drew)); exact HO_4.out) hb)
         have n1_ := (ns_ hb)
         clear HO_4
         clear HB
         have HO_4 := n0_
         have HB := n1_
         clear n0_ n1_
         (try clear hb)
         (try clear hb2)
         (try clear hk)
         (try clear hi)
         refine hK.out _ _ ⟨(zaR HB.out hw240_0), (zaR HB.out hw240_1), (zaR HB.out hw240_2), (zaR HB.out hw240_3), (zaR HB.out hw240_4), (zaR HB.out hw240_5), (zaR HB.out hw241_0), (zaR HB.out hw241_1), (zaR HB.out hw241_2), (zaR HB.out hw241_3), (zaR HB.out hw241_4), (zaR HB.out hw241_5)⟩ (fun hHeld => ?_)
         clear hK K
         refine zcX (a' := ?_) ?_ ?_
         rotate_left
         ·show Act.put _ (some 27) _ = _
          simp only [Act.put, List.setIfInBounds_toArray, List.set_cons_zero, List.set_cons_succ, zbW, zbY]
          rfl
         refine pu_ 14 (some 6) (bl_ 15 32767) ?_
         refine zeS (zdD HT_.out (by kernel_rfl)) ?_
         try go_wp2
         go_ret2
         exact ⟨_, by first | rfl | (simp [zaI, zaH] <;> rfl) | (simp only [← hji6]; first | rfl | (simp [zaI, zaH] <;> rfl)) | (simp [*, zaI, zaH] <;> rfl), by first | exact Kd.R_nil _ _ _ _ _ | exact Kd.N_nil _ _ _ _ _ | exact Kd.V_nil _ _ _ _ _ | exact Kd.Q_nil _ _ _ _ _ | exact Kd.S_nil _ _ _ _ _, bb_⟩
        ·rw [if_neg c12] at H
         have c12b0 : decide (t248 < 0) = false := decide_eq_false c12
         clear c12
         by_cases c16 : x4_1.length < 17592186044416
         ·rw [if_pos c16] at H
          have LMc16 := zaJ c16
          clear c16
          obtain ⟨y249, hy249⟩ : ∃ y_ : List Int, y_ = (x4_1 ++ [t248]) := ⟨_, rfl⟩
          replace H : (zaS.l0 k1 l0 y249 (wrap64 (x5_1 + 1))) = some (r1, r2) := by first | (rw [hy249]; with_reducible exact H) | (have H2_ := (Option.bind_some _ _).symm.trans H; rw [hy249]; with_reducible exact H2_) | (have H2_ := (Option.bind_some _ _).symm.trans H; with_reducible exact H2_) | with_reducible exact H | (rw [hy249]; exact H) | exact H
          have Ny249 := zaJ hy249
          clear hy249
          have H' := zaJ H
          clear H
          try go_wp2
          have n0_ := zaJ (Kd.R_drew HO_4.out)
          have n1_ := zaJ (zbT HB.out)
          clear HO_4
          clear HB
          have HO_4 := n0_
          have HB := n1_
          clear n0_ n1_
          have p240 : 0 ≤ ((ji6) : Int) := of_decide_eq_true (by first | (with_reducible assumption) | assumption)
          have q240 : (ji6) < (l0.length : Int) := of_decide_eq_true (by first | (with_reducible assumption) | assumption)
          obtain ⟨ad240, e240, hx240_0, hx240_1, hx240_2, hx240_3, hx240_4, hx240_5⟩ := at_T94 HR0.out (ji6) p240 q240
          have hw240_5 := hx240_5
          have hw240_4 := hx240_4
          have hw240_3 := hx240_3
          have hw240_2 := hx240_2
          have hw240_1 := hx240_1
          have hw240_0 := hx240_0
          cases e240
          replace hx240_0 := zaR HB.out hx240_0
          replace hx240_1 := zaR HB.out hx240_1
          replace hx240_2 := zaR HB.out hx240_2
          replace hx240_3 := zaR HB.out hx240_3
          replace hx240_4 := zaR HB.out hx240_4
          replace hx240_5 := zaR HB.out hx240_5
          replace p240 := eq_true p240
          replace q240 := eq_true q240
          have p241 : 0 ≤ (x5_1 : Int) := of_decide_eq_true (by first | (with_reducible assumption) | assumption)
          have q241 : x5_1 < (l0.length : Int) := of_decide_eq_true (by first | (with_reducible assumption) | assumption)
          obtain ⟨ad241, e241, hx241_0, hx241_1, hx241_2, hx241_3, hx241_4, hx241_5⟩ := at_T94 HR0.out x5_1 p241 q241
          have hw241_5 := hx241_5
          have hw241_4 := hx241_4
          have hw241_3 := hx241_3
          have hw241_2 := hx241_2
          have hw241_1 := hx241_1
          have hw241_0 := hx241_0
          obtain rfl : ad240 = ad241 := (by injection e241)
          replace hx241_0 := zaR HB.out hx241_0
          replace hx241_1 := zaR HB.out hx241_1
          replace hx241_2 := zaR HB.out hx241_2
          replace hx241_3 := zaR HB.out hx241_3
          replace hx241_4 := zaR HB.out hx241_4
          replace hx241_5 := zaR HB.out hx241_5
          replace p241 := eq_true p241
          replace q241 := eq_true q241
          refine zdL (n := 15) (S := fun w' => w'.cell? (ad240.add (((ji6)).toNat * 6)) = some (.int .i64 ((zbF l0 (ji6)).f0.f0)) ∧ w'.cell? ⟨(ad240.add (((ji6)).toNat * 6)).block, (ad240.add (((ji6)).toNat * 6)).off + 1, none⟩ = some (.int .i64 ((zbF l0 (ji6)).f0.f1)) ∧ w'.cell? ⟨(ad240.add (((ji6)).toNat * 6)).block, (ad240.add (((ji6)).toNat * 6)).off + 2, none⟩ = some (.int .i64 ((zbF l0 (ji6)).f0.f2)) ∧ w'.cell? ⟨(ad240.add (((ji6)).toNat * 6)).block, (ad240.add (((ji6)).toNat * 6)).off + 3, none⟩ = some (.int .i64 ((zbF l0 (ji6)).f1.f0)) ∧ w'.cell? ⟨(ad240.add (((ji6)).toNat * 6)).block, (ad240.add (((ji6)).toNat * 6)).off + 4, none⟩ = some (.int .i64 ((zbF l0 (ji6)).f1.f1)) ∧ w'.cell? ⟨(ad240.add (((ji6)).toNat * 6)).block, (ad240.add (((ji6)).toNat * 6)).off + 5, none⟩ = some (.int .i64 ((zbF l0 (ji6)).f1.f2)) ∧ w'.cell? (ad240.add ((x5_1).toNat * 6)) = some (.int .i64 ((zbF l0 x5_1).f0.f0)) ∧ w'.cell? ⟨(ad240.add ((x5_1).toNat * 6)).block, (ad240.add ((x5_1).toNat * 6)).off + 1, none⟩ = some (.int .i64 ((zbF l0 x5_1).f0.f1)) ∧ w'.cell? ⟨(ad240.add ((x5_1).toNat * 6)).block, (ad240.add ((x5_1).toNat * 6)).off + 2, none⟩ = some (.int .i64 ((zbF l0 x5_1).f0.f2)) ∧ w'.cell? ⟨(ad240.add ((x5_1).toNat * 6)).block, (ad240.add ((x5_1).toNat * 6)).off + 3, none⟩ = some (.int .i64 ((zbF l0 x5_1).f1.f0)) ∧ w'.cell? ⟨(ad240.add ((x5_1).toNat * 6)).block, (ad240.add ((x5_1).toNat * 6)).off + 4, none⟩ = some (.int .i64 ((zbF l0 x5_1).f1.f1)) ∧ w'.cell? ⟨(ad240.add ((x5_1).toNat * 6)).block, (ad240.add ((x5_1).toNat * 6)).off + 5, none⟩ = some (.int .i64 ((zbF l0 x5_1).f1.f2))) (ds := []) #[false, false, false, false, false, false, false, false, false, false, false, false, false, false, false] (by kernel_rfl) rfl rfl ⟨(zaR HB.out hw240_0), (zaR HB.out hw240_1), (zaR HB.out hw240_2), (zaR HB.out hw240_3), (zaR HB.out hw240_4), (zaR HB.out hw240_5), (zaR HB.out hw241_0), (zaR HB.out hw241_1), (zaR HB.out hw241_2), (zaR HB.out hw241_3), (zaR HB.out hw241_4), (zaR HB.out hw241_5)⟩ (fun hHeld => ?_); refine zcN zaS.tab5 zaS.bits5 (fun HT_ HW_ => ?_)
          generalize wr.drew = w17 at HO_4 HB hx240_0 hx240_1 hx240_2 hx240_3 hx240_4 hx240_5 hx241_0 hx241_1 hx241_2 hx241_3 hx241_4 hx241_5 hHeld ⊢
          refine pu_ 0 (some 14) (bl_ 15 1) ?_
          refine pu_ 1 (some 15) (bl_ 15 3) ?_
          refine pu_ 2 (some 16) (bl_ 15 7) ?_
          refine pu_ 3 (some 17) (bl_ 15 15) ?_
          refine pu_ 4 (some 18) (bl_ 15 31) ?_
          refine pu_ 5 (some 19) (bl_ 15 63) ?_
          refine pu_ 6 (some 20) (bl_ 15 127) ?_
          refine pu_ 8 (some 22) (bl_ 15 383) ?_
          refine pu_ 9 (some 23) (bl_ 15 895) ?_
          refine pu_ 10 (some 24) (bl_ 15 1919) ?_
          refine zeJ 7 (some 21) (bl_ 15 2047) hHeld ?_
          refine zeJ 11 (some 25) (bl_ 15 4095) hHeld ?_
          refine zeK (i := 12) (N := some 26) (bl_ 15 8191) rfl rfl (zcK HT_.out (by kernel_rfl)) (by decide) (fun K hK => ?_)
          refine zcY Tryd.func111 (by kernel_rfl) rfl #[.agg #[.int .i64 ((zbF l0 (ji6)).f0.f0), .int .i64 ((zbF l0 (ji6)).f0.f1), .int .i64 ((zbF l0 (ji6)).f0.f2), .int .i64 ((zbF l0 (ji6)).f1.f0), .int .i64 ((zbF l0 (ji6)).f1.f1), .int .i64 ((zbF l0 (ji6)).f1.f2)], .agg #[.int .i64 ((zbF l0 x5_1).f0.f0), .int .i64 ((zbF l0 x5_1).f0.f1), .int .i64 ((zbF l0 x5_1).f0.f2), .int .i64 ((zbF l0 x5_1).f1.f0), .int .i64 ((zbF l0 x5_1).f1.f1), .int .i64 ((zbF l0 x5_1).f1.f2)]] (by rfl) rfl rfl (by (try simp only [List.map_toArray, List.map_cons, List.map_nil]); first | done | (simp only [hji6]; rfl) | rfl | (simp only [List.length_drop, List.length_take]; rfl)) ?_
          with_reducible refine (zbL.calls k1 ((zbF l0 (ji6)).f0.f0) ((zbF l0 (ji6)).f0.f1) ((zbF l0 (ji6)).f0.f2) ((zbF l0 (ji6)).f1.f0) ((zbF l0 (ji6)).f1.f1) ((zbF l0 (ji6)).f1.f2) ((zbF l0 x5_1).f0.f0) ((zbF l0 x5_1).f0.f1) ((zbF l0 x5_1).f0.f2) ((zbF l0 x5_1).f1.f0) ((zbF l0 x5_1).f1.f1) ((zbF l0 x5_1).f1.f2) t242 t243 t244 t245 t246 t247 _ A10.out).mono ?_
          rintro e w18 ⟨rfl, hb⟩
          refine ⟨_, rfl, ?_⟩
          have n0_ := zaJ (Kd.R_below (by (with_reducible repeat (first | apply Kd.R_alloc | apply Kd.R_drewN | apply Kd.R_drew)); exact HO_4.out) hb)
          have n1_ := (ns_ hb)
          clear HO_4
          clear HB
          have HO_4 := n0_
          have HB := n1_
          clear n0_ n1_
          (try clear hb)
          (try clear hb2)
          (try clear hk)
          (try clear hi)
          refine hK.out _ _ ⟨(zaR HB.out hw240_0), (zaR HB.out hw240_1), (zaR HB.out hw240_2), (zaR HB.out hw240_3), (zaR HB.out hw240_4), (zaR HB.out hw240_5), (zaR HB.out hw241_0), (zaR HB.out hw241_1), (zaR HB.out hw241_2), (zaR HB.out hw241_3), (zaR HB.out hw241_4), (zaR HB.out hw241_5)⟩ (fun hHeld => ?_)
          clear hK K
          refine zcX (a' := ?_) ?_ ?_
          rotate_left
          ·show Act.put _ (some 26) _ = _
           simp only [Act.put, List.setIfInBounds_toArray, List.set_cons_zero, List.set_cons_succ, zbW, zbY]
           rfl
          refine zeK (i := 13) (N := some 27) (bl_ 15 16383) rfl rfl (zcK HT_.out (by kernel_rfl)) (by decide) (fun K hK => ?_)
          refine zcY Tryd.func110 (by kernel_rfl) rfl #[.agg #[.int .i64 t242, .int .i64 t243, .int .i64 t244, .int .i64 t245, .int .i64 t246, .int .i64 t247]] (by rfl) rfl rfl (by (try simp only [List.map_toArray, List.map_cons, List.map_nil]); first | done | rfl | (simp only [List.length_drop, List.length_take]; rfl)) ?_
          with_reducible refine (zaV.calls k1 t242 t243 t244 t245 t246 t247 t248 _ A11.out).mono ?_
          rintro e w19 ⟨rfl, hb⟩
          refine ⟨_, rfl, ?_⟩
          have n0_ := zaJ (Kd.R_below (by (with_reducible repeat (first | apply Kd.R_alloc | apply Kd.R_drewN | apply Kd.R_drew)); exact HO_4.out) hb)
          have n1_ := (ns_ hb)
          clear HO_4
          clear HB
          have HO_4 := n0_
          have HB := n1_
          clear n0_ n1_
          (try clear hb)
          (try clear hb2)
          (try clear hk)
          (try clear hi)
          refine hK.out _ _ ⟨(zaR HB.out hw240_0), (zaR HB.out hw240_1), (zaR HB.out hw240_2), (zaR HB.out hw240_3), (zaR HB.out hw240_4), (zaR HB.out hw240_5), (zaR HB.out hw241_0), (zaR HB.out hw241_1), (zaR HB.out hw241_2), (zaR HB.out hw241_3), (zaR HB.out hw241_4), (zaR HB.out hw241_5)⟩ (fun hHeld => ?_)
          clear hK K
          refine zcX (a' := ?_) ?_ ?_
          rotate_left
          ·show Act.put _ (some 27) _ = _
           simp only [Act.put, List.setIfInBounds_toArray, List.set_cons_zero, List.set_cons_succ, zbW, zbY]
           rfl
          refine pu_ 14 (some 6) (bl_ 15 32767) ?_
          refine zeS (zdD HT_.out (by kernel_rfl)) ?_
          try go_wp2_with (first | ((with_reducible refine gate_builtin (b := .append) (xs := #[.tmp 30, .tmp 32]) rfl ?_); at_builtin; refine Kd.R_append (Kd.int .i64) (w0 := w) w.heap.size rfl (.tmp 30) (.tmp 32) 87 2 (.int .i64 0) 8 rfl Tryd.underlying87 info2 rfl (by decide) (by omega) u4 x4_1 t248 [.int .i64 t248] (fun _ => True) (fun _ => False) rfl rfl ?aP (fun _ hk => hk.elim) ?aF ?aO ?aB ?aS ?aL ?_; (case aP => exact rfl); (case aB => exact bb_); (case aF => exact (fun _ _ => trivial)); (case aO => exact (by (with_reducible repeat (first | apply Kd.R_alloc | apply Kd.R_drewN | apply Kd.R_drew)); exact HO_4.out)); (case aS => exact (zdA bb_)); (case aL => have := LMc16.out; omega); intro v250 w20 ho hb hg hat; rw [← Ny249.out] at ho; have n0_ := zaJ (hb); have n1_ := zaJ (ho); clear HB; clear HO_4; have HB := n0_; have HO251 := n1_; clear n0_ n1_; clear ho hb hg hat))
          go_roundg k1
          case measure => have := HK1.out; omega
          case rel => exact ⟨(y249), (wrap64 (x5_1 + 1)), (by first | rfl | (simp; done) | (simp [*]; done)), H', ⟨by have := HK1.out; omega⟩, ⟨by (with_reducible repeat (first | apply Kd.R_alloc | apply Kd.R_drewN | apply Kd.R_drew)); exact HO251.out⟩, ⟨bb_⟩⟩
         ·rw [if_neg c16] at H
          exact absurd H (by simp)
       ·rw [if_neg c9] at H
        exact absurd H (by simp)
      ·rw [if_neg c8] at H
       exact absurd H (by simp)
     ·rw [if_neg c7] at H
      exact absurd H (by simp)
   ·rw [if_neg c4] at H
    have c4b0 : decide (x5_1 < (l0.length : Int)) = false := decide_eq_false c4
    clear c4
    simp only [Option.some.injEq, Prod.mk.injEq] at H
    obtain ⟨rfl, rfl⟩ := H
    go_wp2
    go_ret2
    exact ⟨_, by first | rfl | (simp [zaI, zaH] <;> rfl) | (simp [*, zaI, zaH] <;> rfl), by (with_reducible repeat (first | apply Kd.R_alloc | apply Kd.R_drewN | apply Kd.R_drew)); exact HO_4.out, bb_⟩

def zcF.f (k : Nat) (a0_0 : Int) (a0_1 : Int) (a0_2 : Int) (a1_0 : Int) (a1_1 : Int) (a1_2 : Int) : Option (Int) := (zcZ.f a0_0 a0_1 a0_2).bind fun bt254 => ((zcZ.f a1_0 a1_1 a1_2).bind fun bt257 => ((zcI.f k bt254.1 bt254.2.1 bt254.2.2 bt257.1 bt257.2.1 bt257.2.2).bind fun bt260 => ((zaO.f k bt260.1 bt260.2.1 bt260.2.2).bind fun t263 => (some t263))))
theorem zcF.mono : ∀ a0 a1 a2 a3 a4 a5 k, LeO (zcF.f k a0 a1 a2 a3 a4 a5) (zcF.f (k + 1) a0 a1 a2 a3 a4 a5) := by
 intro a0 a1 a2 a3 a4 a5 k
 unfold zcF.f
 repeat' first
   | (with_reducible exact zaO.mono _ _ _ _)
   | (with_reducible exact zcI.mono _ _ _ _ _ _ _)
   | (with_reducible exact LeO.refl _)
   | (with_reducible exact LeO.none _)
   | (with_reducible refine LeO.ite ?_ ?_)
   | (with_reducible refine LeO.bind ?_ (fun _ => ?_))
   | exact zaO.mono _ _ _ _
   | exact zcI.mono _ _ _ _ _ _ _
   | exact LeO.none _
   | refine LeO.ite ?_ ?_
   | refine LeO.bind ?_ (fun _ => ?_)
set_option maxHeartbeats 8000000 in
set_option maxRecDepth 100000 in
theorem zcF.calls (k : Nat) (a0_0 : Int) (a0_1 : Int) (a0_2 : Int) (a1_0 : Int) (a1_1 : Int) (a1_2 : Int) (r : Int) (w : World) (h : zcF.f k a0_0 a0_1 a0_2 a1_0 a1_1 a1_2 = some r) :
  Calls Tryd.prog 136 #[.agg #[.int .i64 a0_0, .int .i64 a0_1, .int .i64 a0_2], .agg #[.int .i64 a1_0, .int .i64 a1_1, .int .i64 a1_2]] w fun e w' => e = .returned (.int .i64 r) ∧ Below w.heap.size w w' := by
 have hu34 := Tryd.underlying34
 have HB := zaJ (Below.refl w.heap.size w)
 have H : ((zcZ.f a0_0 a0_1 a0_2).bind fun bt254 => ((zcZ.f a1_0 a1_1 a1_2).bind fun bt257 => ((zcI.f k bt254.1 bt254.2.1 bt254.2.2 bt257.1 bt257.2.1 bt257.2.2).bind fun bt260 => ((zaO.f k bt260.1 bt260.2.1 bt260.2.2).bind fun t263 => (some t263))))) = some r := h
 clear h
 replace H := Option.bind_eq_some_iff.mp H
 obtain ⟨⟨t254, t255, t256⟩, A30, H⟩ := H
 replace H : ((zcZ.f a1_0 a1_1 a1_2).bind fun bt257 => ((zcI.f k t254 t255 t256 bt257.1 bt257.2.1 bt257.2.2).bind fun bt260 => ((zaO.f k bt260.1 bt260.2.1 bt260.2.2).bind fun t263 => (some t263)))) = some r := H
 have A3 := zaJ A30
 clear A30
 replace H := Option.bind_eq_some_iff.mp H
 obtain ⟨⟨t257, t258, t259⟩, A40, H⟩ := H
 replace H : ((zcI.f k t254 t255 t256 t257 t258 t259).bind fun bt260 => ((zaO.f k bt260.1 bt260.2.1 bt260.2.2).bind fun t263 => (some t263))) = some r := H
 have A4 := zaJ A40
 clear A40
 replace H := Option.bind_eq_some_iff.mp H
 obtain ⟨⟨t260, t261, t262⟩, A50, H⟩ := H
 replace H : ((zaO.f k t260 t261 t262).bind fun t263 => (some t263)) = some r := H
 have A5 := zaJ A50
 clear A50
 replace H := Option.bind_eq_some_iff.mp H
 obtain ⟨t263, A60, H⟩ := H
 replace H : (some t263) = some r := H
 have A6 := zaJ A60
 clear A60
 obtain rfl := Option.some.inj H
 go_enter Tryd.func136, Tryd.ntmps136
 try go_wp2_with (first | ((with_reducible refine zaQ (N := 2) rfl ?_); refine bx_ 2 #[.int .i64 a0_0, .int .i64 a0_1, .int .i64 a0_2] 34 ?_; intro gb252 hg w7 hbox hb; have n0_ := (ns_ hb); have n1_ := zaJ (hbox); have n2_ := (ng_ hg); have n3_ := n2_; clear HB; have HB := n0_; have BK252 := n1_; have GW252 := n2_; have GE252 := n3_; clear n0_ n1_ n2_ n3_; clear hb hbox hg) | ((with_reducible refine zaQ (N := 3) rfl ?_); refine bx_ 3 #[.int .i64 a1_0, .int .i64 a1_1, .int .i64 a1_2] 34 ?_; intro gb253 hg w8 hbox hb; have n0_ := zaJ (zaG (g := gb252) (o := .cells #[.int .i64 a0_0, .int .i64 a0_1, .int .i64 a0_2] 34 (0, 0)) bk_ hb); have n1_ := (ns_ hb); have n2_ := zaJ (hbox); have n3_ := (ng_ hg); have n4_ := n3_; have n5_ := zaJ ((by rw [hg]; exact Nat.ne_of_lt (zbC (g := gb252) (o := .cells #[.int .i64 a0_0, .int .i64 a0_1, .int .i64 a0_2] 34 (0, 0)) bk_) : gb252 ≠ gb253)); have n6_ := zaJ ((by rw [hg]; exact Nat.ne_of_gt (zbC (g := gb252) (o := .cells #[.int .i64 a0_0, .int .i64 a0_1, .int .i64 a0_2] 34 (0, 0)) bk_) : gb253 ≠ gb252)); clear BK252; clear HB; have BK252 := n0_; have HB := n1_; have BK253 := n2_; have GW253 := n3_; have GE253 := n4_; have NB252_253 := n5_; have NB253_252 := n6_; clear n0_ n1_ n2_ n3_ n4_ n5_ n6_; clear hb hbox hg))
 have n0_ := zaJ (zaE BK252.out)
 have n1_ := zaJ (zaE BK253.out)
 have n2_ := zaJ (zbT HB.out)
 clear BK252
 clear BK253
 clear HB
 have BK252 := n0_
 have BK253 := n1_
 have HB := n2_
 clear n0_ n1_ n2_
 refine zdL (n := 7) (S := fun w' => w'.cell? ⟨gb252, 0, none⟩ = some (.int .i64 a0_0) ∧ w'.cell? ⟨gb252, 1, none⟩ = some (.int .i64 a0_1) ∧ w'.cell? ⟨gb252, 2, none⟩ = some (.int .i64 a0_2) ∧ w'.cell? ⟨gb253, 0, none⟩ = some (.int .i64 a1_0) ∧ w'.cell? ⟨gb253, 1, none⟩ = some (.int .i64 a1_1) ∧ w'.cell? ⟨gb253, 2, none⟩ = some (.int .i64 a1_2)) (ds := []) #[false, false, false, false, false, false, false] (by kernel_rfl) rfl rfl ⟨(zaB BK252.out 0).trans rfl, (zaB BK252.out 1).trans rfl, (zaB BK252.out 2).trans rfl, (zaB BK253.out 0).trans rfl, (zaB BK253.out 1).trans rfl, (zaB BK253.out 2).trans rfl⟩ (fun hHeld => ?_)
 generalize w8.drew = w9 at BK252 BK253 HB hHeld ⊢
 refine take_ (i := 0) (N := some 5) (v := ?_) (a' := ?_) (bl_ 7 1) rfl rfl (by kernel_rfl) (fun _ _ _ h => h) (Or.inl ⟨by rfl, ?_⟩) hHeld ?_ ?_
 rotate_left
 ·rintro w' ⟨s0, s1, s2, s3, s4, s5⟩
  go_simp
  with_reducible rfl
 rotate_left
 ·simp only [Act.put, List.setIfInBounds_toArray, List.set_cons_zero, List.set_cons_succ, zbW, zbY]
  rfl
 refine take_ (i := 2) (N := some 7) (v := ?_) (a' := ?_) (bl_ 7 5) rfl rfl (by kernel_rfl) (fun _ _ _ h => h) (Or.inl ⟨by rfl, ?_⟩) hHeld ?_ ?_
 rotate_left
 ·rintro w' ⟨s0, s1, s2, s3, s4, s5⟩
  go_simp
  with_reducible rfl
 rotate_left
 ·simp only [Act.put, List.setIfInBounds_toArray, List.set_cons_zero, List.set_cons_succ, zbW, zbY]
  rfl
 refine zeK (i := 1) (N := some 6) (bl_ 7 7) rfl rfl (by kernel_rfl) (by decide) (fun K hK => ?_)
 refine zcY Tryd.func114 (by kernel_rfl) rfl #[.agg #[.int .i64 a0_0, .int .i64 a0_1, .int .i64 a0_2]] (by rfl) rfl rfl (by (try simp only [List.map_toArray, List.map_cons, List.map_nil]); first | done | rfl | (simp only [List.length_drop, List.length_take]; rfl)) ?_
 with_reducible refine (zcZ.calls a0_0 a0_1 a0_2 t254 t255 t256 _ A3.out).mono ?_
 rintro e w10 ⟨rfl, hb⟩
 refine ⟨_, rfl, ?_⟩
 have n0_ := zaJ (zaG (g := gb252) (o := .cells #[.int .i64 a0_0, .int .i64 a0_1, .int .i64 a0_2] 34 (0, 0)) bk_ hb)
 have n1_ := zaJ (zaG (g := gb253) (o := .cells #[.int .i64 a1_0, .int .i64 a1_1, .int .i64 a1_2] 34 (0, 0)) bk_ hb)
 have n2_ := (ns_ hb)
 clear BK252
 clear BK253
 clear HB
 have BK252 := n0_
 have BK253 := n1_
 have HB := n2_
 clear n0_ n1_ n2_
 (try clear hb)
 (try clear hb2)
 (try clear hk)
 (try clear hi)
 refine hK.out _ _ ⟨(zaB BK252.out 0).trans rfl, (zaB BK252.out 1).trans rfl, (zaB BK252.out 2).trans rfl, (zaB BK253.out 0).trans rfl, (zaB BK253.out 1).trans rfl, (zaB BK253.out 2).trans rfl⟩ (fun hHeld => ?_)
 clear hK K
 refine zcX (a' := ?_) ?_ ?_
 rotate_left
 ·show Act.put _ (some 6) _ = _
  simp only [Act.put, List.setIfInBounds_toArray, List.set_cons_zero, List.set_cons_succ, zbW, zbY]
  rfl
 refine zeK (i := 3) (N := some 8) (bl_ 7 15) rfl rfl (by kernel_rfl) (by decide) (fun K hK => ?_)
 refine zcY Tryd.func114 (by kernel_rfl) rfl #[.agg #[.int .i64 a1_0, .int .i64 a1_1, .int .i64 a1_2]] (by rfl) rfl rfl (by (try simp only [List.map_toArray, List.map_cons, List.map_nil]); first | done | rfl | (simp only [List.length_drop, List.length_take]; rfl)) ?_
 with_reducible refine (zcZ.calls a1_0 a1_1 a1_2 t257 t258 t259 _ A4.out).mono ?_
 rintro e w11 ⟨rfl, hb⟩
 refine ⟨_, rfl, ?_⟩
 have n0_ := zaJ (zaG (g := gb252) (o := .cells #[.int .i64 a0_0, .int .i64 a0_1, .int .i64 a0_2] 34 (0, 0)) bk_ hb)
 have n1_ := zaJ (zaG (g := gb253) (o := .cells #[.int .i64 a1_0, .int .i64 a1_1, .int .i64 a1_2] 34 (0, 0)) bk_ hb)
 have n2_ := (ns_ hb)
 clear BK252
 clear BK253
 clear HB
 have BK252 := n0_
 have BK253 := n1_
 have HB := n2_
 clear n0_ n1_ n2_
 (try clear hb)
 (try clear hb2)
 (try clear hk)
 (try clear hi)
 refine hK.out _ _ ⟨(zaB BK252.out 0).trans rfl, (zaB BK252.out 1).trans rfl, (zaB BK252.out 2).trans rfl, (zaB BK253.out 0).trans rfl, (zaB BK253.out 1).trans rfl, (zaB BK253.out 2).trans rfl⟩ (fun hHeld => ?_)
 clear hK K
 refine zcX (a' := ?_) ?_ ?_
 rotate_left
 ·show Act.put _ (some 8) _ = _
  simp only [Act.put, List.setIfInBounds_toArray, List.set_cons_zero, List.set_cons_succ, zbW, zbY]
  rfl
 refine zeK (i := 4) (N := some 9) (bl_ 7 31) rfl rfl (by kernel_rfl) (by decide) (fun K hK => ?_)
 refine zcY Tryd.func145 (by kernel_rfl) rfl #[.agg #[.int .i64 t254, .int .i64 t255, .int .i64 t256], .agg #[.int .i64 t257, .int .i64 t258, .int .i64 t259]] (by rfl) rfl rfl (by (try simp only [List.map_toArray, List.map_cons, List.map_nil]); first | done | rfl | (simp only [List.length_drop, List.length_take]; rfl)) ?_
 with_reducible refine (zcI.calls k t254 t255 t256 t257 t258 t259 t260 t261 t262 _ A5.out).mono ?_
 rintro e w12 ⟨rfl, hb⟩
 refine ⟨_, rfl, ?_⟩
 have n0_ := zaJ (zaG (g := gb252) (o := .cells #[.int .i64 a0_0, .int .i64 a0_1, .int .i64 a0_2] 34 (0, 0)) bk_ hb)
 have n1_ := zaJ (zaG (g := gb253) (o := .cells #[.int .i64 a1_0, .int .i64 a1_1, .int .i64 a1_2] 34 (0, 0)) bk_ hb)
 have n2_ := (ns_ hb)
 clear BK252
 clear BK253
 clear HB
 have BK252 := n0_
 have BK253 := n1_
 have HB := n2_
 clear n0_ n1_ n2_
 (try clear hb)
 (try clear hb2)
 (try clear hk)
 (try clear hi)
 refine hK.out _ _ ⟨(zaB BK252.out 0).trans rfl, (zaB BK252.out 1).trans rfl, (zaB BK252.out 2).trans rfl, (zaB BK253.out 0).trans rfl, (zaB BK253.out 1).trans rfl, (zaB BK253.out 2).trans rfl⟩ (fun hHeld => ?_)
 clear hK K
 refine zcX (a' := ?_) ?_ ?_
 rotate_left
 ·show Act.put _ (some 9) _ = _
  simp only [Act.put, List.setIfInBounds_toArray, List.set_cons_zero, List.set_cons_succ, zbW, zbY]
  rfl
 refine zeK (i := 5) (N := some 10) (bl_ 7 63) rfl rfl (by kernel_rfl) (by decide) (fun K hK => ?_)
 refine zcY Tryd.func112 (by kernel_rfl) rfl #[.agg #[.int .i64 t260, .int .i64 t261, .int .i64 t262]] (by rfl) rfl rfl (by (try simp only [List.map_toArray, List.map_cons, List.map_nil]); first | done | rfl | (simp only [List.length_drop, List.length_take]; rfl)) ?_
 with_reducible refine (zaO.calls k t260 t261 t262 t263 _ A6.out).mono ?_
 rintro e w13 ⟨rfl, hb⟩
 refine ⟨_, rfl, ?_⟩
 have n0_ := zaJ (zaG (g := gb252) (o := .cells #[.int .i64 a0_0, .int .i64 a0_1, .int .i64 a0_2] 34 (0, 0)) bk_ hb)
 have n1_ := zaJ (zaG (g := gb253) (o := .cells #[.int .i64 a1_0, .int .i64 a1_1, .int .i64 a1_2] 34 (0, 0)) bk_ hb)
 have n2_ := (ns_ hb)
 clear BK252
 clear BK253
 clear HB
 have BK252 := n0_
 have BK253 := n1_
 have HB := n2_
 clear n0_ n1_ n2_
 (try clear hb)
 (try clear hb2)
 (try clear hk)
 (try clear hi)
 refine hK.out _ _ ⟨(zaB BK252.out 0).trans rfl, (zaB BK252.out 1).trans rfl, (zaB BK252.out 2).trans rfl, (zaB BK253.out 0).trans rfl, (zaB BK253.out 1).trans rfl, (zaB BK253.out 2).trans rfl⟩ (fun hHeld => ?_)
 clear hK K
 refine zcX (a' := ?_) ?_ ?_
 rotate_left
 ·show Act.put _ (some 10) _ = _
  simp only [Act.put, List.setIfInBounds_toArray, List.set_cons_zero, List.set_cons_succ, zbW, zbY]
  rfl
 refine zeU (i := 6) (N := some 4) (v := ?_) (a' := ?_) (bl_ 7 127) rfl rfl (by kernel_rfl) (fun _ _ _ h => h) (Or.inl ⟨by rfl, ?_⟩) ?_ ?_
 rotate_left
 ·intro w'
  go_simp
  with_reducible rfl
 rotate_left
 ·simp only [Act.put, List.setIfInBounds_toArray, List.set_cons_zero, List.set_cons_succ, zbW, zbY]
  rfl
 refine zeS (by kernel_rfl) ?_
 try go_wp2
 go_ret
 exact ⟨by first | rfl | (simp [zaI, zaH] <;> rfl) | (simp [*, zaI, zaH] <;> rfl), bb_⟩

def zcD.f (k : Nat) (a0_0 : Int) (a0_1 : Int) (a0_2 : Int) (a0_3 : Int) (a0_4 : Int) (a0_5 : Int) (a1_0 : Int) (a1_1 : Int) (a1_2 : Int) (a1_3 : Int) (a1_4 : Int) (a1_5 : Int) : Option (Int) := (zcF.f k a0_0 a0_1 a0_2 a1_0 a1_1 a1_2).bind fun t266 => (if t266 = 0 then ((zcF.f k a0_3 a0_4 a0_5 a1_3 a1_4 a1_5).bind fun t267 => (some t267)) else (some t266))
theorem zcD.mono : ∀ a0 a1 a2 a3 a4 a5 a6 a7 a8 a9 a10 a11 k, LeO (zcD.f k a0 a1 a2 a3 a4 a5 a6 a7 a8 a9 a10 a11) (zcD.f (k + 1) a0 a1 a2 a3 a4 a5 a6 a7 a8 a9 a10 a11) := by
 intro a0 a1 a2 a3 a4 a5 a6 a7 a8 a9 a10 a11 k
 unfold zcD.f
 repeat' first
   | (with_reducible exact zcF.mono _ _ _ _ _ _ _)
   | (with_reducible exact LeO.refl _)
   | (with_reducible exact LeO.none _)
   | (with_reducible refine LeO.ite ?_ ?_)
   | (with_reducible refine LeO.bind ?_ (fun _ => ?_))
   | exact zcF.mono _ _ _ _ _ _ _
   | exact LeO.none _
   | refine LeO.ite ?_ ?_
   | refine LeO.bind ?_ (fun _ => ?_)
set_option maxHeartbeats 8000000 in
set_option maxRecDepth 100000 in
theorem zcD.calls (k : Nat) (a0_0 : Int) (a0_1 : Int) (a0_2 : Int) (a0_3 : Int) (a0_4 : Int) (a0_5 : Int) (a1_0 : Int) (a1_1 : Int) (a1_2 : Int) (a1_3 : Int) (a1_4 : Int) (a1_5 : Int) (r : Int) (w : World) (h : zcD.f k a0_0 a0_1 a0_2 a0_3 a0_4 a0_5 a1_0 a1_1 a1_2 a1_3 a1_4 a1_5 = some r) :
  Calls Tryd.prog 102 #[.agg #[.int .i64 a0_0, .int .i64 a0_1, .int .i64 a0_2, .int .i64 a0_3, .int .i64 a0_4, .int .i64 a0_5], .agg #[.int .i64 a1_0, .int .i64 a1_1, .int .i64 a1_2, .int .i64 a1_3, .int .i64 a1_4, .int .i64 a1_5]] w fun e w' => e = .returned (.int .i64 r) ∧ Below w.heap.size w w' := by
 have hu36 := Tryd.underlying36
 have hu34 := Tryd.underlying34
 have HB := zaJ (Below.refl w.heap.size w)
 have H : ((zcF.f k a0_0 a0_1 a0_2 a1_0 a1_1 a1_2).bind fun t266 => (if t266 = 0 then ((zcF.f k a0_3 a0_4 a0_5 a1_3 a1_4 a1_5).bind fun t267 => (some t267)) else (some t266))) = some r := h
 clear h
 replace H := Option.bind_eq_some_iff.mp H
 obtain ⟨t266, A30, H⟩ := H
 replace H : (if t266 = 0 then ((zcF.f k a0_3 a0_4 a0_5 a1_3 a1_4 a1_5).bind fun t267 => (some t267)) else (some t266)) = some r := H
 have A3 := zaJ A30
 clear A30
 by_cases c4 : t266 = 0
 ·rw [if_pos c4] at H
  have c4b0 : (t266 == 0) = true := beq_iff_eq.mpr c4
  have c4b1 : (t266 != 0) = false := bne_eq_false_iff_eq.mpr c4
  clear c4
  replace H := Option.bind_eq_some_iff.mp H
  obtain ⟨t267, A50, H⟩ := H
  replace H : (some t267) = some r := H
  have A5 := zaJ A50
  clear A50
  obtain rfl := Option.some.inj H
  go_enter Tryd.func102, Tryd.ntmps102
  go_wp2_with (first | ((with_reducible refine zaQ (N := 2) rfl ?_); refine bx_ 2 #[.int .i64 a0_0, .int .i64 a0_1, .int .i64 a0_2, .int .i64 a0_3, .int .i64 a0_4, .int .i64 a0_5] 36 ?_; intro gb264 hg w6 hbox hb; have n0_ := (ns_ hb); have n1_ := zaJ (hbox); have n2_ := (ng_ hg); have n3_ := n2_; clear HB; have HB := n0_; have BK264 := n1_; have GW264 := n2_; have GE264 := n3_; clear n0_ n1_ n2_ n3_; clear hb hbox hg) | ((with_reducible refine zaQ (N := 3) rfl ?_); refine bx_ 3 #[.int .i64 a1_0, .int .i64 a1_1, .int .i64 a1_2, .int .i64 a1_3, .int .i64 a1_4, .int .i64 a1_5] 36 ?_; intro gb265 hg w7 hbox hb; have n0_ := zaJ (zaG (g := gb264) (o := .cells #[.int .i64 a0_0, .int .i64 a0_1, .int .i64 a0_2, .int .i64 a0_3, .int .i64 a0_4, .int .i64 a0_5] 36 (0, 0)) bk_ hb); have n1_ := (ns_ hb); have n2_ := zaJ (hbox); have n3_ := (ng_ hg); have n4_ := n3_; have n5_ := zaJ ((by rw [hg]; exact Nat.ne_of_lt (zbC (g := gb264) (o := .cells #[.int .i64 a0_0, .int .i64 a0_1, .int .i64 a0_2, .int .i64 a0_3, .int .i64 a0_4, .int .i64 a0_5] 36 (0, 0)) bk_) : gb264 ≠ gb265)); have n6_ := zaJ ((by rw [hg]; exact Nat.ne_of_gt (zbC (g := gb264) (o := .cells #[.int .i64 a0_0, .int .i64 a0_1, .int .i64 a0_2, .int .i64 a0_3, .int .i64 a0_4, .int .i64 a0_5] 36 (0, 0)) bk_) : gb265 ≠ gb264)); clear BK264; clear HB; have BK264 := n0_; have HB := n1_; have BK265 := n2_; have GW265 := n3_; have GE265 := n4_; have NB264_265 := n5_; have NB265_264 := n6_; clear n0_ n1_ n2_ n3_ n4_ n5_ n6_; clear hb hbox hg; have hnb8 := NB264_265.out; have hnc8 := NB265_264.out; obtain ⟨hcz9_0, hcz9_1, hcz9_2, hcz9_3, hcz9_4, hcz9_5⟩ := zeX BK264.out; obtain ⟨hfz9_0, hfz9_1, hfz9_2, hfz9_3, hfz9_4, hfz9_5⟩ := zeW BK264.out; obtain ⟨hcz10_0, hcz10_1, hcz10_2, hcz10_3, hcz10_4, hcz10_5⟩ := zeX BK265.out; obtain ⟨hfz10_0, hfz10_1, hfz10_2, hfz10_3, hfz10_4, hfz10_5⟩ := zeW BK265.out) | ((with_reducible refine zaK (f := 136) rfl ?_); refine zbQ (some 10) rfl rfl Tryd.func136 (by kernel_rfl) rfl #[.agg #[.int .i64 a0_0, .int .i64 a0_1, .int .i64 a0_2], .agg #[.int .i64 a1_0, .int .i64 a1_1, .int .i64 a1_2]] rfl (by (try simp only [List.map_toArray, List.map_cons, List.map_nil]); first | done | rfl | (simp only [List.length_drop, List.length_take]; rfl)) ?_; (with_reducible refine (zcF.calls k a0_0 a0_1 a0_2 a1_0 a1_1 a1_2 t266 _ A3.out).mono ?_); rintro e w11 ⟨rfl, hb⟩; refine ⟨_, rfl, ?_⟩; have n0_ := zaJ (zaG (g := gb264) (o := .cells #[.int .i64 a0_0, .int .i64 a0_1, .int .i64 a0_2, .int .i64 a0_3, .int .i64 a0_4, .int .i64 a0_5] 36 (0, 0)) bk_ hb); have n1_ := zaJ (zaG (g := gb265) (o := .cells #[.int .i64 a1_0, .int .i64 a1_1, .int .i64 a1_2, .int .i64 a1_3, .int .i64 a1_4, .int .i64 a1_5] 36 (0, 0)) bk_ hb); have n2_ := (ns_ hb); clear BK264; clear BK265; clear HB; have BK264 := n0_; have BK265 := n1_; have HB := n2_; clear n0_ n1_ n2_; (try clear hb); (try clear hb2); obtain ⟨hcz12_0, hcz12_1, hcz12_2, hcz12_3, hcz12_4, hcz12_5⟩ := zeX BK264.out; obtain ⟨hfz12_0, hfz12_1, hfz12_2, hfz12_3, hfz12_4, hfz12_5⟩ := zeW BK264.out; obtain ⟨hcz13_0, hcz13_1, hcz13_2, hcz13_3, hcz13_4, hcz13_5⟩ := zeX BK265.out; obtain ⟨hfz13_0, hfz13_1, hfz13_2, hfz13_3, hfz13_4, hfz13_5⟩ := zeW BK265.out) | ((with_reducible refine zaK (f := 136) rfl ?_); refine zbQ (some 18) rfl rfl Tryd.func136 (by kernel_rfl) rfl #[.agg #[.int .i64 a0_3, .int .i64 a0_4, .int .i64 a0_5], .agg #[.int .i64 a1_3, .int .i64 a1_4, .int .i64 a1_5]] rfl (by (try simp only [List.map_toArray, List.map_cons, List.map_nil]); first | done | rfl | (simp only [List.length_drop, List.length_take]; rfl)) ?_; (with_reducible refine (zcF.calls k a0_3 a0_4 a0_5 a1_3 a1_4 a1_5 t267 _ A5.out).mono ?_); rintro e w14 ⟨rfl, hb⟩; refine ⟨_, rfl, ?_⟩; have n0_ := zaJ (zaG (g := gb264) (o := .cells #[.int .i64 a0_0, .int .i64 a0_1, .int .i64 a0_2, .int .i64 a0_3, .int .i64 a0_4, .int .i64 a0_5] 36 (0, 0)) bk_ hb); have n1_ := zaJ (zaG (g := gb265) (o := .cells #[.int .i64 a1_0, .int .i64 a1_1, .int .i64 a1_2, .int .i64 a1_3, .int .i64 a1_4, .int .i64 a1_5] 36 (0, 0)) bk_ hb); have n2_ := (ns_ hb); clear BK264; clear BK265; clear HB; have BK264 := n0_; have BK265 := n1_; have HB := n2_; clear n0_ n1_ n2_; (try clear hb); (try clear hb2)))
  go_ret
  exact ⟨by first | rfl | (simp [zaI, zaH] <;> rfl) | (simp [*, zaI, zaH] <;> rfl), bb_⟩
 ·rw [if_neg c4] at H
  have c4b0 : (t266 == 0) = false := beq_eq_false_iff_ne.mpr c4
  have c4b1 : (t266 != 0) = true := bne_iff_ne.mpr c4
  obtain rfl := Option.some.inj H
  go_enter Tryd.func102, Tryd.ntmps102
  go_wp2_with (first | ((with_reducible refine zaQ (N := 2) rfl ?_); refine bx_ 2 #[.int .i64 a0_0, .int .i64 a0_1, .int .i64 a0_2, .int .i64 a0_3, .int .i64 a0_4, .int .i64 a0_5] 36 ?_; intro gb264 hg w15 hbox hb; have n0_ := (ns_ hb); have n1_ := zaJ (hbox); have n2_ := (ng_ hg); have n3_ := n2_; clear HB; have HB := n0_; have BK264 := n1_; have GW264 := n2_; have GE264 := n3_; clear n0_ n1_ n2_ n3_; clear hb hbox hg) | ((with_reducible refine zaQ (N := 3) rfl ?_); refine bx_ 3 #[.int .i64 a1_0, .int .i64 a1_1, .int .i64 a1_2, .int .i64 a1_3, .int .i64 a1_4, .int .i64 a1_5] 36 ?_; intro gb265 hg w16 hbox hb; have n0_ := zaJ (zaG (g := gb264) (o := .cells #[.int .i64 a0_0, .int .i64 a0_1, .int .i64 a0_2, .int .i64 a0_3, .int .i64 a0_4, .int .i64 a0_5] 36 (0, 0)) bk_ hb); have n1_ := (ns_ hb); have n2_ := zaJ (hbox); have n3_ := (ng_ hg); have n4_ := n3_; have n5_ := zaJ ((by rw [hg]; exact Nat.ne_of_lt (zbC (g := gb264) (o := .cells #[.int .i64 a0_0, .int .i64 a0_1, .int .i64 a0_2, .int .i64 a0_3, .int .i64 a0_4, .int .i64 a0_5] 36 (0, 0)) bk_) : gb264 ≠ gb265)); have n6_ := zaJ ((by rw [hg]; exact Nat.ne_of_gt (zbC (g := gb264) (o := .cells #[.int .i64 a0_0, .int .i64 a0_1, .int .i64 a0_2, .int .i64 a0_3, .int .i64 a0_4, .int .i64 a0_5] 36 (0, 0)) bk_) : gb265 ≠ gb264)); clear BK264; clear HB; have BK264 := n0_; have HB := n1_; have BK265 := n2_; have GW265 := n3_; have GE265 := n4_; have NB264_265 := n5_; have NB265_264 := n6_; clear n0_ n1_ n2_ n3_ n4_ n5_ n6_; clear hb hbox hg; have hnb17 := NB264_265.out; have hnc17 := NB265_264.out; obtain ⟨hcz18_0, hcz18_1, hcz18_2, hcz18_3, hcz18_4, hcz18_5⟩ := zeX BK264.out; obtain ⟨hfz18_0, hfz18_1, hfz18_2, hfz18_3, hfz18_4, hfz18_5⟩ := zeW BK264.out; obtain ⟨hcz19_0, hcz19_1, hcz19_2, hcz19_3, hcz19_4, hcz19_5⟩ := zeX BK265.out; obtain ⟨hfz19_0, hfz19_1, hfz19_2, hfz19_3, hfz19_4, hfz19_5⟩ := zeW BK265.out) | ((with_reducible refine zaK (f := 136) rfl ?_); refine zbQ (some 10) rfl rfl Tryd.func136 (by kernel_rfl) rfl #[.agg #[.int .i64 a0_0, .int .i64 a0_1, .int .i64 a0_2], .agg #[.int .i64 a1_0, .int .i64 a1_1, .int .i64 a1_2]] rfl (by (try simp only [List.map_toArray, List.map_cons, List.map_nil]); first | done | rfl | (simp only [List.length_drop, List.length_take]; rfl)) ?_; (with_reducible refine (zcF.calls k a0_0 a0_1 a0_2 a1_0 a1_1 a1_2 t266 _ A3.out).mono ?_); rintro e w20 ⟨rfl, hb⟩; refine ⟨_, rfl, ?_⟩; have n0_ := zaJ (zaG (g := gb264) (o := .cells #[.int .i64 a0_0, .int .i64 a0_1, .int .i64 a0_2, .int .i64 a0_3, .int .i64 a0_4, .int .i64 a0_5] 36 (0, 0)) bk_ hb); have n1_ := zaJ (zaG (g := gb265) (o := .cells #[.int .i64 a1_0, .int .i64 a1_1, .int .i64 a1_2, .int .i64 a1_3, .int .i64 a1_4, .int .i64 a1_5] 36 (0, 0)) bk_ hb); have n2_ := (ns_ hb); clear BK264; clear BK265; clear HB; have BK264 := n0_; have BK265 := n1_; have HB := n2_; clear n0_ n1_ n2_; (try clear hb); (try clear hb2)))
  go_ret
  exact ⟨by first | rfl | (simp [zaI, zaH] <;> rfl) | (simp [*, zaI, zaH] <;> rfl), bb_⟩

end Go.Proofs.YtmajpmofeddknaaDoor.PFnExactInPolygon
