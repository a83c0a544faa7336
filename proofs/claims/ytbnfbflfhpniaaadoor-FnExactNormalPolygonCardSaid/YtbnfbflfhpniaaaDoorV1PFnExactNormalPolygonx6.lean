-- Printed for this claim by this session's program pp.py, which drives the kit's print with additions. Not trusted: Lean checks it.
import Derived.Test.YtbnfbflfhpniaaaDoorV1PFnExactNormalPolygonx0
import Derived.Test.YtbnfbflfhpniaaaDoorV1PFnExactNormalPolygonx4
import Derived.Test.YtbnfbflfhpniaaaDoorV1PFnExactNormalPolygonx5
namespace Go.Proofs.YtbnfbflfhpniaaaDoor.PFnExactNormalPolygon
open Go.RowKit Go.Proofs.YtbnfbflfhpniaaaDoorW.PrintWords Go.Proofs.YtbnfbflfhpniaaaDoorW.PrintLast Go.Proofs.YtbnfbflfhpniaaaDoorW.PrintMore
attribute [local go_sem] zbB ziC zrC zhD znE zuB znH zkT   -- for this text's walks alone
set_option linter.unusedVariables false
set_option maxHeartbeats 8000000
set_option maxRecDepth 100000
set_option linter.unusedSimpArgs false

def zlQ.l0 : Nat → List (S65) → List Int → Int → Option (List Int × Bool)
 | 0, _, _, _ => none
 | k + 1, x0, x4, x5 => if x5 < (x0.length : Int) then (if (x0.length : Int) = 0 then (none) else (if 0 ≤ (Int.tmod (wrap64 (x5 + 1)) (x0.length : Int)) then (if (Int.tmod (wrap64 (x5 + 1)) (x0.length : Int)) < (x0.length : Int) then (if 0 ≤ x5 then ((zkL.f k ((zbT x0 (Int.tmod (wrap64 (x5 + 1)) (x0.length : Int))).f0.f0) ((zbT x0 (Int.tmod (wrap64 (x5 + 1)) (x0.length : Int))).f0.f1) ((zbT x0 (Int.tmod (wrap64 (x5 + 1)) (x0.length : Int))).f0.f2) ((zbT x0 (Int.tmod (wrap64 (x5 + 1)) (x0.length : Int))).f1.f0) ((zbT x0 (Int.tmod (wrap64 (x5 + 1)) (x0.length : Int))).f1.f1) ((zbT x0 (Int.tmod (wrap64 (x5 + 1)) (x0.length : Int))).f1.f2) ((zbT x0 x5).f0.f0) ((zbT x0 x5).f0.f1) ((zbT x0 x5).f0.f2) ((zbT x0 x5).f1.f0) ((zbT x0 x5).f1.f1) ((zbT x0 x5).f1.f2)).bind fun bt233 => ((znA.f k bt233.1 bt233.2.1 bt233.2.2.1 bt233.2.2.2.1 bt233.2.2.2.2.1 bt233.2.2.2.2.2).bind fun t239 => (if t239 < 0 then (some (([] : List Int), false)) else (if x4.length < 17592186044416 then (zlQ.l0 k x0 (x4 ++ [t239]) (wrap64 (x5 + 1))) else (none))))) else (none)) else (none)) else (none))) else (some (x4, true))
def zlQ.f (k : Nat) (l0 : List (S65)) : Option (List Int × Bool) := zlQ.l0 k l0 (([] : List Int)) 0
theorem zlQ.mono_l : ∀ k, (∀ y0 y1 y2, LeO (zlQ.l0 k y0 y1 y2) (zlQ.l0 (k + 1) y0 y1 y2))
 | 0 => fun _ _ _ r h => by simp [zlQ.l0] at h
 | k + 1 => by
  have ih0 := zlQ.mono_l k
  ·intro y0 y1 y2
   unfold zlQ.l0
   repeat' first
   | (with_reducible exact ih0 _ _ _)
   | (with_reducible exact znA.mono _ _ _ _ _ _ _)
   | (with_reducible exact zkL.mono _ _ _ _ _ _ _ _ _ _ _ _ _)
   | (with_reducible exact LeO.refl _)
   | (with_reducible exact LeO.none _)
   | (with_reducible refine LeO.ite ?_ ?_)
   | (with_reducible refine LeO.bind ?_ (fun _ => ?_))
   | exact ih0 _ _ _
   | exact znA.mono _ _ _ _ _ _ _
   | exact zkL.mono _ _ _ _ _ _ _ _ _ _ _ _ _
   | exact LeO.none _
   | refine LeO.ite ?_ ?_
   | refine LeO.bind ?_ (fun _ => ?_)
theorem zlQ.mono : ∀ a0 k, LeO (zlQ.f k a0) (zlQ.f (k + 1) a0) := by
 intro a0 k
 have ih0 := zlQ.mono_l k
 unfold zlQ.f
 repeat' first
   | (with_reducible exact ih0 _ _ _)
   | (with_reducible exact znA.mono _ _ _ _ _ _ _)
   | (with_reducible exact zkL.mono _ _ _ _ _ _ _ _ _ _ _ _ _)
   | (with_reducible exact LeO.refl _)
   | (with_reducible exact LeO.none _)
   | (with_reducible refine LeO.ite ?_ ?_)
   | (with_reducible refine LeO.bind ?_ (fun _ => ?_))
   | exact ih0 _ _ _
   | exact znA.mono _ _ _ _ _ _ _
   | exact zkL.mono _ _ _ _ _ _ _ _ _ _ _ _ _
   | exact LeO.none _
   | refine LeO.ite ?_ ?_
   | refine LeO.bind ?_ (fun _ => ?_)
def zlQ.T5 : Bool × List (List Nat × List Nat) := (true, [([], []), ([], []), ([1], [1]), ([], []), ([3], [3]), ([2, 4], [2, 4]), ([0, 5], [0, 5]), ([6], [6]), ([], []), ([], []), ([8, 9], [8, 9]), ([10], [10]), ([7, 11], [7, 11]), ([12, 12], [12]), ([13, 13, 0, 1, 2, 3, 4, 5, 6, 7, 8, 9, 10, 11, 12, 13], [13])])
def zlQ.B5 : List Nat := [0, 0, 2, 0, 8, 30, 63, 127, 0, 0, 768, 1792, 4095, 8191, 16383]
theorem zlQ.tab5 : rtab .any (opsOf Tryd.f24 5) = zlQ.T5 := by kernel_rfl
theorem zlQ.bits5 : ztG zlQ.T5.2 zlQ.B5 = true := by kernel_rfl
theorem zlQ.calls (k : Nat) (A0 : Option Addr) (c0 : Nat) (l0 : List (S65)) (r1 : List Int) (r2 : Bool) (w : World) (hr0 : Kd.C k65 w A0 l0.length l0) (hc0 : l0.length ≤ c0) (h : zlQ.f k l0 = some (r1, r2)) :
  Calls Tryd.prog 24 #[.slice A0 l0.length c0] w fun e w' => ∃ v0_ : Value, e = .returned (.tuple #[v0_, .bool r2]) ∧ Kd.R (Kd.int .i64) 2 w' w.heap.size (fun _ => True) v0_ r1 ∧ Below w.heap.size w w' := by
 have hu65 := Tryd.underlying65
 have HR0 := zpS hr0
 have HC0 := zpS hc0
 clear hr0 hc0
 have HB := zpS (Below.refl w.heap.size w)
 have H : (zlQ.l0 k l0 (([] : List Int)) 0) = some (r1, r2) := h
 clear h
 obtain ⟨y228, hy228⟩ : ∃ y_ : List Int, y_ = (([] : List Int)) := ⟨_, rfl⟩
 replace H : (zlQ.l0 k l0 y228 0) = some (r1, r2) := by first | (rw [hy228]; with_reducible exact H) | (have H2_ := (Option.bind_some _ _).symm.trans H; rw [hy228]; with_reducible exact H2_) | (have H2_ := (Option.bind_some _ _).symm.trans H; with_reducible exact H2_) | with_reducible exact H | (rw [hy228]; exact H) | exact H
 have Ny228 := zpS hy228
 clear hy228
 have H' := zpS H
 clear H
 go_enter Tryd.func24, Tryd.ntmps24
 go_wp2_with (first | ((with_reducible refine zpZ (N := 7) rfl ?_); refine Kd.R_lit (Kd.int .i64) _ 2 ?hg (N := 7) ?hd (xs := ([] : List Int)) (inner := []) (ok := fun _ => True) (okp := fun _ => True) ?hr ?hp (fun _ hk => hk) trivial (Below.refl _ _) (Nat.le_refl _) (by simp) ?_; (case hd => rfl); (case hg => rfl); (case hr => first | (go_simp; done) | (go_simp; rfl)); (case hp => exact (zfH.none _ _)); intro v229 w2 ho3 hb hg_ hnew_; clear hg_ hnew_; (first | rw [← Ny228.out] at ho3 | (simp only [Int.reduceToNat] at ho3; rw [← Ny228.out] at ho3)); have n0_ := zpS (Kd.R_lower ho3 (zuA bb_)); have n1_ := (ns_ hb); clear HB; have HO230 := n0_; have HB := n1_; clear n0_ n1_; clear hb ho3))
 (try go_simp)
 go_loopg [4, 5] k (fun kq v4 v5 w' => ∃ (x4_1 : List Int) (x5_1 : Int), v5 = .int .i64 x5_1 ∧ Aside0 (zlQ.l0 kq l0 x4_1 x5_1 = some (r1, r2)) ∧ Aside0 (kq ≤ k) ∧ Aside0 (Kd.R (Kd.int .i64) 2 w' w.heap.size (fun _ => True) v4 x4_1) ∧ Aside0 (Below w.heap.size w w'))
 case atStart => exact ⟨(y228), (0), (by first | rfl | (simp; done) | (simp [*]; done)), H', ⟨Nat.le_refl _⟩, ⟨by (with_reducible repeat (first | apply Kd.R_alloc | apply Kd.R_drewN | apply Kd.R_drew)); exact HO230.out⟩, ⟨bb_⟩⟩
 case round =>
  clear H'
  try clear c2
  try clear p2
  obtain ⟨x4_1, x5_1, rfl, HA, HK1, HO_4, HB⟩ := hrel
  cases gk with
  | zero => exact absurd HA.out (by simp [zlQ.l0])
  | succ k1 =>
   have H := HA.out
   clear HA
   simp only [zlQ.l0] at H
   by_cases c4 : x5_1 < (l0.length : Int)
   ·rw [if_pos c4] at H
    have c4b0 : decide (x5_1 < (l0.length : Int)) = true := decide_eq_true c4
    clear c4
    by_cases c5 : (l0.length : Int) = 0
    ·rw [if_pos c5] at H
     exact absurd H (by simp)
    ·rw [if_neg c5] at H
     have c5b0 : ((l0.length : Int) == 0) = false := beq_eq_false_iff_ne.mpr c5
     have c5b1 : ((l0.length : Int) != 0) = true := bne_iff_ne.mpr c5
     have c5b2 : ¬ (l0 = []) := fun h_ => c5 (by rw [h_]; rfl)
     obtain ⟨ji6, hji6⟩ : ∃ j_ : Int, (Int.tmod (wrap64 (x5_1 + 1)) (l0.length : Int)) = j_ := ⟨_, rfl⟩
     replace H : (if 0 ≤ (ji6) then (if (ji6) < (l0.length : Int) then (if 0 ≤ x5_1 then ((zkL.f k1 ((zbT l0 (ji6)).f0.f0) ((zbT l0 (ji6)).f0.f1) ((zbT l0 (ji6)).f0.f2) ((zbT l0 (ji6)).f1.f0) ((zbT l0 (ji6)).f1.f1) ((zbT l0 (ji6)).f1.f2) ((zbT l0 x5_1).f0.f0) ((zbT l0 x5_1).f0.f1) ((zbT l0 x5_1).f0.f2) ((zbT l0 x5_1).f1.f0) ((zbT l0 x5_1).f1.f1) ((zbT l0 x5_1).f1.f2)).bind fun bt233 => ((znA.f k1 bt233.1 bt233.2.1 bt233.2.2.1 bt233.2.2.2.1 bt233.2.2.2.2.1 bt233.2.2.2.2.2).bind fun t239 => (if t239 < 0 then (some (([] : List Int), false)) else (if x4_1.length < 17592186044416 then (zlQ.l0 k1 l0 (x4_1 ++ [t239]) (wrap64 (x5_1 + 1))) else (none))))) else (none)) else (none)) else (none)) = some (r1, r2) := by first | (rw [hji6] at H; exact H) | (simp only [hji6] at H ⊢; exact H)
     by_cases c7 : 0 ≤ (ji6)
     ·rw [if_pos c7] at H
      have c7b0 : decide (0 ≤ (ji6)) = true := decide_eq_true c7
      clear c7
      by_cases c8 : (ji6) < (l0.length : Int)
      ·rw [if_pos c8] at H
       have c8b0 : decide ((ji6) < (l0.length : Int)) = true := decide_eq_true c8
       clear c8
       by_cases c9 : 0 ≤ x5_1
       ·rw [if_pos c9] at H
        have c9b0 : decide (0 ≤ x5_1) = true := decide_eq_true c9
        clear c9
        replace H := Option.bind_eq_some_iff.mp H
        obtain ⟨⟨t233, t234, t235, t236, t237, t238⟩, A100, H⟩ := H
        replace H : ((znA.f k1 t233 t234 t235 t236 t237 t238).bind fun t239 => (if t239 < 0 then (some (([] : List Int), false)) else (if x4_1.length < 17592186044416 then (zlQ.l0 k1 l0 (x4_1 ++ [t239]) (wrap64 (x5_1 + 1))) else (none)))) = some (r1, r2) := H
        have A10 := zpS A100
        clear A100
        replace H := Option.bind_eq_some_iff.mp H
        obtain ⟨t239, A110, H⟩ := H
        replace H : (if t239 < 0 then (some (([] : List Int), false)) else (if x4_1.length < 17592186044416 then (zlQ.l0 k1 l0 (x4_1 ++ [t239]) (wrap64 (x5_1 + 1))) else (none))) = some (r1, r2) := H
        have A11 := zpS A110
        clear A110
        by_cases c12 : t239 < 0
        ·rw [if_pos c12] at H
         have c12b0 : decide (t239 < 0) = true := decide_eq_true c12
         clear c12
         simp only [Option.some.injEq, Prod.mk.injEq] at H
         obtain ⟨rfl, rfl⟩ := H
         try go_wp2
         have n0_ := zpS (Kd.R_drew HO_4.out)
         have n1_ := zpS (zvF HB.out)
         clear HO_4
         clear HB
         have HO_4 := n0_
         have HB := n1_
         clear n0_ n1_
         have p231 : 0 ≤ ((ji6) : Int) := dt_
         have q231 : (ji6) < (l0.length : Int) := dt_
         obtain ⟨ad231, e231, hx231_0, hx231_1, hx231_2, hx231_3, hx231_4, hx231_5⟩ := at_T65 HR0.out (ji6) p231 q231
         have hw231_5 := hx231_5
         have hw231_4 := hx231_4
         have hw231_3 := hx231_3
         have hw231_2 := hx231_2
         have hw231_1 := hx231_1
         have hw231_0 := hx231_0
         cases e231
         replace hx231_0 := zeA HB.out hx231_0
         replace hx231_1 := zeA HB.out hx231_1
         replace hx231_2 := zeA HB.out hx231_2
         replace hx231_3 := zeA HB.out hx231_3
         replace hx231_4 := zeA HB.out hx231_4
         replace hx231_5 := zeA HB.out hx231_5
         replace p231 := eq_true p231
         replace q231 := eq_true q231
         have p232 : 0 ≤ (x5_1 : Int) := dt_
         have q232 : x5_1 < (l0.length : Int) := dt_
         obtain ⟨ad232, e232, hx232_0, hx232_1, hx232_2, hx232_3, hx232_4, hx232_5⟩ := at_T65 HR0.out x5_1 p232 q232
         have hw232_5 := hx232_5
         have hw232_4 := hx232_4
         have hw232_3 := hx232_3
         have hw232_2 := hx232_2
         have hw232_1 := hx232_1
         have hw232_0 := hx232_0
         obtain rfl : ad231 = ad232 := (by injection e232)
         replace hx232_0 := zeA HB.out hx232_0
         replace hx232_1 := zeA HB.out hx232_1
         replace hx232_2 := zeA HB.out hx232_2
         replace hx232_3 := zeA HB.out hx232_3
         replace hx232_4 := zeA HB.out hx232_4
         replace hx232_5 := zeA HB.out hx232_5
         replace p232 := eq_true p232
         replace q232 := eq_true q232
         refine zpB (n := 15) (S := fun w' => w'.cell? (ad231.add (((ji6)).toNat * 6)) = some (.int .i64 ((zbT l0 (ji6)).f0.f0)) ∧ w'.cell? ⟨(ad231.add (((ji6)).toNat * 6)).block, (ad231.add (((ji6)).toNat * 6)).off + 1, none⟩ = some (.int .i64 ((zbT l0 (ji6)).f0.f1)) ∧ w'.cell? ⟨(ad231.add (((ji6)).toNat * 6)).block, (ad231.add (((ji6)).toNat * 6)).off + 2, none⟩ = some (.int .i64 ((zbT l0 (ji6)).f0.f2)) ∧ w'.cell? ⟨(ad231.add (((ji6)).toNat * 6)).block, (ad231.add (((ji6)).toNat * 6)).off + 3, none⟩ = some (.int .i64 ((zbT l0 (ji6)).f1.f0)) ∧ w'.cell? ⟨(ad231.add (((ji6)).toNat * 6)).block, (ad231.add (((ji6)).toNat * 6)).off + 4, none⟩ = some (.int .i64 ((zbT l0 (ji6)).f1.f1)) ∧ w'.cell? ⟨(ad231.add (((ji6)).toNat * 6)).block, (ad231.add (((ji6)).toNat * 6)).off + 5, none⟩ = some (.int .i64 ((zbT l0 (ji6)).f1.f2)) ∧ w'.cell? (ad231.add ((x5_1).toNat * 6)) = some (.int .i64 ((zbT l0 x5_1).f0.f0)) ∧ w'.cell? ⟨(ad231.add ((x5_1).toNat * 6)).block, (ad231.add ((x5_1).toNat * 6)).off + 1, none⟩ = some (.int .i64 ((zbT l0 x5_1).f0.f1)) ∧ w'.cell? ⟨(ad231.add ((x5_1).toNat * 6)).block, (ad231.add ((x5_1).toNat * 6)).off + 2, none⟩ = some (.int .i64 ((zbT l0 x5_1).f0.f2)) ∧ w'.cell? ⟨(ad231.add ((x5_1).toNat * 6)).block, (ad231.add ((x5_1).toNat * 6)).off + 3, none⟩ = some (.int .i64 ((zbT l0 x5_1).f1.f0)) ∧ w'.cell? ⟨(ad231.add ((x5_1).toNat * 6)).block, (ad231.add ((x5_1).toNat * 6)).off + 4, none⟩ = some (.int .i64 ((zbT l0 x5_1).f1.f1)) ∧ w'.cell? ⟨(ad231.add ((x5_1).toNat * 6)).block, (ad231.add ((x5_1).toNat * 6)).off + 5, none⟩ = some (.int .i64 ((zbT l0 x5_1).f1.f2))) (ds := []) #[false, false, false, false, false, false, false, false, false, false, false, false, false, false, false] (by kernel_rfl) rfl rfl ⟨(zeA HB.out hw231_0), (zeA HB.out hw231_1), (zeA HB.out hw231_2), (zeA HB.out hw231_3), (zeA HB.out hw231_4), (zeA HB.out hw231_5), (zeA HB.out hw232_0), (zeA HB.out hw232_1), (zeA HB.out hw232_2), (zeA HB.out hw232_3), (zeA HB.out hw232_4), (zeA HB.out hw232_5)⟩ (fun hHeld => ?_); refine zwI zlQ.tab5 zlQ.bits5 (fun HT_ HW_ => ?_)
         generalize wr.drew = w13 at HO_4 HB hx231_0 hx231_1 hx231_2 hx231_3 hx231_4 hx231_5 hx232_0 hx232_1 hx232_2 hx232_3 hx232_4 hx232_5 hHeld ⊢
         refine pu_ 0 (some 14) (bl_ 15 1) ?_
         refine pu_ 1 (some 15) (bl_ 15 3) ?_
         refine pu_ 2 (some 16) (bl_ 15 7) ?_
         refine pu_ 3 (some 17) (bl_ 15 15) ?_
         refine pu_ 4 (some 18) (bl_ 15 31) ?_
         refine pu_ 5 (some 19) (bl_ 15 63) ?_
         refine pu_ 6 (some 20) (bl_ 15 127) ?_
         refine pu_ 8 (some 22) (bl_ 15 383) ?_
         refine pu_ 9 (some 23) (bl_ 15 895) ?_
         refine pu_ 10 (some 24) (bl_ 15 1919) ?_
         refine zmW 7 (some 21) (bl_ 15 2047) hHeld ?_
         refine zmW 11 (some 25) (bl_ 15 4095) hHeld ?_
         refine zdC (i := 12) (N := some 26) (bl_ 15 8191) rfl rfl (zeO HT_.out (by kernel_rfl)) (by decide) (fun K hK => ?_)
         refine zqW Tryd.func40 (by kernel_rfl) rfl #[.agg #[.int .i64 ((zbT l0 (ji6)).f0.f0), .int .i64 ((zbT l0 (ji6)).f0.f1), .int .i64 ((zbT l0 (ji6)).f0.f2), .int .i64 ((zbT l0 (ji6)).f1.f0), .int .i64 ((zbT l0 (ji6)).f1.f1), .int .i64 ((zbT l0 (ji6)).f1.f2)], .agg #[.int .i64 ((zbT l0 x5_1).f0.f0), .int .i64 ((zbT l0 x5_1).f0.f1), .int .i64 ((zbT l0 x5_1).f0.f2), .int .i64 ((zbT l0 x5_1).f1.f0), .int .i64 ((zbT l0 x5_1).f1.f1), .int .i64 ((zbT l0 x5_1).f1.f2)]] (by rfl) rfl rfl (by (try simp only [List.map_toArray, List.map_cons, List.map_nil]); first | done | (simp only [hji6]; rfl) | rfl | (simp only [List.length_drop, List.length_take]; rfl)) ?_
         with_reducible refine (zkL.calls k1 ((zbT l0 (ji6)).f0.f0) ((zbT l0 (ji6)).f0.f1) ((zbT l0 (ji6)).f0.f2) ((zbT l0 (ji6)).f1.f0) ((zbT l0 (ji6)).f1.f1) ((zbT l0 (ji6)).f1.f2) ((zbT l0 x5_1).f0.f0) ((zbT l0 x5_1).f0.f1) ((zbT l0 x5_1).f0.f2) ((zbT l0 x5_1).f1.f0) ((zbT l0 x5_1).f1.f1) ((zbT l0 x5_1).f1.f2) t233 t234 t235 t236 t237 t238 _ A10.out).mono ?_
         rintro e w14 ⟨rfl, hb⟩
         refine ⟨_, rfl, ?_⟩
         have n0_ := zpS (Kd.R_below (by (with_reducible repeat (first | apply Kd.R_alloc | apply Kd.R_drewN | apply Kd.R_drew)); exact HO_4.out) hb)
         have n1_ := (ns_ hb)
         clear HO_4
         clear HB
         have HO_4 := n0_
         have HB := n1_
         clear n0_ n1_
         (try clear hb)
         (try clear hb2)
         (try clear hk)
         (try clear hi)
         refine hK.out _ _ ⟨(zeA HB.out hw231_0), (zeA HB.out hw231_1), (zeA HB.out hw231_2), (zeA HB.out hw231_3), (zeA HB.out hw231_4), (zeA HB.out hw231_5), (zeA HB.out hw232_0), (zeA HB.out hw232_1), (zeA HB.out hw232_2), (zeA HB.out hw232_3), (zeA HB.out hw232_4), (zeA HB.out hw232_5)⟩ (fun hHeld => ?_)
         clear hK K
         refine zaN (a' := ?_) ?_ ?_
         rotate_left
         ·show Act.put _ (some 26) _ = _
          simp only [Act.put, List.setIfInBounds_toArray, List.set_cons_zero, List.set_cons_succ, zcM, ziK]
          rfl
         refine zdC (i := 13) (N := some 27) (bl_ 15 16383) rfl rfl (zeO HT_.out (by kernel_rfl)) (by decide) (fun K hK => ?_)
         refine zqW Tryd.func39 (by kernel_rfl) rfl #[.agg #[.int .i64 t233, .int .i64 t234, .int .i64 t235, .int .i64 t236, .int .i64 t237, .int .i64 t238]] (by rfl) rfl rfl (by (try simp only [List.map_toArray, List.map_cons, List.map_nil]); first | done | rfl | (simp only [List.length_drop, List.length_take]; rfl)) ?_
         with_reducible refine (znA.calls k1 t233 t234 t235 t236 t237 t238 t239 _ A11.out).mono ?_
         rintro e w15 ⟨rfl, hb⟩
         refine ⟨_, rfl, ?_⟩
         have n0_ := zpS (Kd.R_below (by (with_reducible repeat (first | apply Kd.R_alloc | apply Kd.R_drewN | apply Kd.R_drew)); exact HO_4.out) hb)
         have n1_ := (ns_ hb)
         clear HO_4
         clear HB
         have HO_4 := n0_
         have HB := n1_
         clear n0_ n1_
         (try clear hb)
         (try clear hb2)
         (try clear hk)
         (try clear hi)
         refine hK.out _ _ ⟨(zeA HB.out hw231_0), (zeA HB.out hw231_1), (zeA HB.out hw231_2), (zeA HB.out hw231_3), (zeA HB.out hw231_4), (zeA HB.out hw231_5), (zeA HB.out hw232_0), (zeA HB.out hw232_1), (zeA HB.out hw232_2), (zeA HB.out hw232_3), (zeA HB.out hw232_4), (zeA HB.out hw232_5)⟩ (fun hHeld => ?_)
         clear hK K
         refine zaN (a' := ?_) ?_ ?_
         rotate_left
         ·show Act.put _ (some 27) _ = _
          simp only [Act.put, List.setIfInBounds_toArray, List.set_cons_zero, List.set_cons_succ, zcM, ziK]
          rfl
         refine pu_ 14 (some 6) (bl_ 15 32767) ?_
         refine znK (zzP HT_.out (by kernel_rfl)) ?_
         try go_wp2
         go_ret2
         exact ⟨_, by first | rfl | (simp [ziS, znJ] <;> rfl) | (simp only [← hji6]; first | rfl | (simp [ziS, znJ] <;> rfl)) | (simp [*, ziS, znJ] <;> rfl), by first | exact Kd.R_nil _ _ _ _ _ | exact Kd.N_nil _ _ _ _ _ | exact Kd.V_nil _ _ _ _ _ | exact Kd.Q_nil _ _ _ _ _ | exact Kd.S_nil _ _ _ _ _, bb_⟩
        ·rw [if_neg c12] at H
         have c12b0 : decide (t239 < 0) = false := decide_eq_false c12
         clear c12
         by_cases c16 : x4_1.length < 17592186044416
         ·rw [if_pos c16] at H
          have LMc16 := zpS c16
          clear c16
          obtain ⟨y240, hy240⟩ : ∃ y_ : List Int, y_ = (x4_1 ++ [t239]) := ⟨_, rfl⟩
          replace H : (zlQ.l0 k1 l0 y240 (wrap64 (x5_1 + 1))) = some (r1, r2) := by first | (rw [hy240]; with_reducible exact H) | (have H2_ := (Option.bind_some _ _).symm.trans H; rw [hy240]; with_reducible exact H2_) | (have H2_ := (Option.bind_some _ _).symm.trans H; with_reducible exact H2_) | with_reducible exact H | (rw [hy240]; exact H) | exact H
          have Ny240 := zpS hy240
          clear hy240
          have H' := zpS H
          clear H
          try go_wp2
          have n0_ := zpS (Kd.R_drew HO_4.out)
          have n1_ := zpS (zvF HB.out)
          clear HO_4
          clear HB
          have HO_4 := n0_
          have HB := n1_
          clear n0_ n1_
          have p231 : 0 ≤ ((ji6) : Int) := dt_
          have q231 : (ji6) < (l0.length : Int) := dt_
          obtain ⟨ad231, e231, hx231_0, hx231_1, hx231_2, hx231_3, hx231_4, hx231_5⟩ := at_T65 HR0.out (ji6) p231 q231
          have hw231_5 := hx231_5
          have hw231_4 := hx231_4
          have hw231_3 := hx231_3
          have hw231_2 := hx231_2
          have hw231_1 := hx231_1
          have hw231_0 := hx231_0
          cases e231
          replace hx231_0 := zeA HB.out hx231_0
          replace hx231_1 := zeA HB.out hx231_1
          replace hx231_2 := zeA HB.out hx231_2
          replace hx231_3 := zeA HB.out hx231_3
          replace hx231_4 := zeA HB.out hx231_4
          replace hx231_5 := zeA HB.out hx231_5
          replace p231 := eq_true p231
          replace q231 := eq_true q231
          have p232 : 0 ≤ (x5_1 : Int) := dt_
          have q232 : x5_1 < (l0.length : Int) := dt_
          obtain ⟨ad232, e232, hx232_0, hx232_1, hx232_2, hx232_3, hx232_4, hx232_5⟩ := at_T65 HR0.out x5_1 p232 q232
          have hw232_5 := hx232_5
          have hw232_4 := hx232_4
          have hw232_3 := hx232_3
          have hw232_2 := hx232_2
          have hw232_1 := hx232_1
          have hw232_0 := hx232_0
          obtain rfl : ad231 = ad232 := (by injection e232)
          replace hx232_0 := zeA HB.out hx232_0
          replace hx232_1 := zeA HB.out hx232_1
          replace hx232_2 := zeA HB.out hx232_2
          replace hx232_3 := zeA HB.out hx232_3
          replace hx232_4 := zeA HB.out hx232_4
          replace hx232_5 := zeA HB.out hx232_5
          replace p232 := eq_true p232
          replace q232 := eq_true q232
          refine zpB (n := 15) (S := fun w' => w'.cell? (ad231.add (((ji6)).toNat * 6)) = some (.int .i64 ((zbT l0 (ji6)).f0.f0)) ∧ w'.cell? ⟨(ad231.add (((ji6)).toNat * 6)).block, (ad231.add (((ji6)).toNat * 6)).off + 1, none⟩ = some (.int .i64 ((zbT l0 (ji6)).f0.f1)) ∧ w'.cell? ⟨(ad231.add (((ji6)).toNat * 6)).block, (ad231.add (((ji6)).toNat * 6)).off + 2, none⟩ = some (.int .i64 ((zbT l0 (ji6)).f0.f2)) ∧ w'.cell? ⟨(ad231.add (((ji6)).toNat * 6)).block, (ad231.add (((ji6)).toNat * 6)).off + 3, none⟩ = some (.int .i64 ((zbT l0 (ji6)).f1.f0)) ∧ w'.cell? ⟨(ad231.add (((ji6)).toNat * 6)).block, (ad231.add (((ji6)).toNat * 6)).off + 4, none⟩ = some (.int .i64 ((zbT l0 (ji6)).f1.f1)) ∧ w'.cell? ⟨(ad231.add (((ji6)).toNat * 6)).block, (ad231.add (((ji6)).toNat * 6)).off + 5, none⟩ = some (.int .i64 ((zbT l0 (ji6)).f1.f2)) ∧ w'.cell? (ad231.add ((x5_1).toNat * 6)) = some (.int .i64 ((zbT l0 x5_1).f0.f0)) ∧ w'.cell? ⟨(ad231.add ((x5_1).toNat * 6)).block, (ad231.add ((x5_1).toNat * 6)).off + 1, none⟩ = some (.int .i64 ((zbT l0 x5_1).f0.f1)) ∧ w'.cell? ⟨(ad231.add ((x5_1).toNat * 6)).block, (ad231.add ((x5_1).toNat * 6)).off + 2, none⟩ = some (.int .i64 ((zbT l0 x5_1).f0.f2)) ∧ w'.cell? ⟨(ad231.add ((x5_1).toNat * 6)).block, (ad231.add ((x5_1).toNat * 6)).off + 3, none⟩ = some (.int .i64 ((zbT l0 x5_1).f1.f0)) ∧ w'.cell? ⟨(ad231.add ((x5_1).toNat * 6)).block, (ad231.add ((x5_1).toNat * 6)).off + 4, none⟩ = some (.int .i64 ((zbT l0 x5_1).f1.f1)) ∧ w'.cell? ⟨(ad231.add ((x5_1).toNat * 6)).block, (ad231.add ((x5_1).toNat * 6)).off + 5, none⟩ = some (.int .i64 ((zbT l0 x5_1).f1.f2))) (ds := []) #[false, false, false, false, false, false, false, false, false, false, false, false, false, false, false] (by kernel_rfl) rfl rfl ⟨(zeA HB.out hw231_0), (zeA HB.out hw231_1), (zeA HB.out hw231_2), (zeA HB.out hw231_3), (zeA HB.out hw231_4), (zeA HB.out hw231_5), (zeA HB.out hw232_0), (zeA HB.out hw232_1), (zeA HB.out hw232_2), (zeA HB.out hw232_3), (zeA HB.out hw232_4), (zeA HB.out hw232_5)⟩ (fun hHeld => ?_); refine zwI zlQ.tab5 zlQ.bits5 (fun HT_ HW_ => ?_)
          generalize wr.drew = w17 at HO_4 HB hx231_0 hx231_1 hx231_2 hx231_3 hx231_4 hx231_5 hx232_0 hx232_1 hx232_2 hx232_3 hx232_4 hx232_5 hHeld ⊢
          refine pu_ 0 (some 14) (bl_ 15 1) ?_
          refine pu_ 1 (some 15) (bl_ 15 3) ?_
          refine pu_ 2 (some 16) (bl_ 15 7) ?_
          refine pu_ 3 (some 17) (bl_ 15 15) ?_
          refine pu_ 4 (some 18) (bl_ 15 31) ?_
          refine pu_ 5 (some 19) (bl_ 15 63) ?_
          refine pu_ 6 (some 20) (bl_ 15 127) ?_
          refine pu_ 8 (some 22) (bl_ 15 383) ?_
          refine pu_ 9 (some 23) (bl_ 15 895) ?_
          refine pu_ 10 (some 24) (bl_ 15 1919) ?_
          refine zmW 7 (some 21) (bl_ 15 2047) hHeld ?_
          refine zmW 11 (some 25) (bl_ 15 4095) hHeld ?_
          refine zdC (i := 12) (N := some 26) (bl_ 15 8191) rfl rfl (zeO HT_.out (by kernel_rfl)) (by decide) (fun K hK => ?_)
          refine zqW Tryd.func40 (by kernel_rfl) rfl #[.agg #[.int .i64 ((zbT l0 (ji6)).f0.f0), .int .i64 ((zbT l0 (ji6)).f0.f1), .int .i64 ((zbT l0 (ji6)).f0.f2), .int .i64 ((zbT l0 (ji6)).f1.f0), .int .i64 ((zbT l0 (ji6)).f1.f1), .int .i64 ((zbT l0 (ji6)).f1.f2)], .agg #[.int .i64 ((zbT l0 x5_1).f0.f0), .int .i64 ((zbT l0 x5_1).f0.f1), .int .i64 ((zbT l0 x5_1).f0.f2), .int .i64 ((zbT l0 x5_1).f1.f0), .int .i64 ((zbT l0 x5_1).f1.f1), .int .i64 ((zbT l0 x5_1).f1.f2)]] (by rfl) rfl rfl (by (try simp only [List.map_toArray, List.map_cons, List.map_nil]); first | done | (simp only [hji6]; rfl) | rfl | (simp only [List.length_drop, List.length_take]; rfl)) ?_
          with_reducible refine (zkL.calls k1 ((zbT l0 (ji6)).f0.f0) ((zbT l0 (ji6)).f0.f1) ((zbT l0 (ji6)).f0.f2) ((zbT l0 (ji6)).f1.f0) ((zbT l0 (ji6)).f1.f1) ((zbT l0 (ji6)).f1.f2) ((zbT l0 x5_1).f0.f0) ((zbT l0 x5_1).f0.f1) ((zbT l0 x5_1).f0.f2) ((zbT l0 x5_1).f1.f0) ((zbT l0 x5_1).f1.f1) ((zbT l0 x5_1).f1.f2) t233 t234 t235 t236 t237 t238 _ A10.out).mono ?_
          rintro e w18 ⟨rfl, hb⟩
          refine ⟨_, rfl, ?_⟩
          have n0_ := zpS (Kd.R_below (by (with_reducible repeat (first | apply Kd.R_alloc | apply Kd.R_drewN | apply Kd.R_drew)); exact HO_4.out) hb)
          have n1_ := (ns_ hb)
          clear HO_4
          clear HB
          have HO_4 := n0_
          have HB := n1_
          clear n0_ n1_
          (try clear hb)
          (try clear hb2)
          (try clear hk)
          (try clear hi)
          refine hK.out _ _ ⟨(zeA HB.out hw231_0), (zeA HB.out hw231_1), (zeA HB.out hw231_2), (zeA HB.out hw231_3), (zeA HB.out hw231_4), (zeA HB.out hw231_5), (zeA HB.out hw232_0), (zeA HB.out hw232_1), (zeA HB.out hw232_2), (zeA HB.out hw232_3), (zeA HB.out hw232_4), (zeA HB.out hw232_5)⟩ (fun hHeld => ?_)
          clear hK K
          refine zaN (a' := ?_) ?_ ?_
          rotate_left
          ·show Act.put _ (some 26) _ = _
           simp only [Act.put, List.setIfInBounds_toArray, List.set_cons_zero, List.set_cons_succ, zcM, ziK]
           rfl
          refine zdC (i := 13) (N := some 27) (bl_ 15 16383) rfl rfl (zeO HT_.out (by kernel_rfl)) (by decide) (fun K hK => ?_)
          refine zqW Tryd.func39 (by kernel_rfl) rfl #[.agg #[.int .i64 t233, .int .i64 t234, .int .i64 t235, .int .i64 t236, .int .i64 t237, .int .i64 t238]] (by rfl) rfl rfl (by (try simp only [List.map_toArray, List.map_cons, List.map_nil]); first | done | rfl | (simp only [List.length_drop, List.length_take]; rfl)) ?_
          with_reducible refine (znA.calls k1 t233 t234 t235 t236 t237 t238 t239 _ A11.out).mono ?_
          rintro e w19 ⟨rfl, hb⟩
          refine ⟨_, rfl, ?_⟩
          have n0_ := zpS (Kd.R_below (by (with_reducible repeat (first | apply Kd.R_alloc | apply Kd.R_drewN | apply Kd.R_drew)); exact HO_4.out) hb)
          have n1_ := (ns_ hb)
          clear HO_4
          clear HB
          have HO_4 := n0_
          have HB := n1_
          clear n0_ n1_
          (try clear hb)
          (try clear hb2)
          (try clear hk)
          (try clear hi)
          refine hK.out _ _ ⟨(zeA HB.out hw231_0), (zeA HB.out hw231_1), (zeA HB.out hw231_2), (zeA HB.out hw231_3), (zeA HB.out hw231_4), (zeA HB.out hw231_5), (zeA HB.out hw232_0), (zeA HB.out hw232_1), (zeA HB.out hw232_2), (zeA HB.out hw232_3), (zeA HB.out hw232_4), (zeA HB.out hw232_5)⟩ (fun hHeld => ?_)
          clear hK K
          refine zaN (a' := ?_) ?_ ?_
          rotate_left
          ·show Act.put _ (some 27) _ = _
           simp only [Act.put, List.setIfInBounds_toArray, List.set_cons_zero, List.set_cons_succ, zcM, ziK]
           rfl
          refine pu_ 14 (some 6) (bl_ 15 32767) ?_
          refine znK (zzP HT_.out (by kernel_rfl)) ?_
          try go_wp2_with (first | ((with_reducible refine zcL (b := .append) (xs := #[.tmp 30, .tmp 32]) rfl ?_); at_builtin; refine Kd.R_append (Kd.int .i64) (w0 := w) w.heap.size rfl (.tmp 30) (.tmp 32) 47 2 (.int .i64 0) 8 rfl Tryd.underlying47 info2 rfl (by decide) (by omega) u4 x4_1 t239 [.int .i64 t239] (fun _ => True) (fun _ => False) rfl rfl ?aP (fun _ hk => hk.elim) ?aF ?aO ?aB ?aS ?aL ?_; (case aP => exact rfl); (case aB => exact bb_); (case aF => exact (fun _ _ => trivial)); (case aO => exact (by (with_reducible repeat (first | apply Kd.R_alloc | apply Kd.R_drewN | apply Kd.R_drew)); exact HO_4.out)); (case aS => exact (zuA bb_)); (case aL => have := LMc16.out; omega); intro v241 w20 ho hb hg hat; rw [← Ny240.out] at ho; have n0_ := zpS (hb); have n1_ := zpS (ho); clear HB; clear HO_4; have HB := n0_; have HO242 := n1_; clear n0_ n1_; clear ho hb hg hat))
          go_roundg k1
          case measure => have := HK1.out; omega
          case rel => exact ⟨(y240), (wrap64 (x5_1 + 1)), (by first | rfl | (simp; done) | (simp [*]; done)), H', ⟨by have := HK1.out; omega⟩, ⟨by (with_reducible repeat (first | apply Kd.R_alloc | apply Kd.R_drewN | apply Kd.R_drew)); exact HO242.out⟩, ⟨bb_⟩⟩
         ·rw [if_neg c16] at H
          exact absurd H (by simp)
       ·rw [if_neg c9] at H
        exact absurd H (by simp)
      ·rw [if_neg c8] at H
       exact absurd H (by simp)
     ·rw [if_neg c7] at H
      exact absurd H (by simp)
   ·rw [if_neg c4] at H
    have c4b0 : decide (x5_1 < (l0.length : Int)) = false := decide_eq_false c4
    clear c4
    simp only [Option.some.injEq, Prod.mk.injEq] at H
    obtain ⟨rfl, rfl⟩ := H
    go_wp2
    go_ret2
    exact ⟨_, by first | rfl | (simp [ziS, znJ] <;> rfl) | (simp [*, ziS, znJ] <;> rfl), by (with_reducible repeat (first | apply Kd.R_alloc | apply Kd.R_drewN | apply Kd.R_drew)); exact HO_4.out, bb_⟩

def zsN.l0 : Nat → List (S35) → List (S65) → Int → Option ((List (S65)))
 | 0, _, _, _ => none
 | k + 1, x0, x3, x4 => if x4 < (x0.length : Int) then (if 0 ≤ x4 then ((ziY.f ((zmE x0 x4).f0.f0) ((zmE x0 x4).f0.f1) ((zmE x0 x4).f0.f2) ((zmE x0 x4).f1.f0) ((zmE x0 x4).f1.f1) ((zmE x0 x4).f1.f2)).bind fun bt247 => (if x3.length < 2932031007402 then (zsN.l0 k x0 (x3 ++ [(⟨(⟨bt247.1, bt247.2.1, bt247.2.2.1⟩ : S63), (⟨bt247.2.2.2.1, bt247.2.2.2.2.1, bt247.2.2.2.2.2⟩ : S63)⟩ : S65)]) (wrap64 (x4 + 1))) else (none))) else (none)) else (some x3)
def zsN.f (k : Nat) (l0 : List (S35)) : Option ((List (S65))) := zsN.l0 k l0 (([] : List (S65))) 0
theorem zsN.mono_l : ∀ k, (∀ y0 y1 y2, LeO (zsN.l0 k y0 y1 y2) (zsN.l0 (k + 1) y0 y1 y2))
 | 0 => fun _ _ _ r h => by simp [zsN.l0] at h
 | k + 1 => by
  have ih0 := zsN.mono_l k
  ·intro y0 y1 y2
   unfold zsN.l0
   repeat' first
   | (with_reducible exact ih0 _ _ _)
   | (with_reducible exact LeO.refl _)
   | (with_reducible exact LeO.none _)
   | (with_reducible refine LeO.ite ?_ ?_)
   | (with_reducible refine LeO.bind ?_ (fun _ => ?_))
   | exact ih0 _ _ _
   | exact LeO.none _
   | refine LeO.ite ?_ ?_
   | refine LeO.bind ?_ (fun _ => ?_)
theorem zsN.mono : ∀ a0 k, LeO (zsN.f k a0) (zsN.f (k + 1) a0) := by
 intro a0 k
 have ih0 := zsN.mono_l k
 unfold zsN.f
 repeat' first
   | (with_reducible exact ih0 _ _ _)
   | (with_reducible exact LeO.refl _)
   | (with_reducible exact LeO.none _)
   | (with_reducible refine LeO.ite ?_ ?_)
   | (with_reducible refine LeO.bind ?_ (fun _ => ?_))
   | exact ih0 _ _ _
   | exact LeO.none _
   | refine LeO.ite ?_ ?_
   | refine LeO.bind ?_ (fun _ => ?_)
theorem zsN.calls (k : Nat) (A0 : Option Addr) (c0 : Nat) (l0 : List (S35)) (r : List (S65)) (w : World) (hr0 : Kd.C k35 w A0 l0.length l0) (hc0 : l0.length ≤ c0) (h : zsN.f k l0 = some r) :
  Calls Tryd.prog 25 #[.slice A0 l0.length c0] w fun e w' => ∃ v0_ : Value, e = .returned (v0_) ∧ Kd.R k65 65 w' w.heap.size (fun _ => True) v0_ r ∧ Below w.heap.size w w' := by
 have hu35 := Tryd.underlying35
 have HR0 := zpS hr0
 have HC0 := zpS hc0
 clear hr0 hc0
 have HB := zpS (Below.refl w.heap.size w)
 have H : (zsN.l0 k l0 (([] : List (S65))) 0) = some r := h
 clear h
 obtain ⟨y243, hy243⟩ : ∃ y_ : List (S65), y_ = (([] : List (S65))) := ⟨_, rfl⟩
 replace H : (zsN.l0 k l0 y243 0) = some r := by first | (rw [hy243]; with_reducible exact H) | (have H2_ := (Option.bind_some _ _).symm.trans H; rw [hy243]; with_reducible exact H2_) | (have H2_ := (Option.bind_some _ _).symm.trans H; with_reducible exact H2_) | with_reducible exact H | (rw [hy243]; exact H) | exact H
 have Ny243 := zpS hy243
 clear hy243
 have H' := zpS H
 clear H
 go_enter Tryd.func25, Tryd.ntmps25
 go_wp2_with (first | ((with_reducible refine zpZ (N := 5) rfl ?_); refine Kd.R_lit k65 _ 65 ?hg (N := 5) ?hd (xs := ([] : List (S65))) (inner := []) (ok := fun _ => True) (okp := fun _ => True) ?hr ?hp (fun _ hk => hk) trivial (Below.refl _ _) (Nat.le_refl _) (by simp) ?_; (case hd => rfl); (case hg => rfl); (case hr => first | (go_simp; done) | (go_simp; rfl)); (case hp => exact (zfH.none _ _)); intro v244 w2 ho3 hb hg_ hnew_; clear hg_ hnew_; (first | rw [← Ny243.out] at ho3 | (simp only [Int.reduceToNat] at ho3; rw [← Ny243.out] at ho3)); have n0_ := zpS (Kd.R_lower ho3 (zuA bb_)); have n1_ := (ns_ hb); clear HB; have HO245 := n0_; have HB := n1_; clear n0_ n1_; clear hb ho3))
 (try go_simp)
 go_loopg [3, 4] k (fun kq v3 v4 w' => ∃ (x3_1 : List (S65)) (x4_1 : Int), v4 = .int .i64 x4_1 ∧ Aside0 (zsN.l0 kq l0 x3_1 x4_1 = some r) ∧ Aside0 (kq ≤ k) ∧ Aside0 (Kd.R k65 65 w' w.heap.size (fun _ => True) v3 x3_1) ∧ Aside0 (Below w.heap.size w w'))
 case atStart => exact ⟨(y243), (0), (by first | rfl | (simp; done) | (simp [*]; done)), H', ⟨Nat.le_refl _⟩, ⟨by (with_reducible repeat (first | apply Kd.R_alloc | apply Kd.R_drewN | apply Kd.R_drew)); exact HO245.out⟩, ⟨bb_⟩⟩
 case round =>
  clear H'
  try clear c2
  try clear p2
  obtain ⟨x3_1, x4_1, rfl, HA, HK1, HO_3, HB⟩ := hrel
  cases gk with
  | zero => exact absurd HA.out (by simp [zsN.l0])
  | succ k1 =>
   have H := HA.out
   clear HA
   simp only [zsN.l0] at H
   by_cases c4 : x4_1 < (l0.length : Int)
   ·rw [if_pos c4] at H
    have c4b0 : decide (x4_1 < (l0.length : Int)) = true := decide_eq_true c4
    clear c4
    by_cases c5 : 0 ≤ x4_1
    ·rw [if_pos c5] at H
     have c5b0 : decide (0 ≤ x4_1) = true := decide_eq_true c5
     clear c5
     replace H := Option.bind_eq_some_iff.mp H
     obtain ⟨⟨t247, t248, t249, t250, t251, t252⟩, A60, H⟩ := H
     replace H : (if x3_1.length < 2932031007402 then (zsN.l0 k1 l0 (x3_1 ++ [(⟨(⟨t247, t248, t249⟩ : S63), (⟨t250, t251, t252⟩ : S63)⟩ : S65)]) (wrap64 (x4_1 + 1))) else (none)) = some r := H
     have A6 := zpS A60
     clear A60
     by_cases c7 : x3_1.length < 2932031007402
     ·rw [if_pos c7] at H
      have LMc7 := zpS c7
      clear c7
      obtain ⟨y253, hy253⟩ : ∃ y_ : List (S65), y_ = (x3_1 ++ [(⟨(⟨t247, t248, t249⟩ : S63), (⟨t250, t251, t252⟩ : S63)⟩ : S65)]) := ⟨_, rfl⟩
      replace H : (zsN.l0 k1 l0 y253 (wrap64 (x4_1 + 1))) = some r := by first | (rw [hy253]; with_reducible exact H) | (have H2_ := (Option.bind_some _ _).symm.trans H; rw [hy253]; with_reducible exact H2_) | (have H2_ := (Option.bind_some _ _).symm.trans H; with_reducible exact H2_) | with_reducible exact H | (rw [hy253]; exact H) | exact H
      have Ny253 := zpS hy253
      clear hy253
      have H' := zpS H
      clear H
      have p246 : 0 ≤ (x4_1 : Int) := dt_
      have q246 : x4_1 < (l0.length : Int) := dt_
      obtain ⟨ad246, e246, hx246_0, hx246_1, hx246_2, hx246_3, hx246_4, hx246_5⟩ := zcN HR0.out x4_1 p246 q246
      cases e246
      replace hx246_0 := zeA HB.out hx246_0
      replace hx246_1 := zeA HB.out hx246_1
      replace hx246_2 := zeA HB.out hx246_2
      replace hx246_3 := zeA HB.out hx246_3
      replace hx246_4 := zeA HB.out hx246_4
      replace hx246_5 := zeA HB.out hx246_5
      replace p246 := eq_true p246
      replace q246 := eq_true q246
      go_wp2_with (first | ((with_reducible refine zgK (f := 41) rfl ?_); refine zqQ (some 17) rfl rfl Tryd.func41 (by kernel_rfl) rfl #[.agg #[.int .i64 ((zmE l0 x4_1).f0.f0), .int .i64 ((zmE l0 x4_1).f0.f1), .int .i64 ((zmE l0 x4_1).f0.f2), .int .i64 ((zmE l0 x4_1).f1.f0), .int .i64 ((zmE l0 x4_1).f1.f1), .int .i64 ((zmE l0 x4_1).f1.f2)]] rfl (by (try simp only [List.map_toArray, List.map_cons, List.map_nil]); first | done | rfl | (simp only [List.length_drop, List.length_take]; rfl)) ?_; (with_reducible refine (ziY.calls ((zmE l0 x4_1).f0.f0) ((zmE l0 x4_1).f0.f1) ((zmE l0 x4_1).f0.f2) ((zmE l0 x4_1).f1.f0) ((zmE l0 x4_1).f1.f1) ((zmE l0 x4_1).f1.f2) t247 t248 t249 t250 t251 t252 _ A6.out).mono ?_); rintro e w8 ⟨rfl, hb⟩; refine ⟨_, rfl, ?_⟩; have n0_ := zpS (Kd.R_below (by (with_reducible repeat (first | apply Kd.R_alloc | apply Kd.R_drewN | apply Kd.R_drew)); exact HO_3.out) hb); have n1_ := (ns_ hb); clear HO_3; clear HB; have HO_3 := n0_; have HB := n1_; clear n0_ n1_; (try clear hb); (try clear hb2)) | ((with_reducible refine zcL (b := .append) (xs := #[.tmp 12, .tmp 18]) rfl ?_); at_builtin; refine Kd.R_append k65 (w0 := w) w.heap.size rfl (.tmp 12) (.tmp 18) 50 65 (.agg #[(.int .i64 0), (.int .i64 0), (.int .i64 0), (.int .i64 0), (.int .i64 0), (.int .i64 0)]) 48 rfl Tryd.underlying50 info65 rfl (by decide) (by omega) u3 x3_1 (⟨(⟨t247, t248, t249⟩ : S63), (⟨t250, t251, t252⟩ : S63)⟩ : S65) [.int .i64 t247, .int .i64 t248, .int .i64 t249, .int .i64 t250, .int .i64 t251, .int .i64 t252] (fun _ => True) (fun _ => False) rfl rfl ?aP (fun _ hk => hk.elim) ?aF ?aO ?aB ?aS ?aL ?_; (case aP => exact k65_mkM _ _ _ (⟨(⟨t247, t248, t249⟩ : S63), (⟨t250, t251, t252⟩ : S63)⟩ : S65)); (case aB => exact bb_); (case aF => exact (fun _ _ => trivial)); (case aO => exact (by (with_reducible repeat (first | apply Kd.R_alloc | apply Kd.R_drewN | apply Kd.R_drew)); exact HO_3.out)); (case aS => exact (zuA bb_)); (case aL => have := LMc7.out; omega); intro v254 w9 ho hb hg hat; rw [← Ny253.out] at ho; have n0_ := zpS (hb); have n1_ := zpS (ho); clear HB; clear HO_3; have HB := n0_; have HO255 := n1_; clear n0_ n1_; clear ho hb hg hat))
      go_roundg k1
      case measure => have := HK1.out; omega
      case rel => exact ⟨(y253), (wrap64 (x4_1 + 1)), (by first | rfl | (simp; done) | (simp [*]; done)), H', ⟨by have := HK1.out; omega⟩, ⟨by (with_reducible repeat (first | apply Kd.R_alloc | apply Kd.R_drewN | apply Kd.R_drew)); exact HO255.out⟩, ⟨bb_⟩⟩
     ·rw [if_neg c7] at H
      exact absurd H (by simp)
    ·rw [if_neg c5] at H
     exact absurd H (by simp)
   ·rw [if_neg c4] at H
    have c4b0 : decide (x4_1 < (l0.length : Int)) = false := decide_eq_false c4
    clear c4
    obtain rfl := Option.some.inj H
    go_wp2
    go_ret
    exact ⟨_, by first | rfl | (simp [ziS, znJ] <;> rfl) | (simp [*, ziS, znJ] <;> rfl), by (with_reducible repeat (first | apply Kd.R_alloc | apply Kd.R_drewN | apply Kd.R_drew)); exact HO_3.out, bb_⟩

end Go.Proofs.YtbnfbflfhpniaaaDoor.PFnExactNormalPolygon
