-- Printed for this claim by this session's program pp.py, which drives the kit's print with additions. Not trusted: Lean checks it.
import Derived.Test.YtmajpmofeddknaaDoorV1PFnExactInPolygonx0
import Derived.Test.YtmajpmofeddknaaDoorV1PFnExactInPolygonx3
import Derived.Test.YtmajpmofeddknaaDoorV1PFnExactInPolygonx5
import Derived.Test.YtmajpmofeddknaaDoorV1PFnExactInPolygonx6
import Derived.Test.YtmajpmofeddknaaDoorV1PFnExactInPolygonx7
namespace Go.Proofs.YtmajpmofeddknaaDoor.PFnExactInPolygon
open Go.RowKit Go.Proofs.YtmajpmofeddknaaDoorW.PrintWords Go.Proofs.YtmajpmofeddknaaDoorW.PrintLast Go.Proofs.YtmajpmofeddknaaDoorW.PrintMore
attribute [local go_sem] zeE zdX zeQ zeO zdK zdI zeA zeC   -- for this text's walks alone
set_option linter.unusedVariables false
set_option linter.unusedSimpArgs false

def zbM.l0 : Nat → List (S94) → List Int → Int → Int → Int → Int → Int → Int → Int → Int → Option (Int)
 | 0, _, _, _, _, _, _, _, _, _, _ => none
 | k + 1, x0, x1, x7, x8, x285000, x285001, x285002, x285003, x285004, x285005 => if x8 < (x0.length : Int) then (if 0 ≤ x8 then (if x8 < (x1.length : Int) then ((zbL.f k x285000 x285001 x285002 x285003 x285004 x285005 ((zbF x0 x8).f0.f0) ((zbF x0 x8).f0.f1) ((zbF x0 x8).f0.f2) ((zbF x0 x8).f1.f0) ((zbF x0 x8).f1.f1) ((zbF x0 x8).f1.f2)).bind fun bt287 => ((zbP.f k (wrap64 ((rd x1 x8) + 4)) bt287.1 bt287.2.1 bt287.2.2.1 bt287.2.2.2.1 bt287.2.2.2.2.1 bt287.2.2.2.2.2).bind fun bt293 => ((zaO.f k bt293.1 bt293.2.1 bt293.2.2).bind fun t296 => (if t296 < x7 then (zbM.l0 k x0 x1 t296 (wrap64 (x8 + 1)) x285000 x285001 x285002 x285003 x285004 x285005) else (zbM.l0 k x0 x1 x7 (wrap64 (x8 + 1)) x285000 x285001 x285002 x285003 x285004 x285005))))) else (none)) else (none)) else (some x7)
def zbM.f (k : Nat) (l0 : List (S94)) (l1 : List Int) (a2_0 : Int) (a2_1 : Int) (a2_2 : Int) (a2_3 : Int) (a2_4 : Int) (a2_5 : Int) : Option (Int) := zbM.l0 k l0 l1 1 0 a2_0 a2_1 a2_2 a2_3 a2_4 a2_5
theorem zbM.mono_l : ∀ k, (∀ y0 y1 y2 y3 y4 y5 y6 y7 y8 y9, LeO (zbM.l0 k y0 y1 y2 y3 y4 y5 y6 y7 y8 y9) (zbM.l0 (k + 1) y0 y1 y2 y3 y4 y5 y6 y7 y8 y9))
 | 0 => fun _ _ _ _ _ _ _ _ _ _ r h => by simp [zbM.l0] at h
 | k + 1 => by
  have ih0 := zbM.mono_l k
  ·intro y0 y1 y2 y3 y4 y5 y6 y7 y8 y9
   unfold zbM.l0
   repeat' first
   | (with_reducible exact ih0 _ _ _ _ _ _ _ _ _ _)
   | (with_reducible exact zaO.mono _ _ _ _)
   | (with_reducible exact zbP.mono _ _ _ _ _ _ _ _)
   | (with_reducible exact zbL.mono _ _ _ _ _ _ _ _ _ _ _ _ _)
   | (with_reducible exact LeO.refl _)
   | (with_reducible exact LeO.none _)
   | (with_reducible refine LeO.ite ?_ ?_)
   | (with_reducible refine LeO.bind ?_ (fun _ => ?_))
   | exact ih0 _ _ _ _ _ _ _ _ _ _
   | exact zaO.mono _ _ _ _
   | exact zbP.mono _ _ _ _ _ _ _ _
   | exact zbL.mono _ _ _ _ _ _ _ _ _ _ _ _ _
   | exact LeO.none _
   | refine LeO.ite ?_ ?_
   | refine LeO.bind ?_ (fun _ => ?_)
theorem zbM.mono : ∀ a0 a1 a2 a3 a4 a5 a6 a7 k, LeO (zbM.f k a0 a1 a2 a3 a4 a5 a6 a7) (zbM.f (k + 1) a0 a1 a2 a3 a4 a5 a6 a7) := by
 intro a0 a1 a2 a3 a4 a5 a6 a7 k
 have ih0 := zbM.mono_l k
 unfold zbM.f
 repeat' first
   | (with_reducible exact ih0 _ _ _ _ _ _ _ _ _ _)
   | (with_reducible exact zaO.mono _ _ _ _)
   | (with_reducible exact zbP.mono _ _ _ _ _ _ _ _)
   | (with_reducible exact zbL.mono _ _ _ _ _ _ _ _ _ _ _ _ _)
   | (with_reducible exact LeO.refl _)
   | (with_reducible exact LeO.none _)
   | (with_reducible refine LeO.ite ?_ ?_)
   | (with_reducible refine LeO.bind ?_ (fun _ => ?_))
   | exact ih0 _ _ _ _ _ _ _ _ _ _
   | exact zaO.mono _ _ _ _
   | exact zbP.mono _ _ _ _ _ _ _ _
   | exact zbL.mono _ _ _ _ _ _ _ _ _ _ _ _ _
   | exact LeO.none _
   | refine LeO.ite ?_ ?_
   | refine LeO.bind ?_ (fun _ => ?_)
def zbM.T5 : Bool × List (List Nat × List Nat) := (true, [([], []), ([], []), ([0, 1], [0, 1]), ([2], [2]), ([3], [3]), ([], []), ([], []), ([], []), ([6, 7], [6, 7]), ([8], [8]), ([5, 9], [5, 9]), ([4, 10, 10], [4, 10]), ([11, 11], [11]), ([12, 12, 0, 1, 2, 3, 4, 5, 6, 7, 8, 9, 10, 11, 12], [12])])
def zbM.B5 : List Nat := [0, 0, 3, 7, 15, 0, 0, 0, 192, 448, 992, 2047, 4095, 8191]
theorem zbM.tab5 : rtab .any (opsOf Tryd.f62 5) = zbM.T5 := by kernel_rfl
theorem zbM.bits5 : zdW zbM.T5.2 zbM.B5 = true := by kernel_rfl
set_option maxHeartbeats 8000000 in
set_option maxRecDepth 100000 in
theorem zbM.calls (k : Nat) (A0 : Option Addr) (c0 : Nat) (l0 : List (S94)) (A1 : Option Addr) (c1 : Nat) (l1 : List Int) (a2_0 : Int) (a2_1 : Int) (a2_2 : Int) (a2_3 : Int) (a2_4 : Int) (a2_5 : Int) (r : Int) (w : World) (hr0 : Kd.C k94 w A0 l0.length l0) (hc0 : l0.length ≤ c0) (hr1 : Kd.C (Kd.int .i64) w A1 l1.length l1) (hc1 : l1.length ≤ c1) (h : zbM.f k l0 l1 a2_0 a2_1 a2_2 a2_3 a2_4 a2_5 = some r) :
  Calls Tryd.prog 62 #[.slice A0 l0.length c0, .slice A1 l1.length c1, .agg #[.int .i64 a2_0, .int .i64 a2_1, .int .i64 a2_2, .int .i64 a2_3, .int .i64 a2_4, .int .i64 a2_5]] w fun e w' => e = .returned (.int .i64 r) ∧ Below w.heap.size w w' := by
 have hu94 := Tryd.underlying94
 have HR0 := zaJ hr0
 have HC0 := zaJ hc0
 clear hr0 hc0
 have HR1 := zaJ hr1
 have HC1 := zaJ hc1
 clear hr1 hc1
 have HB := zaJ (Below.refl w.heap.size w)
 have H : (zbM.l0 k l0 l1 1 0 a2_0 a2_1 a2_2 a2_3 a2_4 a2_5) = some r := h
 clear h
 have H' := zaJ H
 clear H
 go_enter Tryd.func62, Tryd.ntmps62
 go_wp2_with (first | ((with_reducible refine zaQ (N := 5) rfl ?_); refine bx_ 5 #[.int .i64 a2_0, .int .i64 a2_1, .int .i64 a2_2, .int .i64 a2_3, .int .i64 a2_4, .int .i64 a2_5] 94 ?_; intro gb284 hg w4 hbox hb; have n0_ := (ns_ hb); have n1_ := zaJ (hbox); have n2_ := (ng_ hg); have n3_ := n2_; clear HB; have HB := n0_; have BK284 := n1_; have GW284 := n2_; have GE284 := n3_; clear n0_ n1_ n2_ n3_; clear hb hbox hg))
 (try go_simp)
 go_loopg [7, 8] k (fun kq v7 v8 w' => ∃ (x7_1 : Int) (x8_1 : Int), v7 = .int .i64 x7_1 ∧ v8 = .int .i64 x8_1 ∧ Aside0 (zbM.l0 kq l0 l1 x7_1 x8_1 a2_0 a2_1 a2_2 a2_3 a2_4 a2_5 = some r) ∧ Aside0 (kq ≤ k) ∧ Aside0 (w'.heap[gb284]? = some (.cells #[.int .i64 a2_0, .int .i64 a2_1, .int .i64 a2_2, .int .i64 a2_3, .int .i64 a2_4, .int .i64 a2_5] 94 (0, 0))) ∧ Aside0 (Below w.heap.size w w'))
 case atStart => exact ⟨(1), (0), (by first | rfl | (simp; done) | (simp [*]; done)), (by first | rfl | (simp; done) | (simp [*]; done)), H', ⟨Nat.le_refl _⟩, ⟨bk_⟩, ⟨bb_⟩⟩
 case round =>
  clear H'
  try clear c1
  try clear p2
  obtain ⟨x7_1, x8_1, rfl, rfl, HA, HK1, BK284, HB⟩ := hrel
  cases gk with
  | zero => exact absurd HA.out (by simp [zbM.l0])
  | succ k1 =>
   have H := HA.out
   clear HA
   simp only [zbM.l0] at H
   by_cases c5 : x8_1 < (l0.length : Int)
   ·rw [if_pos c5] at H
    have c5b0 : decide (x8_1 < (l0.length : Int)) = true := decide_eq_true c5
    clear c5
    by_cases c6 : 0 ≤ x8_1
    ·rw [if_pos c6] at H
     have c6b0 : decide (0 ≤ x8_1) = true := decide_eq_true c6
     clear c6
     by_cases c7 : x8_1 < (l1.length : Int)
     ·rw [if_pos c7] at H
      have c7b0 : decide (x8_1 < (l1.length : Int)) = true := decide_eq_true c7
      clear c7
      replace H := Option.bind_eq_some_iff.mp H
      obtain ⟨⟨t287, t288, t289, t290, t291, t292⟩, A80, H⟩ := H
      replace H : ((zbP.f k1 (wrap64 ((rd l1 x8_1) + 4)) t287 t288 t289 t290 t291 t292).bind fun bt293 => ((zaO.f k1 bt293.1 bt293.2.1 bt293.2.2).bind fun t296 => (if t296 < x7_1 then (zbM.l0 k1 l0 l1 t296 (wrap64 (x8_1 + 1)) a2_0 a2_1 a2_2 a2_3 a2_4 a2_5) else (zbM.l0 k1 l0 l1 x7_1 (wrap64 (x8_1 + 1)) a2_0 a2_1 a2_2 a2_3 a2_4 a2_5)))) = some r := H
      have A8 := zaJ A80
      clear A80
      replace H := Option.bind_eq_some_iff.mp H
      obtain ⟨⟨t293, t294, t295⟩, A90, H⟩ := H
      replace H : ((zaO.f k1 t293 t294 t295).bind fun t296 => (if t296 < x7_1 then (zbM.l0 k1 l0 l1 t296 (wrap64 (x8_1 + 1)) a2_0 a2_1 a2_2 a2_3 a2_4 a2_5) else (zbM.l0 k1 l0 l1 x7_1 (wrap64 (x8_1 + 1)) a2_0 a2_1 a2_2 a2_3 a2_4 a2_5))) = some r := H
      have A9 := zaJ A90
      clear A90
      replace H := Option.bind_eq_some_iff.mp H
      obtain ⟨t296, A100, H⟩ := H
      replace H : (if t296 < x7_1 then (zbM.l0 k1 l0 l1 t296 (wrap64 (x8_1 + 1)) a2_0 a2_1 a2_2 a2_3 a2_4 a2_5) else (zbM.l0 k1 l0 l1 x7_1 (wrap64 (x8_1 + 1)) a2_0 a2_1 a2_2 a2_3 a2_4 a2_5)) = some r := H
      have A10 := zaJ A100
      clear A100
      by_cases c11 : t296 < x7_1
      ·rw [if_pos c11] at H
       have c11b0 : decide (t296 < x7_1) = true := decide_eq_true c11
       clear c11
       have H' := zaJ H
       clear H
       try go_wp2
       have n0_ := zaJ (zaE BK284.out)
       have n1_ := zaJ (zbT HB.out)
       clear BK284
       clear HB
       have BK284 := n0_
       have HB := n1_
       clear n0_ n1_
       have p285 : 0 ≤ (x8_1 : Int) := of_decide_eq_true (by first | (with_reducible assumption) | assumption)
       have q285 : x8_1 < (l1.length : Int) := of_decide_eq_true (by first | (with_reducible assumption) | assumption)
       obtain ⟨ad285, e285, hx285_0⟩ := Kd.at_int HR1.out x8_1 p285 q285
       have hw285_0 := hx285_0
       cases e285
       replace hx285_0 := zaR HB.out hx285_0
       replace p285 := eq_true p285
       replace q285 := eq_true q285
       have p286 : 0 ≤ (x8_1 : Int) := of_decide_eq_true (by first | (with_reducible assumption) | assumption)
       have q286 : x8_1 < (l0.length : Int) := of_decide_eq_true (by first | (with_reducible assumption) | assumption)
       obtain ⟨ad286, e286, hx286_0, hx286_1, hx286_2, hx286_3, hx286_4, hx286_5⟩ := at_T94 HR0.out x8_1 p286 q286
       have hw286_5 := hx286_5
       have hw286_4 := hx286_4
       have hw286_3 := hx286_3
       have hw286_2 := hx286_2
       have hw286_1 := hx286_1
       have hw286_0 := hx286_0
       cases e286
       replace hx286_0 := zaR HB.out hx286_0
       replace hx286_1 := zaR HB.out hx286_1
       replace hx286_2 := zaR HB.out hx286_2
       replace hx286_3 := zaR HB.out hx286_3
       replace hx286_4 := zaR HB.out hx286_4
       replace hx286_5 := zaR HB.out hx286_5
       replace p286 := eq_true p286
       replace q286 := eq_true q286
       refine zdL (n := 14) (S := fun w' => w'.cell? ⟨gb284, 0, none⟩ = some (.int .i64 a2_0) ∧ w'.cell? ⟨gb284, 1, none⟩ = some (.int .i64 a2_1) ∧ w'.cell? ⟨gb284, 2, none⟩ = some (.int .i64 a2_2) ∧ w'.cell? ⟨gb284, 3, none⟩ = some (.int .i64 a2_3) ∧ w'.cell? ⟨gb284, 4, none⟩ = some (.int .i64 a2_4) ∧ w'.cell? ⟨gb284, 5, none⟩ = some (.int .i64 a2_5) ∧ w'.cell? (ad285.add (x8_1).toNat) = some (.int .i64 (rd l1 x8_1)) ∧ w'.cell? (ad286.add ((x8_1).toNat * 6)) = some (.int .i64 ((zbF l0 x8_1).f0.f0)) ∧ w'.cell? ⟨(ad286.add ((x8_1).toNat * 6)).block, (ad286.add ((x8_1).toNat * 6)).off + 1, none⟩ = some (.int .i64 ((zbF l0 x8_1).f0.f1)) ∧ w'.cell? ⟨(ad286.add ((x8_1).toNat * 6)).block, (ad286.add ((x8_1).toNat * 6)).off + 2, none⟩ = some (.int .i64 ((zbF l0 x8_1).f0.f2)) ∧ w'.cell? ⟨(ad286.add ((x8_1).toNat * 6)).block, (ad286.add ((x8_1).toNat * 6)).off + 3, none⟩ = some (.int .i64 ((zbF l0 x8_1).f1.f0)) ∧ w'.cell? ⟨(ad286.add ((x8_1).toNat * 6)).block, (ad286.add ((x8_1).toNat * 6)).off + 4, none⟩ = some (.int .i64 ((zbF l0 x8_1).f1.f1)) ∧ w'.cell? ⟨(ad286.add ((x8_1).toNat * 6)).block, (ad286.add ((x8_1).toNat * 6)).off + 5, none⟩ = some (.int .i64 ((zbF l0 x8_1).f1.f2))) (ds := []) #[false, false, false, false, false, false, false, false, false, false, false, false, false, false] (by kernel_rfl) rfl rfl ⟨(zaB BK284.out 0).trans rfl, (zaB BK284.out 1).trans rfl, (zaB BK284.out 2).trans rfl, (zaB BK284.out 3).trans rfl, (zaB BK284.out 4).trans rfl, (zaB BK284.out 5).trans rfl, (zaR HB.out hw285_0), (zaR HB.out hw286_0), (zaR HB.out hw286_1), (zaR HB.out hw286_2), (zaR HB.out hw286_3), (zaR HB.out hw286_4), (zaR HB.out hw286_5)⟩ (fun hHeld => ?_); refine zcN zbM.tab5 zbM.bits5 (fun HT_ HW_ => ?_)
       generalize wr.drew = w12 at BK284 HB hx285_0 hx286_0 hx286_1 hx286_2 hx286_3 hx286_4 hx286_5 hHeld ⊢
       refine pu_ 0 (some 16) (bl_ 14 1) ?_
       refine pu_ 1 (some 17) (bl_ 14 3) ?_
       refine pu_ 2 (some 18) (bl_ 14 7) ?_
       refine pu_ 6 (some 22) (bl_ 14 71) ?_
       refine pu_ 7 (some 23) (bl_ 14 199) ?_
       refine pu_ 8 (some 24) (bl_ 14 455) ?_
       refine tk13_ 3 (some 19) (bl_ 14 463) hHeld ?_
       refine pu_ 4 (some 20) (bl_ 14 479) ?_
       refine tk13_ 5 (some 21) (bl_ 14 511) hHeld ?_
       refine tk13_ 9 (some 25) (bl_ 14 1023) hHeld ?_
       refine zeK (i := 10) (N := some 26) (bl_ 14 2047) rfl rfl (zcK HT_.out (by kernel_rfl)) (by decide) (fun K hK => ?_)
       refine zcY Tryd.func111 (by kernel_rfl) rfl #[.agg #[.int .i64 a2_0, .int .i64 a2_1, .int .i64 a2_2, .int .i64 a2_3, .int .i64 a2_4, .int .i64 a2_5], .agg #[.int .i64 ((zbF l0 x8_1).f0.f0), .int .i64 ((zbF l0 x8_1).f0.f1), .int .i64 ((zbF l0 x8_1).f0.f2), .int .i64 ((zbF l0 x8_1).f1.f0), .int .i64 ((zbF l0 x8_1).f1.f1), .int .i64 ((zbF l0 x8_1).f1.f2)]] (by rfl) rfl rfl (by (try simp only [List.map_toArray, List.map_cons, List.map_nil]); first | done | rfl | (simp only [List.length_drop, List.length_take]; rfl)) ?_
       with_reducible refine (zbL.calls k1 a2_0 a2_1 a2_2 a2_3 a2_4 a2_5 ((zbF l0 x8_1).f0.f0) ((zbF l0 x8_1).f0.f1) ((zbF l0 x8_1).f0.f2) ((zbF l0 x8_1).f1.f0) ((zbF l0 x8_1).f1.f1) ((zbF l0 x8_1).f1.f2) t287 t288 t289 t290 t291 t292 _ A8.out).mono ?_
       rintro e w13 ⟨rfl, hb⟩
       refine ⟨_, rfl, ?_⟩
       have n0_ := zaJ (zaG (g := gb284) (o := .cells #[.int .i64 a2_0, .int .i64 a2_1, .int .i64 a2_2, .int .i64 a2_3, .int .i64 a2_4, .int .i64 a2_5] 94 (0, 0)) bk_ hb)
       have n1_ := (ns_ hb)
       clear BK284
       clear HB
       have BK284 := n0_
       have HB := n1_
       clear n0_ n1_
       (try clear hb)
       (try clear hb2)
       (try clear hk)
       (try clear hi)
       refine hK.out _ _ ⟨(zaB BK284.out 0).trans rfl, (zaB BK284.out 1).trans rfl, (zaB BK284.out 2).trans rfl, (zaB BK284.out 3).trans rfl, (zaB BK284.out 4).trans rfl, (zaB BK284.out 5).trans rfl, (zaR HB.out hw285_0), (zaR HB.out hw286_0), (zaR HB.out hw286_1), (zaR HB.out hw286_2), (zaR HB.out hw286_3), (zaR HB.out hw286_4), (zaR HB.out hw286_5)⟩ (fun hHeld => ?_)
       clear hK K
       refine zcX (a' := ?_) ?_ ?_
       rotate_left
       ·show Act.put _ (some 26) _ = _
        simp only [Act.put, List.setIfInBounds_toArray, List.set_cons_zero, List.set_cons_succ, zbW, zbY]
        rfl
       refine zeK (i := 11) (N := some 27) (bl_ 14 4095) rfl rfl (zcK HT_.out (by kernel_rfl)) (by decide) (fun K hK => ?_)
       refine zcY Tryd.func113 (by kernel_rfl) rfl #[.int .i64 (wrap64 ((rd l1 x8_1) + 4)), .agg #[.int .i64 t287, .int .i64 t288, .int .i64 t289, .int .i64 t290, .int .i64 t291, .int .i64 t292]] (by rfl) rfl rfl (by (try simp only [List.map_toArray, List.map_cons, List.map_nil]); first | done | rfl | (simp only [List.length_drop, List.length_take]; rfl)) ?_
       with_reducible refine (zbP.calls k1 (wrap64 ((rd l1 x8_1) + 4)) t287 t288 t289 t290 t291 t292 t293 t294 t295 _ A9.out).mono ?_
       rintro e w14 ⟨rfl, hb⟩
       refine ⟨_, rfl, ?_⟩
       have n0_ := zaJ (zaG (g := gb284) (o := .cells #[.int .i64 a2_0, .int .i64 a2_1, .int .i64 a2_2, .int .i64 a2_3, .int .i64 a2_4, .int .i64 a2_5] 94 (0, 0)) bk_ hb)
       have n1_ := (ns_ hb)
       clear BK284
       clear HB
       have BK284 := n0_
       have HB := n1_
       clear n0_ n1_
       (try clear hb)
       (try clear hb2)
       (try clear hk)
       (try clear hi)
       refine hK.out _ _ ⟨(zaB BK284.out 0).trans rfl, (zaB BK284.out 1).trans rfl, (zaB BK284.out 2).trans rfl, (zaB BK284.out 3).trans rfl, (zaB BK284.out 4).trans rfl, (zaB BK284.out 5).trans rfl, (zaR HB.out hw285_0), (zaR HB.out hw286_0), (zaR HB.out hw286_1), (zaR HB.out hw286_2), (zaR HB.out hw286_3), (zaR HB.out hw286_4), (zaR HB.out hw286_5)⟩ (fun hHeld => ?_)
       clear hK K
       refine zcX (a' := ?_) ?_ ?_
       rotate_left
       ·show Act.put _ (some 27) _ = _
        simp only [Act.put, List.setIfInBounds_toArray, List.set_cons_zero, List.set_cons_succ, zbW, zbY]
        rfl
       refine zeK (i := 12) (N := some 28) (bl_ 14 8191) rfl rfl (zcK HT_.out (by kernel_rfl)) (by decide) (fun K hK => ?_)
       refine zcY Tryd.func112 (by kernel_rfl) rfl #[.agg #[.int .i64 t293, .int .i64 t294, .int .i64 t295]] (by rfl) rfl rfl (by (try simp only [List.map_toArray, List.map_cons, List.map_nil]); first | done | rfl | (simp only [List.length_drop, List.length_take]; rfl)) ?_
       with_reducible refine (zaO.calls k1 t293 t294 t295 t296 _ A10.out).mono ?_
       rintro e w15 ⟨rfl, hb⟩
       refine ⟨_, rfl, ?_⟩
       have n0_ := zaJ (zaG (g := gb284) (o := .cells #[.int .i64 a2_0, .int .i64 a2_1, .int .i64 a2_2, .int .i64 a2_3, .int .i64 a2_4, .int .i64 a2_5] 94 (0, 0)) bk_ hb)
       have n1_ := (ns_ hb)
       clear BK284
       clear HB
       have BK284 := n0_
       have HB := n1_
       clear n0_ n1_
       (try clear hb)
       (try clear hb2)
       (try clear hk)
       (try clear hi)
       refine hK.out _ _ ⟨(zaB BK284.out 0).trans rfl, (zaB BK284.out 1).trans rfl, (zaB BK284.out 2).trans rfl, (zaB BK284.out 3).trans rfl, (zaB BK284.out 4).trans rfl, (zaB BK284.out 5).trans rfl, (zaR HB.out hw285_0), (zaR HB.out hw286_0), (zaR HB.out hw286_1), (zaR HB.out hw286_2), (zaR HB.out hw286_3), (zaR HB.out hw286_4), (zaR HB.out hw286_5)⟩ (fun hHeld => ?_)
       clear hK K
       refine zcX (a' := ?_) ?_ ?_
       rotate_left
       ·show Act.put _ (some 28) _ = _
        simp only [Act.put, List.setIfInBounds_toArray, List.set_cons_zero, List.set_cons_succ, zbW, zbY]
        rfl
       refine pu_ 13 (some 9) (bl_ 14 16383) ?_
       refine zeS (zdD HT_.out (by kernel_rfl)) ?_
       try go_wp2
       go_roundg k1
       case measure => have := HK1.out; omega
       case rel => exact ⟨(t296), (wrap64 (x8_1 + 1)), (by first | rfl | (simp; done) | (simp [*]; done)), (by first | rfl | (simp; done) | (simp [*]; done)), H', ⟨by have := HK1.out; omega⟩, ⟨bk_⟩, ⟨bb_⟩⟩
      ·rw [if_neg c11] at H
       have c11b0 : decide (t296 < x7_1) = false := decide_eq_false c11
       clear c11
       have H' := zaJ H
       clear H
       try go_wp2
       have n0_ := zaJ (zaE BK284.out)
       have n1_ := zaJ (zbT HB.out)
       clear BK284
       clear HB
       have BK284 := n0_
       have HB := n1_
       clear n0_ n1_
       have p285 : 0 ≤ (x8_1 : Int) := of_decide_eq_true (by first | (with_reducible assumption) | assumption)
       have q285 : x8_1 < (l1.length : Int) := of_decide_eq_true (by first | (with_reducible assumption) | assumption)
       obtain ⟨ad285, e285, hx285_0⟩ := Kd.at_int HR1.out x8_1 p285 q285
       have hw285_0 := hx285_0
       cases e285
       replace hx285_0 := zaR HB.out hx285_0
       replace p285 := eq_true p285
       replace q285 := eq_true q285
       have p286 : 0 ≤ (x8_1 : Int) := of_decide_eq_true (by first | (with_reducible assumption) | assumption)
       have q286 : x8_1 < (l0.length : Int) := of_decide_eq_true (by first | (with_reducible assumption) | assumption)
       obtain ⟨ad286, e286, hx286_0, hx286_1, hx286_2, hx286_3, hx286_4, hx286_5⟩ := at_T94 HR0.out x8_1 p286 q286
       have hw286_5 := hx286_5
       have hw286_4 := hx286_4
       have hw286_3 := hx286_3
       have hw286_2 := hx286_2
       have hw286_1 := hx286_1
       have hw286_0 := hx286_0
       cases e286
       replace hx286_0 := zaR HB.out hx286_0
       replace hx286_1 := zaR HB.out hx286_1
       replace hx286_2 := zaR HB.out hx286_2
       replace hx286_3 := zaR HB.out hx286_3
       replace hx286_4 := zaR HB.out hx286_4
       replace hx286_5 := zaR HB.out hx286_5
       replace p286 := eq_true p286
       replace q286 := eq_true q286
       refine zdL (n := 14) (S := fun w' => w'.cell? ⟨gb284, 0, none⟩ = some (.int .i64 a2_0) ∧ w'.cell? ⟨gb284, 1, none⟩ = some (.int .i64 a2_1) ∧ w'.cell? ⟨gb284, 2, none⟩ = some (.int .i64 a2_2) ∧ w'.cell? ⟨gb284, 3, none⟩ = some (.int .i64 a2_3) ∧ w'.cell? ⟨gb284, 4, none⟩ = some (.int .i64 a2_4) ∧ w'.cell? ⟨gb284, 5, none⟩ = some (.int .i64 a2_5) ∧ w'.cell? (ad285.add (x8_1).toNat) = some (.int .i64 (rd l1 x8_1)) ∧ w'.cell? (ad286.add ((x8_1).toNat * 6)) = some (.int .i64 ((zbF l0 x8_1).f0.f0)) ∧ w'.cell? ⟨(ad286.add ((x8_1).toNat * 6)).block, (ad286.add ((x8_1).toNat * 6)).off + 1, none⟩ = some (.int .i64 ((zbF l0 x8_1).f0.f1)) ∧ w'.cell? ⟨(ad286.add ((x8_1).toNat * 6)).block, (ad286.add ((x8_1).toNat * 6)).off + 2, none⟩ = some (.int .i64 ((zbF l0 x8_1).f0.f2)) ∧ w'.cell? ⟨(ad286.add ((x8_1).toNat * 6)).block, (ad286.add ((x8_1).toNat * 6)).off + 3, none⟩ = some (.int .i64 ((zbF l0 x8_1).f1.f0)) ∧ w'.cell? ⟨(ad286.add ((x8_1).toNat * 6)).block, (ad286.add ((x8_1).toNat * 6)).off + 4, none⟩ = some (.int .i64 ((zbF l0 x8_1).f1.f1)) ∧ w'.cell? ⟨(ad286.add ((x8_1).toNat * 6)).block, (ad286.add ((x8_1).toNat * 6)).off + 5, none⟩ = some (.int .i64 ((zbF l0 x8_1).f1.f2))) (ds := []) #[false, false, false, false, false, false, false, false, false, false, false, false, false, false] (by kernel_rfl) rfl rfl ⟨(zaB BK284.out 0).trans rfl, (zaB BK284.out 1).trans rfl, (zaB BK284.out 2).trans rfl, (zaB BK284.out 3).trans rfl, (zaB BK284.out 4).trans rfl, (zaB BK284.out 5).trans rfl, (zaR HB.out hw285_0), (zaR HB.out hw286_0), (zaR HB.out hw286_1), (zaR HB.out hw286_2), (zaR HB.out hw286_3), (zaR HB.out hw286_4), (zaR HB.out hw286_5)⟩ (fun hHeld => ?_); refine zcN zbM.tab5 zbM.bits5 (fun HT_ HW_ => ?_)
       generalize wr.drew = w16 at BK284 HB hx285_0 hx286_0 hx286_1 hx286_2 hx286_3 hx286_4 hx286_5 hHeld ⊢
       refine pu_ 0 (some 16) (bl_ 14 1) ?_
       refine pu_ 1 (some 17) (bl_ 14 3) ?_
       refine pu_ 2 (some 18) (bl_ 14 7) ?_
       refine pu_ 6 (some 22) (bl_ 14 71) ?_
       refine pu_ 7 (some 23) (bl_ 14 199) ?_
       refine pu_ 8 (some 24) (bl_ 14 455) ?_
       refine tk13_ 3 (some 19) (bl_ 14 463) hHeld ?_
       refine pu_ 4 (some 20) (bl_ 14 479) ?_
       refine tk13_ 5 (some 21) (bl_ 14 511) hHeld ?_
       refine tk13_ 9 (some 25) (bl_ 14 1023) hHeld ?_
       refine zeK (i := 10) (N := some 26) (bl_ 14 2047) rfl rfl (zcK HT_.out (by kernel_rfl)) (by decide) (fun K hK => ?_)
       refine zcY Tryd.func111 (by kernel_rfl) rfl #[.agg #[.int .i64 a2_0, .int .i64 a2_1, .int .i64 a2_2, .int .i64 a2_3, .int .i64 a2_4, .int .i64 a2_5], .agg #[.int .i64 ((zbF l0 x8_1).f0.f0), .int .i64 ((zbF l0 x8_1).f0.f1), .int .i64 ((zbF l0 x8_1).f0.f2), .int .i64 ((zbF l0 x8_1).f1.f0), .int .i64 ((zbF l0 x8_1).f1.f1), .int .i64 ((zbF l0 x8_1).f1.f2)]] (by rfl) rfl rfl (by (try simp only [List.map_toArray, List.map_cons, List.map_nil]); first | done | rfl | (simp only [List.length_drop, List.length_take]; rfl)) ?_
       with_reducible refine (zbL.calls k1 a2_0 a2_1 a2_2 a2_3 a2_4 a2_5 ((zbF l0 x8_1).f0.f0) ((zbF l0 x8_1).f0.f1) ((zbF l0 x8_1).f0.f2) ((zbF l0 x8_1).f1.f0) ((zbF l0 x8_1).f1.f1) ((zbF l0 x8_1).f1.f2) t287 t288 t289 t290 t291 t292 _ A8.out).mono ?_
       rintro e w17 ⟨rfl, hb⟩
       refine ⟨_, rfl, ?_⟩
       have n0_ := zaJ (zaG (g := gb284) (o := .cells #[.int .i64 a2_0, .int .i64 a2_1, .int .i64 a2_2, .int .i64 a2_3, .int .i64 a2_4, .int .i64 a2_5] 94 (0, 0)) bk_ hb)
       have n1_ := (ns_ hb)
       clear BK284
       clear HB
       have BK284 := n0_
       have HB := n1_
       clear n0_ n1_
       (try clear hb)
       (try clear hb2)
       (try clear hk)
       (try clear hi)
       refine hK.out _ _ ⟨(zaB BK284.out 0).trans rfl, (zaB BK284.out 1).trans rfl, (zaB BK284.out 2).trans rfl, (zaB BK284.out 3).trans rfl, (zaB BK284.out 4).trans rfl, (zaB BK284.out 5).trans rfl, (zaR HB.out hw285_0), (zaR HB.out hw286_0), (zaR HB.out hw286_1), (zaR HB.out hw286_2), (zaR HB.out hw286_3), (zaR HB.out hw286_4), (zaR HB.out hw286_5)⟩ (fun hHeld => ?_)
       clear hK K
       refine zcX (a' := ?_) ?_ ?_
       rotate_left
       ·show Act.put _ (some 26) _ = _
        simp only [Act.put, List.setIfInBounds_toArray, List.set_cons_zero, List.set_cons_succ, zbW, zbY]
        rfl
       refine zeK (i := 11) (N := some 27) (bl_ 14 4095) rfl rfl (zcK HT_.out (by kernel_rfl)) (by decide) (fun K hK => ?_)
       refine zcY Tryd.func113 (by kernel_rfl) rfl #[.int .i64 (wrap64 ((rd l1 x8_1) + 4)), .agg #[.int .i64 t287, .int .i64 t288, .int .i64 t289, .int .i64 t290, .int .i64 t291, .int .i64 t292]] (by rfl) rfl rfl (by (try simp only [List.map_toArray, List.map_cons, List.map_nil]); first | done | rfl | (simp only [List.length_drop, List.length_take]; rfl)) ?_
       with_reducible refine (zbP.calls k1 (wrap64 ((rd l1 x8_1) + 4)) t287 t288 t289 t290 t291 t292 t293 t294 t295 _ A9.out).mono ?_
       rintro e w18 ⟨rfl, hb⟩
       refine ⟨_, rfl, ?_⟩
       have n0_ := zaJ (zaG (g := gb284) (o := .cells #[.int .i64 a2_0, .int .i64 a2_1, .int .i64 a2_2, .int .i64 a2_3, .int .i64 a2_4, .int .i64 a2_5] 94 (0, 0)) bk_ hb)
       have n1_ := (ns_ hb)
       clear BK284
       clear HB
       have BK284 := n0_
       have HB := n1_
       clear n0_ n1_
       (try clear hb)
       (try clear hb2)
       (try clear hk)
       (try clear hi)
       refine hK.out _ _ ⟨(zaB BK284.out 0).trans rfl, (zaB BK284.out 1).trans rfl, (zaB BK284.out 2).trans rfl, (zaB BK284.out 3).trans rfl, (zaB BK284.out 4).trans rfl, (zaB BK284.out 5).trans rfl, (zaR HB.out hw285_0), (zaR HB.out hw286_0), (zaR HB.out hw286_1), (zaR HB.out hw286_2), (zaR HB.out hw286_3), (zaR HB.out hw286_4), (zaR HB.out hw286_5)⟩ (fun hHeld => ?_)
       clear hK K
       refine zcX (a' := ?_) ?_ ?_
       rotate_left
       ·show Act.put _ (some 27) _ = _
        simp only [Act.put, List.setIfInBounds_toArray, List.set_cons_zero, List.set_cons_succ, zbW, zbY]
        rfl
       refine zeK (i := 12) (N := some 28) (bl_ 14 8191) rfl rfl (zcK HT_.out (by kernel_rfl)) (by decide) (fun K hK => ?_)
       refine zcY Tryd.func112 (by kernel_rfl) rfl #[.agg #[.int .i64 t293, .int .i64 t294, .int .i64 t295]] (by rfl) rfl rfl (by (try simp only [List.map_toArray, List.map_cons, List.map_nil]); first | done | rfl | (simp only [List.length_drop, List.length_take]; rfl)) ?_
       with_reducible refine (zaO.calls k1 t293 t294 t295 t296 _ A10.out).mono ?_
       rintro e w19 ⟨rfl, hb⟩
       refine ⟨_, rfl, ?_⟩
       have n0_ := zaJ (zaG (g := gb284) (o := .cells #[.int .i64 a2_0, .int .i64 a2_1, .int .i64 a2_2, .int .i64 a2_3, .int .i64 a2_4, .int .i64 a2_5] 94 (0, 0)) bk_ hb)
       have n1_ := (ns_ hb)
       clear BK284
       clear HB
       have BK284 := n0_
       have HB := n1_
       clear n0_ n1_
       (try clear hb)
       (try clear hb2)
       (try clear hk)
       (try clear hi)
       refine hK.out _ _ ⟨(zaB BK284.out 0).trans rfl, (zaB BK284.out 1).trans rfl, (zaB BK284.out 2).trans rfl, (zaB BK284.out 3).trans rfl, (zaB BK284.out 4).trans rfl, (zaB BK284.out 5).trans rfl, (zaR HB.out hw285_0), (zaR HB.out hw286_0), (zaR HB.out hw286_1), (zaR HB.out hw286_2), (zaR HB.out hw286_3), (zaR HB.out hw286_4), (zaR HB.out hw286_5)⟩ (fun hHeld => ?_)
       clear hK K
       refine zcX (a' := ?_) ?_ ?_
       rotate_left
       ·show Act.put _ (some 28) _ = _
        simp only [Act.put, List.setIfInBounds_toArray, List.set_cons_zero, List.set_cons_succ, zbW, zbY]
        rfl
       refine pu_ 13 (some 9) (bl_ 14 16383) ?_
       refine zeS (zdD HT_.out (by kernel_rfl)) ?_
       try go_wp2
       go_roundg k1
       case measure => have := HK1.out; omega
       case rel => exact ⟨(x7_1), (wrap64 (x8_1 + 1)), (by first | rfl | (simp; done) | (simp [*]; done)), (by first | rfl | (simp; done) | (simp [*]; done)), H', ⟨by have := HK1.out; omega⟩, ⟨bk_⟩, ⟨bb_⟩⟩
     ·rw [if_neg c7] at H
      exact absurd H (by simp)
    ·rw [if_neg c6] at H
     exact absurd H (by simp)
   ·rw [if_neg c5] at H
    have c5b0 : decide (x8_1 < (l0.length : Int)) = false := decide_eq_false c5
    clear c5
    obtain rfl := Option.some.inj H
    go_wp2
    go_ret
    exact ⟨by first | rfl | (simp [zaI, zaH] <;> rfl) | (simp [*, zaI, zaH] <;> rfl), bb_⟩

def zbG.j0 : Nat → List (S36) → Bool → Int → Int → Int → Int → Int → Int → Option (Int)
 | 0, _, _, _, _, _, _, _, _ => none
 | k + 1, x0, x15, x298000, x298001, x298002, x298003, x298004, x298005 => if x15 = true then (some (-1)) else ((zbI.f k x0).bind fun t300 => ((zaS.f k t300).bind fun bt303 => ((zcJ.f x298000 x298001 x298002 x298003 x298004 x298005).bind fun bt307 => ((zbM.f k t300 bt303.1 bt307.1 bt307.2.1 bt307.2.2.1 bt307.2.2.2.1 bt307.2.2.2.2.1 bt307.2.2.2.2.2).bind fun t313 => (some t313)))))
def zbG.f (k : Nat) (l0 : List (S36)) (a1_0 : Int) (a1_1 : Int) (a1_2 : Int) (a1_3 : Int) (a1_4 : Int) (a1_5 : Int) : Option (Int) := (zaN.f k l0).bind fun t298 => (if t298 = true then ((zcT.f a1_0 a1_1 a1_2 a1_3 a1_4 a1_5).bind fun t299 => (zbG.j0 k l0 (!t299) a1_0 a1_1 a1_2 a1_3 a1_4 a1_5)) else (zbG.j0 k l0 true a1_0 a1_1 a1_2 a1_3 a1_4 a1_5))
theorem zbG.mono_l : ∀ k, (∀ y0 y1 y2 y3 y4 y5 y6 y7, LeO (zbG.j0 k y0 y1 y2 y3 y4 y5 y6 y7) (zbG.j0 (k + 1) y0 y1 y2 y3 y4 y5 y6 y7))
 | 0 => fun _ _ _ _ _ _ _ _ r h => by simp [zbG.j0] at h
 | k + 1 => by
  have ih0 := zbG.mono_l k
  ·intro y0 y1 y2 y3 y4 y5 y6 y7
   unfold zbG.j0
   repeat' first
   | (with_reducible exact ih0 _ _ _ _ _ _ _ _)
   | (with_reducible exact zbM.mono _ _ _ _ _ _ _ _ _)
   | (with_reducible exact zaN.mono _ _)
   | (with_reducible exact zaS.mono _ _)
   | (with_reducible exact zbI.mono _ _)
   | (with_reducible exact LeO.refl _)
   | (with_reducible exact LeO.none _)
   | (with_reducible refine LeO.ite ?_ ?_)
   | (with_reducible refine LeO.bind ?_ (fun _ => ?_))
   | exact ih0 _ _ _ _ _ _ _ _
   | exact zbM.mono _ _ _ _ _ _ _ _ _
   | exact zaN.mono _ _
   | exact zaS.mono _ _
   | exact zbI.mono _ _
   | exact LeO.none _
   | refine LeO.ite ?_ ?_
   | refine LeO.bind ?_ (fun _ => ?_)
theorem zbG.mono : ∀ a0 a1 a2 a3 a4 a5 a6 k, LeO (zbG.f k a0 a1 a2 a3 a4 a5 a6) (zbG.f (k + 1) a0 a1 a2 a3 a4 a5 a6) := by
 intro a0 a1 a2 a3 a4 a5 a6 k
 have ih0 := zbG.mono_l k
 unfold zbG.f
 repeat' first
   | (with_reducible exact ih0 _ _ _ _ _ _ _ _)
   | (with_reducible exact zbM.mono _ _ _ _ _ _ _ _ _)
   | (with_reducible exact zaN.mono _ _)
   | (with_reducible exact zaS.mono _ _)
   | (with_reducible exact zbI.mono _ _)
   | (with_reducible exact LeO.refl _)
   | (with_reducible exact LeO.none _)
   | (with_reducible refine LeO.ite ?_ ?_)
   | (with_reducible refine LeO.bind ?_ (fun _ => ?_))
   | exact ih0 _ _ _ _ _ _ _ _
   | exact zbM.mono _ _ _ _ _ _ _ _ _
   | exact zaN.mono _ _
   | exact zaS.mono _ _
   | exact zbI.mono _ _
   | exact LeO.none _
   | refine LeO.ite ?_ ?_
   | refine LeO.bind ?_ (fun _ => ?_)
set_option maxHeartbeats 8000000 in
set_option maxRecDepth 100000 in
theorem zbG.calls (k : Nat) (A0 : Option Addr) (c0 : Nat) (l0 : List (S36)) (a1_0 : Int) (a1_1 : Int) (a1_2 : Int) (a1_3 : Int) (a1_4 : Int) (a1_5 : Int) (r : Int) (w : World) (hr0 : Kd.C k36 w A0 l0.length l0) (hc0 : l0.length ≤ c0) (h : zbG.f k l0 a1_0 a1_1 a1_2 a1_3 a1_4 a1_5 = some r) :
  Calls Tryd.prog 19 #[.slice A0 l0.length c0, .agg #[.int .i64 a1_0, .int .i64 a1_1, .int .i64 a1_2, .int .i64 a1_3, .int .i64 a1_4, .int .i64 a1_5]] w fun e w' => e = .returned (.int .i64 r) ∧ Below w.heap.size w w' := by
 have hu36 := Tryd.underlying36
 have HR0 := zaJ hr0
 have HC0 := zaJ hc0
 clear hr0 hc0
 have HB := zaJ (Below.refl w.heap.size w)
 have H : ((zaN.f k l0).bind fun t298 => (if t298 = true then ((zcT.f a1_0 a1_1 a1_2 a1_3 a1_4 a1_5).bind fun t299 => (zbG.j0 k l0 (!t299) a1_0 a1_1 a1_2 a1_3 a1_4 a1_5)) else (zbG.j0 k l0 true a1_0 a1_1 a1_2 a1_3 a1_4 a1_5))) = some r := h
 clear h
 have HC3 := zaJ H
 clear H
 go_enter Tryd.func19, Tryd.ntmps19
 go_upto_region 1 with (first | ((with_reducible refine zaQ (N := 3) rfl ?_); refine bx_ 3 #[.int .i64 a1_0, .int .i64 a1_1, .int .i64 a1_2, .int .i64 a1_3, .int .i64 a1_4, .int .i64 a1_5] 36 ?_; intro gb297 hg w4 hbox hb; have n0_ := (ns_ hb); have n1_ := zaJ (hbox); have n2_ := (ng_ hg); have n3_ := n2_; clear HB; have HB := n0_; have BK297 := n1_; have GW297 := n2_; have GE297 := n3_; clear n0_ n1_ n2_ n3_; clear hb hbox hg))
 (try simp only [Act.put, set_a_, set_b_, set_c_])
 go_cut [15] (fun v15 wc => ∃ (kq : Nat) (x15_2 : Bool), v15 = .bool x15_2 ∧ Aside0 (zbG.j0 kq l0 x15_2 a1_0 a1_1 a1_2 a1_3 a1_4 a1_5 = some r) ∧ Aside0 (kq ≤ k) ∧ Aside0 (wc.heap[gb297]? = some (.cells #[.int .i64 a1_0, .int .i64 a1_1, .int .i64 a1_2, .int .i64 a1_3, .int .i64 a1_4, .int .i64 a1_5] 36 (0, 0))) ∧ Aside0 (Below w.heap.size w wc))
 case first =>
  have H := HC3.out
  clear HC3
  replace H := Option.bind_eq_some_iff.mp H
  obtain ⟨t298, A50, H⟩ := H
  replace H : (if t298 = true then ((zcT.f a1_0 a1_1 a1_2 a1_3 a1_4 a1_5).bind fun t299 => (zbG.j0 k l0 (!t299) a1_0 a1_1 a1_2 a1_3 a1_4 a1_5)) else (zbG.j0 k l0 true a1_0 a1_1 a1_2 a1_3 a1_4 a1_5)) = some r := H
  have A5 := zaJ A50
  clear A50
  by_cases c6 : t298 = true
  ·subst c6
   have H1 : ((zcT.f a1_0 a1_1 a1_2 a1_3 a1_4 a1_5).bind fun t299 => (zbG.j0 k l0 (!t299) a1_0 a1_1 a1_2 a1_3 a1_4 a1_5)) = some r := by rw [if_pos rfl] at H; exact H
   clear H
   have H := H1
   clear H1
   replace H := Option.bind_eq_some_iff.mp H
   obtain ⟨t299, A70, H⟩ := H
   replace H : (zbG.j0 k l0 (!t299) a1_0 a1_1 a1_2 a1_3 a1_4 a1_5) = some r := H
   have A7 := zaJ A70
   clear A70
   have H' := zaJ H
   clear H
   go_wp2_with (first | ((with_reducible refine zaK (f := 53) rfl ?_); refine zbQ (some 9) rfl rfl Tryd.func53 (by kernel_rfl) rfl #[.slice A0 l0.length c0] rfl (by (try simp only [List.map_toArray, List.map_cons, List.map_nil]); first | done | rfl | (simp only [List.length_drop, List.length_take]; rfl)) ?_; (with_reducible refine (zaN.calls k _ _ l0 true _ ?side1 ?side2 A5.out).mono ?_); (case side1 => repeat (first | exact (Kd.C_below HR0.out HB.out) | (with_reducible refine Kd.C_alloc ?_ _) | (with_reducible refine Kd.C_drewN ?_ _) | (with_reducible refine Kd.C_drew ?_))); (case side2 => exact HC0.out); rintro e w8 ⟨rfl, hb⟩; refine ⟨_, rfl, ?_⟩; have n0_ := zaJ (zaG (g := gb297) (o := .cells #[.int .i64 a1_0, .int .i64 a1_1, .int .i64 a1_2, .int .i64 a1_3, .int .i64 a1_4, .int .i64 a1_5] 36 (0, 0)) bk_ hb); have n1_ := (ns_ hb); clear BK297; clear HB; have BK297 := n0_; have HB := n1_; clear n0_ n1_; (try clear hb); (try clear hb2); obtain ⟨hcz9_0, hcz9_1, hcz9_2, hcz9_3, hcz9_4, hcz9_5⟩ := zeX BK297.out; obtain ⟨hfz9_0, hfz9_1, hfz9_2, hfz9_3, hfz9_4, hfz9_5⟩ := zeW BK297.out) | (go_at_call 59; (with_reducible refine (zcT.calls a1_0 a1_1 a1_2 a1_3 a1_4 a1_5 t299 _ A7.out).mono ?_); rintro e w10 ⟨rfl, hb⟩; have n0_ := zaJ (zaG (g := gb297) (o := .cells #[.int .i64 a1_0, .int .i64 a1_1, .int .i64 a1_2, .int .i64 a1_3, .int .i64 a1_4, .int .i64 a1_5] 36 (0, 0)) bk_ hb); have n1_ := (ns_ hb); clear BK297; clear HB; have BK297 := n0_; have HB := n1_; clear n0_ n1_; (try clear hb); (try clear hb2)))
   go_meet
   case rel => exact ⟨_, (!t299), (by first | rfl | (simp; done) | (simp [*]; done)), H', ⟨by first | omega | exact Nat.le_refl _⟩, ⟨bk_⟩, ⟨bb_⟩⟩
  ·replace c6 := Bool.eq_false_iff.mpr c6
   subst c6
   have H1 : (zbG.j0 k l0 true a1_0 a1_1 a1_2 a1_3 a1_4 a1_5) = some r := by rw [if_neg (show ¬ (false = true) by decide)] at H; exact H
   clear H
   have H := H1
   clear H1
   have H' := zaJ H
   clear H
   go_wp2_with (first | ((with_reducible refine zaK (f := 53) rfl ?_); refine zbQ (some 9) rfl rfl Tryd.func53 (by kernel_rfl) rfl #[.slice A0 l0.length c0] rfl (by (try simp only [List.map_toArray, List.map_cons, List.map_nil]); first | done | rfl | (simp only [List.length_drop, List.length_take]; rfl)) ?_; (with_reducible refine (zaN.calls k _ _ l0 false _ ?side1 ?side2 A5.out).mono ?_); (case side1 => repeat (first | exact (Kd.C_below HR0.out HB.out) | (with_reducible refine Kd.C_alloc ?_ _) | (with_reducible refine Kd.C_drewN ?_ _) | (with_reducible refine Kd.C_drew ?_))); (case side2 => exact HC0.out); rintro e w11 ⟨rfl, hb⟩; refine ⟨_, rfl, ?_⟩; have n0_ := zaJ (zaG (g := gb297) (o := .cells #[.int .i64 a1_0, .int .i64 a1_1, .int .i64 a1_2, .int .i64 a1_3, .int .i64 a1_4, .int .i64 a1_5] 36 (0, 0)) bk_ hb); have n1_ := (ns_ hb); clear BK297; clear HB; have BK297 := n0_; have HB := n1_; clear n0_ n1_; (try clear hb); (try clear hb2)))
   go_meet
   case rel => exact ⟨_, (true), (by first | rfl | (simp; done) | (simp [*]; done)), H', ⟨by first | omega | exact Nat.le_refl _⟩, ⟨bk_⟩, ⟨bb_⟩⟩
 case rest =>
  clear HC3
  try clear c1
  try clear p2
  try clear c5
  try clear c6
  try clear hcz9_0
  try clear hcz9_1
  try clear hcz9_2
  try clear hcz9_3
  try clear hcz9_4
  try clear hcz9_5
  try clear hfz9_0
  try clear hfz9_1
  try clear hfz9_2
  try clear hfz9_3
  try clear hfz9_4
  try clear hfz9_5
  obtain ⟨kq, x15_2, rfl, HA, HJ2, BK297, HB⟩ := hcut
  cases kq with
  | zero => exact absurd HA.out (by simp [zbG.j0])
  | succ kj2 =>
   have H := HA.out
   clear HA
   simp only [zbG.j0] at H
   by_cases c12 : x15_2 = true
   ·subst c12
    have H1 : (some (-1)) = some r := by rw [if_pos rfl] at H; exact H
    clear H
    have H := H1
    clear H1
    obtain rfl := Option.some.inj H
    go_wp2
    go_ret
    exact ⟨by first | rfl | (simp [zaI, zaH] <;> rfl) | (simp [*, zaI, zaH] <;> rfl), bb_⟩
   ·replace c12 := Bool.eq_false_iff.mpr c12
    subst c12
    have H1 : ((zbI.f kj2 l0).bind fun t300 => ((zaS.f kj2 t300).bind fun bt303 => ((zcJ.f a1_0 a1_1 a1_2 a1_3 a1_4 a1_5).bind fun bt307 => ((zbM.f kj2 t300 bt303.1 bt307.1 bt307.2.1 bt307.2.2.1 bt307.2.2.2.1 bt307.2.2.2.2.1 bt307.2.2.2.2.2).bind fun t313 => (some t313))))) = some r := by rw [if_neg (show ¬ (false = true) by decide)] at H; exact H
    clear H
    have H := H1
    clear H1
    replace H := Option.bind_eq_some_iff.mp H
    obtain ⟨t300, A130, H⟩ := H
    replace H : ((zaS.f kj2 t300).bind fun bt303 => ((zcJ.f a1_0 a1_1 a1_2 a1_3 a1_4 a1_5).bind fun bt307 => ((zbM.f kj2 t300 bt303.1 bt307.1 bt307.2.1 bt307.2.2.1 bt307.2.2.2.1 bt307.2.2.2.2.1 bt307.2.2.2.2.2).bind fun t313 => (some t313)))) = some r := H
    have A13 := zaJ A130
    clear A130
    replace H := Option.bind_eq_some_iff.mp H
    obtain ⟨⟨t303, t304⟩, A140, H⟩ := H
    replace H : ((zcJ.f a1_0 a1_1 a1_2 a1_3 a1_4 a1_5).bind fun bt307 => ((zbM.f kj2 t300 t303 bt307.1 bt307.2.1 bt307.2.2.1 bt307.2.2.2.1 bt307.2.2.2.2.1 bt307.2.2.2.2.2).bind fun t313 => (some t313))) = some r := H
    have A14 := zaJ A140
    clear A140
    replace H := Option.bind_eq_some_iff.mp H
    obtain ⟨⟨t307, t308, t309, t310, t311, t312⟩, A150, H⟩ := H
    replace H : ((zbM.f kj2 t300 t303 t307 t308 t309 t310 t311 t312).bind fun t313 => (some t313)) = some r := H
    have A15 := zaJ A150
    clear A150
    replace H := Option.bind_eq_some_iff.mp H
    obtain ⟨t313, A160, H⟩ := H
    replace H : (some t313) = some r := H
    have A16 := zaJ A160
    clear A160
    obtain rfl := Option.some.inj H
    go_wp2_with (first | ((with_reducible refine zaK (f := 60) rfl ?_); refine zbQ (some 17) rfl rfl Tryd.func60 (by kernel_rfl) rfl #[.slice A0 l0.length c0] rfl (by (try simp only [List.map_toArray, List.map_cons, List.map_nil]); first | done | rfl | (simp only [List.length_drop, List.length_take]; rfl)) ?_; (with_reducible refine (zbI.calls kj2 _ _ l0 t300 _ ?side1 ?side2 A13.out).mono ?_); (case side1 => repeat (first | exact (Kd.C_below HR0.out HB.out) | (with_reducible refine Kd.C_alloc ?_ _) | (with_reducible refine Kd.C_drewN ?_ _) | (with_reducible refine Kd.C_drew ?_))); (case side2 => exact HC0.out); rintro e w17 ⟨v301, rfl, ho0, hb⟩; refine ⟨_, rfl, ?_⟩; have n0_ := zaJ (Kd.R_lower ho0 (zdA bb_)); have n1_ := zaJ (zaG (g := gb297) (o := .cells #[.int .i64 a1_0, .int .i64 a1_1, .int .i64 a1_2, .int .i64 a1_3, .int .i64 a1_4, .int .i64 a1_5] 36 (0, 0)) bk_ hb); have n2_ := (ns_ hb); clear BK297; clear HB; have HO302 := n0_; have BK297 := n1_; have HB := n2_; clear n0_ n1_ n2_; (try clear hb); (try clear hb2); (try clear ho0); obtain ⟨Ao18, co18, eo18⟩ := Kd.R_slice HO302.out; subst eo18) | ((with_reducible refine zaK (f := 61) rfl ?_); refine zbQ (some 20) rfl rfl Tryd.func61 (by kernel_rfl) rfl #[.slice Ao18 t300.length co18] rfl (by (try simp only [List.map_toArray, List.map_cons, List.map_nil]); first | done | rfl | (simp only [List.length_drop, List.length_take]; rfl)) ?_; (with_reducible refine (zaS.calls kj2 _ _ t300 t303 t304 _ ?side1 ?side2 A14.out).mono ?_); (case side1 => repeat (first | exact (Kd.R_reads' HO302.out).2.2 | (with_reducible refine Kd.C_alloc ?_ _) | (with_reducible refine Kd.C_drewN ?_ _) | (with_reducible refine Kd.C_drew ?_))); (case side2 => exact (Kd.R_reads' HO302.out).2.1); rintro e w19 ⟨v305, rfl, ho0, hb⟩; refine ⟨_, rfl, ?_⟩; have n0_ := zaJ (Kd.R_below (by (with_reducible repeat (first | apply Kd.R_alloc | apply Kd.R_drewN | apply Kd.R_drew)); exact HO302.out) hb); have n1_ := zaJ (Kd.R_lower ho0 (zdA bb_)); have n2_ := zaJ (zaG (g := gb297) (o := .cells #[.int .i64 a1_0, .int .i64 a1_1, .int .i64 a1_2, .int .i64 a1_3, .int .i64 a1_4, .int .i64 a1_5] 36 (0, 0)) bk_ hb); have n3_ := (ns_ hb); clear HO302; clear BK297; clear HB; have HO302 := n0_; have HO306 := n1_; have BK297 := n2_; have HB := n3_; clear n0_ n1_ n2_ n3_; (try clear hb); (try clear hb2); (try clear ho0); obtain ⟨hcz20_0, hcz20_1, hcz20_2, hcz20_3, hcz20_4, hcz20_5⟩ := zeX BK297.out; obtain ⟨hfz20_0, hfz20_1, hfz20_2, hfz20_3, hfz20_4, hfz20_5⟩ := zeW BK297.out) | ((with_reducible refine zaK (f := 63) rfl ?_); refine zbQ (some 26) rfl rfl Tryd.func63 (by kernel_rfl) rfl #[.agg #[.int .i64 a1_0, .int .i64 a1_1, .int .i64 a1_2, .int .i64 a1_3, .int .i64 a1_4, .int .i64 a1_5]] rfl (by (try simp only [List.map_toArray, List.map_cons, List.map_nil]); first | done | rfl | (simp only [List.length_drop, List.length_take]; rfl)) ?_; (with_reducible refine (zcJ.calls a1_0 a1_1 a1_2 a1_3 a1_4 a1_5 t307 t308 t309 t310 t311 t312 _ A15.out).mono ?_); rintro e w21 ⟨rfl, hb⟩; refine ⟨_, rfl, ?_⟩; have n0_ := zaJ (Kd.R_below (by (with_reducible repeat (first | apply Kd.R_alloc | apply Kd.R_drewN | apply Kd.R_drew)); exact HO302.out) hb); have n1_ := zaJ (Kd.R_below (by (with_reducible repeat (first | apply Kd.R_alloc | apply Kd.R_drewN | apply Kd.R_drew)); exact HO306.out) hb); have n2_ := zaJ (zaG (g := gb297) (o := .cells #[.int .i64 a1_0, .int .i64 a1_1, .int .i64 a1_2, .int .i64 a1_3, .int .i64 a1_4, .int .i64 a1_5] 36 (0, 0)) bk_ hb); have n3_ := (ns_ hb); clear HO302; clear HO306; clear BK297; clear HB; have HO302 := n0_; have HO306 := n1_; have BK297 := n2_; have HB := n3_; clear n0_ n1_ n2_ n3_; (try clear hb); (try clear hb2); obtain ⟨Ao22, co22, eo22⟩ := Kd.R_slice HO306.out; subst eo22) | ((with_reducible refine zaK (f := 62) rfl ?_); refine zbQ (some 27) rfl rfl Tryd.func62 (by kernel_rfl) rfl #[.slice Ao18 t300.length co18, .slice Ao22 t303.length co22, .agg #[.int .i64 t307, .int .i64 t308, .int .i64 t309, .int .i64 t310, .int .i64 t311, .int .i64 t312]] rfl (by (try simp only [List.map_toArray, List.map_cons, List.map_nil]); first | done | rfl | (simp only [List.length_drop, List.length_take]; rfl)) ?_; (with_reducible refine (zbM.calls kj2 _ _ t300 _ _ t303 t307 t308 t309 t310 t311 t312 t313 _ ?side1 ?side2 ?side3 ?side4 A16.out).mono ?_); (case side1 => repeat (first | exact (Kd.R_reads' HO302.out).2.2 | (with_reducible refine Kd.C_alloc ?_ _) | (with_reducible refine Kd.C_drewN ?_ _) | (with_reducible refine Kd.C_drew ?_))); (case side2 => exact (Kd.R_reads' HO302.out).2.1); (case side3 => repeat (first | exact (Kd.R_reads' HO306.out).2.2 | (with_reducible refine Kd.C_alloc ?_ _) | (with_reducible refine Kd.C_drewN ?_ _) | (with_reducible refine Kd.C_drew ?_))); (case side4 => exact (Kd.R_reads' HO306.out).2.1); rintro e w23 ⟨rfl, hb⟩; refine ⟨_, rfl, ?_⟩; have n0_ := zaJ (Kd.R_below (by (with_reducible repeat (first | apply Kd.R_alloc | apply Kd.R_drewN | apply Kd.R_drew)); exact HO302.out) hb); have n1_ := zaJ (Kd.R_below (by (with_reducible repeat (first | apply Kd.R_alloc | apply Kd.R_drewN | apply Kd.R_drew)); exact HO306.out) hb); have n2_ := zaJ (zaG (g := gb297) (o := .cells #[.int .i64 a1_0, .int .i64 a1_1, .int .i64 a1_2, .int .i64 a1_3, .int .i64 a1_4, .int .i64 a1_5] 36 (0, 0)) bk_ hb); have n3_ := (ns_ hb); clear HO302; clear HO306; clear BK297; clear HB; have HO302 := n0_; have HO306 := n1_; have BK297 := n2_; have HB := n3_; clear n0_ n1_ n2_ n3_; (try clear hb); (try clear hb2)))
    go_ret
    exact ⟨by first | rfl | (simp [zaI, zaH] <;> rfl) | (simp [*, zaI, zaH] <;> rfl), bb_⟩

def zbO.f (a0 : Int) (a1 : Int) (a2 : Int) : Option (Bool) := if a0 ≥ a1 then (some (decide (a0 ≤ a2))) else (some false)
set_option maxHeartbeats 8000000 in
set_option maxRecDepth 100000 in
theorem zbO.calls (a0 : Int) (a1 : Int) (a2 : Int) (r : Bool) (w : World) (h : zbO.f a0 a1 a2 = some r) :
  Calls Tryd.prog 54 #[.int .i64 a0, .int .i64 a1, .int .i64 a2] w fun e w' => e = .returned (.bool r) ∧ Drawn0 w w' := by
 have H : (if a0 ≥ a1 then (some (decide (a0 ≤ a2))) else (some false)) = some r := h
 clear h
 by_cases c4 : a0 ≥ a1
 ·rw [if_pos c4] at H
  have c4b0 : decide (a1 ≤ a0) = true := decide_eq_true c4
  clear c4
  obtain rfl := Option.some.inj H
  go_enter Tryd.func54, Tryd.ntmps54
  go_wp2
  go_ret
  exact ⟨by first | rfl | (simp; done) | (simp [*]; done), by repeat (first | exact Drawn0.refl _ | apply Drawn0.step)⟩
 ·rw [if_neg c4] at H
  have c4b0 : decide (a1 ≤ a0) = false := decide_eq_false c4
  clear c4
  obtain rfl := Option.some.inj H
  go_enter Tryd.func54, Tryd.ntmps54
  go_wp2
  go_ret
  exact ⟨by first | rfl | (simp; done) | (simp [*]; done), by repeat (first | exact Drawn0.refl _ | apply Drawn0.step)⟩

def zdH.f (l0 : List (S36)) : Option (Int) := some (l0.length : Int)
set_option maxHeartbeats 8000000 in
set_option maxRecDepth 100000 in
theorem zdH.calls (A0 : Option Addr) (c0 : Nat) (l0 : List (S36)) (r : Int) (w : World) (hr0 : Kd.C k36 w A0 l0.length l0) (hc0 : l0.length ≤ c0) (h : zdH.f l0 = some r) :
  Calls Tryd.prog 55 #[.slice A0 l0.length c0] w fun e w' => e = .returned (.int .i64 r) ∧ Drawn0 w w' := by
 have HR0 := zaJ hr0
 have HC0 := zaJ hc0
 clear hr0 hc0
 have H : (some (l0.length : Int)) = some r := h
 clear h
 obtain rfl := Option.some.inj H
 go_enter Tryd.func55, Tryd.ntmps55
 go_wp2
 go_ret
 exact ⟨by first | rfl | (simp; done) | (simp [*]; done), by repeat (first | exact Drawn0.refl _ | apply Drawn0.step)⟩

-- NOT PRINTED: function 137 (impl_Point_137)

-- NOT PRINTED: function 104 (impl_Point_104)

def zcV.f (a0_0 : Int) (a0_1 : Int) (a0_2 : Int) : Option (Bool) := (zbO.f a0_0 (-131072) 131072).bind fun t315 => (if t315 = true then ((zbO.f a0_1 (-131072) 131072).bind fun t316 => (if t316 = true then ((zbO.f a0_2 0 10).bind fun t317 => (if t317 = true then (if a0_2 = 0 then (some true) else (if (Go.bits .and .i64 a0_0 1) = 1 then (some true) else (some ((Go.bits .and .i64 a0_1 1) == 1)))) else (some false))) else (some false))) else (some false))
set_option maxHeartbeats 8000000 in
set_option maxRecDepth 100000 in
theorem zcV.calls (a0_0 : Int) (a0_1 : Int) (a0_2 : Int) (r : Bool) (w : World) (h : zcV.f a0_0 a0_1 a0_2 = some r) :
  Calls Tryd.prog 93 #[.agg #[.int .i64 a0_0, .int .i64 a0_1, .int .i64 a0_2]] w fun e w' => e = .returned (.bool r) ∧ Below w.heap.size w w' := by
 have hu34 := Tryd.underlying34
 have HB := zaJ (Below.refl w.heap.size w)
 have H : ((zbO.f a0_0 (-131072) 131072).bind fun t315 => (if t315 = true then ((zbO.f a0_1 (-131072) 131072).bind fun t316 => (if t316 = true then ((zbO.f a0_2 0 10).bind fun t317 => (if t317 = true then (if a0_2 = 0 then (some true) else (if (Go.bits .and .i64 a0_0 1) = 1 then (some true) else (some ((Go.bits .and .i64 a0_1 1) == 1)))) else (some false))) else (some false))) else (some false))) = some r := h
 clear h
 replace H := Option.bind_eq_some_iff.mp H
 obtain ⟨t315, A20, H⟩ := H
 replace H : (if t315 = true then ((zbO.f a0_1 (-131072) 131072).bind fun t316 => (if t316 = true then ((zbO.f a0_2 0 10).bind fun t317 => (if t317 = true then (if a0_2 = 0 then (some true) else (if (Go.bits .and .i64 a0_0 1) = 1 then (some true) else (some ((Go.bits .and .i64 a0_1 1) == 1)))) else (some false))) else (some false))) else (some false)) = some r := H
 have A2 := zaJ A20
 clear A20
 by_cases c3 : t315 = true
 ·subst c3
  have H1 : ((zbO.f a0_1 (-131072) 131072).bind fun t316 => (if t316 = true then ((zbO.f a0_2 0 10).bind fun t317 => (if t317 = true then (if a0_2 = 0 then (some true) else (if (Go.bits .and .i64 a0_0 1) = 1 then (some true) else (some ((Go.bits .and .i64 a0_1 1) == 1)))) else (some false))) else (some false))) = some r := by rw [if_pos rfl] at H; exact H
  clear H
  have H := H1
  clear H1
  replace H := Option.bind_eq_some_iff.mp H
  obtain ⟨t316, A40, H⟩ := H
  replace H : (if t316 = true then ((zbO.f a0_2 0 10).bind fun t317 => (if t317 = true then (if a0_2 = 0 then (some true) else (if (Go.bits .and .i64 a0_0 1) = 1 then (some true) else (some ((Go.bits .and .i64 a0_1 1) == 1)))) else (some false))) else (some false)) = some r := H
  have A4 := zaJ A40
  clear A40
  by_cases c5 : t316 = true
  ·subst c5
   have H1 : ((zbO.f a0_2 0 10).bind fun t317 => (if t317 = true then (if a0_2 = 0 then (some true) else (if (Go.bits .and .i64 a0_0 1) = 1 then (some true) else (some ((Go.bits .and .i64 a0_1 1) == 1)))) else (some false))) = some r := by rw [if_pos rfl] at H; exact H
   clear H
   have H := H1
   clear H1
   replace H := Option.bind_eq_some_iff.mp H
   obtain ⟨t317, A60, H⟩ := H
   replace H : (if t317 = true then (if a0_2 = 0 then (some true) else (if (Go.bits .and .i64 a0_0 1) = 1 then (some true) else (some ((Go.bits .and .i64 a0_1 1) == 1)))) else (some false)) = some r := H
   have A6 := zaJ A60
   clear A60
   by_cases c7 : t317 = true
   ·subst c7
    have H1 : (if a0_2 = 0 then (some true) else (if (Go.bits .and .i64 a0_0 1) = 1 then (some true) else (some ((Go.bits .and .i64 a0_1 1) == 1)))) = some r := by rw [if_pos rfl] at H; exact H
    clear H
    have H := H1
    clear H1
    by_cases c8 : a0_2 = 0
    ·rw [if_pos c8] at H
     have c8b0 : (a0_2 == 0) = true := beq_iff_eq.mpr c8
     have c8b1 : (a0_2 != 0) = false := bne_eq_false_iff_eq.mpr c8
     clear c8
     obtain rfl := Option.some.inj H
     go_enter Tryd.func93, Tryd.ntmps93
     go_wp2_with (first | ((with_reducible refine zaQ (N := 1) rfl ?_); refine bx_ 1 #[.int .i64 a0_0, .int .i64 a0_1, .int .i64 a0_2] 34 ?_; intro gb314 hg w9 hbox hb; have n0_ := (ns_ hb); have n1_ := zaJ (hbox); have n2_ := (ng_ hg); have n3_ := n2_; clear HB; have HB := n0_; have BK314 := n1_; have GW314 := n2_; have GE314 := n3_; clear n0_ n1_ n2_ n3_; clear hb hbox hg; obtain ⟨hcz10_0, hcz10_1, hcz10_2⟩ := zeI BK314.out; obtain ⟨hfz10_0, hfz10_1, hfz10_2⟩ := zeH BK314.out) | ((with_reducible refine zaK (f := 54) rfl ?_); refine zbQ (some 5) rfl rfl Tryd.func54 (by kernel_rfl) rfl #[.int .i64 a0_0, .int .i64 (-131072), .int .i64 131072] rfl (by (try simp only [List.map_toArray, List.map_cons, List.map_nil]); first | done | rfl | (simp only [List.length_drop, List.length_take]; rfl)) ?_; (with_reducible refine (zbO.calls a0_0 (-131072) 131072 true _ A2.out).mono ?_); rintro e w' ⟨rfl, ⟨nd, rfl⟩⟩; refine ⟨_, rfl, ?_⟩) | (go_at_call 54; (with_reducible refine (zbO.calls a0_1 (-131072) 131072 true _ A4.out).mono ?_); rintro e w' ⟨rfl, ⟨nd, rfl⟩⟩) | (go_at_call 54; (with_reducible refine (zbO.calls a0_2 0 10 true _ A6.out).mono ?_); rintro e w' ⟨rfl, ⟨nd, rfl⟩⟩))
     go_ret
     exact ⟨by first | rfl | (simp [zaI, zaH] <;> rfl) | (simp [*, zaI, zaH] <;> rfl), bb_⟩
    ·rw [if_neg c8] at H
     have c8b0 : (a0_2 == 0) = false := beq_eq_false_iff_ne.mpr c8
     have c8b1 : (a0_2 != 0) = true := bne_iff_ne.mpr c8
     by_cases c11 : (Go.bits .and .i64 a0_0 1) = 1
     ·rw [if_pos c11] at H
      have c11b0 : ((Go.bits .and .i64 a0_0 1) == 1) = true := beq_iff_eq.mpr c11
      have c11b1 : ((Go.bits .and .i64 a0_0 1) != 1) = false := bne_eq_false_iff_eq.mpr c11
      clear c11
      obtain rfl := Option.some.inj H
      go_enter Tryd.func93, Tryd.ntmps93
      go_wp2_with (first | ((with_reducible refine zaQ (N := 1) rfl ?_); refine bx_ 1 #[.int .i64 a0_0, .int .i64 a0_1, .int .i64 a0_2] 34 ?_; intro gb314 hg w12 hbox hb; have n0_ := (ns_ hb); have n1_ := zaJ (hbox); have n2_ := (ng_ hg); have n3_ := n2_; clear HB; have HB := n0_; have BK314 := n1_; have GW314 := n2_; have GE314 := n3_; clear n0_ n1_ n2_ n3_; clear hb hbox hg; obtain ⟨hcz13_0, hcz13_1, hcz13_2⟩ := zeI BK314.out; obtain ⟨hfz13_0, hfz13_1, hfz13_2⟩ := zeH BK314.out) | ((with_reducible refine zaK (f := 54) rfl ?_); refine zbQ (some 5) rfl rfl Tryd.func54 (by kernel_rfl) rfl #[.int .i64 a0_0, .int .i64 (-131072), .int .i64 131072] rfl (by (try simp only [List.map_toArray, List.map_cons, List.map_nil]); first | done | rfl | (simp only [List.length_drop, List.length_take]; rfl)) ?_; (with_reducible refine (zbO.calls a0_0 (-131072) 131072 true _ A2.out).mono ?_); rintro e w' ⟨rfl, ⟨nd, rfl⟩⟩; refine ⟨_, rfl, ?_⟩) | (go_at_call 54; (with_reducible refine (zbO.calls a0_1 (-131072) 131072 true _ A4.out).mono ?_); rintro e w' ⟨rfl, ⟨nd, rfl⟩⟩) | (go_at_call 54; (with_reducible refine (zbO.calls a0_2 0 10 true _ A6.out).mono ?_); rintro e w' ⟨rfl, ⟨nd, rfl⟩⟩))
      go_ret
      exact ⟨by first | rfl | (simp [zaI, zaH] <;> rfl) | (simp [*, zaI, zaH] <;> rfl), bb_⟩
     ·rw [if_neg c11] at H
      have c11b0 : ((Go.bits .and .i64 a0_0 1) == 1) = false := beq_eq_false_iff_ne.mpr c11
      have c11b1 : ((Go.bits .and .i64 a0_0 1) != 1) = true := bne_iff_ne.mpr c11
      obtain rfl := Option.some.inj H
      go_enter Tryd.func93, Tryd.ntmps93
      go_wp2_with (first | ((with_reducible refine zaQ (N := 1) rfl ?_); refine bx_ 1 #[.int .i64 a0_0, .int .i64 a0_1, .int .i64 a0_2] 34 ?_; intro gb314 hg w14 hbox hb; have n0_ := (ns_ hb); have n1_ := zaJ (hbox); have n2_ := (ng_ hg); have n3_ := n2_; clear HB; have HB := n0_; have BK314 := n1_; have GW314 := n2_; have GE314 := n3_; clear n0_ n1_ n2_ n3_; clear hb hbox hg; obtain ⟨hcz15_0, hcz15_1, hcz15_2⟩ := zeI BK314.out; obtain ⟨hfz15_0, hfz15_1, hfz15_2⟩ := zeH BK314.out) | ((with_reducible refine zaK (f := 54) rfl ?_); refine zbQ (some 5) rfl rfl Tryd.func54 (by kernel_rfl) rfl #[.int .i64 a0_0, .int .i64 (-131072), .int .i64 131072] rfl (by (try simp only [List.map_toArray, List.map_cons, List.map_nil]); first | done | rfl | (simp only [List.length_drop, List.length_take]; rfl)) ?_; (with_reducible refine (zbO.calls a0_0 (-131072) 131072 true _ A2.out).mono ?_); rintro e w' ⟨rfl, ⟨nd, rfl⟩⟩; refine ⟨_, rfl, ?_⟩) | (go_at_call 54; (with_reducible refine (zbO.calls a0_1 (-131072) 131072 true _ A4.out).mono ?_); rintro e w' ⟨rfl, ⟨nd, rfl⟩⟩) | (go_at_call 54; (with_reducible refine (zbO.calls a0_2 0 10 true _ A6.out).mono ?_); rintro e w' ⟨rfl, ⟨nd, rfl⟩⟩))
      go_ret
      exact ⟨by first | rfl | (simp [zaI, zaH] <;> rfl) | (simp [*, zaI, zaH] <;> rfl), bb_⟩
   ·replace c7 := Bool.eq_false_iff.mpr c7
    subst c7
    have H1 : (some false) = some r := by rw [if_neg (show ¬ (false = true) by decide)] at H; exact H
    clear H
    have H := H1
    clear H1
    obtain rfl := Option.some.inj H
    go_enter Tryd.func93, Tryd.ntmps93
    go_wp2_with (first | ((with_reducible refine zaQ (N := 1) rfl ?_); refine bx_ 1 #[.int .i64 a0_0, .int .i64 a0_1, .int .i64 a0_2] 34 ?_; intro gb314 hg w16 hbox hb; have n0_ := (ns_ hb); have n1_ := zaJ (hbox); have n2_ := (ng_ hg); have n3_ := n2_; clear HB; have HB := n0_; have BK314 := n1_; have GW314 := n2_; have GE314 := n3_; clear n0_ n1_ n2_ n3_; clear hb hbox hg; obtain ⟨hcz17_0, hcz17_1, hcz17_2⟩ := zeI BK314.out; obtain ⟨hfz17_0, hfz17_1, hfz17_2⟩ := zeH BK314.out) | ((with_reducible refine zaK (f := 54) rfl ?_); refine zbQ (some 5) rfl rfl Tryd.func54 (by kernel_rfl) rfl #[.int .i64 a0_0, .int .i64 (-131072), .int .i64 131072] rfl (by (try simp only [List.map_toArray, List.map_cons, List.map_nil]); first | done | rfl | (simp only [List.length_drop, List.length_take]; rfl)) ?_; (with_reducible refine (zbO.calls a0_0 (-131072) 131072 true _ A2.out).mono ?_); rintro e w' ⟨rfl, ⟨nd, rfl⟩⟩; refine ⟨_, rfl, ?_⟩) | (go_at_call 54; (with_reducible refine (zbO.calls a0_1 (-131072) 131072 true _ A4.out).mono ?_); rintro e w' ⟨rfl, ⟨nd, rfl⟩⟩) | (go_at_call 54; (with_reducible refine (zbO.calls a0_2 0 10 false _ A6.out).mono ?_); rintro e w' ⟨rfl, ⟨nd, rfl⟩⟩))
    go_ret
    exact ⟨by first | rfl | (simp [zaI, zaH] <;> rfl) | (simp [*, zaI, zaH] <;> rfl), bb_⟩
  ·replace c5 := Bool.eq_false_iff.mpr c5
   subst c5
   have H1 : (some false) = some r := by rw [if_neg (show ¬ (false = true) by decide)] at H; exact H
   clear H
   have H := H1
   clear H1
   obtain rfl := Option.some.inj H
   go_enter Tryd.func93, Tryd.ntmps93
   go_wp2_with (first | ((with_reducible refine zaQ (N := 1) rfl ?_); refine bx_ 1 #[.int .i64 a0_0, .int .i64 a0_1, .int .i64 a0_2] 34 ?_; intro gb314 hg w18 hbox hb; have n0_ := (ns_ hb); have n1_ := zaJ (hbox); have n2_ := (ng_ hg); have n3_ := n2_; clear HB; have HB := n0_; have BK314 := n1_; have GW314 := n2_; have GE314 := n3_; clear n0_ n1_ n2_ n3_; clear hb hbox hg; obtain ⟨hcz19_0, hcz19_1, hcz19_2⟩ := zeI BK314.out; obtain ⟨hfz19_0, hfz19_1, hfz19_2⟩ := zeH BK314.out) | ((with_reducible refine zaK (f := 54) rfl ?_); refine zbQ (some 5) rfl rfl Tryd.func54 (by kernel_rfl) rfl #[.int .i64 a0_0, .int .i64 (-131072), .int .i64 131072] rfl (by (try simp only [List.map_toArray, List.map_cons, List.map_nil]); first | done | rfl | (simp only [List.length_drop, List.length_take]; rfl)) ?_; (with_reducible refine (zbO.calls a0_0 (-131072) 131072 true _ A2.out).mono ?_); rintro e w' ⟨rfl, ⟨nd, rfl⟩⟩; refine ⟨_, rfl, ?_⟩) | (go_at_call 54; (with_reducible refine (zbO.calls a0_1 (-131072) 131072 false _ A4.out).mono ?_); rintro e w' ⟨rfl, ⟨nd, rfl⟩⟩))
   go_ret
   exact ⟨by first | rfl | (simp [zaI, zaH] <;> rfl) | (simp [*, zaI, zaH] <;> rfl), bb_⟩
 ·replace c3 := Bool.eq_false_iff.mpr c3
  subst c3
  have H1 : (some false) = some r := by rw [if_neg (show ¬ (false = true) by decide)] at H; exact H
  clear H
  have H := H1
  clear H1
  obtain rfl := Option.some.inj H
  go_enter Tryd.func93, Tryd.ntmps93
  go_wp2_with (first | ((with_reducible refine zaQ (N := 1) rfl ?_); refine bx_ 1 #[.int .i64 a0_0, .int .i64 a0_1, .int .i64 a0_2] 34 ?_; intro gb314 hg w20 hbox hb; have n0_ := (ns_ hb); have n1_ := zaJ (hbox); have n2_ := (ng_ hg); have n3_ := n2_; clear HB; have HB := n0_; have BK314 := n1_; have GW314 := n2_; have GE314 := n3_; clear n0_ n1_ n2_ n3_; clear hb hbox hg; obtain ⟨hcz21_0, hcz21_1, hcz21_2⟩ := zeI BK314.out; obtain ⟨hfz21_0, hfz21_1, hfz21_2⟩ := zeH BK314.out) | ((with_reducible refine zaK (f := 54) rfl ?_); refine zbQ (some 5) rfl rfl Tryd.func54 (by kernel_rfl) rfl #[.int .i64 a0_0, .int .i64 (-131072), .int .i64 131072] rfl (by (try simp only [List.map_toArray, List.map_cons, List.map_nil]); first | done | rfl | (simp only [List.length_drop, List.length_take]; rfl)) ?_; (with_reducible refine (zbO.calls a0_0 (-131072) 131072 false _ A2.out).mono ?_); rintro e w' ⟨rfl, ⟨nd, rfl⟩⟩; refine ⟨_, rfl, ?_⟩))
  go_ret
  exact ⟨by first | rfl | (simp [zaI, zaH] <;> rfl) | (simp [*, zaI, zaH] <;> rfl), bb_⟩

def zcP.f (a0_0 : Int) (a0_1 : Int) (a0_2 : Int) (a0_3 : Int) (a0_4 : Int) (a0_5 : Int) : Option (Bool) := (zcV.f a0_0 a0_1 a0_2).bind fun t319 => (if t319 = true then ((zcV.f a0_3 a0_4 a0_5).bind fun t320 => (some t320)) else (some false))
set_option maxHeartbeats 8000000 in
set_option maxRecDepth 100000 in
theorem zcP.calls (a0_0 : Int) (a0_1 : Int) (a0_2 : Int) (a0_3 : Int) (a0_4 : Int) (a0_5 : Int) (r : Bool) (w : World) (h : zcP.f a0_0 a0_1 a0_2 a0_3 a0_4 a0_5 = some r) :
  Calls Tryd.prog 65 #[.agg #[.int .i64 a0_0, .int .i64 a0_1, .int .i64 a0_2, .int .i64 a0_3, .int .i64 a0_4, .int .i64 a0_5]] w fun e w' => e = .returned (.bool r) ∧ Below w.heap.size w w' := by
 have hu36 := Tryd.underlying36
 have hu34 := Tryd.underlying34
 have HB := zaJ (Below.refl w.heap.size w)
 have H : ((zcV.f a0_0 a0_1 a0_2).bind fun t319 => (if t319 = true then ((zcV.f a0_3 a0_4 a0_5).bind fun t320 => (some t320)) else (some false))) = some r := h
 clear h
 replace H := Option.bind_eq_some_iff.mp H
 obtain ⟨t319, A20, H⟩ := H
 replace H : (if t319 = true then ((zcV.f a0_3 a0_4 a0_5).bind fun t320 => (some t320)) else (some false)) = some r := H
 have A2 := zaJ A20
 clear A20
 by_cases c3 : t319 = true
 ·subst c3
  have H1 : ((zcV.f a0_3 a0_4 a0_5).bind fun t320 => (some t320)) = some r := by rw [if_pos rfl] at H; exact H
  clear H
  have H := H1
  clear H1
  replace H := Option.bind_eq_some_iff.mp H
  obtain ⟨t320, A40, H⟩ := H
  replace H : (some t320) = some r := H
  have A4 := zaJ A40
  clear A40
  obtain rfl := Option.some.inj H
  go_enter Tryd.func65, Tryd.ntmps65
  go_wp2_with (first | ((with_reducible refine zaQ (N := 1) rfl ?_); refine bx_ 1 #[.int .i64 a0_0, .int .i64 a0_1, .int .i64 a0_2, .int .i64 a0_3, .int .i64 a0_4, .int .i64 a0_5] 36 ?_; intro gb318 hg w5 hbox hb; have n0_ := (ns_ hb); have n1_ := zaJ (hbox); have n2_ := (ng_ hg); have n3_ := n2_; clear HB; have HB := n0_; have BK318 := n1_; have GW318 := n2_; have GE318 := n3_; clear n0_ n1_ n2_ n3_; clear hb hbox hg; obtain ⟨hcz6_0, hcz6_1, hcz6_2, hcz6_3, hcz6_4, hcz6_5⟩ := zeX BK318.out; obtain ⟨hfz6_0, hfz6_1, hfz6_2, hfz6_3, hfz6_4, hfz6_5⟩ := zeW BK318.out) | ((with_reducible refine zaK (f := 93) rfl ?_); refine zbQ (some 5) rfl rfl Tryd.func93 (by kernel_rfl) rfl #[.agg #[.int .i64 a0_0, .int .i64 a0_1, .int .i64 a0_2]] rfl (by (try simp only [List.map_toArray, List.map_cons, List.map_nil]); first | done | rfl | (simp only [List.length_drop, List.length_take]; rfl)) ?_; (with_reducible refine (zcV.calls a0_0 a0_1 a0_2 true _ A2.out).mono ?_); rintro e w7 ⟨rfl, hb⟩; refine ⟨_, rfl, ?_⟩; have n0_ := zaJ (zaG (g := gb318) (o := .cells #[.int .i64 a0_0, .int .i64 a0_1, .int .i64 a0_2, .int .i64 a0_3, .int .i64 a0_4, .int .i64 a0_5] 36 (0, 0)) bk_ hb); have n1_ := (ns_ hb); clear BK318; clear HB; have BK318 := n0_; have HB := n1_; clear n0_ n1_; (try clear hb); (try clear hb2); obtain ⟨hcz8_0, hcz8_1, hcz8_2, hcz8_3, hcz8_4, hcz8_5⟩ := zeX BK318.out; obtain ⟨hfz8_0, hfz8_1, hfz8_2, hfz8_3, hfz8_4, hfz8_5⟩ := zeW BK318.out) | (go_at_call 93; (with_reducible refine (zcV.calls a0_3 a0_4 a0_5 t320 _ A4.out).mono ?_); rintro e w9 ⟨rfl, hb⟩; have n0_ := zaJ (zaG (g := gb318) (o := .cells #[.int .i64 a0_0, .int .i64 a0_1, .int .i64 a0_2, .int .i64 a0_3, .int .i64 a0_4, .int .i64 a0_5] 36 (0, 0)) bk_ hb); have n1_ := (ns_ hb); clear BK318; clear HB; have BK318 := n0_; have HB := n1_; clear n0_ n1_; (try clear hb); (try clear hb2)))
  go_ret
  exact ⟨by first | rfl | (simp [zaI, zaH] <;> rfl) | (simp [*, zaI, zaH] <;> rfl), bb_⟩
 ·replace c3 := Bool.eq_false_iff.mpr c3
  subst c3
  have H1 : (some false) = some r := by rw [if_neg (show ¬ (false = true) by decide)] at H; exact H
  clear H
  have H := H1
  clear H1
  obtain rfl := Option.some.inj H
  go_enter Tryd.func65, Tryd.ntmps65
  go_wp2_with (first | ((with_reducible refine zaQ (N := 1) rfl ?_); refine bx_ 1 #[.int .i64 a0_0, .int .i64 a0_1, .int .i64 a0_2, .int .i64 a0_3, .int .i64 a0_4, .int .i64 a0_5] 36 ?_; intro gb318 hg w10 hbox hb; have n0_ := (ns_ hb); have n1_ := zaJ (hbox); have n2_ := (ng_ hg); have n3_ := n2_; clear HB; have HB := n0_; have BK318 := n1_; have GW318 := n2_; have GE318 := n3_; clear n0_ n1_ n2_ n3_; clear hb hbox hg; obtain ⟨hcz11_0, hcz11_1, hcz11_2, hcz11_3, hcz11_4, hcz11_5⟩ := zeX BK318.out; obtain ⟨hfz11_0, hfz11_1, hfz11_2, hfz11_3, hfz11_4, hfz11_5⟩ := zeW BK318.out) | ((with_reducible refine zaK (f := 93) rfl ?_); refine zbQ (some 5) rfl rfl Tryd.func93 (by kernel_rfl) rfl #[.agg #[.int .i64 a0_0, .int .i64 a0_1, .int .i64 a0_2]] rfl (by (try simp only [List.map_toArray, List.map_cons, List.map_nil]); first | done | rfl | (simp only [List.length_drop, List.length_take]; rfl)) ?_; (with_reducible refine (zcV.calls a0_0 a0_1 a0_2 false _ A2.out).mono ?_); rintro e w12 ⟨rfl, hb⟩; refine ⟨_, rfl, ?_⟩; have n0_ := zaJ (zaG (g := gb318) (o := .cells #[.int .i64 a0_0, .int .i64 a0_1, .int .i64 a0_2, .int .i64 a0_3, .int .i64 a0_4, .int .i64 a0_5] 36 (0, 0)) bk_ hb); have n1_ := (ns_ hb); clear BK318; clear HB; have BK318 := n0_; have HB := n1_; clear n0_ n1_; (try clear hb); (try clear hb2)))
  go_ret
  exact ⟨by first | rfl | (simp [zaI, zaH] <;> rfl) | (simp [*, zaI, zaH] <;> rfl), bb_⟩

end Go.Proofs.YtmajpmofeddknaaDoor.PFnExactInPolygon
