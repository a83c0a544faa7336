-- Printed for this claim by this session's program pp.py, which drives the kit's print with additions. Not trusted: Lean checks it.
import Derived.Test.YtehghobmmpihfaaGreatDoorV1PFnExactReadPolygonx0
namespace Go.Proofs.YtehghobmmpihfaaGreatDoor.PFnExactReadPolygon
open Go.RowKit Go.Proofs.YtehghobmmpihfaaGreatDoorW.PrintWords Go.Proofs.YtehghobmmpihfaaGreatDoorW.PrintLast Go.Proofs.YtehghobmmpihfaaGreatDoorW.PrintMore
attribute [local go_sem] zbB ziB zrC zhD znE zuB znH zkT   -- for this text's walks alone
set_option linter.unusedVariables false
set_option maxHeartbeats 8000000
set_option maxRecDepth 100000
set_option linter.unusedSimpArgs false

mutual
def zlV.j0 : Nat → Int → Bool → Option (ByteArray)
 | 0, _, _ => none
 | k + 1, x0, x8 => if x8 = true then ((zlV.f k (wrap64 (-x0))).bind fun t123 => (if 1 + t123.size ≤ 9223372036854775807 then (some ((⟨#[45]⟩ : ByteArray) ++ t123)) else (none))) else (if x0 < 0 then ((zlV.f k (wrap64 (Int.tdiv x0 10))).bind fun t124 => ((zlV.f k (wrap64 (-(Int.tmod x0 10)))).bind fun t125 => (if t124.size + t125.size ≤ 9223372036854775807 then (some (t124 ++ t125)) else (none)))) else (if x0 < 10 then (some (strOfNums (([(wrap64 (48 + x0)) % 256] : List Int)))) else ((zlV.f k (wrap64 (Int.tdiv x0 10))).bind fun t129 => ((some (([(wrap64 (48 + (Int.tmod x0 10))) % 256] : List Int) : List Int)).bind fun y130 => (if t129.size + (strOfNums y130).size ≤ 9223372036854775807 then (some (t129 ++ (strOfNums y130))) else (none))))))
def zlV.f : Nat → Int → Option (ByteArray)
 | 0, _ => none
 | k + 1, a0 => if a0 < 0 then (zlV.j0 k a0 (decide (a0 > (-10)))) else (zlV.j0 k a0 false)
end
theorem zlV.mono_l : ∀ k, (∀ y0, LeO (zlV.f k y0) (zlV.f (k + 1) y0)) ∧ (∀ y0 y1, LeO (zlV.j0 k y0 y1) (zlV.j0 (k + 1) y0 y1))
 | 0 => ⟨fun _ r h => by simp [zlV.f] at h, fun _ _ r h => by simp [zlV.j0] at h⟩
 | k + 1 => by
  obtain ⟨ih0, ih1⟩ := zlV.mono_l k; refine ⟨?_, ?_⟩
  ·intro y0
   unfold zlV.f
   repeat' (with_reducible first | exact ih0 _ | exact ih1 _ _ | exact LeO.refl _ | exact LeO.none _ | refine LeO.ite ?_ ?_ | refine LeO.bind ?_ (fun _ => ?_))
  ·intro y0 y1
   unfold zlV.j0
   repeat' (with_reducible first | exact ih0 _ | exact ih1 _ _ | exact LeO.refl _ | exact LeO.none _ | refine LeO.ite ?_ ?_ | refine LeO.bind ?_ (fun _ => ?_))
theorem zlV.mono : ∀ a0 k, LeO (zlV.f k a0) (zlV.f (k + 1) a0) := by
 intro a0 k; obtain ⟨ih0, ih1⟩ := zlV.mono_l k
 exact ih0 a0
def zlV.T7 : Bool × List (List Nat × List Nat) := (true, [([], []), ([0], [0]), ([1], [1]), ([], []), ([3], [3]), ([4], [4]), ([5], [5]), ([6], [6]), ([7], [7]), ([2, 8], [2, 8]), ([9, 2, 0, 1, 2, 3, 4, 5, 6, 7, 8, 9], [9])])
def zlV.B7 : List Nat := [0, 1, 3, 0, 8, 24, 56, 120, 248, 511, 1023]
theorem zlV.tab7 : rtab .any (opsOf Tryz.f87 7) = zlV.T7 := by kernel_rfl
theorem zlV.bits7 : ztE zlV.T7.2 zlV.B7 = true := by kernel_rfl
theorem zlV.calls (k : Nat) : ∀ (a0 : Int) (r : ByteArray) (w : World) (h : zlV.f k a0 = some r),
  Calls Tryz.prog 87 #[.int .i64 a0] w fun e w' => e = .returned (.string r) ∧ Below w.heap.size w w' := by
 induction k using Nat.strongRecOn with
 | _ k ih =>
 intro a0 r w h
 cases k with
 | zero => exact absurd h (by simp [zlV.f])
 | succ k =>
 simp only [zlV.f] at h; have HB := zpS (Below.refl w.heap.size w); have H := h; unfold zlV.f at H; clear h; have HC2 := zpS H; clear H; go_enter Tryz.func87, Tryz.ntmps87
 go_upto_region 1 with (fail)
 go_cut [8] (fun v8 wc => ∃ (kq : Nat) (x8_1 : Bool), v8 = .bool x8_1 ∧ Aside0 (zlV.j0 kq a0 x8_1 = some r) ∧ Aside0 (kq ≤ k) ∧ Aside0 (Below w.heap.size w wc))
 case first =>
  have H := HC2.out; clear HC2; replace H := iq_ H
  rcases H with ⟨c3b0, H⟩ | ⟨c3b0, H⟩
  ·(first | rw [c3b0] | (simp only [zcN, ziJ]; rw [c3b0]) | skip)
   have H' := zpS H; clear H
   go_wp2
   go_meet
   case rel => exact ⟨_, (decide (a0 > (-10))), (ey_), H', ⟨by first | omega | exact Nat.le_refl _⟩, ⟨bb_⟩⟩
  ·(first | rw [c3b0] | (simp only [zcN, ziJ]; rw [c3b0]) | skip)
   have H' := zpS H; clear H
   go_wp2
   go_meet
   case rel => exact ⟨_, (false), (ey_), H', ⟨by first | omega | exact Nat.le_refl _⟩, ⟨bb_⟩⟩
 case rest =>
  clear HC2; (try clear p2); (try clear c3); (try clear c3b0); obtain ⟨kq, x8_1, rfl, HA, HJ1, HB⟩ := hcut
  cases kq with
  | zero => exact absurd HA.out (by simp [zlV.j0])
  | succ kj1 =>
   have H := HA.out; clear HA; simp only [zlV.j0] at H; replace H := ib_ H
   rcases H with ⟨rfl, H⟩ | ⟨rfl, H⟩
   ·replace H := be_ H
    obtain ⟨t123, A5, H⟩ := H; replace H := in_ H; obtain ⟨c6, H⟩ := H; have c6b0 := eq_true c6; have c6b1 := decide_eq_true c6
    try have c6b2 : (9223372036854775807 < 1 + t123.size) = False := eq_false (Nat.not_lt.2 c6)
    obtain rfl := Option.some.inj H
    go_wp2_with (first | ((with_reducible refine zgK (f := 87) rfl ?_); refine gl_ (some 11) Tryz.func87 #[.int .i64 (wrap64 (-a0))] ?_; (with_reducible refine (ih kj1 (by have := HJ1.out; omega) (wrap64 (-a0)) t123 _ A5.out).mono ?_); rintro e w7 ⟨rfl, hb⟩; refine ⟨_, rfl, ?_⟩; replace HB := ns_ hb; (try clear hb); (try clear hb2)))
    go_ret
    exact ⟨ex_, bb_⟩
   ·replace H := iq_ H
    rcases H with ⟨c8b0, H⟩ | ⟨c8b0, H⟩
    ·replace H := be_ H
     obtain ⟨t124, A9, H⟩ := H; replace H := be_ H; obtain ⟨t125, A10, H⟩ := H; replace H := in_ H; obtain ⟨c11, H⟩ := H; have c11b0 := eq_true c11; have c11b1 := decide_eq_true c11
     try have c11b2 : (9223372036854775807 < t124.size + t125.size) = False := eq_false (Nat.not_lt.2 c11)
     obtain rfl := Option.some.inj H
     go_wp2_with (first | ((with_reducible refine zgK (f := 87) rfl ?_); refine gl_ (some 17) Tryz.func87 #[.int .i64 (wrap64 (Int.tdiv a0 10))] ?_; (with_reducible refine (ih kj1 (by have := HJ1.out; omega) (wrap64 (Int.tdiv a0 10)) t124 _ A9.out).mono ?_); rintro e w12 ⟨rfl, hb⟩; refine ⟨_, rfl, ?_⟩; replace HB := ns_ hb; (try clear hb); (try clear hb2)) | ((with_reducible refine zgK (f := 87) rfl ?_); refine gl_ (some 21) Tryz.func87 #[.int .i64 (wrap64 (-(Int.tmod a0 10)))] ?_; (with_reducible refine (ih kj1 (by have := HJ1.out; omega) (wrap64 (-(Int.tmod a0 10))) t125 _ A10.out).mono ?_); rintro e w13 ⟨rfl, hb⟩; refine ⟨_, rfl, ?_⟩; replace HB := ns_ hb; (try clear hb); (try clear hb2)))
     go_ret
     exact ⟨ex_, bb_⟩
    ·replace H := iq_ H
     rcases H with ⟨c14b0, H⟩ | ⟨c14b0, H⟩
     ·obtain ⟨y126, hy126⟩ : ∃ y_ : List Int, y_ = (([(wrap64 (48 + a0)) % 256] : List Int)) := ⟨_, rfl⟩
      replace H : (some (strOfNums y126)) = some r := by first | (rw [hy126]; with_reducible exact H) | (have H2_ := (Option.bind_some _ _).symm.trans H; rw [hy126]; with_reducible exact H2_) | (have H2_ := (Option.bind_some _ _).symm.trans H; with_reducible exact H2_) | with_reducible exact H | (rw [hy126]; exact H) | exact H
      have Ny126 := zpS hy126; clear hy126; obtain rfl := Option.some.inj H
      go_wp2_with (first | ((with_reducible refine zpZ (N := 28) rfl ?_); refine Kd.R_lit (Kd.int .u8) _ 5 ?hg (N := 28) ?hd (xs := ([(wrap64 (48 + a0)) % 256] : List Int)) (inner := [.int .u8 ((wrap64 (48 + a0)) % 256)]) (ok := fun _ => True) (okp := fun _ => True) ?hr ?hp (fun _ hk => hk) trivial (Below.refl _ _) (Nat.le_refl _) (by simp) ?_; (case hd => rfl); (case hg => rfl); (case hr => first | (go_simp; done) | (go_simp; rfl)); (case hp => exact (zfH.one (show Kd.M (Kd.int .u8) _ _ _ ((wrap64 (48 + a0)) % 256) [.int .u8 ((wrap64 (48 + a0)) % 256)] from rfl) (zfH.none _ _))); intro v127 w15 ho16 hb hg_ hnew_; clear hg_ hnew_; (first | rw [← Ny126.out] at ho16 | (simp only [Int.reduceToNat] at ho16; rw [← Ny126.out] at ho16)); have HO128 := zpS (Kd.R_lower ho16 (zuA bb_)); replace HB := ns_ hb; clear hb ho16; have hcv17 := own_string (P := Tryz.prog) Tryz.underlying118 Tryz.underlying5 Tryz.underlying9 (Kd.own_of_R HO128.out)))
      go_ret
      exact ⟨ex_, bb_⟩
     ·replace H := be_ H
      obtain ⟨t129, A18, H⟩ := H; obtain ⟨y130, hy130⟩ : ∃ y_ : List Int, y_ = (([(wrap64 (48 + (Int.tmod a0 10))) % 256] : List Int)) := ⟨_, rfl⟩
      replace H : (if t129.size + (strOfNums y130).size ≤ 9223372036854775807 then (some (t129 ++ (strOfNums y130))) else (none)) = some r := by first | (rw [hy130]; with_reducible exact H) | (have H2_ := (Option.bind_some _ _).symm.trans H; rw [hy130]; with_reducible exact H2_) | (have H2_ := (Option.bind_some _ _).symm.trans H; with_reducible exact H2_) | with_reducible exact H | (rw [hy130]; exact H) | exact H
      have Ny130 := zpS hy130; clear hy130; replace H := in_ H; obtain ⟨c19, H⟩ := H; have c19b0 := eq_true c19; have c19b1 := decide_eq_true c19
      try have c19b2 : (9223372036854775807 < t129.size + (strOfNums y130).size) = False := eq_false (Nat.not_lt.2 c19)
      obtain rfl := Option.some.inj H
      try go_wp2
      replace HB := bd_ HB; refine zpB (n := 11) (S := fun w' => True) (ds := []) #[false, false, false, false, false, false, false, false, false, false, false] (by kernel_rfl) rfl rfl trivial (fun hHeld => ?_); refine zwI zlV.tab7 zlV.bits7 (fun HT_ HW_ => ?_); generalize wc.drew = w20 at HB hHeld ⊢; refine pu_ 0 (some 30) (bl_ 11 1) ?_; refine pu_ 1 (some 31) (bl_ 11 3) ?_; refine pu_ 3 (some 33) (bl_ 11 11) ?_; refine pu_ 4 (some 34) (bl_ 11 27) ?_; refine pu_ 5 (some 35) (bl_ 11 59) ?_; refine pu_ 6 (some 36) (bl_ 11 123) ?_
      refine join_ (σ := Value) 2 #[true, true, true, true, true, true, true, true, true, false, false] (fun s_ => [(32, .string t129), (37, s_), (38, .string (strOfNums y130))]) (fun s_ w' => (Kd.R (Kd.int .u8) 5 w' w.heap.size (fun _ => True) s_ y130) ∧ (Below w.heap.size w w')) ?_ ?_
      rotate_left
      ·intro hCont
       refine two_ (i := 2) (j := 7) (Ni := some 32) (Nj := some 37) (bl_ 11 127) (bl_ 11 251) rfl rfl rfl rfl (two_of HT_.out (by kernel_rfl)) (by decide) (by decide) (fun K hK => ?_) (fun K hK => ?_)
       ·skip
        refine gs_ Tryz.func87 #[.int .i64 (wrap64 (Int.tdiv a0 10))] ?_
        with_reducible refine (ih kj1 (by have := HJ1.out; omega) (wrap64 (Int.tdiv a0 10)) t129 _ A18.out).mono ?_
        rintro e w21 ⟨rfl, hb⟩; refine ⟨_, rfl, ?_⟩; replace HB := ns_ hb; (try clear hb); (try clear hb2); (try clear hk); (try clear hi); refine hK.out _ _ trivial (fun hHeld => ?_); clear hK K; refine nm_ 32 ?_; refine zdC (i := 7) (N := some 37) (bl_ 11 255) rfl rfl (zeO HT_.out (by kernel_rfl)) (by decide) (fun K hK => ?_)
        refine Kd.R_lit_step (Kd.int .u8) _ 5 ?hg (N := 37) ?hd (xs := ([(wrap64 (48 + (Int.tmod a0 10))) % 256] : List Int)) (inner := [.int .u8 ((wrap64 (48 + (Int.tmod a0 10))) % 256)]) (ok := fun _ => True) (okp := fun _ => True) ?hr ?hp (fun _ hk => hk) trivial (Below.refl _ _) (Nat.le_refl _) (by simp) ?_; (case hd => rfl); (case hg => rfl); (case hr => first | (go_simp; done) | (go_simp; rfl)); (case hp => exact (zfH.one (show Kd.M (Kd.int .u8) _ _ _ ((wrap64 (48 + (Int.tmod a0 10))) % 256) [.int .u8 ((wrap64 (48 + (Int.tmod a0 10))) % 256)] from rfl) (zfH.none _ _)))
        intro v131 w22 ho23 hb hg_ hnew_; clear hg_ hnew_
        (first | rw [← Ny130.out] at ho23 | (simp only [Int.reduceToNat] at ho23; rw [← Ny130.out] at ho23))
        have HO132 := zpS (Kd.R_lower ho23 (zuA bb_)); replace HB := ns_ hb; clear hb ho23; refine hK.out _ _ trivial (fun hHeld => ?_); clear hK K; refine nm_ 37 ?_; refine zdC (i := 8) (N := some 38) (bl_ 11 511) rfl rfl (zeO HT_.out (by kernel_rfl)) (by decide) (fun K hK => ?_); have hcv24 := own_string (P := Tryz.prog) Tryz.underlying118 Tryz.underlying5 Tryz.underlying9 (Kd.own_of_R HO132.out); refine value_ (w1 := ?_) (v := ?_) (by rfl) rfl ?_ ?_; rotate_left 2
        ·go_simp
         constructor
         ·rfl
         ·rfl
        clear hcv24; refine hK.out _ _ trivial (fun hHeld => ?_); clear hK K; refine nm_ 38 ?_
        exact norm_ (by simp only [putAll, Act.put, List.setIfInBounds_toArray, List.set_cons_zero, List.set_cons_succ]) (hCont (v131) _ ⟨(by (with_reducible repeat (first | apply Kd.R_alloc | apply Kd.R_drewN | apply Kd.R_drew)); exact HO132.out), bb_⟩)
       ·skip
        refine Kd.R_lit_step (Kd.int .u8) _ 5 ?hg (N := 37) ?hd (xs := ([(wrap64 (48 + (Int.tmod a0 10))) % 256] : List Int)) (inner := [.int .u8 ((wrap64 (48 + (Int.tmod a0 10))) % 256)]) (ok := fun _ => True) (okp := fun _ => True) ?hr ?hp (fun _ hk => hk) trivial (Below.refl _ _) (Nat.le_refl _) (by simp) ?_; (case hd => rfl); (case hg => rfl); (case hr => first | (go_simp; done) | (go_simp; rfl)); (case hp => exact (zfH.one (show Kd.M (Kd.int .u8) _ _ _ ((wrap64 (48 + (Int.tmod a0 10))) % 256) [.int .u8 ((wrap64 (48 + (Int.tmod a0 10))) % 256)] from rfl) (zfH.none _ _)))
        intro v131 w21 ho22 hb hg_ hnew_; clear hg_ hnew_
        (first | rw [← Ny130.out] at ho22 | (simp only [Int.reduceToNat] at ho22; rw [← Ny130.out] at ho22))
        have HO132 := zpS (Kd.R_lower ho22 (zuA bb_)); replace HB := ns_ hb; clear hb ho22; refine hK.out _ _ trivial (fun hHeld => ?_); clear hK K; refine nm_ 37 ?_; refine two_ (i := 2) (j := 8) (Ni := some 32) (Nj := some 38) (bl_ 11 255) (bl_ 11 507) rfl rfl rfl rfl (two_of HT_.out (by kernel_rfl)) (by decide) (by decide) (fun K hK => ?_) (fun K hK => ?_)
        ·skip
         refine gs_ Tryz.func87 #[.int .i64 (wrap64 (Int.tdiv a0 10))] ?_
         with_reducible refine (ih kj1 (by have := HJ1.out; omega) (wrap64 (Int.tdiv a0 10)) t129 _ A18.out).mono ?_
         rintro e w23 ⟨rfl, hb⟩; refine ⟨_, rfl, ?_⟩
         replace HO132 := zpS (Kd.R_below (by (with_reducible repeat (first | apply Kd.R_alloc | apply Kd.R_drewN | apply Kd.R_drew)); exact HO132.out) hb)
         replace HB := ns_ hb; (try clear hb); (try clear hb2); (try clear hk); (try clear hi); refine hK.out _ _ trivial (fun hHeld => ?_); clear hK K; refine nm_ 32 ?_; refine zdC (i := 8) (N := some 38) (bl_ 11 511) rfl rfl (zeO HT_.out (by kernel_rfl)) (by decide) (fun K hK => ?_); have hcv24 := own_string (P := Tryz.prog) Tryz.underlying118 Tryz.underlying5 Tryz.underlying9 (Kd.own_of_R HO132.out); refine value_ (w1 := ?_) (v := ?_) (by rfl) rfl ?_ ?_; rotate_left 2
         ·go_simp
          constructor
          ·rfl
          ·rfl
         clear hcv24; refine hK.out _ _ trivial (fun hHeld => ?_); clear hK K; refine nm_ 38 ?_
         exact norm_ (by simp only [putAll, Act.put, List.setIfInBounds_toArray, List.set_cons_zero, List.set_cons_succ]) (hCont (v131) _ ⟨(by (with_reducible repeat (first | apply Kd.R_alloc | apply Kd.R_drewN | apply Kd.R_drew)); exact HO132.out), bb_⟩)
        ·skip
         have hcv23 := own_string (P := Tryz.prog) Tryz.underlying118 Tryz.underlying5 Tryz.underlying9 (Kd.own_of_R HO132.out); refine value_ (w1 := ?_) (v := ?_) (by rfl) rfl ?_ ?_; rotate_left 2
         ·go_simp
          constructor
          ·rfl
          ·rfl
         clear hcv23; refine hK.out _ _ trivial (fun hHeld => ?_); clear hK K; refine nm_ 38 ?_; refine zdC (i := 2) (N := some 32) (bl_ 11 511) rfl rfl (zeO HT_.out (by kernel_rfl)) (by decide) (fun K hK => ?_); refine gs_ Tryz.func87 #[.int .i64 (wrap64 (Int.tdiv a0 10))] ?_
         with_reducible refine (ih kj1 (by have := HJ1.out; omega) (wrap64 (Int.tdiv a0 10)) t129 _ A18.out).mono ?_
         rintro e w24 ⟨rfl, hb⟩; refine ⟨_, rfl, ?_⟩
         replace HO132 := zpS (Kd.R_below (by (with_reducible repeat (first | apply Kd.R_alloc | apply Kd.R_drewN | apply Kd.R_drew)); exact HO132.out) hb)
         replace HB := ns_ hb; (try clear hb); (try clear hb2); (try clear hk); (try clear hi); refine hK.out _ _ trivial (fun hHeld => ?_); clear hK K; refine nm_ 32 ?_
         exact norm_ (by simp only [putAll, Act.put, List.setIfInBounds_toArray, List.set_cons_zero, List.set_cons_succ]) (hCont (v131) _ ⟨(by (with_reducible repeat (first | apply Kd.R_alloc | apply Kd.R_drewN | apply Kd.R_drew)); exact HO132.out), bb_⟩)
      rintro v131 w25 ⟨h0_, h1_⟩; have n0_ : Aside0 (Kd.R (Kd.int .u8) 5 w25 w.heap.size (fun _ => True) v131 y130) := ⟨h0_⟩; have n1_ : Aside0 (Below w.heap.size w w25) := ⟨h1_⟩; clear HB; clear h0_ h1_; have HO132 := n0_; have HB := n1_; clear n0_ n1_; have hHeld := trivial; refine norm_ (a' := ?_) ?_ ?_; rotate_left
      ·simp only [putAll, Act.put, List.setIfInBounds_toArray, List.set_cons_zero, List.set_cons_succ]
       rfl
      refine pu_ 9 (some 39) (bl_ 11 1023) ?_; refine pu_ 10 (some 2) (bl_ 11 2047) ?_; refine znK (zzP HT_.out (by kernel_rfl)) ?_
      try go_wp2
      go_ret
      exact ⟨ex_, bb_⟩

end Go.Proofs.YtehghobmmpihfaaGreatDoor.PFnExactReadPolygon
