-- Printed for this claim by this session's program pp.py, which drives the kit's print with additions. Not trusted: Lean checks it.
import Derived.Test.YtbnfbflfhpniaaaDoorV1PFnExactNormalPolygonx0
import Derived.Test.YtbnfbflfhpniaaaDoorV1PFnExactNormalPolygonx2
import Derived.Test.YtbnfbflfhpniaaaDoorV1PFnExactNormalPolygonx3
namespace Go.Proofs.YtbnfbflfhpniaaaDoor.PFnExactNormalPolygon
open Go.RowKit Go.Proofs.YtbnfbflfhpniaaaDoorW.PrintWords Go.Proofs.YtbnfbflfhpniaaaDoorW.PrintLast Go.Proofs.YtbnfbflfhpniaaaDoorW.PrintMore
attribute [local go_sem] zbB ziC zrC zhD znE zuB znH zkT   -- for this text's walks alone
set_option linter.unusedVariables false
set_option maxHeartbeats 8000000
set_option maxRecDepth 100000
set_option linter.unusedSimpArgs false

def ztF.f (k : Nat) (a0_0 : Int) (a0_1 : Int) (a0_2 : Int) (a1_0 : Int) (a1_1 : Int) (a1_2 : Int) : Option (Int) := (zqO.f a0_0 a0_1 a0_2).bind fun bt137 => ((zqO.f a1_0 a1_1 a1_2).bind fun bt140 => ((zyB.f k bt137.1 bt137.2.1 bt137.2.2 bt140.1 bt140.2.1 bt140.2.2).bind fun bt143 => ((zxR.f k bt143.1 bt143.2.1 bt143.2.2).bind fun t146 => (some t146))))
theorem ztF.mono : ∀ a0 a1 a2 a3 a4 a5 k, LeO (ztF.f k a0 a1 a2 a3 a4 a5) (ztF.f (k + 1) a0 a1 a2 a3 a4 a5) := by
 intro a0 a1 a2 a3 a4 a5 k
 unfold ztF.f
 repeat' first
   | (with_reducible exact zxR.mono _ _ _ _)
   | (with_reducible exact zyB.mono _ _ _ _ _ _ _)
   | (with_reducible exact LeO.refl _)
   | (with_reducible exact LeO.none _)
   | (with_reducible refine LeO.ite ?_ ?_)
   | (with_reducible refine LeO.bind ?_ (fun _ => ?_))
   | exact zxR.mono _ _ _ _
   | exact zyB.mono _ _ _ _ _ _ _
   | exact LeO.none _
   | refine LeO.ite ?_ ?_
   | refine LeO.bind ?_ (fun _ => ?_)
theorem ztF.calls (k : Nat) (a0_0 : Int) (a0_1 : Int) (a0_2 : Int) (a1_0 : Int) (a1_1 : Int) (a1_2 : Int) (r : Int) (w : World) (h : ztF.f k a0_0 a0_1 a0_2 a1_0 a1_1 a1_2 = some r) :
  Calls Tryd.prog 38 #[.agg #[.int .i64 a0_0, .int .i64 a0_1, .int .i64 a0_2], .agg #[.int .i64 a1_0, .int .i64 a1_1, .int .i64 a1_2]] w fun e w' => e = .returned (.int .i64 r) ∧ Below w.heap.size w w' := by
 have hu33 := Tryd.underlying33
 have HB := zpS (Below.refl w.heap.size w)
 have H : ((zqO.f a0_0 a0_1 a0_2).bind fun bt137 => ((zqO.f a1_0 a1_1 a1_2).bind fun bt140 => ((zyB.f k bt137.1 bt137.2.1 bt137.2.2 bt140.1 bt140.2.1 bt140.2.2).bind fun bt143 => ((zxR.f k bt143.1 bt143.2.1 bt143.2.2).bind fun t146 => (some t146))))) = some r := h
 clear h
 replace H := Option.bind_eq_some_iff.mp H
 obtain ⟨⟨t137, t138, t139⟩, A30, H⟩ := H
 replace H : ((zqO.f a1_0 a1_1 a1_2).bind fun bt140 => ((zyB.f k t137 t138 t139 bt140.1 bt140.2.1 bt140.2.2).bind fun bt143 => ((zxR.f k bt143.1 bt143.2.1 bt143.2.2).bind fun t146 => (some t146)))) = some r := H
 have A3 := zpS A30
 clear A30
 replace H := Option.bind_eq_some_iff.mp H
 obtain ⟨⟨t140, t141, t142⟩, A40, H⟩ := H
 replace H : ((zyB.f k t137 t138 t139 t140 t141 t142).bind fun bt143 => ((zxR.f k bt143.1 bt143.2.1 bt143.2.2).bind fun t146 => (some t146))) = some r := H
 have A4 := zpS A40
 clear A40
 replace H := Option.bind_eq_some_iff.mp H
 obtain ⟨⟨t143, t144, t145⟩, A50, H⟩ := H
 replace H : ((zxR.f k t143 t144 t145).bind fun t146 => (some t146)) = some r := H
 have A5 := zpS A50
 clear A50
 replace H := Option.bind_eq_some_iff.mp H
 obtain ⟨t146, A60, H⟩ := H
 replace H : (some t146) = some r := H
 have A6 := zpS A60
 clear A60
 obtain rfl := Option.some.inj H
 go_enter Tryd.func38, Tryd.ntmps38
 try go_wp2_with (first | ((with_reducible refine zpZ (N := 2) rfl ?_); refine bx_ 2 #[.int .i64 a0_0, .int .i64 a0_1, .int .i64 a0_2] 33 ?_; intro gb135 hg w7 hbox hb; have n0_ := (ns_ hb); have n1_ := zpS (hbox); have n2_ := (ng_ hg); have n3_ := n2_; clear HB; have HB := n0_; have BK135 := n1_; have GW135 := n2_; have GE135 := n3_; clear n0_ n1_ n2_ n3_; clear hb hbox hg) | ((with_reducible refine zpZ (N := 3) rfl ?_); refine bx_ 3 #[.int .i64 a1_0, .int .i64 a1_1, .int .i64 a1_2] 33 ?_; intro gb136 hg w8 hbox hb; have n0_ := zpS (zgM (g := gb135) (o := .cells #[.int .i64 a0_0, .int .i64 a0_1, .int .i64 a0_2] 33 (0, 0)) bk_ hb); have n1_ := (ns_ hb); have n2_ := zpS (hbox); have n3_ := (ng_ hg); have n4_ := n3_; have n5_ := zpS ((by rw [hg]; exact Nat.ne_of_lt (zmN (g := gb135) (o := .cells #[.int .i64 a0_0, .int .i64 a0_1, .int .i64 a0_2] 33 (0, 0)) bk_) : gb135 ≠ gb136)); have n6_ := zpS ((by rw [hg]; exact Nat.ne_of_gt (zmN (g := gb135) (o := .cells #[.int .i64 a0_0, .int .i64 a0_1, .int .i64 a0_2] 33 (0, 0)) bk_) : gb136 ≠ gb135)); clear BK135; clear HB; have BK135 := n0_; have HB := n1_; have BK136 := n2_; have GW136 := n3_; have GE136 := n4_; have NB135_136 := n5_; have NB136_135 := n6_; clear n0_ n1_ n2_ n3_ n4_ n5_ n6_; clear hb hbox hg))
 have n0_ := zpS (ztN BK135.out)
 have n1_ := zpS (ztN BK136.out)
 have n2_ := zpS (zvF HB.out)
 clear BK135
 clear BK136
 clear HB
 have BK135 := n0_
 have BK136 := n1_
 have HB := n2_
 clear n0_ n1_ n2_
 refine zpB (n := 7) (S := fun w' => w'.cell? ⟨gb135, 0, none⟩ = some (.int .i64 a0_0) ∧ w'.cell? ⟨gb135, 1, none⟩ = some (.int .i64 a0_1) ∧ w'.cell? ⟨gb135, 2, none⟩ = some (.int .i64 a0_2) ∧ w'.cell? ⟨gb136, 0, none⟩ = some (.int .i64 a1_0) ∧ w'.cell? ⟨gb136, 1, none⟩ = some (.int .i64 a1_1) ∧ w'.cell? ⟨gb136, 2, none⟩ = some (.int .i64 a1_2)) (ds := []) #[false, false, false, false, false, false, false] (by kernel_rfl) rfl rfl ⟨(zzS BK135.out 0).trans rfl, (zzS BK135.out 1).trans rfl, (zzS BK135.out 2).trans rfl, (zzS BK136.out 0).trans rfl, (zzS BK136.out 1).trans rfl, (zzS BK136.out 2).trans rfl⟩ (fun hHeld => ?_)
 generalize w8.drew = w9 at BK135 BK136 HB hHeld ⊢
 refine take_ (i := 0) (N := some 5) (v := ?_) (a' := ?_) (bl_ 7 1) rfl rfl (by kernel_rfl) (fun _ _ _ h => h) (Or.inl ⟨by rfl, ?_⟩) hHeld ?_ ?_
 rotate_left
 ·rintro w' ⟨s0, s1, s2, s3, s4, s5⟩
  go_simp
  with_reducible rfl
 rotate_left
 ·simp only [Act.put, List.setIfInBounds_toArray, List.set_cons_zero, List.set_cons_succ, zcM, ziK]
  rfl
 refine take_ (i := 2) (N := some 7) (v := ?_) (a' := ?_) (bl_ 7 5) rfl rfl (by kernel_rfl) (fun _ _ _ h => h) (Or.inl ⟨by rfl, ?_⟩) hHeld ?_ ?_
 rotate_left
 ·rintro w' ⟨s0, s1, s2, s3, s4, s5⟩
  go_simp
  with_reducible rfl
 rotate_left
 ·simp only [Act.put, List.setIfInBounds_toArray, List.set_cons_zero, List.set_cons_succ, zcM, ziK]
  rfl
 refine zdC (i := 1) (N := some 6) (bl_ 7 7) rfl rfl (by kernel_rfl) (by decide) (fun K hK => ?_)
 refine zqW Tryd.func50 (by kernel_rfl) rfl #[.agg #[.int .i64 a0_0, .int .i64 a0_1, .int .i64 a0_2]] (by rfl) rfl rfl (by (try simp only [List.map_toArray, List.map_cons, List.map_nil]); first | done | rfl | (simp only [List.length_drop, List.length_take]; rfl)) ?_
 with_reducible refine (zqO.calls a0_0 a0_1 a0_2 t137 t138 t139 _ A3.out).mono ?_
 rintro e w10 ⟨rfl, hb⟩
 refine ⟨_, rfl, ?_⟩
 have n0_ := zpS (zgM (g := gb135) (o := .cells #[.int .i64 a0_0, .int .i64 a0_1, .int .i64 a0_2] 33 (0, 0)) bk_ hb)
 have n1_ := zpS (zgM (g := gb136) (o := .cells #[.int .i64 a1_0, .int .i64 a1_1, .int .i64 a1_2] 33 (0, 0)) bk_ hb)
 have n2_ := (ns_ hb)
 clear BK135
 clear BK136
 clear HB
 have BK135 := n0_
 have BK136 := n1_
 have HB := n2_
 clear n0_ n1_ n2_
 (try clear hb)
 (try clear hb2)
 (try clear hk)
 (try clear hi)
 refine hK.out _ _ ⟨(zzS BK135.out 0).trans rfl, (zzS BK135.out 1).trans rfl, (zzS BK135.out 2).trans rfl, (zzS BK136.out 0).trans rfl, (zzS BK136.out 1).trans rfl, (zzS BK136.out 2).trans rfl⟩ (fun hHeld => ?_)
 clear hK K
 refine zaN (a' := ?_) ?_ ?_
 rotate_left
 ·show Act.put _ (some 6) _ = _
  simp only [Act.put, List.setIfInBounds_toArray, List.set_cons_zero, List.set_cons_succ, zcM, ziK]
  rfl
 refine zdC (i := 3) (N := some 8) (bl_ 7 15) rfl rfl (by kernel_rfl) (by decide) (fun K hK => ?_)
 refine zqW Tryd.func50 (by kernel_rfl) rfl #[.agg #[.int .i64 a1_0, .int .i64 a1_1, .int .i64 a1_2]] (by rfl) rfl rfl (by (try simp only [List.map_toArray, List.map_cons, List.map_nil]); first | done | rfl | (simp only [List.length_drop, List.length_take]; rfl)) ?_
 with_reducible refine (zqO.calls a1_0 a1_1 a1_2 t140 t141 t142 _ A4.out).mono ?_
 rintro e w11 ⟨rfl, hb⟩
 refine ⟨_, rfl, ?_⟩
 have n0_ := zpS (zgM (g := gb135) (o := .cells #[.int .i64 a0_0, .int .i64 a0_1, .int .i64 a0_2] 33 (0, 0)) bk_ hb)
 have n1_ := zpS (zgM (g := gb136) (o := .cells #[.int .i64 a1_0, .int .i64 a1_1, .int .i64 a1_2] 33 (0, 0)) bk_ hb)
 have n2_ := (ns_ hb)
 clear BK135
 clear BK136
 clear HB
 have BK135 := n0_
 have BK136 := n1_
 have HB := n2_
 clear n0_ n1_ n2_
 (try clear hb)
 (try clear hb2)
 (try clear hk)
 (try clear hi)
 refine hK.out _ _ ⟨(zzS BK135.out 0).trans rfl, (zzS BK135.out 1).trans rfl, (zzS BK135.out 2).trans rfl, (zzS BK136.out 0).trans rfl, (zzS BK136.out 1).trans rfl, (zzS BK136.out 2).trans rfl⟩ (fun hHeld => ?_)
 clear hK K
 refine zaN (a' := ?_) ?_ ?_
 rotate_left
 ·show Act.put _ (some 8) _ = _
  simp only [Act.put, List.setIfInBounds_toArray, List.set_cons_zero, List.set_cons_succ, zcM, ziK]
  rfl
 refine zdC (i := 4) (N := some 9) (bl_ 7 31) rfl rfl (by kernel_rfl) (by decide) (fun K hK => ?_)
 refine zqW Tryd.func49 (by kernel_rfl) rfl #[.agg #[.int .i64 t137, .int .i64 t138, .int .i64 t139], .agg #[.int .i64 t140, .int .i64 t141, .int .i64 t142]] (by rfl) rfl rfl (by (try simp only [List.map_toArray, List.map_cons, List.map_nil]); first | done | rfl | (simp only [List.length_drop, List.length_take]; rfl)) ?_
 with_reducible refine (zyB.calls k t137 t138 t139 t140 t141 t142 t143 t144 t145 _ A5.out).mono ?_
 rintro e w12 ⟨rfl, hb⟩
 refine ⟨_, rfl, ?_⟩
 have n0_ := zpS (zgM (g := gb135) (o := .cells #[.int .i64 a0_0, .int .i64 a0_1, .int .i64 a0_2] 33 (0, 0)) bk_ hb)
 have n1_ := zpS (zgM (g := gb136) (o := .cells #[.int .i64 a1_0, .int .i64 a1_1, .int .i64 a1_2] 33 (0, 0)) bk_ hb)
 have n2_ := (ns_ hb)
 clear BK135
 clear BK136
 clear HB
 have BK135 := n0_
 have BK136 := n1_
 have HB := n2_
 clear n0_ n1_ n2_
 (try clear hb)
 (try clear hb2)
 (try clear hk)
 (try clear hi)
 refine hK.out _ _ ⟨(zzS BK135.out 0).trans rfl, (zzS BK135.out 1).trans rfl, (zzS BK135.out 2).trans rfl, (zzS BK136.out 0).trans rfl, (zzS BK136.out 1).trans rfl, (zzS BK136.out 2).trans rfl⟩ (fun hHeld => ?_)
 clear hK K
 refine zaN (a' := ?_) ?_ ?_
 rotate_left
 ·show Act.put _ (some 9) _ = _
  simp only [Act.put, List.setIfInBounds_toArray, List.set_cons_zero, List.set_cons_succ, zcM, ziK]
  rfl
 refine zdC (i := 5) (N := some 10) (bl_ 7 63) rfl rfl (by kernel_rfl) (by decide) (fun K hK => ?_)
 refine zqW Tryd.func48 (by kernel_rfl) rfl #[.agg #[.int .i64 t143, .int .i64 t144, .int .i64 t145]] (by rfl) rfl rfl (by (try simp only [List.map_toArray, List.map_cons, List.map_nil]); first | done | rfl | (simp only [List.length_drop, List.length_take]; rfl)) ?_
 with_reducible refine (zxR.calls k t143 t144 t145 t146 _ A6.out).mono ?_
 rintro e w13 ⟨rfl, hb⟩
 refine ⟨_, rfl, ?_⟩
 have n0_ := zpS (zgM (g := gb135) (o := .cells #[.int .i64 a0_0, .int .i64 a0_1, .int .i64 a0_2] 33 (0, 0)) bk_ hb)
 have n1_ := zpS (zgM (g := gb136) (o := .cells #[.int .i64 a1_0, .int .i64 a1_1, .int .i64 a1_2] 33 (0, 0)) bk_ hb)
 have n2_ := (ns_ hb)
 clear BK135
 clear BK136
 clear HB
 have BK135 := n0_
 have BK136 := n1_
 have HB := n2_
 clear n0_ n1_ n2_
 (try clear hb)
 (try clear hb2)
 (try clear hk)
 (try clear hi)
 refine hK.out _ _ ⟨(zzS BK135.out 0).trans rfl, (zzS BK135.out 1).trans rfl, (zzS BK135.out 2).trans rfl, (zzS BK136.out 0).trans rfl, (zzS BK136.out 1).trans rfl, (zzS BK136.out 2).trans rfl⟩ (fun hHeld => ?_)
 clear hK K
 refine zaN (a' := ?_) ?_ ?_
 rotate_left
 ·show Act.put _ (some 10) _ = _
  simp only [Act.put, List.setIfInBounds_toArray, List.set_cons_zero, List.set_cons_succ, zcM, ziK]
  rfl
 refine ztK (i := 6) (N := some 4) (v := ?_) (a' := ?_) (bl_ 7 127) rfl rfl (by kernel_rfl) (fun _ _ _ h => h) (Or.inl ⟨by rfl, ?_⟩) ?_ ?_
 rotate_left
 ·intro w'
  go_simp
  with_reducible rfl
 rotate_left
 ·simp only [Act.put, List.setIfInBounds_toArray, List.set_cons_zero, List.set_cons_succ, zcM, ziK]
  rfl
 refine znK (by kernel_rfl) ?_
 try go_wp2
 go_ret
 exact ⟨by first | rfl | (simp [ziS, znJ] <;> rfl) | (simp [*, ziS, znJ] <;> rfl), bb_⟩

def zwB.f (k : Nat) (a0_0 : Int) (a0_1 : Int) (a0_2 : Int) (a0_3 : Int) (a0_4 : Int) (a0_5 : Int) (a1_0 : Int) (a1_1 : Int) (a1_2 : Int) (a1_3 : Int) (a1_4 : Int) (a1_5 : Int) : Option (Int) := (ztF.f k a0_0 a0_1 a0_2 a1_0 a1_1 a1_2).bind fun t149 => (if t149 = 0 then ((ztF.f k a0_3 a0_4 a0_5 a1_3 a1_4 a1_5).bind fun t150 => (some t150)) else (some t149))
theorem zwB.mono : ∀ a0 a1 a2 a3 a4 a5 a6 a7 a8 a9 a10 a11 k, LeO (zwB.f k a0 a1 a2 a3 a4 a5 a6 a7 a8 a9 a10 a11) (zwB.f (k + 1) a0 a1 a2 a3 a4 a5 a6 a7 a8 a9 a10 a11) := by
 intro a0 a1 a2 a3 a4 a5 a6 a7 a8 a9 a10 a11 k
 unfold zwB.f
 repeat' first
   | (with_reducible exact ztF.mono _ _ _ _ _ _ _)
   | (with_reducible exact LeO.refl _)
   | (with_reducible exact LeO.none _)
   | (with_reducible refine LeO.ite ?_ ?_)
   | (with_reducible refine LeO.bind ?_ (fun _ => ?_))
   | exact ztF.mono _ _ _ _ _ _ _
   | exact LeO.none _
   | refine LeO.ite ?_ ?_
   | refine LeO.bind ?_ (fun _ => ?_)
theorem zwB.calls (k : Nat) (a0_0 : Int) (a0_1 : Int) (a0_2 : Int) (a0_3 : Int) (a0_4 : Int) (a0_5 : Int) (a1_0 : Int) (a1_1 : Int) (a1_2 : Int) (a1_3 : Int) (a1_4 : Int) (a1_5 : Int) (r : Int) (w : World) (h : zwB.f k a0_0 a0_1 a0_2 a0_3 a0_4 a0_5 a1_0 a1_1 a1_2 a1_3 a1_4 a1_5 = some r) :
  Calls Tryd.prog 23 #[.agg #[.int .i64 a0_0, .int .i64 a0_1, .int .i64 a0_2, .int .i64 a0_3, .int .i64 a0_4, .int .i64 a0_5], .agg #[.int .i64 a1_0, .int .i64 a1_1, .int .i64 a1_2, .int .i64 a1_3, .int .i64 a1_4, .int .i64 a1_5]] w fun e w' => e = .returned (.int .i64 r) ∧ Below w.heap.size w w' := by
 have hu35 := Tryd.underlying35
 have hu33 := Tryd.underlying33
 have HB := zpS (Below.refl w.heap.size w)
 have H : ((ztF.f k a0_0 a0_1 a0_2 a1_0 a1_1 a1_2).bind fun t149 => (if t149 = 0 then ((ztF.f k a0_3 a0_4 a0_5 a1_3 a1_4 a1_5).bind fun t150 => (some t150)) else (some t149))) = some r := h
 clear h
 replace H := Option.bind_eq_some_iff.mp H
 obtain ⟨t149, A30, H⟩ := H
 replace H : (if t149 = 0 then ((ztF.f k a0_3 a0_4 a0_5 a1_3 a1_4 a1_5).bind fun t150 => (some t150)) else (some t149)) = some r := H
 have A3 := zpS A30
 clear A30
 by_cases c4 : t149 = 0
 ·rw [if_pos c4] at H
  have c4b0 : (t149 == 0) = true := beq_iff_eq.mpr c4
  have c4b1 : (t149 != 0) = false := bne_eq_false_iff_eq.mpr c4
  clear c4
  replace H := Option.bind_eq_some_iff.mp H
  obtain ⟨t150, A50, H⟩ := H
  replace H : (some t150) = some r := H
  have A5 := zpS A50
  clear A50
  obtain rfl := Option.some.inj H
  go_enter Tryd.func23, Tryd.ntmps23
  go_wp2_with (first | ((with_reducible refine zpZ (N := 2) rfl ?_); refine bx_ 2 #[.int .i64 a0_0, .int .i64 a0_1, .int .i64 a0_2, .int .i64 a0_3, .int .i64 a0_4, .int .i64 a0_5] 35 ?_; intro gb147 hg w6 hbox hb; have n0_ := (ns_ hb); have n1_ := zpS (hbox); have n2_ := (ng_ hg); have n3_ := n2_; clear HB; have HB := n0_; have BK147 := n1_; have GW147 := n2_; have GE147 := n3_; clear n0_ n1_ n2_ n3_; clear hb hbox hg) | ((with_reducible refine zpZ (N := 3) rfl ?_); refine bx_ 3 #[.int .i64 a1_0, .int .i64 a1_1, .int .i64 a1_2, .int .i64 a1_3, .int .i64 a1_4, .int .i64 a1_5] 35 ?_; intro gb148 hg w7 hbox hb; have n0_ := zpS (zgM (g := gb147) (o := .cells #[.int .i64 a0_0, .int .i64 a0_1, .int .i64 a0_2, .int .i64 a0_3, .int .i64 a0_4, .int .i64 a0_5] 35 (0, 0)) bk_ hb); have n1_ := (ns_ hb); have n2_ := zpS (hbox); have n3_ := (ng_ hg); have n4_ := n3_; have n5_ := zpS ((by rw [hg]; exact Nat.ne_of_lt (zmN (g := gb147) (o := .cells #[.int .i64 a0_0, .int .i64 a0_1, .int .i64 a0_2, .int .i64 a0_3, .int .i64 a0_4, .int .i64 a0_5] 35 (0, 0)) bk_) : gb147 ≠ gb148)); have n6_ := zpS ((by rw [hg]; exact Nat.ne_of_gt (zmN (g := gb147) (o := .cells #[.int .i64 a0_0, .int .i64 a0_1, .int .i64 a0_2, .int .i64 a0_3, .int .i64 a0_4, .int .i64 a0_5] 35 (0, 0)) bk_) : gb148 ≠ gb147)); clear BK147; clear HB; have BK147 := n0_; have HB := n1_; have BK148 := n2_; have GW148 := n3_; have GE148 := n4_; have NB147_148 := n5_; have NB148_147 := n6_; clear n0_ n1_ n2_ n3_ n4_ n5_ n6_; clear hb hbox hg; have hnb8 := NB147_148.out; have hnc8 := NB148_147.out; obtain ⟨hcz9_0, hcz9_1, hcz9_2, hcz9_3, hcz9_4, hcz9_5⟩ := zrN BK147.out; obtain ⟨hfz9_0, hfz9_1, hfz9_2, hfz9_3, hfz9_4, hfz9_5⟩ := zoO BK147.out; obtain ⟨hcz10_0, hcz10_1, hcz10_2, hcz10_3, hcz10_4, hcz10_5⟩ := zrN BK148.out; obtain ⟨hfz10_0, hfz10_1, hfz10_2, hfz10_3, hfz10_4, hfz10_5⟩ := zoO BK148.out) | ((with_reducible refine zgK (f := 38) rfl ?_); refine zqQ (some 10) rfl rfl Tryd.func38 (by kernel_rfl) rfl #[.agg #[.int .i64 a0_0, .int .i64 a0_1, .int .i64 a0_2], .agg #[.int .i64 a1_0, .int .i64 a1_1, .int .i64 a1_2]] rfl (by (try simp only [List.map_toArray, List.map_cons, List.map_nil]); first | done | rfl | (simp only [List.length_drop, List.length_take]; rfl)) ?_; (with_reducible refine (ztF.calls k a0_0 a0_1 a0_2 a1_0 a1_1 a1_2 t149 _ A3.out).mono ?_); rintro e w11 ⟨rfl, hb⟩; refine ⟨_, rfl, ?_⟩; have n0_ := zpS (zgM (g := gb147) (o := .cells #[.int .i64 a0_0, .int .i64 a0_1, .int .i64 a0_2, .int .i64 a0_3, .int .i64 a0_4, .int .i64 a0_5] 35 (0, 0)) bk_ hb); have n1_ := zpS (zgM (g := gb148) (o := .cells #[.int .i64 a1_0, .int .i64 a1_1, .int .i64 a1_2, .int .i64 a1_3, .int .i64 a1_4, .int .i64 a1_5] 35 (0, 0)) bk_ hb); have n2_ := (ns_ hb); clear BK147; clear BK148; clear HB; have BK147 := n0_; have BK148 := n1_; have HB := n2_; clear n0_ n1_ n2_; (try clear hb); (try clear hb2); obtain ⟨hcz12_0, hcz12_1, hcz12_2, hcz12_3, hcz12_4, hcz12_5⟩ := zrN BK147.out; obtain ⟨hfz12_0, hfz12_1, hfz12_2, hfz12_3, hfz12_4, hfz12_5⟩ := zoO BK147.out; obtain ⟨hcz13_0, hcz13_1, hcz13_2, hcz13_3, hcz13_4, hcz13_5⟩ := zrN BK148.out; obtain ⟨hfz13_0, hfz13_1, hfz13_2, hfz13_3, hfz13_4, hfz13_5⟩ := zoO BK148.out) | ((with_reducible refine zgK (f := 38) rfl ?_); refine zqQ (some 18) rfl rfl Tryd.func38 (by kernel_rfl) rfl #[.agg #[.int .i64 a0_3, .int .i64 a0_4, .int .i64 a0_5], .agg #[.int .i64 a1_3, .int .i64 a1_4, .int .i64 a1_5]] rfl (by (try simp only [List.map_toArray, List.map_cons, List.map_nil]); first | done | rfl | (simp only [List.length_drop, List.length_take]; rfl)) ?_; (with_reducible refine (ztF.calls k a0_3 a0_4 a0_5 a1_3 a1_4 a1_5 t150 _ A5.out).mono ?_); rintro e w14 ⟨rfl, hb⟩; refine ⟨_, rfl, ?_⟩; have n0_ := zpS (zgM (g := gb147) (o := .cells #[.int .i64 a0_0, .int .i64 a0_1, .int .i64 a0_2, .int .i64 a0_3, .int .i64 a0_4, .int .i64 a0_5] 35 (0, 0)) bk_ hb); have n1_ := zpS (zgM (g := gb148) (o := .cells #[.int .i64 a1_0, .int .i64 a1_1, .int .i64 a1_2, .int .i64 a1_3, .int .i64 a1_4, .int .i64 a1_5] 35 (0, 0)) bk_ hb); have n2_ := (ns_ hb); clear BK147; clear BK148; clear HB; have BK147 := n0_; have BK148 := n1_; have HB := n2_; clear n0_ n1_ n2_; (try clear hb); (try clear hb2)))
  go_ret
  exact ⟨by first | rfl | (simp [ziS, znJ] <;> rfl) | (simp [*, ziS, znJ] <;> rfl), bb_⟩
 ·rw [if_neg c4] at H
  have c4b0 : (t149 == 0) = false := beq_eq_false_iff_ne.mpr c4
  have c4b1 : (t149 != 0) = true := bne_iff_ne.mpr c4
  obtain rfl := Option.some.inj H
  go_enter Tryd.func23, Tryd.ntmps23
  go_wp2_with (first | ((with_reducible refine zpZ (N := 2) rfl ?_); refine bx_ 2 #[.int .i64 a0_0, .int .i64 a0_1, .int .i64 a0_2, .int .i64 a0_3, .int .i64 a0_4, .int .i64 a0_5] 35 ?_; intro gb147 hg w15 hbox hb; have n0_ := (ns_ hb); have n1_ := zpS (hbox); have n2_ := (ng_ hg); have n3_ := n2_; clear HB; have HB := n0_; have BK147 := n1_; have GW147 := n2_; have GE147 := n3_; clear n0_ n1_ n2_ n3_; clear hb hbox hg) | ((with_reducible refine zpZ (N := 3) rfl ?_); refine bx_ 3 #[.int .i64 a1_0, .int .i64 a1_1, .int .i64 a1_2, .int .i64 a1_3, .int .i64 a1_4, .int .i64 a1_5] 35 ?_; intro gb148 hg w16 hbox hb; have n0_ := zpS (zgM (g := gb147) (o := .cells #[.int .i64 a0_0, .int .i64 a0_1, .int .i64 a0_2, .int .i64 a0_3, .int .i64 a0_4, .int .i64 a0_5] 35 (0, 0)) bk_ hb); have n1_ := (ns_ hb); have n2_ := zpS (hbox); have n3_ := (ng_ hg); have n4_ := n3_; have n5_ := zpS ((by rw [hg]; exact Nat.ne_of_lt (zmN (g := gb147) (o := .cells #[.int .i64 a0_0, .int .i64 a0_1, .int .i64 a0_2, .int .i64 a0_3, .int .i64 a0_4, .int .i64 a0_5] 35 (0, 0)) bk_) : gb147 ≠ gb148)); have n6_ := zpS ((by rw [hg]; exact Nat.ne_of_gt (zmN (g := gb147) (o := .cells #[.int .i64 a0_0, .int .i64 a0_1, .int .i64 a0_2, .int .i64 a0_3, .int .i64 a0_4, .int .i64 a0_5] 35 (0, 0)) bk_) : gb148 ≠ gb147)); clear BK147; clear HB; have BK147 := n0_; have HB := n1_; have BK148 := n2_; have GW148 := n3_; have GE148 := n4_; have NB147_148 := n5_; have NB148_147 := n6_; clear n0_ n1_ n2_ n3_ n4_ n5_ n6_; clear hb hbox hg; have hnb17 := NB147_148.out; have hnc17 := NB148_147.out; obtain ⟨hcz18_0, hcz18_1, hcz18_2, hcz18_3, hcz18_4, hcz18_5⟩ := zrN BK147.out; obtain ⟨hfz18_0, hfz18_1, hfz18_2, hfz18_3, hfz18_4, hfz18_5⟩ := zoO BK147.out; obtain ⟨hcz19_0, hcz19_1, hcz19_2, hcz19_3, hcz19_4, hcz19_5⟩ := zrN BK148.out; obtain ⟨hfz19_0, hfz19_1, hfz19_2, hfz19_3, hfz19_4, hfz19_5⟩ := zoO BK148.out) | ((with_reducible refine zgK (f := 38) rfl ?_); refine zqQ (some 10) rfl rfl Tryd.func38 (by kernel_rfl) rfl #[.agg #[.int .i64 a0_0, .int .i64 a0_1, .int .i64 a0_2], .agg #[.int .i64 a1_0, .int .i64 a1_1, .int .i64 a1_2]] rfl (by (try simp only [List.map_toArray, List.map_cons, List.map_nil]); first | done | rfl | (simp only [List.length_drop, List.length_take]; rfl)) ?_; (with_reducible refine (ztF.calls k a0_0 a0_1 a0_2 a1_0 a1_1 a1_2 t149 _ A3.out).mono ?_); rintro e w20 ⟨rfl, hb⟩; refine ⟨_, rfl, ?_⟩; have n0_ := zpS (zgM (g := gb147) (o := .cells #[.int .i64 a0_0, .int .i64 a0_1, .int .i64 a0_2, .int .i64 a0_3, .int .i64 a0_4, .int .i64 a0_5] 35 (0, 0)) bk_ hb); have n1_ := zpS (zgM (g := gb148) (o := .cells #[.int .i64 a1_0, .int .i64 a1_1, .int .i64 a1_2, .int .i64 a1_3, .int .i64 a1_4, .int .i64 a1_5] 35 (0, 0)) bk_ hb); have n2_ := (ns_ hb); clear BK147; clear BK148; clear HB; have BK147 := n0_; have BK148 := n1_; have HB := n2_; clear n0_ n1_ n2_; (try clear hb); (try clear hb2)))
  go_ret
  exact ⟨by first | rfl | (simp [ziS, znJ] <;> rfl) | (simp [*, ziS, znJ] <;> rfl), bb_⟩

def zwS.l0 : Nat → List (S35) → Int → Int → Option ((List (S35)))
 | 0, _, _, _ => none
 | k + 1, x0, x3, x4 => if x4 < (x0.length : Int) then (if 0 ≤ x4 then (if 0 ≤ x3 then (if x3 < (x0.length : Int) then ((zwB.f k ((zmE x0 x4).f0.f0) ((zmE x0 x4).f0.f1) ((zmE x0 x4).f0.f2) ((zmE x0 x4).f1.f0) ((zmE x0 x4).f1.f1) ((zmE x0 x4).f1.f2) ((zmE x0 x3).f0.f0) ((zmE x0 x3).f0.f1) ((zmE x0 x3).f0.f2) ((zmE x0 x3).f1.f0) ((zmE x0 x3).f1.f1) ((zmE x0 x3).f1.f2)).bind fun t153 => (if t153 < 0 then (zwS.l0 k x0 x4 (wrap64 (x4 + 1))) else (zwS.l0 k x0 x3 (wrap64 (x4 + 1))))) else (none)) else (none)) else (none)) else ((some (([] : List (S35)) : List (S35))).bind fun y154 => (if 0 ≤ x3 then (if x3 ≤ (x0.length : Int) then ((some (x0.drop (x3 : Int).toNat : List (S35))).bind fun y157 => (if y154.length + y157.length < 2932031007402 then ((some (y154 ++ y157 : List (S35))).bind fun y161 => ((some (x0.take (x3 : Int).toNat : List (S35))).bind fun y164 => (if y161.length + y164.length < 2932031007402 then (some (y161 ++ y164)) else (none)))) else (none))) else (none)) else (none)))
def zwS.f (k : Nat) (l0 : List (S35)) : Option ((List (S35))) := zwS.l0 k l0 0 1
theorem zwS.mono_l : ∀ k, (∀ y0 y1 y2, LeO (zwS.l0 k y0 y1 y2) (zwS.l0 (k + 1) y0 y1 y2))
 | 0 => fun _ _ _ r h => by simp [zwS.l0] at h
 | k + 1 => by
  have ih0 := zwS.mono_l k
  ·intro y0 y1 y2
   unfold zwS.l0
   repeat' first
   | (with_reducible exact ih0 _ _ _)
   | (with_reducible exact zwB.mono _ _ _ _ _ _ _ _ _ _ _ _ _)
   | (with_reducible exact LeO.refl _)
   | (with_reducible exact LeO.none _)
   | (with_reducible refine LeO.ite ?_ ?_)
   | (with_reducible refine LeO.bind ?_ (fun _ => ?_))
   | exact ih0 _ _ _
   | exact zwB.mono _ _ _ _ _ _ _ _ _ _ _ _ _
   | exact LeO.none _
   | refine LeO.ite ?_ ?_
   | refine LeO.bind ?_ (fun _ => ?_)
theorem zwS.mono : ∀ a0 k, LeO (zwS.f k a0) (zwS.f (k + 1) a0) := by
 intro a0 k
 have ih0 := zwS.mono_l k
 unfold zwS.f
 repeat' first
   | (with_reducible exact ih0 _ _ _)
   | (with_reducible exact zwB.mono _ _ _ _ _ _ _ _ _ _ _ _ _)
   | (with_reducible exact LeO.refl _)
   | (with_reducible exact LeO.none _)
   | (with_reducible refine LeO.ite ?_ ?_)
   | (with_reducible refine LeO.bind ?_ (fun _ => ?_))
   | exact ih0 _ _ _
   | exact zwB.mono _ _ _ _ _ _ _ _ _ _ _ _ _
   | exact LeO.none _
   | refine LeO.ite ?_ ?_
   | refine LeO.bind ?_ (fun _ => ?_)
def zwS.T5 : Bool × List (List Nat × List Nat) := (true, [([], []), ([], []), ([0, 1], [0, 1]), ([2], [2]), ([], []), ([], []), ([4, 5], [4, 5]), ([6], [6]), ([3, 7], [3, 7]), ([8], [8])])
def zwS.B5 : List Nat := [0, 0, 3, 7, 0, 0, 48, 112, 255, 511]
theorem zwS.tab5 : rtab .any (opsOf Tryd.f12 5) = zwS.T5 := by kernel_rfl
theorem zwS.bits5 : ztG zwS.T5.2 zwS.B5 = true := by kernel_rfl
theorem zwS.calls (k : Nat) (A0 : Option Addr) (c0 : Nat) (l0 : List (S35)) (r : List (S35)) (w : World) (hr0 : Kd.C k35 w A0 l0.length l0) (hc0 : l0.length ≤ c0) (h : zwS.f k l0 = some r) :
  Calls Tryd.prog 12 #[.slice A0 l0.length c0] w fun e w' => ∃ v0_ : Value, e = .returned (v0_) ∧ Kd.R k35 35 w' w.heap.size (fun _ => True) v0_ r ∧ Below w.heap.size w w' := by
 have hu35 := Tryd.underlying35
 have HR0 := zpS hr0
 have HC0 := zpS hc0
 clear hr0 hc0
 have HB := zpS (Below.refl w.heap.size w)
 have H : (zwS.l0 k l0 0 1) = some r := h
 clear h
 have H' := zpS H
 clear H
 go_enter Tryd.func12, Tryd.ntmps12
 go_wp2
 (try go_simp)
 go_loopg [3, 4] k (fun kq v3 v4 w' => ∃ (x3_1 : Int) (x4_1 : Int), v3 = .int .i64 x3_1 ∧ v4 = .int .i64 x4_1 ∧ Aside0 (zwS.l0 kq l0 x3_1 x4_1 = some r) ∧ Aside0 (kq ≤ k) ∧ Aside0 (Below w.heap.size w w'))
 case atStart => exact ⟨(0), (1), (by first | rfl | (simp; done) | (simp [*]; done)), (by first | rfl | (simp; done) | (simp [*]; done)), H', ⟨Nat.le_refl _⟩, ⟨bb_⟩⟩
 case round =>
  clear H'
  try clear c1
  obtain ⟨x3_1, x4_1, rfl, rfl, HA, HK1, HB⟩ := hrel
  cases gk with
  | zero => exact absurd HA.out (by simp [zwS.l0])
  | succ k1 =>
   have H := HA.out
   clear HA
   simp only [zwS.l0] at H
   by_cases c2 : x4_1 < (l0.length : Int)
   ·rw [if_pos c2] at H
    have c2b0 : decide (x4_1 < (l0.length : Int)) = true := decide_eq_true c2
    clear c2
    by_cases c3 : 0 ≤ x4_1
    ·rw [if_pos c3] at H
     have c3b0 : decide (0 ≤ x4_1) = true := decide_eq_true c3
     clear c3
     by_cases c4 : 0 ≤ x3_1
     ·rw [if_pos c4] at H
      have c4b0 : decide (0 ≤ x3_1) = true := decide_eq_true c4
      clear c4
      by_cases c5 : x3_1 < (l0.length : Int)
      ·rw [if_pos c5] at H
       have c5b0 : decide (x3_1 < (l0.length : Int)) = true := decide_eq_true c5
       clear c5
       replace H := Option.bind_eq_some_iff.mp H
       obtain ⟨t153, A60, H⟩ := H
       replace H : (if t153 < 0 then (zwS.l0 k1 l0 x4_1 (wrap64 (x4_1 + 1))) else (zwS.l0 k1 l0 x3_1 (wrap64 (x4_1 + 1)))) = some r := H
       have A6 := zpS A60
       clear A60
       by_cases c7 : t153 < 0
       ·rw [if_pos c7] at H
        have c7b0 : decide (t153 < 0) = true := decide_eq_true c7
        clear c7
        have H' := zpS H
        clear H
        try go_wp2
        have n0_ := zpS (zvF HB.out)
        clear HB
        have HB := n0_
        clear n0_
        have p151 : 0 ≤ (x4_1 : Int) := dt_
        have q151 : x4_1 < (l0.length : Int) := dt_
        obtain ⟨ad151, e151, hx151_0, hx151_1, hx151_2, hx151_3, hx151_4, hx151_5⟩ := zcN HR0.out x4_1 p151 q151
        have hw151_5 := hx151_5
        have hw151_4 := hx151_4
        have hw151_3 := hx151_3
        have hw151_2 := hx151_2
        have hw151_1 := hx151_1
        have hw151_0 := hx151_0
        cases e151
        replace hx151_0 := zeA HB.out hx151_0
        replace hx151_1 := zeA HB.out hx151_1
        replace hx151_2 := zeA HB.out hx151_2
        replace hx151_3 := zeA HB.out hx151_3
        replace hx151_4 := zeA HB.out hx151_4
        replace hx151_5 := zeA HB.out hx151_5
        replace p151 := eq_true p151
        replace q151 := eq_true q151
        have p152 : 0 ≤ (x3_1 : Int) := dt_
        have q152 : x3_1 < (l0.length : Int) := dt_
        obtain ⟨ad152, e152, hx152_0, hx152_1, hx152_2, hx152_3, hx152_4, hx152_5⟩ := zcN HR0.out x3_1 p152 q152
        have hw152_5 := hx152_5
        have hw152_4 := hx152_4
        have hw152_3 := hx152_3
        have hw152_2 := hx152_2
        have hw152_1 := hx152_1
        have hw152_0 := hx152_0
        obtain rfl : ad151 = ad152 := (by injection e152)
        replace hx152_0 := zeA HB.out hx152_0
        replace hx152_1 := zeA HB.out hx152_1
        replace hx152_2 := zeA HB.out hx152_2
        replace hx152_3 := zeA HB.out hx152_3
        replace hx152_4 := zeA HB.out hx152_4
        replace hx152_5 := zeA HB.out hx152_5
        replace p152 := eq_true p152
        replace q152 := eq_true q152
        refine zpB (n := 10) (S := fun w' => w'.cell? (ad151.add ((x4_1).toNat * 6)) = some (.int .i64 ((zmE l0 x4_1).f0.f0)) ∧ w'.cell? ⟨(ad151.add ((x4_1).toNat * 6)).block, (ad151.add ((x4_1).toNat * 6)).off + 1, none⟩ = some (.int .i64 ((zmE l0 x4_1).f0.f1)) ∧ w'.cell? ⟨(ad151.add ((x4_1).toNat * 6)).block, (ad151.add ((x4_1).toNat * 6)).off + 2, none⟩ = some (.int .i64 ((zmE l0 x4_1).f0.f2)) ∧ w'.cell? ⟨(ad151.add ((x4_1).toNat * 6)).block, (ad151.add ((x4_1).toNat * 6)).off + 3, none⟩ = some (.int .i64 ((zmE l0 x4_1).f1.f0)) ∧ w'.cell? ⟨(ad151.add ((x4_1).toNat * 6)).block, (ad151.add ((x4_1).toNat * 6)).off + 4, none⟩ = some (.int .i64 ((zmE l0 x4_1).f1.f1)) ∧ w'.cell? ⟨(ad151.add ((x4_1).toNat * 6)).block, (ad151.add ((x4_1).toNat * 6)).off + 5, none⟩ = some (.int .i64 ((zmE l0 x4_1).f1.f2)) ∧ w'.cell? (ad151.add ((x3_1).toNat * 6)) = some (.int .i64 ((zmE l0 x3_1).f0.f0)) ∧ w'.cell? ⟨(ad151.add ((x3_1).toNat * 6)).block, (ad151.add ((x3_1).toNat * 6)).off + 1, none⟩ = some (.int .i64 ((zmE l0 x3_1).f0.f1)) ∧ w'.cell? ⟨(ad151.add ((x3_1).toNat * 6)).block, (ad151.add ((x3_1).toNat * 6)).off + 2, none⟩ = some (.int .i64 ((zmE l0 x3_1).f0.f2)) ∧ w'.cell? ⟨(ad151.add ((x3_1).toNat * 6)).block, (ad151.add ((x3_1).toNat * 6)).off + 3, none⟩ = some (.int .i64 ((zmE l0 x3_1).f1.f0)) ∧ w'.cell? ⟨(ad151.add ((x3_1).toNat * 6)).block, (ad151.add ((x3_1).toNat * 6)).off + 4, none⟩ = some (.int .i64 ((zmE l0 x3_1).f1.f1)) ∧ w'.cell? ⟨(ad151.add ((x3_1).toNat * 6)).block, (ad151.add ((x3_1).toNat * 6)).off + 5, none⟩ = some (.int .i64 ((zmE l0 x3_1).f1.f2))) (ds := []) #[false, false, false, false, false, false, false, false, false, false] (by kernel_rfl) rfl rfl ⟨(zeA HB.out hw151_0), (zeA HB.out hw151_1), (zeA HB.out hw151_2), (zeA HB.out hw151_3), (zeA HB.out hw151_4), (zeA HB.out hw151_5), (zeA HB.out hw152_0), (zeA HB.out hw152_1), (zeA HB.out hw152_2), (zeA HB.out hw152_3), (zeA HB.out hw152_4), (zeA HB.out hw152_5)⟩ (fun hHeld => ?_); refine zwI zwS.tab5 zwS.bits5 (fun HT_ HW_ => ?_)
        generalize wr.drew = w8 at HB hx151_0 hx151_1 hx151_2 hx151_3 hx151_4 hx151_5 hx152_0 hx152_1 hx152_2 hx152_3 hx152_4 hx152_5 hHeld ⊢
        refine pu_ 0 (some 12) (bl_ 10 1) ?_
        refine pu_ 1 (some 13) (bl_ 10 3) ?_
        refine pu_ 2 (some 14) (bl_ 10 7) ?_
        refine pu_ 4 (some 16) (bl_ 10 23) ?_
        refine pu_ 5 (some 17) (bl_ 10 55) ?_
        refine pu_ 6 (some 18) (bl_ 10 119) ?_
        refine zmW 3 (some 15) (bl_ 10 127) hHeld ?_
        refine zmW 7 (some 19) (bl_ 10 255) hHeld ?_
        refine zdC (i := 8) (N := some 20) (bl_ 10 511) rfl rfl (zeO HT_.out (by kernel_rfl)) (by decide) (fun K hK => ?_)
        refine zqW Tryd.func23 (by kernel_rfl) rfl #[.agg #[.int .i64 ((zmE l0 x4_1).f0.f0), .int .i64 ((zmE l0 x4_1).f0.f1), .int .i64 ((zmE l0 x4_1).f0.f2), .int .i64 ((zmE l0 x4_1).f1.f0), .int .i64 ((zmE l0 x4_1).f1.f1), .int .i64 ((zmE l0 x4_1).f1.f2)], .agg #[.int .i64 ((zmE l0 x3_1).f0.f0), .int .i64 ((zmE l0 x3_1).f0.f1), .int .i64 ((zmE l0 x3_1).f0.f2), .int .i64 ((zmE l0 x3_1).f1.f0), .int .i64 ((zmE l0 x3_1).f1.f1), .int .i64 ((zmE l0 x3_1).f1.f2)]] (by rfl) rfl rfl (by (try simp only [List.map_toArray, List.map_cons, List.map_nil]); first | done | rfl | (simp only [List.length_drop, List.length_take]; rfl)) ?_
        with_reducible refine (zwB.calls k1 ((zmE l0 x4_1).f0.f0) ((zmE l0 x4_1).f0.f1) ((zmE l0 x4_1).f0.f2) ((zmE l0 x4_1).f1.f0) ((zmE l0 x4_1).f1.f1) ((zmE l0 x4_1).f1.f2) ((zmE l0 x3_1).f0.f0) ((zmE l0 x3_1).f0.f1) ((zmE l0 x3_1).f0.f2) ((zmE l0 x3_1).f1.f0) ((zmE l0 x3_1).f1.f1) ((zmE l0 x3_1).f1.f2) t153 _ A6.out).mono ?_
        rintro e w9 ⟨rfl, hb⟩
        refine ⟨_, rfl, ?_⟩
        have n0_ := (ns_ hb)
        clear HB
        have HB := n0_
        clear n0_
        (try clear hb)
        (try clear hb2)
        (try clear hk)
        (try clear hi)
        refine hK.out _ _ ⟨(zeA HB.out hw151_0), (zeA HB.out hw151_1), (zeA HB.out hw151_2), (zeA HB.out hw151_3), (zeA HB.out hw151_4), (zeA HB.out hw151_5), (zeA HB.out hw152_0), (zeA HB.out hw152_1), (zeA HB.out hw152_2), (zeA HB.out hw152_3), (zeA HB.out hw152_4), (zeA HB.out hw152_5)⟩ (fun hHeld => ?_)
        clear hK K
        refine zaN (a' := ?_) ?_ ?_
        rotate_left
        ·show Act.put _ (some 20) _ = _
         simp only [Act.put, List.setIfInBounds_toArray, List.set_cons_zero, List.set_cons_succ, zcM, ziK]
         rfl
        refine pu_ 9 (some 21) (bl_ 10 1023) ?_
        refine znK (zzP HT_.out (by kernel_rfl)) ?_
        try go_wp2
        go_roundg k1
        case measure => have := HK1.out; omega
        case rel => exact ⟨(x4_1), (wrap64 (x4_1 + 1)), (by first | rfl | (simp; done) | (simp [*]; done)), (by first | rfl | (simp; done) | (simp [*]; done)), H', ⟨by have := HK1.out; omega⟩, ⟨bb_⟩⟩
       ·rw [if_neg c7] at H
        have c7b0 : decide (t153 < 0) = false := decide_eq_false c7
        clear c7
        have H' := zpS H
        clear H
        try go_wp2
        have n0_ := zpS (zvF HB.out)
        clear HB
        have HB := n0_
        clear n0_
        have p151 : 0 ≤ (x4_1 : Int) := dt_
        have q151 : x4_1 < (l0.length : Int) := dt_
        obtain ⟨ad151, e151, hx151_0, hx151_1, hx151_2, hx151_3, hx151_4, hx151_5⟩ := zcN HR0.out x4_1 p151 q151
        have hw151_5 := hx151_5
        have hw151_4 := hx151_4
        have hw151_3 := hx151_3
        have hw151_2 := hx151_2
        have hw151_1 := hx151_1
        have hw151_0 := hx151_0
        cases e151
        replace hx151_0 := zeA HB.out hx151_0
        replace hx151_1 := zeA HB.out hx151_1
        replace hx151_2 := zeA HB.out hx151_2
        replace hx151_3 := zeA HB.out hx151_3
        replace hx151_4 := zeA HB.out hx151_4
        replace hx151_5 := zeA HB.out hx151_5
        replace p151 := eq_true p151
        replace q151 := eq_true q151
        have p152 : 0 ≤ (x3_1 : Int) := dt_
        have q152 : x3_1 < (l0.length : Int) := dt_
        obtain ⟨ad152, e152, hx152_0, hx152_1, hx152_2, hx152_3, hx152_4, hx152_5⟩ := zcN HR0.out x3_1 p152 q152
        have hw152_5 := hx152_5
        have hw152_4 := hx152_4
        have hw152_3 := hx152_3
        have hw152_2 := hx152_2
        have hw152_1 := hx152_1
        have hw152_0 := hx152_0
        obtain rfl : ad151 = ad152 := (by injection e152)
        replace hx152_0 := zeA HB.out hx152_0
        replace hx152_1 := zeA HB.out hx152_1
        replace hx152_2 := zeA HB.out hx152_2
        replace hx152_3 := zeA HB.out hx152_3
        replace hx152_4 := zeA HB.out hx152_4
        replace hx152_5 := zeA HB.out hx152_5
        replace p152 := eq_true p152
        replace q152 := eq_true q152
        refine zpB (n := 10) (S := fun w' => w'.cell? (ad151.add ((x4_1).toNat * 6)) = some (.int .i64 ((zmE l0 x4_1).f0.f0)) ∧ w'.cell? ⟨(ad151.add ((x4_1).toNat * 6)).block, (ad151.add ((x4_1).toNat * 6)).off + 1, none⟩ = some (.int .i64 ((zmE l0 x4_1).f0.f1)) ∧ w'.cell? ⟨(ad151.add ((x4_1).toNat * 6)).block, (ad151.add ((x4_1).toNat * 6)).off + 2, none⟩ = some (.int .i64 ((zmE l0 x4_1).f0.f2)) ∧ w'.cell? ⟨(ad151.add ((x4_1).toNat * 6)).block, (ad151.add ((x4_1).toNat * 6)).off + 3, none⟩ = some (.int .i64 ((zmE l0 x4_1).f1.f0)) ∧ w'.cell? ⟨(ad151.add ((x4_1).toNat * 6)).block, (ad151.add ((x4_1).toNat * 6)).off + 4, none⟩ = some (.int .i64 ((zmE l0 x4_1).f1.f1)) ∧ w'.cell? ⟨(ad151.add ((x4_1).toNat * 6)).block, (ad151.add ((x4_1).toNat * 6)).off + 5, none⟩ = some (.int .i64 ((zmE l0 x4_1).f1.f2)) ∧ w'.cell? (ad151.add ((x3_1).toNat * 6)) = some (.int .i64 ((zmE l0 x3_1).f0.f0)) ∧ w'.cell? ⟨(ad151.add ((x3_1).toNat * 6)).block, (ad151.add ((x3_1).toNat * 6)).off + 1, none⟩ = some (.int .i64 ((zmE l0 x3_1).f0.f1)) ∧ w'.cell? ⟨(ad151.add ((x3_1).toNat * 6)).block, (ad151.add ((x3_1).toNat * 6)).off + 2, none⟩ = some (.int .i64 ((zmE l0 x3_1).f0.f2)) ∧ w'.cell? ⟨(ad151.add ((x3_1).toNat * 6)).block, (ad151.add ((x3_1).toNat * 6)).off + 3, none⟩ = some (.int .i64 ((zmE l0 x3_1).f1.f0)) ∧ w'.cell? ⟨(ad151.add ((x3_1).toNat * 6)).block, (ad151.add ((x3_1).toNat * 6)).off + 4, none⟩ = some (.int .i64 ((zmE l0 x3_1).f1.f1)) ∧ w'.cell? ⟨(ad151.add ((x3_1).toNat * 6)).block, (ad151.add ((x3_1).toNat * 6)).off + 5, none⟩ = some (.int .i64 ((zmE l0 x3_1).f1.f2))) (ds := []) #[false, false, false, false, false, false, false, false, false, false] (by kernel_rfl) rfl rfl ⟨(zeA HB.out hw151_0), (zeA HB.out hw151_1), (zeA HB.out hw151_2), (zeA HB.out hw151_3), (zeA HB.out hw151_4), (zeA HB.out hw151_5), (zeA HB.out hw152_0), (zeA HB.out hw152_1), (zeA HB.out hw152_2), (zeA HB.out hw152_3), (zeA HB.out hw152_4), (zeA HB.out hw152_5)⟩ (fun hHeld => ?_); refine zwI zwS.tab5 zwS.bits5 (fun HT_ HW_ => ?_)
        generalize wr.drew = w10 at HB hx151_0 hx151_1 hx151_2 hx151_3 hx151_4 hx151_5 hx152_0 hx152_1 hx152_2 hx152_3 hx152_4 hx152_5 hHeld ⊢
        refine pu_ 0 (some 12) (bl_ 10 1) ?_
        refine pu_ 1 (some 13) (bl_ 10 3) ?_
        refine pu_ 2 (some 14) (bl_ 10 7) ?_
        refine pu_ 4 (some 16) (bl_ 10 23) ?_
        refine pu_ 5 (some 17) (bl_ 10 55) ?_
        refine pu_ 6 (some 18) (bl_ 10 119) ?_
        refine zmW 3 (some 15) (bl_ 10 127) hHeld ?_
        refine zmW 7 (some 19) (bl_ 10 255) hHeld ?_
        refine zdC (i := 8) (N := some 20) (bl_ 10 511) rfl rfl (zeO HT_.out (by kernel_rfl)) (by decide) (fun K hK => ?_)
        refine zqW Tryd.func23 (by kernel_rfl) rfl #[.agg #[.int .i64 ((zmE l0 x4_1).f0.f0), .int .i64 ((zmE l0 x4_1).f0.f1), .int .i64 ((zmE l0 x4_1).f0.f2), .int .i64 ((zmE l0 x4_1).f1.f0), .int .i64 ((zmE l0 x4_1).f1.f1), .int .i64 ((zmE l0 x4_1).f1.f2)], .agg #[.int .i64 ((zmE l0 x3_1).f0.f0), .int .i64 ((zmE l0 x3_1).f0.f1), .int .i64 ((zmE l0 x3_1).f0.f2), .int .i64 ((zmE l0 x3_1).f1.f0), .int .i64 ((zmE l0 x3_1).f1.f1), .int .i64 ((zmE l0 x3_1).f1.f2)]] (by rfl) rfl rfl (by (try simp only [List.map_toArray, List.map_cons, List.map_nil]); first | done | rfl | (simp only [List.length_drop, List.length_take]; rfl)) ?_
        with_reducible refine (zwB.calls k1 ((zmE l0 x4_1).f0.f0) ((zmE l0 x4_1).f0.f1) ((zmE l0 x4_1).f0.f2) ((zmE l0 x4_1).f1.f0) ((zmE l0 x4_1).f1.f1) ((zmE l0 x4_1).f1.f2) ((zmE l0 x3_1).f0.f0) ((zmE l0 x3_1).f0.f1) ((zmE l0 x3_1).f0.f2) ((zmE l0 x3_1).f1.f0) ((zmE l0 x3_1).f1.f1) ((zmE l0 x3_1).f1.f2) t153 _ A6.out).mono ?_
        rintro e w11 ⟨rfl, hb⟩
        refine ⟨_, rfl, ?_⟩
        have n0_ := (ns_ hb)
        clear HB
        have HB := n0_
        clear n0_
        (try clear hb)
        (try clear hb2)
        (try clear hk)
        (try clear hi)
        refine hK.out _ _ ⟨(zeA HB.out hw151_0), (zeA HB.out hw151_1), (zeA HB.out hw151_2), (zeA HB.out hw151_3), (zeA HB.out hw151_4), (zeA HB.out hw151_5), (zeA HB.out hw152_0), (zeA HB.out hw152_1), (zeA HB.out hw152_2), (zeA HB.out hw152_3), (zeA HB.out hw152_4), (zeA HB.out hw152_5)⟩ (fun hHeld => ?_)
        clear hK K
        refine zaN (a' := ?_) ?_ ?_
        rotate_left
        ·show Act.put _ (some 20) _ = _
         simp only [Act.put, List.setIfInBounds_toArray, List.set_cons_zero, List.set_cons_succ, zcM, ziK]
         rfl
        refine pu_ 9 (some 21) (bl_ 10 1023) ?_
        refine znK (zzP HT_.out (by kernel_rfl)) ?_
        try go_wp2
        go_roundg k1
        case measure => have := HK1.out; omega
        case rel => exact ⟨(x3_1), (wrap64 (x4_1 + 1)), (by first | rfl | (simp; done) | (simp [*]; done)), (by first | rfl | (simp; done) | (simp [*]; done)), H', ⟨by have := HK1.out; omega⟩, ⟨bb_⟩⟩
      ·rw [if_neg c5] at H
       exact absurd H (by simp)
     ·rw [if_neg c4] at H
      exact absurd H (by simp)
    ·rw [if_neg c3] at H
     exact absurd H (by simp)
   ·rw [if_neg c2] at H
    have c2b0 : decide (x4_1 < (l0.length : Int)) = false := decide_eq_false c2
    clear c2
    obtain ⟨y154, hy154⟩ : ∃ y_ : List (S35), y_ = (([] : List (S35))) := ⟨_, rfl⟩
    replace H : (if 0 ≤ x3_1 then (if x3_1 ≤ (l0.length : Int) then ((some (l0.drop (x3_1 : Int).toNat : List (S35))).bind fun y157 => (if y154.length + y157.length < 2932031007402 then ((some (y154 ++ y157 : List (S35))).bind fun y161 => ((some (l0.take (x3_1 : Int).toNat : List (S35))).bind fun y164 => (if y161.length + y164.length < 2932031007402 then (some (y161 ++ y164)) else (none)))) else (none))) else (none)) else (none)) = some r := by first | (rw [hy154]; with_reducible exact H) | (have H2_ := (Option.bind_some _ _).symm.trans H; rw [hy154]; with_reducible exact H2_) | (have H2_ := (Option.bind_some _ _).symm.trans H; with_reducible exact H2_) | with_reducible exact H | (rw [hy154]; exact H) | exact H
    have Ny154 := zpS hy154
    clear hy154
    by_cases c12 : 0 ≤ x3_1
    ·rw [if_pos c12] at H
     have c12b0 := eq_true c12
     have c12b1 : decide (0 ≤ x3_1) = true := decide_eq_true c12
     clear c12
     by_cases c13 : x3_1 ≤ (l0.length : Int)
     ·rw [if_pos c13] at H
      have c13b0 := eq_true c13
      have c13b1 : decide (x3_1 ≤ (l0.length : Int)) = true := decide_eq_true c13
      clear c13
      obtain ⟨y157, hy157⟩ : ∃ y_ : List (S35), y_ = (l0.drop (x3_1 : Int).toNat) := ⟨_, rfl⟩
      replace H : (if y154.length + y157.length < 2932031007402 then ((some (y154 ++ y157 : List (S35))).bind fun y161 => ((some (l0.take (x3_1 : Int).toNat : List (S35))).bind fun y164 => (if y161.length + y164.length < 2932031007402 then (some (y161 ++ y164)) else (none)))) else (none)) = some r := by first | (rw [hy157]; with_reducible exact H) | (have H2_ := (Option.bind_some _ _).symm.trans H; rw [hy157]; with_reducible exact H2_) | (have H2_ := (Option.bind_some _ _).symm.trans H; with_reducible exact H2_) | with_reducible exact H | (rw [hy157]; exact H) | exact H
      have Ny157 := zpS hy157
      clear hy157
      by_cases c14 : y154.length + y157.length < 2932031007402
      ·rw [if_pos c14] at H
       have LMc14 := zpS c14
       clear c14
       obtain ⟨y161, hy161⟩ : ∃ y_ : List (S35), y_ = (y154 ++ y157) := ⟨_, rfl⟩
       replace H : ((some (l0.take (x3_1 : Int).toNat : List (S35))).bind fun y164 => (if y161.length + y164.length < 2932031007402 then (some (y161 ++ y164)) else (none))) = some r := by first | (rw [hy161]; with_reducible exact H) | (have H2_ := (Option.bind_some _ _).symm.trans H; rw [hy161]; with_reducible exact H2_) | (have H2_ := (Option.bind_some _ _).symm.trans H; with_reducible exact H2_) | with_reducible exact H | (rw [hy161]; exact H) | exact H
       have Ny161 := zpS hy161
       clear hy161
       have c15b0 := eq_true (dt_ : 0 ≤ x3_1)
       have c16b0 := eq_true (dt_ : x3_1 ≤ (l0.length : Int))
       obtain ⟨y164, hy164⟩ : ∃ y_ : List (S35), y_ = (l0.take (x3_1 : Int).toNat) := ⟨_, rfl⟩
       replace H : (if y161.length + y164.length < 2932031007402 then (some (y161 ++ y164)) else (none)) = some r := by first | (rw [hy164]; with_reducible exact H) | (have H2_ := (Option.bind_some _ _).symm.trans H; rw [hy164]; with_reducible exact H2_) | (have H2_ := (Option.bind_some _ _).symm.trans H; with_reducible exact H2_) | with_reducible exact H | (rw [hy164]; exact H) | exact H
       have Ny164 := zpS hy164
       clear hy164
       by_cases c17 : y161.length + y164.length < 2932031007402
       ·rw [if_pos c17] at H
        have LMc17 := zpS c17
        clear c17
        obtain ⟨y168, hy168⟩ : ∃ y_ : List (S35), y_ = (y161 ++ y164) := ⟨_, rfl⟩
        replace H : (some y168) = some r := by first | (rw [hy168]; with_reducible exact H) | (have H2_ := (Option.bind_some _ _).symm.trans H; rw [hy168]; with_reducible exact H2_) | (have H2_ := (Option.bind_some _ _).symm.trans H; with_reducible exact H2_) | with_reducible exact H | (rw [hy168]; exact H) | exact H
        have Ny168 := zpS hy168
        clear hy168
        obtain rfl := Option.some.inj H
        go_wp2_with (first | ((with_reducible refine zpZ (N := 23) rfl ?_); refine Kd.R_lit k35 _ 35 ?hg (N := 23) ?hd (xs := ([] : List (S35))) (inner := []) (ok := fun _ => True) (okp := fun _ => True) ?hr ?hp (fun _ hk => hk) trivial (Below.refl _ _) (Nat.le_refl _) (by simp) ?_; (case hd => rfl); (case hg => rfl); (case hr => first | (go_simp; done) | (go_simp; rfl)); (case hp => exact (zfH.none _ _)); intro v155 w18 ho19 hb hg_ hnew_; clear hg_ hnew_; (first | rw [← Ny154.out] at ho19 | (simp only [Int.reduceToNat] at ho19; rw [← Ny154.out] at ho19)); have n0_ := zpS (Kd.R_lower ho19 (zuA bb_)); have n1_ := (ns_ hb); clear HB; have HO156 := n0_; have HB := n1_; clear n0_ n1_; clear hb ho19; have q20 : (x3_1 : Int) ≤ ((l0.length : Int) : Int) := dt_; obtain ⟨i020, hi020, _, hsz20, _⟩ := info_parts info35; have hroom20 : l0.length ≤ c0 := HC0.out; have hC20 : Kd.C k35 _ A0 l0.length l0 := HR0.out; have q020 : (0 : Int) ≤ (x3_1 : Int) := dt_; have hcut20 := cut_from (P := Tryd.prog) 24 35 .i64 Tryd.underlying24 hi020 6 hsz20 A0 l0.length c0 x3_1 q020 q20; have hr20 := Kd.C_drop (m := (x3_1 : Int).toNat) (c := c0) hC20 (by omega) hroom20; obtain ⟨A20, hA20⟩ : ∃ A1, A1 = (if c0 = (x3_1 : Int).toNat then A0 else (A0 : Option Addr).map (·.add ((x3_1 : Int).toNat * 6))) := ⟨_, rfl⟩; obtain ⟨c20, hc20⟩ : ∃ c1, c1 = c0 - (x3_1 : Int).toNat := ⟨_, rfl⟩; have hy20 : y157.length = l0.length - (x3_1 : Int).toNat := (by rw [Ny157.out, List.length_drop] <;> omega); rw [show (l0).drop (x3_1 : Int).toNat = y157 from Ny157.out.symm] at hr20; replace hr20 : Kd.C k35 _ A20 y157.length y157 := (by rw [hA20]; exact hr20); rw [← hy20, ← hA20, ← hc20] at hcut20; have HR160 := zpS hr20; have HC160 := zpS (show y157.length ≤ c20 from by rw [hy20, hc20]; exact Nat.sub_le_sub_right hroom20 _); clear hr20 hC20 hroom20 hi020 hsz20 hc20; have KY20 := zpS hy20; have KA20 := zpS hA20; clear hy20 hA20; replace q20 := eq_true q20) | ((with_reducible refine zcL (b := .append) (xs := #[.tmp 23, .tmp 26]) rfl ?_); at_builtin; refine Kd.R_append_rows k35 (w0 := w) w.heap.size rfl (.tmp 23) (.tmp 26) 24 35 (.agg #[(.int .i64 0), (.int .i64 0), (.int .i64 0), (.int .i64 0), (.int .i64 0), (.int .i64 0)]) 48 rfl Tryd.underlying24 info35 rfl (by decide) (by omega) v155 y154 y157 _ _ _ (fun _ => True) (fun _ => False) rfl rfl ?aO ?aR (fun _ _ h => h) (fun _ h => h.elim) ?aF ?aB ?aS ?aL ?_; (case aR => repeat (first | exact (Kd.C_below HR160.out HB.out) | (with_reducible refine Kd.C_alloc ?_ _) | (with_reducible refine Kd.C_drewN ?_ _) | (with_reducible refine Kd.C_drew ?_))); (case aB => exact bb_); (case aF => exact (fun _ _ => trivial)); (case aO => exact (by (with_reducible repeat (first | apply Kd.R_alloc | apply Kd.R_drewN | apply Kd.R_drew)); exact HO156.out)); (case aS => exact (zuA bb_)); (case aL => have := LMc14.out; omega); intro v162 w21 ho hb hg hat; rw [← Ny161.out] at ho; have n0_ := zpS (hb); have n1_ := zpS (ho); clear HB; clear HO156; have HB := n0_; have HO163 := n1_; clear n0_ n1_; clear ho hb hg hat; have q22 : (x3_1 : Int) ≤ ((l0.length : Int) : Int) := dt_; obtain ⟨i022, hi022, _, hsz22, _⟩ := info_parts info35; have hroom22 : l0.length ≤ c0 := HC0.out; have hC22 : Kd.C k35 _ A0 l0.length l0 := HR0.out; have hcut22 := cut_to (P := Tryd.prog) 24 35 .i64 Tryd.underlying24 hi022 A0 l0.length c0 x3_1 dt_ q22 hroom22; have hr22 := Kd.C_take (m := (x3_1 : Int).toNat) hC22 (by omega); have hy22 : y164.length = (x3_1 : Int).toNat := (by rw [Ny164.out, List.length_take]; omega); rw [← Ny164.out] at hr22; rw [← hy22] at hcut22; have HR167 := zpS hr22; have HC167 := zpS (show y164.length ≤ c0 from by omega); clear hr22 hC22 hroom22 hi022 hsz22; have KY22 := zpS hy22; clear hy22; replace q22 := eq_true q22) | ((with_reducible refine zcL (b := .append) (xs := #[.tmp 28, .tmp 31]) rfl ?_); at_builtin; refine Kd.R_append_rows k35 (w0 := w) w.heap.size rfl (.tmp 28) (.tmp 31) 24 35 (.agg #[(.int .i64 0), (.int .i64 0), (.int .i64 0), (.int .i64 0), (.int .i64 0), (.int .i64 0)]) 48 rfl Tryd.underlying24 info35 rfl (by decide) (by omega) v162 y161 y164 _ _ _ (fun _ => True) (fun _ => False) rfl rfl ?aO ?aR (fun _ _ h => h) (fun _ h => h.elim) ?aF ?aB ?aS ?aL ?_; (case aR => repeat (first | exact (Kd.C_below HR167.out HB.out) | (with_reducible refine Kd.C_alloc ?_ _) | (with_reducible refine Kd.C_drewN ?_ _) | (with_reducible refine Kd.C_drew ?_))); (case aB => exact bb_); (case aF => exact (fun _ _ => trivial)); (case aO => exact (by (with_reducible repeat (first | apply Kd.R_alloc | apply Kd.R_drewN | apply Kd.R_drew)); exact HO163.out)); (case aS => exact (zuA bb_)); (case aL => have := LMc17.out; omega); intro v169 w23 ho hb hg hat; rw [← Ny168.out] at ho; have n0_ := zpS (hb); have n1_ := zpS (ho); clear HB; clear HO163; have HB := n0_; have HO170 := n1_; clear n0_ n1_; clear ho hb hg hat))
        go_ret
        exact ⟨_, by first | rfl | (simp [ziS, znJ] <;> rfl) | (simp [*, ziS, znJ] <;> rfl), by (with_reducible repeat (first | apply Kd.R_alloc | apply Kd.R_drewN | apply Kd.R_drew)); exact HO170.out, bb_⟩
       ·rw [if_neg c17] at H
        exact absurd H (by simp)
      ·rw [if_neg c14] at H
       exact absurd H (by simp)
     ·rw [if_neg c13] at H
      exact absurd H (by simp)
    ·rw [if_neg c12] at H
     exact absurd H (by simp)

def zbR.f (a0_0 : Int) (a0_1 : Int) (a0_2 : Int) : Option (Bool) := if a0_0 = 0 then (some (a0_1 == 0)) else (some false)
theorem zbR.calls (a0_0 : Int) (a0_1 : Int) (a0_2 : Int) (r : Bool) (w : World) (h : zbR.f a0_0 a0_1 a0_2 = some r) :
  Calls Tryd.prog 51 #[.agg #[.int .i64 a0_0, .int .i64 a0_1, .int .i64 a0_2]] w fun e w' => e = .returned (.bool r) ∧ Below w.heap.size w w' := by
 have hu63 := Tryd.underlying63
 have HB := zpS (Below.refl w.heap.size w)
 have H : (if a0_0 = 0 then (some (a0_1 == 0)) else (some false)) = some r := h
 clear h
 by_cases c2 : a0_0 = 0
 ·rw [if_pos c2] at H
  have c2b0 : (a0_0 == 0) = true := beq_iff_eq.mpr c2
  have c2b1 : (a0_0 != 0) = false := bne_eq_false_iff_eq.mpr c2
  clear c2
  obtain rfl := Option.some.inj H
  go_enter Tryd.func51, Tryd.ntmps51
  go_wp2_with (first | ((with_reducible refine zpZ (N := 1) rfl ?_); refine bx_ 1 #[.int .i64 a0_0, .int .i64 a0_1, .int .i64 a0_2] 63 ?_; intro gb171 hg w3 hbox hb; have n0_ := (ns_ hb); have n1_ := zpS (hbox); have n2_ := (ng_ hg); have n3_ := n2_; clear HB; have HB := n0_; have BK171 := n1_; have GW171 := n2_; have GE171 := n3_; clear n0_ n1_ n2_ n3_; clear hb hbox hg; obtain ⟨hcz4_0, hcz4_1, hcz4_2⟩ := zdT BK171.out; obtain ⟨hfz4_0, hfz4_1, hfz4_2⟩ := zqD BK171.out))
  go_ret
  exact ⟨by first | rfl | (simp [ziS, znJ] <;> rfl) | (simp [*, ziS, znJ] <;> rfl), bb_⟩
 ·rw [if_neg c2] at H
  have c2b0 : (a0_0 == 0) = false := beq_eq_false_iff_ne.mpr c2
  have c2b1 : (a0_0 != 0) = true := bne_iff_ne.mpr c2
  obtain rfl := Option.some.inj H
  go_enter Tryd.func51, Tryd.ntmps51
  go_wp2_with (first | ((with_reducible refine zpZ (N := 1) rfl ?_); refine bx_ 1 #[.int .i64 a0_0, .int .i64 a0_1, .int .i64 a0_2] 63 ?_; intro gb171 hg w5 hbox hb; have n0_ := (ns_ hb); have n1_ := zpS (hbox); have n2_ := (ng_ hg); have n3_ := n2_; clear HB; have HB := n0_; have BK171 := n1_; have GW171 := n2_; have GE171 := n3_; clear n0_ n1_ n2_ n3_; clear hb hbox hg; obtain ⟨hcz6_0, hcz6_1, hcz6_2⟩ := zdT BK171.out; obtain ⟨hfz6_0, hfz6_1, hfz6_2⟩ := zqD BK171.out))
  go_ret
  exact ⟨by first | rfl | (simp [ziS, znJ] <;> rfl) | (simp [*, ziS, znJ] <;> rfl), bb_⟩

def ziY.f (a0_0 : Int) (a0_1 : Int) (a0_2 : Int) (a0_3 : Int) (a0_4 : Int) (a0_5 : Int) : Option (Int × Int × Int × Int × Int × Int) := (zqO.f a0_0 a0_1 a0_2).bind fun bt174 => ((zqO.f a0_3 a0_4 a0_5).bind fun bt177 => (some (bt174.1, bt174.2.1, bt174.2.2, bt177.1, bt177.2.1, bt177.2.2)))
def ziY.T1 : Bool × List (List Nat × List Nat) := (true, [([], []), ([0], [0]), ([1], [1]), ([], []), ([3], [3]), ([4, 2], [4]), ([2, 5], [2, 5]), ([6, 5, 0, 1, 2, 3, 4, 5, 6], [6])])
def ziY.B1 : List Nat := [0, 1, 3, 0, 8, 31, 63, 127]
theorem ziY.tab1 : rtab .any (opsOf Tryd.f41 1) = ziY.T1 := by kernel_rfl
theorem ziY.bits1 : ztG ziY.T1.2 ziY.B1 = true := by kernel_rfl
theorem ziY.calls (a0_0 : Int) (a0_1 : Int) (a0_2 : Int) (a0_3 : Int) (a0_4 : Int) (a0_5 : Int) (r1 : Int) (r2 : Int) (r3 : Int) (r4 : Int) (r5 : Int) (r6 : Int) (w : World) (h : ziY.f a0_0 a0_1 a0_2 a0_3 a0_4 a0_5 = some (r1, r2, r3, r4, r5, r6)) :
  Calls Tryd.prog 41 #[.agg #[.int .i64 a0_0, .int .i64 a0_1, .int .i64 a0_2, .int .i64 a0_3, .int .i64 a0_4, .int .i64 a0_5]] w fun e w' => e = .returned (.agg #[.int .i64 r1, .int .i64 r2, .int .i64 r3, .int .i64 r4, .int .i64 r5, .int .i64 r6]) ∧ Below w.heap.size w w' := by
 have hu35 := Tryd.underlying35
 have hu65 := Tryd.underlying65
 have hu33 := Tryd.underlying33
 have HB := zpS (Below.refl w.heap.size w)
 have H : ((zqO.f a0_0 a0_1 a0_2).bind fun bt174 => ((zqO.f a0_3 a0_4 a0_5).bind fun bt177 => (some (bt174.1, bt174.2.1, bt174.2.2, bt177.1, bt177.2.1, bt177.2.2)))) = some (r1, r2, r3, r4, r5, r6) := h
 clear h
 replace H := Option.bind_eq_some_iff.mp H
 obtain ⟨⟨t174, t175, t176⟩, A20, H⟩ := H
 replace H : ((zqO.f a0_3 a0_4 a0_5).bind fun bt177 => (some (t174, t175, t176, bt177.1, bt177.2.1, bt177.2.2))) = some (r1, r2, r3, r4, r5, r6) := H
 have A2 := zpS A20
 clear A20
 replace H := Option.bind_eq_some_iff.mp H
 obtain ⟨⟨t177, t178, t179⟩, A30, H⟩ := H
 replace H : (some (t174, t175, t176, t177, t178, t179)) = some (r1, r2, r3, r4, r5, r6) := H
 have A3 := zpS A30
 clear A30
 simp only [Option.some.injEq, Prod.mk.injEq] at H
 obtain ⟨rfl, rfl, rfl, rfl, rfl, rfl⟩ := H
 go_enter Tryd.func41, Tryd.ntmps41
 try go_wp2_with (first | ((with_reducible refine zpZ (N := 1) rfl ?_); refine bx_ 1 #[.int .i64 a0_0, .int .i64 a0_1, .int .i64 a0_2, .int .i64 a0_3, .int .i64 a0_4, .int .i64 a0_5] 35 ?_; intro gb172 hg w4 hbox hb; have n0_ := (ns_ hb); have n1_ := zpS (hbox); have n2_ := (ng_ hg); have n3_ := n2_; clear HB; have HB := n0_; have BK172 := n1_; have GW172 := n2_; have GE172 := n3_; clear n0_ n1_ n2_ n3_; clear hb hbox hg) | ((with_reducible refine zpZ (N := 2) rfl ?_); refine bx_ 2 #[.int .i64 0, .int .i64 0, .int .i64 0, .int .i64 0, .int .i64 0, .int .i64 0] 65 ?_; intro gb173 hg w5 hbox hb; have n0_ := zpS (zgM (g := gb172) (o := .cells #[.int .i64 a0_0, .int .i64 a0_1, .int .i64 a0_2, .int .i64 a0_3, .int .i64 a0_4, .int .i64 a0_5] 35 (0, 0)) bk_ hb); have n1_ := (ns_ hb); have n2_ := zpS (hbox); have n3_ := (ng_ hg); have n4_ := n3_; have n5_ := zpS ((by rw [hg]; exact Nat.ne_of_lt (zmN (g := gb172) (o := .cells #[.int .i64 a0_0, .int .i64 a0_1, .int .i64 a0_2, .int .i64 a0_3, .int .i64 a0_4, .int .i64 a0_5] 35 (0, 0)) bk_) : gb172 ≠ gb173)); have n6_ := zpS ((by rw [hg]; exact Nat.ne_of_gt (zmN (g := gb172) (o := .cells #[.int .i64 a0_0, .int .i64 a0_1, .int .i64 a0_2, .int .i64 a0_3, .int .i64 a0_4, .int .i64 a0_5] 35 (0, 0)) bk_) : gb173 ≠ gb172)); clear BK172; clear HB; have BK172 := n0_; have HB := n1_; have BK173 := n2_; have GW173 := n3_; have GE173 := n4_; have NB172_173 := n5_; have NB173_172 := n6_; clear n0_ n1_ n2_ n3_ n4_ n5_ n6_; clear hb hbox hg))
 have n0_ := zpS (ztN BK172.out)
 have n1_ := zpS (ztN BK173.out)
 have n2_ := zpS (zvF HB.out)
 clear BK172
 clear BK173
 clear HB
 have BK172 := n0_
 have BK173 := n1_
 have HB := n2_
 clear n0_ n1_ n2_
 refine zpB (n := 8) (S := fun w' => w'.cell? ⟨gb172, 0, none⟩ = some (.int .i64 a0_0) ∧ w'.cell? ⟨gb172, 1, none⟩ = some (.int .i64 a0_1) ∧ w'.cell? ⟨gb172, 2, none⟩ = some (.int .i64 a0_2) ∧ w'.cell? ⟨gb172, 3, none⟩ = some (.int .i64 a0_3) ∧ w'.cell? ⟨gb172, 4, none⟩ = some (.int .i64 a0_4) ∧ w'.cell? ⟨gb172, 5, none⟩ = some (.int .i64 a0_5)) (ds := []) #[false, false, false, false, false, false, false, false] (by kernel_rfl) rfl rfl ⟨(zzS BK172.out 0).trans rfl, (zzS BK172.out 1).trans rfl, (zzS BK172.out 2).trans rfl, (zzS BK172.out 3).trans rfl, (zzS BK172.out 4).trans rfl, (zzS BK172.out 5).trans rfl⟩ (fun hHeld => ?_); refine zwI ziY.tab1 ziY.bits1 (fun HT_ HW_ => ?_)
 generalize w5.drew = w6 at BK172 BK173 HB hHeld ⊢
 refine pu_ 0 (some 3) (bl_ 8 1) ?_
 refine pu_ 3 (some 6) (bl_ 8 9) ?_
 refine tk6_ 1 (some 4) (bl_ 8 11) hHeld ?_
 refine tk6_ 4 (some 7) (bl_ 8 27) hHeld ?_
 refine zdC (i := 2) (N := some 5) (bl_ 8 31) rfl rfl (zeO HT_.out (by kernel_rfl)) (by decide) (fun K hK => ?_)
 refine zqW Tryd.func50 (by kernel_rfl) rfl #[.agg #[.int .i64 a0_0, .int .i64 a0_1, .int .i64 a0_2]] (by rfl) rfl rfl (by (try simp only [List.map_toArray, List.map_cons, List.map_nil]); first | done | rfl | (simp only [List.length_drop, List.length_take]; rfl)) ?_
 with_reducible refine (zqO.calls a0_0 a0_1 a0_2 t174 t175 t176 _ A2.out).mono ?_
 rintro e w7 ⟨rfl, hb⟩
 refine ⟨_, rfl, ?_⟩
 have n0_ := zpS (zgM (g := gb172) (o := .cells #[.int .i64 a0_0, .int .i64 a0_1, .int .i64 a0_2, .int .i64 a0_3, .int .i64 a0_4, .int .i64 a0_5] 35 (0, 0)) bk_ hb)
 have n1_ := zpS (zgM (g := gb173) (o := .cells #[.int .i64 0, .int .i64 0, .int .i64 0, .int .i64 0, .int .i64 0, .int .i64 0] 65 (0, 0)) bk_ hb)
 have n2_ := (ns_ hb)
 clear BK172
 clear BK173
 clear HB
 have BK172 := n0_
 have BK173 := n1_
 have HB := n2_
 clear n0_ n1_ n2_
 (try clear hb)
 (try clear hb2)
 (try clear hk)
 (try clear hi)
 refine hK.out _ _ ⟨(zzS BK172.out 0).trans rfl, (zzS BK172.out 1).trans rfl, (zzS BK172.out 2).trans rfl, (zzS BK172.out 3).trans rfl, (zzS BK172.out 4).trans rfl, (zzS BK172.out 5).trans rfl⟩ (fun hHeld => ?_)
 clear hK K
 refine zaN (a' := ?_) ?_ ?_
 rotate_left
 ·show Act.put _ (some 5) _ = _
  simp only [Act.put, List.setIfInBounds_toArray, List.set_cons_zero, List.set_cons_succ, zcM, ziK]
  rfl
 refine zdC (i := 5) (N := some 8) (bl_ 8 63) rfl rfl (zeO HT_.out (by kernel_rfl)) (by decide) (fun K hK => ?_)
 refine zqW Tryd.func50 (by kernel_rfl) rfl #[.agg #[.int .i64 a0_3, .int .i64 a0_4, .int .i64 a0_5]] (by rfl) rfl rfl (by (try simp only [List.map_toArray, List.map_cons, List.map_nil]); first | done | rfl | (simp only [List.length_drop, List.length_take]; rfl)) ?_
 with_reducible refine (zqO.calls a0_3 a0_4 a0_5 t177 t178 t179 _ A3.out).mono ?_
 rintro e w8 ⟨rfl, hb⟩
 refine ⟨_, rfl, ?_⟩
 have n0_ := zpS (zgM (g := gb172) (o := .cells #[.int .i64 a0_0, .int .i64 a0_1, .int .i64 a0_2, .int .i64 a0_3, .int .i64 a0_4, .int .i64 a0_5] 35 (0, 0)) bk_ hb)
 have n1_ := zpS (zgM (g := gb173) (o := .cells #[.int .i64 0, .int .i64 0, .int .i64 0, .int .i64 0, .int .i64 0, .int .i64 0] 65 (0, 0)) bk_ hb)
 have n2_ := (ns_ hb)
 clear BK172
 clear BK173
 clear HB
 have BK172 := n0_
 have BK173 := n1_
 have HB := n2_
 clear n0_ n1_ n2_
 (try clear hb)
 (try clear hb2)
 (try clear hk)
 (try clear hi)
 refine hK.out _ _ ⟨(zzS BK172.out 0).trans rfl, (zzS BK172.out 1).trans rfl, (zzS BK172.out 2).trans rfl, (zzS BK172.out 3).trans rfl, (zzS BK172.out 4).trans rfl, (zzS BK172.out 5).trans rfl⟩ (fun hHeld => ?_)
 clear hK K
 refine zaN (a' := ?_) ?_ ?_
 rotate_left
 ·show Act.put _ (some 8) _ = _
  simp only [Act.put, List.setIfInBounds_toArray, List.set_cons_zero, List.set_cons_succ, zcM, ziK]
  rfl
 refine pu_ 6 (some 9) (bl_ 8 127) ?_
 refine zdC (i := 7) (N := none) (bl_ 8 255) rfl rfl (zeO HT_.out (by kernel_rfl)) (by decide) (fun K hK => ?_)
 have hs9 : w8.cell? ⟨gb173, 0, none⟩ = some (.int .i64 0) := (zzS BK173.out 0).trans rfl
 have hfs9 := zjF BK173.out 0
 have hns9_0 := NB172_173.out
 have hms9_0 := NB173_172.out
 have hs10 : w8.cell? ⟨gb173, 1, none⟩ = some (.int .i64 0) := (zzS BK173.out 1).trans rfl
 have hfs10 := zjF BK173.out 1
 have hns10_0 := NB172_173.out
 have hms10_0 := NB173_172.out
 have hs11 : w8.cell? ⟨gb173, 2, none⟩ = some (.int .i64 0) := (zzS BK173.out 2).trans rfl
 have hfs11 := zjF BK173.out 2
 have hns11_0 := NB172_173.out
 have hms11_0 := NB173_172.out
 have hs12 : w8.cell? ⟨gb173, 3, none⟩ = some (.int .i64 0) := (zzS BK173.out 3).trans rfl
 have hfs12 := zjF BK173.out 3
 have hns12_0 := NB172_173.out
 have hms12_0 := NB173_172.out
 have hs13 : w8.cell? ⟨gb173, 4, none⟩ = some (.int .i64 0) := (zzS BK173.out 4).trans rfl
 have hfs13 := zjF BK173.out 4
 have hns13_0 := NB172_173.out
 have hms13_0 := NB173_172.out
 have hs14 : w8.cell? ⟨gb173, 5, none⟩ = some (.int .i64 0) := (zzS BK173.out 5).trans rfl
 have hfs14 := zjF BK173.out 5
 have hns14_0 := NB172_173.out
 have hms14_0 := NB173_172.out
 refine skip_ (w1 := ?_) (by rfl) rfl ?_ ?_
 rotate_left
 ·go_simp
  rfl
 refine hK.out _ _ ⟨((zgQ (p := ⟨gb173, _, none⟩) NB172_173.out _).trans (((zgQ (p := ⟨gb173, _, none⟩) NB172_173.out _).trans (((zgQ (p := ⟨gb173, _, none⟩) NB172_173.out _).trans (((zgQ (p := ⟨gb173, _, none⟩) NB172_173.out _).trans (((zgQ (p := ⟨gb173, _, none⟩) NB172_173.out _).trans (((zgQ (p := ⟨gb173, _, none⟩) NB172_173.out _).trans (hHeld.1)))))))))))), ((zgQ (p := ⟨gb173, _, none⟩) NB172_173.out _).trans (((zgQ (p := ⟨gb173, _, none⟩) NB172_173.out _).trans (((zgQ (p := ⟨gb173, _, none⟩) NB172_173.out _).trans (((zgQ (p := ⟨gb173, _, none⟩) NB172_173.out _).trans (((zgQ (p := ⟨gb173, _, none⟩) NB172_173.out _).trans (((zgQ (p := ⟨gb173, _, none⟩) NB172_173.out _).trans (hHeld.2.1)))))))))))), ((zgQ (p := ⟨gb173, _, none⟩) NB172_173.out _).trans (((zgQ (p := ⟨gb173, _, none⟩) NB172_173.out _).trans (((zgQ (p := ⟨gb173, _, none⟩) NB172_173.out _).trans (((zgQ (p := ⟨gb173, _, none⟩) NB172_173.out _).trans (((zgQ (p := ⟨gb173, _, none⟩) NB172_173.out _).trans (((zgQ (p := ⟨gb173, _, none⟩) NB172_173.out _).trans (hHeld.2.2.1)))))))))))), ((zgQ (p := ⟨gb173, _, none⟩) NB172_173.out _).trans (((zgQ (p := ⟨gb173, _, none⟩) NB172_173.out _).trans (((zgQ (p := ⟨gb173, _, none⟩) NB172_173.out _).trans (((zgQ (p := ⟨gb173, _, none⟩) NB172_173.out _).trans (((zgQ (p := ⟨gb173, _, none⟩) NB172_173.out _).trans (((zgQ (p := ⟨gb173, _, none⟩) NB172_173.out _).trans (hHeld.2.2.2.1)))))))))))), ((zgQ (p := ⟨gb173, _, none⟩) NB172_173.out _).trans (((zgQ (p := ⟨gb173, _, none⟩) NB172_173.out _).trans (((zgQ (p := ⟨gb173, _, none⟩) NB172_173.out _).trans (((zgQ (p := ⟨gb173, _, none⟩) NB172_173.out _).trans (((zgQ (p := ⟨gb173, _, none⟩) NB172_173.out _).trans (((zgQ (p := ⟨gb173, _, none⟩) NB172_173.out _).trans (hHeld.2.2.2.2.1)))))))))))), ((zgQ (p := ⟨gb173, _, none⟩) NB172_173.out _).trans (((zgQ (p := ⟨gb173, _, none⟩) NB172_173.out _).trans (((zgQ (p := ⟨gb173, _, none⟩) NB172_173.out _).trans (((zgQ (p := ⟨gb173, _, none⟩) NB172_173.out _).trans (((zgQ (p := ⟨gb173, _, none⟩) NB172_173.out _).trans (((zgQ (p := ⟨gb173, _, none⟩) NB172_173.out _).trans (hHeld.2.2.2.2.2))))))))))))⟩ (fun hHeld => ?_)
 clear hK K
 refine znK (zzP HT_.out (by kernel_rfl)) ?_
 try go_wp2
 refine bodyPost_ret (results_cell_row rfl _ _ gb173 65 #[.int .i64 t174, .int .i64 t175, .int .i64 t176, .int .i64 t177, .int .i64 t178, .int .i64 t179] (0, 0) _ rfl (by (with_reducible repeat (first | apply zuW | apply ztN | apply zqY)); refine zlL (cs := #[.int .i64 t174, .int .i64 t175, .int .i64 t176, .int .i64 t177, .int .i64 t178, .int .i64 0]) ?_ 5 _ rfl; (with_reducible repeat (first | apply zuW | apply ztN | apply zqY)); refine zlL (cs := #[.int .i64 t174, .int .i64 t175, .int .i64 t176, .int .i64 t177, .int .i64 0, .int .i64 0]) ?_ 4 _ rfl; (with_reducible repeat (first | apply zuW | apply ztN | apply zqY)); refine zlL (cs := #[.int .i64 t174, .int .i64 t175, .int .i64 t176, .int .i64 0, .int .i64 0, .int .i64 0]) ?_ 3 _ rfl; (with_reducible repeat (first | apply zuW | apply ztN | apply zqY)); refine zlL (cs := #[.int .i64 t174, .int .i64 t175, .int .i64 0, .int .i64 0, .int .i64 0, .int .i64 0]) ?_ 2 _ rfl; (with_reducible repeat (first | apply zuW | apply ztN | apply zqY)); refine zlL (cs := #[.int .i64 t174, .int .i64 0, .int .i64 0, .int .i64 0, .int .i64 0, .int .i64 0]) ?_ 1 _ rfl; (with_reducible repeat (first | apply zuW | apply ztN | apply zqY)); refine zlL (cs := #[.int .i64 0, .int .i64 0, .int .i64 0, .int .i64 0, .int .i64 0, .int .i64 0]) ?_ 0 _ rfl; (with_reducible repeat (first | apply zuW | apply ztN | apply zqY)); exact BK173.out) Tryd.underlying65 rfl (by kernel_rfl)) rfl ?_
 exact ⟨by first | rfl | (simp [ziS, znJ] <;> rfl) | (simp [*, ziS, znJ] <;> rfl), bb_⟩

def ziB.f (a0 : Int) : Option (Int) := some (Int.tmod (wrap64 ((Int.tmod a0 16) + 16)) 16)
theorem ziB.calls (a0 : Int) (r : Int) (w : World) (h : ziB.f a0 = some r) :
  Calls Tryd.prog 26 #[.int .i64 a0] w fun e w' => e = .returned (.int .i64 r) ∧ Drawn0 w w' := by
 have H : (some (Int.tmod (wrap64 ((Int.tmod a0 16) + 16)) 16)) = some r := h
 clear h
 obtain rfl := Option.some.inj H
 go_enter Tryd.func26, Tryd.ntmps26
 go_wp2
 go_ret
 exact ⟨by first | rfl | (simp; done) | (simp [*]; done), by repeat (first | exact Drawn0.refl _ | apply Drawn0.step)⟩

end Go.Proofs.YtbnfbflfhpniaaaDoor.PFnExactNormalPolygon
