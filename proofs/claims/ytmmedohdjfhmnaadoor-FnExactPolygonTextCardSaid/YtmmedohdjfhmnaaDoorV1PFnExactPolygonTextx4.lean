-- Printed for this claim by this session's program pp.py, which drives the kit's print with additions. Not trusted: Lean checks it.
import Derived.Test.YtmmedohdjfhmnaaDoorV1PFnExactPolygonTextx0
import Derived.Test.YtmmedohdjfhmnaaDoorV1PFnExactPolygonTextx2
import Derived.Test.YtmmedohdjfhmnaaDoorV1PFnExactPolygonTextx3
namespace Go.Proofs.YtmmedohdjfhmnaaDoor.PFnExactPolygonText
open Go.RowKit Go.Proofs.YtmmedohdjfhmnaaDoorW.PrintWords Go.Proofs.YtmmedohdjfhmnaaDoorW.PrintLast Go.Proofs.YtmmedohdjfhmnaaDoorW.PrintMore
attribute [local go_sem] zbB ziC zrC zhD znE zuB znH zkT   -- for this text's walks alone
set_option linter.unusedVariables false
set_option linter.unusedSimpArgs false

def ztF.f (k : Nat) (a0_0 : Int) (a0_1 : Int) (a0_2 : Int) (a1_0 : Int) (a1_1 : Int) (a1_2 : Int) : Option (Int) := (zqO.f a0_0 a0_1 a0_2).bind fun bt137 => ((zqO.f a1_0 a1_1 a1_2).bind fun bt140 => ((zyB.f k bt137.1 bt137.2.1 bt137.2.2 bt140.1 bt140.2.1 bt140.2.2).bind fun bt143 => ((zxR.f k bt143.1 bt143.2.1 bt143.2.2).bind fun t146 => (some t146))))
theorem ztF.mono : ∀ a0 a1 a2 a3 a4 a5 k, LeO (ztF.f k a0 a1 a2 a3 a4 a5) (ztF.f (k + 1) a0 a1 a2 a3 a4 a5) := by
 intro a0 a1 a2 a3 a4 a5 k
 unfold ztF.f
 repeat' first
   | (with_reducible exact zxR.mono _ _ _ _)
   | (with_reducible exact zyB.mono _ _ _ _ _ _ _)
   | (with_reducible exact LeO.refl _)
   | (with_reducible exact LeO.none _)
   | (with_reducible refine LeO.ite ?_ ?_)
   | (with_reducible refine LeO.bind ?_ (fun _ => ?_))
   | exact zxR.mono _ _ _ _
   | exact zyB.mono _ _ _ _ _ _ _
   | exact LeO.none _
   | refine LeO.ite ?_ ?_
   | refine LeO.bind ?_ (fun _ => ?_)
set_option maxHeartbeats 8000000 in
set_option maxRecDepth 100000 in
theorem ztF.calls (k : Nat) (a0_0 : Int) (a0_1 : Int) (a0_2 : Int) (a1_0 : Int) (a1_1 : Int) (a1_2 : Int) (r : Int) (w : World) (h : ztF.f k a0_0 a0_1 a0_2 a1_0 a1_1 a1_2 = some r) :
  Calls Tryd.prog 32 #[.agg #[.int .i64 a0_0, .int .i64 a0_1, .int .i64 a0_2], .agg #[.int .i64 a1_0, .int .i64 a1_1, .int .i64 a1_2]] w fun e w' => e = .returned (.int .i64 r) ∧ Below w.heap.size w w' := by
 have hu31 := Tryd.underlying31
 have HB := zpS (Below.refl w.heap.size w)
 have H : ((zqO.f a0_0 a0_1 a0_2).bind fun bt137 => ((zqO.f a1_0 a1_1 a1_2).bind fun bt140 => ((zyB.f k bt137.1 bt137.2.1 bt137.2.2 bt140.1 bt140.2.1 bt140.2.2).bind fun bt143 => ((zxR.f k bt143.1 bt143.2.1 bt143.2.2).bind fun t146 => (some t146))))) = some r := h
 clear h
 replace H := Option.bind_eq_some_iff.mp H
 obtain ⟨⟨t137, t138, t139⟩, A30, H⟩ := H
 replace H : ((zqO.f a1_0 a1_1 a1_2).bind fun bt140 => ((zyB.f k t137 t138 t139 bt140.1 bt140.2.1 bt140.2.2).bind fun bt143 => ((zxR.f k bt143.1 bt143.2.1 bt143.2.2).bind fun t146 => (some t146)))) = some r := H
 have A3 := zpS A30
 clear A30
 replace H := Option.bind_eq_some_iff.mp H
 obtain ⟨⟨t140, t141, t142⟩, A40, H⟩ := H
 replace H : ((zyB.f k t137 t138 t139 t140 t141 t142).bind fun bt143 => ((zxR.f k bt143.1 bt143.2.1 bt143.2.2).bind fun t146 => (some t146))) = some r := H
 have A4 := zpS A40
 clear A40
 replace H := Option.bind_eq_some_iff.mp H
 obtain ⟨⟨t143, t144, t145⟩, A50, H⟩ := H
 replace H : ((zxR.f k t143 t144 t145).bind fun t146 => (some t146)) = some r := H
 have A5 := zpS A50
 clear A50
 replace H := Option.bind_eq_some_iff.mp H
 obtain ⟨t146, A60, H⟩ := H
 replace H : (some t146) = some r := H
 have A6 := zpS A60
 clear A60
 obtain rfl := Option.some.inj H
 go_enter Tryd.func32, Tryd.ntmps32
 try go_wp2_with (first | ((with_reducible refine zpZ (N := 2) rfl ?_); refine bx_ 2 #[.int .i64 a0_0, .int .i64 a0_1, .int .i64 a0_2] 31 ?_; intro gb135 hg w7 hbox hb; have n0_ := (ns_ hb); have n1_ := zpS (hbox); have n2_ := (ng_ hg); have n3_ := n2_; clear HB; have HB := n0_; have BK135 := n1_; have GW135 := n2_; have GE135 := n3_; clear n0_ n1_ n2_ n3_; clear hb hbox hg) | ((with_reducible refine zpZ (N := 3) rfl ?_); refine bx_ 3 #[.int .i64 a1_0, .int .i64 a1_1, .int .i64 a1_2] 31 ?_; intro gb136 hg w8 hbox hb; have n0_ := zpS (zgM (g := gb135) (o := .cells #[.int .i64 a0_0, .int .i64 a0_1, .int .i64 a0_2] 31 (0, 0)) bk_ hb); have n1_ := (ns_ hb); have n2_ := zpS (hbox); have n3_ := (ng_ hg); have n4_ := n3_; have n5_ := zpS ((by rw [hg]; exact Nat.ne_of_lt (zmN (g := gb135) (o := .cells #[.int .i64 a0_0, .int .i64 a0_1, .int .i64 a0_2] 31 (0, 0)) bk_) : gb135 ≠ gb136)); have n6_ := zpS ((by rw [hg]; exact Nat.ne_of_gt (zmN (g := gb135) (o := .cells #[.int .i64 a0_0, .int .i64 a0_1, .int .i64 a0_2] 31 (0, 0)) bk_) : gb136 ≠ gb135)); clear BK135; clear HB; have BK135 := n0_; have HB := n1_; have BK136 := n2_; have GW136 := n3_; have GE136 := n4_; have NB135_136 := n5_; have NB136_135 := n6_; clear n0_ n1_ n2_ n3_ n4_ n5_ n6_; clear hb hbox hg))
 have n0_ := zpS (ztN BK135.out)
 have n1_ := zpS (ztN BK136.out)
 have n2_ := zpS (zvF HB.out)
 clear BK135
 clear BK136
 clear HB
 have BK135 := n0_
 have BK136 := n1_
 have HB := n2_
 clear n0_ n1_ n2_
 refine zpB (n := 7) (S := fun w' => w'.cell? ⟨gb135, 0, none⟩ = some (.int .i64 a0_0) ∧ w'.cell? ⟨gb135, 1, none⟩ = some (.int .i64 a0_1) ∧ w'.cell? ⟨gb135, 2, none⟩ = some (.int .i64 a0_2) ∧ w'.cell? ⟨gb136, 0, none⟩ = some (.int .i64 a1_0) ∧ w'.cell? ⟨gb136, 1, none⟩ = some (.int .i64 a1_1) ∧ w'.cell? ⟨gb136, 2, none⟩ = some (.int .i64 a1_2)) (ds := []) #[false, false, false, false, false, false, false] (by kernel_rfl) rfl rfl ⟨(zzS BK135.out 0).trans rfl, (zzS BK135.out 1).trans rfl, (zzS BK135.out 2).trans rfl, (zzS BK136.out 0).trans rfl, (zzS BK136.out 1).trans rfl, (zzS BK136.out 2).trans rfl⟩ (fun hHeld => ?_)
 generalize w8.drew = w9 at BK135 BK136 HB hHeld ⊢
 refine take_ (i := 0) (N := some 5) (v := ?_) (a' := ?_) (bl_ 7 1) rfl rfl (by kernel_rfl) (fun _ _ _ h => h) (Or.inl ⟨by rfl, ?_⟩) hHeld ?_ ?_
 rotate_left
 ·rintro w' ⟨s0, s1, s2, s3, s4, s5⟩
  go_simp
  with_reducible rfl
 rotate_left
 ·simp only [Act.put, List.setIfInBounds_toArray, List.set_cons_zero, List.set_cons_succ, zcM, ziJ]
  rfl
 refine take_ (i := 2) (N := some 7) (v := ?_) (a' := ?_) (bl_ 7 5) rfl rfl (by kernel_rfl) (fun _ _ _ h => h) (Or.inl ⟨by rfl, ?_⟩) hHeld ?_ ?_
 rotate_left
 ·rintro w' ⟨s0, s1, s2, s3, s4, s5⟩
  go_simp
  with_reducible rfl
 rotate_left
 ·simp only [Act.put, List.setIfInBounds_toArray, List.set_cons_zero, List.set_cons_succ, zcM, ziJ]
  rfl
 refine zdC (i := 1) (N := some 6) (bl_ 7 7) rfl rfl (by kernel_rfl) (by decide) (fun K hK => ?_)
 refine zqW Tryd.func49 (by kernel_rfl) rfl #[.agg #[.int .i64 a0_0, .int .i64 a0_1, .int .i64 a0_2]] (by rfl) rfl rfl (by (try simp only [List.map_toArray, List.map_cons, List.map_nil]); first | done | rfl | (simp only [List.length_drop, List.length_take]; rfl)) ?_
 with_reducible refine (zqO.calls a0_0 a0_1 a0_2 t137 t138 t139 _ A3.out).mono ?_
 rintro e w10 ⟨rfl, hb⟩
 refine ⟨_, rfl, ?_⟩
 have n0_ := zpS (zgM (g := gb135) (o := .cells #[.int .i64 a0_0, .int .i64 a0_1, .int .i64 a0_2] 31 (0, 0)) bk_ hb)
 have n1_ := zpS (zgM (g := gb136) (o := .cells #[.int .i64 a1_0, .int .i64 a1_1, .int .i64 a1_2] 31 (0, 0)) bk_ hb)
 have n2_ := (ns_ hb)
 clear BK135
 clear BK136
 clear HB
 have BK135 := n0_
 have BK136 := n1_
 have HB := n2_
 clear n0_ n1_ n2_
 (try clear hb)
 (try clear hb2)
 (try clear hk)
 (try clear hi)
 refine hK.out _ _ ⟨(zzS BK135.out 0).trans rfl, (zzS BK135.out 1).trans rfl, (zzS BK135.out 2).trans rfl, (zzS BK136.out 0).trans rfl, (zzS BK136.out 1).trans rfl, (zzS BK136.out 2).trans rfl⟩ (fun hHeld => ?_)
 clear hK K
 refine zaN (a' := ?_) ?_ ?_
 rotate_left
 ·show Act.put _ (some 6) _ = _
  simp only [Act.put, List.setIfInBounds_toArray, List.set_cons_zero, List.set_cons_succ, zcM, ziJ]
  rfl
 refine zdC (i := 3) (N := some 8) (bl_ 7 15) rfl rfl (by kernel_rfl) (by decide) (fun K hK => ?_)
 refine zqW Tryd.func49 (by kernel_rfl) rfl #[.agg #[.int .i64 a1_0, .int .i64 a1_1, .int .i64 a1_2]] (by rfl) rfl rfl (by (try simp only [List.map_toArray, List.map_cons, List.map_nil]); first | done | rfl | (simp only [List.length_drop, List.length_take]; rfl)) ?_
 with_reducible refine (zqO.calls a1_0 a1_1 a1_2 t140 t141 t142 _ A4.out).mono ?_
 rintro e w11 ⟨rfl, hb⟩
 refine ⟨_, rfl, ?_⟩
 have n0_ := zpS (zgM (g := gb135) (o := .cells #[.int .i64 a0_0, .int .i64 a0_1, .int .i64 a0_2] 31 (0, 0)) bk_ hb)
 have n1_ := zpS (zgM (g := gb136) (o := .cells #[.int .i64 a1_0, .int .i64 a1_1, .int .i64 a1_2] 31 (0, 0)) bk_ hb)
 have n2_ := (ns_ hb)
 clear BK135
 clear BK136
 clear HB
 have BK135 := n0_
 have BK136 := n1_
 have HB := n2_
 clear n0_ n1_ n2_
 (try clear hb)
 (try clear hb2)
 (try clear hk)
 (try clear hi)
 refine hK.out _ _ ⟨(zzS BK135.out 0).trans rfl, (zzS BK135.out 1).trans rfl, (zzS BK135.out 2).trans rfl, (zzS BK136.out 0).trans rfl, (zzS BK136.out 1).trans rfl, (zzS BK136.out 2).trans rfl⟩ (fun hHeld => ?_)
 clear hK K
 refine zaN (a' := ?_) ?_ ?_
 rotate_left
 ·show Act.put _ (some 8) _ = _
  simp only [Act.put, List.setIfInBounds_toArray, List.set_cons_zero, List.set_cons_succ, zcM, ziJ]
  rfl
 refine zdC (i := 4) (N := some 9) (bl_ 7 31) rfl rfl (by kernel_rfl) (by decide) (fun K hK => ?_)
 refine zqW Tryd.func48 (by kernel_rfl) rfl #[.agg #[.int .i64 t137, .int .i64 t138, .int .i64 t139], .agg #[.int .i64 t140, .int .i64 t141, .int .i64 t142]] (by rfl) rfl rfl (by (try simp only [List.map_toArray, List.map_cons, List.map_nil]); first | done | rfl | (simp only [List.length_drop, List.length_take]; rfl)) ?_
 with_reducible refine (zyB.calls k t137 t138 t139 t140 t141 t142 t143 t144 t145 _ A5.out).mono ?_
 rintro e w12 ⟨rfl, hb⟩
 refine ⟨_, rfl, ?_⟩
 have n0_ := zpS (zgM (g := gb135) (o := .cells #[.int .i64 a0_0, .int .i64 a0_1, .int .i64 a0_2] 31 (0, 0)) bk_ hb)
 have n1_ := zpS (zgM (g := gb136) (o := .cells #[.int .i64 a1_0, .int .i64 a1_1, .int .i64 a1_2] 31 (0, 0)) bk_ hb)
 have n2_ := (ns_ hb)
 clear BK135
 clear BK136
 clear HB
 have BK135 := n0_
 have BK136 := n1_
 have HB := n2_
 clear n0_ n1_ n2_
 (try clear hb)
 (try clear hb2)
 (try clear hk)
 (try clear hi)
 refine hK.out _ _ ⟨(zzS BK135.out 0).trans rfl, (zzS BK135.out 1).trans rfl, (zzS BK135.out 2).trans rfl, (zzS BK136.out 0).trans rfl, (zzS BK136.out 1).trans rfl, (zzS BK136.out 2).trans rfl⟩ (fun hHeld => ?_)
 clear hK K
 refine zaN (a' := ?_) ?_ ?_
 rotate_left
 ·show Act.put _ (some 9) _ = _
  simp only [Act.put, List.setIfInBounds_toArray, List.set_cons_zero, List.set_cons_succ, zcM, ziJ]
  rfl
 refine zdC (i := 5) (N := some 10) (bl_ 7 63) rfl rfl (by kernel_rfl) (by decide) (fun K hK => ?_)
 refine zqW Tryd.func47 (by kernel_rfl) rfl #[.agg #[.int .i64 t143, .int .i64 t144, .int .i64 t145]] (by rfl) rfl rfl (by (try simp only [List.map_toArray, List.map_cons, List.map_nil]); first | done | rfl | (simp only [List.length_drop, List.length_take]; rfl)) ?_
 with_reducible refine (zxR.calls k t143 t144 t145 t146 _ A6.out).mono ?_
 rintro e w13 ⟨rfl, hb⟩
 refine ⟨_, rfl, ?_⟩
 have n0_ := zpS (zgM (g := gb135) (o := .cells #[.int .i64 a0_0, .int .i64 a0_1, .int .i64 a0_2] 31 (0, 0)) bk_ hb)
 have n1_ := zpS (zgM (g := gb136) (o := .cells #[.int .i64 a1_0, .int .i64 a1_1, .int .i64 a1_2] 31 (0, 0)) bk_ hb)
 have n2_ := (ns_ hb)
 clear BK135
 clear BK136
 clear HB
 have BK135 := n0_
 have BK136 := n1_
 have HB := n2_
 clear n0_ n1_ n2_
 (try clear hb)
 (try clear hb2)
 (try clear hk)
 (try clear hi)
 refine hK.out _ _ ⟨(zzS BK135.out 0).trans rfl, (zzS BK135.out 1).trans rfl, (zzS BK135.out 2).trans rfl, (zzS BK136.out 0).trans rfl, (zzS BK136.out 1).trans rfl, (zzS BK136.out 2).trans rfl⟩ (fun hHeld => ?_)
 clear hK K
 refine zaN (a' := ?_) ?_ ?_
 rotate_left
 ·show Act.put _ (some 10) _ = _
  simp only [Act.put, List.setIfInBounds_toArray, List.set_cons_zero, List.set_cons_succ, zcM, ziJ]
  rfl
 refine ztK (i := 6) (N := some 4) (v := ?_) (a' := ?_) (bl_ 7 127) rfl rfl (by kernel_rfl) (fun _ _ _ h => h) (Or.inl ⟨by rfl, ?_⟩) ?_ ?_
 rotate_left
 ·intro w'
  go_simp
  with_reducible rfl
 rotate_left
 ·simp only [Act.put, List.setIfInBounds_toArray, List.set_cons_zero, List.set_cons_succ, zcM, ziJ]
  rfl
 refine znK (by kernel_rfl) ?_
 try go_wp2
 go_ret
 exact ⟨by first | rfl | (simp [ziS, znJ] <;> rfl) | (simp [*, ziS, znJ] <;> rfl), bb_⟩

def zwB.f (k : Nat) (a0_0 : Int) (a0_1 : Int) (a0_2 : Int) (a0_3 : Int) (a0_4 : Int) (a0_5 : Int) (a1_0 : Int) (a1_1 : Int) (a1_2 : Int) (a1_3 : Int) (a1_4 : Int) (a1_5 : Int) : Option (Int) := (ztF.f k a0_0 a0_1 a0_2 a1_0 a1_1 a1_2).bind fun t149 => (if t149 = 0 then ((ztF.f k a0_3 a0_4 a0_5 a1_3 a1_4 a1_5).bind fun t150 => (some t150)) else (some t149))
theorem zwB.mono : ∀ a0 a1 a2 a3 a4 a5 a6 a7 a8 a9 a10 a11 k, LeO (zwB.f k a0 a1 a2 a3 a4 a5 a6 a7 a8 a9 a10 a11) (zwB.f (k + 1) a0 a1 a2 a3 a4 a5 a6 a7 a8 a9 a10 a11) := by
 intro a0 a1 a2 a3 a4 a5 a6 a7 a8 a9 a10 a11 k
 unfold zwB.f
 repeat' first
   | (with_reducible exact ztF.mono _ _ _ _ _ _ _)
   | (with_reducible exact LeO.refl _)
   | (with_reducible exact LeO.none _)
   | (with_reducible refine LeO.ite ?_ ?_)
   | (with_reducible refine LeO.bind ?_ (fun _ => ?_))
   | exact ztF.mono _ _ _ _ _ _ _
   | exact LeO.none _
   | refine LeO.ite ?_ ?_
   | refine LeO.bind ?_ (fun _ => ?_)
set_option maxHeartbeats 8000000 in
set_option maxRecDepth 100000 in
theorem zwB.calls (k : Nat) (a0_0 : Int) (a0_1 : Int) (a0_2 : Int) (a0_3 : Int) (a0_4 : Int) (a0_5 : Int) (a1_0 : Int) (a1_1 : Int) (a1_2 : Int) (a1_3 : Int) (a1_4 : Int) (a1_5 : Int) (r : Int) (w : World) (h : zwB.f k a0_0 a0_1 a0_2 a0_3 a0_4 a0_5 a1_0 a1_1 a1_2 a1_3 a1_4 a1_5 = some r) :
  Calls Tryd.prog 16 #[.agg #[.int .i64 a0_0, .int .i64 a0_1, .int .i64 a0_2, .int .i64 a0_3, .int .i64 a0_4, .int .i64 a0_5], .agg #[.int .i64 a1_0, .int .i64 a1_1, .int .i64 a1_2, .int .i64 a1_3, .int .i64 a1_4, .int .i64 a1_5]] w fun e w' => e = .returned (.int .i64 r) ∧ Below w.heap.size w w' := by
 have hu33 := Tryd.underlying33
 have hu31 := Tryd.underlying31
 have HB := zpS (Below.refl w.heap.size w)
 have H : ((ztF.f k a0_0 a0_1 a0_2 a1_0 a1_1 a1_2).bind fun t149 => (if t149 = 0 then ((ztF.f k a0_3 a0_4 a0_5 a1_3 a1_4 a1_5).bind fun t150 => (some t150)) else (some t149))) = some r := h
 clear h
 replace H := Option.bind_eq_some_iff.mp H
 obtain ⟨t149, A30, H⟩ := H
 replace H : (if t149 = 0 then ((ztF.f k a0_3 a0_4 a0_5 a1_3 a1_4 a1_5).bind fun t150 => (some t150)) else (some t149)) = some r := H
 have A3 := zpS A30
 clear A30
 by_cases c4 : t149 = 0
 ·rw [if_pos c4] at H
  have c4b0 : (t149 == 0) = true := beq_iff_eq.mpr c4
  have c4b1 : (t149 != 0) = false := bne_eq_false_iff_eq.mpr c4
  clear c4
  replace H := Option.bind_eq_some_iff.mp H
  obtain ⟨t150, A50, H⟩ := H
  replace H : (some t150) = some r := H
  have A5 := zpS A50
  clear A50
  obtain rfl := Option.some.inj H
  go_enter Tryd.func16, Tryd.ntmps16
  go_wp2_with (first | ((with_reducible refine zpZ (N := 2) rfl ?_); refine bx_ 2 #[.int .i64 a0_0, .int .i64 a0_1, .int .i64 a0_2, .int .i64 a0_3, .int .i64 a0_4, .int .i64 a0_5] 33 ?_; intro gb147 hg w6 hbox hb; have n0_ := (ns_ hb); have n1_ := zpS (hbox); have n2_ := (ng_ hg); have n3_ := n2_; clear HB; have HB := n0_; have BK147 := n1_; have GW147 := n2_; have GE147 := n3_; clear n0_ n1_ n2_ n3_; clear hb hbox hg) | ((with_reducible refine zpZ (N := 3) rfl ?_); refine bx_ 3 #[.int .i64 a1_0, .int .i64 a1_1, .int .i64 a1_2, .int .i64 a1_3, .int .i64 a1_4, .int .i64 a1_5] 33 ?_; intro gb148 hg w7 hbox hb; have n0_ := zpS (zgM (g := gb147) (o := .cells #[.int .i64 a0_0, .int .i64 a0_1, .int .i64 a0_2, .int .i64 a0_3, .int .i64 a0_4, .int .i64 a0_5] 33 (0, 0)) bk_ hb); have n1_ := (ns_ hb); have n2_ := zpS (hbox); have n3_ := (ng_ hg); have n4_ := n3_; have n5_ := zpS ((by rw [hg]; exact Nat.ne_of_lt (zmN (g := gb147) (o := .cells #[.int .i64 a0_0, .int .i64 a0_1, .int .i64 a0_2, .int .i64 a0_3, .int .i64 a0_4, .int .i64 a0_5] 33 (0, 0)) bk_) : gb147 ≠ gb148)); have n6_ := zpS ((by rw [hg]; exact Nat.ne_of_gt (zmN (g := gb147) (o := .cells #[.int .i64 a0_0, .int .i64 a0_1, .int .i64 a0_2, .int .i64 a0_3, .int .i64 a0_4, .int .i64 a0_5] 33 (0, 0)) bk_) : gb148 ≠ gb147)); clear BK147; clear HB; have BK147 := n0_; have HB := n1_; have BK148 := n2_; have GW148 := n3_; have GE148 := n4_; have NB147_148 := n5_; have NB148_147 := n6_; clear n0_ n1_ n2_ n3_ n4_ n5_ n6_; clear hb hbox hg; have hnb8 := NB147_148.out; have hnc8 := NB148_147.out; obtain ⟨hcz9_0, hcz9_1, hcz9_2, hcz9_3, hcz9_4, hcz9_5⟩ := zrN BK147.out; obtain ⟨hfz9_0, hfz9_1, hfz9_2, hfz9_3, hfz9_4, hfz9_5⟩ := zoO BK147.out; obtain ⟨hcz10_0, hcz10_1, hcz10_2, hcz10_3, hcz10_4, hcz10_5⟩ := zrN BK148.out; obtain ⟨hfz10_0, hfz10_1, hfz10_2, hfz10_3, hfz10_4, hfz10_5⟩ := zoO BK148.out) | ((with_reducible refine zgK (f := 32) rfl ?_); refine zqQ (some 10) rfl rfl Tryd.func32 (by kernel_rfl) rfl #[.agg #[.int .i64 a0_0, .int .i64 a0_1, .int .i64 a0_2], .agg #[.int .i64 a1_0, .int .i64 a1_1, .int .i64 a1_2]] rfl (by (try simp only [List.map_toArray, List.map_cons, List.map_nil]); first | done | rfl | (simp only [List.length_drop, List.length_take]; rfl)) ?_; (with_reducible refine (ztF.calls k a0_0 a0_1 a0_2 a1_0 a1_1 a1_2 t149 _ A3.out).mono ?_); rintro e w11 ⟨rfl, hb⟩; refine ⟨_, rfl, ?_⟩; have n0_ := zpS (zgM (g := gb147) (o := .cells #[.int .i64 a0_0, .int .i64 a0_1, .int .i64 a0_2, .int .i64 a0_3, .int .i64 a0_4, .int .i64 a0_5] 33 (0, 0)) bk_ hb); have n1_ := zpS (zgM (g := gb148) (o := .cells #[.int .i64 a1_0, .int .i64 a1_1, .int .i64 a1_2, .int .i64 a1_3, .int .i64 a1_4, .int .i64 a1_5] 33 (0, 0)) bk_ hb); have n2_ := (ns_ hb); clear BK147; clear BK148; clear HB; have BK147 := n0_; have BK148 := n1_; have HB := n2_; clear n0_ n1_ n2_; (try clear hb); (try clear hb2); obtain ⟨hcz12_0, hcz12_1, hcz12_2, hcz12_3, hcz12_4, hcz12_5⟩ := zrN BK147.out; obtain ⟨hfz12_0, hfz12_1, hfz12_2, hfz12_3, hfz12_4, hfz12_5⟩ := zoO BK147.out; obtain ⟨hcz13_0, hcz13_1, hcz13_2, hcz13_3, hcz13_4, hcz13_5⟩ := zrN BK148.out; obtain ⟨hfz13_0, hfz13_1, hfz13_2, hfz13_3, hfz13_4, hfz13_5⟩ := zoO BK148.out) | ((with_reducible refine zgK (f := 32) rfl ?_); refine zqQ (some 18) rfl rfl Tryd.func32 (by kernel_rfl) rfl #[.agg #[.int .i64 a0_3, .int .i64 a0_4, .int .i64 a0_5], .agg #[.int .i64 a1_3, .int .i64 a1_4, .int .i64 a1_5]] rfl (by (try simp only [List.map_toArray, List.map_cons, List.map_nil]); first | done | rfl | (simp only [List.length_drop, List.length_take]; rfl)) ?_; (with_reducible refine (ztF.calls k a0_3 a0_4 a0_5 a1_3 a1_4 a1_5 t150 _ A5.out).mono ?_); rintro e w14 ⟨rfl, hb⟩; refine ⟨_, rfl, ?_⟩; have n0_ := zpS (zgM (g := gb147) (o := .cells #[.int .i64 a0_0, .int .i64 a0_1, .int .i64 a0_2, .int .i64 a0_3, .int .i64 a0_4, .int .i64 a0_5] 33 (0, 0)) bk_ hb); have n1_ := zpS (zgM (g := gb148) (o := .cells #[.int .i64 a1_0, .int .i64 a1_1, .int .i64 a1_2, .int .i64 a1_3, .int .i64 a1_4, .int .i64 a1_5] 33 (0, 0)) bk_ hb); have n2_ := (ns_ hb); clear BK147; clear BK148; clear HB; have BK147 := n0_; have BK148 := n1_; have HB := n2_; clear n0_ n1_ n2_; (try clear hb); (try clear hb2)))
  go_ret
  exact ⟨by first | rfl | (simp [ziS, znJ] <;> rfl) | (simp [*, ziS, znJ] <;> rfl), bb_⟩
 ·rw [if_neg c4] at H
  have c4b0 : (t149 == 0) = false := beq_eq_false_iff_ne.mpr c4
  have c4b1 : (t149 != 0) = true := bne_iff_ne.mpr c4
  obtain rfl := Option.some.inj H
  go_enter Tryd.func16, Tryd.ntmps16
  go_wp2_with (first | ((with_reducible refine zpZ (N := 2) rfl ?_); refine bx_ 2 #[.int .i64 a0_0, .int .i64 a0_1, .int .i64 a0_2, .int .i64 a0_3, .int .i64 a0_4, .int .i64 a0_5] 33 ?_; intro gb147 hg w15 hbox hb; have n0_ := (ns_ hb); have n1_ := zpS (hbox); have n2_ := (ng_ hg); have n3_ := n2_; clear HB; have HB := n0_; have BK147 := n1_; have GW147 := n2_; have GE147 := n3_; clear n0_ n1_ n2_ n3_; clear hb hbox hg) | ((with_reducible refine zpZ (N := 3) rfl ?_); refine bx_ 3 #[.int .i64 a1_0, .int .i64 a1_1, .int .i64 a1_2, .int .i64 a1_3, .int .i64 a1_4, .int .i64 a1_5] 33 ?_; intro gb148 hg w16 hbox hb; have n0_ := zpS (zgM (g := gb147) (o := .cells #[.int .i64 a0_0, .int .i64 a0_1, .int .i64 a0_2, .int .i64 a0_3, .int .i64 a0_4, .int .i64 a0_5] 33 (0, 0)) bk_ hb); have n1_ := (ns_ hb); have n2_ := zpS (hbox); have n3_ := (ng_ hg); have n4_ := n3_; have n5_ := zpS ((by rw [hg]; exact Nat.ne_of_lt (zmN (g := gb147) (o := .cells #[.int .i64 a0_0, .int .i64 a0_1, .int .i64 a0_2, .int .i64 a0_3, .int .i64 a0_4, .int .i64 a0_5] 33 (0, 0)) bk_) : gb147 ≠ gb148)); have n6_ := zpS ((by rw [hg]; exact Nat.ne_of_gt (zmN (g := gb147) (o := .cells #[.int .i64 a0_0, .int .i64 a0_1, .int .i64 a0_2, .int .i64 a0_3, .int .i64 a0_4, .int .i64 a0_5] 33 (0, 0)) bk_) : gb148 ≠ gb147)); clear BK147; clear HB; have BK147 := n0_; have HB := n1_; have BK148 := n2_; have GW148 := n3_; have GE148 := n4_; have NB147_148 := n5_; have NB148_147 := n6_; clear n0_ n1_ n2_ n3_ n4_ n5_ n6_; clear hb hbox hg; have hnb17 := NB147_148.out; have hnc17 := NB148_147.out; obtain ⟨hcz18_0, hcz18_1, hcz18_2, hcz18_3, hcz18_4, hcz18_5⟩ := zrN BK147.out; obtain ⟨hfz18_0, hfz18_1, hfz18_2, hfz18_3, hfz18_4, hfz18_5⟩ := zoO BK147.out; obtain ⟨hcz19_0, hcz19_1, hcz19_2, hcz19_3, hcz19_4, hcz19_5⟩ := zrN BK148.out; obtain ⟨hfz19_0, hfz19_1, hfz19_2, hfz19_3, hfz19_4, hfz19_5⟩ := zoO BK148.out) | ((with_reducible refine zgK (f := 32) rfl ?_); refine zqQ (some 10) rfl rfl Tryd.func32 (by kernel_rfl) rfl #[.agg #[.int .i64 a0_0, .int .i64 a0_1, .int .i64 a0_2], .agg #[.int .i64 a1_0, .int .i64 a1_1, .int .i64 a1_2]] rfl (by (try simp only [List.map_toArray, List.map_cons, List.map_nil]); first | done | rfl | (simp only [List.length_drop, List.length_take]; rfl)) ?_; (with_reducible refine (ztF.calls k a0_0 a0_1 a0_2 a1_0 a1_1 a1_2 t149 _ A3.out).mono ?_); rintro e w20 ⟨rfl, hb⟩; refine ⟨_, rfl, ?_⟩; have n0_ := zpS (zgM (g := gb147) (o := .cells #[.int .i64 a0_0, .int .i64 a0_1, .int .i64 a0_2, .int .i64 a0_3, .int .i64 a0_4, .int .i64 a0_5] 33 (0, 0)) bk_ hb); have n1_ := zpS (zgM (g := gb148) (o := .cells #[.int .i64 a1_0, .int .i64 a1_1, .int .i64 a1_2, .int .i64 a1_3, .int .i64 a1_4, .int .i64 a1_5] 33 (0, 0)) bk_ hb); have n2_ := (ns_ hb); clear BK147; clear BK148; clear HB; have BK147 := n0_; have BK148 := n1_; have HB := n2_; clear n0_ n1_ n2_; (try clear hb); (try clear hb2)))
  go_ret
  exact ⟨by first | rfl | (simp [ziS, znJ] <;> rfl) | (simp [*, ziS, znJ] <;> rfl), bb_⟩

def zbR.f (a0_0 : Int) (a0_1 : Int) (a0_2 : Int) : Option (Bool) := if a0_0 = 0 then (some (a0_1 == 0)) else (some false)
set_option maxHeartbeats 8000000 in
set_option maxRecDepth 100000 in
theorem zbR.calls (a0_0 : Int) (a0_1 : Int) (a0_2 : Int) (r : Bool) (w : World) (h : zbR.f a0_0 a0_1 a0_2 = some r) :
  Calls Tryd.prog 50 #[.agg #[.int .i64 a0_0, .int .i64 a0_1, .int .i64 a0_2]] w fun e w' => e = .returned (.bool r) ∧ Below w.heap.size w w' := by
 have hu59 := Tryd.underlying59
 have HB := zpS (Below.refl w.heap.size w)
 have H : (if a0_0 = 0 then (some (a0_1 == 0)) else (some false)) = some r := h
 clear h
 by_cases c2 : a0_0 = 0
 ·rw [if_pos c2] at H
  have c2b0 : (a0_0 == 0) = true := beq_iff_eq.mpr c2
  have c2b1 : (a0_0 != 0) = false := bne_eq_false_iff_eq.mpr c2
  clear c2
  obtain rfl := Option.some.inj H
  go_enter Tryd.func50, Tryd.ntmps50
  go_wp2_with (first | ((with_reducible refine zpZ (N := 1) rfl ?_); refine bx_ 1 #[.int .i64 a0_0, .int .i64 a0_1, .int .i64 a0_2] 59 ?_; intro gb151 hg w3 hbox hb; have n0_ := (ns_ hb); have n1_ := zpS (hbox); have n2_ := (ng_ hg); have n3_ := n2_; clear HB; have HB := n0_; have BK151 := n1_; have GW151 := n2_; have GE151 := n3_; clear n0_ n1_ n2_ n3_; clear hb hbox hg; obtain ⟨hcz4_0, hcz4_1, hcz4_2⟩ := zdT BK151.out; obtain ⟨hfz4_0, hfz4_1, hfz4_2⟩ := zqD BK151.out))
  go_ret
  exact ⟨by first | rfl | (simp [ziS, znJ] <;> rfl) | (simp [*, ziS, znJ] <;> rfl), bb_⟩
 ·rw [if_neg c2] at H
  have c2b0 : (a0_0 == 0) = false := beq_eq_false_iff_ne.mpr c2
  have c2b1 : (a0_0 != 0) = true := bne_iff_ne.mpr c2
  obtain rfl := Option.some.inj H
  go_enter Tryd.func50, Tryd.ntmps50
  go_wp2_with (first | ((with_reducible refine zpZ (N := 1) rfl ?_); refine bx_ 1 #[.int .i64 a0_0, .int .i64 a0_1, .int .i64 a0_2] 59 ?_; intro gb151 hg w5 hbox hb; have n0_ := (ns_ hb); have n1_ := zpS (hbox); have n2_ := (ng_ hg); have n3_ := n2_; clear HB; have HB := n0_; have BK151 := n1_; have GW151 := n2_; have GE151 := n3_; clear n0_ n1_ n2_ n3_; clear hb hbox hg; obtain ⟨hcz6_0, hcz6_1, hcz6_2⟩ := zdT BK151.out; obtain ⟨hfz6_0, hfz6_1, hfz6_2⟩ := zqD BK151.out))
  go_ret
  exact ⟨by first | rfl | (simp [ziS, znJ] <;> rfl) | (simp [*, ziS, znJ] <;> rfl), bb_⟩

def ziY.f (a0_0 : Int) (a0_1 : Int) (a0_2 : Int) (a0_3 : Int) (a0_4 : Int) (a0_5 : Int) : Option (Int × Int × Int × Int × Int × Int) := (zqO.f a0_0 a0_1 a0_2).bind fun bt154 => ((zqO.f a0_3 a0_4 a0_5).bind fun bt157 => (some (bt154.1, bt154.2.1, bt154.2.2, bt157.1, bt157.2.1, bt157.2.2)))
def ziY.T1 : Bool × List (List Nat × List Nat) := (true, [([], []), ([0], [0]), ([1], [1]), ([], []), ([3], [3]), ([4, 2], [4]), ([2, 5], [2, 5]), ([6, 5, 0, 1, 2, 3, 4, 5, 6], [6])])
def ziY.B1 : List Nat := [0, 1, 3, 0, 8, 31, 63, 127]
theorem ziY.tab1 : rtab .any (opsOf Tryd.f35 1) = ziY.T1 := by kernel_rfl
theorem ziY.bits1 : ztG ziY.T1.2 ziY.B1 = true := by kernel_rfl
set_option maxHeartbeats 8000000 in
set_option maxRecDepth 100000 in
theorem ziY.calls (a0_0 : Int) (a0_1 : Int) (a0_2 : Int) (a0_3 : Int) (a0_4 : Int) (a0_5 : Int) (r1 : Int) (r2 : Int) (r3 : Int) (r4 : Int) (r5 : Int) (r6 : Int) (w : World) (h : ziY.f a0_0 a0_1 a0_2 a0_3 a0_4 a0_5 = some (r1, r2, r3, r4, r5, r6)) :
  Calls Tryd.prog 35 #[.agg #[.int .i64 a0_0, .int .i64 a0_1, .int .i64 a0_2, .int .i64 a0_3, .int .i64 a0_4, .int .i64 a0_5]] w fun e w' => e = .returned (.agg #[.int .i64 r1, .int .i64 r2, .int .i64 r3, .int .i64 r4, .int .i64 r5, .int .i64 r6]) ∧ Below w.heap.size w w' := by
 have hu33 := Tryd.underlying33
 have hu61 := Tryd.underlying61
 have hu31 := Tryd.underlying31
 have HB := zpS (Below.refl w.heap.size w)
 have H : ((zqO.f a0_0 a0_1 a0_2).bind fun bt154 => ((zqO.f a0_3 a0_4 a0_5).bind fun bt157 => (some (bt154.1, bt154.2.1, bt154.2.2, bt157.1, bt157.2.1, bt157.2.2)))) = some (r1, r2, r3, r4, r5, r6) := h
 clear h
 replace H := Option.bind_eq_some_iff.mp H
 obtain ⟨⟨t154, t155, t156⟩, A20, H⟩ := H
 replace H : ((zqO.f a0_3 a0_4 a0_5).bind fun bt157 => (some (t154, t155, t156, bt157.1, bt157.2.1, bt157.2.2))) = some (r1, r2, r3, r4, r5, r6) := H
 have A2 := zpS A20
 clear A20
 replace H := Option.bind_eq_some_iff.mp H
 obtain ⟨⟨t157, t158, t159⟩, A30, H⟩ := H
 replace H : (some (t154, t155, t156, t157, t158, t159)) = some (r1, r2, r3, r4, r5, r6) := H
 have A3 := zpS A30
 clear A30
 simp only [Option.some.injEq, Prod.mk.injEq] at H
 obtain ⟨rfl, rfl, rfl, rfl, rfl, rfl⟩ := H
 go_enter Tryd.func35, Tryd.ntmps35
 try go_wp2_with (first | ((with_reducible refine zpZ (N := 1) rfl ?_); refine bx_ 1 #[.int .i64 a0_0, .int .i64 a0_1, .int .i64 a0_2, .int .i64 a0_3, .int .i64 a0_4, .int .i64 a0_5] 33 ?_; intro gb152 hg w4 hbox hb; have n0_ := (ns_ hb); have n1_ := zpS (hbox); have n2_ := (ng_ hg); have n3_ := n2_; clear HB; have HB := n0_; have BK152 := n1_; have GW152 := n2_; have GE152 := n3_; clear n0_ n1_ n2_ n3_; clear hb hbox hg) | ((with_reducible refine zpZ (N := 2) rfl ?_); refine bx_ 2 #[.int .i64 0, .int .i64 0, .int .i64 0, .int .i64 0, .int .i64 0, .int .i64 0] 61 ?_; intro gb153 hg w5 hbox hb; have n0_ := zpS (zgM (g := gb152) (o := .cells #[.int .i64 a0_0, .int .i64 a0_1, .int .i64 a0_2, .int .i64 a0_3, .int .i64 a0_4, .int .i64 a0_5] 33 (0, 0)) bk_ hb); have n1_ := (ns_ hb); have n2_ := zpS (hbox); have n3_ := (ng_ hg); have n4_ := n3_; have n5_ := zpS ((by rw [hg]; exact Nat.ne_of_lt (zmN (g := gb152) (o := .cells #[.int .i64 a0_0, .int .i64 a0_1, .int .i64 a0_2, .int .i64 a0_3, .int .i64 a0_4, .int .i64 a0_5] 33 (0, 0)) bk_) : gb152 ≠ gb153)); have n6_ := zpS ((by rw [hg]; exact Nat.ne_of_gt (zmN (g := gb152) (o := .cells #[.int .i64 a0_0, .int .i64 a0_1, .int .i64 a0_2, .int .i64 a0_3, .int .i64 a0_4, .int .i64 a0_5] 33 (0, 0)) bk_) : gb153 ≠ gb152)); clear BK152; clear HB; have BK152 := n0_; have HB := n1_; have BK153 := n2_; have GW153 := n3_; have GE153 := n4_; have NB152_153 := n5_; have NB153_152 := n6_; clear n0_ n1_ n2_ n3_ n4_ n5_ n6_; clear hb hbox hg))
 have n0_ := zpS (ztN BK152.out)
 have n1_ := zpS (ztN BK153.out)
 have n2_ := zpS (zvF HB.out)
 clear BK152
 clear BK153
 clear HB
 have BK152 := n0_
 have BK153 := n1_
 have HB := n2_
 clear n0_ n1_ n2_
 refine zpB (n := 8) (S := fun w' => w'.cell? ⟨gb152, 0, none⟩ = some (.int .i64 a0_0) ∧ w'.cell? ⟨gb152, 1, none⟩ = some (.int .i64 a0_1) ∧ w'.cell? ⟨gb152, 2, none⟩ = some (.int .i64 a0_2) ∧ w'.cell? ⟨gb152, 3, none⟩ = some (.int .i64 a0_3) ∧ w'.cell? ⟨gb152, 4, none⟩ = some (.int .i64 a0_4) ∧ w'.cell? ⟨gb152, 5, none⟩ = some (.int .i64 a0_5)) (ds := []) #[false, false, false, false, false, false, false, false] (by kernel_rfl) rfl rfl ⟨(zzS BK152.out 0).trans rfl, (zzS BK152.out 1).trans rfl, (zzS BK152.out 2).trans rfl, (zzS BK152.out 3).trans rfl, (zzS BK152.out 4).trans rfl, (zzS BK152.out 5).trans rfl⟩ (fun hHeld => ?_); refine zwI ziY.tab1 ziY.bits1 (fun HT_ HW_ => ?_)
 generalize w5.drew = w6 at BK152 BK153 HB hHeld ⊢
 refine pu_ 0 (some 3) (bl_ 8 1) ?_
 refine pu_ 3 (some 6) (bl_ 8 9) ?_
 refine tk6_ 1 (some 4) (bl_ 8 11) hHeld ?_
 refine tk6_ 4 (some 7) (bl_ 8 27) hHeld ?_
 refine zdC (i := 2) (N := some 5) (bl_ 8 31) rfl rfl (zeO HT_.out (by kernel_rfl)) (by decide) (fun K hK => ?_)
 refine zqW Tryd.func49 (by kernel_rfl) rfl #[.agg #[.int .i64 a0_0, .int .i64 a0_1, .int .i64 a0_2]] (by rfl) rfl rfl (by (try simp only [List.map_toArray, List.map_cons, List.map_nil]); first | done | rfl | (simp only [List.length_drop, List.length_take]; rfl)) ?_
 with_reducible refine (zqO.calls a0_0 a0_1 a0_2 t154 t155 t156 _ A2.out).mono ?_
 rintro e w7 ⟨rfl, hb⟩
 refine ⟨_, rfl, ?_⟩
 have n0_ := zpS (zgM (g := gb152) (o := .cells #[.int .i64 a0_0, .int .i64 a0_1, .int .i64 a0_2, .int .i64 a0_3, .int .i64 a0_4, .int .i64 a0_5] 33 (0, 0)) bk_ hb)
 have n1_ := zpS (zgM (g := gb153) (o := .cells #[.int .i64 0, .int .i64 0, .int .i64 0, .int .i64 0, .int .i64 0, .int .i64 0] 61 (0, 0)) bk_ hb)
 have n2_ := (ns_ hb)
 clear BK152
 clear BK153
 clear HB
 have BK152 := n0_
 have BK153 := n1_
 have HB := n2_
 clear n0_ n1_ n2_
 (try clear hb)
 (try clear hb2)
 (try clear hk)
 (try clear hi)
 refine hK.out _ _ ⟨(zzS BK152.out 0).trans rfl, (zzS BK152.out 1).trans rfl, (zzS BK152.out 2).trans rfl, (zzS BK152.out 3).trans rfl, (zzS BK152.out 4).trans rfl, (zzS BK152.out 5).trans rfl⟩ (fun hHeld => ?_)
 clear hK K
 refine zaN (a' := ?_) ?_ ?_
 rotate_left
 ·show Act.put _ (some 5) _ = _
  simp only [Act.put, List.setIfInBounds_toArray, List.set_cons_zero, List.set_cons_succ, zcM, ziJ]
  rfl
 refine zdC (i := 5) (N := some 8) (bl_ 8 63) rfl rfl (zeO HT_.out (by kernel_rfl)) (by decide) (fun K hK => ?_)
 refine zqW Tryd.func49 (by kernel_rfl) rfl #[.agg #[.int .i64 a0_3, .int .i64 a0_4, .int .i64 a0_5]] (by rfl) rfl rfl (by (try simp only [List.map_toArray, List.map_cons, List.map_nil]); first | done | rfl | (simp only [List.length_drop, List.length_take]; rfl)) ?_
 with_reducible refine (zqO.calls a0_3 a0_4 a0_5 t157 t158 t159 _ A3.out).mono ?_
 rintro e w8 ⟨rfl, hb⟩
 refine ⟨_, rfl, ?_⟩
 have n0_ := zpS (zgM (g := gb152) (o := .cells #[.int .i64 a0_0, .int .i64 a0_1, .int .i64 a0_2, .int .i64 a0_3, .int .i64 a0_4, .int .i64 a0_5] 33 (0, 0)) bk_ hb)
 have n1_ := zpS (zgM (g := gb153) (o := .cells #[.int .i64 0, .int .i64 0, .int .i64 0, .int .i64 0, .int .i64 0, .int .i64 0] 61 (0, 0)) bk_ hb)
 have n2_ := (ns_ hb)
 clear BK152
 clear BK153
 clear HB
 have BK152 := n0_
 have BK153 := n1_
 have HB := n2_
 clear n0_ n1_ n2_
 (try clear hb)
 (try clear hb2)
 (try clear hk)
 (try clear hi)
 refine hK.out _ _ ⟨(zzS BK152.out 0).trans rfl, (zzS BK152.out 1).trans rfl, (zzS BK152.out 2).trans rfl, (zzS BK152.out 3).trans rfl, (zzS BK152.out 4).trans rfl, (zzS BK152.out 5).trans rfl⟩ (fun hHeld => ?_)
 clear hK K
 refine zaN (a' := ?_) ?_ ?_
 rotate_left
 ·show Act.put _ (some 8) _ = _
  simp only [Act.put, List.setIfInBounds_toArray, List.set_cons_zero, List.set_cons_succ, zcM, ziJ]
  rfl
 refine pu_ 6 (some 9) (bl_ 8 127) ?_
 refine zdC (i := 7) (N := none) (bl_ 8 255) rfl rfl (zeO HT_.out (by kernel_rfl)) (by decide) (fun K hK => ?_)
 have hs9 : w8.cell? ⟨gb153, 0, none⟩ = some (.int .i64 0) := (zzS BK153.out 0).trans rfl
 have hfs9 := zjF BK153.out 0
 have hns9_0 := NB152_153.out
 have hms9_0 := NB153_152.out
 have hs10 : w8.cell? ⟨gb153, 1, none⟩ = some (.int .i64 0) := (zzS BK153.out 1).trans rfl
 have hfs10 := zjF BK153.out 1
 have hns10_0 := NB152_153.out
 have hms10_0 := NB153_152.out
 have hs11 : w8.cell? ⟨gb153, 2, none⟩ = some (.int .i64 0) := (zzS BK153.out 2).trans rfl
 have hfs11 := zjF BK153.out 2
 have hns11_0 := NB152_153.out
 have hms11_0 := NB153_152.out
 have hs12 : w8.cell? ⟨gb153, 3, none⟩ = some (.int .i64 0) := (zzS BK153.out 3).trans rfl
 have hfs12 := zjF BK153.out 3
 have hns12_0 := NB152_153.out
 have hms12_0 := NB153_152.out
 have hs13 : w8.cell? ⟨gb153, 4, none⟩ = some (.int .i64 0) := (zzS BK153.out 4).trans rfl
 have hfs13 := zjF BK153.out 4
 have hns13_0 := NB152_153.out
 have hms13_0 := NB153_152.out
 have hs14 : w8.cell? ⟨gb153, 5, none⟩ = some (.int .i64 0) := (zzS BK153.out 5).trans rfl
 have hfs14 := zjF BK153.out 5
 have hns14_0 := NB152_153.out
 have hms14_0 := NB153_152.out
 refine skip_ (w1 := ?_) (by rfl) rfl ?_ ?_
 rotate_left
 ·go_simp
  rfl
 refine hK.out _ _ ⟨((zgQ (p := ⟨gb153, _, none⟩) NB152_153.out _).trans (((zgQ (p := ⟨gb153, _, none⟩) NB152_153.out _).trans (((zgQ (p := ⟨gb153, _, none⟩) NB152_153.out _).trans (((zgQ (p := ⟨gb153, _, none⟩) NB152_153.out _).trans (((zgQ (p := ⟨gb153, _, none⟩) NB152_153.out _).trans (((zgQ (p := ⟨gb153, _, none⟩) NB152_153.out _).trans (hHeld.1)))))))))))), ((zgQ (p := ⟨gb153, _, none⟩) NB152_153.out _).trans (((zgQ (p := ⟨gb153, _, none⟩) NB152_153.out _).trans (((zgQ (p := ⟨gb153, _, none⟩) NB152_153.out _).trans (((zgQ (p := ⟨gb153, _, none⟩) NB152_153.out _).trans (((zgQ (p := ⟨gb153, _, none⟩) NB152_153.out _).trans (((zgQ (p := ⟨gb153, _, none⟩) NB152_153.out _).trans (hHeld.2.1)))))))))))), ((zgQ (p := ⟨gb153, _, none⟩) NB152_153.out _).trans (((zgQ (p := ⟨gb153, _, none⟩) NB152_153.out _).trans (((zgQ (p := ⟨gb153, _, none⟩) NB152_153.out _).trans (((zgQ (p := ⟨gb153, _, none⟩) NB152_153.out _).trans (((zgQ (p := ⟨gb153, _, none⟩) NB152_153.out _).trans (((zgQ (p := ⟨gb153, _, none⟩) NB152_153.out _).trans (hHeld.2.2.1)))))))))))), ((zgQ (p := ⟨gb153, _, none⟩) NB152_153.out _).trans (((zgQ (p := ⟨gb153, _, none⟩) NB152_153.out _).trans (((zgQ (p := ⟨gb153, _, none⟩) NB152_153.out _).trans (((zgQ (p := ⟨gb153, _, none⟩) NB152_153.out _).trans (((zgQ (p := ⟨gb153, _, none⟩) NB152_153.out _).trans (((zgQ (p := ⟨gb153, _, none⟩) NB152_153.out _).trans (hHeld.2.2.2.1)))))))))))), ((zgQ (p := ⟨gb153, _, none⟩) NB152_153.out _).trans (((zgQ (p := ⟨gb153, _, none⟩) NB152_153.out _).trans (((zgQ (p := ⟨gb153, _, none⟩) NB152_153.out _).trans (((zgQ (p := ⟨gb153, _, none⟩) NB152_153.out _).trans (((zgQ (p := ⟨gb153, _, none⟩) NB152_153.out _).trans (((zgQ (p := ⟨gb153, _, none⟩) NB152_153.out _).trans (hHeld.2.2.2.2.1)))))))))))), ((zgQ (p := ⟨gb153, _, none⟩) NB152_153.out _).trans (((zgQ (p := ⟨gb153, _, none⟩) NB152_153.out _).trans (((zgQ (p := ⟨gb153, _, none⟩) NB152_153.out _).trans (((zgQ (p := ⟨gb153, _, none⟩) NB152_153.out _).trans (((zgQ (p := ⟨gb153, _, none⟩) NB152_153.out _).trans (((zgQ (p := ⟨gb153, _, none⟩) NB152_153.out _).trans (hHeld.2.2.2.2.2))))))))))))⟩ (fun hHeld => ?_)
 clear hK K
 refine znK (zzP HT_.out (by kernel_rfl)) ?_
 try go_wp2
 refine bodyPost_ret (results_cell_row rfl _ _ gb153 61 #[.int .i64 t154, .int .i64 t155, .int .i64 t156, .int .i64 t157, .int .i64 t158, .int .i64 t159] (0, 0) _ rfl (by (with_reducible repeat (first | apply zuW | apply ztN | apply zqY)); refine zlL (cs := #[.int .i64 t154, .int .i64 t155, .int .i64 t156, .int .i64 t157, .int .i64 t158, .int .i64 0]) ?_ 5 _ rfl; (with_reducible repeat (first | apply zuW | apply ztN | apply zqY)); refine zlL (cs := #[.int .i64 t154, .int .i64 t155, .int .i64 t156, .int .i64 t157, .int .i64 0, .int .i64 0]) ?_ 4 _ rfl; (with_reducible repeat (first | apply zuW | apply ztN | apply zqY)); refine zlL (cs := #[.int .i64 t154, .int .i64 t155, .int .i64 t156, .int .i64 0, .int .i64 0, .int .i64 0]) ?_ 3 _ rfl; (with_reducible repeat (first | apply zuW | apply ztN | apply zqY)); refine zlL (cs := #[.int .i64 t154, .int .i64 t155, .int .i64 0, .int .i64 0, .int .i64 0, .int .i64 0]) ?_ 2 _ rfl; (with_reducible repeat (first | apply zuW | apply ztN | apply zqY)); refine zlL (cs := #[.int .i64 t154, .int .i64 0, .int .i64 0, .int .i64 0, .int .i64 0, .int .i64 0]) ?_ 1 _ rfl; (with_reducible repeat (first | apply zuW | apply ztN | apply zqY)); refine zlL (cs := #[.int .i64 0, .int .i64 0, .int .i64 0, .int .i64 0, .int .i64 0, .int .i64 0]) ?_ 0 _ rfl; (with_reducible repeat (first | apply zuW | apply ztN | apply zqY)); exact BK153.out) Tryd.underlying61 rfl (by kernel_rfl)) rfl ?_
 exact ⟨by first | rfl | (simp [ziS, znJ] <;> rfl) | (simp [*, ziS, znJ] <;> rfl), bb_⟩

def ziB.f (a0 : Int) : Option (Int) := some (Int.tmod (wrap64 ((Int.tmod a0 16) + 16)) 16)
set_option maxHeartbeats 8000000 in
set_option maxRecDepth 100000 in
theorem ziB.calls (a0 : Int) (r : Int) (w : World) (h : ziB.f a0 = some r) :
  Calls Tryd.prog 19 #[.int .i64 a0] w fun e w' => e = .returned (.int .i64 r) ∧ Drawn0 w w' := by
 have H : (some (Int.tmod (wrap64 ((Int.tmod a0 16) + 16)) 16)) = some r := h
 clear h
 obtain rfl := Option.some.inj H
 go_enter Tryd.func19, Tryd.ntmps19
 go_wp2
 go_ret
 exact ⟨by first | rfl | (simp; done) | (simp [*]; done), by repeat (first | exact Drawn0.refl _ | apply Drawn0.step)⟩

def zqB.f (a0 : Int) : Option (Int × Int × Int × Int × Int × Int) := (some (([(⟨(⟨1, 0, 0⟩ : S31), (⟨0, 0, 0⟩ : S31)⟩ : S33), (⟨(⟨1, 0, 0⟩ : S31), (⟨(-1), 1, 0⟩ : S31)⟩ : S33), (⟨(⟨1, 0, 0⟩ : S31), (⟨1, 0, 0⟩ : S31)⟩ : S33), (⟨(⟨(-1), 1, 0⟩ : S31), (⟨1, 0, 0⟩ : S31)⟩ : S33), (⟨(⟨0, 0, 0⟩ : S31), (⟨1, 0, 0⟩ : S31)⟩ : S33), (⟨(⟨1, (-1), 0⟩ : S31), (⟨1, 0, 0⟩ : S31)⟩ : S33), (⟨(⟨(-1), 0, 0⟩ : S31), (⟨1, 0, 0⟩ : S31)⟩ : S33), (⟨(⟨(-1), 0, 0⟩ : S31), (⟨(-1), 1, 0⟩ : S31)⟩ : S33)] : List (S33)) : List (S33))).bind fun y102 => ((ziB.f a0).bind fun t105 => (if 0 ≤ (Int.tmod t105 8) then (if (Int.tmod t105 8) < (y102.length : Int) then (if t105 ≥ 8 then (some (wrap64 (-((zdH y102 (Int.tmod t105 8)).f0.f0)), wrap64 (-((zdH y102 (Int.tmod t105 8)).f0.f1)), 0, wrap64 (-((zdH y102 (Int.tmod t105 8)).f1.f0)), wrap64 (-((zdH y102 (Int.tmod t105 8)).f1.f1)), 0)) else (some ((zdH y102 (Int.tmod t105 8)).f0.f0, (zdH y102 (Int.tmod t105 8)).f0.f1, (zdH y102 (Int.tmod t105 8)).f0.f2, (zdH y102 (Int.tmod t105 8)).f1.f0, (zdH y102 (Int.tmod t105 8)).f1.f1, (zdH y102 (Int.tmod t105 8)).f1.f2))) else (none)) else (none)))
def lv8 : List S33 := ([(⟨(⟨1, 0, 0⟩ : S31), (⟨0, 0, 0⟩ : S31)⟩ : S33), (⟨(⟨1, 0, 0⟩ : S31), (⟨(-1), 1, 0⟩ : S31)⟩ : S33), (⟨(⟨1, 0, 0⟩ : S31), (⟨1, 0, 0⟩ : S31)⟩ : S33), (⟨(⟨(-1), 1, 0⟩ : S31), (⟨1, 0, 0⟩ : S31)⟩ : S33), (⟨(⟨0, 0, 0⟩ : S31), (⟨1, 0, 0⟩ : S31)⟩ : S33), (⟨(⟨1, (-1), 0⟩ : S31), (⟨1, 0, 0⟩ : S31)⟩ : S33), (⟨(⟨(-1), 0, 0⟩ : S31), (⟨1, 0, 0⟩ : S31)⟩ : S33), (⟨(⟨(-1), 0, 0⟩ : S31), (⟨(-1), 1, 0⟩ : S31)⟩ : S33)] : List (S33))
theorem lv8_C (W : World) : Kd.C k33 (W.alloc (Obj.cells #[Value.int IntKind.i64 1, Value.int IntKind.i64 0, Value.int IntKind.i64 0, Value.int IntKind.i64 0, Value.int IntKind.i64 0, Value.int IntKind.i64 0, Value.int IntKind.i64 1, Value.int IntKind.i64 0, Value.int IntKind.i64 0, Value.int IntKind.i64 (-1), Value.int IntKind.i64 1, Value.int IntKind.i64 0, Value.int IntKind.i64 1, Value.int IntKind.i64 0, Value.int IntKind.i64 0, Value.int IntKind.i64 1, Value.int IntKind.i64 0, Value.int IntKind.i64 0, Value.int IntKind.i64 (-1), Value.int IntKind.i64 1, Value.int IntKind.i64 0, Value.int IntKind.i64 1, Value.int IntKind.i64 0, Value.int IntKind.i64 0, Value.int IntKind.i64 0, Value.int IntKind.i64 0, Value.int IntKind.i64 0, Value.int IntKind.i64 1, Value.int IntKind.i64 0, Value.int IntKind.i64 0, Value.int IntKind.i64 1, Value.int IntKind.i64 (-1), Value.int IntKind.i64 0, Value.int IntKind.i64 1, Value.int IntKind.i64 0, Value.int IntKind.i64 0, Value.int IntKind.i64 (-1), Value.int IntKind.i64 0, Value.int IntKind.i64 0, Value.int IntKind.i64 1, Value.int IntKind.i64 0, Value.int IntKind.i64 0, Value.int IntKind.i64 (-1), Value.int IntKind.i64 0, Value.int IntKind.i64 0, Value.int IntKind.i64 (-1), Value.int IntKind.i64 1, Value.int IntKind.i64 0] 33)) (some ⟨W.heap.size, 0, none⟩) 8 lv8 := by
 refine ⟨rfl, by decide, fun _ => ⟨_, rfl, fun j p hp => ⟨_, rfl, k33_mk _ p, fun i u hu => ?_⟩⟩⟩
 have hb := blk_new W (Obj.cells #[Value.int IntKind.i64 1, Value.int IntKind.i64 0, Value.int IntKind.i64 0, Value.int IntKind.i64 0, Value.int IntKind.i64 0, Value.int IntKind.i64 0, Value.int IntKind.i64 1, Value.int IntKind.i64 0, Value.int IntKind.i64 0, Value.int IntKind.i64 (-1), Value.int IntKind.i64 1, Value.int IntKind.i64 0, Value.int IntKind.i64 1, Value.int IntKind.i64 0, Value.int IntKind.i64 0, Value.int IntKind.i64 1, Value.int IntKind.i64 0, Value.int IntKind.i64 0, Value.int IntKind.i64 (-1), Value.int IntKind.i64 1, Value.int IntKind.i64 0, Value.int IntKind.i64 1, Value.int IntKind.i64 0, Value.int IntKind.i64 0, Value.int IntKind.i64 0, Value.int IntKind.i64 0, Value.int IntKind.i64 0, Value.int IntKind.i64 1, Value.int IntKind.i64 0, Value.int IntKind.i64 0, Value.int IntKind.i64 1, Value.int IntKind.i64 (-1), Value.int IntKind.i64 0, Value.int IntKind.i64 1, Value.int IntKind.i64 0, Value.int IntKind.i64 0, Value.int IntKind.i64 (-1), Value.int IntKind.i64 0, Value.int IntKind.i64 0, Value.int IntKind.i64 1, Value.int IntKind.i64 0, Value.int IntKind.i64 0, Value.int IntKind.i64 (-1), Value.int IntKind.i64 0, Value.int IntKind.i64 0, Value.int IntKind.i64 (-1), Value.int IntKind.i64 1, Value.int IntKind.i64 0] 33)
 have hc : ∀ n, (W.alloc (Obj.cells #[Value.int IntKind.i64 1, Value.int IntKind.i64 0, Value.int IntKind.i64 0, Value.int IntKind.i64 0, Value.int IntKind.i64 0, Value.int IntKind.i64 0, Value.int IntKind.i64 1, Value.int IntKind.i64 0, Value.int IntKind.i64 0, Value.int IntKind.i64 (-1), Value.int IntKind.i64 1, Value.int IntKind.i64 0, Value.int IntKind.i64 1, Value.int IntKind.i64 0, Value.int IntKind.i64 0, Value.int IntKind.i64 1, Value.int IntKind.i64 0, Value.int IntKind.i64 0, Value.int IntKind.i64 (-1), Value.int IntKind.i64 1, Value.int IntKind.i64 0, Value.int IntKind.i64 1, Value.int IntKind.i64 0, Value.int IntKind.i64 0, Value.int IntKind.i64 0, Value.int IntKind.i64 0, Value.int IntKind.i64 0, Value.int IntKind.i64 1, Value.int IntKind.i64 0, Value.int IntKind.i64 0, Value.int IntKind.i64 1, Value.int IntKind.i64 (-1), Value.int IntKind.i64 0, Value.int IntKind.i64 1, Value.int IntKind.i64 0, Value.int IntKind.i64 0, Value.int IntKind.i64 (-1), Value.int IntKind.i64 0, Value.int IntKind.i64 0, Value.int IntKind.i64 1, Value.int IntKind.i64 0, Value.int IntKind.i64 0, Value.int IntKind.i64 (-1), Value.int IntKind.i64 0, Value.int IntKind.i64 0, Value.int IntKind.i64 (-1), Value.int IntKind.i64 1, Value.int IntKind.i64 0] 33)).cell? ⟨W.heap.size, n, none⟩ = (#[Value.int IntKind.i64 1, Value.int IntKind.i64 0, Value.int IntKind.i64 0, Value.int IntKind.i64 0, Value.int IntKind.i64 0, Value.int IntKind.i64 0, Value.int IntKind.i64 1, Value.int IntKind.i64 0, Value.int IntKind.i64 0, Value.int IntKind.i64 (-1), Value.int IntKind.i64 1, Value.int IntKind.i64 0, Value.int IntKind.i64 1, Value.int IntKind.i64 0, Value.int IntKind.i64 0, Value.int IntKind.i64 1, Value.int IntKind.i64 0, Value.int IntKind.i64 0, Value.int IntKind.i64 (-1), Value.int IntKind.i64 1, Value.int IntKind.i64 0, Value.int IntKind.i64 1, Value.int IntKind.i64 0, Value.int IntKind.i64 0, Value.int IntKind.i64 0, Value.int IntKind.i64 0, Value.int IntKind.i64 0, Value.int IntKind.i64 1, Value.int IntKind.i64 0, Value.int IntKind.i64 0, Value.int IntKind.i64 1, Value.int IntKind.i64 (-1), Value.int IntKind.i64 0, Value.int IntKind.i64 1, Value.int IntKind.i64 0, Value.int IntKind.i64 0, Value.int IntKind.i64 (-1), Value.int IntKind.i64 0, Value.int IntKind.i64 0, Value.int IntKind.i64 1, Value.int IntKind.i64 0, Value.int IntKind.i64 0, Value.int IntKind.i64 (-1), Value.int IntKind.i64 0, Value.int IntKind.i64 0, Value.int IntKind.i64 (-1), Value.int IntKind.i64 1, Value.int IntKind.i64 0] : Array Value)[n]? := fun n => zzS hb n
 have hj : j < 8 := (List.getElem?_eq_some_iff.1 hp).1
 have hi : i < 6 := (List.getElem?_eq_some_iff.1 hu).1
 have ha : (⟨W.heap.size, 0, none⟩ : Addr).add (j * k33.sz + i) = ⟨W.heap.size, j * 6 + i, none⟩ := by show Addr.add _ (j * 6 + i) = _; first | (rw [zyK]; done) | (rw [zyK]; simp; done) | (simp [Addr.add]; done) | (unfold Addr.add; split <;> simp_all)
 rw [ha, hc]
 have : j = 0 ∨ j = 1 ∨ j = 2 ∨ j = 3 ∨ j = 4 ∨ j = 5 ∨ j = 6 ∨ j = 7 := by omega
 have : i = 0 ∨ i = 1 ∨ i = 2 ∨ i = 3 ∨ i = 4 ∨ i = 5 := by omega
 rcases ‹j = 0 ∨ _› with rfl | rfl | rfl | rfl | rfl | rfl | rfl | rfl <;> cases hp <;> rcases ‹i = 0 ∨ _› with rfl | rfl | rfl | rfl | rfl | rfl <;> cases hu <;> rfl
set_option maxHeartbeats 8000000 in
set_option maxRecDepth 100000 in
theorem zqB.calls (a0 : Int) (r1 : Int) (r2 : Int) (r3 : Int) (r4 : Int) (r5 : Int) (r6 : Int) (w : World) (h : zqB.f a0 = some (r1, r2, r3, r4, r5, r6)) :
  Calls Tryd.prog 68 #[.int .i64 a0] w fun e w' => e = .returned (.agg #[.int .i64 r1, .int .i64 r2, .int .i64 r3, .int .i64 r4, .int .i64 r5, .int .i64 r6]) ∧ Below w.heap.size w w' := by
 have hu33 := Tryd.underlying33
 have hu31 := Tryd.underlying31
 have HB := zpS (Below.refl w.heap.size w)
 have H : ((some (([(⟨(⟨1, 0, 0⟩ : S31), (⟨0, 0, 0⟩ : S31)⟩ : S33), (⟨(⟨1, 0, 0⟩ : S31), (⟨(-1), 1, 0⟩ : S31)⟩ : S33), (⟨(⟨1, 0, 0⟩ : S31), (⟨1, 0, 0⟩ : S31)⟩ : S33), (⟨(⟨(-1), 1, 0⟩ : S31), (⟨1, 0, 0⟩ : S31)⟩ : S33), (⟨(⟨0, 0, 0⟩ : S31), (⟨1, 0, 0⟩ : S31)⟩ : S33), (⟨(⟨1, (-1), 0⟩ : S31), (⟨1, 0, 0⟩ : S31)⟩ : S33), (⟨(⟨(-1), 0, 0⟩ : S31), (⟨1, 0, 0⟩ : S31)⟩ : S33), (⟨(⟨(-1), 0, 0⟩ : S31), (⟨(-1), 1, 0⟩ : S31)⟩ : S33)] : List (S33)) : List (S33))).bind fun y102 => ((ziB.f a0).bind fun t105 => (if 0 ≤ (Int.tmod t105 8) then (if (Int.tmod t105 8) < (y102.length : Int) then (if t105 ≥ 8 then (some (wrap64 (-((zdH y102 (Int.tmod t105 8)).f0.f0)), wrap64 (-((zdH y102 (Int.tmod t105 8)).f0.f1)), 0, wrap64 (-((zdH y102 (Int.tmod t105 8)).f1.f0)), wrap64 (-((zdH y102 (Int.tmod t105 8)).f1.f1)), 0)) else (some ((zdH y102 (Int.tmod t105 8)).f0.f0, (zdH y102 (Int.tmod t105 8)).f0.f1, (zdH y102 (Int.tmod t105 8)).f0.f2, (zdH y102 (Int.tmod t105 8)).f1.f0, (zdH y102 (Int.tmod t105 8)).f1.f1, (zdH y102 (Int.tmod t105 8)).f1.f2))) else (none)) else (none)))) = some (r1, r2, r3, r4, r5, r6) := h
 clear h
 obtain ⟨y102, hy102⟩ : ∃ y_ : List (S33), y_ = (([(⟨(⟨1, 0, 0⟩ : S31), (⟨0, 0, 0⟩ : S31)⟩ : S33), (⟨(⟨1, 0, 0⟩ : S31), (⟨(-1), 1, 0⟩ : S31)⟩ : S33), (⟨(⟨1, 0, 0⟩ : S31), (⟨1, 0, 0⟩ : S31)⟩ : S33), (⟨(⟨(-1), 1, 0⟩ : S31), (⟨1, 0, 0⟩ : S31)⟩ : S33), (⟨(⟨0, 0, 0⟩ : S31), (⟨1, 0, 0⟩ : S31)⟩ : S33), (⟨(⟨1, (-1), 0⟩ : S31), (⟨1, 0, 0⟩ : S31)⟩ : S33), (⟨(⟨(-1), 0, 0⟩ : S31), (⟨1, 0, 0⟩ : S31)⟩ : S33), (⟨(⟨(-1), 0, 0⟩ : S31), (⟨(-1), 1, 0⟩ : S31)⟩ : S33)] : List (S33))) := ⟨_, rfl⟩
 replace H : ((ziB.f a0).bind fun t105 => (if 0 ≤ (Int.tmod t105 8) then (if (Int.tmod t105 8) < (y102.length : Int) then (if t105 ≥ 8 then (some (wrap64 (-((zdH y102 (Int.tmod t105 8)).f0.f0)), wrap64 (-((zdH y102 (Int.tmod t105 8)).f0.f1)), 0, wrap64 (-((zdH y102 (Int.tmod t105 8)).f1.f0)), wrap64 (-((zdH y102 (Int.tmod t105 8)).f1.f1)), 0)) else (some ((zdH y102 (Int.tmod t105 8)).f0.f0, (zdH y102 (Int.tmod t105 8)).f0.f1, (zdH y102 (Int.tmod t105 8)).f0.f2, (zdH y102 (Int.tmod t105 8)).f1.f0, (zdH y102 (Int.tmod t105 8)).f1.f1, (zdH y102 (Int.tmod t105 8)).f1.f2))) else (none)) else (none))) = some (r1, r2, r3, r4, r5, r6) := by first | (rw [hy102]; with_reducible exact H) | (have H2_ := (Option.bind_some _ _).symm.trans H; rw [hy102]; with_reducible exact H2_) | (have H2_ := (Option.bind_some _ _).symm.trans H; with_reducible exact H2_) | with_reducible exact H | (rw [hy102]; exact H) | exact H
 have Ny102 := zpS hy102
 clear hy102
 replace H := Option.bind_eq_some_iff.mp H
 obtain ⟨t105, A20, H⟩ := H
 replace H : (if 0 ≤ (Int.tmod t105 8) then (if (Int.tmod t105 8) < (y102.length : Int) then (if t105 ≥ 8 then (some (wrap64 (-((zdH y102 (Int.tmod t105 8)).f0.f0)), wrap64 (-((zdH y102 (Int.tmod t105 8)).f0.f1)), 0, wrap64 (-((zdH y102 (Int.tmod t105 8)).f1.f0)), wrap64 (-((zdH y102 (Int.tmod t105 8)).f1.f1)), 0)) else (some ((zdH y102 (Int.tmod t105 8)).f0.f0, (zdH y102 (Int.tmod t105 8)).f0.f1, (zdH y102 (Int.tmod t105 8)).f0.f2, (zdH y102 (Int.tmod t105 8)).f1.f0, (zdH y102 (Int.tmod t105 8)).f1.f1, (zdH y102 (Int.tmod t105 8)).f1.f2))) else (none)) else (none)) = some (r1, r2, r3, r4, r5, r6) := H
 have A2 := zpS A20
 clear A20
 obtain ⟨ji3, hji3⟩ : ∃ j_ : Int, (Int.tmod t105 8) = j_ := ⟨_, rfl⟩
 replace H : (if 0 ≤ (ji3) then (if (ji3) < (y102.length : Int) then (if t105 ≥ 8 then (some (wrap64 (-((zdH y102 (ji3)).f0.f0)), wrap64 (-((zdH y102 (ji3)).f0.f1)), 0, wrap64 (-((zdH y102 (ji3)).f1.f0)), wrap64 (-((zdH y102 (ji3)).f1.f1)), 0)) else (some ((zdH y102 (ji3)).f0.f0, (zdH y102 (ji3)).f0.f1, (zdH y102 (ji3)).f0.f2, (zdH y102 (ji3)).f1.f0, (zdH y102 (ji3)).f1.f1, (zdH y102 (ji3)).f1.f2))) else (none)) else (none)) = some (r1, r2, r3, r4, r5, r6) := by first | (rw [hji3] at H; exact H) | (simp only [hji3] at H ⊢; exact H)
 (try rw [hji3] at A2)
 by_cases c4 : 0 ≤ (ji3)
 ·rw [if_pos c4] at H
  have c4b0 : decide (0 ≤ (ji3)) = true := decide_eq_true c4
  clear c4
  by_cases c5 : (ji3) < (y102.length : Int)
  ·rw [if_pos c5] at H
   have c5b0 : decide ((ji3) < (y102.length : Int)) = true := decide_eq_true c5
   clear c5
   by_cases c6 : t105 ≥ 8
   ·rw [if_pos c6] at H
    have c6b0 : decide (8 ≤ t105) = true := decide_eq_true c6
    clear c6
    simp only [Option.some.injEq, Prod.mk.injEq] at H
    obtain ⟨rfl, rfl, rfl, rfl, rfl, rfl⟩ := H
    go_enter Tryd.func68, Tryd.ntmps68
    go_wp2_with (first | ((with_reducible refine zpZ (N := 2) rfl ?_); refine bx_ 2 #[.int .i64 0, .int .i64 0, .int .i64 0, .int .i64 0, .int .i64 0, .int .i64 0] 33 ?_; intro gb101 hg w7 hbox hb; have n0_ := (ns_ hb); have n1_ := zpS (hbox); have n2_ := (ng_ hg); have n3_ := n2_; clear HB; have HB := n0_; have BK101 := n1_; have GW101 := n2_; have GE101 := n3_; clear n0_ n1_ n2_ n3_; clear hb hbox hg))
    refine (ziB.calls a0 t105 _ A2.out).mono ?_
    rintro e w' ⟨rfl, nd, rfl⟩
    have hC := Kd.C_drewN (lv8_C w7) nd
    have hB8 := zkZ (znU HB.out (Obj.cells #[Value.int IntKind.i64 1, Value.int IntKind.i64 0, Value.int IntKind.i64 0, Value.int IntKind.i64 0, Value.int IntKind.i64 0, Value.int IntKind.i64 0, Value.int IntKind.i64 1, Value.int IntKind.i64 0, Value.int IntKind.i64 0, Value.int IntKind.i64 (-1), Value.int IntKind.i64 1, Value.int IntKind.i64 0, Value.int IntKind.i64 1, Value.int IntKind.i64 0, Value.int IntKind.i64 0, Value.int IntKind.i64 1, Value.int IntKind.i64 0, Value.int IntKind.i64 0, Value.int IntKind.i64 (-1), Value.int IntKind.i64 1, Value.int IntKind.i64 0, Value.int IntKind.i64 1, Value.int IntKind.i64 0, Value.int IntKind.i64 0, Value.int IntKind.i64 0, Value.int IntKind.i64 0, Value.int IntKind.i64 0, Value.int IntKind.i64 1, Value.int IntKind.i64 0, Value.int IntKind.i64 0, Value.int IntKind.i64 1, Value.int IntKind.i64 (-1), Value.int IntKind.i64 0, Value.int IntKind.i64 1, Value.int IntKind.i64 0, Value.int IntKind.i64 0, Value.int IntKind.i64 (-1), Value.int IntKind.i64 0, Value.int IntKind.i64 0, Value.int IntKind.i64 1, Value.int IntKind.i64 0, Value.int IntKind.i64 0, Value.int IntKind.i64 (-1), Value.int IntKind.i64 0, Value.int IntKind.i64 0, Value.int IntKind.i64 (-1), Value.int IntKind.i64 1, Value.int IntKind.i64 0] 33)) nd
    have hK8 := zuW (zqY BK101.out (Obj.cells #[Value.int IntKind.i64 1, Value.int IntKind.i64 0, Value.int IntKind.i64 0, Value.int IntKind.i64 0, Value.int IntKind.i64 0, Value.int IntKind.i64 0, Value.int IntKind.i64 1, Value.int IntKind.i64 0, Value.int IntKind.i64 0, Value.int IntKind.i64 (-1), Value.int IntKind.i64 1, Value.int IntKind.i64 0, Value.int IntKind.i64 1, Value.int IntKind.i64 0, Value.int IntKind.i64 0, Value.int IntKind.i64 1, Value.int IntKind.i64 0, Value.int IntKind.i64 0, Value.int IntKind.i64 (-1), Value.int IntKind.i64 1, Value.int IntKind.i64 0, Value.int IntKind.i64 1, Value.int IntKind.i64 0, Value.int IntKind.i64 0, Value.int IntKind.i64 0, Value.int IntKind.i64 0, Value.int IntKind.i64 0, Value.int IntKind.i64 1, Value.int IntKind.i64 0, Value.int IntKind.i64 0, Value.int IntKind.i64 1, Value.int IntKind.i64 (-1), Value.int IntKind.i64 0, Value.int IntKind.i64 1, Value.int IntKind.i64 0, Value.int IntKind.i64 0, Value.int IntKind.i64 (-1), Value.int IntKind.i64 0, Value.int IntKind.i64 0, Value.int IntKind.i64 1, Value.int IntKind.i64 0, Value.int IntKind.i64 0, Value.int IntKind.i64 (-1), Value.int IntKind.i64 0, Value.int IntKind.i64 0, Value.int IntKind.i64 (-1), Value.int IntKind.i64 1, Value.int IntKind.i64 0] 33)) nd
    generalize Value.agg #[Value.int IntKind.i64 1, Value.int IntKind.i64 0, Value.int IntKind.i64 0, Value.int IntKind.i64 0, Value.int IntKind.i64 0, Value.int IntKind.i64 0] = dd0
    generalize Value.agg #[Value.int IntKind.i64 1, Value.int IntKind.i64 0, Value.int IntKind.i64 0, Value.int IntKind.i64 (-1), Value.int IntKind.i64 1, Value.int IntKind.i64 0] = dd1
    generalize Value.agg #[Value.int IntKind.i64 1, Value.int IntKind.i64 0, Value.int IntKind.i64 0, Value.int IntKind.i64 1, Value.int IntKind.i64 0, Value.int IntKind.i64 0] = dd2
    generalize Value.agg #[Value.int IntKind.i64 (-1), Value.int IntKind.i64 1, Value.int IntKind.i64 0, Value.int IntKind.i64 1, Value.int IntKind.i64 0, Value.int IntKind.i64 0] = dd3
    generalize Value.agg #[Value.int IntKind.i64 0, Value.int IntKind.i64 0, Value.int IntKind.i64 0, Value.int IntKind.i64 1, Value.int IntKind.i64 0, Value.int IntKind.i64 0] = dd4
    generalize Value.agg #[Value.int IntKind.i64 1, Value.int IntKind.i64 (-1), Value.int IntKind.i64 0, Value.int IntKind.i64 1, Value.int IntKind.i64 0, Value.int IntKind.i64 0] = dd5
    generalize Value.agg #[Value.int IntKind.i64 (-1), Value.int IntKind.i64 0, Value.int IntKind.i64 0, Value.int IntKind.i64 1, Value.int IntKind.i64 0, Value.int IntKind.i64 0] = dd6
    generalize Value.agg #[Value.int IntKind.i64 (-1), Value.int IntKind.i64 0, Value.int IntKind.i64 0, Value.int IntKind.i64 (-1), Value.int IntKind.i64 1, Value.int IntKind.i64 0] = dd7
    generalize Value.agg #[Value.int IntKind.i64 1, Value.int IntKind.i64 0, Value.int IntKind.i64 0] = dd8
    generalize Value.agg #[Value.int IntKind.i64 (-1), Value.int IntKind.i64 1, Value.int IntKind.i64 0] = dd9
    generalize Value.agg #[Value.int IntKind.i64 1, Value.int IntKind.i64 (-1), Value.int IntKind.i64 0] = dd10
    generalize Value.agg #[Value.int IntKind.i64 (-1), Value.int IntKind.i64 0, Value.int IntKind.i64 0] = dd11
    clear HB BK101
    generalize World.drewN (w7.alloc (Obj.cells #[Value.int IntKind.i64 1, Value.int IntKind.i64 0, Value.int IntKind.i64 0, Value.int IntKind.i64 0, Value.int IntKind.i64 0, Value.int IntKind.i64 0, Value.int IntKind.i64 1, Value.int IntKind.i64 0, Value.int IntKind.i64 0, Value.int IntKind.i64 (-1), Value.int IntKind.i64 1, Value.int IntKind.i64 0, Value.int IntKind.i64 1, Value.int IntKind.i64 0, Value.int IntKind.i64 0, Value.int IntKind.i64 1, Value.int IntKind.i64 0, Value.int IntKind.i64 0, Value.int IntKind.i64 (-1), Value.int IntKind.i64 1, Value.int IntKind.i64 0, Value.int IntKind.i64 1, Value.int IntKind.i64 0, Value.int IntKind.i64 0, Value.int IntKind.i64 0, Value.int IntKind.i64 0, Value.int IntKind.i64 0, Value.int IntKind.i64 1, Value.int IntKind.i64 0, Value.int IntKind.i64 0, Value.int IntKind.i64 1, Value.int IntKind.i64 (-1), Value.int IntKind.i64 0, Value.int IntKind.i64 1, Value.int IntKind.i64 0, Value.int IntKind.i64 0, Value.int IntKind.i64 (-1), Value.int IntKind.i64 0, Value.int IntKind.i64 0, Value.int IntKind.i64 1, Value.int IntKind.i64 0, Value.int IntKind.i64 0, Value.int IntKind.i64 (-1), Value.int IntKind.i64 0, Value.int IntKind.i64 0, Value.int IntKind.i64 (-1), Value.int IntKind.i64 1, Value.int IntKind.i64 0] 33)) nd = w8 at hC hB8 hK8 ⊢
    generalize w7.heap.size = gs at hC ⊢
    have HB := zpS hB8
    have BK101 := zpS hK8
    clear hB8 hK8
    rw [show lv8 = y102 from Ny102.out.symm] at hC
    have p106 : 0 ≤ ((ji3) : Int) := of_decide_eq_true (by first | (with_reducible assumption) | assumption)
    have q106 : (ji3) < (y102.length : Int) := of_decide_eq_true (by first | (with_reducible assumption) | assumption)
    have q106' : (ji3) < ((8 : Nat) : Int) := by rw [← hC.1]; exact q106
    obtain ⟨ad106, e106, hx106_0, hx106_1, hx106_2, hx106_3, hx106_4, hx106_5⟩ := zuR hC (ji3) p106 q106'
    obtain rfl : (⟨gs, 0, none⟩ : Addr) = ad106 := (by injection e106)
    first | simp only [zyK] at hx106_0 hx106_1 hx106_2 hx106_3 hx106_4 hx106_5 | simp only [add_at] at hx106_0 hx106_1 hx106_2 hx106_3 hx106_4 hx106_5 | simp only [Addr.add, Nat.zero_add] at hx106_0 hx106_1 hx106_2 hx106_3 hx106_4 hx106_5 | skip
    replace p106 := eq_true p106
    replace q106' := eq_true q106'
    have q106'' : (ji3 < 8) = True := q106'
    have hcz14_0 : ∀ cs : Array Value, (w8.alloc (Obj.cells cs 33)).cell? ⟨gb101, 0, none⟩ = some (.int .i64 0) := fun cs => (zzS (zqY BK101.out _) 0).trans rfl
    have hfz14_0 : ∀ cs : Array Value, (w8.alloc (Obj.cells cs 33)).frozen? ⟨gb101, 0, none⟩ = false := fun cs => zjF (zqY BK101.out _) 0
    have hcz14_1 : ∀ cs : Array Value, (w8.alloc (Obj.cells cs 33)).cell? ⟨gb101, 1, none⟩ = some (.int .i64 0) := fun cs => (zzS (zqY BK101.out _) 1).trans rfl
    have hfz14_1 : ∀ cs : Array Value, (w8.alloc (Obj.cells cs 33)).frozen? ⟨gb101, 1, none⟩ = false := fun cs => zjF (zqY BK101.out _) 1
    have hcz14_2 : ∀ cs : Array Value, (w8.alloc (Obj.cells cs 33)).cell? ⟨gb101, 2, none⟩ = some (.int .i64 0) := fun cs => (zzS (zqY BK101.out _) 2).trans rfl
    have hfz14_2 : ∀ cs : Array Value, (w8.alloc (Obj.cells cs 33)).frozen? ⟨gb101, 2, none⟩ = false := fun cs => zjF (zqY BK101.out _) 2
    have hcz14_3 : ∀ cs : Array Value, (w8.alloc (Obj.cells cs 33)).cell? ⟨gb101, 3, none⟩ = some (.int .i64 0) := fun cs => (zzS (zqY BK101.out _) 3).trans rfl
    have hfz14_3 : ∀ cs : Array Value, (w8.alloc (Obj.cells cs 33)).frozen? ⟨gb101, 3, none⟩ = false := fun cs => zjF (zqY BK101.out _) 3
    have hcz14_4 : ∀ cs : Array Value, (w8.alloc (Obj.cells cs 33)).cell? ⟨gb101, 4, none⟩ = some (.int .i64 0) := fun cs => (zzS (zqY BK101.out _) 4).trans rfl
    have hfz14_4 : ∀ cs : Array Value, (w8.alloc (Obj.cells cs 33)).frozen? ⟨gb101, 4, none⟩ = false := fun cs => zjF (zqY BK101.out _) 4
    have hcz14_5 : ∀ cs : Array Value, (w8.alloc (Obj.cells cs 33)).cell? ⟨gb101, 5, none⟩ = some (.int .i64 0) := fun cs => (zzS (zqY BK101.out _) 5).trans rfl
    have hfz14_5 : ∀ cs : Array Value, (w8.alloc (Obj.cells cs 33)).frozen? ⟨gb101, 5, none⟩ = false := fun cs => zjF (zqY BK101.out _) 5
    have hnb : gb101 ≠ w8.heap.size := Nat.ne_of_lt (zmN BK101.out)
    have hnc : w8.heap.size ≠ gb101 := fun e => hnb e.symm
    have GE107 := zpS (zuA HB.out)
    go_wp2
    refine bodyPost_ret (results_cell_row rfl _ _ gb101 33 #[.int .i64 (wrap64 (-((zdH y102 (ji3)).f0.f0))), .int .i64 (wrap64 (-((zdH y102 (ji3)).f0.f1))), .int .i64 0, .int .i64 (wrap64 (-((zdH y102 (ji3)).f1.f0))), .int .i64 (wrap64 (-((zdH y102 (ji3)).f1.f1))), .int .i64 0] (0, 0) _ rfl (by (with_reducible repeat (first | apply zuW | apply ztN | apply zqY)); refine zlL (cs := #[.int .i64 (wrap64 (-((zdH y102 (ji3)).f0.f0))), .int .i64 (wrap64 (-((zdH y102 (ji3)).f0.f1))), .int .i64 0, .int .i64 (wrap64 (-((zdH y102 (ji3)).f1.f0))), .int .i64 (wrap64 (-((zdH y102 (ji3)).f1.f1))), .int .i64 0]) ?_ 5 _ rfl; (with_reducible repeat (first | apply zuW | apply ztN | apply zqY)); refine zlL (cs := #[.int .i64 (wrap64 (-((zdH y102 (ji3)).f0.f0))), .int .i64 (wrap64 (-((zdH y102 (ji3)).f0.f1))), .int .i64 0, .int .i64 (wrap64 (-((zdH y102 (ji3)).f1.f0))), .int .i64 0, .int .i64 0]) ?_ 4 _ rfl; (with_reducible repeat (first | apply zuW | apply ztN | apply zqY)); refine zlL (cs := #[.int .i64 (wrap64 (-((zdH y102 (ji3)).f0.f0))), .int .i64 (wrap64 (-((zdH y102 (ji3)).f0.f1))), .int .i64 0, .int .i64 0, .int .i64 0, .int .i64 0]) ?_ 3 _ rfl; (with_reducible repeat (first | apply zuW | apply ztN | apply zqY)); refine zlL (cs := #[.int .i64 (wrap64 (-((zdH y102 (ji3)).f0.f0))), .int .i64 (wrap64 (-((zdH y102 (ji3)).f0.f1))), .int .i64 0, .int .i64 0, .int .i64 0, .int .i64 0]) ?_ 2 _ rfl; (with_reducible repeat (first | apply zuW | apply ztN | apply zqY)); refine zlL (cs := #[.int .i64 (wrap64 (-((zdH y102 (ji3)).f0.f0))), .int .i64 0, .int .i64 0, .int .i64 0, .int .i64 0, .int .i64 0]) ?_ 1 _ rfl; (with_reducible repeat (first | apply zuW | apply ztN | apply zqY)); refine zlL (cs := #[.int .i64 0, .int .i64 0, .int .i64 0, .int .i64 0, .int .i64 0, .int .i64 0]) ?_ 0 _ rfl; (with_reducible repeat (first | apply zuW | apply ztN | apply zqY)); exact BK101.out) Tryd.underlying33 rfl (by kernel_rfl)) rfl ?_
    exact ⟨by first | rfl | (simp [ziS, znJ] <;> rfl) | (simp only [← hji3]; first | rfl | (simp [ziS, znJ] <;> rfl)) | (simp [*, ziS, znJ] <;> rfl), bb_⟩
   ·rw [if_neg c6] at H
    have c6b0 : decide (8 ≤ t105) = false := decide_eq_false c6
    clear c6
    simp only [Option.some.injEq, Prod.mk.injEq] at H
    obtain ⟨rfl, rfl, rfl, rfl, rfl, rfl⟩ := H
    go_enter Tryd.func68, Tryd.ntmps68
    go_wp2_with (first | ((with_reducible refine zpZ (N := 2) rfl ?_); refine bx_ 2 #[.int .i64 0, .int .i64 0, .int .i64 0, .int .i64 0, .int .i64 0, .int .i64 0] 33 ?_; intro gb101 hg w7 hbox hb; have n0_ := (ns_ hb); have n1_ := zpS (hbox); have n2_ := (ng_ hg); have n3_ := n2_; clear HB; have HB := n0_; have BK101 := n1_; have GW101 := n2_; have GE101 := n3_; clear n0_ n1_ n2_ n3_; clear hb hbox hg))
    refine (ziB.calls a0 t105 _ A2.out).mono ?_
    rintro e w' ⟨rfl, nd, rfl⟩
    have hC := Kd.C_drewN (lv8_C w7) nd
    have hB8 := zkZ (znU HB.out (Obj.cells #[Value.int IntKind.i64 1, Value.int IntKind.i64 0, Value.int IntKind.i64 0, Value.int IntKind.i64 0, Value.int IntKind.i64 0, Value.int IntKind.i64 0, Value.int IntKind.i64 1, Value.int IntKind.i64 0, Value.int IntKind.i64 0, Value.int IntKind.i64 (-1), Value.int IntKind.i64 1, Value.int IntKind.i64 0, Value.int IntKind.i64 1, Value.int IntKind.i64 0, Value.int IntKind.i64 0, Value.int IntKind.i64 1, Value.int IntKind.i64 0, Value.int IntKind.i64 0, Value.int IntKind.i64 (-1), Value.int IntKind.i64 1, Value.int IntKind.i64 0, Value.int IntKind.i64 1, Value.int IntKind.i64 0, Value.int IntKind.i64 0, Value.int IntKind.i64 0, Value.int IntKind.i64 0, Value.int IntKind.i64 0, Value.int IntKind.i64 1, Value.int IntKind.i64 0, Value.int IntKind.i64 0, Value.int IntKind.i64 1, Value.int IntKind.i64 (-1), Value.int IntKind.i64 0, Value.int IntKind.i64 1, Value.int IntKind.i64 0, Value.int IntKind.i64 0, Value.int IntKind.i64 (-1), Value.int IntKind.i64 0, Value.int IntKind.i64 0, Value.int IntKind.i64 1, Value.int IntKind.i64 0, Value.int IntKind.i64 0, Value.int IntKind.i64 (-1), Value.int IntKind.i64 0, Value.int IntKind.i64 0, Value.int IntKind.i64 (-1), Value.int IntKind.i64 1, Value.int IntKind.i64 0] 33)) nd
    have hK8 := zuW (zqY BK101.out (Obj.cells #[Value.int IntKind.i64 1, Value.int IntKind.i64 0, Value.int IntKind.i64 0, Value.int IntKind.i64 0, Value.int IntKind.i64 0, Value.int IntKind.i64 0, Value.int IntKind.i64 1, Value.int IntKind.i64 0, Value.int IntKind.i64 0, Value.int IntKind.i64 (-1), Value.int IntKind.i64 1, Value.int IntKind.i64 0, Value.int IntKind.i64 1, Value.int IntKind.i64 0, Value.int IntKind.i64 0, Value.int IntKind.i64 1, Value.int IntKind.i64 0, Value.int IntKind.i64 0, Value.int IntKind.i64 (-1), Value.int IntKind.i64 1, Value.int IntKind.i64 0, Value.int IntKind.i64 1, Value.int IntKind.i64 0, Value.int IntKind.i64 0, Value.int IntKind.i64 0, Value.int IntKind.i64 0, Value.int IntKind.i64 0, Value.int IntKind.i64 1, Value.int IntKind.i64 0, Value.int IntKind.i64 0, Value.int IntKind.i64 1, Value.int IntKind.i64 (-1), Value.int IntKind.i64 0, Value.int IntKind.i64 1, Value.int IntKind.i64 0, Value.int IntKind.i64 0, Value.int IntKind.i64 (-1), Value.int IntKind.i64 0, Value.int IntKind.i64 0, Value.int IntKind.i64 1, Value.int IntKind.i64 0, Value.int IntKind.i64 0, Value.int IntKind.i64 (-1), Value.int IntKind.i64 0, Value.int IntKind.i64 0, Value.int IntKind.i64 (-1), Value.int IntKind.i64 1, Value.int IntKind.i64 0] 33)) nd
    generalize Value.agg #[Value.int IntKind.i64 1, Value.int IntKind.i64 0, Value.int IntKind.i64 0, Value.int IntKind.i64 0, Value.int IntKind.i64 0, Value.int IntKind.i64 0] = dd0
    generalize Value.agg #[Value.int IntKind.i64 1, Value.int IntKind.i64 0, Value.int IntKind.i64 0, Value.int IntKind.i64 (-1), Value.int IntKind.i64 1, Value.int IntKind.i64 0] = dd1
    generalize Value.agg #[Value.int IntKind.i64 1, Value.int IntKind.i64 0, Value.int IntKind.i64 0, Value.int IntKind.i64 1, Value.int IntKind.i64 0, Value.int IntKind.i64 0] = dd2
    generalize Value.agg #[Value.int IntKind.i64 (-1), Value.int IntKind.i64 1, Value.int IntKind.i64 0, Value.int IntKind.i64 1, Value.int IntKind.i64 0, Value.int IntKind.i64 0] = dd3
    generalize Value.agg #[Value.int IntKind.i64 0, Value.int IntKind.i64 0, Value.int IntKind.i64 0, Value.int IntKind.i64 1, Value.int IntKind.i64 0, Value.int IntKind.i64 0] = dd4
    generalize Value.agg #[Value.int IntKind.i64 1, Value.int IntKind.i64 (-1), Value.int IntKind.i64 0, Value.int IntKind.i64 1, Value.int IntKind.i64 0, Value.int IntKind.i64 0] = dd5
    generalize Value.agg #[Value.int IntKind.i64 (-1), Value.int IntKind.i64 0, Value.int IntKind.i64 0, Value.int IntKind.i64 1, Value.int IntKind.i64 0, Value.int IntKind.i64 0] = dd6
    generalize Value.agg #[Value.int IntKind.i64 (-1), Value.int IntKind.i64 0, Value.int IntKind.i64 0, Value.int IntKind.i64 (-1), Value.int IntKind.i64 1, Value.int IntKind.i64 0] = dd7
    generalize Value.agg #[Value.int IntKind.i64 1, Value.int IntKind.i64 0, Value.int IntKind.i64 0] = dd8
    generalize Value.agg #[Value.int IntKind.i64 (-1), Value.int IntKind.i64 1, Value.int IntKind.i64 0] = dd9
    generalize Value.agg #[Value.int IntKind.i64 1, Value.int IntKind.i64 (-1), Value.int IntKind.i64 0] = dd10
    generalize Value.agg #[Value.int IntKind.i64 (-1), Value.int IntKind.i64 0, Value.int IntKind.i64 0] = dd11
    clear HB BK101
    generalize World.drewN (w7.alloc (Obj.cells #[Value.int IntKind.i64 1, Value.int IntKind.i64 0, Value.int IntKind.i64 0, Value.int IntKind.i64 0, Value.int IntKind.i64 0, Value.int IntKind.i64 0, Value.int IntKind.i64 1, Value.int IntKind.i64 0, Value.int IntKind.i64 0, Value.int IntKind.i64 (-1), Value.int IntKind.i64 1, Value.int IntKind.i64 0, Value.int IntKind.i64 1, Value.int IntKind.i64 0, Value.int IntKind.i64 0, Value.int IntKind.i64 1, Value.int IntKind.i64 0, Value.int IntKind.i64 0, Value.int IntKind.i64 (-1), Value.int IntKind.i64 1, Value.int IntKind.i64 0, Value.int IntKind.i64 1, Value.int IntKind.i64 0, Value.int IntKind.i64 0, Value.int IntKind.i64 0, Value.int IntKind.i64 0, Value.int IntKind.i64 0, Value.int IntKind.i64 1, Value.int IntKind.i64 0, Value.int IntKind.i64 0, Value.int IntKind.i64 1, Value.int IntKind.i64 (-1), Value.int IntKind.i64 0, Value.int IntKind.i64 1, Value.int IntKind.i64 0, Value.int IntKind.i64 0, Value.int IntKind.i64 (-1), Value.int IntKind.i64 0, Value.int IntKind.i64 0, Value.int IntKind.i64 1, Value.int IntKind.i64 0, Value.int IntKind.i64 0, Value.int IntKind.i64 (-1), Value.int IntKind.i64 0, Value.int IntKind.i64 0, Value.int IntKind.i64 (-1), Value.int IntKind.i64 1, Value.int IntKind.i64 0] 33)) nd = w8 at hC hB8 hK8 ⊢
    generalize w7.heap.size = gs at hC ⊢
    have HB := zpS hB8
    have BK101 := zpS hK8
    clear hB8 hK8
    rw [show lv8 = y102 from Ny102.out.symm] at hC
    have p106 : 0 ≤ ((ji3) : Int) := of_decide_eq_true (by first | (with_reducible assumption) | assumption)
    have q106 : (ji3) < (y102.length : Int) := of_decide_eq_true (by first | (with_reducible assumption) | assumption)
    have q106' : (ji3) < ((8 : Nat) : Int) := by rw [← hC.1]; exact q106
    obtain ⟨ad106, e106, hx106_0, hx106_1, hx106_2, hx106_3, hx106_4, hx106_5⟩ := zuR hC (ji3) p106 q106'
    obtain rfl : (⟨gs, 0, none⟩ : Addr) = ad106 := (by injection e106)
    first | simp only [zyK] at hx106_0 hx106_1 hx106_2 hx106_3 hx106_4 hx106_5 | simp only [add_at] at hx106_0 hx106_1 hx106_2 hx106_3 hx106_4 hx106_5 | simp only [Addr.add, Nat.zero_add] at hx106_0 hx106_1 hx106_2 hx106_3 hx106_4 hx106_5 | skip
    replace p106 := eq_true p106
    replace q106' := eq_true q106'
    have q106'' : (ji3 < 8) = True := q106'
    have hcz14_0 : ∀ cs : Array Value, (w8.alloc (Obj.cells cs 33)).cell? ⟨gb101, 0, none⟩ = some (.int .i64 0) := fun cs => (zzS (zqY BK101.out _) 0).trans rfl
    have hfz14_0 : ∀ cs : Array Value, (w8.alloc (Obj.cells cs 33)).frozen? ⟨gb101, 0, none⟩ = false := fun cs => zjF (zqY BK101.out _) 0
    have hcz14_1 : ∀ cs : Array Value, (w8.alloc (Obj.cells cs 33)).cell? ⟨gb101, 1, none⟩ = some (.int .i64 0) := fun cs => (zzS (zqY BK101.out _) 1).trans rfl
    have hfz14_1 : ∀ cs : Array Value, (w8.alloc (Obj.cells cs 33)).frozen? ⟨gb101, 1, none⟩ = false := fun cs => zjF (zqY BK101.out _) 1
    have hcz14_2 : ∀ cs : Array Value, (w8.alloc (Obj.cells cs 33)).cell? ⟨gb101, 2, none⟩ = some (.int .i64 0) := fun cs => (zzS (zqY BK101.out _) 2).trans rfl
    have hfz14_2 : ∀ cs : Array Value, (w8.alloc (Obj.cells cs 33)).frozen? ⟨gb101, 2, none⟩ = false := fun cs => zjF (zqY BK101.out _) 2
    have hcz14_3 : ∀ cs : Array Value, (w8.alloc (Obj.cells cs 33)).cell? ⟨gb101, 3, none⟩ = some (.int .i64 0) := fun cs => (zzS (zqY BK101.out _) 3).trans rfl
    have hfz14_3 : ∀ cs : Array Value, (w8.alloc (Obj.cells cs 33)).frozen? ⟨gb101, 3, none⟩ = false := fun cs => zjF (zqY BK101.out _) 3
    have hcz14_4 : ∀ cs : Array Value, (w8.alloc (Obj.cells cs 33)).cell? ⟨gb101, 4, none⟩ = some (.int .i64 0) := fun cs => (zzS (zqY BK101.out _) 4).trans rfl
    have hfz14_4 : ∀ cs : Array Value, (w8.alloc (Obj.cells cs 33)).frozen? ⟨gb101, 4, none⟩ = false := fun cs => zjF (zqY BK101.out _) 4
    have hcz14_5 : ∀ cs : Array Value, (w8.alloc (Obj.cells cs 33)).cell? ⟨gb101, 5, none⟩ = some (.int .i64 0) := fun cs => (zzS (zqY BK101.out _) 5).trans rfl
    have hfz14_5 : ∀ cs : Array Value, (w8.alloc (Obj.cells cs 33)).frozen? ⟨gb101, 5, none⟩ = false := fun cs => zjF (zqY BK101.out _) 5
    have hnb : gb101 ≠ w8.heap.size := Nat.ne_of_lt (zmN BK101.out)
    have hnc : w8.heap.size ≠ gb101 := fun e => hnb e.symm
    have GE107 := zpS (zuA HB.out)
    go_wp2
    refine bodyPost_ret (results_cell_row rfl _ _ gb101 33 #[.int .i64 ((zdH y102 (ji3)).f0.f0), .int .i64 ((zdH y102 (ji3)).f0.f1), .int .i64 ((zdH y102 (ji3)).f0.f2), .int .i64 ((zdH y102 (ji3)).f1.f0), .int .i64 ((zdH y102 (ji3)).f1.f1), .int .i64 ((zdH y102 (ji3)).f1.f2)] (0, 0) _ rfl (by (with_reducible repeat (first | apply zuW | apply ztN | apply zqY)); refine zlL (cs := #[.int .i64 ((zdH y102 (ji3)).f0.f0), .int .i64 ((zdH y102 (ji3)).f0.f1), .int .i64 ((zdH y102 (ji3)).f0.f2), .int .i64 ((zdH y102 (ji3)).f1.f0), .int .i64 ((zdH y102 (ji3)).f1.f1), .int .i64 0]) ?_ 5 _ rfl; (with_reducible repeat (first | apply zuW | apply ztN | apply zqY)); refine zlL (cs := #[.int .i64 ((zdH y102 (ji3)).f0.f0), .int .i64 ((zdH y102 (ji3)).f0.f1), .int .i64 ((zdH y102 (ji3)).f0.f2), .int .i64 ((zdH y102 (ji3)).f1.f0), .int .i64 0, .int .i64 0]) ?_ 4 _ rfl; (with_reducible repeat (first | apply zuW | apply ztN | apply zqY)); refine zlL (cs := #[.int .i64 ((zdH y102 (ji3)).f0.f0), .int .i64 ((zdH y102 (ji3)).f0.f1), .int .i64 ((zdH y102 (ji3)).f0.f2), .int .i64 0, .int .i64 0, .int .i64 0]) ?_ 3 _ rfl; (with_reducible repeat (first | apply zuW | apply ztN | apply zqY)); refine zlL (cs := #[.int .i64 ((zdH y102 (ji3)).f0.f0), .int .i64 ((zdH y102 (ji3)).f0.f1), .int .i64 0, .int .i64 0, .int .i64 0, .int .i64 0]) ?_ 2 _ rfl; (with_reducible repeat (first | apply zuW | apply ztN | apply zqY)); refine zlL (cs := #[.int .i64 ((zdH y102 (ji3)).f0.f0), .int .i64 0, .int .i64 0, .int .i64 0, .int .i64 0, .int .i64 0]) ?_ 1 _ rfl; (with_reducible repeat (first | apply zuW | apply ztN | apply zqY)); refine zlL (cs := #[.int .i64 0, .int .i64 0, .int .i64 0, .int .i64 0, .int .i64 0, .int .i64 0]) ?_ 0 _ rfl; (with_reducible repeat (first | apply zuW | apply ztN | apply zqY)); exact BK101.out) Tryd.underlying33 rfl (by kernel_rfl)) rfl ?_
    exact ⟨by first | rfl | (simp [ziS, znJ] <;> rfl) | (simp only [← hji3]; first | rfl | (simp [ziS, znJ] <;> rfl)) | (simp [*, ziS, znJ] <;> rfl), bb_⟩
  ·rw [if_neg c5] at H
   exact absurd H (by simp)
 ·rw [if_neg c4] at H
  exact absurd H (by simp)

def zhW.f (k : Nat) (a0_0 : Int) (a0_1 : Int) (a0_2 : Int) (a1_0 : Int) (a1_1 : Int) (a1_2 : Int) : Option (Int × Int × Int) := (zhR.f k (wrap64 ((wrap64 (a0_0 * a1_0)) + (wrap64 ((wrap64 (2 * a0_1)) * a1_1)))) (wrap64 ((wrap64 (a0_0 * a1_1)) + (wrap64 (a0_1 * a1_0)))) (wrap64 (a0_2 + a1_2))).bind fun bt163 => (some (bt163.1, bt163.2.1, bt163.2.2))
theorem zhW.mono : ∀ a0 a1 a2 a3 a4 a5 k, LeO (zhW.f k a0 a1 a2 a3 a4 a5) (zhW.f (k + 1) a0 a1 a2 a3 a4 a5) := by
 intro a0 a1 a2 a3 a4 a5 k
 unfold zhW.f
 repeat' first
   | (with_reducible exact zhR.mono _ _ _ _)
   | (with_reducible exact LeO.refl _)
   | (with_reducible exact LeO.none _)
   | (with_reducible refine LeO.ite ?_ ?_)
   | (with_reducible refine LeO.bind ?_ (fun _ => ?_))
   | exact zhR.mono _ _ _ _
   | exact LeO.none _
   | refine LeO.ite ?_ ?_
   | refine LeO.bind ?_ (fun _ => ?_)
set_option maxHeartbeats 8000000 in
set_option maxRecDepth 100000 in
theorem zhW.calls (k : Nat) (a0_0 : Int) (a0_1 : Int) (a0_2 : Int) (a1_0 : Int) (a1_1 : Int) (a1_2 : Int) (r1 : Int) (r2 : Int) (r3 : Int) (w : World) (h : zhW.f k a0_0 a0_1 a0_2 a1_0 a1_1 a1_2 = some (r1, r2, r3)) :
  Calls Tryd.prog 69 #[.agg #[.int .i64 a0_0, .int .i64 a0_1, .int .i64 a0_2], .agg #[.int .i64 a1_0, .int .i64 a1_1, .int .i64 a1_2]] w fun e w' => e = .returned (.agg #[.int .i64 r1, .int .i64 r2, .int .i64 r3]) ∧ Below w.heap.size w w' := by
 have hu59 := Tryd.underlying59
 have HB := zpS (Below.refl w.heap.size w)
 have H : ((zhR.f k (wrap64 ((wrap64 (a0_0 * a1_0)) + (wrap64 ((wrap64 (2 * a0_1)) * a1_1)))) (wrap64 ((wrap64 (a0_0 * a1_1)) + (wrap64 (a0_1 * a1_0)))) (wrap64 (a0_2 + a1_2))).bind fun bt163 => (some (bt163.1, bt163.2.1, bt163.2.2))) = some (r1, r2, r3) := h
 clear h
 replace H := Option.bind_eq_some_iff.mp H
 obtain ⟨⟨t163, t164, t165⟩, A30, H⟩ := H
 replace H : (some (t163, t164, t165)) = some (r1, r2, r3) := H
 have A3 := zpS A30
 clear A30
 simp only [Option.some.injEq, Prod.mk.injEq] at H
 obtain ⟨rfl, rfl, rfl⟩ := H
 go_enter Tryd.func69, Tryd.ntmps69
 go_wp2_with (first | ((with_reducible refine zpZ (N := 2) rfl ?_); refine bx_ 2 #[.int .i64 a0_0, .int .i64 a0_1, .int .i64 a0_2] 59 ?_; intro gb160 hg w4 hbox hb; have n0_ := (ns_ hb); have n1_ := zpS (hbox); have n2_ := (ng_ hg); have n3_ := n2_; clear HB; have HB := n0_; have BK160 := n1_; have GW160 := n2_; have GE160 := n3_; clear n0_ n1_ n2_ n3_; clear hb hbox hg) | ((with_reducible refine zpZ (N := 3) rfl ?_); refine bx_ 3 #[.int .i64 a1_0, .int .i64 a1_1, .int .i64 a1_2] 59 ?_; intro gb161 hg w5 hbox hb; have n0_ := zpS (zgM (g := gb160) (o := .cells #[.int .i64 a0_0, .int .i64 a0_1, .int .i64 a0_2] 59 (0, 0)) bk_ hb); have n1_ := (ns_ hb); have n2_ := zpS (hbox); have n3_ := (ng_ hg); have n4_ := n3_; have n5_ := zpS ((by rw [hg]; exact Nat.ne_of_lt (zmN (g := gb160) (o := .cells #[.int .i64 a0_0, .int .i64 a0_1, .int .i64 a0_2] 59 (0, 0)) bk_) : gb160 ≠ gb161)); have n6_ := zpS ((by rw [hg]; exact Nat.ne_of_gt (zmN (g := gb160) (o := .cells #[.int .i64 a0_0, .int .i64 a0_1, .int .i64 a0_2] 59 (0, 0)) bk_) : gb161 ≠ gb160)); clear BK160; clear HB; have BK160 := n0_; have HB := n1_; have BK161 := n2_; have GW161 := n3_; have GE161 := n4_; have NB160_161 := n5_; have NB161_160 := n6_; clear n0_ n1_ n2_ n3_ n4_ n5_ n6_; clear hb hbox hg) | ((with_reducible refine zpZ (N := 4) rfl ?_); refine bx_ 4 #[.int .i64 0, .int .i64 0, .int .i64 0] 59 ?_; intro gb162 hg w6 hbox hb; have n0_ := zpS (zgM (g := gb160) (o := .cells #[.int .i64 a0_0, .int .i64 a0_1, .int .i64 a0_2] 59 (0, 0)) bk_ hb); have n1_ := zpS (zgM (g := gb161) (o := .cells #[.int .i64 a1_0, .int .i64 a1_1, .int .i64 a1_2] 59 (0, 0)) bk_ hb); have n2_ := (ns_ hb); have n3_ := zpS (hbox); have n4_ := (ng_ hg); have n5_ := n4_; have n6_ := zpS ((by rw [hg]; exact Nat.ne_of_lt (zmN (g := gb160) (o := .cells #[.int .i64 a0_0, .int .i64 a0_1, .int .i64 a0_2] 59 (0, 0)) bk_) : gb160 ≠ gb162)); have n7_ := zpS ((by rw [hg]; exact Nat.ne_of_gt (zmN (g := gb160) (o := .cells #[.int .i64 a0_0, .int .i64 a0_1, .int .i64 a0_2] 59 (0, 0)) bk_) : gb162 ≠ gb160)); have n8_ := zpS ((by rw [hg]; exact Nat.ne_of_lt (zmN (g := gb161) (o := .cells #[.int .i64 a1_0, .int .i64 a1_1, .int .i64 a1_2] 59 (0, 0)) bk_) : gb161 ≠ gb162)); have n9_ := zpS ((by rw [hg]; exact Nat.ne_of_gt (zmN (g := gb161) (o := .cells #[.int .i64 a1_0, .int .i64 a1_1, .int .i64 a1_2] 59 (0, 0)) bk_) : gb162 ≠ gb161)); clear BK160; clear BK161; clear HB; have BK160 := n0_; have BK161 := n1_; have HB := n2_; have BK162 := n3_; have GW162 := n4_; have GE162 := n5_; have NB160_162 := n6_; have NB162_160 := n7_; have NB161_162 := n8_; have NB162_161 := n9_; clear n0_ n1_ n2_ n3_ n4_ n5_ n6_ n7_ n8_ n9_; clear hb hbox hg; have hnb7 := NB160_161.out; have hnc7 := NB161_160.out; have hnb8 := NB160_162.out; have hnc8 := NB162_160.out; obtain ⟨hcz9_0, hcz9_1, hcz9_2⟩ := zdT BK160.out; obtain ⟨hfz9_0, hfz9_1, hfz9_2⟩ := zqD BK160.out; have hnb10 := NB161_162.out; have hnc10 := NB162_161.out; obtain ⟨hcz11_0, hcz11_1, hcz11_2⟩ := zdT BK161.out; obtain ⟨hfz11_0, hfz11_1, hfz11_2⟩ := zqD BK161.out) | ((with_reducible refine zgK (f := 80) rfl ?_); refine zqQ (some 34) rfl rfl Tryd.func80 (by kernel_rfl) rfl #[.agg #[.int .i64 (wrap64 ((wrap64 (a0_0 * a1_0)) + (wrap64 ((wrap64 (2 * a0_1)) * a1_1)))), .int .i64 (wrap64 ((wrap64 (a0_0 * a1_1)) + (wrap64 (a0_1 * a1_0)))), .int .i64 (wrap64 (a0_2 + a1_2))]] rfl (by (try simp only [List.map_toArray, List.map_cons, List.map_nil]); first | done | rfl | (simp only [List.length_drop, List.length_take]; rfl)) ?_; (with_reducible refine (zhR.calls k (wrap64 ((wrap64 (a0_0 * a1_0)) + (wrap64 ((wrap64 (2 * a0_1)) * a1_1)))) (wrap64 ((wrap64 (a0_0 * a1_1)) + (wrap64 (a0_1 * a1_0)))) (wrap64 (a0_2 + a1_2)) t163 t164 t165 _ A3.out).mono ?_); rintro e w12 ⟨rfl, hb⟩; refine ⟨_, rfl, ?_⟩; have n0_ := zpS (zgM (g := gb160) (o := .cells #[.int .i64 a0_0, .int .i64 a0_1, .int .i64 a0_2] 59 (0, 0)) bk_ hb); have n1_ := zpS (zgM (g := gb161) (o := .cells #[.int .i64 a1_0, .int .i64 a1_1, .int .i64 a1_2] 59 (0, 0)) bk_ hb); have n2_ := zpS (zgM (g := gb162) (o := .cells #[.int .i64 0, .int .i64 0, .int .i64 0] 59 (0, 0)) bk_ hb); have n3_ := (ns_ hb); clear BK160; clear BK161; clear BK162; clear HB; have BK160 := n0_; have BK161 := n1_; have BK162 := n2_; have HB := n3_; clear n0_ n1_ n2_ n3_; (try clear hb); (try clear hb2); obtain ⟨hcz13_0, hcz13_1, hcz13_2⟩ := zdT BK162.out; obtain ⟨hfz13_0, hfz13_1, hfz13_2⟩ := zqD BK162.out))
 refine bodyPost_ret (results_cell_row rfl _ _ gb162 59 #[.int .i64 t163, .int .i64 t164, .int .i64 t165] (0, 0) _ rfl (by (with_reducible repeat (first | apply zuW | apply ztN | apply zqY)); refine zlL (cs := #[.int .i64 t163, .int .i64 t164, .int .i64 0]) ?_ 2 _ rfl; (with_reducible repeat (first | apply zuW | apply ztN | apply zqY)); refine zlL (cs := #[.int .i64 t163, .int .i64 0, .int .i64 0]) ?_ 1 _ rfl; (with_reducible repeat (first | apply zuW | apply ztN | apply zqY)); refine zlL (cs := #[.int .i64 0, .int .i64 0, .int .i64 0]) ?_ 0 _ rfl; (with_reducible repeat (first | apply zuW | apply ztN | apply zqY)); exact BK162.out) Tryd.underlying59 rfl (by kernel_rfl)) rfl ?_
 exact ⟨by first | rfl | (simp [ziS, znJ] <;> rfl) | (simp [*, ziS, znJ] <;> rfl), bb_⟩

end Go.Proofs.YtmmedohdjfhmnaaDoor.PFnExactPolygonText
