-- Printed for this claim by this session's program pp.py, which drives the kit's print with additions. Not trusted: Lean checks it.
import Derived.Test.YtmmedohdjfhmnaaDoorV1PFnExactPolygonTextx0
import Derived.Test.YtmmedohdjfhmnaaDoorV1PFnExactPolygonTextx11
namespace Go.Proofs.YtmmedohdjfhmnaaDoor.PFnExactPolygonText
open Go.RowKit Go.Proofs.YtmmedohdjfhmnaaDoorW.PrintWords Go.Proofs.YtmmedohdjfhmnaaDoorW.PrintLast Go.Proofs.YtmmedohdjfhmnaaDoorW.PrintMore
attribute [local go_sem] zbB ziC zrC zhD znE zuB znH zkT   -- for this text's walks alone
set_option linter.unusedVariables false
set_option linter.unusedSimpArgs false

def zpR.f (k : Nat) (a0_0 : Int) (a0_1 : Int) (a0_2 : Int) (a1_0 : Int) (a1_1 : Int) (a1_2 : Int) : Option (Int × Int × Int) := (zjD.f a1_0 a1_1 a1_2).bind fun bt327 => ((zjL.f k a0_0 a0_1 a0_2 bt327.1 bt327.2.1 bt327.2.2).bind fun bt330 => (some (bt330.1, bt330.2.1, bt330.2.2)))
theorem zpR.mono : ∀ a0 a1 a2 a3 a4 a5 k, LeO (zpR.f k a0 a1 a2 a3 a4 a5) (zpR.f (k + 1) a0 a1 a2 a3 a4 a5) := by
 intro a0 a1 a2 a3 a4 a5 k
 unfold zpR.f
 repeat' first
   | (with_reducible exact zjL.mono _ _ _ _ _ _ _)
   | (with_reducible exact LeO.refl _)
   | (with_reducible exact LeO.none _)
   | (with_reducible refine LeO.ite ?_ ?_)
   | (with_reducible refine LeO.bind ?_ (fun _ => ?_))
   | exact zjL.mono _ _ _ _ _ _ _
   | exact LeO.none _
   | refine LeO.ite ?_ ?_
   | refine LeO.bind ?_ (fun _ => ?_)
set_option maxHeartbeats 8000000 in
set_option maxRecDepth 100000 in
theorem zpR.calls (k : Nat) (a0_0 : Int) (a0_1 : Int) (a0_2 : Int) (a1_0 : Int) (a1_1 : Int) (a1_2 : Int) (r1 : Int) (r2 : Int) (r3 : Int) (w : World) (h : zpR.f k a0_0 a0_1 a0_2 a1_0 a1_1 a1_2 = some (r1, r2, r3)) :
  Calls Tryd.prog 70 #[.agg #[.int .i64 a0_0, .int .i64 a0_1, .int .i64 a0_2], .agg #[.int .i64 a1_0, .int .i64 a1_1, .int .i64 a1_2]] w fun e w' => e = .returned (.agg #[.int .i64 r1, .int .i64 r2, .int .i64 r3]) ∧ Below w.heap.size w w' := by
 have hu31 := Tryd.underlying31
 have HB := zpS (Below.refl w.heap.size w)
 have H : ((zjD.f a1_0 a1_1 a1_2).bind fun bt327 => ((zjL.f k a0_0 a0_1 a0_2 bt327.1 bt327.2.1 bt327.2.2).bind fun bt330 => (some (bt330.1, bt330.2.1, bt330.2.2)))) = some (r1, r2, r3) := h
 clear h
 replace H := Option.bind_eq_some_iff.mp H
 obtain ⟨⟨t327, t328, t329⟩, A30, H⟩ := H
 replace H : ((zjL.f k a0_0 a0_1 a0_2 t327 t328 t329).bind fun bt330 => (some (bt330.1, bt330.2.1, bt330.2.2))) = some (r1, r2, r3) := H
 have A3 := zpS A30
 clear A30
 replace H := Option.bind_eq_some_iff.mp H
 obtain ⟨⟨t330, t331, t332⟩, A40, H⟩ := H
 replace H : (some (t330, t331, t332)) = some (r1, r2, r3) := H
 have A4 := zpS A40
 clear A40
 simp only [Option.some.injEq, Prod.mk.injEq] at H
 obtain ⟨rfl, rfl, rfl⟩ := H
 go_enter Tryd.func70, Tryd.ntmps70
 try go_wp2_with (first | ((with_reducible refine zpZ (N := 2) rfl ?_); refine bx_ 2 #[.int .i64 a0_0, .int .i64 a0_1, .int .i64 a0_2] 31 ?_; intro gb324 hg w5 hbox hb; have n0_ := (ns_ hb); have n1_ := zpS (hbox); have n2_ := (ng_ hg); have n3_ := n2_; clear HB; have HB := n0_; have BK324 := n1_; have GW324 := n2_; have GE324 := n3_; clear n0_ n1_ n2_ n3_; clear hb hbox hg) | ((with_reducible refine zpZ (N := 3) rfl ?_); refine bx_ 3 #[.int .i64 a1_0, .int .i64 a1_1, .int .i64 a1_2] 31 ?_; intro gb325 hg w6 hbox hb; have n0_ := zpS (zgM (g := gb324) (o := .cells #[.int .i64 a0_0, .int .i64 a0_1, .int .i64 a0_2] 31 (0, 0)) bk_ hb); have n1_ := (ns_ hb); have n2_ := zpS (hbox); have n3_ := (ng_ hg); have n4_ := n3_; have n5_ := zpS ((by rw [hg]; exact Nat.ne_of_lt (zmN (g := gb324) (o := .cells #[.int .i64 a0_0, .int .i64 a0_1, .int .i64 a0_2] 31 (0, 0)) bk_) : gb324 ≠ gb325)); have n6_ := zpS ((by rw [hg]; exact Nat.ne_of_gt (zmN (g := gb324) (o := .cells #[.int .i64 a0_0, .int .i64 a0_1, .int .i64 a0_2] 31 (0, 0)) bk_) : gb325 ≠ gb324)); clear BK324; clear HB; have BK324 := n0_; have HB := n1_; have BK325 := n2_; have GW325 := n3_; have GE325 := n4_; have NB324_325 := n5_; have NB325_324 := n6_; clear n0_ n1_ n2_ n3_ n4_ n5_ n6_; clear hb hbox hg) | ((with_reducible refine zpZ (N := 4) rfl ?_); refine bx_ 4 #[.int .i64 0, .int .i64 0, .int .i64 0] 31 ?_; intro gb326 hg w7 hbox hb; have n0_ := zpS (zgM (g := gb324) (o := .cells #[.int .i64 a0_0, .int .i64 a0_1, .int .i64 a0_2] 31 (0, 0)) bk_ hb); have n1_ := zpS (zgM (g := gb325) (o := .cells #[.int .i64 a1_0, .int .i64 a1_1, .int .i64 a1_2] 31 (0, 0)) bk_ hb); have n2_ := (ns_ hb); have n3_ := zpS (hbox); have n4_ := (ng_ hg); have n5_ := n4_; have n6_ := zpS ((by rw [hg]; exact Nat.ne_of_lt (zmN (g := gb324) (o := .cells #[.int .i64 a0_0, .int .i64 a0_1, .int .i64 a0_2] 31 (0, 0)) bk_) : gb324 ≠ gb326)); have n7_ := zpS ((by rw [hg]; exact Nat.ne_of_gt (zmN (g := gb324) (o := .cells #[.int .i64 a0_0, .int .i64 a0_1, .int .i64 a0_2] 31 (0, 0)) bk_) : gb326 ≠ gb324)); have n8_ := zpS ((by rw [hg]; exact Nat.ne_of_lt (zmN (g := gb325) (o := .cells #[.int .i64 a1_0, .int .i64 a1_1, .int .i64 a1_2] 31 (0, 0)) bk_) : gb325 ≠ gb326)); have n9_ := zpS ((by rw [hg]; exact Nat.ne_of_gt (zmN (g := gb325) (o := .cells #[.int .i64 a1_0, .int .i64 a1_1, .int .i64 a1_2] 31 (0, 0)) bk_) : gb326 ≠ gb325)); clear BK324; clear BK325; clear HB; have BK324 := n0_; have BK325 := n1_; have HB := n2_; have BK326 := n3_; have GW326 := n4_; have GE326 := n5_; have NB324_326 := n6_; have NB326_324 := n7_; have NB325_326 := n8_; have NB326_325 := n9_; clear n0_ n1_ n2_ n3_ n4_ n5_ n6_ n7_ n8_ n9_; clear hb hbox hg))
 have n0_ := zpS (ztN BK324.out)
 have n1_ := zpS (ztN BK325.out)
 have n2_ := zpS (ztN BK326.out)
 have n3_ := zpS (zvF HB.out)
 clear BK324
 clear BK325
 clear BK326
 clear HB
 have BK324 := n0_
 have BK325 := n1_
 have BK326 := n2_
 have HB := n3_
 clear n0_ n1_ n2_ n3_
 refine zpB (n := 5) (S := fun w' => w'.cell? ⟨gb324, 0, none⟩ = some (.int .i64 a0_0) ∧ w'.cell? ⟨gb324, 1, none⟩ = some (.int .i64 a0_1) ∧ w'.cell? ⟨gb324, 2, none⟩ = some (.int .i64 a0_2) ∧ w'.cell? ⟨gb325, 0, none⟩ = some (.int .i64 a1_0) ∧ w'.cell? ⟨gb325, 1, none⟩ = some (.int .i64 a1_1) ∧ w'.cell? ⟨gb325, 2, none⟩ = some (.int .i64 a1_2)) (ds := []) #[false, false, false, false, false] (by kernel_rfl) rfl rfl ⟨(zzS BK324.out 0).trans rfl, (zzS BK324.out 1).trans rfl, (zzS BK324.out 2).trans rfl, (zzS BK325.out 0).trans rfl, (zzS BK325.out 1).trans rfl, (zzS BK325.out 2).trans rfl⟩ (fun hHeld => ?_)
 generalize w7.drew = w8 at BK324 BK325 BK326 HB hHeld ⊢
 refine take_ (i := 0) (N := some 5) (v := ?_) (a' := ?_) (bl_ 5 1) rfl rfl (by kernel_rfl) (fun _ _ _ h => h) (Or.inl ⟨by rfl, ?_⟩) hHeld ?_ ?_
 rotate_left
 ·rintro w' ⟨s0, s1, s2, s3, s4, s5⟩
  go_simp
  with_reducible rfl
 rotate_left
 ·simp only [Act.put, List.setIfInBounds_toArray, List.set_cons_zero, List.set_cons_succ, zcM, ziJ]
  rfl
 refine take_ (i := 1) (N := some 6) (v := ?_) (a' := ?_) (bl_ 5 3) rfl rfl (by kernel_rfl) (fun _ _ _ h => h) (Or.inl ⟨by rfl, ?_⟩) hHeld ?_ ?_
 rotate_left
 ·rintro w' ⟨s0, s1, s2, s3, s4, s5⟩
  go_simp
  with_reducible rfl
 rotate_left
 ·simp only [Act.put, List.setIfInBounds_toArray, List.set_cons_zero, List.set_cons_succ, zcM, ziJ]
  rfl
 refine zdC (i := 2) (N := some 7) (bl_ 5 7) rfl rfl (by kernel_rfl) (by decide) (fun K hK => ?_)
 refine zqW Tryd.func71 (by kernel_rfl) rfl #[.agg #[.int .i64 a1_0, .int .i64 a1_1, .int .i64 a1_2]] (by rfl) rfl rfl (by (try simp only [List.map_toArray, List.map_cons, List.map_nil]); first | done | rfl | (simp only [List.length_drop, List.length_take]; rfl)) ?_
 with_reducible refine (zjD.calls a1_0 a1_1 a1_2 t327 t328 t329 _ A3.out).mono ?_
 rintro e w9 ⟨rfl, hb⟩
 refine ⟨_, rfl, ?_⟩
 have n0_ := zpS (zgM (g := gb324) (o := .cells #[.int .i64 a0_0, .int .i64 a0_1, .int .i64 a0_2] 31 (0, 0)) bk_ hb)
 have n1_ := zpS (zgM (g := gb325) (o := .cells #[.int .i64 a1_0, .int .i64 a1_1, .int .i64 a1_2] 31 (0, 0)) bk_ hb)
 have n2_ := zpS (zgM (g := gb326) (o := .cells #[.int .i64 0, .int .i64 0, .int .i64 0] 31 (0, 0)) bk_ hb)
 have n3_ := (ns_ hb)
 clear BK324
 clear BK325
 clear BK326
 clear HB
 have BK324 := n0_
 have BK325 := n1_
 have BK326 := n2_
 have HB := n3_
 clear n0_ n1_ n2_ n3_
 (try clear hb)
 (try clear hb2)
 (try clear hk)
 (try clear hi)
 refine hK.out _ _ ⟨(zzS BK324.out 0).trans rfl, (zzS BK324.out 1).trans rfl, (zzS BK324.out 2).trans rfl, (zzS BK325.out 0).trans rfl, (zzS BK325.out 1).trans rfl, (zzS BK325.out 2).trans rfl⟩ (fun hHeld => ?_)
 clear hK K
 refine zaN (a' := ?_) ?_ ?_
 rotate_left
 ·show Act.put _ (some 7) _ = _
  simp only [Act.put, List.setIfInBounds_toArray, List.set_cons_zero, List.set_cons_succ, zcM, ziJ]
  rfl
 refine zdC (i := 3) (N := some 8) (bl_ 5 15) rfl rfl (by kernel_rfl) (by decide) (fun K hK => ?_)
 refine zqW Tryd.func73 (by kernel_rfl) rfl #[.agg #[.int .i64 a0_0, .int .i64 a0_1, .int .i64 a0_2], .agg #[.int .i64 t327, .int .i64 t328, .int .i64 t329]] (by rfl) rfl rfl (by (try simp only [List.map_toArray, List.map_cons, List.map_nil]); first | done | rfl | (simp only [List.length_drop, List.length_take]; rfl)) ?_
 with_reducible refine (zjL.calls k a0_0 a0_1 a0_2 t327 t328 t329 t330 t331 t332 _ A4.out).mono ?_
 rintro e w10 ⟨rfl, hb⟩
 refine ⟨_, rfl, ?_⟩
 have n0_ := zpS (zgM (g := gb324) (o := .cells #[.int .i64 a0_0, .int .i64 a0_1, .int .i64 a0_2] 31 (0, 0)) bk_ hb)
 have n1_ := zpS (zgM (g := gb325) (o := .cells #[.int .i64 a1_0, .int .i64 a1_1, .int .i64 a1_2] 31 (0, 0)) bk_ hb)
 have n2_ := zpS (zgM (g := gb326) (o := .cells #[.int .i64 0, .int .i64 0, .int .i64 0] 31 (0, 0)) bk_ hb)
 have n3_ := (ns_ hb)
 clear BK324
 clear BK325
 clear BK326
 clear HB
 have BK324 := n0_
 have BK325 := n1_
 have BK326 := n2_
 have HB := n3_
 clear n0_ n1_ n2_ n3_
 (try clear hb)
 (try clear hb2)
 (try clear hk)
 (try clear hi)
 refine hK.out _ _ ⟨(zzS BK324.out 0).trans rfl, (zzS BK324.out 1).trans rfl, (zzS BK324.out 2).trans rfl, (zzS BK325.out 0).trans rfl, (zzS BK325.out 1).trans rfl, (zzS BK325.out 2).trans rfl⟩ (fun hHeld => ?_)
 clear hK K
 refine zaN (a' := ?_) ?_ ?_
 rotate_left
 ·show Act.put _ (some 8) _ = _
  simp only [Act.put, List.setIfInBounds_toArray, List.set_cons_zero, List.set_cons_succ, zcM, ziJ]
  rfl
 refine zdC (i := 4) (N := none) (bl_ 5 31) rfl rfl (by kernel_rfl) (by decide) (fun K hK => ?_)
 have hs11 : w10.cell? ⟨gb326, 0, none⟩ = some (.int .i64 0) := (zzS BK326.out 0).trans rfl
 have hfs11 := zjF BK326.out 0
 have hns11_0 := NB324_326.out
 have hns11_1 := NB325_326.out
 have hms11_0 := NB326_324.out
 have hms11_1 := NB326_325.out
 have hs12 : w10.cell? ⟨gb326, 1, none⟩ = some (.int .i64 0) := (zzS BK326.out 1).trans rfl
 have hfs12 := zjF BK326.out 1
 have hns12_0 := NB324_326.out
 have hns12_1 := NB325_326.out
 have hms12_0 := NB326_324.out
 have hms12_1 := NB326_325.out
 have hs13 : w10.cell? ⟨gb326, 2, none⟩ = some (.int .i64 0) := (zzS BK326.out 2).trans rfl
 have hfs13 := zjF BK326.out 2
 have hns13_0 := NB324_326.out
 have hns13_1 := NB325_326.out
 have hms13_0 := NB326_324.out
 have hms13_1 := NB326_325.out
 refine skip_ (w1 := ?_) (by rfl) rfl ?_ ?_
 rotate_left
 ·go_simp
  rfl
 refine hK.out _ _ ⟨((zgQ (p := ⟨gb326, _, none⟩) NB324_326.out _).trans (((zgQ (p := ⟨gb326, _, none⟩) NB324_326.out _).trans (((zgQ (p := ⟨gb326, _, none⟩) NB324_326.out _).trans (hHeld.1)))))), ((zgQ (p := ⟨gb326, _, none⟩) NB324_326.out _).trans (((zgQ (p := ⟨gb326, _, none⟩) NB324_326.out _).trans (((zgQ (p := ⟨gb326, _, none⟩) NB324_326.out _).trans (hHeld.2.1)))))), ((zgQ (p := ⟨gb326, _, none⟩) NB324_326.out _).trans (((zgQ (p := ⟨gb326, _, none⟩) NB324_326.out _).trans (((zgQ (p := ⟨gb326, _, none⟩) NB324_326.out _).trans (hHeld.2.2.1)))))), ((zgQ (p := ⟨gb326, _, none⟩) NB325_326.out _).trans (((zgQ (p := ⟨gb326, _, none⟩) NB325_326.out _).trans (((zgQ (p := ⟨gb326, _, none⟩) NB325_326.out _).trans (hHeld.2.2.2.1)))))), ((zgQ (p := ⟨gb326, _, none⟩) NB325_326.out _).trans (((zgQ (p := ⟨gb326, _, none⟩) NB325_326.out _).trans (((zgQ (p := ⟨gb326, _, none⟩) NB325_326.out _).trans (hHeld.2.2.2.2.1)))))), ((zgQ (p := ⟨gb326, _, none⟩) NB325_326.out _).trans (((zgQ (p := ⟨gb326, _, none⟩) NB325_326.out _).trans (((zgQ (p := ⟨gb326, _, none⟩) NB325_326.out _).trans (hHeld.2.2.2.2.2))))))⟩ (fun hHeld => ?_)
 clear hK K
 refine znK (by kernel_rfl) ?_
 try go_wp2
 refine bodyPost_ret (results_cell_row rfl _ _ gb326 31 #[.int .i64 t330, .int .i64 t331, .int .i64 t332] (0, 0) _ rfl (by (with_reducible repeat (first | apply zuW | apply ztN | apply zqY)); refine zlL (cs := #[.int .i64 t330, .int .i64 t331, .int .i64 0]) ?_ 2 _ rfl; (with_reducible repeat (first | apply zuW | apply ztN | apply zqY)); refine zlL (cs := #[.int .i64 t330, .int .i64 0, .int .i64 0]) ?_ 1 _ rfl; (with_reducible repeat (first | apply zuW | apply ztN | apply zqY)); refine zlL (cs := #[.int .i64 0, .int .i64 0, .int .i64 0]) ?_ 0 _ rfl; (with_reducible repeat (first | apply zuW | apply ztN | apply zqY)); exact BK326.out) Tryd.underlying31 rfl (by kernel_rfl)) rfl ?_
 exact ⟨by first | rfl | (simp [ziS, znJ] <;> rfl) | (simp [*, ziS, znJ] <;> rfl), bb_⟩

def zdY.f (k : Nat) (a0_0 : Int) (a0_1 : Int) (a0_2 : Int) (a0_3 : Int) (a0_4 : Int) (a0_5 : Int) (a1_0 : Int) (a1_1 : Int) (a1_2 : Int) (a1_3 : Int) (a1_4 : Int) (a1_5 : Int) : Option (Int × Int × Int × Int × Int × Int) := (zpR.f k a0_0 a0_1 a0_2 a1_0 a1_1 a1_2).bind fun bt336 => ((zpR.f k a0_3 a0_4 a0_5 a1_3 a1_4 a1_5).bind fun bt339 => (some (bt336.1, bt336.2.1, bt336.2.2, bt339.1, bt339.2.1, bt339.2.2)))
theorem zdY.mono : ∀ a0 a1 a2 a3 a4 a5 a6 a7 a8 a9 a10 a11 k, LeO (zdY.f k a0 a1 a2 a3 a4 a5 a6 a7 a8 a9 a10 a11) (zdY.f (k + 1) a0 a1 a2 a3 a4 a5 a6 a7 a8 a9 a10 a11) := by
 intro a0 a1 a2 a3 a4 a5 a6 a7 a8 a9 a10 a11 k
 unfold zdY.f
 repeat' first
   | (with_reducible exact zpR.mono _ _ _ _ _ _ _)
   | (with_reducible exact LeO.refl _)
   | (with_reducible exact LeO.none _)
   | (with_reducible refine LeO.ite ?_ ?_)
   | (with_reducible refine LeO.bind ?_ (fun _ => ?_))
   | exact zpR.mono _ _ _ _ _ _ _
   | exact LeO.none _
   | refine LeO.ite ?_ ?_
   | refine LeO.bind ?_ (fun _ => ?_)
def zdY.T1 : Bool × List (List Nat × List Nat) := (true, [([], []), ([0], [0]), ([], []), ([2], [2]), ([1, 3], [1, 3]), ([], []), ([5], [5]), ([], []), ([7], [7]), ([6, 8, 4], [6, 8]), ([4, 9], [4, 9]), ([10, 9, 0, 1, 2, 3, 4, 5, 6, 7, 8, 9, 10], [10])])
def zdY.B1 : List Nat := [0, 1, 0, 4, 15, 0, 32, 0, 128, 511, 1023, 2047]
theorem zdY.tab1 : rtab .any (opsOf Tryd.f55 1) = zdY.T1 := by kernel_rfl
theorem zdY.bits1 : ztG zdY.T1.2 zdY.B1 = true := by kernel_rfl
set_option maxHeartbeats 8000000 in
set_option maxRecDepth 100000 in
theorem zdY.calls (k : Nat) (a0_0 : Int) (a0_1 : Int) (a0_2 : Int) (a0_3 : Int) (a0_4 : Int) (a0_5 : Int) (a1_0 : Int) (a1_1 : Int) (a1_2 : Int) (a1_3 : Int) (a1_4 : Int) (a1_5 : Int) (r1 : Int) (r2 : Int) (r3 : Int) (r4 : Int) (r5 : Int) (r6 : Int) (w : World) (h : zdY.f k a0_0 a0_1 a0_2 a0_3 a0_4 a0_5 a1_0 a1_1 a1_2 a1_3 a1_4 a1_5 = some (r1, r2, r3, r4, r5, r6)) :
  Calls Tryd.prog 55 #[.agg #[.int .i64 a0_0, .int .i64 a0_1, .int .i64 a0_2, .int .i64 a0_3, .int .i64 a0_4, .int .i64 a0_5], .agg #[.int .i64 a1_0, .int .i64 a1_1, .int .i64 a1_2, .int .i64 a1_3, .int .i64 a1_4, .int .i64 a1_5]] w fun e w' => e = .returned (.agg #[.int .i64 r1, .int .i64 r2, .int .i64 r3, .int .i64 r4, .int .i64 r5, .int .i64 r6]) ∧ Below w.heap.size w w' := by
 have hu33 := Tryd.underlying33
 have hu31 := Tryd.underlying31
 have HB := zpS (Below.refl w.heap.size w)
 have H : ((zpR.f k a0_0 a0_1 a0_2 a1_0 a1_1 a1_2).bind fun bt336 => ((zpR.f k a0_3 a0_4 a0_5 a1_3 a1_4 a1_5).bind fun bt339 => (some (bt336.1, bt336.2.1, bt336.2.2, bt339.1, bt339.2.1, bt339.2.2)))) = some (r1, r2, r3, r4, r5, r6) := h
 clear h
 replace H := Option.bind_eq_some_iff.mp H
 obtain ⟨⟨t336, t337, t338⟩, A30, H⟩ := H
 replace H : ((zpR.f k a0_3 a0_4 a0_5 a1_3 a1_4 a1_5).bind fun bt339 => (some (t336, t337, t338, bt339.1, bt339.2.1, bt339.2.2))) = some (r1, r2, r3, r4, r5, r6) := H
 have A3 := zpS A30
 clear A30
 replace H := Option.bind_eq_some_iff.mp H
 obtain ⟨⟨t339, t340, t341⟩, A40, H⟩ := H
 replace H : (some (t336, t337, t338, t339, t340, t341)) = some (r1, r2, r3, r4, r5, r6) := H
 have A4 := zpS A40
 clear A40
 simp only [Option.some.injEq, Prod.mk.injEq] at H
 obtain ⟨rfl, rfl, rfl, rfl, rfl, rfl⟩ := H
 go_enter Tryd.func55, Tryd.ntmps55
 try go_wp2_with (first | ((with_reducible refine zpZ (N := 2) rfl ?_); refine bx_ 2 #[.int .i64 a0_0, .int .i64 a0_1, .int .i64 a0_2, .int .i64 a0_3, .int .i64 a0_4, .int .i64 a0_5] 33 ?_; intro gb333 hg w5 hbox hb; have n0_ := (ns_ hb); have n1_ := zpS (hbox); have n2_ := (ng_ hg); have n3_ := n2_; clear HB; have HB := n0_; have BK333 := n1_; have GW333 := n2_; have GE333 := n3_; clear n0_ n1_ n2_ n3_; clear hb hbox hg) | ((with_reducible refine zpZ (N := 3) rfl ?_); refine bx_ 3 #[.int .i64 a1_0, .int .i64 a1_1, .int .i64 a1_2, .int .i64 a1_3, .int .i64 a1_4, .int .i64 a1_5] 33 ?_; intro gb334 hg w6 hbox hb; have n0_ := zpS (zgM (g := gb333) (o := .cells #[.int .i64 a0_0, .int .i64 a0_1, .int .i64 a0_2, .int .i64 a0_3, .int .i64 a0_4, .int .i64 a0_5] 33 (0, 0)) bk_ hb); have n1_ := (ns_ hb); have n2_ := zpS (hbox); have n3_ := (ng_ hg); have n4_ := n3_; have n5_ := zpS ((by rw [hg]; exact Nat.ne_of_lt (zmN (g := gb333) (o := .cells #[.int .i64 a0_0, .int .i64 a0_1, .int .i64 a0_2, .int .i64 a0_3, .int .i64 a0_4, .int .i64 a0_5] 33 (0, 0)) bk_) : gb333 ≠ gb334)); have n6_ := zpS ((by rw [hg]; exact Nat.ne_of_gt (zmN (g := gb333) (o := .cells #[.int .i64 a0_0, .int .i64 a0_1, .int .i64 a0_2, .int .i64 a0_3, .int .i64 a0_4, .int .i64 a0_5] 33 (0, 0)) bk_) : gb334 ≠ gb333)); clear BK333; clear HB; have BK333 := n0_; have HB := n1_; have BK334 := n2_; have GW334 := n3_; have GE334 := n4_; have NB333_334 := n5_; have NB334_333 := n6_; clear n0_ n1_ n2_ n3_ n4_ n5_ n6_; clear hb hbox hg) | ((with_reducible refine zpZ (N := 4) rfl ?_); refine bx_ 4 #[.int .i64 0, .int .i64 0, .int .i64 0, .int .i64 0, .int .i64 0, .int .i64 0] 33 ?_; intro gb335 hg w7 hbox hb; have n0_ := zpS (zgM (g := gb333) (o := .cells #[.int .i64 a0_0, .int .i64 a0_1, .int .i64 a0_2, .int .i64 a0_3, .int .i64 a0_4, .int .i64 a0_5] 33 (0, 0)) bk_ hb); have n1_ := zpS (zgM (g := gb334) (o := .cells #[.int .i64 a1_0, .int .i64 a1_1, .int .i64 a1_2, .int .i64 a1_3, .int .i64 a1_4, .int .i64 a1_5] 33 (0, 0)) bk_ hb); have n2_ := (ns_ hb); have n3_ := zpS (hbox); have n4_ := (ng_ hg); have n5_ := n4_; have n6_ := zpS ((by rw [hg]; exact Nat.ne_of_lt (zmN (g := gb333) (o := .cells #[.int .i64 a0_0, .int .i64 a0_1, .int .i64 a0_2, .int .i64 a0_3, .int .i64 a0_4, .int .i64 a0_5] 33 (0, 0)) bk_) : gb333 ≠ gb335)); have n7_ := zpS ((by rw [hg]; exact Nat.ne_of_gt (zmN (g := gb333) (o := .cells #[.int .i64 a0_0, .int .i64 a0_1, .int .i64 a0_2, .int .i64 a0_3, .int .i64 a0_4, .int .i64 a0_5] 33 (0, 0)) bk_) : gb335 ≠ gb333)); have n8_ := zpS ((by rw [hg]; exact Nat.ne_of_lt (zmN (g := gb334) (o := .cells #[.int .i64 a1_0, .int .i64 a1_1, .int .i64 a1_2, .int .i64 a1_3, .int .i64 a1_4, .int .i64 a1_5] 33 (0, 0)) bk_) : gb334 ≠ gb335)); have n9_ := zpS ((by rw [hg]; exact Nat.ne_of_gt (zmN (g := gb334) (o := .cells #[.int .i64 a1_0, .int .i64 a1_1, .int .i64 a1_2, .int .i64 a1_3, .int .i64 a1_4, .int .i64 a1_5] 33 (0, 0)) bk_) : gb335 ≠ gb334)); clear BK333; clear BK334; clear HB; have BK333 := n0_; have BK334 := n1_; have HB := n2_; have BK335 := n3_; have GW335 := n4_; have GE335 := n5_; have NB333_335 := n6_; have NB335_333 := n7_; have NB334_335 := n8_; have NB335_334 := n9_; clear n0_ n1_ n2_ n3_ n4_ n5_ n6_ n7_ n8_ n9_; clear hb hbox hg))
 have n0_ := zpS (ztN BK333.out)
 have n1_ := zpS (ztN BK334.out)
 have n2_ := zpS (ztN BK335.out)
 have n3_ := zpS (zvF HB.out)
 clear BK333
 clear BK334
 clear BK335
 clear HB
 have BK333 := n0_
 have BK334 := n1_
 have BK335 := n2_
 have HB := n3_
 clear n0_ n1_ n2_ n3_
 refine zpB (n := 12) (S := fun w' => w'.cell? ⟨gb333, 0, none⟩ = some (.int .i64 a0_0) ∧ w'.cell? ⟨gb333, 1, none⟩ = some (.int .i64 a0_1) ∧ w'.cell? ⟨gb333, 2, none⟩ = some (.int .i64 a0_2) ∧ w'.cell? ⟨gb333, 3, none⟩ = some (.int .i64 a0_3) ∧ w'.cell? ⟨gb333, 4, none⟩ = some (.int .i64 a0_4) ∧ w'.cell? ⟨gb333, 5, none⟩ = some (.int .i64 a0_5) ∧ w'.cell? ⟨gb334, 0, none⟩ = some (.int .i64 a1_0) ∧ w'.cell? ⟨gb334, 1, none⟩ = some (.int .i64 a1_1) ∧ w'.cell? ⟨gb334, 2, none⟩ = some (.int .i64 a1_2) ∧ w'.cell? ⟨gb334, 3, none⟩ = some (.int .i64 a1_3) ∧ w'.cell? ⟨gb334, 4, none⟩ = some (.int .i64 a1_4) ∧ w'.cell? ⟨gb334, 5, none⟩ = some (.int .i64 a1_5)) (ds := []) #[false, false, false, false, false, false, false, false, false, false, false, false] (by kernel_rfl) rfl rfl ⟨(zzS BK333.out 0).trans rfl, (zzS BK333.out 1).trans rfl, (zzS BK333.out 2).trans rfl, (zzS BK333.out 3).trans rfl, (zzS BK333.out 4).trans rfl, (zzS BK333.out 5).trans rfl, (zzS BK334.out 0).trans rfl, (zzS BK334.out 1).trans rfl, (zzS BK334.out 2).trans rfl, (zzS BK334.out 3).trans rfl, (zzS BK334.out 4).trans rfl, (zzS BK334.out 5).trans rfl⟩ (fun hHeld => ?_); refine zwI zdY.tab1 zdY.bits1 (fun HT_ HW_ => ?_)
 generalize w7.drew = w8 at BK333 BK334 BK335 HB hHeld ⊢
 refine pu_ 0 (some 5) (bl_ 12 1) ?_
 refine pu_ 2 (some 7) (bl_ 12 5) ?_
 refine pu_ 5 (some 10) (bl_ 12 37) ?_
 refine pu_ 7 (some 12) (bl_ 12 165) ?_
 refine zmW 1 (some 6) (bl_ 12 167) hHeld ?_
 refine zmW 3 (some 8) (bl_ 12 175) hHeld ?_
 refine zmW 6 (some 11) (bl_ 12 239) hHeld ?_
 refine zmW 8 (some 13) (bl_ 12 495) hHeld ?_
 refine zdC (i := 4) (N := some 9) (bl_ 12 511) rfl rfl (zeO HT_.out (by kernel_rfl)) (by decide) (fun K hK => ?_)
 refine zqW Tryd.func70 (by kernel_rfl) rfl #[.agg #[.int .i64 a0_0, .int .i64 a0_1, .int .i64 a0_2], .agg #[.int .i64 a1_0, .int .i64 a1_1, .int .i64 a1_2]] (by rfl) rfl rfl (by (try simp only [List.map_toArray, List.map_cons, List.map_nil]); first | done | rfl | (simp only [List.length_drop, List.length_take]; rfl)) ?_
 with_reducible refine (zpR.calls k a0_0 a0_1 a0_2 a1_0 a1_1 a1_2 t336 t337 t338 _ A3.out).mono ?_
 rintro e w9 ⟨rfl, hb⟩
 refine ⟨_, rfl, ?_⟩
 have n0_ := zpS (zgM (g := gb333) (o := .cells #[.int .i64 a0_0, .int .i64 a0_1, .int .i64 a0_2, .int .i64 a0_3, .int .i64 a0_4, .int .i64 a0_5] 33 (0, 0)) bk_ hb)
 have n1_ := zpS (zgM (g := gb334) (o := .cells #[.int .i64 a1_0, .int .i64 a1_1, .int .i64 a1_2, .int .i64 a1_3, .int .i64 a1_4, .int .i64 a1_5] 33 (0, 0)) bk_ hb)
 have n2_ := zpS (zgM (g := gb335) (o := .cells #[.int .i64 0, .int .i64 0, .int .i64 0, .int .i64 0, .int .i64 0, .int .i64 0] 33 (0, 0)) bk_ hb)
 have n3_ := (ns_ hb)
 clear BK333
 clear BK334
 clear BK335
 clear HB
 have BK333 := n0_
 have BK334 := n1_
 have BK335 := n2_
 have HB := n3_
 clear n0_ n1_ n2_ n3_
 (try clear hb)
 (try clear hb2)
 (try clear hk)
 (try clear hi)
 refine hK.out _ _ ⟨(zzS BK333.out 0).trans rfl, (zzS BK333.out 1).trans rfl, (zzS BK333.out 2).trans rfl, (zzS BK333.out 3).trans rfl, (zzS BK333.out 4).trans rfl, (zzS BK333.out 5).trans rfl, (zzS BK334.out 0).trans rfl, (zzS BK334.out 1).trans rfl, (zzS BK334.out 2).trans rfl, (zzS BK334.out 3).trans rfl, (zzS BK334.out 4).trans rfl, (zzS BK334.out 5).trans rfl⟩ (fun hHeld => ?_)
 clear hK K
 refine zaN (a' := ?_) ?_ ?_
 rotate_left
 ·show Act.put _ (some 9) _ = _
  simp only [Act.put, List.setIfInBounds_toArray, List.set_cons_zero, List.set_cons_succ, zcM, ziJ]
  rfl
 refine zdC (i := 9) (N := some 14) (bl_ 12 1023) rfl rfl (zeO HT_.out (by kernel_rfl)) (by decide) (fun K hK => ?_)
 refine zqW Tryd.func70 (by kernel_rfl) rfl #[.agg #[.int .i64 a0_3, .int .i64 a0_4, .int .i64 a0_5], .agg #[.int .i64 a1_3, .int .i64 a1_4, .int .i64 a1_5]] (by rfl) rfl rfl (by (try simp only [List.map_toArray, List.map_cons, List.map_nil]); first | done | rfl | (simp only [List.length_drop, List.length_take]; rfl)) ?_
 with_reducible refine (zpR.calls k a0_3 a0_4 a0_5 a1_3 a1_4 a1_5 t339 t340 t341 _ A4.out).mono ?_
 rintro e w10 ⟨rfl, hb⟩
 refine ⟨_, rfl, ?_⟩
 have n0_ := zpS (zgM (g := gb333) (o := .cells #[.int .i64 a0_0, .int .i64 a0_1, .int .i64 a0_2, .int .i64 a0_3, .int .i64 a0_4, .int .i64 a0_5] 33 (0, 0)) bk_ hb)
 have n1_ := zpS (zgM (g := gb334) (o := .cells #[.int .i64 a1_0, .int .i64 a1_1, .int .i64 a1_2, .int .i64 a1_3, .int .i64 a1_4, .int .i64 a1_5] 33 (0, 0)) bk_ hb)
 have n2_ := zpS (zgM (g := gb335) (o := .cells #[.int .i64 0, .int .i64 0, .int .i64 0, .int .i64 0, .int .i64 0, .int .i64 0] 33 (0, 0)) bk_ hb)
 have n3_ := (ns_ hb)
 clear BK333
 clear BK334
 clear BK335
 clear HB
 have BK333 := n0_
 have BK334 := n1_
 have BK335 := n2_
 have HB := n3_
 clear n0_ n1_ n2_ n3_
 (try clear hb)
 (try clear hb2)
 (try clear hk)
 (try clear hi)
 refine hK.out _ _ ⟨(zzS BK333.out 0).trans rfl, (zzS BK333.out 1).trans rfl, (zzS BK333.out 2).trans rfl, (zzS BK333.out 3).trans rfl, (zzS BK333.out 4).trans rfl, (zzS BK333.out 5).trans rfl, (zzS BK334.out 0).trans rfl, (zzS BK334.out 1).trans rfl, (zzS BK334.out 2).trans rfl, (zzS BK334.out 3).trans rfl, (zzS BK334.out 4).trans rfl, (zzS BK334.out 5).trans rfl⟩ (fun hHeld => ?_)
 clear hK K
 refine zaN (a' := ?_) ?_ ?_
 rotate_left
 ·show Act.put _ (some 14) _ = _
  simp only [Act.put, List.setIfInBounds_toArray, List.set_cons_zero, List.set_cons_succ, zcM, ziJ]
  rfl
 refine pu_ 10 (some 15) (bl_ 12 2047) ?_
 refine zdC (i := 11) (N := none) (bl_ 12 4095) rfl rfl (zeO HT_.out (by kernel_rfl)) (by decide) (fun K hK => ?_)
 have hs11 : w10.cell? ⟨gb335, 0, none⟩ = some (.int .i64 0) := (zzS BK335.out 0).trans rfl
 have hfs11 := zjF BK335.out 0
 have hns11_0 := NB333_335.out
 have hns11_1 := NB334_335.out
 have hms11_0 := NB335_333.out
 have hms11_1 := NB335_334.out
 have hs12 : w10.cell? ⟨gb335, 1, none⟩ = some (.int .i64 0) := (zzS BK335.out 1).trans rfl
 have hfs12 := zjF BK335.out 1
 have hns12_0 := NB333_335.out
 have hns12_1 := NB334_335.out
 have hms12_0 := NB335_333.out
 have hms12_1 := NB335_334.out
 have hs13 : w10.cell? ⟨gb335, 2, none⟩ = some (.int .i64 0) := (zzS BK335.out 2).trans rfl
 have hfs13 := zjF BK335.out 2
 have hns13_0 := NB333_335.out
 have hns13_1 := NB334_335.out
 have hms13_0 := NB335_333.out
 have hms13_1 := NB335_334.out
 have hs14 : w10.cell? ⟨gb335, 3, none⟩ = some (.int .i64 0) := (zzS BK335.out 3).trans rfl
 have hfs14 := zjF BK335.out 3
 have hns14_0 := NB333_335.out
 have hns14_1 := NB334_335.out
 have hms14_0 := NB335_333.out
 have hms14_1 := NB335_334.out
 have hs15 : w10.cell? ⟨gb335, 4, none⟩ = some (.int .i64 0) := (zzS BK335.out 4).trans rfl
 have hfs15 := zjF BK335.out 4
 have hns15_0 := NB333_335.out
 have hns15_1 := NB334_335.out
 have hms15_0 := NB335_333.out
 have hms15_1 := NB335_334.out
 have hs16 : w10.cell? ⟨gb335, 5, none⟩ = some (.int .i64 0) := (zzS BK335.out 5).trans rfl
 have hfs16 := zjF BK335.out 5
 have hns16_0 := NB333_335.out
 have hns16_1 := NB334_335.out
 have hms16_0 := NB335_333.out
 have hms16_1 := NB335_334.out
 refine skip_ (w1 := ?_) (by rfl) rfl ?_ ?_
 rotate_left
 ·go_simp
  rfl
 refine hK.out _ _ ⟨((zgQ (p := ⟨gb335, _, none⟩) NB333_335.out _).trans (((zgQ (p := ⟨gb335, _, none⟩) NB333_335.out _).trans (((zgQ (p := ⟨gb335, _, none⟩) NB333_335.out _).trans (((zgQ (p := ⟨gb335, _, none⟩) NB333_335.out _).trans (((zgQ (p := ⟨gb335, _, none⟩) NB333_335.out _).trans (((zgQ (p := ⟨gb335, _, none⟩) NB333_335.out _).trans (hHeld.1)))))))))))), ((zgQ (p := ⟨gb335, _, none⟩) NB333_335.out _).trans (((zgQ (p := ⟨gb335, _, none⟩) NB333_335.out _).trans (((zgQ (p := ⟨gb335, _, none⟩) NB333_335.out _).trans (((zgQ (p := ⟨gb335, _, none⟩) NB333_335.out _).trans (((zgQ (p := ⟨gb335, _, none⟩) NB333_335.out _).trans (((zgQ (p := ⟨gb335, _, none⟩) NB333_335.out _).trans (hHeld.2.1)))))))))))), ((zgQ (p := ⟨gb335, _, none⟩) NB333_335.out _).trans (((zgQ (p := ⟨gb335, _, none⟩) NB333_335.out _).trans (((zgQ (p := ⟨gb335, _, none⟩) NB333_335.out _).trans (((zgQ (p := ⟨gb335, _, none⟩) NB333_335.out _).trans (((zgQ (p := ⟨gb335, _, none⟩) NB333_335.out _).trans (((zgQ (p := ⟨gb335, _, none⟩) NB333_335.out _).trans (hHeld.2.2.1)))))))))))), ((zgQ (p := ⟨gb335, _, none⟩) NB333_335.out _).trans (((zgQ (p := ⟨gb335, _, none⟩) NB333_335.out _).trans (((zgQ (p := ⟨gb335, _, none⟩) NB333_335.out _).trans (((zgQ (p := ⟨gb335, _, none⟩) NB333_335.out _).trans (((zgQ (p := ⟨gb335, _, none⟩) NB333_335.out _).trans (((zgQ (p := ⟨gb335, _, none⟩) NB333_335.out _).trans (hHeld.2.2.2.1)))))))))))), ((zgQ (p := ⟨gb335, _, none⟩) NB333_335.out _).trans (((zgQ (p := ⟨gb335, _, none⟩) NB333_335.out _).trans (((zgQ (p := ⟨gb335, _, none⟩) NB333_335.out _).trans (((zgQ (p := ⟨gb335, _, none⟩) NB333_335.out _).trans (((zgQ (p := ⟨gb335, _, none⟩) NB333_335.out _).trans (((zgQ (p := ⟨gb335, _, none⟩) NB333_335.out _).trans (hHeld.2.2.2.2.1)))))))))))), ((zgQ (p := ⟨gb335, _, none⟩) NB333_335.out _).trans (((zgQ (p := ⟨gb335, _, none⟩) NB333_335.out _).trans (((zgQ (p := ⟨gb335, _, none⟩) NB333_335.out _).trans (((zgQ (p := ⟨gb335, _, none⟩) NB333_335.out _).trans (((zgQ (p := ⟨gb335, _, none⟩) NB333_335.out _).trans (((zgQ (p := ⟨gb335, _, none⟩) NB333_335.out _).trans (hHeld.2.2.2.2.2.1)))))))))))), ((zgQ (p := ⟨gb335, _, none⟩) NB334_335.out _).trans (((zgQ (p := ⟨gb335, _, none⟩) NB334_335.out _).trans (((zgQ (p := ⟨gb335, _, none⟩) NB334_335.out _).trans (((zgQ (p := ⟨gb335, _, none⟩) NB334_335.out _).trans (((zgQ (p := ⟨gb335, _, none⟩) NB334_335.out _).trans (((zgQ (p := ⟨gb335, _, none⟩) NB334_335.out _).trans (hHeld.2.2.2.2.2.2.1)))))))))))), ((zgQ (p := ⟨gb335, _, none⟩) NB334_335.out _).trans (((zgQ (p := ⟨gb335, _, none⟩) NB334_335.out _).trans (((zgQ (p := ⟨gb335, _, none⟩) NB334_335.out _).trans (((zgQ (p := ⟨gb335, _, none⟩) NB334_335.out _).trans (((zgQ (p := ⟨gb335, _, none⟩) NB334_335.out _).trans (((zgQ (p := ⟨gb335, _, none⟩) NB334_335.out _).trans (hHeld.2.2.2.2.2.2.2.1)))))))))))), ((zgQ (p := ⟨gb335, _, none⟩) NB334_335.out _).trans (((zgQ (p := ⟨gb335, _, none⟩) NB334_335.out _).trans (((zgQ (p := ⟨gb335, _, none⟩) NB334_335.out _).trans (((zgQ (p := ⟨gb335, _, none⟩) NB334_335.out _).trans (((zgQ (p := ⟨gb335, _, none⟩) NB334_335.out _).trans (((zgQ (p := ⟨gb335, _, none⟩) NB334_335.out _).trans (hHeld.2.2.2.2.2.2.2.2.1)))))))))))), ((zgQ (p := ⟨gb335, _, none⟩) NB334_335.out _).trans (((zgQ (p := ⟨gb335, _, none⟩) NB334_335.out _).trans (((zgQ (p := ⟨gb335, _, none⟩) NB334_335.out _).trans (((zgQ (p := ⟨gb335, _, none⟩) NB334_335.out _).trans (((zgQ (p := ⟨gb335, _, none⟩) NB334_335.out _).trans (((zgQ (p := ⟨gb335, _, none⟩) NB334_335.out _).trans (hHeld.2.2.2.2.2.2.2.2.2.1)))))))))))), ((zgQ (p := ⟨gb335, _, none⟩) NB334_335.out _).trans (((zgQ (p := ⟨gb335, _, none⟩) NB334_335.out _).trans (((zgQ (p := ⟨gb335, _, none⟩) NB334_335.out _).trans (((zgQ (p := ⟨gb335, _, none⟩) NB334_335.out _).trans (((zgQ (p := ⟨gb335, _, none⟩) NB334_335.out _).trans (((zgQ (p := ⟨gb335, _, none⟩) NB334_335.out _).trans (hHeld.2.2.2.2.2.2.2.2.2.2.1)))))))))))), ((zgQ (p := ⟨gb335, _, none⟩) NB334_335.out _).trans (((zgQ (p := ⟨gb335, _, none⟩) NB334_335.out _).trans (((zgQ (p := ⟨gb335, _, none⟩) NB334_335.out _).trans (((zgQ (p := ⟨gb335, _, none⟩) NB334_335.out _).trans (((zgQ (p := ⟨gb335, _, none⟩) NB334_335.out _).trans (((zgQ (p := ⟨gb335, _, none⟩) NB334_335.out _).trans (hHeld.2.2.2.2.2.2.2.2.2.2.2))))))))))))⟩ (fun hHeld => ?_)
 clear hK K
 refine znK (zzP HT_.out (by kernel_rfl)) ?_
 try go_wp2
 refine bodyPost_ret (results_cell_row rfl _ _ gb335 33 #[.int .i64 t336, .int .i64 t337, .int .i64 t338, .int .i64 t339, .int .i64 t340, .int .i64 t341] (0, 0) _ rfl (by (with_reducible repeat (first | apply zuW | apply ztN | apply zqY)); refine zlL (cs := #[.int .i64 t336, .int .i64 t337, .int .i64 t338, .int .i64 t339, .int .i64 t340, .int .i64 0]) ?_ 5 _ rfl; (with_reducible repeat (first | apply zuW | apply ztN | apply zqY)); refine zlL (cs := #[.int .i64 t336, .int .i64 t337, .int .i64 t338, .int .i64 t339, .int .i64 0, .int .i64 0]) ?_ 4 _ rfl; (with_reducible repeat (first | apply zuW | apply ztN | apply zqY)); refine zlL (cs := #[.int .i64 t336, .int .i64 t337, .int .i64 t338, .int .i64 0, .int .i64 0, .int .i64 0]) ?_ 3 _ rfl; (with_reducible repeat (first | apply zuW | apply ztN | apply zqY)); refine zlL (cs := #[.int .i64 t336, .int .i64 t337, .int .i64 0, .int .i64 0, .int .i64 0, .int .i64 0]) ?_ 2 _ rfl; (with_reducible repeat (first | apply zuW | apply ztN | apply zqY)); refine zlL (cs := #[.int .i64 t336, .int .i64 0, .int .i64 0, .int .i64 0, .int .i64 0, .int .i64 0]) ?_ 1 _ rfl; (with_reducible repeat (first | apply zuW | apply ztN | apply zqY)); refine zlL (cs := #[.int .i64 0, .int .i64 0, .int .i64 0, .int .i64 0, .int .i64 0, .int .i64 0]) ?_ 0 _ rfl; (with_reducible repeat (first | apply zuW | apply ztN | apply zqY)); exact BK335.out) Tryd.underlying33 rfl (by kernel_rfl)) rfl ?_
 exact ⟨by first | rfl | (simp [ziS, znJ] <;> rfl) | (simp [*, ziS, znJ] <;> rfl), bb_⟩

def LaidV2 (w : World) : Prop := Lib.TabIs Tryd.prog w "internal/strconv.uint64pow10" .u64 Lib.pow10Tab
theorem LaidV2.below {w w' : World} (h : LaidV2 w) (hB : Below w.heap.size w w') : LaidV2 w' := by
 unfold LaidV2 Lib.TabIs World.var? at h ⊢
 cases hg : Tryd.prog.globalNamed "internal/strconv.uint64pow10" with
 | none => rw [hg] at h; cases h
 | some g =>
  rw [hg] at h
  simp only [Option.bind_some] at h ⊢
  have hlt : g < w.heap.size := by
   cases hh : w.heap[g]? with
   | none => rw [hh] at h; cases h
   | some o => exact (Array.getElem?_eq_some_iff.1 hh).1
  rw [hB.block g hlt]
  exact h
def gv0 : List S33 := [⟨⟨1, 0, 0⟩, ⟨0, 0, 0⟩⟩, ⟨⟨1, 0, 0⟩, ⟨-1, 1, 0⟩⟩, ⟨⟨1, 0, 0⟩, ⟨1, 0, 0⟩⟩, ⟨⟨-1, 1, 0⟩, ⟨1, 0, 0⟩⟩, ⟨⟨0, 0, 0⟩, ⟨1, 0, 0⟩⟩, ⟨⟨1, -1, 0⟩, ⟨1, 0, 0⟩⟩, ⟨⟨-1, 0, 0⟩, ⟨1, 0, 0⟩⟩, ⟨⟨-1, 0, 0⟩, ⟨-1, 1, 0⟩⟩]
def LaidV0 (w : World) : Prop := ∀ (j : Nat) (p : S33), gv0[j]? = some p → ∀ (i : Nat) (u : Value), [Value.int .i64 p.f0.f0, .int .i64 p.f0.f1, .int .i64 p.f0.f2, .int .i64 p.f1.f0, .int .i64 p.f1.f1, .int .i64 p.f1.f2][i]? = some u → w.cell? ((⟨0, 0, none⟩ : Addr).add (j * 6 + i)) = some u
theorem LaidV0.below {w w' : World} (h : LaidV0 w) (hB : Below w.heap.size w w') : LaidV0 w' := fun j p hp i u hu => (hB.cell (World.block_lt_of_cell? w _ (h j p hp i u hu))).trans (h j p hp i u hu)
theorem LaidV0.C {w : World} (h : LaidV0 w) : Kd.C k33 w (some ⟨0, 0, none⟩) gv0.length gv0 :=
 ⟨rfl, by decide, fun _ => ⟨_, rfl, fun j p hp => ⟨_, rfl, k33_mk w p, fun i u hu => h j p hp i u hu⟩⟩⟩
def gvCells0 : List Value := gv0.flatMap fun p => [Value.int .i64 p.f0.f0, .int .i64 p.f0.f1, .int .i64 p.f0.f2, .int .i64 p.f1.f0, .int .i64 p.f1.f1, .int .i64 p.f1.f2]
theorem LaidV0.of_cells {w : World} (h : ∀ off : Nat, w.cell? ⟨0, off, none⟩ = gvCells0[off]?) : LaidV0 w := by
 intro j p hp i u hu
 have hj : j < 8 := (List.getElem?_eq_some_iff.1 hp).1
 have hi : i < 6 := (List.getElem?_eq_some_iff.1 hu).1
 have ha : (⟨0, 0, none⟩ : Addr).add (j * 6 + i) = ⟨0, j * 6 + i, none⟩ := by rw [zyK]
 rw [ha, h]
 have : j = 0 ∨ j = 1 ∨ j = 2 ∨ j = 3 ∨ j = 4 ∨ j = 5 ∨ j = 6 ∨ j = 7 := by omega
 have : i = 0 ∨ i = 1 ∨ i = 2 ∨ i = 3 ∨ i = 4 ∨ i = 5 := by omega
 rcases ‹j = 0 ∨ _› with rfl | rfl | rfl | rfl | rfl | rfl | rfl | rfl <;> cases hp <;> rcases ‹i = 0 ∨ _› with rfl | rfl | rfl | rfl | rfl | rfl <;> cases hu <;> rfl
structure LaidV (w : World) : Prop where
 v2 : LaidV2 w
 v0 : LaidV0 w
theorem LaidV.below {w w' : World} (h : LaidV w) (hB : Below w.heap.size w w') : LaidV w' := ⟨LaidV2.below h.v2 hB, LaidV0.below h.v0 hB⟩

def zdP.f (a0 : Int) : Option (Int × Int × Int × Int × Int × Int) := if a0 ≥ 8 then (if 0 ≤ (wrap64 (a0 - 8)) then (if (wrap64 (a0 - 8)) < 8 then ((zjD.f ((zdH gv0 (wrap64 (a0 - 8))).f0.f0) ((zdH gv0 (wrap64 (a0 - 8))).f0.f1) ((zdH gv0 (wrap64 (a0 - 8))).f0.f2)).bind fun bt345 => ((zjD.f ((zdH gv0 (wrap64 (a0 - 8))).f1.f0) ((zdH gv0 (wrap64 (a0 - 8))).f1.f1) ((zdH gv0 (wrap64 (a0 - 8))).f1.f2)).bind fun bt348 => (some (bt345.1, bt345.2.1, bt345.2.2, bt348.1, bt348.2.1, bt348.2.2)))) else (none)) else (none)) else (if 0 ≤ a0 then (if a0 < 8 then (some ((zdH gv0 a0).f0.f0, (zdH gv0 a0).f0.f1, (zdH gv0 a0).f0.f2, (zdH gv0 a0).f1.f0, (zdH gv0 a0).f1.f1, (zdH gv0 a0).f1.f2)) else (none)) else (none))
def zdP.T3 : Bool × List (List Nat × List Nat) := (true, [([], []), ([0], [0]), ([1], [1]), ([], []), ([3], [3]), ([4, 2], [4]), ([2, 5], [2, 5]), ([6, 5, 0, 1, 2, 3, 4, 5, 6], [6])])
def zdP.B3 : List Nat := [0, 1, 3, 0, 8, 31, 63, 127]
theorem zdP.tab3 : rtab .any (opsOf Tryd.f56 3) = zdP.T3 := by kernel_rfl
theorem zdP.bits3 : ztG zdP.T3.2 zdP.B3 = true := by kernel_rfl
set_option maxHeartbeats 8000000 in
set_option maxRecDepth 100000 in
theorem zdP.calls (a0 : Int) (r1 : Int) (r2 : Int) (r3 : Int) (r4 : Int) (r5 : Int) (r6 : Int) (w : World) (hG : LaidV w) (h : zdP.f a0 = some (r1, r2, r3, r4, r5, r6)) :
  Calls Tryd.prog 56 #[.int .i64 a0] w fun e w' => e = .returned (.agg #[.int .i64 r1, .int .i64 r2, .int .i64 r3, .int .i64 r4, .int .i64 r5, .int .i64 r6]) ∧ Below w.heap.size w w' := by
 have hu33 := Tryd.underlying33
 have hu31 := Tryd.underlying31
 have HB := zpS (Below.refl w.heap.size w)
 have HRg0 := zpS (LaidV0.C hG.v0)
 have H : (if a0 ≥ 8 then (if 0 ≤ (wrap64 (a0 - 8)) then (if (wrap64 (a0 - 8)) < 8 then ((zjD.f ((zdH gv0 (wrap64 (a0 - 8))).f0.f0) ((zdH gv0 (wrap64 (a0 - 8))).f0.f1) ((zdH gv0 (wrap64 (a0 - 8))).f0.f2)).bind fun bt345 => ((zjD.f ((zdH gv0 (wrap64 (a0 - 8))).f1.f0) ((zdH gv0 (wrap64 (a0 - 8))).f1.f1) ((zdH gv0 (wrap64 (a0 - 8))).f1.f2)).bind fun bt348 => (some (bt345.1, bt345.2.1, bt345.2.2, bt348.1, bt348.2.1, bt348.2.2)))) else (none)) else (none)) else (if 0 ≤ a0 then (if a0 < 8 then (some ((zdH gv0 a0).f0.f0, (zdH gv0 a0).f0.f1, (zdH gv0 a0).f0.f2, (zdH gv0 a0).f1.f0, (zdH gv0 a0).f1.f1, (zdH gv0 a0).f1.f2)) else (none)) else (none))) = some (r1, r2, r3, r4, r5, r6) := h
 clear h
 by_cases c2 : a0 ≥ 8
 ·rw [if_pos c2] at H
  have c2b0 : decide (8 ≤ a0) = true := decide_eq_true c2
  clear c2
  obtain ⟨ji3, hji3⟩ : ∃ j_ : Int, (wrap64 (a0 - 8)) = j_ := ⟨_, rfl⟩
  replace H : (if 0 ≤ (ji3) then (if (ji3) < 8 then ((zjD.f ((zdH gv0 (ji3)).f0.f0) ((zdH gv0 (ji3)).f0.f1) ((zdH gv0 (ji3)).f0.f2)).bind fun bt345 => ((zjD.f ((zdH gv0 (ji3)).f1.f0) ((zdH gv0 (ji3)).f1.f1) ((zdH gv0 (ji3)).f1.f2)).bind fun bt348 => (some (bt345.1, bt345.2.1, bt345.2.2, bt348.1, bt348.2.1, bt348.2.2)))) else (none)) else (none)) = some (r1, r2, r3, r4, r5, r6) := by first | (rw [hji3] at H; exact H) | (simp only [hji3] at H ⊢; exact H)
  have hji3w : (IntKind.i64.wrap (a0 - 8)) = ji3 := (zcM _).trans hji3
  by_cases c4 : 0 ≤ (ji3)
  ·rw [if_pos c4] at H
   have c4b0 : decide (0 ≤ (ji3)) = true := decide_eq_true c4
   clear c4
   by_cases c5 : (ji3) < 8
   ·rw [if_pos c5] at H
    have c5b0 : decide ((ji3) < 8) = true := decide_eq_true c5
    clear c5
    replace H := Option.bind_eq_some_iff.mp H
    obtain ⟨⟨t345, t346, t347⟩, A60, H⟩ := H
    replace H : ((zjD.f ((zdH gv0 (ji3)).f1.f0) ((zdH gv0 (ji3)).f1.f1) ((zdH gv0 (ji3)).f1.f2)).bind fun bt348 => (some (t345, t346, t347, bt348.1, bt348.2.1, bt348.2.2))) = some (r1, r2, r3, r4, r5, r6) := H
    have A6 := zpS A60
    clear A60
    replace H := Option.bind_eq_some_iff.mp H
    obtain ⟨⟨t348, t349, t350⟩, A70, H⟩ := H
    replace H : (some (t345, t346, t347, t348, t349, t350)) = some (r1, r2, r3, r4, r5, r6) := H
    have A7 := zpS A70
    clear A70
    simp only [Option.some.injEq, Prod.mk.injEq] at H
    obtain ⟨rfl, rfl, rfl, rfl, rfl, rfl⟩ := H
    go_enter Tryd.func56, Tryd.ntmps56
    try go_wp2_with (first | ((with_reducible refine zpZ (N := 2) rfl ?_); refine bx_ 2 #[.int .i64 0, .int .i64 0, .int .i64 0, .int .i64 0, .int .i64 0, .int .i64 0] 33 ?_; intro gb342 hg w8 hbox hb; have n0_ := (ns_ hb); have n1_ := zpS (hbox); have n2_ := (ng_ hg); have n3_ := n2_; clear HB; have HB := n0_; have BK342 := n1_; have GW342 := n2_; have GE342 := n3_; clear n0_ n1_ n2_ n3_; clear hb hbox hg; have p343 : 0 ≤ ((ji3) : Int) := of_decide_eq_true (by first | (with_reducible assumption) | assumption); have q343 : (ji3) < (gv0.length : Int) := of_decide_eq_true (by first | (with_reducible assumption) | assumption); have ql343 : (((ji3) : Int) < (8 : Int)) = True := eq_true (of_decide_eq_true (by first | (with_reducible assumption) | assumption)); obtain ⟨ad343, e343, hx343_0, hx343_1, hx343_2, hx343_3, hx343_4, hx343_5⟩ := zuR HRg0.out (ji3) p343 q343; obtain rfl : (⟨0, 0, none⟩ : Addr) = ad343 := (by injection e343); (first | simp only [zyK] at hx343_0 | simp only [add_at] at hx343_0 | simp only [Addr.add, Nat.zero_add] at hx343_0 | skip); (first | simp only [zyK] at hx343_1 | simp only [add_at] at hx343_1 | simp only [Addr.add, Nat.zero_add] at hx343_1 | skip); (first | simp only [zyK] at hx343_2 | simp only [add_at] at hx343_2 | simp only [Addr.add, Nat.zero_add] at hx343_2 | skip); (first | simp only [zyK] at hx343_3 | simp only [add_at] at hx343_3 | simp only [Addr.add, Nat.zero_add] at hx343_3 | skip); (first | simp only [zyK] at hx343_4 | simp only [add_at] at hx343_4 | simp only [Addr.add, Nat.zero_add] at hx343_4 | skip); (first | simp only [zyK] at hx343_5 | simp only [add_at] at hx343_5 | simp only [Addr.add, Nat.zero_add] at hx343_5 | skip); replace hx343_0 := zeA HB.out hx343_0; replace hx343_1 := zeA HB.out hx343_1; replace hx343_2 := zeA HB.out hx343_2; replace hx343_3 := zeA HB.out hx343_3; replace hx343_4 := zeA HB.out hx343_4; replace hx343_5 := zeA HB.out hx343_5; replace p343 := eq_true p343; replace q343 := eq_true q343) | ((with_reducible refine zpZ (N := 3) rfl ?_); refine bx_ 3 #[.int .i64 0, .int .i64 0, .int .i64 0, .int .i64 0, .int .i64 0, .int .i64 0] 33 ?_; intro gb344 hg w9 hbox hb; have n0_ := zpS (zgM (g := gb342) (o := .cells #[.int .i64 0, .int .i64 0, .int .i64 0, .int .i64 0, .int .i64 0, .int .i64 0] 33 (0, 0)) bk_ hb); have n1_ := (ns_ hb); have n2_ := zpS (hbox); have n3_ := (ng_ hg); have n4_ := n3_; have n5_ := zpS ((by rw [hg]; exact Nat.ne_of_lt (zmN (g := gb342) (o := .cells #[.int .i64 0, .int .i64 0, .int .i64 0, .int .i64 0, .int .i64 0, .int .i64 0] 33 (0, 0)) bk_) : gb342 ≠ gb344)); have n6_ := zpS ((by rw [hg]; exact Nat.ne_of_gt (zmN (g := gb342) (o := .cells #[.int .i64 0, .int .i64 0, .int .i64 0, .int .i64 0, .int .i64 0, .int .i64 0] 33 (0, 0)) bk_) : gb344 ≠ gb342)); clear BK342; clear HB; have BK342 := n0_; have HB := n1_; have BK344 := n2_; have GW344 := n3_; have GE344 := n4_; have NB342_344 := n5_; have NB344_342 := n6_; clear n0_ n1_ n2_ n3_ n4_ n5_ n6_; clear hb hbox hg; have hnb10 := NB344_342.out; have hnc10 := NB342_344.out; obtain ⟨hcz11_0, hcz11_1, hcz11_2, hcz11_3, hcz11_4, hcz11_5⟩ := zrN BK344.out; obtain ⟨hfz11_0, hfz11_1, hfz11_2, hfz11_3, hfz11_4, hfz11_5⟩ := zoO BK344.out))
    have n0_ : Aside0 (((((((w9.setCell ⟨gb344, 0, none⟩ (.int .i64 ((zdH gv0 (ji3)).f0.f0))).setCell ⟨gb344, 1, none⟩ (.int .i64 ((zdH gv0 (ji3)).f0.f1))).setCell ⟨gb344, 2, none⟩ (.int .i64 ((zdH gv0 (ji3)).f0.f2))).setCell ⟨gb344, 3, none⟩ (.int .i64 ((zdH gv0 (ji3)).f1.f0))).setCell ⟨gb344, 4, none⟩ (.int .i64 ((zdH gv0 (ji3)).f1.f1))).setCell ⟨gb344, 5, none⟩ (.int .i64 ((zdH gv0 (ji3)).f1.f2))).heap[gb342]? = some (.cells #[.int .i64 0, .int .i64 0, .int .i64 0, .int .i64 0, .int .i64 0, .int .i64 0] 33 (0, 0))) := ⟨by (with_reducible repeat (first | apply zuW | apply ztN | apply zqY)); refine znI ?_ NB342_344.out _; (with_reducible repeat (first | apply zuW | apply ztN | apply zqY)); refine znI ?_ NB342_344.out _; (with_reducible repeat (first | apply zuW | apply ztN | apply zqY)); refine znI ?_ NB342_344.out _; (with_reducible repeat (first | apply zuW | apply ztN | apply zqY)); refine znI ?_ NB342_344.out _; (with_reducible repeat (first | apply zuW | apply ztN | apply zqY)); refine znI ?_ NB342_344.out _; (with_reducible repeat (first | apply zuW | apply ztN | apply zqY)); refine znI ?_ NB342_344.out _; (with_reducible repeat (first | apply zuW | apply ztN | apply zqY)); exact BK342.out⟩
    have n1_ : Aside0 (((((((w9.setCell ⟨gb344, 0, none⟩ (.int .i64 ((zdH gv0 (ji3)).f0.f0))).setCell ⟨gb344, 1, none⟩ (.int .i64 ((zdH gv0 (ji3)).f0.f1))).setCell ⟨gb344, 2, none⟩ (.int .i64 ((zdH gv0 (ji3)).f0.f2))).setCell ⟨gb344, 3, none⟩ (.int .i64 ((zdH gv0 (ji3)).f1.f0))).setCell ⟨gb344, 4, none⟩ (.int .i64 ((zdH gv0 (ji3)).f1.f1))).setCell ⟨gb344, 5, none⟩ (.int .i64 ((zdH gv0 (ji3)).f1.f2))).heap[gb344]? = some (.cells #[.int .i64 ((zdH gv0 (ji3)).f0.f0), .int .i64 ((zdH gv0 (ji3)).f0.f1), .int .i64 ((zdH gv0 (ji3)).f0.f2), .int .i64 ((zdH gv0 (ji3)).f1.f0), .int .i64 ((zdH gv0 (ji3)).f1.f1), .int .i64 ((zdH gv0 (ji3)).f1.f2)] 33 (0, 0))) := ⟨by (with_reducible repeat (first | apply zuW | apply ztN | apply zqY)); refine zlL (cs := #[.int .i64 ((zdH gv0 (ji3)).f0.f0), .int .i64 ((zdH gv0 (ji3)).f0.f1), .int .i64 ((zdH gv0 (ji3)).f0.f2), .int .i64 ((zdH gv0 (ji3)).f1.f0), .int .i64 ((zdH gv0 (ji3)).f1.f1), .int .i64 0]) ?_ 5 _ rfl; (with_reducible repeat (first | apply zuW | apply ztN | apply zqY)); refine zlL (cs := #[.int .i64 ((zdH gv0 (ji3)).f0.f0), .int .i64 ((zdH gv0 (ji3)).f0.f1), .int .i64 ((zdH gv0 (ji3)).f0.f2), .int .i64 ((zdH gv0 (ji3)).f1.f0), .int .i64 0, .int .i64 0]) ?_ 4 _ rfl; (with_reducible repeat (first | apply zuW | apply ztN | apply zqY)); refine zlL (cs := #[.int .i64 ((zdH gv0 (ji3)).f0.f0), .int .i64 ((zdH gv0 (ji3)).f0.f1), .int .i64 ((zdH gv0 (ji3)).f0.f2), .int .i64 0, .int .i64 0, .int .i64 0]) ?_ 3 _ rfl; (with_reducible repeat (first | apply zuW | apply ztN | apply zqY)); refine zlL (cs := #[.int .i64 ((zdH gv0 (ji3)).f0.f0), .int .i64 ((zdH gv0 (ji3)).f0.f1), .int .i64 0, .int .i64 0, .int .i64 0, .int .i64 0]) ?_ 2 _ rfl; (with_reducible repeat (first | apply zuW | apply ztN | apply zqY)); refine zlL (cs := #[.int .i64 ((zdH gv0 (ji3)).f0.f0), .int .i64 0, .int .i64 0, .int .i64 0, .int .i64 0, .int .i64 0]) ?_ 1 _ rfl; (with_reducible repeat (first | apply zuW | apply ztN | apply zqY)); refine zlL (cs := #[.int .i64 0, .int .i64 0, .int .i64 0, .int .i64 0, .int .i64 0, .int .i64 0]) ?_ 0 _ rfl; (with_reducible repeat (first | apply zuW | apply ztN | apply zqY)); exact BK344.out⟩
    have n2_ : Aside0 (Below w.heap.size w ((((((w9.setCell ⟨gb344, 0, none⟩ (.int .i64 ((zdH gv0 (ji3)).f0.f0))).setCell ⟨gb344, 1, none⟩ (.int .i64 ((zdH gv0 (ji3)).f0.f1))).setCell ⟨gb344, 2, none⟩ (.int .i64 ((zdH gv0 (ji3)).f0.f2))).setCell ⟨gb344, 3, none⟩ (.int .i64 ((zdH gv0 (ji3)).f1.f0))).setCell ⟨gb344, 4, none⟩ (.int .i64 ((zdH gv0 (ji3)).f1.f1))).setCell ⟨gb344, 5, none⟩ (.int .i64 ((zdH gv0 (ji3)).f1.f2)))) := ⟨bb_⟩
    (try clear BK342)
    (try clear BK344)
    (try clear HB)
    generalize ((((((w9.setCell ⟨gb344, 0, none⟩ (.int .i64 ((zdH gv0 (ji3)).f0.f0))).setCell ⟨gb344, 1, none⟩ (.int .i64 ((zdH gv0 (ji3)).f0.f1))).setCell ⟨gb344, 2, none⟩ (.int .i64 ((zdH gv0 (ji3)).f0.f2))).setCell ⟨gb344, 3, none⟩ (.int .i64 ((zdH gv0 (ji3)).f1.f0))).setCell ⟨gb344, 4, none⟩ (.int .i64 ((zdH gv0 (ji3)).f1.f1))).setCell ⟨gb344, 5, none⟩ (.int .i64 ((zdH gv0 (ji3)).f1.f2))) = w12 at n0_ n1_ n2_ ⊢
    have BK342 := n0_
    have BK344 := n1_
    have HB := n2_
    clear n0_ n1_ n2_
    have n0_ := zpS (ztN BK342.out)
    have n1_ := zpS (ztN BK344.out)
    have n2_ := zpS (zvF HB.out)
    clear BK342
    clear BK344
    clear HB
    have BK342 := n0_
    have BK344 := n1_
    have HB := n2_
    clear n0_ n1_ n2_
    refine zpB (n := 8) (S := fun w' => w'.cell? ⟨gb344, 0, none⟩ = some (.int .i64 ((zdH gv0 (ji3)).f0.f0)) ∧ w'.cell? ⟨gb344, 1, none⟩ = some (.int .i64 ((zdH gv0 (ji3)).f0.f1)) ∧ w'.cell? ⟨gb344, 2, none⟩ = some (.int .i64 ((zdH gv0 (ji3)).f0.f2)) ∧ w'.cell? ⟨gb344, 3, none⟩ = some (.int .i64 ((zdH gv0 (ji3)).f1.f0)) ∧ w'.cell? ⟨gb344, 4, none⟩ = some (.int .i64 ((zdH gv0 (ji3)).f1.f1)) ∧ w'.cell? ⟨gb344, 5, none⟩ = some (.int .i64 ((zdH gv0 (ji3)).f1.f2))) (ds := []) #[false, false, false, false, false, false, false, false] (by kernel_rfl) rfl rfl ⟨(zzS BK344.out 0).trans rfl, (zzS BK344.out 1).trans rfl, (zzS BK344.out 2).trans rfl, (zzS BK344.out 3).trans rfl, (zzS BK344.out 4).trans rfl, (zzS BK344.out 5).trans rfl⟩ (fun hHeld => ?_); refine zwI zdP.tab3 zdP.bits3 (fun HT_ HW_ => ?_)
    generalize w12.drew = w13 at BK342 BK344 HB hHeld ⊢
    refine pu_ 0 (some 10) (bl_ 8 1) ?_
    refine pu_ 3 (some 13) (bl_ 8 9) ?_
    refine tk6_ 1 (some 11) (bl_ 8 11) hHeld ?_
    refine tk6_ 4 (some 14) (bl_ 8 27) hHeld ?_
    refine zdC (i := 2) (N := some 12) (bl_ 8 31) rfl rfl (zeO HT_.out (by kernel_rfl)) (by decide) (fun K hK => ?_)
    refine zqW Tryd.func71 (by kernel_rfl) rfl #[.agg #[.int .i64 ((zdH gv0 (ji3)).f0.f0), .int .i64 ((zdH gv0 (ji3)).f0.f1), .int .i64 ((zdH gv0 (ji3)).f0.f2)]] (by rfl) rfl rfl (by (try simp only [List.map_toArray, List.map_cons, List.map_nil]); first | done | (simp only [hji3]; rfl) | rfl | (simp only [List.length_drop, List.length_take]; rfl)) ?_
    with_reducible refine (zjD.calls ((zdH gv0 (ji3)).f0.f0) ((zdH gv0 (ji3)).f0.f1) ((zdH gv0 (ji3)).f0.f2) t345 t346 t347 _ A6.out).mono ?_
    rintro e w14 ⟨rfl, hb⟩
    refine ⟨_, rfl, ?_⟩
    have n0_ := zpS (zgM (g := gb342) (o := .cells #[.int .i64 0, .int .i64 0, .int .i64 0, .int .i64 0, .int .i64 0, .int .i64 0] 33 (0, 0)) bk_ hb)
    have n1_ := zpS (zgM (g := gb344) (o := .cells #[.int .i64 ((zdH gv0 (ji3)).f0.f0), .int .i64 ((zdH gv0 (ji3)).f0.f1), .int .i64 ((zdH gv0 (ji3)).f0.f2), .int .i64 ((zdH gv0 (ji3)).f1.f0), .int .i64 ((zdH gv0 (ji3)).f1.f1), .int .i64 ((zdH gv0 (ji3)).f1.f2)] 33 (0, 0)) bk_ hb)
    have n2_ := (ns_ hb)
    clear BK342
    clear BK344
    clear HB
    have BK342 := n0_
    have BK344 := n1_
    have HB := n2_
    clear n0_ n1_ n2_
    (try clear hb)
    (try clear hb2)
    (try clear hk)
    (try clear hi)
    refine hK.out _ _ ⟨(zzS BK344.out 0).trans rfl, (zzS BK344.out 1).trans rfl, (zzS BK344.out 2).trans rfl, (zzS BK344.out 3).trans rfl, (zzS BK344.out 4).trans rfl, (zzS BK344.out 5).trans rfl⟩ (fun hHeld => ?_)
    clear hK K
    refine zaN (a' := ?_) ?_ ?_
    rotate_left
    ·show Act.put _ (some 12) _ = _
     simp only [Act.put, List.setIfInBounds_toArray, List.set_cons_zero, List.set_cons_succ, zcM, ziJ]
     rfl
    refine zdC (i := 5) (N := some 15) (bl_ 8 63) rfl rfl (zeO HT_.out (by kernel_rfl)) (by decide) (fun K hK => ?_)
    refine zqW Tryd.func71 (by kernel_rfl) rfl #[.agg #[.int .i64 ((zdH gv0 (ji3)).f1.f0), .int .i64 ((zdH gv0 (ji3)).f1.f1), .int .i64 ((zdH gv0 (ji3)).f1.f2)]] (by rfl) rfl rfl (by (try simp only [List.map_toArray, List.map_cons, List.map_nil]); first | done | (simp only [hji3]; rfl) | rfl | (simp only [List.length_drop, List.length_take]; rfl)) ?_
    with_reducible refine (zjD.calls ((zdH gv0 (ji3)).f1.f0) ((zdH gv0 (ji3)).f1.f1) ((zdH gv0 (ji3)).f1.f2) t348 t349 t350 _ A7.out).mono ?_
    rintro e w15 ⟨rfl, hb⟩
    refine ⟨_, rfl, ?_⟩
    have n0_ := zpS (zgM (g := gb342) (o := .cells #[.int .i64 0, .int .i64 0, .int .i64 0, .int .i64 0, .int .i64 0, .int .i64 0] 33 (0, 0)) bk_ hb)
    have n1_ := zpS (zgM (g := gb344) (o := .cells #[.int .i64 ((zdH gv0 (ji3)).f0.f0), .int .i64 ((zdH gv0 (ji3)).f0.f1), .int .i64 ((zdH gv0 (ji3)).f0.f2), .int .i64 ((zdH gv0 (ji3)).f1.f0), .int .i64 ((zdH gv0 (ji3)).f1.f1), .int .i64 ((zdH gv0 (ji3)).f1.f2)] 33 (0, 0)) bk_ hb)
    have n2_ := (ns_ hb)
    clear BK342
    clear BK344
    clear HB
    have BK342 := n0_
    have BK344 := n1_
    have HB := n2_
    clear n0_ n1_ n2_
    (try clear hb)
    (try clear hb2)
    (try clear hk)
    (try clear hi)
    refine hK.out _ _ ⟨(zzS BK344.out 0).trans rfl, (zzS BK344.out 1).trans rfl, (zzS BK344.out 2).trans rfl, (zzS BK344.out 3).trans rfl, (zzS BK344.out 4).trans rfl, (zzS BK344.out 5).trans rfl⟩ (fun hHeld => ?_)
    clear hK K
    refine zaN (a' := ?_) ?_ ?_
    rotate_left
    ·show Act.put _ (some 15) _ = _
     simp only [Act.put, List.setIfInBounds_toArray, List.set_cons_zero, List.set_cons_succ, zcM, ziJ]
     rfl
    refine pu_ 6 (some 16) (bl_ 8 127) ?_
    refine zdC (i := 7) (N := none) (bl_ 8 255) rfl rfl (zeO HT_.out (by kernel_rfl)) (by decide) (fun K hK => ?_)
    have hs16 : w15.cell? ⟨gb342, 0, none⟩ = some (.int .i64 0) := (zzS BK342.out 0).trans rfl
    have hfs16 := zjF BK342.out 0
    have hns16_1 := NB344_342.out
    have hms16_1 := NB342_344.out
    have hs17 : w15.cell? ⟨gb342, 1, none⟩ = some (.int .i64 0) := (zzS BK342.out 1).trans rfl
    have hfs17 := zjF BK342.out 1
    have hns17_1 := NB344_342.out
    have hms17_1 := NB342_344.out
    have hs18 : w15.cell? ⟨gb342, 2, none⟩ = some (.int .i64 0) := (zzS BK342.out 2).trans rfl
    have hfs18 := zjF BK342.out 2
    have hns18_1 := NB344_342.out
    have hms18_1 := NB342_344.out
    have hs19 : w15.cell? ⟨gb342, 3, none⟩ = some (.int .i64 0) := (zzS BK342.out 3).trans rfl
    have hfs19 := zjF BK342.out 3
    have hns19_1 := NB344_342.out
    have hms19_1 := NB342_344.out
    have hs20 : w15.cell? ⟨gb342, 4, none⟩ = some (.int .i64 0) := (zzS BK342.out 4).trans rfl
    have hfs20 := zjF BK342.out 4
    have hns20_1 := NB344_342.out
    have hms20_1 := NB342_344.out
    have hs21 : w15.cell? ⟨gb342, 5, none⟩ = some (.int .i64 0) := (zzS BK342.out 5).trans rfl
    have hfs21 := zjF BK342.out 5
    have hns21_1 := NB344_342.out
    have hms21_1 := NB342_344.out
    refine skip_ (w1 := ?_) (by rfl) rfl ?_ ?_
    rotate_left
    ·go_simp
     rfl
    refine hK.out _ _ ⟨((zgQ (p := ⟨gb342, _, none⟩) NB344_342.out _).trans (((zgQ (p := ⟨gb342, _, none⟩) NB344_342.out _).trans (((zgQ (p := ⟨gb342, _, none⟩) NB344_342.out _).trans (((zgQ (p := ⟨gb342, _, none⟩) NB344_342.out _).trans (((zgQ (p := ⟨gb342, _, none⟩) NB344_342.out _).trans (((zgQ (p := ⟨gb342, _, none⟩) NB344_342.out _).trans (hHeld.1)))))))))))), ((zgQ (p := ⟨gb342, _, none⟩) NB344_342.out _).trans (((zgQ (p := ⟨gb342, _, none⟩) NB344_342.out _).trans (((zgQ (p := ⟨gb342, _, none⟩) NB344_342.out _).trans (((zgQ (p := ⟨gb342, _, none⟩) NB344_342.out _).trans (((zgQ (p := ⟨gb342, _, none⟩) NB344_342.out _).trans (((zgQ (p := ⟨gb342, _, none⟩) NB344_342.out _).trans (hHeld.2.1)))))))))))), ((zgQ (p := ⟨gb342, _, none⟩) NB344_342.out _).trans (((zgQ (p := ⟨gb342, _, none⟩) NB344_342.out _).trans (((zgQ (p := ⟨gb342, _, none⟩) NB344_342.out _).trans (((zgQ (p := ⟨gb342, _, none⟩) NB344_342.out _).trans (((zgQ (p := ⟨gb342, _, none⟩) NB344_342.out _).trans (((zgQ (p := ⟨gb342, _, none⟩) NB344_342.out _).trans (hHeld.2.2.1)))))))))))), ((zgQ (p := ⟨gb342, _, none⟩) NB344_342.out _).trans (((zgQ (p := ⟨gb342, _, none⟩) NB344_342.out _).trans (((zgQ (p := ⟨gb342, _, none⟩) NB344_342.out _).trans (((zgQ (p := ⟨gb342, _, none⟩) NB344_342.out _).trans (((zgQ (p := ⟨gb342, _, none⟩) NB344_342.out _).trans (((zgQ (p := ⟨gb342, _, none⟩) NB344_342.out _).trans (hHeld.2.2.2.1)))))))))))), ((zgQ (p := ⟨gb342, _, none⟩) NB344_342.out _).trans (((zgQ (p := ⟨gb342, _, none⟩) NB344_342.out _).trans (((zgQ (p := ⟨gb342, _, none⟩) NB344_342.out _).trans (((zgQ (p := ⟨gb342, _, none⟩) NB344_342.out _).trans (((zgQ (p := ⟨gb342, _, none⟩) NB344_342.out _).trans (((zgQ (p := ⟨gb342, _, none⟩) NB344_342.out _).trans (hHeld.2.2.2.2.1)))))))))))), ((zgQ (p := ⟨gb342, _, none⟩) NB344_342.out _).trans (((zgQ (p := ⟨gb342, _, none⟩) NB344_342.out _).trans (((zgQ (p := ⟨gb342, _, none⟩) NB344_342.out _).trans (((zgQ (p := ⟨gb342, _, none⟩) NB344_342.out _).trans (((zgQ (p := ⟨gb342, _, none⟩) NB344_342.out _).trans (((zgQ (p := ⟨gb342, _, none⟩) NB344_342.out _).trans (hHeld.2.2.2.2.2))))))))))))⟩ (fun hHeld => ?_)
    clear hK K
    refine znK (zzP HT_.out (by kernel_rfl)) ?_
    try go_wp2
    refine bodyPost_ret (results_cell_row rfl _ _ gb342 33 #[.int .i64 t345, .int .i64 t346, .int .i64 t347, .int .i64 t348, .int .i64 t349, .int .i64 t350] (0, 0) _ rfl (by (with_reducible repeat (first | apply zuW | apply ztN | apply zqY)); refine zlL (cs := #[.int .i64 t345, .int .i64 t346, .int .i64 t347, .int .i64 t348, .int .i64 t349, .int .i64 0]) ?_ 5 _ rfl; (with_reducible repeat (first | apply zuW | apply ztN | apply zqY)); refine zlL (cs := #[.int .i64 t345, .int .i64 t346, .int .i64 t347, .int .i64 t348, .int .i64 0, .int .i64 0]) ?_ 4 _ rfl; (with_reducible repeat (first | apply zuW | apply ztN | apply zqY)); refine zlL (cs := #[.int .i64 t345, .int .i64 t346, .int .i64 t347, .int .i64 0, .int .i64 0, .int .i64 0]) ?_ 3 _ rfl; (with_reducible repeat (first | apply zuW | apply ztN | apply zqY)); refine zlL (cs := #[.int .i64 t345, .int .i64 t346, .int .i64 0, .int .i64 0, .int .i64 0, .int .i64 0]) ?_ 2 _ rfl; (with_reducible repeat (first | apply zuW | apply ztN | apply zqY)); refine zlL (cs := #[.int .i64 t345, .int .i64 0, .int .i64 0, .int .i64 0, .int .i64 0, .int .i64 0]) ?_ 1 _ rfl; (with_reducible repeat (first | apply zuW | apply ztN | apply zqY)); refine zlL (cs := #[.int .i64 0, .int .i64 0, .int .i64 0, .int .i64 0, .int .i64 0, .int .i64 0]) ?_ 0 _ rfl; (with_reducible repeat (first | apply zuW | apply ztN | apply zqY)); exact BK342.out) Tryd.underlying33 rfl (by kernel_rfl)) rfl ?_
    exact ⟨by first | rfl | (simp [ziS, znJ] <;> rfl) | (simp only [← hji3]; first | rfl | (simp [ziS, znJ] <;> rfl)) | (simp [*, ziS, znJ] <;> rfl), bb_⟩
   ·rw [if_neg c5] at H
    exact absurd H (by simp)
  ·rw [if_neg c4] at H
   exact absurd H (by simp)
 ·rw [if_neg c2] at H
  have c2b0 : decide (8 ≤ a0) = false := decide_eq_false c2
  clear c2
  by_cases c22 : 0 ≤ a0
  ·rw [if_pos c22] at H
   have c22b0 : decide (0 ≤ a0) = true := decide_eq_true c22
   clear c22
   by_cases c23 : a0 < 8
   ·rw [if_pos c23] at H
    have c23b0 : decide (a0 < 8) = true := decide_eq_true c23
    clear c23
    simp only [Option.some.injEq, Prod.mk.injEq] at H
    obtain ⟨rfl, rfl, rfl, rfl, rfl, rfl⟩ := H
    go_enter Tryd.func56, Tryd.ntmps56
    go_wp2_with (first | ((with_reducible refine zpZ (N := 2) rfl ?_); refine bx_ 2 #[.int .i64 0, .int .i64 0, .int .i64 0, .int .i64 0, .int .i64 0, .int .i64 0] 33 ?_; intro gb342 hg w24 hbox hb; have n0_ := (ns_ hb); have n1_ := zpS (hbox); have n2_ := (ng_ hg); have n3_ := n2_; clear HB; have HB := n0_; have BK342 := n1_; have GW342 := n2_; have GE342 := n3_; clear n0_ n1_ n2_ n3_; clear hb hbox hg; have p351 : 0 ≤ (a0 : Int) := of_decide_eq_true (by first | (with_reducible assumption) | assumption); have q351 : a0 < (gv0.length : Int) := of_decide_eq_true (by first | (with_reducible assumption) | assumption); have ql351 : ((a0 : Int) < (8 : Int)) = True := eq_true (of_decide_eq_true (by first | (with_reducible assumption) | assumption)); obtain ⟨ad351, e351, hx351_0, hx351_1, hx351_2, hx351_3, hx351_4, hx351_5⟩ := zuR HRg0.out a0 p351 q351; obtain rfl : (⟨0, 0, none⟩ : Addr) = ad351 := (by injection e351); (first | simp only [zyK] at hx351_0 | simp only [add_at] at hx351_0 | simp only [Addr.add, Nat.zero_add] at hx351_0 | skip); (first | simp only [zyK] at hx351_1 | simp only [add_at] at hx351_1 | simp only [Addr.add, Nat.zero_add] at hx351_1 | skip); (first | simp only [zyK] at hx351_2 | simp only [add_at] at hx351_2 | simp only [Addr.add, Nat.zero_add] at hx351_2 | skip); (first | simp only [zyK] at hx351_3 | simp only [add_at] at hx351_3 | simp only [Addr.add, Nat.zero_add] at hx351_3 | skip); (first | simp only [zyK] at hx351_4 | simp only [add_at] at hx351_4 | simp only [Addr.add, Nat.zero_add] at hx351_4 | skip); (first | simp only [zyK] at hx351_5 | simp only [add_at] at hx351_5 | simp only [Addr.add, Nat.zero_add] at hx351_5 | skip); replace hx351_0 := zeA HB.out hx351_0; replace hx351_1 := zeA HB.out hx351_1; replace hx351_2 := zeA HB.out hx351_2; replace hx351_3 := zeA HB.out hx351_3; replace hx351_4 := zeA HB.out hx351_4; replace hx351_5 := zeA HB.out hx351_5; replace p351 := eq_true p351; replace q351 := eq_true q351; obtain ⟨hcz25_0, hcz25_1, hcz25_2, hcz25_3, hcz25_4, hcz25_5⟩ := zrN BK342.out; obtain ⟨hfz25_0, hfz25_1, hfz25_2, hfz25_3, hfz25_4, hfz25_5⟩ := zoO BK342.out))
    refine bodyPost_ret (results_cell_row rfl _ _ gb342 33 #[.int .i64 ((zdH gv0 a0).f0.f0), .int .i64 ((zdH gv0 a0).f0.f1), .int .i64 ((zdH gv0 a0).f0.f2), .int .i64 ((zdH gv0 a0).f1.f0), .int .i64 ((zdH gv0 a0).f1.f1), .int .i64 ((zdH gv0 a0).f1.f2)] (0, 0) _ rfl (by (with_reducible repeat (first | apply zuW | apply ztN | apply zqY)); refine zlL (cs := #[.int .i64 ((zdH gv0 a0).f0.f0), .int .i64 ((zdH gv0 a0).f0.f1), .int .i64 ((zdH gv0 a0).f0.f2), .int .i64 ((zdH gv0 a0).f1.f0), .int .i64 ((zdH gv0 a0).f1.f1), .int .i64 0]) ?_ 5 _ rfl; (with_reducible repeat (first | apply zuW | apply ztN | apply zqY)); refine zlL (cs := #[.int .i64 ((zdH gv0 a0).f0.f0), .int .i64 ((zdH gv0 a0).f0.f1), .int .i64 ((zdH gv0 a0).f0.f2), .int .i64 ((zdH gv0 a0).f1.f0), .int .i64 0, .int .i64 0]) ?_ 4 _ rfl; (with_reducible repeat (first | apply zuW | apply ztN | apply zqY)); refine zlL (cs := #[.int .i64 ((zdH gv0 a0).f0.f0), .int .i64 ((zdH gv0 a0).f0.f1), .int .i64 ((zdH gv0 a0).f0.f2), .int .i64 0, .int .i64 0, .int .i64 0]) ?_ 3 _ rfl; (with_reducible repeat (first | apply zuW | apply ztN | apply zqY)); refine zlL (cs := #[.int .i64 ((zdH gv0 a0).f0.f0), .int .i64 ((zdH gv0 a0).f0.f1), .int .i64 0, .int .i64 0, .int .i64 0, .int .i64 0]) ?_ 2 _ rfl; (with_reducible repeat (first | apply zuW | apply ztN | apply zqY)); refine zlL (cs := #[.int .i64 ((zdH gv0 a0).f0.f0), .int .i64 0, .int .i64 0, .int .i64 0, .int .i64 0, .int .i64 0]) ?_ 1 _ rfl; (with_reducible repeat (first | apply zuW | apply ztN | apply zqY)); refine zlL (cs := #[.int .i64 0, .int .i64 0, .int .i64 0, .int .i64 0, .int .i64 0, .int .i64 0]) ?_ 0 _ rfl; (with_reducible repeat (first | apply zuW | apply ztN | apply zqY)); exact BK342.out) Tryd.underlying33 rfl (by kernel_rfl)) rfl ?_
    exact ⟨by first | rfl | (simp [ziS, znJ] <;> rfl) | (simp [*, ziS, znJ] <;> rfl), bb_⟩
   ·rw [if_neg c23] at H
    exact absurd H (by simp)
  ·rw [if_neg c22] at H
   exact absurd H (by simp)

def zeF.f (k : Nat) (a0_0 : Int) (a0_1 : Int) (a0_2 : Int) (a1_0 : Int) (a1_1 : Int) (a1_2 : Int) : Option (Int × Int × Int) := (zbI.f k (wrap64 ((wrap64 (a0_0 * a1_0)) + (wrap64 ((wrap64 (2 * a0_1)) * a1_1)))) (wrap64 ((wrap64 (a0_0 * a1_1)) + (wrap64 (a0_1 * a1_0)))) (wrap64 (a0_2 + a1_2))).bind fun bt355 => (some (bt355.1, bt355.2.1, bt355.2.2))
theorem zeF.mono : ∀ a0 a1 a2 a3 a4 a5 k, LeO (zeF.f k a0 a1 a2 a3 a4 a5) (zeF.f (k + 1) a0 a1 a2 a3 a4 a5) := by
 intro a0 a1 a2 a3 a4 a5 k
 unfold zeF.f
 repeat' first
   | (with_reducible exact zbI.mono _ _ _ _)
   | (with_reducible exact LeO.refl _)
   | (with_reducible exact LeO.none _)
   | (with_reducible refine LeO.ite ?_ ?_)
   | (with_reducible refine LeO.bind ?_ (fun _ => ?_))
   | exact zbI.mono _ _ _ _
   | exact LeO.none _
   | refine LeO.ite ?_ ?_
   | refine LeO.bind ?_ (fun _ => ?_)
set_option maxHeartbeats 8000000 in
set_option maxRecDepth 100000 in
theorem zeF.calls (k : Nat) (a0_0 : Int) (a0_1 : Int) (a0_2 : Int) (a1_0 : Int) (a1_1 : Int) (a1_2 : Int) (r1 : Int) (r2 : Int) (r3 : Int) (w : World) (h : zeF.f k a0_0 a0_1 a0_2 a1_0 a1_1 a1_2 = some (r1, r2, r3)) :
  Calls Tryd.prog 72 #[.agg #[.int .i64 a0_0, .int .i64 a0_1, .int .i64 a0_2], .agg #[.int .i64 a1_0, .int .i64 a1_1, .int .i64 a1_2]] w fun e w' => e = .returned (.agg #[.int .i64 r1, .int .i64 r2, .int .i64 r3]) ∧ Below w.heap.size w w' := by
 have hu31 := Tryd.underlying31
 have HB := zpS (Below.refl w.heap.size w)
 have H : ((zbI.f k (wrap64 ((wrap64 (a0_0 * a1_0)) + (wrap64 ((wrap64 (2 * a0_1)) * a1_1)))) (wrap64 ((wrap64 (a0_0 * a1_1)) + (wrap64 (a0_1 * a1_0)))) (wrap64 (a0_2 + a1_2))).bind fun bt355 => (some (bt355.1, bt355.2.1, bt355.2.2))) = some (r1, r2, r3) := h
 clear h
 replace H := Option.bind_eq_some_iff.mp H
 obtain ⟨⟨t355, t356, t357⟩, A30, H⟩ := H
 replace H : (some (t355, t356, t357)) = some (r1, r2, r3) := H
 have A3 := zpS A30
 clear A30
 simp only [Option.some.injEq, Prod.mk.injEq] at H
 obtain ⟨rfl, rfl, rfl⟩ := H
 go_enter Tryd.func72, Tryd.ntmps72
 go_wp2_with (first | ((with_reducible refine zpZ (N := 2) rfl ?_); refine bx_ 2 #[.int .i64 a0_0, .int .i64 a0_1, .int .i64 a0_2] 31 ?_; intro gb352 hg w4 hbox hb; have n0_ := (ns_ hb); have n1_ := zpS (hbox); have n2_ := (ng_ hg); have n3_ := n2_; clear HB; have HB := n0_; have BK352 := n1_; have GW352 := n2_; have GE352 := n3_; clear n0_ n1_ n2_ n3_; clear hb hbox hg) | ((with_reducible refine zpZ (N := 3) rfl ?_); refine bx_ 3 #[.int .i64 a1_0, .int .i64 a1_1, .int .i64 a1_2] 31 ?_; intro gb353 hg w5 hbox hb; have n0_ := zpS (zgM (g := gb352) (o := .cells #[.int .i64 a0_0, .int .i64 a0_1, .int .i64 a0_2] 31 (0, 0)) bk_ hb); have n1_ := (ns_ hb); have n2_ := zpS (hbox); have n3_ := (ng_ hg); have n4_ := n3_; have n5_ := zpS ((by rw [hg]; exact Nat.ne_of_lt (zmN (g := gb352) (o := .cells #[.int .i64 a0_0, .int .i64 a0_1, .int .i64 a0_2] 31 (0, 0)) bk_) : gb352 ≠ gb353)); have n6_ := zpS ((by rw [hg]; exact Nat.ne_of_gt (zmN (g := gb352) (o := .cells #[.int .i64 a0_0, .int .i64 a0_1, .int .i64 a0_2] 31 (0, 0)) bk_) : gb353 ≠ gb352)); clear BK352; clear HB; have BK352 := n0_; have HB := n1_; have BK353 := n2_; have GW353 := n3_; have GE353 := n4_; have NB352_353 := n5_; have NB353_352 := n6_; clear n0_ n1_ n2_ n3_ n4_ n5_ n6_; clear hb hbox hg) | ((with_reducible refine zpZ (N := 4) rfl ?_); refine bx_ 4 #[.int .i64 0, .int .i64 0, .int .i64 0] 31 ?_; intro gb354 hg w6 hbox hb; have n0_ := zpS (zgM (g := gb352) (o := .cells #[.int .i64 a0_0, .int .i64 a0_1, .int .i64 a0_2] 31 (0, 0)) bk_ hb); have n1_ := zpS (zgM (g := gb353) (o := .cells #[.int .i64 a1_0, .int .i64 a1_1, .int .i64 a1_2] 31 (0, 0)) bk_ hb); have n2_ := (ns_ hb); have n3_ := zpS (hbox); have n4_ := (ng_ hg); have n5_ := n4_; have n6_ := zpS ((by rw [hg]; exact Nat.ne_of_lt (zmN (g := gb352) (o := .cells #[.int .i64 a0_0, .int .i64 a0_1, .int .i64 a0_2] 31 (0, 0)) bk_) : gb352 ≠ gb354)); have n7_ := zpS ((by rw [hg]; exact Nat.ne_of_gt (zmN (g := gb352) (o := .cells #[.int .i64 a0_0, .int .i64 a0_1, .int .i64 a0_2] 31 (0, 0)) bk_) : gb354 ≠ gb352)); have n8_ := zpS ((by rw [hg]; exact Nat.ne_of_lt (zmN (g := gb353) (o := .cells #[.int .i64 a1_0, .int .i64 a1_1, .int .i64 a1_2] 31 (0, 0)) bk_) : gb353 ≠ gb354)); have n9_ := zpS ((by rw [hg]; exact Nat.ne_of_gt (zmN (g := gb353) (o := .cells #[.int .i64 a1_0, .int .i64 a1_1, .int .i64 a1_2] 31 (0, 0)) bk_) : gb354 ≠ gb353)); clear BK352; clear BK353; clear HB; have BK352 := n0_; have BK353 := n1_; have HB := n2_; have BK354 := n3_; have GW354 := n4_; have GE354 := n5_; have NB352_354 := n6_; have NB354_352 := n7_; have NB353_354 := n8_; have NB354_353 := n9_; clear n0_ n1_ n2_ n3_ n4_ n5_ n6_ n7_ n8_ n9_; clear hb hbox hg; have hnb7 := NB352_353.out; have hnc7 := NB353_352.out; have hnb8 := NB352_354.out; have hnc8 := NB354_352.out; obtain ⟨hcz9_0, hcz9_1, hcz9_2⟩ := zdT BK352.out; obtain ⟨hfz9_0, hfz9_1, hfz9_2⟩ := zqD BK352.out; have hnb10 := NB353_354.out; have hnc10 := NB354_353.out; obtain ⟨hcz11_0, hcz11_1, hcz11_2⟩ := zdT BK353.out; obtain ⟨hfz11_0, hfz11_1, hfz11_2⟩ := zqD BK353.out) | ((with_reducible refine zgK (f := 81) rfl ?_); refine zqQ (some 34) rfl rfl Tryd.func81 (by kernel_rfl) rfl #[.agg #[.int .i64 (wrap64 ((wrap64 (a0_0 * a1_0)) + (wrap64 ((wrap64 (2 * a0_1)) * a1_1)))), .int .i64 (wrap64 ((wrap64 (a0_0 * a1_1)) + (wrap64 (a0_1 * a1_0)))), .int .i64 (wrap64 (a0_2 + a1_2))]] rfl (by (try simp only [List.map_toArray, List.map_cons, List.map_nil]); first | done | rfl | (simp only [List.length_drop, List.length_take]; rfl)) ?_; (with_reducible refine (zbI.calls k (wrap64 ((wrap64 (a0_0 * a1_0)) + (wrap64 ((wrap64 (2 * a0_1)) * a1_1)))) (wrap64 ((wrap64 (a0_0 * a1_1)) + (wrap64 (a0_1 * a1_0)))) (wrap64 (a0_2 + a1_2)) t355 t356 t357 _ A3.out).mono ?_); rintro e w12 ⟨rfl, hb⟩; refine ⟨_, rfl, ?_⟩; have n0_ := zpS (zgM (g := gb352) (o := .cells #[.int .i64 a0_0, .int .i64 a0_1, .int .i64 a0_2] 31 (0, 0)) bk_ hb); have n1_ := zpS (zgM (g := gb353) (o := .cells #[.int .i64 a1_0, .int .i64 a1_1, .int .i64 a1_2] 31 (0, 0)) bk_ hb); have n2_ := zpS (zgM (g := gb354) (o := .cells #[.int .i64 0, .int .i64 0, .int .i64 0] 31 (0, 0)) bk_ hb); have n3_ := (ns_ hb); clear BK352; clear BK353; clear BK354; clear HB; have BK352 := n0_; have BK353 := n1_; have BK354 := n2_; have HB := n3_; clear n0_ n1_ n2_ n3_; (try clear hb); (try clear hb2); obtain ⟨hcz13_0, hcz13_1, hcz13_2⟩ := zdT BK354.out; obtain ⟨hfz13_0, hfz13_1, hfz13_2⟩ := zqD BK354.out))
 refine bodyPost_ret (results_cell_row rfl _ _ gb354 31 #[.int .i64 t355, .int .i64 t356, .int .i64 t357] (0, 0) _ rfl (by (with_reducible repeat (first | apply zuW | apply ztN | apply zqY)); refine zlL (cs := #[.int .i64 t355, .int .i64 t356, .int .i64 0]) ?_ 2 _ rfl; (with_reducible repeat (first | apply zuW | apply ztN | apply zqY)); refine zlL (cs := #[.int .i64 t355, .int .i64 0, .int .i64 0]) ?_ 1 _ rfl; (with_reducible repeat (first | apply zuW | apply ztN | apply zqY)); refine zlL (cs := #[.int .i64 0, .int .i64 0, .int .i64 0]) ?_ 0 _ rfl; (with_reducible repeat (first | apply zuW | apply ztN | apply zqY)); exact BK354.out) Tryd.underlying31 rfl (by kernel_rfl)) rfl ?_
 exact ⟨by first | rfl | (simp [ziS, znJ] <;> rfl) | (simp [*, ziS, znJ] <;> rfl), bb_⟩

end Go.Proofs.YtmmedohdjfhmnaaDoor.PFnExactPolygonText
