-- Printed for this claim by this session's program pp.py, which drives the kit's print with additions. Not trusted: Lean checks it.
import Derived.Test.YtmajpmofeddknaaDoorV1PFnExactInPolygonx0
import Derived.Test.YtmajpmofeddknaaDoorV1PFnExactInPolygonx9
namespace Go.Proofs.YtmajpmofeddknaaDoor.PFnExactInPolygon
open Go.RowKit Go.Proofs.YtmajpmofeddknaaDoorW.PrintWords Go.Proofs.YtmajpmofeddknaaDoorW.PrintLast Go.Proofs.YtmajpmofeddknaaDoorW.PrintMore
attribute [local go_sem] zeE zdX zeQ zeO zdK zdI zeA zeC   -- for this text's walks alone
set_option linter.unusedVariables false
set_option linter.unusedSimpArgs false

def zbR.f (k : Nat) (a0_0 : Int) (a0_1 : Int) (a0_2 : Int) (a1_0 : Int) (a1_1 : Int) (a1_2 : Int) : Option (Int × Int × Int) := (zcS.f a1_0 a1_1 a1_2).bind fun bt337 => ((zbU.f k a0_0 a0_1 a0_2 bt337.1 bt337.2.1 bt337.2.2).bind fun bt340 => (some (bt340.1, bt340.2.1, bt340.2.2)))
theorem zbR.mono : ∀ a0 a1 a2 a3 a4 a5 k, LeO (zbR.f k a0 a1 a2 a3 a4 a5) (zbR.f (k + 1) a0 a1 a2 a3 a4 a5) := by
 intro a0 a1 a2 a3 a4 a5 k
 unfold zbR.f
 repeat' first
   | (with_reducible exact zbU.mono _ _ _ _ _ _ _)
   | (with_reducible exact LeO.refl _)
   | (with_reducible exact LeO.none _)
   | (with_reducible refine LeO.ite ?_ ?_)
   | (with_reducible refine LeO.bind ?_ (fun _ => ?_))
   | exact zbU.mono _ _ _ _ _ _ _
   | exact LeO.none _
   | refine LeO.ite ?_ ?_
   | refine LeO.bind ?_ (fun _ => ?_)
set_option maxHeartbeats 8000000 in
set_option maxRecDepth 100000 in
theorem zbR.calls (k : Nat) (a0_0 : Int) (a0_1 : Int) (a0_2 : Int) (a1_0 : Int) (a1_1 : Int) (a1_2 : Int) (r1 : Int) (r2 : Int) (r3 : Int) (w : World) (h : zbR.f k a0_0 a0_1 a0_2 a1_0 a1_1 a1_2 = some (r1, r2, r3)) :
  Calls Tryd.prog 166 #[.agg #[.int .i64 a0_0, .int .i64 a0_1, .int .i64 a0_2], .agg #[.int .i64 a1_0, .int .i64 a1_1, .int .i64 a1_2]] w fun e w' => e = .returned (.agg #[.int .i64 r1, .int .i64 r2, .int .i64 r3]) ∧ Below w.heap.size w w' := by
 have hu34 := Tryd.underlying34
 have HB := zaJ (Below.refl w.heap.size w)
 have H : ((zcS.f a1_0 a1_1 a1_2).bind fun bt337 => ((zbU.f k a0_0 a0_1 a0_2 bt337.1 bt337.2.1 bt337.2.2).bind fun bt340 => (some (bt340.1, bt340.2.1, bt340.2.2)))) = some (r1, r2, r3) := h
 clear h
 replace H := Option.bind_eq_some_iff.mp H
 obtain ⟨⟨t337, t338, t339⟩, A30, H⟩ := H
 replace H : ((zbU.f k a0_0 a0_1 a0_2 t337 t338 t339).bind fun bt340 => (some (bt340.1, bt340.2.1, bt340.2.2))) = some (r1, r2, r3) := H
 have A3 := zaJ A30
 clear A30
 replace H := Option.bind_eq_some_iff.mp H
 obtain ⟨⟨t340, t341, t342⟩, A40, H⟩ := H
 replace H : (some (t340, t341, t342)) = some (r1, r2, r3) := H
 have A4 := zaJ A40
 clear A40
 simp only [Option.some.injEq, Prod.mk.injEq] at H
 obtain ⟨rfl, rfl, rfl⟩ := H
 go_enter Tryd.func166, Tryd.ntmps166
 try go_wp2_with (first | ((with_reducible refine zaQ (N := 2) rfl ?_); refine bx_ 2 #[.int .i64 a0_0, .int .i64 a0_1, .int .i64 a0_2] 34 ?_; intro gb334 hg w5 hbox hb; have n0_ := (ns_ hb); have n1_ := zaJ (hbox); have n2_ := (ng_ hg); have n3_ := n2_; clear HB; have HB := n0_; have BK334 := n1_; have GW334 := n2_; have GE334 := n3_; clear n0_ n1_ n2_ n3_; clear hb hbox hg) | ((with_reducible refine zaQ (N := 3) rfl ?_); refine bx_ 3 #[.int .i64 a1_0, .int .i64 a1_1, .int .i64 a1_2] 34 ?_; intro gb335 hg w6 hbox hb; have n0_ := zaJ (zaG (g := gb334) (o := .cells #[.int .i64 a0_0, .int .i64 a0_1, .int .i64 a0_2] 34 (0, 0)) bk_ hb); have n1_ := (ns_ hb); have n2_ := zaJ (hbox); have n3_ := (ng_ hg); have n4_ := n3_; have n5_ := zaJ ((by rw [hg]; exact Nat.ne_of_lt (zbC (g := gb334) (o := .cells #[.int .i64 a0_0, .int .i64 a0_1, .int .i64 a0_2] 34 (0, 0)) bk_) : gb334 ≠ gb335)); have n6_ := zaJ ((by rw [hg]; exact Nat.ne_of_gt (zbC (g := gb334) (o := .cells #[.int .i64 a0_0, .int .i64 a0_1, .int .i64 a0_2] 34 (0, 0)) bk_) : gb335 ≠ gb334)); clear BK334; clear HB; have BK334 := n0_; have HB := n1_; have BK335 := n2_; have GW335 := n3_; have GE335 := n4_; have NB334_335 := n5_; have NB335_334 := n6_; clear n0_ n1_ n2_ n3_ n4_ n5_ n6_; clear hb hbox hg) | ((with_reducible refine zaQ (N := 4) rfl ?_); refine bx_ 4 #[.int .i64 0, .int .i64 0, .int .i64 0] 34 ?_; intro gb336 hg w7 hbox hb; have n0_ := zaJ (zaG (g := gb334) (o := .cells #[.int .i64 a0_0, .int .i64 a0_1, .int .i64 a0_2] 34 (0, 0)) bk_ hb); have n1_ := zaJ (zaG (g := gb335) (o := .cells #[.int .i64 a1_0, .int .i64 a1_1, .int .i64 a1_2] 34 (0, 0)) bk_ hb); have n2_ := (ns_ hb); have n3_ := zaJ (hbox); have n4_ := (ng_ hg); have n5_ := n4_; have n6_ := zaJ ((by rw [hg]; exact Nat.ne_of_lt (zbC (g := gb334) (o := .cells #[.int .i64 a0_0, .int .i64 a0_1, .int .i64 a0_2] 34 (0, 0)) bk_) : gb334 ≠ gb336)); have n7_ := zaJ ((by rw [hg]; exact Nat.ne_of_gt (zbC (g := gb334) (o := .cells #[.int .i64 a0_0, .int .i64 a0_1, .int .i64 a0_2] 34 (0, 0)) bk_) : gb336 ≠ gb334)); have n8_ := zaJ ((by rw [hg]; exact Nat.ne_of_lt (zbC (g := gb335) (o := .cells #[.int .i64 a1_0, .int .i64 a1_1, .int .i64 a1_2] 34 (0, 0)) bk_) : gb335 ≠ gb336)); have n9_ := zaJ ((by rw [hg]; exact Nat.ne_of_gt (zbC (g := gb335) (o := .cells #[.int .i64 a1_0, .int .i64 a1_1, .int .i64 a1_2] 34 (0, 0)) bk_) : gb336 ≠ gb335)); clear BK334; clear BK335; clear HB; have BK334 := n0_; have BK335 := n1_; have HB := n2_; have BK336 := n3_; have GW336 := n4_; have GE336 := n5_; have NB334_336 := n6_; have NB336_334 := n7_; have NB335_336 := n8_; have NB336_335 := n9_; clear n0_ n1_ n2_ n3_ n4_ n5_ n6_ n7_ n8_ n9_; clear hb hbox hg))
 have n0_ := zaJ (zaE BK334.out)
 have n1_ := zaJ (zaE BK335.out)
 have n2_ := zaJ (zaE BK336.out)
 have n3_ := zaJ (zbT HB.out)
 clear BK334
 clear BK335
 clear BK336
 clear HB
 have BK334 := n0_
 have BK335 := n1_
 have BK336 := n2_
 have HB := n3_
 clear n0_ n1_ n2_ n3_
 refine zdL (n := 5) (S := fun w' => w'.cell? ⟨gb334, 0, none⟩ = some (.int .i64 a0_0) ∧ w'.cell? ⟨gb334, 1, none⟩ = some (.int .i64 a0_1) ∧ w'.cell? ⟨gb334, 2, none⟩ = some (.int .i64 a0_2) ∧ w'.cell? ⟨gb335, 0, none⟩ = some (.int .i64 a1_0) ∧ w'.cell? ⟨gb335, 1, none⟩ = some (.int .i64 a1_1) ∧ w'.cell? ⟨gb335, 2, none⟩ = some (.int .i64 a1_2)) (ds := []) #[false, false, false, false, false] (by kernel_rfl) rfl rfl ⟨(zaB BK334.out 0).trans rfl, (zaB BK334.out 1).trans rfl, (zaB BK334.out 2).trans rfl, (zaB BK335.out 0).trans rfl, (zaB BK335.out 1).trans rfl, (zaB BK335.out 2).trans rfl⟩ (fun hHeld => ?_)
 generalize w7.drew = w8 at BK334 BK335 BK336 HB hHeld ⊢
 refine take_ (i := 0) (N := some 5) (v := ?_) (a' := ?_) (bl_ 5 1) rfl rfl (by kernel_rfl) (fun _ _ _ h => h) (Or.inl ⟨by rfl, ?_⟩) hHeld ?_ ?_
 rotate_left
 ·rintro w' ⟨s0, s1, s2, s3, s4, s5⟩
  go_simp
  with_reducible rfl
 rotate_left
 ·simp only [Act.put, List.setIfInBounds_toArray, List.set_cons_zero, List.set_cons_succ, zbW, zbY]
  rfl
 refine take_ (i := 1) (N := some 6) (v := ?_) (a' := ?_) (bl_ 5 3) rfl rfl (by kernel_rfl) (fun _ _ _ h => h) (Or.inl ⟨by rfl, ?_⟩) hHeld ?_ ?_
 rotate_left
 ·rintro w' ⟨s0, s1, s2, s3, s4, s5⟩
  go_simp
  with_reducible rfl
 rotate_left
 ·simp only [Act.put, List.setIfInBounds_toArray, List.set_cons_zero, List.set_cons_succ, zbW, zbY]
  rfl
 refine zeK (i := 2) (N := some 7) (bl_ 5 7) rfl rfl (by kernel_rfl) (by decide) (fun K hK => ?_)
 refine zcY Tryd.func167 (by kernel_rfl) rfl #[.agg #[.int .i64 a1_0, .int .i64 a1_1, .int .i64 a1_2]] (by rfl) rfl rfl (by (try simp only [List.map_toArray, List.map_cons, List.map_nil]); first | done | rfl | (simp only [List.length_drop, List.length_take]; rfl)) ?_
 with_reducible refine (zcS.calls a1_0 a1_1 a1_2 t337 t338 t339 _ A3.out).mono ?_
 rintro e w9 ⟨rfl, hb⟩
 refine ⟨_, rfl, ?_⟩
 have n0_ := zaJ (zaG (g := gb334) (o := .cells #[.int .i64 a0_0, .int .i64 a0_1, .int .i64 a0_2] 34 (0, 0)) bk_ hb)
 have n1_ := zaJ (zaG (g := gb335) (o := .cells #[.int .i64 a1_0, .int .i64 a1_1, .int .i64 a1_2] 34 (0, 0)) bk_ hb)
 have n2_ := zaJ (zaG (g := gb336) (o := .cells #[.int .i64 0, .int .i64 0, .int .i64 0] 34 (0, 0)) bk_ hb)
 have n3_ := (ns_ hb)
 clear BK334
 clear BK335
 clear BK336
 clear HB
 have BK334 := n0_
 have BK335 := n1_
 have BK336 := n2_
 have HB := n3_
 clear n0_ n1_ n2_ n3_
 (try clear hb)
 (try clear hb2)
 (try clear hk)
 (try clear hi)
 refine hK.out _ _ ⟨(zaB BK334.out 0).trans rfl, (zaB BK334.out 1).trans rfl, (zaB BK334.out 2).trans rfl, (zaB BK335.out 0).trans rfl, (zaB BK335.out 1).trans rfl, (zaB BK335.out 2).trans rfl⟩ (fun hHeld => ?_)
 clear hK K
 refine zcX (a' := ?_) ?_ ?_
 rotate_left
 ·show Act.put _ (some 7) _ = _
  simp only [Act.put, List.setIfInBounds_toArray, List.set_cons_zero, List.set_cons_succ, zbW, zbY]
  rfl
 refine zeK (i := 3) (N := some 8) (bl_ 5 15) rfl rfl (by kernel_rfl) (by decide) (fun K hK => ?_)
 refine zcY Tryd.func169 (by kernel_rfl) rfl #[.agg #[.int .i64 a0_0, .int .i64 a0_1, .int .i64 a0_2], .agg #[.int .i64 t337, .int .i64 t338, .int .i64 t339]] (by rfl) rfl rfl (by (try simp only [List.map_toArray, List.map_cons, List.map_nil]); first | done | rfl | (simp only [List.length_drop, List.length_take]; rfl)) ?_
 with_reducible refine (zbU.calls k a0_0 a0_1 a0_2 t337 t338 t339 t340 t341 t342 _ A4.out).mono ?_
 rintro e w10 ⟨rfl, hb⟩
 refine ⟨_, rfl, ?_⟩
 have n0_ := zaJ (zaG (g := gb334) (o := .cells #[.int .i64 a0_0, .int .i64 a0_1, .int .i64 a0_2] 34 (0, 0)) bk_ hb)
 have n1_ := zaJ (zaG (g := gb335) (o := .cells #[.int .i64 a1_0, .int .i64 a1_1, .int .i64 a1_2] 34 (0, 0)) bk_ hb)
 have n2_ := zaJ (zaG (g := gb336) (o := .cells #[.int .i64 0, .int .i64 0, .int .i64 0] 34 (0, 0)) bk_ hb)
 have n3_ := (ns_ hb)
 clear BK334
 clear BK335
 clear BK336
 clear HB
 have BK334 := n0_
 have BK335 := n1_
 have BK336 := n2_
 have HB := n3_
 clear n0_ n1_ n2_ n3_
 (try clear hb)
 (try clear hb2)
 (try clear hk)
 (try clear hi)
 refine hK.out _ _ ⟨(zaB BK334.out 0).trans rfl, (zaB BK334.out 1).trans rfl, (zaB BK334.out 2).trans rfl, (zaB BK335.out 0).trans rfl, (zaB BK335.out 1).trans rfl, (zaB BK335.out 2).trans rfl⟩ (fun hHeld => ?_)
 clear hK K
 refine zcX (a' := ?_) ?_ ?_
 rotate_left
 ·show Act.put _ (some 8) _ = _
  simp only [Act.put, List.setIfInBounds_toArray, List.set_cons_zero, List.set_cons_succ, zbW, zbY]
  rfl
 refine zeK (i := 4) (N := none) (bl_ 5 31) rfl rfl (by kernel_rfl) (by decide) (fun K hK => ?_)
 have hs11 : w10.cell? ⟨gb336, 0, none⟩ = some (.int .i64 0) := (zaB BK336.out 0).trans rfl
 have hfs11 := zbE BK336.out 0
 have hns11_0 := NB334_336.out
 have hns11_1 := NB335_336.out
 have hms11_0 := NB336_334.out
 have hms11_1 := NB336_335.out
 have hs12 : w10.cell? ⟨gb336, 1, none⟩ = some (.int .i64 0) := (zaB BK336.out 1).trans rfl
 have hfs12 := zbE BK336.out 1
 have hns12_0 := NB334_336.out
 have hns12_1 := NB335_336.out
 have hms12_0 := NB336_334.out
 have hms12_1 := NB336_335.out
 have hs13 : w10.cell? ⟨gb336, 2, none⟩ = some (.int .i64 0) := (zaB BK336.out 2).trans rfl
 have hfs13 := zbE BK336.out 2
 have hns13_0 := NB334_336.out
 have hns13_1 := NB335_336.out
 have hms13_0 := NB336_334.out
 have hms13_1 := NB336_335.out
 refine skip_ (w1 := ?_) (by rfl) rfl ?_ ?_
 rotate_left
 ·go_simp
  rfl
 refine hK.out _ _ ⟨((zaF (p := ⟨gb336, _, none⟩) NB334_336.out _).trans (((zaF (p := ⟨gb336, _, none⟩) NB334_336.out _).trans (((zaF (p := ⟨gb336, _, none⟩) NB334_336.out _).trans (hHeld.1)))))), ((zaF (p := ⟨gb336, _, none⟩) NB334_336.out _).trans (((zaF (p := ⟨gb336, _, none⟩) NB334_336.out _).trans (((zaF (p := ⟨gb336, _, none⟩) NB334_336.out _).trans (hHeld.2.1)))))), ((zaF (p := ⟨gb336, _, none⟩) NB334_336.out _).trans (((zaF (p := ⟨gb336, _, none⟩) NB334_336.out _).trans (((zaF (p := ⟨gb336, _, none⟩) NB334_336.out _).trans (hHeld.2.2.1)))))), ((zaF (p := ⟨gb336, _, none⟩) NB335_336.out _).trans (((zaF (p := ⟨gb336, _, none⟩) NB335_336.out _).trans (((zaF (p := ⟨gb336, _, none⟩) NB335_336.out _).trans (hHeld.2.2.2.1)))))), ((zaF (p := ⟨gb336, _, none⟩) NB335_336.out _).trans (((zaF (p := ⟨gb336, _, none⟩) NB335_336.out _).trans (((zaF (p := ⟨gb336, _, none⟩) NB335_336.out _).trans (hHeld.2.2.2.2.1)))))), ((zaF (p := ⟨gb336, _, none⟩) NB335_336.out _).trans (((zaF (p := ⟨gb336, _, none⟩) NB335_336.out _).trans (((zaF (p := ⟨gb336, _, none⟩) NB335_336.out _).trans (hHeld.2.2.2.2.2))))))⟩ (fun hHeld => ?_)
 clear hK K
 refine zeS (by kernel_rfl) ?_
 try go_wp2
 refine bodyPost_ret (results_cell_row rfl _ _ gb336 34 #[.int .i64 t340, .int .i64 t341, .int .i64 t342] (0, 0) _ rfl (by (with_reducible repeat (first | apply zaD | apply zaE | apply zaC)); refine zaL (cs := #[.int .i64 t340, .int .i64 t341, .int .i64 0]) ?_ 2 _ rfl; (with_reducible repeat (first | apply zaD | apply zaE | apply zaC)); refine zaL (cs := #[.int .i64 t340, .int .i64 0, .int .i64 0]) ?_ 1 _ rfl; (with_reducible repeat (first | apply zaD | apply zaE | apply zaC)); refine zaL (cs := #[.int .i64 0, .int .i64 0, .int .i64 0]) ?_ 0 _ rfl; (with_reducible repeat (first | apply zaD | apply zaE | apply zaC)); exact BK336.out) Tryd.underlying34 rfl (by kernel_rfl)) rfl ?_
 exact ⟨by first | rfl | (simp [zaI, zaH] <;> rfl) | (simp [*, zaI, zaH] <;> rfl), bb_⟩

def zbB.f (k : Nat) (a0_0 : Int) (a0_1 : Int) (a0_2 : Int) (a0_3 : Int) (a0_4 : Int) (a0_5 : Int) (a1_0 : Int) (a1_1 : Int) (a1_2 : Int) (a1_3 : Int) (a1_4 : Int) (a1_5 : Int) : Option (Int × Int × Int × Int × Int × Int) := (zbR.f k a0_0 a0_1 a0_2 a1_0 a1_1 a1_2).bind fun bt346 => ((zbR.f k a0_3 a0_4 a0_5 a1_3 a1_4 a1_5).bind fun bt349 => (some (bt346.1, bt346.2.1, bt346.2.2, bt349.1, bt349.2.1, bt349.2.2)))
theorem zbB.mono : ∀ a0 a1 a2 a3 a4 a5 a6 a7 a8 a9 a10 a11 k, LeO (zbB.f k a0 a1 a2 a3 a4 a5 a6 a7 a8 a9 a10 a11) (zbB.f (k + 1) a0 a1 a2 a3 a4 a5 a6 a7 a8 a9 a10 a11) := by
 intro a0 a1 a2 a3 a4 a5 a6 a7 a8 a9 a10 a11 k
 unfold zbB.f
 repeat' first
   | (with_reducible exact zbR.mono _ _ _ _ _ _ _)
   | (with_reducible exact LeO.refl _)
   | (with_reducible exact LeO.none _)
   | (with_reducible refine LeO.ite ?_ ?_)
   | (with_reducible refine LeO.bind ?_ (fun _ => ?_))
   | exact zbR.mono _ _ _ _ _ _ _
   | exact LeO.none _
   | refine LeO.ite ?_ ?_
   | refine LeO.bind ?_ (fun _ => ?_)
def zbB.T1 : Bool × List (List Nat × List Nat) := (true, [([], []), ([0], [0]), ([], []), ([2], [2]), ([1, 3], [1, 3]), ([], []), ([5], [5]), ([], []), ([7], [7]), ([6, 8, 4], [6, 8]), ([4, 9], [4, 9]), ([10, 9, 0, 1, 2, 3, 4, 5, 6, 7, 8, 9, 10], [10])])
def zbB.B1 : List Nat := [0, 1, 0, 4, 15, 0, 32, 0, 128, 511, 1023, 2047]
theorem zbB.tab1 : rtab .any (opsOf Tryd.f138 1) = zbB.T1 := by kernel_rfl
theorem zbB.bits1 : zdW zbB.T1.2 zbB.B1 = true := by kernel_rfl
set_option maxHeartbeats 8000000 in
set_option maxRecDepth 100000 in
theorem zbB.calls (k : Nat) (a0_0 : Int) (a0_1 : Int) (a0_2 : Int) (a0_3 : Int) (a0_4 : Int) (a0_5 : Int) (a1_0 : Int) (a1_1 : Int) (a1_2 : Int) (a1_3 : Int) (a1_4 : Int) (a1_5 : Int) (r1 : Int) (r2 : Int) (r3 : Int) (r4 : Int) (r5 : Int) (r6 : Int) (w : World) (h : zbB.f k a0_0 a0_1 a0_2 a0_3 a0_4 a0_5 a1_0 a1_1 a1_2 a1_3 a1_4 a1_5 = some (r1, r2, r3, r4, r5, r6)) :
  Calls Tryd.prog 138 #[.agg #[.int .i64 a0_0, .int .i64 a0_1, .int .i64 a0_2, .int .i64 a0_3, .int .i64 a0_4, .int .i64 a0_5], .agg #[.int .i64 a1_0, .int .i64 a1_1, .int .i64 a1_2, .int .i64 a1_3, .int .i64 a1_4, .int .i64 a1_5]] w fun e w' => e = .returned (.agg #[.int .i64 r1, .int .i64 r2, .int .i64 r3, .int .i64 r4, .int .i64 r5, .int .i64 r6]) ∧ Below w.heap.size w w' := by
 have hu36 := Tryd.underlying36
 have hu34 := Tryd.underlying34
 have HB := zaJ (Below.refl w.heap.size w)
 have H : ((zbR.f k a0_0 a0_1 a0_2 a1_0 a1_1 a1_2).bind fun bt346 => ((zbR.f k a0_3 a0_4 a0_5 a1_3 a1_4 a1_5).bind fun bt349 => (some (bt346.1, bt346.2.1, bt346.2.2, bt349.1, bt349.2.1, bt349.2.2)))) = some (r1, r2, r3, r4, r5, r6) := h
 clear h
 replace H := Option.bind_eq_some_iff.mp H
 obtain ⟨⟨t346, t347, t348⟩, A30, H⟩ := H
 replace H : ((zbR.f k a0_3 a0_4 a0_5 a1_3 a1_4 a1_5).bind fun bt349 => (some (t346, t347, t348, bt349.1, bt349.2.1, bt349.2.2))) = some (r1, r2, r3, r4, r5, r6) := H
 have A3 := zaJ A30
 clear A30
 replace H := Option.bind_eq_some_iff.mp H
 obtain ⟨⟨t349, t350, t351⟩, A40, H⟩ := H
 replace H : (some (t346, t347, t348, t349, t350, t351)) = some (r1, r2, r3, r4, r5, r6) := H
 have A4 := zaJ A40
 clear A40
 simp only [Option.some.injEq, Prod.mk.injEq] at H
 obtain ⟨rfl, rfl, rfl, rfl, rfl, rfl⟩ := H
 go_enter Tryd.func138, Tryd.ntmps138
 try go_wp2_with (first | ((with_reducible refine zaQ (N := 2) rfl ?_); refine bx_ 2 #[.int .i64 a0_0, .int .i64 a0_1, .int .i64 a0_2, .int .i64 a0_3, .int .i64 a0_4, .int .i64 a0_5] 36 ?_; intro gb343 hg w5 hbox hb; have n0_ := (ns_ hb); have n1_ := zaJ (hbox); have n2_ := (ng_ hg); have n3_ := n2_; clear HB; have HB := n0_; have BK343 := n1_; have GW343 := n2_; have GE343 := n3_; clear n0_ n1_ n2_ n3_; clear hb hbox hg) | ((with_reducible refine zaQ (N := 3) rfl ?_); refine bx_ 3 #[.int .i64 a1_0, .int .i64 a1_1, .int .i64 a1_2, .int .i64 a1_3, .int .i64 a1_4, .int .i64 a1_5] 36 ?_; intro gb344 hg w6 hbox hb; have n0_ := zaJ (zaG (g := gb343) (o := .cells #[.int .i64 a0_0, .int .i64 a0_1, .int .i64 a0_2, .int .i64 a0_3, .int .i64 a0_4, .int .i64 a0_5] 36 (0, 0)) bk_ hb); have n1_ := (ns_ hb); have n2_ := zaJ (hbox); have n3_ := (ng_ hg); have n4_ := n3_; have n5_ := zaJ ((by rw [hg]; exact Nat.ne_of_lt (zbC (g := gb343) (o := .cells #[.int .i64 a0_0, .int .i64 a0_1, .int .i64 a0_2, .int .i64 a0_3, .int .i64 a0_4, .int .i64 a0_5] 36 (0, 0)) bk_) : gb343 ≠ gb344)); have n6_ := zaJ ((by rw [hg]; exact Nat.ne_of_gt (zbC (g := gb343) (o := .cells #[.int .i64 a0_0, .int .i64 a0_1, .int .i64 a0_2, .int .i64 a0_3, .int .i64 a0_4, .int .i64 a0_5] 36 (0, 0)) bk_) : gb344 ≠ gb343)); clear BK343; clear HB; have BK343 := n0_; have HB := n1_; have BK344 := n2_; have GW344 := n3_; have GE344 := n4_; have NB343_344 := n5_; have NB344_343 := n6_; clear n0_ n1_ n2_ n3_ n4_ n5_ n6_; clear hb hbox hg) | ((with_reducible refine zaQ (N := 4) rfl ?_); refine bx_ 4 #[.int .i64 0, .int .i64 0, .int .i64 0, .int .i64 0, .int .i64 0, .int .i64 0] 36 ?_; intro gb345 hg w7 hbox hb; have n0_ := zaJ (zaG (g := gb343) (o := .cells #[.int .i64 a0_0, .int .i64 a0_1, .int .i64 a0_2, .int .i64 a0_3, .int .i64 a0_4, .int .i64 a0_5] 36 (0, 0)) bk_ hb); have n1_ := zaJ (zaG (g := gb344) (o := .cells #[.int .i64 a1_0, .int .i64 a1_1, .int .i64 a1_2, .int .i64 a1_3, .int .i64 a1_4, .int .i64 a1_5] 36 (0, 0)) bk_ hb); have n2_ := (ns_ hb); have n3_ := zaJ (hbox); have n4_ := (ng_ hg); have n5_ := n4_; have n6_ := zaJ ((by rw [hg]; exact Nat.ne_of_lt (zbC (g := gb343) (o := .cells #[.int .i64 a0_0, .int .i64 a0_1, .int .i64 a0_2, .int .i64 a0_3, .int .i64 a0_4, .int .i64 a0_5] 36 (0, 0)) bk_) : gb343 ≠ gb345)); have n7_ := zaJ ((by rw [hg]; exact Nat.ne_of_gt (zbC (g := gb343) (o := .cells #[.int .i64 a0_0, .int .i64 a0_1, .int .i64 a0_2, .int .i64 a0_3, .int .i64 a0_4, .int .i64 a0_5] 36 (0, 0)) bk_) : gb345 ≠ gb343)); have n8_ := zaJ ((by rw [hg]; exact Nat.ne_of_lt (zbC (g := gb344) (o := .cells #[.int .i64 a1_0, .int .i64 a1_1, .int .i64 a1_2, .int .i64 a1_3, .int .i64 a1_4, .int .i64 a1_5] 36 (0, 0)) bk_) : gb344 ≠ gb345)); have n9_ := zaJ ((by rw [hg]; exact Nat.ne_of_gt (zbC (g := gb344) (o := .cells #[.int .i64 a1_0, .int .i64 a1_1, .int .i64 a1_2, .int .i64 a1_3, .int .i64 a1_4, .int .i64 a1_5] 36 (0, 0)) bk_) : gb345 ≠ gb344)); clear BK343; clear BK344; clear HB; have BK343 := n0_; have BK344 := n1_; have HB := n2_; have BK345 := n3_; have GW345 := n4_; have GE345 := n5_; have NB343_345 := n6_; have NB345_343 := n7_; have NB344_345 := n8_; have NB345_344 := n9_; clear n0_ n1_ n2_ n3_ n4_ n5_ n6_ n7_ n8_ n9_; clear hb hbox hg))
 have n0_ := zaJ (zaE BK343.out)
 have n1_ := zaJ (zaE BK344.out)
 have n2_ := zaJ (zaE BK345.out)
 have n3_ := zaJ (zbT HB.out)
 clear BK343
 clear BK344
 clear BK345
 clear HB
 have BK343 := n0_
 have BK344 := n1_
 have BK345 := n2_
 have HB := n3_
 clear n0_ n1_ n2_ n3_
 refine zdL (n := 12) (S := fun w' => w'.cell? ⟨gb343, 0, none⟩ = some (.int .i64 a0_0) ∧ w'.cell? ⟨gb343, 1, none⟩ = some (.int .i64 a0_1) ∧ w'.cell? ⟨gb343, 2, none⟩ = some (.int .i64 a0_2) ∧ w'.cell? ⟨gb343, 3, none⟩ = some (.int .i64 a0_3) ∧ w'.cell? ⟨gb343, 4, none⟩ = some (.int .i64 a0_4) ∧ w'.cell? ⟨gb343, 5, none⟩ = some (.int .i64 a0_5) ∧ w'.cell? ⟨gb344, 0, none⟩ = some (.int .i64 a1_0) ∧ w'.cell? ⟨gb344, 1, none⟩ = some (.int .i64 a1_1) ∧ w'.cell? ⟨gb344, 2, none⟩ = some (.int .i64 a1_2) ∧ w'.cell? ⟨gb344, 3, none⟩ = some (.int .i64 a1_3) ∧ w'.cell? ⟨gb344, 4, none⟩ = some (.int .i64 a1_4) ∧ w'.cell? ⟨gb344, 5, none⟩ = some (.int .i64 a1_5)) (ds := []) #[false, false, false, false, false, false, false, false, false, false, false, false] (by kernel_rfl) rfl rfl ⟨(zaB BK343.out 0).trans rfl, (zaB BK343.out 1).trans rfl, (zaB BK343.out 2).trans rfl, (zaB BK343.out 3).trans rfl, (zaB BK343.out 4).trans rfl, (zaB BK343.out 5).trans rfl, (zaB BK344.out 0).trans rfl, (zaB BK344.out 1).trans rfl, (zaB BK344.out 2).trans rfl, (zaB BK344.out 3).trans rfl, (zaB BK344.out 4).trans rfl, (zaB BK344.out 5).trans rfl⟩ (fun hHeld => ?_); refine zcN zbB.tab1 zbB.bits1 (fun HT_ HW_ => ?_)
 generalize w7.drew = w8 at BK343 BK344 BK345 HB hHeld ⊢
 refine pu_ 0 (some 5) (bl_ 12 1) ?_
 refine pu_ 2 (some 7) (bl_ 12 5) ?_
 refine pu_ 5 (some 10) (bl_ 12 37) ?_
 refine pu_ 7 (some 12) (bl_ 12 165) ?_
 refine zeJ 1 (some 6) (bl_ 12 167) hHeld ?_
 refine zeJ 3 (some 8) (bl_ 12 175) hHeld ?_
 refine zeJ 6 (some 11) (bl_ 12 239) hHeld ?_
 refine zeJ 8 (some 13) (bl_ 12 495) hHeld ?_
 refine zeK (i := 4) (N := some 9) (bl_ 12 511) rfl rfl (zcK HT_.out (by kernel_rfl)) (by decide) (fun K hK => ?_)
 refine zcY Tryd.func166 (by kernel_rfl) rfl #[.agg #[.int .i64 a0_0, .int .i64 a0_1, .int .i64 a0_2], .agg #[.int .i64 a1_0, .int .i64 a1_1, .int .i64 a1_2]] (by rfl) rfl rfl (by (try simp only [List.map_toArray, List.map_cons, List.map_nil]); first | done | rfl | (simp only [List.length_drop, List.length_take]; rfl)) ?_
 with_reducible refine (zbR.calls k a0_0 a0_1 a0_2 a1_0 a1_1 a1_2 t346 t347 t348 _ A3.out).mono ?_
 rintro e w9 ⟨rfl, hb⟩
 refine ⟨_, rfl, ?_⟩
 have n0_ := zaJ (zaG (g := gb343) (o := .cells #[.int .i64 a0_0, .int .i64 a0_1, .int .i64 a0_2, .int .i64 a0_3, .int .i64 a0_4, .int .i64 a0_5] 36 (0, 0)) bk_ hb)
 have n1_ := zaJ (zaG (g := gb344) (o := .cells #[.int .i64 a1_0, .int .i64 a1_1, .int .i64 a1_2, .int .i64 a1_3, .int .i64 a1_4, .int .i64 a1_5] 36 (0, 0)) bk_ hb)
 have n2_ := zaJ (zaG (g := gb345) (o := .cells #[.int .i64 0, .int .i64 0, .int .i64 0, .int .i64 0, .int .i64 0, .int .i64 0] 36 (0, 0)) bk_ hb)
 have n3_ := (ns_ hb)
 clear BK343
 clear BK344
 clear BK345
 clear HB
 have BK343 := n0_
 have BK344 := n1_
 have BK345 := n2_
 have HB := n3_
 clear n0_ n1_ n2_ n3_
 (try clear hb)
 (try clear hb2)
 (try clear hk)
 (try clear hi)
 refine hK.out _ _ ⟨(zaB BK343.out 0).trans rfl, (zaB BK343.out 1).trans rfl, (zaB BK343.out 2).trans rfl, (zaB BK343.out 3).trans rfl, (zaB BK343.out 4).trans rfl, (zaB BK343.out 5).trans rfl, (zaB BK344.out 0).trans rfl, (zaB BK344.out 1).trans rfl, (zaB BK344.out 2).trans rfl, (zaB BK344.out 3).trans rfl, (zaB BK344.out 4).trans rfl, (zaB BK344.out 5).trans rfl⟩ (fun hHeld => ?_)
 clear hK K
 refine zcX (a' := ?_) ?_ ?_
 rotate_left
 ·show Act.put _ (some 9) _ = _
  simp only [Act.put, List.setIfInBounds_toArray, List.set_cons_zero, List.set_cons_succ, zbW, zbY]
  rfl
 refine zeK (i := 9) (N := some 14) (bl_ 12 1023) rfl rfl (zcK HT_.out (by kernel_rfl)) (by decide) (fun K hK => ?_)
 refine zcY Tryd.func166 (by kernel_rfl) rfl #[.agg #[.int .i64 a0_3, .int .i64 a0_4, .int .i64 a0_5], .agg #[.int .i64 a1_3, .int .i64 a1_4, .int .i64 a1_5]] (by rfl) rfl rfl (by (try simp only [List.map_toArray, List.map_cons, List.map_nil]); first | done | rfl | (simp only [List.length_drop, List.length_take]; rfl)) ?_
 with_reducible refine (zbR.calls k a0_3 a0_4 a0_5 a1_3 a1_4 a1_5 t349 t350 t351 _ A4.out).mono ?_
 rintro e w10 ⟨rfl, hb⟩
 refine ⟨_, rfl, ?_⟩
 have n0_ := zaJ (zaG (g := gb343) (o := .cells #[.int .i64 a0_0, .int .i64 a0_1, .int .i64 a0_2, .int .i64 a0_3, .int .i64 a0_4, .int .i64 a0_5] 36 (0, 0)) bk_ hb)
 have n1_ := zaJ (zaG (g := gb344) (o := .cells #[.int .i64 a1_0, .int .i64 a1_1, .int .i64 a1_2, .int .i64 a1_3, .int .i64 a1_4, .int .i64 a1_5] 36 (0, 0)) bk_ hb)
 have n2_ := zaJ (zaG (g := gb345) (o := .cells #[.int .i64 0, .int .i64 0, .int .i64 0, .int .i64 0, .int .i64 0, .int .i64 0] 36 (0, 0)) bk_ hb)
 have n3_ := (ns_ hb)
 clear BK343
 clear BK344
 clear BK345
 clear HB
 have BK343 := n0_
 have BK344 := n1_
 have BK345 := n2_
 have HB := n3_
 clear n0_ n1_ n2_ n3_
 (try clear hb)
 (try clear hb2)
 (try clear hk)
 (try clear hi)
 refine hK.out _ _ ⟨(zaB BK343.out 0).trans rfl, (zaB BK343.out 1).trans rfl, (zaB BK343.out 2).trans rfl, (zaB BK343.out 3).trans rfl, (zaB BK343.out 4).trans rfl, (zaB BK343.out 5).trans rfl, (zaB BK344.out 0).trans rfl, (zaB BK344.out 1).trans rfl, (zaB BK344.out 2).trans rfl, (zaB BK344.out 3).trans rfl, (zaB BK344.out 4).trans rfl, (zaB BK344.out 5).trans rfl⟩ (fun hHeld => ?_)
 clear hK K
 refine zcX (a' := ?_) ?_ ?_
 rotate_left
 ·show Act.put _ (some 14) _ = _
  simp only [Act.put, List.setIfInBounds_toArray, List.set_cons_zero, List.set_cons_succ, zbW, zbY]
  rfl
 refine pu_ 10 (some 15) (bl_ 12 2047) ?_
 refine zeK (i := 11) (N := none) (bl_ 12 4095) rfl rfl (zcK HT_.out (by kernel_rfl)) (by decide) (fun K hK => ?_)
 have hs11 : w10.cell? ⟨gb345, 0, none⟩ = some (.int .i64 0) := (zaB BK345.out 0).trans rfl
 have hfs11 := zbE BK345.out 0
 have hns11_0 := NB343_345.out
 have hns11_1 := NB344_345.out
 have hms11_0 := NB345_343.out
 have hms11_1 := NB345_344.out
 have hs12 : w10.cell? ⟨gb345, 1, none⟩ = some (.int .i64 0) := (zaB BK345.out 1).trans rfl
 have hfs12 := zbE BK345.out 1
 have hns12_0 := NB343_345.out
 have hns12_1 := NB344_345.out
 have hms12_0 := NB345_343.out
 have hms12_1 := NB345_344.out
 have hs13 : w10.cell? ⟨gb345, 2, none⟩ = some (.int .i64 0) := (zaB BK345.out 2).trans rfl
 have hfs13 := zbE BK345.out 2
 have hns13_0 := NB343_345.out
 have hns13_1 := NB344_345.out
 have hms13_0 := NB345_343.out
 have hms13_1 := NB345_344.out
 have hs14 : w10.cell? ⟨gb345, 3, none⟩ = some (.int .i64 0) := (zaB BK345.out 3).trans rfl
 have hfs14 := zbE BK345.out 3
 have hns14_0 := NB343_345.out
 have hns14_1 := NB344_345.out
 have hms14_0 := NB345_343.out
 have hms14_1 := NB345_344.out
 have hs15 : w10.cell? ⟨gb345, 4, none⟩ = some (.int .i64 0) := (zaB BK345.out 4).trans rfl
 have hfs15 := zbE BK345.out 4
 have hns15_0 := NB343_345.out
 have hns15_1 := NB344_345.out
 have hms15_0 := NB345_343.out
 have hms15_1 := NB345_344.out
 have hs16 : w10.cell? ⟨gb345, 5, none⟩ = some (.int .i64 0) := (zaB BK345.out 5).trans rfl
 have hfs16 := zbE BK345.out 5
 have hns16_0 := NB343_345.out
 have hns16_1 := NB344_345.out
 have hms16_0 := NB345_343.out
 have hms16_1 := NB345_344.out
 refine skip_ (w1 := ?_) (by rfl) rfl ?_ ?_
 rotate_left
 ·go_simp
  rfl
 refine hK.out _ _ ⟨((zaF (p := ⟨gb345, _, none⟩) NB343_345.out _).trans (((zaF (p := ⟨gb345, _, none⟩) NB343_345.out _).trans (((zaF (p := ⟨gb345, _, none⟩) NB343_345.out _).trans (((zaF (p := ⟨gb345, _, none⟩) NB343_345.out _).trans (((zaF (p := ⟨gb345, _, none⟩) NB343_345.out _).trans (((zaF (p := ⟨gb345, _, none⟩) NB343_345.out _).trans (hHeld.1)))))))))))), ((zaF (p := ⟨gb345, _, none⟩) NB343_345.out _).trans (((zaF (p := ⟨gb345, _, none⟩) NB343_345.out _).trans (((zaF (p := ⟨gb345, _, none⟩) NB343_345.out _).trans (((zaF (p := ⟨gb345, _, none⟩) NB343_345.out _).trans (((zaF (p := ⟨gb345, _, none⟩) NB343_345.out _).trans (((zaF (p := ⟨gb345, _, none⟩) NB343_345.out _).trans (hHeld.2.1)))))))))))), ((zaF (p := ⟨gb345, _, none⟩) NB343_345.out _).trans (((zaF (p := ⟨gb345, _, none⟩) NB343_345.out _).trans (((zaF (p := ⟨gb345, _, none⟩) NB343_345.out _).trans (((zaF (p := ⟨gb345, _, none⟩) NB343_345.out _).trans (((zaF (p := ⟨gb345, _, none⟩) NB343_345.out _).trans (((zaF (p := ⟨gb345, _, none⟩) NB343_345.out _).trans (hHeld.2.2.1)))))))))))), ((zaF (p := ⟨gb345, _, none⟩) NB343_345.out _).trans (((zaF (p := ⟨gb345, _, none⟩) NB343_345.out _).trans (((zaF (p := ⟨gb345, _, none⟩) NB343_345.out _).trans (((zaF (p := ⟨gb345, _, none⟩) NB343_345.out _).trans (((zaF (p := ⟨gb345, _, none⟩) NB343_345.out _).trans (((zaF (p := ⟨gb345, _, none⟩) NB343_345.out _).trans (hHeld.2.2.2.1)))))))))))), ((zaF (p := ⟨gb345, _, none⟩) NB343_345.out _).trans (((zaF (p := ⟨gb345, _, none⟩) NB343_345.out _).trans (((zaF (p := ⟨gb345, _, none⟩) NB343_345.out _).trans (((zaF (p := ⟨gb345, _, none⟩) NB343_345.out _).trans (((zaF (p := ⟨gb345, _, none⟩) NB343_345.out _).trans (((zaF (p := ⟨gb345, _, none⟩) NB343_345.out _).trans (hHeld.2.2.2.2.1)))))))))))), ((zaF (p := ⟨gb345, _, none⟩) NB343_345.out _).trans (((zaF (p := ⟨gb345, _, none⟩) NB343_345.out _).trans (((zaF (p := ⟨gb345, _, none⟩) NB343_345.out _).trans (((zaF (p := ⟨gb345, _, none⟩) NB343_345.out _).trans (((zaF (p := ⟨gb345, _, none⟩) NB343_345.out _).trans (((zaF (p := ⟨gb345, _, none⟩) NB343_345.out _).trans (hHeld.2.2.2.2.2.1)))))))))))), ((zaF (p := ⟨gb345, _, none⟩) NB344_345.out _).trans (((zaF (p := ⟨gb345, _, none⟩) NB344_345.out _).trans (((zaF (p := ⟨gb345, _, none⟩) NB344_345.out _).trans (((zaF (p := ⟨gb345, _, none⟩) NB344_345.out _).trans (((zaF (p := ⟨gb345, _, none⟩) NB344_345.out _).trans (((zaF (p := ⟨gb345, _, none⟩) NB344_345.out _).trans (hHeld.2.2.2.2.2.2.1)))))))))))), ((zaF (p := ⟨gb345, _, none⟩) NB344_345.out _).trans (((zaF (p := ⟨gb345, _, none⟩) NB344_345.out _).trans (((zaF (p := ⟨gb345, _, none⟩) NB344_345.out _).trans (((zaF (p := ⟨gb345, _, none⟩) NB344_345.out _).trans (((zaF (p := ⟨gb345, _, none⟩) NB344_345.out _).trans (((zaF (p := ⟨gb345, _, none⟩) NB344_345.out _).trans (hHeld.2.2.2.2.2.2.2.1)))))))))))), ((zaF (p := ⟨gb345, _, none⟩) NB344_345.out _).trans (((zaF (p := ⟨gb345, _, none⟩) NB344_345.out _).trans (((zaF (p := ⟨gb345, _, none⟩) NB344_345.out _).trans (((zaF (p := ⟨gb345, _, none⟩) NB344_345.out _).trans (((zaF (p := ⟨gb345, _, none⟩) NB344_345.out _).trans (((zaF (p := ⟨gb345, _, none⟩) NB344_345.out _).trans (hHeld.2.2.2.2.2.2.2.2.1)))))))))))), ((zaF (p := ⟨gb345, _, none⟩) NB344_345.out _).trans (((zaF (p := ⟨gb345, _, none⟩) NB344_345.out _).trans (((zaF (p := ⟨gb345, _, none⟩) NB344_345.out _).trans (((zaF (p := ⟨gb345, _, none⟩) NB344_345.out _).trans (((zaF (p := ⟨gb345, _, none⟩) NB344_345.out _).trans (((zaF (p := ⟨gb345, _, none⟩) NB344_345.out _).trans (hHeld.2.2.2.2.2.2.2.2.2.1)))))))))))), ((zaF (p := ⟨gb345, _, none⟩) NB344_345.out _).trans (((zaF (p := ⟨gb345, _, none⟩) NB344_345.out _).trans (((zaF (p := ⟨gb345, _, none⟩) NB344_345.out _).trans (((zaF (p := ⟨gb345, _, none⟩) NB344_345.out _).trans (((zaF (p := ⟨gb345, _, none⟩) NB344_345.out _).trans (((zaF (p := ⟨gb345, _, none⟩) NB344_345.out _).trans (hHeld.2.2.2.2.2.2.2.2.2.2.1)))))))))))), ((zaF (p := ⟨gb345, _, none⟩) NB344_345.out _).trans (((zaF (p := ⟨gb345, _, none⟩) NB344_345.out _).trans (((zaF (p := ⟨gb345, _, none⟩) NB344_345.out _).trans (((zaF (p := ⟨gb345, _, none⟩) NB344_345.out _).trans (((zaF (p := ⟨gb345, _, none⟩) NB344_345.out _).trans (((zaF (p := ⟨gb345, _, none⟩) NB344_345.out _).trans (hHeld.2.2.2.2.2.2.2.2.2.2.2))))))))))))⟩ (fun hHeld => ?_)
 clear hK K
 refine zeS (zdD HT_.out (by kernel_rfl)) ?_
 try go_wp2
 refine bodyPost_ret (results_cell_row rfl _ _ gb345 36 #[.int .i64 t346, .int .i64 t347, .int .i64 t348, .int .i64 t349, .int .i64 t350, .int .i64 t351] (0, 0) _ rfl (by (with_reducible repeat (first | apply zaD | apply zaE | apply zaC)); refine zaL (cs := #[.int .i64 t346, .int .i64 t347, .int .i64 t348, .int .i64 t349, .int .i64 t350, .int .i64 0]) ?_ 5 _ rfl; (with_reducible repeat (first | apply zaD | apply zaE | apply zaC)); refine zaL (cs := #[.int .i64 t346, .int .i64 t347, .int .i64 t348, .int .i64 t349, .int .i64 0, .int .i64 0]) ?_ 4 _ rfl; (with_reducible repeat (first | apply zaD | apply zaE | apply zaC)); refine zaL (cs := #[.int .i64 t346, .int .i64 t347, .int .i64 t348, .int .i64 0, .int .i64 0, .int .i64 0]) ?_ 3 _ rfl; (with_reducible repeat (first | apply zaD | apply zaE | apply zaC)); refine zaL (cs := #[.int .i64 t346, .int .i64 t347, .int .i64 0, .int .i64 0, .int .i64 0, .int .i64 0]) ?_ 2 _ rfl; (with_reducible repeat (first | apply zaD | apply zaE | apply zaC)); refine zaL (cs := #[.int .i64 t346, .int .i64 0, .int .i64 0, .int .i64 0, .int .i64 0, .int .i64 0]) ?_ 1 _ rfl; (with_reducible repeat (first | apply zaD | apply zaE | apply zaC)); refine zaL (cs := #[.int .i64 0, .int .i64 0, .int .i64 0, .int .i64 0, .int .i64 0, .int .i64 0]) ?_ 0 _ rfl; (with_reducible repeat (first | apply zaD | apply zaE | apply zaC)); exact BK345.out) Tryd.underlying36 rfl (by kernel_rfl)) rfl ?_
 exact ⟨by first | rfl | (simp [zaI, zaH] <;> rfl) | (simp [*, zaI, zaH] <;> rfl), bb_⟩

def gv0 : List S36 := [⟨⟨1, 0, 0⟩, ⟨0, 0, 0⟩⟩, ⟨⟨1, 0, 0⟩, ⟨-1, 1, 0⟩⟩, ⟨⟨1, 0, 0⟩, ⟨1, 0, 0⟩⟩, ⟨⟨-1, 1, 0⟩, ⟨1, 0, 0⟩⟩, ⟨⟨0, 0, 0⟩, ⟨1, 0, 0⟩⟩, ⟨⟨1, -1, 0⟩, ⟨1, 0, 0⟩⟩, ⟨⟨-1, 0, 0⟩, ⟨1, 0, 0⟩⟩, ⟨⟨-1, 0, 0⟩, ⟨-1, 1, 0⟩⟩]
def LaidV0 (w : World) : Prop := ∀ (j : Nat) (p : S36), gv0[j]? = some p → ∀ (i : Nat) (u : Value), [Value.int .i64 p.f0.f0, .int .i64 p.f0.f1, .int .i64 p.f0.f2, .int .i64 p.f1.f0, .int .i64 p.f1.f1, .int .i64 p.f1.f2][i]? = some u → w.cell? ((⟨0, 0, none⟩ : Addr).add (j * 6 + i)) = some u
theorem LaidV0.below {w w' : World} (h : LaidV0 w) (hB : Below w.heap.size w w') : LaidV0 w' := fun j p hp i u hu => (hB.cell (World.block_lt_of_cell? w _ (h j p hp i u hu))).trans (h j p hp i u hu)
theorem LaidV0.C {w : World} (h : LaidV0 w) : Kd.C k36 w (some ⟨0, 0, none⟩) gv0.length gv0 :=
 ⟨rfl, by decide, fun _ => ⟨_, rfl, fun j p hp => ⟨_, rfl, k36_mk w p, fun i u hu => h j p hp i u hu⟩⟩⟩
def gvCells0 : List Value := gv0.flatMap fun p => [Value.int .i64 p.f0.f0, .int .i64 p.f0.f1, .int .i64 p.f0.f2, .int .i64 p.f1.f0, .int .i64 p.f1.f1, .int .i64 p.f1.f2]
theorem LaidV0.of_cells {w : World} (h : ∀ off : Nat, w.cell? ⟨0, off, none⟩ = gvCells0[off]?) : LaidV0 w := by
 intro j p hp i u hu
 have hj : j < 8 := (List.getElem?_eq_some_iff.1 hp).1
 have hi : i < 6 := (List.getElem?_eq_some_iff.1 hu).1
 have ha : (⟨0, 0, none⟩ : Addr).add (j * 6 + i) = ⟨0, j * 6 + i, none⟩ := by rw [zdE]
 rw [ha, h]
 have : j = 0 ∨ j = 1 ∨ j = 2 ∨ j = 3 ∨ j = 4 ∨ j = 5 ∨ j = 6 ∨ j = 7 := by omega
 have : i = 0 ∨ i = 1 ∨ i = 2 ∨ i = 3 ∨ i = 4 ∨ i = 5 := by omega
 rcases ‹j = 0 ∨ _› with rfl | rfl | rfl | rfl | rfl | rfl | rfl | rfl <;> cases hp <;> rcases ‹i = 0 ∨ _› with rfl | rfl | rfl | rfl | rfl | rfl <;> cases hu <;> rfl
structure LaidV (w : World) : Prop where
 v0 : LaidV0 w
theorem LaidV.below {w w' : World} (h : LaidV w) (hB : Below w.heap.size w w') : LaidV w' := ⟨LaidV0.below h.v0 hB⟩

def zbJ.f (a0 : Int) : Option (Int × Int × Int × Int × Int × Int) := if a0 ≥ 8 then (if 0 ≤ (wrap64 (a0 - 8)) then (if (wrap64 (a0 - 8)) < 8 then ((zcS.f ((zaA gv0 (wrap64 (a0 - 8))).f0.f0) ((zaA gv0 (wrap64 (a0 - 8))).f0.f1) ((zaA gv0 (wrap64 (a0 - 8))).f0.f2)).bind fun bt355 => ((zcS.f ((zaA gv0 (wrap64 (a0 - 8))).f1.f0) ((zaA gv0 (wrap64 (a0 - 8))).f1.f1) ((zaA gv0 (wrap64 (a0 - 8))).f1.f2)).bind fun bt358 => (some (bt355.1, bt355.2.1, bt355.2.2, bt358.1, bt358.2.1, bt358.2.2)))) else (none)) else (none)) else (if 0 ≤ a0 then (if a0 < 8 then (some ((zaA gv0 a0).f0.f0, (zaA gv0 a0).f0.f1, (zaA gv0 a0).f0.f2, (zaA gv0 a0).f1.f0, (zaA gv0 a0).f1.f1, (zaA gv0 a0).f1.f2)) else (none)) else (none))
def zbJ.T3 : Bool × List (List Nat × List Nat) := (true, [([], []), ([0], [0]), ([1], [1]), ([], []), ([3], [3]), ([4, 2], [4]), ([2, 5], [2, 5]), ([6, 5, 0, 1, 2, 3, 4, 5, 6], [6])])
def zbJ.B3 : List Nat := [0, 1, 3, 0, 8, 31, 63, 127]
theorem zbJ.tab3 : rtab .any (opsOf Tryd.f139 3) = zbJ.T3 := by kernel_rfl
theorem zbJ.bits3 : zdW zbJ.T3.2 zbJ.B3 = true := by kernel_rfl
set_option maxHeartbeats 8000000 in
set_option maxRecDepth 100000 in
theorem zbJ.calls (a0 : Int) (r1 : Int) (r2 : Int) (r3 : Int) (r4 : Int) (r5 : Int) (r6 : Int) (w : World) (hG : LaidV w) (h : zbJ.f a0 = some (r1, r2, r3, r4, r5, r6)) :
  Calls Tryd.prog 139 #[.int .i64 a0] w fun e w' => e = .returned (.agg #[.int .i64 r1, .int .i64 r2, .int .i64 r3, .int .i64 r4, .int .i64 r5, .int .i64 r6]) ∧ Below w.heap.size w w' := by
 have hu36 := Tryd.underlying36
 have hu34 := Tryd.underlying34
 have HB := zaJ (Below.refl w.heap.size w)
 have HRg0 := zaJ (LaidV0.C hG.v0)
 have H : (if a0 ≥ 8 then (if 0 ≤ (wrap64 (a0 - 8)) then (if (wrap64 (a0 - 8)) < 8 then ((zcS.f ((zaA gv0 (wrap64 (a0 - 8))).f0.f0) ((zaA gv0 (wrap64 (a0 - 8))).f0.f1) ((zaA gv0 (wrap64 (a0 - 8))).f0.f2)).bind fun bt355 => ((zcS.f ((zaA gv0 (wrap64 (a0 - 8))).f1.f0) ((zaA gv0 (wrap64 (a0 - 8))).f1.f1) ((zaA gv0 (wrap64 (a0 - 8))).f1.f2)).bind fun bt358 => (some (bt355.1, bt355.2.1, bt355.2.2, bt358.1, bt358.2.1, bt358.2.2)))) else (none)) else (none)) else (if 0 ≤ a0 then (if a0 < 8 then (some ((zaA gv0 a0).f0.f0, (zaA gv0 a0).f0.f1, (zaA gv0 a0).f0.f2, (zaA gv0 a0).f1.f0, (zaA gv0 a0).f1.f1, (zaA gv0 a0).f1.f2)) else (none)) else (none))) = some (r1, r2, r3, r4, r5, r6) := h
 clear h
 by_cases c2 : a0 ≥ 8
 ·rw [if_pos c2] at H
  have c2b0 : decide (8 ≤ a0) = true := decide_eq_true c2
  clear c2
  obtain ⟨ji3, hji3⟩ : ∃ j_ : Int, (wrap64 (a0 - 8)) = j_ := ⟨_, rfl⟩
  replace H : (if 0 ≤ (ji3) then (if (ji3) < 8 then ((zcS.f ((zaA gv0 (ji3)).f0.f0) ((zaA gv0 (ji3)).f0.f1) ((zaA gv0 (ji3)).f0.f2)).bind fun bt355 => ((zcS.f ((zaA gv0 (ji3)).f1.f0) ((zaA gv0 (ji3)).f1.f1) ((zaA gv0 (ji3)).f1.f2)).bind fun bt358 => (some (bt355.1, bt355.2.1, bt355.2.2, bt358.1, bt358.2.1, bt358.2.2)))) else (none)) else (none)) = some (r1, r2, r3, r4, r5, r6) := by first | (rw [hji3] at H; exact H) | (simp only [hji3] at H ⊢; exact H)
  have hji3w : (IntKind.i64.wrap (a0 - 8)) = ji3 := (zbW _).trans hji3
  by_cases c4 : 0 ≤ (ji3)
  ·rw [if_pos c4] at H
   have c4b0 : decide (0 ≤ (ji3)) = true := decide_eq_true c4
   clear c4
   by_cases c5 : (ji3) < 8
   ·rw [if_pos c5] at H
    have c5b0 : decide ((ji3) < 8) = true := decide_eq_true c5
    clear c5
    replace H := Option.bind_eq_some_iff.mp H
    obtain ⟨⟨t355, t356, t357⟩, A60, H⟩ := H
    replace H : ((zcS.f ((zaA gv0 (ji3)).f1.f0) ((zaA gv0 (ji3)).f1.f1) ((zaA gv0 (ji3)).f1.f2)).bind fun bt358 => (some (t355, t356, t357, bt358.1, bt358.2.1, bt358.2.2))) = some (r1, r2, r3, r4, r5, r6) := H
    have A6 := zaJ A60
    clear A60
    replace H := Option.bind_eq_some_iff.mp H
    obtain ⟨⟨t358, t359, t360⟩, A70, H⟩ := H
    replace H : (some (t355, t356, t357, t358, t359, t360)) = some (r1, r2, r3, r4, r5, r6) := H
    have A7 := zaJ A70
    clear A70
    simp only [Option.some.injEq, Prod.mk.injEq] at H
    obtain ⟨rfl, rfl, rfl, rfl, rfl, rfl⟩ := H
    go_enter Tryd.func139, Tryd.ntmps139
    try go_wp2_with (first | ((with_reducible refine zaQ (N := 2) rfl ?_); refine bx_ 2 #[.int .i64 0, .int .i64 0, .int .i64 0, .int .i64 0, .int .i64 0, .int .i64 0] 36 ?_; intro gb352 hg w8 hbox hb; have n0_ := (ns_ hb); have n1_ := zaJ (hbox); have n2_ := (ng_ hg); have n3_ := n2_; clear HB; have HB := n0_; have BK352 := n1_; have GW352 := n2_; have GE352 := n3_; clear n0_ n1_ n2_ n3_; clear hb hbox hg; have p353 : 0 ≤ ((ji3) : Int) := of_decide_eq_true (by first | (with_reducible assumption) | assumption); have q353 : (ji3) < (gv0.length : Int) := of_decide_eq_true (by first | (with_reducible assumption) | assumption); have ql353 : (((ji3) : Int) < (8 : Int)) = True := eq_true (of_decide_eq_true (by first | (with_reducible assumption) | assumption)); obtain ⟨ad353, e353, hx353_0, hx353_1, hx353_2, hx353_3, hx353_4, hx353_5⟩ := zdN HRg0.out (ji3) p353 q353; obtain rfl : (⟨0, 0, none⟩ : Addr) = ad353 := (by injection e353); (first | simp only [zdE] at hx353_0 | simp only [add_at] at hx353_0 | simp only [Addr.add, Nat.zero_add] at hx353_0 | skip); (first | simp only [zdE] at hx353_1 | simp only [add_at] at hx353_1 | simp only [Addr.add, Nat.zero_add] at hx353_1 | skip); (first | simp only [zdE] at hx353_2 | simp only [add_at] at hx353_2 | simp only [Addr.add, Nat.zero_add] at hx353_2 | skip); (first | simp only [zdE] at hx353_3 | simp only [add_at] at hx353_3 | simp only [Addr.add, Nat.zero_add] at hx353_3 | skip); (first | simp only [zdE] at hx353_4 | simp only [add_at] at hx353_4 | simp only [Addr.add, Nat.zero_add] at hx353_4 | skip); (first | simp only [zdE] at hx353_5 | simp only [add_at] at hx353_5 | simp only [Addr.add, Nat.zero_add] at hx353_5 | skip); replace hx353_0 := zaR HB.out hx353_0; replace hx353_1 := zaR HB.out hx353_1; replace hx353_2 := zaR HB.out hx353_2; replace hx353_3 := zaR HB.out hx353_3; replace hx353_4 := zaR HB.out hx353_4; replace hx353_5 := zaR HB.out hx353_5; replace p353 := eq_true p353; replace q353 := eq_true q353) | ((with_reducible refine zaQ (N := 3) rfl ?_); refine bx_ 3 #[.int .i64 0, .int .i64 0, .int .i64 0, .int .i64 0, .int .i64 0, .int .i64 0] 36 ?_; intro gb354 hg w9 hbox hb; have n0_ := zaJ (zaG (g := gb352) (o := .cells #[.int .i64 0, .int .i64 0, .int .i64 0, .int .i64 0, .int .i64 0, .int .i64 0] 36 (0, 0)) bk_ hb); have n1_ := (ns_ hb); have n2_ := zaJ (hbox); have n3_ := (ng_ hg); have n4_ := n3_; have n5_ := zaJ ((by rw [hg]; exact Nat.ne_of_lt (zbC (g := gb352) (o := .cells #[.int .i64 0, .int .i64 0, .int .i64 0, .int .i64 0, .int .i64 0, .int .i64 0] 36 (0, 0)) bk_) : gb352 ≠ gb354)); have n6_ := zaJ ((by rw [hg]; exact Nat.ne_of_gt (zbC (g := gb352) (o := .cells #[.int .i64 0, .int .i64 0, .int .i64 0, .int .i64 0, .int .i64 0, .int .i64 0] 36 (0, 0)) bk_) : gb354 ≠ gb352)); clear BK352; clear HB; have BK352 := n0_; have HB := n1_; have BK354 := n2_; have GW354 := n3_; have GE354 := n4_; have NB352_354 := n5_; have NB354_352 := n6_; clear n0_ n1_ n2_ n3_ n4_ n5_ n6_; clear hb hbox hg; have hnb10 := NB354_352.out; have hnc10 := NB352_354.out; obtain ⟨hcz11_0, hcz11_1, hcz11_2, hcz11_3, hcz11_4, hcz11_5⟩ := zeX BK354.out; obtain ⟨hfz11_0, hfz11_1, hfz11_2, hfz11_3, hfz11_4, hfz11_5⟩ := zeW BK354.out))
    have n0_ : Aside0 (((((((w9.setCell ⟨gb354, 0, none⟩ (.int .i64 ((zaA gv0 (ji3)).f0.f0))).setCell ⟨gb354, 1, none⟩ (.int .i64 ((zaA gv0 (ji3)).f0.f1))).setCell ⟨gb354, 2, none⟩ (.int .i64 ((zaA gv0 (ji3)).f0.f2))).setCell ⟨gb354, 3, none⟩ (.int .i64 ((zaA gv0 (ji3)).f1.f0))).setCell ⟨gb354, 4, none⟩ (.int .i64 ((zaA gv0 (ji3)).f1.f1))).setCell ⟨gb354, 5, none⟩ (.int .i64 ((zaA gv0 (ji3)).f1.f2))).heap[gb352]? = some (.cells #[.int .i64 0, .int .i64 0, .int .i64 0, .int .i64 0, .int .i64 0, .int .i64 0] 36 (0, 0))) := ⟨by (with_reducible repeat (first | apply zaD | apply zaE | apply zaC)); refine zbA ?_ NB352_354.out _; (with_reducible repeat (first | apply zaD | apply zaE | apply zaC)); refine zbA ?_ NB352_354.out _; (with_reducible repeat (first | apply zaD | apply zaE | apply zaC)); refine zbA ?_ NB352_354.out _; (with_reducible repeat (first | apply zaD | apply zaE | apply zaC)); refine zbA ?_ NB352_354.out _; (with_reducible repeat (first | apply zaD | apply zaE | apply zaC)); refine zbA ?_ NB352_354.out _; (with_reducible repeat (first | apply zaD | apply zaE | apply zaC)); refine zbA ?_ NB352_354.out _; (with_reducible repeat (first | apply zaD | apply zaE | apply zaC)); exact BK352.out⟩
    have n1_ : Aside0 (((((((w9.setCell ⟨gb354, 0, none⟩ (.int .i64 ((zaA gv0 (ji3)).f0.f0))).setCell ⟨gb354, 1, none⟩ (.int .i64 ((zaA gv0 (ji3)).f0.f1))).setCell ⟨gb354, 2, none⟩ (.int .i64 ((zaA gv0 (ji3)).f0.f2))).setCell ⟨gb354, 3, none⟩ (.int .i64 ((zaA gv0 (ji3)).f1.f0))).setCell ⟨gb354, 4, none⟩ (.int .i64 ((zaA gv0 (ji3)).f1.f1))).setCell ⟨gb354, 5, none⟩ (.int .i64 ((zaA gv0 (ji3)).f1.f2))).heap[gb354]? = some (.cells #[.int .i64 ((zaA gv0 (ji3)).f0.f0), .int .i64 ((zaA gv0 (ji3)).f0.f1), .int .i64 ((zaA gv0 (ji3)).f0.f2), .int .i64 ((zaA gv0 (ji3)).f1.f0), .int .i64 ((zaA gv0 (ji3)).f1.f1), .int .i64 ((zaA gv0 (ji3)).f1.f2)] 36 (0, 0))) := ⟨by (with_reducible repeat (first | apply zaD | apply zaE | apply zaC)); refine zaL (cs := #[.int .i64 ((zaA gv0 (ji3)).f0.f0), .int .i64 ((zaA gv0 (ji3)).f0.f1), .int .i64 ((zaA gv0 (ji3)).f0.f2), .int .i64 ((zaA gv0 (ji3)).f1.f0), .int .i64 ((zaA gv0 (ji3)).f1.f1), .int .i64 0]) ?_ 5 _ rfl; (with_reducible repeat (first | apply zaD | apply zaE | apply zaC)); refine zaL (cs := #[.int .i64 ((zaA gv0 (ji3)).f0.f0), .int .i64 ((zaA gv0 (ji3)).f0.f1), .int .i64 ((zaA gv0 (ji3)).f0.f2), .int .i64 ((zaA gv0 (ji3)).f1.f0), .int .i64 0, .int .i64 0]) ?_ 4 _ rfl; (with_reducible repeat (first | apply zaD | apply zaE | apply zaC)); refine zaL (cs := #[.int .i64 ((zaA gv0 (ji3)).f0.f0), .int .i64 ((zaA gv0 (ji3)).f0.f1), .int .i64 ((zaA gv0 (ji3)).f0.f2), .int .i64 0, .int .i64 0, .int .i64 0]) ?_ 3 _ rfl; (with_reducible repeat (first | apply zaD | apply zaE | apply zaC)); refine zaL (cs := #[.int .i64 ((zaA gv0 (ji3)).f0.f0), .int .i64 ((zaA gv0 (ji3)).f0.f1), .int .i64 0, .int .i64 0, .int .i64 0, .int .i64 0]) ?_ 2 _ rfl; (with_reducible repeat (first | apply zaD | apply zaE | apply zaC)); refine zaL (cs := #[.int .i64 ((zaA gv0 (ji3)).f0.f0), .int .i64 0, .int .i64 0, .int .i64 0, .int .i64 0, .int .i64 0]) ?_ 1 _ rfl; (with_reducible repeat (first | apply zaD | apply zaE | apply zaC)); refine zaL (cs := #[.int .i64 0, .int .i64 0, .int .i64 0, .int .i64 0, .int .i64 0, .int .i64 0]) ?_ 0 _ rfl; (with_reducible repeat (first | apply zaD | apply zaE | apply zaC)); exact BK354.out⟩
    have n2_ : Aside0 (Below w.heap.size w ((((((w9.setCell ⟨gb354, 0, none⟩ (.int .i64 ((zaA gv0 (ji3)).f0.f0))).setCell ⟨gb354, 1, none⟩ (.int .i64 ((zaA gv0 (ji3)).f0.f1))).setCell ⟨gb354, 2, none⟩ (.int .i64 ((zaA gv0 (ji3)).f0.f2))).setCell ⟨gb354, 3, none⟩ (.int .i64 ((zaA gv0 (ji3)).f1.f0))).setCell ⟨gb354, 4, none⟩ (.int .i64 ((zaA gv0 (ji3)).f1.f1))).setCell ⟨gb354, 5, none⟩ (.int .i64 ((zaA gv0 (ji3)).f1.f2)))) := ⟨bb_⟩
    (try clear BK352)
    (try clear BK354)
    (try clear HB)
    generalize ((((((w9.setCell ⟨gb354, 0, none⟩ (.int .i64 ((zaA gv0 (ji3)).f0.f0))).setCell ⟨gb354, 1, none⟩ (.int .i64 ((zaA gv0 (ji3)).f0.f1))).setCell ⟨gb354, 2, none⟩ (.int .i64 ((zaA gv0 (ji3)).f0.f2))).setCell ⟨gb354, 3, none⟩ (.int .i64 ((zaA gv0 (ji3)).f1.f0))).setCell ⟨gb354, 4, none⟩ (.int .i64 ((zaA gv0 (ji3)).f1.f1))).setCell ⟨gb354, 5, none⟩ (.int .i64 ((zaA gv0 (ji3)).f1.f2))) = w12 at n0_ n1_ n2_ ⊢
    have BK352 := n0_
    have BK354 := n1_
    have HB := n2_
    clear n0_ n1_ n2_
    have n0_ := zaJ (zaE BK352.out)
    have n1_ := zaJ (zaE BK354.out)
    have n2_ := zaJ (zbT HB.out)
    clear BK352
    clear BK354
    clear HB
    have BK352 := n0_
    have BK354 := n1_
    have HB := n2_
    clear n0_ n1_ n2_
    refine zdL (n := 8) (S := fun w' => w'.cell? ⟨gb354, 0, none⟩ = some (.int .i64 ((zaA gv0 (ji3)).f0.f0)) ∧ w'.cell? ⟨gb354, 1, none⟩ = some (.int .i64 ((zaA gv0 (ji3)).f0.f1)) ∧ w'.cell? ⟨gb354, 2, none⟩ = some (.int .i64 ((zaA gv0 (ji3)).f0.f2)) ∧ w'.cell? ⟨gb354, 3, none⟩ = some (.int .i64 ((zaA gv0 (ji3)).f1.f0)) ∧ w'.cell? ⟨gb354, 4, none⟩ = some (.int .i64 ((zaA gv0 (ji3)).f1.f1)) ∧ w'.cell? ⟨gb354, 5, none⟩ = some (.int .i64 ((zaA gv0 (ji3)).f1.f2))) (ds := []) #[false, false, false, false, false, false, false, false] (by kernel_rfl) rfl rfl ⟨(zaB BK354.out 0).trans rfl, (zaB BK354.out 1).trans rfl, (zaB BK354.out 2).trans rfl, (zaB BK354.out 3).trans rfl, (zaB BK354.out 4).trans rfl, (zaB BK354.out 5).trans rfl⟩ (fun hHeld => ?_); refine zcN zbJ.tab3 zbJ.bits3 (fun HT_ HW_ => ?_)
    generalize w12.drew = w13 at BK352 BK354 HB hHeld ⊢
    refine pu_ 0 (some 10) (bl_ 8 1) ?_
    refine pu_ 3 (some 13) (bl_ 8 9) ?_
    refine tk6_ 1 (some 11) (bl_ 8 11) hHeld ?_
    refine tk6_ 4 (some 14) (bl_ 8 27) hHeld ?_
    refine zeK (i := 2) (N := some 12) (bl_ 8 31) rfl rfl (zcK HT_.out (by kernel_rfl)) (by decide) (fun K hK => ?_)
    refine zcY Tryd.func167 (by kernel_rfl) rfl #[.agg #[.int .i64 ((zaA gv0 (ji3)).f0.f0), .int .i64 ((zaA gv0 (ji3)).f0.f1), .int .i64 ((zaA gv0 (ji3)).f0.f2)]] (by rfl) rfl rfl (by (try simp only [List.map_toArray, List.map_cons, List.map_nil]); first | done | (simp only [hji3]; rfl) | rfl | (simp only [List.length_drop, List.length_take]; rfl)) ?_
    with_reducible refine (zcS.calls ((zaA gv0 (ji3)).f0.f0) ((zaA gv0 (ji3)).f0.f1) ((zaA gv0 (ji3)).f0.f2) t355 t356 t357 _ A6.out).mono ?_
    rintro e w14 ⟨rfl, hb⟩
    refine ⟨_, rfl, ?_⟩
    have n0_ := zaJ (zaG (g := gb352) (o := .cells #[.int .i64 0, .int .i64 0, .int .i64 0, .int .i64 0, .int .i64 0, .int .i64 0] 36 (0, 0)) bk_ hb)
    have n1_ := zaJ (zaG (g := gb354) (o := .cells #[.int .i64 ((zaA gv0 (ji3)).f0.f0), .int .i64 ((zaA gv0 (ji3)).f0.f1), .int .i64 ((zaA gv0 (ji3)).f0.f2), .int .i64 ((zaA gv0 (ji3)).f1.f0), .int .i64 ((zaA gv0 (ji3)).f1.f1), .int .i64 ((zaA gv0 (ji3)).f1.f2)] 36 (0, 0)) bk_ hb)
    have n2_ := (ns_ hb)
    clear BK352
    clear BK354
    clear HB
    have BK352 := n0_
    have BK354 := n1_
    have HB := n2_
    clear n0_ n1_ n2_
    (try clear hb)
    (try clear hb2)
    (try clear hk)
    (try clear hi)
    refine hK.out _ _ ⟨(zaB BK354.out 0).trans rfl, (zaB BK354.out 1).trans rfl, (zaB BK354.out 2).trans rfl, (zaB BK354.out 3).trans rfl, (zaB BK354.out 4).trans rfl, (zaB BK354.out 5).trans rfl⟩ (fun hHeld => ?_)
    clear hK K
    refine zcX (a' := ?_) ?_ ?_
    rotate_left
    ·show Act.put _ (some 12) _ = _
     simp only [Act.put, List.setIfInBounds_toArray, List.set_cons_zero, List.set_cons_succ, zbW, zbY]
     rfl
    refine zeK (i := 5) (N := some 15) (bl_ 8 63) rfl rfl (zcK HT_.out (by kernel_rfl)) (by decide) (fun K hK => ?_)
    refine zcY Tryd.func167 (by kernel_rfl) rfl #[.agg #[.int .i64 ((zaA gv0 (ji3)).f1.f0), .int .i64 ((zaA gv0 (ji3)).f1.f1), .int .i64 ((zaA gv0 (ji3)).f1.f2)]] (by rfl) rfl rfl (by (try simp only [List.map_toArray, List.map_cons, List.map_nil]); first | done | (simp only [hji3]; rfl) | rfl | (simp only [List.length_drop, List.length_take]; rfl)) ?_
    with_reducible refine (zcS.calls ((zaA gv0 (ji3)).f1.f0) ((zaA gv0 (ji3)).f1.f1) ((zaA gv0 (ji3)).f1.f2) t358 t359 t360 _ A7.out).mono ?_
    rintro e w15 ⟨rfl, hb⟩
    refine ⟨_, rfl, ?_⟩
    have n0_ := zaJ (zaG (g := gb352) (o := .cells #[.int .i64 0, .int .i64 0, .int .i64 0, .int .i64 0, .int .i64 0, .int .i64 0] 36 (0, 0)) bk_ hb)
    have n1_ := zaJ (zaG (g := gb354) (o := .cells #[.int .i64 ((zaA gv0 (ji3)).f0.f0), .int .i64 ((zaA gv0 (ji3)).f0.f1), .int .i64 ((zaA gv0 (ji3)).f0.f2), .int .i64 ((zaA gv0 (ji3)).f1.f0), .int .i64 ((zaA gv0 (ji3)).f1.f1), .int .i64 ((zaA gv0 (ji3)).f1.f2)] 36 (0, 0)) bk_ hb)
    have n2_ := (ns_ hb)
    clear BK352
    clear BK354
    clear HB
    have BK352 := n0_
    have BK354 := n1_
    have HB := n2_
    clear n0_ n1_ n2_
    (try clear hb)
    (try clear hb2)
    (try clear hk)
    (try clear hi)
    refine hK.out _ _ ⟨(zaB BK354.out 0).trans rfl, (zaB BK354.out 1).trans rfl, (zaB BK354.out 2).trans rfl, (zaB BK354.out 3).trans rfl, (zaB BK354.out 4).trans rfl, (zaB BK354.out 5).trans rfl⟩ (fun hHeld => ?_)
    clear hK K
    refine zcX (a' := ?_) ?_ ?_
    rotate_left
    ·show Act.put _ (some 15) _ = _
     simp only [Act.put, List.setIfInBounds_toArray, List.set_cons_zero, List.set_cons_succ, zbW, zbY]
     rfl
    refine pu_ 6 (some 16) (bl_ 8 127) ?_
    refine zeK (i := 7) (N := none) (bl_ 8 255) rfl rfl (zcK HT_.out (by kernel_rfl)) (by decide) (fun K hK => ?_)
    have hs16 : w15.cell? ⟨gb352, 0, none⟩ = some (.int .i64 0) := (zaB BK352.out 0).trans rfl
    have hfs16 := zbE BK352.out 0
    have hns16_1 := NB354_352.out
    have hms16_1 := NB352_354.out
    have hs17 : w15.cell? ⟨gb352, 1, none⟩ = some (.int .i64 0) := (zaB BK352.out 1).trans rfl
    have hfs17 := zbE BK352.out 1
    have hns17_1 := NB354_352.out
    have hms17_1 := NB352_354.out
    have hs18 : w15.cell? ⟨gb352, 2, none⟩ = some (.int .i64 0) := (zaB BK352.out 2).trans rfl
    have hfs18 := zbE BK352.out 2
    have hns18_1 := NB354_352.out
    have hms18_1 := NB352_354.out
    have hs19 : w15.cell? ⟨gb352, 3, none⟩ = some (.int .i64 0) := (zaB BK352.out 3).trans rfl
    have hfs19 := zbE BK352.out 3
    have hns19_1 := NB354_352.out
    have hms19_1 := NB352_354.out
    have hs20 : w15.cell? ⟨gb352, 4, none⟩ = some (.int .i64 0) := (zaB BK352.out 4).trans rfl
    have hfs20 := zbE BK352.out 4
    have hns20_1 := NB354_352.out
    have hms20_1 := NB352_354.out
    have hs21 : w15.cell? ⟨gb352, 5, none⟩ = some (.int .i64 0) := (zaB BK352.out 5).trans rfl
    have hfs21 := zbE BK352.out 5
    have hns21_1 := NB354_352.out
    have hms21_1 := NB352_354.out
    refine skip_ (w1 := ?_) (by rfl) rfl ?_ ?_
    rotate_left
    ·go_simp
     rfl
    refine hK.out _ _ ⟨((zaF (p := ⟨gb352, _, none⟩) NB354_352.out _).trans (((zaF (p := ⟨gb352, _, none⟩) NB354_352.out _).trans (((zaF (p := ⟨gb352, _, none⟩) NB354_352.out _).trans (((zaF (p := ⟨gb352, _, none⟩) NB354_352.out _).trans (((zaF (p := ⟨gb352, _, none⟩) NB354_352.out _).trans (((zaF (p := ⟨gb352, _, none⟩) NB354_352.out _).trans (hHeld.1)))))))))))), ((zaF (p := ⟨gb352, _, none⟩) NB354_352.out _).trans (((zaF (p := ⟨gb352, _, none⟩) NB354_352.out _).trans (((zaF (p := ⟨gb352, _, none⟩) NB354_352.out _).trans (((zaF (p := ⟨gb352, _, none⟩) NB354_352.out _).trans (((zaF (p := ⟨gb352, _, none⟩) NB354_352.out _).trans (((zaF (p := ⟨gb352, _, none⟩) NB354_352.out _).trans (hHeld.2.1)))))))))))), ((zaF (p := ⟨gb352, _, none⟩) NB354_352.out _).trans (((zaF (p := ⟨gb352, _, none⟩) NB354_352.out _).trans (((zaF (p := ⟨gb352, _, none⟩) NB354_352.out _).trans (((zaF (p := ⟨gb352, _, none⟩) NB354_352.out _).trans (((zaF (p := ⟨gb352, _, none⟩) NB354_352.out _).trans (((zaF (p := ⟨gb352, _, none⟩) NB354_352.out _).trans (hHeld.2.2.1)))))))))))), ((zaF (p := ⟨gb352, _, none⟩) NB354_352.out _).trans (((zaF (p := ⟨gb352, _, none⟩) NB354_352.out _).trans (((zaF (p := ⟨gb352, _, none⟩) NB354_352.out _).trans (((zaF (p := ⟨gb352, _, none⟩) NB354_352.out _).trans (((zaF (p := ⟨gb352, _, none⟩) NB354_352.out _).trans (((zaF (p := ⟨gb352, _, none⟩) NB354_352.out _).trans (hHeld.2.2.2.1)))))))))))), ((zaF (p := ⟨gb352, _, none⟩) NB354_352.out _).trans (((zaF (p := ⟨gb352, _, none⟩) NB354_352.out _).trans (((zaF (p := ⟨gb352, _, none⟩) NB354_352.out _).trans (((zaF (p := ⟨gb352, _, none⟩) NB354_352.out _).trans (((zaF (p := ⟨gb352, _, none⟩) NB354_352.out _).trans (((zaF (p := ⟨gb352, _, none⟩) NB354_352.out _).trans (hHeld.2.2.2.2.1)))))))))))), ((zaF (p := ⟨gb352, _, none⟩) NB354_352.out _).trans (((zaF (p := ⟨gb352, _, none⟩) NB354_352.out _).trans (((zaF (p := ⟨gb352, _, none⟩) NB354_352.out _).trans (((zaF (p := ⟨gb352, _, none⟩) NB354_352.out _).trans (((zaF (p := ⟨gb352, _, none⟩) NB354_352.out _).trans (((zaF (p := ⟨gb352, _, none⟩) NB354_352.out _).trans (hHeld.2.2.2.2.2))))))))))))⟩ (fun hHeld => ?_)
    clear hK K
    refine zeS (zdD HT_.out (by kernel_rfl)) ?_
    try go_wp2
    refine bodyPost_ret (results_cell_row rfl _ _ gb352 36 #[.int .i64 t355, .int .i64 t356, .int .i64 t357, .int .i64 t358, .int .i64 t359, .int .i64 t360] (0, 0) _ rfl (by (with_reducible repeat (first | apply zaD | apply zaE | apply zaC)); refine zaL (cs := #[.int .i64 t355, .int .i64 t356, .int .i64 t357, .int .i64 t358, .int .i64 t359, .int .i64 0]) ?_ 5 _ rfl; (with_reducible repeat (first | apply zaD | apply zaE | apply zaC)); refine zaL (cs := #[.int .i64 t355, .int .i64 t356, .int .i64 t357, .int .i64 t358, .int .i64 0, .int .i64 0]) ?_ 4 _ rfl; (with_reducible repeat (first | apply zaD | apply zaE | apply zaC)); refine zaL (cs := #[.int .i64 t355, .int .i64 t356, .int .i64 t357, .int .i64 0, .int .i64 0, .int .i64 0]) ?_ 3 _ rfl; (with_reducible repeat (first | apply zaD | apply zaE | apply zaC)); refine zaL (cs := #[.int .i64 t355, .int .i64 t356, .int .i64 0, .int .i64 0, .int .i64 0, .int .i64 0]) ?_ 2 _ rfl; (with_reducible repeat (first | apply zaD | apply zaE | apply zaC)); refine zaL (cs := #[.int .i64 t355, .int .i64 0, .int .i64 0, .int .i64 0, .int .i64 0, .int .i64 0]) ?_ 1 _ rfl; (with_reducible repeat (first | apply zaD | apply zaE | apply zaC)); refine zaL (cs := #[.int .i64 0, .int .i64 0, .int .i64 0, .int .i64 0, .int .i64 0, .int .i64 0]) ?_ 0 _ rfl; (with_reducible repeat (first | apply zaD | apply zaE | apply zaC)); exact BK352.out) Tryd.underlying36 rfl (by kernel_rfl)) rfl ?_
    exact ⟨by first | rfl | (simp [zaI, zaH] <;> rfl) | (simp only [← hji3]; first | rfl | (simp [zaI, zaH] <;> rfl)) | (simp [*, zaI, zaH] <;> rfl), bb_⟩
   ·rw [if_neg c5] at H
    exact absurd H (by simp)
  ·rw [if_neg c4] at H
   exact absurd H (by simp)
 ·rw [if_neg c2] at H
  have c2b0 : decide (8 ≤ a0) = false := decide_eq_false c2
  clear c2
  by_cases c22 : 0 ≤ a0
  ·rw [if_pos c22] at H
   have c22b0 : decide (0 ≤ a0) = true := decide_eq_true c22
   clear c22
   by_cases c23 : a0 < 8
   ·rw [if_pos c23] at H
    have c23b0 : decide (a0 < 8) = true := decide_eq_true c23
    clear c23
    simp only [Option.some.injEq, Prod.mk.injEq] at H
    obtain ⟨rfl, rfl, rfl, rfl, rfl, rfl⟩ := H
    go_enter Tryd.func139, Tryd.ntmps139
    go_wp2_with (first | ((with_reducible refine zaQ (N := 2) rfl ?_); refine bx_ 2 #[.int .i64 0, .int .i64 0, .int .i64 0, .int .i64 0, .int .i64 0, .int .i64 0] 36 ?_; intro gb352 hg w24 hbox hb; have n0_ := (ns_ hb); have n1_ := zaJ (hbox); have n2_ := (ng_ hg); have n3_ := n2_; clear HB; have HB := n0_; have BK352 := n1_; have GW352 := n2_; have GE352 := n3_; clear n0_ n1_ n2_ n3_; clear hb hbox hg; have p361 : 0 ≤ (a0 : Int) := of_decide_eq_true (by first | (with_reducible assumption) | assumption); have q361 : a0 < (gv0.length : Int) := of_decide_eq_true (by first | (with_reducible assumption) | assumption); have ql361 : ((a0 : Int) < (8 : Int)) = True := eq_true (of_decide_eq_true (by first | (with_reducible assumption) | assumption)); obtain ⟨ad361, e361, hx361_0, hx361_1, hx361_2, hx361_3, hx361_4, hx361_5⟩ := zdN HRg0.out a0 p361 q361; obtain rfl : (⟨0, 0, none⟩ : Addr) = ad361 := (by injection e361); (first | simp only [zdE] at hx361_0 | simp only [add_at] at hx361_0 | simp only [Addr.add, Nat.zero_add] at hx361_0 | skip); (first | simp only [zdE] at hx361_1 | simp only [add_at] at hx361_1 | simp only [Addr.add, Nat.zero_add] at hx361_1 | skip); (first | simp only [zdE] at hx361_2 | simp only [add_at] at hx361_2 | simp only [Addr.add, Nat.zero_add] at hx361_2 | skip); (first | simp only [zdE] at hx361_3 | simp only [add_at] at hx361_3 | simp only [Addr.add, Nat.zero_add] at hx361_3 | skip); (first | simp only [zdE] at hx361_4 | simp only [add_at] at hx361_4 | simp only [Addr.add, Nat.zero_add] at hx361_4 | skip); (first | simp only [zdE] at hx361_5 | simp only [add_at] at hx361_5 | simp only [Addr.add, Nat.zero_add] at hx361_5 | skip); replace hx361_0 := zaR HB.out hx361_0; replace hx361_1 := zaR HB.out hx361_1; replace hx361_2 := zaR HB.out hx361_2; replace hx361_3 := zaR HB.out hx361_3; replace hx361_4 := zaR HB.out hx361_4; replace hx361_5 := zaR HB.out hx361_5; replace p361 := eq_true p361; replace q361 := eq_true q361; obtain ⟨hcz25_0, hcz25_1, hcz25_2, hcz25_3, hcz25_4, hcz25_5⟩ := zeX BK352.out; obtain ⟨hfz25_0, hfz25_1, hfz25_2, hfz25_3, hfz25_4, hfz25_5⟩ := zeW BK352.out))
    refine bodyPost_ret (results_cell_row rfl _ _ gb352 36 #[.int .i64 ((zaA gv0 a0).f0.f0), .int .i64 ((zaA gv0 a0).f0.f1), .int .i64 ((zaA gv0 a0).f0.f2), .int .i64 ((zaA gv0 a0).f1.f0), .int .i64 ((zaA gv0 a0).f1.f1), .int .i64 ((zaA gv0 a0).f1.f2)] (0, 0) _ rfl (by (with_reducible repeat (first | apply zaD | apply zaE | apply zaC)); refine zaL (cs := #[.int .i64 ((zaA gv0 a0).f0.f0), .int .i64 ((zaA gv0 a0).f0.f1), .int .i64 ((zaA gv0 a0).f0.f2), .int .i64 ((zaA gv0 a0).f1.f0), .int .i64 ((zaA gv0 a0).f1.f1), .int .i64 0]) ?_ 5 _ rfl; (with_reducible repeat (first | apply zaD | apply zaE | apply zaC)); refine zaL (cs := #[.int .i64 ((zaA gv0 a0).f0.f0), .int .i64 ((zaA gv0 a0).f0.f1), .int .i64 ((zaA gv0 a0).f0.f2), .int .i64 ((zaA gv0 a0).f1.f0), .int .i64 0, .int .i64 0]) ?_ 4 _ rfl; (with_reducible repeat (first | apply zaD | apply zaE | apply zaC)); refine zaL (cs := #[.int .i64 ((zaA gv0 a0).f0.f0), .int .i64 ((zaA gv0 a0).f0.f1), .int .i64 ((zaA gv0 a0).f0.f2), .int .i64 0, .int .i64 0, .int .i64 0]) ?_ 3 _ rfl; (with_reducible repeat (first | apply zaD | apply zaE | apply zaC)); refine zaL (cs := #[.int .i64 ((zaA gv0 a0).f0.f0), .int .i64 ((zaA gv0 a0).f0.f1), .int .i64 0, .int .i64 0, .int .i64 0, .int .i64 0]) ?_ 2 _ rfl; (with_reducible repeat (first | apply zaD | apply zaE | apply zaC)); refine zaL (cs := #[.int .i64 ((zaA gv0 a0).f0.f0), .int .i64 0, .int .i64 0, .int .i64 0, .int .i64 0, .int .i64 0]) ?_ 1 _ rfl; (with_reducible repeat (first | apply zaD | apply zaE | apply zaC)); refine zaL (cs := #[.int .i64 0, .int .i64 0, .int .i64 0, .int .i64 0, .int .i64 0, .int .i64 0]) ?_ 0 _ rfl; (with_reducible repeat (first | apply zaD | apply zaE | apply zaC)); exact BK352.out) Tryd.underlying36 rfl (by kernel_rfl)) rfl ?_
    exact ⟨by first | rfl | (simp [zaI, zaH] <;> rfl) | (simp [*, zaI, zaH] <;> rfl), bb_⟩
   ·rw [if_neg c23] at H
    exact absurd H (by simp)
  ·rw [if_neg c22] at H
   exact absurd H (by simp)

def zbS.f (k : Nat) (a0_0 : Int) (a0_1 : Int) (a0_2 : Int) (a1_0 : Int) (a1_1 : Int) (a1_2 : Int) : Option (Int × Int × Int) := (zaM.f k (wrap64 ((wrap64 (a0_0 * a1_0)) + (wrap64 ((wrap64 (2 * a0_1)) * a1_1)))) (wrap64 ((wrap64 (a0_0 * a1_1)) + (wrap64 (a0_1 * a1_0)))) (wrap64 (a0_2 + a1_2))).bind fun bt365 => (some (bt365.1, bt365.2.1, bt365.2.2))
theorem zbS.mono : ∀ a0 a1 a2 a3 a4 a5 k, LeO (zbS.f k a0 a1 a2 a3 a4 a5) (zbS.f (k + 1) a0 a1 a2 a3 a4 a5) := by
 intro a0 a1 a2 a3 a4 a5 k
 unfold zbS.f
 repeat' first
   | (with_reducible exact zaM.mono _ _ _ _)
   | (with_reducible exact LeO.refl _)
   | (with_reducible exact LeO.none _)
   | (with_reducible refine LeO.ite ?_ ?_)
   | (with_reducible refine LeO.bind ?_ (fun _ => ?_))
   | exact zaM.mono _ _ _ _
   | exact LeO.none _
   | refine LeO.ite ?_ ?_
   | refine LeO.bind ?_ (fun _ => ?_)
set_option maxHeartbeats 8000000 in
set_option maxRecDepth 100000 in
theorem zbS.calls (k : Nat) (a0_0 : Int) (a0_1 : Int) (a0_2 : Int) (a1_0 : Int) (a1_1 : Int) (a1_2 : Int) (r1 : Int) (r2 : Int) (r3 : Int) (w : World) (h : zbS.f k a0_0 a0_1 a0_2 a1_0 a1_1 a1_2 = some (r1, r2, r3)) :
  Calls Tryd.prog 168 #[.agg #[.int .i64 a0_0, .int .i64 a0_1, .int .i64 a0_2], .agg #[.int .i64 a1_0, .int .i64 a1_1, .int .i64 a1_2]] w fun e w' => e = .returned (.agg #[.int .i64 r1, .int .i64 r2, .int .i64 r3]) ∧ Below w.heap.size w w' := by
 have hu34 := Tryd.underlying34
 have HB := zaJ (Below.refl w.heap.size w)
 have H : ((zaM.f k (wrap64 ((wrap64 (a0_0 * a1_0)) + (wrap64 ((wrap64 (2 * a0_1)) * a1_1)))) (wrap64 ((wrap64 (a0_0 * a1_1)) + (wrap64 (a0_1 * a1_0)))) (wrap64 (a0_2 + a1_2))).bind fun bt365 => (some (bt365.1, bt365.2.1, bt365.2.2))) = some (r1, r2, r3) := h
 clear h
 replace H := Option.bind_eq_some_iff.mp H
 obtain ⟨⟨t365, t366, t367⟩, A30, H⟩ := H
 replace H : (some (t365, t366, t367)) = some (r1, r2, r3) := H
 have A3 := zaJ A30
 clear A30
 simp only [Option.some.injEq, Prod.mk.injEq] at H
 obtain ⟨rfl, rfl, rfl⟩ := H
 go_enter Tryd.func168, Tryd.ntmps168
 go_wp2_with (first | ((with_reducible refine zaQ (N := 2) rfl ?_); refine bx_ 2 #[.int .i64 a0_0, .int .i64 a0_1, .int .i64 a0_2] 34 ?_; intro gb362 hg w4 hbox hb; have n0_ := (ns_ hb); have n1_ := zaJ (hbox); have n2_ := (ng_ hg); have n3_ := n2_; clear HB; have HB := n0_; have BK362 := n1_; have GW362 := n2_; have GE362 := n3_; clear n0_ n1_ n2_ n3_; clear hb hbox hg) | ((with_reducible refine zaQ (N := 3) rfl ?_); refine bx_ 3 #[.int .i64 a1_0, .int .i64 a1_1, .int .i64 a1_2] 34 ?_; intro gb363 hg w5 hbox hb; have n0_ := zaJ (zaG (g := gb362) (o := .cells #[.int .i64 a0_0, .int .i64 a0_1, .int .i64 a0_2] 34 (0, 0)) bk_ hb); have n1_ := (ns_ hb); have n2_ := zaJ (hbox); have n3_ := (ng_ hg); have n4_ := n3_; have n5_ := zaJ ((by rw [hg]; exact Nat.ne_of_lt (zbC (g := gb362) (o := .cells #[.int .i64 a0_0, .int .i64 a0_1, .int .i64 a0_2] 34 (0, 0)) bk_) : gb362 ≠ gb363)); have n6_ := zaJ ((by rw [hg]; exact Nat.ne_of_gt (zbC (g := gb362) (o := .cells #[.int .i64 a0_0, .int .i64 a0_1, .int .i64 a0_2] 34 (0, 0)) bk_) : gb363 ≠ gb362)); clear BK362; clear HB; have BK362 := n0_; have HB := n1_; have BK363 := n2_; have GW363 := n3_; have GE363 := n4_; have NB362_363 := n5_; have NB363_362 := n6_; clear n0_ n1_ n2_ n3_ n4_ n5_ n6_; clear hb hbox hg) | ((with_reducible refine zaQ (N := 4) rfl ?_); refine bx_ 4 #[.int .i64 0, .int .i64 0, .int .i64 0] 34 ?_; intro gb364 hg w6 hbox hb; have n0_ := zaJ (zaG (g := gb362) (o := .cells #[.int .i64 a0_0, .int .i64 a0_1, .int .i64 a0_2] 34 (0, 0)) bk_ hb); have n1_ := zaJ (zaG (g := gb363) (o := .cells #[.int .i64 a1_0, .int .i64 a1_1, .int .i64 a1_2] 34 (0, 0)) bk_ hb); have n2_ := (ns_ hb); have n3_ := zaJ (hbox); have n4_ := (ng_ hg); have n5_ := n4_; have n6_ := zaJ ((by rw [hg]; exact Nat.ne_of_lt (zbC (g := gb362) (o := .cells #[.int .i64 a0_0, .int .i64 a0_1, .int .i64 a0_2] 34 (0, 0)) bk_) : gb362 ≠ gb364)); have n7_ := zaJ ((by rw [hg]; exact Nat.ne_of_gt (zbC (g := gb362) (o := .cells #[.int .i64 a0_0, .int .i64 a0_1, .int .i64 a0_2] 34 (0, 0)) bk_) : gb364 ≠ gb362)); have n8_ := zaJ ((by rw [hg]; exact Nat.ne_of_lt (zbC (g := gb363) (o := .cells #[.int .i64 a1_0, .int .i64 a1_1, .int .i64 a1_2] 34 (0, 0)) bk_) : gb363 ≠ gb364)); have n9_ := zaJ ((by rw [hg]; exact Nat.ne_of_gt (zbC (g := gb363) (o := .cells #[.int .i64 a1_0, .int .i64 a1_1, .int .i64 a1_2] 34 (0, 0)) bk_) : gb364 ≠ gb363)); clear BK362; clear BK363; clear HB; have BK362 := n0_; have BK363 := n1_; have HB := n2_; have BK364 := n3_; have GW364 := n4_; have GE364 := n5_; have NB362_364 := n6_; have NB364_362 := n7_; have NB363_364 := n8_; have NB364_363 := n9_; clear n0_ n1_ n2_ n3_ n4_ n5_ n6_ n7_ n8_ n9_; clear hb hbox hg; have hnb7 := NB362_363.out; have hnc7 := NB363_362.out; have hnb8 := NB362_364.out; have hnc8 := NB364_362.out; obtain ⟨hcz9_0, hcz9_1, hcz9_2⟩ := zeI BK362.out; obtain ⟨hfz9_0, hfz9_1, hfz9_2⟩ := zeH BK362.out; have hnb10 := NB363_364.out; have hnc10 := NB364_363.out; obtain ⟨hcz11_0, hcz11_1, hcz11_2⟩ := zeI BK363.out; obtain ⟨hfz11_0, hfz11_1, hfz11_2⟩ := zeH BK363.out) | ((with_reducible refine zaK (f := 191) rfl ?_); refine zbQ (some 34) rfl rfl Tryd.func191 (by kernel_rfl) rfl #[.agg #[.int .i64 (wrap64 ((wrap64 (a0_0 * a1_0)) + (wrap64 ((wrap64 (2 * a0_1)) * a1_1)))), .int .i64 (wrap64 ((wrap64 (a0_0 * a1_1)) + (wrap64 (a0_1 * a1_0)))), .int .i64 (wrap64 (a0_2 + a1_2))]] rfl (by (try simp only [List.map_toArray, List.map_cons, List.map_nil]); first | done | rfl | (simp only [List.length_drop, List.length_take]; rfl)) ?_; (with_reducible refine (zaM.calls k (wrap64 ((wrap64 (a0_0 * a1_0)) + (wrap64 ((wrap64 (2 * a0_1)) * a1_1)))) (wrap64 ((wrap64 (a0_0 * a1_1)) + (wrap64 (a0_1 * a1_0)))) (wrap64 (a0_2 + a1_2)) t365 t366 t367 _ A3.out).mono ?_); rintro e w12 ⟨rfl, hb⟩; refine ⟨_, rfl, ?_⟩; have n0_ := zaJ (zaG (g := gb362) (o := .cells #[.int .i64 a0_0, .int .i64 a0_1, .int .i64 a0_2] 34 (0, 0)) bk_ hb); have n1_ := zaJ (zaG (g := gb363) (o := .cells #[.int .i64 a1_0, .int .i64 a1_1, .int .i64 a1_2] 34 (0, 0)) bk_ hb); have n2_ := zaJ (zaG (g := gb364) (o := .cells #[.int .i64 0, .int .i64 0, .int .i64 0] 34 (0, 0)) bk_ hb); have n3_ := (ns_ hb); clear BK362; clear BK363; clear BK364; clear HB; have BK362 := n0_; have BK363 := n1_; have BK364 := n2_; have HB := n3_; clear n0_ n1_ n2_ n3_; (try clear hb); (try clear hb2); obtain ⟨hcz13_0, hcz13_1, hcz13_2⟩ := zeI BK364.out; obtain ⟨hfz13_0, hfz13_1, hfz13_2⟩ := zeH BK364.out))
 refine bodyPost_ret (results_cell_row rfl _ _ gb364 34 #[.int .i64 t365, .int .i64 t366, .int .i64 t367] (0, 0) _ rfl (by (with_reducible repeat (first | apply zaD | apply zaE | apply zaC)); refine zaL (cs := #[.int .i64 t365, .int .i64 t366, .int .i64 0]) ?_ 2 _ rfl; (with_reducible repeat (first | apply zaD | apply zaE | apply zaC)); refine zaL (cs := #[.int .i64 t365, .int .i64 0, .int .i64 0]) ?_ 1 _ rfl; (with_reducible repeat (first | apply zaD | apply zaE | apply zaC)); refine zaL (cs := #[.int .i64 0, .int .i64 0, .int .i64 0]) ?_ 0 _ rfl; (with_reducible repeat (first | apply zaD | apply zaE | apply zaC)); exact BK364.out) Tryd.underlying34 rfl (by kernel_rfl)) rfl ?_
 exact ⟨by first | rfl | (simp [zaI, zaH] <;> rfl) | (simp [*, zaI, zaH] <;> rfl), bb_⟩

end Go.Proofs.YtmajpmofeddknaaDoor.PFnExactInPolygon
