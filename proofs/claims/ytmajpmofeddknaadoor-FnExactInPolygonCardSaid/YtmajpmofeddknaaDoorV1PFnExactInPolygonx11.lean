-- Printed for this claim by this session's program pp.py, which drives the kit's print with additions. Not trusted: Lean checks it.
import Derived.Test.YtmajpmofeddknaaDoorV1PFnExactInPolygonx0
import Derived.Test.YtmajpmofeddknaaDoorV1PFnExactInPolygonx9
import Derived.Test.YtmajpmofeddknaaDoorV1PFnExactInPolygonx10
namespace Go.Proofs.YtmajpmofeddknaaDoor.PFnExactInPolygon
open Go.RowKit Go.Proofs.YtmajpmofeddknaaDoorW.PrintWords Go.Proofs.YtmajpmofeddknaaDoorW.PrintLast Go.Proofs.YtmajpmofeddknaaDoorW.PrintMore
attribute [local go_sem] zeE zdX zeQ zeO zdK zdI zeA zeC   -- for this text's walks alone
set_option linter.unusedVariables false
set_option linter.unusedSimpArgs false

def zbD.f (k : Nat) (a0_0 : Int) (a0_1 : Int) (a0_2 : Int) (a0_3 : Int) (a0_4 : Int) (a0_5 : Int) (a1_0 : Int) (a1_1 : Int) (a1_2 : Int) (a1_3 : Int) (a1_4 : Int) (a1_5 : Int) : Option (Int × Int × Int) := (zbS.f k a0_0 a0_1 a0_2 a1_3 a1_4 a1_5).bind fun bt371 => ((zbS.f k a0_3 a0_4 a0_5 a1_0 a1_1 a1_2).bind fun bt374 => ((zbR.f k bt371.1 bt371.2.1 bt371.2.2 bt374.1 bt374.2.1 bt374.2.2).bind fun bt377 => (some (bt377.1, bt377.2.1, bt377.2.2))))
theorem zbD.mono : ∀ a0 a1 a2 a3 a4 a5 a6 a7 a8 a9 a10 a11 k, LeO (zbD.f k a0 a1 a2 a3 a4 a5 a6 a7 a8 a9 a10 a11) (zbD.f (k + 1) a0 a1 a2 a3 a4 a5 a6 a7 a8 a9 a10 a11) := by
 intro a0 a1 a2 a3 a4 a5 a6 a7 a8 a9 a10 a11 k
 unfold zbD.f
 repeat' first
   | (with_reducible exact zbR.mono _ _ _ _ _ _ _)
   | (with_reducible exact zbS.mono _ _ _ _ _ _ _)
   | (with_reducible exact LeO.refl _)
   | (with_reducible exact LeO.none _)
   | (with_reducible refine LeO.ite ?_ ?_)
   | (with_reducible refine LeO.bind ?_ (fun _ => ?_))
   | exact zbR.mono _ _ _ _ _ _ _
   | exact zbS.mono _ _ _ _ _ _ _
   | exact LeO.none _
   | refine LeO.ite ?_ ?_
   | refine LeO.bind ?_ (fun _ => ?_)
def zbD.T1 : Bool × List (List Nat × List Nat) := (true, [([], []), ([0], [0]), ([], []), ([2], [2]), ([1, 3], [1, 3]), ([], []), ([5], [5]), ([], []), ([7], [7]), ([6, 8, 4], [6, 8]), ([4, 9, 9], [4, 9]), ([10, 10, 0, 1, 2, 3, 4, 5, 6, 7, 8, 9, 10], [10])])
def zbD.B1 : List Nat := [0, 1, 0, 4, 15, 0, 32, 0, 128, 511, 1023, 2047]
theorem zbD.tab1 : rtab .any (opsOf Tryd.f140 1) = zbD.T1 := by kernel_rfl
theorem zbD.bits1 : zdW zbD.T1.2 zbD.B1 = true := by kernel_rfl
set_option maxHeartbeats 8000000 in
set_option maxRecDepth 100000 in
theorem zbD.calls (k : Nat) (a0_0 : Int) (a0_1 : Int) (a0_2 : Int) (a0_3 : Int) (a0_4 : Int) (a0_5 : Int) (a1_0 : Int) (a1_1 : Int) (a1_2 : Int) (a1_3 : Int) (a1_4 : Int) (a1_5 : Int) (r1 : Int) (r2 : Int) (r3 : Int) (w : World) (h : zbD.f k a0_0 a0_1 a0_2 a0_3 a0_4 a0_5 a1_0 a1_1 a1_2 a1_3 a1_4 a1_5 = some (r1, r2, r3)) :
  Calls Tryd.prog 140 #[.agg #[.int .i64 a0_0, .int .i64 a0_1, .int .i64 a0_2, .int .i64 a0_3, .int .i64 a0_4, .int .i64 a0_5], .agg #[.int .i64 a1_0, .int .i64 a1_1, .int .i64 a1_2, .int .i64 a1_3, .int .i64 a1_4, .int .i64 a1_5]] w fun e w' => e = .returned (.agg #[.int .i64 r1, .int .i64 r2, .int .i64 r3]) ∧ Below w.heap.size w w' := by
 have hu36 := Tryd.underlying36
 have hu34 := Tryd.underlying34
 have HB := zaJ (Below.refl w.heap.size w)
 have H : ((zbS.f k a0_0 a0_1 a0_2 a1_3 a1_4 a1_5).bind fun bt371 => ((zbS.f k a0_3 a0_4 a0_5 a1_0 a1_1 a1_2).bind fun bt374 => ((zbR.f k bt371.1 bt371.2.1 bt371.2.2 bt374.1 bt374.2.1 bt374.2.2).bind fun bt377 => (some (bt377.1, bt377.2.1, bt377.2.2))))) = some (r1, r2, r3) := h
 clear h
 replace H := Option.bind_eq_some_iff.mp H
 obtain ⟨⟨t371, t372, t373⟩, A30, H⟩ := H
 replace H : ((zbS.f k a0_3 a0_4 a0_5 a1_0 a1_1 a1_2).bind fun bt374 => ((zbR.f k t371 t372 t373 bt374.1 bt374.2.1 bt374.2.2).bind fun bt377 => (some (bt377.1, bt377.2.1, bt377.2.2)))) = some (r1, r2, r3) := H
 have A3 := zaJ A30
 clear A30
 replace H := Option.bind_eq_some_iff.mp H
 obtain ⟨⟨t374, t375, t376⟩, A40, H⟩ := H
 replace H : ((zbR.f k t371 t372 t373 t374 t375 t376).bind fun bt377 => (some (bt377.1, bt377.2.1, bt377.2.2))) = some (r1, r2, r3) := H
 have A4 := zaJ A40
 clear A40
 replace H := Option.bind_eq_some_iff.mp H
 obtain ⟨⟨t377, t378, t379⟩, A50, H⟩ := H
 replace H : (some (t377, t378, t379)) = some (r1, r2, r3) := H
 have A5 := zaJ A50
 clear A50
 simp only [Option.some.injEq, Prod.mk.injEq] at H
 obtain ⟨rfl, rfl, rfl⟩ := H
 go_enter Tryd.func140, Tryd.ntmps140
 try go_wp2_with (first | ((with_reducible refine zaQ (N := 2) rfl ?_); refine bx_ 2 #[.int .i64 a0_0, .int .i64 a0_1, .int .i64 a0_2, .int .i64 a0_3, .int .i64 a0_4, .int .i64 a0_5] 36 ?_; intro gb368 hg w6 hbox hb; have n0_ := (ns_ hb); have n1_ := zaJ (hbox); have n2_ := (ng_ hg); have n3_ := n2_; clear HB; have HB := n0_; have BK368 := n1_; have GW368 := n2_; have GE368 := n3_; clear n0_ n1_ n2_ n3_; clear hb hbox hg) | ((with_reducible refine zaQ (N := 3) rfl ?_); refine bx_ 3 #[.int .i64 a1_0, .int .i64 a1_1, .int .i64 a1_2, .int .i64 a1_3, .int .i64 a1_4, .int .i64 a1_5] 36 ?_; intro gb369 hg w7 hbox hb; have n0_ := zaJ (zaG (g := gb368) (o := .cells #[.int .i64 a0_0, .int .i64 a0_1, .int .i64 a0_2, .int .i64 a0_3, .int .i64 a0_4, .int .i64 a0_5] 36 (0, 0)) bk_ hb); have n1_ := (ns_ hb); have n2_ := zaJ (hbox); have n3_ := (ng_ hg); have n4_ := n3_; have n5_ := zaJ ((by rw [hg]; exact Nat.ne_of_lt (zbC (g := gb368) (o := .cells #[.int .i64 a0_0, .int .i64 a0_1, .int .i64 a0_2, .int .i64 a0_3, .int .i64 a0_4, .int .i64 a0_5] 36 (0, 0)) bk_) : gb368 ≠ gb369)); have n6_ := zaJ ((by rw [hg]; exact Nat.ne_of_gt (zbC (g := gb368) (o := .cells #[.int .i64 a0_0, .int .i64 a0_1, .int .i64 a0_2, .int .i64 a0_3, .int .i64 a0_4, .int .i64 a0_5] 36 (0, 0)) bk_) : gb369 ≠ gb368)); clear BK368; clear HB; have BK368 := n0_; have HB := n1_; have BK369 := n2_; have GW369 := n3_; have GE369 := n4_; have NB368_369 := n5_; have NB369_368 := n6_; clear n0_ n1_ n2_ n3_ n4_ n5_ n6_; clear hb hbox hg) | ((with_reducible refine zaQ (N := 4) rfl ?_); refine bx_ 4 #[.int .i64 0, .int .i64 0, .int .i64 0] 34 ?_; intro gb370 hg w8 hbox hb; have n0_ := zaJ (zaG (g := gb368) (o := .cells #[.int .i64 a0_0, .int .i64 a0_1, .int .i64 a0_2, .int .i64 a0_3, .int .i64 a0_4, .int .i64 a0_5] 36 (0, 0)) bk_ hb); have n1_ := zaJ (zaG (g := gb369) (o := .cells #[.int .i64 a1_0, .int .i64 a1_1, .int .i64 a1_2, .int .i64 a1_3, .int .i64 a1_4, .int .i64 a1_5] 36 (0, 0)) bk_ hb); have n2_ := (ns_ hb); have n3_ := zaJ (hbox); have n4_ := (ng_ hg); have n5_ := n4_; have n6_ := zaJ ((by rw [hg]; exact Nat.ne_of_lt (zbC (g := gb368) (o := .cells #[.int .i64 a0_0, .int .i64 a0_1, .int .i64 a0_2, .int .i64 a0_3, .int .i64 a0_4, .int .i64 a0_5] 36 (0, 0)) bk_) : gb368 ≠ gb370)); have n7_ := zaJ ((by rw [hg]; exact Nat.ne_of_gt (zbC (g := gb368) (o := .cells #[.int .i64 a0_0, .int .i64 a0_1, .int .i64 a0_2, .int .i64 a0_3, .int .i64 a0_4, .int .i64 a0_5] 36 (0, 0)) bk_) : gb370 ≠ gb368)); have n8_ := zaJ ((by rw [hg]; exact Nat.ne_of_lt (zbC (g := gb369) (o := .cells #[.int .i64 a1_0, .int .i64 a1_1, .int .i64 a1_2, .int .i64 a1_3, .int .i64 a1_4, .int .i64 a1_5] 36 (0, 0)) bk_) : gb369 ≠ gb370)); have n9_ := zaJ ((by rw [hg]; exact Nat.ne_of_gt (zbC (g := gb369) (o := .cells #[.int .i64 a1_0, .int .i64 a1_1, .int .i64 a1_2, .int .i64 a1_3, .int .i64 a1_4, .int .i64 a1_5] 36 (0, 0)) bk_) : gb370 ≠ gb369)); clear BK368; clear BK369; clear HB; have BK368 := n0_; have BK369 := n1_; have HB := n2_; have BK370 := n3_; have GW370 := n4_; have GE370 := n5_; have NB368_370 := n6_; have NB370_368 := n7_; have NB369_370 := n8_; have NB370_369 := n9_; clear n0_ n1_ n2_ n3_ n4_ n5_ n6_ n7_ n8_ n9_; clear hb hbox hg))
 have n0_ := zaJ (zaE BK368.out)
 have n1_ := zaJ (zaE BK369.out)
 have n2_ := zaJ (zaE BK370.out)
 have n3_ := zaJ (zbT HB.out)
 clear BK368
 clear BK369
 clear BK370
 clear HB
 have BK368 := n0_
 have BK369 := n1_
 have BK370 := n2_
 have HB := n3_
 clear n0_ n1_ n2_ n3_
 refine zdL (n := 12) (S := fun w' => w'.cell? ⟨gb368, 0, none⟩ = some (.int .i64 a0_0) ∧ w'.cell? ⟨gb368, 1, none⟩ = some (.int .i64 a0_1) ∧ w'.cell? ⟨gb368, 2, none⟩ = some (.int .i64 a0_2) ∧ w'.cell? ⟨gb368, 3, none⟩ = some (.int .i64 a0_3) ∧ w'.cell? ⟨gb368, 4, none⟩ = some (.int .i64 a0_4) ∧ w'.cell? ⟨gb368, 5, none⟩ = some (.int .i64 a0_5) ∧ w'.cell? ⟨gb369, 0, none⟩ = some (.int .i64 a1_0) ∧ w'.cell? ⟨gb369, 1, none⟩ = some (.int .i64 a1_1) ∧ w'.cell? ⟨gb369, 2, none⟩ = some (.int .i64 a1_2) ∧ w'.cell? ⟨gb369, 3, none⟩ = some (.int .i64 a1_3) ∧ w'.cell? ⟨gb369, 4, none⟩ = some (.int .i64 a1_4) ∧ w'.cell? ⟨gb369, 5, none⟩ = some (.int .i64 a1_5)) (ds := []) #[false, false, false, false, false, false, false, false, false, false, false, false] (by kernel_rfl) rfl rfl ⟨(zaB BK368.out 0).trans rfl, (zaB BK368.out 1).trans rfl, (zaB BK368.out 2).trans rfl, (zaB BK368.out 3).trans rfl, (zaB BK368.out 4).trans rfl, (zaB BK368.out 5).trans rfl, (zaB BK369.out 0).trans rfl, (zaB BK369.out 1).trans rfl, (zaB BK369.out 2).trans rfl, (zaB BK369.out 3).trans rfl, (zaB BK369.out 4).trans rfl, (zaB BK369.out 5).trans rfl⟩ (fun hHeld => ?_); refine zcN zbD.tab1 zbD.bits1 (fun HT_ HW_ => ?_)
 generalize w8.drew = w9 at BK368 BK369 BK370 HB hHeld ⊢
 refine pu_ 0 (some 5) (bl_ 12 1) ?_
 refine pu_ 2 (some 7) (bl_ 12 5) ?_
 refine pu_ 5 (some 10) (bl_ 12 37) ?_
 refine pu_ 7 (some 12) (bl_ 12 165) ?_
 refine zeJ 1 (some 6) (bl_ 12 167) hHeld ?_
 refine zeJ 3 (some 8) (bl_ 12 175) hHeld ?_
 refine zeJ 6 (some 11) (bl_ 12 239) hHeld ?_
 refine zeJ 8 (some 13) (bl_ 12 495) hHeld ?_
 refine zeK (i := 4) (N := some 9) (bl_ 12 511) rfl rfl (zcK HT_.out (by kernel_rfl)) (by decide) (fun K hK => ?_)
 refine zcY Tryd.func168 (by kernel_rfl) rfl #[.agg #[.int .i64 a0_0, .int .i64 a0_1, .int .i64 a0_2], .agg #[.int .i64 a1_3, .int .i64 a1_4, .int .i64 a1_5]] (by rfl) rfl rfl (by (try simp only [List.map_toArray, List.map_cons, List.map_nil]); first | done | rfl | (simp only [List.length_drop, List.length_take]; rfl)) ?_
 with_reducible refine (zbS.calls k a0_0 a0_1 a0_2 a1_3 a1_4 a1_5 t371 t372 t373 _ A3.out).mono ?_
 rintro e w10 ⟨rfl, hb⟩
 refine ⟨_, rfl, ?_⟩
 have n0_ := zaJ (zaG (g := gb368) (o := .cells #[.int .i64 a0_0, .int .i64 a0_1, .int .i64 a0_2, .int .i64 a0_3, .int .i64 a0_4, .int .i64 a0_5] 36 (0, 0)) bk_ hb)
 have n1_ := zaJ (zaG (g := gb369) (o := .cells #[.int .i64 a1_0, .int .i64 a1_1, .int .i64 a1_2, .int .i64 a1_3, .int .i64 a1_4, .int .i64 a1_5] 36 (0, 0)) bk_ hb)
 have n2_ := zaJ (zaG (g := gb370) (o := .cells #[.int .i64 0, .int .i64 0, .int .i64 0] 34 (0, 0)) bk_ hb)
 have n3_ := (ns_ hb)
 clear BK368
 clear BK369
 clear BK370
 clear HB
 have BK368 := n0_
 have BK369 := n1_
 have BK370 := n2_
 have HB := n3_
 clear n0_ n1_ n2_ n3_
 (try clear hb)
 (try clear hb2)
 (try clear hk)
 (try clear hi)
 refine hK.out _ _ ⟨(zaB BK368.out 0).trans rfl, (zaB BK368.out 1).trans rfl, (zaB BK368.out 2).trans rfl, (zaB BK368.out 3).trans rfl, (zaB BK368.out 4).trans rfl, (zaB BK368.out 5).trans rfl, (zaB BK369.out 0).trans rfl, (zaB BK369.out 1).trans rfl, (zaB BK369.out 2).trans rfl, (zaB BK369.out 3).trans rfl, (zaB BK369.out 4).trans rfl, (zaB BK369.out 5).trans rfl⟩ (fun hHeld => ?_)
 clear hK K
 refine zcX (a' := ?_) ?_ ?_
 rotate_left
 ·show Act.put _ (some 9) _ = _
  simp only [Act.put, List.setIfInBounds_toArray, List.set_cons_zero, List.set_cons_succ, zbW, zbY]
  rfl
 refine zeK (i := 9) (N := some 14) (bl_ 12 1023) rfl rfl (zcK HT_.out (by kernel_rfl)) (by decide) (fun K hK => ?_)
 refine zcY Tryd.func168 (by kernel_rfl) rfl #[.agg #[.int .i64 a0_3, .int .i64 a0_4, .int .i64 a0_5], .agg #[.int .i64 a1_0, .int .i64 a1_1, .int .i64 a1_2]] (by rfl) rfl rfl (by (try simp only [List.map_toArray, List.map_cons, List.map_nil]); first | done | rfl | (simp only [List.length_drop, List.length_take]; rfl)) ?_
 with_reducible refine (zbS.calls k a0_3 a0_4 a0_5 a1_0 a1_1 a1_2 t374 t375 t376 _ A4.out).mono ?_
 rintro e w11 ⟨rfl, hb⟩
 refine ⟨_, rfl, ?_⟩
 have n0_ := zaJ (zaG (g := gb368) (o := .cells #[.int .i64 a0_0, .int .i64 a0_1, .int .i64 a0_2, .int .i64 a0_3, .int .i64 a0_4, .int .i64 a0_5] 36 (0, 0)) bk_ hb)
 have n1_ := zaJ (zaG (g := gb369) (o := .cells #[.int .i64 a1_0, .int .i64 a1_1, .int .i64 a1_2, .int .i64 a1_3, .int .i64 a1_4, .int .i64 a1_5] 36 (0, 0)) bk_ hb)
 have n2_ := zaJ (zaG (g := gb370) (o := .cells #[.int .i64 0, .int .i64 0, .int .i64 0] 34 (0, 0)) bk_ hb)
 have n3_ := (ns_ hb)
 clear BK368
 clear BK369
 clear BK370
 clear HB
 have BK368 := n0_
 have BK369 := n1_
 have BK370 := n2_
 have HB := n3_
 clear n0_ n1_ n2_ n3_
 (try clear hb)
 (try clear hb2)
 (try clear hk)
 (try clear hi)
 refine hK.out _ _ ⟨(zaB BK368.out 0).trans rfl, (zaB BK368.out 1).trans rfl, (zaB BK368.out 2).trans rfl, (zaB BK368.out 3).trans rfl, (zaB BK368.out 4).trans rfl, (zaB BK368.out 5).trans rfl, (zaB BK369.out 0).trans rfl, (zaB BK369.out 1).trans rfl, (zaB BK369.out 2).trans rfl, (zaB BK369.out 3).trans rfl, (zaB BK369.out 4).trans rfl, (zaB BK369.out 5).trans rfl⟩ (fun hHeld => ?_)
 clear hK K
 refine zcX (a' := ?_) ?_ ?_
 rotate_left
 ·show Act.put _ (some 14) _ = _
  simp only [Act.put, List.setIfInBounds_toArray, List.set_cons_zero, List.set_cons_succ, zbW, zbY]
  rfl
 refine zeK (i := 10) (N := some 15) (bl_ 12 2047) rfl rfl (zcK HT_.out (by kernel_rfl)) (by decide) (fun K hK => ?_)
 refine zcY Tryd.func166 (by kernel_rfl) rfl #[.agg #[.int .i64 t371, .int .i64 t372, .int .i64 t373], .agg #[.int .i64 t374, .int .i64 t375, .int .i64 t376]] (by rfl) rfl rfl (by (try simp only [List.map_toArray, List.map_cons, List.map_nil]); first | done | rfl | (simp only [List.length_drop, List.length_take]; rfl)) ?_
 with_reducible refine (zbR.calls k t371 t372 t373 t374 t375 t376 t377 t378 t379 _ A5.out).mono ?_
 rintro e w12 ⟨rfl, hb⟩
 refine ⟨_, rfl, ?_⟩
 have n0_ := zaJ (zaG (g := gb368) (o := .cells #[.int .i64 a0_0, .int .i64 a0_1, .int .i64 a0_2, .int .i64 a0_3, .int .i64 a0_4, .int .i64 a0_5] 36 (0, 0)) bk_ hb)
 have n1_ := zaJ (zaG (g := gb369) (o := .cells #[.int .i64 a1_0, .int .i64 a1_1, .int .i64 a1_2, .int .i64 a1_3, .int .i64 a1_4, .int .i64 a1_5] 36 (0, 0)) bk_ hb)
 have n2_ := zaJ (zaG (g := gb370) (o := .cells #[.int .i64 0, .int .i64 0, .int .i64 0] 34 (0, 0)) bk_ hb)
 have n3_ := (ns_ hb)
 clear BK368
 clear BK369
 clear BK370
 clear HB
 have BK368 := n0_
 have BK369 := n1_
 have BK370 := n2_
 have HB := n3_
 clear n0_ n1_ n2_ n3_
 (try clear hb)
 (try clear hb2)
 (try clear hk)
 (try clear hi)
 refine hK.out _ _ ⟨(zaB BK368.out 0).trans rfl, (zaB BK368.out 1).trans rfl, (zaB BK368.out 2).trans rfl, (zaB BK368.out 3).trans rfl, (zaB BK368.out 4).trans rfl, (zaB BK368.out 5).trans rfl, (zaB BK369.out 0).trans rfl, (zaB BK369.out 1).trans rfl, (zaB BK369.out 2).trans rfl, (zaB BK369.out 3).trans rfl, (zaB BK369.out 4).trans rfl, (zaB BK369.out 5).trans rfl⟩ (fun hHeld => ?_)
 clear hK K
 refine zcX (a' := ?_) ?_ ?_
 rotate_left
 ·show Act.put _ (some 15) _ = _
  simp only [Act.put, List.setIfInBounds_toArray, List.set_cons_zero, List.set_cons_succ, zbW, zbY]
  rfl
 refine zeK (i := 11) (N := none) (bl_ 12 4095) rfl rfl (zcK HT_.out (by kernel_rfl)) (by decide) (fun K hK => ?_)
 have hs13 : w12.cell? ⟨gb370, 0, none⟩ = some (.int .i64 0) := (zaB BK370.out 0).trans rfl
 have hfs13 := zbE BK370.out 0
 have hns13_0 := NB368_370.out
 have hns13_1 := NB369_370.out
 have hms13_0 := NB370_368.out
 have hms13_1 := NB370_369.out
 have hs14 : w12.cell? ⟨gb370, 1, none⟩ = some (.int .i64 0) := (zaB BK370.out 1).trans rfl
 have hfs14 := zbE BK370.out 1
 have hns14_0 := NB368_370.out
 have hns14_1 := NB369_370.out
 have hms14_0 := NB370_368.out
 have hms14_1 := NB370_369.out
 have hs15 : w12.cell? ⟨gb370, 2, none⟩ = some (.int .i64 0) := (zaB BK370.out 2).trans rfl
 have hfs15 := zbE BK370.out 2
 have hns15_0 := NB368_370.out
 have hns15_1 := NB369_370.out
 have hms15_0 := NB370_368.out
 have hms15_1 := NB370_369.out
 refine skip_ (w1 := ?_) (by rfl) rfl ?_ ?_
 rotate_left
 ·go_simp
  rfl
 refine hK.out _ _ ⟨((zaF (p := ⟨gb370, _, none⟩) NB368_370.out _).trans (((zaF (p := ⟨gb370, _, none⟩) NB368_370.out _).trans (((zaF (p := ⟨gb370, _, none⟩) NB368_370.out _).trans (hHeld.1)))))), ((zaF (p := ⟨gb370, _, none⟩) NB368_370.out _).trans (((zaF (p := ⟨gb370, _, none⟩) NB368_370.out _).trans (((zaF (p := ⟨gb370, _, none⟩) NB368_370.out _).trans (hHeld.2.1)))))), ((zaF (p := ⟨gb370, _, none⟩) NB368_370.out _).trans (((zaF (p := ⟨gb370, _, none⟩) NB368_370.out _).trans (((zaF (p := ⟨gb370, _, none⟩) NB368_370.out _).trans (hHeld.2.2.1)))))), ((zaF (p := ⟨gb370, _, none⟩) NB368_370.out _).trans (((zaF (p := ⟨gb370, _, none⟩) NB368_370.out _).trans (((zaF (p := ⟨gb370, _, none⟩) NB368_370.out _).trans (hHeld.2.2.2.1)))))), ((zaF (p := ⟨gb370, _, none⟩) NB368_370.out _).trans (((zaF (p := ⟨gb370, _, none⟩) NB368_370.out _).trans (((zaF (p := ⟨gb370, _, none⟩) NB368_370.out _).trans (hHeld.2.2.2.2.1)))))), ((zaF (p := ⟨gb370, _, none⟩) NB368_370.out _).trans (((zaF (p := ⟨gb370, _, none⟩) NB368_370.out _).trans (((zaF (p := ⟨gb370, _, none⟩) NB368_370.out _).trans (hHeld.2.2.2.2.2.1)))))), ((zaF (p := ⟨gb370, _, none⟩) NB369_370.out _).trans (((zaF (p := ⟨gb370, _, none⟩) NB369_370.out _).trans (((zaF (p := ⟨gb370, _, none⟩) NB369_370.out _).trans (hHeld.2.2.2.2.2.2.1)))))), ((zaF (p := ⟨gb370, _, none⟩) NB369_370.out _).trans (((zaF (p := ⟨gb370, _, none⟩) NB369_370.out _).trans (((zaF (p := ⟨gb370, _, none⟩) NB369_370.out _).trans (hHeld.2.2.2.2.2.2.2.1)))))), ((zaF (p := ⟨gb370, _, none⟩) NB369_370.out _).trans (((zaF (p := ⟨gb370, _, none⟩) NB369_370.out _).trans (((zaF (p := ⟨gb370, _, none⟩) NB369_370.out _).trans (hHeld.2.2.2.2.2.2.2.2.1)))))), ((zaF (p := ⟨gb370, _, none⟩) NB369_370.out _).trans (((zaF (p := ⟨gb370, _, none⟩) NB369_370.out _).trans (((zaF (p := ⟨gb370, _, none⟩) NB369_370.out _).trans (hHeld.2.2.2.2.2.2.2.2.2.1)))))), ((zaF (p := ⟨gb370, _, none⟩) NB369_370.out _).trans (((zaF (p := ⟨gb370, _, none⟩) NB369_370.out _).trans (((zaF (p := ⟨gb370, _, none⟩) NB369_370.out _).trans (hHeld.2.2.2.2.2.2.2.2.2.2.1)))))), ((zaF (p := ⟨gb370, _, none⟩) NB369_370.out _).trans (((zaF (p := ⟨gb370, _, none⟩) NB369_370.out _).trans (((zaF (p := ⟨gb370, _, none⟩) NB369_370.out _).trans (hHeld.2.2.2.2.2.2.2.2.2.2.2))))))⟩ (fun hHeld => ?_)
 clear hK K
 refine zeS (zdD HT_.out (by kernel_rfl)) ?_
 try go_wp2
 refine bodyPost_ret (results_cell_row rfl _ _ gb370 34 #[.int .i64 t377, .int .i64 t378, .int .i64 t379] (0, 0) _ rfl (by (with_reducible repeat (first | apply zaD | apply zaE | apply zaC)); refine zaL (cs := #[.int .i64 t377, .int .i64 t378, .int .i64 0]) ?_ 2 _ rfl; (with_reducible repeat (first | apply zaD | apply zaE | apply zaC)); refine zaL (cs := #[.int .i64 t377, .int .i64 0, .int .i64 0]) ?_ 1 _ rfl; (with_reducible repeat (first | apply zaD | apply zaE | apply zaC)); refine zaL (cs := #[.int .i64 0, .int .i64 0, .int .i64 0]) ?_ 0 _ rfl; (with_reducible repeat (first | apply zaD | apply zaE | apply zaC)); exact BK370.out) Tryd.underlying34 rfl (by kernel_rfl)) rfl ?_
 exact ⟨by first | rfl | (simp [zaI, zaH] <;> rfl) | (simp [*, zaI, zaH] <;> rfl), bb_⟩

def zbV.f (k : Nat) (a0_0 : Int) (a0_1 : Int) (a0_2 : Int) (a0_3 : Int) (a0_4 : Int) (a0_5 : Int) (a1_0 : Int) (a1_1 : Int) (a1_2 : Int) (a1_3 : Int) (a1_4 : Int) (a1_5 : Int) : Option (Int × Int × Int) := (zbS.f k a0_0 a0_1 a0_2 a1_0 a1_1 a1_2).bind fun bt383 => ((zbS.f k a0_3 a0_4 a0_5 a1_3 a1_4 a1_5).bind fun bt386 => ((zbU.f k bt383.1 bt383.2.1 bt383.2.2 bt386.1 bt386.2.1 bt386.2.2).bind fun bt389 => (some (bt389.1, bt389.2.1, bt389.2.2))))
theorem zbV.mono : ∀ a0 a1 a2 a3 a4 a5 a6 a7 a8 a9 a10 a11 k, LeO (zbV.f k a0 a1 a2 a3 a4 a5 a6 a7 a8 a9 a10 a11) (zbV.f (k + 1) a0 a1 a2 a3 a4 a5 a6 a7 a8 a9 a10 a11) := by
 intro a0 a1 a2 a3 a4 a5 a6 a7 a8 a9 a10 a11 k
 unfold zbV.f
 repeat' first
   | (with_reducible exact zbU.mono _ _ _ _ _ _ _)
   | (with_reducible exact zbS.mono _ _ _ _ _ _ _)
   | (with_reducible exact LeO.refl _)
   | (with_reducible exact LeO.none _)
   | (with_reducible refine LeO.ite ?_ ?_)
   | (with_reducible refine LeO.bind ?_ (fun _ => ?_))
   | exact zbU.mono _ _ _ _ _ _ _
   | exact zbS.mono _ _ _ _ _ _ _
   | exact LeO.none _
   | refine LeO.ite ?_ ?_
   | refine LeO.bind ?_ (fun _ => ?_)
def zbV.T1 : Bool × List (List Nat × List Nat) := (true, [([], []), ([0], [0]), ([], []), ([2], [2]), ([1, 3], [1, 3]), ([], []), ([5], [5]), ([], []), ([7], [7]), ([6, 8, 4], [6, 8]), ([4, 9, 9], [4, 9]), ([10, 10, 0, 1, 2, 3, 4, 5, 6, 7, 8, 9, 10], [10])])
def zbV.B1 : List Nat := [0, 1, 0, 4, 15, 0, 32, 0, 128, 511, 1023, 2047]
theorem zbV.tab1 : rtab .any (opsOf Tryd.f141 1) = zbV.T1 := by kernel_rfl
theorem zbV.bits1 : zdW zbV.T1.2 zbV.B1 = true := by kernel_rfl
set_option maxHeartbeats 8000000 in
set_option maxRecDepth 100000 in
theorem zbV.calls (k : Nat) (a0_0 : Int) (a0_1 : Int) (a0_2 : Int) (a0_3 : Int) (a0_4 : Int) (a0_5 : Int) (a1_0 : Int) (a1_1 : Int) (a1_2 : Int) (a1_3 : Int) (a1_4 : Int) (a1_5 : Int) (r1 : Int) (r2 : Int) (r3 : Int) (w : World) (h : zbV.f k a0_0 a0_1 a0_2 a0_3 a0_4 a0_5 a1_0 a1_1 a1_2 a1_3 a1_4 a1_5 = some (r1, r2, r3)) :
  Calls Tryd.prog 141 #[.agg #[.int .i64 a0_0, .int .i64 a0_1, .int .i64 a0_2, .int .i64 a0_3, .int .i64 a0_4, .int .i64 a0_5], .agg #[.int .i64 a1_0, .int .i64 a1_1, .int .i64 a1_2, .int .i64 a1_3, .int .i64 a1_4, .int .i64 a1_5]] w fun e w' => e = .returned (.agg #[.int .i64 r1, .int .i64 r2, .int .i64 r3]) ∧ Below w.heap.size w w' := by
 have hu36 := Tryd.underlying36
 have hu34 := Tryd.underlying34
 have HB := zaJ (Below.refl w.heap.size w)
 have H : ((zbS.f k a0_0 a0_1 a0_2 a1_0 a1_1 a1_2).bind fun bt383 => ((zbS.f k a0_3 a0_4 a0_5 a1_3 a1_4 a1_5).bind fun bt386 => ((zbU.f k bt383.1 bt383.2.1 bt383.2.2 bt386.1 bt386.2.1 bt386.2.2).bind fun bt389 => (some (bt389.1, bt389.2.1, bt389.2.2))))) = some (r1, r2, r3) := h
 clear h
 replace H := Option.bind_eq_some_iff.mp H
 obtain ⟨⟨t383, t384, t385⟩, A30, H⟩ := H
 replace H : ((zbS.f k a0_3 a0_4 a0_5 a1_3 a1_4 a1_5).bind fun bt386 => ((zbU.f k t383 t384 t385 bt386.1 bt386.2.1 bt386.2.2).bind fun bt389 => (some (bt389.1, bt389.2.1, bt389.2.2)))) = some (r1, r2, r3) := H
 have A3 := zaJ A30
 clear A30
 replace H := Option.bind_eq_some_iff.mp H
 obtain ⟨⟨t386, t387, t388⟩, A40, H⟩ := H
 replace H : ((zbU.f k t383 t384 t385 t386 t387 t388).bind fun bt389 => (some (bt389.1, bt389.2.1, bt389.2.2))) = some (r1, r2, r3) := H
 have A4 := zaJ A40
 clear A40
 replace H := Option.bind_eq_some_iff.mp H
 obtain ⟨⟨t389, t390, t391⟩, A50, H⟩ := H
 replace H : (some (t389, t390, t391)) = some (r1, r2, r3) := H
 have A5 := zaJ A50
 clear A50
 simp only [Option.some.injEq, Prod.mk.injEq] at H
 obtain ⟨rfl, rfl, rfl⟩ := H
 go_enter Tryd.func141, Tryd.ntmps141
 try go_wp2_with (first | ((with_reducible refine zaQ (N := 2) rfl ?_); refine bx_ 2 #[.int .i64 a0_0, .int .i64 a0_1, .int .i64 a0_2, .int .i64 a0_3, .int .i64 a0_4, .int .i64 a0_5] 36 ?_; intro gb380 hg w6 hbox hb; have n0_ := (ns_ hb); have n1_ := zaJ (hbox); have n2_ := (ng_ hg); have n3_ := n2_; clear HB; have HB := n0_; have BK380 := n1_; have GW380 := n2_; have GE380 := n3_; clear n0_ n1_ n2_ n3_; clear hb hbox hg) | ((with_reducible refine zaQ (N := 3) rfl ?_); refine bx_ 3 #[.int .i64 a1_0, .int .i64 a1_1, .int .i64 a1_2, .int .i64 a1_3, .int .i64 a1_4, .int .i64 a1_5] 36 ?_; intro gb381 hg w7 hbox hb; have n0_ := zaJ (zaG (g := gb380) (o := .cells #[.int .i64 a0_0, .int .i64 a0_1, .int .i64 a0_2, .int .i64 a0_3, .int .i64 a0_4, .int .i64 a0_5] 36 (0, 0)) bk_ hb); have n1_ := (ns_ hb); have n2_ := zaJ (hbox); have n3_ := (ng_ hg); have n4_ := n3_; have n5_ := zaJ ((by rw [hg]; exact Nat.ne_of_lt (zbC (g := gb380) (o := .cells #[.int .i64 a0_0, .int .i64 a0_1, .int .i64 a0_2, .int .i64 a0_3, .int .i64 a0_4, .int .i64 a0_5] 36 (0, 0)) bk_) : gb380 ≠ gb381)); have n6_ := zaJ ((by rw [hg]; exact Nat.ne_of_gt (zbC (g := gb380) (o := .cells #[.int .i64 a0_0, .int .i64 a0_1, .int .i64 a0_2, .int .i64 a0_3, .int .i64 a0_4, .int .i64 a0_5] 36 (0, 0)) bk_) : gb381 ≠ gb380)); clear BK380; clear HB; have BK380 := n0_; have HB := n1_; have BK381 := n2_; have GW381 := n3_; have GE381 := n4_; have NB380_381 := n5_; have NB381_380 := n6_; clear n0_ n1_ n2_ n3_ n4_ n5_ n6_; clear hb hbox hg) | ((with_reducible refine zaQ (N := 4) rfl ?_); refine bx_ 4 #[.int .i64 0, .int .i64 0, .int .i64 0] 34 ?_; intro gb382 hg w8 hbox hb; have n0_ := zaJ (zaG (g := gb380) (o := .cells #[.int .i64 a0_0, .int .i64 a0_1, .int .i64 a0_2, .int .i64 a0_3, .int .i64 a0_4, .int .i64 a0_5] 36 (0, 0)) bk_ hb); have n1_ := zaJ (zaG (g := gb381) (o := .cells #[.int .i64 a1_0, .int .i64 a1_1, .int .i64 a1_2, .int .i64 a1_3, .int .i64 a1_4, .int .i64 a1_5] 36 (0, 0)) bk_ hb); have n2_ := (ns_ hb); have n3_ := zaJ (hbox); have n4_ := (ng_ hg); have n5_ := n4_; have n6_ := zaJ ((by rw [hg]; exact Nat.ne_of_lt (zbC (g := gb380) (o := .cells #[.int .i64 a0_0, .int .i64 a0_1, .int .i64 a0_2, .int .i64 a0_3, .int .i64 a0_4, .int .i64 a0_5] 36 (0, 0)) bk_) : gb380 ≠ gb382)); have n7_ := zaJ ((by rw [hg]; exact Nat.ne_of_gt (zbC (g := gb380) (o := .cells #[.int .i64 a0_0, .int .i64 a0_1, .int .i64 a0_2, .int .i64 a0_3, .int .i64 a0_4, .int .i64 a0_5] 36 (0, 0)) bk_) : gb382 ≠ gb380)); have n8_ := zaJ ((by rw [hg]; exact Nat.ne_of_lt (zbC (g := gb381) (o := .cells #[.int .i64 a1_0, .int .i64 a1_1, .int .i64 a1_2, .int .i64 a1_3, .int .i64 a1_4, .int .i64 a1_5] 36 (0, 0)) bk_) : gb381 ≠ gb382)); have n9_ := zaJ ((by rw [hg]; exact Nat.ne_of_gt (zbC (g := gb381) (o := .cells #[.int .i64 a1_0, .int .i64 a1_1, .int .i64 a1_2, .int .i64 a1_3, .int .i64 a1_4, .int .i64 a1_5] 36 (0, 0)) bk_) : gb382 ≠ gb381)); clear BK380; clear BK381; clear HB; have BK380 := n0_; have BK381 := n1_; have HB := n2_; have BK382 := n3_; have GW382 := n4_; have GE382 := n5_; have NB380_382 := n6_; have NB382_380 := n7_; have NB381_382 := n8_; have NB382_381 := n9_; clear n0_ n1_ n2_ n3_ n4_ n5_ n6_ n7_ n8_ n9_; clear hb hbox hg))
 have n0_ := zaJ (zaE BK380.out)
 have n1_ := zaJ (zaE BK381.out)
 have n2_ := zaJ (zaE BK382.out)
 have n3_ := zaJ (zbT HB.out)
 clear BK380
 clear BK381
 clear BK382
 clear HB
 have BK380 := n0_
 have BK381 := n1_
 have BK382 := n2_
 have HB := n3_
 clear n0_ n1_ n2_ n3_
 refine zdL (n := 12) (S := fun w' => w'.cell? ⟨gb380, 0, none⟩ = some (.int .i64 a0_0) ∧ w'.cell? ⟨gb380, 1, none⟩ = some (.int .i64 a0_1) ∧ w'.cell? ⟨gb380, 2, none⟩ = some (.int .i64 a0_2) ∧ w'.cell? ⟨gb380, 3, none⟩ = some (.int .i64 a0_3) ∧ w'.cell? ⟨gb380, 4, none⟩ = some (.int .i64 a0_4) ∧ w'.cell? ⟨gb380, 5, none⟩ = some (.int .i64 a0_5) ∧ w'.cell? ⟨gb381, 0, none⟩ = some (.int .i64 a1_0) ∧ w'.cell? ⟨gb381, 1, none⟩ = some (.int .i64 a1_1) ∧ w'.cell? ⟨gb381, 2, none⟩ = some (.int .i64 a1_2) ∧ w'.cell? ⟨gb381, 3, none⟩ = some (.int .i64 a1_3) ∧ w'.cell? ⟨gb381, 4, none⟩ = some (.int .i64 a1_4) ∧ w'.cell? ⟨gb381, 5, none⟩ = some (.int .i64 a1_5)) (ds := []) #[false, false, false, false, false, false, false, false, false, false, false, false] (by kernel_rfl) rfl rfl ⟨(zaB BK380.out 0).trans rfl, (zaB BK380.out 1).trans rfl, (zaB BK380.out 2).trans rfl, (zaB BK380.out 3).trans rfl, (zaB BK380.out 4).trans rfl, (zaB BK380.out 5).trans rfl, (zaB BK381.out 0).trans rfl, (zaB BK381.out 1).trans rfl, (zaB BK381.out 2).trans rfl, (zaB BK381.out 3).trans rfl, (zaB BK381.out 4).trans rfl, (zaB BK381.out 5).trans rfl⟩ (fun hHeld => ?_); refine zcN zbV.tab1 zbV.bits1 (fun HT_ HW_ => ?_)
 generalize w8.drew = w9 at BK380 BK381 BK382 HB hHeld ⊢
 refine pu_ 0 (some 5) (bl_ 12 1) ?_
 refine pu_ 2 (some 7) (bl_ 12 5) ?_
 refine pu_ 5 (some 10) (bl_ 12 37) ?_
 refine pu_ 7 (some 12) (bl_ 12 165) ?_
 refine zeJ 1 (some 6) (bl_ 12 167) hHeld ?_
 refine zeJ 3 (some 8) (bl_ 12 175) hHeld ?_
 refine zeJ 6 (some 11) (bl_ 12 239) hHeld ?_
 refine zeJ 8 (some 13) (bl_ 12 495) hHeld ?_
 refine zeK (i := 4) (N := some 9) (bl_ 12 511) rfl rfl (zcK HT_.out (by kernel_rfl)) (by decide) (fun K hK => ?_)
 refine zcY Tryd.func168 (by kernel_rfl) rfl #[.agg #[.int .i64 a0_0, .int .i64 a0_1, .int .i64 a0_2], .agg #[.int .i64 a1_0, .int .i64 a1_1, .int .i64 a1_2]] (by rfl) rfl rfl (by (try simp only [List.map_toArray, List.map_cons, List.map_nil]); first | done | rfl | (simp only [List.length_drop, List.length_take]; rfl)) ?_
 with_reducible refine (zbS.calls k a0_0 a0_1 a0_2 a1_0 a1_1 a1_2 t383 t384 t385 _ A3.out).mono ?_
 rintro e w10 ⟨rfl, hb⟩
 refine ⟨_, rfl, ?_⟩
 have n0_ := zaJ (zaG (g := gb380) (o := .cells #[.int .i64 a0_0, .int .i64 a0_1, .int .i64 a0_2, .int .i64 a0_3, .int .i64 a0_4, .int .i64 a0_5] 36 (0, 0)) bk_ hb)
 have n1_ := zaJ (zaG (g := gb381) (o := .cells #[.int .i64 a1_0, .int .i64 a1_1, .int .i64 a1_2, .int .i64 a1_3, .int .i64 a1_4, .int .i64 a1_5] 36 (0, 0)) bk_ hb)
 have n2_ := zaJ (zaG (g := gb382) (o := .cells #[.int .i64 0, .int .i64 0, .int .i64 0] 34 (0, 0)) bk_ hb)
 have n3_ := (ns_ hb)
 clear BK380
 clear BK381
 clear BK382
 clear HB
 have BK380 := n0_
 have BK381 := n1_
 have BK382 := n2_
 have HB := n3_
 clear n0_ n1_ n2_ n3_
 (try clear hb)
 (try clear hb2)
 (try clear hk)
 (try clear hi)
 refine hK.out _ _ ⟨(zaB BK380.out 0).trans rfl, (zaB BK380.out 1).trans rfl, (zaB BK380.out 2).trans rfl, (zaB BK380.out 3).trans rfl, (zaB BK380.out 4).trans rfl, (zaB BK380.out 5).trans rfl, (zaB BK381.out 0).trans rfl, (zaB BK381.out 1).trans rfl, (zaB BK381.out 2).trans rfl, (zaB BK381.out 3).trans rfl, (zaB BK381.out 4).trans rfl, (zaB BK381.out 5).trans rfl⟩ (fun hHeld => ?_)
 clear hK K
 refine zcX (a' := ?_) ?_ ?_
 rotate_left
 ·show Act.put _ (some 9) _ = _
  simp only [Act.put, List.setIfInBounds_toArray, List.set_cons_zero, List.set_cons_succ, zbW, zbY]
  rfl
 refine zeK (i := 9) (N := some 14) (bl_ 12 1023) rfl rfl (zcK HT_.out (by kernel_rfl)) (by decide) (fun K hK => ?_)
 refine zcY Tryd.func168 (by kernel_rfl) rfl #[.agg #[.int .i64 a0_3, .int .i64 a0_4, .int .i64 a0_5], .agg #[.int .i64 a1_3, .int .i64 a1_4, .int .i64 a1_5]] (by rfl) rfl rfl (by (try simp only [List.map_toArray, List.map_cons, List.map_nil]); first | done | rfl | (simp only [List.length_drop, List.length_take]; rfl)) ?_
 with_reducible refine (zbS.calls k a0_3 a0_4 a0_5 a1_3 a1_4 a1_5 t386 t387 t388 _ A4.out).mono ?_
 rintro e w11 ⟨rfl, hb⟩
 refine ⟨_, rfl, ?_⟩
 have n0_ := zaJ (zaG (g := gb380) (o := .cells #[.int .i64 a0_0, .int .i64 a0_1, .int .i64 a0_2, .int .i64 a0_3, .int .i64 a0_4, .int .i64 a0_5] 36 (0, 0)) bk_ hb)
 have n1_ := zaJ (zaG (g := gb381) (o := .cells #[.int .i64 a1_0, .int .i64 a1_1, .int .i64 a1_2, .int .i64 a1_3, .int .i64 a1_4, .int .i64 a1_5] 36 (0, 0)) bk_ hb)
 have n2_ := zaJ (zaG (g := gb382) (o := .cells #[.int .i64 0, .int .i64 0, .int .i64 0] 34 (0, 0)) bk_ hb)
 have n3_ := (ns_ hb)
 clear BK380
 clear BK381
 clear BK382
 clear HB
 have BK380 := n0_
 have BK381 := n1_
 have BK382 := n2_
 have HB := n3_
 clear n0_ n1_ n2_ n3_
 (try clear hb)
 (try clear hb2)
 (try clear hk)
 (try clear hi)
 refine hK.out _ _ ⟨(zaB BK380.out 0).trans rfl, (zaB BK380.out 1).trans rfl, (zaB BK380.out 2).trans rfl, (zaB BK380.out 3).trans rfl, (zaB BK380.out 4).trans rfl, (zaB BK380.out 5).trans rfl, (zaB BK381.out 0).trans rfl, (zaB BK381.out 1).trans rfl, (zaB BK381.out 2).trans rfl, (zaB BK381.out 3).trans rfl, (zaB BK381.out 4).trans rfl, (zaB BK381.out 5).trans rfl⟩ (fun hHeld => ?_)
 clear hK K
 refine zcX (a' := ?_) ?_ ?_
 rotate_left
 ·show Act.put _ (some 14) _ = _
  simp only [Act.put, List.setIfInBounds_toArray, List.set_cons_zero, List.set_cons_succ, zbW, zbY]
  rfl
 refine zeK (i := 10) (N := some 15) (bl_ 12 2047) rfl rfl (zcK HT_.out (by kernel_rfl)) (by decide) (fun K hK => ?_)
 refine zcY Tryd.func169 (by kernel_rfl) rfl #[.agg #[.int .i64 t383, .int .i64 t384, .int .i64 t385], .agg #[.int .i64 t386, .int .i64 t387, .int .i64 t388]] (by rfl) rfl rfl (by (try simp only [List.map_toArray, List.map_cons, List.map_nil]); first | done | rfl | (simp only [List.length_drop, List.length_take]; rfl)) ?_
 with_reducible refine (zbU.calls k t383 t384 t385 t386 t387 t388 t389 t390 t391 _ A5.out).mono ?_
 rintro e w12 ⟨rfl, hb⟩
 refine ⟨_, rfl, ?_⟩
 have n0_ := zaJ (zaG (g := gb380) (o := .cells #[.int .i64 a0_0, .int .i64 a0_1, .int .i64 a0_2, .int .i64 a0_3, .int .i64 a0_4, .int .i64 a0_5] 36 (0, 0)) bk_ hb)
 have n1_ := zaJ (zaG (g := gb381) (o := .cells #[.int .i64 a1_0, .int .i64 a1_1, .int .i64 a1_2, .int .i64 a1_3, .int .i64 a1_4, .int .i64 a1_5] 36 (0, 0)) bk_ hb)
 have n2_ := zaJ (zaG (g := gb382) (o := .cells #[.int .i64 0, .int .i64 0, .int .i64 0] 34 (0, 0)) bk_ hb)
 have n3_ := (ns_ hb)
 clear BK380
 clear BK381
 clear BK382
 clear HB
 have BK380 := n0_
 have BK381 := n1_
 have BK382 := n2_
 have HB := n3_
 clear n0_ n1_ n2_ n3_
 (try clear hb)
 (try clear hb2)
 (try clear hk)
 (try clear hi)
 refine hK.out _ _ ⟨(zaB BK380.out 0).trans rfl, (zaB BK380.out 1).trans rfl, (zaB BK380.out 2).trans rfl, (zaB BK380.out 3).trans rfl, (zaB BK380.out 4).trans rfl, (zaB BK380.out 5).trans rfl, (zaB BK381.out 0).trans rfl, (zaB BK381.out 1).trans rfl, (zaB BK381.out 2).trans rfl, (zaB BK381.out 3).trans rfl, (zaB BK381.out 4).trans rfl, (zaB BK381.out 5).trans rfl⟩ (fun hHeld => ?_)
 clear hK K
 refine zcX (a' := ?_) ?_ ?_
 rotate_left
 ·show Act.put _ (some 15) _ = _
  simp only [Act.put, List.setIfInBounds_toArray, List.set_cons_zero, List.set_cons_succ, zbW, zbY]
  rfl
 refine zeK (i := 11) (N := none) (bl_ 12 4095) rfl rfl (zcK HT_.out (by kernel_rfl)) (by decide) (fun K hK => ?_)
 have hs13 : w12.cell? ⟨gb382, 0, none⟩ = some (.int .i64 0) := (zaB BK382.out 0).trans rfl
 have hfs13 := zbE BK382.out 0
 have hns13_0 := NB380_382.out
 have hns13_1 := NB381_382.out
 have hms13_0 := NB382_380.out
 have hms13_1 := NB382_381.out
 have hs14 : w12.cell? ⟨gb382, 1, none⟩ = some (.int .i64 0) := (zaB BK382.out 1).trans rfl
 have hfs14 := zbE BK382.out 1
 have hns14_0 := NB380_382.out
 have hns14_1 := NB381_382.out
 have hms14_0 := NB382_380.out
 have hms14_1 := NB382_381.out
 have hs15 : w12.cell? ⟨gb382, 2, none⟩ = some (.int .i64 0) := (zaB BK382.out 2).trans rfl
 have hfs15 := zbE BK382.out 2
 have hns15_0 := NB380_382.out
 have hns15_1 := NB381_382.out
 have hms15_0 := NB382_380.out
 have hms15_1 := NB382_381.out
 refine skip_ (w1 := ?_) (by rfl) rfl ?_ ?_
 rotate_left
 ·go_simp
  rfl
 refine hK.out _ _ ⟨((zaF (p := ⟨gb382, _, none⟩) NB380_382.out _).trans (((zaF (p := ⟨gb382, _, none⟩) NB380_382.out _).trans (((zaF (p := ⟨gb382, _, none⟩) NB380_382.out _).trans (hHeld.1)))))), ((zaF (p := ⟨gb382, _, none⟩) NB380_382.out _).trans (((zaF (p := ⟨gb382, _, none⟩) NB380_382.out _).trans (((zaF (p := ⟨gb382, _, none⟩) NB380_382.out _).trans (hHeld.2.1)))))), ((zaF (p := ⟨gb382, _, none⟩) NB380_382.out _).trans (((zaF (p := ⟨gb382, _, none⟩) NB380_382.out _).trans (((zaF (p := ⟨gb382, _, none⟩) NB380_382.out _).trans (hHeld.2.2.1)))))), ((zaF (p := ⟨gb382, _, none⟩) NB380_382.out _).trans (((zaF (p := ⟨gb382, _, none⟩) NB380_382.out _).trans (((zaF (p := ⟨gb382, _, none⟩) NB380_382.out _).trans (hHeld.2.2.2.1)))))), ((zaF (p := ⟨gb382, _, none⟩) NB380_382.out _).trans (((zaF (p := ⟨gb382, _, none⟩) NB380_382.out _).trans (((zaF (p := ⟨gb382, _, none⟩) NB380_382.out _).trans (hHeld.2.2.2.2.1)))))), ((zaF (p := ⟨gb382, _, none⟩) NB380_382.out _).trans (((zaF (p := ⟨gb382, _, none⟩) NB380_382.out _).trans (((zaF (p := ⟨gb382, _, none⟩) NB380_382.out _).trans (hHeld.2.2.2.2.2.1)))))), ((zaF (p := ⟨gb382, _, none⟩) NB381_382.out _).trans (((zaF (p := ⟨gb382, _, none⟩) NB381_382.out _).trans (((zaF (p := ⟨gb382, _, none⟩) NB381_382.out _).trans (hHeld.2.2.2.2.2.2.1)))))), ((zaF (p := ⟨gb382, _, none⟩) NB381_382.out _).trans (((zaF (p := ⟨gb382, _, none⟩) NB381_382.out _).trans (((zaF (p := ⟨gb382, _, none⟩) NB381_382.out _).trans (hHeld.2.2.2.2.2.2.2.1)))))), ((zaF (p := ⟨gb382, _, none⟩) NB381_382.out _).trans (((zaF (p := ⟨gb382, _, none⟩) NB381_382.out _).trans (((zaF (p := ⟨gb382, _, none⟩) NB381_382.out _).trans (hHeld.2.2.2.2.2.2.2.2.1)))))), ((zaF (p := ⟨gb382, _, none⟩) NB381_382.out _).trans (((zaF (p := ⟨gb382, _, none⟩) NB381_382.out _).trans (((zaF (p := ⟨gb382, _, none⟩) NB381_382.out _).trans (hHeld.2.2.2.2.2.2.2.2.2.1)))))), ((zaF (p := ⟨gb382, _, none⟩) NB381_382.out _).trans (((zaF (p := ⟨gb382, _, none⟩) NB381_382.out _).trans (((zaF (p := ⟨gb382, _, none⟩) NB381_382.out _).trans (hHeld.2.2.2.2.2.2.2.2.2.2.1)))))), ((zaF (p := ⟨gb382, _, none⟩) NB381_382.out _).trans (((zaF (p := ⟨gb382, _, none⟩) NB381_382.out _).trans (((zaF (p := ⟨gb382, _, none⟩) NB381_382.out _).trans (hHeld.2.2.2.2.2.2.2.2.2.2.2))))))⟩ (fun hHeld => ?_)
 clear hK K
 refine zeS (zdD HT_.out (by kernel_rfl)) ?_
 try go_wp2
 refine bodyPost_ret (results_cell_row rfl _ _ gb382 34 #[.int .i64 t389, .int .i64 t390, .int .i64 t391] (0, 0) _ rfl (by (with_reducible repeat (first | apply zaD | apply zaE | apply zaC)); refine zaL (cs := #[.int .i64 t389, .int .i64 t390, .int .i64 0]) ?_ 2 _ rfl; (with_reducible repeat (first | apply zaD | apply zaE | apply zaC)); refine zaL (cs := #[.int .i64 t389, .int .i64 0, .int .i64 0]) ?_ 1 _ rfl; (with_reducible repeat (first | apply zaD | apply zaE | apply zaC)); refine zaL (cs := #[.int .i64 0, .int .i64 0, .int .i64 0]) ?_ 0 _ rfl; (with_reducible repeat (first | apply zaD | apply zaE | apply zaC)); exact BK382.out) Tryd.underlying34 rfl (by kernel_rfl)) rfl ?_
 exact ⟨by first | rfl | (simp [zaI, zaH] <;> rfl) | (simp [*, zaI, zaH] <;> rfl), bb_⟩

def zdS.f (a0 : Int) : Option (Int) := some (mx (-1) (mn 1 a0))
set_option maxHeartbeats 8000000 in
set_option maxRecDepth 100000 in
theorem zdS.calls (a0 : Int) (r : Int) (w : World) (h : zdS.f a0 = some r) :
  Calls Tryd.prog 170 #[.int .i64 a0] w fun e w' => e = .returned (.int .i64 r) ∧ Below w.heap.size w w' := by
 have HB := zaJ (Below.refl w.heap.size w)
 have H : (some (mx (-1) (mn 1 a0))) = some r := h
 clear h
 obtain ⟨ji2, hji2⟩ : ∃ j_ : Int, (mn 1 a0) = j_ := ⟨_, rfl⟩
 replace H : (some (mx (-1) (ji2))) = some r := by first | (rw [hji2] at H; exact H) | (simp only [hji2] at H ⊢; exact H)
 (try (have hji2h : ji2 ≤ 1 := by (rw [← hji2]; unfold mn; (repeat' split) <;> omega)))
 (try (have hji2g : ji2 ≤ 64 := by omega))
 have hji2_ : (if a0 < 1 then a0 else 1) = ji2 := hji2
 obtain ⟨ji3, hji3⟩ : ∃ j_ : Int, (mx (-1) (ji2)) = j_ := ⟨_, rfl⟩
 replace H : (some ji3) = some r := by first | (rw [hji3] at H; exact H) | (simp only [hji3] at H ⊢; exact H)
 have hji3_ : (if (-1) < (ji2) then (ji2) else (-1)) = ji3 := hji3
 obtain rfl := Option.some.inj H
 go_enter Tryd.func170, Tryd.ntmps170
 go_wp2
 go_ret
 exact ⟨by first | rfl | (simp [zaI, zaH] <;> rfl) | (simp only [← hji2, ← hji3]; first | rfl | (simp [zaI, zaH] <;> rfl)) | (simp [*, zaI, zaH] <;> rfl), bb_⟩

def zcQ.f (a0 : Int) : Option (Int) := some (mx a0 (wrap64 (-a0)))
set_option maxHeartbeats 8000000 in
set_option maxRecDepth 100000 in
theorem zcQ.calls (a0 : Int) (r : Int) (w : World) (h : zcQ.f a0 = some r) :
  Calls Tryd.prog 132 #[.int .i64 a0] w fun e w' => e = .returned (.int .i64 r) ∧ Below w.heap.size w w' := by
 have HB := zaJ (Below.refl w.heap.size w)
 have H : (some (mx a0 (wrap64 (-a0)))) = some r := h
 clear h
 obtain ⟨ji2, hji2⟩ : ∃ j_ : Int, (mx a0 (wrap64 (-a0))) = j_ := ⟨_, rfl⟩
 replace H : (some ji2) = some r := by first | (rw [hji2] at H; exact H) | (simp only [hji2] at H ⊢; exact H)
 have hji2_ : (if a0 < (wrap64 (-a0)) then (wrap64 (-a0)) else a0) = ji2 := hji2
 obtain rfl := Option.some.inj H
 go_enter Tryd.func132, Tryd.ntmps132
 go_wp2
 go_ret
 exact ⟨by first | rfl | (simp [zaI, zaH] <;> rfl) | (simp only [← hji2]; first | rfl | (simp [zaI, zaH] <;> rfl)) | (simp [*, zaI, zaH] <;> rfl), bb_⟩

def zcR.f (a0 : Int) (a1 : Int) : Option (Int × Int) := some (IntKind.u64.wrap ((IntKind.u64.wrap ((IntKind.u64.wrap ((a0 / 4294967296) * (a1 / 4294967296))) + ((IntKind.u64.wrap ((IntKind.u64.wrap ((a0 / 4294967296) * (Go.bits .and .u64 a1 4294967295))) + ((IntKind.u64.wrap ((Go.bits .and .u64 a0 4294967295) * (Go.bits .and .u64 a1 4294967295))) / 4294967296))) / 4294967296))) + ((IntKind.u64.wrap ((Go.bits .and .u64 (IntKind.u64.wrap ((IntKind.u64.wrap ((a0 / 4294967296) * (Go.bits .and .u64 a1 4294967295))) + ((IntKind.u64.wrap ((Go.bits .and .u64 a0 4294967295) * (Go.bits .and .u64 a1 4294967295))) / 4294967296))) 4294967295) + (IntKind.u64.wrap ((Go.bits .and .u64 a0 4294967295) * (a1 / 4294967296))))) / 4294967296)), IntKind.u64.wrap (a0 * a1))
set_option maxHeartbeats 8000000 in
set_option maxRecDepth 100000 in
theorem zcR.calls (a0 : Int) (a1 : Int) (r1 : Int) (r2 : Int) (w : World) (h : zcR.f a0 a1 = some (r1, r2)) :
  Calls Tryd.prog 192 #[.int .u64 a0, .int .u64 a1] w fun e w' => e = .returned (.tuple #[.int .u64 r1, .int .u64 r2]) ∧ Drawn0 w w' := by
 have H : (some (IntKind.u64.wrap ((IntKind.u64.wrap ((IntKind.u64.wrap ((a0 / 4294967296) * (a1 / 4294967296))) + ((IntKind.u64.wrap ((IntKind.u64.wrap ((a0 / 4294967296) * (Go.bits .and .u64 a1 4294967295))) + ((IntKind.u64.wrap ((Go.bits .and .u64 a0 4294967295) * (Go.bits .and .u64 a1 4294967295))) / 4294967296))) / 4294967296))) + ((IntKind.u64.wrap ((Go.bits .and .u64 (IntKind.u64.wrap ((IntKind.u64.wrap ((a0 / 4294967296) * (Go.bits .and .u64 a1 4294967295))) + ((IntKind.u64.wrap ((Go.bits .and .u64 a0 4294967295) * (Go.bits .and .u64 a1 4294967295))) / 4294967296))) 4294967295) + (IntKind.u64.wrap ((Go.bits .and .u64 a0 4294967295) * (a1 / 4294967296))))) / 4294967296)), IntKind.u64.wrap (a0 * a1))) = some (r1, r2) := h
 clear h
 simp only [Option.some.injEq, Prod.mk.injEq] at H
 obtain ⟨rfl, rfl⟩ := H
 go_enter Tryd.func192, Tryd.ntmps192
 go_wp2
 go_ret2
 exact ⟨by first | rfl | (simp; done) | (simp [*]; done), by repeat (first | exact Drawn0.refl _ | apply Drawn0.step)⟩

def zdP.f (a0 : Int) (a1 : Int) : Option (Bool) := (zcQ.f a0).bind fun t392 => ((zcQ.f a0).bind fun t393 => ((zcR.f (IntKind.u64.wrap (t392)) (IntKind.u64.wrap (t393))).bind fun bt394 => ((zcQ.f a1).bind fun t396 => ((zcQ.f a1).bind fun t397 => ((zcR.f (IntKind.u64.wrap (t396)) (IntKind.u64.wrap (t397))).bind fun bt398 => (if bt394.1 > (Go.bits .or .u64 (IntKind.u64.wrap (bt398.1 * 2)) (bt398.2 / 9223372036854775808)) then (some true) else (if bt394.1 = (Go.bits .or .u64 (IntKind.u64.wrap (bt398.1 * 2)) (bt398.2 / 9223372036854775808)) then (some (decide (bt394.2 > (IntKind.u64.wrap (bt398.2 * 2))))) else (some false))))))))
set_option maxHeartbeats 8000000 in
set_option maxRecDepth 100000 in
theorem zdP.calls (a0 : Int) (a1 : Int) (r : Bool) (w : World) (h : zdP.f a0 a1 = some r) :
  Calls Tryd.prog 171 #[.int .i64 a0, .int .i64 a1] w fun e w' => e = .returned (.bool r) ∧ Below w.heap.size w w' := by
 have HB := zaJ (Below.refl w.heap.size w)
 have H : ((zcQ.f a0).bind fun t392 => ((zcQ.f a0).bind fun t393 => ((zcR.f (IntKind.u64.wrap (t392)) (IntKind.u64.wrap (t393))).bind fun bt394 => ((zcQ.f a1).bind fun t396 => ((zcQ.f a1).bind fun t397 => ((zcR.f (IntKind.u64.wrap (t396)) (IntKind.u64.wrap (t397))).bind fun bt398 => (if bt394.1 > (Go.bits .or .u64 (IntKind.u64.wrap (bt398.1 * 2)) (bt398.2 / 9223372036854775808)) then (some true) else (if bt394.1 = (Go.bits .or .u64 (IntKind.u64.wrap (bt398.1 * 2)) (bt398.2 / 9223372036854775808)) then (some (decide (bt394.2 > (IntKind.u64.wrap (bt398.2 * 2))))) else (some false))))))))) = some r := h
 clear h
 replace H := Option.bind_eq_some_iff.mp H
 obtain ⟨t392, A30, H⟩ := H
 replace H : ((zcQ.f a0).bind fun t393 => ((zcR.f (IntKind.u64.wrap (t392)) (IntKind.u64.wrap (t393))).bind fun bt394 => ((zcQ.f a1).bind fun t396 => ((zcQ.f a1).bind fun t397 => ((zcR.f (IntKind.u64.wrap (t396)) (IntKind.u64.wrap (t397))).bind fun bt398 => (if bt394.1 > (Go.bits .or .u64 (IntKind.u64.wrap (bt398.1 * 2)) (bt398.2 / 9223372036854775808)) then (some true) else (if bt394.1 = (Go.bits .or .u64 (IntKind.u64.wrap (bt398.1 * 2)) (bt398.2 / 9223372036854775808)) then (some (decide (bt394.2 > (IntKind.u64.wrap (bt398.2 * 2))))) else (some false)))))))) = some r := H
 have A3 := zaJ A30
 clear A30
 replace H := Option.bind_eq_some_iff.mp H
 obtain ⟨t393, A40, H⟩ := H
 replace H : ((zcR.f (IntKind.u64.wrap (t392)) (IntKind.u64.wrap (t393))).bind fun bt394 => ((zcQ.f a1).bind fun t396 => ((zcQ.f a1).bind fun t397 => ((zcR.f (IntKind.u64.wrap (t396)) (IntKind.u64.wrap (t397))).bind fun bt398 => (if bt394.1 > (Go.bits .or .u64 (IntKind.u64.wrap (bt398.1 * 2)) (bt398.2 / 9223372036854775808)) then (some true) else (if bt394.1 = (Go.bits .or .u64 (IntKind.u64.wrap (bt398.1 * 2)) (bt398.2 / 9223372036854775808)) then (some (decide (bt394.2 > (IntKind.u64.wrap (bt398.2 * 2))))) else (some false))))))) = some r := H
 have A4 := zaJ A40
 clear A40
 replace H := Option.bind_eq_some_iff.mp H
 obtain ⟨⟨t394, t395⟩, A50, H⟩ := H
 replace H : ((zcQ.f a1).bind fun t396 => ((zcQ.f a1).bind fun t397 => ((zcR.f (IntKind.u64.wrap (t396)) (IntKind.u64.wrap (t397))).bind fun bt398 => (if t394 > (Go.bits .or .u64 (IntKind.u64.wrap (bt398.1 * 2)) (bt398.2 / 9223372036854775808)) then (some true) else (if t394 = (Go.bits .or .u64 (IntKind.u64.wrap (bt398.1 * 2)) (bt398.2 / 9223372036854775808)) then (some (decide (t395 > (IntKind.u64.wrap (bt398.2 * 2))))) else (some false)))))) = some r := H
 have A5 := zaJ A50
 clear A50
 replace H := Option.bind_eq_some_iff.mp H
 obtain ⟨t396, A60, H⟩ := H
 replace H : ((zcQ.f a1).bind fun t397 => ((zcR.f (IntKind.u64.wrap (t396)) (IntKind.u64.wrap (t397))).bind fun bt398 => (if t394 > (Go.bits .or .u64 (IntKind.u64.wrap (bt398.1 * 2)) (bt398.2 / 9223372036854775808)) then (some true) else (if t394 = (Go.bits .or .u64 (IntKind.u64.wrap (bt398.1 * 2)) (bt398.2 / 9223372036854775808)) then (some (decide (t395 > (IntKind.u64.wrap (bt398.2 * 2))))) else (some false))))) = some r := H
 have A6 := zaJ A60
 clear A60
 replace H := Option.bind_eq_some_iff.mp H
 obtain ⟨t397, A70, H⟩ := H
 replace H : ((zcR.f (IntKind.u64.wrap (t396)) (IntKind.u64.wrap (t397))).bind fun bt398 => (if t394 > (Go.bits .or .u64 (IntKind.u64.wrap (bt398.1 * 2)) (bt398.2 / 9223372036854775808)) then (some true) else (if t394 = (Go.bits .or .u64 (IntKind.u64.wrap (bt398.1 * 2)) (bt398.2 / 9223372036854775808)) then (some (decide (t395 > (IntKind.u64.wrap (bt398.2 * 2))))) else (some false)))) = some r := H
 have A7 := zaJ A70
 clear A70
 replace H := Option.bind_eq_some_iff.mp H
 obtain ⟨⟨t398, t399⟩, A80, H⟩ := H
 replace H : (if t394 > (Go.bits .or .u64 (IntKind.u64.wrap (t398 * 2)) (t399 / 9223372036854775808)) then (some true) else (if t394 = (Go.bits .or .u64 (IntKind.u64.wrap (t398 * 2)) (t399 / 9223372036854775808)) then (some (decide (t395 > (IntKind.u64.wrap (t399 * 2))))) else (some false))) = some r := H
 have A8 := zaJ A80
 clear A80
 by_cases c9 : t394 > (Go.bits .or .u64 (IntKind.u64.wrap (t398 * 2)) (t399 / 9223372036854775808))
 ·rw [if_pos c9] at H
  have c9b0 : decide ((Go.bits .or .u64 (IntKind.u64.wrap (t398 * 2)) (t399 / 9223372036854775808)) < t394) = true := decide_eq_true c9
  clear c9
  obtain rfl := Option.some.inj H
  go_enter Tryd.func171, Tryd.ntmps171
  go_wp2_with (first | ((with_reducible refine zaK (f := 132) rfl ?_); refine zbQ (some 11) rfl rfl Tryd.func132 (by kernel_rfl) rfl #[.int .i64 a0] rfl (by (try simp only [List.map_toArray, List.map_cons, List.map_nil]); first | done | rfl | (simp only [List.length_drop, List.length_take]; rfl)) ?_; (with_reducible refine (zcQ.calls a0 t392 _ A3.out).mono ?_); rintro e w10 ⟨rfl, hb⟩; refine ⟨_, rfl, ?_⟩; have n0_ := (ns_ hb); clear HB; have HB := n0_; clear n0_; (try clear hb); (try clear hb2)) | ((with_reducible refine zaK (f := 132) rfl ?_); refine zbQ (some 14) rfl rfl Tryd.func132 (by kernel_rfl) rfl #[.int .i64 a0] rfl (by (try simp only [List.map_toArray, List.map_cons, List.map_nil]); first | done | rfl | (simp only [List.length_drop, List.length_take]; rfl)) ?_; (with_reducible refine (zcQ.calls a0 t393 _ A4.out).mono ?_); rintro e w11 ⟨rfl, hb⟩; refine ⟨_, rfl, ?_⟩; have n0_ := (ns_ hb); clear HB; have HB := n0_; clear n0_; (try clear hb); (try clear hb2)) | ((with_reducible refine zaK (f := 192) rfl ?_); refine zbQ (some 16) rfl rfl Tryd.func192 (by kernel_rfl) rfl #[.int .u64 (IntKind.u64.wrap (t392)), .int .u64 (IntKind.u64.wrap (t393))] rfl (by (try simp only [List.map_toArray, List.map_cons, List.map_nil]); first | done | rfl | (simp only [List.length_drop, List.length_take]; rfl)) ?_; (with_reducible refine (zcR.calls (IntKind.u64.wrap (t392)) (IntKind.u64.wrap (t393)) t394 t395 _ A5.out).mono ?_); rintro e w' ⟨rfl, ⟨nd, rfl⟩⟩; refine ⟨_, rfl, ?_⟩) | ((with_reducible refine zaK (f := 132) rfl ?_); refine zbQ (some 21) rfl rfl Tryd.func132 (by kernel_rfl) rfl #[.int .i64 a1] rfl (by (try simp only [List.map_toArray, List.map_cons, List.map_nil]); first | done | rfl | (simp only [List.length_drop, List.length_take]; rfl)) ?_; (with_reducible refine (zcQ.calls a1 t396 _ A6.out).mono ?_); rintro e w12 ⟨rfl, hb⟩; refine ⟨_, rfl, ?_⟩; have n0_ := (ns_ hb); clear HB; have HB := n0_; clear n0_; (try clear hb); (try clear hb2)) | ((with_reducible refine zaK (f := 132) rfl ?_); refine zbQ (some 24) rfl rfl Tryd.func132 (by kernel_rfl) rfl #[.int .i64 a1] rfl (by (try simp only [List.map_toArray, List.map_cons, List.map_nil]); first | done | rfl | (simp only [List.length_drop, List.length_take]; rfl)) ?_; (with_reducible refine (zcQ.calls a1 t397 _ A7.out).mono ?_); rintro e w13 ⟨rfl, hb⟩; refine ⟨_, rfl, ?_⟩; have n0_ := (ns_ hb); clear HB; have HB := n0_; clear n0_; (try clear hb); (try clear hb2)) | ((with_reducible refine zaK (f := 192) rfl ?_); refine zbQ (some 26) rfl rfl Tryd.func192 (by kernel_rfl) rfl #[.int .u64 (IntKind.u64.wrap (t396)), .int .u64 (IntKind.u64.wrap (t397))] rfl (by (try simp only [List.map_toArray, List.map_cons, List.map_nil]); first | done | rfl | (simp only [List.length_drop, List.length_take]; rfl)) ?_; (with_reducible refine (zcR.calls (IntKind.u64.wrap (t396)) (IntKind.u64.wrap (t397)) t398 t399 _ A8.out).mono ?_); rintro e w' ⟨rfl, ⟨nd, rfl⟩⟩; refine ⟨_, rfl, ?_⟩))
  go_ret
  exact ⟨by first | rfl | (simp [zaI, zaH] <;> rfl) | (simp [*, zaI, zaH] <;> rfl), bb_⟩
 ·rw [if_neg c9] at H
  have c9b0 : decide ((Go.bits .or .u64 (IntKind.u64.wrap (t398 * 2)) (t399 / 9223372036854775808)) < t394) = false := decide_eq_false c9
  clear c9
  by_cases c14 : t394 = (Go.bits .or .u64 (IntKind.u64.wrap (t398 * 2)) (t399 / 9223372036854775808))
  ·rw [if_pos c14] at H
   have c14b0 : (t394 == (Go.bits .or .u64 (IntKind.u64.wrap (t398 * 2)) (t399 / 9223372036854775808))) = true := beq_iff_eq.mpr c14
   have c14b1 : (t394 != (Go.bits .or .u64 (IntKind.u64.wrap (t398 * 2)) (t399 / 9223372036854775808))) = false := bne_eq_false_iff_eq.mpr c14
   clear c14
   obtain rfl := Option.some.inj H
   go_enter Tryd.func171, Tryd.ntmps171
   go_wp2_with (first | ((with_reducible refine zaK (f := 132) rfl ?_); refine zbQ (some 11) rfl rfl Tryd.func132 (by kernel_rfl) rfl #[.int .i64 a0] rfl (by (try simp only [List.map_toArray, List.map_cons, List.map_nil]); first | done | rfl | (simp only [List.length_drop, List.length_take]; rfl)) ?_; (with_reducible refine (zcQ.calls a0 t392 _ A3.out).mono ?_); rintro e w15 ⟨rfl, hb⟩; refine ⟨_, rfl, ?_⟩; have n0_ := (ns_ hb); clear HB; have HB := n0_; clear n0_; (try clear hb); (try clear hb2)) | ((with_reducible refine zaK (f := 132) rfl ?_); refine zbQ (some 14) rfl rfl Tryd.func132 (by kernel_rfl) rfl #[.int .i64 a0] rfl (by (try simp only [List.map_toArray, List.map_cons, List.map_nil]); first | done | rfl | (simp only [List.length_drop, List.length_take]; rfl)) ?_; (with_reducible refine (zcQ.calls a0 t393 _ A4.out).mono ?_); rintro e w16 ⟨rfl, hb⟩; refine ⟨_, rfl, ?_⟩; have n0_ := (ns_ hb); clear HB; have HB := n0_; clear n0_; (try clear hb); (try clear hb2)) | ((with_reducible refine zaK (f := 192) rfl ?_); refine zbQ (some 16) rfl rfl Tryd.func192 (by kernel_rfl) rfl #[.int .u64 (IntKind.u64.wrap (t392)), .int .u64 (IntKind.u64.wrap (t393))] rfl (by (try simp only [List.map_toArray, List.map_cons, List.map_nil]); first | done | rfl | (simp only [List.length_drop, List.length_take]; rfl)) ?_; (with_reducible refine (zcR.calls (IntKind.u64.wrap (t392)) (IntKind.u64.wrap (t393)) t394 t395 _ A5.out).mono ?_); rintro e w' ⟨rfl, ⟨nd, rfl⟩⟩; refine ⟨_, rfl, ?_⟩) | ((with_reducible refine zaK (f := 132) rfl ?_); refine zbQ (some 21) rfl rfl Tryd.func132 (by kernel_rfl) rfl #[.int .i64 a1] rfl (by (try simp only [List.map_toArray, List.map_cons, List.map_nil]); first | done | rfl | (simp only [List.length_drop, List.length_take]; rfl)) ?_; (with_reducible refine (zcQ.calls a1 t396 _ A6.out).mono ?_); rintro e w17 ⟨rfl, hb⟩; refine ⟨_, rfl, ?_⟩; have n0_ := (ns_ hb); clear HB; have HB := n0_; clear n0_; (try clear hb); (try clear hb2)) | ((with_reducible refine zaK (f := 132) rfl ?_); refine zbQ (some 24) rfl rfl Tryd.func132 (by kernel_rfl) rfl #[.int .i64 a1] rfl (by (try simp only [List.map_toArray, List.map_cons, List.map_nil]); first | done | rfl | (simp only [List.length_drop, List.length_take]; rfl)) ?_; (with_reducible refine (zcQ.calls a1 t397 _ A7.out).mono ?_); rintro e w18 ⟨rfl, hb⟩; refine ⟨_, rfl, ?_⟩; have n0_ := (ns_ hb); clear HB; have HB := n0_; clear n0_; (try clear hb); (try clear hb2)) | ((with_reducible refine zaK (f := 192) rfl ?_); refine zbQ (some 26) rfl rfl Tryd.func192 (by kernel_rfl) rfl #[.int .u64 (IntKind.u64.wrap (t396)), .int .u64 (IntKind.u64.wrap (t397))] rfl (by (try simp only [List.map_toArray, List.map_cons, List.map_nil]); first | done | rfl | (simp only [List.length_drop, List.length_take]; rfl)) ?_; (with_reducible refine (zcR.calls (IntKind.u64.wrap (t396)) (IntKind.u64.wrap (t397)) t398 t399 _ A8.out).mono ?_); rintro e w' ⟨rfl, ⟨nd, rfl⟩⟩; refine ⟨_, rfl, ?_⟩))
   go_ret
   exact ⟨by first | rfl | (simp [zaI, zaH] <;> rfl) | (simp [*, zaI, zaH] <;> rfl), bb_⟩
  ·rw [if_neg c14] at H
   have c14b0 : (t394 == (Go.bits .or .u64 (IntKind.u64.wrap (t398 * 2)) (t399 / 9223372036854775808))) = false := beq_eq_false_iff_ne.mpr c14
   have c14b1 : (t394 != (Go.bits .or .u64 (IntKind.u64.wrap (t398 * 2)) (t399 / 9223372036854775808))) = true := bne_iff_ne.mpr c14
   obtain rfl := Option.some.inj H
   go_enter Tryd.func171, Tryd.ntmps171
   go_wp2_with (first | ((with_reducible refine zaK (f := 132) rfl ?_); refine zbQ (some 11) rfl rfl Tryd.func132 (by kernel_rfl) rfl #[.int .i64 a0] rfl (by (try simp only [List.map_toArray, List.map_cons, List.map_nil]); first | done | rfl | (simp only [List.length_drop, List.length_take]; rfl)) ?_; (with_reducible refine (zcQ.calls a0 t392 _ A3.out).mono ?_); rintro e w19 ⟨rfl, hb⟩; refine ⟨_, rfl, ?_⟩; have n0_ := (ns_ hb); clear HB; have HB := n0_; clear n0_; (try clear hb); (try clear hb2)) | ((with_reducible refine zaK (f := 132) rfl ?_); refine zbQ (some 14) rfl rfl Tryd.func132 (by kernel_rfl) rfl #[.int .i64 a0] rfl (by (try simp only [List.map_toArray, List.map_cons, List.map_nil]); first | done | rfl | (simp only [List.length_drop, List.length_take]; rfl)) ?_; (with_reducible refine (zcQ.calls a0 t393 _ A4.out).mono ?_); rintro e w20 ⟨rfl, hb⟩; refine ⟨_, rfl, ?_⟩; have n0_ := (ns_ hb); clear HB; have HB := n0_; clear n0_; (try clear hb); (try clear hb2)) | ((with_reducible refine zaK (f := 192) rfl ?_); refine zbQ (some 16) rfl rfl Tryd.func192 (by kernel_rfl) rfl #[.int .u64 (IntKind.u64.wrap (t392)), .int .u64 (IntKind.u64.wrap (t393))] rfl (by (try simp only [List.map_toArray, List.map_cons, List.map_nil]); first | done | rfl | (simp only [List.length_drop, List.length_take]; rfl)) ?_; (with_reducible refine (zcR.calls (IntKind.u64.wrap (t392)) (IntKind.u64.wrap (t393)) t394 t395 _ A5.out).mono ?_); rintro e w' ⟨rfl, ⟨nd, rfl⟩⟩; refine ⟨_, rfl, ?_⟩) | ((with_reducible refine zaK (f := 132) rfl ?_); refine zbQ (some 21) rfl rfl Tryd.func132 (by kernel_rfl) rfl #[.int .i64 a1] rfl (by (try simp only [List.map_toArray, List.map_cons, List.map_nil]); first | done | rfl | (simp only [List.length_drop, List.length_take]; rfl)) ?_; (with_reducible refine (zcQ.calls a1 t396 _ A6.out).mono ?_); rintro e w21 ⟨rfl, hb⟩; refine ⟨_, rfl, ?_⟩; have n0_ := (ns_ hb); clear HB; have HB := n0_; clear n0_; (try clear hb); (try clear hb2)) | ((with_reducible refine zaK (f := 132) rfl ?_); refine zbQ (some 24) rfl rfl Tryd.func132 (by kernel_rfl) rfl #[.int .i64 a1] rfl (by (try simp only [List.map_toArray, List.map_cons, List.map_nil]); first | done | rfl | (simp only [List.length_drop, List.length_take]; rfl)) ?_; (with_reducible refine (zcQ.calls a1 t397 _ A7.out).mono ?_); rintro e w22 ⟨rfl, hb⟩; refine ⟨_, rfl, ?_⟩; have n0_ := (ns_ hb); clear HB; have HB := n0_; clear n0_; (try clear hb); (try clear hb2)) | ((with_reducible refine zaK (f := 192) rfl ?_); refine zbQ (some 26) rfl rfl Tryd.func192 (by kernel_rfl) rfl #[.int .u64 (IntKind.u64.wrap (t396)), .int .u64 (IntKind.u64.wrap (t397))] rfl (by (try simp only [List.map_toArray, List.map_cons, List.map_nil]); first | done | rfl | (simp only [List.length_drop, List.length_take]; rfl)) ?_; (with_reducible refine (zcR.calls (IntKind.u64.wrap (t396)) (IntKind.u64.wrap (t397)) t398 t399 _ A8.out).mono ?_); rintro e w' ⟨rfl, ⟨nd, rfl⟩⟩; refine ⟨_, rfl, ?_⟩))
   go_ret
   exact ⟨by first | rfl | (simp [zaI, zaH] <;> rfl) | (simp [*, zaI, zaH] <;> rfl), bb_⟩

def zaU.j0 : Nat → Int → Int → Bool → Int → Int → Int → Option (Int)
 | 0, _, _, _, _, _, _ => none
 | k + 1, x3, x4, x12, x401000, x401001, x401002 => if x12 = true then (some x3) else (if x3 = 0 then (some x4) else ((zdP.f x401000 x401001).bind fun t403 => (if t403 = true then (some x3) else (some x4))))
def zaU.f (k : Nat) (a0_0 : Int) (a0_1 : Int) (a0_2 : Int) : Option (Int) := (zdS.f a0_0).bind fun t401 => ((zdS.f a0_1).bind fun t402 => (if t401 = t402 then (zaU.j0 k t401 t402 true a0_0 a0_1 a0_2) else (zaU.j0 k t401 t402 (t402 == 0) a0_0 a0_1 a0_2)))
theorem zaU.mono_l : ∀ k, (∀ y0 y1 y2 y3 y4 y5, LeO (zaU.j0 k y0 y1 y2 y3 y4 y5) (zaU.j0 (k + 1) y0 y1 y2 y3 y4 y5))
 | 0 => fun _ _ _ _ _ _ r h => by simp [zaU.j0] at h
 | k + 1 => by
  have ih0 := zaU.mono_l k
  ·intro y0 y1 y2 y3 y4 y5
   unfold zaU.j0
   repeat' first
   | (with_reducible exact ih0 _ _ _ _ _ _)
   | (with_reducible exact LeO.refl _)
   | (with_reducible exact LeO.none _)
   | (with_reducible refine LeO.ite ?_ ?_)
   | (with_reducible refine LeO.bind ?_ (fun _ => ?_))
   | exact ih0 _ _ _ _ _ _
   | exact LeO.none _
   | refine LeO.ite ?_ ?_
   | refine LeO.bind ?_ (fun _ => ?_)
theorem zaU.mono : ∀ a0 a1 a2 k, LeO (zaU.f k a0 a1 a2) (zaU.f (k + 1) a0 a1 a2) := by
 intro a0 a1 a2 k
 have ih0 := zaU.mono_l k
 unfold zaU.f
 repeat' first
   | (with_reducible exact ih0 _ _ _ _ _ _)
   | (with_reducible exact LeO.refl _)
   | (with_reducible exact LeO.none _)
   | (with_reducible refine LeO.ite ?_ ?_)
   | (with_reducible refine LeO.bind ?_ (fun _ => ?_))
   | exact ih0 _ _ _ _ _ _
   | exact LeO.none _
   | refine LeO.ite ?_ ?_
   | refine LeO.bind ?_ (fun _ => ?_)
def zaU.T1 : Bool × List (List Nat × List Nat) := (true, [([], []), ([0], [0]), ([1], [1]), ([], []), ([3], [3]), ([4, 2], [4]), ([2, 5, 0, 1, 2], [2]), ([5, 6, 0, 1, 2, 3, 4, 5, 6], [5])])
def zaU.B1 : List Nat := [0, 1, 3, 0, 8, 31, 63, 127]
theorem zaU.tab1 : rtab .any (opsOf Tryd.f142 1) = zaU.T1 := by kernel_rfl
theorem zaU.bits1 : zdW zaU.T1.2 zaU.B1 = true := by kernel_rfl
set_option maxHeartbeats 8000000 in
set_option maxRecDepth 100000 in
theorem zaU.calls (k : Nat) (a0_0 : Int) (a0_1 : Int) (a0_2 : Int) (r : Int) (w : World) (h : zaU.f k a0_0 a0_1 a0_2 = some r) :
  Calls Tryd.prog 142 #[.agg #[.int .i64 a0_0, .int .i64 a0_1, .int .i64 a0_2]] w fun e w' => e = .returned (.int .i64 r) ∧ Below w.heap.size w w' := by
 have hu34 := Tryd.underlying34
 have HB := zaJ (Below.refl w.heap.size w)
 have H : ((zdS.f a0_0).bind fun t401 => ((zdS.f a0_1).bind fun t402 => (if t401 = t402 then (zaU.j0 k t401 t402 true a0_0 a0_1 a0_2) else (zaU.j0 k t401 t402 (t402 == 0) a0_0 a0_1 a0_2)))) = some r := h
 clear h
 replace H := Option.bind_eq_some_iff.mp H
 obtain ⟨t401, A20, H⟩ := H
 replace H : ((zdS.f a0_1).bind fun t402 => (if t401 = t402 then (zaU.j0 k t401 t402 true a0_0 a0_1 a0_2) else (zaU.j0 k t401 t402 (t402 == 0) a0_0 a0_1 a0_2))) = some r := H
 have A2 := zaJ A20
 clear A20
 replace H := Option.bind_eq_some_iff.mp H
 obtain ⟨t402, A30, H⟩ := H
 replace H : (if t401 = t402 then (zaU.j0 k t401 t402 true a0_0 a0_1 a0_2) else (zaU.j0 k t401 t402 (t402 == 0) a0_0 a0_1 a0_2)) = some r := H
 have A3 := zaJ A30
 clear A30
 have HC4 := zaJ H
 clear H
 go_enter Tryd.func142, Tryd.ntmps142
 try go_wp2_with (first | ((with_reducible refine zaQ (N := 1) rfl ?_); refine bx_ 1 #[.int .i64 a0_0, .int .i64 a0_1, .int .i64 a0_2] 34 ?_; intro gb400 hg w5 hbox hb; have n0_ := (ns_ hb); have n1_ := zaJ (hbox); have n2_ := (ng_ hg); have n3_ := n2_; clear HB; have HB := n0_; have BK400 := n1_; have GW400 := n2_; have GE400 := n3_; clear n0_ n1_ n2_ n3_; clear hb hbox hg))
 have n0_ := zaJ (zaE BK400.out)
 have n1_ := zaJ (zbT HB.out)
 clear BK400
 clear HB
 have BK400 := n0_
 have HB := n1_
 clear n0_ n1_
 refine zdL (n := 8) (S := fun w' => w'.cell? ⟨gb400, 0, none⟩ = some (.int .i64 a0_0) ∧ w'.cell? ⟨gb400, 1, none⟩ = some (.int .i64 a0_1) ∧ w'.cell? ⟨gb400, 2, none⟩ = some (.int .i64 a0_2)) (ds := []) #[false, false, false, false, false, false, false, false] (by kernel_rfl) rfl rfl ⟨(zaB BK400.out 0).trans rfl, (zaB BK400.out 1).trans rfl, (zaB BK400.out 2).trans rfl⟩ (fun hHeld => ?_); refine zcN zaU.tab1 zaU.bits1 (fun HT_ HW_ => ?_)
 generalize w5.drew = w6 at BK400 HB hHeld ⊢
 refine pu_ 0 (some 5) (bl_ 8 1) ?_
 refine pu_ 3 (some 8) (bl_ 8 9) ?_
 refine tk3_ 1 (some 6) (bl_ 8 11) hHeld ?_
 refine tk3_ 4 (some 9) (bl_ 8 27) hHeld ?_
 refine zeK (i := 2) (N := some 7) (bl_ 8 31) rfl rfl (zcK HT_.out (by kernel_rfl)) (by decide) (fun K hK => ?_)
 refine zcY Tryd.func170 (by kernel_rfl) rfl #[.int .i64 a0_0] (by rfl) rfl rfl (by (try simp only [List.map_toArray, List.map_cons, List.map_nil]); first | done | rfl | (simp only [List.length_drop, List.length_take]; rfl)) ?_
 with_reducible refine (zdS.calls a0_0 t401 _ A2.out).mono ?_
 rintro e w7 ⟨rfl, hb⟩
 refine ⟨_, rfl, ?_⟩
 have n0_ := zaJ (zaG (g := gb400) (o := .cells #[.int .i64 a0_0, .int .i64 a0_1, .int .i64 a0_2] 34 (0, 0)) bk_ hb)
 have n1_ := (ns_ hb)
 clear BK400
 clear HB
 have BK400 := n0_
 have HB := n1_
 clear n0_ n1_
 (try clear hb)
 (try clear hb2)
 (try clear hk)
 (try clear hi)
 refine hK.out _ _ ⟨(zaB BK400.out 0).trans rfl, (zaB BK400.out 1).trans rfl, (zaB BK400.out 2).trans rfl⟩ (fun hHeld => ?_)
 clear hK K
 refine zcX (a' := ?_) ?_ ?_
 rotate_left
 ·show Act.put _ (some 7) _ = _
  simp only [Act.put, List.setIfInBounds_toArray, List.set_cons_zero, List.set_cons_succ, zbW, zbY]
  rfl
 refine zeK (i := 5) (N := some 10) (bl_ 8 63) rfl rfl (zcK HT_.out (by kernel_rfl)) (by decide) (fun K hK => ?_)
 refine zcY Tryd.func170 (by kernel_rfl) rfl #[.int .i64 a0_1] (by rfl) rfl rfl (by (try simp only [List.map_toArray, List.map_cons, List.map_nil]); first | done | rfl | (simp only [List.length_drop, List.length_take]; rfl)) ?_
 with_reducible refine (zdS.calls a0_1 t402 _ A3.out).mono ?_
 rintro e w8 ⟨rfl, hb⟩
 refine ⟨_, rfl, ?_⟩
 have n0_ := zaJ (zaG (g := gb400) (o := .cells #[.int .i64 a0_0, .int .i64 a0_1, .int .i64 a0_2] 34 (0, 0)) bk_ hb)
 have n1_ := (ns_ hb)
 clear BK400
 clear HB
 have BK400 := n0_
 have HB := n1_
 clear n0_ n1_
 (try clear hb)
 (try clear hb2)
 (try clear hk)
 (try clear hi)
 refine hK.out _ _ ⟨(zaB BK400.out 0).trans rfl, (zaB BK400.out 1).trans rfl, (zaB BK400.out 2).trans rfl⟩ (fun hHeld => ?_)
 clear hK K
 refine zcX (a' := ?_) ?_ ?_
 rotate_left
 ·show Act.put _ (some 10) _ = _
  simp only [Act.put, List.setIfInBounds_toArray, List.set_cons_zero, List.set_cons_succ, zbW, zbY]
  rfl
 refine pu_ 6 (some 3) (bl_ 8 127) ?_
 refine pu_ 7 (some 4) (bl_ 8 255) ?_
 refine zeS (zdD HT_.out (by kernel_rfl)) ?_
 go_upto_region 3 with (fail)
 go_cut [12] (fun v12 wc => ∃ (kq : Nat) (x12_3 : Bool), v12 = .bool x12_3 ∧ Aside0 (zaU.j0 kq t401 t402 x12_3 a0_0 a0_1 a0_2 = some r) ∧ Aside0 (kq ≤ k) ∧ Aside0 (wc.heap[gb400]? = some (.cells #[.int .i64 a0_0, .int .i64 a0_1, .int .i64 a0_2] 34 (0, 0))) ∧ Aside0 (Below w.heap.size w wc))
 case first =>
  have H := HC4.out
  clear HC4
  by_cases c9 : t401 = t402
  ·rw [if_pos c9] at H
   have c9b0 : (t401 == t402) = true := beq_iff_eq.mpr c9
   have c9b1 : (t401 != t402) = false := bne_eq_false_iff_eq.mpr c9
   clear c9
   (first | rw [c9b0] | (simp only [zbW, zbY]; rw [c9b0]) | skip)
   have H' := zaJ H
   clear H
   go_wp2
   go_meet
   case rel => exact ⟨_, (true), (by first | rfl | (simp; done) | (simp [*]; done)), H', ⟨by first | omega | exact Nat.le_refl _⟩, ⟨bk_⟩, ⟨bb_⟩⟩
  ·rw [if_neg c9] at H
   have c9b0 : (t401 == t402) = false := beq_eq_false_iff_ne.mpr c9
   have c9b1 : (t401 != t402) = true := bne_iff_ne.mpr c9
   (first | rw [c9b0] | (simp only [zbW, zbY]; rw [c9b0]) | skip)
   have H' := zaJ H
   clear H
   go_wp2
   go_meet
   case rel => exact ⟨_, ((t402 == 0)), (by first | rfl | (simp; done) | (simp [*]; done)), H', ⟨by first | omega | exact Nat.le_refl _⟩, ⟨bk_⟩, ⟨bb_⟩⟩
 case rest =>
  clear HC4
  try clear c1
  try clear p2
  try clear c9
  try clear c9b0
  try clear c9b1
  obtain ⟨kq, x12_3, rfl, HA, HJ3, BK400, HB⟩ := hcut
  cases kq with
  | zero => exact absurd HA.out (by simp [zaU.j0])
  | succ kj3 =>
   have H := HA.out
   clear HA
   simp only [zaU.j0] at H
   by_cases c10 : x12_3 = true
   ·subst c10
    have H1 : (some t401) = some r := by rw [if_pos rfl] at H; exact H
    clear H
    have H := H1
    clear H1
    obtain rfl := Option.some.inj H
    go_wp2
    go_ret
    exact ⟨by first | rfl | (simp [zaI, zaH] <;> rfl) | (simp [*, zaI, zaH] <;> rfl), bb_⟩
   ·replace c10 := Bool.eq_false_iff.mpr c10
    subst c10
    have H1 : (if t401 = 0 then (some t402) else ((zdP.f a0_0 a0_1).bind fun t403 => (if t403 = true then (some t401) else (some t402)))) = some r := by rw [if_neg (show ¬ (false = true) by decide)] at H; exact H
    clear H
    have H := H1
    clear H1
    by_cases c11 : t401 = 0
    ·rw [if_pos c11] at H
     have c11b0 : (t401 == 0) = true := beq_iff_eq.mpr c11
     have c11b1 : (t401 != 0) = false := bne_eq_false_iff_eq.mpr c11
     clear c11
     obtain rfl := Option.some.inj H
     go_wp2
     go_ret
     exact ⟨by first | rfl | (simp [zaI, zaH] <;> rfl) | (simp [*, zaI, zaH] <;> rfl), bb_⟩
    ·rw [if_neg c11] at H
     have c11b0 : (t401 == 0) = false := beq_eq_false_iff_ne.mpr c11
     have c11b1 : (t401 != 0) = true := bne_iff_ne.mpr c11
     replace H := Option.bind_eq_some_iff.mp H
     obtain ⟨t403, A120, H⟩ := H
     replace H : (if t403 = true then (some t401) else (some t402)) = some r := H
     have A12 := zaJ A120
     clear A120
     by_cases c13 : t403 = true
     ·subst c13
      have H1 : (some t401) = some r := by rw [if_pos rfl] at H; exact H
      clear H
      have H := H1
      clear H1
      obtain rfl := Option.some.inj H
      obtain ⟨hcz14_0, hcz14_1, hcz14_2⟩ := zeI BK400.out
      obtain ⟨hfz14_0, hfz14_1, hfz14_2⟩ := zeH BK400.out
      go_wp2_with (first | (go_at_call 171; (with_reducible refine (zdP.calls a0_0 a0_1 true _ A12.out).mono ?_); rintro e w15 ⟨rfl, hb⟩; have n0_ := zaJ (zaG (g := gb400) (o := .cells #[.int .i64 a0_0, .int .i64 a0_1, .int .i64 a0_2] 34 (0, 0)) bk_ hb); have n1_ := (ns_ hb); clear BK400; clear HB; have BK400 := n0_; have HB := n1_; clear n0_ n1_; (try clear hb); (try clear hb2)))
      go_ret
      exact ⟨by first | rfl | (simp [zaI, zaH] <;> rfl) | (simp [*, zaI, zaH] <;> rfl), bb_⟩
     ·replace c13 := Bool.eq_false_iff.mpr c13
      subst c13
      have H1 : (some t402) = some r := by rw [if_neg (show ¬ (false = true) by decide)] at H; exact H
      clear H
      have H := H1
      clear H1
      obtain rfl := Option.some.inj H
      obtain ⟨hcz16_0, hcz16_1, hcz16_2⟩ := zeI BK400.out
      obtain ⟨hfz16_0, hfz16_1, hfz16_2⟩ := zeH BK400.out
      go_wp2_with (first | (go_at_call 171; (with_reducible refine (zdP.calls a0_0 a0_1 false _ A12.out).mono ?_); rintro e w17 ⟨rfl, hb⟩; have n0_ := zaJ (zaG (g := gb400) (o := .cells #[.int .i64 a0_0, .int .i64 a0_1, .int .i64 a0_2] 34 (0, 0)) bk_ hb); have n1_ := (ns_ hb); clear BK400; clear HB; have BK400 := n0_; have HB := n1_; clear n0_ n1_; (try clear hb); (try clear hb2)))
      go_ret
      exact ⟨by first | rfl | (simp [zaI, zaH] <;> rfl) | (simp [*, zaI, zaH] <;> rfl), bb_⟩

end Go.Proofs.YtmajpmofeddknaaDoor.PFnExactInPolygon
