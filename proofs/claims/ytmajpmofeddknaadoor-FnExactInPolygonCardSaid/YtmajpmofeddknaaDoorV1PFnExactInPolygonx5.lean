-- Printed for this claim by this session's program pp.py, which drives the kit's print with additions. Not trusted: Lean checks it.
import Derived.Test.YtmajpmofeddknaaDoorV1PFnExactInPolygonx0
import Derived.Test.YtmajpmofeddknaaDoorV1PFnExactInPolygonx3
import Derived.Test.YtmajpmofeddknaaDoorV1PFnExactInPolygonx4
namespace Go.Proofs.YtmajpmofeddknaaDoor.PFnExactInPolygon
open Go.RowKit Go.Proofs.YtmajpmofeddknaaDoorW.PrintWords Go.Proofs.YtmajpmofeddknaaDoorW.PrintLast Go.Proofs.YtmajpmofeddknaaDoorW.PrintMore
attribute [local go_sem] zeE zdX zeQ zeO zdK zdI zeA zeC   -- for this text's walks alone
set_option linter.unusedVariables false
set_option linter.unusedSimpArgs false

def zbP.f (k : Nat) (a0 : Int) (a1_0 : Int) (a1_1 : Int) (a1_2 : Int) (a1_3 : Int) (a1_4 : Int) (a1_5 : Int) : Option (Int × Int × Int) := (zeG.f a0).bind fun bt185 => ((zcJ.f bt185.1 bt185.2.1 bt185.2.2.1 bt185.2.2.2.1 bt185.2.2.2.2.1 bt185.2.2.2.2.2).bind fun bt191 => ((zcM.f k bt191.1 bt191.2.1 bt191.2.2.1 a1_0 a1_1 a1_2).bind fun bt198 => ((zcM.f k bt191.2.2.2.1 bt191.2.2.2.2.1 bt191.2.2.2.2.2 a1_3 a1_4 a1_5).bind fun bt201 => ((zbH.f k bt198.1 bt198.2.1 bt198.2.2 bt201.1 bt201.2.1 bt201.2.2).bind fun bt204 => (some (bt204.1, bt204.2.1, bt204.2.2))))))
theorem zbP.mono : ∀ a0 a1 a2 a3 a4 a5 a6 k, LeO (zbP.f k a0 a1 a2 a3 a4 a5 a6) (zbP.f (k + 1) a0 a1 a2 a3 a4 a5 a6) := by
 intro a0 a1 a2 a3 a4 a5 a6 k
 unfold zbP.f
 repeat' first
   | (with_reducible exact zbH.mono _ _ _ _ _ _ _)
   | (with_reducible exact zcM.mono _ _ _ _ _ _ _)
   | (with_reducible exact LeO.refl _)
   | (with_reducible exact LeO.none _)
   | (with_reducible refine LeO.ite ?_ ?_)
   | (with_reducible refine LeO.bind ?_ (fun _ => ?_))
   | exact zbH.mono _ _ _ _ _ _ _
   | exact zcM.mono _ _ _ _ _ _ _
   | exact LeO.none _
   | refine LeO.ite ?_ ?_
   | refine LeO.bind ?_ (fun _ => ?_)
def zbP.T2 : Bool × List (List Nat × List Nat) := (true, [([], []), ([0], [0]), ([], []), ([2], [2]), ([1, 3], [1, 3]), ([], []), ([5], [5]), ([], []), ([7], [7]), ([6, 8, 4], [6, 8]), ([4, 9, 9], [4, 9]), ([10, 10, 0, 1, 2, 3, 4, 5, 6, 7, 8, 9, 10], [10])])
def zbP.B2 : List Nat := [0, 1, 0, 4, 15, 0, 32, 0, 128, 511, 1023, 2047]
theorem zbP.tab2 : rtab .any (opsOf Tryd.f113 2) = zbP.T2 := by kernel_rfl
theorem zbP.bits2 : zdW zbP.T2.2 zbP.B2 = true := by kernel_rfl
set_option maxHeartbeats 8000000 in
set_option maxRecDepth 100000 in
theorem zbP.calls (k : Nat) (a0 : Int) (a1_0 : Int) (a1_1 : Int) (a1_2 : Int) (a1_3 : Int) (a1_4 : Int) (a1_5 : Int) (r1 : Int) (r2 : Int) (r3 : Int) (w : World) (h : zbP.f k a0 a1_0 a1_1 a1_2 a1_3 a1_4 a1_5 = some (r1, r2, r3)) :
  Calls Tryd.prog 113 #[.int .i64 a0, .agg #[.int .i64 a1_0, .int .i64 a1_1, .int .i64 a1_2, .int .i64 a1_3, .int .i64 a1_4, .int .i64 a1_5]] w fun e w' => e = .returned (.agg #[.int .i64 r1, .int .i64 r2, .int .i64 r3]) ∧ Below w.heap.size w w' := by
 have hu94 := Tryd.underlying94
 have hu92 := Tryd.underlying92
 have HB := zaJ (Below.refl w.heap.size w)
 have H : ((zeG.f a0).bind fun bt185 => ((zcJ.f bt185.1 bt185.2.1 bt185.2.2.1 bt185.2.2.2.1 bt185.2.2.2.2.1 bt185.2.2.2.2.2).bind fun bt191 => ((zcM.f k bt191.1 bt191.2.1 bt191.2.2.1 a1_0 a1_1 a1_2).bind fun bt198 => ((zcM.f k bt191.2.2.2.1 bt191.2.2.2.2.1 bt191.2.2.2.2.2 a1_3 a1_4 a1_5).bind fun bt201 => ((zbH.f k bt198.1 bt198.2.1 bt198.2.2 bt201.1 bt201.2.1 bt201.2.2).bind fun bt204 => (some (bt204.1, bt204.2.1, bt204.2.2))))))) = some (r1, r2, r3) := h
 clear h
 replace H := Option.bind_eq_some_iff.mp H
 obtain ⟨⟨t185, t186, t187, t188, t189, t190⟩, A30, H⟩ := H
 replace H : ((zcJ.f t185 t186 t187 t188 t189 t190).bind fun bt191 => ((zcM.f k bt191.1 bt191.2.1 bt191.2.2.1 a1_0 a1_1 a1_2).bind fun bt198 => ((zcM.f k bt191.2.2.2.1 bt191.2.2.2.2.1 bt191.2.2.2.2.2 a1_3 a1_4 a1_5).bind fun bt201 => ((zbH.f k bt198.1 bt198.2.1 bt198.2.2 bt201.1 bt201.2.1 bt201.2.2).bind fun bt204 => (some (bt204.1, bt204.2.1, bt204.2.2)))))) = some (r1, r2, r3) := H
 have A3 := zaJ A30
 clear A30
 replace H := Option.bind_eq_some_iff.mp H
 obtain ⟨⟨t191, t192, t193, t194, t195, t196⟩, A40, H⟩ := H
 replace H : ((zcM.f k t191 t192 t193 a1_0 a1_1 a1_2).bind fun bt198 => ((zcM.f k t194 t195 t196 a1_3 a1_4 a1_5).bind fun bt201 => ((zbH.f k bt198.1 bt198.2.1 bt198.2.2 bt201.1 bt201.2.1 bt201.2.2).bind fun bt204 => (some (bt204.1, bt204.2.1, bt204.2.2))))) = some (r1, r2, r3) := H
 have A4 := zaJ A40
 clear A40
 replace H := Option.bind_eq_some_iff.mp H
 obtain ⟨⟨t198, t199, t200⟩, A50, H⟩ := H
 replace H : ((zcM.f k t194 t195 t196 a1_3 a1_4 a1_5).bind fun bt201 => ((zbH.f k t198 t199 t200 bt201.1 bt201.2.1 bt201.2.2).bind fun bt204 => (some (bt204.1, bt204.2.1, bt204.2.2)))) = some (r1, r2, r3) := H
 have A5 := zaJ A50
 clear A50
 replace H := Option.bind_eq_some_iff.mp H
 obtain ⟨⟨t201, t202, t203⟩, A60, H⟩ := H
 replace H : ((zbH.f k t198 t199 t200 t201 t202 t203).bind fun bt204 => (some (bt204.1, bt204.2.1, bt204.2.2))) = some (r1, r2, r3) := H
 have A6 := zaJ A60
 clear A60
 replace H := Option.bind_eq_some_iff.mp H
 obtain ⟨⟨t204, t205, t206⟩, A70, H⟩ := H
 replace H : (some (t204, t205, t206)) = some (r1, r2, r3) := H
 have A7 := zaJ A70
 clear A70
 simp only [Option.some.injEq, Prod.mk.injEq] at H
 obtain ⟨rfl, rfl, rfl⟩ := H
 go_enter Tryd.func113, Tryd.ntmps113
 try go_wp2_with (first | ((with_reducible refine zaQ (N := 3) rfl ?_); refine bx_ 3 #[.int .i64 a1_0, .int .i64 a1_1, .int .i64 a1_2, .int .i64 a1_3, .int .i64 a1_4, .int .i64 a1_5] 94 ?_; intro gb183 hg w8 hbox hb; have n0_ := (ns_ hb); have n1_ := zaJ (hbox); have n2_ := (ng_ hg); have n3_ := n2_; clear HB; have HB := n0_; have BK183 := n1_; have GW183 := n2_; have GE183 := n3_; clear n0_ n1_ n2_ n3_; clear hb hbox hg) | ((with_reducible refine zaQ (N := 4) rfl ?_); refine bx_ 4 #[.int .i64 0, .int .i64 0, .int .i64 0] 92 ?_; intro gb184 hg w9 hbox hb; have n0_ := zaJ (zaG (g := gb183) (o := .cells #[.int .i64 a1_0, .int .i64 a1_1, .int .i64 a1_2, .int .i64 a1_3, .int .i64 a1_4, .int .i64 a1_5] 94 (0, 0)) bk_ hb); have n1_ := (ns_ hb); have n2_ := zaJ (hbox); have n3_ := (ng_ hg); have n4_ := n3_; have n5_ := zaJ ((by rw [hg]; exact Nat.ne_of_lt (zbC (g := gb183) (o := .cells #[.int .i64 a1_0, .int .i64 a1_1, .int .i64 a1_2, .int .i64 a1_3, .int .i64 a1_4, .int .i64 a1_5] 94 (0, 0)) bk_) : gb183 ≠ gb184)); have n6_ := zaJ ((by rw [hg]; exact Nat.ne_of_gt (zbC (g := gb183) (o := .cells #[.int .i64 a1_0, .int .i64 a1_1, .int .i64 a1_2, .int .i64 a1_3, .int .i64 a1_4, .int .i64 a1_5] 94 (0, 0)) bk_) : gb184 ≠ gb183)); clear BK183; clear HB; have BK183 := n0_; have HB := n1_; have BK184 := n2_; have GW184 := n3_; have GE184 := n4_; have NB183_184 := n5_; have NB184_183 := n6_; clear n0_ n1_ n2_ n3_ n4_ n5_ n6_; clear hb hbox hg) | ((with_reducible refine zaK (f := 147) rfl ?_); refine zbQ (some 7) rfl rfl Tryd.func147 (by kernel_rfl) rfl #[.int .i64 a0] rfl (by (try simp only [List.map_toArray, List.map_cons, List.map_nil]); first | done | rfl | (simp only [List.length_drop, List.length_take]; rfl)) ?_; (with_reducible refine (zeG.calls a0 t185 t186 t187 t188 t189 t190 _ A3.out).mono ?_); rintro e w10 ⟨rfl, hb⟩; refine ⟨_, rfl, ?_⟩; have n0_ := zaJ (zaG (g := gb183) (o := .cells #[.int .i64 a1_0, .int .i64 a1_1, .int .i64 a1_2, .int .i64 a1_3, .int .i64 a1_4, .int .i64 a1_5] 94 (0, 0)) bk_ hb); have n1_ := zaJ (zaG (g := gb184) (o := .cells #[.int .i64 0, .int .i64 0, .int .i64 0] 92 (0, 0)) bk_ hb); have n2_ := (ns_ hb); clear BK183; clear BK184; clear HB; have BK183 := n0_; have BK184 := n1_; have HB := n2_; clear n0_ n1_ n2_; (try clear hb); (try clear hb2)) | ((with_reducible refine zaK (f := 63) rfl ?_); refine zbQ (some 8) rfl rfl Tryd.func63 (by kernel_rfl) rfl #[.agg #[.int .i64 t185, .int .i64 t186, .int .i64 t187, .int .i64 t188, .int .i64 t189, .int .i64 t190]] rfl (by (try simp only [List.map_toArray, List.map_cons, List.map_nil]); first | done | rfl | (simp only [List.length_drop, List.length_take]; rfl)) ?_; (with_reducible refine (zcJ.calls t185 t186 t187 t188 t189 t190 t191 t192 t193 t194 t195 t196 _ A4.out).mono ?_); rintro e w11 ⟨rfl, hb⟩; refine ⟨_, rfl, ?_⟩; have n0_ := zaJ (zaG (g := gb183) (o := .cells #[.int .i64 a1_0, .int .i64 a1_1, .int .i64 a1_2, .int .i64 a1_3, .int .i64 a1_4, .int .i64 a1_5] 94 (0, 0)) bk_ hb); have n1_ := zaJ (zaG (g := gb184) (o := .cells #[.int .i64 0, .int .i64 0, .int .i64 0] 92 (0, 0)) bk_ hb); have n2_ := (ns_ hb); clear BK183; clear BK184; clear HB; have BK183 := n0_; have BK184 := n1_; have HB := n2_; clear n0_ n1_ n2_; (try clear hb); (try clear hb2)) | ((with_reducible refine zaQ (N := 5) rfl ?_); refine bx_ 5 #[.int .i64 0, .int .i64 0, .int .i64 0, .int .i64 0, .int .i64 0, .int .i64 0] 94 ?_; intro gb197 hg w12 hbox hb; have n0_ := zaJ (zaG (g := gb183) (o := .cells #[.int .i64 a1_0, .int .i64 a1_1, .int .i64 a1_2, .int .i64 a1_3, .int .i64 a1_4, .int .i64 a1_5] 94 (0, 0)) bk_ hb); have n1_ := zaJ (zaG (g := gb184) (o := .cells #[.int .i64 0, .int .i64 0, .int .i64 0] 92 (0, 0)) bk_ hb); have n2_ := (ns_ hb); have n3_ := zaJ (hbox); have n4_ := (ng_ hg); have n5_ := n4_; have n6_ := zaJ ((by rw [hg]; exact Nat.ne_of_lt (zbC (g := gb183) (o := .cells #[.int .i64 a1_0, .int .i64 a1_1, .int .i64 a1_2, .int .i64 a1_3, .int .i64 a1_4, .int .i64 a1_5] 94 (0, 0)) bk_) : gb183 ≠ gb197)); have n7_ := zaJ ((by rw [hg]; exact Nat.ne_of_gt (zbC (g := gb183) (o := .cells #[.int .i64 a1_0, .int .i64 a1_1, .int .i64 a1_2, .int .i64 a1_3, .int .i64 a1_4, .int .i64 a1_5] 94 (0, 0)) bk_) : gb197 ≠ gb183)); have n8_ := zaJ ((by rw [hg]; exact Nat.ne_of_lt (zbC (g := gb184) (o := .cells #[.int .i64 0, .int .i64 0, .int .i64 0] 92 (0, 0)) bk_) : gb184 ≠ gb197)); have n9_ := zaJ ((by rw [hg]; exact Nat.ne_of_gt (zbC (g := gb184) (o := .cells #[.int .i64 0, .int .i64 0, .int .i64 0] 92 (0, 0)) bk_) : gb197 ≠ gb184)); clear BK183; clear BK184; clear HB; have BK183 := n0_; have BK184 := n1_; have HB := n2_; have BK197 := n3_; have GW197 := n4_; have GE197 := n5_; have NB183_197 := n6_; have NB197_183 := n7_; have NB184_197 := n8_; have NB197_184 := n9_; clear n0_ n1_ n2_ n3_ n4_ n5_ n6_ n7_ n8_ n9_; clear hb hbox hg; have hnb13 := NB197_183.out; have hnc13 := NB183_197.out; have hnb14 := NB197_184.out; have hnc14 := NB184_197.out; obtain ⟨hcz15_0, hcz15_1, hcz15_2, hcz15_3, hcz15_4, hcz15_5⟩ := zeX BK197.out; obtain ⟨hfz15_0, hfz15_1, hfz15_2, hfz15_3, hfz15_4, hfz15_5⟩ := zeW BK197.out))
 have n0_ : Aside0 (((((((w12.setCell ⟨gb197, 0, none⟩ (.int .i64 t191)).setCell ⟨gb197, 1, none⟩ (.int .i64 t192)).setCell ⟨gb197, 2, none⟩ (.int .i64 t193)).setCell ⟨gb197, 3, none⟩ (.int .i64 t194)).setCell ⟨gb197, 4, none⟩ (.int .i64 t195)).setCell ⟨gb197, 5, none⟩ (.int .i64 t196)).heap[gb183]? = some (.cells #[.int .i64 a1_0, .int .i64 a1_1, .int .i64 a1_2, .int .i64 a1_3, .int .i64 a1_4, .int .i64 a1_5] 94 (0, 0))) := ⟨by (with_reducible repeat (first | apply zaD | apply zaE | apply zaC)); refine zbA ?_ NB183_197.out _; (with_reducible repeat (first | apply zaD | apply zaE | apply zaC)); refine zbA ?_ NB183_197.out _; (with_reducible repeat (first | apply zaD | apply zaE | apply zaC)); refine zbA ?_ NB183_197.out _; (with_reducible repeat (first | apply zaD | apply zaE | apply zaC)); refine zbA ?_ NB183_197.out _; (with_reducible repeat (first | apply zaD | apply zaE | apply zaC)); refine zbA ?_ NB183_197.out _; (with_reducible repeat (first | apply zaD | apply zaE | apply zaC)); refine zbA ?_ NB183_197.out _; (with_reducible repeat (first | apply zaD | apply zaE | apply zaC)); exact BK183.out⟩
 have n1_ : Aside0 (((((((w12.setCell ⟨gb197, 0, none⟩ (.int .i64 t191)).setCell ⟨gb197, 1, none⟩ (.int .i64 t192)).setCell ⟨gb197, 2, none⟩ (.int .i64 t193)).setCell ⟨gb197, 3, none⟩ (.int .i64 t194)).setCell ⟨gb197, 4, none⟩ (.int .i64 t195)).setCell ⟨gb197, 5, none⟩ (.int .i64 t196)).heap[gb184]? = some (.cells #[.int .i64 0, .int .i64 0, .int .i64 0] 92 (0, 0))) := ⟨by (with_reducible repeat (first | apply zaD | apply zaE | apply zaC)); refine zbA ?_ NB184_197.out _; (with_reducible repeat (first | apply zaD | apply zaE | apply zaC)); refine zbA ?_ NB184_197.out _; (with_reducible repeat (first | apply zaD | apply zaE | apply zaC)); refine zbA ?_ NB184_197.out _; (with_reducible repeat (first | apply zaD | apply zaE | apply zaC)); refine zbA ?_ NB184_197.out _; (with_reducible repeat (first | apply zaD | apply zaE | apply zaC)); refine zbA ?_ NB184_197.out _; (with_reducible repeat (first | apply zaD | apply zaE | apply zaC)); refine zbA ?_ NB184_197.out _; (with_reducible repeat (first | apply zaD | apply zaE | apply zaC)); exact BK184.out⟩
 have n2_ : Aside0 (((((((w12.setCell ⟨gb197, 0, none⟩ (.int .i64 t191)).setCell ⟨gb197, 1, none⟩ (.int .i64 t192)).setCell ⟨gb197, 2, none⟩ (.int .i64 t193)).setCell ⟨gb197, 3, none⟩ (.int .i64 t194)).setCell ⟨gb197, 4, none⟩ (.int .i64 t195)).setCell ⟨gb197, 5, none⟩ (.int .i64 t196)).heap[gb197]? = some (.cells #[.int .i64 t191, .int .i64 t192, .int .i64 t193, .int .i64 t194, .int .i64 t195, .int .i64 t196] 94 (0, 0))) := ⟨by (with_reducible repeat (first | apply zaD | apply zaE | apply zaC)); refine zaL (cs := #[.int .i64 t191, .int .i64 t192, .int .i64 t193, .int .i64 t194, .int .i64 t195, .int .i64 0]) ?_ 5 _ rfl; (with_reducible repeat (first | apply zaD | apply zaE | apply zaC)); refine zaL (cs := #[.int .i64 t191, .int .i64 t192, .int .i64 t193, .int .i64 t194, .int .i64 0, .int .i64 0]) ?_ 4 _ rfl; (with_reducible repeat (first | apply zaD | apply zaE | apply zaC)); refine zaL (cs := #[.int .i64 t191, .int .i64 t192, .int .i64 t193, .int .i64 0, .int .i64 0, .int .i64 0]) ?_ 3 _ rfl; (with_reducible repeat (first | apply zaD | apply zaE | apply zaC)); refine zaL (cs := #[.int .i64 t191, .int .i64 t192, .int .i64 0, .int .i64 0, .int .i64 0, .int .i64 0]) ?_ 2 _ rfl; (with_reducible repeat (first | apply zaD | apply zaE | apply zaC)); refine zaL (cs := #[.int .i64 t191, .int .i64 0, .int .i64 0, .int .i64 0, .int .i64 0, .int .i64 0]) ?_ 1 _ rfl; (with_reducible repeat (first | apply zaD | apply zaE | apply zaC)); refine zaL (cs := #[.int .i64 0, .int .i64 0, .int .i64 0, .int .i64 0, .int .i64 0, .int .i64 0]) ?_ 0 _ rfl; (with_reducible repeat (first | apply zaD | apply zaE | apply zaC)); exact BK197.out⟩
 have n3_ : Aside0 (Below w.heap.size w ((((((w12.setCell ⟨gb197, 0, none⟩ (.int .i64 t191)).setCell ⟨gb197, 1, none⟩ (.int .i64 t192)).setCell ⟨gb197, 2, none⟩ (.int .i64 t193)).setCell ⟨gb197, 3, none⟩ (.int .i64 t194)).setCell ⟨gb197, 4, none⟩ (.int .i64 t195)).setCell ⟨gb197, 5, none⟩ (.int .i64 t196))) := ⟨bb_⟩
 (try clear BK183)
 (try clear BK184)
 (try clear BK197)
 (try clear HB)
 generalize ((((((w12.setCell ⟨gb197, 0, none⟩ (.int .i64 t191)).setCell ⟨gb197, 1, none⟩ (.int .i64 t192)).setCell ⟨gb197, 2, none⟩ (.int .i64 t193)).setCell ⟨gb197, 3, none⟩ (.int .i64 t194)).setCell ⟨gb197, 4, none⟩ (.int .i64 t195)).setCell ⟨gb197, 5, none⟩ (.int .i64 t196)) = w16 at n0_ n1_ n2_ n3_ ⊢
 have BK183 := n0_
 have BK184 := n1_
 have BK197 := n2_
 have HB := n3_
 clear n0_ n1_ n2_ n3_
 have n0_ := zaJ (zaE BK183.out)
 have n1_ := zaJ (zaE BK184.out)
 have n2_ := zaJ (zaE BK197.out)
 have n3_ := zaJ (zbT HB.out)
 clear BK183
 clear BK184
 clear BK197
 clear HB
 have BK183 := n0_
 have BK184 := n1_
 have BK197 := n2_
 have HB := n3_
 clear n0_ n1_ n2_ n3_
 refine zdL (n := 12) (S := fun w' => w'.cell? ⟨gb197, 0, none⟩ = some (.int .i64 t191) ∧ w'.cell? ⟨gb197, 1, none⟩ = some (.int .i64 t192) ∧ w'.cell? ⟨gb197, 2, none⟩ = some (.int .i64 t193) ∧ w'.cell? ⟨gb197, 3, none⟩ = some (.int .i64 t194) ∧ w'.cell? ⟨gb197, 4, none⟩ = some (.int .i64 t195) ∧ w'.cell? ⟨gb197, 5, none⟩ = some (.int .i64 t196) ∧ w'.cell? ⟨gb183, 0, none⟩ = some (.int .i64 a1_0) ∧ w'.cell? ⟨gb183, 1, none⟩ = some (.int .i64 a1_1) ∧ w'.cell? ⟨gb183, 2, none⟩ = some (.int .i64 a1_2) ∧ w'.cell? ⟨gb183, 3, none⟩ = some (.int .i64 a1_3) ∧ w'.cell? ⟨gb183, 4, none⟩ = some (.int .i64 a1_4) ∧ w'.cell? ⟨gb183, 5, none⟩ = some (.int .i64 a1_5)) (ds := []) #[false, false, false, false, false, false, false, false, false, false, false, false] (by kernel_rfl) rfl rfl ⟨(zaB BK197.out 0).trans rfl, (zaB BK197.out 1).trans rfl, (zaB BK197.out 2).trans rfl, (zaB BK197.out 3).trans rfl, (zaB BK197.out 4).trans rfl, (zaB BK197.out 5).trans rfl, (zaB BK183.out 0).trans rfl, (zaB BK183.out 1).trans rfl, (zaB BK183.out 2).trans rfl, (zaB BK183.out 3).trans rfl, (zaB BK183.out 4).trans rfl, (zaB BK183.out 5).trans rfl⟩ (fun hHeld => ?_); refine zcN zbP.tab2 zbP.bits2 (fun HT_ HW_ => ?_)
 generalize w16.drew = w17 at BK183 BK184 BK197 HB hHeld ⊢
 refine pu_ 0 (some 9) (bl_ 12 1) ?_
 refine pu_ 2 (some 11) (bl_ 12 5) ?_
 refine pu_ 5 (some 14) (bl_ 12 37) ?_
 refine pu_ 7 (some 16) (bl_ 12 165) ?_
 refine zeJ 1 (some 10) (bl_ 12 167) hHeld ?_
 refine zeJ 3 (some 12) (bl_ 12 175) hHeld ?_
 refine zeJ 6 (some 15) (bl_ 12 239) hHeld ?_
 refine zeJ 8 (some 17) (bl_ 12 495) hHeld ?_
 refine zeK (i := 4) (N := some 13) (bl_ 12 511) rfl rfl (zcK HT_.out (by kernel_rfl)) (by decide) (fun K hK => ?_)
 refine zcY Tryd.func149 (by kernel_rfl) rfl #[.agg #[.int .i64 t191, .int .i64 t192, .int .i64 t193], .agg #[.int .i64 a1_0, .int .i64 a1_1, .int .i64 a1_2]] (by rfl) rfl rfl (by (try simp only [List.map_toArray, List.map_cons, List.map_nil]); first | done | rfl | (simp only [List.length_drop, List.length_take]; rfl)) ?_
 with_reducible refine (zcM.calls k t191 t192 t193 a1_0 a1_1 a1_2 t198 t199 t200 _ A5.out).mono ?_
 rintro e w18 ⟨rfl, hb⟩
 refine ⟨_, rfl, ?_⟩
 have n0_ := zaJ (zaG (g := gb183) (o := .cells #[.int .i64 a1_0, .int .i64 a1_1, .int .i64 a1_2, .int .i64 a1_3, .int .i64 a1_4, .int .i64 a1_5] 94 (0, 0)) bk_ hb)
 have n1_ := zaJ (zaG (g := gb184) (o := .cells #[.int .i64 0, .int .i64 0, .int .i64 0] 92 (0, 0)) bk_ hb)
 have n2_ := zaJ (zaG (g := gb197) (o := .cells #[.int .i64 t191, .int .i64 t192, .int .i64 t193, .int .i64 t194, .int .i64 t195, .int .i64 t196] 94 (0, 0)) bk_ hb)
 have n3_ := (ns_ hb)
 clear BK183
 clear BK184
 clear BK197
 clear HB
 have BK183 := n0_
 have BK184 := n1_
 have BK197 := n2_
 have HB := n3_
 clear n0_ n1_ n2_ n3_
 (try clear hb)
 (try clear hb2)
 (try clear hk)
 (try clear hi)
 refine hK.out _ _ ⟨(zaB BK197.out 0).trans rfl, (zaB BK197.out 1).trans rfl, (zaB BK197.out 2).trans rfl, (zaB BK197.out 3).trans rfl, (zaB BK197.out 4).trans rfl, (zaB BK197.out 5).trans rfl, (zaB BK183.out 0).trans rfl, (zaB BK183.out 1).trans rfl, (zaB BK183.out 2).trans rfl, (zaB BK183.out 3).trans rfl, (zaB BK183.out 4).trans rfl, (zaB BK183.out 5).trans rfl⟩ (fun hHeld => ?_)
 clear hK K
 refine zcX (a' := ?_) ?_ ?_
 rotate_left
 ·show Act.put _ (some 13) _ = _
  simp only [Act.put, List.setIfInBounds_toArray, List.set_cons_zero, List.set_cons_succ, zbW, zbY]
  rfl
 refine zeK (i := 9) (N := some 18) (bl_ 12 1023) rfl rfl (zcK HT_.out (by kernel_rfl)) (by decide) (fun K hK => ?_)
 refine zcY Tryd.func149 (by kernel_rfl) rfl #[.agg #[.int .i64 t194, .int .i64 t195, .int .i64 t196], .agg #[.int .i64 a1_3, .int .i64 a1_4, .int .i64 a1_5]] (by rfl) rfl rfl (by (try simp only [List.map_toArray, List.map_cons, List.map_nil]); first | done | rfl | (simp only [List.length_drop, List.length_take]; rfl)) ?_
 with_reducible refine (zcM.calls k t194 t195 t196 a1_3 a1_4 a1_5 t201 t202 t203 _ A6.out).mono ?_
 rintro e w19 ⟨rfl, hb⟩
 refine ⟨_, rfl, ?_⟩
 have n0_ := zaJ (zaG (g := gb183) (o := .cells #[.int .i64 a1_0, .int .i64 a1_1, .int .i64 a1_2, .int .i64 a1_3, .int .i64 a1_4, .int .i64 a1_5] 94 (0, 0)) bk_ hb)
 have n1_ := zaJ (zaG (g := gb184) (o := .cells #[.int .i64 0, .int .i64 0, .int .i64 0] 92 (0, 0)) bk_ hb)
 have n2_ := zaJ (zaG (g := gb197) (o := .cells #[.int .i64 t191, .int .i64 t192, .int .i64 t193, .int .i64 t194, .int .i64 t195, .int .i64 t196] 94 (0, 0)) bk_ hb)
 have n3_ := (ns_ hb)
 clear BK183
 clear BK184
 clear BK197
 clear HB
 have BK183 := n0_
 have BK184 := n1_
 have BK197 := n2_
 have HB := n3_
 clear n0_ n1_ n2_ n3_
 (try clear hb)
 (try clear hb2)
 (try clear hk)
 (try clear hi)
 refine hK.out _ _ ⟨(zaB BK197.out 0).trans rfl, (zaB BK197.out 1).trans rfl, (zaB BK197.out 2).trans rfl, (zaB BK197.out 3).trans rfl, (zaB BK197.out 4).trans rfl, (zaB BK197.out 5).trans rfl, (zaB BK183.out 0).trans rfl, (zaB BK183.out 1).trans rfl, (zaB BK183.out 2).trans rfl, (zaB BK183.out 3).trans rfl, (zaB BK183.out 4).trans rfl, (zaB BK183.out 5).trans rfl⟩ (fun hHeld => ?_)
 clear hK K
 refine zcX (a' := ?_) ?_ ?_
 rotate_left
 ·show Act.put _ (some 18) _ = _
  simp only [Act.put, List.setIfInBounds_toArray, List.set_cons_zero, List.set_cons_succ, zbW, zbY]
  rfl
 refine zeK (i := 10) (N := some 19) (bl_ 12 2047) rfl rfl (zcK HT_.out (by kernel_rfl)) (by decide) (fun K hK => ?_)
 refine zcY Tryd.func148 (by kernel_rfl) rfl #[.agg #[.int .i64 t198, .int .i64 t199, .int .i64 t200], .agg #[.int .i64 t201, .int .i64 t202, .int .i64 t203]] (by rfl) rfl rfl (by (try simp only [List.map_toArray, List.map_cons, List.map_nil]); first | done | rfl | (simp only [List.length_drop, List.length_take]; rfl)) ?_
 with_reducible refine (zbH.calls k t198 t199 t200 t201 t202 t203 t204 t205 t206 _ A7.out).mono ?_
 rintro e w20 ⟨rfl, hb⟩
 refine ⟨_, rfl, ?_⟩
 have n0_ := zaJ (zaG (g := gb183) (o := .cells #[.int .i64 a1_0, .int .i64 a1_1, .int .i64 a1_2, .int .i64 a1_3, .int .i64 a1_4, .int .i64 a1_5] 94 (0, 0)) bk_ hb)
 have n1_ := zaJ (zaG (g := gb184) (o := .cells #[.int .i64 0, .int .i64 0, .int .i64 0] 92 (0, 0)) bk_ hb)
 have n2_ := zaJ (zaG (g := gb197) (o := .cells #[.int .i64 t191, .int .i64 t192, .int .i64 t193, .int .i64 t194, .int .i64 t195, .int .i64 t196] 94 (0, 0)) bk_ hb)
 have n3_ := (ns_ hb)
 clear BK183
 clear BK184
 clear BK197
 clear HB
 have BK183 := n0_
 have BK184 := n1_
 have BK197 := n2_
 have HB := n3_
 clear n0_ n1_ n2_ n3_
 (try clear hb)
 (try clear hb2)
 (try clear hk)
 (try clear hi)
 refine hK.out _ _ ⟨(zaB BK197.out 0).trans rfl, (zaB BK197.out 1).trans rfl, (zaB BK197.out 2).trans rfl, (zaB BK197.out 3).trans rfl, (zaB BK197.out 4).trans rfl, (zaB BK197.out 5).trans rfl, (zaB BK183.out 0).trans rfl, (zaB BK183.out 1).trans rfl, (zaB BK183.out 2).trans rfl, (zaB BK183.out 3).trans rfl, (zaB BK183.out 4).trans rfl, (zaB BK183.out 5).trans rfl⟩ (fun hHeld => ?_)
 clear hK K
 refine zcX (a' := ?_) ?_ ?_
 rotate_left
 ·show Act.put _ (some 19) _ = _
  simp only [Act.put, List.setIfInBounds_toArray, List.set_cons_zero, List.set_cons_succ, zbW, zbY]
  rfl
 refine zeK (i := 11) (N := none) (bl_ 12 4095) rfl rfl (zcK HT_.out (by kernel_rfl)) (by decide) (fun K hK => ?_)
 have hs21 : w20.cell? ⟨gb184, 0, none⟩ = some (.int .i64 0) := (zaB BK184.out 0).trans rfl
 have hfs21 := zbE BK184.out 0
 have hns21_0 := NB183_184.out
 have hns21_2 := NB197_184.out
 have hms21_0 := NB184_183.out
 have hms21_2 := NB184_197.out
 have hs22 : w20.cell? ⟨gb184, 1, none⟩ = some (.int .i64 0) := (zaB BK184.out 1).trans rfl
 have hfs22 := zbE BK184.out 1
 have hns22_0 := NB183_184.out
 have hns22_2 := NB197_184.out
 have hms22_0 := NB184_183.out
 have hms22_2 := NB184_197.out
 have hs23 : w20.cell? ⟨gb184, 2, none⟩ = some (.int .i64 0) := (zaB BK184.out 2).trans rfl
 have hfs23 := zbE BK184.out 2
 have hns23_0 := NB183_184.out
 have hns23_2 := NB197_184.out
 have hms23_0 := NB184_183.out
 have hms23_2 := NB184_197.out
 refine skip_ (w1 := ?_) (by rfl) rfl ?_ ?_
 rotate_left
 ·go_simp
  rfl
 refine hK.out _ _ ⟨((zaF (p := ⟨gb184, _, none⟩) NB197_184.out _).trans (((zaF (p := ⟨gb184, _, none⟩) NB197_184.out _).trans (((zaF (p := ⟨gb184, _, none⟩) NB197_184.out _).trans (hHeld.1)))))), ((zaF (p := ⟨gb184, _, none⟩) NB197_184.out _).trans (((zaF (p := ⟨gb184, _, none⟩) NB197_184.out _).trans (((zaF (p := ⟨gb184, _, none⟩) NB197_184.out _).trans (hHeld.2.1)))))), ((zaF (p := ⟨gb184, _, none⟩) NB197_184.out _).trans (((zaF (p := ⟨gb184, _, none⟩) NB197_184.out _).trans (((zaF (p := ⟨gb184, _, none⟩) NB197_184.out _).trans (hHeld.2.2.1)))))), ((zaF (p := ⟨gb184, _, none⟩) NB197_184.out _).trans (((zaF (p := ⟨gb184, _, none⟩) NB197_184.out _).trans (((zaF (p := ⟨gb184, _, none⟩) NB197_184.out _).trans (hHeld.2.2.2.1)))))), ((zaF (p := ⟨gb184, _, none⟩) NB197_184.out _).trans (((zaF (p := ⟨gb184, _, none⟩) NB197_184.out _).trans (((zaF (p := ⟨gb184, _, none⟩) NB197_184.out _).trans (hHeld.2.2.2.2.1)))))), ((zaF (p := ⟨gb184, _, none⟩) NB197_184.out _).trans (((zaF (p := ⟨gb184, _, none⟩) NB197_184.out _).trans (((zaF (p := ⟨gb184, _, none⟩) NB197_184.out _).trans (hHeld.2.2.2.2.2.1)))))), ((zaF (p := ⟨gb184, _, none⟩) NB183_184.out _).trans (((zaF (p := ⟨gb184, _, none⟩) NB183_184.out _).trans (((zaF (p := ⟨gb184, _, none⟩) NB183_184.out _).trans (hHeld.2.2.2.2.2.2.1)))))), ((zaF (p := ⟨gb184, _, none⟩) NB183_184.out _).trans (((zaF (p := ⟨gb184, _, none⟩) NB183_184.out _).trans (((zaF (p := ⟨gb184, _, none⟩) NB183_184.out _).trans (hHeld.2.2.2.2.2.2.2.1)))))), ((zaF (p := ⟨gb184, _, none⟩) NB183_184.out _).trans (((zaF (p := ⟨gb184, _, none⟩) NB183_184.out _).trans (((zaF (p := ⟨gb184, _, none⟩) NB183_184.out _).trans (hHeld.2.2.2.2.2.2.2.2.1)))))), ((zaF (p := ⟨gb184, _, none⟩) NB183_184.out _).trans (((zaF (p := ⟨gb184, _, none⟩) NB183_184.out _).trans (((zaF (p := ⟨gb184, _, none⟩) NB183_184.out _).trans (hHeld.2.2.2.2.2.2.2.2.2.1)))))), ((zaF (p := ⟨gb184, _, none⟩) NB183_184.out _).trans (((zaF (p := ⟨gb184, _, none⟩) NB183_184.out _).trans (((zaF (p := ⟨gb184, _, none⟩) NB183_184.out _).trans (hHeld.2.2.2.2.2.2.2.2.2.2.1)))))), ((zaF (p := ⟨gb184, _, none⟩) NB183_184.out _).trans (((zaF (p := ⟨gb184, _, none⟩) NB183_184.out _).trans (((zaF (p := ⟨gb184, _, none⟩) NB183_184.out _).trans (hHeld.2.2.2.2.2.2.2.2.2.2.2))))))⟩ (fun hHeld => ?_)
 clear hK K
 refine zeS (zdD HT_.out (by kernel_rfl)) ?_
 try go_wp2
 refine bodyPost_ret (results_cell_row rfl _ _ gb184 92 #[.int .i64 t204, .int .i64 t205, .int .i64 t206] (0, 0) _ rfl (by (with_reducible repeat (first | apply zaD | apply zaE | apply zaC)); refine zaL (cs := #[.int .i64 t204, .int .i64 t205, .int .i64 0]) ?_ 2 _ rfl; (with_reducible repeat (first | apply zaD | apply zaE | apply zaC)); refine zaL (cs := #[.int .i64 t204, .int .i64 0, .int .i64 0]) ?_ 1 _ rfl; (with_reducible repeat (first | apply zaD | apply zaE | apply zaC)); refine zaL (cs := #[.int .i64 0, .int .i64 0, .int .i64 0]) ?_ 0 _ rfl; (with_reducible repeat (first | apply zaD | apply zaE | apply zaC)); exact BK184.out) Tryd.underlying92 rfl (by kernel_rfl)) rfl ?_
 exact ⟨by first | rfl | (simp [zaI, zaH] <;> rfl) | (simp [*, zaI, zaH] <;> rfl), bb_⟩

def zeB.f (a0_0 : Int) (a0_1 : Int) (a0_2 : Int) : Option (Bool) := if a0_0 = 0 then (some (a0_1 == 0)) else (some false)
set_option maxHeartbeats 8000000 in
set_option maxRecDepth 100000 in
theorem zeB.calls (a0_0 : Int) (a0_1 : Int) (a0_2 : Int) (r : Bool) (w : World) (h : zeB.f a0_0 a0_1 a0_2 = some r) :
  Calls Tryd.prog 144 #[.agg #[.int .i64 a0_0, .int .i64 a0_1, .int .i64 a0_2]] w fun e w' => e = .returned (.bool r) ∧ Below w.heap.size w w' := by
 have hu92 := Tryd.underlying92
 have HB := zaJ (Below.refl w.heap.size w)
 have H : (if a0_0 = 0 then (some (a0_1 == 0)) else (some false)) = some r := h
 clear h
 by_cases c2 : a0_0 = 0
 ·rw [if_pos c2] at H
  have c2b0 : (a0_0 == 0) = true := beq_iff_eq.mpr c2
  have c2b1 : (a0_0 != 0) = false := bne_eq_false_iff_eq.mpr c2
  clear c2
  obtain rfl := Option.some.inj H
  go_enter Tryd.func144, Tryd.ntmps144
  go_wp2_with (first | ((with_reducible refine zaQ (N := 1) rfl ?_); refine bx_ 1 #[.int .i64 a0_0, .int .i64 a0_1, .int .i64 a0_2] 92 ?_; intro gb207 hg w3 hbox hb; have n0_ := (ns_ hb); have n1_ := zaJ (hbox); have n2_ := (ng_ hg); have n3_ := n2_; clear HB; have HB := n0_; have BK207 := n1_; have GW207 := n2_; have GE207 := n3_; clear n0_ n1_ n2_ n3_; clear hb hbox hg; obtain ⟨hcz4_0, hcz4_1, hcz4_2⟩ := zeI BK207.out; obtain ⟨hfz4_0, hfz4_1, hfz4_2⟩ := zeH BK207.out))
  go_ret
  exact ⟨by first | rfl | (simp [zaI, zaH] <;> rfl) | (simp [*, zaI, zaH] <;> rfl), bb_⟩
 ·rw [if_neg c2] at H
  have c2b0 : (a0_0 == 0) = false := beq_eq_false_iff_ne.mpr c2
  have c2b1 : (a0_0 != 0) = true := bne_iff_ne.mpr c2
  obtain rfl := Option.some.inj H
  go_enter Tryd.func144, Tryd.ntmps144
  go_wp2_with (first | ((with_reducible refine zaQ (N := 1) rfl ?_); refine bx_ 1 #[.int .i64 a0_0, .int .i64 a0_1, .int .i64 a0_2] 92 ?_; intro gb207 hg w5 hbox hb; have n0_ := (ns_ hb); have n1_ := zaJ (hbox); have n2_ := (ng_ hg); have n3_ := n2_; clear HB; have HB := n0_; have BK207 := n1_; have GW207 := n2_; have GE207 := n3_; clear n0_ n1_ n2_ n3_; clear hb hbox hg; obtain ⟨hcz6_0, hcz6_1, hcz6_2⟩ := zeI BK207.out; obtain ⟨hfz6_0, hfz6_1, hfz6_2⟩ := zeH BK207.out))
  go_ret
  exact ⟨by first | rfl | (simp [zaI, zaH] <;> rfl) | (simp [*, zaI, zaH] <;> rfl), bb_⟩

def zaV.l0 : Nat → Int → Int → Int → Int → Int → Int → Int → Option (Int)
 | 0, _, _, _, _, _, _, _ => none
 | k + 1, x3, x209000, x209001, x209002, x209003, x209004, x209005 => if x3 < 16 then ((zbP.f k (wrap64 (x3 + 4)) x209000 x209001 x209002 x209003 x209004 x209005).bind fun bt209 => ((zeB.f bt209.1 bt209.2.1 bt209.2.2).bind fun t212 => (if t212 = true then ((zbP.f k x3 x209000 x209001 x209002 x209003 x209004 x209005).bind fun bt213 => ((zaO.f k bt213.1 bt213.2.1 bt213.2.2).bind fun t216 => (if t216 > 0 then (some x3) else (zaV.l0 k (wrap64 (x3 + 1)) x209000 x209001 x209002 x209003 x209004 x209005)))) else (zaV.l0 k (wrap64 (x3 + 1)) x209000 x209001 x209002 x209003 x209004 x209005)))) else (some (-1))
def zaV.f (k : Nat) (a0_0 : Int) (a0_1 : Int) (a0_2 : Int) (a0_3 : Int) (a0_4 : Int) (a0_5 : Int) : Option (Int) := zaV.l0 k 0 a0_0 a0_1 a0_2 a0_3 a0_4 a0_5
theorem zaV.mono_l : ∀ k, (∀ y0 y1 y2 y3 y4 y5 y6, LeO (zaV.l0 k y0 y1 y2 y3 y4 y5 y6) (zaV.l0 (k + 1) y0 y1 y2 y3 y4 y5 y6))
 | 0 => fun _ _ _ _ _ _ _ r h => by simp [zaV.l0] at h
 | k + 1 => by
  have ih0 := zaV.mono_l k
  ·intro y0 y1 y2 y3 y4 y5 y6
   unfold zaV.l0
   repeat' first
   | (with_reducible exact ih0 _ _ _ _ _ _ _)
   | (with_reducible exact zaO.mono _ _ _ _)
   | (with_reducible exact zbP.mono _ _ _ _ _ _ _ _)
   | (with_reducible exact LeO.refl _)
   | (with_reducible exact LeO.none _)
   | (with_reducible refine LeO.ite ?_ ?_)
   | (with_reducible refine LeO.bind ?_ (fun _ => ?_))
   | exact ih0 _ _ _ _ _ _ _
   | exact zaO.mono _ _ _ _
   | exact zbP.mono _ _ _ _ _ _ _ _
   | exact LeO.none _
   | refine LeO.ite ?_ ?_
   | refine LeO.bind ?_ (fun _ => ?_)
theorem zaV.mono : ∀ a0 a1 a2 a3 a4 a5 k, LeO (zaV.f k a0 a1 a2 a3 a4 a5) (zaV.f (k + 1) a0 a1 a2 a3 a4 a5) := by
 intro a0 a1 a2 a3 a4 a5 k
 have ih0 := zaV.mono_l k
 unfold zaV.f
 repeat' first
   | (with_reducible exact ih0 _ _ _ _ _ _ _)
   | (with_reducible exact zaO.mono _ _ _ _)
   | (with_reducible exact zbP.mono _ _ _ _ _ _ _ _)
   | (with_reducible exact LeO.refl _)
   | (with_reducible exact LeO.none _)
   | (with_reducible refine LeO.ite ?_ ?_)
   | (with_reducible refine LeO.bind ?_ (fun _ => ?_))
   | exact ih0 _ _ _ _ _ _ _
   | exact zaO.mono _ _ _ _
   | exact zbP.mono _ _ _ _ _ _ _ _
   | exact LeO.none _
   | refine LeO.ite ?_ ?_
   | refine LeO.bind ?_ (fun _ => ?_)
set_option maxHeartbeats 8000000 in
set_option maxRecDepth 100000 in
theorem zaV.calls (k : Nat) (a0_0 : Int) (a0_1 : Int) (a0_2 : Int) (a0_3 : Int) (a0_4 : Int) (a0_5 : Int) (r : Int) (w : World) (h : zaV.f k a0_0 a0_1 a0_2 a0_3 a0_4 a0_5 = some r) :
  Calls Tryd.prog 110 #[.agg #[.int .i64 a0_0, .int .i64 a0_1, .int .i64 a0_2, .int .i64 a0_3, .int .i64 a0_4, .int .i64 a0_5]] w fun e w' => e = .returned (.int .i64 r) ∧ Below w.heap.size w w' := by
 have hu94 := Tryd.underlying94
 have HB := zaJ (Below.refl w.heap.size w)
 have H : (zaV.l0 k 0 a0_0 a0_1 a0_2 a0_3 a0_4 a0_5) = some r := h
 clear h
 have H' := zaJ H
 clear H
 go_enter Tryd.func110, Tryd.ntmps110
 go_wp2_with (first | ((with_reducible refine zaQ (N := 1) rfl ?_); refine bx_ 1 #[.int .i64 a0_0, .int .i64 a0_1, .int .i64 a0_2, .int .i64 a0_3, .int .i64 a0_4, .int .i64 a0_5] 94 ?_; intro gb208 hg w2 hbox hb; have n0_ := (ns_ hb); have n1_ := zaJ (hbox); have n2_ := (ng_ hg); have n3_ := n2_; clear HB; have HB := n0_; have BK208 := n1_; have GW208 := n2_; have GE208 := n3_; clear n0_ n1_ n2_ n3_; clear hb hbox hg))
 (try go_simp)
 go_loopg [3] k (fun kq v3 w' => ∃ (x3_1 : Int), v3 = .int .i64 x3_1 ∧ Aside0 (zaV.l0 kq x3_1 a0_0 a0_1 a0_2 a0_3 a0_4 a0_5 = some r) ∧ Aside0 (kq ≤ k) ∧ Aside0 (w'.heap[gb208]? = some (.cells #[.int .i64 a0_0, .int .i64 a0_1, .int .i64 a0_2, .int .i64 a0_3, .int .i64 a0_4, .int .i64 a0_5] 94 (0, 0))) ∧ Aside0 (Below w.heap.size w w'))
 case atStart => exact ⟨(0), (by first | rfl | (simp; done) | (simp [*]; done)), H', ⟨Nat.le_refl _⟩, ⟨bk_⟩, ⟨bb_⟩⟩
 case round =>
  clear H'
  try clear c1
  try clear p2
  obtain ⟨x3_1, rfl, HA, HK1, BK208, HB⟩ := hrel
  cases gk with
  | zero => exact absurd HA.out (by simp [zaV.l0])
  | succ k1 =>
   have H := HA.out
   clear HA
   simp only [zaV.l0] at H
   by_cases c3 : x3_1 < 16
   ·rw [if_pos c3] at H
    have c3b0 : decide (x3_1 < 16) = true := decide_eq_true c3
    clear c3
    replace H := Option.bind_eq_some_iff.mp H
    obtain ⟨⟨t209, t210, t211⟩, A40, H⟩ := H
    replace H : ((zeB.f t209 t210 t211).bind fun t212 => (if t212 = true then ((zbP.f k1 x3_1 a0_0 a0_1 a0_2 a0_3 a0_4 a0_5).bind fun bt213 => ((zaO.f k1 bt213.1 bt213.2.1 bt213.2.2).bind fun t216 => (if t216 > 0 then (some x3_1) else (zaV.l0 k1 (wrap64 (x3_1 + 1)) a0_0 a0_1 a0_2 a0_3 a0_4 a0_5)))) else (zaV.l0 k1 (wrap64 (x3_1 + 1)) a0_0 a0_1 a0_2 a0_3 a0_4 a0_5))) = some r := H
    have A4 := zaJ A40
    clear A40
    replace H := Option.bind_eq_some_iff.mp H
    obtain ⟨t212, A50, H⟩ := H
    replace H : (if t212 = true then ((zbP.f k1 x3_1 a0_0 a0_1 a0_2 a0_3 a0_4 a0_5).bind fun bt213 => ((zaO.f k1 bt213.1 bt213.2.1 bt213.2.2).bind fun t216 => (if t216 > 0 then (some x3_1) else (zaV.l0 k1 (wrap64 (x3_1 + 1)) a0_0 a0_1 a0_2 a0_3 a0_4 a0_5)))) else (zaV.l0 k1 (wrap64 (x3_1 + 1)) a0_0 a0_1 a0_2 a0_3 a0_4 a0_5)) = some r := H
    have A5 := zaJ A50
    clear A50
    by_cases c6 : t212 = true
    ·subst c6
     have H1 : ((zbP.f k1 x3_1 a0_0 a0_1 a0_2 a0_3 a0_4 a0_5).bind fun bt213 => ((zaO.f k1 bt213.1 bt213.2.1 bt213.2.2).bind fun t216 => (if t216 > 0 then (some x3_1) else (zaV.l0 k1 (wrap64 (x3_1 + 1)) a0_0 a0_1 a0_2 a0_3 a0_4 a0_5)))) = some r := by rw [if_pos rfl] at H; exact H
     clear H
     have H := H1
     clear H1
     replace H := Option.bind_eq_some_iff.mp H
     obtain ⟨⟨t213, t214, t215⟩, A70, H⟩ := H
     replace H : ((zaO.f k1 t213 t214 t215).bind fun t216 => (if t216 > 0 then (some x3_1) else (zaV.l0 k1 (wrap64 (x3_1 + 1)) a0_0 a0_1 a0_2 a0_3 a0_4 a0_5))) = some r := H
     have A7 := zaJ A70
     clear A70
     replace H := Option.bind_eq_some_iff.mp H
     obtain ⟨t216, A80, H⟩ := H
     replace H : (if t216 > 0 then (some x3_1) else (zaV.l0 k1 (wrap64 (x3_1 + 1)) a0_0 a0_1 a0_2 a0_3 a0_4 a0_5)) = some r := H
     have A8 := zaJ A80
     clear A80
     by_cases c9 : t216 > 0
     ·rw [if_pos c9] at H
      have c9b0 : decide (0 < t216) = true := decide_eq_true c9
      clear c9
      obtain rfl := Option.some.inj H
      obtain ⟨hcz10_0, hcz10_1, hcz10_2, hcz10_3, hcz10_4, hcz10_5⟩ := zeX BK208.out
      obtain ⟨hfz10_0, hfz10_1, hfz10_2, hfz10_3, hfz10_4, hfz10_5⟩ := zeW BK208.out
      go_wp2_with (first | ((with_reducible refine zaK (f := 113) rfl ?_); refine zbQ (some 11) rfl rfl Tryd.func113 (by kernel_rfl) rfl #[.int .i64 (wrap64 (x3_1 + 4)), .agg #[.int .i64 a0_0, .int .i64 a0_1, .int .i64 a0_2, .int .i64 a0_3, .int .i64 a0_4, .int .i64 a0_5]] rfl (by (try simp only [List.map_toArray, List.map_cons, List.map_nil]); first | done | rfl | (simp only [List.length_drop, List.length_take]; rfl)) ?_; (with_reducible refine (zbP.calls k1 (wrap64 (x3_1 + 4)) a0_0 a0_1 a0_2 a0_3 a0_4 a0_5 t209 t210 t211 _ A4.out).mono ?_); rintro e w11 ⟨rfl, hb⟩; refine ⟨_, rfl, ?_⟩; have n0_ := zaJ (zaG (g := gb208) (o := .cells #[.int .i64 a0_0, .int .i64 a0_1, .int .i64 a0_2, .int .i64 a0_3, .int .i64 a0_4, .int .i64 a0_5] 94 (0, 0)) bk_ hb); have n1_ := (ns_ hb); clear BK208; clear HB; have BK208 := n0_; have HB := n1_; clear n0_ n1_; (try clear hb); (try clear hb2)) | ((with_reducible refine zaK (f := 144) rfl ?_); refine zbQ (some 12) rfl rfl Tryd.func144 (by kernel_rfl) rfl #[.agg #[.int .i64 t209, .int .i64 t210, .int .i64 t211]] rfl (by (try simp only [List.map_toArray, List.map_cons, List.map_nil]); first | done | rfl | (simp only [List.length_drop, List.length_take]; rfl)) ?_; (with_reducible refine (zeB.calls t209 t210 t211 true _ A5.out).mono ?_); rintro e w12 ⟨rfl, hb⟩; refine ⟨_, rfl, ?_⟩; have n0_ := zaJ (zaG (g := gb208) (o := .cells #[.int .i64 a0_0, .int .i64 a0_1, .int .i64 a0_2, .int .i64 a0_3, .int .i64 a0_4, .int .i64 a0_5] 94 (0, 0)) bk_ hb); have n1_ := (ns_ hb); clear BK208; clear HB; have BK208 := n0_; have HB := n1_; clear n0_ n1_; (try clear hb); (try clear hb2); obtain ⟨hcz13_0, hcz13_1, hcz13_2, hcz13_3, hcz13_4, hcz13_5⟩ := zeX BK208.out; obtain ⟨hfz13_0, hfz13_1, hfz13_2, hfz13_3, hfz13_4, hfz13_5⟩ := zeW BK208.out) | (go_at_call 113; (with_reducible refine (zbP.calls k1 x3_1 a0_0 a0_1 a0_2 a0_3 a0_4 a0_5 t213 t214 t215 _ A7.out).mono ?_); rintro e w14 ⟨rfl, hb⟩; have n0_ := zaJ (zaG (g := gb208) (o := .cells #[.int .i64 a0_0, .int .i64 a0_1, .int .i64 a0_2, .int .i64 a0_3, .int .i64 a0_4, .int .i64 a0_5] 94 (0, 0)) bk_ hb); have n1_ := (ns_ hb); clear BK208; clear HB; have BK208 := n0_; have HB := n1_; clear n0_ n1_; (try clear hb); (try clear hb2)) | (go_at_call 112; (with_reducible refine (zaO.calls k1 t213 t214 t215 t216 _ A8.out).mono ?_); rintro e w15 ⟨rfl, hb⟩; have n0_ := zaJ (zaG (g := gb208) (o := .cells #[.int .i64 a0_0, .int .i64 a0_1, .int .i64 a0_2, .int .i64 a0_3, .int .i64 a0_4, .int .i64 a0_5] 94 (0, 0)) bk_ hb); have n1_ := (ns_ hb); clear BK208; clear HB; have BK208 := n0_; have HB := n1_; clear n0_ n1_; (try clear hb); (try clear hb2)))
      go_ret
      exact ⟨by first | rfl | (simp [zaI, zaH] <;> rfl) | (simp [*, zaI, zaH] <;> rfl), bb_⟩
     ·rw [if_neg c9] at H
      have c9b0 : decide (0 < t216) = false := decide_eq_false c9
      clear c9
      have H' := zaJ H
      clear H
      obtain ⟨hcz16_0, hcz16_1, hcz16_2, hcz16_3, hcz16_4, hcz16_5⟩ := zeX BK208.out
      obtain ⟨hfz16_0, hfz16_1, hfz16_2, hfz16_3, hfz16_4, hfz16_5⟩ := zeW BK208.out
      go_wp2_with (first | ((with_reducible refine zaK (f := 113) rfl ?_); refine zbQ (some 11) rfl rfl Tryd.func113 (by kernel_rfl) rfl #[.int .i64 (wrap64 (x3_1 + 4)), .agg #[.int .i64 a0_0, .int .i64 a0_1, .int .i64 a0_2, .int .i64 a0_3, .int .i64 a0_4, .int .i64 a0_5]] rfl (by (try simp only [List.map_toArray, List.map_cons, List.map_nil]); first | done | rfl | (simp only [List.length_drop, List.length_take]; rfl)) ?_; (with_reducible refine (zbP.calls k1 (wrap64 (x3_1 + 4)) a0_0 a0_1 a0_2 a0_3 a0_4 a0_5 t209 t210 t211 _ A4.out).mono ?_); rintro e w17 ⟨rfl, hb⟩; refine ⟨_, rfl, ?_⟩; have n0_ := zaJ (zaG (g := gb208) (o := .cells #[.int .i64 a0_0, .int .i64 a0_1, .int .i64 a0_2, .int .i64 a0_3, .int .i64 a0_4, .int .i64 a0_5] 94 (0, 0)) bk_ hb); have n1_ := (ns_ hb); clear BK208; clear HB; have BK208 := n0_; have HB := n1_; clear n0_ n1_; (try clear hb); (try clear hb2)) | ((with_reducible refine zaK (f := 144) rfl ?_); refine zbQ (some 12) rfl rfl Tryd.func144 (by kernel_rfl) rfl #[.agg #[.int .i64 t209, .int .i64 t210, .int .i64 t211]] rfl (by (try simp only [List.map_toArray, List.map_cons, List.map_nil]); first | done | rfl | (simp only [List.length_drop, List.length_take]; rfl)) ?_; (with_reducible refine (zeB.calls t209 t210 t211 true _ A5.out).mono ?_); rintro e w18 ⟨rfl, hb⟩; refine ⟨_, rfl, ?_⟩; have n0_ := zaJ (zaG (g := gb208) (o := .cells #[.int .i64 a0_0, .int .i64 a0_1, .int .i64 a0_2, .int .i64 a0_3, .int .i64 a0_4, .int .i64 a0_5] 94 (0, 0)) bk_ hb); have n1_ := (ns_ hb); clear BK208; clear HB; have BK208 := n0_; have HB := n1_; clear n0_ n1_; (try clear hb); (try clear hb2); obtain ⟨hcz19_0, hcz19_1, hcz19_2, hcz19_3, hcz19_4, hcz19_5⟩ := zeX BK208.out; obtain ⟨hfz19_0, hfz19_1, hfz19_2, hfz19_3, hfz19_4, hfz19_5⟩ := zeW BK208.out) | (go_at_call 113; (with_reducible refine (zbP.calls k1 x3_1 a0_0 a0_1 a0_2 a0_3 a0_4 a0_5 t213 t214 t215 _ A7.out).mono ?_); rintro e w20 ⟨rfl, hb⟩; have n0_ := zaJ (zaG (g := gb208) (o := .cells #[.int .i64 a0_0, .int .i64 a0_1, .int .i64 a0_2, .int .i64 a0_3, .int .i64 a0_4, .int .i64 a0_5] 94 (0, 0)) bk_ hb); have n1_ := (ns_ hb); clear BK208; clear HB; have BK208 := n0_; have HB := n1_; clear n0_ n1_; (try clear hb); (try clear hb2)) | (go_at_call 112; (with_reducible refine (zaO.calls k1 t213 t214 t215 t216 _ A8.out).mono ?_); rintro e w21 ⟨rfl, hb⟩; have n0_ := zaJ (zaG (g := gb208) (o := .cells #[.int .i64 a0_0, .int .i64 a0_1, .int .i64 a0_2, .int .i64 a0_3, .int .i64 a0_4, .int .i64 a0_5] 94 (0, 0)) bk_ hb); have n1_ := (ns_ hb); clear BK208; clear HB; have BK208 := n0_; have HB := n1_; clear n0_ n1_; (try clear hb); (try clear hb2)))
      go_roundg k1
      case measure => have := HK1.out; omega
      case rel => exact ⟨(wrap64 (x3_1 + 1)), (by first | rfl | (simp; done) | (simp [*]; done)), H', ⟨by have := HK1.out; omega⟩, ⟨bk_⟩, ⟨bb_⟩⟩
    ·replace c6 := Bool.eq_false_iff.mpr c6
     subst c6
     have H1 : (zaV.l0 k1 (wrap64 (x3_1 + 1)) a0_0 a0_1 a0_2 a0_3 a0_4 a0_5) = some r := by rw [if_neg (show ¬ (false = true) by decide)] at H; exact H
     clear H
     have H := H1
     clear H1
     have H' := zaJ H
     clear H
     obtain ⟨hcz22_0, hcz22_1, hcz22_2, hcz22_3, hcz22_4, hcz22_5⟩ := zeX BK208.out
     obtain ⟨hfz22_0, hfz22_1, hfz22_2, hfz22_3, hfz22_4, hfz22_5⟩ := zeW BK208.out
     go_wp2_with (first | ((with_reducible refine zaK (f := 113) rfl ?_); refine zbQ (some 11) rfl rfl Tryd.func113 (by kernel_rfl) rfl #[.int .i64 (wrap64 (x3_1 + 4)), .agg #[.int .i64 a0_0, .int .i64 a0_1, .int .i64 a0_2, .int .i64 a0_3, .int .i64 a0_4, .int .i64 a0_5]] rfl (by (try simp only [List.map_toArray, List.map_cons, List.map_nil]); first | done | rfl | (simp only [List.length_drop, List.length_take]; rfl)) ?_; (with_reducible refine (zbP.calls k1 (wrap64 (x3_1 + 4)) a0_0 a0_1 a0_2 a0_3 a0_4 a0_5 t209 t210 t211 _ A4.out).mono ?_); rintro e w23 ⟨rfl, hb⟩; refine ⟨_, rfl, ?_⟩; have n0_ := zaJ (zaG (g := gb208) (o := .cells #[.int .i64 a0_0, .int .i64 a0_1, .int .i64 a0_2, .int .i64 a0_3, .int .i64 a0_4, .int .i64 a0_5] 94 (0, 0)) bk_ hb); have n1_ := (ns_ hb); clear BK208; clear HB; have BK208 := n0_; have HB := n1_; clear n0_ n1_; (try clear hb); (try clear hb2)) | ((with_reducible refine zaK (f := 144) rfl ?_); refine zbQ (some 12) rfl rfl Tryd.func144 (by kernel_rfl) rfl #[.agg #[.int .i64 t209, .int .i64 t210, .int .i64 t211]] rfl (by (try simp only [List.map_toArray, List.map_cons, List.map_nil]); first | done | rfl | (simp only [List.length_drop, List.length_take]; rfl)) ?_; (with_reducible refine (zeB.calls t209 t210 t211 false _ A5.out).mono ?_); rintro e w24 ⟨rfl, hb⟩; refine ⟨_, rfl, ?_⟩; have n0_ := zaJ (zaG (g := gb208) (o := .cells #[.int .i64 a0_0, .int .i64 a0_1, .int .i64 a0_2, .int .i64 a0_3, .int .i64 a0_4, .int .i64 a0_5] 94 (0, 0)) bk_ hb); have n1_ := (ns_ hb); clear BK208; clear HB; have BK208 := n0_; have HB := n1_; clear n0_ n1_; (try clear hb); (try clear hb2)))
     go_roundg k1
     case measure => have := HK1.out; omega
     case rel => exact ⟨(wrap64 (x3_1 + 1)), (by first | rfl | (simp; done) | (simp [*]; done)), H', ⟨by have := HK1.out; omega⟩, ⟨bk_⟩, ⟨bb_⟩⟩
   ·rw [if_neg c3] at H
    have c3b0 : decide (x3_1 < 16) = false := decide_eq_false c3
    clear c3
    obtain rfl := Option.some.inj H
    go_wp2
    go_ret
    exact ⟨by first | rfl | (simp [zaI, zaH] <;> rfl) | (simp [*, zaI, zaH] <;> rfl), bb_⟩

def zfE.f (a0_0 : Int) (a0_1 : Int) (a0_2 : Int) : Option (Int × Int × Int) := some (wrap64 (-a0_0), wrap64 (-a0_1), a0_2)
set_option maxHeartbeats 8000000 in
set_option maxRecDepth 100000 in
theorem zfE.calls (a0_0 : Int) (a0_1 : Int) (a0_2 : Int) (r1 : Int) (r2 : Int) (r3 : Int) (w : World) (h : zfE.f a0_0 a0_1 a0_2 = some (r1, r2, r3)) :
  Calls Tryd.prog 172 #[.agg #[.int .i64 a0_0, .int .i64 a0_1, .int .i64 a0_2]] w fun e w' => e = .returned (.agg #[.int .i64 r1, .int .i64 r2, .int .i64 r3]) ∧ Below w.heap.size w w' := by
 have hu92 := Tryd.underlying92
 have HB := zaJ (Below.refl w.heap.size w)
 have H : (some (wrap64 (-a0_0), wrap64 (-a0_1), a0_2)) = some (r1, r2, r3) := h
 clear h
 simp only [Option.some.injEq, Prod.mk.injEq] at H
 obtain ⟨rfl, rfl, rfl⟩ := H
 go_enter Tryd.func172, Tryd.ntmps172
 go_wp2_with (first | ((with_reducible refine zaQ (N := 1) rfl ?_); refine bx_ 1 #[.int .i64 a0_0, .int .i64 a0_1, .int .i64 a0_2] 92 ?_; intro gb217 hg w2 hbox hb; have n0_ := (ns_ hb); have n1_ := zaJ (hbox); have n2_ := (ng_ hg); have n3_ := n2_; clear HB; have HB := n0_; have BK217 := n1_; have GW217 := n2_; have GE217 := n3_; clear n0_ n1_ n2_ n3_; clear hb hbox hg) | ((with_reducible refine zaQ (N := 2) rfl ?_); refine bx_ 2 #[.int .i64 0, .int .i64 0, .int .i64 0] 92 ?_; intro gb218 hg w3 hbox hb; have n0_ := zaJ (zaG (g := gb217) (o := .cells #[.int .i64 a0_0, .int .i64 a0_1, .int .i64 a0_2] 92 (0, 0)) bk_ hb); have n1_ := (ns_ hb); have n2_ := zaJ (hbox); have n3_ := (ng_ hg); have n4_ := n3_; have n5_ := zaJ ((by rw [hg]; exact Nat.ne_of_lt (zbC (g := gb217) (o := .cells #[.int .i64 a0_0, .int .i64 a0_1, .int .i64 a0_2] 92 (0, 0)) bk_) : gb217 ≠ gb218)); have n6_ := zaJ ((by rw [hg]; exact Nat.ne_of_gt (zbC (g := gb217) (o := .cells #[.int .i64 a0_0, .int .i64 a0_1, .int .i64 a0_2] 92 (0, 0)) bk_) : gb218 ≠ gb217)); clear BK217; clear HB; have BK217 := n0_; have HB := n1_; have BK218 := n2_; have GW218 := n3_; have GE218 := n4_; have NB217_218 := n5_; have NB218_217 := n6_; clear n0_ n1_ n2_ n3_ n4_ n5_ n6_; clear hb hbox hg; have hnb4 := NB217_218.out; have hnc4 := NB218_217.out; obtain ⟨hcz5_0, hcz5_1, hcz5_2⟩ := zeI BK217.out; obtain ⟨hfz5_0, hfz5_1, hfz5_2⟩ := zeH BK217.out; obtain ⟨hcz6_0, hcz6_1, hcz6_2⟩ := zeI BK218.out; obtain ⟨hfz6_0, hfz6_1, hfz6_2⟩ := zeH BK218.out))
 refine bodyPost_ret (results_cell_row rfl _ _ gb218 92 #[.int .i64 (wrap64 (-a0_0)), .int .i64 (wrap64 (-a0_1)), .int .i64 a0_2] (0, 0) _ rfl (by (with_reducible repeat (first | apply zaD | apply zaE | apply zaC)); refine zaL (cs := #[.int .i64 (wrap64 (-a0_0)), .int .i64 (wrap64 (-a0_1)), .int .i64 0]) ?_ 2 _ rfl; (with_reducible repeat (first | apply zaD | apply zaE | apply zaC)); refine zaL (cs := #[.int .i64 (wrap64 (-a0_0)), .int .i64 0, .int .i64 0]) ?_ 1 _ rfl; (with_reducible repeat (first | apply zaD | apply zaE | apply zaC)); refine zaL (cs := #[.int .i64 0, .int .i64 0, .int .i64 0]) ?_ 0 _ rfl; (with_reducible repeat (first | apply zaD | apply zaE | apply zaC)); exact BK218.out) Tryd.underlying92 rfl (by kernel_rfl)) rfl ?_
 exact ⟨by first | rfl | (simp [zaI, zaH] <;> rfl) | (simp [*, zaI, zaH] <;> rfl), bb_⟩

def zcI.f (k : Nat) (a0_0 : Int) (a0_1 : Int) (a0_2 : Int) (a1_0 : Int) (a1_1 : Int) (a1_2 : Int) : Option (Int × Int × Int) := (zfE.f a1_0 a1_1 a1_2).bind fun bt222 => ((zbH.f k a0_0 a0_1 a0_2 bt222.1 bt222.2.1 bt222.2.2).bind fun bt225 => (some (bt225.1, bt225.2.1, bt225.2.2)))
theorem zcI.mono : ∀ a0 a1 a2 a3 a4 a5 k, LeO (zcI.f k a0 a1 a2 a3 a4 a5) (zcI.f (k + 1) a0 a1 a2 a3 a4 a5) := by
 intro a0 a1 a2 a3 a4 a5 k
 unfold zcI.f
 repeat' first
   | (with_reducible exact zbH.mono _ _ _ _ _ _ _)
   | (with_reducible exact LeO.refl _)
   | (with_reducible exact LeO.none _)
   | (with_reducible refine LeO.ite ?_ ?_)
   | (with_reducible refine LeO.bind ?_ (fun _ => ?_))
   | exact zbH.mono _ _ _ _ _ _ _
   | exact LeO.none _
   | refine LeO.ite ?_ ?_
   | refine LeO.bind ?_ (fun _ => ?_)
set_option maxHeartbeats 8000000 in
set_option maxRecDepth 100000 in
theorem zcI.calls (k : Nat) (a0_0 : Int) (a0_1 : Int) (a0_2 : Int) (a1_0 : Int) (a1_1 : Int) (a1_2 : Int) (r1 : Int) (r2 : Int) (r3 : Int) (w : World) (h : zcI.f k a0_0 a0_1 a0_2 a1_0 a1_1 a1_2 = some (r1, r2, r3)) :
  Calls Tryd.prog 145 #[.agg #[.int .i64 a0_0, .int .i64 a0_1, .int .i64 a0_2], .agg #[.int .i64 a1_0, .int .i64 a1_1, .int .i64 a1_2]] w fun e w' => e = .returned (.agg #[.int .i64 r1, .int .i64 r2, .int .i64 r3]) ∧ Below w.heap.size w w' := by
 have hu92 := Tryd.underlying92
 have HB := zaJ (Below.refl w.heap.size w)
 have H : ((zfE.f a1_0 a1_1 a1_2).bind fun bt222 => ((zbH.f k a0_0 a0_1 a0_2 bt222.1 bt222.2.1 bt222.2.2).bind fun bt225 => (some (bt225.1, bt225.2.1, bt225.2.2)))) = some (r1, r2, r3) := h
 clear h
 replace H := Option.bind_eq_some_iff.mp H
 obtain ⟨⟨t222, t223, t224⟩, A30, H⟩ := H
 replace H : ((zbH.f k a0_0 a0_1 a0_2 t222 t223 t224).bind fun bt225 => (some (bt225.1, bt225.2.1, bt225.2.2))) = some (r1, r2, r3) := H
 have A3 := zaJ A30
 clear A30
 replace H := Option.bind_eq_some_iff.mp H
 obtain ⟨⟨t225, t226, t227⟩, A40, H⟩ := H
 replace H : (some (t225, t226, t227)) = some (r1, r2, r3) := H
 have A4 := zaJ A40
 clear A40
 simp only [Option.some.injEq, Prod.mk.injEq] at H
 obtain ⟨rfl, rfl, rfl⟩ := H
 go_enter Tryd.func145, Tryd.ntmps145
 try go_wp2_with (first | ((with_reducible refine zaQ (N := 2) rfl ?_); refine bx_ 2 #[.int .i64 a0_0, .int .i64 a0_1, .int .i64 a0_2] 92 ?_; intro gb219 hg w5 hbox hb; have n0_ := (ns_ hb); have n1_ := zaJ (hbox); have n2_ := (ng_ hg); have n3_ := n2_; clear HB; have HB := n0_; have BK219 := n1_; have GW219 := n2_; have GE219 := n3_; clear n0_ n1_ n2_ n3_; clear hb hbox hg) | ((with_reducible refine zaQ (N := 3) rfl ?_); refine bx_ 3 #[.int .i64 a1_0, .int .i64 a1_1, .int .i64 a1_2] 92 ?_; intro gb220 hg w6 hbox hb; have n0_ := zaJ (zaG (g := gb219) (o := .cells #[.int .i64 a0_0, .int .i64 a0_1, .int .i64 a0_2] 92 (0, 0)) bk_ hb); have n1_ := (ns_ hb); have n2_ := zaJ (hbox); have n3_ := (ng_ hg); have n4_ := n3_; have n5_ := zaJ ((by rw [hg]; exact Nat.ne_of_lt (zbC (g := gb219) (o := .cells #[.int .i64 a0_0, .int .i64 a0_1, .int .i64 a0_2] 92 (0, 0)) bk_) : gb219 ≠ gb220)); have n6_ := zaJ ((by rw [hg]; exact Nat.ne_of_gt (zbC (g := gb219) (o := .cells #[.int .i64 a0_0, .int .i64 a0_1, .int .i64 a0_2] 92 (0, 0)) bk_) : gb220 ≠ gb219)); clear BK219; clear HB; have BK219 := n0_; have HB := n1_; have BK220 := n2_; have GW220 := n3_; have GE220 := n4_; have NB219_220 := n5_; have NB220_219 := n6_; clear n0_ n1_ n2_ n3_ n4_ n5_ n6_; clear hb hbox hg) | ((with_reducible refine zaQ (N := 4) rfl ?_); refine bx_ 4 #[.int .i64 0, .int .i64 0, .int .i64 0] 92 ?_; intro gb221 hg w7 hbox hb; have n0_ := zaJ (zaG (g := gb219) (o := .cells #[.int .i64 a0_0, .int .i64 a0_1, .int .i64 a0_2] 92 (0, 0)) bk_ hb); have n1_ := zaJ (zaG (g := gb220) (o := .cells #[.int .i64 a1_0, .int .i64 a1_1, .int .i64 a1_2] 92 (0, 0)) bk_ hb); have n2_ := (ns_ hb); have n3_ := zaJ (hbox); have n4_ := (ng_ hg); have n5_ := n4_; have n6_ := zaJ ((by rw [hg]; exact Nat.ne_of_lt (zbC (g := gb219) (o := .cells #[.int .i64 a0_0, .int .i64 a0_1, .int .i64 a0_2] 92 (0, 0)) bk_) : gb219 ≠ gb221)); have n7_ := zaJ ((by rw [hg]; exact Nat.ne_of_gt (zbC (g := gb219) (o := .cells #[.int .i64 a0_0, .int .i64 a0_1, .int .i64 a0_2] 92 (0, 0)) bk_) : gb221 ≠ gb219)); have n8_ := zaJ ((by rw [hg]; exact Nat.ne_of_lt (zbC (g := gb220) (o := .cells #[.int .i64 a1_0, .int .i64 a1_1, .int .i64 a1_2] 92 (0, 0)) bk_) : gb220 ≠ gb221)); have n9_ := zaJ ((by rw [hg]; exact Nat.ne_of_gt (zbC (g := gb220) (o := .cells #[.int .i64 a1_0, .int .i64 a1_1, .int .i64 a1_2] 92 (0, 0)) bk_) : gb221 ≠ gb220)); clear BK219; clear BK220; clear HB; have BK219 := n0_; have BK220 := n1_; have HB := n2_; have BK221 := n3_; have GW221 := n4_; have GE221 := n5_; have NB219_221 := n6_; have NB221_219 := n7_; have NB220_221 := n8_; have NB221_220 := n9_; clear n0_ n1_ n2_ n3_ n4_ n5_ n6_ n7_ n8_ n9_; clear hb hbox hg))
 have n0_ := zaJ (zaE BK219.out)
 have n1_ := zaJ (zaE BK220.out)
 have n2_ := zaJ (zaE BK221.out)
 have n3_ := zaJ (zbT HB.out)
 clear BK219
 clear BK220
 clear BK221
 clear HB
 have BK219 := n0_
 have BK220 := n1_
 have BK221 := n2_
 have HB := n3_
 clear n0_ n1_ n2_ n3_
 refine zdL (n := 5) (S := fun w' => w'.cell? ⟨gb219, 0, none⟩ = some (.int .i64 a0_0) ∧ w'.cell? ⟨gb219, 1, none⟩ = some (.int .i64 a0_1) ∧ w'.cell? ⟨gb219, 2, none⟩ = some (.int .i64 a0_2) ∧ w'.cell? ⟨gb220, 0, none⟩ = some (.int .i64 a1_0) ∧ w'.cell? ⟨gb220, 1, none⟩ = some (.int .i64 a1_1) ∧ w'.cell? ⟨gb220, 2, none⟩ = some (.int .i64 a1_2)) (ds := []) #[false, false, false, false, false] (by kernel_rfl) rfl rfl ⟨(zaB BK219.out 0).trans rfl, (zaB BK219.out 1).trans rfl, (zaB BK219.out 2).trans rfl, (zaB BK220.out 0).trans rfl, (zaB BK220.out 1).trans rfl, (zaB BK220.out 2).trans rfl⟩ (fun hHeld => ?_)
 generalize w7.drew = w8 at BK219 BK220 BK221 HB hHeld ⊢
 refine take_ (i := 0) (N := some 5) (v := ?_) (a' := ?_) (bl_ 5 1) rfl rfl (by kernel_rfl) (fun _ _ _ h => h) (Or.inl ⟨by rfl, ?_⟩) hHeld ?_ ?_
 rotate_left
 ·rintro w' ⟨s0, s1, s2, s3, s4, s5⟩
  go_simp
  with_reducible rfl
 rotate_left
 ·simp only [Act.put, List.setIfInBounds_toArray, List.set_cons_zero, List.set_cons_succ, zbW, zbY]
  rfl
 refine take_ (i := 1) (N := some 6) (v := ?_) (a' := ?_) (bl_ 5 3) rfl rfl (by kernel_rfl) (fun _ _ _ h => h) (Or.inl ⟨by rfl, ?_⟩) hHeld ?_ ?_
 rotate_left
 ·rintro w' ⟨s0, s1, s2, s3, s4, s5⟩
  go_simp
  with_reducible rfl
 rotate_left
 ·simp only [Act.put, List.setIfInBounds_toArray, List.set_cons_zero, List.set_cons_succ, zbW, zbY]
  rfl
 refine zeK (i := 2) (N := some 7) (bl_ 5 7) rfl rfl (by kernel_rfl) (by decide) (fun K hK => ?_)
 refine zcY Tryd.func172 (by kernel_rfl) rfl #[.agg #[.int .i64 a1_0, .int .i64 a1_1, .int .i64 a1_2]] (by rfl) rfl rfl (by (try simp only [List.map_toArray, List.map_cons, List.map_nil]); first | done | rfl | (simp only [List.length_drop, List.length_take]; rfl)) ?_
 with_reducible refine (zfE.calls a1_0 a1_1 a1_2 t222 t223 t224 _ A3.out).mono ?_
 rintro e w9 ⟨rfl, hb⟩
 refine ⟨_, rfl, ?_⟩
 have n0_ := zaJ (zaG (g := gb219) (o := .cells #[.int .i64 a0_0, .int .i64 a0_1, .int .i64 a0_2] 92 (0, 0)) bk_ hb)
 have n1_ := zaJ (zaG (g := gb220) (o := .cells #[.int .i64 a1_0, .int .i64 a1_1, .int .i64 a1_2] 92 (0, 0)) bk_ hb)
 have n2_ := zaJ (zaG (g := gb221) (o := .cells #[.int .i64 0, .int .i64 0, .int .i64 0] 92 (0, 0)) bk_ hb)
 have n3_ := (ns_ hb)
 clear BK219
 clear BK220
 clear BK221
 clear HB
 have BK219 := n0_
 have BK220 := n1_
 have BK221 := n2_
 have HB := n3_
 clear n0_ n1_ n2_ n3_
 (try clear hb)
 (try clear hb2)
 (try clear hk)
 (try clear hi)
 refine hK.out _ _ ⟨(zaB BK219.out 0).trans rfl, (zaB BK219.out 1).trans rfl, (zaB BK219.out 2).trans rfl, (zaB BK220.out 0).trans rfl, (zaB BK220.out 1).trans rfl, (zaB BK220.out 2).trans rfl⟩ (fun hHeld => ?_)
 clear hK K
 refine zcX (a' := ?_) ?_ ?_
 rotate_left
 ·show Act.put _ (some 7) _ = _
  simp only [Act.put, List.setIfInBounds_toArray, List.set_cons_zero, List.set_cons_succ, zbW, zbY]
  rfl
 refine zeK (i := 3) (N := some 8) (bl_ 5 15) rfl rfl (by kernel_rfl) (by decide) (fun K hK => ?_)
 refine zcY Tryd.func148 (by kernel_rfl) rfl #[.agg #[.int .i64 a0_0, .int .i64 a0_1, .int .i64 a0_2], .agg #[.int .i64 t222, .int .i64 t223, .int .i64 t224]] (by rfl) rfl rfl (by (try simp only [List.map_toArray, List.map_cons, List.map_nil]); first | done | rfl | (simp only [List.length_drop, List.length_take]; rfl)) ?_
 with_reducible refine (zbH.calls k a0_0 a0_1 a0_2 t222 t223 t224 t225 t226 t227 _ A4.out).mono ?_
 rintro e w10 ⟨rfl, hb⟩
 refine ⟨_, rfl, ?_⟩
 have n0_ := zaJ (zaG (g := gb219) (o := .cells #[.int .i64 a0_0, .int .i64 a0_1, .int .i64 a0_2] 92 (0, 0)) bk_ hb)
 have n1_ := zaJ (zaG (g := gb220) (o := .cells #[.int .i64 a1_0, .int .i64 a1_1, .int .i64 a1_2] 92 (0, 0)) bk_ hb)
 have n2_ := zaJ (zaG (g := gb221) (o := .cells #[.int .i64 0, .int .i64 0, .int .i64 0] 92 (0, 0)) bk_ hb)
 have n3_ := (ns_ hb)
 clear BK219
 clear BK220
 clear BK221
 clear HB
 have BK219 := n0_
 have BK220 := n1_
 have BK221 := n2_
 have HB := n3_
 clear n0_ n1_ n2_ n3_
 (try clear hb)
 (try clear hb2)
 (try clear hk)
 (try clear hi)
 refine hK.out _ _ ⟨(zaB BK219.out 0).trans rfl, (zaB BK219.out 1).trans rfl, (zaB BK219.out 2).trans rfl, (zaB BK220.out 0).trans rfl, (zaB BK220.out 1).trans rfl, (zaB BK220.out 2).trans rfl⟩ (fun hHeld => ?_)
 clear hK K
 refine zcX (a' := ?_) ?_ ?_
 rotate_left
 ·show Act.put _ (some 8) _ = _
  simp only [Act.put, List.setIfInBounds_toArray, List.set_cons_zero, List.set_cons_succ, zbW, zbY]
  rfl
 refine zeK (i := 4) (N := none) (bl_ 5 31) rfl rfl (by kernel_rfl) (by decide) (fun K hK => ?_)
 have hs11 : w10.cell? ⟨gb221, 0, none⟩ = some (.int .i64 0) := (zaB BK221.out 0).trans rfl
 have hfs11 := zbE BK221.out 0
 have hns11_0 := NB219_221.out
 have hns11_1 := NB220_221.out
 have hms11_0 := NB221_219.out
 have hms11_1 := NB221_220.out
 have hs12 : w10.cell? ⟨gb221, 1, none⟩ = some (.int .i64 0) := (zaB BK221.out 1).trans rfl
 have hfs12 := zbE BK221.out 1
 have hns12_0 := NB219_221.out
 have hns12_1 := NB220_221.out
 have hms12_0 := NB221_219.out
 have hms12_1 := NB221_220.out
 have hs13 : w10.cell? ⟨gb221, 2, none⟩ = some (.int .i64 0) := (zaB BK221.out 2).trans rfl
 have hfs13 := zbE BK221.out 2
 have hns13_0 := NB219_221.out
 have hns13_1 := NB220_221.out
 have hms13_0 := NB221_219.out
 have hms13_1 := NB221_220.out
 refine skip_ (w1 := ?_) (by rfl) rfl ?_ ?_
 rotate_left
 ·go_simp
  rfl
 refine hK.out _ _ ⟨((zaF (p := ⟨gb221, _, none⟩) NB219_221.out _).trans (((zaF (p := ⟨gb221, _, none⟩) NB219_221.out _).trans (((zaF (p := ⟨gb221, _, none⟩) NB219_221.out _).trans (hHeld.1)))))), ((zaF (p := ⟨gb221, _, none⟩) NB219_221.out _).trans (((zaF (p := ⟨gb221, _, none⟩) NB219_221.out _).trans (((zaF (p := ⟨gb221, _, none⟩) NB219_221.out _).trans (hHeld.2.1)))))), ((zaF (p := ⟨gb221, _, none⟩) NB219_221.out _).trans (((zaF (p := ⟨gb221, _, none⟩) NB219_221.out _).trans (((zaF (p := ⟨gb221, _, none⟩) NB219_221.out _).trans (hHeld.2.2.1)))))), ((zaF (p := ⟨gb221, _, none⟩) NB220_221.out _).trans (((zaF (p := ⟨gb221, _, none⟩) NB220_221.out _).trans (((zaF (p := ⟨gb221, _, none⟩) NB220_221.out _).trans (hHeld.2.2.2.1)))))), ((zaF (p := ⟨gb221, _, none⟩) NB220_221.out _).trans (((zaF (p := ⟨gb221, _, none⟩) NB220_221.out _).trans (((zaF (p := ⟨gb221, _, none⟩) NB220_221.out _).trans (hHeld.2.2.2.2.1)))))), ((zaF (p := ⟨gb221, _, none⟩) NB220_221.out _).trans (((zaF (p := ⟨gb221, _, none⟩) NB220_221.out _).trans (((zaF (p := ⟨gb221, _, none⟩) NB220_221.out _).trans (hHeld.2.2.2.2.2))))))⟩ (fun hHeld => ?_)
 clear hK K
 refine zeS (by kernel_rfl) ?_
 try go_wp2
 refine bodyPost_ret (results_cell_row rfl _ _ gb221 92 #[.int .i64 t225, .int .i64 t226, .int .i64 t227] (0, 0) _ rfl (by (with_reducible repeat (first | apply zaD | apply zaE | apply zaC)); refine zaL (cs := #[.int .i64 t225, .int .i64 t226, .int .i64 0]) ?_ 2 _ rfl; (with_reducible repeat (first | apply zaD | apply zaE | apply zaC)); refine zaL (cs := #[.int .i64 t225, .int .i64 0, .int .i64 0]) ?_ 1 _ rfl; (with_reducible repeat (first | apply zaD | apply zaE | apply zaC)); refine zaL (cs := #[.int .i64 0, .int .i64 0, .int .i64 0]) ?_ 0 _ rfl; (with_reducible repeat (first | apply zaD | apply zaE | apply zaC)); exact BK221.out) Tryd.underlying92 rfl (by kernel_rfl)) rfl ?_
 exact ⟨by first | rfl | (simp [zaI, zaH] <;> rfl) | (simp [*, zaI, zaH] <;> rfl), bb_⟩

def zbL.f (k : Nat) (a0_0 : Int) (a0_1 : Int) (a0_2 : Int) (a0_3 : Int) (a0_4 : Int) (a0_5 : Int) (a1_0 : Int) (a1_1 : Int) (a1_2 : Int) (a1_3 : Int) (a1_4 : Int) (a1_5 : Int) : Option (Int × Int × Int × Int × Int × Int) := (zcI.f k a0_0 a0_1 a0_2 a1_0 a1_1 a1_2).bind fun bt231 => ((zcI.f k a0_3 a0_4 a0_5 a1_3 a1_4 a1_5).bind fun bt234 => (some (bt231.1, bt231.2.1, bt231.2.2, bt234.1, bt234.2.1, bt234.2.2)))
theorem zbL.mono : ∀ a0 a1 a2 a3 a4 a5 a6 a7 a8 a9 a10 a11 k, LeO (zbL.f k a0 a1 a2 a3 a4 a5 a6 a7 a8 a9 a10 a11) (zbL.f (k + 1) a0 a1 a2 a3 a4 a5 a6 a7 a8 a9 a10 a11) := by
 intro a0 a1 a2 a3 a4 a5 a6 a7 a8 a9 a10 a11 k
 unfold zbL.f
 repeat' first
   | (with_reducible exact zcI.mono _ _ _ _ _ _ _)
   | (with_reducible exact LeO.refl _)
   | (with_reducible exact LeO.none _)
   | (with_reducible refine LeO.ite ?_ ?_)
   | (with_reducible refine LeO.bind ?_ (fun _ => ?_))
   | exact zcI.mono _ _ _ _ _ _ _
   | exact LeO.none _
   | refine LeO.ite ?_ ?_
   | refine LeO.bind ?_ (fun _ => ?_)
def zbL.T1 : Bool × List (List Nat × List Nat) := (true, [([], []), ([0], [0]), ([], []), ([2], [2]), ([1, 3], [1, 3]), ([], []), ([5], [5]), ([], []), ([7], [7]), ([6, 8, 4], [6, 8]), ([4, 9], [4, 9]), ([10, 9, 0, 1, 2, 3, 4, 5, 6, 7, 8, 9, 10], [10])])
def zbL.B1 : List Nat := [0, 1, 0, 4, 15, 0, 32, 0, 128, 511, 1023, 2047]
theorem zbL.tab1 : rtab .any (opsOf Tryd.f111 1) = zbL.T1 := by kernel_rfl
theorem zbL.bits1 : zdW zbL.T1.2 zbL.B1 = true := by kernel_rfl
set_option maxHeartbeats 8000000 in
set_option maxRecDepth 100000 in
theorem zbL.calls (k : Nat) (a0_0 : Int) (a0_1 : Int) (a0_2 : Int) (a0_3 : Int) (a0_4 : Int) (a0_5 : Int) (a1_0 : Int) (a1_1 : Int) (a1_2 : Int) (a1_3 : Int) (a1_4 : Int) (a1_5 : Int) (r1 : Int) (r2 : Int) (r3 : Int) (r4 : Int) (r5 : Int) (r6 : Int) (w : World) (h : zbL.f k a0_0 a0_1 a0_2 a0_3 a0_4 a0_5 a1_0 a1_1 a1_2 a1_3 a1_4 a1_5 = some (r1, r2, r3, r4, r5, r6)) :
  Calls Tryd.prog 111 #[.agg #[.int .i64 a0_0, .int .i64 a0_1, .int .i64 a0_2, .int .i64 a0_3, .int .i64 a0_4, .int .i64 a0_5], .agg #[.int .i64 a1_0, .int .i64 a1_1, .int .i64 a1_2, .int .i64 a1_3, .int .i64 a1_4, .int .i64 a1_5]] w fun e w' => e = .returned (.agg #[.int .i64 r1, .int .i64 r2, .int .i64 r3, .int .i64 r4, .int .i64 r5, .int .i64 r6]) ∧ Below w.heap.size w w' := by
 have hu94 := Tryd.underlying94
 have hu92 := Tryd.underlying92
 have HB := zaJ (Below.refl w.heap.size w)
 have H : ((zcI.f k a0_0 a0_1 a0_2 a1_0 a1_1 a1_2).bind fun bt231 => ((zcI.f k a0_3 a0_4 a0_5 a1_3 a1_4 a1_5).bind fun bt234 => (some (bt231.1, bt231.2.1, bt231.2.2, bt234.1, bt234.2.1, bt234.2.2)))) = some (r1, r2, r3, r4, r5, r6) := h
 clear h
 replace H := Option.bind_eq_some_iff.mp H
 obtain ⟨⟨t231, t232, t233⟩, A30, H⟩ := H
 replace H : ((zcI.f k a0_3 a0_4 a0_5 a1_3 a1_4 a1_5).bind fun bt234 => (some (t231, t232, t233, bt234.1, bt234.2.1, bt234.2.2))) = some (r1, r2, r3, r4, r5, r6) := H
 have A3 := zaJ A30
 clear A30
 replace H := Option.bind_eq_some_iff.mp H
 obtain ⟨⟨t234, t235, t236⟩, A40, H⟩ := H
 replace H : (some (t231, t232, t233, t234, t235, t236)) = some (r1, r2, r3, r4, r5, r6) := H
 have A4 := zaJ A40
 clear A40
 simp only [Option.some.injEq, Prod.mk.injEq] at H
 obtain ⟨rfl, rfl, rfl, rfl, rfl, rfl⟩ := H
 go_enter Tryd.func111, Tryd.ntmps111
 try go_wp2_with (first | ((with_reducible refine zaQ (N := 2) rfl ?_); refine bx_ 2 #[.int .i64 a0_0, .int .i64 a0_1, .int .i64 a0_2, .int .i64 a0_3, .int .i64 a0_4, .int .i64 a0_5] 94 ?_; intro gb228 hg w5 hbox hb; have n0_ := (ns_ hb); have n1_ := zaJ (hbox); have n2_ := (ng_ hg); have n3_ := n2_; clear HB; have HB := n0_; have BK228 := n1_; have GW228 := n2_; have GE228 := n3_; clear n0_ n1_ n2_ n3_; clear hb hbox hg) | ((with_reducible refine zaQ (N := 3) rfl ?_); refine bx_ 3 #[.int .i64 a1_0, .int .i64 a1_1, .int .i64 a1_2, .int .i64 a1_3, .int .i64 a1_4, .int .i64 a1_5] 94 ?_; intro gb229 hg w6 hbox hb; have n0_ := zaJ (zaG (g := gb228) (o := .cells #[.int .i64 a0_0, .int .i64 a0_1, .int .i64 a0_2, .int .i64 a0_3, .int .i64 a0_4, .int .i64 a0_5] 94 (0, 0)) bk_ hb); have n1_ := (ns_ hb); have n2_ := zaJ (hbox); have n3_ := (ng_ hg); have n4_ := n3_; have n5_ := zaJ ((by rw [hg]; exact Nat.ne_of_lt (zbC (g := gb228) (o := .cells #[.int .i64 a0_0, .int .i64 a0_1, .int .i64 a0_2, .int .i64 a0_3, .int .i64 a0_4, .int .i64 a0_5] 94 (0, 0)) bk_) : gb228 ≠ gb229)); have n6_ := zaJ ((by rw [hg]; exact Nat.ne_of_gt (zbC (g := gb228) (o := .cells #[.int .i64 a0_0, .int .i64 a0_1, .int .i64 a0_2, .int .i64 a0_3, .int .i64 a0_4, .int .i64 a0_5] 94 (0, 0)) bk_) : gb229 ≠ gb228)); clear BK228; clear HB; have BK228 := n0_; have HB := n1_; have BK229 := n2_; have GW229 := n3_; have GE229 := n4_; have NB228_229 := n5_; have NB229_228 := n6_; clear n0_ n1_ n2_ n3_ n4_ n5_ n6_; clear hb hbox hg) | ((with_reducible refine zaQ (N := 4) rfl ?_); refine bx_ 4 #[.int .i64 0, .int .i64 0, .int .i64 0, .int .i64 0, .int .i64 0, .int .i64 0] 94 ?_; intro gb230 hg w7 hbox hb; have n0_ := zaJ (zaG (g := gb228) (o := .cells #[.int .i64 a0_0, .int .i64 a0_1, .int .i64 a0_2, .int .i64 a0_3, .int .i64 a0_4, .int .i64 a0_5] 94 (0, 0)) bk_ hb); have n1_ := zaJ (zaG (g := gb229) (o := .cells #[.int .i64 a1_0, .int .i64 a1_1, .int .i64 a1_2, .int .i64 a1_3, .int .i64 a1_4, .int .i64 a1_5] 94 (0, 0)) bk_ hb); have n2_ := (ns_ hb); have n3_ := zaJ (hbox); have n4_ := (ng_ hg); have n5_ := n4_; have n6_ := zaJ ((by rw [hg]; exact Nat.ne_of_lt (zbC (g := gb228) (o := .cells #[.int .i64 a0_0, .int .i64 a0_1, .int .i64 a0_2, .int .i64 a0_3, .int .i64 a0_4, .int .i64 a0_5] 94 (0, 0)) bk_) : gb228 ≠ gb230)); have n7_ := zaJ ((by rw [hg]; exact Nat.ne_of_gt (zbC (g := gb228) (o := .cells #[.int .i64 a0_0, .int .i64 a0_1, .int .i64 a0_2, .int .i64 a0_3, .int .i64 a0_4, .int .i64 a0_5] 94 (0, 0)) bk_) : gb230 ≠ gb228)); have n8_ := zaJ ((by rw [hg]; exact Nat.ne_of_lt (zbC (g := gb229) (o := .cells #[.int .i64 a1_0, .int .i64 a1_1, .int .i64 a1_2, .int .i64 a1_3, .int .i64 a1_4, .int .i64 a1_5] 94 (0, 0)) bk_) : gb229 ≠ gb230)); have n9_ := zaJ ((by rw [hg]; exact Nat.ne_of_gt (zbC (g := gb229) (o := .cells #[.int .i64 a1_0, .int .i64 a1_1, .int .i64 a1_2, .int .i64 a1_3, .int .i64 a1_4, .int .i64 a1_5] 94 (0, 0)) bk_) : gb230 ≠ gb229)); clear BK228; clear BK229; clear HB; have BK228 := n0_; have BK229 := n1_; have HB := n2_; have BK230 := n3_; have GW230 := n4_; have GE230 := n5_; have NB228_230 := n6_; have NB230_228 := n7_; have NB229_230 := n8_; have NB230_229 := n9_; clear n0_ n1_ n2_ n3_ n4_ n5_ n6_ n7_ n8_ n9_; clear hb hbox hg))
 have n0_ := zaJ (zaE BK228.out)
 have n1_ := zaJ (zaE BK229.out)
 have n2_ := zaJ (zaE BK230.out)
 have n3_ := zaJ (zbT HB.out)
 clear BK228
 clear BK229
 clear BK230
 clear HB
 have BK228 := n0_
 have BK229 := n1_
 have BK230 := n2_
 have HB := n3_
 clear n0_ n1_ n2_ n3_
 refine zdL (n := 12) (S := fun w' => w'.cell? ⟨gb228, 0, none⟩ = some (.int .i64 a0_0) ∧ w'.cell? ⟨gb228, 1, none⟩ = some (.int .i64 a0_1) ∧ w'.cell? ⟨gb228, 2, none⟩ = some (.int .i64 a0_2) ∧ w'.cell? ⟨gb228, 3, none⟩ = some (.int .i64 a0_3) ∧ w'.cell? ⟨gb228, 4, none⟩ = some (.int .i64 a0_4) ∧ w'.cell? ⟨gb228, 5, none⟩ = some (.int .i64 a0_5) ∧ w'.cell? ⟨gb229, 0, none⟩ = some (.int .i64 a1_0) ∧ w'.cell? ⟨gb229, 1, none⟩ = some (.int .i64 a1_1) ∧ w'.cell? ⟨gb229, 2, none⟩ = some (.int .i64 a1_2) ∧ w'.cell? ⟨gb229, 3, none⟩ = some (.int .i64 a1_3) ∧ w'.cell? ⟨gb229, 4, none⟩ = some (.int .i64 a1_4) ∧ w'.cell? ⟨gb229, 5, none⟩ = some (.int .i64 a1_5)) (ds := []) #[false, false, false, false, false, false, false, false, false, false, false, false] (by kernel_rfl) rfl rfl ⟨(zaB BK228.out 0).trans rfl, (zaB BK228.out 1).trans rfl, (zaB BK228.out 2).trans rfl, (zaB BK228.out 3).trans rfl, (zaB BK228.out 4).trans rfl, (zaB BK228.out 5).trans rfl, (zaB BK229.out 0).trans rfl, (zaB BK229.out 1).trans rfl, (zaB BK229.out 2).trans rfl, (zaB BK229.out 3).trans rfl, (zaB BK229.out 4).trans rfl, (zaB BK229.out 5).trans rfl⟩ (fun hHeld => ?_); refine zcN zbL.tab1 zbL.bits1 (fun HT_ HW_ => ?_)
 generalize w7.drew = w8 at BK228 BK229 BK230 HB hHeld ⊢
 refine pu_ 0 (some 5) (bl_ 12 1) ?_
 refine pu_ 2 (some 7) (bl_ 12 5) ?_
 refine pu_ 5 (some 10) (bl_ 12 37) ?_
 refine pu_ 7 (some 12) (bl_ 12 165) ?_
 refine zeJ 1 (some 6) (bl_ 12 167) hHeld ?_
 refine zeJ 3 (some 8) (bl_ 12 175) hHeld ?_
 refine zeJ 6 (some 11) (bl_ 12 239) hHeld ?_
 refine zeJ 8 (some 13) (bl_ 12 495) hHeld ?_
 refine zeK (i := 4) (N := some 9) (bl_ 12 511) rfl rfl (zcK HT_.out (by kernel_rfl)) (by decide) (fun K hK => ?_)
 refine zcY Tryd.func145 (by kernel_rfl) rfl #[.agg #[.int .i64 a0_0, .int .i64 a0_1, .int .i64 a0_2], .agg #[.int .i64 a1_0, .int .i64 a1_1, .int .i64 a1_2]] (by rfl) rfl rfl (by (try simp only [List.map_toArray, List.map_cons, List.map_nil]); first | done | rfl | (simp only [List.length_drop, List.length_take]; rfl)) ?_
 with_reducible refine (zcI.calls k a0_0 a0_1 a0_2 a1_0 a1_1 a1_2 t231 t232 t233 _ A3.out).mono ?_
 rintro e w9 ⟨rfl, hb⟩
 refine ⟨_, rfl, ?_⟩
 have n0_ := zaJ (zaG (g := gb228) (o := .cells #[.int .i64 a0_0, .int .i64 a0_1, .int .i64 a0_2, .int .i64 a0_3, .int .i64 a0_4, .int .i64 a0_5] 94 (0, 0)) bk_ hb)
 have n1_ := zaJ (zaG (g := gb229) (o := .cells #[.int .i64 a1_0, .int .i64 a1_1, .int .i64 a1_2, .int .i64 a1_3, .int .i64 a1_4, .int .i64 a1_5] 94 (0, 0)) bk_ hb)
 have n2_ := zaJ (zaG (g := gb230) (o := .cells #[.int .i64 0, .int .i64 0, .int .i64 0, .int .i64 0, .int .i64 0, .int .i64 0] 94 (0, 0)) bk_ hb)
 have n3_ := (ns_ hb)
 clear BK228
 clear BK229
 clear BK230
 clear HB
 have BK228 := n0_
 have BK229 := n1_
 have BK230 := n2_
 have HB := n3_
 clear n0_ n1_ n2_ n3_
 (try clear hb)
 (try clear hb2)
 (try clear hk)
 (try clear hi)
 refine hK.out _ _ ⟨(zaB BK228.out 0).trans rfl, (zaB BK228.out 1).trans rfl, (zaB BK228.out 2).trans rfl, (zaB BK228.out 3).trans rfl, (zaB BK228.out 4).trans rfl, (zaB BK228.out 5).trans rfl, (zaB BK229.out 0).trans rfl, (zaB BK229.out 1).trans rfl, (zaB BK229.out 2).trans rfl, (zaB BK229.out 3).trans rfl, (zaB BK229.out 4).trans rfl, (zaB BK229.out 5).trans rfl⟩ (fun hHeld => ?_)
 clear hK K
 refine zcX (a' := ?_) ?_ ?_
 rotate_left
 ·show Act.put _ (some 9) _ = _
  simp only [Act.put, List.setIfInBounds_toArray, List.set_cons_zero, List.set_cons_succ, zbW, zbY]
  rfl
 refine zeK (i := 9) (N := some 14) (bl_ 12 1023) rfl rfl (zcK HT_.out (by kernel_rfl)) (by decide) (fun K hK => ?_)
 refine zcY Tryd.func145 (by kernel_rfl) rfl #[.agg #[.int .i64 a0_3, .int .i64 a0_4, .int .i64 a0_5], .agg #[.int .i64 a1_3, .int .i64 a1_4, .int .i64 a1_5]] (by rfl) rfl rfl (by (try simp only [List.map_toArray, List.map_cons, List.map_nil]); first | done | rfl | (simp only [List.length_drop, List.length_take]; rfl)) ?_
 with_reducible refine (zcI.calls k a0_3 a0_4 a0_5 a1_3 a1_4 a1_5 t234 t235 t236 _ A4.out).mono ?_
 rintro e w10 ⟨rfl, hb⟩
 refine ⟨_, rfl, ?_⟩
 have n0_ := zaJ (zaG (g := gb228) (o := .cells #[.int .i64 a0_0, .int .i64 a0_1, .int .i64 a0_2, .int .i64 a0_3, .int .i64 a0_4, .int .i64 a0_5] 94 (0, 0)) bk_ hb)
 have n1_ := zaJ (zaG (g := gb229) (o := .cells #[.int .i64 a1_0, .int .i64 a1_1, .int .i64 a1_2, .int .i64 a1_3, .int .i64 a1_4, .int .i64 a1_5] 94 (0, 0)) bk_ hb)
 have n2_ := zaJ (zaG (g := gb230) (o := .cells #[.int .i64 0, .int .i64 0, .int .i64 0, .int .i64 0, .int .i64 0, .int .i64 0] 94 (0, 0)) bk_ hb)
 have n3_ := (ns_ hb)
 clear BK228
 clear BK229
 clear BK230
 clear HB
 have BK228 := n0_
 have BK229 := n1_
 have BK230 := n2_
 have HB := n3_
 clear n0_ n1_ n2_ n3_
 (try clear hb)
 (try clear hb2)
 (try clear hk)
 (try clear hi)
 refine hK.out _ _ ⟨(zaB BK228.out 0).trans rfl, (zaB BK228.out 1).trans rfl, (zaB BK228.out 2).trans rfl, (zaB BK228.out 3).trans rfl, (zaB BK228.out 4).trans rfl, (zaB BK228.out 5).trans rfl, (zaB BK229.out 0).trans rfl, (zaB BK229.out 1).trans rfl, (zaB BK229.out 2).trans rfl, (zaB BK229.out 3).trans rfl, (zaB BK229.out 4).trans rfl, (zaB BK229.out 5).trans rfl⟩ (fun hHeld => ?_)
 clear hK K
 refine zcX (a' := ?_) ?_ ?_
 rotate_left
 ·show Act.put _ (some 14) _ = _
  simp only [Act.put, List.setIfInBounds_toArray, List.set_cons_zero, List.set_cons_succ, zbW, zbY]
  rfl
 refine pu_ 10 (some 15) (bl_ 12 2047) ?_
 refine zeK (i := 11) (N := none) (bl_ 12 4095) rfl rfl (zcK HT_.out (by kernel_rfl)) (by decide) (fun K hK => ?_)
 have hs11 : w10.cell? ⟨gb230, 0, none⟩ = some (.int .i64 0) := (zaB BK230.out 0).trans rfl
 have hfs11 := zbE BK230.out 0
 have hns11_0 := NB228_230.out
 have hns11_1 := NB229_230.out
 have hms11_0 := NB230_228.out
 have hms11_1 := NB230_229.out
 have hs12 : w10.cell? ⟨gb230, 1, none⟩ = some (.int .i64 0) := (zaB BK230.out 1).trans rfl
 have hfs12 := zbE BK230.out 1
 have hns12_0 := NB228_230.out
 have hns12_1 := NB229_230.out
 have hms12_0 := NB230_228.out
 have hms12_1 := NB230_229.out
 have hs13 : w10.cell? ⟨gb230, 2, none⟩ = some (.int .i64 0) := (zaB BK230.out 2).trans rfl
 have hfs13 := zbE BK230.out 2
 have hns13_0 := NB228_230.out
 have hns13_1 := NB229_230.out
 have hms13_0 := NB230_228.out
 have hms13_1 := NB230_229.out
 have hs14 : w10.cell? ⟨gb230, 3, none⟩ = some (.int .i64 0) := (zaB BK230.out 3).trans rfl
 have hfs14 := zbE BK230.out 3
 have hns14_0 := NB228_230.out
 have hns14_1 := NB229_230.out
 have hms14_0 := NB230_228.out
 have hms14_1 := NB230_229.out
 have hs15 : w10.cell? ⟨gb230, 4, none⟩ = some (.int .i64 0) := (zaB BK230.out 4).trans rfl
 have hfs15 := zbE BK230.out 4
 have hns15_0 := NB228_230.out
 have hns15_1 := NB229_230.out
 have hms15_0 := NB230_228.out
 have hms15_1 := NB230_229.out
 have hs16 : w10.cell? ⟨gb230, 5, none⟩ = some (.int .i64 0) := (zaB BK230.out 5).trans rfl
 have hfs16 := zbE BK230.out 5
 have hns16_0 := NB228_230.out
 have hns16_1 := NB229_230.out
 have hms16_0 := NB230_228.out
 have hms16_1 := NB230_229.out
 refine skip_ (w1 := ?_) (by rfl) rfl ?_ ?_
 rotate_left
 ·go_simp
  rfl
 refine hK.out _ _ ⟨((zaF (p := ⟨gb230, _, none⟩) NB228_230.out _).trans (((zaF (p := ⟨gb230, _, none⟩) NB228_230.out _).trans (((zaF (p := ⟨gb230, _, none⟩) NB228_230.out _).trans (((zaF (p := ⟨gb230, _, none⟩) NB228_230.out _).trans (((zaF (p := ⟨gb230, _, none⟩) NB228_230.out _).trans (((zaF (p := ⟨gb230, _, none⟩) NB228_230.out _).trans (hHeld.1)))))))))))), ((zaF (p := ⟨gb230, _, none⟩) NB228_230.out _).trans (((zaF (p := ⟨gb230, _, none⟩) NB228_230.out _).trans (((zaF (p := ⟨gb230, _, none⟩) NB228_230.out _).trans (((zaF (p := ⟨gb230, _, none⟩) NB228_230.out _).trans (((zaF (p := ⟨gb230, _, none⟩) NB228_230.out _).trans (((zaF (p := ⟨gb230, _, none⟩) NB228_230.out _).trans (hHeld.2.1)))))))))))), ((zaF (p := ⟨gb230, _, none⟩) NB228_230.out _).trans (((zaF (p := ⟨gb230, _, none⟩) NB228_230.out _).trans (((zaF (p := ⟨gb230, _, none⟩) NB228_230.out _).trans (((zaF (p := ⟨gb230, _, none⟩) NB228_230.out _).trans (((zaF (p := ⟨gb230, _, none⟩) NB228_230.out _).trans (((zaF (p := ⟨gb230, _, none⟩) NB228_230.out _).trans (hHeld.2.2.1)))))))))))), ((zaF (p := ⟨gb230, _, none⟩) NB228_230.out _).trans (((zaF (p := ⟨gb230, _, none⟩) NB228_230.out _).trans (((zaF (p := ⟨gb230, _, none⟩) NB228_230.out _).trans (((zaF (p := ⟨gb230, _, none⟩) NB228_230.out _).trans (((zaF (p := ⟨gb230, _, none⟩) NB228_230.out _).trans (((zaF (p := ⟨gb230, _, none⟩) NB228_230.out _).trans (hHeld.2.2.2.1)))))))))))), ((zaF (p := ⟨gb230, _, none⟩) NB228_230.out _).trans (((zaF (p := ⟨gb230, _, none⟩) NB228_230.out _).trans (((zaF (p := ⟨gb230, _, none⟩) NB228_230.out _).trans (((zaF (p := ⟨gb230, _, none⟩) NB228_230.out _).trans (((zaF (p := ⟨gb230, _, none⟩) NB228_230.out _).trans (((zaF (p := ⟨gb230, _, none⟩) NB228_230.out _).trans (hHeld.2.2.2.2.1)))))))))))), ((zaF (p := ⟨gb230, _, none⟩) NB228_230.out _).trans (((zaF (p := ⟨gb230, _, none⟩) NB228_230.out _).trans (((zaF (p := ⟨gb230, _, none⟩) NB228_230.out _).trans (((zaF (p := ⟨gb230, _, none⟩) NB228_230.out _).trans (((zaF (p := ⟨gb230, _, none⟩) NB228_230.out _).trans (((zaF (p := ⟨gb230, _, none⟩) NB228_230.out _).trans (hHeld.2.2.2.2.2.1)))))))))))), ((zaF (p := ⟨gb230, _, none⟩) NB229_230.out _).trans (((zaF (p := ⟨gb230, _, none⟩) NB229_230.out _).trans (((zaF (p := ⟨gb230, _, none⟩) NB229_230.out _).trans (((zaF (p := ⟨gb230, _, none⟩) NB229_230.out _).trans (((zaF (p := ⟨gb230, _, none⟩) NB229_230.out _).trans (((zaF (p := ⟨gb230, _, none⟩) NB229_230.out _).trans (hHeld.2.2.2.2.2.2.1)))))))))))), ((zaF (p := ⟨gb230, _, none⟩) NB229_230.out _).trans (((zaF (p := ⟨gb230, _, none⟩) NB229_230.out _).trans (((zaF (p := ⟨gb230, _, none⟩) NB229_230.out _).trans (((zaF (p := ⟨gb230, _, none⟩) NB229_230.out _).trans (((zaF (p := ⟨gb230, _, none⟩) NB229_230.out _).trans (((zaF (p := ⟨gb230, _, none⟩) NB229_230.out _).trans (hHeld.2.2.2.2.2.2.2.1)))))))))))), ((zaF (p := ⟨gb230, _, none⟩) NB229_230.out _).trans (((zaF (p := ⟨gb230, _, none⟩) NB229_230.out _).trans (((zaF (p := ⟨gb230, _, none⟩) NB229_230.out _).trans (((zaF (p := ⟨gb230, _, none⟩) NB229_230.out _).trans (((zaF (p := ⟨gb230, _, none⟩) NB229_230.out _).trans (((zaF (p := ⟨gb230, _, none⟩) NB229_230.out _).trans (hHeld.2.2.2.2.2.2.2.2.1)))))))))))), ((zaF (p := ⟨gb230, _, none⟩) NB229_230.out _).trans (((zaF (p := ⟨gb230, _, none⟩) NB229_230.out _).trans (((zaF (p := ⟨gb230, _, none⟩) NB229_230.out _).trans (((zaF (p := ⟨gb230, _, none⟩) NB229_230.out _).trans (((zaF (p := ⟨gb230, _, none⟩) NB229_230.out _).trans (((zaF (p := ⟨gb230, _, none⟩) NB229_230.out _).trans (hHeld.2.2.2.2.2.2.2.2.2.1)))))))))))), ((zaF (p := ⟨gb230, _, none⟩) NB229_230.out _).trans (((zaF (p := ⟨gb230, _, none⟩) NB229_230.out _).trans (((zaF (p := ⟨gb230, _, none⟩) NB229_230.out _).trans (((zaF (p := ⟨gb230, _, none⟩) NB229_230.out _).trans (((zaF (p := ⟨gb230, _, none⟩) NB229_230.out _).trans (((zaF (p := ⟨gb230, _, none⟩) NB229_230.out _).trans (hHeld.2.2.2.2.2.2.2.2.2.2.1)))))))))))), ((zaF (p := ⟨gb230, _, none⟩) NB229_230.out _).trans (((zaF (p := ⟨gb230, _, none⟩) NB229_230.out _).trans (((zaF (p := ⟨gb230, _, none⟩) NB229_230.out _).trans (((zaF (p := ⟨gb230, _, none⟩) NB229_230.out _).trans (((zaF (p := ⟨gb230, _, none⟩) NB229_230.out _).trans (((zaF (p := ⟨gb230, _, none⟩) NB229_230.out _).trans (hHeld.2.2.2.2.2.2.2.2.2.2.2))))))))))))⟩ (fun hHeld => ?_)
 clear hK K
 refine zeS (zdD HT_.out (by kernel_rfl)) ?_
 try go_wp2
 refine bodyPost_ret (results_cell_row rfl _ _ gb230 94 #[.int .i64 t231, .int .i64 t232, .int .i64 t233, .int .i64 t234, .int .i64 t235, .int .i64 t236] (0, 0) _ rfl (by (with_reducible repeat (first | apply zaD | apply zaE | apply zaC)); refine zaL (cs := #[.int .i64 t231, .int .i64 t232, .int .i64 t233, .int .i64 t234, .int .i64 t235, .int .i64 0]) ?_ 5 _ rfl; (with_reducible repeat (first | apply zaD | apply zaE | apply zaC)); refine zaL (cs := #[.int .i64 t231, .int .i64 t232, .int .i64 t233, .int .i64 t234, .int .i64 0, .int .i64 0]) ?_ 4 _ rfl; (with_reducible repeat (first | apply zaD | apply zaE | apply zaC)); refine zaL (cs := #[.int .i64 t231, .int .i64 t232, .int .i64 t233, .int .i64 0, .int .i64 0, .int .i64 0]) ?_ 3 _ rfl; (with_reducible repeat (first | apply zaD | apply zaE | apply zaC)); refine zaL (cs := #[.int .i64 t231, .int .i64 t232, .int .i64 0, .int .i64 0, .int .i64 0, .int .i64 0]) ?_ 2 _ rfl; (with_reducible repeat (first | apply zaD | apply zaE | apply zaC)); refine zaL (cs := #[.int .i64 t231, .int .i64 0, .int .i64 0, .int .i64 0, .int .i64 0, .int .i64 0]) ?_ 1 _ rfl; (with_reducible repeat (first | apply zaD | apply zaE | apply zaC)); refine zaL (cs := #[.int .i64 0, .int .i64 0, .int .i64 0, .int .i64 0, .int .i64 0, .int .i64 0]) ?_ 0 _ rfl; (with_reducible repeat (first | apply zaD | apply zaE | apply zaC)); exact BK230.out) Tryd.underlying94 rfl (by kernel_rfl)) rfl ?_
 exact ⟨by first | rfl | (simp [zaI, zaH] <;> rfl) | (simp [*, zaI, zaH] <;> rfl), bb_⟩

end Go.Proofs.YtmajpmofeddknaaDoor.PFnExactInPolygon
