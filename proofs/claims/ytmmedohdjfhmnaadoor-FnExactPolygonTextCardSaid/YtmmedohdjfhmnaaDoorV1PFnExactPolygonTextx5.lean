-- Printed for this claim by this session's program pp.py, which drives the kit's print with additions. Not trusted: Lean checks it.
import Derived.Test.YtmmedohdjfhmnaaDoorV1PFnExactPolygonTextx0
import Derived.Test.YtmmedohdjfhmnaaDoorV1PFnExactPolygonTextx2
import Derived.Test.YtmmedohdjfhmnaaDoorV1PFnExactPolygonTextx3
import Derived.Test.YtmmedohdjfhmnaaDoorV1PFnExactPolygonTextx4
namespace Go.Proofs.YtmmedohdjfhmnaaDoor.PFnExactPolygonText
open Go.RowKit Go.Proofs.YtmmedohdjfhmnaaDoorW.PrintWords Go.Proofs.YtmmedohdjfhmnaaDoorW.PrintLast Go.Proofs.YtmmedohdjfhmnaaDoorW.PrintMore
attribute [local go_sem] zbB ziC zrC zhD znE zuB znH zkT   -- for this text's walks alone
set_option linter.unusedVariables false
set_option linter.unusedSimpArgs false

def zmD.f (k : Nat) (a0 : Int) (a1_0 : Int) (a1_1 : Int) (a1_2 : Int) (a1_3 : Int) (a1_4 : Int) (a1_5 : Int) : Option (Int × Int × Int) := (zqB.f a0).bind fun bt168 => ((ziY.f bt168.1 bt168.2.1 bt168.2.2.1 bt168.2.2.2.1 bt168.2.2.2.2.1 bt168.2.2.2.2.2).bind fun bt174 => ((zhW.f k bt174.1 bt174.2.1 bt174.2.2.1 a1_0 a1_1 a1_2).bind fun bt181 => ((zhW.f k bt174.2.2.2.1 bt174.2.2.2.2.1 bt174.2.2.2.2.2 a1_3 a1_4 a1_5).bind fun bt184 => ((zhQ.f k bt181.1 bt181.2.1 bt181.2.2 bt184.1 bt184.2.1 bt184.2.2).bind fun bt187 => (some (bt187.1, bt187.2.1, bt187.2.2))))))
theorem zmD.mono : ∀ a0 a1 a2 a3 a4 a5 a6 k, LeO (zmD.f k a0 a1 a2 a3 a4 a5 a6) (zmD.f (k + 1) a0 a1 a2 a3 a4 a5 a6) := by
 intro a0 a1 a2 a3 a4 a5 a6 k
 unfold zmD.f
 repeat' first
   | (with_reducible exact zhQ.mono _ _ _ _ _ _ _)
   | (with_reducible exact zhW.mono _ _ _ _ _ _ _)
   | (with_reducible exact LeO.refl _)
   | (with_reducible exact LeO.none _)
   | (with_reducible refine LeO.ite ?_ ?_)
   | (with_reducible refine LeO.bind ?_ (fun _ => ?_))
   | exact zhQ.mono _ _ _ _ _ _ _
   | exact zhW.mono _ _ _ _ _ _ _
   | exact LeO.none _
   | refine LeO.ite ?_ ?_
   | refine LeO.bind ?_ (fun _ => ?_)
def zmD.T2 : Bool × List (List Nat × List Nat) := (true, [([], []), ([0], [0]), ([], []), ([2], [2]), ([1, 3], [1, 3]), ([], []), ([5], [5]), ([], []), ([7], [7]), ([6, 8, 4], [6, 8]), ([4, 9, 9], [4, 9]), ([10, 10, 0, 1, 2, 3, 4, 5, 6, 7, 8, 9, 10], [10])])
def zmD.B2 : List Nat := [0, 1, 0, 4, 15, 0, 32, 0, 128, 511, 1023, 2047]
theorem zmD.tab2 : rtab .any (opsOf Tryd.f51 2) = zmD.T2 := by kernel_rfl
theorem zmD.bits2 : ztG zmD.T2.2 zmD.B2 = true := by kernel_rfl
set_option maxHeartbeats 8000000 in
set_option maxRecDepth 100000 in
theorem zmD.calls (k : Nat) (a0 : Int) (a1_0 : Int) (a1_1 : Int) (a1_2 : Int) (a1_3 : Int) (a1_4 : Int) (a1_5 : Int) (r1 : Int) (r2 : Int) (r3 : Int) (w : World) (h : zmD.f k a0 a1_0 a1_1 a1_2 a1_3 a1_4 a1_5 = some (r1, r2, r3)) :
  Calls Tryd.prog 51 #[.int .i64 a0, .agg #[.int .i64 a1_0, .int .i64 a1_1, .int .i64 a1_2, .int .i64 a1_3, .int .i64 a1_4, .int .i64 a1_5]] w fun e w' => e = .returned (.agg #[.int .i64 r1, .int .i64 r2, .int .i64 r3]) ∧ Below w.heap.size w w' := by
 have hu61 := Tryd.underlying61
 have hu59 := Tryd.underlying59
 have HB := zpS (Below.refl w.heap.size w)
 have H : ((zqB.f a0).bind fun bt168 => ((ziY.f bt168.1 bt168.2.1 bt168.2.2.1 bt168.2.2.2.1 bt168.2.2.2.2.1 bt168.2.2.2.2.2).bind fun bt174 => ((zhW.f k bt174.1 bt174.2.1 bt174.2.2.1 a1_0 a1_1 a1_2).bind fun bt181 => ((zhW.f k bt174.2.2.2.1 bt174.2.2.2.2.1 bt174.2.2.2.2.2 a1_3 a1_4 a1_5).bind fun bt184 => ((zhQ.f k bt181.1 bt181.2.1 bt181.2.2 bt184.1 bt184.2.1 bt184.2.2).bind fun bt187 => (some (bt187.1, bt187.2.1, bt187.2.2))))))) = some (r1, r2, r3) := h
 clear h
 replace H := Option.bind_eq_some_iff.mp H
 obtain ⟨⟨t168, t169, t170, t171, t172, t173⟩, A30, H⟩ := H
 replace H : ((ziY.f t168 t169 t170 t171 t172 t173).bind fun bt174 => ((zhW.f k bt174.1 bt174.2.1 bt174.2.2.1 a1_0 a1_1 a1_2).bind fun bt181 => ((zhW.f k bt174.2.2.2.1 bt174.2.2.2.2.1 bt174.2.2.2.2.2 a1_3 a1_4 a1_5).bind fun bt184 => ((zhQ.f k bt181.1 bt181.2.1 bt181.2.2 bt184.1 bt184.2.1 bt184.2.2).bind fun bt187 => (some (bt187.1, bt187.2.1, bt187.2.2)))))) = some (r1, r2, r3) := H
 have A3 := zpS A30
 clear A30
 replace H := Option.bind_eq_some_iff.mp H
 obtain ⟨⟨t174, t175, t176, t177, t178, t179⟩, A40, H⟩ := H
 replace H : ((zhW.f k t174 t175 t176 a1_0 a1_1 a1_2).bind fun bt181 => ((zhW.f k t177 t178 t179 a1_3 a1_4 a1_5).bind fun bt184 => ((zhQ.f k bt181.1 bt181.2.1 bt181.2.2 bt184.1 bt184.2.1 bt184.2.2).bind fun bt187 => (some (bt187.1, bt187.2.1, bt187.2.2))))) = some (r1, r2, r3) := H
 have A4 := zpS A40
 clear A40
 replace H := Option.bind_eq_some_iff.mp H
 obtain ⟨⟨t181, t182, t183⟩, A50, H⟩ := H
 replace H : ((zhW.f k t177 t178 t179 a1_3 a1_4 a1_5).bind fun bt184 => ((zhQ.f k t181 t182 t183 bt184.1 bt184.2.1 bt184.2.2).bind fun bt187 => (some (bt187.1, bt187.2.1, bt187.2.2)))) = some (r1, r2, r3) := H
 have A5 := zpS A50
 clear A50
 replace H := Option.bind_eq_some_iff.mp H
 obtain ⟨⟨t184, t185, t186⟩, A60, H⟩ := H
 replace H : ((zhQ.f k t181 t182 t183 t184 t185 t186).bind fun bt187 => (some (bt187.1, bt187.2.1, bt187.2.2))) = some (r1, r2, r3) := H
 have A6 := zpS A60
 clear A60
 replace H := Option.bind_eq_some_iff.mp H
 obtain ⟨⟨t187, t188, t189⟩, A70, H⟩ := H
 replace H : (some (t187, t188, t189)) = some (r1, r2, r3) := H
 have A7 := zpS A70
 clear A70
 simp only [Option.some.injEq, Prod.mk.injEq] at H
 obtain ⟨rfl, rfl, rfl⟩ := H
 go_enter Tryd.func51, Tryd.ntmps51
 try go_wp2_with (first | ((with_reducible refine zpZ (N := 3) rfl ?_); refine bx_ 3 #[.int .i64 a1_0, .int .i64 a1_1, .int .i64 a1_2, .int .i64 a1_3, .int .i64 a1_4, .int .i64 a1_5] 61 ?_; intro gb166 hg w8 hbox hb; have n0_ := (ns_ hb); have n1_ := zpS (hbox); have n2_ := (ng_ hg); have n3_ := n2_; clear HB; have HB := n0_; have BK166 := n1_; have GW166 := n2_; have GE166 := n3_; clear n0_ n1_ n2_ n3_; clear hb hbox hg) | ((with_reducible refine zpZ (N := 4) rfl ?_); refine bx_ 4 #[.int .i64 0, .int .i64 0, .int .i64 0] 59 ?_; intro gb167 hg w9 hbox hb; have n0_ := zpS (zgM (g := gb166) (o := .cells #[.int .i64 a1_0, .int .i64 a1_1, .int .i64 a1_2, .int .i64 a1_3, .int .i64 a1_4, .int .i64 a1_5] 61 (0, 0)) bk_ hb); have n1_ := (ns_ hb); have n2_ := zpS (hbox); have n3_ := (ng_ hg); have n4_ := n3_; have n5_ := zpS ((by rw [hg]; exact Nat.ne_of_lt (zmN (g := gb166) (o := .cells #[.int .i64 a1_0, .int .i64 a1_1, .int .i64 a1_2, .int .i64 a1_3, .int .i64 a1_4, .int .i64 a1_5] 61 (0, 0)) bk_) : gb166 ≠ gb167)); have n6_ := zpS ((by rw [hg]; exact Nat.ne_of_gt (zmN (g := gb166) (o := .cells #[.int .i64 a1_0, .int .i64 a1_1, .int .i64 a1_2, .int .i64 a1_3, .int .i64 a1_4, .int .i64 a1_5] 61 (0, 0)) bk_) : gb167 ≠ gb166)); clear BK166; clear HB; have BK166 := n0_; have HB := n1_; have BK167 := n2_; have GW167 := n3_; have GE167 := n4_; have NB166_167 := n5_; have NB167_166 := n6_; clear n0_ n1_ n2_ n3_ n4_ n5_ n6_; clear hb hbox hg) | ((with_reducible refine zgK (f := 68) rfl ?_); refine zqQ (some 7) rfl rfl Tryd.func68 (by kernel_rfl) rfl #[.int .i64 a0] rfl (by (try simp only [List.map_toArray, List.map_cons, List.map_nil]); first | done | rfl | (simp only [List.length_drop, List.length_take]; rfl)) ?_; (with_reducible refine (zqB.calls a0 t168 t169 t170 t171 t172 t173 _ A3.out).mono ?_); rintro e w10 ⟨rfl, hb⟩; refine ⟨_, rfl, ?_⟩; have n0_ := zpS (zgM (g := gb166) (o := .cells #[.int .i64 a1_0, .int .i64 a1_1, .int .i64 a1_2, .int .i64 a1_3, .int .i64 a1_4, .int .i64 a1_5] 61 (0, 0)) bk_ hb); have n1_ := zpS (zgM (g := gb167) (o := .cells #[.int .i64 0, .int .i64 0, .int .i64 0] 59 (0, 0)) bk_ hb); have n2_ := (ns_ hb); clear BK166; clear BK167; clear HB; have BK166 := n0_; have BK167 := n1_; have HB := n2_; clear n0_ n1_ n2_; (try clear hb); (try clear hb2)) | ((with_reducible refine zgK (f := 35) rfl ?_); refine zqQ (some 8) rfl rfl Tryd.func35 (by kernel_rfl) rfl #[.agg #[.int .i64 t168, .int .i64 t169, .int .i64 t170, .int .i64 t171, .int .i64 t172, .int .i64 t173]] rfl (by (try simp only [List.map_toArray, List.map_cons, List.map_nil]); first | done | rfl | (simp only [List.length_drop, List.length_take]; rfl)) ?_; (with_reducible refine (ziY.calls t168 t169 t170 t171 t172 t173 t174 t175 t176 t177 t178 t179 _ A4.out).mono ?_); rintro e w11 ⟨rfl, hb⟩; refine ⟨_, rfl, ?_⟩; have n0_ := zpS (zgM (g := gb166) (o := .cells #[.int .i64 a1_0, .int .i64 a1_1, .int .i64 a1_2, .int .i64 a1_3, .int .i64 a1_4, .int .i64 a1_5] 61 (0, 0)) bk_ hb); have n1_ := zpS (zgM (g := gb167) (o := .cells #[.int .i64 0, .int .i64 0, .int .i64 0] 59 (0, 0)) bk_ hb); have n2_ := (ns_ hb); clear BK166; clear BK167; clear HB; have BK166 := n0_; have BK167 := n1_; have HB := n2_; clear n0_ n1_ n2_; (try clear hb); (try clear hb2)) | ((with_reducible refine zpZ (N := 5) rfl ?_); refine bx_ 5 #[.int .i64 0, .int .i64 0, .int .i64 0, .int .i64 0, .int .i64 0, .int .i64 0] 61 ?_; intro gb180 hg w12 hbox hb; have n0_ := zpS (zgM (g := gb166) (o := .cells #[.int .i64 a1_0, .int .i64 a1_1, .int .i64 a1_2, .int .i64 a1_3, .int .i64 a1_4, .int .i64 a1_5] 61 (0, 0)) bk_ hb); have n1_ := zpS (zgM (g := gb167) (o := .cells #[.int .i64 0, .int .i64 0, .int .i64 0] 59 (0, 0)) bk_ hb); have n2_ := (ns_ hb); have n3_ := zpS (hbox); have n4_ := (ng_ hg); have n5_ := n4_; have n6_ := zpS ((by rw [hg]; exact Nat.ne_of_lt (zmN (g := gb166) (o := .cells #[.int .i64 a1_0, .int .i64 a1_1, .int .i64 a1_2, .int .i64 a1_3, .int .i64 a1_4, .int .i64 a1_5] 61 (0, 0)) bk_) : gb166 ≠ gb180)); have n7_ := zpS ((by rw [hg]; exact Nat.ne_of_gt (zmN (g := gb166) (o := .cells #[.int .i64 a1_0, .int .i64 a1_1, .int .i64 a1_2, .int .i64 a1_3, .int .i64 a1_4, .int .i64 a1_5] 61 (0, 0)) bk_) : gb180 ≠ gb166)); have n8_ := zpS ((by rw [hg]; exact Nat.ne_of_lt (zmN (g := gb167) (o := .cells #[.int .i64 0, .int .i64 0, .int .i64 0] 59 (0, 0)) bk_) : gb167 ≠ gb180)); have n9_ := zpS ((by rw [hg]; exact Nat.ne_of_gt (zmN (g := gb167) (o := .cells #[.int .i64 0, .int .i64 0, .int .i64 0] 59 (0, 0)) bk_) : gb180 ≠ gb167)); clear BK166; clear BK167; clear HB; have BK166 := n0_; have BK167 := n1_; have HB := n2_; have BK180 := n3_; have GW180 := n4_; have GE180 := n5_; have NB166_180 := n6_; have NB180_166 := n7_; have NB167_180 := n8_; have NB180_167 := n9_; clear n0_ n1_ n2_ n3_ n4_ n5_ n6_ n7_ n8_ n9_; clear hb hbox hg; have hnb13 := NB180_166.out; have hnc13 := NB166_180.out; have hnb14 := NB180_167.out; have hnc14 := NB167_180.out; obtain ⟨hcz15_0, hcz15_1, hcz15_2, hcz15_3, hcz15_4, hcz15_5⟩ := zrN BK180.out; obtain ⟨hfz15_0, hfz15_1, hfz15_2, hfz15_3, hfz15_4, hfz15_5⟩ := zoO BK180.out))
 have n0_ : Aside0 (((((((w12.setCell ⟨gb180, 0, none⟩ (.int .i64 t174)).setCell ⟨gb180, 1, none⟩ (.int .i64 t175)).setCell ⟨gb180, 2, none⟩ (.int .i64 t176)).setCell ⟨gb180, 3, none⟩ (.int .i64 t177)).setCell ⟨gb180, 4, none⟩ (.int .i64 t178)).setCell ⟨gb180, 5, none⟩ (.int .i64 t179)).heap[gb166]? = some (.cells #[.int .i64 a1_0, .int .i64 a1_1, .int .i64 a1_2, .int .i64 a1_3, .int .i64 a1_4, .int .i64 a1_5] 61 (0, 0))) := ⟨by (with_reducible repeat (first | apply zuW | apply ztN | apply zqY)); refine znI ?_ NB166_180.out _; (with_reducible repeat (first | apply zuW | apply ztN | apply zqY)); refine znI ?_ NB166_180.out _; (with_reducible repeat (first | apply zuW | apply ztN | apply zqY)); refine znI ?_ NB166_180.out _; (with_reducible repeat (first | apply zuW | apply ztN | apply zqY)); refine znI ?_ NB166_180.out _; (with_reducible repeat (first | apply zuW | apply ztN | apply zqY)); refine znI ?_ NB166_180.out _; (with_reducible repeat (first | apply zuW | apply ztN | apply zqY)); refine znI ?_ NB166_180.out _; (with_reducible repeat (first | apply zuW | apply ztN | apply zqY)); exact BK166.out⟩
 have n1_ : Aside0 (((((((w12.setCell ⟨gb180, 0, none⟩ (.int .i64 t174)).setCell ⟨gb180, 1, none⟩ (.int .i64 t175)).setCell ⟨gb180, 2, none⟩ (.int .i64 t176)).setCell ⟨gb180, 3, none⟩ (.int .i64 t177)).setCell ⟨gb180, 4, none⟩ (.int .i64 t178)).setCell ⟨gb180, 5, none⟩ (.int .i64 t179)).heap[gb167]? = some (.cells #[.int .i64 0, .int .i64 0, .int .i64 0] 59 (0, 0))) := ⟨by (with_reducible repeat (first | apply zuW | apply ztN | apply zqY)); refine znI ?_ NB167_180.out _; (with_reducible repeat (first | apply zuW | apply ztN | apply zqY)); refine znI ?_ NB167_180.out _; (with_reducible repeat (first | apply zuW | apply ztN | apply zqY)); refine znI ?_ NB167_180.out _; (with_reducible repeat (first | apply zuW | apply ztN | apply zqY)); refine znI ?_ NB167_180.out _; (with_reducible repeat (first | apply zuW | apply ztN | apply zqY)); refine znI ?_ NB167_180.out _; (with_reducible repeat (first | apply zuW | apply ztN | apply zqY)); refine znI ?_ NB167_180.out _; (with_reducible repeat (first | apply zuW | apply ztN | apply zqY)); exact BK167.out⟩
 have n2_ : Aside0 (((((((w12.setCell ⟨gb180, 0, none⟩ (.int .i64 t174)).setCell ⟨gb180, 1, none⟩ (.int .i64 t175)).setCell ⟨gb180, 2, none⟩ (.int .i64 t176)).setCell ⟨gb180, 3, none⟩ (.int .i64 t177)).setCell ⟨gb180, 4, none⟩ (.int .i64 t178)).setCell ⟨gb180, 5, none⟩ (.int .i64 t179)).heap[gb180]? = some (.cells #[.int .i64 t174, .int .i64 t175, .int .i64 t176, .int .i64 t177, .int .i64 t178, .int .i64 t179] 61 (0, 0))) := ⟨by (with_reducible repeat (first | apply zuW | apply ztN | apply zqY)); refine zlL (cs := #[.int .i64 t174, .int .i64 t175, .int .i64 t176, .int .i64 t177, .int .i64 t178, .int .i64 0]) ?_ 5 _ rfl; (with_reducible repeat (first | apply zuW | apply ztN | apply zqY)); refine zlL (cs := #[.int .i64 t174, .int .i64 t175, .int .i64 t176, .int .i64 t177, .int .i64 0, .int .i64 0]) ?_ 4 _ rfl; (with_reducible repeat (first | apply zuW | apply ztN | apply zqY)); refine zlL (cs := #[.int .i64 t174, .int .i64 t175, .int .i64 t176, .int .i64 0, .int .i64 0, .int .i64 0]) ?_ 3 _ rfl; (with_reducible repeat (first | apply zuW | apply ztN | apply zqY)); refine zlL (cs := #[.int .i64 t174, .int .i64 t175, .int .i64 0, .int .i64 0, .int .i64 0, .int .i64 0]) ?_ 2 _ rfl; (with_reducible repeat (first | apply zuW | apply ztN | apply zqY)); refine zlL (cs := #[.int .i64 t174, .int .i64 0, .int .i64 0, .int .i64 0, .int .i64 0, .int .i64 0]) ?_ 1 _ rfl; (with_reducible repeat (first | apply zuW | apply ztN | apply zqY)); refine zlL (cs := #[.int .i64 0, .int .i64 0, .int .i64 0, .int .i64 0, .int .i64 0, .int .i64 0]) ?_ 0 _ rfl; (with_reducible repeat (first | apply zuW | apply ztN | apply zqY)); exact BK180.out⟩
 have n3_ : Aside0 (Below w.heap.size w ((((((w12.setCell ⟨gb180, 0, none⟩ (.int .i64 t174)).setCell ⟨gb180, 1, none⟩ (.int .i64 t175)).setCell ⟨gb180, 2, none⟩ (.int .i64 t176)).setCell ⟨gb180, 3, none⟩ (.int .i64 t177)).setCell ⟨gb180, 4, none⟩ (.int .i64 t178)).setCell ⟨gb180, 5, none⟩ (.int .i64 t179))) := ⟨bb_⟩
 (try clear BK166)
 (try clear BK167)
 (try clear BK180)
 (try clear HB)
 generalize ((((((w12.setCell ⟨gb180, 0, none⟩ (.int .i64 t174)).setCell ⟨gb180, 1, none⟩ (.int .i64 t175)).setCell ⟨gb180, 2, none⟩ (.int .i64 t176)).setCell ⟨gb180, 3, none⟩ (.int .i64 t177)).setCell ⟨gb180, 4, none⟩ (.int .i64 t178)).setCell ⟨gb180, 5, none⟩ (.int .i64 t179)) = w16 at n0_ n1_ n2_ n3_ ⊢
 have BK166 := n0_
 have BK167 := n1_
 have BK180 := n2_
 have HB := n3_
 clear n0_ n1_ n2_ n3_
 have n0_ := zpS (ztN BK166.out)
 have n1_ := zpS (ztN BK167.out)
 have n2_ := zpS (ztN BK180.out)
 have n3_ := zpS (zvF HB.out)
 clear BK166
 clear BK167
 clear BK180
 clear HB
 have BK166 := n0_
 have BK167 := n1_
 have BK180 := n2_
 have HB := n3_
 clear n0_ n1_ n2_ n3_
 refine zpB (n := 12) (S := fun w' => w'.cell? ⟨gb180, 0, none⟩ = some (.int .i64 t174) ∧ w'.cell? ⟨gb180, 1, none⟩ = some (.int .i64 t175) ∧ w'.cell? ⟨gb180, 2, none⟩ = some (.int .i64 t176) ∧ w'.cell? ⟨gb180, 3, none⟩ = some (.int .i64 t177) ∧ w'.cell? ⟨gb180, 4, none⟩ = some (.int .i64 t178) ∧ w'.cell? ⟨gb180, 5, none⟩ = some (.int .i64 t179) ∧ w'.cell? ⟨gb166, 0, none⟩ = some (.int .i64 a1_0) ∧ w'.cell? ⟨gb166, 1, none⟩ = some (.int .i64 a1_1) ∧ w'.cell? ⟨gb166, 2, none⟩ = some (.int .i64 a1_2) ∧ w'.cell? ⟨gb166, 3, none⟩ = some (.int .i64 a1_3) ∧ w'.cell? ⟨gb166, 4, none⟩ = some (.int .i64 a1_4) ∧ w'.cell? ⟨gb166, 5, none⟩ = some (.int .i64 a1_5)) (ds := []) #[false, false, false, false, false, false, false, false, false, false, false, false] (by kernel_rfl) rfl rfl ⟨(zzS BK180.out 0).trans rfl, (zzS BK180.out 1).trans rfl, (zzS BK180.out 2).trans rfl, (zzS BK180.out 3).trans rfl, (zzS BK180.out 4).trans rfl, (zzS BK180.out 5).trans rfl, (zzS BK166.out 0).trans rfl, (zzS BK166.out 1).trans rfl, (zzS BK166.out 2).trans rfl, (zzS BK166.out 3).trans rfl, (zzS BK166.out 4).trans rfl, (zzS BK166.out 5).trans rfl⟩ (fun hHeld => ?_); refine zwI zmD.tab2 zmD.bits2 (fun HT_ HW_ => ?_)
 generalize w16.drew = w17 at BK166 BK167 BK180 HB hHeld ⊢
 refine pu_ 0 (some 9) (bl_ 12 1) ?_
 refine pu_ 2 (some 11) (bl_ 12 5) ?_
 refine pu_ 5 (some 14) (bl_ 12 37) ?_
 refine pu_ 7 (some 16) (bl_ 12 165) ?_
 refine zmW 1 (some 10) (bl_ 12 167) hHeld ?_
 refine zmW 3 (some 12) (bl_ 12 175) hHeld ?_
 refine zmW 6 (some 15) (bl_ 12 239) hHeld ?_
 refine zmW 8 (some 17) (bl_ 12 495) hHeld ?_
 refine zdC (i := 4) (N := some 13) (bl_ 12 511) rfl rfl (zeO HT_.out (by kernel_rfl)) (by decide) (fun K hK => ?_)
 refine zqW Tryd.func69 (by kernel_rfl) rfl #[.agg #[.int .i64 t174, .int .i64 t175, .int .i64 t176], .agg #[.int .i64 a1_0, .int .i64 a1_1, .int .i64 a1_2]] (by rfl) rfl rfl (by (try simp only [List.map_toArray, List.map_cons, List.map_nil]); first | done | rfl | (simp only [List.length_drop, List.length_take]; rfl)) ?_
 with_reducible refine (zhW.calls k t174 t175 t176 a1_0 a1_1 a1_2 t181 t182 t183 _ A5.out).mono ?_
 rintro e w18 ⟨rfl, hb⟩
 refine ⟨_, rfl, ?_⟩
 have n0_ := zpS (zgM (g := gb166) (o := .cells #[.int .i64 a1_0, .int .i64 a1_1, .int .i64 a1_2, .int .i64 a1_3, .int .i64 a1_4, .int .i64 a1_5] 61 (0, 0)) bk_ hb)
 have n1_ := zpS (zgM (g := gb167) (o := .cells #[.int .i64 0, .int .i64 0, .int .i64 0] 59 (0, 0)) bk_ hb)
 have n2_ := zpS (zgM (g := gb180) (o := .cells #[.int .i64 t174, .int .i64 t175, .int .i64 t176, .int .i64 t177, .int .i64 t178, .int .i64 t179] 61 (0, 0)) bk_ hb)
 have n3_ := (ns_ hb)
 clear BK166
 clear BK167
 clear BK180
 clear HB
 have BK166 := n0_
 have BK167 := n1_
 have BK180 := n2_
 have HB := n3_
 clear n0_ n1_ n2_ n3_
 (try clear hb)
 (try clear hb2)
 (try clear hk)
 (try clear hi)
 refine hK.out _ _ ⟨(zzS BK180.out 0).trans rfl, (zzS BK180.out 1).trans rfl, (zzS BK180.out 2).trans rfl, (zzS BK180.out 3).trans rfl, (zzS BK180.out 4).trans rfl, (zzS BK180.out 5).trans rfl, (zzS BK166.out 0).trans rfl, (zzS BK166.out 1).trans rfl, (zzS BK166.out 2).trans rfl, (zzS BK166.out 3).trans rfl, (zzS BK166.out 4).trans rfl, (zzS BK166.out 5).trans rfl⟩ (fun hHeld => ?_)
 clear hK K
 refine zaN (a' := ?_) ?_ ?_
 rotate_left
 ·show Act.put _ (some 13) _ = _
  simp only [Act.put, List.setIfInBounds_toArray, List.set_cons_zero, List.set_cons_succ, zcM, ziJ]
  rfl
 refine zdC (i := 9) (N := some 18) (bl_ 12 1023) rfl rfl (zeO HT_.out (by kernel_rfl)) (by decide) (fun K hK => ?_)
 refine zqW Tryd.func69 (by kernel_rfl) rfl #[.agg #[.int .i64 t177, .int .i64 t178, .int .i64 t179], .agg #[.int .i64 a1_3, .int .i64 a1_4, .int .i64 a1_5]] (by rfl) rfl rfl (by (try simp only [List.map_toArray, List.map_cons, List.map_nil]); first | done | rfl | (simp only [List.length_drop, List.length_take]; rfl)) ?_
 with_reducible refine (zhW.calls k t177 t178 t179 a1_3 a1_4 a1_5 t184 t185 t186 _ A6.out).mono ?_
 rintro e w19 ⟨rfl, hb⟩
 refine ⟨_, rfl, ?_⟩
 have n0_ := zpS (zgM (g := gb166) (o := .cells #[.int .i64 a1_0, .int .i64 a1_1, .int .i64 a1_2, .int .i64 a1_3, .int .i64 a1_4, .int .i64 a1_5] 61 (0, 0)) bk_ hb)
 have n1_ := zpS (zgM (g := gb167) (o := .cells #[.int .i64 0, .int .i64 0, .int .i64 0] 59 (0, 0)) bk_ hb)
 have n2_ := zpS (zgM (g := gb180) (o := .cells #[.int .i64 t174, .int .i64 t175, .int .i64 t176, .int .i64 t177, .int .i64 t178, .int .i64 t179] 61 (0, 0)) bk_ hb)
 have n3_ := (ns_ hb)
 clear BK166
 clear BK167
 clear BK180
 clear HB
 have BK166 := n0_
 have BK167 := n1_
 have BK180 := n2_
 have HB := n3_
 clear n0_ n1_ n2_ n3_
 (try clear hb)
 (try clear hb2)
 (try clear hk)
 (try clear hi)
 refine hK.out _ _ ⟨(zzS BK180.out 0).trans rfl, (zzS BK180.out 1).trans rfl, (zzS BK180.out 2).trans rfl, (zzS BK180.out 3).trans rfl, (zzS BK180.out 4).trans rfl, (zzS BK180.out 5).trans rfl, (zzS BK166.out 0).trans rfl, (zzS BK166.out 1).trans rfl, (zzS BK166.out 2).trans rfl, (zzS BK166.out 3).trans rfl, (zzS BK166.out 4).trans rfl, (zzS BK166.out 5).trans rfl⟩ (fun hHeld => ?_)
 clear hK K
 refine zaN (a' := ?_) ?_ ?_
 rotate_left
 ·show Act.put _ (some 18) _ = _
  simp only [Act.put, List.setIfInBounds_toArray, List.set_cons_zero, List.set_cons_succ, zcM, ziJ]
  rfl
 refine zdC (i := 10) (N := some 19) (bl_ 12 2047) rfl rfl (zeO HT_.out (by kernel_rfl)) (by decide) (fun K hK => ?_)
 refine zqW Tryd.func66 (by kernel_rfl) rfl #[.agg #[.int .i64 t181, .int .i64 t182, .int .i64 t183], .agg #[.int .i64 t184, .int .i64 t185, .int .i64 t186]] (by rfl) rfl rfl (by (try simp only [List.map_toArray, List.map_cons, List.map_nil]); first | done | rfl | (simp only [List.length_drop, List.length_take]; rfl)) ?_
 with_reducible refine (zhQ.calls k t181 t182 t183 t184 t185 t186 t187 t188 t189 _ A7.out).mono ?_
 rintro e w20 ⟨rfl, hb⟩
 refine ⟨_, rfl, ?_⟩
 have n0_ := zpS (zgM (g := gb166) (o := .cells #[.int .i64 a1_0, .int .i64 a1_1, .int .i64 a1_2, .int .i64 a1_3, .int .i64 a1_4, .int .i64 a1_5] 61 (0, 0)) bk_ hb)
 have n1_ := zpS (zgM (g := gb167) (o := .cells #[.int .i64 0, .int .i64 0, .int .i64 0] 59 (0, 0)) bk_ hb)
 have n2_ := zpS (zgM (g := gb180) (o := .cells #[.int .i64 t174, .int .i64 t175, .int .i64 t176, .int .i64 t177, .int .i64 t178, .int .i64 t179] 61 (0, 0)) bk_ hb)
 have n3_ := (ns_ hb)
 clear BK166
 clear BK167
 clear BK180
 clear HB
 have BK166 := n0_
 have BK167 := n1_
 have BK180 := n2_
 have HB := n3_
 clear n0_ n1_ n2_ n3_
 (try clear hb)
 (try clear hb2)
 (try clear hk)
 (try clear hi)
 refine hK.out _ _ ⟨(zzS BK180.out 0).trans rfl, (zzS BK180.out 1).trans rfl, (zzS BK180.out 2).trans rfl, (zzS BK180.out 3).trans rfl, (zzS BK180.out 4).trans rfl, (zzS BK180.out 5).trans rfl, (zzS BK166.out 0).trans rfl, (zzS BK166.out 1).trans rfl, (zzS BK166.out 2).trans rfl, (zzS BK166.out 3).trans rfl, (zzS BK166.out 4).trans rfl, (zzS BK166.out 5).trans rfl⟩ (fun hHeld => ?_)
 clear hK K
 refine zaN (a' := ?_) ?_ ?_
 rotate_left
 ·show Act.put _ (some 19) _ = _
  simp only [Act.put, List.setIfInBounds_toArray, List.set_cons_zero, List.set_cons_succ, zcM, ziJ]
  rfl
 refine zdC (i := 11) (N := none) (bl_ 12 4095) rfl rfl (zeO HT_.out (by kernel_rfl)) (by decide) (fun K hK => ?_)
 have hs21 : w20.cell? ⟨gb167, 0, none⟩ = some (.int .i64 0) := (zzS BK167.out 0).trans rfl
 have hfs21 := zjF BK167.out 0
 have hns21_0 := NB166_167.out
 have hns21_2 := NB180_167.out
 have hms21_0 := NB167_166.out
 have hms21_2 := NB167_180.out
 have hs22 : w20.cell? ⟨gb167, 1, none⟩ = some (.int .i64 0) := (zzS BK167.out 1).trans rfl
 have hfs22 := zjF BK167.out 1
 have hns22_0 := NB166_167.out
 have hns22_2 := NB180_167.out
 have hms22_0 := NB167_166.out
 have hms22_2 := NB167_180.out
 have hs23 : w20.cell? ⟨gb167, 2, none⟩ = some (.int .i64 0) := (zzS BK167.out 2).trans rfl
 have hfs23 := zjF BK167.out 2
 have hns23_0 := NB166_167.out
 have hns23_2 := NB180_167.out
 have hms23_0 := NB167_166.out
 have hms23_2 := NB167_180.out
 refine skip_ (w1 := ?_) (by rfl) rfl ?_ ?_
 rotate_left
 ·go_simp
  rfl
 refine hK.out _ _ ⟨((zgQ (p := ⟨gb167, _, none⟩) NB180_167.out _).trans (((zgQ (p := ⟨gb167, _, none⟩) NB180_167.out _).trans (((zgQ (p := ⟨gb167, _, none⟩) NB180_167.out _).trans (hHeld.1)))))), ((zgQ (p := ⟨gb167, _, none⟩) NB180_167.out _).trans (((zgQ (p := ⟨gb167, _, none⟩) NB180_167.out _).trans (((zgQ (p := ⟨gb167, _, none⟩) NB180_167.out _).trans (hHeld.2.1)))))), ((zgQ (p := ⟨gb167, _, none⟩) NB180_167.out _).trans (((zgQ (p := ⟨gb167, _, none⟩) NB180_167.out _).trans (((zgQ (p := ⟨gb167, _, none⟩) NB180_167.out _).trans (hHeld.2.2.1)))))), ((zgQ (p := ⟨gb167, _, none⟩) NB180_167.out _).trans (((zgQ (p := ⟨gb167, _, none⟩) NB180_167.out _).trans (((zgQ (p := ⟨gb167, _, none⟩) NB180_167.out _).trans (hHeld.2.2.2.1)))))), ((zgQ (p := ⟨gb167, _, none⟩) NB180_167.out _).trans (((zgQ (p := ⟨gb167, _, none⟩) NB180_167.out _).trans (((zgQ (p := ⟨gb167, _, none⟩) NB180_167.out _).trans (hHeld.2.2.2.2.1)))))), ((zgQ (p := ⟨gb167, _, none⟩) NB180_167.out _).trans (((zgQ (p := ⟨gb167, _, none⟩) NB180_167.out _).trans (((zgQ (p := ⟨gb167, _, none⟩) NB180_167.out _).trans (hHeld.2.2.2.2.2.1)))))), ((zgQ (p := ⟨gb167, _, none⟩) NB166_167.out _).trans (((zgQ (p := ⟨gb167, _, none⟩) NB166_167.out _).trans (((zgQ (p := ⟨gb167, _, none⟩) NB166_167.out _).trans (hHeld.2.2.2.2.2.2.1)))))), ((zgQ (p := ⟨gb167, _, none⟩) NB166_167.out _).trans (((zgQ (p := ⟨gb167, _, none⟩) NB166_167.out _).trans (((zgQ (p := ⟨gb167, _, none⟩) NB166_167.out _).trans (hHeld.2.2.2.2.2.2.2.1)))))), ((zgQ (p := ⟨gb167, _, none⟩) NB166_167.out _).trans (((zgQ (p := ⟨gb167, _, none⟩) NB166_167.out _).trans (((zgQ (p := ⟨gb167, _, none⟩) NB166_167.out _).trans (hHeld.2.2.2.2.2.2.2.2.1)))))), ((zgQ (p := ⟨gb167, _, none⟩) NB166_167.out _).trans (((zgQ (p := ⟨gb167, _, none⟩) NB166_167.out _).trans (((zgQ (p := ⟨gb167, _, none⟩) NB166_167.out _).trans (hHeld.2.2.2.2.2.2.2.2.2.1)))))), ((zgQ (p := ⟨gb167, _, none⟩) NB166_167.out _).trans (((zgQ (p := ⟨gb167, _, none⟩) NB166_167.out _).trans (((zgQ (p := ⟨gb167, _, none⟩) NB166_167.out _).trans (hHeld.2.2.2.2.2.2.2.2.2.2.1)))))), ((zgQ (p := ⟨gb167, _, none⟩) NB166_167.out _).trans (((zgQ (p := ⟨gb167, _, none⟩) NB166_167.out _).trans (((zgQ (p := ⟨gb167, _, none⟩) NB166_167.out _).trans (hHeld.2.2.2.2.2.2.2.2.2.2.2))))))⟩ (fun hHeld => ?_)
 clear hK K
 refine znK (zzP HT_.out (by kernel_rfl)) ?_
 try go_wp2
 refine bodyPost_ret (results_cell_row rfl _ _ gb167 59 #[.int .i64 t187, .int .i64 t188, .int .i64 t189] (0, 0) _ rfl (by (with_reducible repeat (first | apply zuW | apply ztN | apply zqY)); refine zlL (cs := #[.int .i64 t187, .int .i64 t188, .int .i64 0]) ?_ 2 _ rfl; (with_reducible repeat (first | apply zuW | apply ztN | apply zqY)); refine zlL (cs := #[.int .i64 t187, .int .i64 0, .int .i64 0]) ?_ 1 _ rfl; (with_reducible repeat (first | apply zuW | apply ztN | apply zqY)); refine zlL (cs := #[.int .i64 0, .int .i64 0, .int .i64 0]) ?_ 0 _ rfl; (with_reducible repeat (first | apply zuW | apply ztN | apply zqY)); exact BK167.out) Tryd.underlying59 rfl (by kernel_rfl)) rfl ?_
 exact ⟨by first | rfl | (simp [ziS, znJ] <;> rfl) | (simp [*, ziS, znJ] <;> rfl), bb_⟩

def znA.l0 : Nat → Int → Int → Int → Int → Int → Int → Int → Option (Int)
 | 0, _, _, _, _, _, _, _ => none
 | k + 1, x3, x191000, x191001, x191002, x191003, x191004, x191005 => if x3 < 16 then ((zmD.f k (wrap64 (x3 + 4)) x191000 x191001 x191002 x191003 x191004 x191005).bind fun bt191 => ((zbR.f bt191.1 bt191.2.1 bt191.2.2).bind fun t194 => (if t194 = true then ((zmD.f k x3 x191000 x191001 x191002 x191003 x191004 x191005).bind fun bt195 => ((zxR.f k bt195.1 bt195.2.1 bt195.2.2).bind fun t198 => (if t198 > 0 then (some x3) else (znA.l0 k (wrap64 (x3 + 1)) x191000 x191001 x191002 x191003 x191004 x191005)))) else (znA.l0 k (wrap64 (x3 + 1)) x191000 x191001 x191002 x191003 x191004 x191005)))) else (some (-1))
def znA.f (k : Nat) (a0_0 : Int) (a0_1 : Int) (a0_2 : Int) (a0_3 : Int) (a0_4 : Int) (a0_5 : Int) : Option (Int) := znA.l0 k 0 a0_0 a0_1 a0_2 a0_3 a0_4 a0_5
theorem znA.mono_l : ∀ k, (∀ y0 y1 y2 y3 y4 y5 y6, LeO (znA.l0 k y0 y1 y2 y3 y4 y5 y6) (znA.l0 (k + 1) y0 y1 y2 y3 y4 y5 y6))
 | 0 => fun _ _ _ _ _ _ _ r h => by simp [znA.l0] at h
 | k + 1 => by
  have ih0 := znA.mono_l k
  ·intro y0 y1 y2 y3 y4 y5 y6
   unfold znA.l0
   repeat' first
   | (with_reducible exact ih0 _ _ _ _ _ _ _)
   | (with_reducible exact zxR.mono _ _ _ _)
   | (with_reducible exact zmD.mono _ _ _ _ _ _ _ _)
   | (with_reducible exact LeO.refl _)
   | (with_reducible exact LeO.none _)
   | (with_reducible refine LeO.ite ?_ ?_)
   | (with_reducible refine LeO.bind ?_ (fun _ => ?_))
   | exact ih0 _ _ _ _ _ _ _
   | exact zxR.mono _ _ _ _
   | exact zmD.mono _ _ _ _ _ _ _ _
   | exact LeO.none _
   | refine LeO.ite ?_ ?_
   | refine LeO.bind ?_ (fun _ => ?_)
theorem znA.mono : ∀ a0 a1 a2 a3 a4 a5 k, LeO (znA.f k a0 a1 a2 a3 a4 a5) (znA.f (k + 1) a0 a1 a2 a3 a4 a5) := by
 intro a0 a1 a2 a3 a4 a5 k
 have ih0 := znA.mono_l k
 unfold znA.f
 repeat' first
   | (with_reducible exact ih0 _ _ _ _ _ _ _)
   | (with_reducible exact zxR.mono _ _ _ _)
   | (with_reducible exact zmD.mono _ _ _ _ _ _ _ _)
   | (with_reducible exact LeO.refl _)
   | (with_reducible exact LeO.none _)
   | (with_reducible refine LeO.ite ?_ ?_)
   | (with_reducible refine LeO.bind ?_ (fun _ => ?_))
   | exact ih0 _ _ _ _ _ _ _
   | exact zxR.mono _ _ _ _
   | exact zmD.mono _ _ _ _ _ _ _ _
   | exact LeO.none _
   | refine LeO.ite ?_ ?_
   | refine LeO.bind ?_ (fun _ => ?_)
set_option maxHeartbeats 8000000 in
set_option maxRecDepth 100000 in
theorem znA.calls (k : Nat) (a0_0 : Int) (a0_1 : Int) (a0_2 : Int) (a0_3 : Int) (a0_4 : Int) (a0_5 : Int) (r : Int) (w : World) (h : znA.f k a0_0 a0_1 a0_2 a0_3 a0_4 a0_5 = some r) :
  Calls Tryd.prog 33 #[.agg #[.int .i64 a0_0, .int .i64 a0_1, .int .i64 a0_2, .int .i64 a0_3, .int .i64 a0_4, .int .i64 a0_5]] w fun e w' => e = .returned (.int .i64 r) ∧ Below w.heap.size w w' := by
 have hu61 := Tryd.underlying61
 have HB := zpS (Below.refl w.heap.size w)
 have H : (znA.l0 k 0 a0_0 a0_1 a0_2 a0_3 a0_4 a0_5) = some r := h
 clear h
 have H' := zpS H
 clear H
 go_enter Tryd.func33, Tryd.ntmps33
 go_wp2_with (first | ((with_reducible refine zpZ (N := 1) rfl ?_); refine bx_ 1 #[.int .i64 a0_0, .int .i64 a0_1, .int .i64 a0_2, .int .i64 a0_3, .int .i64 a0_4, .int .i64 a0_5] 61 ?_; intro gb190 hg w2 hbox hb; have n0_ := (ns_ hb); have n1_ := zpS (hbox); have n2_ := (ng_ hg); have n3_ := n2_; clear HB; have HB := n0_; have BK190 := n1_; have GW190 := n2_; have GE190 := n3_; clear n0_ n1_ n2_ n3_; clear hb hbox hg))
 (try go_simp)
 go_loopg [3] k (fun kq v3 w' => ∃ (x3_1 : Int), v3 = .int .i64 x3_1 ∧ Aside0 (znA.l0 kq x3_1 a0_0 a0_1 a0_2 a0_3 a0_4 a0_5 = some r) ∧ Aside0 (kq ≤ k) ∧ Aside0 (w'.heap[gb190]? = some (.cells #[.int .i64 a0_0, .int .i64 a0_1, .int .i64 a0_2, .int .i64 a0_3, .int .i64 a0_4, .int .i64 a0_5] 61 (0, 0))) ∧ Aside0 (Below w.heap.size w w'))
 case atStart => exact ⟨(0), (by first | rfl | (simp; done) | (simp [*]; done)), H', ⟨Nat.le_refl _⟩, ⟨bk_⟩, ⟨bb_⟩⟩
 case round =>
  clear H'
  try clear p2
  obtain ⟨x3_1, rfl, HA, HK1, BK190, HB⟩ := hrel
  cases gk with
  | zero => exact absurd HA.out (by simp [znA.l0])
  | succ k1 =>
   have H := HA.out
   clear HA
   simp only [znA.l0] at H
   by_cases c3 : x3_1 < 16
   ·rw [if_pos c3] at H
    have c3b0 : decide (x3_1 < 16) = true := decide_eq_true c3
    clear c3
    replace H := Option.bind_eq_some_iff.mp H
    obtain ⟨⟨t191, t192, t193⟩, A40, H⟩ := H
    replace H : ((zbR.f t191 t192 t193).bind fun t194 => (if t194 = true then ((zmD.f k1 x3_1 a0_0 a0_1 a0_2 a0_3 a0_4 a0_5).bind fun bt195 => ((zxR.f k1 bt195.1 bt195.2.1 bt195.2.2).bind fun t198 => (if t198 > 0 then (some x3_1) else (znA.l0 k1 (wrap64 (x3_1 + 1)) a0_0 a0_1 a0_2 a0_3 a0_4 a0_5)))) else (znA.l0 k1 (wrap64 (x3_1 + 1)) a0_0 a0_1 a0_2 a0_3 a0_4 a0_5))) = some r := H
    have A4 := zpS A40
    clear A40
    replace H := Option.bind_eq_some_iff.mp H
    obtain ⟨t194, A50, H⟩ := H
    replace H : (if t194 = true then ((zmD.f k1 x3_1 a0_0 a0_1 a0_2 a0_3 a0_4 a0_5).bind fun bt195 => ((zxR.f k1 bt195.1 bt195.2.1 bt195.2.2).bind fun t198 => (if t198 > 0 then (some x3_1) else (znA.l0 k1 (wrap64 (x3_1 + 1)) a0_0 a0_1 a0_2 a0_3 a0_4 a0_5)))) else (znA.l0 k1 (wrap64 (x3_1 + 1)) a0_0 a0_1 a0_2 a0_3 a0_4 a0_5)) = some r := H
    have A5 := zpS A50
    clear A50
    by_cases c6 : t194 = true
    ·subst c6
     have H1 : ((zmD.f k1 x3_1 a0_0 a0_1 a0_2 a0_3 a0_4 a0_5).bind fun bt195 => ((zxR.f k1 bt195.1 bt195.2.1 bt195.2.2).bind fun t198 => (if t198 > 0 then (some x3_1) else (znA.l0 k1 (wrap64 (x3_1 + 1)) a0_0 a0_1 a0_2 a0_3 a0_4 a0_5)))) = some r := by rw [if_pos rfl] at H; exact H
     clear H
     have H := H1
     clear H1
     replace H := Option.bind_eq_some_iff.mp H
     obtain ⟨⟨t195, t196, t197⟩, A70, H⟩ := H
     replace H : ((zxR.f k1 t195 t196 t197).bind fun t198 => (if t198 > 0 then (some x3_1) else (znA.l0 k1 (wrap64 (x3_1 + 1)) a0_0 a0_1 a0_2 a0_3 a0_4 a0_5))) = some r := H
     have A7 := zpS A70
     clear A70
     replace H := Option.bind_eq_some_iff.mp H
     obtain ⟨t198, A80, H⟩ := H
     replace H : (if t198 > 0 then (some x3_1) else (znA.l0 k1 (wrap64 (x3_1 + 1)) a0_0 a0_1 a0_2 a0_3 a0_4 a0_5)) = some r := H
     have A8 := zpS A80
     clear A80
     by_cases c9 : t198 > 0
     ·rw [if_pos c9] at H
      have c9b0 : decide (0 < t198) = true := decide_eq_true c9
      clear c9
      obtain rfl := Option.some.inj H
      obtain ⟨hcz10_0, hcz10_1, hcz10_2, hcz10_3, hcz10_4, hcz10_5⟩ := zrN BK190.out
      obtain ⟨hfz10_0, hfz10_1, hfz10_2, hfz10_3, hfz10_4, hfz10_5⟩ := zoO BK190.out
      go_wp2_with (first | ((with_reducible refine zgK (f := 51) rfl ?_); refine zqQ (some 11) rfl rfl Tryd.func51 (by kernel_rfl) rfl #[.int .i64 (wrap64 (x3_1 + 4)), .agg #[.int .i64 a0_0, .int .i64 a0_1, .int .i64 a0_2, .int .i64 a0_3, .int .i64 a0_4, .int .i64 a0_5]] rfl (by (try simp only [List.map_toArray, List.map_cons, List.map_nil]); first | done | rfl | (simp only [List.length_drop, List.length_take]; rfl)) ?_; (with_reducible refine (zmD.calls k1 (wrap64 (x3_1 + 4)) a0_0 a0_1 a0_2 a0_3 a0_4 a0_5 t191 t192 t193 _ A4.out).mono ?_); rintro e w11 ⟨rfl, hb⟩; refine ⟨_, rfl, ?_⟩; have n0_ := zpS (zgM (g := gb190) (o := .cells #[.int .i64 a0_0, .int .i64 a0_1, .int .i64 a0_2, .int .i64 a0_3, .int .i64 a0_4, .int .i64 a0_5] 61 (0, 0)) bk_ hb); have n1_ := (ns_ hb); clear BK190; clear HB; have BK190 := n0_; have HB := n1_; clear n0_ n1_; (try clear hb); (try clear hb2)) | ((with_reducible refine zgK (f := 50) rfl ?_); refine zqQ (some 12) rfl rfl Tryd.func50 (by kernel_rfl) rfl #[.agg #[.int .i64 t191, .int .i64 t192, .int .i64 t193]] rfl (by (try simp only [List.map_toArray, List.map_cons, List.map_nil]); first | done | rfl | (simp only [List.length_drop, List.length_take]; rfl)) ?_; (with_reducible refine (zbR.calls t191 t192 t193 true _ A5.out).mono ?_); rintro e w12 ⟨rfl, hb⟩; refine ⟨_, rfl, ?_⟩; have n0_ := zpS (zgM (g := gb190) (o := .cells #[.int .i64 a0_0, .int .i64 a0_1, .int .i64 a0_2, .int .i64 a0_3, .int .i64 a0_4, .int .i64 a0_5] 61 (0, 0)) bk_ hb); have n1_ := (ns_ hb); clear BK190; clear HB; have BK190 := n0_; have HB := n1_; clear n0_ n1_; (try clear hb); (try clear hb2); obtain ⟨hcz13_0, hcz13_1, hcz13_2, hcz13_3, hcz13_4, hcz13_5⟩ := zrN BK190.out; obtain ⟨hfz13_0, hfz13_1, hfz13_2, hfz13_3, hfz13_4, hfz13_5⟩ := zoO BK190.out) | (go_at_call 51; (with_reducible refine (zmD.calls k1 x3_1 a0_0 a0_1 a0_2 a0_3 a0_4 a0_5 t195 t196 t197 _ A7.out).mono ?_); rintro e w14 ⟨rfl, hb⟩; have n0_ := zpS (zgM (g := gb190) (o := .cells #[.int .i64 a0_0, .int .i64 a0_1, .int .i64 a0_2, .int .i64 a0_3, .int .i64 a0_4, .int .i64 a0_5] 61 (0, 0)) bk_ hb); have n1_ := (ns_ hb); clear BK190; clear HB; have BK190 := n0_; have HB := n1_; clear n0_ n1_; (try clear hb); (try clear hb2)) | (go_at_call 47; (with_reducible refine (zxR.calls k1 t195 t196 t197 t198 _ A8.out).mono ?_); rintro e w15 ⟨rfl, hb⟩; have n0_ := zpS (zgM (g := gb190) (o := .cells #[.int .i64 a0_0, .int .i64 a0_1, .int .i64 a0_2, .int .i64 a0_3, .int .i64 a0_4, .int .i64 a0_5] 61 (0, 0)) bk_ hb); have n1_ := (ns_ hb); clear BK190; clear HB; have BK190 := n0_; have HB := n1_; clear n0_ n1_; (try clear hb); (try clear hb2)))
      go_ret
      exact ⟨by first | rfl | (simp [ziS, znJ] <;> rfl) | (simp [*, ziS, znJ] <;> rfl), bb_⟩
     ·rw [if_neg c9] at H
      have c9b0 : decide (0 < t198) = false := decide_eq_false c9
      clear c9
      have H' := zpS H
      clear H
      obtain ⟨hcz16_0, hcz16_1, hcz16_2, hcz16_3, hcz16_4, hcz16_5⟩ := zrN BK190.out
      obtain ⟨hfz16_0, hfz16_1, hfz16_2, hfz16_3, hfz16_4, hfz16_5⟩ := zoO BK190.out
      go_wp2_with (first | ((with_reducible refine zgK (f := 51) rfl ?_); refine zqQ (some 11) rfl rfl Tryd.func51 (by kernel_rfl) rfl #[.int .i64 (wrap64 (x3_1 + 4)), .agg #[.int .i64 a0_0, .int .i64 a0_1, .int .i64 a0_2, .int .i64 a0_3, .int .i64 a0_4, .int .i64 a0_5]] rfl (by (try simp only [List.map_toArray, List.map_cons, List.map_nil]); first | done | rfl | (simp only [List.length_drop, List.length_take]; rfl)) ?_; (with_reducible refine (zmD.calls k1 (wrap64 (x3_1 + 4)) a0_0 a0_1 a0_2 a0_3 a0_4 a0_5 t191 t192 t193 _ A4.out).mono ?_); rintro e w17 ⟨rfl, hb⟩; refine ⟨_, rfl, ?_⟩; have n0_ := zpS (zgM (g := gb190) (o := .cells #[.int .i64 a0_0, .int .i64 a0_1, .int .i64 a0_2, .int .i64 a0_3, .int .i64 a0_4, .int .i64 a0_5] 61 (0, 0)) bk_ hb); have n1_ := (ns_ hb); clear BK190; clear HB; have BK190 := n0_; have HB := n1_; clear n0_ n1_; (try clear hb); (try clear hb2)) | ((with_reducible refine zgK (f := 50) rfl ?_); refine zqQ (some 12) rfl rfl Tryd.func50 (by kernel_rfl) rfl #[.agg #[.int .i64 t191, .int .i64 t192, .int .i64 t193]] rfl (by (try simp only [List.map_toArray, List.map_cons, List.map_nil]); first | done | rfl | (simp only [List.length_drop, List.length_take]; rfl)) ?_; (with_reducible refine (zbR.calls t191 t192 t193 true _ A5.out).mono ?_); rintro e w18 ⟨rfl, hb⟩; refine ⟨_, rfl, ?_⟩; have n0_ := zpS (zgM (g := gb190) (o := .cells #[.int .i64 a0_0, .int .i64 a0_1, .int .i64 a0_2, .int .i64 a0_3, .int .i64 a0_4, .int .i64 a0_5] 61 (0, 0)) bk_ hb); have n1_ := (ns_ hb); clear BK190; clear HB; have BK190 := n0_; have HB := n1_; clear n0_ n1_; (try clear hb); (try clear hb2); obtain ⟨hcz19_0, hcz19_1, hcz19_2, hcz19_3, hcz19_4, hcz19_5⟩ := zrN BK190.out; obtain ⟨hfz19_0, hfz19_1, hfz19_2, hfz19_3, hfz19_4, hfz19_5⟩ := zoO BK190.out) | (go_at_call 51; (with_reducible refine (zmD.calls k1 x3_1 a0_0 a0_1 a0_2 a0_3 a0_4 a0_5 t195 t196 t197 _ A7.out).mono ?_); rintro e w20 ⟨rfl, hb⟩; have n0_ := zpS (zgM (g := gb190) (o := .cells #[.int .i64 a0_0, .int .i64 a0_1, .int .i64 a0_2, .int .i64 a0_3, .int .i64 a0_4, .int .i64 a0_5] 61 (0, 0)) bk_ hb); have n1_ := (ns_ hb); clear BK190; clear HB; have BK190 := n0_; have HB := n1_; clear n0_ n1_; (try clear hb); (try clear hb2)) | (go_at_call 47; (with_reducible refine (zxR.calls k1 t195 t196 t197 t198 _ A8.out).mono ?_); rintro e w21 ⟨rfl, hb⟩; have n0_ := zpS (zgM (g := gb190) (o := .cells #[.int .i64 a0_0, .int .i64 a0_1, .int .i64 a0_2, .int .i64 a0_3, .int .i64 a0_4, .int .i64 a0_5] 61 (0, 0)) bk_ hb); have n1_ := (ns_ hb); clear BK190; clear HB; have BK190 := n0_; have HB := n1_; clear n0_ n1_; (try clear hb); (try clear hb2)))
      go_roundg k1
      case measure => have := HK1.out; omega
      case rel => exact ⟨(wrap64 (x3_1 + 1)), (by first | rfl | (simp; done) | (simp [*]; done)), H', ⟨by have := HK1.out; omega⟩, ⟨bk_⟩, ⟨bb_⟩⟩
    ·replace c6 := Bool.eq_false_iff.mpr c6
     subst c6
     have H1 : (znA.l0 k1 (wrap64 (x3_1 + 1)) a0_0 a0_1 a0_2 a0_3 a0_4 a0_5) = some r := by rw [if_neg (show ¬ (false = true) by decide)] at H; exact H
     clear H
     have H := H1
     clear H1
     have H' := zpS H
     clear H
     obtain ⟨hcz22_0, hcz22_1, hcz22_2, hcz22_3, hcz22_4, hcz22_5⟩ := zrN BK190.out
     obtain ⟨hfz22_0, hfz22_1, hfz22_2, hfz22_3, hfz22_4, hfz22_5⟩ := zoO BK190.out
     go_wp2_with (first | ((with_reducible refine zgK (f := 51) rfl ?_); refine zqQ (some 11) rfl rfl Tryd.func51 (by kernel_rfl) rfl #[.int .i64 (wrap64 (x3_1 + 4)), .agg #[.int .i64 a0_0, .int .i64 a0_1, .int .i64 a0_2, .int .i64 a0_3, .int .i64 a0_4, .int .i64 a0_5]] rfl (by (try simp only [List.map_toArray, List.map_cons, List.map_nil]); first | done | rfl | (simp only [List.length_drop, List.length_take]; rfl)) ?_; (with_reducible refine (zmD.calls k1 (wrap64 (x3_1 + 4)) a0_0 a0_1 a0_2 a0_3 a0_4 a0_5 t191 t192 t193 _ A4.out).mono ?_); rintro e w23 ⟨rfl, hb⟩; refine ⟨_, rfl, ?_⟩; have n0_ := zpS (zgM (g := gb190) (o := .cells #[.int .i64 a0_0, .int .i64 a0_1, .int .i64 a0_2, .int .i64 a0_3, .int .i64 a0_4, .int .i64 a0_5] 61 (0, 0)) bk_ hb); have n1_ := (ns_ hb); clear BK190; clear HB; have BK190 := n0_; have HB := n1_; clear n0_ n1_; (try clear hb); (try clear hb2)) | ((with_reducible refine zgK (f := 50) rfl ?_); refine zqQ (some 12) rfl rfl Tryd.func50 (by kernel_rfl) rfl #[.agg #[.int .i64 t191, .int .i64 t192, .int .i64 t193]] rfl (by (try simp only [List.map_toArray, List.map_cons, List.map_nil]); first | done | rfl | (simp only [List.length_drop, List.length_take]; rfl)) ?_; (with_reducible refine (zbR.calls t191 t192 t193 false _ A5.out).mono ?_); rintro e w24 ⟨rfl, hb⟩; refine ⟨_, rfl, ?_⟩; have n0_ := zpS (zgM (g := gb190) (o := .cells #[.int .i64 a0_0, .int .i64 a0_1, .int .i64 a0_2, .int .i64 a0_3, .int .i64 a0_4, .int .i64 a0_5] 61 (0, 0)) bk_ hb); have n1_ := (ns_ hb); clear BK190; clear HB; have BK190 := n0_; have HB := n1_; clear n0_ n1_; (try clear hb); (try clear hb2)))
     go_roundg k1
     case measure => have := HK1.out; omega
     case rel => exact ⟨(wrap64 (x3_1 + 1)), (by first | rfl | (simp; done) | (simp [*]; done)), H', ⟨by have := HK1.out; omega⟩, ⟨bk_⟩, ⟨bb_⟩⟩
   ·rw [if_neg c3] at H
    have c3b0 : decide (x3_1 < 16) = false := decide_eq_false c3
    clear c3
    obtain rfl := Option.some.inj H
    go_wp2
    go_ret
    exact ⟨by first | rfl | (simp [ziS, znJ] <;> rfl) | (simp [*, ziS, znJ] <;> rfl), bb_⟩

def zkL.f (k : Nat) (a0_0 : Int) (a0_1 : Int) (a0_2 : Int) (a0_3 : Int) (a0_4 : Int) (a0_5 : Int) (a1_0 : Int) (a1_1 : Int) (a1_2 : Int) (a1_3 : Int) (a1_4 : Int) (a1_5 : Int) : Option (Int × Int × Int × Int × Int × Int) := (zyB.f k a0_0 a0_1 a0_2 a1_0 a1_1 a1_2).bind fun bt202 => ((zyB.f k a0_3 a0_4 a0_5 a1_3 a1_4 a1_5).bind fun bt205 => (some (bt202.1, bt202.2.1, bt202.2.2, bt205.1, bt205.2.1, bt205.2.2)))
theorem zkL.mono : ∀ a0 a1 a2 a3 a4 a5 a6 a7 a8 a9 a10 a11 k, LeO (zkL.f k a0 a1 a2 a3 a4 a5 a6 a7 a8 a9 a10 a11) (zkL.f (k + 1) a0 a1 a2 a3 a4 a5 a6 a7 a8 a9 a10 a11) := by
 intro a0 a1 a2 a3 a4 a5 a6 a7 a8 a9 a10 a11 k
 unfold zkL.f
 repeat' first
   | (with_reducible exact zyB.mono _ _ _ _ _ _ _)
   | (with_reducible exact LeO.refl _)
   | (with_reducible exact LeO.none _)
   | (with_reducible refine LeO.ite ?_ ?_)
   | (with_reducible refine LeO.bind ?_ (fun _ => ?_))
   | exact zyB.mono _ _ _ _ _ _ _
   | exact LeO.none _
   | refine LeO.ite ?_ ?_
   | refine LeO.bind ?_ (fun _ => ?_)
def zkL.T1 : Bool × List (List Nat × List Nat) := (true, [([], []), ([0], [0]), ([], []), ([2], [2]), ([1, 3], [1, 3]), ([], []), ([5], [5]), ([], []), ([7], [7]), ([6, 8, 4], [6, 8]), ([4, 9], [4, 9]), ([10, 9, 0, 1, 2, 3, 4, 5, 6, 7, 8, 9, 10], [10])])
def zkL.B1 : List Nat := [0, 1, 0, 4, 15, 0, 32, 0, 128, 511, 1023, 2047]
theorem zkL.tab1 : rtab .any (opsOf Tryd.f34 1) = zkL.T1 := by kernel_rfl
theorem zkL.bits1 : ztG zkL.T1.2 zkL.B1 = true := by kernel_rfl
set_option maxHeartbeats 8000000 in
set_option maxRecDepth 100000 in
theorem zkL.calls (k : Nat) (a0_0 : Int) (a0_1 : Int) (a0_2 : Int) (a0_3 : Int) (a0_4 : Int) (a0_5 : Int) (a1_0 : Int) (a1_1 : Int) (a1_2 : Int) (a1_3 : Int) (a1_4 : Int) (a1_5 : Int) (r1 : Int) (r2 : Int) (r3 : Int) (r4 : Int) (r5 : Int) (r6 : Int) (w : World) (h : zkL.f k a0_0 a0_1 a0_2 a0_3 a0_4 a0_5 a1_0 a1_1 a1_2 a1_3 a1_4 a1_5 = some (r1, r2, r3, r4, r5, r6)) :
  Calls Tryd.prog 34 #[.agg #[.int .i64 a0_0, .int .i64 a0_1, .int .i64 a0_2, .int .i64 a0_3, .int .i64 a0_4, .int .i64 a0_5], .agg #[.int .i64 a1_0, .int .i64 a1_1, .int .i64 a1_2, .int .i64 a1_3, .int .i64 a1_4, .int .i64 a1_5]] w fun e w' => e = .returned (.agg #[.int .i64 r1, .int .i64 r2, .int .i64 r3, .int .i64 r4, .int .i64 r5, .int .i64 r6]) ∧ Below w.heap.size w w' := by
 have hu61 := Tryd.underlying61
 have hu59 := Tryd.underlying59
 have HB := zpS (Below.refl w.heap.size w)
 have H : ((zyB.f k a0_0 a0_1 a0_2 a1_0 a1_1 a1_2).bind fun bt202 => ((zyB.f k a0_3 a0_4 a0_5 a1_3 a1_4 a1_5).bind fun bt205 => (some (bt202.1, bt202.2.1, bt202.2.2, bt205.1, bt205.2.1, bt205.2.2)))) = some (r1, r2, r3, r4, r5, r6) := h
 clear h
 replace H := Option.bind_eq_some_iff.mp H
 obtain ⟨⟨t202, t203, t204⟩, A30, H⟩ := H
 replace H : ((zyB.f k a0_3 a0_4 a0_5 a1_3 a1_4 a1_5).bind fun bt205 => (some (t202, t203, t204, bt205.1, bt205.2.1, bt205.2.2))) = some (r1, r2, r3, r4, r5, r6) := H
 have A3 := zpS A30
 clear A30
 replace H := Option.bind_eq_some_iff.mp H
 obtain ⟨⟨t205, t206, t207⟩, A40, H⟩ := H
 replace H : (some (t202, t203, t204, t205, t206, t207)) = some (r1, r2, r3, r4, r5, r6) := H
 have A4 := zpS A40
 clear A40
 simp only [Option.some.injEq, Prod.mk.injEq] at H
 obtain ⟨rfl, rfl, rfl, rfl, rfl, rfl⟩ := H
 go_enter Tryd.func34, Tryd.ntmps34
 try go_wp2_with (first | ((with_reducible refine zpZ (N := 2) rfl ?_); refine bx_ 2 #[.int .i64 a0_0, .int .i64 a0_1, .int .i64 a0_2, .int .i64 a0_3, .int .i64 a0_4, .int .i64 a0_5] 61 ?_; intro gb199 hg w5 hbox hb; have n0_ := (ns_ hb); have n1_ := zpS (hbox); have n2_ := (ng_ hg); have n3_ := n2_; clear HB; have HB := n0_; have BK199 := n1_; have GW199 := n2_; have GE199 := n3_; clear n0_ n1_ n2_ n3_; clear hb hbox hg) | ((with_reducible refine zpZ (N := 3) rfl ?_); refine bx_ 3 #[.int .i64 a1_0, .int .i64 a1_1, .int .i64 a1_2, .int .i64 a1_3, .int .i64 a1_4, .int .i64 a1_5] 61 ?_; intro gb200 hg w6 hbox hb; have n0_ := zpS (zgM (g := gb199) (o := .cells #[.int .i64 a0_0, .int .i64 a0_1, .int .i64 a0_2, .int .i64 a0_3, .int .i64 a0_4, .int .i64 a0_5] 61 (0, 0)) bk_ hb); have n1_ := (ns_ hb); have n2_ := zpS (hbox); have n3_ := (ng_ hg); have n4_ := n3_; have n5_ := zpS ((by rw [hg]; exact Nat.ne_of_lt (zmN (g := gb199) (o := .cells #[.int .i64 a0_0, .int .i64 a0_1, .int .i64 a0_2, .int .i64 a0_3, .int .i64 a0_4, .int .i64 a0_5] 61 (0, 0)) bk_) : gb199 ≠ gb200)); have n6_ := zpS ((by rw [hg]; exact Nat.ne_of_gt (zmN (g := gb199) (o := .cells #[.int .i64 a0_0, .int .i64 a0_1, .int .i64 a0_2, .int .i64 a0_3, .int .i64 a0_4, .int .i64 a0_5] 61 (0, 0)) bk_) : gb200 ≠ gb199)); clear BK199; clear HB; have BK199 := n0_; have HB := n1_; have BK200 := n2_; have GW200 := n3_; have GE200 := n4_; have NB199_200 := n5_; have NB200_199 := n6_; clear n0_ n1_ n2_ n3_ n4_ n5_ n6_; clear hb hbox hg) | ((with_reducible refine zpZ (N := 4) rfl ?_); refine bx_ 4 #[.int .i64 0, .int .i64 0, .int .i64 0, .int .i64 0, .int .i64 0, .int .i64 0] 61 ?_; intro gb201 hg w7 hbox hb; have n0_ := zpS (zgM (g := gb199) (o := .cells #[.int .i64 a0_0, .int .i64 a0_1, .int .i64 a0_2, .int .i64 a0_3, .int .i64 a0_4, .int .i64 a0_5] 61 (0, 0)) bk_ hb); have n1_ := zpS (zgM (g := gb200) (o := .cells #[.int .i64 a1_0, .int .i64 a1_1, .int .i64 a1_2, .int .i64 a1_3, .int .i64 a1_4, .int .i64 a1_5] 61 (0, 0)) bk_ hb); have n2_ := (ns_ hb); have n3_ := zpS (hbox); have n4_ := (ng_ hg); have n5_ := n4_; have n6_ := zpS ((by rw [hg]; exact Nat.ne_of_lt (zmN (g := gb199) (o := .cells #[.int .i64 a0_0, .int .i64 a0_1, .int .i64 a0_2, .int .i64 a0_3, .int .i64 a0_4, .int .i64 a0_5] 61 (0, 0)) bk_) : gb199 ≠ gb201)); have n7_ := zpS ((by rw [hg]; exact Nat.ne_of_gt (zmN (g := gb199) (o := .cells #[.int .i64 a0_0, .int .i64 a0_1, .int .i64 a0_2, .int .i64 a0_3, .int .i64 a0_4, .int .i64 a0_5] 61 (0, 0)) bk_) : gb201 ≠ gb199)); have n8_ := zpS ((by rw [hg]; exact Nat.ne_of_lt (zmN (g := gb200) (o := .cells #[.int .i64 a1_0, .int .i64 a1_1, .int .i64 a1_2, .int .i64 a1_3, .int .i64 a1_4, .int .i64 a1_5] 61 (0, 0)) bk_) : gb200 ≠ gb201)); have n9_ := zpS ((by rw [hg]; exact Nat.ne_of_gt (zmN (g := gb200) (o := .cells #[.int .i64 a1_0, .int .i64 a1_1, .int .i64 a1_2, .int .i64 a1_3, .int .i64 a1_4, .int .i64 a1_5] 61 (0, 0)) bk_) : gb201 ≠ gb200)); clear BK199; clear BK200; clear HB; have BK199 := n0_; have BK200 := n1_; have HB := n2_; have BK201 := n3_; have GW201 := n4_; have GE201 := n5_; have NB199_201 := n6_; have NB201_199 := n7_; have NB200_201 := n8_; have NB201_200 := n9_; clear n0_ n1_ n2_ n3_ n4_ n5_ n6_ n7_ n8_ n9_; clear hb hbox hg))
 have n0_ := zpS (ztN BK199.out)
 have n1_ := zpS (ztN BK200.out)
 have n2_ := zpS (ztN BK201.out)
 have n3_ := zpS (zvF HB.out)
 clear BK199
 clear BK200
 clear BK201
 clear HB
 have BK199 := n0_
 have BK200 := n1_
 have BK201 := n2_
 have HB := n3_
 clear n0_ n1_ n2_ n3_
 refine zpB (n := 12) (S := fun w' => w'.cell? ⟨gb199, 0, none⟩ = some (.int .i64 a0_0) ∧ w'.cell? ⟨gb199, 1, none⟩ = some (.int .i64 a0_1) ∧ w'.cell? ⟨gb199, 2, none⟩ = some (.int .i64 a0_2) ∧ w'.cell? ⟨gb199, 3, none⟩ = some (.int .i64 a0_3) ∧ w'.cell? ⟨gb199, 4, none⟩ = some (.int .i64 a0_4) ∧ w'.cell? ⟨gb199, 5, none⟩ = some (.int .i64 a0_5) ∧ w'.cell? ⟨gb200, 0, none⟩ = some (.int .i64 a1_0) ∧ w'.cell? ⟨gb200, 1, none⟩ = some (.int .i64 a1_1) ∧ w'.cell? ⟨gb200, 2, none⟩ = some (.int .i64 a1_2) ∧ w'.cell? ⟨gb200, 3, none⟩ = some (.int .i64 a1_3) ∧ w'.cell? ⟨gb200, 4, none⟩ = some (.int .i64 a1_4) ∧ w'.cell? ⟨gb200, 5, none⟩ = some (.int .i64 a1_5)) (ds := []) #[false, false, false, false, false, false, false, false, false, false, false, false] (by kernel_rfl) rfl rfl ⟨(zzS BK199.out 0).trans rfl, (zzS BK199.out 1).trans rfl, (zzS BK199.out 2).trans rfl, (zzS BK199.out 3).trans rfl, (zzS BK199.out 4).trans rfl, (zzS BK199.out 5).trans rfl, (zzS BK200.out 0).trans rfl, (zzS BK200.out 1).trans rfl, (zzS BK200.out 2).trans rfl, (zzS BK200.out 3).trans rfl, (zzS BK200.out 4).trans rfl, (zzS BK200.out 5).trans rfl⟩ (fun hHeld => ?_); refine zwI zkL.tab1 zkL.bits1 (fun HT_ HW_ => ?_)
 generalize w7.drew = w8 at BK199 BK200 BK201 HB hHeld ⊢
 refine pu_ 0 (some 5) (bl_ 12 1) ?_
 refine pu_ 2 (some 7) (bl_ 12 5) ?_
 refine pu_ 5 (some 10) (bl_ 12 37) ?_
 refine pu_ 7 (some 12) (bl_ 12 165) ?_
 refine zmW 1 (some 6) (bl_ 12 167) hHeld ?_
 refine zmW 3 (some 8) (bl_ 12 175) hHeld ?_
 refine zmW 6 (some 11) (bl_ 12 239) hHeld ?_
 refine zmW 8 (some 13) (bl_ 12 495) hHeld ?_
 refine zdC (i := 4) (N := some 9) (bl_ 12 511) rfl rfl (zeO HT_.out (by kernel_rfl)) (by decide) (fun K hK => ?_)
 refine zqW Tryd.func48 (by kernel_rfl) rfl #[.agg #[.int .i64 a0_0, .int .i64 a0_1, .int .i64 a0_2], .agg #[.int .i64 a1_0, .int .i64 a1_1, .int .i64 a1_2]] (by rfl) rfl rfl (by (try simp only [List.map_toArray, List.map_cons, List.map_nil]); first | done | rfl | (simp only [List.length_drop, List.length_take]; rfl)) ?_
 with_reducible refine (zyB.calls k a0_0 a0_1 a0_2 a1_0 a1_1 a1_2 t202 t203 t204 _ A3.out).mono ?_
 rintro e w9 ⟨rfl, hb⟩
 refine ⟨_, rfl, ?_⟩
 have n0_ := zpS (zgM (g := gb199) (o := .cells #[.int .i64 a0_0, .int .i64 a0_1, .int .i64 a0_2, .int .i64 a0_3, .int .i64 a0_4, .int .i64 a0_5] 61 (0, 0)) bk_ hb)
 have n1_ := zpS (zgM (g := gb200) (o := .cells #[.int .i64 a1_0, .int .i64 a1_1, .int .i64 a1_2, .int .i64 a1_3, .int .i64 a1_4, .int .i64 a1_5] 61 (0, 0)) bk_ hb)
 have n2_ := zpS (zgM (g := gb201) (o := .cells #[.int .i64 0, .int .i64 0, .int .i64 0, .int .i64 0, .int .i64 0, .int .i64 0] 61 (0, 0)) bk_ hb)
 have n3_ := (ns_ hb)
 clear BK199
 clear BK200
 clear BK201
 clear HB
 have BK199 := n0_
 have BK200 := n1_
 have BK201 := n2_
 have HB := n3_
 clear n0_ n1_ n2_ n3_
 (try clear hb)
 (try clear hb2)
 (try clear hk)
 (try clear hi)
 refine hK.out _ _ ⟨(zzS BK199.out 0).trans rfl, (zzS BK199.out 1).trans rfl, (zzS BK199.out 2).trans rfl, (zzS BK199.out 3).trans rfl, (zzS BK199.out 4).trans rfl, (zzS BK199.out 5).trans rfl, (zzS BK200.out 0).trans rfl, (zzS BK200.out 1).trans rfl, (zzS BK200.out 2).trans rfl, (zzS BK200.out 3).trans rfl, (zzS BK200.out 4).trans rfl, (zzS BK200.out 5).trans rfl⟩ (fun hHeld => ?_)
 clear hK K
 refine zaN (a' := ?_) ?_ ?_
 rotate_left
 ·show Act.put _ (some 9) _ = _
  simp only [Act.put, List.setIfInBounds_toArray, List.set_cons_zero, List.set_cons_succ, zcM, ziJ]
  rfl
 refine zdC (i := 9) (N := some 14) (bl_ 12 1023) rfl rfl (zeO HT_.out (by kernel_rfl)) (by decide) (fun K hK => ?_)
 refine zqW Tryd.func48 (by kernel_rfl) rfl #[.agg #[.int .i64 a0_3, .int .i64 a0_4, .int .i64 a0_5], .agg #[.int .i64 a1_3, .int .i64 a1_4, .int .i64 a1_5]] (by rfl) rfl rfl (by (try simp only [List.map_toArray, List.map_cons, List.map_nil]); first | done | rfl | (simp only [List.length_drop, List.length_take]; rfl)) ?_
 with_reducible refine (zyB.calls k a0_3 a0_4 a0_5 a1_3 a1_4 a1_5 t205 t206 t207 _ A4.out).mono ?_
 rintro e w10 ⟨rfl, hb⟩
 refine ⟨_, rfl, ?_⟩
 have n0_ := zpS (zgM (g := gb199) (o := .cells #[.int .i64 a0_0, .int .i64 a0_1, .int .i64 a0_2, .int .i64 a0_3, .int .i64 a0_4, .int .i64 a0_5] 61 (0, 0)) bk_ hb)
 have n1_ := zpS (zgM (g := gb200) (o := .cells #[.int .i64 a1_0, .int .i64 a1_1, .int .i64 a1_2, .int .i64 a1_3, .int .i64 a1_4, .int .i64 a1_5] 61 (0, 0)) bk_ hb)
 have n2_ := zpS (zgM (g := gb201) (o := .cells #[.int .i64 0, .int .i64 0, .int .i64 0, .int .i64 0, .int .i64 0, .int .i64 0] 61 (0, 0)) bk_ hb)
 have n3_ := (ns_ hb)
 clear BK199
 clear BK200
 clear BK201
 clear HB
 have BK199 := n0_
 have BK200 := n1_
 have BK201 := n2_
 have HB := n3_
 clear n0_ n1_ n2_ n3_
 (try clear hb)
 (try clear hb2)
 (try clear hk)
 (try clear hi)
 refine hK.out _ _ ⟨(zzS BK199.out 0).trans rfl, (zzS BK199.out 1).trans rfl, (zzS BK199.out 2).trans rfl, (zzS BK199.out 3).trans rfl, (zzS BK199.out 4).trans rfl, (zzS BK199.out 5).trans rfl, (zzS BK200.out 0).trans rfl, (zzS BK200.out 1).trans rfl, (zzS BK200.out 2).trans rfl, (zzS BK200.out 3).trans rfl, (zzS BK200.out 4).trans rfl, (zzS BK200.out 5).trans rfl⟩ (fun hHeld => ?_)
 clear hK K
 refine zaN (a' := ?_) ?_ ?_
 rotate_left
 ·show Act.put _ (some 14) _ = _
  simp only [Act.put, List.setIfInBounds_toArray, List.set_cons_zero, List.set_cons_succ, zcM, ziJ]
  rfl
 refine pu_ 10 (some 15) (bl_ 12 2047) ?_
 refine zdC (i := 11) (N := none) (bl_ 12 4095) rfl rfl (zeO HT_.out (by kernel_rfl)) (by decide) (fun K hK => ?_)
 have hs11 : w10.cell? ⟨gb201, 0, none⟩ = some (.int .i64 0) := (zzS BK201.out 0).trans rfl
 have hfs11 := zjF BK201.out 0
 have hns11_0 := NB199_201.out
 have hns11_1 := NB200_201.out
 have hms11_0 := NB201_199.out
 have hms11_1 := NB201_200.out
 have hs12 : w10.cell? ⟨gb201, 1, none⟩ = some (.int .i64 0) := (zzS BK201.out 1).trans rfl
 have hfs12 := zjF BK201.out 1
 have hns12_0 := NB199_201.out
 have hns12_1 := NB200_201.out
 have hms12_0 := NB201_199.out
 have hms12_1 := NB201_200.out
 have hs13 : w10.cell? ⟨gb201, 2, none⟩ = some (.int .i64 0) := (zzS BK201.out 2).trans rfl
 have hfs13 := zjF BK201.out 2
 have hns13_0 := NB199_201.out
 have hns13_1 := NB200_201.out
 have hms13_0 := NB201_199.out
 have hms13_1 := NB201_200.out
 have hs14 : w10.cell? ⟨gb201, 3, none⟩ = some (.int .i64 0) := (zzS BK201.out 3).trans rfl
 have hfs14 := zjF BK201.out 3
 have hns14_0 := NB199_201.out
 have hns14_1 := NB200_201.out
 have hms14_0 := NB201_199.out
 have hms14_1 := NB201_200.out
 have hs15 : w10.cell? ⟨gb201, 4, none⟩ = some (.int .i64 0) := (zzS BK201.out 4).trans rfl
 have hfs15 := zjF BK201.out 4
 have hns15_0 := NB199_201.out
 have hns15_1 := NB200_201.out
 have hms15_0 := NB201_199.out
 have hms15_1 := NB201_200.out
 have hs16 : w10.cell? ⟨gb201, 5, none⟩ = some (.int .i64 0) := (zzS BK201.out 5).trans rfl
 have hfs16 := zjF BK201.out 5
 have hns16_0 := NB199_201.out
 have hns16_1 := NB200_201.out
 have hms16_0 := NB201_199.out
 have hms16_1 := NB201_200.out
 refine skip_ (w1 := ?_) (by rfl) rfl ?_ ?_
 rotate_left
 ·go_simp
  rfl
 refine hK.out _ _ ⟨((zgQ (p := ⟨gb201, _, none⟩) NB199_201.out _).trans (((zgQ (p := ⟨gb201, _, none⟩) NB199_201.out _).trans (((zgQ (p := ⟨gb201, _, none⟩) NB199_201.out _).trans (((zgQ (p := ⟨gb201, _, none⟩) NB199_201.out _).trans (((zgQ (p := ⟨gb201, _, none⟩) NB199_201.out _).trans (((zgQ (p := ⟨gb201, _, none⟩) NB199_201.out _).trans (hHeld.1)))))))))))), ((zgQ (p := ⟨gb201, _, none⟩) NB199_201.out _).trans (((zgQ (p := ⟨gb201, _, none⟩) NB199_201.out _).trans (((zgQ (p := ⟨gb201, _, none⟩) NB199_201.out _).trans (((zgQ (p := ⟨gb201, _, none⟩) NB199_201.out _).trans (((zgQ (p := ⟨gb201, _, none⟩) NB199_201.out _).trans (((zgQ (p := ⟨gb201, _, none⟩) NB199_201.out _).trans (hHeld.2.1)))))))))))), ((zgQ (p := ⟨gb201, _, none⟩) NB199_201.out _).trans (((zgQ (p := ⟨gb201, _, none⟩) NB199_201.out _).trans (((zgQ (p := ⟨gb201, _, none⟩) NB199_201.out _).trans (((zgQ (p := ⟨gb201, _, none⟩) NB199_201.out _).trans (((zgQ (p := ⟨gb201, _, none⟩) NB199_201.out _).trans (((zgQ (p := ⟨gb201, _, none⟩) NB199_201.out _).trans (hHeld.2.2.1)))))))))))), ((zgQ (p := ⟨gb201, _, none⟩) NB199_201.out _).trans (((zgQ (p := ⟨gb201, _, none⟩) NB199_201.out _).trans (((zgQ (p := ⟨gb201, _, none⟩) NB199_201.out _).trans (((zgQ (p := ⟨gb201, _, none⟩) NB199_201.out _).trans (((zgQ (p := ⟨gb201, _, none⟩) NB199_201.out _).trans (((zgQ (p := ⟨gb201, _, none⟩) NB199_201.out _).trans (hHeld.2.2.2.1)))))))))))), ((zgQ (p := ⟨gb201, _, none⟩) NB199_201.out _).trans (((zgQ (p := ⟨gb201, _, none⟩) NB199_201.out _).trans (((zgQ (p := ⟨gb201, _, none⟩) NB199_201.out _).trans (((zgQ (p := ⟨gb201, _, none⟩) NB199_201.out _).trans (((zgQ (p := ⟨gb201, _, none⟩) NB199_201.out _).trans (((zgQ (p := ⟨gb201, _, none⟩) NB199_201.out _).trans (hHeld.2.2.2.2.1)))))))))))), ((zgQ (p := ⟨gb201, _, none⟩) NB199_201.out _).trans (((zgQ (p := ⟨gb201, _, none⟩) NB199_201.out _).trans (((zgQ (p := ⟨gb201, _, none⟩) NB199_201.out _).trans (((zgQ (p := ⟨gb201, _, none⟩) NB199_201.out _).trans (((zgQ (p := ⟨gb201, _, none⟩) NB199_201.out _).trans (((zgQ (p := ⟨gb201, _, none⟩) NB199_201.out _).trans (hHeld.2.2.2.2.2.1)))))))))))), ((zgQ (p := ⟨gb201, _, none⟩) NB200_201.out _).trans (((zgQ (p := ⟨gb201, _, none⟩) NB200_201.out _).trans (((zgQ (p := ⟨gb201, _, none⟩) NB200_201.out _).trans (((zgQ (p := ⟨gb201, _, none⟩) NB200_201.out _).trans (((zgQ (p := ⟨gb201, _, none⟩) NB200_201.out _).trans (((zgQ (p := ⟨gb201, _, none⟩) NB200_201.out _).trans (hHeld.2.2.2.2.2.2.1)))))))))))), ((zgQ (p := ⟨gb201, _, none⟩) NB200_201.out _).trans (((zgQ (p := ⟨gb201, _, none⟩) NB200_201.out _).trans (((zgQ (p := ⟨gb201, _, none⟩) NB200_201.out _).trans (((zgQ (p := ⟨gb201, _, none⟩) NB200_201.out _).trans (((zgQ (p := ⟨gb201, _, none⟩) NB200_201.out _).trans (((zgQ (p := ⟨gb201, _, none⟩) NB200_201.out _).trans (hHeld.2.2.2.2.2.2.2.1)))))))))))), ((zgQ (p := ⟨gb201, _, none⟩) NB200_201.out _).trans (((zgQ (p := ⟨gb201, _, none⟩) NB200_201.out _).trans (((zgQ (p := ⟨gb201, _, none⟩) NB200_201.out _).trans (((zgQ (p := ⟨gb201, _, none⟩) NB200_201.out _).trans (((zgQ (p := ⟨gb201, _, none⟩) NB200_201.out _).trans (((zgQ (p := ⟨gb201, _, none⟩) NB200_201.out _).trans (hHeld.2.2.2.2.2.2.2.2.1)))))))))))), ((zgQ (p := ⟨gb201, _, none⟩) NB200_201.out _).trans (((zgQ (p := ⟨gb201, _, none⟩) NB200_201.out _).trans (((zgQ (p := ⟨gb201, _, none⟩) NB200_201.out _).trans (((zgQ (p := ⟨gb201, _, none⟩) NB200_201.out _).trans (((zgQ (p := ⟨gb201, _, none⟩) NB200_201.out _).trans (((zgQ (p := ⟨gb201, _, none⟩) NB200_201.out _).trans (hHeld.2.2.2.2.2.2.2.2.2.1)))))))))))), ((zgQ (p := ⟨gb201, _, none⟩) NB200_201.out _).trans (((zgQ (p := ⟨gb201, _, none⟩) NB200_201.out _).trans (((zgQ (p := ⟨gb201, _, none⟩) NB200_201.out _).trans (((zgQ (p := ⟨gb201, _, none⟩) NB200_201.out _).trans (((zgQ (p := ⟨gb201, _, none⟩) NB200_201.out _).trans (((zgQ (p := ⟨gb201, _, none⟩) NB200_201.out _).trans (hHeld.2.2.2.2.2.2.2.2.2.2.1)))))))))))), ((zgQ (p := ⟨gb201, _, none⟩) NB200_201.out _).trans (((zgQ (p := ⟨gb201, _, none⟩) NB200_201.out _).trans (((zgQ (p := ⟨gb201, _, none⟩) NB200_201.out _).trans (((zgQ (p := ⟨gb201, _, none⟩) NB200_201.out _).trans (((zgQ (p := ⟨gb201, _, none⟩) NB200_201.out _).trans (((zgQ (p := ⟨gb201, _, none⟩) NB200_201.out _).trans (hHeld.2.2.2.2.2.2.2.2.2.2.2))))))))))))⟩ (fun hHeld => ?_)
 clear hK K
 refine znK (zzP HT_.out (by kernel_rfl)) ?_
 try go_wp2
 refine bodyPost_ret (results_cell_row rfl _ _ gb201 61 #[.int .i64 t202, .int .i64 t203, .int .i64 t204, .int .i64 t205, .int .i64 t206, .int .i64 t207] (0, 0) _ rfl (by (with_reducible repeat (first | apply zuW | apply ztN | apply zqY)); refine zlL (cs := #[.int .i64 t202, .int .i64 t203, .int .i64 t204, .int .i64 t205, .int .i64 t206, .int .i64 0]) ?_ 5 _ rfl; (with_reducible repeat (first | apply zuW | apply ztN | apply zqY)); refine zlL (cs := #[.int .i64 t202, .int .i64 t203, .int .i64 t204, .int .i64 t205, .int .i64 0, .int .i64 0]) ?_ 4 _ rfl; (with_reducible repeat (first | apply zuW | apply ztN | apply zqY)); refine zlL (cs := #[.int .i64 t202, .int .i64 t203, .int .i64 t204, .int .i64 0, .int .i64 0, .int .i64 0]) ?_ 3 _ rfl; (with_reducible repeat (first | apply zuW | apply ztN | apply zqY)); refine zlL (cs := #[.int .i64 t202, .int .i64 t203, .int .i64 0, .int .i64 0, .int .i64 0, .int .i64 0]) ?_ 2 _ rfl; (with_reducible repeat (first | apply zuW | apply ztN | apply zqY)); refine zlL (cs := #[.int .i64 t202, .int .i64 0, .int .i64 0, .int .i64 0, .int .i64 0, .int .i64 0]) ?_ 1 _ rfl; (with_reducible repeat (first | apply zuW | apply ztN | apply zqY)); refine zlL (cs := #[.int .i64 0, .int .i64 0, .int .i64 0, .int .i64 0, .int .i64 0, .int .i64 0]) ?_ 0 _ rfl; (with_reducible repeat (first | apply zuW | apply ztN | apply zqY)); exact BK201.out) Tryd.underlying61 rfl (by kernel_rfl)) rfl ?_
 exact ⟨by first | rfl | (simp [ziS, znJ] <;> rfl) | (simp [*, ziS, znJ] <;> rfl), bb_⟩

end Go.Proofs.YtmmedohdjfhmnaaDoor.PFnExactPolygonText
