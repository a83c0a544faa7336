-- Printed for this claim by this session's program pp.py, which drives the kit's print with additions. Not trusted: Lean checks it.
import Derived.Test.YtbkcmdccomngnaaDoorV4PFnExactReadMotionx0
import Derived.Test.YtbkcmdccomngnaaDoorV4PFnExactReadMotionx8
import Derived.Test.YtbkcmdccomngnaaDoorV4PFnExactReadMotionx9
import Derived.Test.YtbkcmdccomngnaaDoorV4PFnExactReadMotionx10
namespace Go.Proofs.YtbkcmdccomngnaaDoor.PFnExactReadMotion
open Go.RowKit Go.Proofs.YtbkcmdccomngnaaDoorW.PrintWords Go.Proofs.YtbkcmdccomngnaaDoorW.PrintLast Go.Proofs.YtbkcmdccomngnaaDoorW.PrintMore
attribute [local go_sem] zbB ziA zrC zhD znE zuA znK zkT   -- for this text's walks alone
set_option linter.unusedVariables false
set_option maxHeartbeats 8000000
set_option maxRecDepth 100000
set_option linter.unusedSimpArgs false

def zkJ.f (k : Nat) (a0 : ByteArray) : Option (Int × Int × Int × Int × Int × Int × Bool) := (zvO.f a0 (⟨#[40]⟩ : ByteArray)).bind fun bt230 => ((zlW.f bt230.1 (⟨#[41]⟩ : ByteArray)).bind fun bt232 => ((strings_Cut.f bt232.1 (⟨#[44]⟩ : ByteArray)).bind fun bt234 => ((zaB.f k bt234.1).bind fun bt237 => ((zaB.f k bt234.2.1).bind fun bt242 => (if bt230.2 = true then (if bt232.2 = true then (if bt234.2.2 = true then (if bt237.2.2.2 = true then (if bt242.2.2.2 = true then (some (bt237.1, bt237.2.1, bt237.2.2.1, bt242.1, bt242.2.1, bt242.2.2.1, true)) else (some (0, 0, 0, 0, 0, 0, false))) else (some (0, 0, 0, 0, 0, 0, false))) else (some (0, 0, 0, 0, 0, 0, false))) else (some (0, 0, 0, 0, 0, 0, false))) else (some (0, 0, 0, 0, 0, 0, false)))))))
theorem zkJ.mono : ∀ a0 k, LeO (zkJ.f k a0) (zkJ.f (k + 1) a0) := by
 intro a0 k
 unfold zkJ.f
 repeat' first
   | (with_reducible exact zaB.mono _ _)
   | (with_reducible exact LeO.refl _)
   | (with_reducible exact LeO.none _)
   | (with_reducible refine LeO.ite ?_ ?_)
   | (with_reducible refine LeO.bind ?_ (fun _ => ?_))
   | exact zaB.mono _ _
   | exact LeO.none _
   | refine LeO.ite ?_ ?_
   | refine LeO.bind ?_ (fun _ => ?_)
theorem zkJ.calls (k : Nat) (a0 : ByteArray) (r1 : Int) (r2 : Int) (r3 : Int) (r4 : Int) (r5 : Int) (r6 : Int) (r7 : Bool) (w : World) (hG : LaidV w) (h : zkJ.f k a0 = some (r1, r2, r3, r4, r5, r6, r7)) :
  Calls Tryd.prog 14 #[.string a0] w fun e w' => e = .returned (.tuple #[.agg #[.int .i64 r1, .int .i64 r2, .int .i64 r3, .int .i64 r4, .int .i64 r5, .int .i64 r6], .bool r7]) ∧ Below w.heap.size w w' := by
 have hu34 := Tryd.underlying34
 have hu23 := Tryd.underlying23
 have HB := zpS (Below.refl w.heap.size w)
 have H : ((zvO.f a0 (⟨#[40]⟩ : ByteArray)).bind fun bt230 => ((zlW.f bt230.1 (⟨#[41]⟩ : ByteArray)).bind fun bt232 => ((strings_Cut.f bt232.1 (⟨#[44]⟩ : ByteArray)).bind fun bt234 => ((zaB.f k bt234.1).bind fun bt237 => ((zaB.f k bt234.2.1).bind fun bt242 => (if bt230.2 = true then (if bt232.2 = true then (if bt234.2.2 = true then (if bt237.2.2.2 = true then (if bt242.2.2.2 = true then (some (bt237.1, bt237.2.1, bt237.2.2.1, bt242.1, bt242.2.1, bt242.2.2.1, true)) else (some (0, 0, 0, 0, 0, 0, false))) else (some (0, 0, 0, 0, 0, 0, false))) else (some (0, 0, 0, 0, 0, 0, false))) else (some (0, 0, 0, 0, 0, 0, false))) else (some (0, 0, 0, 0, 0, 0, false)))))))) = some (r1, r2, r3, r4, r5, r6, r7) := h
 clear h
 replace H := Option.bind_eq_some_iff.mp H
 obtain ⟨⟨t230, t231⟩, A20, H⟩ := H
 replace H : ((zlW.f t230 (⟨#[41]⟩ : ByteArray)).bind fun bt232 => ((strings_Cut.f bt232.1 (⟨#[44]⟩ : ByteArray)).bind fun bt234 => ((zaB.f k bt234.1).bind fun bt237 => ((zaB.f k bt234.2.1).bind fun bt242 => (if t231 = true then (if bt232.2 = true then (if bt234.2.2 = true then (if bt237.2.2.2 = true then (if bt242.2.2.2 = true then (some (bt237.1, bt237.2.1, bt237.2.2.1, bt242.1, bt242.2.1, bt242.2.2.1, true)) else (some (0, 0, 0, 0, 0, 0, false))) else (some (0, 0, 0, 0, 0, 0, false))) else (some (0, 0, 0, 0, 0, 0, false))) else (some (0, 0, 0, 0, 0, 0, false))) else (some (0, 0, 0, 0, 0, 0, false))))))) = some (r1, r2, r3, r4, r5, r6, r7) := H
 have A2 := zpS A20
 clear A20
 replace H := Option.bind_eq_some_iff.mp H
 obtain ⟨⟨t232, t233⟩, A30, H⟩ := H
 replace H : ((strings_Cut.f t232 (⟨#[44]⟩ : ByteArray)).bind fun bt234 => ((zaB.f k bt234.1).bind fun bt237 => ((zaB.f k bt234.2.1).bind fun bt242 => (if t231 = true then (if t233 = true then (if bt234.2.2 = true then (if bt237.2.2.2 = true then (if bt242.2.2.2 = true then (some (bt237.1, bt237.2.1, bt237.2.2.1, bt242.1, bt242.2.1, bt242.2.2.1, true)) else (some (0, 0, 0, 0, 0, 0, false))) else (some (0, 0, 0, 0, 0, 0, false))) else (some (0, 0, 0, 0, 0, 0, false))) else (some (0, 0, 0, 0, 0, 0, false))) else (some (0, 0, 0, 0, 0, 0, false)))))) = some (r1, r2, r3, r4, r5, r6, r7) := H
 have A3 := zpS A30
 clear A30
 replace H := Option.bind_eq_some_iff.mp H
 obtain ⟨⟨t234, t235, t236⟩, A40, H⟩ := H
 replace H : ((zaB.f k t234).bind fun bt237 => ((zaB.f k t235).bind fun bt242 => (if t231 = true then (if t233 = true then (if t236 = true then (if bt237.2.2.2 = true then (if bt242.2.2.2 = true then (some (bt237.1, bt237.2.1, bt237.2.2.1, bt242.1, bt242.2.1, bt242.2.2.1, true)) else (some (0, 0, 0, 0, 0, 0, false))) else (some (0, 0, 0, 0, 0, 0, false))) else (some (0, 0, 0, 0, 0, 0, false))) else (some (0, 0, 0, 0, 0, 0, false))) else (some (0, 0, 0, 0, 0, 0, false))))) = some (r1, r2, r3, r4, r5, r6, r7) := H
 have A4 := zpS A40
 clear A40
 replace H := Option.bind_eq_some_iff.mp H
 obtain ⟨⟨t237, t238, t239, t240⟩, A50, H⟩ := H
 replace H : ((zaB.f k t235).bind fun bt242 => (if t231 = true then (if t233 = true then (if t236 = true then (if t240 = true then (if bt242.2.2.2 = true then (some (t237, t238, t239, bt242.1, bt242.2.1, bt242.2.2.1, true)) else (some (0, 0, 0, 0, 0, 0, false))) else (some (0, 0, 0, 0, 0, 0, false))) else (some (0, 0, 0, 0, 0, 0, false))) else (some (0, 0, 0, 0, 0, 0, false))) else (some (0, 0, 0, 0, 0, 0, false)))) = some (r1, r2, r3, r4, r5, r6, r7) := H
 have A5 := zpS A50
 clear A50
 replace H := Option.bind_eq_some_iff.mp H
 obtain ⟨⟨t242, t243, t244, t245⟩, A60, H⟩ := H
 replace H : (if t231 = true then (if t233 = true then (if t236 = true then (if t240 = true then (if t245 = true then (some (t237, t238, t239, t242, t243, t244, true)) else (some (0, 0, 0, 0, 0, 0, false))) else (some (0, 0, 0, 0, 0, 0, false))) else (some (0, 0, 0, 0, 0, 0, false))) else (some (0, 0, 0, 0, 0, 0, false))) else (some (0, 0, 0, 0, 0, 0, false))) = some (r1, r2, r3, r4, r5, r6, r7) := H
 have A6 := zpS A60
 clear A60
 by_cases c7 : t231 = true
 ·subst c7
  have H1 : (if t233 = true then (if t236 = true then (if t240 = true then (if t245 = true then (some (t237, t238, t239, t242, t243, t244, true)) else (some (0, 0, 0, 0, 0, 0, false))) else (some (0, 0, 0, 0, 0, 0, false))) else (some (0, 0, 0, 0, 0, 0, false))) else (some (0, 0, 0, 0, 0, 0, false))) = some (r1, r2, r3, r4, r5, r6, r7) := by rw [if_pos rfl] at H; exact H
  clear H
  have H := H1
  clear H1
  by_cases c8 : t233 = true
  ·subst c8
   have H1 : (if t236 = true then (if t240 = true then (if t245 = true then (some (t237, t238, t239, t242, t243, t244, true)) else (some (0, 0, 0, 0, 0, 0, false))) else (some (0, 0, 0, 0, 0, 0, false))) else (some (0, 0, 0, 0, 0, 0, false))) = some (r1, r2, r3, r4, r5, r6, r7) := by rw [if_pos rfl] at H; exact H
   clear H
   have H := H1
   clear H1
   by_cases c9 : t236 = true
   ·subst c9
    have H1 : (if t240 = true then (if t245 = true then (some (t237, t238, t239, t242, t243, t244, true)) else (some (0, 0, 0, 0, 0, 0, false))) else (some (0, 0, 0, 0, 0, 0, false))) = some (r1, r2, r3, r4, r5, r6, r7) := by rw [if_pos rfl] at H; exact H
    clear H
    have H := H1
    clear H1
    by_cases c10 : t240 = true
    ·subst c10
     have H1 : (if t245 = true then (some (t237, t238, t239, t242, t243, t244, true)) else (some (0, 0, 0, 0, 0, 0, false))) = some (r1, r2, r3, r4, r5, r6, r7) := by rw [if_pos rfl] at H; exact H
     clear H
     have H := H1
     clear H1
     by_cases c11 : t245 = true
     ·subst c11
      have H1 : (some (t237, t238, t239, t242, t243, t244, true)) = some (r1, r2, r3, r4, r5, r6, r7) := by rw [if_pos rfl] at H; exact H
      clear H
      have H := H1
      clear H1
      simp only [Option.some.injEq, Prod.mk.injEq] at H
      obtain ⟨rfl, rfl, rfl, rfl, rfl, rfl, rfl⟩ := H
      go_enter Tryd.func14, Tryd.ntmps14
      go_wp2_with (first | ((with_reducible refine zpZ (N := 2) rfl ?_); refine bx_ 2 #[.int .i64 0, .int .i64 0, .int .i64 0, .int .i64 0, .int .i64 0, .int .i64 0] 34 ?_; intro gb229 hg w12 hbox hb; have n0_ := (ns_ hb); have n1_ := zpS (hbox); have n2_ := (ng_ hg); have n3_ := n2_; clear HB; have HB := n0_; have BK229 := n1_; have GW229 := n2_; have GE229 := n3_; clear n0_ n1_ n2_ n3_; clear hb hbox hg) | ((with_reducible refine zgK (f := 33) rfl ?_); refine zqQ (some 16) rfl rfl Tryd.func33 (by kernel_rfl) rfl #[.string a0, .string (⟨#[40]⟩ : ByteArray)] rfl (by (try simp only [List.map_toArray, List.map_cons, List.map_nil]); first | done | rfl | (simp only [List.length_drop, List.length_take]; rfl)) ?_; (with_reducible refine (zvO.calls a0 (⟨#[40]⟩ : ByteArray) t230 true _ A2.out).mono ?_); rintro e w' ⟨rfl, ⟨nd, rfl⟩⟩; refine ⟨_, rfl, ?_⟩; (try (rw [zxE w12]; generalize hq_ : World.drewN w12 _ = w12; have n0_ : Aside0 (w12.heap[gb229]? = some (.cells #[.int .i64 0, .int .i64 0, .int .i64 0, .int .i64 0, .int .i64 0, .int .i64 0] 34 (0, 0))) := ⟨by rw [← hq_]; exact bk_⟩; have n1_ : Aside0 (Below w.heap.size w w12) := ⟨by rw [← hq_]; exact bb_⟩; clear BK229 HB hq_; have BK229 := n0_; have HB := n1_; clear n0_ n1_))) | ((with_reducible refine zgK (f := 34) rfl ?_); refine zqQ (some 21) rfl rfl Tryd.func34 (by kernel_rfl) rfl #[.string t230, .string (⟨#[41]⟩ : ByteArray)] rfl (by (try simp only [List.map_toArray, List.map_cons, List.map_nil]); first | done | rfl | (simp only [List.length_drop, List.length_take]; rfl)) ?_; (with_reducible refine (zlW.calls t230 (⟨#[41]⟩ : ByteArray) t232 true _ A3.out).mono ?_); rintro e w' ⟨rfl, ⟨nd, rfl⟩⟩; refine ⟨_, rfl, ?_⟩; (try (rw [zxE w12]; generalize hq_ : World.drewN w12 _ = w12; have n0_ : Aside0 (w12.heap[gb229]? = some (.cells #[.int .i64 0, .int .i64 0, .int .i64 0, .int .i64 0, .int .i64 0, .int .i64 0] 34 (0, 0))) := ⟨by rw [← hq_]; exact bk_⟩; have n1_ : Aside0 (Below w.heap.size w w12) := ⟨by rw [← hq_]; exact bb_⟩; clear BK229 HB hq_; have BK229 := n0_; have HB := n1_; clear n0_ n1_))) | ((with_reducible refine zgK (f := 22) rfl ?_); refine zqQ (some 26) rfl rfl Tryd.func22 (by kernel_rfl) rfl #[.string t232, .string (⟨#[44]⟩ : ByteArray)] rfl (by (try simp only [List.map_toArray, List.map_cons, List.map_nil]); first | done | rfl | (simp only [List.length_drop, List.length_take]; rfl)) ?_; (with_reducible refine (strings_Cut.calls t232 (⟨#[44]⟩ : ByteArray) t234 t235 true _ ?side1 A4.out).mono ?_); (case side1 => exact LaidV.below hG bb_); rintro e w' ⟨rfl, ⟨nd, rfl⟩⟩; refine ⟨_, rfl, ?_⟩; (try (rw [zxE w12]; generalize hq_ : World.drewN w12 _ = w12; have n0_ : Aside0 (w12.heap[gb229]? = some (.cells #[.int .i64 0, .int .i64 0, .int .i64 0, .int .i64 0, .int .i64 0, .int .i64 0] 34 (0, 0))) := ⟨by rw [← hq_]; exact bk_⟩; have n1_ : Aside0 (Below w.heap.size w w12) := ⟨by rw [← hq_]; exact bb_⟩; clear BK229 HB hq_; have BK229 := n0_; have HB := n1_; clear n0_ n1_))) | ((with_reducible refine zgK (f := 8) rfl ?_); refine zqQ (some 32) rfl rfl Tryd.func8 (by kernel_rfl) rfl #[.string t234] rfl (by (try simp only [List.map_toArray, List.map_cons, List.map_nil]); first | done | rfl | (simp only [List.length_drop, List.length_take]; rfl)) ?_; (with_reducible refine (zaB.calls k t234 t237 t238 t239 true _ ?side1 A5.out).mono ?_); (case side1 => exact LaidV.below hG bb_); rintro e w13 ⟨rfl, hb⟩; refine ⟨_, rfl, ?_⟩; have n0_ := zpS (zgM (g := gb229) (o := .cells #[.int .i64 0, .int .i64 0, .int .i64 0, .int .i64 0, .int .i64 0, .int .i64 0] 34 (0, 0)) bk_ hb); have n1_ := (ns_ hb); clear BK229; clear HB; have BK229 := n0_; have HB := n1_; clear n0_ n1_; (try clear hb); (try clear hb2)) | ((with_reducible refine zpZ (N := 10) rfl ?_); refine bx_ 10 #[.int .i64 0, .int .i64 0, .int .i64 0] 23 ?_; intro gb241 hg w14 hbox hb; have n0_ := zpS (zgM (g := gb229) (o := .cells #[.int .i64 0, .int .i64 0, .int .i64 0, .int .i64 0, .int .i64 0, .int .i64 0] 34 (0, 0)) bk_ hb); have n1_ := (ns_ hb); have n2_ := zpS (hbox); have n3_ := (ng_ hg); have n4_ := n3_; have n5_ := zpS ((by rw [hg]; exact Nat.ne_of_lt (zmN (g := gb229) (o := .cells #[.int .i64 0, .int .i64 0, .int .i64 0, .int .i64 0, .int .i64 0, .int .i64 0] 34 (0, 0)) bk_) : gb229 ≠ gb241)); have n6_ := zpS ((by rw [hg]; exact Nat.ne_of_gt (zmN (g := gb229) (o := .cells #[.int .i64 0, .int .i64 0, .int .i64 0, .int .i64 0, .int .i64 0, .int .i64 0] 34 (0, 0)) bk_) : gb241 ≠ gb229)); clear BK229; clear HB; have BK229 := n0_; have HB := n1_; have BK241 := n2_; have GW241 := n3_; have GE241 := n4_; have NB229_241 := n5_; have NB241_229 := n6_; clear n0_ n1_ n2_ n3_ n4_ n5_ n6_; clear hb hbox hg; have hnb15 := NB241_229.out; have hnc15 := NB229_241.out; obtain ⟨hcz16_0, hcz16_1, hcz16_2⟩ := zdT BK241.out; obtain ⟨hfz16_0, hfz16_1, hfz16_2⟩ := zqD BK241.out) | ((with_reducible refine zgK (f := 8) rfl ?_); refine zqQ (some 37) rfl rfl Tryd.func8 (by kernel_rfl) rfl #[.string t235] rfl (by (try simp only [List.map_toArray, List.map_cons, List.map_nil]); first | done | rfl | (simp only [List.length_drop, List.length_take]; rfl)) ?_; (with_reducible refine (zaB.calls k t235 t242 t243 t244 true _ ?side1 A6.out).mono ?_); (case side1 => exact LaidV.below hG bb_); rintro e w17 ⟨rfl, hb⟩; refine ⟨_, rfl, ?_⟩; have n0_ := zpS (zgM (g := gb229) (o := .cells #[.int .i64 0, .int .i64 0, .int .i64 0, .int .i64 0, .int .i64 0, .int .i64 0] 34 (0, 0)) (by (with_reducible repeat (first | apply zuW | apply ztN | apply zqY)); refine znI ?_ NB229_241.out _; (with_reducible repeat (first | apply zuW | apply ztN | apply zqY)); refine znI ?_ NB229_241.out _; (with_reducible repeat (first | apply zuW | apply ztN | apply zqY)); refine znI ?_ NB229_241.out _; (with_reducible repeat (first | apply zuW | apply ztN | apply zqY)); exact BK229.out) hb); have n1_ := zpS (zgM (g := gb241) (o := .cells #[.int .i64 t237, .int .i64 t238, .int .i64 t239] 23 (0, 0)) (by (with_reducible repeat (first | apply zuW | apply ztN | apply zqY)); refine zlL (cs := #[.int .i64 t237, .int .i64 t238, .int .i64 0]) ?_ 2 _ rfl; (with_reducible repeat (first | apply zuW | apply ztN | apply zqY)); refine zlL (cs := #[.int .i64 t237, .int .i64 0, .int .i64 0]) ?_ 1 _ rfl; (with_reducible repeat (first | apply zuW | apply ztN | apply zqY)); refine zlL (cs := #[.int .i64 0, .int .i64 0, .int .i64 0]) ?_ 0 _ rfl; (with_reducible repeat (first | apply zuW | apply ztN | apply zqY)); exact BK241.out) hb); have n2_ := (ns_ hb); clear BK229; clear BK241; clear HB; have BK229 := n0_; have BK241 := n1_; have HB := n2_; clear n0_ n1_ n2_; (try clear hb); (try clear hb2)) | ((with_reducible refine zpZ (N := 12) rfl ?_); refine bx_ 12 #[.int .i64 0, .int .i64 0, .int .i64 0] 23 ?_; intro gb246 hg w18 hbox hb; have n0_ := zpS (zgM (g := gb229) (o := .cells #[.int .i64 0, .int .i64 0, .int .i64 0, .int .i64 0, .int .i64 0, .int .i64 0] 34 (0, 0)) bk_ hb); have n1_ := zpS (zgM (g := gb241) (o := .cells #[.int .i64 t237, .int .i64 t238, .int .i64 t239] 23 (0, 0)) bk_ hb); have n2_ := (ns_ hb); have n3_ := zpS (hbox); have n4_ := (ng_ hg); have n5_ := n4_; have n6_ := zpS ((by rw [hg]; exact Nat.ne_of_lt (zmN (g := gb229) (o := .cells #[.int .i64 0, .int .i64 0, .int .i64 0, .int .i64 0, .int .i64 0, .int .i64 0] 34 (0, 0)) bk_) : gb229 ≠ gb246)); have n7_ := zpS ((by rw [hg]; exact Nat.ne_of_gt (zmN (g := gb229) (o := .cells #[.int .i64 0, .int .i64 0, .int .i64 0, .int .i64 0, .int .i64 0, .int .i64 0] 34 (0, 0)) bk_) : gb246 ≠ gb229)); have n8_ := zpS ((by rw [hg]; exact Nat.ne_of_lt (zmN (g := gb241) (o := .cells #[.int .i64 t237, .int .i64 t238, .int .i64 t239] 23 (0, 0)) bk_) : gb241 ≠ gb246)); have n9_ := zpS ((by rw [hg]; exact Nat.ne_of_gt (zmN (g := gb241) (o := .cells #[.int .i64 t237, .int .i64 t238, .int .i64 t239] 23 (0, 0)) bk_) : gb246 ≠ gb241)); clear BK229; clear BK241; clear HB; have BK229 := n0_; have BK241 := n1_; have HB := n2_; have BK246 := n3_; have GW246 := n4_; have GE246 := n5_; have NB229_246 := n6_; have NB246_229 := n7_; have NB241_246 := n8_; have NB246_241 := n9_; clear n0_ n1_ n2_ n3_ n4_ n5_ n6_ n7_ n8_ n9_; clear hb hbox hg; have hnb19 := NB246_229.out; have hnc19 := NB229_246.out; have hnb20 := NB246_241.out; have hnc20 := NB241_246.out; obtain ⟨hcz21_0, hcz21_1, hcz21_2⟩ := zdT BK246.out; obtain ⟨hfz21_0, hfz21_1, hfz21_2⟩ := zqD BK246.out; obtain ⟨hcz22_0, hcz22_1, hcz22_2⟩ := zdT BK241.out; obtain ⟨hfz22_0, hfz22_1, hfz22_2⟩ := zqD BK241.out; obtain ⟨hcz23_0, hcz23_1, hcz23_2, hcz23_3, hcz23_4, hcz23_5⟩ := cz6_ BK229.out; obtain ⟨hfz23_0, hfz23_1, hfz23_2, hfz23_3, hfz23_4, hfz23_5⟩ := fz6_ BK229.out))
      refine bodyPost_ret (zzB rfl _ _ gb229 34 #[.int .i64 t237, .int .i64 t238, .int .i64 t239, .int .i64 t242, .int .i64 t243, .int .i64 t244] (0, 0) _ rfl (by (with_reducible repeat (first | apply zuW | apply ztN | apply zqY)); refine zlL (cs := #[.int .i64 t237, .int .i64 t238, .int .i64 t239, .int .i64 t242, .int .i64 t243, .int .i64 0]) ?_ 5 _ rfl; (with_reducible repeat (first | apply zuW | apply ztN | apply zqY)); refine zlL (cs := #[.int .i64 t237, .int .i64 t238, .int .i64 t239, .int .i64 t242, .int .i64 0, .int .i64 0]) ?_ 4 _ rfl; (with_reducible repeat (first | apply zuW | apply ztN | apply zqY)); refine zlL (cs := #[.int .i64 t237, .int .i64 t238, .int .i64 t239, .int .i64 0, .int .i64 0, .int .i64 0]) ?_ 3 _ rfl; (with_reducible repeat (first | apply zuW | apply ztN | apply zqY)); refine zlL (cs := #[.int .i64 t237, .int .i64 t238, .int .i64 0, .int .i64 0, .int .i64 0, .int .i64 0]) ?_ 2 _ rfl; (with_reducible repeat (first | apply zuW | apply ztN | apply zqY)); refine zlL (cs := #[.int .i64 t237, .int .i64 0, .int .i64 0, .int .i64 0, .int .i64 0, .int .i64 0]) ?_ 1 _ rfl; (with_reducible repeat (first | apply zuW | apply ztN | apply zqY)); refine zlL (cs := #[.int .i64 0, .int .i64 0, .int .i64 0, .int .i64 0, .int .i64 0, .int .i64 0]) ?_ 0 _ rfl; (with_reducible repeat (first | apply zuW | apply ztN | apply zqY)); refine znI ?_ NB229_246.out _; (with_reducible repeat (first | apply zuW | apply ztN | apply zqY)); refine znI ?_ NB229_246.out _; (with_reducible repeat (first | apply zuW | apply ztN | apply zqY)); refine znI ?_ NB229_246.out _; (with_reducible repeat (first | apply zuW | apply ztN | apply zqY)); exact BK229.out) Tryd.underlying34 rfl (by kernel_rfl)) rfl ?_
      exact ⟨by first | rfl | (simp [ziS, znJ] <;> rfl) | (simp [*, ziS, znJ] <;> rfl), bb_⟩
     ·replace c11 := Bool.eq_false_iff.mpr c11
      subst c11
      have H1 : (some (0, 0, 0, 0, 0, 0, false)) = some (r1, r2, r3, r4, r5, r6, r7) := by rw [if_neg (show ¬ (false = true) by decide)] at H; exact H
      clear H
      have H := H1
      clear H1
      simp only [Option.some.injEq, Prod.mk.injEq] at H
      obtain ⟨rfl, rfl, rfl, rfl, rfl, rfl, rfl⟩ := H
      go_enter Tryd.func14, Tryd.ntmps14
      go_wp2_with (first | ((with_reducible refine zpZ (N := 2) rfl ?_); refine bx_ 2 #[.int .i64 0, .int .i64 0, .int .i64 0, .int .i64 0, .int .i64 0, .int .i64 0] 34 ?_; intro gb229 hg w24 hbox hb; have n0_ := (ns_ hb); have n1_ := zpS (hbox); have n2_ := (ng_ hg); have n3_ := n2_; clear HB; have HB := n0_; have BK229 := n1_; have GW229 := n2_; have GE229 := n3_; clear n0_ n1_ n2_ n3_; clear hb hbox hg) | ((with_reducible refine zgK (f := 33) rfl ?_); refine zqQ (some 16) rfl rfl Tryd.func33 (by kernel_rfl) rfl #[.string a0, .string (⟨#[40]⟩ : ByteArray)] rfl (by (try simp only [List.map_toArray, List.map_cons, List.map_nil]); first | done | rfl | (simp only [List.length_drop, List.length_take]; rfl)) ?_; (with_reducible refine (zvO.calls a0 (⟨#[40]⟩ : ByteArray) t230 true _ A2.out).mono ?_); rintro e w' ⟨rfl, ⟨nd, rfl⟩⟩; refine ⟨_, rfl, ?_⟩; (try (rw [zxE w24]; generalize hq_ : World.drewN w24 _ = w24; have n0_ : Aside0 (w24.heap[gb229]? = some (.cells #[.int .i64 0, .int .i64 0, .int .i64 0, .int .i64 0, .int .i64 0, .int .i64 0] 34 (0, 0))) := ⟨by rw [← hq_]; exact bk_⟩; have n1_ : Aside0 (Below w.heap.size w w24) := ⟨by rw [← hq_]; exact bb_⟩; clear BK229 HB hq_; have BK229 := n0_; have HB := n1_; clear n0_ n1_))) | ((with_reducible refine zgK (f := 34) rfl ?_); refine zqQ (some 21) rfl rfl Tryd.func34 (by kernel_rfl) rfl #[.string t230, .string (⟨#[41]⟩ : ByteArray)] rfl (by (try simp only [List.map_toArray, List.map_cons, List.map_nil]); first | done | rfl | (simp only [List.length_drop, List.length_take]; rfl)) ?_; (with_reducible refine (zlW.calls t230 (⟨#[41]⟩ : ByteArray) t232 true _ A3.out).mono ?_); rintro e w' ⟨rfl, ⟨nd, rfl⟩⟩; refine ⟨_, rfl, ?_⟩; (try (rw [zxE w24]; generalize hq_ : World.drewN w24 _ = w24; have n0_ : Aside0 (w24.heap[gb229]? = some (.cells #[.int .i64 0, .int .i64 0, .int .i64 0, .int .i64 0, .int .i64 0, .int .i64 0] 34 (0, 0))) := ⟨by rw [← hq_]; exact bk_⟩; have n1_ : Aside0 (Below w.heap.size w w24) := ⟨by rw [← hq_]; exact bb_⟩; clear BK229 HB hq_; have BK229 := n0_; have HB := n1_; clear n0_ n1_))) | ((with_reducible refine zgK (f := 22) rfl ?_); refine zqQ (some 26) rfl rfl Tryd.func22 (by kernel_rfl) rfl #[.string t232, .string (⟨#[44]⟩ : ByteArray)] rfl (by (try simp only [List.map_toArray, List.map_cons, List.map_nil]); first | done | rfl | (simp only [List.length_drop, List.length_take]; rfl)) ?_; (with_reducible refine (strings_Cut.calls t232 (⟨#[44]⟩ : ByteArray) t234 t235 true _ ?side1 A4.out).mono ?_); (case side1 => exact LaidV.below hG bb_); rintro e w' ⟨rfl, ⟨nd, rfl⟩⟩; refine ⟨_, rfl, ?_⟩; (try (rw [zxE w24]; generalize hq_ : World.drewN w24 _ = w24; have n0_ : Aside0 (w24.heap[gb229]? = some (.cells #[.int .i64 0, .int .i64 0, .int .i64 0, .int .i64 0, .int .i64 0, .int .i64 0] 34 (0, 0))) := ⟨by rw [← hq_]; exact bk_⟩; have n1_ : Aside0 (Below w.heap.size w w24) := ⟨by rw [← hq_]; exact bb_⟩; clear BK229 HB hq_; have BK229 := n0_; have HB := n1_; clear n0_ n1_))) | ((with_reducible refine zgK (f := 8) rfl ?_); refine zqQ (some 32) rfl rfl Tryd.func8 (by kernel_rfl) rfl #[.string t234] rfl (by (try simp only [List.map_toArray, List.map_cons, List.map_nil]); first | done | rfl | (simp only [List.length_drop, List.length_take]; rfl)) ?_; (with_reducible refine (zaB.calls k t234 t237 t238 t239 true _ ?side1 A5.out).mono ?_); (case side1 => exact LaidV.below hG bb_); rintro e w25 ⟨rfl, hb⟩; refine ⟨_, rfl, ?_⟩; have n0_ := zpS (zgM (g := gb229) (o := .cells #[.int .i64 0, .int .i64 0, .int .i64 0, .int .i64 0, .int .i64 0, .int .i64 0] 34 (0, 0)) bk_ hb); have n1_ := (ns_ hb); clear BK229; clear HB; have BK229 := n0_; have HB := n1_; clear n0_ n1_; (try clear hb); (try clear hb2)) | ((with_reducible refine zpZ (N := 10) rfl ?_); refine bx_ 10 #[.int .i64 0, .int .i64 0, .int .i64 0] 23 ?_; intro gb241 hg w26 hbox hb; have n0_ := zpS (zgM (g := gb229) (o := .cells #[.int .i64 0, .int .i64 0, .int .i64 0, .int .i64 0, .int .i64 0, .int .i64 0] 34 (0, 0)) bk_ hb); have n1_ := (ns_ hb); have n2_ := zpS (hbox); have n3_ := (ng_ hg); have n4_ := n3_; have n5_ := zpS ((by rw [hg]; exact Nat.ne_of_lt (zmN (g := gb229) (o := .cells #[.int .i64 0, .int .i64 0, .int .i64 0, .int .i64 0, .int .i64 0, .int .i64 0] 34 (0, 0)) bk_) : gb229 ≠ gb241)); have n6_ := zpS ((by rw [hg]; exact Nat.ne_of_gt (zmN (g := gb229) (o := .cells #[.int .i64 0, .int .i64 0, .int .i64 0, .int .i64 0, .int .i64 0, .int .i64 0] 34 (0, 0)) bk_) : gb241 ≠ gb229)); clear BK229; clear HB; have BK229 := n0_; have HB := n1_; have BK241 := n2_; have GW241 := n3_; have GE241 := n4_; have NB229_241 := n5_; have NB241_229 := n6_; clear n0_ n1_ n2_ n3_ n4_ n5_ n6_; clear hb hbox hg; have hnb27 := NB241_229.out; have hnc27 := NB229_241.out; obtain ⟨hcz28_0, hcz28_1, hcz28_2⟩ := zdT BK241.out; obtain ⟨hfz28_0, hfz28_1, hfz28_2⟩ := zqD BK241.out) | ((with_reducible refine zgK (f := 8) rfl ?_); refine zqQ (some 37) rfl rfl Tryd.func8 (by kernel_rfl) rfl #[.string t235] rfl (by (try simp only [List.map_toArray, List.map_cons, List.map_nil]); first | done | rfl | (simp only [List.length_drop, List.length_take]; rfl)) ?_; (with_reducible refine (zaB.calls k t235 t242 t243 t244 false _ ?side1 A6.out).mono ?_); (case side1 => exact LaidV.below hG bb_); rintro e w29 ⟨rfl, hb⟩; refine ⟨_, rfl, ?_⟩; have n0_ := zpS (zgM (g := gb229) (o := .cells #[.int .i64 0, .int .i64 0, .int .i64 0, .int .i64 0, .int .i64 0, .int .i64 0] 34 (0, 0)) (by (with_reducible repeat (first | apply zuW | apply ztN | apply zqY)); refine znI ?_ NB229_241.out _; (with_reducible repeat (first | apply zuW | apply ztN | apply zqY)); refine znI ?_ NB229_241.out _; (with_reducible repeat (first | apply zuW | apply ztN | apply zqY)); refine znI ?_ NB229_241.out _; (with_reducible repeat (first | apply zuW | apply ztN | apply zqY)); exact BK229.out) hb); have n1_ := zpS (zgM (g := gb241) (o := .cells #[.int .i64 t237, .int .i64 t238, .int .i64 t239] 23 (0, 0)) (by (with_reducible repeat (first | apply zuW | apply ztN | apply zqY)); refine zlL (cs := #[.int .i64 t237, .int .i64 t238, .int .i64 0]) ?_ 2 _ rfl; (with_reducible repeat (first | apply zuW | apply ztN | apply zqY)); refine zlL (cs := #[.int .i64 t237, .int .i64 0, .int .i64 0]) ?_ 1 _ rfl; (with_reducible repeat (first | apply zuW | apply ztN | apply zqY)); refine zlL (cs := #[.int .i64 0, .int .i64 0, .int .i64 0]) ?_ 0 _ rfl; (with_reducible repeat (first | apply zuW | apply ztN | apply zqY)); exact BK241.out) hb); have n2_ := (ns_ hb); clear BK229; clear BK241; clear HB; have BK229 := n0_; have BK241 := n1_; have HB := n2_; clear n0_ n1_ n2_; (try clear hb); (try clear hb2)) | ((with_reducible refine zpZ (N := 12) rfl ?_); refine bx_ 12 #[.int .i64 0, .int .i64 0, .int .i64 0] 23 ?_; intro gb246 hg w30 hbox hb; have n0_ := zpS (zgM (g := gb229) (o := .cells #[.int .i64 0, .int .i64 0, .int .i64 0, .int .i64 0, .int .i64 0, .int .i64 0] 34 (0, 0)) bk_ hb); have n1_ := zpS (zgM (g := gb241) (o := .cells #[.int .i64 t237, .int .i64 t238, .int .i64 t239] 23 (0, 0)) bk_ hb); have n2_ := (ns_ hb); have n3_ := zpS (hbox); have n4_ := (ng_ hg); have n5_ := n4_; have n6_ := zpS ((by rw [hg]; exact Nat.ne_of_lt (zmN (g := gb229) (o := .cells #[.int .i64 0, .int .i64 0, .int .i64 0, .int .i64 0, .int .i64 0, .int .i64 0] 34 (0, 0)) bk_) : gb229 ≠ gb246)); have n7_ := zpS ((by rw [hg]; exact Nat.ne_of_gt (zmN (g := gb229) (o := .cells #[.int .i64 0, .int .i64 0, .int .i64 0, .int .i64 0, .int .i64 0, .int .i64 0] 34 (0, 0)) bk_) : gb246 ≠ gb229)); have n8_ := zpS ((by rw [hg]; exact Nat.ne_of_lt (zmN (g := gb241) (o := .cells #[.int .i64 t237, .int .i64 t238, .int .i64 t239] 23 (0, 0)) bk_) : gb241 ≠ gb246)); have n9_ := zpS ((by rw [hg]; exact Nat.ne_of_gt (zmN (g := gb241) (o := .cells #[.int .i64 t237, .int .i64 t238, .int .i64 t239] 23 (0, 0)) bk_) : gb246 ≠ gb241)); clear BK229; clear BK241; clear HB; have BK229 := n0_; have BK241 := n1_; have HB := n2_; have BK246 := n3_; have GW246 := n4_; have GE246 := n5_; have NB229_246 := n6_; have NB246_229 := n7_; have NB241_246 := n8_; have NB246_241 := n9_; clear n0_ n1_ n2_ n3_ n4_ n5_ n6_ n7_ n8_ n9_; clear hb hbox hg; have hnb31 := NB246_229.out; have hnc31 := NB229_246.out; have hnb32 := NB246_241.out; have hnc32 := NB241_246.out; obtain ⟨hcz33_0, hcz33_1, hcz33_2⟩ := zdT BK246.out; obtain ⟨hfz33_0, hfz33_1, hfz33_2⟩ := zqD BK246.out; obtain ⟨hcz34_0, hcz34_1, hcz34_2, hcz34_3, hcz34_4, hcz34_5⟩ := cz6_ BK229.out; obtain ⟨hfz34_0, hfz34_1, hfz34_2, hfz34_3, hfz34_4, hfz34_5⟩ := fz6_ BK229.out))
      refine bodyPost_ret (zzB rfl _ _ gb229 34 #[.int .i64 0, .int .i64 0, .int .i64 0, .int .i64 0, .int .i64 0, .int .i64 0] (0, 0) _ rfl (by (with_reducible repeat (first | apply zuW | apply ztN | apply zqY)); refine zlL (cs := #[.int .i64 0, .int .i64 0, .int .i64 0, .int .i64 0, .int .i64 0, .int .i64 0]) ?_ 5 _ rfl; (with_reducible repeat (first | apply zuW | apply ztN | apply zqY)); refine zlL (cs := #[.int .i64 0, .int .i64 0, .int .i64 0, .int .i64 0, .int .i64 0, .int .i64 0]) ?_ 4 _ rfl; (with_reducible repeat (first | apply zuW | apply ztN | apply zqY)); refine zlL (cs := #[.int .i64 0, .int .i64 0, .int .i64 0, .int .i64 0, .int .i64 0, .int .i64 0]) ?_ 3 _ rfl; (with_reducible repeat (first | apply zuW | apply ztN | apply zqY)); refine zlL (cs := #[.int .i64 0, .int .i64 0, .int .i64 0, .int .i64 0, .int .i64 0, .int .i64 0]) ?_ 2 _ rfl; (with_reducible repeat (first | apply zuW | apply ztN | apply zqY)); refine zlL (cs := #[.int .i64 0, .int .i64 0, .int .i64 0, .int .i64 0, .int .i64 0, .int .i64 0]) ?_ 1 _ rfl; (with_reducible repeat (first | apply zuW | apply ztN | apply zqY)); refine zlL (cs := #[.int .i64 0, .int .i64 0, .int .i64 0, .int .i64 0, .int .i64 0, .int .i64 0]) ?_ 0 _ rfl; (with_reducible repeat (first | apply zuW | apply ztN | apply zqY)); refine znI ?_ NB229_246.out _; (with_reducible repeat (first | apply zuW | apply ztN | apply zqY)); refine znI ?_ NB229_246.out _; (with_reducible repeat (first | apply zuW | apply ztN | apply zqY)); refine znI ?_ NB229_246.out _; (with_reducible repeat (first | apply zuW | apply ztN | apply zqY)); exact BK229.out) Tryd.underlying34 rfl (by kernel_rfl)) rfl ?_
      exact ⟨by first | rfl | (simp [ziS, znJ] <;> rfl) | (simp [*, ziS, znJ] <;> rfl), bb_⟩
    ·replace c10 := Bool.eq_false_iff.mpr c10
     subst c10
     have H1 : (some (0, 0, 0, 0, 0, 0, false)) = some (r1, r2, r3, r4, r5, r6, r7) := by rw [if_neg (show ¬ (false = true) by decide)] at H; exact H
     clear H
     have H := H1
     clear H1
     simp only [Option.some.injEq, Prod.mk.injEq] at H
     obtain ⟨rfl, rfl, rfl, rfl, rfl, rfl, rfl⟩ := H
     go_enter Tryd.func14, Tryd.ntmps14
     go_wp2_with (first | ((with_reducible refine zpZ (N := 2) rfl ?_); refine bx_ 2 #[.int .i64 0, .int .i64 0, .int .i64 0, .int .i64 0, .int .i64 0, .int .i64 0] 34 ?_; intro gb229 hg w35 hbox hb; have n0_ := (ns_ hb); have n1_ := zpS (hbox); have n2_ := (ng_ hg); have n3_ := n2_; clear HB; have HB := n0_; have BK229 := n1_; have GW229 := n2_; have GE229 := n3_; clear n0_ n1_ n2_ n3_; clear hb hbox hg) | ((with_reducible refine zgK (f := 33) rfl ?_); refine zqQ (some 16) rfl rfl Tryd.func33 (by kernel_rfl) rfl #[.string a0, .string (⟨#[40]⟩ : ByteArray)] rfl (by (try simp only [List.map_toArray, List.map_cons, List.map_nil]); first | done | rfl | (simp only [List.length_drop, List.length_take]; rfl)) ?_; (with_reducible refine (zvO.calls a0 (⟨#[40]⟩ : ByteArray) t230 true _ A2.out).mono ?_); rintro e w' ⟨rfl, ⟨nd, rfl⟩⟩; refine ⟨_, rfl, ?_⟩; (try (rw [zxE w35]; generalize hq_ : World.drewN w35 _ = w35; have n0_ : Aside0 (w35.heap[gb229]? = some (.cells #[.int .i64 0, .int .i64 0, .int .i64 0, .int .i64 0, .int .i64 0, .int .i64 0] 34 (0, 0))) := ⟨by rw [← hq_]; exact bk_⟩; have n1_ : Aside0 (Below w.heap.size w w35) := ⟨by rw [← hq_]; exact bb_⟩; clear BK229 HB hq_; have BK229 := n0_; have HB := n1_; clear n0_ n1_))) | ((with_reducible refine zgK (f := 34) rfl ?_); refine zqQ (some 21) rfl rfl Tryd.func34 (by kernel_rfl) rfl #[.string t230, .string (⟨#[41]⟩ : ByteArray)] rfl (by (try simp only [List.map_toArray, List.map_cons, List.map_nil]); first | done | rfl | (simp only [List.length_drop, List.length_take]; rfl)) ?_; (with_reducible refine (zlW.calls t230 (⟨#[41]⟩ : ByteArray) t232 true _ A3.out).mono ?_); rintro e w' ⟨rfl, ⟨nd, rfl⟩⟩; refine ⟨_, rfl, ?_⟩; (try (rw [zxE w35]; generalize hq_ : World.drewN w35 _ = w35; have n0_ : Aside0 (w35.heap[gb229]? = some (.cells #[.int .i64 0, .int .i64 0, .int .i64 0, .int .i64 0, .int .i64 0, .int .i64 0] 34 (0, 0))) := ⟨by rw [← hq_]; exact bk_⟩; have n1_ : Aside0 (Below w.heap.size w w35) := ⟨by rw [← hq_]; exact bb_⟩; clear BK229 HB hq_; have BK229 := n0_; have HB := n1_; clear n0_ n1_))) | ((with_reducible refine zgK (f := 22) rfl ?_); refine zqQ (some 26) rfl rfl Tryd.func22 (by kernel_rfl) rfl #[.string t232, .string (⟨#[44]⟩ : ByteArray)] rfl (by (try simp only [List.map_toArray, List.map_cons, List.map_nil]); first | done | rfl | (simp only [List.length_drop, List.length_take]; rfl)) ?_; (with_reducible refine (strings_Cut.calls t232 (⟨#[44]⟩ : ByteArray) t234 t235 true _ ?side1 A4.out).mono ?_); (case side1 => exact LaidV.below hG bb_); rintro e w' ⟨rfl, ⟨nd, rfl⟩⟩; refine ⟨_, rfl, ?_⟩; (try (rw [zxE w35]; generalize hq_ : World.drewN w35 _ = w35; have n0_ : Aside0 (w35.heap[gb229]? = some (.cells #[.int .i64 0, .int .i64 0, .int .i64 0, .int .i64 0, .int .i64 0, .int .i64 0] 34 (0, 0))) := ⟨by rw [← hq_]; exact bk_⟩; have n1_ : Aside0 (Below w.heap.size w w35) := ⟨by rw [← hq_]; exact bb_⟩; clear BK229 HB hq_; have BK229 := n0_; have HB := n1_; clear n0_ n1_))) | ((with_reducible refine zgK (f := 8) rfl ?_); refine zqQ (some 32) rfl rfl Tryd.func8 (by kernel_rfl) rfl #[.string t234] rfl (by (try simp only [List.map_toArray, List.map_cons, List.map_nil]); first | done | rfl | (simp only [List.length_drop, List.length_take]; rfl)) ?_; (with_reducible refine (zaB.calls k t234 t237 t238 t239 false _ ?side1 A5.out).mono ?_); (case side1 => exact LaidV.below hG bb_); rintro e w36 ⟨rfl, hb⟩; refine ⟨_, rfl, ?_⟩; have n0_ := zpS (zgM (g := gb229) (o := .cells #[.int .i64 0, .int .i64 0, .int .i64 0, .int .i64 0, .int .i64 0, .int .i64 0] 34 (0, 0)) bk_ hb); have n1_ := (ns_ hb); clear BK229; clear HB; have BK229 := n0_; have HB := n1_; clear n0_ n1_; (try clear hb); (try clear hb2)) | ((with_reducible refine zpZ (N := 10) rfl ?_); refine bx_ 10 #[.int .i64 0, .int .i64 0, .int .i64 0] 23 ?_; intro gb241 hg w37 hbox hb; have n0_ := zpS (zgM (g := gb229) (o := .cells #[.int .i64 0, .int .i64 0, .int .i64 0, .int .i64 0, .int .i64 0, .int .i64 0] 34 (0, 0)) bk_ hb); have n1_ := (ns_ hb); have n2_ := zpS (hbox); have n3_ := (ng_ hg); have n4_ := n3_; have n5_ := zpS ((by rw [hg]; exact Nat.ne_of_lt (zmN (g := gb229) (o := .cells #[.int .i64 0, .int .i64 0, .int .i64 0, .int .i64 0, .int .i64 0, .int .i64 0] 34 (0, 0)) bk_) : gb229 ≠ gb241)); have n6_ := zpS ((by rw [hg]; exact Nat.ne_of_gt (zmN (g := gb229) (o := .cells #[.int .i64 0, .int .i64 0, .int .i64 0, .int .i64 0, .int .i64 0, .int .i64 0] 34 (0, 0)) bk_) : gb241 ≠ gb229)); clear BK229; clear HB; have BK229 := n0_; have HB := n1_; have BK241 := n2_; have GW241 := n3_; have GE241 := n4_; have NB229_241 := n5_; have NB241_229 := n6_; clear n0_ n1_ n2_ n3_ n4_ n5_ n6_; clear hb hbox hg; have hnb38 := NB241_229.out; have hnc38 := NB229_241.out; obtain ⟨hcz39_0, hcz39_1, hcz39_2⟩ := zdT BK241.out; obtain ⟨hfz39_0, hfz39_1, hfz39_2⟩ := zqD BK241.out) | ((with_reducible refine zgK (f := 8) rfl ?_); refine zqQ (some 37) rfl rfl Tryd.func8 (by kernel_rfl) rfl #[.string t235] rfl (by (try simp only [List.map_toArray, List.map_cons, List.map_nil]); first | done | rfl | (simp only [List.length_drop, List.length_take]; rfl)) ?_; (with_reducible refine (zaB.calls k t235 t242 t243 t244 t245 _ ?side1 A6.out).mono ?_); (case side1 => exact LaidV.below hG bb_); rintro e w40 ⟨rfl, hb⟩; refine ⟨_, rfl, ?_⟩; have n0_ := zpS (zgM (g := gb229) (o := .cells #[.int .i64 0, .int .i64 0, .int .i64 0, .int .i64 0, .int .i64 0, .int .i64 0] 34 (0, 0)) (by (with_reducible repeat (first | apply zuW | apply ztN | apply zqY)); refine znI ?_ NB229_241.out _; (with_reducible repeat (first | apply zuW | apply ztN | apply zqY)); refine znI ?_ NB229_241.out _; (with_reducible repeat (first | apply zuW | apply ztN | apply zqY)); refine znI ?_ NB229_241.out _; (with_reducible repeat (first | apply zuW | apply ztN | apply zqY)); exact BK229.out) hb); have n1_ := zpS (zgM (g := gb241) (o := .cells #[.int .i64 t237, .int .i64 t238, .int .i64 t239] 23 (0, 0)) (by (with_reducible repeat (first | apply zuW | apply ztN | apply zqY)); refine zlL (cs := #[.int .i64 t237, .int .i64 t238, .int .i64 0]) ?_ 2 _ rfl; (with_reducible repeat (first | apply zuW | apply ztN | apply zqY)); refine zlL (cs := #[.int .i64 t237, .int .i64 0, .int .i64 0]) ?_ 1 _ rfl; (with_reducible repeat (first | apply zuW | apply ztN | apply zqY)); refine zlL (cs := #[.int .i64 0, .int .i64 0, .int .i64 0]) ?_ 0 _ rfl; (with_reducible repeat (first | apply zuW | apply ztN | apply zqY)); exact BK241.out) hb); have n2_ := (ns_ hb); clear BK229; clear BK241; clear HB; have BK229 := n0_; have BK241 := n1_; have HB := n2_; clear n0_ n1_ n2_; (try clear hb); (try clear hb2)) | ((with_reducible refine zpZ (N := 12) rfl ?_); refine bx_ 12 #[.int .i64 0, .int .i64 0, .int .i64 0] 23 ?_; intro gb246 hg w41 hbox hb; have n0_ := zpS (zgM (g := gb229) (o := .cells #[.int .i64 0, .int .i64 0, .int .i64 0, .int .i64 0, .int .i64 0, .int .i64 0] 34 (0, 0)) bk_ hb); have n1_ := zpS (zgM (g := gb241) (o := .cells #[.int .i64 t237, .int .i64 t238, .int .i64 t239] 23 (0, 0)) bk_ hb); have n2_ := (ns_ hb); have n3_ := zpS (hbox); have n4_ := (ng_ hg); have n5_ := n4_; have n6_ := zpS ((by rw [hg]; exact Nat.ne_of_lt (zmN (g := gb229) (o := .cells #[.int .i64 0, .int .i64 0, .int .i64 0, .int .i64 0, .int .i64 0, .int .i64 0] 34 (0, 0)) bk_) : gb229 ≠ gb246)); have n7_ := zpS ((by rw [hg]; exact Nat.ne_of_gt (zmN (g := gb229) (o := .cells #[.int .i64 0, .int .i64 0, .int .i64 0, .int .i64 0, .int .i64 0, .int .i64 0] 34 (0, 0)) bk_) : gb246 ≠ gb229)); have n8_ := zpS ((by rw [hg]; exact Nat.ne_of_lt (zmN (g := gb241) (o := .cells #[.int .i64 t237, .int .i64 t238, .int .i64 t239] 23 (0, 0)) bk_) : gb241 ≠ gb246)); have n9_ := zpS ((by rw [hg]; exact Nat.ne_of_gt (zmN (g := gb241) (o := .cells #[.int .i64 t237, .int .i64 t238, .int .i64 t239] 23 (0, 0)) bk_) : gb246 ≠ gb241)); clear BK229; clear BK241; clear HB; have BK229 := n0_; have BK241 := n1_; have HB := n2_; have BK246 := n3_; have GW246 := n4_; have GE246 := n5_; have NB229_246 := n6_; have NB246_229 := n7_; have NB241_246 := n8_; have NB246_241 := n9_; clear n0_ n1_ n2_ n3_ n4_ n5_ n6_ n7_ n8_ n9_; clear hb hbox hg; have hnb42 := NB246_229.out; have hnc42 := NB229_246.out; have hnb43 := NB246_241.out; have hnc43 := NB241_246.out; obtain ⟨hcz44_0, hcz44_1, hcz44_2⟩ := zdT BK246.out; obtain ⟨hfz44_0, hfz44_1, hfz44_2⟩ := zqD BK246.out; obtain ⟨hcz45_0, hcz45_1, hcz45_2, hcz45_3, hcz45_4, hcz45_5⟩ := cz6_ BK229.out; obtain ⟨hfz45_0, hfz45_1, hfz45_2, hfz45_3, hfz45_4, hfz45_5⟩ := fz6_ BK229.out))
     refine bodyPost_ret (zzB rfl _ _ gb229 34 #[.int .i64 0, .int .i64 0, .int .i64 0, .int .i64 0, .int .i64 0, .int .i64 0] (0, 0) _ rfl (by (with_reducible repeat (first | apply zuW | apply ztN | apply zqY)); refine zlL (cs := #[.int .i64 0, .int .i64 0, .int .i64 0, .int .i64 0, .int .i64 0, .int .i64 0]) ?_ 5 _ rfl; (with_reducible repeat (first | apply zuW | apply ztN | apply zqY)); refine zlL (cs := #[.int .i64 0, .int .i64 0, .int .i64 0, .int .i64 0, .int .i64 0, .int .i64 0]) ?_ 4 _ rfl; (with_reducible repeat (first | apply zuW | apply ztN | apply zqY)); refine zlL (cs := #[.int .i64 0, .int .i64 0, .int .i64 0, .int .i64 0, .int .i64 0, .int .i64 0]) ?_ 3 _ rfl; (with_reducible repeat (first | apply zuW | apply ztN | apply zqY)); refine zlL (cs := #[.int .i64 0, .int .i64 0, .int .i64 0, .int .i64 0, .int .i64 0, .int .i64 0]) ?_ 2 _ rfl; (with_reducible repeat (first | apply zuW | apply ztN | apply zqY)); refine zlL (cs := #[.int .i64 0, .int .i64 0, .int .i64 0, .int .i64 0, .int .i64 0, .int .i64 0]) ?_ 1 _ rfl; (with_reducible repeat (first | apply zuW | apply ztN | apply zqY)); refine zlL (cs := #[.int .i64 0, .int .i64 0, .int .i64 0, .int .i64 0, .int .i64 0, .int .i64 0]) ?_ 0 _ rfl; (with_reducible repeat (first | apply zuW | apply ztN | apply zqY)); refine znI ?_ NB229_246.out _; (with_reducible repeat (first | apply zuW | apply ztN | apply zqY)); refine znI ?_ NB229_246.out _; (with_reducible repeat (first | apply zuW | apply ztN | apply zqY)); refine znI ?_ NB229_246.out _; (with_reducible repeat (first | apply zuW | apply ztN | apply zqY)); exact BK229.out) Tryd.underlying34 rfl (by kernel_rfl)) rfl ?_
     exact ⟨by first | rfl | (simp [ziS, znJ] <;> rfl) | (simp [*, ziS, znJ] <;> rfl), bb_⟩
   ·replace c9 := Bool.eq_false_iff.mpr c9
    subst c9
    have H1 : (some (0, 0, 0, 0, 0, 0, false)) = some (r1, r2, r3, r4, r5, r6, r7) := by rw [if_neg (show ¬ (false = true) by decide)] at H; exact H
    clear H
    have H := H1
    clear H1
    simp only [Option.some.injEq, Prod.mk.injEq] at H
    obtain ⟨rfl, rfl, rfl, rfl, rfl, rfl, rfl⟩ := H
    go_enter Tryd.func14, Tryd.ntmps14
    go_wp2_with (first | ((with_reducible refine zpZ (N := 2) rfl ?_); refine bx_ 2 #[.int .i64 0, .int .i64 0, .int .i64 0, .int .i64 0, .int .i64 0, .int .i64 0] 34 ?_; intro gb229 hg w46 hbox hb; have n0_ := (ns_ hb); have n1_ := zpS (hbox); have n2_ := (ng_ hg); have n3_ := n2_; clear HB; have HB := n0_; have BK229 := n1_; have GW229 := n2_; have GE229 := n3_; clear n0_ n1_ n2_ n3_; clear hb hbox hg) | ((with_reducible refine zgK (f := 33) rfl ?_); refine zqQ (some 16) rfl rfl Tryd.func33 (by kernel_rfl) rfl #[.string a0, .string (⟨#[40]⟩ : ByteArray)] rfl (by (try simp only [List.map_toArray, List.map_cons, List.map_nil]); first | done | rfl | (simp only [List.length_drop, List.length_take]; rfl)) ?_; (with_reducible refine (zvO.calls a0 (⟨#[40]⟩ : ByteArray) t230 true _ A2.out).mono ?_); rintro e w' ⟨rfl, ⟨nd, rfl⟩⟩; refine ⟨_, rfl, ?_⟩; (try (rw [zxE w46]; generalize hq_ : World.drewN w46 _ = w46; have n0_ : Aside0 (w46.heap[gb229]? = some (.cells #[.int .i64 0, .int .i64 0, .int .i64 0, .int .i64 0, .int .i64 0, .int .i64 0] 34 (0, 0))) := ⟨by rw [← hq_]; exact bk_⟩; have n1_ : Aside0 (Below w.heap.size w w46) := ⟨by rw [← hq_]; exact bb_⟩; clear BK229 HB hq_; have BK229 := n0_; have HB := n1_; clear n0_ n1_))) | ((with_reducible refine zgK (f := 34) rfl ?_); refine zqQ (some 21) rfl rfl Tryd.func34 (by kernel_rfl) rfl #[.string t230, .string (⟨#[41]⟩ : ByteArray)] rfl (by (try simp only [List.map_toArray, List.map_cons, List.map_nil]); first | done | rfl | (simp only [List.length_drop, List.length_take]; rfl)) ?_; (with_reducible refine (zlW.calls t230 (⟨#[41]⟩ : ByteArray) t232 true _ A3.out).mono ?_); rintro e w' ⟨rfl, ⟨nd, rfl⟩⟩; refine ⟨_, rfl, ?_⟩; (try (rw [zxE w46]; generalize hq_ : World.drewN w46 _ = w46; have n0_ : Aside0 (w46.heap[gb229]? = some (.cells #[.int .i64 0, .int .i64 0, .int .i64 0, .int .i64 0, .int .i64 0, .int .i64 0] 34 (0, 0))) := ⟨by rw [← hq_]; exact bk_⟩; have n1_ : Aside0 (Below w.heap.size w w46) := ⟨by rw [← hq_]; exact bb_⟩; clear BK229 HB hq_; have BK229 := n0_; have HB := n1_; clear n0_ n1_))) | ((with_reducible refine zgK (f := 22) rfl ?_); refine zqQ (some 26) rfl rfl Tryd.func22 (by kernel_rfl) rfl #[.string t232, .string (⟨#[44]⟩ : ByteArray)] rfl (by (try simp only [List.map_toArray, List.map_cons, List.map_nil]); first | done | rfl | (simp only [List.length_drop, List.length_take]; rfl)) ?_; (with_reducible refine (strings_Cut.calls t232 (⟨#[44]⟩ : ByteArray) t234 t235 false _ ?side1 A4.out).mono ?_); (case side1 => exact LaidV.below hG bb_); rintro e w' ⟨rfl, ⟨nd, rfl⟩⟩; refine ⟨_, rfl, ?_⟩; (try (rw [zxE w46]; generalize hq_ : World.drewN w46 _ = w46; have n0_ : Aside0 (w46.heap[gb229]? = some (.cells #[.int .i64 0, .int .i64 0, .int .i64 0, .int .i64 0, .int .i64 0, .int .i64 0] 34 (0, 0))) := ⟨by rw [← hq_]; exact bk_⟩; have n1_ : Aside0 (Below w.heap.size w w46) := ⟨by rw [← hq_]; exact bb_⟩; clear BK229 HB hq_; have BK229 := n0_; have HB := n1_; clear n0_ n1_))) | ((with_reducible refine zgK (f := 8) rfl ?_); refine zqQ (some 32) rfl rfl Tryd.func8 (by kernel_rfl) rfl #[.string t234] rfl (by (try simp only [List.map_toArray, List.map_cons, List.map_nil]); first | done | rfl | (simp only [List.length_drop, List.length_take]; rfl)) ?_; (with_reducible refine (zaB.calls k t234 t237 t238 t239 t240 _ ?side1 A5.out).mono ?_); (case side1 => exact LaidV.below hG bb_); rintro e w47 ⟨rfl, hb⟩; refine ⟨_, rfl, ?_⟩; have n0_ := zpS (zgM (g := gb229) (o := .cells #[.int .i64 0, .int .i64 0, .int .i64 0, .int .i64 0, .int .i64 0, .int .i64 0] 34 (0, 0)) bk_ hb); have n1_ := (ns_ hb); clear BK229; clear HB; have BK229 := n0_; have HB := n1_; clear n0_ n1_; (try clear hb); (try clear hb2)) | ((with_reducible refine zpZ (N := 10) rfl ?_); refine bx_ 10 #[.int .i64 0, .int .i64 0, .int .i64 0] 23 ?_; intro gb241 hg w48 hbox hb; have n0_ := zpS (zgM (g := gb229) (o := .cells #[.int .i64 0, .int .i64 0, .int .i64 0, .int .i64 0, .int .i64 0, .int .i64 0] 34 (0, 0)) bk_ hb); have n1_ := (ns_ hb); have n2_ := zpS (hbox); have n3_ := (ng_ hg); have n4_ := n3_; have n5_ := zpS ((by rw [hg]; exact Nat.ne_of_lt (zmN (g := gb229) (o := .cells #[.int .i64 0, .int .i64 0, .int .i64 0, .int .i64 0, .int .i64 0, .int .i64 0] 34 (0, 0)) bk_) : gb229 ≠ gb241)); have n6_ := zpS ((by rw [hg]; exact Nat.ne_of_gt (zmN (g := gb229) (o := .cells #[.int .i64 0, .int .i64 0, .int .i64 0, .int .i64 0, .int .i64 0, .int .i64 0] 34 (0, 0)) bk_) : gb241 ≠ gb229)); clear BK229; clear HB; have BK229 := n0_; have HB := n1_; have BK241 := n2_; have GW241 := n3_; have GE241 := n4_; have NB229_241 := n5_; have NB241_229 := n6_; clear n0_ n1_ n2_ n3_ n4_ n5_ n6_; clear hb hbox hg; have hnb49 := NB241_229.out; have hnc49 := NB229_241.out; obtain ⟨hcz50_0, hcz50_1, hcz50_2⟩ := zdT BK241.out; obtain ⟨hfz50_0, hfz50_1, hfz50_2⟩ := zqD BK241.out) | ((with_reducible refine zgK (f := 8) rfl ?_); refine zqQ (some 37) rfl rfl Tryd.func8 (by kernel_rfl) rfl #[.string t235] rfl (by (try simp only [List.map_toArray, List.map_cons, List.map_nil]); first | done | rfl | (simp only [List.length_drop, List.length_take]; rfl)) ?_; (with_reducible refine (zaB.calls k t235 t242 t243 t244 t245 _ ?side1 A6.out).mono ?_); (case side1 => exact LaidV.below hG bb_); rintro e w51 ⟨rfl, hb⟩; refine ⟨_, rfl, ?_⟩; have n0_ := zpS (zgM (g := gb229) (o := .cells #[.int .i64 0, .int .i64 0, .int .i64 0, .int .i64 0, .int .i64 0, .int .i64 0] 34 (0, 0)) (by (with_reducible repeat (first | apply zuW | apply ztN | apply zqY)); refine znI ?_ NB229_241.out _; (with_reducible repeat (first | apply zuW | apply ztN | apply zqY)); refine znI ?_ NB229_241.out _; (with_reducible repeat (first | apply zuW | apply ztN | apply zqY)); refine znI ?_ NB229_241.out _; (with_reducible repeat (first | apply zuW | apply ztN | apply zqY)); exact BK229.out) hb); have n1_ := zpS (zgM (g := gb241) (o := .cells #[.int .i64 t237, .int .i64 t238, .int .i64 t239] 23 (0, 0)) (by (with_reducible repeat (first | apply zuW | apply ztN | apply zqY)); refine zlL (cs := #[.int .i64 t237, .int .i64 t238, .int .i64 0]) ?_ 2 _ rfl; (with_reducible repeat (first | apply zuW | apply ztN | apply zqY)); refine zlL (cs := #[.int .i64 t237, .int .i64 0, .int .i64 0]) ?_ 1 _ rfl; (with_reducible repeat (first | apply zuW | apply ztN | apply zqY)); refine zlL (cs := #[.int .i64 0, .int .i64 0, .int .i64 0]) ?_ 0 _ rfl; (with_reducible repeat (first | apply zuW | apply ztN | apply zqY)); exact BK241.out) hb); have n2_ := (ns_ hb); clear BK229; clear BK241; clear HB; have BK229 := n0_; have BK241 := n1_; have HB := n2_; clear n0_ n1_ n2_; (try clear hb); (try clear hb2)) | ((with_reducible refine zpZ (N := 12) rfl ?_); refine bx_ 12 #[.int .i64 0, .int .i64 0, .int .i64 0] 23 ?_; intro gb246 hg w52 hbox hb; have n0_ := zpS (zgM (g := gb229) (o := .cells #[.int .i64 0, .int .i64 0, .int .i64 0, .int .i64 0, .int .i64 0, .int .i64 0] 34 (0, 0)) bk_ hb); have n1_ := zpS (zgM (g := gb241) (o := .cells #[.int .i64 t237, .int .i64 t238, .int .i64 t239] 23 (0, 0)) bk_ hb); have n2_ := (ns_ hb); have n3_ := zpS (hbox); have n4_ := (ng_ hg); have n5_ := n4_; have n6_ := zpS ((by rw [hg]; exact Nat.ne_of_lt (zmN (g := gb229) (o := .cells #[.int .i64 0, .int .i64 0, .int .i64 0, .int .i64 0, .int .i64 0, .int .i64 0] 34 (0, 0)) bk_) : gb229 ≠ gb246)); have n7_ := zpS ((by rw [hg]; exact Nat.ne_of_gt (zmN (g := gb229) (o := .cells #[.int .i64 0, .int .i64 0, .int .i64 0, .int .i64 0, .int .i64 0, .int .i64 0] 34 (0, 0)) bk_) : gb246 ≠ gb229)); have n8_ := zpS ((by rw [hg]; exact Nat.ne_of_lt (zmN (g := gb241) (o := .cells #[.int .i64 t237, .int .i64 t238, .int .i64 t239] 23 (0, 0)) bk_) : gb241 ≠ gb246)); have n9_ := zpS ((by rw [hg]; exact Nat.ne_of_gt (zmN (g := gb241) (o := .cells #[.int .i64 t237, .int .i64 t238, .int .i64 t239] 23 (0, 0)) bk_) : gb246 ≠ gb241)); clear BK229; clear BK241; clear HB; have BK229 := n0_; have BK241 := n1_; have HB := n2_; have BK246 := n3_; have GW246 := n4_; have GE246 := n5_; have NB229_246 := n6_; have NB246_229 := n7_; have NB241_246 := n8_; have NB246_241 := n9_; clear n0_ n1_ n2_ n3_ n4_ n5_ n6_ n7_ n8_ n9_; clear hb hbox hg; have hnb53 := NB246_229.out; have hnc53 := NB229_246.out; have hnb54 := NB246_241.out; have hnc54 := NB241_246.out; obtain ⟨hcz55_0, hcz55_1, hcz55_2⟩ := zdT BK246.out; obtain ⟨hfz55_0, hfz55_1, hfz55_2⟩ := zqD BK246.out; obtain ⟨hcz56_0, hcz56_1, hcz56_2, hcz56_3, hcz56_4, hcz56_5⟩ := cz6_ BK229.out; obtain ⟨hfz56_0, hfz56_1, hfz56_2, hfz56_3, hfz56_4, hfz56_5⟩ := fz6_ BK229.out))
    refine bodyPost_ret (zzB rfl _ _ gb229 34 #[.int .i64 0, .int .i64 0, .int .i64 0, .int .i64 0, .int .i64 0, .int .i64 0] (0, 0) _ rfl (by (with_reducible repeat (first | apply zuW | apply ztN | apply zqY)); refine zlL (cs := #[.int .i64 0, .int .i64 0, .int .i64 0, .int .i64 0, .int .i64 0, .int .i64 0]) ?_ 5 _ rfl; (with_reducible repeat (first | apply zuW | apply ztN | apply zqY)); refine zlL (cs := #[.int .i64 0, .int .i64 0, .int .i64 0, .int .i64 0, .int .i64 0, .int .i64 0]) ?_ 4 _ rfl; (with_reducible repeat (first | apply zuW | apply ztN | apply zqY)); refine zlL (cs := #[.int .i64 0, .int .i64 0, .int .i64 0, .int .i64 0, .int .i64 0, .int .i64 0]) ?_ 3 _ rfl; (with_reducible repeat (first | apply zuW | apply ztN | apply zqY)); refine zlL (cs := #[.int .i64 0, .int .i64 0, .int .i64 0, .int .i64 0, .int .i64 0, .int .i64 0]) ?_ 2 _ rfl; (with_reducible repeat (first | apply zuW | apply ztN | apply zqY)); refine zlL (cs := #[.int .i64 0, .int .i64 0, .int .i64 0, .int .i64 0, .int .i64 0, .int .i64 0]) ?_ 1 _ rfl; (with_reducible repeat (first | apply zuW | apply ztN | apply zqY)); refine zlL (cs := #[.int .i64 0, .int .i64 0, .int .i64 0, .int .i64 0, .int .i64 0, .int .i64 0]) ?_ 0 _ rfl; (with_reducible repeat (first | apply zuW | apply ztN | apply zqY)); refine znI ?_ NB229_246.out _; (with_reducible repeat (first | apply zuW | apply ztN | apply zqY)); refine znI ?_ NB229_246.out _; (with_reducible repeat (first | apply zuW | apply ztN | apply zqY)); refine znI ?_ NB229_246.out _; (with_reducible repeat (first | apply zuW | apply ztN | apply zqY)); exact BK229.out) Tryd.underlying34 rfl (by kernel_rfl)) rfl ?_
    exact ⟨by first | rfl | (simp [ziS, znJ] <;> rfl) | (simp [*, ziS, znJ] <;> rfl), bb_⟩
  ·replace c8 := Bool.eq_false_iff.mpr c8
   subst c8
   have H1 : (some (0, 0, 0, 0, 0, 0, false)) = some (r1, r2, r3, r4, r5, r6, r7) := by rw [if_neg (show ¬ (false = true) by decide)] at H; exact H
   clear H
   have H := H1
   clear H1
   simp only [Option.some.injEq, Prod.mk.injEq] at H
   obtain ⟨rfl, rfl, rfl, rfl, rfl, rfl, rfl⟩ := H
   go_enter Tryd.func14, Tryd.ntmps14
   go_wp2_with (first | ((with_reducible refine zpZ (N := 2) rfl ?_); refine bx_ 2 #[.int .i64 0, .int .i64 0, .int .i64 0, .int .i64 0, .int .i64 0, .int .i64 0] 34 ?_; intro gb229 hg w57 hbox hb; have n0_ := (ns_ hb); have n1_ := zpS (hbox); have n2_ := (ng_ hg); have n3_ := n2_; clear HB; have HB := n0_; have BK229 := n1_; have GW229 := n2_; have GE229 := n3_; clear n0_ n1_ n2_ n3_; clear hb hbox hg) | ((with_reducible refine zgK (f := 33) rfl ?_); refine zqQ (some 16) rfl rfl Tryd.func33 (by kernel_rfl) rfl #[.string a0, .string (⟨#[40]⟩ : ByteArray)] rfl (by (try simp only [List.map_toArray, List.map_cons, List.map_nil]); first | done | rfl | (simp only [List.length_drop, List.length_take]; rfl)) ?_; (with_reducible refine (zvO.calls a0 (⟨#[40]⟩ : ByteArray) t230 true _ A2.out).mono ?_); rintro e w' ⟨rfl, ⟨nd, rfl⟩⟩; refine ⟨_, rfl, ?_⟩; (try (rw [zxE w57]; generalize hq_ : World.drewN w57 _ = w57; have n0_ : Aside0 (w57.heap[gb229]? = some (.cells #[.int .i64 0, .int .i64 0, .int .i64 0, .int .i64 0, .int .i64 0, .int .i64 0] 34 (0, 0))) := ⟨by rw [← hq_]; exact bk_⟩; have n1_ : Aside0 (Below w.heap.size w w57) := ⟨by rw [← hq_]; exact bb_⟩; clear BK229 HB hq_; have BK229 := n0_; have HB := n1_; clear n0_ n1_))) | ((with_reducible refine zgK (f := 34) rfl ?_); refine zqQ (some 21) rfl rfl Tryd.func34 (by kernel_rfl) rfl #[.string t230, .string (⟨#[41]⟩ : ByteArray)] rfl (by (try simp only [List.map_toArray, List.map_cons, List.map_nil]); first | done | rfl | (simp only [List.length_drop, List.length_take]; rfl)) ?_; (with_reducible refine (zlW.calls t230 (⟨#[41]⟩ : ByteArray) t232 false _ A3.out).mono ?_); rintro e w' ⟨rfl, ⟨nd, rfl⟩⟩; refine ⟨_, rfl, ?_⟩; (try (rw [zxE w57]; generalize hq_ : World.drewN w57 _ = w57; have n0_ : Aside0 (w57.heap[gb229]? = some (.cells #[.int .i64 0, .int .i64 0, .int .i64 0, .int .i64 0, .int .i64 0, .int .i64 0] 34 (0, 0))) := ⟨by rw [← hq_]; exact bk_⟩; have n1_ : Aside0 (Below w.heap.size w w57) := ⟨by rw [← hq_]; exact bb_⟩; clear BK229 HB hq_; have BK229 := n0_; have HB := n1_; clear n0_ n1_))) | ((with_reducible refine zgK (f := 22) rfl ?_); refine zqQ (some 26) rfl rfl Tryd.func22 (by kernel_rfl) rfl #[.string t232, .string (⟨#[44]⟩ : ByteArray)] rfl (by (try simp only [List.map_toArray, List.map_cons, List.map_nil]); first | done | rfl | (simp only [List.length_drop, List.length_take]; rfl)) ?_; (with_reducible refine (strings_Cut.calls t232 (⟨#[44]⟩ : ByteArray) t234 t235 t236 _ ?side1 A4.out).mono ?_); (case side1 => exact LaidV.below hG bb_); rintro e w' ⟨rfl, ⟨nd, rfl⟩⟩; refine ⟨_, rfl, ?_⟩; (try (rw [zxE w57]; generalize hq_ : World.drewN w57 _ = w57; have n0_ : Aside0 (w57.heap[gb229]? = some (.cells #[.int .i64 0, .int .i64 0, .int .i64 0, .int .i64 0, .int .i64 0, .int .i64 0] 34 (0, 0))) := ⟨by rw [← hq_]; exact bk_⟩; have n1_ : Aside0 (Below w.heap.size w w57) := ⟨by rw [← hq_]; exact bb_⟩; clear BK229 HB hq_; have BK229 := n0_; have HB := n1_; clear n0_ n1_))) | ((with_reducible refine zgK (f := 8) rfl ?_); refine zqQ (some 32) rfl rfl Tryd.func8 (by kernel_rfl) rfl #[.string t234] rfl (by (try simp only [List.map_toArray, List.map_cons, List.map_nil]); first | done | rfl | (simp only [List.length_drop, List.length_take]; rfl)) ?_; (with_reducible refine (zaB.calls k t234 t237 t238 t239 t240 _ ?side1 A5.out).mono ?_); (case side1 => exact LaidV.below hG bb_); rintro e w58 ⟨rfl, hb⟩; refine ⟨_, rfl, ?_⟩; have n0_ := zpS (zgM (g := gb229) (o := .cells #[.int .i64 0, .int .i64 0, .int .i64 0, .int .i64 0, .int .i64 0, .int .i64 0] 34 (0, 0)) bk_ hb); have n1_ := (ns_ hb); clear BK229; clear HB; have BK229 := n0_; have HB := n1_; clear n0_ n1_; (try clear hb); (try clear hb2)) | ((with_reducible refine zpZ (N := 10) rfl ?_); refine bx_ 10 #[.int .i64 0, .int .i64 0, .int .i64 0] 23 ?_; intro gb241 hg w59 hbox hb; have n0_ := zpS (zgM (g := gb229) (o := .cells #[.int .i64 0, .int .i64 0, .int .i64 0, .int .i64 0, .int .i64 0, .int .i64 0] 34 (0, 0)) bk_ hb); have n1_ := (ns_ hb); have n2_ := zpS (hbox); have n3_ := (ng_ hg); have n4_ := n3_; have n5_ := zpS ((by rw [hg]; exact Nat.ne_of_lt (zmN (g := gb229) (o := .cells #[.int .i64 0, .int .i64 0, .int .i64 0, .int .i64 0, .int .i64 0, .int .i64 0] 34 (0, 0)) bk_) : gb229 ≠ gb241)); have n6_ := zpS ((by rw [hg]; exact Nat.ne_of_gt (zmN (g := gb229) (o := .cells #[.int .i64 0, .int .i64 0, .int .i64 0, .int .i64 0, .int .i64 0, .int .i64 0] 34 (0, 0)) bk_) : gb241 ≠ gb229)); clear BK229; clear HB; have BK229 := n0_; have HB := n1_; have BK241 := n2_; have GW241 := n3_; have GE241 := n4_; have NB229_241 := n5_; have NB241_229 := n6_; clear n0_ n1_ n2_ n3_ n4_ n5_ n6_; clear hb hbox hg; have hnb60 := NB241_229.out; have hnc60 := NB229_241.out; obtain ⟨hcz61_0, hcz61_1, hcz61_2⟩ := zdT BK241.out; obtain ⟨hfz61_0, hfz61_1, hfz61_2⟩ := zqD BK241.out) | ((with_reducible refine zgK (f := 8) rfl ?_); refine zqQ (some 37) rfl rfl Tryd.func8 (by kernel_rfl) rfl #[.string t235] rfl (by (try simp only [List.map_toArray, List.map_cons, List.map_nil]); first | done | rfl | (simp only [List.length_drop, List.length_take]; rfl)) ?_; (with_reducible refine (zaB.calls k t235 t242 t243 t244 t245 _ ?side1 A6.out).mono ?_); (case side1 => exact LaidV.below hG bb_); rintro e w62 ⟨rfl, hb⟩; refine ⟨_, rfl, ?_⟩; have n0_ := zpS (zgM (g := gb229) (o := .cells #[.int .i64 0, .int .i64 0, .int .i64 0, .int .i64 0, .int .i64 0, .int .i64 0] 34 (0, 0)) (by (with_reducible repeat (first | apply zuW | apply ztN | apply zqY)); refine znI ?_ NB229_241.out _; (with_reducible repeat (first | apply zuW | apply ztN | apply zqY)); refine znI ?_ NB229_241.out _; (with_reducible repeat (first | apply zuW | apply ztN | apply zqY)); refine znI ?_ NB229_241.out _; (with_reducible repeat (first | apply zuW | apply ztN | apply zqY)); exact BK229.out) hb); have n1_ := zpS (zgM (g := gb241) (o := .cells #[.int .i64 t237, .int .i64 t238, .int .i64 t239] 23 (0, 0)) (by (with_reducible repeat (first | apply zuW | apply ztN | apply zqY)); refine zlL (cs := #[.int .i64 t237, .int .i64 t238, .int .i64 0]) ?_ 2 _ rfl; (with_reducible repeat (first | apply zuW | apply ztN | apply zqY)); refine zlL (cs := #[.int .i64 t237, .int .i64 0, .int .i64 0]) ?_ 1 _ rfl; (with_reducible repeat (first | apply zuW | apply ztN | apply zqY)); refine zlL (cs := #[.int .i64 0, .int .i64 0, .int .i64 0]) ?_ 0 _ rfl; (with_reducible repeat (first | apply zuW | apply ztN | apply zqY)); exact BK241.out) hb); have n2_ := (ns_ hb); clear BK229; clear BK241; clear HB; have BK229 := n0_; have BK241 := n1_; have HB := n2_; clear n0_ n1_ n2_; (try clear hb); (try clear hb2)) | ((with_reducible refine zpZ (N := 12) rfl ?_); refine bx_ 12 #[.int .i64 0, .int .i64 0, .int .i64 0] 23 ?_; intro gb246 hg w63 hbox hb; have n0_ := zpS (zgM (g := gb229) (o := .cells #[.int .i64 0, .int .i64 0, .int .i64 0, .int .i64 0, .int .i64 0, .int .i64 0] 34 (0, 0)) bk_ hb); have n1_ := zpS (zgM (g := gb241) (o := .cells #[.int .i64 t237, .int .i64 t238, .int .i64 t239] 23 (0, 0)) bk_ hb); have n2_ := (ns_ hb); have n3_ := zpS (hbox); have n4_ := (ng_ hg); have n5_ := n4_; have n6_ := zpS ((by rw [hg]; exact Nat.ne_of_lt (zmN (g := gb229) (o := .cells #[.int .i64 0, .int .i64 0, .int .i64 0, .int .i64 0, .int .i64 0, .int .i64 0] 34 (0, 0)) bk_) : gb229 ≠ gb246)); have n7_ := zpS ((by rw [hg]; exact Nat.ne_of_gt (zmN (g := gb229) (o := .cells #[.int .i64 0, .int .i64 0, .int .i64 0, .int .i64 0, .int .i64 0, .int .i64 0] 34 (0, 0)) bk_) : gb246 ≠ gb229)); have n8_ := zpS ((by rw [hg]; exact Nat.ne_of_lt (zmN (g := gb241) (o := .cells #[.int .i64 t237, .int .i64 t238, .int .i64 t239] 23 (0, 0)) bk_) : gb241 ≠ gb246)); have n9_ := zpS ((by rw [hg]; exact Nat.ne_of_gt (zmN (g := gb241) (o := .cells #[.int .i64 t237, .int .i64 t238, .int .i64 t239] 23 (0, 0)) bk_) : gb246 ≠ gb241)); clear BK229; clear BK241; clear HB; have BK229 := n0_; have BK241 := n1_; have HB := n2_; have BK246 := n3_; have GW246 := n4_; have GE246 := n5_; have NB229_246 := n6_; have NB246_229 := n7_; have NB241_246 := n8_; have NB246_241 := n9_; clear n0_ n1_ n2_ n3_ n4_ n5_ n6_ n7_ n8_ n9_; clear hb hbox hg; have hnb64 := NB246_229.out; have hnc64 := NB229_246.out; have hnb65 := NB246_241.out; have hnc65 := NB241_246.out; obtain ⟨hcz66_0, hcz66_1, hcz66_2⟩ := zdT BK246.out; obtain ⟨hfz66_0, hfz66_1, hfz66_2⟩ := zqD BK246.out; obtain ⟨hcz67_0, hcz67_1, hcz67_2, hcz67_3, hcz67_4, hcz67_5⟩ := cz6_ BK229.out; obtain ⟨hfz67_0, hfz67_1, hfz67_2, hfz67_3, hfz67_4, hfz67_5⟩ := fz6_ BK229.out))
   refine bodyPost_ret (zzB rfl _ _ gb229 34 #[.int .i64 0, .int .i64 0, .int .i64 0, .int .i64 0, .int .i64 0, .int .i64 0] (0, 0) _ rfl (by (with_reducible repeat (first | apply zuW | apply ztN | apply zqY)); refine zlL (cs := #[.int .i64 0, .int .i64 0, .int .i64 0, .int .i64 0, .int .i64 0, .int .i64 0]) ?_ 5 _ rfl; (with_reducible repeat (first | apply zuW | apply ztN | apply zqY)); refine zlL (cs := #[.int .i64 0, .int .i64 0, .int .i64 0, .int .i64 0, .int .i64 0, .int .i64 0]) ?_ 4 _ rfl; (with_reducible repeat (first | apply zuW | apply ztN | apply zqY)); refine zlL (cs := #[.int .i64 0, .int .i64 0, .int .i64 0, .int .i64 0, .int .i64 0, .int .i64 0]) ?_ 3 _ rfl; (with_reducible repeat (first | apply zuW | apply ztN | apply zqY)); refine zlL (cs := #[.int .i64 0, .int .i64 0, .int .i64 0, .int .i64 0, .int .i64 0, .int .i64 0]) ?_ 2 _ rfl; (with_reducible repeat (first | apply zuW | apply ztN | apply zqY)); refine zlL (cs := #[.int .i64 0, .int .i64 0, .int .i64 0, .int .i64 0, .int .i64 0, .int .i64 0]) ?_ 1 _ rfl; (with_reducible repeat (first | apply zuW | apply ztN | apply zqY)); refine zlL (cs := #[.int .i64 0, .int .i64 0, .int .i64 0, .int .i64 0, .int .i64 0, .int .i64 0]) ?_ 0 _ rfl; (with_reducible repeat (first | apply zuW | apply ztN | apply zqY)); refine znI ?_ NB229_246.out _; (with_reducible repeat (first | apply zuW | apply ztN | apply zqY)); refine znI ?_ NB229_246.out _; (with_reducible repeat (first | apply zuW | apply ztN | apply zqY)); refine znI ?_ NB229_246.out _; (with_reducible repeat (first | apply zuW | apply ztN | apply zqY)); exact BK229.out) Tryd.underlying34 rfl (by kernel_rfl)) rfl ?_
   exact ⟨by first | rfl | (simp [ziS, znJ] <;> rfl) | (simp [*, ziS, znJ] <;> rfl), bb_⟩
 ·replace c7 := Bool.eq_false_iff.mpr c7
  subst c7
  have H1 : (some (0, 0, 0, 0, 0, 0, false)) = some (r1, r2, r3, r4, r5, r6, r7) := by rw [if_neg (show ¬ (false = true) by decide)] at H; exact H
  clear H
  have H := H1
  clear H1
  simp only [Option.some.injEq, Prod.mk.injEq] at H
  obtain ⟨rfl, rfl, rfl, rfl, rfl, rfl, rfl⟩ := H
  go_enter Tryd.func14, Tryd.ntmps14
  go_wp2_with (first | ((with_reducible refine zpZ (N := 2) rfl ?_); refine bx_ 2 #[.int .i64 0, .int .i64 0, .int .i64 0, .int .i64 0, .int .i64 0, .int .i64 0] 34 ?_; intro gb229 hg w68 hbox hb; have n0_ := (ns_ hb); have n1_ := zpS (hbox); have n2_ := (ng_ hg); have n3_ := n2_; clear HB; have HB := n0_; have BK229 := n1_; have GW229 := n2_; have GE229 := n3_; clear n0_ n1_ n2_ n3_; clear hb hbox hg) | ((with_reducible refine zgK (f := 33) rfl ?_); refine zqQ (some 16) rfl rfl Tryd.func33 (by kernel_rfl) rfl #[.string a0, .string (⟨#[40]⟩ : ByteArray)] rfl (by (try simp only [List.map_toArray, List.map_cons, List.map_nil]); first | done | rfl | (simp only [List.length_drop, List.length_take]; rfl)) ?_; (with_reducible refine (zvO.calls a0 (⟨#[40]⟩ : ByteArray) t230 false _ A2.out).mono ?_); rintro e w' ⟨rfl, ⟨nd, rfl⟩⟩; refine ⟨_, rfl, ?_⟩; (try (rw [zxE w68]; generalize hq_ : World.drewN w68 _ = w68; have n0_ : Aside0 (w68.heap[gb229]? = some (.cells #[.int .i64 0, .int .i64 0, .int .i64 0, .int .i64 0, .int .i64 0, .int .i64 0] 34 (0, 0))) := ⟨by rw [← hq_]; exact bk_⟩; have n1_ : Aside0 (Below w.heap.size w w68) := ⟨by rw [← hq_]; exact bb_⟩; clear BK229 HB hq_; have BK229 := n0_; have HB := n1_; clear n0_ n1_))) | ((with_reducible refine zgK (f := 34) rfl ?_); refine zqQ (some 21) rfl rfl Tryd.func34 (by kernel_rfl) rfl #[.string t230, .string (⟨#[41]⟩ : ByteArray)] rfl (by (try simp only [List.map_toArray, List.map_cons, List.map_nil]); first | done | rfl | (simp only [List.length_drop, List.length_take]; rfl)) ?_; (with_reducible refine (zlW.calls t230 (⟨#[41]⟩ : ByteArray) t232 t233 _ A3.out).mono ?_); rintro e w' ⟨rfl, ⟨nd, rfl⟩⟩; refine ⟨_, rfl, ?_⟩; (try (rw [zxE w68]; generalize hq_ : World.drewN w68 _ = w68; have n0_ : Aside0 (w68.heap[gb229]? = some (.cells #[.int .i64 0, .int .i64 0, .int .i64 0, .int .i64 0, .int .i64 0, .int .i64 0] 34 (0, 0))) := ⟨by rw [← hq_]; exact bk_⟩; have n1_ : Aside0 (Below w.heap.size w w68) := ⟨by rw [← hq_]; exact bb_⟩; clear BK229 HB hq_; have BK229 := n0_; have HB := n1_; clear n0_ n1_))) | ((with_reducible refine zgK (f := 22) rfl ?_); refine zqQ (some 26) rfl rfl Tryd.func22 (by kernel_rfl) rfl #[.string t232, .string (⟨#[44]⟩ : ByteArray)] rfl (by (try simp only [List.map_toArray, List.map_cons, List.map_nil]); first | done | rfl | (simp only [List.length_drop, List.length_take]; rfl)) ?_; (with_reducible refine (strings_Cut.calls t232 (⟨#[44]⟩ : ByteArray) t234 t235 t236 _ ?side1 A4.out).mono ?_); (case side1 => exact LaidV.below hG bb_); rintro e w' ⟨rfl, ⟨nd, rfl⟩⟩; refine ⟨_, rfl, ?_⟩; (try (rw [zxE w68]; generalize hq_ : World.drewN w68 _ = w68; have n0_ : Aside0 (w68.heap[gb229]? = some (.cells #[.int .i64 0, .int .i64 0, .int .i64 0, .int .i64 0, .int .i64 0, .int .i64 0] 34 (0, 0))) := ⟨by rw [← hq_]; exact bk_⟩; have n1_ : Aside0 (Below w.heap.size w w68) := ⟨by rw [← hq_]; exact bb_⟩; clear BK229 HB hq_; have BK229 := n0_; have HB := n1_; clear n0_ n1_))) | ((with_reducible refine zgK (f := 8) rfl ?_); refine zqQ (some 32) rfl rfl Tryd.func8 (by kernel_rfl) rfl #[.string t234] rfl (by (try simp only [List.map_toArray, List.map_cons, List.map_nil]); first | done | rfl | (simp only [List.length_drop, List.length_take]; rfl)) ?_; (with_reducible refine (zaB.calls k t234 t237 t238 t239 t240 _ ?side1 A5.out).mono ?_); (case side1 => exact LaidV.below hG bb_); rintro e w69 ⟨rfl, hb⟩; refine ⟨_, rfl, ?_⟩; have n0_ := zpS (zgM (g := gb229) (o := .cells #[.int .i64 0, .int .i64 0, .int .i64 0, .int .i64 0, .int .i64 0, .int .i64 0] 34 (0, 0)) bk_ hb); have n1_ := (ns_ hb); clear BK229; clear HB; have BK229 := n0_; have HB := n1_; clear n0_ n1_; (try clear hb); (try clear hb2)) | ((with_reducible refine zpZ (N := 10) rfl ?_); refine bx_ 10 #[.int .i64 0, .int .i64 0, .int .i64 0] 23 ?_; intro gb241 hg w70 hbox hb; have n0_ := zpS (zgM (g := gb229) (o := .cells #[.int .i64 0, .int .i64 0, .int .i64 0, .int .i64 0, .int .i64 0, .int .i64 0] 34 (0, 0)) bk_ hb); have n1_ := (ns_ hb); have n2_ := zpS (hbox); have n3_ := (ng_ hg); have n4_ := n3_; have n5_ := zpS ((by rw [hg]; exact Nat.ne_of_lt (zmN (g := gb229) (o := .cells #[.int .i64 0, .int .i64 0, .int .i64 0, .int .i64 0, .int .i64 0, .int .i64 0] 34 (0, 0)) bk_) : gb229 ≠ gb241)); have n6_ := zpS ((by rw [hg]; exact Nat.ne_of_gt (zmN (g := gb229) (o := .cells #[.int .i64 0, .int .i64 0, .int .i64 0, .int .i64 0, .int .i64 0, .int .i64 0] 34 (0, 0)) bk_) : gb241 ≠ gb229)); clear BK229; clear HB; have BK229 := n0_; have HB := n1_; have BK241 := n2_; have GW241 := n3_; have GE241 := n4_; have NB229_241 := n5_; have NB241_229 := n6_; clear n0_ n1_ n2_ n3_ n4_ n5_ n6_; clear hb hbox hg; have hnb71 := NB241_229.out; have hnc71 := NB229_241.out; obtain ⟨hcz72_0, hcz72_1, hcz72_2⟩ := zdT BK241.out; obtain ⟨hfz72_0, hfz72_1, hfz72_2⟩ := zqD BK241.out) | ((with_reducible refine zgK (f := 8) rfl ?_); refine zqQ (some 37) rfl rfl Tryd.func8 (by kernel_rfl) rfl #[.string t235] rfl (by (try simp only [List.map_toArray, List.map_cons, List.map_nil]); first | done | rfl | (simp only [List.length_drop, List.length_take]; rfl)) ?_; (with_reducible refine (zaB.calls k t235 t242 t243 t244 t245 _ ?side1 A6.out).mono ?_); (case side1 => exact LaidV.below hG bb_); rintro e w73 ⟨rfl, hb⟩; refine ⟨_, rfl, ?_⟩; have n0_ := zpS (zgM (g := gb229) (o := .cells #[.int .i64 0, .int .i64 0, .int .i64 0, .int .i64 0, .int .i64 0, .int .i64 0] 34 (0, 0)) (by (with_reducible repeat (first | apply zuW | apply ztN | apply zqY)); refine znI ?_ NB229_241.out _; (with_reducible repeat (first | apply zuW | apply ztN | apply zqY)); refine znI ?_ NB229_241.out _; (with_reducible repeat (first | apply zuW | apply ztN | apply zqY)); refine znI ?_ NB229_241.out _; (with_reducible repeat (first | apply zuW | apply ztN | apply zqY)); exact BK229.out) hb); have n1_ := zpS (zgM (g := gb241) (o := .cells #[.int .i64 t237, .int .i64 t238, .int .i64 t239] 23 (0, 0)) (by (with_reducible repeat (first | apply zuW | apply ztN | apply zqY)); refine zlL (cs := #[.int .i64 t237, .int .i64 t238, .int .i64 0]) ?_ 2 _ rfl; (with_reducible repeat (first | apply zuW | apply ztN | apply zqY)); refine zlL (cs := #[.int .i64 t237, .int .i64 0, .int .i64 0]) ?_ 1 _ rfl; (with_reducible repeat (first | apply zuW | apply ztN | apply zqY)); refine zlL (cs := #[.int .i64 0, .int .i64 0, .int .i64 0]) ?_ 0 _ rfl; (with_reducible repeat (first | apply zuW | apply ztN | apply zqY)); exact BK241.out) hb); have n2_ := (ns_ hb); clear BK229; clear BK241; clear HB; have BK229 := n0_; have BK241 := n1_; have HB := n2_; clear n0_ n1_ n2_; (try clear hb); (try clear hb2)) | ((with_reducible refine zpZ (N := 12) rfl ?_); refine bx_ 12 #[.int .i64 0, .int .i64 0, .int .i64 0] 23 ?_; intro gb246 hg w74 hbox hb; have n0_ := zpS (zgM (g := gb229) (o := .cells #[.int .i64 0, .int .i64 0, .int .i64 0, .int .i64 0, .int .i64 0, .int .i64 0] 34 (0, 0)) bk_ hb); have n1_ := zpS (zgM (g := gb241) (o := .cells #[.int .i64 t237, .int .i64 t238, .int .i64 t239] 23 (0, 0)) bk_ hb); have n2_ := (ns_ hb); have n3_ := zpS (hbox); have n4_ := (ng_ hg); have n5_ := n4_; have n6_ := zpS ((by rw [hg]; exact Nat.ne_of_lt (zmN (g := gb229) (o := .cells #[.int .i64 0, .int .i64 0, .int .i64 0, .int .i64 0, .int .i64 0, .int .i64 0] 34 (0, 0)) bk_) : gb229 ≠ gb246)); have n7_ := zpS ((by rw [hg]; exact Nat.ne_of_gt (zmN (g := gb229) (o := .cells #[.int .i64 0, .int .i64 0, .int .i64 0, .int .i64 0, .int .i64 0, .int .i64 0] 34 (0, 0)) bk_) : gb246 ≠ gb229)); have n8_ := zpS ((by rw [hg]; exact Nat.ne_of_lt (zmN (g := gb241) (o := .cells #[.int .i64 t237, .int .i64 t238, .int .i64 t239] 23 (0, 0)) bk_) : gb241 ≠ gb246)); have n9_ := zpS ((by rw [hg]; exact Nat.ne_of_gt (zmN (g := gb241) (o := .cells #[.int .i64 t237, .int .i64 t238, .int .i64 t239] 23 (0, 0)) bk_) : gb246 ≠ gb241)); clear BK229; clear BK241; clear HB; have BK229 := n0_; have BK241 := n1_; have HB := n2_; have BK246 := n3_; have GW246 := n4_; have GE246 := n5_; have NB229_246 := n6_; have NB246_229 := n7_; have NB241_246 := n8_; have NB246_241 := n9_; clear n0_ n1_ n2_ n3_ n4_ n5_ n6_ n7_ n8_ n9_; clear hb hbox hg; have hnb75 := NB246_229.out; have hnc75 := NB229_246.out; have hnb76 := NB246_241.out; have hnc76 := NB241_246.out; obtain ⟨hcz77_0, hcz77_1, hcz77_2⟩ := zdT BK246.out; obtain ⟨hfz77_0, hfz77_1, hfz77_2⟩ := zqD BK246.out; obtain ⟨hcz78_0, hcz78_1, hcz78_2, hcz78_3, hcz78_4, hcz78_5⟩ := cz6_ BK229.out; obtain ⟨hfz78_0, hfz78_1, hfz78_2, hfz78_3, hfz78_4, hfz78_5⟩ := fz6_ BK229.out))
  refine bodyPost_ret (zzB rfl _ _ gb229 34 #[.int .i64 0, .int .i64 0, .int .i64 0, .int .i64 0, .int .i64 0, .int .i64 0] (0, 0) _ rfl (by (with_reducible repeat (first | apply zuW | apply ztN | apply zqY)); refine zlL (cs := #[.int .i64 0, .int .i64 0, .int .i64 0, .int .i64 0, .int .i64 0, .int .i64 0]) ?_ 5 _ rfl; (with_reducible repeat (first | apply zuW | apply ztN | apply zqY)); refine zlL (cs := #[.int .i64 0, .int .i64 0, .int .i64 0, .int .i64 0, .int .i64 0, .int .i64 0]) ?_ 4 _ rfl; (with_reducible repeat (first | apply zuW | apply ztN | apply zqY)); refine zlL (cs := #[.int .i64 0, .int .i64 0, .int .i64 0, .int .i64 0, .int .i64 0, .int .i64 0]) ?_ 3 _ rfl; (with_reducible repeat (first | apply zuW | apply ztN | apply zqY)); refine zlL (cs := #[.int .i64 0, .int .i64 0, .int .i64 0, .int .i64 0, .int .i64 0, .int .i64 0]) ?_ 2 _ rfl; (with_reducible repeat (first | apply zuW | apply ztN | apply zqY)); refine zlL (cs := #[.int .i64 0, .int .i64 0, .int .i64 0, .int .i64 0, .int .i64 0, .int .i64 0]) ?_ 1 _ rfl; (with_reducible repeat (first | apply zuW | apply ztN | apply zqY)); refine zlL (cs := #[.int .i64 0, .int .i64 0, .int .i64 0, .int .i64 0, .int .i64 0, .int .i64 0]) ?_ 0 _ rfl; (with_reducible repeat (first | apply zuW | apply ztN | apply zqY)); refine znI ?_ NB229_246.out _; (with_reducible repeat (first | apply zuW | apply ztN | apply zqY)); refine znI ?_ NB229_246.out _; (with_reducible repeat (first | apply zuW | apply ztN | apply zqY)); refine znI ?_ NB229_246.out _; (with_reducible repeat (first | apply zuW | apply ztN | apply zqY)); exact BK229.out) Tryd.underlying34 rfl (by kernel_rfl)) rfl ?_
  exact ⟨by first | rfl | (simp [ziS, znJ] <;> rfl) | (simp [*, ziS, znJ] <;> rfl), bb_⟩

def zyY.f (a0_0 : Int) (a0_1 : Bool) (a0_2 : Int) (a0_3 : Int) (a0_4 : Int) (a0_5 : Int) (a0_6 : Int) (a0_7 : Int) : Option (Bool) := (zrP.f a0_0 0 7).bind fun t248 => (if t248 = true then ((zdR.f a0_2 a0_3 a0_4).bind fun t249 => (if t249 = true then ((zdR.f a0_5 a0_6 a0_7).bind fun t250 => (some t250)) else (some false))) else (some false))
theorem zyY.calls (a0_0 : Int) (a0_1 : Bool) (a0_2 : Int) (a0_3 : Int) (a0_4 : Int) (a0_5 : Int) (a0_6 : Int) (a0_7 : Int) (r : Bool) (w : World) (h : zyY.f a0_0 a0_1 a0_2 a0_3 a0_4 a0_5 a0_6 a0_7 = some r) :
  Calls Tryd.prog 35 #[.agg #[.int .i64 a0_0, .bool a0_1, .int .i64 a0_2, .int .i64 a0_3, .int .i64 a0_4, .int .i64 a0_5, .int .i64 a0_6, .int .i64 a0_7]] w fun e w' => e = .returned (.bool r) ∧ Below w.heap.size w w' := by
 have hu39 := Tryd.underlying39
 have hu23 := Tryd.underlying23
 have HB := zpS (Below.refl w.heap.size w)
 have H : ((zrP.f a0_0 0 7).bind fun t248 => (if t248 = true then ((zdR.f a0_2 a0_3 a0_4).bind fun t249 => (if t249 = true then ((zdR.f a0_5 a0_6 a0_7).bind fun t250 => (some t250)) else (some false))) else (some false))) = some r := h
 clear h
 replace H := Option.bind_eq_some_iff.mp H
 obtain ⟨t248, A20, H⟩ := H
 replace H : (if t248 = true then ((zdR.f a0_2 a0_3 a0_4).bind fun t249 => (if t249 = true then ((zdR.f a0_5 a0_6 a0_7).bind fun t250 => (some t250)) else (some false))) else (some false)) = some r := H
 have A2 := zpS A20
 clear A20
 by_cases c3 : t248 = true
 ·subst c3
  have H1 : ((zdR.f a0_2 a0_3 a0_4).bind fun t249 => (if t249 = true then ((zdR.f a0_5 a0_6 a0_7).bind fun t250 => (some t250)) else (some false))) = some r := by rw [if_pos rfl] at H; exact H
  clear H
  have H := H1
  clear H1
  replace H := Option.bind_eq_some_iff.mp H
  obtain ⟨t249, A40, H⟩ := H
  replace H : (if t249 = true then ((zdR.f a0_5 a0_6 a0_7).bind fun t250 => (some t250)) else (some false)) = some r := H
  have A4 := zpS A40
  clear A40
  by_cases c5 : t249 = true
  ·subst c5
   have H1 : ((zdR.f a0_5 a0_6 a0_7).bind fun t250 => (some t250)) = some r := by rw [if_pos rfl] at H; exact H
   clear H
   have H := H1
   clear H1
   replace H := Option.bind_eq_some_iff.mp H
   obtain ⟨t250, A60, H⟩ := H
   replace H : (some t250) = some r := H
   have A6 := zpS A60
   clear A60
   obtain rfl := Option.some.inj H
   go_enter Tryd.func35, Tryd.ntmps35
   go_wp2_with (first | ((with_reducible refine zpZ (N := 1) rfl ?_); refine bx_ 1 #[.int .i64 a0_0, .bool a0_1, .int .i64 a0_2, .int .i64 a0_3, .int .i64 a0_4, .int .i64 a0_5, .int .i64 a0_6, .int .i64 a0_7] 39 ?_; intro gb247 hg w7 hbox hb; have n0_ := (ns_ hb); have n1_ := zpS (hbox); have n2_ := (ng_ hg); have n3_ := n2_; clear HB; have HB := n0_; have BK247 := n1_; have GW247 := n2_; have GE247 := n3_; clear n0_ n1_ n2_ n3_; clear hb hbox hg; have hcz8_0 : w7.cell? ⟨gb247, 0, none⟩ = some (.int .i64 a0_0) := (zzS BK247.out 0).trans rfl; have hcz8_1 : w7.cell? ⟨gb247, 1, none⟩ = some (.bool a0_1) := (zzS BK247.out 1).trans rfl; have hcz8_2 : w7.cell? ⟨gb247, 2, none⟩ = some (.int .i64 a0_2) := (zzS BK247.out 2).trans rfl; have hcz8_3 : w7.cell? ⟨gb247, 3, none⟩ = some (.int .i64 a0_3) := (zzS BK247.out 3).trans rfl; have hcz8_4 : w7.cell? ⟨gb247, 4, none⟩ = some (.int .i64 a0_4) := (zzS BK247.out 4).trans rfl; have hcz8_5 : w7.cell? ⟨gb247, 5, none⟩ = some (.int .i64 a0_5) := (zzS BK247.out 5).trans rfl; have hcz8_6 : w7.cell? ⟨gb247, 6, none⟩ = some (.int .i64 a0_6) := (zzS BK247.out 6).trans rfl; have hcz8_7 : w7.cell? ⟨gb247, 7, none⟩ = some (.int .i64 a0_7) := (zzS BK247.out 7).trans rfl; have hfz8_0 := zjF BK247.out 0; have hfz8_1 := zjF BK247.out 1; have hfz8_2 := zjF BK247.out 2; have hfz8_3 := zjF BK247.out 3; have hfz8_4 := zjF BK247.out 4; have hfz8_5 := zjF BK247.out 5; have hfz8_6 := zjF BK247.out 6; have hfz8_7 := zjF BK247.out 7) | ((with_reducible refine zgK (f := 46) rfl ?_); refine zqQ (some 5) rfl rfl Tryd.func46 (by kernel_rfl) rfl #[.int .i64 a0_0, .int .i64 0, .int .i64 7] rfl (by (try simp only [List.map_toArray, List.map_cons, List.map_nil]); first | done | rfl | (simp only [List.length_drop, List.length_take]; rfl)) ?_; (with_reducible refine (zrP.calls a0_0 0 7 true _ A2.out).mono ?_); rintro e w' ⟨rfl, ⟨nd, rfl⟩⟩; refine ⟨_, rfl, ?_⟩) | (go_at_call 28; (with_reducible refine (zdR.calls a0_2 a0_3 a0_4 true _ A4.out).mono ?_); rintro e w9 ⟨rfl, hb⟩; have n0_ := zpS (zgM (g := gb247) (o := .cells #[.int .i64 a0_0, .bool a0_1, .int .i64 a0_2, .int .i64 a0_3, .int .i64 a0_4, .int .i64 a0_5, .int .i64 a0_6, .int .i64 a0_7] 39 (0, 0)) bk_ hb); have n1_ := (ns_ hb); clear BK247; clear HB; have BK247 := n0_; have HB := n1_; clear n0_ n1_; (try clear hb); (try clear hb2); have hcz10_0 : w9.cell? ⟨gb247, 0, none⟩ = some (.int .i64 a0_0) := (zzS BK247.out 0).trans rfl; have hcz10_1 : w9.cell? ⟨gb247, 1, none⟩ = some (.bool a0_1) := (zzS BK247.out 1).trans rfl; have hcz10_2 : w9.cell? ⟨gb247, 2, none⟩ = some (.int .i64 a0_2) := (zzS BK247.out 2).trans rfl; have hcz10_3 : w9.cell? ⟨gb247, 3, none⟩ = some (.int .i64 a0_3) := (zzS BK247.out 3).trans rfl; have hcz10_4 : w9.cell? ⟨gb247, 4, none⟩ = some (.int .i64 a0_4) := (zzS BK247.out 4).trans rfl; have hcz10_5 : w9.cell? ⟨gb247, 5, none⟩ = some (.int .i64 a0_5) := (zzS BK247.out 5).trans rfl; have hcz10_6 : w9.cell? ⟨gb247, 6, none⟩ = some (.int .i64 a0_6) := (zzS BK247.out 6).trans rfl; have hcz10_7 : w9.cell? ⟨gb247, 7, none⟩ = some (.int .i64 a0_7) := (zzS BK247.out 7).trans rfl; have hfz10_0 := zjF BK247.out 0; have hfz10_1 := zjF BK247.out 1; have hfz10_2 := zjF BK247.out 2; have hfz10_3 := zjF BK247.out 3; have hfz10_4 := zjF BK247.out 4; have hfz10_5 := zjF BK247.out 5; have hfz10_6 := zjF BK247.out 6; have hfz10_7 := zjF BK247.out 7) | (go_at_call 28; (with_reducible refine (zdR.calls a0_5 a0_6 a0_7 t250 _ A6.out).mono ?_); rintro e w11 ⟨rfl, hb⟩; have n0_ := zpS (zgM (g := gb247) (o := .cells #[.int .i64 a0_0, .bool a0_1, .int .i64 a0_2, .int .i64 a0_3, .int .i64 a0_4, .int .i64 a0_5, .int .i64 a0_6, .int .i64 a0_7] 39 (0, 0)) bk_ hb); have n1_ := (ns_ hb); clear BK247; clear HB; have BK247 := n0_; have HB := n1_; clear n0_ n1_; (try clear hb); (try clear hb2)))
   go_ret
   exact ⟨by first | rfl | (simp [ziS, znJ] <;> rfl) | (simp [*, ziS, znJ] <;> rfl), bb_⟩
  ·replace c5 := Bool.eq_false_iff.mpr c5
   subst c5
   have H1 : (some false) = some r := by rw [if_neg (show ¬ (false = true) by decide)] at H; exact H
   clear H
   have H := H1
   clear H1
   obtain rfl := Option.some.inj H
   go_enter Tryd.func35, Tryd.ntmps35
   go_wp2_with (first | ((with_reducible refine zpZ (N := 1) rfl ?_); refine bx_ 1 #[.int .i64 a0_0, .bool a0_1, .int .i64 a0_2, .int .i64 a0_3, .int .i64 a0_4, .int .i64 a0_5, .int .i64 a0_6, .int .i64 a0_7] 39 ?_; intro gb247 hg w12 hbox hb; have n0_ := (ns_ hb); have n1_ := zpS (hbox); have n2_ := (ng_ hg); have n3_ := n2_; clear HB; have HB := n0_; have BK247 := n1_; have GW247 := n2_; have GE247 := n3_; clear n0_ n1_ n2_ n3_; clear hb hbox hg; have hcz13_0 : w12.cell? ⟨gb247, 0, none⟩ = some (.int .i64 a0_0) := (zzS BK247.out 0).trans rfl; have hcz13_1 : w12.cell? ⟨gb247, 1, none⟩ = some (.bool a0_1) := (zzS BK247.out 1).trans rfl; have hcz13_2 : w12.cell? ⟨gb247, 2, none⟩ = some (.int .i64 a0_2) := (zzS BK247.out 2).trans rfl; have hcz13_3 : w12.cell? ⟨gb247, 3, none⟩ = some (.int .i64 a0_3) := (zzS BK247.out 3).trans rfl; have hcz13_4 : w12.cell? ⟨gb247, 4, none⟩ = some (.int .i64 a0_4) := (zzS BK247.out 4).trans rfl; have hcz13_5 : w12.cell? ⟨gb247, 5, none⟩ = some (.int .i64 a0_5) := (zzS BK247.out 5).trans rfl; have hcz13_6 : w12.cell? ⟨gb247, 6, none⟩ = some (.int .i64 a0_6) := (zzS BK247.out 6).trans rfl; have hcz13_7 : w12.cell? ⟨gb247, 7, none⟩ = some (.int .i64 a0_7) := (zzS BK247.out 7).trans rfl; have hfz13_0 := zjF BK247.out 0; have hfz13_1 := zjF BK247.out 1; have hfz13_2 := zjF BK247.out 2; have hfz13_3 := zjF BK247.out 3; have hfz13_4 := zjF BK247.out 4; have hfz13_5 := zjF BK247.out 5; have hfz13_6 := zjF BK247.out 6; have hfz13_7 := zjF BK247.out 7) | ((with_reducible refine zgK (f := 46) rfl ?_); refine zqQ (some 5) rfl rfl Tryd.func46 (by kernel_rfl) rfl #[.int .i64 a0_0, .int .i64 0, .int .i64 7] rfl (by (try simp only [List.map_toArray, List.map_cons, List.map_nil]); first | done | rfl | (simp only [List.length_drop, List.length_take]; rfl)) ?_; (with_reducible refine (zrP.calls a0_0 0 7 true _ A2.out).mono ?_); rintro e w' ⟨rfl, ⟨nd, rfl⟩⟩; refine ⟨_, rfl, ?_⟩) | (go_at_call 28; (with_reducible refine (zdR.calls a0_2 a0_3 a0_4 false _ A4.out).mono ?_); rintro e w14 ⟨rfl, hb⟩; have n0_ := zpS (zgM (g := gb247) (o := .cells #[.int .i64 a0_0, .bool a0_1, .int .i64 a0_2, .int .i64 a0_3, .int .i64 a0_4, .int .i64 a0_5, .int .i64 a0_6, .int .i64 a0_7] 39 (0, 0)) bk_ hb); have n1_ := (ns_ hb); clear BK247; clear HB; have BK247 := n0_; have HB := n1_; clear n0_ n1_; (try clear hb); (try clear hb2)))
   go_ret
   exact ⟨by first | rfl | (simp [ziS, znJ] <;> rfl) | (simp [*, ziS, znJ] <;> rfl), bb_⟩
 ·replace c3 := Bool.eq_false_iff.mpr c3
  subst c3
  have H1 : (some false) = some r := by rw [if_neg (show ¬ (false = true) by decide)] at H; exact H
  clear H
  have H := H1
  clear H1
  obtain rfl := Option.some.inj H
  go_enter Tryd.func35, Tryd.ntmps35
  go_wp2_with (first | ((with_reducible refine zpZ (N := 1) rfl ?_); refine bx_ 1 #[.int .i64 a0_0, .bool a0_1, .int .i64 a0_2, .int .i64 a0_3, .int .i64 a0_4, .int .i64 a0_5, .int .i64 a0_6, .int .i64 a0_7] 39 ?_; intro gb247 hg w15 hbox hb; have n0_ := (ns_ hb); have n1_ := zpS (hbox); have n2_ := (ng_ hg); have n3_ := n2_; clear HB; have HB := n0_; have BK247 := n1_; have GW247 := n2_; have GE247 := n3_; clear n0_ n1_ n2_ n3_; clear hb hbox hg; have hcz16_0 : w15.cell? ⟨gb247, 0, none⟩ = some (.int .i64 a0_0) := (zzS BK247.out 0).trans rfl; have hcz16_1 : w15.cell? ⟨gb247, 1, none⟩ = some (.bool a0_1) := (zzS BK247.out 1).trans rfl; have hcz16_2 : w15.cell? ⟨gb247, 2, none⟩ = some (.int .i64 a0_2) := (zzS BK247.out 2).trans rfl; have hcz16_3 : w15.cell? ⟨gb247, 3, none⟩ = some (.int .i64 a0_3) := (zzS BK247.out 3).trans rfl; have hcz16_4 : w15.cell? ⟨gb247, 4, none⟩ = some (.int .i64 a0_4) := (zzS BK247.out 4).trans rfl; have hcz16_5 : w15.cell? ⟨gb247, 5, none⟩ = some (.int .i64 a0_5) := (zzS BK247.out 5).trans rfl; have hcz16_6 : w15.cell? ⟨gb247, 6, none⟩ = some (.int .i64 a0_6) := (zzS BK247.out 6).trans rfl; have hcz16_7 : w15.cell? ⟨gb247, 7, none⟩ = some (.int .i64 a0_7) := (zzS BK247.out 7).trans rfl; have hfz16_0 := zjF BK247.out 0; have hfz16_1 := zjF BK247.out 1; have hfz16_2 := zjF BK247.out 2; have hfz16_3 := zjF BK247.out 3; have hfz16_4 := zjF BK247.out 4; have hfz16_5 := zjF BK247.out 5; have hfz16_6 := zjF BK247.out 6; have hfz16_7 := zjF BK247.out 7) | ((with_reducible refine zgK (f := 46) rfl ?_); refine zqQ (some 5) rfl rfl Tryd.func46 (by kernel_rfl) rfl #[.int .i64 a0_0, .int .i64 0, .int .i64 7] rfl (by (try simp only [List.map_toArray, List.map_cons, List.map_nil]); first | done | rfl | (simp only [List.length_drop, List.length_take]; rfl)) ?_; (with_reducible refine (zrP.calls a0_0 0 7 false _ A2.out).mono ?_); rintro e w' ⟨rfl, ⟨nd, rfl⟩⟩; refine ⟨_, rfl, ?_⟩))
  go_ret
  exact ⟨by first | rfl | (simp [ziS, znJ] <;> rfl) | (simp [*, ziS, znJ] <;> rfl), bb_⟩

def zvK.f (k : Nat) (a0_0 : Int) (a0_1 : Int) (a0_2 : Int) (a0_3 : Int) (a0_4 : Int) (a0_5 : Int) : Option (ByteArray) := (zjG.f k a0_0 a0_1 a0_2).bind fun t252 => (if 1 + t252.size ≤ 9223372036854775807 then (if ((⟨#[40]⟩ : ByteArray) ++ t252).size + 1 ≤ 9223372036854775807 then ((zjG.f k a0_3 a0_4 a0_5).bind fun t253 => (if (((⟨#[40]⟩ : ByteArray) ++ t252) ++ (⟨#[44]⟩ : ByteArray)).size + t253.size ≤ 9223372036854775807 then (if ((((⟨#[40]⟩ : ByteArray) ++ t252) ++ (⟨#[44]⟩ : ByteArray)) ++ t253).size + 1 ≤ 9223372036854775807 then (some (((((⟨#[40]⟩ : ByteArray) ++ t252) ++ (⟨#[44]⟩ : ByteArray)) ++ t253) ++ (⟨#[41]⟩ : ByteArray))) else (none)) else (none))) else (none)) else (none))
theorem zvK.mono : ∀ a0 a1 a2 a3 a4 a5 k, LeO (zvK.f k a0 a1 a2 a3 a4 a5) (zvK.f (k + 1) a0 a1 a2 a3 a4 a5) := by
 intro a0 a1 a2 a3 a4 a5 k
 unfold zvK.f
 repeat' first
   | (with_reducible exact zjG.mono _ _ _ _)
   | (with_reducible exact LeO.refl _)
   | (with_reducible exact LeO.none _)
   | (with_reducible refine LeO.ite ?_ ?_)
   | (with_reducible refine LeO.bind ?_ (fun _ => ?_))
   | exact zjG.mono _ _ _ _
   | exact LeO.none _
   | refine LeO.ite ?_ ?_
   | refine LeO.bind ?_ (fun _ => ?_)
def zvK.T1 : Bool × List (List Nat × List Nat) := (true, [([], []), ([0], [0]), ([1], [1]), ([2], [2]), ([3], [3]), ([], []), ([5], [5]), ([6, 2], [6]), ([4, 7], [4, 7]), ([8], [8]), ([9, 7, 0, 1, 2, 3, 4, 5, 6, 7, 8, 9], [9])])
def zvK.B1 : List Nat := [0, 1, 3, 7, 15, 0, 32, 103, 255, 511, 1023]
theorem zvK.tab1 : rtab .any (opsOf Tryd.f50 1) = zvK.T1 := by kernel_rfl
theorem zvK.bits1 : waitsOk zvK.T1.2 zvK.B1 = true := by kernel_rfl
theorem zvK.calls (k : Nat) (a0_0 : Int) (a0_1 : Int) (a0_2 : Int) (a0_3 : Int) (a0_4 : Int) (a0_5 : Int) (r : ByteArray) (w : World) (hG : LaidV w) (h : zvK.f k a0_0 a0_1 a0_2 a0_3 a0_4 a0_5 = some r) :
  Calls Tryd.prog 50 #[.agg #[.int .i64 a0_0, .int .i64 a0_1, .int .i64 a0_2, .int .i64 a0_3, .int .i64 a0_4, .int .i64 a0_5]] w fun e w' => e = .returned (.string r) ∧ Below w.heap.size w w' := by
 have hu34 := Tryd.underlying34
 have hu23 := Tryd.underlying23
 have HB := zpS (Below.refl w.heap.size w)
 have H : ((zjG.f k a0_0 a0_1 a0_2).bind fun t252 => (if 1 + t252.size ≤ 9223372036854775807 then (if ((⟨#[40]⟩ : ByteArray) ++ t252).size + 1 ≤ 9223372036854775807 then ((zjG.f k a0_3 a0_4 a0_5).bind fun t253 => (if (((⟨#[40]⟩ : ByteArray) ++ t252) ++ (⟨#[44]⟩ : ByteArray)).size + t253.size ≤ 9223372036854775807 then (if ((((⟨#[40]⟩ : ByteArray) ++ t252) ++ (⟨#[44]⟩ : ByteArray)) ++ t253).size + 1 ≤ 9223372036854775807 then (some (((((⟨#[40]⟩ : ByteArray) ++ t252) ++ (⟨#[44]⟩ : ByteArray)) ++ t253) ++ (⟨#[41]⟩ : ByteArray))) else (none)) else (none))) else (none)) else (none))) = some r := h
 clear h
 replace H := Option.bind_eq_some_iff.mp H
 obtain ⟨t252, A20, H⟩ := H
 replace H : (if 1 + t252.size ≤ 9223372036854775807 then (if ((⟨#[40]⟩ : ByteArray) ++ t252).size + 1 ≤ 9223372036854775807 then ((zjG.f k a0_3 a0_4 a0_5).bind fun t253 => (if (((⟨#[40]⟩ : ByteArray) ++ t252) ++ (⟨#[44]⟩ : ByteArray)).size + t253.size ≤ 9223372036854775807 then (if ((((⟨#[40]⟩ : ByteArray) ++ t252) ++ (⟨#[44]⟩ : ByteArray)) ++ t253).size + 1 ≤ 9223372036854775807 then (some (((((⟨#[40]⟩ : ByteArray) ++ t252) ++ (⟨#[44]⟩ : ByteArray)) ++ t253) ++ (⟨#[41]⟩ : ByteArray))) else (none)) else (none))) else (none)) else (none)) = some r := H
 have A2 := zpS A20
 clear A20
 by_cases c3 : 1 + t252.size ≤ 9223372036854775807
 ·rw [if_pos c3] at H
  have c3b0 := eq_true c3
  have c3b1 : decide (1 + t252.size ≤ 9223372036854775807) = true := decide_eq_true c3
  try have c3b2 : (9223372036854775807 < 1 + t252.size) = False := eq_false (Nat.not_lt.2 c3)
  by_cases c4 : ((⟨#[40]⟩ : ByteArray) ++ t252).size + 1 ≤ 9223372036854775807
  ·rw [if_pos c4] at H
   have c4b0 := eq_true c4
   have c4b1 : decide (((⟨#[40]⟩ : ByteArray) ++ t252).size + 1 ≤ 9223372036854775807) = true := decide_eq_true c4
   try have c4b2 : (9223372036854775807 < ((⟨#[40]⟩ : ByteArray) ++ t252).size + 1) = False := eq_false (Nat.not_lt.2 c4)
   (try (have c4b3 : (9223372036854775807 < 1 + t252.size + 1) = False := eq_false (Nat.not_lt.2 (by have h_ := c4; simp only [ByteArray.size_append] at h_; exact h_))))
   replace H := Option.bind_eq_some_iff.mp H
   obtain ⟨t253, A50, H⟩ := H
   replace H : (if (((⟨#[40]⟩ : ByteArray) ++ t252) ++ (⟨#[44]⟩ : ByteArray)).size + t253.size ≤ 9223372036854775807 then (if ((((⟨#[40]⟩ : ByteArray) ++ t252) ++ (⟨#[44]⟩ : ByteArray)) ++ t253).size + 1 ≤ 9223372036854775807 then (some (((((⟨#[40]⟩ : ByteArray) ++ t252) ++ (⟨#[44]⟩ : ByteArray)) ++ t253) ++ (⟨#[41]⟩ : ByteArray))) else (none)) else (none)) = some r := H
   have A5 := zpS A50
   clear A50
   by_cases c6 : (((⟨#[40]⟩ : ByteArray) ++ t252) ++ (⟨#[44]⟩ : ByteArray)).size + t253.size ≤ 9223372036854775807
   ·rw [if_pos c6] at H
    have c6b0 := eq_true c6
    have c6b1 : decide ((((⟨#[40]⟩ : ByteArray) ++ t252) ++ (⟨#[44]⟩ : ByteArray)).size + t253.size ≤ 9223372036854775807) = true := decide_eq_true c6
    try have c6b2 : (9223372036854775807 < (((⟨#[40]⟩ : ByteArray) ++ t252) ++ (⟨#[44]⟩ : ByteArray)).size + t253.size) = False := eq_false (Nat.not_lt.2 c6)
    (try (have c6b3 : (9223372036854775807 < 1 + t252.size + 1 + t253.size) = False := eq_false (Nat.not_lt.2 (by have h_ := c6; simp only [ByteArray.size_append] at h_; exact h_))))
    by_cases c7 : ((((⟨#[40]⟩ : ByteArray) ++ t252) ++ (⟨#[44]⟩ : ByteArray)) ++ t253).size + 1 ≤ 9223372036854775807
    ·rw [if_pos c7] at H
     have c7b0 := eq_true c7
     have c7b1 : decide (((((⟨#[40]⟩ : ByteArray) ++ t252) ++ (⟨#[44]⟩ : ByteArray)) ++ t253).size + 1 ≤ 9223372036854775807) = true := decide_eq_true c7
     try have c7b2 : (9223372036854775807 < ((((⟨#[40]⟩ : ByteArray) ++ t252) ++ (⟨#[44]⟩ : ByteArray)) ++ t253).size + 1) = False := eq_false (Nat.not_lt.2 c7)
     (try (have c7b3 : (9223372036854775807 < 1 + t252.size + 1 + t253.size + 1) = False := eq_false (Nat.not_lt.2 (by have h_ := c7; simp only [ByteArray.size_append] at h_; exact h_))))
     obtain rfl := Option.some.inj H
     go_enter Tryd.func50, Tryd.ntmps50
     try go_wp2_with (first | ((with_reducible refine zpZ (N := 1) rfl ?_); refine bx_ 1 #[.int .i64 a0_0, .int .i64 a0_1, .int .i64 a0_2, .int .i64 a0_3, .int .i64 a0_4, .int .i64 a0_5] 34 ?_; intro gb251 hg w8 hbox hb; have n0_ := (ns_ hb); have n1_ := zpS (hbox); have n2_ := (ng_ hg); have n3_ := n2_; clear HB; have HB := n0_; have BK251 := n1_; have GW251 := n2_; have GE251 := n3_; clear n0_ n1_ n2_ n3_; clear hb hbox hg))
     have n0_ := zpS (ztN BK251.out)
     have n1_ := zpS (zvF HB.out)
     clear BK251
     clear HB
     have BK251 := n0_
     have HB := n1_
     clear n0_ n1_
     refine start_ (n := 11) (S := fun w' => w'.cell? ⟨gb251, 0, none⟩ = some (.int .i64 a0_0) ∧ w'.cell? ⟨gb251, 1, none⟩ = some (.int .i64 a0_1) ∧ w'.cell? ⟨gb251, 2, none⟩ = some (.int .i64 a0_2) ∧ w'.cell? ⟨gb251, 3, none⟩ = some (.int .i64 a0_3) ∧ w'.cell? ⟨gb251, 4, none⟩ = some (.int .i64 a0_4) ∧ w'.cell? ⟨gb251, 5, none⟩ = some (.int .i64 a0_5)) (ds := []) #[false, false, false, false, false, false, false, false, false, false, false] (by kernel_rfl) rfl rfl ⟨(zzS BK251.out 0).trans rfl, (zzS BK251.out 1).trans rfl, (zzS BK251.out 2).trans rfl, (zzS BK251.out 3).trans rfl, (zzS BK251.out 4).trans rfl, (zzS BK251.out 5).trans rfl⟩ (fun hHeld => ?_); refine zwI zvK.tab1 zvK.bits1 (fun HT_ HW_ => ?_)
     generalize w8.drew = w9 at BK251 HB hHeld ⊢
     refine pu_ 0 (some 3) (bl_ 11 1) ?_
     refine pu_ 5 (some 8) (bl_ 11 33) ?_
     refine tk6_ 1 (some 4) (bl_ 11 35) hHeld ?_
     refine tk6_ 6 (some 9) (bl_ 11 99) hHeld ?_
     refine one_ (i := 2) (N := some 5) (bl_ 11 103) rfl rfl (zeO HT_.out (by kernel_rfl)) (by decide) (fun K hK => ?_)
     refine goes_ Tryd.func29 (by kernel_rfl) rfl #[.agg #[.int .i64 a0_0, .int .i64 a0_1, .int .i64 a0_2]] (by rfl) rfl rfl (by (try simp only [List.map_toArray, List.map_cons, List.map_nil]); first | done | rfl | (simp only [List.length_drop, List.length_take]; rfl)) ?_
     with_reducible refine (zjG.calls k a0_0 a0_1 a0_2 t252 _ ?side1 A2.out).mono ?_
     (case side1 => exact LaidV.below hG bb_)
     rintro e w10 ⟨rfl, hb⟩
     refine ⟨_, rfl, ?_⟩
     have n0_ := zpS (zgM (g := gb251) (o := .cells #[.int .i64 a0_0, .int .i64 a0_1, .int .i64 a0_2, .int .i64 a0_3, .int .i64 a0_4, .int .i64 a0_5] 34 (0, 0)) bk_ hb)
     have n1_ := (ns_ hb)
     clear BK251
     clear HB
     have BK251 := n0_
     have HB := n1_
     clear n0_ n1_
     (try clear hb)
     (try clear hb2)
     (try clear hk)
     (try clear hi)
     refine hK.out _ _ ⟨(zzS BK251.out 0).trans rfl, (zzS BK251.out 1).trans rfl, (zzS BK251.out 2).trans rfl, (zzS BK251.out 3).trans rfl, (zzS BK251.out 4).trans rfl, (zzS BK251.out 5).trans rfl⟩ (fun hHeld => ?_)
     clear hK K
     refine zaN (a' := ?_) ?_ ?_
     rotate_left
     ·show Act.put _ (some 5) _ = _
      simp only [Act.put, List.setIfInBounds_toArray, List.set_cons_zero, List.set_cons_succ, zcN, ziJ]
      rfl
     refine pu_ 3 (some 6) (bl_ 11 111) ?_
     refine pu_ 4 (some 7) (bl_ 11 127) ?_
     refine one_ (i := 7) (N := some 10) (bl_ 11 255) rfl rfl (zeO HT_.out (by kernel_rfl)) (by decide) (fun K hK => ?_)
     refine goes_ Tryd.func29 (by kernel_rfl) rfl #[.agg #[.int .i64 a0_3, .int .i64 a0_4, .int .i64 a0_5]] (by rfl) rfl rfl (by (try simp only [List.map_toArray, List.map_cons, List.map_nil]); first | done | rfl | (simp only [List.length_drop, List.length_take]; rfl)) ?_
     with_reducible refine (zjG.calls k a0_3 a0_4 a0_5 t253 _ ?side1 A5.out).mono ?_
     (case side1 => exact LaidV.below hG bb_)
     rintro e w11 ⟨rfl, hb⟩
     refine ⟨_, rfl, ?_⟩
     have n0_ := zpS (zgM (g := gb251) (o := .cells #[.int .i64 a0_0, .int .i64 a0_1, .int .i64 a0_2, .int .i64 a0_3, .int .i64 a0_4, .int .i64 a0_5] 34 (0, 0)) bk_ hb)
     have n1_ := (ns_ hb)
     clear BK251
     clear HB
     have BK251 := n0_
     have HB := n1_
     clear n0_ n1_
     (try clear hb)
     (try clear hb2)
     (try clear hk)
     (try clear hi)
     refine hK.out _ _ ⟨(zzS BK251.out 0).trans rfl, (zzS BK251.out 1).trans rfl, (zzS BK251.out 2).trans rfl, (zzS BK251.out 3).trans rfl, (zzS BK251.out 4).trans rfl, (zzS BK251.out 5).trans rfl⟩ (fun hHeld => ?_)
     clear hK K
     refine zaN (a' := ?_) ?_ ?_
     rotate_left
     ·show Act.put _ (some 10) _ = _
      simp only [Act.put, List.setIfInBounds_toArray, List.set_cons_zero, List.set_cons_succ, zcN, ziJ]
      rfl
     refine pu_ 8 (some 11) (bl_ 11 511) ?_
     refine pu_ 9 (some 12) (bl_ 11 1023) ?_
     refine pu_ 10 (some 2) (bl_ 11 2047) ?_
     refine done_ (done_of HT_.out (by kernel_rfl)) ?_
     try go_wp2
     go_ret
     exact ⟨by first | rfl | (simp [ziS, znJ] <;> rfl) | (simp [*, ziS, znJ] <;> rfl), bb_⟩
    ·rw [if_neg c7] at H
     exact absurd H (by simp)
   ·rw [if_neg c6] at H
    exact absurd H (by simp)
  ·rw [if_neg c4] at H
   exact absurd H (by simp)
 ·rw [if_neg c3] at H
  exact absurd H (by simp)

def zxY.f (a0_0 : Int) (a0_1 : Bool) (a0_2 : Int) (a0_3 : Int) (a0_4 : Int) (a0_5 : Int) (a0_6 : Int) (a0_7 : Int) : Option (Int × Int × Int × Int × Int × Int) := some (a0_2, a0_3, a0_4, a0_5, a0_6, a0_7)
theorem zxY.calls (a0_0 : Int) (a0_1 : Bool) (a0_2 : Int) (a0_3 : Int) (a0_4 : Int) (a0_5 : Int) (a0_6 : Int) (a0_7 : Int) (r1 : Int) (r2 : Int) (r3 : Int) (r4 : Int) (r5 : Int) (r6 : Int) (w : World) (h : zxY.f a0_0 a0_1 a0_2 a0_3 a0_4 a0_5 a0_6 a0_7 = some (r1, r2, r3, r4, r5, r6)) :
  Calls Tryd.prog 51 #[.agg #[.int .i64 a0_0, .bool a0_1, .int .i64 a0_2, .int .i64 a0_3, .int .i64 a0_4, .int .i64 a0_5, .int .i64 a0_6, .int .i64 a0_7]] w fun e w' => e = .returned (.agg #[.int .i64 r1, .int .i64 r2, .int .i64 r3, .int .i64 r4, .int .i64 r5, .int .i64 r6]) ∧ Below w.heap.size w w' := by
 have hu39 := Tryd.underlying39
 have hu34 := Tryd.underlying34
 have hu23 := Tryd.underlying23
 have HB := zpS (Below.refl w.heap.size w)
 have H : (some (a0_2, a0_3, a0_4, a0_5, a0_6, a0_7)) = some (r1, r2, r3, r4, r5, r6) := h
 clear h
 simp only [Option.some.injEq, Prod.mk.injEq] at H
 obtain ⟨rfl, rfl, rfl, rfl, rfl, rfl⟩ := H
 go_enter Tryd.func51, Tryd.ntmps51
 go_wp2_with (first | ((with_reducible refine zpZ (N := 1) rfl ?_); refine bx_ 1 #[.int .i64 a0_0, .bool a0_1, .int .i64 a0_2, .int .i64 a0_3, .int .i64 a0_4, .int .i64 a0_5, .int .i64 a0_6, .int .i64 a0_7] 39 ?_; intro gb254 hg w2 hbox hb; have n0_ := (ns_ hb); have n1_ := zpS (hbox); have n2_ := (ng_ hg); have n3_ := n2_; clear HB; have HB := n0_; have BK254 := n1_; have GW254 := n2_; have GE254 := n3_; clear n0_ n1_ n2_ n3_; clear hb hbox hg) | ((with_reducible refine zpZ (N := 2) rfl ?_); refine bx_ 2 #[.int .i64 0, .int .i64 0, .int .i64 0, .int .i64 0, .int .i64 0, .int .i64 0] 34 ?_; intro gb255 hg w3 hbox hb; have n0_ := zpS (zgM (g := gb254) (o := .cells #[.int .i64 a0_0, .bool a0_1, .int .i64 a0_2, .int .i64 a0_3, .int .i64 a0_4, .int .i64 a0_5, .int .i64 a0_6, .int .i64 a0_7] 39 (0, 0)) bk_ hb); have n1_ := (ns_ hb); have n2_ := zpS (hbox); have n3_ := (ng_ hg); have n4_ := n3_; have n5_ := zpS ((by rw [hg]; exact Nat.ne_of_lt (zmN (g := gb254) (o := .cells #[.int .i64 a0_0, .bool a0_1, .int .i64 a0_2, .int .i64 a0_3, .int .i64 a0_4, .int .i64 a0_5, .int .i64 a0_6, .int .i64 a0_7] 39 (0, 0)) bk_) : gb254 ≠ gb255)); have n6_ := zpS ((by rw [hg]; exact Nat.ne_of_gt (zmN (g := gb254) (o := .cells #[.int .i64 a0_0, .bool a0_1, .int .i64 a0_2, .int .i64 a0_3, .int .i64 a0_4, .int .i64 a0_5, .int .i64 a0_6, .int .i64 a0_7] 39 (0, 0)) bk_) : gb255 ≠ gb254)); clear BK254; clear HB; have BK254 := n0_; have HB := n1_; have BK255 := n2_; have GW255 := n3_; have GE255 := n4_; have NB254_255 := n5_; have NB255_254 := n6_; clear n0_ n1_ n2_ n3_ n4_ n5_ n6_; clear hb hbox hg; have hnb4 := NB254_255.out; have hnc4 := NB255_254.out; have hcz5_0 : w3.cell? ⟨gb254, 0, none⟩ = some (.int .i64 a0_0) := (zzS BK254.out 0).trans rfl; have hcz5_1 : w3.cell? ⟨gb254, 1, none⟩ = some (.bool a0_1) := (zzS BK254.out 1).trans rfl; have hcz5_2 : w3.cell? ⟨gb254, 2, none⟩ = some (.int .i64 a0_2) := (zzS BK254.out 2).trans rfl; have hcz5_3 : w3.cell? ⟨gb254, 3, none⟩ = some (.int .i64 a0_3) := (zzS BK254.out 3).trans rfl; have hcz5_4 : w3.cell? ⟨gb254, 4, none⟩ = some (.int .i64 a0_4) := (zzS BK254.out 4).trans rfl; have hcz5_5 : w3.cell? ⟨gb254, 5, none⟩ = some (.int .i64 a0_5) := (zzS BK254.out 5).trans rfl; have hcz5_6 : w3.cell? ⟨gb254, 6, none⟩ = some (.int .i64 a0_6) := (zzS BK254.out 6).trans rfl; have hcz5_7 : w3.cell? ⟨gb254, 7, none⟩ = some (.int .i64 a0_7) := (zzS BK254.out 7).trans rfl; have hfz5_0 := zjF BK254.out 0; have hfz5_1 := zjF BK254.out 1; have hfz5_2 := zjF BK254.out 2; have hfz5_3 := zjF BK254.out 3; have hfz5_4 := zjF BK254.out 4; have hfz5_5 := zjF BK254.out 5; have hfz5_6 := zjF BK254.out 6; have hfz5_7 := zjF BK254.out 7; obtain ⟨hcz6_0, hcz6_1, hcz6_2, hcz6_3, hcz6_4, hcz6_5⟩ := cz6_ BK255.out; obtain ⟨hfz6_0, hfz6_1, hfz6_2, hfz6_3, hfz6_4, hfz6_5⟩ := fz6_ BK255.out))
 refine bodyPost_ret (results_cell_row rfl _ _ gb255 34 #[.int .i64 a0_2, .int .i64 a0_3, .int .i64 a0_4, .int .i64 a0_5, .int .i64 a0_6, .int .i64 a0_7] (0, 0) _ rfl (by (with_reducible repeat (first | apply zuW | apply ztN | apply zqY)); refine zlL (cs := #[.int .i64 a0_2, .int .i64 a0_3, .int .i64 a0_4, .int .i64 a0_5, .int .i64 a0_6, .int .i64 0]) ?_ 5 _ rfl; (with_reducible repeat (first | apply zuW | apply ztN | apply zqY)); refine zlL (cs := #[.int .i64 a0_2, .int .i64 a0_3, .int .i64 a0_4, .int .i64 a0_5, .int .i64 0, .int .i64 0]) ?_ 4 _ rfl; (with_reducible repeat (first | apply zuW | apply ztN | apply zqY)); refine zlL (cs := #[.int .i64 a0_2, .int .i64 a0_3, .int .i64 a0_4, .int .i64 0, .int .i64 0, .int .i64 0]) ?_ 3 _ rfl; (with_reducible repeat (first | apply zuW | apply ztN | apply zqY)); refine zlL (cs := #[.int .i64 a0_2, .int .i64 a0_3, .int .i64 0, .int .i64 0, .int .i64 0, .int .i64 0]) ?_ 2 _ rfl; (with_reducible repeat (first | apply zuW | apply ztN | apply zqY)); refine zlL (cs := #[.int .i64 a0_2, .int .i64 0, .int .i64 0, .int .i64 0, .int .i64 0, .int .i64 0]) ?_ 1 _ rfl; (with_reducible repeat (first | apply zuW | apply ztN | apply zqY)); refine zlL (cs := #[.int .i64 0, .int .i64 0, .int .i64 0, .int .i64 0, .int .i64 0, .int .i64 0]) ?_ 0 _ rfl; (with_reducible repeat (first | apply zuW | apply ztN | apply zqY)); exact BK255.out) Tryd.underlying34 rfl (by kernel_rfl)) rfl ?_
 exact ⟨by first | rfl | (simp [ziS, znJ] <;> rfl) | (simp [*, ziS, znJ] <;> rfl), bb_⟩

def znH.f (k : Nat) (a0_0 : Int) (a0_1 : Bool) (a0_2 : Int) (a0_3 : Int) (a0_4 : Int) (a0_5 : Int) (a0_6 : Int) (a0_7 : Int) : Option (ByteArray) := if a0_1 = true then ((zcM.f a0_0).bind fun t257 => (if 1 + t257.size ≤ 9223372036854775807 then (if ((⟨#[102]⟩ : ByteArray) ++ t257).size + 1 ≤ 9223372036854775807 then ((zxY.f a0_0 a0_1 a0_2 a0_3 a0_4 a0_5 a0_6 a0_7).bind fun bt258 => ((zvK.f k bt258.1 bt258.2.1 bt258.2.2.1 bt258.2.2.2.1 bt258.2.2.2.2.1 bt258.2.2.2.2.2).bind fun t264 => (if (((⟨#[102]⟩ : ByteArray) ++ t257) ++ (⟨#[32]⟩ : ByteArray)).size + t264.size ≤ 9223372036854775807 then (some ((((⟨#[102]⟩ : ByteArray) ++ t257) ++ (⟨#[32]⟩ : ByteArray)) ++ t264)) else (none)))) else (none)) else (none))) else ((zcM.f a0_0).bind fun t265 => (if 1 + t265.size ≤ 9223372036854775807 then (if ((⟨#[114]⟩ : ByteArray) ++ t265).size + 1 ≤ 9223372036854775807 then ((zxY.f a0_0 a0_1 a0_2 a0_3 a0_4 a0_5 a0_6 a0_7).bind fun bt266 => ((zvK.f k bt266.1 bt266.2.1 bt266.2.2.1 bt266.2.2.2.1 bt266.2.2.2.2.1 bt266.2.2.2.2.2).bind fun t272 => (if (((⟨#[114]⟩ : ByteArray) ++ t265) ++ (⟨#[32]⟩ : ByteArray)).size + t272.size ≤ 9223372036854775807 then (some ((((⟨#[114]⟩ : ByteArray) ++ t265) ++ (⟨#[32]⟩ : ByteArray)) ++ t272)) else (none)))) else (none)) else (none)))
theorem znH.mono : ∀ a0 a1 a2 a3 a4 a5 a6 a7 k, LeO (znH.f k a0 a1 a2 a3 a4 a5 a6 a7) (znH.f (k + 1) a0 a1 a2 a3 a4 a5 a6 a7) := by
 intro a0 a1 a2 a3 a4 a5 a6 a7 k
 unfold znH.f
 repeat' first
   | (with_reducible exact zvK.mono _ _ _ _ _ _ _)
   | (with_reducible exact LeO.refl _)
   | (with_reducible exact LeO.none _)
   | (with_reducible refine LeO.ite ?_ ?_)
   | (with_reducible refine LeO.bind ?_ (fun _ => ?_))
   | exact zvK.mono _ _ _ _ _ _ _
   | exact LeO.none _
   | refine LeO.ite ?_ ?_
   | refine LeO.bind ?_ (fun _ => ?_)
def znH.T4 : Bool × List (List Nat × List Nat) := (true, [([], []), ([], []), ([1], [1]), ([2], [2]), ([0, 3], [0, 3]), ([4], [4]), ([], []), ([6, 3], [6]), ([7, 7], [7]), ([5, 8], [5, 8]), ([9, 8, 0, 1, 2, 3, 4, 5, 6, 7, 8, 9], [9])])
def znH.B4 : List Nat := [0, 0, 2, 6, 15, 31, 0, 78, 206, 511, 1023]
theorem znH.tab4 : rtab .any (opsOf Tryd.f36 4) = znH.T4 := by kernel_rfl
theorem znH.bits4 : waitsOk znH.T4.2 znH.B4 = true := by kernel_rfl
theorem znH.calls (k : Nat) (a0_0 : Int) (a0_1 : Bool) (a0_2 : Int) (a0_3 : Int) (a0_4 : Int) (a0_5 : Int) (a0_6 : Int) (a0_7 : Int) (r : ByteArray) (w : World) (hG : LaidV w) (h : znH.f k a0_0 a0_1 a0_2 a0_3 a0_4 a0_5 a0_6 a0_7 = some r) :
  Calls Tryd.prog 36 #[.agg #[.int .i64 a0_0, .bool a0_1, .int .i64 a0_2, .int .i64 a0_3, .int .i64 a0_4, .int .i64 a0_5, .int .i64 a0_6, .int .i64 a0_7]] w fun e w' => e = .returned (.string r) ∧ Below w.heap.size w w' := by
 have hu39 := Tryd.underlying39
 have HB := zpS (Below.refl w.heap.size w)
 have H : (if a0_1 = true then ((zcM.f a0_0).bind fun t257 => (if 1 + t257.size ≤ 9223372036854775807 then (if ((⟨#[102]⟩ : ByteArray) ++ t257).size + 1 ≤ 9223372036854775807 then ((zxY.f a0_0 a0_1 a0_2 a0_3 a0_4 a0_5 a0_6 a0_7).bind fun bt258 => ((zvK.f k bt258.1 bt258.2.1 bt258.2.2.1 bt258.2.2.2.1 bt258.2.2.2.2.1 bt258.2.2.2.2.2).bind fun t264 => (if (((⟨#[102]⟩ : ByteArray) ++ t257) ++ (⟨#[32]⟩ : ByteArray)).size + t264.size ≤ 9223372036854775807 then (some ((((⟨#[102]⟩ : ByteArray) ++ t257) ++ (⟨#[32]⟩ : ByteArray)) ++ t264)) else (none)))) else (none)) else (none))) else ((zcM.f a0_0).bind fun t265 => (if 1 + t265.size ≤ 9223372036854775807 then (if ((⟨#[114]⟩ : ByteArray) ++ t265).size + 1 ≤ 9223372036854775807 then ((zxY.f a0_0 a0_1 a0_2 a0_3 a0_4 a0_5 a0_6 a0_7).bind fun bt266 => ((zvK.f k bt266.1 bt266.2.1 bt266.2.2.1 bt266.2.2.2.1 bt266.2.2.2.2.1 bt266.2.2.2.2.2).bind fun t272 => (if (((⟨#[114]⟩ : ByteArray) ++ t265) ++ (⟨#[32]⟩ : ByteArray)).size + t272.size ≤ 9223372036854775807 then (some ((((⟨#[114]⟩ : ByteArray) ++ t265) ++ (⟨#[32]⟩ : ByteArray)) ++ t272)) else (none)))) else (none)) else (none)))) = some r := h
 clear h
 by_cases c2 : a0_1 = true
 ·subst c2
  have H1 : ((zcM.f a0_0).bind fun t257 => (if 1 + t257.size ≤ 9223372036854775807 then (if ((⟨#[102]⟩ : ByteArray) ++ t257).size + 1 ≤ 9223372036854775807 then ((zxY.f a0_0 true a0_2 a0_3 a0_4 a0_5 a0_6 a0_7).bind fun bt258 => ((zvK.f k bt258.1 bt258.2.1 bt258.2.2.1 bt258.2.2.2.1 bt258.2.2.2.2.1 bt258.2.2.2.2.2).bind fun t264 => (if (((⟨#[102]⟩ : ByteArray) ++ t257) ++ (⟨#[32]⟩ : ByteArray)).size + t264.size ≤ 9223372036854775807 then (some ((((⟨#[102]⟩ : ByteArray) ++ t257) ++ (⟨#[32]⟩ : ByteArray)) ++ t264)) else (none)))) else (none)) else (none))) = some r := by rw [if_pos rfl] at H; exact H
  clear H
  have H := H1
  clear H1
  replace H := Option.bind_eq_some_iff.mp H
  obtain ⟨t257, A30, H⟩ := H
  replace H : (if 1 + t257.size ≤ 9223372036854775807 then (if ((⟨#[102]⟩ : ByteArray) ++ t257).size + 1 ≤ 9223372036854775807 then ((zxY.f a0_0 true a0_2 a0_3 a0_4 a0_5 a0_6 a0_7).bind fun bt258 => ((zvK.f k bt258.1 bt258.2.1 bt258.2.2.1 bt258.2.2.2.1 bt258.2.2.2.2.1 bt258.2.2.2.2.2).bind fun t264 => (if (((⟨#[102]⟩ : ByteArray) ++ t257) ++ (⟨#[32]⟩ : ByteArray)).size + t264.size ≤ 9223372036854775807 then (some ((((⟨#[102]⟩ : ByteArray) ++ t257) ++ (⟨#[32]⟩ : ByteArray)) ++ t264)) else (none)))) else (none)) else (none)) = some r := H
  have A3 := zpS A30
  clear A30
  by_cases c4 : 1 + t257.size ≤ 9223372036854775807
  ·rw [if_pos c4] at H
   have c4b0 := eq_true c4
   have c4b1 : decide (1 + t257.size ≤ 9223372036854775807) = true := decide_eq_true c4
   try have c4b2 : (9223372036854775807 < 1 + t257.size) = False := eq_false (Nat.not_lt.2 c4)
   by_cases c5 : ((⟨#[102]⟩ : ByteArray) ++ t257).size + 1 ≤ 9223372036854775807
   ·rw [if_pos c5] at H
    have c5b0 := eq_true c5
    have c5b1 : decide (((⟨#[102]⟩ : ByteArray) ++ t257).size + 1 ≤ 9223372036854775807) = true := decide_eq_true c5
    try have c5b2 : (9223372036854775807 < ((⟨#[102]⟩ : ByteArray) ++ t257).size + 1) = False := eq_false (Nat.not_lt.2 c5)
    (try (have c5b3 : (9223372036854775807 < 1 + t257.size + 1) = False := eq_false (Nat.not_lt.2 (by have h_ := c5; simp only [ByteArray.size_append] at h_; exact h_))))
    replace H := Option.bind_eq_some_iff.mp H
    obtain ⟨⟨t258, t259, t260, t261, t262, t263⟩, A60, H⟩ := H
    replace H : ((zvK.f k t258 t259 t260 t261 t262 t263).bind fun t264 => (if (((⟨#[102]⟩ : ByteArray) ++ t257) ++ (⟨#[32]⟩ : ByteArray)).size + t264.size ≤ 9223372036854775807 then (some ((((⟨#[102]⟩ : ByteArray) ++ t257) ++ (⟨#[32]⟩ : ByteArray)) ++ t264)) else (none))) = some r := H
    have A6 := zpS A60
    clear A60
    replace H := Option.bind_eq_some_iff.mp H
    obtain ⟨t264, A70, H⟩ := H
    replace H : (if (((⟨#[102]⟩ : ByteArray) ++ t257) ++ (⟨#[32]⟩ : ByteArray)).size + t264.size ≤ 9223372036854775807 then (some ((((⟨#[102]⟩ : ByteArray) ++ t257) ++ (⟨#[32]⟩ : ByteArray)) ++ t264)) else (none)) = some r := H
    have A7 := zpS A70
    clear A70
    by_cases c8 : (((⟨#[102]⟩ : ByteArray) ++ t257) ++ (⟨#[32]⟩ : ByteArray)).size + t264.size ≤ 9223372036854775807
    ·rw [if_pos c8] at H
     have c8b0 := eq_true c8
     have c8b1 : decide ((((⟨#[102]⟩ : ByteArray) ++ t257) ++ (⟨#[32]⟩ : ByteArray)).size + t264.size ≤ 9223372036854775807) = true := decide_eq_true c8
     try have c8b2 : (9223372036854775807 < (((⟨#[102]⟩ : ByteArray) ++ t257) ++ (⟨#[32]⟩ : ByteArray)).size + t264.size) = False := eq_false (Nat.not_lt.2 c8)
     (try (have c8b3 : (9223372036854775807 < 1 + t257.size + 1 + t264.size) = False := eq_false (Nat.not_lt.2 (by have h_ := c8; simp only [ByteArray.size_append] at h_; exact h_))))
     obtain rfl := Option.some.inj H
     go_enter Tryd.func36, Tryd.ntmps36
     try go_wp2_with (first | ((with_reducible refine zpZ (N := 1) rfl ?_); refine bx_ 1 #[.int .i64 a0_0, .bool true, .int .i64 a0_2, .int .i64 a0_3, .int .i64 a0_4, .int .i64 a0_5, .int .i64 a0_6, .int .i64 a0_7] 39 ?_; intro gb256 hg w9 hbox hb; have n0_ := (ns_ hb); have n1_ := zpS (hbox); have n2_ := (ng_ hg); have n3_ := n2_; clear HB; have HB := n0_; have BK256 := n1_; have GW256 := n2_; have GE256 := n3_; clear n0_ n1_ n2_ n3_; clear hb hbox hg; have hcz10_0 : w9.cell? ⟨gb256, 0, none⟩ = some (.int .i64 a0_0) := (zzS BK256.out 0).trans rfl; have hcz10_1 : w9.cell? ⟨gb256, 1, none⟩ = some (.bool true) := (zzS BK256.out 1).trans rfl; have hcz10_2 : w9.cell? ⟨gb256, 2, none⟩ = some (.int .i64 a0_2) := (zzS BK256.out 2).trans rfl; have hcz10_3 : w9.cell? ⟨gb256, 3, none⟩ = some (.int .i64 a0_3) := (zzS BK256.out 3).trans rfl; have hcz10_4 : w9.cell? ⟨gb256, 4, none⟩ = some (.int .i64 a0_4) := (zzS BK256.out 4).trans rfl; have hcz10_5 : w9.cell? ⟨gb256, 5, none⟩ = some (.int .i64 a0_5) := (zzS BK256.out 5).trans rfl; have hcz10_6 : w9.cell? ⟨gb256, 6, none⟩ = some (.int .i64 a0_6) := (zzS BK256.out 6).trans rfl; have hcz10_7 : w9.cell? ⟨gb256, 7, none⟩ = some (.int .i64 a0_7) := (zzS BK256.out 7).trans rfl; have hfz10_0 := zjF BK256.out 0; have hfz10_1 := zjF BK256.out 1; have hfz10_2 := zjF BK256.out 2; have hfz10_3 := zjF BK256.out 3; have hfz10_4 := zjF BK256.out 4; have hfz10_5 := zjF BK256.out 5; have hfz10_6 := zjF BK256.out 6; have hfz10_7 := zjF BK256.out 7))
     have n0_ := zpS (ztN BK256.out)
     have n1_ := zpS (zvF HB.out)
     clear BK256
     clear HB
     have BK256 := n0_
     have HB := n1_
     clear n0_ n1_
     refine start_ (n := 11) (S := fun w' => w'.cell? ⟨gb256, 0, none⟩ = some (.int .i64 a0_0) ∧ w'.cell? ⟨gb256, 1, none⟩ = some (.bool true) ∧ w'.cell? ⟨gb256, 2, none⟩ = some (.int .i64 a0_2) ∧ w'.cell? ⟨gb256, 3, none⟩ = some (.int .i64 a0_3) ∧ w'.cell? ⟨gb256, 4, none⟩ = some (.int .i64 a0_4) ∧ w'.cell? ⟨gb256, 5, none⟩ = some (.int .i64 a0_5) ∧ w'.cell? ⟨gb256, 6, none⟩ = some (.int .i64 a0_6) ∧ w'.cell? ⟨gb256, 7, none⟩ = some (.int .i64 a0_7)) (ds := []) #[false, false, false, false, false, false, false, false, false, false, false] (by kernel_rfl) rfl rfl ⟨(zzS BK256.out 0).trans rfl, (zzS BK256.out 1).trans rfl, (zzS BK256.out 2).trans rfl, (zzS BK256.out 3).trans rfl, (zzS BK256.out 4).trans rfl, (zzS BK256.out 5).trans rfl, (zzS BK256.out 6).trans rfl, (zzS BK256.out 7).trans rfl⟩ (fun hHeld => ?_); refine zwI znH.tab4 znH.bits4 (fun HT_ HW_ => ?_)
     generalize w9.drew = w11 at BK256 HB hHeld ⊢
     refine pu_ 0 (some 6) (bl_ 11 1) ?_
     refine pu_ 1 (some 7) (bl_ 11 3) ?_
     refine tk8_ 2 (some 8) (bl_ 11 7) hHeld ?_
     refine tk8_ 6 (some 12) (bl_ 11 71) hHeld ?_
     refine one_ (i := 3) (N := some 9) (bl_ 11 79) rfl rfl (zeO HT_.out (by kernel_rfl)) (by decide) (fun K hK => ?_)
     refine goes_ Tryd.func42 (by kernel_rfl) rfl #[.int .i64 a0_0] (by rfl) rfl rfl (by (try simp only [List.map_toArray, List.map_cons, List.map_nil]); first | done | rfl | (simp only [List.length_drop, List.length_take]; rfl)) ?_
     with_reducible refine (zcM.calls a0_0 t257 _ ?side1 A3.out).mono ?_
     (case side1 => exact LaidV.below hG bb_)
     rintro e w12 ⟨rfl, hb⟩
     refine ⟨_, rfl, ?_⟩
     have n0_ := zpS (zgM (g := gb256) (o := .cells #[.int .i64 a0_0, .bool true, .int .i64 a0_2, .int .i64 a0_3, .int .i64 a0_4, .int .i64 a0_5, .int .i64 a0_6, .int .i64 a0_7] 39 (0, 0)) bk_ hb)
     have n1_ := (ns_ hb)
     clear BK256
     clear HB
     have BK256 := n0_
     have HB := n1_
     clear n0_ n1_
     (try clear hb)
     (try clear hb2)
     (try clear hk)
     (try clear hi)
     refine hK.out _ _ ⟨(zzS BK256.out 0).trans rfl, (zzS BK256.out 1).trans rfl, (zzS BK256.out 2).trans rfl, (zzS BK256.out 3).trans rfl, (zzS BK256.out 4).trans rfl, (zzS BK256.out 5).trans rfl, (zzS BK256.out 6).trans rfl, (zzS BK256.out 7).trans rfl⟩ (fun hHeld => ?_)
     clear hK K
     refine zaN (a' := ?_) ?_ ?_
     rotate_left
     ·show Act.put _ (some 9) _ = _
      simp only [Act.put, List.setIfInBounds_toArray, List.set_cons_zero, List.set_cons_succ, zcN, ziJ]
      rfl
     refine pu_ 4 (some 10) (bl_ 11 95) ?_
     refine pu_ 5 (some 11) (bl_ 11 127) ?_
     refine one_ (i := 7) (N := some 13) (bl_ 11 255) rfl rfl (zeO HT_.out (by kernel_rfl)) (by decide) (fun K hK => ?_)
     refine goes_ Tryd.func51 (by kernel_rfl) rfl #[.agg #[.int .i64 a0_0, .bool true, .int .i64 a0_2, .int .i64 a0_3, .int .i64 a0_4, .int .i64 a0_5, .int .i64 a0_6, .int .i64 a0_7]] (by rfl) rfl rfl (by (try simp only [List.map_toArray, List.map_cons, List.map_nil]); first | done | rfl | (simp only [List.length_drop, List.length_take]; rfl)) ?_
     with_reducible refine (zxY.calls a0_0 true a0_2 a0_3 a0_4 a0_5 a0_6 a0_7 t258 t259 t260 t261 t262 t263 _ A6.out).mono ?_
     rintro e w13 ⟨rfl, hb⟩
     refine ⟨_, rfl, ?_⟩
     have n0_ := zpS (zgM (g := gb256) (o := .cells #[.int .i64 a0_0, .bool true, .int .i64 a0_2, .int .i64 a0_3, .int .i64 a0_4, .int .i64 a0_5, .int .i64 a0_6, .int .i64 a0_7] 39 (0, 0)) bk_ hb)
     have n1_ := (ns_ hb)
     clear BK256
     clear HB
     have BK256 := n0_
     have HB := n1_
     clear n0_ n1_
     (try clear hb)
     (try clear hb2)
     (try clear hk)
     (try clear hi)
     refine hK.out _ _ ⟨(zzS BK256.out 0).trans rfl, (zzS BK256.out 1).trans rfl, (zzS BK256.out 2).trans rfl, (zzS BK256.out 3).trans rfl, (zzS BK256.out 4).trans rfl, (zzS BK256.out 5).trans rfl, (zzS BK256.out 6).trans rfl, (zzS BK256.out 7).trans rfl⟩ (fun hHeld => ?_)
     clear hK K
     refine zaN (a' := ?_) ?_ ?_
     rotate_left
     ·show Act.put _ (some 13) _ = _
      simp only [Act.put, List.setIfInBounds_toArray, List.set_cons_zero, List.set_cons_succ, zcN, ziJ]
      rfl
     refine one_ (i := 8) (N := some 14) (bl_ 11 511) rfl rfl (zeO HT_.out (by kernel_rfl)) (by decide) (fun K hK => ?_)
     refine goes_ Tryd.func50 (by kernel_rfl) rfl #[.agg #[.int .i64 t258, .int .i64 t259, .int .i64 t260, .int .i64 t261, .int .i64 t262, .int .i64 t263]] (by rfl) rfl rfl (by (try simp only [List.map_toArray, List.map_cons, List.map_nil]); first | done | rfl | (simp only [List.length_drop, List.length_take]; rfl)) ?_
     with_reducible refine (zvK.calls k t258 t259 t260 t261 t262 t263 t264 _ ?side1 A7.out).mono ?_
     (case side1 => exact LaidV.below hG bb_)
     rintro e w14 ⟨rfl, hb⟩
     refine ⟨_, rfl, ?_⟩
     have n0_ := zpS (zgM (g := gb256) (o := .cells #[.int .i64 a0_0, .bool true, .int .i64 a0_2, .int .i64 a0_3, .int .i64 a0_4, .int .i64 a0_5, .int .i64 a0_6, .int .i64 a0_7] 39 (0, 0)) bk_ hb)
     have n1_ := (ns_ hb)
     clear BK256
     clear HB
     have BK256 := n0_
     have HB := n1_
     clear n0_ n1_
     (try clear hb)
     (try clear hb2)
     (try clear hk)
     (try clear hi)
     refine hK.out _ _ ⟨(zzS BK256.out 0).trans rfl, (zzS BK256.out 1).trans rfl, (zzS BK256.out 2).trans rfl, (zzS BK256.out 3).trans rfl, (zzS BK256.out 4).trans rfl, (zzS BK256.out 5).trans rfl, (zzS BK256.out 6).trans rfl, (zzS BK256.out 7).trans rfl⟩ (fun hHeld => ?_)
     clear hK K
     refine zaN (a' := ?_) ?_ ?_
     rotate_left
     ·show Act.put _ (some 14) _ = _
      simp only [Act.put, List.setIfInBounds_toArray, List.set_cons_zero, List.set_cons_succ, zcN, ziJ]
      rfl
     refine pu_ 9 (some 15) (bl_ 11 1023) ?_
     refine pu_ 10 (some 2) (bl_ 11 2047) ?_
     refine done_ (done_of HT_.out (by kernel_rfl)) ?_
     try go_wp2
     go_ret
     exact ⟨by first | rfl | (simp [ziS, znJ] <;> rfl) | (simp [*, ziS, znJ] <;> rfl), bb_⟩
    ·rw [if_neg c8] at H
     exact absurd H (by simp)
   ·rw [if_neg c5] at H
    exact absurd H (by simp)
  ·rw [if_neg c4] at H
   exact absurd H (by simp)
 ·replace c2 := Bool.eq_false_iff.mpr c2
  subst c2
  have H1 : ((zcM.f a0_0).bind fun t265 => (if 1 + t265.size ≤ 9223372036854775807 then (if ((⟨#[114]⟩ : ByteArray) ++ t265).size + 1 ≤ 9223372036854775807 then ((zxY.f a0_0 false a0_2 a0_3 a0_4 a0_5 a0_6 a0_7).bind fun bt266 => ((zvK.f k bt266.1 bt266.2.1 bt266.2.2.1 bt266.2.2.2.1 bt266.2.2.2.2.1 bt266.2.2.2.2.2).bind fun t272 => (if (((⟨#[114]⟩ : ByteArray) ++ t265) ++ (⟨#[32]⟩ : ByteArray)).size + t272.size ≤ 9223372036854775807 then (some ((((⟨#[114]⟩ : ByteArray) ++ t265) ++ (⟨#[32]⟩ : ByteArray)) ++ t272)) else (none)))) else (none)) else (none))) = some r := by rw [if_neg (show ¬ (false = true) by decide)] at H; exact H
  clear H
  have H := H1
  clear H1
  replace H := Option.bind_eq_some_iff.mp H
  obtain ⟨t265, A150, H⟩ := H
  replace H : (if 1 + t265.size ≤ 9223372036854775807 then (if ((⟨#[114]⟩ : ByteArray) ++ t265).size + 1 ≤ 9223372036854775807 then ((zxY.f a0_0 false a0_2 a0_3 a0_4 a0_5 a0_6 a0_7).bind fun bt266 => ((zvK.f k bt266.1 bt266.2.1 bt266.2.2.1 bt266.2.2.2.1 bt266.2.2.2.2.1 bt266.2.2.2.2.2).bind fun t272 => (if (((⟨#[114]⟩ : ByteArray) ++ t265) ++ (⟨#[32]⟩ : ByteArray)).size + t272.size ≤ 9223372036854775807 then (some ((((⟨#[114]⟩ : ByteArray) ++ t265) ++ (⟨#[32]⟩ : ByteArray)) ++ t272)) else (none)))) else (none)) else (none)) = some r := H
  have A15 := zpS A150
  clear A150
  by_cases c16 : 1 + t265.size ≤ 9223372036854775807
  ·rw [if_pos c16] at H
   have c16b0 := eq_true c16
   have c16b1 : decide (1 + t265.size ≤ 9223372036854775807) = true := decide_eq_true c16
   try have c16b2 : (9223372036854775807 < 1 + t265.size) = False := eq_false (Nat.not_lt.2 c16)
   by_cases c17 : ((⟨#[114]⟩ : ByteArray) ++ t265).size + 1 ≤ 9223372036854775807
   ·rw [if_pos c17] at H
    have c17b0 := eq_true c17
    have c17b1 : decide (((⟨#[114]⟩ : ByteArray) ++ t265).size + 1 ≤ 9223372036854775807) = true := decide_eq_true c17
    try have c17b2 : (9223372036854775807 < ((⟨#[114]⟩ : ByteArray) ++ t265).size + 1) = False := eq_false (Nat.not_lt.2 c17)
    (try (have c17b3 : (9223372036854775807 < 1 + t265.size + 1) = False := eq_false (Nat.not_lt.2 (by have h_ := c17; simp only [ByteArray.size_append] at h_; exact h_))))
    replace H := Option.bind_eq_some_iff.mp H
    obtain ⟨⟨t266, t267, t268, t269, t270, t271⟩, A180, H⟩ := H
    replace H : ((zvK.f k t266 t267 t268 t269 t270 t271).bind fun t272 => (if (((⟨#[114]⟩ : ByteArray) ++ t265) ++ (⟨#[32]⟩ : ByteArray)).size + t272.size ≤ 9223372036854775807 then (some ((((⟨#[114]⟩ : ByteArray) ++ t265) ++ (⟨#[32]⟩ : ByteArray)) ++ t272)) else (none))) = some r := H
    have A18 := zpS A180
    clear A180
    replace H := Option.bind_eq_some_iff.mp H
    obtain ⟨t272, A190, H⟩ := H
    replace H : (if (((⟨#[114]⟩ : ByteArray) ++ t265) ++ (⟨#[32]⟩ : ByteArray)).size + t272.size ≤ 9223372036854775807 then (some ((((⟨#[114]⟩ : ByteArray) ++ t265) ++ (⟨#[32]⟩ : ByteArray)) ++ t272)) else (none)) = some r := H
    have A19 := zpS A190
    clear A190
    by_cases c20 : (((⟨#[114]⟩ : ByteArray) ++ t265) ++ (⟨#[32]⟩ : ByteArray)).size + t272.size ≤ 9223372036854775807
    ·rw [if_pos c20] at H
     have c20b0 := eq_true c20
     have c20b1 : decide ((((⟨#[114]⟩ : ByteArray) ++ t265) ++ (⟨#[32]⟩ : ByteArray)).size + t272.size ≤ 9223372036854775807) = true := decide_eq_true c20
     try have c20b2 : (9223372036854775807 < (((⟨#[114]⟩ : ByteArray) ++ t265) ++ (⟨#[32]⟩ : ByteArray)).size + t272.size) = False := eq_false (Nat.not_lt.2 c20)
     (try (have c20b3 : (9223372036854775807 < 1 + t265.size + 1 + t272.size) = False := eq_false (Nat.not_lt.2 (by have h_ := c20; simp only [ByteArray.size_append] at h_; exact h_))))
     obtain rfl := Option.some.inj H
     go_enter Tryd.func36, Tryd.ntmps36
     try go_wp2_with (first | ((with_reducible refine zpZ (N := 1) rfl ?_); refine bx_ 1 #[.int .i64 a0_0, .bool false, .int .i64 a0_2, .int .i64 a0_3, .int .i64 a0_4, .int .i64 a0_5, .int .i64 a0_6, .int .i64 a0_7] 39 ?_; intro gb256 hg w21 hbox hb; have n0_ := (ns_ hb); have n1_ := zpS (hbox); have n2_ := (ng_ hg); have n3_ := n2_; clear HB; have HB := n0_; have BK256 := n1_; have GW256 := n2_; have GE256 := n3_; clear n0_ n1_ n2_ n3_; clear hb hbox hg; have hcz22_0 : w21.cell? ⟨gb256, 0, none⟩ = some (.int .i64 a0_0) := (zzS BK256.out 0).trans rfl; have hcz22_1 : w21.cell? ⟨gb256, 1, none⟩ = some (.bool false) := (zzS BK256.out 1).trans rfl; have hcz22_2 : w21.cell? ⟨gb256, 2, none⟩ = some (.int .i64 a0_2) := (zzS BK256.out 2).trans rfl; have hcz22_3 : w21.cell? ⟨gb256, 3, none⟩ = some (.int .i64 a0_3) := (zzS BK256.out 3).trans rfl; have hcz22_4 : w21.cell? ⟨gb256, 4, none⟩ = some (.int .i64 a0_4) := (zzS BK256.out 4).trans rfl; have hcz22_5 : w21.cell? ⟨gb256, 5, none⟩ = some (.int .i64 a0_5) := (zzS BK256.out 5).trans rfl; have hcz22_6 : w21.cell? ⟨gb256, 6, none⟩ = some (.int .i64 a0_6) := (zzS BK256.out 6).trans rfl; have hcz22_7 : w21.cell? ⟨gb256, 7, none⟩ = some (.int .i64 a0_7) := (zzS BK256.out 7).trans rfl; have hfz22_0 := zjF BK256.out 0; have hfz22_1 := zjF BK256.out 1; have hfz22_2 := zjF BK256.out 2; have hfz22_3 := zjF BK256.out 3; have hfz22_4 := zjF BK256.out 4; have hfz22_5 := zjF BK256.out 5; have hfz22_6 := zjF BK256.out 6; have hfz22_7 := zjF BK256.out 7))
     have n0_ := zpS (ztN BK256.out)
     have n1_ := zpS (zvF HB.out)
     clear BK256
     clear HB
     have BK256 := n0_
     have HB := n1_
     clear n0_ n1_
     refine start_ (n := 11) (S := fun w' => w'.cell? ⟨gb256, 0, none⟩ = some (.int .i64 a0_0) ∧ w'.cell? ⟨gb256, 1, none⟩ = some (.bool false) ∧ w'.cell? ⟨gb256, 2, none⟩ = some (.int .i64 a0_2) ∧ w'.cell? ⟨gb256, 3, none⟩ = some (.int .i64 a0_3) ∧ w'.cell? ⟨gb256, 4, none⟩ = some (.int .i64 a0_4) ∧ w'.cell? ⟨gb256, 5, none⟩ = some (.int .i64 a0_5) ∧ w'.cell? ⟨gb256, 6, none⟩ = some (.int .i64 a0_6) ∧ w'.cell? ⟨gb256, 7, none⟩ = some (.int .i64 a0_7)) (ds := []) #[false, false, false, false, false, false, false, false, false, false, false] (by kernel_rfl) rfl rfl ⟨(zzS BK256.out 0).trans rfl, (zzS BK256.out 1).trans rfl, (zzS BK256.out 2).trans rfl, (zzS BK256.out 3).trans rfl, (zzS BK256.out 4).trans rfl, (zzS BK256.out 5).trans rfl, (zzS BK256.out 6).trans rfl, (zzS BK256.out 7).trans rfl⟩ (fun hHeld => ?_); refine zwI znH.tab4 znH.bits4 (fun HT_ HW_ => ?_)
     generalize w21.drew = w23 at BK256 HB hHeld ⊢
     refine pu_ 0 (some 6) (bl_ 11 1) ?_
     refine pu_ 1 (some 7) (bl_ 11 3) ?_
     refine tk8_ 2 (some 8) (bl_ 11 7) hHeld ?_
     refine tk8_ 6 (some 12) (bl_ 11 71) hHeld ?_
     refine one_ (i := 3) (N := some 9) (bl_ 11 79) rfl rfl (zeO HT_.out (by kernel_rfl)) (by decide) (fun K hK => ?_)
     refine goes_ Tryd.func42 (by kernel_rfl) rfl #[.int .i64 a0_0] (by rfl) rfl rfl (by (try simp only [List.map_toArray, List.map_cons, List.map_nil]); first | done | rfl | (simp only [List.length_drop, List.length_take]; rfl)) ?_
     with_reducible refine (zcM.calls a0_0 t265 _ ?side1 A15.out).mono ?_
     (case side1 => exact LaidV.below hG bb_)
     rintro e w24 ⟨rfl, hb⟩
     refine ⟨_, rfl, ?_⟩
     have n0_ := zpS (zgM (g := gb256) (o := .cells #[.int .i64 a0_0, .bool false, .int .i64 a0_2, .int .i64 a0_3, .int .i64 a0_4, .int .i64 a0_5, .int .i64 a0_6, .int .i64 a0_7] 39 (0, 0)) bk_ hb)
     have n1_ := (ns_ hb)
     clear BK256
     clear HB
     have BK256 := n0_
     have HB := n1_
     clear n0_ n1_
     (try clear hb)
     (try clear hb2)
     (try clear hk)
     (try clear hi)
     refine hK.out _ _ ⟨(zzS BK256.out 0).trans rfl, (zzS BK256.out 1).trans rfl, (zzS BK256.out 2).trans rfl, (zzS BK256.out 3).trans rfl, (zzS BK256.out 4).trans rfl, (zzS BK256.out 5).trans rfl, (zzS BK256.out 6).trans rfl, (zzS BK256.out 7).trans rfl⟩ (fun hHeld => ?_)
     clear hK K
     refine zaN (a' := ?_) ?_ ?_
     rotate_left
     ·show Act.put _ (some 9) _ = _
      simp only [Act.put, List.setIfInBounds_toArray, List.set_cons_zero, List.set_cons_succ, zcN, ziJ]
      rfl
     refine pu_ 4 (some 10) (bl_ 11 95) ?_
     refine pu_ 5 (some 11) (bl_ 11 127) ?_
     refine one_ (i := 7) (N := some 13) (bl_ 11 255) rfl rfl (zeO HT_.out (by kernel_rfl)) (by decide) (fun K hK => ?_)
     refine goes_ Tryd.func51 (by kernel_rfl) rfl #[.agg #[.int .i64 a0_0, .bool false, .int .i64 a0_2, .int .i64 a0_3, .int .i64 a0_4, .int .i64 a0_5, .int .i64 a0_6, .int .i64 a0_7]] (by rfl) rfl rfl (by (try simp only [List.map_toArray, List.map_cons, List.map_nil]); first | done | rfl | (simp only [List.length_drop, List.length_take]; rfl)) ?_
     with_reducible refine (zxY.calls a0_0 false a0_2 a0_3 a0_4 a0_5 a0_6 a0_7 t266 t267 t268 t269 t270 t271 _ A18.out).mono ?_
     rintro e w25 ⟨rfl, hb⟩
     refine ⟨_, rfl, ?_⟩
     have n0_ := zpS (zgM (g := gb256) (o := .cells #[.int .i64 a0_0, .bool false, .int .i64 a0_2, .int .i64 a0_3, .int .i64 a0_4, .int .i64 a0_5, .int .i64 a0_6, .int .i64 a0_7] 39 (0, 0)) bk_ hb)
     have n1_ := (ns_ hb)
     clear BK256
     clear HB
     have BK256 := n0_
     have HB := n1_
     clear n0_ n1_
     (try clear hb)
     (try clear hb2)
     (try clear hk)
     (try clear hi)
     refine hK.out _ _ ⟨(zzS BK256.out 0).trans rfl, (zzS BK256.out 1).trans rfl, (zzS BK256.out 2).trans rfl, (zzS BK256.out 3).trans rfl, (zzS BK256.out 4).trans rfl, (zzS BK256.out 5).trans rfl, (zzS BK256.out 6).trans rfl, (zzS BK256.out 7).trans rfl⟩ (fun hHeld => ?_)
     clear hK K
     refine zaN (a' := ?_) ?_ ?_
     rotate_left
     ·show Act.put _ (some 13) _ = _
      simp only [Act.put, List.setIfInBounds_toArray, List.set_cons_zero, List.set_cons_succ, zcN, ziJ]
      rfl
     refine one_ (i := 8) (N := some 14) (bl_ 11 511) rfl rfl (zeO HT_.out (by kernel_rfl)) (by decide) (fun K hK => ?_)
     refine goes_ Tryd.func50 (by kernel_rfl) rfl #[.agg #[.int .i64 t266, .int .i64 t267, .int .i64 t268, .int .i64 t269, .int .i64 t270, .int .i64 t271]] (by rfl) rfl rfl (by (try simp only [List.map_toArray, List.map_cons, List.map_nil]); first | done | rfl | (simp only [List.length_drop, List.length_take]; rfl)) ?_
     with_reducible refine (zvK.calls k t266 t267 t268 t269 t270 t271 t272 _ ?side1 A19.out).mono ?_
     (case side1 => exact LaidV.below hG bb_)
     rintro e w26 ⟨rfl, hb⟩
     refine ⟨_, rfl, ?_⟩
     have n0_ := zpS (zgM (g := gb256) (o := .cells #[.int .i64 a0_0, .bool false, .int .i64 a0_2, .int .i64 a0_3, .int .i64 a0_4, .int .i64 a0_5, .int .i64 a0_6, .int .i64 a0_7] 39 (0, 0)) bk_ hb)
     have n1_ := (ns_ hb)
     clear BK256
     clear HB
     have BK256 := n0_
     have HB := n1_
     clear n0_ n1_
     (try clear hb)
     (try clear hb2)
     (try clear hk)
     (try clear hi)
     refine hK.out _ _ ⟨(zzS BK256.out 0).trans rfl, (zzS BK256.out 1).trans rfl, (zzS BK256.out 2).trans rfl, (zzS BK256.out 3).trans rfl, (zzS BK256.out 4).trans rfl, (zzS BK256.out 5).trans rfl, (zzS BK256.out 6).trans rfl, (zzS BK256.out 7).trans rfl⟩ (fun hHeld => ?_)
     clear hK K
     refine zaN (a' := ?_) ?_ ?_
     rotate_left
     ·show Act.put _ (some 14) _ = _
      simp only [Act.put, List.setIfInBounds_toArray, List.set_cons_zero, List.set_cons_succ, zcN, ziJ]
      rfl
     refine pu_ 9 (some 15) (bl_ 11 1023) ?_
     refine pu_ 10 (some 2) (bl_ 11 2047) ?_
     refine done_ (done_of HT_.out (by kernel_rfl)) ?_
     try go_wp2
     go_ret
     exact ⟨by first | rfl | (simp [ziS, znJ] <;> rfl) | (simp [*, ziS, znJ] <;> rfl), bb_⟩
    ·rw [if_neg c20] at H
     exact absurd H (by simp)
   ·rw [if_neg c17] at H
    exact absurd H (by simp)
  ·rw [if_neg c16] at H
   exact absurd H (by simp)

end Go.Proofs.YtbkcmdccomngnaaDoor.PFnExactReadMotion
