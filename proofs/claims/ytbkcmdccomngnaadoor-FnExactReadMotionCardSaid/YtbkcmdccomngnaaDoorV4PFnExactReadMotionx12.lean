-- Printed for this claim by this session's program pp.py, which drives the kit's print with additions. Not trusted: Lean checks it.
import Derived.Test.YtbkcmdccomngnaaDoorV4PFnExactReadMotionx0
import Derived.Test.YtbkcmdccomngnaaDoorV4PFnExactReadMotionx8
import Derived.Test.YtbkcmdccomngnaaDoorV4PFnExactReadMotionx11
namespace Go.Proofs.YtbkcmdccomngnaaDoor.PFnExactReadMotion
open Go.RowKit Go.Proofs.YtbkcmdccomngnaaDoorW.PrintWords Go.Proofs.YtbkcmdccomngnaaDoorW.PrintLast Go.Proofs.YtbkcmdccomngnaaDoorW.PrintMore
attribute [local go_sem] zbB ziA zrC zhD znE zuA znK zkT   -- for this text's walks alone
set_option linter.unusedVariables false
set_option maxHeartbeats 8000000
set_option maxRecDepth 100000
set_option linter.unusedSimpArgs false

def zaF.j0 : Nat → ByteArray → ByteArray → Bool → Int → Int → Int → Int → Int → Int → Option (Int × Bool × Int × Int × Int × Int × Int × Int × Bool)
 | 0, _, _, _, _, _, _, _, _, _ => none
 | k + 1, x0, x4, x27, x285000, x285001, x285002, x285003, x285004, x285005 => if x27 = true then (some (0, false, 0, 0, 0, 0, 0, 0, false)) else (if 1 < (x4.size : Int) then (if 0 < (x4.size : Int) then ((zyY.f (wrap64 ((wrap64 (bt x4 1)) - 48)) ((bt x4 0) == 102) x285000 x285001 x285002 x285003 x285004 x285005).bind fun t286 => (if t286 = true then ((znH.f k (wrap64 ((wrap64 (bt x4 1)) - 48)) ((bt x4 0) == 102) x285000 x285001 x285002 x285003 x285004 x285005).bind fun t287 => (if t287.toList = x0.toList then (some (wrap64 ((wrap64 (bt x4 1)) - 48), ((bt x4 0) == 102), x285000, x285001, x285002, x285003, x285004, x285005, true)) else (some (0, false, 0, 0, 0, 0, 0, 0, false)))) else (some (0, false, 0, 0, 0, 0, 0, 0, false)))) else (none)) else (none))
def zaF.f (k : Nat) (a0 : ByteArray) : Option (Int × Bool × Int × Int × Int × Int × Int × Int × Bool) := (strings_Cut.f a0 (⟨#[32]⟩ : ByteArray)).bind fun bt274 => ((zkJ.f k bt274.2.1).bind fun bt277 => (if bt277.2.2.2.2.2.2 = true then (zaF.j0 k a0 bt274.1 ((bt274.1.size : Int) != 2) bt277.1 bt277.2.1 bt277.2.2.1 bt277.2.2.2.1 bt277.2.2.2.2.1 bt277.2.2.2.2.2.1) else (zaF.j0 k a0 bt274.1 true bt277.1 bt277.2.1 bt277.2.2.1 bt277.2.2.2.1 bt277.2.2.2.2.1 bt277.2.2.2.2.2.1)))
theorem zaF.mono_l : ∀ k, (∀ y0 y1 y2 y3 y4 y5 y6 y7 y8, LeO (zaF.j0 k y0 y1 y2 y3 y4 y5 y6 y7 y8) (zaF.j0 (k + 1) y0 y1 y2 y3 y4 y5 y6 y7 y8))
 | 0 => fun _ _ _ _ _ _ _ _ _ r h => by simp [zaF.j0] at h
 | k + 1 => by
  have ih0 := zaF.mono_l k
  ·intro y0 y1 y2 y3 y4 y5 y6 y7 y8
   unfold zaF.j0
   repeat' first
   | (with_reducible exact ih0 _ _ _ _ _ _ _ _ _)
   | (with_reducible exact zkJ.mono _ _)
   | (with_reducible exact znH.mono _ _ _ _ _ _ _ _ _)
   | (with_reducible exact LeO.refl _)
   | (with_reducible exact LeO.none _)
   | (with_reducible refine LeO.ite ?_ ?_)
   | (with_reducible refine LeO.bind ?_ (fun _ => ?_))
   | exact ih0 _ _ _ _ _ _ _ _ _
   | exact zkJ.mono _ _
   | exact znH.mono _ _ _ _ _ _ _ _ _
   | exact LeO.none _
   | refine LeO.ite ?_ ?_
   | refine LeO.bind ?_ (fun _ => ?_)
theorem zaF.mono : ∀ a0 k, LeO (zaF.f k a0) (zaF.f (k + 1) a0) := by
 intro a0 k
 have ih0 := zaF.mono_l k
 unfold zaF.f
 repeat' first
   | (with_reducible exact ih0 _ _ _ _ _ _ _ _ _)
   | (with_reducible exact zkJ.mono _ _)
   | (with_reducible exact znH.mono _ _ _ _ _ _ _ _ _)
   | (with_reducible exact LeO.refl _)
   | (with_reducible exact LeO.none _)
   | (with_reducible refine LeO.ite ?_ ?_)
   | (with_reducible refine LeO.bind ?_ (fun _ => ?_))
   | exact ih0 _ _ _ _ _ _ _ _ _
   | exact zkJ.mono _ _
   | exact znH.mono _ _ _ _ _ _ _ _ _
   | exact LeO.none _
   | refine LeO.ite ?_ ?_
   | refine LeO.bind ?_ (fun _ => ?_)
def zaF.T5 : Bool × List (List Nat × List Nat) := (true, [([], []), ([0], [0]), ([1], [1]), ([2], [2]), ([], []), ([4], [4]), ([5], [5]), ([], []), ([7], [7]), ([], []), ([9], [9]), ([3, 6, 8, 10], [3, 6, 8, 10]), ([], []), ([12, 11, 0, 1, 2, 3, 4, 5, 6, 7, 8, 9, 10, 11, 12], [11, 12])])
def zaF.B5 : List Nat := [0, 1, 3, 7, 0, 16, 48, 0, 128, 0, 512, 2047, 0, 8191]
theorem zaF.tab5 : rtab .any (opsOf Tryd.f17 5) = zaF.T5 := by kernel_rfl
theorem zaF.bits5 : waitsOk zaF.T5.2 zaF.B5 = true := by kernel_rfl
theorem zaF.calls (k : Nat) (a0 : ByteArray) (r1 : Int) (r2 : Bool) (r3 : Int) (r4 : Int) (r5 : Int) (r6 : Int) (r7 : Int) (r8 : Int) (r9 : Bool) (w : World) (hG : LaidV w) (h : zaF.f k a0 = some (r1, r2, r3, r4, r5, r6, r7, r8, r9)) :
  Calls Tryd.prog 17 #[.string a0] w fun e w' => e = .returned (.tuple #[.agg #[.int .i64 r1, .bool r2, .int .i64 r3, .int .i64 r4, .int .i64 r5, .int .i64 r6, .int .i64 r7, .int .i64 r8], .bool r9]) ∧ Below w.heap.size w w' := by
 have hu39 := Tryd.underlying39
 have hu34 := Tryd.underlying34
 have hu23 := Tryd.underlying23
 have HB := zpS (Below.refl w.heap.size w)
 have H : ((strings_Cut.f a0 (⟨#[32]⟩ : ByteArray)).bind fun bt274 => ((zkJ.f k bt274.2.1).bind fun bt277 => (if bt277.2.2.2.2.2.2 = true then (zaF.j0 k a0 bt274.1 ((bt274.1.size : Int) != 2) bt277.1 bt277.2.1 bt277.2.2.1 bt277.2.2.2.1 bt277.2.2.2.2.1 bt277.2.2.2.2.2.1) else (zaF.j0 k a0 bt274.1 true bt277.1 bt277.2.1 bt277.2.2.1 bt277.2.2.2.1 bt277.2.2.2.2.1 bt277.2.2.2.2.2.1)))) = some (r1, r2, r3, r4, r5, r6, r7, r8, r9) := h
 clear h
 replace H := Option.bind_eq_some_iff.mp H
 obtain ⟨⟨t274, t275, t276⟩, A20, H⟩ := H
 replace H : ((zkJ.f k t275).bind fun bt277 => (if bt277.2.2.2.2.2.2 = true then (zaF.j0 k a0 t274 ((t274.size : Int) != 2) bt277.1 bt277.2.1 bt277.2.2.1 bt277.2.2.2.1 bt277.2.2.2.2.1 bt277.2.2.2.2.2.1) else (zaF.j0 k a0 t274 true bt277.1 bt277.2.1 bt277.2.2.1 bt277.2.2.2.1 bt277.2.2.2.2.1 bt277.2.2.2.2.2.1))) = some (r1, r2, r3, r4, r5, r6, r7, r8, r9) := H
 have A2 := zpS A20
 clear A20
 replace H := Option.bind_eq_some_iff.mp H
 obtain ⟨⟨t277, t278, t279, t280, t281, t282, t283⟩, A30, H⟩ := H
 replace H : (if t283 = true then (zaF.j0 k a0 t274 ((t274.size : Int) != 2) t277 t278 t279 t280 t281 t282) else (zaF.j0 k a0 t274 true t277 t278 t279 t280 t281 t282)) = some (r1, r2, r3, r4, r5, r6, r7, r8, r9) := H
 have A3 := zpS A30
 clear A30
 have HC4 := zpS H
 clear H
 go_enter Tryd.func17, Tryd.ntmps17
 go_upto_region 3 with (first | ((with_reducible refine zpZ (N := 2) rfl ?_); (try (refine gate_guard (by rfl) ?_; dsimp only)); refine box_event ?hg (N := 2) ?hd (cs := #[.int .i64 0, .bool false, .int .i64 0, .int .i64 0, .int .i64 0, .int .i64 0, .int .i64 0, .int .i64 0]) (t := 39) ?hr ?_; (case hd => rfl); (case hg => rfl); (case hr => first | (go_simp; done) | (go_simp; rfl)); intro gb273 hg w5 hbox hb; have n0_ := (ns_ hb); have n1_ := zpS (hbox); have n2_ := (ng_ hg); have n3_ := n2_; clear HB; have HB := n0_; have BK273 := n1_; have GW273 := n2_; have GE273 := n3_; clear n0_ n1_ n2_ n3_; clear hb hbox hg) | ((with_reducible refine zgK (f := 22) rfl ?_); refine zqQ (some 12) rfl rfl Tryd.func22 (by kernel_rfl) rfl #[.string a0, .string (⟨#[32]⟩ : ByteArray)] rfl (by (try simp only [List.map_toArray, List.map_cons, List.map_nil]); first | done | rfl | (simp only [List.length_drop, List.length_take]; rfl)) ?_; (with_reducible refine (strings_Cut.calls a0 (⟨#[32]⟩ : ByteArray) t274 t275 t276 _ ?side1 A2.out).mono ?_); (case side1 => exact LaidV.below hG bb_); rintro e w' ⟨rfl, ⟨nd, rfl⟩⟩; refine ⟨_, rfl, ?_⟩; (try (rw [zxE w5]; generalize hq_ : World.drewN w5 _ = w5; have n0_ : Aside0 (w5.heap[gb273]? = some (.cells #[.int .i64 0, .bool false, .int .i64 0, .int .i64 0, .int .i64 0, .int .i64 0, .int .i64 0, .int .i64 0] 39 (0, 0))) := ⟨by rw [← hq_]; exact bk_⟩; have n1_ : Aside0 (Below w.heap.size w w5) := ⟨by rw [← hq_]; exact bb_⟩; clear BK273 HB hq_; have BK273 := n0_; have HB := n1_; clear n0_ n1_))) | ((with_reducible refine zgK (f := 14) rfl ?_); refine zqQ (some 18) rfl rfl Tryd.func14 (by kernel_rfl) rfl #[.string t275] rfl (by (try simp only [List.map_toArray, List.map_cons, List.map_nil]); first | done | rfl | (simp only [List.length_drop, List.length_take]; rfl)) ?_; (with_reducible refine (zkJ.calls k t275 t277 t278 t279 t280 t281 t282 t283 _ ?side1 A3.out).mono ?_); (case side1 => exact LaidV.below hG bb_); rintro e w6 ⟨rfl, hb⟩; refine ⟨_, rfl, ?_⟩; have n0_ := zpS (zgM (g := gb273) (o := .cells #[.int .i64 0, .bool false, .int .i64 0, .int .i64 0, .int .i64 0, .int .i64 0, .int .i64 0, .int .i64 0] 39 (0, 0)) bk_ hb); have n1_ := (ns_ hb); clear BK273; clear HB; have BK273 := n0_; have HB := n1_; clear n0_ n1_; (try clear hb); (try clear hb2)) | ((with_reducible refine zpZ (N := 7) rfl ?_); (try (refine gate_guard (by rfl) ?_; dsimp only)); refine box_event ?hg (N := 7) ?hd (cs := #[.int .i64 0, .int .i64 0, .int .i64 0, .int .i64 0, .int .i64 0, .int .i64 0]) (t := 34) ?hr ?_; (case hd => rfl); (case hg => rfl); (case hr => first | (go_simp; done) | (go_simp; rfl)); intro gb284 hg w7 hbox hb; have n0_ := zpS (zgM (g := gb273) (o := .cells #[.int .i64 0, .bool false, .int .i64 0, .int .i64 0, .int .i64 0, .int .i64 0, .int .i64 0, .int .i64 0] 39 (0, 0)) bk_ hb); have n1_ := (ns_ hb); have n2_ := zpS (hbox); have n3_ := (ng_ hg); have n4_ := n3_; have n5_ := zpS ((by rw [hg]; exact Nat.ne_of_lt (zmN (g := gb273) (o := .cells #[.int .i64 0, .bool false, .int .i64 0, .int .i64 0, .int .i64 0, .int .i64 0, .int .i64 0, .int .i64 0] 39 (0, 0)) bk_) : gb273 ≠ gb284)); have n6_ := zpS ((by rw [hg]; exact Nat.ne_of_gt (zmN (g := gb273) (o := .cells #[.int .i64 0, .bool false, .int .i64 0, .int .i64 0, .int .i64 0, .int .i64 0, .int .i64 0, .int .i64 0] 39 (0, 0)) bk_) : gb284 ≠ gb273)); clear BK273; clear HB; have BK273 := n0_; have HB := n1_; have BK284 := n2_; have GW284 := n3_; have GE284 := n4_; have NB273_284 := n5_; have NB284_273 := n6_; clear n0_ n1_ n2_ n3_ n4_ n5_ n6_; clear hb hbox hg; have hnb8 := NB284_273.out; have hnc8 := NB273_284.out; obtain ⟨hcz9_0, hcz9_1, hcz9_2, hcz9_3, hcz9_4, hcz9_5⟩ := cz6_ BK284.out; obtain ⟨hfz9_0, hfz9_1, hfz9_2, hfz9_3, hfz9_4, hfz9_5⟩ := fz6_ BK284.out))
 (try simp only [Act.put, set_a_, set_b_, set_c_])
 go_cut [27] (fun v27 wc => ∃ (kq : Nat) (x27_3 : Bool), v27 = .bool x27_3 ∧ Aside0 (zaF.j0 kq a0 t274 x27_3 t277 t278 t279 t280 t281 t282 = some (r1, r2, r3, r4, r5, r6, r7, r8, r9)) ∧ Aside0 (kq ≤ k) ∧ Aside0 (wc.heap[gb273]? = some (.cells #[.int .i64 0, .bool false, .int .i64 0, .int .i64 0, .int .i64 0, .int .i64 0, .int .i64 0, .int .i64 0] 39 (0, 0))) ∧ Aside0 (wc.heap[gb284]? = some (.cells #[.int .i64 t277, .int .i64 t278, .int .i64 t279, .int .i64 t280, .int .i64 t281, .int .i64 t282] 34 (0, 0))) ∧ Aside0 (Below w.heap.size w wc))
 case first =>
  have H := HC4.out
  clear HC4
  by_cases c10 : t283 = true
  ·subst c10
   have H1 : (zaF.j0 k a0 t274 ((t274.size : Int) != 2) t277 t278 t279 t280 t281 t282) = some (r1, r2, r3, r4, r5, r6, r7, r8, r9) := by rw [if_pos rfl] at H; exact H
   clear H
   have H := H1
   clear H1
   have H' := zpS H
   clear H
   go_wp2
   go_meet
   case rel => exact ⟨_, (((t274.size : Int) != 2)), (by first | rfl | (simp; done) | (simp [*]; done)), H', ⟨by first | omega | exact Nat.le_refl _⟩, ⟨by (with_reducible repeat (first | apply zuW | apply ztN | apply zqY)); refine znI ?_ NB273_284.out _; (with_reducible repeat (first | apply zuW | apply ztN | apply zqY)); refine znI ?_ NB273_284.out _; (with_reducible repeat (first | apply zuW | apply ztN | apply zqY)); refine znI ?_ NB273_284.out _; (with_reducible repeat (first | apply zuW | apply ztN | apply zqY)); refine znI ?_ NB273_284.out _; (with_reducible repeat (first | apply zuW | apply ztN | apply zqY)); refine znI ?_ NB273_284.out _; (with_reducible repeat (first | apply zuW | apply ztN | apply zqY)); refine znI ?_ NB273_284.out _; (with_reducible repeat (first | apply zuW | apply ztN | apply zqY)); exact BK273.out⟩, ⟨by (with_reducible repeat (first | apply zuW | apply ztN | apply zqY)); refine zlL (cs := #[.int .i64 t277, .int .i64 t278, .int .i64 t279, .int .i64 t280, .int .i64 t281, .int .i64 0]) ?_ 5 _ rfl; (with_reducible repeat (first | apply zuW | apply ztN | apply zqY)); refine zlL (cs := #[.int .i64 t277, .int .i64 t278, .int .i64 t279, .int .i64 t280, .int .i64 0, .int .i64 0]) ?_ 4 _ rfl; (with_reducible repeat (first | apply zuW | apply ztN | apply zqY)); refine zlL (cs := #[.int .i64 t277, .int .i64 t278, .int .i64 t279, .int .i64 0, .int .i64 0, .int .i64 0]) ?_ 3 _ rfl; (with_reducible repeat (first | apply zuW | apply ztN | apply zqY)); refine zlL (cs := #[.int .i64 t277, .int .i64 t278, .int .i64 0, .int .i64 0, .int .i64 0, .int .i64 0]) ?_ 2 _ rfl; (with_reducible repeat (first | apply zuW | apply ztN | apply zqY)); refine zlL (cs := #[.int .i64 t277, .int .i64 0, .int .i64 0, .int .i64 0, .int .i64 0, .int .i64 0]) ?_ 1 _ rfl; (with_reducible repeat (first | apply zuW | apply ztN | apply zqY)); refine zlL (cs := #[.int .i64 0, .int .i64 0, .int .i64 0, .int .i64 0, .int .i64 0, .int .i64 0]) ?_ 0 _ rfl; (with_reducible repeat (first | apply zuW | apply ztN | apply zqY)); exact BK284.out⟩, ⟨bb_⟩⟩
  ·replace c10 := Bool.eq_false_iff.mpr c10
   subst c10
   have H1 : (zaF.j0 k a0 t274 true t277 t278 t279 t280 t281 t282) = some (r1, r2, r3, r4, r5, r6, r7, r8, r9) := by rw [if_neg (show ¬ (false = true) by decide)] at H; exact H
   clear H
   have H := H1
   clear H1
   have H' := zpS H
   clear H
   go_wp2
   go_meet
   case rel => exact ⟨_, (true), (by first | rfl | (simp; done) | (simp [*]; done)), H', ⟨by first | omega | exact Nat.le_refl _⟩, ⟨by (with_reducible repeat (first | apply zuW | apply ztN | apply zqY)); refine znI ?_ NB273_284.out _; (with_reducible repeat (first | apply zuW | apply ztN | apply zqY)); refine znI ?_ NB273_284.out _; (with_reducible repeat (first | apply zuW | apply ztN | apply zqY)); refine znI ?_ NB273_284.out _; (with_reducible repeat (first | apply zuW | apply ztN | apply zqY)); refine znI ?_ NB273_284.out _; (with_reducible repeat (first | apply zuW | apply ztN | apply zqY)); refine znI ?_ NB273_284.out _; (with_reducible repeat (first | apply zuW | apply ztN | apply zqY)); refine znI ?_ NB273_284.out _; (with_reducible repeat (first | apply zuW | apply ztN | apply zqY)); exact BK273.out⟩, ⟨by (with_reducible repeat (first | apply zuW | apply ztN | apply zqY)); refine zlL (cs := #[.int .i64 t277, .int .i64 t278, .int .i64 t279, .int .i64 t280, .int .i64 t281, .int .i64 0]) ?_ 5 _ rfl; (with_reducible repeat (first | apply zuW | apply ztN | apply zqY)); refine zlL (cs := #[.int .i64 t277, .int .i64 t278, .int .i64 t279, .int .i64 t280, .int .i64 0, .int .i64 0]) ?_ 4 _ rfl; (with_reducible repeat (first | apply zuW | apply ztN | apply zqY)); refine zlL (cs := #[.int .i64 t277, .int .i64 t278, .int .i64 t279, .int .i64 0, .int .i64 0, .int .i64 0]) ?_ 3 _ rfl; (with_reducible repeat (first | apply zuW | apply ztN | apply zqY)); refine zlL (cs := #[.int .i64 t277, .int .i64 t278, .int .i64 0, .int .i64 0, .int .i64 0, .int .i64 0]) ?_ 2 _ rfl; (with_reducible repeat (first | apply zuW | apply ztN | apply zqY)); refine zlL (cs := #[.int .i64 t277, .int .i64 0, .int .i64 0, .int .i64 0, .int .i64 0, .int .i64 0]) ?_ 1 _ rfl; (with_reducible repeat (first | apply zuW | apply ztN | apply zqY)); refine zlL (cs := #[.int .i64 0, .int .i64 0, .int .i64 0, .int .i64 0, .int .i64 0, .int .i64 0]) ?_ 0 _ rfl; (with_reducible repeat (first | apply zuW | apply ztN | apply zqY)); exact BK284.out⟩, ⟨bb_⟩⟩
 case rest =>
  clear HC4
  try clear c1
  try clear c2
  try clear p2
  try clear c8
  try clear c10
  try clear hcz9_0
  try clear hcz9_1
  try clear hcz9_2
  try clear hcz9_3
  try clear hcz9_4
  try clear hcz9_5
  try clear hfz9_0
  try clear hfz9_1
  try clear hfz9_2
  try clear hfz9_3
  try clear hfz9_4
  try clear hfz9_5
  obtain ⟨kq, x27_3, rfl, HA, HJ3, BK273, BK284, HB⟩ := hcut
  cases kq with
  | zero => exact absurd HA.out (by simp [zaF.j0])
  | succ kj3 =>
   have H := HA.out
   clear HA
   simp only [zaF.j0] at H
   by_cases c11 : x27_3 = true
   ·subst c11
    have H1 : (some (0, false, 0, 0, 0, 0, 0, 0, false)) = some (r1, r2, r3, r4, r5, r6, r7, r8, r9) := by rw [if_pos rfl] at H; exact H
    clear H
    have H := H1
    clear H1
    simp only [Option.some.injEq, Prod.mk.injEq] at H
    obtain ⟨rfl, rfl, rfl, rfl, rfl, rfl, rfl, rfl, rfl⟩ := H
    have hnb12 := NB273_284.out
    have hnc12 := NB284_273.out
    have hcz13_0 : wc.cell? ⟨gb273, 0, none⟩ = some (.int .i64 0) := (zzS BK273.out 0).trans rfl
    have hcz13_1 : wc.cell? ⟨gb273, 1, none⟩ = some (.bool false) := (zzS BK273.out 1).trans rfl
    have hcz13_2 : wc.cell? ⟨gb273, 2, none⟩ = some (.int .i64 0) := (zzS BK273.out 2).trans rfl
    have hcz13_3 : wc.cell? ⟨gb273, 3, none⟩ = some (.int .i64 0) := (zzS BK273.out 3).trans rfl
    have hcz13_4 : wc.cell? ⟨gb273, 4, none⟩ = some (.int .i64 0) := (zzS BK273.out 4).trans rfl
    have hcz13_5 : wc.cell? ⟨gb273, 5, none⟩ = some (.int .i64 0) := (zzS BK273.out 5).trans rfl
    have hcz13_6 : wc.cell? ⟨gb273, 6, none⟩ = some (.int .i64 0) := (zzS BK273.out 6).trans rfl
    have hcz13_7 : wc.cell? ⟨gb273, 7, none⟩ = some (.int .i64 0) := (zzS BK273.out 7).trans rfl
    have hfz13_0 := zjF BK273.out 0
    have hfz13_1 := zjF BK273.out 1
    have hfz13_2 := zjF BK273.out 2
    have hfz13_3 := zjF BK273.out 3
    have hfz13_4 := zjF BK273.out 4
    have hfz13_5 := zjF BK273.out 5
    have hfz13_6 := zjF BK273.out 6
    have hfz13_7 := zjF BK273.out 7
    go_wp2
    refine bodyPost_ret (zzB rfl _ _ gb273 39 #[.int .i64 0, .bool false, .int .i64 0, .int .i64 0, .int .i64 0, .int .i64 0, .int .i64 0, .int .i64 0] (0, 0) _ rfl (by (with_reducible repeat (first | apply zuW | apply ztN | apply zqY)); refine zlL (cs := #[.int .i64 0, .bool false, .int .i64 0, .int .i64 0, .int .i64 0, .int .i64 0, .int .i64 0, .int .i64 0]) ?_ 7 _ rfl; (with_reducible repeat (first | apply zuW | apply ztN | apply zqY)); refine zlL (cs := #[.int .i64 0, .bool false, .int .i64 0, .int .i64 0, .int .i64 0, .int .i64 0, .int .i64 0, .int .i64 0]) ?_ 6 _ rfl; (with_reducible repeat (first | apply zuW | apply ztN | apply zqY)); refine zlL (cs := #[.int .i64 0, .bool false, .int .i64 0, .int .i64 0, .int .i64 0, .int .i64 0, .int .i64 0, .int .i64 0]) ?_ 5 _ rfl; (with_reducible repeat (first | apply zuW | apply ztN | apply zqY)); refine zlL (cs := #[.int .i64 0, .bool false, .int .i64 0, .int .i64 0, .int .i64 0, .int .i64 0, .int .i64 0, .int .i64 0]) ?_ 4 _ rfl; (with_reducible repeat (first | apply zuW | apply ztN | apply zqY)); refine zlL (cs := #[.int .i64 0, .bool false, .int .i64 0, .int .i64 0, .int .i64 0, .int .i64 0, .int .i64 0, .int .i64 0]) ?_ 3 _ rfl; (with_reducible repeat (first | apply zuW | apply ztN | apply zqY)); refine zlL (cs := #[.int .i64 0, .bool false, .int .i64 0, .int .i64 0, .int .i64 0, .int .i64 0, .int .i64 0, .int .i64 0]) ?_ 2 _ rfl; (with_reducible repeat (first | apply zuW | apply ztN | apply zqY)); refine zlL (cs := #[.int .i64 0, .bool false, .int .i64 0, .int .i64 0, .int .i64 0, .int .i64 0, .int .i64 0, .int .i64 0]) ?_ 1 _ rfl; (with_reducible repeat (first | apply zuW | apply ztN | apply zqY)); refine zlL (cs := #[.int .i64 0, .bool false, .int .i64 0, .int .i64 0, .int .i64 0, .int .i64 0, .int .i64 0, .int .i64 0]) ?_ 0 _ rfl; (with_reducible repeat (first | apply zuW | apply ztN | apply zqY)); exact BK273.out) Tryd.underlying39 rfl (by kernel_rfl)) rfl ?_
    exact ⟨by first | rfl | (simp [ziS, znJ] <;> rfl) | (simp [*, ziS, znJ] <;> rfl), bb_⟩
   ·replace c11 := Bool.eq_false_iff.mpr c11
    subst c11
    have H1 : (if 1 < (t274.size : Int) then (if 0 < (t274.size : Int) then ((zyY.f (wrap64 ((wrap64 (bt t274 1)) - 48)) ((bt t274 0) == 102) t277 t278 t279 t280 t281 t282).bind fun t286 => (if t286 = true then ((znH.f kj3 (wrap64 ((wrap64 (bt t274 1)) - 48)) ((bt t274 0) == 102) t277 t278 t279 t280 t281 t282).bind fun t287 => (if t287.toList = a0.toList then (some (wrap64 ((wrap64 (bt t274 1)) - 48), ((bt t274 0) == 102), t277, t278, t279, t280, t281, t282, true)) else (some (0, false, 0, 0, 0, 0, 0, 0, false)))) else (some (0, false, 0, 0, 0, 0, 0, 0, false)))) else (none)) else (none)) = some (r1, r2, r3, r4, r5, r6, r7, r8, r9) := by rw [if_neg (show ¬ (false = true) by decide)] at H; exact H
    clear H
    have H := H1
    clear H1
    by_cases c14 : 1 < (t274.size : Int)
    ·rw [if_pos c14] at H
     have c14b0 : decide (1 < (t274.size : Int)) = true := decide_eq_true c14
     have c14b1 : decide (1 < t274.size) = true := decide_eq_true (by omega)
     clear c14
     by_cases c16 : 0 < (t274.size : Int)
     ·rw [if_pos c16] at H
      have c16b0 : decide (0 < (t274.size : Int)) = true := decide_eq_true c16
      have c16b1 : decide (0 < t274.size) = true := decide_eq_true (by omega)
      clear c16
      replace H := Option.bind_eq_some_iff.mp H
      obtain ⟨t286, A180, H⟩ := H
      replace H : (if t286 = true then ((znH.f kj3 (wrap64 ((wrap64 (bt t274 1)) - 48)) ((bt t274 0) == 102) t277 t278 t279 t280 t281 t282).bind fun t287 => (if t287.toList = a0.toList then (some (wrap64 ((wrap64 (bt t274 1)) - 48), ((bt t274 0) == 102), t277, t278, t279, t280, t281, t282, true)) else (some (0, false, 0, 0, 0, 0, 0, 0, false)))) else (some (0, false, 0, 0, 0, 0, 0, 0, false))) = some (r1, r2, r3, r4, r5, r6, r7, r8, r9) := H
      have A18 := zpS A180
      clear A180
      by_cases c19 : t286 = true
      ·subst c19
       have H1 : ((znH.f kj3 (wrap64 ((wrap64 (bt t274 1)) - 48)) ((bt t274 0) == 102) t277 t278 t279 t280 t281 t282).bind fun t287 => (if t287.toList = a0.toList then (some (wrap64 ((wrap64 (bt t274 1)) - 48), ((bt t274 0) == 102), t277, t278, t279, t280, t281, t282, true)) else (some (0, false, 0, 0, 0, 0, 0, 0, false)))) = some (r1, r2, r3, r4, r5, r6, r7, r8, r9) := by rw [if_pos rfl] at H; exact H
       clear H
       have H := H1
       clear H1
       replace H := Option.bind_eq_some_iff.mp H
       obtain ⟨t287, A200, H⟩ := H
       replace H : (if t287.toList = a0.toList then (some (wrap64 ((wrap64 (bt t274 1)) - 48), ((bt t274 0) == 102), t277, t278, t279, t280, t281, t282, true)) else (some (0, false, 0, 0, 0, 0, 0, 0, false))) = some (r1, r2, r3, r4, r5, r6, r7, r8, r9) := H
       have A20 := zpS A200
       clear A200
       by_cases c21 : t287.toList = a0.toList
       ·rw [if_pos c21] at H
        have c21b0 : (t287.toList == a0.toList) = true := beq_iff_eq.mpr c21
        have c21b1 : (t287.toList != a0.toList) = false := bne_eq_false_iff_eq.mpr c21
        clear c21
        simp only [Option.some.injEq, Prod.mk.injEq] at H
        obtain ⟨rfl, rfl, rfl, rfl, rfl, rfl, rfl, rfl, rfl⟩ := H
        try go_wp2
        have n0_ := zpS (ztN BK273.out)
        have n1_ := zpS (ztN BK284.out)
        have n2_ := zpS (zvF HB.out)
        clear BK273
        clear BK284
        clear HB
        have BK273 := n0_
        have BK284 := n1_
        have HB := n2_
        clear n0_ n1_ n2_
        have p15 : 0 ≤ (1 : Int) := (by omega)
        have q15 : 1 < t274.size := (by have : (1 : Int) < (t274.size : Int) := dt_; omega)
        have hx15 : ∀ h : 1 < t274.size, ((t274[1]'h).toNat : Int) = bt t274 1 := zbX t274 1
        clear p15
        have qi15 : (1 < (t274.size : Int)) = True := eq_true dt_
        replace q15 := eq_true q15
        have p17 : 0 ≤ (0 : Int) := (by omega)
        have q17 : 0 < t274.size := (by have : (0 : Int) < (t274.size : Int) := dt_; omega)
        have hx17 : ∀ h : 0 < t274.size, ((t274[0]'h).toNat : Int) = bt t274 0 := zbX t274 0
        clear p17
        have qi17 : (0 < (t274.size : Int)) = True := eq_true dt_
        replace q17 := eq_true q17
        refine start_ (n := 14) (S := fun w' => w'.cell? ⟨gb284, 0, none⟩ = some (.int .i64 t277) ∧ w'.cell? ⟨gb284, 1, none⟩ = some (.int .i64 t278) ∧ w'.cell? ⟨gb284, 2, none⟩ = some (.int .i64 t279) ∧ w'.cell? ⟨gb284, 3, none⟩ = some (.int .i64 t280) ∧ w'.cell? ⟨gb284, 4, none⟩ = some (.int .i64 t281) ∧ w'.cell? ⟨gb284, 5, none⟩ = some (.int .i64 t282)) (ds := []) #[false, false, false, false, false, false, false, false, false, false, false, false, false, false] (by kernel_rfl) rfl rfl ⟨(zzS BK284.out 0).trans rfl, (zzS BK284.out 1).trans rfl, (zzS BK284.out 2).trans rfl, (zzS BK284.out 3).trans rfl, (zzS BK284.out 4).trans rfl, (zzS BK284.out 5).trans rfl⟩ (fun hHeld => ?_); refine zwI zaF.tab5 zaF.bits5 (fun HT_ HW_ => ?_)
        generalize wc.drew = w22 at BK273 BK284 HB hHeld ⊢
        refine pu_ 0 (some 29) (bl_ 14 1) ?_
        refine pu_ 4 (some 33) (bl_ 14 17) ?_
        refine pu_ 7 (some 36) (bl_ 14 145) ?_
        refine pu_ 9 (some 38) (bl_ 14 657) ?_
        refine tk6_ 1 (some 30) (bl_ 14 659) hHeld ?_
        refine pu_ 2 (some 31) (bl_ 14 663) ?_
        refine pu_ 3 (some 32) (bl_ 14 671) ?_
        refine tk6_ 5 (some 34) (bl_ 14 703) hHeld ?_
        refine pu_ 6 (some 35) (bl_ 14 767) ?_
        refine tk6_ 8 (some 37) (bl_ 14 1023) hHeld ?_
        refine tk6_ 10 (some 39) (bl_ 14 2047) hHeld ?_
        refine pu_ 11 (some 40) (bl_ 14 4095) ?_
        refine one_ (i := 12) (N := some 9) (bl_ 14 8191) rfl rfl (zeO HT_.out (by kernel_rfl)) (by decide) (fun K hK => ?_)
        refine box_step ?hg (N := 9) ?hd (cs := #[.int .i64 0, .bool false, .int .i64 0, .int .i64 0, .int .i64 0, .int .i64 0, .int .i64 0, .int .i64 0]) (t := 39) ?hr ?_; (case hd => rfl); (case hg => rfl); (case hr => first | (go_simp; done) | (go_simp; rfl))
        intro gb285 hg w23 hbox hb
        have n0_ := zpS (zgM (g := gb273) (o := .cells #[.int .i64 0, .bool false, .int .i64 0, .int .i64 0, .int .i64 0, .int .i64 0, .int .i64 0, .int .i64 0] 39 (0, 0)) bk_ hb)
        have n1_ := zpS (zgM (g := gb284) (o := .cells #[.int .i64 t277, .int .i64 t278, .int .i64 t279, .int .i64 t280, .int .i64 t281, .int .i64 t282] 34 (0, 0)) bk_ hb)
        have n2_ := (ns_ hb)
        have n3_ := zpS (hbox)
        have n4_ := (ng_ hg)
        have n5_ := (ng_ hg)
        have n6_ := zpS ((by rw [hg]; exact Nat.ne_of_lt (zmN (g := gb273) (o := .cells #[.int .i64 0, .bool false, .int .i64 0, .int .i64 0, .int .i64 0, .int .i64 0, .int .i64 0, .int .i64 0] 39 (0, 0)) bk_) : gb273 ≠ gb285))
        have n7_ := zpS ((by rw [hg]; exact Nat.ne_of_gt (zmN (g := gb273) (o := .cells #[.int .i64 0, .bool false, .int .i64 0, .int .i64 0, .int .i64 0, .int .i64 0, .int .i64 0, .int .i64 0] 39 (0, 0)) bk_) : gb285 ≠ gb273))
        have n8_ := zpS ((by rw [hg]; exact Nat.ne_of_lt (zmN (g := gb284) (o := .cells #[.int .i64 t277, .int .i64 t278, .int .i64 t279, .int .i64 t280, .int .i64 t281, .int .i64 t282] 34 (0, 0)) bk_) : gb284 ≠ gb285))
        have n9_ := zpS ((by rw [hg]; exact Nat.ne_of_gt (zmN (g := gb284) (o := .cells #[.int .i64 t277, .int .i64 t278, .int .i64 t279, .int .i64 t280, .int .i64 t281, .int .i64 t282] 34 (0, 0)) bk_) : gb285 ≠ gb284))
        clear BK273
        clear BK284
        clear HB
        have BK273 := n0_
        have BK284 := n1_
        have HB := n2_
        have BK285 := n3_
        have GW285 := n4_
        have GE285 := n5_
        have NB273_285 := n6_
        have NB285_273 := n7_
        have NB284_285 := n8_
        have NB285_284 := n9_
        clear n0_ n1_ n2_ n3_ n4_ n5_ n6_ n7_ n8_ n9_
        clear hb hbox hg
        refine hK.out _ _ ⟨(zzS BK284.out 0).trans rfl, (zzS BK284.out 1).trans rfl, (zzS BK284.out 2).trans rfl, (zzS BK284.out 3).trans rfl, (zzS BK284.out 4).trans rfl, (zzS BK284.out 5).trans rfl⟩ (fun hHeld => ?_)
        clear hK K
        refine zaN (a' := ?_) ?_ ?_
        rotate_left
        ·show Act.put _ (some 9) _ = _
         simp only [Act.put, List.setIfInBounds_toArray, List.set_cons_zero, List.set_cons_succ, zcN, ziJ]
         rfl
        refine one_ (i := 13) (N := none) (bl_ 14 16383) rfl rfl (zeO HT_.out (by kernel_rfl)) (by decide) (fun K hK => ?_)
        have hs24 : w23.cell? ⟨gb285, 0, none⟩ = some (.int .i64 0) := (zzS BK285.out 0).trans rfl
        have hfs24 := zjF BK285.out 0
        have hns24_0 := NB273_285.out
        have hns24_1 := NB284_285.out
        have hms24_0 := NB285_273.out
        have hms24_1 := NB285_284.out
        have hs25 : w23.cell? ⟨gb285, 1, none⟩ = some (.bool false) := (zzS BK285.out 1).trans rfl
        have hfs25 := zjF BK285.out 1
        have hns25_0 := NB273_285.out
        have hns25_1 := NB284_285.out
        have hms25_0 := NB285_273.out
        have hms25_1 := NB285_284.out
        have hs26 : w23.cell? ⟨gb285, 2, none⟩ = some (.int .i64 0) := (zzS BK285.out 2).trans rfl
        have hfs26 := zjF BK285.out 2
        have hns26_0 := NB273_285.out
        have hns26_1 := NB284_285.out
        have hms26_0 := NB285_273.out
        have hms26_1 := NB285_284.out
        have hs27 : w23.cell? ⟨gb285, 3, none⟩ = some (.int .i64 0) := (zzS BK285.out 3).trans rfl
        have hfs27 := zjF BK285.out 3
        have hns27_0 := NB273_285.out
        have hns27_1 := NB284_285.out
        have hms27_0 := NB285_273.out
        have hms27_1 := NB285_284.out
        have hs28 : w23.cell? ⟨gb285, 4, none⟩ = some (.int .i64 0) := (zzS BK285.out 4).trans rfl
        have hfs28 := zjF BK285.out 4
        have hns28_0 := NB273_285.out
        have hns28_1 := NB284_285.out
        have hms28_0 := NB285_273.out
        have hms28_1 := NB285_284.out
        have hs29 : w23.cell? ⟨gb285, 5, none⟩ = some (.int .i64 0) := (zzS BK285.out 5).trans rfl
        have hfs29 := zjF BK285.out 5
        have hns29_0 := NB273_285.out
        have hns29_1 := NB284_285.out
        have hms29_0 := NB285_273.out
        have hms29_1 := NB285_284.out
        have hs30 : w23.cell? ⟨gb285, 6, none⟩ = some (.int .i64 0) := (zzS BK285.out 6).trans rfl
        have hfs30 := zjF BK285.out 6
        have hns30_0 := NB273_285.out
        have hns30_1 := NB284_285.out
        have hms30_0 := NB285_273.out
        have hms30_1 := NB285_284.out
        have hs31 : w23.cell? ⟨gb285, 7, none⟩ = some (.int .i64 0) := (zzS BK285.out 7).trans rfl
        have hfs31 := zjF BK285.out 7
        have hns31_0 := NB273_285.out
        have hns31_1 := NB284_285.out
        have hms31_0 := NB285_273.out
        have hms31_1 := NB285_284.out
        refine skip_ (w1 := ?_) (by rfl) rfl ?_ ?_
        rotate_left
        ·go_simp
         rfl
        refine hK.out _ _ ⟨((zgQ (p := ⟨gb285, _, none⟩) NB284_285.out _).trans (((zgQ (p := ⟨gb285, _, none⟩) NB284_285.out _).trans (((zgQ (p := ⟨gb285, _, none⟩) NB284_285.out _).trans (((zgQ (p := ⟨gb285, _, none⟩) NB284_285.out _).trans (((zgQ (p := ⟨gb285, _, none⟩) NB284_285.out _).trans (((zgQ (p := ⟨gb285, _, none⟩) NB284_285.out _).trans (((zgQ (p := ⟨gb285, _, none⟩) NB284_285.out _).trans (((zgQ (p := ⟨gb285, _, none⟩) NB284_285.out _).trans (hHeld.1)))))))))))))))), ((zgQ (p := ⟨gb285, _, none⟩) NB284_285.out _).trans (((zgQ (p := ⟨gb285, _, none⟩) NB284_285.out _).trans (((zgQ (p := ⟨gb285, _, none⟩) NB284_285.out _).trans (((zgQ (p := ⟨gb285, _, none⟩) NB284_285.out _).trans (((zgQ (p := ⟨gb285, _, none⟩) NB284_285.out _).trans (((zgQ (p := ⟨gb285, _, none⟩) NB284_285.out _).trans (((zgQ (p := ⟨gb285, _, none⟩) NB284_285.out _).trans (((zgQ (p := ⟨gb285, _, none⟩) NB284_285.out _).trans (hHeld.2.1)))))))))))))))), ((zgQ (p := ⟨gb285, _, none⟩) NB284_285.out _).trans (((zgQ (p := ⟨gb285, _, none⟩) NB284_285.out _).trans (((zgQ (p := ⟨gb285, _, none⟩) NB284_285.out _).trans (((zgQ (p := ⟨gb285, _, none⟩) NB284_285.out _).trans (((zgQ (p := ⟨gb285, _, none⟩) NB284_285.out _).trans (((zgQ (p := ⟨gb285, _, none⟩) NB284_285.out _).trans (((zgQ (p := ⟨gb285, _, none⟩) NB284_285.out _).trans (((zgQ (p := ⟨gb285, _, none⟩) NB284_285.out _).trans (hHeld.2.2.1)))))))))))))))), ((zgQ (p := ⟨gb285, _, none⟩) NB284_285.out _).trans (((zgQ (p := ⟨gb285, _, none⟩) NB284_285.out _).trans (((zgQ (p := ⟨gb285, _, none⟩) NB284_285.out _).trans (((zgQ (p := ⟨gb285, _, none⟩) NB284_285.out _).trans (((zgQ (p := ⟨gb285, _, none⟩) NB284_285.out _).trans (((zgQ (p := ⟨gb285, _, none⟩) NB284_285.out _).trans (((zgQ (p := ⟨gb285, _, none⟩) NB284_285.out _).trans (((zgQ (p := ⟨gb285, _, none⟩) NB284_285.out _).trans (hHeld.2.2.2.1)))))))))))))))), ((zgQ (p := ⟨gb285, _, none⟩) NB284_285.out _).trans (((zgQ (p := ⟨gb285, _, none⟩) NB284_285.out _).trans (((zgQ (p := ⟨gb285, _, none⟩) NB284_285.out _).trans (((zgQ (p := ⟨gb285, _, none⟩) NB284_285.out _).trans (((zgQ (p := ⟨gb285, _, none⟩) NB284_285.out _).trans (((zgQ (p := ⟨gb285, _, none⟩) NB284_285.out _).trans (((zgQ (p := ⟨gb285, _, none⟩) NB284_285.out _).trans (((zgQ (p := ⟨gb285, _, none⟩) NB284_285.out _).trans (hHeld.2.2.2.2.1)))))))))))))))), ((zgQ (p := ⟨gb285, _, none⟩) NB284_285.out _).trans (((zgQ (p := ⟨gb285, _, none⟩) NB284_285.out _).trans (((zgQ (p := ⟨gb285, _, none⟩) NB284_285.out _).trans (((zgQ (p := ⟨gb285, _, none⟩) NB284_285.out _).trans (((zgQ (p := ⟨gb285, _, none⟩) NB284_285.out _).trans (((zgQ (p := ⟨gb285, _, none⟩) NB284_285.out _).trans (((zgQ (p := ⟨gb285, _, none⟩) NB284_285.out _).trans (((zgQ (p := ⟨gb285, _, none⟩) NB284_285.out _).trans (hHeld.2.2.2.2.2))))))))))))))))⟩ (fun hHeld => ?_)
        clear hK K
        refine done_ (done_of HT_.out (by kernel_rfl)) ?_
        have hnb32 := NB285_273.out
        have hnc32 := NB273_285.out
        have hnb33 := NB285_284.out
        have hnc33 := NB284_285.out
        have hcz34_0 : w23.cell? ⟨gb285, 0, none⟩ = some (.int .i64 0) := (zzS BK285.out 0).trans rfl
        have hcz34_1 : w23.cell? ⟨gb285, 1, none⟩ = some (.bool false) := (zzS BK285.out 1).trans rfl
        have hcz34_2 : w23.cell? ⟨gb285, 2, none⟩ = some (.int .i64 0) := (zzS BK285.out 2).trans rfl
        have hcz34_3 : w23.cell? ⟨gb285, 3, none⟩ = some (.int .i64 0) := (zzS BK285.out 3).trans rfl
        have hcz34_4 : w23.cell? ⟨gb285, 4, none⟩ = some (.int .i64 0) := (zzS BK285.out 4).trans rfl
        have hcz34_5 : w23.cell? ⟨gb285, 5, none⟩ = some (.int .i64 0) := (zzS BK285.out 5).trans rfl
        have hcz34_6 : w23.cell? ⟨gb285, 6, none⟩ = some (.int .i64 0) := (zzS BK285.out 6).trans rfl
        have hcz34_7 : w23.cell? ⟨gb285, 7, none⟩ = some (.int .i64 0) := (zzS BK285.out 7).trans rfl
        have hfz34_0 := zjF BK285.out 0
        have hfz34_1 := zjF BK285.out 1
        have hfz34_2 := zjF BK285.out 2
        have hfz34_3 := zjF BK285.out 3
        have hfz34_4 := zjF BK285.out 4
        have hfz34_5 := zjF BK285.out 5
        have hfz34_6 := zjF BK285.out 6
        have hfz34_7 := zjF BK285.out 7
        try go_wp2_with (first | ((with_reducible refine zgK (f := 35) rfl ?_); refine zqQ (some 42) rfl rfl Tryd.func35 (by kernel_rfl) rfl #[.agg #[.int .i64 (wrap64 ((wrap64 (bt t274 1)) - 48)), .bool ((bt t274 0) == 102), .int .i64 t277, .int .i64 t278, .int .i64 t279, .int .i64 t280, .int .i64 t281, .int .i64 t282]] rfl (by (try simp only [List.map_toArray, List.map_cons, List.map_nil]); first | done | rfl | (simp only [List.length_drop, List.length_take]; rfl)) ?_; (with_reducible refine (zyY.calls (wrap64 ((wrap64 (bt t274 1)) - 48)) ((bt t274 0) == 102) t277 t278 t279 t280 t281 t282 true _ A18.out).mono ?_); rintro e w35 ⟨rfl, hb⟩; refine ⟨_, rfl, ?_⟩; have n0_ := zpS (zgM (g := gb273) (o := .cells #[.int .i64 0, .bool false, .int .i64 0, .int .i64 0, .int .i64 0, .int .i64 0, .int .i64 0, .int .i64 0] 39 (0, 0)) (by (with_reducible repeat (first | apply zuW | apply ztN | apply zqY)); refine znI ?_ NB273_285.out _; (with_reducible repeat (first | apply zuW | apply ztN | apply zqY)); refine znI ?_ NB273_285.out _; (with_reducible repeat (first | apply zuW | apply ztN | apply zqY)); refine znI ?_ NB273_285.out _; (with_reducible repeat (first | apply zuW | apply ztN | apply zqY)); refine znI ?_ NB273_285.out _; (with_reducible repeat (first | apply zuW | apply ztN | apply zqY)); refine znI ?_ NB273_285.out _; (with_reducible repeat (first | apply zuW | apply ztN | apply zqY)); refine znI ?_ NB273_285.out _; (with_reducible repeat (first | apply zuW | apply ztN | apply zqY)); refine znI ?_ NB273_285.out _; (with_reducible repeat (first | apply zuW | apply ztN | apply zqY)); refine znI ?_ NB273_285.out _; (with_reducible repeat (first | apply zuW | apply ztN | apply zqY)); exact BK273.out) hb); have n1_ := zpS (zgM (g := gb284) (o := .cells #[.int .i64 t277, .int .i64 t278, .int .i64 t279, .int .i64 t280, .int .i64 t281, .int .i64 t282] 34 (0, 0)) (by (with_reducible repeat (first | apply zuW | apply ztN | apply zqY)); refine znI ?_ NB284_285.out _; (with_reducible repeat (first | apply zuW | apply ztN | apply zqY)); refine znI ?_ NB284_285.out _; (with_reducible repeat (first | apply zuW | apply ztN | apply zqY)); refine znI ?_ NB284_285.out _; (with_reducible repeat (first | apply zuW | apply ztN | apply zqY)); refine znI ?_ NB284_285.out _; (with_reducible repeat (first | apply zuW | apply ztN | apply zqY)); refine znI ?_ NB284_285.out _; (with_reducible repeat (first | apply zuW | apply ztN | apply zqY)); refine znI ?_ NB284_285.out _; (with_reducible repeat (first | apply zuW | apply ztN | apply zqY)); refine znI ?_ NB284_285.out _; (with_reducible repeat (first | apply zuW | apply ztN | apply zqY)); refine znI ?_ NB284_285.out _; (with_reducible repeat (first | apply zuW | apply ztN | apply zqY)); exact BK284.out) hb); have n2_ := zpS (zgM (g := gb285) (o := .cells #[.int .i64 (wrap64 ((wrap64 (bt t274 1)) - 48)), .bool ((bt t274 0) == 102), .int .i64 t277, .int .i64 t278, .int .i64 t279, .int .i64 t280, .int .i64 t281, .int .i64 t282] 39 (0, 0)) (by (with_reducible repeat (first | apply zuW | apply ztN | apply zqY)); refine zlL (cs := #[.int .i64 (wrap64 ((wrap64 (bt t274 1)) - 48)), .bool ((bt t274 0) == 102), .int .i64 t277, .int .i64 t278, .int .i64 t279, .int .i64 t280, .int .i64 t281, .int .i64 0]) ?_ 7 _ rfl; (with_reducible repeat (first | apply zuW | apply ztN | apply zqY)); refine zlL (cs := #[.int .i64 (wrap64 ((wrap64 (bt t274 1)) - 48)), .bool ((bt t274 0) == 102), .int .i64 t277, .int .i64 t278, .int .i64 t279, .int .i64 t280, .int .i64 0, .int .i64 0]) ?_ 6 _ rfl; (with_reducible repeat (first | apply zuW | apply ztN | apply zqY)); refine zlL (cs := #[.int .i64 (wrap64 ((wrap64 (bt t274 1)) - 48)), .bool ((bt t274 0) == 102), .int .i64 t277, .int .i64 t278, .int .i64 t279, .int .i64 0, .int .i64 0, .int .i64 0]) ?_ 5 _ rfl; (with_reducible repeat (first | apply zuW | apply ztN | apply zqY)); refine zlL (cs := #[.int .i64 (wrap64 ((wrap64 (bt t274 1)) - 48)), .bool ((bt t274 0) == 102), .int .i64 t277, .int .i64 t278, .int .i64 0, .int .i64 0, .int .i64 0, .int .i64 0]) ?_ 4 _ rfl; (with_reducible repeat (first | apply zuW | apply ztN | apply zqY)); refine zlL (cs := #[.int .i64 (wrap64 ((wrap64 (bt t274 1)) - 48)), .bool ((bt t274 0) == 102), .int .i64 t277, .int .i64 0, .int .i64 0, .int .i64 0, .int .i64 0, .int .i64 0]) ?_ 3 _ rfl; (with_reducible repeat (first | apply zuW | apply ztN | apply zqY)); refine zlL (cs := #[.int .i64 (wrap64 ((wrap64 (bt t274 1)) - 48)), .bool ((bt t274 0) == 102), .int .i64 0, .int .i64 0, .int .i64 0, .int .i64 0, .int .i64 0, .int .i64 0]) ?_ 2 _ rfl; (with_reducible repeat (first | apply zuW | apply ztN | apply zqY)); refine zlL (cs := #[.int .i64 (wrap64 ((wrap64 (bt t274 1)) - 48)), .bool false, .int .i64 0, .int .i64 0, .int .i64 0, .int .i64 0, .int .i64 0, .int .i64 0]) ?_ 1 _ rfl; (with_reducible repeat (first | apply zuW | apply ztN | apply zqY)); refine zlL (cs := #[.int .i64 0, .bool false, .int .i64 0, .int .i64 0, .int .i64 0, .int .i64 0, .int .i64 0, .int .i64 0]) ?_ 0 _ rfl; (with_reducible repeat (first | apply zuW | apply ztN | apply zqY)); exact BK285.out) hb); have n3_ := (ns_ hb); clear BK273; clear BK284; clear BK285; clear HB; have BK273 := n0_; have BK284 := n1_; have BK285 := n2_; have HB := n3_; clear n0_ n1_ n2_ n3_; (try clear hb); (try clear hb2); have hcz36_0 : w35.cell? ⟨gb285, 0, none⟩ = some (.int .i64 (wrap64 ((wrap64 (bt t274 1)) - 48))) := (zzS BK285.out 0).trans rfl; have hcz36_1 : w35.cell? ⟨gb285, 1, none⟩ = some (.bool ((bt t274 0) == 102)) := (zzS BK285.out 1).trans rfl; have hcz36_2 : w35.cell? ⟨gb285, 2, none⟩ = some (.int .i64 t277) := (zzS BK285.out 2).trans rfl; have hcz36_3 : w35.cell? ⟨gb285, 3, none⟩ = some (.int .i64 t278) := (zzS BK285.out 3).trans rfl; have hcz36_4 : w35.cell? ⟨gb285, 4, none⟩ = some (.int .i64 t279) := (zzS BK285.out 4).trans rfl; have hcz36_5 : w35.cell? ⟨gb285, 5, none⟩ = some (.int .i64 t280) := (zzS BK285.out 5).trans rfl; have hcz36_6 : w35.cell? ⟨gb285, 6, none⟩ = some (.int .i64 t281) := (zzS BK285.out 6).trans rfl; have hcz36_7 : w35.cell? ⟨gb285, 7, none⟩ = some (.int .i64 t282) := (zzS BK285.out 7).trans rfl; have hfz36_0 := zjF BK285.out 0; have hfz36_1 := zjF BK285.out 1; have hfz36_2 := zjF BK285.out 2; have hfz36_3 := zjF BK285.out 3; have hfz36_4 := zjF BK285.out 4; have hfz36_5 := zjF BK285.out 5; have hfz36_6 := zjF BK285.out 6; have hfz36_7 := zjF BK285.out 7) | (go_at_call 36; (with_reducible refine (znH.calls kj3 (wrap64 ((wrap64 (bt t274 1)) - 48)) ((bt t274 0) == 102) t277 t278 t279 t280 t281 t282 t287 _ ?side1 A20.out).mono ?_); (case side1 => exact LaidV.below hG bb_); rintro e w37 ⟨rfl, hb⟩; have n0_ := zpS (zgM (g := gb273) (o := .cells #[.int .i64 0, .bool false, .int .i64 0, .int .i64 0, .int .i64 0, .int .i64 0, .int .i64 0, .int .i64 0] 39 (0, 0)) bk_ hb); have n1_ := zpS (zgM (g := gb284) (o := .cells #[.int .i64 t277, .int .i64 t278, .int .i64 t279, .int .i64 t280, .int .i64 t281, .int .i64 t282] 34 (0, 0)) bk_ hb); have n2_ := zpS (zgM (g := gb285) (o := .cells #[.int .i64 (wrap64 ((wrap64 (bt t274 1)) - 48)), .bool ((bt t274 0) == 102), .int .i64 t277, .int .i64 t278, .int .i64 t279, .int .i64 t280, .int .i64 t281, .int .i64 t282] 39 (0, 0)) bk_ hb); have n3_ := (ns_ hb); clear BK273; clear BK284; clear BK285; clear HB; have BK273 := n0_; have BK284 := n1_; have BK285 := n2_; have HB := n3_; clear n0_ n1_ n2_ n3_; (try clear hb); (try clear hb2); have hcz38_0 : w37.cell? ⟨gb285, 0, none⟩ = some (.int .i64 (wrap64 ((wrap64 (bt t274 1)) - 48))) := (zzS BK285.out 0).trans rfl; have hcz38_1 : w37.cell? ⟨gb285, 1, none⟩ = some (.bool ((bt t274 0) == 102)) := (zzS BK285.out 1).trans rfl; have hcz38_2 : w37.cell? ⟨gb285, 2, none⟩ = some (.int .i64 t277) := (zzS BK285.out 2).trans rfl; have hcz38_3 : w37.cell? ⟨gb285, 3, none⟩ = some (.int .i64 t278) := (zzS BK285.out 3).trans rfl; have hcz38_4 : w37.cell? ⟨gb285, 4, none⟩ = some (.int .i64 t279) := (zzS BK285.out 4).trans rfl; have hcz38_5 : w37.cell? ⟨gb285, 5, none⟩ = some (.int .i64 t280) := (zzS BK285.out 5).trans rfl; have hcz38_6 : w37.cell? ⟨gb285, 6, none⟩ = some (.int .i64 t281) := (zzS BK285.out 6).trans rfl; have hcz38_7 : w37.cell? ⟨gb285, 7, none⟩ = some (.int .i64 t282) := (zzS BK285.out 7).trans rfl; have hfz38_0 := zjF BK285.out 0; have hfz38_1 := zjF BK285.out 1; have hfz38_2 := zjF BK285.out 2; have hfz38_3 := zjF BK285.out 3; have hfz38_4 := zjF BK285.out 4; have hfz38_5 := zjF BK285.out 5; have hfz38_6 := zjF BK285.out 6; have hfz38_7 := zjF BK285.out 7; have hnb39 := NB273_284.out; have hnc39 := NB284_273.out; have hcz40_0 : w37.cell? ⟨gb273, 0, none⟩ = some (.int .i64 0) := (zzS BK273.out 0).trans rfl; have hcz40_1 : w37.cell? ⟨gb273, 1, none⟩ = some (.bool false) := (zzS BK273.out 1).trans rfl; have hcz40_2 : w37.cell? ⟨gb273, 2, none⟩ = some (.int .i64 0) := (zzS BK273.out 2).trans rfl; have hcz40_3 : w37.cell? ⟨gb273, 3, none⟩ = some (.int .i64 0) := (zzS BK273.out 3).trans rfl; have hcz40_4 : w37.cell? ⟨gb273, 4, none⟩ = some (.int .i64 0) := (zzS BK273.out 4).trans rfl; have hcz40_5 : w37.cell? ⟨gb273, 5, none⟩ = some (.int .i64 0) := (zzS BK273.out 5).trans rfl; have hcz40_6 : w37.cell? ⟨gb273, 6, none⟩ = some (.int .i64 0) := (zzS BK273.out 6).trans rfl; have hcz40_7 : w37.cell? ⟨gb273, 7, none⟩ = some (.int .i64 0) := (zzS BK273.out 7).trans rfl; have hfz40_0 := zjF BK273.out 0; have hfz40_1 := zjF BK273.out 1; have hfz40_2 := zjF BK273.out 2; have hfz40_3 := zjF BK273.out 3; have hfz40_4 := zjF BK273.out 4; have hfz40_5 := zjF BK273.out 5; have hfz40_6 := zjF BK273.out 6; have hfz40_7 := zjF BK273.out 7))
        refine bodyPost_ret (zzB rfl _ _ gb273 39 #[.int .i64 (wrap64 ((wrap64 (bt t274 1)) - 48)), .bool ((bt t274 0) == 102), .int .i64 t277, .int .i64 t278, .int .i64 t279, .int .i64 t280, .int .i64 t281, .int .i64 t282] (0, 0) _ rfl (by (with_reducible repeat (first | apply zuW | apply ztN | apply zqY)); refine zlL (cs := #[.int .i64 (wrap64 ((wrap64 (bt t274 1)) - 48)), .bool ((bt t274 0) == 102), .int .i64 t277, .int .i64 t278, .int .i64 t279, .int .i64 t280, .int .i64 t281, .int .i64 0]) ?_ 7 _ rfl; (with_reducible repeat (first | apply zuW | apply ztN | apply zqY)); refine zlL (cs := #[.int .i64 (wrap64 ((wrap64 (bt t274 1)) - 48)), .bool ((bt t274 0) == 102), .int .i64 t277, .int .i64 t278, .int .i64 t279, .int .i64 t280, .int .i64 0, .int .i64 0]) ?_ 6 _ rfl; (with_reducible repeat (first | apply zuW | apply ztN | apply zqY)); refine zlL (cs := #[.int .i64 (wrap64 ((wrap64 (bt t274 1)) - 48)), .bool ((bt t274 0) == 102), .int .i64 t277, .int .i64 t278, .int .i64 t279, .int .i64 0, .int .i64 0, .int .i64 0]) ?_ 5 _ rfl; (with_reducible repeat (first | apply zuW | apply ztN | apply zqY)); refine zlL (cs := #[.int .i64 (wrap64 ((wrap64 (bt t274 1)) - 48)), .bool ((bt t274 0) == 102), .int .i64 t277, .int .i64 t278, .int .i64 0, .int .i64 0, .int .i64 0, .int .i64 0]) ?_ 4 _ rfl; (with_reducible repeat (first | apply zuW | apply ztN | apply zqY)); refine zlL (cs := #[.int .i64 (wrap64 ((wrap64 (bt t274 1)) - 48)), .bool ((bt t274 0) == 102), .int .i64 t277, .int .i64 0, .int .i64 0, .int .i64 0, .int .i64 0, .int .i64 0]) ?_ 3 _ rfl; (with_reducible repeat (first | apply zuW | apply ztN | apply zqY)); refine zlL (cs := #[.int .i64 (wrap64 ((wrap64 (bt t274 1)) - 48)), .bool ((bt t274 0) == 102), .int .i64 0, .int .i64 0, .int .i64 0, .int .i64 0, .int .i64 0, .int .i64 0]) ?_ 2 _ rfl; (with_reducible repeat (first | apply zuW | apply ztN | apply zqY)); refine zlL (cs := #[.int .i64 (wrap64 ((wrap64 (bt t274 1)) - 48)), .bool false, .int .i64 0, .int .i64 0, .int .i64 0, .int .i64 0, .int .i64 0, .int .i64 0]) ?_ 1 _ rfl; (with_reducible repeat (first | apply zuW | apply ztN | apply zqY)); refine zlL (cs := #[.int .i64 0, .bool false, .int .i64 0, .int .i64 0, .int .i64 0, .int .i64 0, .int .i64 0, .int .i64 0]) ?_ 0 _ rfl; (with_reducible repeat (first | apply zuW | apply ztN | apply zqY)); exact BK273.out) Tryd.underlying39 rfl (by kernel_rfl)) rfl ?_
        exact ⟨by first | rfl | (simp [ziS, znJ] <;> rfl) | (simp [*, ziS, znJ] <;> rfl), bb_⟩
       ·rw [if_neg c21] at H
        have c21b0 : (t287.toList == a0.toList) = false := beq_eq_false_iff_ne.mpr c21
        have c21b1 : (t287.toList != a0.toList) = true := bne_iff_ne.mpr c21
        simp only [Option.some.injEq, Prod.mk.injEq] at H
        obtain ⟨rfl, rfl, rfl, rfl, rfl, rfl, rfl, rfl, rfl⟩ := H
        try go_wp2
        have n0_ := zpS (ztN BK273.out)
        have n1_ := zpS (ztN BK284.out)
        have n2_ := zpS (zvF HB.out)
        clear BK273
        clear BK284
        clear HB
        have BK273 := n0_
        have BK284 := n1_
        have HB := n2_
        clear n0_ n1_ n2_
        have p15 : 0 ≤ (1 : Int) := (by omega)
        have q15 : 1 < t274.size := (by have : (1 : Int) < (t274.size : Int) := dt_; omega)
        have hx15 : ∀ h : 1 < t274.size, ((t274[1]'h).toNat : Int) = bt t274 1 := zbX t274 1
        clear p15
        have qi15 : (1 < (t274.size : Int)) = True := eq_true dt_
        replace q15 := eq_true q15
        have p17 : 0 ≤ (0 : Int) := (by omega)
        have q17 : 0 < t274.size := (by have : (0 : Int) < (t274.size : Int) := dt_; omega)
        have hx17 : ∀ h : 0 < t274.size, ((t274[0]'h).toNat : Int) = bt t274 0 := zbX t274 0
        clear p17
        have qi17 : (0 < (t274.size : Int)) = True := eq_true dt_
        replace q17 := eq_true q17
        refine start_ (n := 14) (S := fun w' => w'.cell? ⟨gb284, 0, none⟩ = some (.int .i64 t277) ∧ w'.cell? ⟨gb284, 1, none⟩ = some (.int .i64 t278) ∧ w'.cell? ⟨gb284, 2, none⟩ = some (.int .i64 t279) ∧ w'.cell? ⟨gb284, 3, none⟩ = some (.int .i64 t280) ∧ w'.cell? ⟨gb284, 4, none⟩ = some (.int .i64 t281) ∧ w'.cell? ⟨gb284, 5, none⟩ = some (.int .i64 t282)) (ds := []) #[false, false, false, false, false, false, false, false, false, false, false, false, false, false] (by kernel_rfl) rfl rfl ⟨(zzS BK284.out 0).trans rfl, (zzS BK284.out 1).trans rfl, (zzS BK284.out 2).trans rfl, (zzS BK284.out 3).trans rfl, (zzS BK284.out 4).trans rfl, (zzS BK284.out 5).trans rfl⟩ (fun hHeld => ?_); refine zwI zaF.tab5 zaF.bits5 (fun HT_ HW_ => ?_)
        generalize wc.drew = w41 at BK273 BK284 HB hHeld ⊢
        refine pu_ 0 (some 29) (bl_ 14 1) ?_
        refine pu_ 4 (some 33) (bl_ 14 17) ?_
        refine pu_ 7 (some 36) (bl_ 14 145) ?_
        refine pu_ 9 (some 38) (bl_ 14 657) ?_
        refine tk6_ 1 (some 30) (bl_ 14 659) hHeld ?_
        refine pu_ 2 (some 31) (bl_ 14 663) ?_
        refine pu_ 3 (some 32) (bl_ 14 671) ?_
        refine tk6_ 5 (some 34) (bl_ 14 703) hHeld ?_
        refine pu_ 6 (some 35) (bl_ 14 767) ?_
        refine tk6_ 8 (some 37) (bl_ 14 1023) hHeld ?_
        refine tk6_ 10 (some 39) (bl_ 14 2047) hHeld ?_
        refine pu_ 11 (some 40) (bl_ 14 4095) ?_
        refine one_ (i := 12) (N := some 9) (bl_ 14 8191) rfl rfl (zeO HT_.out (by kernel_rfl)) (by decide) (fun K hK => ?_)
        refine box_step ?hg (N := 9) ?hd (cs := #[.int .i64 0, .bool false, .int .i64 0, .int .i64 0, .int .i64 0, .int .i64 0, .int .i64 0, .int .i64 0]) (t := 39) ?hr ?_; (case hd => rfl); (case hg => rfl); (case hr => first | (go_simp; done) | (go_simp; rfl))
        intro gb285 hg w42 hbox hb
        have n0_ := zpS (zgM (g := gb273) (o := .cells #[.int .i64 0, .bool false, .int .i64 0, .int .i64 0, .int .i64 0, .int .i64 0, .int .i64 0, .int .i64 0] 39 (0, 0)) bk_ hb)
        have n1_ := zpS (zgM (g := gb284) (o := .cells #[.int .i64 t277, .int .i64 t278, .int .i64 t279, .int .i64 t280, .int .i64 t281, .int .i64 t282] 34 (0, 0)) bk_ hb)
        have n2_ := (ns_ hb)
        have n3_ := zpS (hbox)
        have n4_ := (ng_ hg)
        have n5_ := (ng_ hg)
        have n6_ := zpS ((by rw [hg]; exact Nat.ne_of_lt (zmN (g := gb273) (o := .cells #[.int .i64 0, .bool false, .int .i64 0, .int .i64 0, .int .i64 0, .int .i64 0, .int .i64 0, .int .i64 0] 39 (0, 0)) bk_) : gb273 ≠ gb285))
        have n7_ := zpS ((by rw [hg]; exact Nat.ne_of_gt (zmN (g := gb273) (o := .cells #[.int .i64 0, .bool false, .int .i64 0, .int .i64 0, .int .i64 0, .int .i64 0, .int .i64 0, .int .i64 0] 39 (0, 0)) bk_) : gb285 ≠ gb273))
        have n8_ := zpS ((by rw [hg]; exact Nat.ne_of_lt (zmN (g := gb284) (o := .cells #[.int .i64 t277, .int .i64 t278, .int .i64 t279, .int .i64 t280, .int .i64 t281, .int .i64 t282] 34 (0, 0)) bk_) : gb284 ≠ gb285))
        have n9_ := zpS ((by rw [hg]; exact Nat.ne_of_gt (zmN (g := gb284) (o := .cells #[.int .i64 t277, .int .i64 t278, .int .i64 t279, .int .i64 t280, .int .i64 t281, .int .i64 t282] 34 (0, 0)) bk_) : gb285 ≠ gb284))
        clear BK273
        clear BK284
        clear HB
        have BK273 := n0_
        have BK284 := n1_
        have HB := n2_
        have BK285 := n3_
        have GW285 := n4_
        have GE285 := n5_
        have NB273_285 := n6_
        have NB285_273 := n7_
        have NB284_285 := n8_
        have NB285_284 := n9_
        clear n0_ n1_ n2_ n3_ n4_ n5_ n6_ n7_ n8_ n9_
        clear hb hbox hg
        refine hK.out _ _ ⟨(zzS BK284.out 0).trans rfl, (zzS BK284.out 1).trans rfl, (zzS BK284.out 2).trans rfl, (zzS BK284.out 3).trans rfl, (zzS BK284.out 4).trans rfl, (zzS BK284.out 5).trans rfl⟩ (fun hHeld => ?_)
        clear hK K
        refine zaN (a' := ?_) ?_ ?_
        rotate_left
        ·show Act.put _ (some 9) _ = _
         simp only [Act.put, List.setIfInBounds_toArray, List.set_cons_zero, List.set_cons_succ, zcN, ziJ]
         rfl
        refine one_ (i := 13) (N := none) (bl_ 14 16383) rfl rfl (zeO HT_.out (by kernel_rfl)) (by decide) (fun K hK => ?_)
        have hs43 : w42.cell? ⟨gb285, 0, none⟩ = some (.int .i64 0) := (zzS BK285.out 0).trans rfl
        have hfs43 := zjF BK285.out 0
        have hns43_0 := NB273_285.out
        have hns43_1 := NB284_285.out
        have hms43_0 := NB285_273.out
        have hms43_1 := NB285_284.out
        have hs44 : w42.cell? ⟨gb285, 1, none⟩ = some (.bool false) := (zzS BK285.out 1).trans rfl
        have hfs44 := zjF BK285.out 1
        have hns44_0 := NB273_285.out
        have hns44_1 := NB284_285.out
        have hms44_0 := NB285_273.out
        have hms44_1 := NB285_284.out
        have hs45 : w42.cell? ⟨gb285, 2, none⟩ = some (.int .i64 0) := (zzS BK285.out 2).trans rfl
        have hfs45 := zjF BK285.out 2
        have hns45_0 := NB273_285.out
        have hns45_1 := NB284_285.out
        have hms45_0 := NB285_273.out
        have hms45_1 := NB285_284.out
        have hs46 : w42.cell? ⟨gb285, 3, none⟩ = some (.int .i64 0) := (zzS BK285.out 3).trans rfl
        have hfs46 := zjF BK285.out 3
        have hns46_0 := NB273_285.out
        have hns46_1 := NB284_285.out
        have hms46_0 := NB285_273.out
        have hms46_1 := NB285_284.out
        have hs47 : w42.cell? ⟨gb285, 4, none⟩ = some (.int .i64 0) := (zzS BK285.out 4).trans rfl
        have hfs47 := zjF BK285.out 4
        have hns47_0 := NB273_285.out
        have hns47_1 := NB284_285.out
        have hms47_0 := NB285_273.out
        have hms47_1 := NB285_284.out
        have hs48 : w42.cell? ⟨gb285, 5, none⟩ = some (.int .i64 0) := (zzS BK285.out 5).trans rfl
        have hfs48 := zjF BK285.out 5
        have hns48_0 := NB273_285.out
        have hns48_1 := NB284_285.out
        have hms48_0 := NB285_273.out
        have hms48_1 := NB285_284.out
        have hs49 : w42.cell? ⟨gb285, 6, none⟩ = some (.int .i64 0) := (zzS BK285.out 6).trans rfl
        have hfs49 := zjF BK285.out 6
        have hns49_0 := NB273_285.out
        have hns49_1 := NB284_285.out
        have hms49_0 := NB285_273.out
        have hms49_1 := NB285_284.out
        have hs50 : w42.cell? ⟨gb285, 7, none⟩ = some (.int .i64 0) := (zzS BK285.out 7).trans rfl
        have hfs50 := zjF BK285.out 7
        have hns50_0 := NB273_285.out
        have hns50_1 := NB284_285.out
        have hms50_0 := NB285_273.out
        have hms50_1 := NB285_284.out
        refine skip_ (w1 := ?_) (by rfl) rfl ?_ ?_
        rotate_left
        ·go_simp
         rfl
        refine hK.out _ _ ⟨((zgQ (p := ⟨gb285, _, none⟩) NB284_285.out _).trans (((zgQ (p := ⟨gb285, _, none⟩) NB284_285.out _).trans (((zgQ (p := ⟨gb285, _, none⟩) NB284_285.out _).trans (((zgQ (p := ⟨gb285, _, none⟩) NB284_285.out _).trans (((zgQ (p := ⟨gb285, _, none⟩) NB284_285.out _).trans (((zgQ (p := ⟨gb285, _, none⟩) NB284_285.out _).trans (((zgQ (p := ⟨gb285, _, none⟩) NB284_285.out _).trans (((zgQ (p := ⟨gb285, _, none⟩) NB284_285.out _).trans (hHeld.1)))))))))))))))), ((zgQ (p := ⟨gb285, _, none⟩) NB284_285.out _).trans (((zgQ (p := ⟨gb285, _, none⟩) NB284_285.out _).trans (((zgQ (p := ⟨gb285, _, none⟩) NB284_285.out _).trans (((zgQ (p := ⟨gb285, _, none⟩) NB284_285.out _).trans (((zgQ (p := ⟨gb285, _, none⟩) NB284_285.out _).trans (((zgQ (p := ⟨gb285, _, none⟩) NB284_285.out _).trans (((zgQ (p := ⟨gb285, _, none⟩) NB284_285.out _).trans (((zgQ (p := ⟨gb285, _, none⟩) NB284_285.out _).trans (hHeld.2.1)))))))))))))))), ((zgQ (p := ⟨gb285, _, none⟩) NB284_285.out _).trans (((zgQ (p := ⟨gb285, _, none⟩) NB284_285.out _).trans (((zgQ (p := ⟨gb285, _, none⟩) NB284_285.out _).trans (((zgQ (p := ⟨gb285, _, none⟩) NB284_285.out _).trans (((zgQ (p := ⟨gb285, _, none⟩) NB284_285.out _).trans (((zgQ (p := ⟨gb285, _, none⟩) NB284_285.out _).trans (((zgQ (p := ⟨gb285, _, none⟩) NB284_285.out _).trans (((zgQ (p := ⟨gb285, _, none⟩) NB284_285.out _).trans (hHeld.2.2.1)))))))))))))))), ((zgQ (p := ⟨gb285, _, none⟩) NB284_285.out _).trans (((zgQ (p := ⟨gb285, _, none⟩) NB284_285.out _).trans (((zgQ (p := ⟨gb285, _, none⟩) NB284_285.out _).trans (((zgQ (p := ⟨gb285, _, none⟩) NB284_285.out _).trans (((zgQ (p := ⟨gb285, _, none⟩) NB284_285.out _).trans (((zgQ (p := ⟨gb285, _, none⟩) NB284_285.out _).trans (((zgQ (p := ⟨gb285, _, none⟩) NB284_285.out _).trans (((zgQ (p := ⟨gb285, _, none⟩) NB284_285.out _).trans (hHeld.2.2.2.1)))))))))))))))), ((zgQ (p := ⟨gb285, _, none⟩) NB284_285.out _).trans (((zgQ (p := ⟨gb285, _, none⟩) NB284_285.out _).trans (((zgQ (p := ⟨gb285, _, none⟩) NB284_285.out _).trans (((zgQ (p := ⟨gb285, _, none⟩) NB284_285.out _).trans (((zgQ (p := ⟨gb285, _, none⟩) NB284_285.out _).trans (((zgQ (p := ⟨gb285, _, none⟩) NB284_285.out _).trans (((zgQ (p := ⟨gb285, _, none⟩) NB284_285.out _).trans (((zgQ (p := ⟨gb285, _, none⟩) NB284_285.out _).trans (hHeld.2.2.2.2.1)))))))))))))))), ((zgQ (p := ⟨gb285, _, none⟩) NB284_285.out _).trans (((zgQ (p := ⟨gb285, _, none⟩) NB284_285.out _).trans (((zgQ (p := ⟨gb285, _, none⟩) NB284_285.out _).trans (((zgQ (p := ⟨gb285, _, none⟩) NB284_285.out _).trans (((zgQ (p := ⟨gb285, _, none⟩) NB284_285.out _).trans (((zgQ (p := ⟨gb285, _, none⟩) NB284_285.out _).trans (((zgQ (p := ⟨gb285, _, none⟩) NB284_285.out _).trans (((zgQ (p := ⟨gb285, _, none⟩) NB284_285.out _).trans (hHeld.2.2.2.2.2))))))))))))))))⟩ (fun hHeld => ?_)
        clear hK K
        refine done_ (done_of HT_.out (by kernel_rfl)) ?_
        have hnb51 := NB285_273.out
        have hnc51 := NB273_285.out
        have hnb52 := NB285_284.out
        have hnc52 := NB284_285.out
        have hcz53_0 : w42.cell? ⟨gb285, 0, none⟩ = some (.int .i64 0) := (zzS BK285.out 0).trans rfl
        have hcz53_1 : w42.cell? ⟨gb285, 1, none⟩ = some (.bool false) := (zzS BK285.out 1).trans rfl
        have hcz53_2 : w42.cell? ⟨gb285, 2, none⟩ = some (.int .i64 0) := (zzS BK285.out 2).trans rfl
        have hcz53_3 : w42.cell? ⟨gb285, 3, none⟩ = some (.int .i64 0) := (zzS BK285.out 3).trans rfl
        have hcz53_4 : w42.cell? ⟨gb285, 4, none⟩ = some (.int .i64 0) := (zzS BK285.out 4).trans rfl
        have hcz53_5 : w42.cell? ⟨gb285, 5, none⟩ = some (.int .i64 0) := (zzS BK285.out 5).trans rfl
        have hcz53_6 : w42.cell? ⟨gb285, 6, none⟩ = some (.int .i64 0) := (zzS BK285.out 6).trans rfl
        have hcz53_7 : w42.cell? ⟨gb285, 7, none⟩ = some (.int .i64 0) := (zzS BK285.out 7).trans rfl
        have hfz53_0 := zjF BK285.out 0
        have hfz53_1 := zjF BK285.out 1
        have hfz53_2 := zjF BK285.out 2
        have hfz53_3 := zjF BK285.out 3
        have hfz53_4 := zjF BK285.out 4
        have hfz53_5 := zjF BK285.out 5
        have hfz53_6 := zjF BK285.out 6
        have hfz53_7 := zjF BK285.out 7
        try go_wp2_with (first | ((with_reducible refine zgK (f := 35) rfl ?_); refine zqQ (some 42) rfl rfl Tryd.func35 (by kernel_rfl) rfl #[.agg #[.int .i64 (wrap64 ((wrap64 (bt t274 1)) - 48)), .bool ((bt t274 0) == 102), .int .i64 t277, .int .i64 t278, .int .i64 t279, .int .i64 t280, .int .i64 t281, .int .i64 t282]] rfl (by (try simp only [List.map_toArray, List.map_cons, List.map_nil]); first | done | rfl | (simp only [List.length_drop, List.length_take]; rfl)) ?_; (with_reducible refine (zyY.calls (wrap64 ((wrap64 (bt t274 1)) - 48)) ((bt t274 0) == 102) t277 t278 t279 t280 t281 t282 true _ A18.out).mono ?_); rintro e w54 ⟨rfl, hb⟩; refine ⟨_, rfl, ?_⟩; have n0_ := zpS (zgM (g := gb273) (o := .cells #[.int .i64 0, .bool false, .int .i64 0, .int .i64 0, .int .i64 0, .int .i64 0, .int .i64 0, .int .i64 0] 39 (0, 0)) (by (with_reducible repeat (first | apply zuW | apply ztN | apply zqY)); refine znI ?_ NB273_285.out _; (with_reducible repeat (first | apply zuW | apply ztN | apply zqY)); refine znI ?_ NB273_285.out _; (with_reducible repeat (first | apply zuW | apply ztN | apply zqY)); refine znI ?_ NB273_285.out _; (with_reducible repeat (first | apply zuW | apply ztN | apply zqY)); refine znI ?_ NB273_285.out _; (with_reducible repeat (first | apply zuW | apply ztN | apply zqY)); refine znI ?_ NB273_285.out _; (with_reducible repeat (first | apply zuW | apply ztN | apply zqY)); refine znI ?_ NB273_285.out _; (with_reducible repeat (first | apply zuW | apply ztN | apply zqY)); refine znI ?_ NB273_285.out _; (with_reducible repeat (first | apply zuW | apply ztN | apply zqY)); refine znI ?_ NB273_285.out _; (with_reducible repeat (first | apply zuW | apply ztN | apply zqY)); exact BK273.out) hb); have n1_ := zpS (zgM (g := gb284) (o := .cells #[.int .i64 t277, .int .i64 t278, .int .i64 t279, .int .i64 t280, .int .i64 t281, .int .i64 t282] 34 (0, 0)) (by (with_reducible repeat (first | apply zuW | apply ztN | apply zqY)); refine znI ?_ NB284_285.out _; (with_reducible repeat (first | apply zuW | apply ztN | apply zqY)); refine znI ?_ NB284_285.out _; (with_reducible repeat (first | apply zuW | apply ztN | apply zqY)); refine znI ?_ NB284_285.out _; (with_reducible repeat (first | apply zuW | apply ztN | apply zqY)); refine znI ?_ NB284_285.out _; (with_reducible repeat (first | apply zuW | apply ztN | apply zqY)); refine znI ?_ NB284_285.out _; (with_reducible repeat (first | apply zuW | apply ztN | apply zqY)); refine znI ?_ NB284_285.out _; (with_reducible repeat (first | apply zuW | apply ztN | apply zqY)); refine znI ?_ NB284_285.out _; (with_reducible repeat (first | apply zuW | apply ztN | apply zqY)); refine znI ?_ NB284_285.out _; (with_reducible repeat (first | apply zuW | apply ztN | apply zqY)); exact BK284.out) hb); have n2_ := zpS (zgM (g := gb285) (o := .cells #[.int .i64 (wrap64 ((wrap64 (bt t274 1)) - 48)), .bool ((bt t274 0) == 102), .int .i64 t277, .int .i64 t278, .int .i64 t279, .int .i64 t280, .int .i64 t281, .int .i64 t282] 39 (0, 0)) (by (with_reducible repeat (first | apply zuW | apply ztN | apply zqY)); refine zlL (cs := #[.int .i64 (wrap64 ((wrap64 (bt t274 1)) - 48)), .bool ((bt t274 0) == 102), .int .i64 t277, .int .i64 t278, .int .i64 t279, .int .i64 t280, .int .i64 t281, .int .i64 0]) ?_ 7 _ rfl; (with_reducible repeat (first | apply zuW | apply ztN | apply zqY)); refine zlL (cs := #[.int .i64 (wrap64 ((wrap64 (bt t274 1)) - 48)), .bool ((bt t274 0) == 102), .int .i64 t277, .int .i64 t278, .int .i64 t279, .int .i64 t280, .int .i64 0, .int .i64 0]) ?_ 6 _ rfl; (with_reducible repeat (first | apply zuW | apply ztN | apply zqY)); refine zlL (cs := #[.int .i64 (wrap64 ((wrap64 (bt t274 1)) - 48)), .bool ((bt t274 0) == 102), .int .i64 t277, .int .i64 t278, .int .i64 t279, .int .i64 0, .int .i64 0, .int .i64 0]) ?_ 5 _ rfl; (with_reducible repeat (first | apply zuW | apply ztN | apply zqY)); refine zlL (cs := #[.int .i64 (wrap64 ((wrap64 (bt t274 1)) - 48)), .bool ((bt t274 0) == 102), .int .i64 t277, .int .i64 t278, .int .i64 0, .int .i64 0, .int .i64 0, .int .i64 0]) ?_ 4 _ rfl; (with_reducible repeat (first | apply zuW | apply ztN | apply zqY)); refine zlL (cs := #[.int .i64 (wrap64 ((wrap64 (bt t274 1)) - 48)), .bool ((bt t274 0) == 102), .int .i64 t277, .int .i64 0, .int .i64 0, .int .i64 0, .int .i64 0, .int .i64 0]) ?_ 3 _ rfl; (with_reducible repeat (first | apply zuW | apply ztN | apply zqY)); refine zlL (cs := #[.int .i64 (wrap64 ((wrap64 (bt t274 1)) - 48)), .bool ((bt t274 0) == 102), .int .i64 0, .int .i64 0, .int .i64 0, .int .i64 0, .int .i64 0, .int .i64 0]) ?_ 2 _ rfl; (with_reducible repeat (first | apply zuW | apply ztN | apply zqY)); refine zlL (cs := #[.int .i64 (wrap64 ((wrap64 (bt t274 1)) - 48)), .bool false, .int .i64 0, .int .i64 0, .int .i64 0, .int .i64 0, .int .i64 0, .int .i64 0]) ?_ 1 _ rfl; (with_reducible repeat (first | apply zuW | apply ztN | apply zqY)); refine zlL (cs := #[.int .i64 0, .bool false, .int .i64 0, .int .i64 0, .int .i64 0, .int .i64 0, .int .i64 0, .int .i64 0]) ?_ 0 _ rfl; (with_reducible repeat (first | apply zuW | apply ztN | apply zqY)); exact BK285.out) hb); have n3_ := (ns_ hb); clear BK273; clear BK284; clear BK285; clear HB; have BK273 := n0_; have BK284 := n1_; have BK285 := n2_; have HB := n3_; clear n0_ n1_ n2_ n3_; (try clear hb); (try clear hb2); have hcz55_0 : w54.cell? ⟨gb285, 0, none⟩ = some (.int .i64 (wrap64 ((wrap64 (bt t274 1)) - 48))) := (zzS BK285.out 0).trans rfl; have hcz55_1 : w54.cell? ⟨gb285, 1, none⟩ = some (.bool ((bt t274 0) == 102)) := (zzS BK285.out 1).trans rfl; have hcz55_2 : w54.cell? ⟨gb285, 2, none⟩ = some (.int .i64 t277) := (zzS BK285.out 2).trans rfl; have hcz55_3 : w54.cell? ⟨gb285, 3, none⟩ = some (.int .i64 t278) := (zzS BK285.out 3).trans rfl; have hcz55_4 : w54.cell? ⟨gb285, 4, none⟩ = some (.int .i64 t279) := (zzS BK285.out 4).trans rfl; have hcz55_5 : w54.cell? ⟨gb285, 5, none⟩ = some (.int .i64 t280) := (zzS BK285.out 5).trans rfl; have hcz55_6 : w54.cell? ⟨gb285, 6, none⟩ = some (.int .i64 t281) := (zzS BK285.out 6).trans rfl; have hcz55_7 : w54.cell? ⟨gb285, 7, none⟩ = some (.int .i64 t282) := (zzS BK285.out 7).trans rfl; have hfz55_0 := zjF BK285.out 0; have hfz55_1 := zjF BK285.out 1; have hfz55_2 := zjF BK285.out 2; have hfz55_3 := zjF BK285.out 3; have hfz55_4 := zjF BK285.out 4; have hfz55_5 := zjF BK285.out 5; have hfz55_6 := zjF BK285.out 6; have hfz55_7 := zjF BK285.out 7) | (go_at_call 36; (with_reducible refine (znH.calls kj3 (wrap64 ((wrap64 (bt t274 1)) - 48)) ((bt t274 0) == 102) t277 t278 t279 t280 t281 t282 t287 _ ?side1 A20.out).mono ?_); (case side1 => exact LaidV.below hG bb_); rintro e w56 ⟨rfl, hb⟩; have n0_ := zpS (zgM (g := gb273) (o := .cells #[.int .i64 0, .bool false, .int .i64 0, .int .i64 0, .int .i64 0, .int .i64 0, .int .i64 0, .int .i64 0] 39 (0, 0)) bk_ hb); have n1_ := zpS (zgM (g := gb284) (o := .cells #[.int .i64 t277, .int .i64 t278, .int .i64 t279, .int .i64 t280, .int .i64 t281, .int .i64 t282] 34 (0, 0)) bk_ hb); have n2_ := zpS (zgM (g := gb285) (o := .cells #[.int .i64 (wrap64 ((wrap64 (bt t274 1)) - 48)), .bool ((bt t274 0) == 102), .int .i64 t277, .int .i64 t278, .int .i64 t279, .int .i64 t280, .int .i64 t281, .int .i64 t282] 39 (0, 0)) bk_ hb); have n3_ := (ns_ hb); clear BK273; clear BK284; clear BK285; clear HB; have BK273 := n0_; have BK284 := n1_; have BK285 := n2_; have HB := n3_; clear n0_ n1_ n2_ n3_; (try clear hb); (try clear hb2); have hnb57 := NB273_284.out; have hnc57 := NB284_273.out; have hcz58_0 : w56.cell? ⟨gb273, 0, none⟩ = some (.int .i64 0) := (zzS BK273.out 0).trans rfl; have hcz58_1 : w56.cell? ⟨gb273, 1, none⟩ = some (.bool false) := (zzS BK273.out 1).trans rfl; have hcz58_2 : w56.cell? ⟨gb273, 2, none⟩ = some (.int .i64 0) := (zzS BK273.out 2).trans rfl; have hcz58_3 : w56.cell? ⟨gb273, 3, none⟩ = some (.int .i64 0) := (zzS BK273.out 3).trans rfl; have hcz58_4 : w56.cell? ⟨gb273, 4, none⟩ = some (.int .i64 0) := (zzS BK273.out 4).trans rfl; have hcz58_5 : w56.cell? ⟨gb273, 5, none⟩ = some (.int .i64 0) := (zzS BK273.out 5).trans rfl; have hcz58_6 : w56.cell? ⟨gb273, 6, none⟩ = some (.int .i64 0) := (zzS BK273.out 6).trans rfl; have hcz58_7 : w56.cell? ⟨gb273, 7, none⟩ = some (.int .i64 0) := (zzS BK273.out 7).trans rfl; have hfz58_0 := zjF BK273.out 0; have hfz58_1 := zjF BK273.out 1; have hfz58_2 := zjF BK273.out 2; have hfz58_3 := zjF BK273.out 3; have hfz58_4 := zjF BK273.out 4; have hfz58_5 := zjF BK273.out 5; have hfz58_6 := zjF BK273.out 6; have hfz58_7 := zjF BK273.out 7))
        refine bodyPost_ret (zzB rfl _ _ gb273 39 #[.int .i64 0, .bool false, .int .i64 0, .int .i64 0, .int .i64 0, .int .i64 0, .int .i64 0, .int .i64 0] (0, 0) _ rfl (by (with_reducible repeat (first | apply zuW | apply ztN | apply zqY)); refine zlL (cs := #[.int .i64 0, .bool false, .int .i64 0, .int .i64 0, .int .i64 0, .int .i64 0, .int .i64 0, .int .i64 0]) ?_ 7 _ rfl; (with_reducible repeat (first | apply zuW | apply ztN | apply zqY)); refine zlL (cs := #[.int .i64 0, .bool false, .int .i64 0, .int .i64 0, .int .i64 0, .int .i64 0, .int .i64 0, .int .i64 0]) ?_ 6 _ rfl; (with_reducible repeat (first | apply zuW | apply ztN | apply zqY)); refine zlL (cs := #[.int .i64 0, .bool false, .int .i64 0, .int .i64 0, .int .i64 0, .int .i64 0, .int .i64 0, .int .i64 0]) ?_ 5 _ rfl; (with_reducible repeat (first | apply zuW | apply ztN | apply zqY)); refine zlL (cs := #[.int .i64 0, .bool false, .int .i64 0, .int .i64 0, .int .i64 0, .int .i64 0, .int .i64 0, .int .i64 0]) ?_ 4 _ rfl; (with_reducible repeat (first | apply zuW | apply ztN | apply zqY)); refine zlL (cs := #[.int .i64 0, .bool false, .int .i64 0, .int .i64 0, .int .i64 0, .int .i64 0, .int .i64 0, .int .i64 0]) ?_ 3 _ rfl; (with_reducible repeat (first | apply zuW | apply ztN | apply zqY)); refine zlL (cs := #[.int .i64 0, .bool false, .int .i64 0, .int .i64 0, .int .i64 0, .int .i64 0, .int .i64 0, .int .i64 0]) ?_ 2 _ rfl; (with_reducible repeat (first | apply zuW | apply ztN | apply zqY)); refine zlL (cs := #[.int .i64 0, .bool false, .int .i64 0, .int .i64 0, .int .i64 0, .int .i64 0, .int .i64 0, .int .i64 0]) ?_ 1 _ rfl; (with_reducible repeat (first | apply zuW | apply ztN | apply zqY)); refine zlL (cs := #[.int .i64 0, .bool false, .int .i64 0, .int .i64 0, .int .i64 0, .int .i64 0, .int .i64 0, .int .i64 0]) ?_ 0 _ rfl; (with_reducible repeat (first | apply zuW | apply ztN | apply zqY)); exact BK273.out) Tryd.underlying39 rfl (by kernel_rfl)) rfl ?_
        exact ⟨by first | rfl | (simp [ziS, znJ] <;> rfl) | (simp [*, ziS, znJ] <;> rfl), bb_⟩
      ·replace c19 := Bool.eq_false_iff.mpr c19
       subst c19
       have H1 : (some (0, false, 0, 0, 0, 0, 0, 0, false)) = some (r1, r2, r3, r4, r5, r6, r7, r8, r9) := by rw [if_neg (show ¬ (false = true) by decide)] at H; exact H
       clear H
       have H := H1
       clear H1
       simp only [Option.some.injEq, Prod.mk.injEq] at H
       obtain ⟨rfl, rfl, rfl, rfl, rfl, rfl, rfl, rfl, rfl⟩ := H
       try go_wp2
       have n0_ := zpS (ztN BK273.out)
       have n1_ := zpS (ztN BK284.out)
       have n2_ := zpS (zvF HB.out)
       clear BK273
       clear BK284
       clear HB
       have BK273 := n0_
       have BK284 := n1_
       have HB := n2_
       clear n0_ n1_ n2_
       have p15 : 0 ≤ (1 : Int) := (by omega)
       have q15 : 1 < t274.size := (by have : (1 : Int) < (t274.size : Int) := dt_; omega)
       have hx15 : ∀ h : 1 < t274.size, ((t274[1]'h).toNat : Int) = bt t274 1 := zbX t274 1
       clear p15
       have qi15 : (1 < (t274.size : Int)) = True := eq_true dt_
       replace q15 := eq_true q15
       have p17 : 0 ≤ (0 : Int) := (by omega)
       have q17 : 0 < t274.size := (by have : (0 : Int) < (t274.size : Int) := dt_; omega)
       have hx17 : ∀ h : 0 < t274.size, ((t274[0]'h).toNat : Int) = bt t274 0 := zbX t274 0
       clear p17
       have qi17 : (0 < (t274.size : Int)) = True := eq_true dt_
       replace q17 := eq_true q17
       refine start_ (n := 14) (S := fun w' => w'.cell? ⟨gb284, 0, none⟩ = some (.int .i64 t277) ∧ w'.cell? ⟨gb284, 1, none⟩ = some (.int .i64 t278) ∧ w'.cell? ⟨gb284, 2, none⟩ = some (.int .i64 t279) ∧ w'.cell? ⟨gb284, 3, none⟩ = some (.int .i64 t280) ∧ w'.cell? ⟨gb284, 4, none⟩ = some (.int .i64 t281) ∧ w'.cell? ⟨gb284, 5, none⟩ = some (.int .i64 t282)) (ds := []) #[false, false, false, false, false, false, false, false, false, false, false, false, false, false] (by kernel_rfl) rfl rfl ⟨(zzS BK284.out 0).trans rfl, (zzS BK284.out 1).trans rfl, (zzS BK284.out 2).trans rfl, (zzS BK284.out 3).trans rfl, (zzS BK284.out 4).trans rfl, (zzS BK284.out 5).trans rfl⟩ (fun hHeld => ?_); refine zwI zaF.tab5 zaF.bits5 (fun HT_ HW_ => ?_)
       generalize wc.drew = w59 at BK273 BK284 HB hHeld ⊢
       refine pu_ 0 (some 29) (bl_ 14 1) ?_
       refine pu_ 4 (some 33) (bl_ 14 17) ?_
       refine pu_ 7 (some 36) (bl_ 14 145) ?_
       refine pu_ 9 (some 38) (bl_ 14 657) ?_
       refine tk6_ 1 (some 30) (bl_ 14 659) hHeld ?_
       refine pu_ 2 (some 31) (bl_ 14 663) ?_
       refine pu_ 3 (some 32) (bl_ 14 671) ?_
       refine tk6_ 5 (some 34) (bl_ 14 703) hHeld ?_
       refine pu_ 6 (some 35) (bl_ 14 767) ?_
       refine tk6_ 8 (some 37) (bl_ 14 1023) hHeld ?_
       refine tk6_ 10 (some 39) (bl_ 14 2047) hHeld ?_
       refine pu_ 11 (some 40) (bl_ 14 4095) ?_
       refine one_ (i := 12) (N := some 9) (bl_ 14 8191) rfl rfl (zeO HT_.out (by kernel_rfl)) (by decide) (fun K hK => ?_)
       refine box_step ?hg (N := 9) ?hd (cs := #[.int .i64 0, .bool false, .int .i64 0, .int .i64 0, .int .i64 0, .int .i64 0, .int .i64 0, .int .i64 0]) (t := 39) ?hr ?_; (case hd => rfl); (case hg => rfl); (case hr => first | (go_simp; done) | (go_simp; rfl))
       intro gb285 hg w60 hbox hb
       have n0_ := zpS (zgM (g := gb273) (o := .cells #[.int .i64 0, .bool false, .int .i64 0, .int .i64 0, .int .i64 0, .int .i64 0, .int .i64 0, .int .i64 0] 39 (0, 0)) bk_ hb)
       have n1_ := zpS (zgM (g := gb284) (o := .cells #[.int .i64 t277, .int .i64 t278, .int .i64 t279, .int .i64 t280, .int .i64 t281, .int .i64 t282] 34 (0, 0)) bk_ hb)
       have n2_ := (ns_ hb)
       have n3_ := zpS (hbox)
       have n4_ := (ng_ hg)
       have n5_ := (ng_ hg)
       have n6_ := zpS ((by rw [hg]; exact Nat.ne_of_lt (zmN (g := gb273) (o := .cells #[.int .i64 0, .bool false, .int .i64 0, .int .i64 0, .int .i64 0, .int .i64 0, .int .i64 0, .int .i64 0] 39 (0, 0)) bk_) : gb273 ≠ gb285))
       have n7_ := zpS ((by rw [hg]; exact Nat.ne_of_gt (zmN (g := gb273) (o := .cells #[.int .i64 0, .bool false, .int .i64 0, .int .i64 0, .int .i64 0, .int .i64 0, .int .i64 0, .int .i64 0] 39 (0, 0)) bk_) : gb285 ≠ gb273))
       have n8_ := zpS ((by rw [hg]; exact Nat.ne_of_lt (zmN (g := gb284) (o := .cells #[.int .i64 t277, .int .i64 t278, .int .i64 t279, .int .i64 t280, .int .i64 t281, .int .i64 t282] 34 (0, 0)) bk_) : gb284 ≠ gb285))
       have n9_ := zpS ((by rw [hg]; exact Nat.ne_of_gt (zmN (g := gb284) (o := .cells #[.int .i64 t277, .int .i64 t278, .int .i64 t279, .int .i64 t280, .int .i64 t281, .int .i64 t282] 34 (0, 0)) bk_) : gb285 ≠ gb284))
       clear BK273
       clear BK284
       clear HB
       have BK273 := n0_
       have BK284 := n1_
       have HB := n2_
       have BK285 := n3_
       have GW285 := n4_
       have GE285 := n5_
       have NB273_285 := n6_
       have NB285_273 := n7_
       have NB284_285 := n8_
       have NB285_284 := n9_
       clear n0_ n1_ n2_ n3_ n4_ n5_ n6_ n7_ n8_ n9_
       clear hb hbox hg
       refine hK.out _ _ ⟨(zzS BK284.out 0).trans rfl, (zzS BK284.out 1).trans rfl, (zzS BK284.out 2).trans rfl, (zzS BK284.out 3).trans rfl, (zzS BK284.out 4).trans rfl, (zzS BK284.out 5).trans rfl⟩ (fun hHeld => ?_)
       clear hK K
       refine zaN (a' := ?_) ?_ ?_
       rotate_left
       ·show Act.put _ (some 9) _ = _
        simp only [Act.put, List.setIfInBounds_toArray, List.set_cons_zero, List.set_cons_succ, zcN, ziJ]
        rfl
       refine one_ (i := 13) (N := none) (bl_ 14 16383) rfl rfl (zeO HT_.out (by kernel_rfl)) (by decide) (fun K hK => ?_)
       have hs61 : w60.cell? ⟨gb285, 0, none⟩ = some (.int .i64 0) := (zzS BK285.out 0).trans rfl
       have hfs61 := zjF BK285.out 0
       have hns61_0 := NB273_285.out
       have hns61_1 := NB284_285.out
       have hms61_0 := NB285_273.out
       have hms61_1 := NB285_284.out
       have hs62 : w60.cell? ⟨gb285, 1, none⟩ = some (.bool false) := (zzS BK285.out 1).trans rfl
       have hfs62 := zjF BK285.out 1
       have hns62_0 := NB273_285.out
       have hns62_1 := NB284_285.out
       have hms62_0 := NB285_273.out
       have hms62_1 := NB285_284.out
       have hs63 : w60.cell? ⟨gb285, 2, none⟩ = some (.int .i64 0) := (zzS BK285.out 2).trans rfl
       have hfs63 := zjF BK285.out 2
       have hns63_0 := NB273_285.out
       have hns63_1 := NB284_285.out
       have hms63_0 := NB285_273.out
       have hms63_1 := NB285_284.out
       have hs64 : w60.cell? ⟨gb285, 3, none⟩ = some (.int .i64 0) := (zzS BK285.out 3).trans rfl
       have hfs64 := zjF BK285.out 3
       have hns64_0 := NB273_285.out
       have hns64_1 := NB284_285.out
       have hms64_0 := NB285_273.out
       have hms64_1 := NB285_284.out
       have hs65 : w60.cell? ⟨gb285, 4, none⟩ = some (.int .i64 0) := (zzS BK285.out 4).trans rfl
       have hfs65 := zjF BK285.out 4
       have hns65_0 := NB273_285.out
       have hns65_1 := NB284_285.out
       have hms65_0 := NB285_273.out
       have hms65_1 := NB285_284.out
       have hs66 : w60.cell? ⟨gb285, 5, none⟩ = some (.int .i64 0) := (zzS BK285.out 5).trans rfl
       have hfs66 := zjF BK285.out 5
       have hns66_0 := NB273_285.out
       have hns66_1 := NB284_285.out
       have hms66_0 := NB285_273.out
       have hms66_1 := NB285_284.out
       have hs67 : w60.cell? ⟨gb285, 6, none⟩ = some (.int .i64 0) := (zzS BK285.out 6).trans rfl
       have hfs67 := zjF BK285.out 6
       have hns67_0 := NB273_285.out
       have hns67_1 := NB284_285.out
       have hms67_0 := NB285_273.out
       have hms67_1 := NB285_284.out
       have hs68 : w60.cell? ⟨gb285, 7, none⟩ = some (.int .i64 0) := (zzS BK285.out 7).trans rfl
       have hfs68 := zjF BK285.out 7
       have hns68_0 := NB273_285.out
       have hns68_1 := NB284_285.out
       have hms68_0 := NB285_273.out
       have hms68_1 := NB285_284.out
       refine skip_ (w1 := ?_) (by rfl) rfl ?_ ?_
       rotate_left
       ·go_simp
        rfl
       refine hK.out _ _ ⟨((zgQ (p := ⟨gb285, _, none⟩) NB284_285.out _).trans (((zgQ (p := ⟨gb285, _, none⟩) NB284_285.out _).trans (((zgQ (p := ⟨gb285, _, none⟩) NB284_285.out _).trans (((zgQ (p := ⟨gb285, _, none⟩) NB284_285.out _).trans (((zgQ (p := ⟨gb285, _, none⟩) NB284_285.out _).trans (((zgQ (p := ⟨gb285, _, none⟩) NB284_285.out _).trans (((zgQ (p := ⟨gb285, _, none⟩) NB284_285.out _).trans (((zgQ (p := ⟨gb285, _, none⟩) NB284_285.out _).trans (hHeld.1)))))))))))))))), ((zgQ (p := ⟨gb285, _, none⟩) NB284_285.out _).trans (((zgQ (p := ⟨gb285, _, none⟩) NB284_285.out _).trans (((zgQ (p := ⟨gb285, _, none⟩) NB284_285.out _).trans (((zgQ (p := ⟨gb285, _, none⟩) NB284_285.out _).trans (((zgQ (p := ⟨gb285, _, none⟩) NB284_285.out _).trans (((zgQ (p := ⟨gb285, _, none⟩) NB284_285.out _).trans (((zgQ (p := ⟨gb285, _, none⟩) NB284_285.out _).trans (((zgQ (p := ⟨gb285, _, none⟩) NB284_285.out _).trans (hHeld.2.1)))))))))))))))), ((zgQ (p := ⟨gb285, _, none⟩) NB284_285.out _).trans (((zgQ (p := ⟨gb285, _, none⟩) NB284_285.out _).trans (((zgQ (p := ⟨gb285, _, none⟩) NB284_285.out _).trans (((zgQ (p := ⟨gb285, _, none⟩) NB284_285.out _).trans (((zgQ (p := ⟨gb285, _, none⟩) NB284_285.out _).trans (((zgQ (p := ⟨gb285, _, none⟩) NB284_285.out _).trans (((zgQ (p := ⟨gb285, _, none⟩) NB284_285.out _).trans (((zgQ (p := ⟨gb285, _, none⟩) NB284_285.out _).trans (hHeld.2.2.1)))))))))))))))), ((zgQ (p := ⟨gb285, _, none⟩) NB284_285.out _).trans (((zgQ (p := ⟨gb285, _, none⟩) NB284_285.out _).trans (((zgQ (p := ⟨gb285, _, none⟩) NB284_285.out _).trans (((zgQ (p := ⟨gb285, _, none⟩) NB284_285.out _).trans (((zgQ (p := ⟨gb285, _, none⟩) NB284_285.out _).trans (((zgQ (p := ⟨gb285, _, none⟩) NB284_285.out _).trans (((zgQ (p := ⟨gb285, _, none⟩) NB284_285.out _).trans (((zgQ (p := ⟨gb285, _, none⟩) NB284_285.out _).trans (hHeld.2.2.2.1)))))))))))))))), ((zgQ (p := ⟨gb285, _, none⟩) NB284_285.out _).trans (((zgQ (p := ⟨gb285, _, none⟩) NB284_285.out _).trans (((zgQ (p := ⟨gb285, _, none⟩) NB284_285.out _).trans (((zgQ (p := ⟨gb285, _, none⟩) NB284_285.out _).trans (((zgQ (p := ⟨gb285, _, none⟩) NB284_285.out _).trans (((zgQ (p := ⟨gb285, _, none⟩) NB284_285.out _).trans (((zgQ (p := ⟨gb285, _, none⟩) NB284_285.out _).trans (((zgQ (p := ⟨gb285, _, none⟩) NB284_285.out _).trans (hHeld.2.2.2.2.1)))))))))))))))), ((zgQ (p := ⟨gb285, _, none⟩) NB284_285.out _).trans (((zgQ (p := ⟨gb285, _, none⟩) NB284_285.out _).trans (((zgQ (p := ⟨gb285, _, none⟩) NB284_285.out _).trans (((zgQ (p := ⟨gb285, _, none⟩) NB284_285.out _).trans (((zgQ (p := ⟨gb285, _, none⟩) NB284_285.out _).trans (((zgQ (p := ⟨gb285, _, none⟩) NB284_285.out _).trans (((zgQ (p := ⟨gb285, _, none⟩) NB284_285.out _).trans (((zgQ (p := ⟨gb285, _, none⟩) NB284_285.out _).trans (hHeld.2.2.2.2.2))))))))))))))))⟩ (fun hHeld => ?_)
       clear hK K
       refine done_ (done_of HT_.out (by kernel_rfl)) ?_
       have hnb69 := NB285_273.out
       have hnc69 := NB273_285.out
       have hnb70 := NB285_284.out
       have hnc70 := NB284_285.out
       have hcz71_0 : w60.cell? ⟨gb285, 0, none⟩ = some (.int .i64 0) := (zzS BK285.out 0).trans rfl
       have hcz71_1 : w60.cell? ⟨gb285, 1, none⟩ = some (.bool false) := (zzS BK285.out 1).trans rfl
       have hcz71_2 : w60.cell? ⟨gb285, 2, none⟩ = some (.int .i64 0) := (zzS BK285.out 2).trans rfl
       have hcz71_3 : w60.cell? ⟨gb285, 3, none⟩ = some (.int .i64 0) := (zzS BK285.out 3).trans rfl
       have hcz71_4 : w60.cell? ⟨gb285, 4, none⟩ = some (.int .i64 0) := (zzS BK285.out 4).trans rfl
       have hcz71_5 : w60.cell? ⟨gb285, 5, none⟩ = some (.int .i64 0) := (zzS BK285.out 5).trans rfl
       have hcz71_6 : w60.cell? ⟨gb285, 6, none⟩ = some (.int .i64 0) := (zzS BK285.out 6).trans rfl
       have hcz71_7 : w60.cell? ⟨gb285, 7, none⟩ = some (.int .i64 0) := (zzS BK285.out 7).trans rfl
       have hfz71_0 := zjF BK285.out 0
       have hfz71_1 := zjF BK285.out 1
       have hfz71_2 := zjF BK285.out 2
       have hfz71_3 := zjF BK285.out 3
       have hfz71_4 := zjF BK285.out 4
       have hfz71_5 := zjF BK285.out 5
       have hfz71_6 := zjF BK285.out 6
       have hfz71_7 := zjF BK285.out 7
       try go_wp2_with (first | ((with_reducible refine zgK (f := 35) rfl ?_); refine zqQ (some 42) rfl rfl Tryd.func35 (by kernel_rfl) rfl #[.agg #[.int .i64 (wrap64 ((wrap64 (bt t274 1)) - 48)), .bool ((bt t274 0) == 102), .int .i64 t277, .int .i64 t278, .int .i64 t279, .int .i64 t280, .int .i64 t281, .int .i64 t282]] rfl (by (try simp only [List.map_toArray, List.map_cons, List.map_nil]); first | done | rfl | (simp only [List.length_drop, List.length_take]; rfl)) ?_; (with_reducible refine (zyY.calls (wrap64 ((wrap64 (bt t274 1)) - 48)) ((bt t274 0) == 102) t277 t278 t279 t280 t281 t282 false _ A18.out).mono ?_); rintro e w72 ⟨rfl, hb⟩; refine ⟨_, rfl, ?_⟩; have n0_ := zpS (zgM (g := gb273) (o := .cells #[.int .i64 0, .bool false, .int .i64 0, .int .i64 0, .int .i64 0, .int .i64 0, .int .i64 0, .int .i64 0] 39 (0, 0)) (by (with_reducible repeat (first | apply zuW | apply ztN | apply zqY)); refine znI ?_ NB273_285.out _; (with_reducible repeat (first | apply zuW | apply ztN | apply zqY)); refine znI ?_ NB273_285.out _; (with_reducible repeat (first | apply zuW | apply ztN | apply zqY)); refine znI ?_ NB273_285.out _; (with_reducible repeat (first | apply zuW | apply ztN | apply zqY)); refine znI ?_ NB273_285.out _; (with_reducible repeat (first | apply zuW | apply ztN | apply zqY)); refine znI ?_ NB273_285.out _; (with_reducible repeat (first | apply zuW | apply ztN | apply zqY)); refine znI ?_ NB273_285.out _; (with_reducible repeat (first | apply zuW | apply ztN | apply zqY)); refine znI ?_ NB273_285.out _; (with_reducible repeat (first | apply zuW | apply ztN | apply zqY)); refine znI ?_ NB273_285.out _; (with_reducible repeat (first | apply zuW | apply ztN | apply zqY)); exact BK273.out) hb); have n1_ := zpS (zgM (g := gb284) (o := .cells #[.int .i64 t277, .int .i64 t278, .int .i64 t279, .int .i64 t280, .int .i64 t281, .int .i64 t282] 34 (0, 0)) (by (with_reducible repeat (first | apply zuW | apply ztN | apply zqY)); refine znI ?_ NB284_285.out _; (with_reducible repeat (first | apply zuW | apply ztN | apply zqY)); refine znI ?_ NB284_285.out _; (with_reducible repeat (first | apply zuW | apply ztN | apply zqY)); refine znI ?_ NB284_285.out _; (with_reducible repeat (first | apply zuW | apply ztN | apply zqY)); refine znI ?_ NB284_285.out _; (with_reducible repeat (first | apply zuW | apply ztN | apply zqY)); refine znI ?_ NB284_285.out _; (with_reducible repeat (first | apply zuW | apply ztN | apply zqY)); refine znI ?_ NB284_285.out _; (with_reducible repeat (first | apply zuW | apply ztN | apply zqY)); refine znI ?_ NB284_285.out _; (with_reducible repeat (first | apply zuW | apply ztN | apply zqY)); refine znI ?_ NB284_285.out _; (with_reducible repeat (first | apply zuW | apply ztN | apply zqY)); exact BK284.out) hb); have n2_ := zpS (zgM (g := gb285) (o := .cells #[.int .i64 (wrap64 ((wrap64 (bt t274 1)) - 48)), .bool ((bt t274 0) == 102), .int .i64 t277, .int .i64 t278, .int .i64 t279, .int .i64 t280, .int .i64 t281, .int .i64 t282] 39 (0, 0)) (by (with_reducible repeat (first | apply zuW | apply ztN | apply zqY)); refine zlL (cs := #[.int .i64 (wrap64 ((wrap64 (bt t274 1)) - 48)), .bool ((bt t274 0) == 102), .int .i64 t277, .int .i64 t278, .int .i64 t279, .int .i64 t280, .int .i64 t281, .int .i64 0]) ?_ 7 _ rfl; (with_reducible repeat (first | apply zuW | apply ztN | apply zqY)); refine zlL (cs := #[.int .i64 (wrap64 ((wrap64 (bt t274 1)) - 48)), .bool ((bt t274 0) == 102), .int .i64 t277, .int .i64 t278, .int .i64 t279, .int .i64 t280, .int .i64 0, .int .i64 0]) ?_ 6 _ rfl; (with_reducible repeat (first | apply zuW | apply ztN | apply zqY)); refine zlL (cs := #[.int .i64 (wrap64 ((wrap64 (bt t274 1)) - 48)), .bool ((bt t274 0) == 102), .int .i64 t277, .int .i64 t278, .int .i64 t279, .int .i64 0, .int .i64 0, .int .i64 0]) ?_ 5 _ rfl; (with_reducible repeat (first | apply zuW | apply ztN | apply zqY)); refine zlL (cs := #[.int .i64 (wrap64 ((wrap64 (bt t274 1)) - 48)), .bool ((bt t274 0) == 102), .int .i64 t277, .int .i64 t278, .int .i64 0, .int .i64 0, .int .i64 0, .int .i64 0]) ?_ 4 _ rfl; (with_reducible repeat (first | apply zuW | apply ztN | apply zqY)); refine zlL (cs := #[.int .i64 (wrap64 ((wrap64 (bt t274 1)) - 48)), .bool ((bt t274 0) == 102), .int .i64 t277, .int .i64 0, .int .i64 0, .int .i64 0, .int .i64 0, .int .i64 0]) ?_ 3 _ rfl; (with_reducible repeat (first | apply zuW | apply ztN | apply zqY)); refine zlL (cs := #[.int .i64 (wrap64 ((wrap64 (bt t274 1)) - 48)), .bool ((bt t274 0) == 102), .int .i64 0, .int .i64 0, .int .i64 0, .int .i64 0, .int .i64 0, .int .i64 0]) ?_ 2 _ rfl; (with_reducible repeat (first | apply zuW | apply ztN | apply zqY)); refine zlL (cs := #[.int .i64 (wrap64 ((wrap64 (bt t274 1)) - 48)), .bool false, .int .i64 0, .int .i64 0, .int .i64 0, .int .i64 0, .int .i64 0, .int .i64 0]) ?_ 1 _ rfl; (with_reducible repeat (first | apply zuW | apply ztN | apply zqY)); refine zlL (cs := #[.int .i64 0, .bool false, .int .i64 0, .int .i64 0, .int .i64 0, .int .i64 0, .int .i64 0, .int .i64 0]) ?_ 0 _ rfl; (with_reducible repeat (first | apply zuW | apply ztN | apply zqY)); exact BK285.out) hb); have n3_ := (ns_ hb); clear BK273; clear BK284; clear BK285; clear HB; have BK273 := n0_; have BK284 := n1_; have BK285 := n2_; have HB := n3_; clear n0_ n1_ n2_ n3_; (try clear hb); (try clear hb2); have hnb73 := NB273_284.out; have hnc73 := NB284_273.out; have hcz74_0 : w72.cell? ⟨gb273, 0, none⟩ = some (.int .i64 0) := (zzS BK273.out 0).trans rfl; have hcz74_1 : w72.cell? ⟨gb273, 1, none⟩ = some (.bool false) := (zzS BK273.out 1).trans rfl; have hcz74_2 : w72.cell? ⟨gb273, 2, none⟩ = some (.int .i64 0) := (zzS BK273.out 2).trans rfl; have hcz74_3 : w72.cell? ⟨gb273, 3, none⟩ = some (.int .i64 0) := (zzS BK273.out 3).trans rfl; have hcz74_4 : w72.cell? ⟨gb273, 4, none⟩ = some (.int .i64 0) := (zzS BK273.out 4).trans rfl; have hcz74_5 : w72.cell? ⟨gb273, 5, none⟩ = some (.int .i64 0) := (zzS BK273.out 5).trans rfl; have hcz74_6 : w72.cell? ⟨gb273, 6, none⟩ = some (.int .i64 0) := (zzS BK273.out 6).trans rfl; have hcz74_7 : w72.cell? ⟨gb273, 7, none⟩ = some (.int .i64 0) := (zzS BK273.out 7).trans rfl; have hfz74_0 := zjF BK273.out 0; have hfz74_1 := zjF BK273.out 1; have hfz74_2 := zjF BK273.out 2; have hfz74_3 := zjF BK273.out 3; have hfz74_4 := zjF BK273.out 4; have hfz74_5 := zjF BK273.out 5; have hfz74_6 := zjF BK273.out 6; have hfz74_7 := zjF BK273.out 7))
       refine bodyPost_ret (zzB rfl _ _ gb273 39 #[.int .i64 0, .bool false, .int .i64 0, .int .i64 0, .int .i64 0, .int .i64 0, .int .i64 0, .int .i64 0] (0, 0) _ rfl (by (with_reducible repeat (first | apply zuW | apply ztN | apply zqY)); refine zlL (cs := #[.int .i64 0, .bool false, .int .i64 0, .int .i64 0, .int .i64 0, .int .i64 0, .int .i64 0, .int .i64 0]) ?_ 7 _ rfl; (with_reducible repeat (first | apply zuW | apply ztN | apply zqY)); refine zlL (cs := #[.int .i64 0, .bool false, .int .i64 0, .int .i64 0, .int .i64 0, .int .i64 0, .int .i64 0, .int .i64 0]) ?_ 6 _ rfl; (with_reducible repeat (first | apply zuW | apply ztN | apply zqY)); refine zlL (cs := #[.int .i64 0, .bool false, .int .i64 0, .int .i64 0, .int .i64 0, .int .i64 0, .int .i64 0, .int .i64 0]) ?_ 5 _ rfl; (with_reducible repeat (first | apply zuW | apply ztN | apply zqY)); refine zlL (cs := #[.int .i64 0, .bool false, .int .i64 0, .int .i64 0, .int .i64 0, .int .i64 0, .int .i64 0, .int .i64 0]) ?_ 4 _ rfl; (with_reducible repeat (first | apply zuW | apply ztN | apply zqY)); refine zlL (cs := #[.int .i64 0, .bool false, .int .i64 0, .int .i64 0, .int .i64 0, .int .i64 0, .int .i64 0, .int .i64 0]) ?_ 3 _ rfl; (with_reducible repeat (first | apply zuW | apply ztN | apply zqY)); refine zlL (cs := #[.int .i64 0, .bool false, .int .i64 0, .int .i64 0, .int .i64 0, .int .i64 0, .int .i64 0, .int .i64 0]) ?_ 2 _ rfl; (with_reducible repeat (first | apply zuW | apply ztN | apply zqY)); refine zlL (cs := #[.int .i64 0, .bool false, .int .i64 0, .int .i64 0, .int .i64 0, .int .i64 0, .int .i64 0, .int .i64 0]) ?_ 1 _ rfl; (with_reducible repeat (first | apply zuW | apply ztN | apply zqY)); refine zlL (cs := #[.int .i64 0, .bool false, .int .i64 0, .int .i64 0, .int .i64 0, .int .i64 0, .int .i64 0, .int .i64 0]) ?_ 0 _ rfl; (with_reducible repeat (first | apply zuW | apply ztN | apply zqY)); exact BK273.out) Tryd.underlying39 rfl (by kernel_rfl)) rfl ?_
       exact ⟨by first | rfl | (simp [ziS, znJ] <;> rfl) | (simp [*, ziS, znJ] <;> rfl), bb_⟩
     ·rw [if_neg c16] at H
      exact absurd H (by simp)
    ·rw [if_neg c14] at H
     exact absurd H (by simp)

end Go.Proofs.YtbkcmdccomngnaaDoor.PFnExactReadMotion
