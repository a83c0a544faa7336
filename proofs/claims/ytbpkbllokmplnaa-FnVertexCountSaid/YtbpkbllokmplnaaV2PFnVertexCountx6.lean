-- Printed for this claim by this session's program pp.py, which drives the kit's print with additions. Not trusted: Lean checks it.
import Derived.Test.YtbpkbllokmplnaaV2PFnVertexCountx0
import Derived.Test.YtbpkbllokmplnaaV2PFnVertexCountx1
import Derived.Test.YtbpkbllokmplnaaV2PFnVertexCountx5
namespace Go.Proofs.Ytbpkbllokmplnaa.PFnVertexCount
open Go.RowKit Go.Proofs.YtbpkbllokmplnaaW.PrintWords Go.Proofs.YtbpkbllokmplnaaW.PrintLast Go.Proofs.YtbpkbllokmplnaaW.PrintMore
attribute [local go_sem] max2_int min2_int max_two min_two znE zuB max_four min_four   -- for this text's walks alone
set_option linter.unusedVariables false
set_option linter.unusedSimpArgs false

mutual
def zaK.j0 : Nat → Int → Int → List Int → Int → Int → Option (List Int × Int × Int)
 | 0, _, _, _, _, _ => none
 | k + 1, x5, x6, x1000, x1001, x1002 => (zfT.f k x1000 x1001 x1002 x5 x6).bind fun bt249 => ((zfT.f k x1000 bt249.2.1 bt249.2.2 x5 x6).bind fun bt254 => ((zmN.f x1000 bt254.2.1 bt254.2.2 3).bind fun bt259 => (if bt259.1 = true then ((zcB.f x1000 bt259.2.1 bt259.2.2 x5).bind fun bt262 => ((zrU.f bt249.1 bt262.1).bind fun t265 => (zaK.j1 k bt249.1 t265 x1000 bt262.2.1 bt262.2.2))) else (zaK.j1 k bt249.1 bt254.1 x1000 bt259.2.1 bt259.2.2))))
def zaK.j1 : Nat → List Int → List Int → List Int → Int → Int → Option (List Int × Int × Int)
 | 0, _, _, _, _, _ => none
 | k + 1, x7, x8, x1000, x1001, x1002 => zaK.l0 k x7 x8 (([] : List Int)) 0 x1000 x1001 x1002
def zaK.l0 : Nat → List Int → List Int → List Int → Int → List Int → Int → Int → Option (List Int × Int × Int)
 | 0, _, _, _, _, _, _, _ => none
 | k + 1, x7, x8, x10, x11, x1000, x1001, x1002 => if x11 < (x7.length : Int) then (if 0 ≤ x11 then (if x11 < (x8.length : Int) then ((some (([rd x7 x11, rd x8 x11] : List Int) : List Int)).bind fun y273 => (if x10.length + y273.length < 17592186044416 then (zaK.l0 k x7 x8 (x10 ++ y273) (wrap64 (x11 + 1)) x1000 x1001 x1002) else (none))) else (none)) else (none)) else (some (x10, x1001, x1002))
end
def zaK.f (k : Nat) (s0_0 : List Int) (s0_1 : Int) (s0_2 : Int) (a1 : Int) : Option (List Int × Int × Int) := (zcB.f s0_0 s0_1 s0_2 (wrap64 (Int.tdiv a1 2))).bind fun bt240 => ((zmN.f s0_0 bt240.2.1 bt240.2.2 4).bind fun bt243 => (if bt243.1 = true then ((zcB.f s0_0 bt243.2.1 bt243.2.2 (wrap64 ((wrap64 (8 - (wrap64 (1 + bt240.1)))) + 1))).bind fun bt246 => (zaK.j0 k (wrap64 (1 + bt240.1)) (wrap64 ((wrap64 (1 + bt240.1)) + bt246.1)) s0_0 bt246.2.1 bt246.2.2)) else (zaK.j0 k (wrap64 (1 + bt240.1)) 8 s0_0 bt243.2.1 bt243.2.2)))
theorem zaK.mono_l : ∀ k, (∀ y0 y1 y2 y3 y4, LeO (zaK.j0 k y0 y1 y2 y3 y4) (zaK.j0 (k + 1) y0 y1 y2 y3 y4)) ∧ (∀ y0 y1 y2 y3 y4, LeO (zaK.j1 k y0 y1 y2 y3 y4) (zaK.j1 (k + 1) y0 y1 y2 y3 y4)) ∧ (∀ y0 y1 y2 y3 y4 y5 y6, LeO (zaK.l0 k y0 y1 y2 y3 y4 y5 y6) (zaK.l0 (k + 1) y0 y1 y2 y3 y4 y5 y6))
 | 0 => ⟨fun _ _ _ _ _ r h => by simp [zaK.j0] at h, fun _ _ _ _ _ r h => by simp [zaK.j1] at h, fun _ _ _ _ _ _ _ r h => by simp [zaK.l0] at h⟩
 | k + 1 => by
  obtain ⟨ih0, ih1, ih2⟩ := zaK.mono_l k
  refine ⟨?_, ?_, ?_⟩
  ·intro y0 y1 y2 y3 y4
   unfold zaK.j0
   repeat' first
   | (with_reducible exact ih0 _ _ _ _ _)
   | (with_reducible exact ih1 _ _ _ _ _)
   | (with_reducible exact ih2 _ _ _ _ _ _ _)
   | (with_reducible exact zfT.mono _ _ _ _ _ _)
   | (with_reducible exact LeO.refl _)
   | (with_reducible exact LeO.none _)
   | (with_reducible refine LeO.ite ?_ ?_)
   | (with_reducible refine LeO.bind ?_ (fun _ => ?_))
   | exact ih0 _ _ _ _ _
   | exact ih1 _ _ _ _ _
   | exact ih2 _ _ _ _ _ _ _
   | exact zfT.mono _ _ _ _ _ _
   | exact LeO.none _
   | refine LeO.ite ?_ ?_
   | refine LeO.bind ?_ (fun _ => ?_)
  ·intro y0 y1 y2 y3 y4
   unfold zaK.j1
   repeat' first
   | (with_reducible exact ih0 _ _ _ _ _)
   | (with_reducible exact ih1 _ _ _ _ _)
   | (with_reducible exact ih2 _ _ _ _ _ _ _)
   | (with_reducible exact zfT.mono _ _ _ _ _ _)
   | (with_reducible exact LeO.refl _)
   | (with_reducible exact LeO.none _)
   | (with_reducible refine LeO.ite ?_ ?_)
   | (with_reducible refine LeO.bind ?_ (fun _ => ?_))
   | exact ih0 _ _ _ _ _
   | exact ih1 _ _ _ _ _
   | exact ih2 _ _ _ _ _ _ _
   | exact zfT.mono _ _ _ _ _ _
   | exact LeO.none _
   | refine LeO.ite ?_ ?_
   | refine LeO.bind ?_ (fun _ => ?_)
  ·intro y0 y1 y2 y3 y4 y5 y6
   unfold zaK.l0
   repeat' first
   | (with_reducible exact ih0 _ _ _ _ _)
   | (with_reducible exact ih1 _ _ _ _ _)
   | (with_reducible exact ih2 _ _ _ _ _ _ _)
   | (with_reducible exact zfT.mono _ _ _ _ _ _)
   | (with_reducible exact LeO.refl _)
   | (with_reducible exact LeO.none _)
   | (with_reducible refine LeO.ite ?_ ?_)
   | (with_reducible refine LeO.bind ?_ (fun _ => ?_))
   | exact ih0 _ _ _ _ _
   | exact ih1 _ _ _ _ _
   | exact ih2 _ _ _ _ _ _ _
   | exact zfT.mono _ _ _ _ _ _
   | exact LeO.none _
   | refine LeO.ite ?_ ?_
   | refine LeO.bind ?_ (fun _ => ?_)
theorem zaK.mono : ∀ a0 a1 a2 a3 k, LeO (zaK.f k a0 a1 a2 a3) (zaK.f (k + 1) a0 a1 a2 a3) := by
 intro a0 a1 a2 a3 k
 obtain ⟨ih0, ih1, ih2⟩ := zaK.mono_l k
 unfold zaK.f
 repeat' first
   | (with_reducible exact ih0 _ _ _ _ _)
   | (with_reducible exact ih1 _ _ _ _ _)
   | (with_reducible exact ih2 _ _ _ _ _ _ _)
   | (with_reducible exact zfT.mono _ _ _ _ _ _)
   | (with_reducible exact LeO.refl _)
   | (with_reducible exact LeO.none _)
   | (with_reducible refine LeO.ite ?_ ?_)
   | (with_reducible refine LeO.bind ?_ (fun _ => ?_))
   | exact ih0 _ _ _ _ _
   | exact ih1 _ _ _ _ _
   | exact ih2 _ _ _ _ _ _ _
   | exact zfT.mono _ _ _ _ _ _
   | exact LeO.none _
   | refine LeO.ite ?_ ?_
   | refine LeO.bind ?_ (fun _ => ?_)
def zaK.T14 : Bool × List (List Nat × List Nat) := (true, [([], []), ([], []), ([], []), ([1, 2], [1, 2]), ([3], [3]), ([], []), ([], []), ([5, 6], [5, 6]), ([7], [7]), ([4, 8], [4, 8]), ([0, 9], [0, 9]), ([10, 10, 0, 1, 2, 3, 4, 5, 6, 7, 8, 9, 10], [0, 10])])
def zaK.B14 : List Nat := [0, 0, 0, 6, 14, 0, 0, 96, 224, 510, 1023, 2047]
theorem zaK.tab14 : rtab .any (opsOf Try.f53 14) = zaK.T14 := by kernel_rfl
theorem zaK.bits14 : ztE zaK.T14.2 zaK.B14 = true := by kernel_rfl
set_option maxHeartbeats 8000000 in
set_option maxRecDepth 100000 in
theorem zaK.calls (k : Nat) (g : Nat) (s0_0 : List Int) (s0_1 : Int) (s0_2 : Int) (a1 : Int) (r1 : List Int) (r2 : Int) (r3 : Int) (w0 w : World) (hI : zxI w0 w g s0_0 s0_1 s0_2) (hB : Below w0.heap.size w0 w) (h : zaK.f k s0_0 s0_1 s0_2 a1 = some (r1, r2, r3)) :
  Calls Try.prog 53 #[.pointer (some ⟨g, 0, none⟩), .int .i64 a1] w fun e w' => ∃ v0_ : Value, e = .returned (v0_) ∧ Kd.R (Kd.int .i64) 2 w' w.heap.size (fun _ => True) v0_ r1 ∧ zxI w0 w' g s0_0 r2 r3 ∧ Below w0.heap.size w0 w' ∧ zwG w w' g none := by
 have HI0 := zpS hI
 have HK := zpS (zwG.refl w g none)
 have HL := zpS hB.size
 clear hI
 have HW0 := zpS hB.size
 have HB := zpS hB
 clear hB
 have H : ((zcB.f s0_0 s0_1 s0_2 (wrap64 (Int.tdiv a1 2))).bind fun bt240 => ((zmN.f s0_0 bt240.2.1 bt240.2.2 4).bind fun bt243 => (if bt243.1 = true then ((zcB.f s0_0 bt243.2.1 bt243.2.2 (wrap64 ((wrap64 (8 - (wrap64 (1 + bt240.1)))) + 1))).bind fun bt246 => (zaK.j0 k (wrap64 (1 + bt240.1)) (wrap64 ((wrap64 (1 + bt240.1)) + bt246.1)) s0_0 bt246.2.1 bt246.2.2)) else (zaK.j0 k (wrap64 (1 + bt240.1)) 8 s0_0 bt243.2.1 bt243.2.2)))) = some (r1, r2, r3) := h
 clear h
 replace H := Option.bind_eq_some_iff.mp H
 obtain ⟨⟨t240, t241, t242⟩, A30, H⟩ := H
 replace H : ((zmN.f s0_0 t241 t242 4).bind fun bt243 => (if bt243.1 = true then ((zcB.f s0_0 bt243.2.1 bt243.2.2 (wrap64 ((wrap64 (8 - (wrap64 (1 + t240)))) + 1))).bind fun bt246 => (zaK.j0 k (wrap64 (1 + t240)) (wrap64 ((wrap64 (1 + t240)) + bt246.1)) s0_0 bt246.2.1 bt246.2.2)) else (zaK.j0 k (wrap64 (1 + t240)) 8 s0_0 bt243.2.1 bt243.2.2))) = some (r1, r2, r3) := H
 have A3 := zpS A30
 clear A30
 replace H := Option.bind_eq_some_iff.mp H
 obtain ⟨⟨t243, t244, t245⟩, A40, H⟩ := H
 replace H : (if t243 = true then ((zcB.f s0_0 t244 t245 (wrap64 ((wrap64 (8 - (wrap64 (1 + t240)))) + 1))).bind fun bt246 => (zaK.j0 k (wrap64 (1 + t240)) (wrap64 ((wrap64 (1 + t240)) + bt246.1)) s0_0 bt246.2.1 bt246.2.2)) else (zaK.j0 k (wrap64 (1 + t240)) 8 s0_0 t244 t245)) = some (r1, r2, r3) := H
 have A4 := zpS A40
 clear A40
 have HC5 := zpS H
 clear H
 go_enter Try.func53, Try.ntmps53
 go_upto_if 18 with (first | ((with_reducible refine zgL (f := 87) rfl ?_); refine zqQ (some 15) rfl rfl Try.func87 (by kernel_rfl) rfl #[.pointer (some ⟨g, 0, none⟩), .int .i64 (wrap64 (Int.tdiv a1 2))] rfl (by (try simp only [List.map_toArray, List.map_cons, List.map_nil]); first | done | rfl | (simp only [List.length_drop, List.length_take]; rfl)) ?_; (with_reducible refine (zcB.calls g s0_0 s0_1 s0_2 (wrap64 (Int.tdiv a1 2)) t240 t241 t242 w0 _ ?side1 ?side2 A3.out).mono ?_); (case side1 => repeat (first | (with_reducible first | exact HI0.out | apply zxI.alloc | apply zxI.drewN | apply zxI.drew | apply zxI.set_1 | apply zxI.set_2) | exact HI0.out)); (case side2 => repeat (first | (with_reducible first | exact HB.out | apply znU | apply zkZ | apply zvF | refine zjF ?_ (zxI.ge HI0.out)) | exact HB.out)); rintro e w6 ⟨rfl, hi, hb, hk⟩; refine ⟨_, rfl, ?_⟩; have n0_ := zpS (zwG.trans (by repeat (first | (with_reducible first | exact HK.out | apply zwG.set_ | apply zeS | apply zwU | apply zbV) | exact HK.out)) hk (.inl rfl)); have n1_ := zpS (hb); have n2_ := zpS (hi); clear HK; clear HB; clear HI0; have HK := n0_; have HB := n1_; have HI0 := n2_; clear n0_ n1_ n2_; (try clear hb); (try clear hb2)) | ((with_reducible refine zgL (f := 66) rfl ?_); refine zqQ (some 18) rfl rfl Try.func66 (by kernel_rfl) rfl #[.pointer (some ⟨g, 0, none⟩), .int .i64 4] rfl (by (try simp only [List.map_toArray, List.map_cons, List.map_nil]); first | done | rfl | (simp only [List.length_drop, List.length_take]; rfl)) ?_; (with_reducible refine (zmN.calls g s0_0 t241 t242 4 t243 t244 t245 w0 _ ?side1 ?side2 A4.out).mono ?_); (case side1 => repeat (first | (with_reducible first | exact HI0.out | apply zxI.alloc | apply zxI.drewN | apply zxI.drew | apply zxI.set_1 | apply zxI.set_2) | exact HI0.out)); (case side2 => repeat (first | (with_reducible first | exact HB.out | apply znU | apply zkZ | apply zvF | refine zjF ?_ (zxI.ge HI0.out)) | exact HB.out)); rintro e w7 ⟨rfl, hi, hb, hk⟩; refine ⟨_, rfl, ?_⟩; have n0_ := zpS (zwG.trans (by repeat (first | (with_reducible first | exact HK.out | apply zwG.set_ | apply zeS | apply zwU | apply zbV) | exact HK.out)) hk (.inl rfl)); have n1_ := zpS (hb); have n2_ := zpS (hi); clear HK; clear HB; clear HI0; have HK := n0_; have HB := n1_; have HI0 := n2_; clear n0_ n1_ n2_; (try clear hb); (try clear hb2)))
 (try simp only [Act.put, set_a_, set_b_, set_c_])
 go_cut [6] (fun v6 wc => ∃ (kq : Nat) (x6_4 : Int) (x1001_4 : Int) (x1002_4 : Int), v6 = .int .i64 x6_4 ∧ Aside0 (zaK.j0 kq (wrap64 (1 + t240)) x6_4 s0_0 x1001_4 x1002_4 = some (r1, r2, r3)) ∧ Aside0 (kq ≤ k) ∧ Aside0 (zxI w0 wc g s0_0 x1001_4 x1002_4) ∧ Aside0 (zwG w wc g none) ∧ Aside0 (Below w0.heap.size w0 wc))
 case first =>
  have H := HC5.out
  clear HC5
  by_cases c8 : t243 = true
  ·subst c8
   have H1 : ((zcB.f s0_0 t244 t245 (wrap64 ((wrap64 (8 - (wrap64 (1 + t240)))) + 1))).bind fun bt246 => (zaK.j0 k (wrap64 (1 + t240)) (wrap64 ((wrap64 (1 + t240)) + bt246.1)) s0_0 bt246.2.1 bt246.2.2)) = some (r1, r2, r3) := by rw [if_pos rfl] at H; exact H
   clear H
   have H := H1
   clear H1
   replace H := Option.bind_eq_some_iff.mp H
   obtain ⟨⟨t246, t247, t248⟩, A90, H⟩ := H
   replace H : (zaK.j0 k (wrap64 (1 + t240)) (wrap64 ((wrap64 (1 + t240)) + t246)) s0_0 t247 t248) = some (r1, r2, r3) := H
   have A9 := zpS A90
   clear A90
   have H' := zpS H
   clear H
   go_wp2_with (first | ((with_reducible refine zgL (f := 87) rfl ?_); refine zqQ (some 24) rfl rfl Try.func87 (by kernel_rfl) rfl #[.pointer (some ⟨g, 0, none⟩), .int .i64 (wrap64 ((wrap64 (8 - (wrap64 (1 + t240)))) + 1))] rfl (by (try simp only [List.map_toArray, List.map_cons, List.map_nil]); first | done | rfl | (simp only [List.length_drop, List.length_take]; rfl)) ?_; (with_reducible refine (zcB.calls g s0_0 t244 t245 (wrap64 ((wrap64 (8 - (wrap64 (1 + t240)))) + 1)) t246 t247 t248 w0 _ ?side1 ?side2 A9.out).mono ?_); (case side1 => repeat (first | (with_reducible first | exact HI0.out | apply zxI.alloc | apply zxI.drewN | apply zxI.drew | apply zxI.set_1 | apply zxI.set_2) | exact HI0.out)); (case side2 => repeat (first | (with_reducible first | exact HB.out | apply znU | apply zkZ | apply zvF | refine zjF ?_ (zxI.ge HI0.out)) | exact HB.out)); rintro e w10 ⟨rfl, hi, hb, hk⟩; refine ⟨_, rfl, ?_⟩; have n0_ := zpS (zwG.trans (by repeat (first | (with_reducible first | exact HK.out | apply zwG.set_ | apply zeS | apply zwU | apply zbV) | exact HK.out)) hk (.inl rfl)); have n1_ := zpS (hb); have n2_ := zpS (hi); clear HK; clear HB; clear HI0; have HK := n0_; have HB := n1_; have HI0 := n2_; clear n0_ n1_ n2_; (try clear hb); (try clear hb2)))
   go_meet
   case rel => exact ⟨_, (wrap64 ((wrap64 (1 + t240)) + t246)), (t247), (t248), (by first | rfl | (simp; done) | (simp [*]; done)), H', ⟨by first | omega | exact Nat.le_refl _⟩, ⟨by repeat (first | (with_reducible first | exact HI0.out | apply zxI.alloc | apply zxI.drewN | apply zxI.drew | apply zxI.set_1 | apply zxI.set_2) | exact HI0.out)⟩, ⟨by repeat (first | (with_reducible first | exact HK.out | apply zwG.set_ | apply zeS | apply zwU | apply zbV) | exact HK.out)⟩, ⟨by repeat (first | (with_reducible first | exact HB.out | apply znU | apply zkZ | apply zvF | refine zjF ?_ (zxI.ge HI0.out)) | exact HB.out)⟩⟩
  ·replace c8 := Bool.eq_false_iff.mpr c8
   subst c8
   have H1 : (zaK.j0 k (wrap64 (1 + t240)) 8 s0_0 t244 t245) = some (r1, r2, r3) := by rw [if_neg (show ¬ (false = true) by decide)] at H; exact H
   clear H
   have H := H1
   clear H1
   have H' := zpS H
   clear H
   go_wp2
   go_meet
   case rel => exact ⟨_, (8), (t244), (t245), (by first | rfl | (simp; done) | (simp [*]; done)), H', ⟨by first | omega | exact Nat.le_refl _⟩, ⟨by repeat (first | (with_reducible first | exact HI0.out | apply zxI.alloc | apply zxI.drewN | apply zxI.drew | apply zxI.set_1 | apply zxI.set_2) | exact HI0.out)⟩, ⟨by repeat (first | (with_reducible first | exact HK.out | apply zwG.set_ | apply zeS | apply zwU | apply zbV) | exact HK.out)⟩, ⟨by repeat (first | (with_reducible first | exact HB.out | apply znU | apply zkZ | apply zvF | refine zjF ?_ (zxI.ge HI0.out)) | exact HB.out)⟩⟩
 case rest =>
  clear HC5
  try clear p2
  try clear c5
  try clear c6
  try clear p6
  try clear c8
  obtain ⟨kq, x6_4, x1001_4, x1002_4, rfl, HA, HJ4, HI0, HK, HB⟩ := hcut
  cases kq with
  | zero => exact absurd HA.out (by simp [zaK.j0])
  | succ kj4 =>
   have H := HA.out
   clear HA
   simp only [zaK.j0] at H
   replace H := Option.bind_eq_some_iff.mp H
   obtain ⟨⟨t249, t252, t253⟩, A110, H⟩ := H
   replace H : ((zfT.f kj4 s0_0 t252 t253 (wrap64 (1 + t240)) x6_4).bind fun bt254 => ((zmN.f s0_0 bt254.2.1 bt254.2.2 3).bind fun bt259 => (if bt259.1 = true then ((zcB.f s0_0 bt259.2.1 bt259.2.2 (wrap64 (1 + t240))).bind fun bt262 => ((zrU.f t249 bt262.1).bind fun t265 => (zaK.j1 kj4 t249 t265 s0_0 bt262.2.1 bt262.2.2))) else (zaK.j1 kj4 t249 bt254.1 s0_0 bt259.2.1 bt259.2.2)))) = some (r1, r2, r3) := H
   have A11 := zpS A110
   clear A110
   replace H := Option.bind_eq_some_iff.mp H
   obtain ⟨⟨t254, t257, t258⟩, A120, H⟩ := H
   replace H : ((zmN.f s0_0 t257 t258 3).bind fun bt259 => (if bt259.1 = true then ((zcB.f s0_0 bt259.2.1 bt259.2.2 (wrap64 (1 + t240))).bind fun bt262 => ((zrU.f t249 bt262.1).bind fun t265 => (zaK.j1 kj4 t249 t265 s0_0 bt262.2.1 bt262.2.2))) else (zaK.j1 kj4 t249 t254 s0_0 bt259.2.1 bt259.2.2))) = some (r1, r2, r3) := H
   have A12 := zpS A120
   clear A120
   replace H := Option.bind_eq_some_iff.mp H
   obtain ⟨⟨t259, t260, t261⟩, A130, H⟩ := H
   replace H : (if t259 = true then ((zcB.f s0_0 t260 t261 (wrap64 (1 + t240))).bind fun bt262 => ((zrU.f t249 bt262.1).bind fun t265 => (zaK.j1 kj4 t249 t265 s0_0 bt262.2.1 bt262.2.2))) else (zaK.j1 kj4 t249 t254 s0_0 t260 t261)) = some (r1, r2, r3) := H
   have A13 := zpS A130
   clear A130
   have HC14 := zpS H
   clear H
   go_upto_if 35 with (first | ((with_reducible refine zgL (f := 88) rfl ?_); refine zqQ (some 29) rfl rfl Try.func88 (by kernel_rfl) rfl #[.pointer (some ⟨g, 0, none⟩), .int .i64 (wrap64 (1 + t240)), .int .i64 x6_4] rfl (by (try simp only [List.map_toArray, List.map_cons, List.map_nil]); first | done | rfl | (simp only [List.length_drop, List.length_take]; rfl)) ?_; (with_reducible refine (zfT.calls kj4 g s0_0 x1001_4 x1002_4 (wrap64 (1 + t240)) x6_4 t249 t252 t253 w0 _ ?side1 ?side2 A11.out).mono ?_); (case side1 => repeat (first | (with_reducible first | exact HI0.out | apply zxI.alloc | apply zxI.drewN | apply zxI.drew | apply zxI.set_1 | apply zxI.set_2) | exact HI0.out)); (case side2 => repeat (first | (with_reducible first | exact HB.out | apply znU | apply zkZ | apply zvF | refine zjF ?_ (zxI.ge HI0.out)) | exact HB.out)); rintro e w15 ⟨v250, rfl, ho0, hi, hb, hk⟩; refine ⟨_, rfl, ?_⟩; have n0_ := zpS (Kd.R_lower ho0 (keep_size (w := w) (g := g) (row := none) (by repeat (first | (with_reducible first | exact HK.out | apply zwG.set_ | apply zeS | apply zwU | apply zbV) | exact HK.out)))); have n1_ := zpS (zwG.trans (by repeat (first | (with_reducible first | exact HK.out | apply zwG.set_ | apply zeS | apply zwU | apply zbV) | exact HK.out)) hk (.inl rfl)); have n2_ := zpS (hb); have n3_ := zpS (hi); clear HK; clear HB; clear HI0; have HO251 := n0_; have HK := n1_; have HB := n2_; have HI0 := n3_; clear n0_ n1_ n2_ n3_; (try clear hb); (try clear hb2); (try clear ho0)) | ((with_reducible refine zgL (f := 88) rfl ?_); refine zqQ (some 33) rfl rfl Try.func88 (by kernel_rfl) rfl #[.pointer (some ⟨g, 0, none⟩), .int .i64 (wrap64 (1 + t240)), .int .i64 x6_4] rfl (by (try simp only [List.map_toArray, List.map_cons, List.map_nil]); first | done | rfl | (simp only [List.length_drop, List.length_take]; rfl)) ?_; (with_reducible refine (zfT.calls kj4 g s0_0 t252 t253 (wrap64 (1 + t240)) x6_4 t254 t257 t258 w0 _ ?side1 ?side2 A12.out).mono ?_); (case side1 => repeat (first | (with_reducible first | exact HI0.out | apply zxI.alloc | apply zxI.drewN | apply zxI.drew | apply zxI.set_1 | apply zxI.set_2) | exact HI0.out)); (case side2 => repeat (first | (with_reducible first | exact HB.out | apply znU | apply zkZ | apply zvF | refine zjF ?_ (zxI.ge HI0.out)) | exact HB.out)); rintro e w16 ⟨v255, rfl, ho0, hi, hb, hk⟩; refine ⟨_, rfl, ?_⟩; have n0_ := zpS (Kd.R_mono (Kd.R_told (Kd.R_oldK (zxI.apart (show zxI w0 _ g s0_0 t252 t253 from by repeat (first | (with_reducible first | exact HI0.out | apply zxI.alloc | apply zxI.drewN | apply zxI.drew | apply zxI.set_1 | apply zxI.set_2) | exact HI0.out)) (by (with_reducible repeat (first | apply Kd.R_alloc | apply Kd.R_drewN | apply Kd.R_drew)); exact HO251.out) (by decide)) hk) (Kd.R_base ho0)) (fun _ h_ => h_.1)); have n1_ := zpS (Kd.R_lower (Kd.R_new' ho0 (Kd.R_lt (by (with_reducible repeat (first | apply Kd.R_alloc | apply Kd.R_drewN | apply Kd.R_drew)); exact HO251.out))) (keep_size (w := w) (g := g) (row := none) (by repeat (first | (with_reducible first | exact HK.out | apply zwG.set_ | apply zeS | apply zwU | apply zbV) | exact HK.out)))); have n2_ := zpS (zwG.trans (by repeat (first | (with_reducible first | exact HK.out | apply zwG.set_ | apply zeS | apply zwU | apply zbV) | exact HK.out)) hk (.inl rfl)); have n3_ := zpS (hb); have n4_ := zpS (hi); clear HO251; clear HK; clear HB; clear HI0; have HO251 := n0_; have HO256 := n1_; have HK := n2_; have HB := n3_; have HI0 := n4_; clear n0_ n1_ n2_ n3_ n4_; (try clear hb); (try clear hb2); (try clear ho0)) | ((with_reducible refine zgL (f := 66) rfl ?_); refine zqQ (some 35) rfl rfl Try.func66 (by kernel_rfl) rfl #[.pointer (some ⟨g, 0, none⟩), .int .i64 3] rfl (by (try simp only [List.map_toArray, List.map_cons, List.map_nil]); first | done | rfl | (simp only [List.length_drop, List.length_take]; rfl)) ?_; (with_reducible refine (zmN.calls g s0_0 t257 t258 3 t259 t260 t261 w0 _ ?side1 ?side2 A13.out).mono ?_); (case side1 => repeat (first | (with_reducible first | exact HI0.out | apply zxI.alloc | apply zxI.drewN | apply zxI.drew | apply zxI.set_1 | apply zxI.set_2) | exact HI0.out)); (case side2 => repeat (first | (with_reducible first | exact HB.out | apply znU | apply zkZ | apply zvF | refine zjF ?_ (zxI.ge HI0.out)) | exact HB.out)); rintro e w17 ⟨rfl, hi, hb, hk⟩; refine ⟨_, rfl, ?_⟩; have n0_ := zpS (Kd.R_mono (Kd.R_keep (zxI.apart (show zxI w0 _ g s0_0 t257 t258 from by repeat (first | (with_reducible first | exact HI0.out | apply zxI.alloc | apply zxI.drewN | apply zxI.drew | apply zxI.set_1 | apply zxI.set_2) | exact HI0.out)) (by (with_reducible repeat (first | apply Kd.R_alloc | apply Kd.R_drewN | apply Kd.R_drew)); exact HO251.out) (by decide)) hk (fun _ h => h.2)) (fun _ h => h.1)); have n1_ := zpS (Kd.R_mono (Kd.R_keep (zxI.apart (show zxI w0 _ g s0_0 t257 t258 from by repeat (first | (with_reducible first | exact HI0.out | apply zxI.alloc | apply zxI.drewN | apply zxI.drew | apply zxI.set_1 | apply zxI.set_2) | exact HI0.out)) (by (with_reducible repeat (first | apply Kd.R_alloc | apply Kd.R_drewN | apply Kd.R_drew)); exact HO256.out) (by decide)) hk (fun _ h => h.2)) (fun _ h => h.1)); have n2_ := zpS (zwG.trans (by repeat (first | (with_reducible first | exact HK.out | apply zwG.set_ | apply zeS | apply zwU | apply zbV) | exact HK.out)) hk (.inl rfl)); have n3_ := zpS (hb); have n4_ := zpS (hi); clear HO251; clear HO256; clear HK; clear HB; clear HI0; have HO251 := n0_; have HO256 := n1_; have HK := n2_; have HB := n3_; have HI0 := n4_; clear n0_ n1_ n2_ n3_ n4_; (try clear hb); (try clear hb2)))
   (try simp only [Act.put, set_a_, set_b_, set_c_])
   go_cut [8] (fun v8 wc => ∃ (kq : Nat) (x8_13 : List Int) (x1001_13 : Int) (x1002_13 : Int), Aside0 (zaK.j1 kq t249 x8_13 s0_0 x1001_13 x1002_13 = some (r1, r2, r3)) ∧ Aside0 (kq ≤ kj4) ∧ Aside0 (Kd.R (Kd.int .i64) 2 wc w.heap.size (fun k_ => some k_ ≠ (v8 : Value).ownBlock) v250 t249) ∧ Aside0 (Kd.R (Kd.int .i64) 2 wc w.heap.size (fun k_ => some k_ ≠ (v250 : Value).ownBlock) v8 x8_13) ∧ Aside0 (zxI w0 wc g s0_0 x1001_13 x1002_13) ∧ Aside0 (zwG w wc g none) ∧ Aside0 (Below w0.heap.size w0 wc))
   case first =>
    have H := HC14.out
    clear HC14
    by_cases c18 : t259 = true
    ·subst c18
     have H1 : ((zcB.f s0_0 t260 t261 (wrap64 (1 + t240))).bind fun bt262 => ((zrU.f t249 bt262.1).bind fun t265 => (zaK.j1 kj4 t249 t265 s0_0 bt262.2.1 bt262.2.2))) = some (r1, r2, r3) := by rw [if_pos rfl] at H; exact H
     clear H
     have H := H1
     clear H1
     replace H := Option.bind_eq_some_iff.mp H
     obtain ⟨⟨t262, t263, t264⟩, A190, H⟩ := H
     replace H : ((zrU.f t249 t262).bind fun t265 => (zaK.j1 kj4 t249 t265 s0_0 t263 t264)) = some (r1, r2, r3) := H
     have A19 := zpS A190
     clear A190
     replace H := Option.bind_eq_some_iff.mp H
     obtain ⟨t265, A200, H⟩ := H
     replace H : (zaK.j1 kj4 t249 t265 s0_0 t263 t264) = some (r1, r2, r3) := H
     have A20 := zpS A200
     clear A200
     have H' := zpS H
     clear H
     go_wp2_with (first | ((with_reducible refine zgL (f := 87) rfl ?_); refine zqQ (some 38) rfl rfl Try.func87 (by kernel_rfl) rfl #[.pointer (some ⟨g, 0, none⟩), .int .i64 (wrap64 (1 + t240))] rfl (by (try simp only [List.map_toArray, List.map_cons, List.map_nil]); first | done | rfl | (simp only [List.length_drop, List.length_take]; rfl)) ?_; (with_reducible refine (zcB.calls g s0_0 t260 t261 (wrap64 (1 + t240)) t262 t263 t264 w0 _ ?side1 ?side2 A19.out).mono ?_); (case side1 => repeat (first | (with_reducible first | exact HI0.out | apply zxI.alloc | apply zxI.drewN | apply zxI.drew | apply zxI.set_1 | apply zxI.set_2) | exact HI0.out)); (case side2 => repeat (first | (with_reducible first | exact HB.out | apply znU | apply zkZ | apply zvF | refine zjF ?_ (zxI.ge HI0.out)) | exact HB.out)); rintro e w21 ⟨rfl, hi, hb, hk⟩; refine ⟨_, rfl, ?_⟩; have n0_ := zpS (Kd.R_mono (Kd.R_keep (zxI.apart (show zxI w0 _ g s0_0 t260 t261 from by repeat (first | (with_reducible first | exact HI0.out | apply zxI.alloc | apply zxI.drewN | apply zxI.drew | apply zxI.set_1 | apply zxI.set_2) | exact HI0.out)) (by (with_reducible repeat (first | apply Kd.R_alloc | apply Kd.R_drewN | apply Kd.R_drew)); exact HO251.out) (by decide)) hk (fun _ h => h.2)) (fun _ h => h.1)); have n1_ := zpS (Kd.R_mono (Kd.R_keep (zxI.apart (show zxI w0 _ g s0_0 t260 t261 from by repeat (first | (with_reducible first | exact HI0.out | apply zxI.alloc | apply zxI.drewN | apply zxI.drew | apply zxI.set_1 | apply zxI.set_2) | exact HI0.out)) (by (with_reducible repeat (first | apply Kd.R_alloc | apply Kd.R_drewN | apply Kd.R_drew)); exact HO256.out) (by decide)) hk (fun _ h => h.2)) (fun _ h => h.1)); have n2_ := zpS (zwG.trans (by repeat (first | (with_reducible first | exact HK.out | apply zwG.set_ | apply zeS | apply zwU | apply zbV) | exact HK.out)) hk (.inl rfl)); have n3_ := zpS (hb); have n4_ := zpS (hi); clear HO251; clear HO256; clear HK; clear HB; clear HI0; have HO251 := n0_; have HO256 := n1_; have HK := n2_; have HB := n3_; have HI0 := n4_; clear n0_ n1_ n2_ n3_ n4_; (try clear hb); (try clear hb2); obtain ⟨Ao22, co22, eo22⟩ := Kd.R_slice HO251.out; subst eo22) | ((with_reducible refine zgL (f := 89) rfl ?_); refine zqQ (some 41) rfl rfl Try.func89 (by kernel_rfl) rfl #[.slice Ao22 t249.length co22, .int .i64 t262] rfl (by (try simp only [List.map_toArray, List.map_cons, List.map_nil]); first | done | rfl | (simp only [List.length_drop, List.length_take]; rfl)) ?_; (with_reducible refine (zrU.calls _ _ t249 t262 t265 _ ?side1 ?side2 A20.out).mono ?_); (case side1 => repeat (first | exact (Kd.R_reads' HO251.out).2.2 | (with_reducible refine Kd.C_alloc ?_ _) | (with_reducible refine Kd.C_drewN ?_ _) | (with_reducible refine Kd.C_drew ?_))); (case side2 => exact (Kd.R_reads' HO251.out).2.1); rintro e w23 ⟨v266, rfl, ho0, hb⟩; refine ⟨_, rfl, ?_⟩; have n0_ := zpS (Kd.R_elder' (by (with_reducible repeat (first | apply Kd.R_alloc | apply Kd.R_drewN | apply Kd.R_drew)); exact HO251.out) (Kd.R_base ho0) hb); have n1_ := zpS (Kd.R_elder' (by (with_reducible repeat (first | apply Kd.R_alloc | apply Kd.R_drewN | apply Kd.R_drew)); exact HO256.out) (Kd.R_base ho0) hb); have n2_ := zpS (Kd.R_lower (Kd.R_new' (Kd.R_new' ho0 (Kd.R_lt (by (with_reducible repeat (first | apply Kd.R_alloc | apply Kd.R_drewN | apply Kd.R_drew)); exact HO251.out))) (Kd.R_lt (by (with_reducible repeat (first | apply Kd.R_alloc | apply Kd.R_drewN | apply Kd.R_drew)); exact HO256.out))) (keep_size (w := w) (g := g) (row := none) (by repeat (first | (with_reducible first | exact HK.out | apply zwG.set_ | apply zeS | apply zwU | apply zbV) | exact HK.out)))); have n3_ := zpS (zxI.below (by repeat (first | (with_reducible first | exact HI0.out | apply zxI.alloc | apply zxI.drewN | apply zxI.drew | apply zxI.set_1 | apply zxI.set_2) | exact HI0.out)) hb); have n4_ := zpS (zwG.trans (by repeat (first | (with_reducible first | exact HK.out | apply zwG.set_ | apply zeS | apply zwU | apply zbV) | exact HK.out)) (zwG.of_below hb g none) (.inl rfl)); have n5_ := zpS (zkR (by repeat (first | (with_reducible first | exact HB.out | apply znU | apply zkZ | apply zvF | refine zjF ?_ (zxI.ge HI0.out)) | exact HB.out)) hb); clear HO251; clear HO256; clear HI0; clear HK; clear HB; have HO251 := n0_; have HO256 := n1_; have HO267 := n2_; have HI0 := n3_; have HK := n4_; have HB := n5_; clear n0_ n1_ n2_ n3_ n4_ n5_; (try clear hb); (try clear hb2); (try clear ho0)))
     go_meet
     case rel => exact ⟨_, (t265), (t263), (t264), H', ⟨by have := HJ4.out; first | omega | exact Nat.le_refl _⟩, ⟨by (with_reducible repeat (first | apply Kd.R_alloc | apply Kd.R_drewN | apply Kd.R_drew)); exact Kd.R_mono HO251.out (fun _ hk => hk.2)⟩, ⟨by (with_reducible repeat (first | apply Kd.R_alloc | apply Kd.R_drewN | apply Kd.R_drew)); exact Kd.R_mono HO267.out (fun _ hk => hk.1.2)⟩, ⟨by repeat (first | (with_reducible first | exact HI0.out | apply zxI.alloc | apply zxI.drewN | apply zxI.drew | apply zxI.set_1 | apply zxI.set_2) | exact HI0.out)⟩, ⟨by repeat (first | (with_reducible first | exact HK.out | apply zwG.set_ | apply zeS | apply zwU | apply zbV) | exact HK.out)⟩, ⟨by repeat (first | (with_reducible first | exact HB.out | apply znU | apply zkZ | apply zvF | refine zjF ?_ (zxI.ge HI0.out)) | exact HB.out)⟩⟩
    ·replace c18 := Bool.eq_false_iff.mpr c18
     subst c18
     have H1 : (zaK.j1 kj4 t249 t254 s0_0 t260 t261) = some (r1, r2, r3) := by rw [if_neg (show ¬ (false = true) by decide)] at H; exact H
     clear H
     have H := H1
     clear H1
     have H' := zpS H
     clear H
     go_wp2
     go_meet
     case rel => exact ⟨_, (t254), (t260), (t261), H', ⟨by have := HJ4.out; first | omega | exact Nat.le_refl _⟩, ⟨by (with_reducible repeat (first | apply Kd.R_alloc | apply Kd.R_drewN | apply Kd.R_drew)); exact Kd.R_mono HO251.out (fun _ hk => hk.2)⟩, ⟨by (with_reducible repeat (first | apply Kd.R_alloc | apply Kd.R_drewN | apply Kd.R_drew)); exact Kd.R_mono HO256.out (fun _ hk => hk.2)⟩, ⟨by repeat (first | (with_reducible first | exact HI0.out | apply zxI.alloc | apply zxI.drewN | apply zxI.drew | apply zxI.set_1 | apply zxI.set_2) | exact HI0.out)⟩, ⟨by repeat (first | (with_reducible first | exact HK.out | apply zwG.set_ | apply zeS | apply zwU | apply zbV) | exact HK.out)⟩, ⟨by repeat (first | (with_reducible first | exact HB.out | apply znU | apply zkZ | apply zvF | refine zjF ?_ (zxI.ge HI0.out)) | exact HB.out)⟩⟩
   case rest =>
    clear HC14
    try clear c1
    try clear p2
    try clear c5
    try clear c6
    try clear p6
    try clear c8
    try clear c18
    try clear p2
    try clear p6
    obtain ⟨kq, x8_13, x1001_13, x1002_13, HA, HJ13, HO_7, HO_8, HI0, HK, HB⟩ := hcut
    cases kq with
    | zero => exact absurd HA.out (by simp [zaK.j1])
    | succ kj13 =>
     have H := HA.out
     clear HA
     simp only [zaK.j1] at H
     obtain ⟨y268, hy268⟩ : ∃ y_ : List Int, y_ = (([] : List Int)) := ⟨_, rfl⟩
     replace H : (zaK.l0 kj13 t249 x8_13 y268 0 s0_0 x1001_13 x1002_13) = some (r1, r2, r3) := by first | (rw [hy268]; with_reducible exact H) | (have H2_ := (Option.bind_some _ _).symm.trans H; rw [hy268]; with_reducible exact H2_) | (have H2_ := (Option.bind_some _ _).symm.trans H; with_reducible exact H2_) | with_reducible exact H | (rw [hy268]; exact H) | exact H
     have Ny268 := zpS hy268
     clear hy268
     have H' := zpS H
     clear H
     go_wp2_with (first | ((with_reducible refine gate_dst (N := 42) rfl ?_); refine Kd.R_lit (Kd.int .i64) _ 2 ?hg (N := 42) ?hd (xs := ([] : List Int)) (zlR := []) (ok := fun _ => True) (okp := fun _ => True) ?hr ?hp (fun _ hk => hk) trivial (Below.refl _ _) (Nat.le_refl _) (by simp) ?_; (case hd => rfl); (case hg => rfl); (case hr => first | (go_simp; done) | (go_simp; rfl)); (case hp => exact (zfH.none _ _)); intro v269 w24 ho25 hb hg_ hnew_; clear hg_ hnew_; (first | rw [← Ny268.out] at ho25 | (simp only [Int.reduceToNat] at ho25; rw [← Ny268.out] at ho25)); have n0_ := zpS (Kd.R_elder' (by (with_reducible repeat (first | apply Kd.R_alloc | apply Kd.R_drewN | apply Kd.R_drew)); exact HO_7.out) (Kd.R_base ho25) hb); have n1_ := zpS (Kd.R_elder' (by (with_reducible repeat (first | apply Kd.R_alloc | apply Kd.R_drewN | apply Kd.R_drew)); exact HO_8.out) (Kd.R_base ho25) hb); have n2_ := zpS (Kd.R_lower (Kd.R_new' (Kd.R_new' ho25 (Kd.R_lt (by (with_reducible repeat (first | apply Kd.R_alloc | apply Kd.R_drewN | apply Kd.R_drew)); exact HO_7.out))) (Kd.R_lt (by (with_reducible repeat (first | apply Kd.R_alloc | apply Kd.R_drewN | apply Kd.R_drew)); exact HO_8.out))) (keep_size (w := w) (g := g) (row := none) (by repeat (first | (with_reducible first | exact HK.out | apply zwG.set_ | apply zeS | apply zwU | apply zbV) | exact HK.out)))); have n3_ := zpS (zxI.below (by repeat (first | (with_reducible first | exact HI0.out | apply zxI.alloc | apply zxI.drewN | apply zxI.drew | apply zxI.set_1 | apply zxI.set_2) | exact HI0.out)) hb); have n4_ := zpS (zwG.trans (by repeat (first | (with_reducible first | exact HK.out | apply zwG.set_ | apply zeS | apply zwU | apply zbV) | exact HK.out)) (zwG.of_below hb g none) (.inl rfl)); have n5_ := zpS (zkR (by repeat (first | (with_reducible first | exact HB.out | apply znU | apply zkZ | apply zvF | refine zjF ?_ (zxI.ge HI0.out)) | exact HB.out)) hb); clear HO_7; clear HO_8; clear HI0; clear HK; clear HB; have HO_7 := n0_; have HO_8 := n1_; have HO270 := n2_; have HI0 := n3_; have HK := n4_; have HB := n5_; clear n0_ n1_ n2_ n3_ n4_ n5_; clear hb ho25))
     (try go_simp)
     go_loopg [10, 11] kj13 (fun kq v10 v11 w' => ∃ (x10_3 : List Int) (x11_3 : Int), v11 = .int .i64 x11_3 ∧ Aside0 (zaK.l0 kq t249 x8_13 x10_3 x11_3 s0_0 x1001_13 x1002_13 = some (r1, r2, r3)) ∧ Aside0 (kq ≤ kj13) ∧ Aside0 (Kd.R (Kd.int .i64) 2 w' w.heap.size (fun k_ => some k_ ≠ (u8 : Value).ownBlock ∧ some k_ ≠ (v10 : Value).ownBlock) v250 t249) ∧ Aside0 (Kd.R (Kd.int .i64) 2 w' w.heap.size (fun k_ => some k_ ≠ (v250 : Value).ownBlock ∧ some k_ ≠ (v10 : Value).ownBlock) u8 x8_13) ∧ Aside0 (Kd.R (Kd.int .i64) 2 w' w.heap.size (fun k_ => some k_ ≠ (v250 : Value).ownBlock ∧ some k_ ≠ (u8 : Value).ownBlock) v10 x10_3) ∧ Aside0 (zxI w0 w' g s0_0 x1001_13 x1002_13) ∧ Aside0 (zwG w w' g none) ∧ Aside0 (Below w0.heap.size w0 w'))
     case atStart => exact ⟨(y268), (0), (by first | rfl | (simp; done) | (simp [*]; done)), H', ⟨Nat.le_refl _⟩, ⟨by (with_reducible repeat (first | apply Kd.R_alloc | apply Kd.R_drewN | apply Kd.R_drew)); exact HO_7.out⟩, ⟨by (with_reducible repeat (first | apply Kd.R_alloc | apply Kd.R_drewN | apply Kd.R_drew)); exact HO_8.out⟩, ⟨by (with_reducible repeat (first | apply Kd.R_alloc | apply Kd.R_drewN | apply Kd.R_drew)); exact Kd.R_mono HO270.out (fun _ hk => ⟨hk.1.2, hk.2⟩)⟩, ⟨by repeat (first | (with_reducible first | exact HI0.out | apply zxI.alloc | apply zxI.drewN | apply zxI.drew | apply zxI.set_1 | apply zxI.set_2) | exact HI0.out)⟩, ⟨by repeat (first | (with_reducible first | exact HK.out | apply zwG.set_ | apply zeS | apply zwU | apply zbV) | exact HK.out)⟩, ⟨by repeat (first | (with_reducible first | exact HB.out | apply znU | apply zkZ | apply zvF | refine zjF ?_ (zxI.ge HI0.out)) | exact HB.out)⟩⟩
     case round =>
      clear H'
      try clear c1
      try clear p2
      try clear c5
      try clear c6
      try clear p6
      try clear c8
      try clear c18
      try clear p2
      try clear p6
      obtain ⟨x10_3, x11_3, rfl, HA, HK3, HO_7, HO_8, HO_10, HI0, HK, HB⟩ := hrel
      cases gk with
      | zero => exact absurd HA.out (by simp [zaK.l0])
      | succ k3 =>
       have H := HA.out
       clear HA
       simp only [zaK.l0] at H
       by_cases c26 : x11_3 < (t249.length : Int)
       ·rw [if_pos c26] at H
        have c26b0 : decide (x11_3 < (t249.length : Int)) = true := decide_eq_true c26
        clear c26
        by_cases c27 : 0 ≤ x11_3
        ·rw [if_pos c27] at H
         have c27b0 : decide (0 ≤ x11_3) = true := decide_eq_true c27
         clear c27
         by_cases c28 : x11_3 < (x8_13.length : Int)
         ·rw [if_pos c28] at H
          have c28b0 : decide (x11_3 < (x8_13.length : Int)) = true := decide_eq_true c28
          clear c28
          obtain ⟨y273, hy273⟩ : ∃ y_ : List Int, y_ = (([rd t249 x11_3, rd x8_13 x11_3] : List Int)) := ⟨_, rfl⟩
          replace H : (if x10_3.length + y273.length < 17592186044416 then (zaK.l0 k3 t249 x8_13 (x10_3 ++ y273) (wrap64 (x11_3 + 1)) s0_0 x1001_13 x1002_13) else (none)) = some (r1, r2, r3) := by first | (rw [hy273]; with_reducible exact H) | (have H2_ := (Option.bind_some _ _).symm.trans H; rw [hy273]; with_reducible exact H2_) | (have H2_ := (Option.bind_some _ _).symm.trans H; with_reducible exact H2_) | with_reducible exact H | (rw [hy273]; exact H) | exact H
          have Ny273 := zpS hy273
          clear hy273
          by_cases c29 : x10_3.length + y273.length < 17592186044416
          ·rw [if_pos c29] at H
           have LMc29 := zpS c29
           clear c29
           obtain ⟨y276, hy276⟩ : ∃ y_ : List Int, y_ = (x10_3 ++ y273) := ⟨_, rfl⟩
           replace H : (zaK.l0 k3 t249 x8_13 y276 (wrap64 (x11_3 + 1)) s0_0 x1001_13 x1002_13) = some (r1, r2, r3) := by first | (rw [hy276]; with_reducible exact H) | (have H2_ := (Option.bind_some _ _).symm.trans H; rw [hy276]; with_reducible exact H2_) | (have H2_ := (Option.bind_some _ _).symm.trans H; with_reducible exact H2_) | with_reducible exact H | (rw [hy276]; exact H) | exact H
           have Ny276 := zpS hy276
           clear hy276
           have H' := zpS H
           clear H
           obtain ⟨Ao30, co30, eo30⟩ := Kd.R_slice HO_7.out
           subst eo30
           try go_wp2
           have n0_ := zpS (Kd.R_drew HO_7.out)
           have n1_ := zpS (Kd.R_drew HO_8.out)
           have n2_ := zpS (Kd.R_drew HO_10.out)
           have n3_ := zpS (zxI.drew HI0.out)
           have n4_ := zpS (zwU HK.out)
           have n5_ := zpS (zvF HB.out)
           clear HO_7
           clear HO_8
           clear HO_10
           clear HI0
           clear HK
           clear HB
           have HO_7 := n0_
           have HO_8 := n1_
           have HO_10 := n2_
           have HI0 := n3_
           have HK := n4_
           have HB := n5_
           clear n0_ n1_ n2_ n3_ n4_ n5_
           have p271 : 0 ≤ (x11_3 : Int) := of_decide_eq_true (by first | (with_reducible assumption) | assumption)
           have q271 : x11_3 < (t249.length : Int) := of_decide_eq_true (by first | (with_reducible assumption) | assumption)
           obtain ⟨ad271, e271, hx271_0⟩ := Kd.at_int (Kd.R_reads' HO_7.out).2.2 x11_3 p271 q271
           cases e271
           replace p271 := eq_true p271
           replace q271 := eq_true q271
           obtain ⟨Ao32, co32, eo32⟩ := Kd.R_slice HO_8.out
           (first | subst eo32 | (injection eo32 with f1_ f2_ f3_; have f4_ := f1_.symm; have f5_ := f3_.symm; clear f1_ f2_ f3_; subst f4_; subst f5_))
           have p272 : 0 ≤ (x11_3 : Int) := of_decide_eq_true (by first | (with_reducible assumption) | assumption)
           have q272 : x11_3 < (x8_13.length : Int) := of_decide_eq_true (by first | (with_reducible assumption) | assumption)
           obtain ⟨ad272, e272, hx272_0⟩ := Kd.at_int (Kd.R_reads' HO_8.out).2.2 x11_3 p272 q272
           cases e272
           replace p272 := eq_true p272
           replace q272 := eq_true q272
           refine start_ (n := 12) (S := fun w' => w'.cell? (ad271.add (x11_3).toNat) = some (.int .i64 (rd t249 x11_3)) ∧ w'.cell? (ad272.add (x11_3).toNat) = some (.int .i64 (rd x8_13 x11_3))) (ds := []) #[false, false, false, false, false, false, false, false, false, false, false, false] (by kernel_rfl) rfl rfl ⟨hx271_0, hx272_0⟩ (fun hHeld => ?_); refine with_tabW zaK.tab14 zaK.bits14 (fun HT_ HW_ => ?_)
           generalize wr.drew = w31 at HO_7 HO_8 HO_10 HI0 HK HB hx271_0 hx272_0 hHeld ⊢
           refine pu_ 0 (some 49) (bl_ 12 1) ?_
           refine pu_ 1 (some 50) (bl_ 12 3) ?_
           refine pu_ 2 (some 51) (bl_ 12 7) ?_
           refine pu_ 3 (some 52) (bl_ 12 15) ?_
           refine pu_ 5 (some 54) (bl_ 12 47) ?_
           refine pu_ 6 (some 55) (bl_ 12 111) ?_
           refine pu_ 7 (some 56) (bl_ 12 239) ?_
           refine tk2_ 4 (some 53) (bl_ 12 255) hHeld ?_
           refine tk2_ 8 (some 57) (bl_ 12 511) hHeld ?_
           refine one_ (i := 9) (N := some 58) (bl_ 12 1023) rfl rfl (one_of HT_.out (by kernel_rfl)) (by decide) (fun K hK => ?_)
           refine Kd.R_lit_step (Kd.int .i64) _ 2 ?hg (N := 58) ?hd (xs := ([rd t249 x11_3, rd x8_13 x11_3] : List Int)) (zlR := [.int .i64 (rd t249 x11_3), .int .i64 (rd x8_13 x11_3)]) (ok := fun _ => True) (okp := fun _ => True) ?hr ?hp (fun _ hk => hk) trivial (Below.refl _ _) (Nat.le_refl _) (by simp) ?_; (case hd => rfl); (case hg => rfl); (case hr => first | (go_simp; done) | (go_simp; rfl)); (case hp => exact (zfH.one (show Kd.M (Kd.int .i64) _ _ _ (rd t249 x11_3) [.int .i64 (rd t249 x11_3)] from rfl) (zfH.one (show Kd.M (Kd.int .i64) _ _ _ (rd x8_13 x11_3) [.int .i64 (rd x8_13 x11_3)] from rfl) (zfH.none _ _))))
           intro v274 w33 ho34 hb hg_ hnew_
           have HS0_ := (hb.cell (World.block_lt_of_cell? _ _ (hHeld.1))).trans (hHeld.1)
           have HS1_ := (hb.cell (World.block_lt_of_cell? _ _ (hHeld.2))).trans (hHeld.2)
           clear hg_ hnew_
           (first | rw [← Ny273.out] at ho34 | (simp only [Int.reduceToNat] at ho34; rw [← Ny273.out] at ho34))
           have n0_ := zpS (Kd.R_elder' (by (with_reducible repeat (first | apply Kd.R_alloc | apply Kd.R_drewN | apply Kd.R_drew)); exact HO_7.out) (Kd.R_base ho34) hb)
           have n1_ := zpS (Kd.R_elder' (by (with_reducible repeat (first | apply Kd.R_alloc | apply Kd.R_drewN | apply Kd.R_drew)); exact HO_8.out) (Kd.R_base ho34) hb)
           have n2_ := zpS (Kd.R_elder' (by (with_reducible repeat (first | apply Kd.R_alloc | apply Kd.R_drewN | apply Kd.R_drew)); exact HO_10.out) (Kd.R_base ho34) hb)
           have n3_ := zpS (Kd.R_lower (Kd.R_new' (Kd.R_new' (Kd.R_new' ho34 (Kd.R_lt (by (with_reducible repeat (first | apply Kd.R_alloc | apply Kd.R_drewN | apply Kd.R_drew)); exact HO_7.out))) (Kd.R_lt (by (with_reducible repeat (first | apply Kd.R_alloc | apply Kd.R_drewN | apply Kd.R_drew)); exact HO_8.out))) (Kd.R_lt (by (with_reducible repeat (first | apply Kd.R_alloc | apply Kd.R_drewN | apply Kd.R_drew)); exact HO_10.out))) (keep_size (w := w) (g := g) (row := none) (by repeat (first | (with_reducible first | exact HK.out | apply zwG.set_ | apply zeS | apply zwU | apply zbV) | exact HK.out))))
           have n4_ := zpS (zxI.below (by repeat (first | (with_reducible first | exact HI0.out | apply zxI.alloc | apply zxI.drewN | apply zxI.drew | apply zxI.set_1 | apply zxI.set_2) | exact HI0.out)) hb)
           have n5_ := zpS (zwG.trans (by repeat (first | (with_reducible first | exact HK.out | apply zwG.set_ | apply zeS | apply zwU | apply zbV) | exact HK.out)) (zwG.of_below hb g none) (.inl rfl))
           have n6_ := zpS (zkR (by repeat (first | (with_reducible first | exact HB.out | apply znU | apply zkZ | apply zvF | refine zjF ?_ (zxI.ge HI0.out)) | exact HB.out)) hb)
           clear HO_7
           clear HO_8
           clear HO_10
           clear HI0
           clear HK
           clear HB
           have HO_7 := n0_
           have HO_8 := n1_
           have HO_10 := n2_
           have HO275 := n3_
           have HI0 := n4_
           have HK := n5_
           have HB := n6_
           clear n0_ n1_ n2_ n3_ n4_ n5_ n6_
           clear hb ho34
           obtain ⟨Ao36, co36, eo36⟩ := Kd.R_slice HO275.out
           (first | subst eo36 | (injection eo36 with f1_ f2_ f3_; have f4_ := f1_.symm; have f5_ := f3_.symm; clear f1_ f2_ f3_; subst f4_; subst f5_))
           refine hK.out _ _ ⟨HS0_, HS1_⟩ (fun hHeld => ?_)
           clear hK K
           refine norm_ (a' := ?_) ?_ ?_
           rotate_left
           ·show Act.put _ (some 58) _ = _
            simp only [Act.put, List.setIfInBounds_toArray, List.set_cons_zero, List.set_cons_succ, zcO, i32_w]
            rfl
           refine one_ (i := 10) (N := some 59) (bl_ 12 2047) rfl rfl (one_of HT_.out (by kernel_rfl)) (by decide) (fun K hK => ?_)
           refine Kd.R_append_rows_step (Kd.int .i64) w.heap.size (by rfl) (.tmp 49) (.tmp 58) 22 2 (.int .i64 0) 8 rfl Try.underlying22 info2 rfl (by decide) (by omega) u10 x10_3 y273 _ _ _ (fun k_ => some k_ ≠ (.slice (some ad271) t249.length co30 : Value).ownBlock ∧ some k_ ≠ (.slice (some ad272) x8_13.length co32 : Value).ownBlock ∧ some k_ ≠ (.slice Ao36 y273.length co36 : Value).ownBlock) (fun _ => False) rfl rfl ?aO ?aR (fun _ _ h => h) (fun _ h => h.elim) ?aF (Below.refl _ _) ?aS ?aL ?_
           (case aR => repeat (first | exact (Kd.R_reads' HO275.out).2.2 | (with_reducible refine Kd.C_alloc ?_ _) | (with_reducible refine Kd.C_drewN ?_ _) | (with_reducible refine Kd.C_drew ?_)))
           (case aF => exact (fun k_ hk => ⟨Kd.fresh' (Kd.R_lt (by (with_reducible repeat (first | apply Kd.R_alloc | apply Kd.R_drewN | apply Kd.R_drew)); exact HO_7.out)) k_ hk, Kd.fresh' (Kd.R_lt (by (with_reducible repeat (first | apply Kd.R_alloc | apply Kd.R_drewN | apply Kd.R_drew)); exact HO_8.out)) k_ hk, Kd.fresh' (Kd.R_lt (by (with_reducible repeat (first | apply Kd.R_alloc | apply Kd.R_drewN | apply Kd.R_drew)); exact HO275.out)) k_ hk⟩))
           (case aO => exact (by (with_reducible repeat (first | apply Kd.R_alloc | apply Kd.R_drewN | apply Kd.R_drew)); exact Kd.R_mono HO_10.out (fun _ hk => ⟨hk.1.1, ⟨hk.1.2, hk.2⟩⟩)))
           (case aS => exact (keep_size (w := w) (g := g) (row := none) (by repeat (first | (with_reducible first | exact HK.out | apply zwG.set_ | apply zeS | apply zwU | apply zbV) | exact HK.out))))
           (case aL => have := LMc29.out; omega)
           intro v277 w35 ho hb hg hat
           have HS0_ := cell_grown hg (hHeld.1) (by (first | rw [zhT] | (show some (Addr.add _ _).block ≠ _; rw [zhT]) | skip); have h_ := HO_7.out.1 _ rfl; revert h_; (try simp only [and_imp]); intros; assumption)
           have HS1_ := cell_grown hg (hHeld.2) (by (first | rw [zhT] | (show some (Addr.add _ _).block ≠ _; rw [zhT]) | skip); have h_ := HO_8.out.1 _ rfl; revert h_; (try simp only [and_imp]); intros; assumption)
           rw [← Ny276.out] at ho
           have n0_ := zpS (Kd.R_after (ok := (fun k_ => some k_ ≠ (.slice (some ad272) x8_13.length co32 : Value).ownBlock ∧ some k_ ≠ (.slice Ao36 y273.length co36 : Value).ownBlock)) (by (with_reducible repeat (first | apply Kd.R_alloc | apply Kd.R_drewN | apply Kd.R_drew)); exact Kd.R_mono HO_7.out (fun _ hk => ⟨⟨hk.1.1, hk.2⟩, hk.1.2⟩)) hg hat)
           have n1_ := zpS (Kd.R_after (ok := (fun k_ => some k_ ≠ (.slice (some ad271) t249.length co30 : Value).ownBlock ∧ some k_ ≠ (.slice Ao36 y273.length co36 : Value).ownBlock)) (by (with_reducible repeat (first | apply Kd.R_alloc | apply Kd.R_drewN | apply Kd.R_drew)); exact Kd.R_mono HO_8.out (fun _ hk => ⟨⟨hk.1.1, hk.2⟩, hk.1.2⟩)) hg hat)
           have n2_ := zpS (zxI.grown (by repeat (first | (with_reducible first | exact HI0.out | apply zxI.alloc | apply zxI.drewN | apply zxI.drew | apply zxI.set_1 | apply zxI.set_2) | exact HI0.out)) hg (zxI.own_ne HI0.out HO_10.out (by decide)))
           have n3_ := zpS (Kd.R_after (ok := (fun k_ => some k_ ≠ (.slice (some ad271) t249.length co30 : Value).ownBlock ∧ some k_ ≠ (.slice (some ad272) x8_13.length co32 : Value).ownBlock)) (by (with_reducible repeat (first | apply Kd.R_alloc | apply Kd.R_drewN | apply Kd.R_drew)); exact Kd.R_mono HO275.out (fun _ hk => ⟨⟨hk.1.1.2, hk.1.2⟩, hk.2⟩)) hg hat)
           have n4_ := zpS (below_weaken (by repeat (first | (with_reducible first | exact HB.out | apply znU | apply zkZ | apply zvF | refine zjF ?_ (zxI.ge HI0.out)) | exact HB.out)) HL.out hb)
           have n5_ := zpS (zwG.trans (by repeat (first | (with_reducible first | exact HK.out | apply zwG.set_ | apply zeS | apply zwU | apply zbV) | exact HK.out)) (zwG.of_grown hg g) (Kd.R_base2 HO_10.out))
           have n6_ := zpS (ho)
           clear HO_7
           clear HO_8
           clear HI0
           clear HO275
           clear HB
           clear HK
           clear HO_10
           have HO_7 := n0_
           have HO_8 := n1_
           have HI0 := n2_
           have HO275 := n3_
           have HB := n4_
           have HK := n5_
           have HO278 := n6_
           clear n0_ n1_ n2_ n3_ n4_ n5_ n6_
           clear ho hb hg hat
           refine hK.out _ _ ⟨HS0_, HS1_⟩ (fun hHeld => ?_)
           clear hK K
           refine norm_ (a' := ?_) ?_ ?_
           rotate_left
           ·show Act.put _ (some 59) _ = _
            simp only [Act.put, List.setIfInBounds_toArray, List.set_cons_zero, List.set_cons_succ, zcO, i32_w]
            rfl
           refine pu_ 11 (some 10) (bl_ 12 4095) ?_
           refine done_ (done_of HT_.out (by kernel_rfl)) ?_
           try go_wp2
           go_roundg k3
           case measure => have := HJ4.out; have := HJ13.out; have := HK3.out; omega
           case rel => exact ⟨(y276), (wrap64 (x11_3 + 1)), (by first | rfl | (simp; done) | (simp [*]; done)), H', ⟨by have := HJ4.out; have := HJ13.out; have := HK3.out; omega⟩, ⟨by (with_reducible repeat (first | apply Kd.R_alloc | apply Kd.R_drewN | apply Kd.R_drew)); exact Kd.R_mono HO_7.out (fun _ hk => ⟨hk.1.1, hk.2⟩)⟩, ⟨by (with_reducible repeat (first | apply Kd.R_alloc | apply Kd.R_drewN | apply Kd.R_drew)); exact Kd.R_mono HO_8.out (fun _ hk => ⟨hk.1.1, hk.2⟩)⟩, ⟨by (with_reducible repeat (first | apply Kd.R_alloc | apply Kd.R_drewN | apply Kd.R_drew)); exact Kd.R_mono HO278.out (fun _ hk => ⟨hk.1, hk.2.1⟩)⟩, ⟨by repeat (first | (with_reducible first | exact HI0.out | apply zxI.alloc | apply zxI.drewN | apply zxI.drew | apply zxI.set_1 | apply zxI.set_2) | exact HI0.out)⟩, ⟨by repeat (first | (with_reducible first | exact HK.out | apply zwG.set_ | apply zeS | apply zwU | apply zbV) | exact HK.out)⟩, ⟨by repeat (first | (with_reducible first | exact HB.out | apply znU | apply zkZ | apply zvF | refine zjF ?_ (zxI.ge HI0.out)) | exact HB.out)⟩⟩
          ·rw [if_neg c29] at H
           exact absurd H (by simp)
         ·rw [if_neg c28] at H
          exact absurd H (by simp)
        ·rw [if_neg c27] at H
         exact absurd H (by simp)
       ·rw [if_neg c26] at H
        have c26b0 : decide (x11_3 < (t249.length : Int)) = false := decide_eq_false c26
        clear c26
        simp only [Option.some.injEq, Prod.mk.injEq] at H
        obtain ⟨rfl, rfl, rfl⟩ := H
        obtain ⟨Ao37, co37, eo37⟩ := Kd.R_slice HO_7.out
        subst eo37
        go_wp2
        go_ret
        exact ⟨_, by first | rfl | (simp [ziS, znJ] <;> rfl) | (simp [*, ziS, znJ] <;> rfl), by (with_reducible repeat (first | apply Kd.R_alloc | apply Kd.R_drewN | apply Kd.R_drew)); exact Kd.R_mono HO_10.out (fun _ hk => trivial), by repeat (first | (with_reducible first | exact HI0.out | apply zxI.alloc | apply zxI.drewN | apply zxI.drew | apply zxI.set_1 | apply zxI.set_2) | exact HI0.out), by repeat (first | (with_reducible first | exact HB.out | apply znU | apply zkZ | apply zvF | refine zjF ?_ (zxI.ge HI0.out)) | exact HB.out), by repeat (first | (with_reducible first | exact HK.out | apply zwG.set_ | apply zeS | apply zwU | apply zbV) | exact HK.out)⟩

def zqP.f (l0 : List Int) : Option (List Int × Int × Int) := some (l0, 0, 0)
set_option maxHeartbeats 8000000 in
set_option maxRecDepth 100000 in
theorem zqP.calls (A0 : Option Addr) (c0 : Nat) (l0 : List Int) (r1 : List Int) (r2 : Int) (r3 : Int) (w0 w : World) (hB : Below w0.heap.size w0 w) (hr0 : Kd.C (Kd.int .u8) w0 A0 l0.length l0) (hc0 : l0.length ≤ c0) (h : zqP.f l0 = some (r1, r2, r3)) :
  Calls Try.prog 54 #[.slice A0 l0.length c0] w fun e w' => ∃ g_ : Nat, e = .returned (.pointer (some ⟨g_, 0, none⟩)) ∧ zxI w0 w' g_ r1 r2 r3 ∧ Below w0.heap.size w0 w' ∧ Below w.heap.size w w' := by
 have hu83 := Try.underlying83
 have HR0 := zpS hr0
 have HC0 := zpS hc0
 clear hr0 hc0
 have HBW := zpS (Below.refl w.heap.size w)
 have HW0 := zpS hB.size
 have HB := zpS hB
 clear hB
 have H : (some (l0, 0, 0)) = some (r1, r2, r3) := h
 clear h
 simp only [Option.some.injEq, Prod.mk.injEq] at H
 obtain ⟨rfl, rfl, rfl⟩ := H
 go_enter Try.func54, Try.ntmps54
 go_wp2_with (first | ((with_reducible refine gate_dst (N := 5) rfl ?_); refine bx_ 5 #[.slice A0 l0.length c0, .int .i64 0, .int .u64 0] 83 ?_; intro gb279 hg w2 hbox hb; have n0_ := zpS (zkR HBW.out hb); have n1_ := (ns_ hb); have n2_ := zpS (hbox); have n3_ := zpS ((by rw [hg]; exact (zuA (by repeat (first | (with_reducible first | exact HBW.out | apply znU | apply zkZ | apply zvF) | exact HBW.out))) : w.heap.size ≤ gb279)); have n4_ := zpS ((Nat.le_trans HW0.out (by rw [hg]; exact (zuA (by repeat (first | (with_reducible first | exact HBW.out | apply znU | apply zkZ | apply zvF) | exact HBW.out))) : w.heap.size ≤ gb279) : w0.heap.size ≤ gb279)); clear HBW; clear HB; have HBW := n0_; have HB := n1_; have BK279 := n2_; have GW279 := n3_; have GE279 := n4_; clear n0_ n1_ n2_ n3_ n4_; clear hb hbox hg))
 go_ret
 exact ⟨_, rfl, (show zxI w0 _ gb279 l0 0 0 from ⟨_, _, bk_, GE279.out, HR0.out⟩), bb_, by repeat (first | (with_reducible first | exact HBW.out | apply znU | apply zkZ | apply zvF | refine zjF ?_ GW279.out) | exact HBW.out)⟩

def zuK.f (k : Nat) (l0 : List Int) (a1 : Int) : Option (List Int) := (zqP.f l0).bind fun bt280 => ((zaK.f k bt280.1 bt280.2.1 bt280.2.2 a1).bind fun bt284 => (some bt284.1))
theorem zuK.mono : ∀ a0 a1 k, LeO (zuK.f k a0 a1) (zuK.f (k + 1) a0 a1) := by
 intro a0 a1 k
 unfold zuK.f
 repeat' first
   | (with_reducible exact zaK.mono _ _ _ _ _)
   | (with_reducible exact LeO.refl _)
   | (with_reducible exact LeO.none _)
   | (with_reducible refine LeO.ite ?_ ?_)
   | (with_reducible refine LeO.bind ?_ (fun _ => ?_))
   | exact zaK.mono _ _ _ _ _
   | exact LeO.none _
   | refine LeO.ite ?_ ?_
   | refine LeO.bind ?_ (fun _ => ?_)
set_option maxHeartbeats 8000000 in
set_option maxRecDepth 100000 in
theorem zuK.calls (k : Nat) (A0 : Option Addr) (c0 : Nat) (l0 : List Int) (a1 : Int) (r : List Int) (w : World) (hr0 : Kd.C (Kd.int .u8) w A0 l0.length l0) (hc0 : l0.length ≤ c0) (h : zuK.f k l0 a1 = some r) :
  Calls Try.prog 19 #[.slice A0 l0.length c0, .int .i64 a1] w fun e w' => ∃ v0_ : Value, e = .returned (v0_) ∧ Kd.R (Kd.int .i64) 2 w' w.heap.size (fun _ => True) v0_ r ∧ Below w.heap.size w w' := by
 have HR0 := zpS hr0
 have HC0 := zpS hc0
 clear hr0 hc0
 have HB := zpS (Below.refl w.heap.size w)
 have H : ((zqP.f l0).bind fun bt280 => ((zaK.f k bt280.1 bt280.2.1 bt280.2.2 a1).bind fun bt284 => (some bt284.1))) = some r := h
 clear h
 replace H := Option.bind_eq_some_iff.mp H
 obtain ⟨⟨t280, t281, t282⟩, A30, H⟩ := H
 replace H : ((zaK.f k t280 t281 t282 a1).bind fun bt284 => (some bt284.1)) = some r := H
 have A3 := zpS A30
 clear A30
 replace H := Option.bind_eq_some_iff.mp H
 obtain ⟨⟨t284, t287, t288⟩, A40, H⟩ := H
 replace H : (some t284) = some r := H
 have A4 := zpS A40
 clear A40
 obtain rfl := Option.some.inj H
 go_enter Try.func19, Try.ntmps19
 go_wp2_with (first | ((with_reducible refine zgL (f := 54) rfl ?_); refine zqQ (some 6) rfl rfl Try.func54 (by kernel_rfl) rfl #[.slice A0 l0.length c0] rfl (by (try simp only [List.map_toArray, List.map_cons, List.map_nil]); first | done | rfl | (simp only [List.length_drop, List.length_take]; rfl)) ?_; (with_reducible refine (zqP.calls _ _ l0 t280 t281 t282 w _ ?side1 ?side2 ?side3 A3.out).mono ?_); (case side1 => repeat (first | (with_reducible first | exact HB.out | apply znU | apply zkZ | apply zvF) | exact HB.out)); (case side2 => exact HR0.out); (case side3 => exact HC0.out); rintro e w5 ⟨g283, rfl, hi, hb, hb2⟩; refine ⟨_, rfl, ?_⟩; have n0_ := zpS (hb); have n1_ := zpS (hi); clear HB; have HB := n0_; have HI283 := n1_; clear n0_ n1_; (try clear hb); (try clear hb2)) | ((with_reducible refine zgL (f := 53) rfl ?_); refine zqQ (some 8) rfl rfl Try.func53 (by kernel_rfl) rfl #[.pointer (some ⟨g283, 0, none⟩), .int .i64 a1] rfl (by (try simp only [List.map_toArray, List.map_cons, List.map_nil]); first | done | rfl | (simp only [List.length_drop, List.length_take]; rfl)) ?_; (with_reducible refine (zaK.calls k g283 t280 t281 t282 a1 t284 t287 t288 w _ ?side1 ?side2 A4.out).mono ?_); (case side1 => repeat (first | (with_reducible first | exact HI283.out | apply zxI.alloc | apply zxI.drewN | apply zxI.drew | apply zxI.set_1 | apply zxI.set_2) | exact HI283.out)); (case side2 => repeat (first | (with_reducible first | exact HB.out | apply znU | apply zkZ | apply zvF | refine zjF ?_ (zxI.ge HI283.out)) | exact HB.out)); rintro e w6 ⟨v285, rfl, ho0, hi, hb, hk⟩; refine ⟨_, rfl, ?_⟩; have n0_ := zpS (Kd.R_lower ho0 (zuA (by repeat (first | (with_reducible first | exact HB.out | apply znU | apply zkZ | apply zvF | refine zjF ?_ (zxI.ge HI283.out)) | exact HB.out)))); have n1_ := zpS (hb); have n2_ := zpS (hi); clear HB; clear HI283; have HO286 := n0_; have HB := n1_; have HI283 := n2_; clear n0_ n1_ n2_; (try clear hb); (try clear hb2); (try clear ho0)))
 go_ret
 exact ⟨_, by first | rfl | (simp [ziS, znJ] <;> rfl) | (simp [*, ziS, znJ] <;> rfl), by (with_reducible repeat (first | apply Kd.R_alloc | apply Kd.R_drewN | apply Kd.R_drew)); exact HO286.out, by repeat (first | (with_reducible first | exact HB.out | apply znU | apply zkZ | apply zvF | refine zjF ?_ (zxI.ge HI283.out)) | exact HB.out)⟩

set_option maxHeartbeats 8000000 in
set_option maxRecDepth 100000 in
theorem impl_CountAssignments_clo_calls (v : Value) (g : Nat) (m : Int) (W : World) (hb : W.heap[g]? = some (.cells #[.int .i64 m] 2 (0, 0))) :
  Calls Try.prog 55 #[v, .pointer (some ⟨g, 0, none⟩)] W fun e w' => (∃ v0, e = .returned v0) ∧ w' = W.setCell ⟨g, 0, none⟩ (.int .i64 (wrap64 (m + 1))) := by
 have hc : W.cell? ⟨g, 0, none⟩ = some (.int .i64 m) := (zzS hb 0).trans rfl
 have hf := zjG hb 0
 have HB := zpS hb
 clear hb
 go_enter Try.func55, Try.ntmps55
 go_wp2
 exact bodyPost_end (v := .tuple #[]) (by simp [results, Try.results55, go_sem]) rfl ⟨⟨_, rfl⟩, rfl⟩

def ztF (n b i : Nat) : Int := 2 + ((b / 2 ^ (n - 1 - i) % 2 : Nat) : Int)
def zpF (n b : Nat) : List Int := (List.range n).map (ztF n b)
def zaC (k : Nat) (l : List Int) : Nat → Nat → Int → Option Int
 | 0, _, m => some m
 | d + 1, b, m => (zsK.f k l (zpF l.length b)).bind fun t => zaC k l d (b + 1) (if t = true then wrap64 (m + 1) else m)
def zeM (n b i : Nat) : List Int := (List.range i).map (ztF n b) ++ List.replicate (n - i) 0

theorem zgN (n b i : Nat) (h : i ≤ n) : (zeM n b i).length = n := by unfold zeM; simp; omega
theorem impl_CountAssignments_partK_zero (n b : Nat) : zeM n b 0 = List.replicate n 0 := by unfold zeM; simp
theorem impl_CountAssignments_partK_all (n b : Nat) : zeM n b n = zpF n b := by unfold zeM zpF; simp
theorem impl_CountAssignments_partK_set (n b i : Nat) (h : i < n) : (zeM n b i).set i (ztF n b i) = zeM n b (i + 1) := by
 unfold zeM
 rw [List.set_append_right _ _ (by simp), List.range_succ, List.map_append, show n - i = (n - (i + 1)) + 1 by omega, List.replicate_succ]
 simp
theorem zwB (n b : Nat) : (zpF n b).length = n := by unfold zpF; simp
theorem impl_CountAssignments_over_and (n : Int) : bits .and .i64 n 1 = n % 2 := by
 have h127 : (BitVec.ofInt 64 1).toNat = 2 ^ 1 - 1 := by decide
 have key : (BitVec.ofInt 64 n &&& BitVec.ofInt 64 1).toNat = (n % ((2 ^ 64 : Nat) : Int)).toNat % 2 ^ 1 := by
  rw [BitVec.toNat_and, BitVec.toNat_ofInt, h127, Nat.and_two_pow_sub_one_eq_mod]
 show IntKind.i64.wrap ((BitVec.ofInt 64 n &&& BitVec.ofInt 64 1).toNat : Nat) = n % 2
 rw [key, IntKind.wrap_i64]
 omega
theorem impl_CountAssignments_bit_eq (n b i : Nat) : wrap64 (2 + bits .and .i64 ((b : Int) / 2 ^ (n - 1 - i)) 1) = ztF n b i := by
 have e : (b : Int) / 2 ^ (n - 1 - i) = ((b / 2 ^ (n - 1 - i) : Nat) : Int) := by push_cast; rfl
 rw [e, impl_CountAssignments_over_and]
 unfold ztF wrap64
 omega
theorem zbJ (k : Nat) (A0 : Option Addr) (c0 : Nat) (l0 : List Int) (A1 : Option Addr) (c1 n : Nat) (l1 : List Int) (r : Bool) (w : World) (hl : l1.length = n) (hr0 : Kd.C (Kd.int .i64) w A0 l0.length l0) (hc0 : l0.length ≤ c0) (hr1 : ∃ A c, Value.slice A1 n c1 = .slice A l1.length c ∧ l1.length ≤ c ∧ Kd.C (Kd.int .i64) w A l1.length l1) (h : zsK.f k l0 l1 = some r) :
  Calls Try.prog 57 #[.slice A0 l0.length c0, .slice A1 n c1] w fun e w' => e = .returned (.bool r) ∧ Below w.heap.size w w' := by
 subst hl
 obtain ⟨A, c, e, hc1, hC⟩ := hr1
 cases e
 exact zsK.calls k (fun k_ => k_ < w.heap.size) A0 c0 l0 (fun k_ => k_ < w.heap.size) A1 c1 l1 r w (Kd.V_mk hc0 (Kd.C_F (Kd.heap_int .i64) hr0)) (Kd.V_mk hc1 (Kd.C_F (Kd.heap_int .i64) hC)) h
theorem impl_CountAssignments_two_pow (n : Nat) (h : n ≤ 16) : wrap64 ((2 : Int) ^ min n 64) = ((2 ^ n : Nat) : Int) := by
 rw [Nat.min_eq_left (by omega)]
 have h1 : (2 : Nat) ^ n ≤ 2 ^ 16 := Nat.pow_le_pow_right (by omega) h
 have e : ((2 : Int) ^ n) = ((2 ^ n : Nat) : Int) := by push_cast; rfl
 rw [e]
 have h3 : (2 : Nat) ^ 16 = 65536 := by decide
 rw [h3] at h1
 generalize (2 : Nat) ^ n = q at h1 ⊢
 unfold wrap64
 omega
set_option maxHeartbeats 8000000 in
set_option maxRecDepth 100000 in
theorem impl_CountAssignments_over_calls (k : Nat) (A0 : Option Addr) (c0 : Nat) (l0 : List Int) (w W : World) (g : Nat) (m m' : Int) (hr0 : Kd.C (Kd.int .i64) w A0 l0.length l0) (hc0 : l0.length ≤ c0) (hn : l0.length ≤ 16)
  (hB : Below w.heap.size w W) (hg : w.heap.size ≤ g) (hb : W.heap[g]? = some (.cells #[.int .i64 m] 2 (0, 0))) (h : zaC k l0 (2 ^ l0.length) 0 m = some m') :
  Calls Try.prog 50 #[.slice A0 l0.length c0, .func (.func 55) #[] #[.pointer (some ⟨g, 0, none⟩)]] W fun e w' => (∃ v0, e = .returned v0) ∧ Below w.heap.size w w' ∧ w'.heap[g]? = some (.cells #[.int .i64 m'] 2 (0, 0)) := by
 have HR0 := zpS hr0
 have HC0 := zpS hc0
 have HB := zpS hB
 have HG := zpS hg
 have BK := zpS hb
 have HN := zpS hn
 have H' := zpS h
 clear hr0 hc0 hB hg hb hn h
 go_enter Try.func50, Try.ntmps50
 go_wp2
 rw [impl_CountAssignments_two_pow _ HN.out]
 obtain ⟨N2, hN2⟩ : ∃ N2 : Nat, N2 = 2 ^ l0.length := ⟨_, rfl⟩
 rw [← hN2]
 have H2 := zpS (show zaC k l0 N2 0 m = some m' from by rw [hN2]; exact H'.out)
 have HN2 := zpS (show N2 ≤ 65536 from by rw [hN2]; exact Nat.pow_le_pow_right (by omega) HN.out)
 clear hN2 H'
 go_loopg [12] N2 (fun kq v12 w' => ∃ (b : Nat) (x : Int), v12 = .int .i64 b ∧ Aside0 (zaC k l0 kq b x = some m') ∧ Aside0 (kq + b = N2) ∧ Aside0 (Below w.heap.size w w') ∧ Aside0 (w'.heap[g]? = some (.cells #[.int .i64 x] 2 (0, 0))))
 case atStart => exact ⟨0, m, rfl, H2, ⟨rfl⟩, HB, BK⟩
 case round =>
  clear H2 HB BK
  obtain ⟨b, x, rfl, HA, HK, HB, BK⟩ := hrel
  by_cases hlt : b < N2
  ·obtain ⟨d, rfl⟩ : ∃ d, gk = d + 1 := ⟨gk - 1, by have := HK.out; omega⟩
   have H := HA.out
   simp only [zaC] at H
   obtain ⟨t, A10, H⟩ := Option.bind_eq_some_iff.mp H
   have A1 := zpS A10
   have H3 := zpS H
   clear A10 H HA
   have HNN := HN2.out
   have c1 : decide ((b : Int) < (N2 : Int)) = true := decide_eq_true (by omega)
   have c2 : decide (0 ≤ (l0.length : Int)) = true := decide_eq_true (by omega)
   have hb6 : (b : Int) ≤ 65536 := by omega
   clear HNN
   go_wp2_with (first | ((with_reducible refine gate_dst (N := 16) rfl ?_); refine Kd.R_make (Kd.int .i64) _ 2 rfl (N := 16) rfl 22 _ _ rfl (l0.length : Int) rfl rfl Try.underlying22 (.int .i64 0) 8 info2 rfl (by decide) (by omega) 0 (ok := fun _ => True) (okp := fun _ => True) rfl (fun _ hk => hk) trivial (by omega) (by have := HN.out; rw [Int.toNat_natCast]; omega) (Below.refl _ _) (Nat.le_refl _) ?_; intro v16 w5 ho hb hg_ hnew_; clear hg_ hnew_; rw [Int.toNat_natCast, ← impl_CountAssignments_partK_zero _ b] at ho; have n0_ := zpS (Kd.R_lower ho (Nat.succ_le_of_lt (blk_lt BK.out))); have n1_ := zpS (zkR HB.out hb); have n2_ := zpS (zgM BK.out hb); clear HB BK ho hb; have HO := n0_; have HB := n1_; have BK := n2_; clear n0_ n1_ n2_; obtain ⟨A16, c16, e16⟩ := Kd.R_slice HO.out; rw [zgN _ _ _ (Nat.zero_le _)] at e16; subst e16))
   go_loopg [19] l0.length (fun kq v19 wi => ∃ i : Nat, v19 = .int .i64 i ∧ Aside0 (kq + i = l0.length) ∧ Aside0 (Kd.R (Kd.int .i64) 2 wi (g + 1) (fun _ => True) (.slice A16 l0.length c16) (zeM l0.length b i)) ∧ Aside0 (Below w.heap.size w wi) ∧ Aside0 (wi.heap[g]? = some (.cells #[.int .i64 x] 2 (0, 0))))
   case atStart => exact ⟨0, rfl, ⟨rfl⟩, HO, HB, BK⟩
   case round =>
    clear HO HB BK
    obtain ⟨i, rfl, HI, HO, HB, BK⟩ := hrel
    have hi0 := HI.out
    have hn0 := HN.out
    by_cases hi : i < l0.length
    ·have c3 : decide ((i : Int) < (l0.length : Int)) = true := decide_eq_true (by omega)
     have c4 : decide (0 ≤ (i : Int)) = true := decide_eq_true (by omega)
     obtain ⟨go, co, eo, gb, gl, cl, hG⟩ := Kd.R_form HO.out (by rw [zgN _ _ _ (by omega)]; omega)
     rw [zgN _ _ _ (by omega)] at eo
     obtain ⟨rfl, rfl⟩ : A16 = some ⟨go, 0, none⟩ ∧ c16 = co := by cases eo; exact ⟨rfl, rfl⟩
     have GO := zpS gb
     clear gb gl hG eo
     obtain ⟨hx, hf⟩ := Kd.R_celln 0 HO.out (i : Int) (by omega) (by omega)
     rw [Int.toNat_natCast] at hx hf
     have HP := Kd.R_putg HO.out (i : Int) (ztF l0.length b i)
     rw [Int.toNat_natCast, impl_CountAssignments_partK_set _ _ _ hi, ← impl_CountAssignments_bit_eq] at HP
     have HP1 := zpS HP.1
     have NE := zpS (show g ≠ go from by have := GO.out; omega)
     have GW := zpS (show w.heap.size ≤ go from by have := GO.out; have := HG.out; omega)
     clear HP
     go_wp2
     go_roundg (l0.length - (i + 1))
     case measure => have := HI.out; omega
     case rel => exact ⟨i + 1, by (try rw [wrap64]); go_num, ⟨by have := HI.out; omega⟩, HP1, ⟨zjF HB.out GW.out⟩, ⟨blk_far BK.out NE.out _⟩⟩
    ·obtain rfl : i = l0.length := by omega
     have c3 : decide ((l0.length : Int) < (l0.length : Int)) = false := decide_eq_false (by omega)
     rw [impl_CountAssignments_partK_all] at HO
     clear hi0 hn0 hi
     cases t with
     | true =>
      have H4 := zpS (show zaC k l0 d (b + 1) (wrap64 (x + 1)) = some m' from by have := H3.out; rw [if_pos rfl] at this; exact this)
      clear H3 H
      go_wp2_with (first | (go_at_call 57; (with_reducible refine (zbJ k _ _ l0 _ _ _ (zpF l0.length b) true _ ?h1 ?h2 HC0.out ?h3 A1.out).mono ?_); (case h1 => exact zwB _ _); (case h2 => exact Kd.C_below HR0.out bb_); (case h3 => exact Kd.R_reads HO.out); rintro e wz ⟨rfl, hz⟩; have n0_ := (ns_ hz); have n1_ := zpS (zgM (by (with_reducible repeat (first | apply zuW | apply ztN | apply zqY)); exact BK.out) hz); clear HB BK HO hz; have HB := n0_; have BK := n1_; clear n0_ n1_) | (go_at_call 55; (with_reducible refine (impl_CountAssignments_clo_calls _ g x _ ?hb).mono ?_); (case hb => (with_reducible repeat (first | apply zuW | apply ztN | apply zqY)); exact BK.out); rintro e wq ⟨⟨v0_, rfl⟩, rfl⟩))
      go_roundg d
      case measure => omega
      case rel => exact ⟨b + 1, wrap64 (x + 1), by (try rw [wrap64]); go_num, H4, ⟨by have := HK.out; omega⟩, ⟨zjF HB.out HG.out⟩, ⟨blk_put BK.out 0 _ rfl⟩⟩
     | false =>
      have H4 := zpS (show zaC k l0 d (b + 1) x = some m' from by have := H3.out; rw [if_neg (by simp)] at this; exact this)
      clear H3 H
      go_wp2_with (first | (go_at_call 57; (with_reducible refine (zbJ k _ _ l0 _ _ _ (zpF l0.length b) false _ ?h1 ?h2 HC0.out ?h3 A1.out).mono ?_); (case h1 => exact zwB _ _); (case h2 => exact Kd.C_below HR0.out bb_); (case h3 => exact Kd.R_reads HO.out); rintro e wz ⟨rfl, hz⟩; have n0_ := (ns_ hz); have n1_ := zpS (zgM (by (with_reducible repeat (first | apply zuW | apply ztN | apply zqY)); exact BK.out) hz); clear HB BK HO hz; have HB := n0_; have BK := n1_; clear n0_ n1_))
      go_roundg d
      case measure => omega
      case rel => exact ⟨b + 1, x, by (try rw [wrap64]); go_num, H4, ⟨by have := HK.out; omega⟩, HB, BK⟩
  ·have H := HA.out
   obtain rfl : gk = 0 := by have := HK.out; omega
   simp only [zaC, Option.some.injEq] at H
   subst H
   have c1 : decide ((b : Int) < (N2 : Int)) = false := decide_eq_false (by omega)
   go_wp2
   exact bodyPost_end (v := .tuple #[]) (by simp [results, Try.results50, go_sem]) rfl ⟨⟨_, rfl⟩, HB.out, BK.out⟩
theorem zlB (k : Nat) (l : List Int) : ∀ (d b : Nat) (m : Int), LeO (zaC k l d b m) (zaC (k + 1) l d b m)
 | 0, _, _ => LeO.refl _
 | d + 1, b, m => LeO.bind (zsK.mono _ _ k) (fun t => zlB k l d (b + 1) _)
def zeK.f (k : Nat) (l0 : List Int) : Option (Int × Int) := (ziL.f k l0).bind fun t => (if t = true then (if l0.length ≤ 16 then ((zaC k l0 (2 ^ l0.length) 0 0).bind fun m => (some (m, 0))) else (none)) else (some (0, 1)))
theorem zeK.mono : ∀ a0 k, LeO (zeK.f k a0) (zeK.f (k + 1) a0) := fun a0 k => LeO.bind (ziL.mono a0 k) (fun t => LeO.ite (LeO.ite (LeO.bind (zlB k a0 _ _ _) (fun _ => LeO.refl _)) (LeO.refl _)) (LeO.refl _))
set_option maxHeartbeats 8000000 in
set_option maxRecDepth 100000 in
theorem zeK.calls (k : Nat) (A0 : Option Addr) (c0 : Nat) (l0 : List Int) (r1 r2 : Int) (w : World) (hr0 : Kd.C (Kd.int .i64) w A0 l0.length l0) (hc0 : l0.length ≤ c0) (h : zeK.f k l0 = some (r1, r2)) :
  Calls Try.prog 20 #[.slice A0 l0.length c0] w fun e w' => e = .returned (.tuple #[.int .i64 r1, .int .i64 r2]) ∧ Below w.heap.size w w' := by
 have HR0 := zpS hr0
 have HC0 := zpS hc0
 clear hr0 hc0
 have HB := zpS (Below.refl w.heap.size w)
 obtain ⟨t, A10, H⟩ := Option.bind_eq_some_iff.mp h
 have A1 := zpS A10
 clear A10 h
 cases t with
 | false =>
  simp only [Bool.false_eq_true, if_false, Option.some.injEq, Prod.mk.injEq] at H
  obtain ⟨rfl, rfl⟩ := H
  go_enter Try.func20, Try.ntmps20
  go_wp2_with (go_at_call 26; (with_reducible refine (ziL.calls k _ _ l0 false _ HR0.out HC0.out A1.out).mono ?_); rintro e w' ⟨rfl, ⟨nd, rfl⟩⟩)
  go_ret2
  exact ⟨rfl, by repeat (first | exact HB.out | apply znU | apply zkZ | apply zvF)⟩
 | true =>
  simp only [if_true] at H
  by_cases hn : l0.length ≤ 16
  ·rw [if_pos hn] at H
   obtain ⟨m, A20, H⟩ := Option.bind_eq_some_iff.mp H
   simp only [Option.some.injEq, Prod.mk.injEq] at H
   obtain ⟨rfl, rfl⟩ := H
   have A2 := zpS A20
   have HN := zpS hn
   clear A20 hn
   go_enter Try.func20, Try.ntmps20
   go_wp2_with (first | (go_at_call 26; (with_reducible refine (ziL.calls k _ _ l0 true _ HR0.out HC0.out A1.out).mono ?_); rintro e w' ⟨rfl, ⟨nd, rfl⟩⟩) | ((with_reducible refine gate_dst (N := 4) rfl ?_); refine bx_ 4 #[.int .i64 0] 2 ?_; intro gb hg w8 hbox hb; have HB2 := (ns_ hb); have GE := zpS (by rw [hg]; exact (zuA bb_) : w.heap.size ≤ gb); have BK := zpS hbox; have hcz0 : w8.cell? ⟨gb, 0, none⟩ = some (.int .i64 0) := (zzS BK.out 0).trans rfl; have hfz0 := zjG BK.out 0; clear hb hbox hg) | (go_at_call 50; (with_reducible refine (impl_CountAssignments_over_calls k _ _ l0 w _ _ 0 _ ?h0 HC0.out HN.out ?hB ?hg ?hb A2.out).mono ?_); (case h0 => exact HR0.out); (case hB => exact zjF HB2.out GE.out); (case hg => exact GE.out); (case hb => exact blk_put BK.out 0 _ rfl); rintro e wz ⟨⟨v0_, rfl⟩, hz, hk⟩; have HZ := zpS hz; have HK := zpS hk; have hcz : wz.cell? ⟨gb, 0, none⟩ = some (.int .i64 m) := (zzS HK.out 0).trans rfl; clear hz hk))
   go_ret2
   exact ⟨rfl, by repeat (first | exact HZ.out | apply znU | apply zkZ | apply zvF)⟩
  ·rw [if_neg hn] at H
   cases H

end Go.Proofs.Ytbpkbllokmplnaa.PFnVertexCount
