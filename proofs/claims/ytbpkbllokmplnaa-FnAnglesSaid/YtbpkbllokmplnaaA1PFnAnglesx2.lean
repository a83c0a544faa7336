-- Printed for this claim by this session's program pp.py, which drives the kit's print with additions. Not trusted: Lean checks it.
import Derived.Test.YtbpkbllokmplnaaA1PFnAnglesx0
import Derived.Test.YtbpkbllokmplnaaA1PFnAnglesx1
namespace Go.Proofs.Ytbpkbllokmplnaa.PFnAngles
open Go.RowKit Go.Proofs.YtbpkbllokmplnaaW.PrintWords Go.Proofs.YtbpkbllokmplnaaW.PrintLast Go.Proofs.YtbpkbllokmplnaaW.PrintMore
attribute [local go_sem] max2_int min2_int max_two min_two max_three min_three max_four min_four   -- for this text's walks alone
set_option linter.unusedVariables false
set_option maxHeartbeats 8000000
set_option maxRecDepth 100000
set_option linter.unusedSimpArgs false

mutual
def zaF.j0 : Nat → List Int → List Int → List Int → Int → Int → Option (List Int × Int × Int)
 | 0, _, _, _, _, _ => none
 | k + 1, x5, x6, x1000, x1001, x1002 => zaF.l0 k x5 x6 (([] : List Int)) 0 x1000 x1001 x1002
def zaF.l0 : Nat → List Int → List Int → List Int → Int → List Int → Int → Int → Option (List Int × Int × Int)
 | 0, _, _, _, _, _, _, _ => none
 | k + 1, x5, x6, x8, x9, x1000, x1001, x1002 => if x9 < (x5.length : Int) then (if 0 ≤ x9 then (if x9 < (x6.length : Int) then ((some (([rd x5 x9, rd x6 x9] : List Int) : List Int)).bind fun y170 => (if x8.length + y170.length < 17592186044416 then (zaF.l0 k x5 x6 (x8 ++ y170) (wrap64 (x9 + 1)) x1000 x1001 x1002) else (none))) else (none)) else (none)) else (some (x8, x1001, x1002))
end
def zaF.f (k : Nat) (s0_0 : List Int) (s0_1 : Int) (s0_2 : Int) (a1 : Int) : Option (List Int × Int × Int) := (zfT.f k s0_0 s0_1 s0_2 (wrap64 (Int.tdiv a1 2)) 8).bind fun bt146 => ((zfT.f k s0_0 bt146.2.1 bt146.2.2 (wrap64 (Int.tdiv a1 2)) 8).bind fun bt151 => ((zmN.f s0_0 bt151.2.1 bt151.2.2 3).bind fun bt156 => (if bt156.1 = true then ((zcB.f s0_0 bt156.2.1 bt156.2.2 (wrap64 (Int.tdiv a1 2))).bind fun bt159 => ((zrU.f bt146.1 bt159.1).bind fun t162 => (zaF.j0 k bt146.1 t162 s0_0 bt159.2.1 bt159.2.2))) else (zaF.j0 k bt146.1 bt151.1 s0_0 bt156.2.1 bt156.2.2))))
theorem zaF.mono_l : ∀ k, (∀ y0 y1 y2 y3 y4, LeO (zaF.j0 k y0 y1 y2 y3 y4) (zaF.j0 (k + 1) y0 y1 y2 y3 y4)) ∧ (∀ y0 y1 y2 y3 y4 y5 y6, LeO (zaF.l0 k y0 y1 y2 y3 y4 y5 y6) (zaF.l0 (k + 1) y0 y1 y2 y3 y4 y5 y6))
 | 0 => ⟨fun _ _ _ _ _ r h => by simp [zaF.j0] at h, fun _ _ _ _ _ _ _ r h => by simp [zaF.l0] at h⟩
 | k + 1 => by
  obtain ⟨ih0, ih1⟩ := zaF.mono_l k
  refine ⟨?_, ?_⟩
  ·intro y0 y1 y2 y3 y4
   unfold zaF.j0
   repeat' first
   | (with_reducible exact ih0 _ _ _ _ _)
   | (with_reducible exact ih1 _ _ _ _ _ _ _)
   | (with_reducible exact zfT.mono _ _ _ _ _ _)
   | (with_reducible exact LeO.refl _)
   | (with_reducible exact LeO.none _)
   | (with_reducible refine LeO.ite ?_ ?_)
   | (with_reducible refine LeO.bind ?_ (fun _ => ?_))
   | exact ih0 _ _ _ _ _
   | exact ih1 _ _ _ _ _ _ _
   | exact zfT.mono _ _ _ _ _ _
   | exact LeO.none _
   | refine LeO.ite ?_ ?_
   | refine LeO.bind ?_ (fun _ => ?_)
  ·intro y0 y1 y2 y3 y4 y5 y6
   unfold zaF.l0
   repeat' first
   | (with_reducible exact ih0 _ _ _ _ _)
   | (with_reducible exact ih1 _ _ _ _ _ _ _)
   | (with_reducible exact zfT.mono _ _ _ _ _ _)
   | (with_reducible exact LeO.refl _)
   | (with_reducible exact LeO.none _)
   | (with_reducible refine LeO.ite ?_ ?_)
   | (with_reducible refine LeO.bind ?_ (fun _ => ?_))
   | exact ih0 _ _ _ _ _
   | exact ih1 _ _ _ _ _ _ _
   | exact zfT.mono _ _ _ _ _ _
   | exact LeO.none _
   | refine LeO.ite ?_ ?_
   | refine LeO.bind ?_ (fun _ => ?_)
theorem zaF.mono : ∀ a0 a1 a2 a3 k, LeO (zaF.f k a0 a1 a2 a3) (zaF.f (k + 1) a0 a1 a2 a3) := by
 intro a0 a1 a2 a3 k
 obtain ⟨ih0, ih1⟩ := zaF.mono_l k
 unfold zaF.f
 repeat' first
   | (with_reducible exact ih0 _ _ _ _ _)
   | (with_reducible exact ih1 _ _ _ _ _ _ _)
   | (with_reducible exact zfT.mono _ _ _ _ _ _)
   | (with_reducible exact LeO.refl _)
   | (with_reducible exact LeO.none _)
   | (with_reducible refine LeO.ite ?_ ?_)
   | (with_reducible refine LeO.bind ?_ (fun _ => ?_))
   | exact ih0 _ _ _ _ _
   | exact ih1 _ _ _ _ _ _ _
   | exact zfT.mono _ _ _ _ _ _
   | exact LeO.none _
   | refine LeO.ite ?_ ?_
   | refine LeO.bind ?_ (fun _ => ?_)
def zaF.T10 : Bool × List (List Nat × List Nat) := (true, [([], []), ([], []), ([], []), ([1, 2], [1, 2]), ([3], [3]), ([], []), ([], []), ([5, 6], [5, 6]), ([7], [7]), ([4, 8], [4, 8]), ([0, 9], [0, 9]), ([10, 10, 0, 1, 2, 3, 4, 5, 6, 7, 8, 9, 10], [0, 10])])
def zaF.B10 : List Nat := [0, 0, 0, 6, 14, 0, 0, 96, 224, 510, 1023, 2047]
theorem zaF.tab10 : rtab .any (opsOf Try.f68 10) = zaF.T10 := by kernel_rfl
theorem zaF.bits10 : waitsOk zaF.T10.2 zaF.B10 = true := by kernel_rfl
theorem zaF.calls (k : Nat) (g : Nat) (s0_0 : List Int) (s0_1 : Int) (s0_2 : Int) (a1 : Int) (r1 : List Int) (r2 : Int) (r3 : Int) (w0 w : World) (hI : zxI w0 w g s0_0 s0_1 s0_2) (hB : Below w0.heap.size w0 w) (h : zaF.f k s0_0 s0_1 s0_2 a1 = some (r1, r2, r3)) :
  Calls Try.prog 68 #[.pointer (some ⟨g, 0, none⟩), .int .i64 a1] w fun e w' => ∃ v0_ : Value, e = .returned (v0_) ∧ Kd.R (Kd.int .i64) 2 w' w.heap.size (fun _ => True) v0_ r1 ∧ zxI w0 w' g s0_0 r2 r3 ∧ Below w0.heap.size w0 w' ∧ zwG w w' g none := by
 have HI0 := zpS hI
 have HK := zpS (zwG.refl w g none)
 have HL := zpS hB.size
 clear hI
 have HW0 := zpS hB.size
 have HB := zpS hB
 clear hB
 have H : ((zfT.f k s0_0 s0_1 s0_2 (wrap64 (Int.tdiv a1 2)) 8).bind fun bt146 => ((zfT.f k s0_0 bt146.2.1 bt146.2.2 (wrap64 (Int.tdiv a1 2)) 8).bind fun bt151 => ((zmN.f s0_0 bt151.2.1 bt151.2.2 3).bind fun bt156 => (if bt156.1 = true then ((zcB.f s0_0 bt156.2.1 bt156.2.2 (wrap64 (Int.tdiv a1 2))).bind fun bt159 => ((zrU.f bt146.1 bt159.1).bind fun t162 => (zaF.j0 k bt146.1 t162 s0_0 bt159.2.1 bt159.2.2))) else (zaF.j0 k bt146.1 bt151.1 s0_0 bt156.2.1 bt156.2.2))))) = some (r1, r2, r3) := h
 clear h
 replace H := Option.bind_eq_some_iff.mp H
 obtain ⟨⟨t146, t149, t150⟩, A30, H⟩ := H
 replace H : ((zfT.f k s0_0 t149 t150 (wrap64 (Int.tdiv a1 2)) 8).bind fun bt151 => ((zmN.f s0_0 bt151.2.1 bt151.2.2 3).bind fun bt156 => (if bt156.1 = true then ((zcB.f s0_0 bt156.2.1 bt156.2.2 (wrap64 (Int.tdiv a1 2))).bind fun bt159 => ((zrU.f t146 bt159.1).bind fun t162 => (zaF.j0 k t146 t162 s0_0 bt159.2.1 bt159.2.2))) else (zaF.j0 k t146 bt151.1 s0_0 bt156.2.1 bt156.2.2)))) = some (r1, r2, r3) := H
 have A3 := zpS A30
 clear A30
 replace H := Option.bind_eq_some_iff.mp H
 obtain ⟨⟨t151, t154, t155⟩, A40, H⟩ := H
 replace H : ((zmN.f s0_0 t154 t155 3).bind fun bt156 => (if bt156.1 = true then ((zcB.f s0_0 bt156.2.1 bt156.2.2 (wrap64 (Int.tdiv a1 2))).bind fun bt159 => ((zrU.f t146 bt159.1).bind fun t162 => (zaF.j0 k t146 t162 s0_0 bt159.2.1 bt159.2.2))) else (zaF.j0 k t146 t151 s0_0 bt156.2.1 bt156.2.2))) = some (r1, r2, r3) := H
 have A4 := zpS A40
 clear A40
 replace H := Option.bind_eq_some_iff.mp H
 obtain ⟨⟨t156, t157, t158⟩, A50, H⟩ := H
 replace H : (if t156 = true then ((zcB.f s0_0 t157 t158 (wrap64 (Int.tdiv a1 2))).bind fun bt159 => ((zrU.f t146 bt159.1).bind fun t162 => (zaF.j0 k t146 t162 s0_0 bt159.2.1 bt159.2.2))) else (zaF.j0 k t146 t151 s0_0 t157 t158)) = some (r1, r2, r3) := H
 have A5 := zpS A50
 clear A50
 have HC6 := zpS H
 clear H
 go_enter Try.func68, Try.ntmps68
 go_upto_if 19 with (first | ((with_reducible refine zgK (f := 88) rfl ?_); refine zqQ (some 13) rfl rfl Try.func88 (by kernel_rfl) rfl #[.pointer (some ⟨g, 0, none⟩), .int .i64 (wrap64 (Int.tdiv a1 2)), .int .i64 8] rfl (by (try simp only [List.map_toArray, List.map_cons, List.map_nil]); first | done | rfl | (simp only [List.length_drop, List.length_take]; rfl)) ?_; (with_reducible refine (zfT.calls k g s0_0 s0_1 s0_2 (wrap64 (Int.tdiv a1 2)) 8 t146 t149 t150 w0 _ ?side1 ?side2 A3.out).mono ?_); (case side1 => repeat (first | (with_reducible first | exact HI0.out | apply zxI.alloc | apply zxI.drewN | apply zxI.drew | apply zxI.set_1 | apply zxI.set_2) | exact HI0.out)); (case side2 => repeat (first | (with_reducible first | exact HB.out | apply znU | apply zkZ | apply zvF | refine zjF ?_ (zxI.ge HI0.out)) | exact HB.out)); rintro e w7 ⟨v147, rfl, ho0, hi, hb, hk⟩; refine ⟨_, rfl, ?_⟩; have n0_ := zpS (Kd.R_lower ho0 (zaV (w := w) (g := g) (row := none) (by repeat (first | (with_reducible first | exact HK.out | apply zwG.set_ | apply zeS | apply zwU | apply zbV) | exact HK.out)))); have n1_ := zpS (zwG.trans (by repeat (first | (with_reducible first | exact HK.out | apply zwG.set_ | apply zeS | apply zwU | apply zbV) | exact HK.out)) hk (.inl rfl)); have n2_ := zpS (hb); have n3_ := zpS (hi); clear HK; clear HB; clear HI0; have HO148 := n0_; have HK := n1_; have HB := n2_; have HI0 := n3_; clear n0_ n1_ n2_ n3_; (try clear hb); (try clear hb2); (try clear ho0)) | ((with_reducible refine zgK (f := 88) rfl ?_); refine zqQ (some 17) rfl rfl Try.func88 (by kernel_rfl) rfl #[.pointer (some ⟨g, 0, none⟩), .int .i64 (wrap64 (Int.tdiv a1 2)), .int .i64 8] rfl (by (try simp only [List.map_toArray, List.map_cons, List.map_nil]); first | done | rfl | (simp only [List.length_drop, List.length_take]; rfl)) ?_; (with_reducible refine (zfT.calls k g s0_0 t149 t150 (wrap64 (Int.tdiv a1 2)) 8 t151 t154 t155 w0 _ ?side1 ?side2 A4.out).mono ?_); (case side1 => repeat (first | (with_reducible first | exact HI0.out | apply zxI.alloc | apply zxI.drewN | apply zxI.drew | apply zxI.set_1 | apply zxI.set_2) | exact HI0.out)); (case side2 => repeat (first | (with_reducible first | exact HB.out | apply znU | apply zkZ | apply zvF | refine zjF ?_ (zxI.ge HI0.out)) | exact HB.out)); rintro e w8 ⟨v152, rfl, ho0, hi, hb, hk⟩; refine ⟨_, rfl, ?_⟩; have n0_ := zpS (Kd.R_mono (Kd.R_told (Kd.R_oldK (zxI.apart (show zxI w0 _ g s0_0 t149 t150 from by repeat (first | (with_reducible first | exact HI0.out | apply zxI.alloc | apply zxI.drewN | apply zxI.drew | apply zxI.set_1 | apply zxI.set_2) | exact HI0.out)) (by (with_reducible repeat (first | apply Kd.R_alloc | apply Kd.R_drewN | apply Kd.R_drew)); exact HO148.out) (by decide)) hk) (Kd.R_base ho0)) (fun _ h_ => h_.1)); have n1_ := zpS (Kd.R_lower (Kd.R_new' ho0 (Kd.R_lt (by (with_reducible repeat (first | apply Kd.R_alloc | apply Kd.R_drewN | apply Kd.R_drew)); exact HO148.out))) (zaV (w := w) (g := g) (row := none) (by repeat (first | (with_reducible first | exact HK.out | apply zwG.set_ | apply zeS | apply zwU | apply zbV) | exact HK.out)))); have n2_ := zpS (zwG.trans (by repeat (first | (with_reducible first | exact HK.out | apply zwG.set_ | apply zeS | apply zwU | apply zbV) | exact HK.out)) hk (.inl rfl)); have n3_ := zpS (hb); have n4_ := zpS (hi); clear HO148; clear HK; clear HB; clear HI0; have HO148 := n0_; have HO153 := n1_; have HK := n2_; have HB := n3_; have HI0 := n4_; clear n0_ n1_ n2_ n3_ n4_; (try clear hb); (try clear hb2); (try clear ho0)) | ((with_reducible refine zgK (f := 66) rfl ?_); refine zqQ (some 19) rfl rfl Try.func66 (by kernel_rfl) rfl #[.pointer (some ⟨g, 0, none⟩), .int .i64 3] rfl (by (try simp only [List.map_toArray, List.map_cons, List.map_nil]); first | done | rfl | (simp only [List.length_drop, List.length_take]; rfl)) ?_; (with_reducible refine (zmN.calls g s0_0 t154 t155 3 t156 t157 t158 w0 _ ?side1 ?side2 A5.out).mono ?_); (case side1 => repeat (first | (with_reducible first | exact HI0.out | apply zxI.alloc | apply zxI.drewN | apply zxI.drew | apply zxI.set_1 | apply zxI.set_2) | exact HI0.out)); (case side2 => repeat (first | (with_reducible first | exact HB.out | apply znU | apply zkZ | apply zvF | refine zjF ?_ (zxI.ge HI0.out)) | exact HB.out)); rintro e w9 ⟨rfl, hi, hb, hk⟩; refine ⟨_, rfl, ?_⟩; have n0_ := zpS (Kd.R_mono (Kd.R_keep (zxI.apart (show zxI w0 _ g s0_0 t154 t155 from by repeat (first | (with_reducible first | exact HI0.out | apply zxI.alloc | apply zxI.drewN | apply zxI.drew | apply zxI.set_1 | apply zxI.set_2) | exact HI0.out)) (by (with_reducible repeat (first | apply Kd.R_alloc | apply Kd.R_drewN | apply Kd.R_drew)); exact HO148.out) (by decide)) hk (fun _ h => h.2)) (fun _ h => h.1)); have n1_ := zpS (Kd.R_mono (Kd.R_keep (zxI.apart (show zxI w0 _ g s0_0 t154 t155 from by repeat (first | (with_reducible first | exact HI0.out | apply zxI.alloc | apply zxI.drewN | apply zxI.drew | apply zxI.set_1 | apply zxI.set_2) | exact HI0.out)) (by (with_reducible repeat (first | apply Kd.R_alloc | apply Kd.R_drewN | apply Kd.R_drew)); exact HO153.out) (by decide)) hk (fun _ h => h.2)) (fun _ h => h.1)); have n2_ := zpS (zwG.trans (by repeat (first | (with_reducible first | exact HK.out | apply zwG.set_ | apply zeS | apply zwU | apply zbV) | exact HK.out)) hk (.inl rfl)); have n3_ := zpS (hb); have n4_ := zpS (hi); clear HO148; clear HO153; clear HK; clear HB; clear HI0; have HO148 := n0_; have HO153 := n1_; have HK := n2_; have HB := n3_; have HI0 := n4_; clear n0_ n1_ n2_ n3_ n4_; (try clear hb); (try clear hb2)))
 (try simp only [Act.put, set_a_, set_b_, set_c_])
 go_cut [6] (fun v6 wc => ∃ (kq : Nat) (x6_5 : List Int) (x1001_5 : Int) (x1002_5 : Int), Aside0 (zaF.j0 kq t146 x6_5 s0_0 x1001_5 x1002_5 = some (r1, r2, r3)) ∧ Aside0 (kq ≤ k) ∧ Aside0 (Kd.R (Kd.int .i64) 2 wc w.heap.size (fun k_ => some k_ ≠ (v6 : Value).ownBlock) v147 t146) ∧ Aside0 (Kd.R (Kd.int .i64) 2 wc w.heap.size (fun k_ => some k_ ≠ (v147 : Value).ownBlock) v6 x6_5) ∧ Aside0 (zxI w0 wc g s0_0 x1001_5 x1002_5) ∧ Aside0 (zwG w wc g none) ∧ Aside0 (Below w0.heap.size w0 wc))
 case first =>
  have H := HC6.out
  clear HC6
  by_cases c10 : t156 = true
  ·subst c10
   have H1 : ((zcB.f s0_0 t157 t158 (wrap64 (Int.tdiv a1 2))).bind fun bt159 => ((zrU.f t146 bt159.1).bind fun t162 => (zaF.j0 k t146 t162 s0_0 bt159.2.1 bt159.2.2))) = some (r1, r2, r3) := by rw [if_pos rfl] at H; exact H
   clear H
   have H := H1
   clear H1
   replace H := Option.bind_eq_some_iff.mp H
   obtain ⟨⟨t159, t160, t161⟩, A110, H⟩ := H
   replace H : ((zrU.f t146 t159).bind fun t162 => (zaF.j0 k t146 t162 s0_0 t160 t161)) = some (r1, r2, r3) := H
   have A11 := zpS A110
   clear A110
   replace H := Option.bind_eq_some_iff.mp H
   obtain ⟨t162, A120, H⟩ := H
   replace H : (zaF.j0 k t146 t162 s0_0 t160 t161) = some (r1, r2, r3) := H
   have A12 := zpS A120
   clear A120
   have H' := zpS H
   clear H
   go_wp2_with (first | ((with_reducible refine zgK (f := 87) rfl ?_); refine zqQ (some 23) rfl rfl Try.func87 (by kernel_rfl) rfl #[.pointer (some ⟨g, 0, none⟩), .int .i64 (wrap64 (Int.tdiv a1 2))] rfl (by (try simp only [List.map_toArray, List.map_cons, List.map_nil]); first | done | rfl | (simp only [List.length_drop, List.length_take]; rfl)) ?_; (with_reducible refine (zcB.calls g s0_0 t157 t158 (wrap64 (Int.tdiv a1 2)) t159 t160 t161 w0 _ ?side1 ?side2 A11.out).mono ?_); (case side1 => repeat (first | (with_reducible first | exact HI0.out | apply zxI.alloc | apply zxI.drewN | apply zxI.drew | apply zxI.set_1 | apply zxI.set_2) | exact HI0.out)); (case side2 => repeat (first | (with_reducible first | exact HB.out | apply znU | apply zkZ | apply zvF | refine zjF ?_ (zxI.ge HI0.out)) | exact HB.out)); rintro e w13 ⟨rfl, hi, hb, hk⟩; refine ⟨_, rfl, ?_⟩; have n0_ := zpS (Kd.R_mono (Kd.R_keep (zxI.apart (show zxI w0 _ g s0_0 t157 t158 from by repeat (first | (with_reducible first | exact HI0.out | apply zxI.alloc | apply zxI.drewN | apply zxI.drew | apply zxI.set_1 | apply zxI.set_2) | exact HI0.out)) (by (with_reducible repeat (first | apply Kd.R_alloc | apply Kd.R_drewN | apply Kd.R_drew)); exact HO148.out) (by decide)) hk (fun _ h => h.2)) (fun _ h => h.1)); have n1_ := zpS (Kd.R_mono (Kd.R_keep (zxI.apart (show zxI w0 _ g s0_0 t157 t158 from by repeat (first | (with_reducible first | exact HI0.out | apply zxI.alloc | apply zxI.drewN | apply zxI.drew | apply zxI.set_1 | apply zxI.set_2) | exact HI0.out)) (by (with_reducible repeat (first | apply Kd.R_alloc | apply Kd.R_drewN | apply Kd.R_drew)); exact HO153.out) (by decide)) hk (fun _ h => h.2)) (fun _ h => h.1)); have n2_ := zpS (zwG.trans (by repeat (first | (with_reducible first | exact HK.out | apply zwG.set_ | apply zeS | apply zwU | apply zbV) | exact HK.out)) hk (.inl rfl)); have n3_ := zpS (hb); have n4_ := zpS (hi); clear HO148; clear HO153; clear HK; clear HB; clear HI0; have HO148 := n0_; have HO153 := n1_; have HK := n2_; have HB := n3_; have HI0 := n4_; clear n0_ n1_ n2_ n3_ n4_; (try clear hb); (try clear hb2); obtain ⟨Ao14, co14, eo14⟩ := Kd.R_slice HO148.out; subst eo14) | ((with_reducible refine zgK (f := 89) rfl ?_); refine zqQ (some 26) rfl rfl Try.func89 (by kernel_rfl) rfl #[.slice Ao14 t146.length co14, .int .i64 t159] rfl (by (try simp only [List.map_toArray, List.map_cons, List.map_nil]); first | done | rfl | (simp only [List.length_drop, List.length_take]; rfl)) ?_; (with_reducible refine (zrU.calls _ _ t146 t159 t162 _ ?side1 ?side2 A12.out).mono ?_); (case side1 => repeat (first | exact (Kd.R_reads' HO148.out).2.2 | (with_reducible refine Kd.C_alloc ?_ _) | (with_reducible refine Kd.C_drewN ?_ _) | (with_reducible refine Kd.C_drew ?_))); (case side2 => exact (Kd.R_reads' HO148.out).2.1); rintro e w15 ⟨v163, rfl, ho0, hb⟩; refine ⟨_, rfl, ?_⟩; have n0_ := zpS (Kd.R_elder' (by (with_reducible repeat (first | apply Kd.R_alloc | apply Kd.R_drewN | apply Kd.R_drew)); exact HO148.out) (Kd.R_base ho0) hb); have n1_ := zpS (Kd.R_elder' (by (with_reducible repeat (first | apply Kd.R_alloc | apply Kd.R_drewN | apply Kd.R_drew)); exact HO153.out) (Kd.R_base ho0) hb); have n2_ := zpS (Kd.R_lower (Kd.R_new' (Kd.R_new' ho0 (Kd.R_lt (by (with_reducible repeat (first | apply Kd.R_alloc | apply Kd.R_drewN | apply Kd.R_drew)); exact HO148.out))) (Kd.R_lt (by (with_reducible repeat (first | apply Kd.R_alloc | apply Kd.R_drewN | apply Kd.R_drew)); exact HO153.out))) (zaV (w := w) (g := g) (row := none) (by repeat (first | (with_reducible first | exact HK.out | apply zwG.set_ | apply zeS | apply zwU | apply zbV) | exact HK.out)))); have n3_ := zpS (zxI.below (by repeat (first | (with_reducible first | exact HI0.out | apply zxI.alloc | apply zxI.drewN | apply zxI.drew | apply zxI.set_1 | apply zxI.set_2) | exact HI0.out)) hb); have n4_ := zpS (zwG.trans (by repeat (first | (with_reducible first | exact HK.out | apply zwG.set_ | apply zeS | apply zwU | apply zbV) | exact HK.out)) (zwG.of_below hb g none) (.inl rfl)); have n5_ := zpS (zkR (by repeat (first | (with_reducible first | exact HB.out | apply znU | apply zkZ | apply zvF | refine zjF ?_ (zxI.ge HI0.out)) | exact HB.out)) hb); clear HO148; clear HO153; clear HI0; clear HK; clear HB; have HO148 := n0_; have HO153 := n1_; have HO164 := n2_; have HI0 := n3_; have HK := n4_; have HB := n5_; clear n0_ n1_ n2_ n3_ n4_ n5_; (try clear hb); (try clear hb2); (try clear ho0)))
   go_meet
   case rel => exact ⟨_, (t162), (t160), (t161), H', ⟨by first | omega | exact Nat.le_refl _⟩, ⟨by (with_reducible repeat (first | apply Kd.R_alloc | apply Kd.R_drewN | apply Kd.R_drew)); exact Kd.R_mono HO148.out (fun _ hk => hk.2)⟩, ⟨by (with_reducible repeat (first | apply Kd.R_alloc | apply Kd.R_drewN | apply Kd.R_drew)); exact Kd.R_mono HO164.out (fun _ hk => hk.1.2)⟩, ⟨by repeat (first | (with_reducible first | exact HI0.out | apply zxI.alloc | apply zxI.drewN | apply zxI.drew | apply zxI.set_1 | apply zxI.set_2) | exact HI0.out)⟩, ⟨by repeat (first | (with_reducible first | exact HK.out | apply zwG.set_ | apply zeS | apply zwU | apply zbV) | exact HK.out)⟩, ⟨by repeat (first | (with_reducible first | exact HB.out | apply znU | apply zkZ | apply zvF | refine zjF ?_ (zxI.ge HI0.out)) | exact HB.out)⟩⟩
  ·replace c10 := Bool.eq_false_iff.mpr c10
   subst c10
   have H1 : (zaF.j0 k t146 t151 s0_0 t157 t158) = some (r1, r2, r3) := by rw [if_neg (show ¬ (false = true) by decide)] at H; exact H
   clear H
   have H := H1
   clear H1
   have H' := zpS H
   clear H
   go_wp2
   go_meet
   case rel => exact ⟨_, (t151), (t157), (t158), H', ⟨by first | omega | exact Nat.le_refl _⟩, ⟨by (with_reducible repeat (first | apply Kd.R_alloc | apply Kd.R_drewN | apply Kd.R_drew)); exact Kd.R_mono HO148.out (fun _ hk => hk.2)⟩, ⟨by (with_reducible repeat (first | apply Kd.R_alloc | apply Kd.R_drewN | apply Kd.R_drew)); exact Kd.R_mono HO153.out (fun _ hk => hk.2)⟩, ⟨by repeat (first | (with_reducible first | exact HI0.out | apply zxI.alloc | apply zxI.drewN | apply zxI.drew | apply zxI.set_1 | apply zxI.set_2) | exact HI0.out)⟩, ⟨by repeat (first | (with_reducible first | exact HK.out | apply zwG.set_ | apply zeS | apply zwU | apply zbV) | exact HK.out)⟩, ⟨by repeat (first | (with_reducible first | exact HB.out | apply znU | apply zkZ | apply zvF | refine zjF ?_ (zxI.ge HI0.out)) | exact HB.out)⟩⟩
 case rest =>
  clear HC6
  try clear c1
  try clear p2
  try clear c6
  try clear p6
  try clear c8
  try clear c10
  obtain ⟨kq, x6_5, x1001_5, x1002_5, HA, HJ5, HO_5, HO_6, HI0, HK, HB⟩ := hcut
  cases kq with
  | zero => exact absurd HA.out (by simp [zaF.j0])
  | succ kj5 =>
   have H := HA.out
   clear HA
   simp only [zaF.j0] at H
   obtain ⟨y165, hy165⟩ : ∃ y_ : List Int, y_ = (([] : List Int)) := ⟨_, rfl⟩
   replace H : (zaF.l0 kj5 t146 x6_5 y165 0 s0_0 x1001_5 x1002_5) = some (r1, r2, r3) := by first | (rw [hy165]; with_reducible exact H) | (have H2_ := (Option.bind_some _ _).symm.trans H; rw [hy165]; with_reducible exact H2_) | (have H2_ := (Option.bind_some _ _).symm.trans H; with_reducible exact H2_) | with_reducible exact H | (rw [hy165]; exact H) | exact H
   have Ny165 := zpS hy165
   clear hy165
   have H' := zpS H
   clear H
   go_wp2_with (first | ((with_reducible refine gate_dst (N := 27) rfl ?_); refine Kd.R_lit (Kd.int .i64) _ 2 ?hg (N := 27) ?hd (xs := ([] : List Int)) (zlR := []) (ok := fun _ => True) (okp := fun _ => True) ?hr ?hp (fun _ hk => hk) trivial (Below.refl _ _) (Nat.le_refl _) (by simp) ?_; (case hd => rfl); (case hg => rfl); (case hr => first | (go_simp; done) | (go_simp; rfl)); (case hp => exact (zfI.none _ _)); intro v166 w16 ho17 hb hg_ hnew_; clear hg_ hnew_; (first | rw [← Ny165.out] at ho17 | (simp only [Int.reduceToNat] at ho17; rw [← Ny165.out] at ho17)); have n0_ := zpS (Kd.R_elder' (by (with_reducible repeat (first | apply Kd.R_alloc | apply Kd.R_drewN | apply Kd.R_drew)); exact HO_5.out) (Kd.R_base ho17) hb); have n1_ := zpS (Kd.R_elder' (by (with_reducible repeat (first | apply Kd.R_alloc | apply Kd.R_drewN | apply Kd.R_drew)); exact HO_6.out) (Kd.R_base ho17) hb); have n2_ := zpS (Kd.R_lower (Kd.R_new' (Kd.R_new' ho17 (Kd.R_lt (by (with_reducible repeat (first | apply Kd.R_alloc | apply Kd.R_drewN | apply Kd.R_drew)); exact HO_5.out))) (Kd.R_lt (by (with_reducible repeat (first | apply Kd.R_alloc | apply Kd.R_drewN | apply Kd.R_drew)); exact HO_6.out))) (zaV (w := w) (g := g) (row := none) (by repeat (first | (with_reducible first | exact HK.out | apply zwG.set_ | apply zeS | apply zwU | apply zbV) | exact HK.out)))); have n3_ := zpS (zxI.below (by repeat (first | (with_reducible first | exact HI0.out | apply zxI.alloc | apply zxI.drewN | apply zxI.drew | apply zxI.set_1 | apply zxI.set_2) | exact HI0.out)) hb); have n4_ := zpS (zwG.trans (by repeat (first | (with_reducible first | exact HK.out | apply zwG.set_ | apply zeS | apply zwU | apply zbV) | exact HK.out)) (zwG.of_below hb g none) (.inl rfl)); have n5_ := zpS (zkR (by repeat (first | (with_reducible first | exact HB.out | apply znU | apply zkZ | apply zvF | refine zjF ?_ (zxI.ge HI0.out)) | exact HB.out)) hb); clear HO_5; clear HO_6; clear HI0; clear HK; clear HB; have HO_5 := n0_; have HO_6 := n1_; have HO167 := n2_; have HI0 := n3_; have HK := n4_; have HB := n5_; clear n0_ n1_ n2_ n3_ n4_ n5_; clear hb ho17))
   (try go_simp)
   go_loopg [8, 9] kj5 (fun kq v8 v9 w' => ∃ (x8_2 : List Int) (x9_2 : Int), v9 = .int .i64 x9_2 ∧ Aside0 (zaF.l0 kq t146 x6_5 x8_2 x9_2 s0_0 x1001_5 x1002_5 = some (r1, r2, r3)) ∧ Aside0 (kq ≤ kj5) ∧ Aside0 (Kd.R (Kd.int .i64) 2 w' w.heap.size (fun k_ => some k_ ≠ (u6 : Value).ownBlock ∧ some k_ ≠ (v8 : Value).ownBlock) v147 t146) ∧ Aside0 (Kd.R (Kd.int .i64) 2 w' w.heap.size (fun k_ => some k_ ≠ (v147 : Value).ownBlock ∧ some k_ ≠ (v8 : Value).ownBlock) u6 x6_5) ∧ Aside0 (Kd.R (Kd.int .i64) 2 w' w.heap.size (fun k_ => some k_ ≠ (v147 : Value).ownBlock ∧ some k_ ≠ (u6 : Value).ownBlock) v8 x8_2) ∧ Aside0 (zxI w0 w' g s0_0 x1001_5 x1002_5) ∧ Aside0 (zwG w w' g none) ∧ Aside0 (Below w0.heap.size w0 w'))
   case atStart => exact ⟨(y165), (0), (by first | rfl | (simp; done) | (simp [*]; done)), H', ⟨Nat.le_refl _⟩, ⟨by (with_reducible repeat (first | apply Kd.R_alloc | apply Kd.R_drewN | apply Kd.R_drew)); exact HO_5.out⟩, ⟨by (with_reducible repeat (first | apply Kd.R_alloc | apply Kd.R_drewN | apply Kd.R_drew)); exact HO_6.out⟩, ⟨by (with_reducible repeat (first | apply Kd.R_alloc | apply Kd.R_drewN | apply Kd.R_drew)); exact Kd.R_mono HO167.out (fun _ hk => ⟨hk.1.2, hk.2⟩)⟩, ⟨by repeat (first | (with_reducible first | exact HI0.out | apply zxI.alloc | apply zxI.drewN | apply zxI.drew | apply zxI.set_1 | apply zxI.set_2) | exact HI0.out)⟩, ⟨by repeat (first | (with_reducible first | exact HK.out | apply zwG.set_ | apply zeS | apply zwU | apply zbV) | exact HK.out)⟩, ⟨by repeat (first | (with_reducible first | exact HB.out | apply znU | apply zkZ | apply zvF | refine zjF ?_ (zxI.ge HI0.out)) | exact HB.out)⟩⟩
   case round =>
    clear H'
    try clear c1
    try clear p2
    try clear c6
    try clear p6
    try clear c8
    try clear c10
    try clear p2
    try clear p6
    obtain ⟨x8_2, x9_2, rfl, HA, HK2, HO_5, HO_6, HO_8, HI0, HK, HB⟩ := hrel
    cases gk with
    | zero => exact absurd HA.out (by simp [zaF.l0])
    | succ k2 =>
     have H := HA.out
     clear HA
     simp only [zaF.l0] at H
     by_cases c18 : x9_2 < (t146.length : Int)
     ·rw [if_pos c18] at H
      have c18b0 : decide (x9_2 < (t146.length : Int)) = true := decide_eq_true c18
      clear c18
      by_cases c19 : 0 ≤ x9_2
      ·rw [if_pos c19] at H
       have c19b0 : decide (0 ≤ x9_2) = true := decide_eq_true c19
       clear c19
       by_cases c20 : x9_2 < (x6_5.length : Int)
       ·rw [if_pos c20] at H
        have c20b0 : decide (x9_2 < (x6_5.length : Int)) = true := decide_eq_true c20
        clear c20
        obtain ⟨y170, hy170⟩ : ∃ y_ : List Int, y_ = (([rd t146 x9_2, rd x6_5 x9_2] : List Int)) := ⟨_, rfl⟩
        replace H : (if x8_2.length + y170.length < 17592186044416 then (zaF.l0 k2 t146 x6_5 (x8_2 ++ y170) (wrap64 (x9_2 + 1)) s0_0 x1001_5 x1002_5) else (none)) = some (r1, r2, r3) := by first | (rw [hy170]; with_reducible exact H) | (have H2_ := (Option.bind_some _ _).symm.trans H; rw [hy170]; with_reducible exact H2_) | (have H2_ := (Option.bind_some _ _).symm.trans H; with_reducible exact H2_) | with_reducible exact H | (rw [hy170]; exact H) | exact H
        have Ny170 := zpS hy170
        clear hy170
        by_cases c21 : x8_2.length + y170.length < 17592186044416
        ·rw [if_pos c21] at H
         have LMc21 := zpS c21
         clear c21
         obtain ⟨y173, hy173⟩ : ∃ y_ : List Int, y_ = (x8_2 ++ y170) := ⟨_, rfl⟩
         replace H : (zaF.l0 k2 t146 x6_5 y173 (wrap64 (x9_2 + 1)) s0_0 x1001_5 x1002_5) = some (r1, r2, r3) := by first | (rw [hy173]; with_reducible exact H) | (have H2_ := (Option.bind_some _ _).symm.trans H; rw [hy173]; with_reducible exact H2_) | (have H2_ := (Option.bind_some _ _).symm.trans H; with_reducible exact H2_) | with_reducible exact H | (rw [hy173]; exact H) | exact H
         have Ny173 := zpS hy173
         clear hy173
         have H' := zpS H
         clear H
         obtain ⟨Ao22, co22, eo22⟩ := Kd.R_slice HO_5.out
         subst eo22
         try go_wp2
         have n0_ := zpS (Kd.R_drew HO_5.out)
         have n1_ := zpS (Kd.R_drew HO_6.out)
         have n2_ := zpS (Kd.R_drew HO_8.out)
         have n3_ := zpS (zxI.drew HI0.out)
         have n4_ := zpS (zwU HK.out)
         have n5_ := zpS (zvF HB.out)
         clear HO_5
         clear HO_6
         clear HO_8
         clear HI0
         clear HK
         clear HB
         have HO_5 := n0_
         have HO_6 := n1_
         have HO_8 := n2_
         have HI0 := n3_
         have HK := n4_
         have HB := n5_
         clear n0_ n1_ n2_ n3_ n4_ n5_
         have p168 : 0 ≤ (x9_2 : Int) := dt_
         have q168 : x9_2 < (t146.length : Int) := dt_
         obtain ⟨ad168, e168, hx168_0⟩ := Kd.at_int (Kd.R_reads' HO_5.out).2.2 x9_2 p168 q168
         cases e168
         replace p168 := eq_true p168
         replace q168 := eq_true q168
         obtain ⟨Ao24, co24, eo24⟩ := Kd.R_slice HO_6.out
         (first | subst eo24 | (injection eo24 with f1_ f2_ f3_; have f4_ := f1_.symm; have f5_ := f3_.symm; clear f1_ f2_ f3_; subst f4_; subst f5_))
         have p169 : 0 ≤ (x9_2 : Int) := dt_
         have q169 : x9_2 < (x6_5.length : Int) := dt_
         obtain ⟨ad169, e169, hx169_0⟩ := Kd.at_int (Kd.R_reads' HO_6.out).2.2 x9_2 p169 q169
         cases e169
         replace p169 := eq_true p169
         replace q169 := eq_true q169
         refine start_ (n := 12) (S := fun w' => w'.cell? (ad168.add (x9_2).toNat) = some (.int .i64 (rd t146 x9_2)) ∧ w'.cell? (ad169.add (x9_2).toNat) = some (.int .i64 (rd x6_5 x9_2))) (ds := []) #[false, false, false, false, false, false, false, false, false, false, false, false] (by kernel_rfl) rfl rfl ⟨hx168_0, hx169_0⟩ (fun hHeld => ?_); refine with_tabW zaF.tab10 zaF.bits10 (fun HT_ HW_ => ?_)
         generalize wr.drew = w23 at HO_5 HO_6 HO_8 HI0 HK HB hx168_0 hx169_0 hHeld ⊢
         refine pu_ 0 (some 34) (bl_ 12 1) ?_
         refine pu_ 1 (some 35) (bl_ 12 3) ?_
         refine pu_ 2 (some 36) (bl_ 12 7) ?_
         refine pu_ 3 (some 37) (bl_ 12 15) ?_
         refine pu_ 5 (some 39) (bl_ 12 47) ?_
         refine pu_ 6 (some 40) (bl_ 12 111) ?_
         refine pu_ 7 (some 41) (bl_ 12 239) ?_
         refine tk2_ 4 (some 38) (bl_ 12 255) hHeld ?_
         refine tk2_ 8 (some 42) (bl_ 12 511) hHeld ?_
         refine one_ (i := 9) (N := some 43) (bl_ 12 1023) rfl rfl (one_of HT_.out (by kernel_rfl)) (by decide) (fun K hK => ?_)
         refine Kd.R_lit_step (Kd.int .i64) _ 2 ?hg (N := 43) ?hd (xs := ([rd t146 x9_2, rd x6_5 x9_2] : List Int)) (zlR := [.int .i64 (rd t146 x9_2), .int .i64 (rd x6_5 x9_2)]) (ok := fun _ => True) (okp := fun _ => True) ?hr ?hp (fun _ hk => hk) trivial (Below.refl _ _) (Nat.le_refl _) (by simp) ?_; (case hd => rfl); (case hg => rfl); (case hr => first | (go_simp; done) | (go_simp; rfl)); (case hp => exact (zfI.one (show Kd.M (Kd.int .i64) _ _ _ (rd t146 x9_2) [.int .i64 (rd t146 x9_2)] from rfl) (zfI.one (show Kd.M (Kd.int .i64) _ _ _ (rd x6_5 x9_2) [.int .i64 (rd x6_5 x9_2)] from rfl) (zfI.none _ _))))
         intro v171 w25 ho26 hb hg_ hnew_
         have HS0_ := (hb.cell (World.block_lt_of_cell? _ _ (hHeld.1))).trans (hHeld.1)
         have HS1_ := (hb.cell (World.block_lt_of_cell? _ _ (hHeld.2))).trans (hHeld.2)
         clear hg_ hnew_
         (first | rw [← Ny170.out] at ho26 | (simp only [Int.reduceToNat] at ho26; rw [← Ny170.out] at ho26))
         have n0_ := zpS (Kd.R_elder' (by (with_reducible repeat (first | apply Kd.R_alloc | apply Kd.R_drewN | apply Kd.R_drew)); exact HO_5.out) (Kd.R_base ho26) hb)
         have n1_ := zpS (Kd.R_elder' (by (with_reducible repeat (first | apply Kd.R_alloc | apply Kd.R_drewN | apply Kd.R_drew)); exact HO_6.out) (Kd.R_base ho26) hb)
         have n2_ := zpS (Kd.R_elder' (by (with_reducible repeat (first | apply Kd.R_alloc | apply Kd.R_drewN | apply Kd.R_drew)); exact HO_8.out) (Kd.R_base ho26) hb)
         have n3_ := zpS (Kd.R_lower (Kd.R_new' (Kd.R_new' (Kd.R_new' ho26 (Kd.R_lt (by (with_reducible repeat (first | apply Kd.R_alloc | apply Kd.R_drewN | apply Kd.R_drew)); exact HO_5.out))) (Kd.R_lt (by (with_reducible repeat (first | apply Kd.R_alloc | apply Kd.R_drewN | apply Kd.R_drew)); exact HO_6.out))) (Kd.R_lt (by (with_reducible repeat (first | apply Kd.R_alloc | apply Kd.R_drewN | apply Kd.R_drew)); exact HO_8.out))) (zaV (w := w) (g := g) (row := none) (by repeat (first | (with_reducible first | exact HK.out | apply zwG.set_ | apply zeS | apply zwU | apply zbV) | exact HK.out))))
         have n4_ := zpS (zxI.below (by repeat (first | (with_reducible first | exact HI0.out | apply zxI.alloc | apply zxI.drewN | apply zxI.drew | apply zxI.set_1 | apply zxI.set_2) | exact HI0.out)) hb)
         have n5_ := zpS (zwG.trans (by repeat (first | (with_reducible first | exact HK.out | apply zwG.set_ | apply zeS | apply zwU | apply zbV) | exact HK.out)) (zwG.of_below hb g none) (.inl rfl))
         have n6_ := zpS (zkR (by repeat (first | (with_reducible first | exact HB.out | apply znU | apply zkZ | apply zvF | refine zjF ?_ (zxI.ge HI0.out)) | exact HB.out)) hb)
         clear HO_5
         clear HO_6
         clear HO_8
         clear HI0
         clear HK
         clear HB
         have HO_5 := n0_
         have HO_6 := n1_
         have HO_8 := n2_
         have HO172 := n3_
         have HI0 := n4_
         have HK := n5_
         have HB := n6_
         clear n0_ n1_ n2_ n3_ n4_ n5_ n6_
         clear hb ho26
         obtain ⟨Ao28, co28, eo28⟩ := Kd.R_slice HO172.out
         (first | subst eo28 | (injection eo28 with f1_ f2_ f3_; have f4_ := f1_.symm; have f5_ := f3_.symm; clear f1_ f2_ f3_; subst f4_; subst f5_))
         refine hK.out _ _ ⟨HS0_, HS1_⟩ (fun hHeld => ?_)
         clear hK K
         refine norm_ (a' := ?_) ?_ ?_
         rotate_left
         ·show Act.put _ (some 43) _ = _
          simp only [Act.put, List.setIfInBounds_toArray, List.set_cons_zero, List.set_cons_succ, i64_w, i32_w]
          rfl
         refine one_ (i := 10) (N := some 44) (bl_ 12 2047) rfl rfl (one_of HT_.out (by kernel_rfl)) (by decide) (fun K hK => ?_)
         refine Kd.R_append_rows_step (Kd.int .i64) w.heap.size (by rfl) (.tmp 34) (.tmp 43) 22 2 (.int .i64 0) 8 rfl Try.underlying22 info2 rfl (by decide) (by omega) u8 x8_2 y170 _ _ _ (fun k_ => some k_ ≠ (.slice (some ad168) t146.length co22 : Value).ownBlock ∧ some k_ ≠ (.slice (some ad169) x6_5.length co24 : Value).ownBlock ∧ some k_ ≠ (.slice Ao28 y170.length co28 : Value).ownBlock) (fun _ => False) rfl rfl ?aO ?aR (fun _ _ h => h) (fun _ h => h.elim) ?aF (Below.refl _ _) ?aS ?aL ?_
         (case aR => repeat (first | exact (Kd.R_reads' HO172.out).2.2 | (with_reducible refine Kd.C_alloc ?_ _) | (with_reducible refine Kd.C_drewN ?_ _) | (with_reducible refine Kd.C_drew ?_)))
         (case aF => exact (fun k_ hk => ⟨Kd.fresh' (Kd.R_lt (by (with_reducible repeat (first | apply Kd.R_alloc | apply Kd.R_drewN | apply Kd.R_drew)); exact HO_5.out)) k_ hk, Kd.fresh' (Kd.R_lt (by (with_reducible repeat (first | apply Kd.R_alloc | apply Kd.R_drewN | apply Kd.R_drew)); exact HO_6.out)) k_ hk, Kd.fresh' (Kd.R_lt (by (with_reducible repeat (first | apply Kd.R_alloc | apply Kd.R_drewN | apply Kd.R_drew)); exact HO172.out)) k_ hk⟩))
         (case aO => exact (by (with_reducible repeat (first | apply Kd.R_alloc | apply Kd.R_drewN | apply Kd.R_drew)); exact Kd.R_mono HO_8.out (fun _ hk => ⟨hk.1.1, ⟨hk.1.2, hk.2⟩⟩)))
         (case aS => exact (zaV (w := w) (g := g) (row := none) (by repeat (first | (with_reducible first | exact HK.out | apply zwG.set_ | apply zeS | apply zwU | apply zbV) | exact HK.out))))
         (case aL => have := LMc21.out; omega)
         intro v174 w27 ho hb hg hat
         have HS0_ := cell_grown hg (hHeld.1) (by (first | rw [add_block] | (show some (Addr.add _ _).block ≠ _; rw [add_block]) | skip); have h_ := HO_5.out.1 _ rfl; revert h_; (try simp only [and_imp]); intros; assumption)
         have HS1_ := cell_grown hg (hHeld.2) (by (first | rw [add_block] | (show some (Addr.add _ _).block ≠ _; rw [add_block]) | skip); have h_ := HO_6.out.1 _ rfl; revert h_; (try simp only [and_imp]); intros; assumption)
         rw [← Ny173.out] at ho
         have n0_ := zpS (Kd.R_after (ok := (fun k_ => some k_ ≠ (.slice (some ad169) x6_5.length co24 : Value).ownBlock ∧ some k_ ≠ (.slice Ao28 y170.length co28 : Value).ownBlock)) (by (with_reducible repeat (first | apply Kd.R_alloc | apply Kd.R_drewN | apply Kd.R_drew)); exact Kd.R_mono HO_5.out (fun _ hk => ⟨⟨hk.1.1, hk.2⟩, hk.1.2⟩)) hg hat)
         have n1_ := zpS (Kd.R_after (ok := (fun k_ => some k_ ≠ (.slice (some ad168) t146.length co22 : Value).ownBlock ∧ some k_ ≠ (.slice Ao28 y170.length co28 : Value).ownBlock)) (by (with_reducible repeat (first | apply Kd.R_alloc | apply Kd.R_drewN | apply Kd.R_drew)); exact Kd.R_mono HO_6.out (fun _ hk => ⟨⟨hk.1.1, hk.2⟩, hk.1.2⟩)) hg hat)
         have n2_ := zpS (zxI.grown (by repeat (first | (with_reducible first | exact HI0.out | apply zxI.alloc | apply zxI.drewN | apply zxI.drew | apply zxI.set_1 | apply zxI.set_2) | exact HI0.out)) hg (zxI.own_ne HI0.out HO_8.out (by decide)))
         have n3_ := zpS (Kd.R_after (ok := (fun k_ => some k_ ≠ (.slice (some ad168) t146.length co22 : Value).ownBlock ∧ some k_ ≠ (.slice (some ad169) x6_5.length co24 : Value).ownBlock)) (by (with_reducible repeat (first | apply Kd.R_alloc | apply Kd.R_drewN | apply Kd.R_drew)); exact Kd.R_mono HO172.out (fun _ hk => ⟨⟨hk.1.1.2, hk.1.2⟩, hk.2⟩)) hg hat)
         have n4_ := zpS (below_weaken (by repeat (first | (with_reducible first | exact HB.out | apply znU | apply zkZ | apply zvF | refine zjF ?_ (zxI.ge HI0.out)) | exact HB.out)) HL.out hb)
         have n5_ := zpS (zwG.trans (by repeat (first | (with_reducible first | exact HK.out | apply zwG.set_ | apply zeS | apply zwU | apply zbV) | exact HK.out)) (zwG.of_grown hg g) (Kd.R_base2 HO_8.out))
         have n6_ := zpS (ho)
         clear HO_5
         clear HO_6
         clear HI0
         clear HO172
         clear HB
         clear HK
         clear HO_8
         have HO_5 := n0_
         have HO_6 := n1_
         have HI0 := n2_
         have HO172 := n3_
         have HB := n4_
         have HK := n5_
         have HO175 := n6_
         clear n0_ n1_ n2_ n3_ n4_ n5_ n6_
         clear ho hb hg hat
         refine hK.out _ _ ⟨HS0_, HS1_⟩ (fun hHeld => ?_)
         clear hK K
         refine norm_ (a' := ?_) ?_ ?_
         rotate_left
         ·show Act.put _ (some 44) _ = _
          simp only [Act.put, List.setIfInBounds_toArray, List.set_cons_zero, List.set_cons_succ, i64_w, i32_w]
          rfl
         refine pu_ 11 (some 8) (bl_ 12 4095) ?_
         refine done_ (done_of HT_.out (by kernel_rfl)) ?_
         try go_wp2
         go_roundg k2
         case measure => have := HJ5.out; have := HK2.out; omega
         case rel => exact ⟨(y173), (wrap64 (x9_2 + 1)), (by first | rfl | (simp; done) | (simp [*]; done)), H', ⟨by have := HJ5.out; have := HK2.out; omega⟩, ⟨by (with_reducible repeat (first | apply Kd.R_alloc | apply Kd.R_drewN | apply Kd.R_drew)); exact Kd.R_mono HO_5.out (fun _ hk => ⟨hk.1.1, hk.2⟩)⟩, ⟨by (with_reducible repeat (first | apply Kd.R_alloc | apply Kd.R_drewN | apply Kd.R_drew)); exact Kd.R_mono HO_6.out (fun _ hk => ⟨hk.1.1, hk.2⟩)⟩, ⟨by (with_reducible repeat (first | apply Kd.R_alloc | apply Kd.R_drewN | apply Kd.R_drew)); exact Kd.R_mono HO175.out (fun _ hk => ⟨hk.1, hk.2.1⟩)⟩, ⟨by repeat (first | (with_reducible first | exact HI0.out | apply zxI.alloc | apply zxI.drewN | apply zxI.drew | apply zxI.set_1 | apply zxI.set_2) | exact HI0.out)⟩, ⟨by repeat (first | (with_reducible first | exact HK.out | apply zwG.set_ | apply zeS | apply zwU | apply zbV) | exact HK.out)⟩, ⟨by repeat (first | (with_reducible first | exact HB.out | apply znU | apply zkZ | apply zvF | refine zjF ?_ (zxI.ge HI0.out)) | exact HB.out)⟩⟩
        ·rw [if_neg c21] at H
         exact absurd H (by simp)
       ·rw [if_neg c20] at H
        exact absurd H (by simp)
      ·rw [if_neg c19] at H
       exact absurd H (by simp)
     ·rw [if_neg c18] at H
      have c18b0 : decide (x9_2 < (t146.length : Int)) = false := decide_eq_false c18
      clear c18
      simp only [Option.some.injEq, Prod.mk.injEq] at H
      obtain ⟨rfl, rfl, rfl⟩ := H
      obtain ⟨Ao29, co29, eo29⟩ := Kd.R_slice HO_5.out
      subst eo29
      go_wp2
      go_ret
      exact ⟨_, by first | rfl | (simp [ziS, znJ] <;> rfl) | (simp [*, ziS, znJ] <;> rfl), by (with_reducible repeat (first | apply Kd.R_alloc | apply Kd.R_drewN | apply Kd.R_drew)); exact Kd.R_mono HO_8.out (fun _ hk => trivial), by repeat (first | (with_reducible first | exact HI0.out | apply zxI.alloc | apply zxI.drewN | apply zxI.drew | apply zxI.set_1 | apply zxI.set_2) | exact HI0.out), by repeat (first | (with_reducible first | exact HB.out | apply znU | apply zkZ | apply zvF | refine zjF ?_ (zxI.ge HI0.out)) | exact HB.out), by repeat (first | (with_reducible first | exact HK.out | apply zwG.set_ | apply zeS | apply zwU | apply zbV) | exact HK.out)⟩

def ziM.f (k : Nat) (s0_0 : List Int) (s0_1 : Int) (s0_2 : Int) : Option (List Int × Int × Int) := (zcB.f s0_0 s0_1 s0_2 8).bind fun bt176 => ((zmN.f s0_0 bt176.2.1 bt176.2.2 8).bind fun bt179 => (if bt179.1 = true then ((zcB.f s0_0 bt179.2.1 bt179.2.2 16).bind fun bt182 => ((zfT.f k s0_0 bt182.2.1 bt182.2.2 (wrap64 (1 + bt182.1)) 16).bind fun bt185 => ((zcB.f s0_0 bt185.2.1 bt185.2.2 (wrap64 (1 + bt182.1))).bind fun bt190 => ((zrU.f bt185.1 bt190.1).bind fun t193 => (some (t193, bt190.2.1, bt190.2.2)))))) else ((zfT.f k s0_0 bt179.2.1 bt179.2.2 (wrap64 (1 + bt176.1)) 16).bind fun bt196 => ((zcB.f s0_0 bt196.2.1 bt196.2.2 (wrap64 (1 + bt176.1))).bind fun bt201 => ((zrU.f bt196.1 bt201.1).bind fun t204 => (some (t204, bt201.2.1, bt201.2.2)))))))
theorem ziM.mono : ∀ a0 a1 a2 k, LeO (ziM.f k a0 a1 a2) (ziM.f (k + 1) a0 a1 a2) := by
 intro a0 a1 a2 k
 unfold ziM.f
 repeat' first
   | (with_reducible exact zfT.mono _ _ _ _ _ _)
   | (with_reducible exact LeO.refl _)
   | (with_reducible exact LeO.none _)
   | (with_reducible refine LeO.ite ?_ ?_)
   | (with_reducible refine LeO.bind ?_ (fun _ => ?_))
   | exact zfT.mono _ _ _ _ _ _
   | exact LeO.none _
   | refine LeO.ite ?_ ?_
   | refine LeO.bind ?_ (fun _ => ?_)
theorem ziM.calls (k : Nat) (g : Nat) (s0_0 : List Int) (s0_1 : Int) (s0_2 : Int) (r1 : List Int) (r2 : Int) (r3 : Int) (w0 w : World) (hI : zxI w0 w g s0_0 s0_1 s0_2) (hB : Below w0.heap.size w0 w) (h : ziM.f k s0_0 s0_1 s0_2 = some (r1, r2, r3)) :
  Calls Try.prog 69 #[.pointer (some ⟨g, 0, none⟩)] w fun e w' => ∃ v0_ : Value, e = .returned (v0_) ∧ Kd.R (Kd.int .i64) 2 w' w.heap.size (fun _ => True) v0_ r1 ∧ zxI w0 w' g s0_0 r2 r3 ∧ Below w0.heap.size w0 w' ∧ zwG w w' g none := by
 have HI0 := zpS hI
 have HK := zpS (zwG.refl w g none)
 have HL := zpS hB.size
 clear hI
 have HW0 := zpS hB.size
 have HB := zpS hB
 clear hB
 have H : ((zcB.f s0_0 s0_1 s0_2 8).bind fun bt176 => ((zmN.f s0_0 bt176.2.1 bt176.2.2 8).bind fun bt179 => (if bt179.1 = true then ((zcB.f s0_0 bt179.2.1 bt179.2.2 16).bind fun bt182 => ((zfT.f k s0_0 bt182.2.1 bt182.2.2 (wrap64 (1 + bt182.1)) 16).bind fun bt185 => ((zcB.f s0_0 bt185.2.1 bt185.2.2 (wrap64 (1 + bt182.1))).bind fun bt190 => ((zrU.f bt185.1 bt190.1).bind fun t193 => (some (t193, bt190.2.1, bt190.2.2)))))) else ((zfT.f k s0_0 bt179.2.1 bt179.2.2 (wrap64 (1 + bt176.1)) 16).bind fun bt196 => ((zcB.f s0_0 bt196.2.1 bt196.2.2 (wrap64 (1 + bt176.1))).bind fun bt201 => ((zrU.f bt196.1 bt201.1).bind fun t204 => (some (t204, bt201.2.1, bt201.2.2)))))))) = some (r1, r2, r3) := h
 clear h
 replace H := Option.bind_eq_some_iff.mp H
 obtain ⟨⟨t176, t177, t178⟩, A20, H⟩ := H
 replace H : ((zmN.f s0_0 t177 t178 8).bind fun bt179 => (if bt179.1 = true then ((zcB.f s0_0 bt179.2.1 bt179.2.2 16).bind fun bt182 => ((zfT.f k s0_0 bt182.2.1 bt182.2.2 (wrap64 (1 + bt182.1)) 16).bind fun bt185 => ((zcB.f s0_0 bt185.2.1 bt185.2.2 (wrap64 (1 + bt182.1))).bind fun bt190 => ((zrU.f bt185.1 bt190.1).bind fun t193 => (some (t193, bt190.2.1, bt190.2.2)))))) else ((zfT.f k s0_0 bt179.2.1 bt179.2.2 (wrap64 (1 + t176)) 16).bind fun bt196 => ((zcB.f s0_0 bt196.2.1 bt196.2.2 (wrap64 (1 + t176))).bind fun bt201 => ((zrU.f bt196.1 bt201.1).bind fun t204 => (some (t204, bt201.2.1, bt201.2.2))))))) = some (r1, r2, r3) := H
 have A2 := zpS A20
 clear A20
 replace H := Option.bind_eq_some_iff.mp H
 obtain ⟨⟨t179, t180, t181⟩, A30, H⟩ := H
 replace H : (if t179 = true then ((zcB.f s0_0 t180 t181 16).bind fun bt182 => ((zfT.f k s0_0 bt182.2.1 bt182.2.2 (wrap64 (1 + bt182.1)) 16).bind fun bt185 => ((zcB.f s0_0 bt185.2.1 bt185.2.2 (wrap64 (1 + bt182.1))).bind fun bt190 => ((zrU.f bt185.1 bt190.1).bind fun t193 => (some (t193, bt190.2.1, bt190.2.2)))))) else ((zfT.f k s0_0 t180 t181 (wrap64 (1 + t176)) 16).bind fun bt196 => ((zcB.f s0_0 bt196.2.1 bt196.2.2 (wrap64 (1 + t176))).bind fun bt201 => ((zrU.f bt196.1 bt201.1).bind fun t204 => (some (t204, bt201.2.1, bt201.2.2)))))) = some (r1, r2, r3) := H
 have A3 := zpS A30
 clear A30
 by_cases c4 : t179 = true
 ·subst c4
  have H1 : ((zcB.f s0_0 t180 t181 16).bind fun bt182 => ((zfT.f k s0_0 bt182.2.1 bt182.2.2 (wrap64 (1 + bt182.1)) 16).bind fun bt185 => ((zcB.f s0_0 bt185.2.1 bt185.2.2 (wrap64 (1 + bt182.1))).bind fun bt190 => ((zrU.f bt185.1 bt190.1).bind fun t193 => (some (t193, bt190.2.1, bt190.2.2)))))) = some (r1, r2, r3) := by rw [if_pos rfl] at H; exact H
  clear H
  have H := H1
  clear H1
  replace H := Option.bind_eq_some_iff.mp H
  obtain ⟨⟨t182, t183, t184⟩, A50, H⟩ := H
  replace H : ((zfT.f k s0_0 t183 t184 (wrap64 (1 + t182)) 16).bind fun bt185 => ((zcB.f s0_0 bt185.2.1 bt185.2.2 (wrap64 (1 + t182))).bind fun bt190 => ((zrU.f bt185.1 bt190.1).bind fun t193 => (some (t193, bt190.2.1, bt190.2.2))))) = some (r1, r2, r3) := H
  have A5 := zpS A50
  clear A50
  replace H := Option.bind_eq_some_iff.mp H
  obtain ⟨⟨t185, t188, t189⟩, A60, H⟩ := H
  replace H : ((zcB.f s0_0 t188 t189 (wrap64 (1 + t182))).bind fun bt190 => ((zrU.f t185 bt190.1).bind fun t193 => (some (t193, bt190.2.1, bt190.2.2)))) = some (r1, r2, r3) := H
  have A6 := zpS A60
  clear A60
  replace H := Option.bind_eq_some_iff.mp H
  obtain ⟨⟨t190, t191, t192⟩, A70, H⟩ := H
  replace H : ((zrU.f t185 t190).bind fun t193 => (some (t193, t191, t192))) = some (r1, r2, r3) := H
  have A7 := zpS A70
  clear A70
  replace H := Option.bind_eq_some_iff.mp H
  obtain ⟨t193, A80, H⟩ := H
  replace H : (some (t193, t191, t192)) = some (r1, r2, r3) := H
  have A8 := zpS A80
  clear A80
  simp only [Option.some.injEq, Prod.mk.injEq] at H
  obtain ⟨rfl, rfl, rfl⟩ := H
  go_enter Try.func69, Try.ntmps69
  go_wp2_with (first | ((with_reducible refine zgK (f := 87) rfl ?_); refine zqQ (some 7) rfl rfl Try.func87 (by kernel_rfl) rfl #[.pointer (some ⟨g, 0, none⟩), .int .i64 8] rfl (by (try simp only [List.map_toArray, List.map_cons, List.map_nil]); first | done | rfl | (simp only [List.length_drop, List.length_take]; rfl)) ?_; (with_reducible refine (zcB.calls g s0_0 s0_1 s0_2 8 t176 t177 t178 w0 _ ?side1 ?side2 A2.out).mono ?_); (case side1 => repeat (first | (with_reducible first | exact HI0.out | apply zxI.alloc | apply zxI.drewN | apply zxI.drew | apply zxI.set_1 | apply zxI.set_2) | exact HI0.out)); (case side2 => repeat (first | (with_reducible first | exact HB.out | apply znU | apply zkZ | apply zvF | refine zjF ?_ (zxI.ge HI0.out)) | exact HB.out)); rintro e w9 ⟨rfl, hi, hb, hk⟩; refine ⟨_, rfl, ?_⟩; have n0_ := zpS (zwG.trans (by repeat (first | (with_reducible first | exact HK.out | apply zwG.set_ | apply zeS | apply zwU | apply zbV) | exact HK.out)) hk (.inl rfl)); have n1_ := zpS (hb); have n2_ := zpS (hi); clear HK; clear HB; clear HI0; have HK := n0_; have HB := n1_; have HI0 := n2_; clear n0_ n1_ n2_; (try clear hb); (try clear hb2)) | ((with_reducible refine zgK (f := 66) rfl ?_); refine zqQ (some 10) rfl rfl Try.func66 (by kernel_rfl) rfl #[.pointer (some ⟨g, 0, none⟩), .int .i64 8] rfl (by (try simp only [List.map_toArray, List.map_cons, List.map_nil]); first | done | rfl | (simp only [List.length_drop, List.length_take]; rfl)) ?_; (with_reducible refine (zmN.calls g s0_0 t177 t178 8 true t180 t181 w0 _ ?side1 ?side2 A3.out).mono ?_); (case side1 => repeat (first | (with_reducible first | exact HI0.out | apply zxI.alloc | apply zxI.drewN | apply zxI.drew | apply zxI.set_1 | apply zxI.set_2) | exact HI0.out)); (case side2 => repeat (first | (with_reducible first | exact HB.out | apply znU | apply zkZ | apply zvF | refine zjF ?_ (zxI.ge HI0.out)) | exact HB.out)); rintro e w10 ⟨rfl, hi, hb, hk⟩; refine ⟨_, rfl, ?_⟩; have n0_ := zpS (zwG.trans (by repeat (first | (with_reducible first | exact HK.out | apply zwG.set_ | apply zeS | apply zwU | apply zbV) | exact HK.out)) hk (.inl rfl)); have n1_ := zpS (hb); have n2_ := zpS (hi); clear HK; clear HB; clear HI0; have HK := n0_; have HB := n1_; have HI0 := n2_; clear n0_ n1_ n2_; (try clear hb); (try clear hb2)) | ((with_reducible refine zgK (f := 87) rfl ?_); refine zqQ (some 12) rfl rfl Try.func87 (by kernel_rfl) rfl #[.pointer (some ⟨g, 0, none⟩), .int .i64 16] rfl (by (try simp only [List.map_toArray, List.map_cons, List.map_nil]); first | done | rfl | (simp only [List.length_drop, List.length_take]; rfl)) ?_; (with_reducible refine (zcB.calls g s0_0 t180 t181 16 t182 t183 t184 w0 _ ?side1 ?side2 A5.out).mono ?_); (case side1 => repeat (first | (with_reducible first | exact HI0.out | apply zxI.alloc | apply zxI.drewN | apply zxI.drew | apply zxI.set_1 | apply zxI.set_2) | exact HI0.out)); (case side2 => repeat (first | (with_reducible first | exact HB.out | apply znU | apply zkZ | apply zvF | refine zjF ?_ (zxI.ge HI0.out)) | exact HB.out)); rintro e w11 ⟨rfl, hi, hb, hk⟩; refine ⟨_, rfl, ?_⟩; have n0_ := zpS (zwG.trans (by repeat (first | (with_reducible first | exact HK.out | apply zwG.set_ | apply zeS | apply zwU | apply zbV) | exact HK.out)) hk (.inl rfl)); have n1_ := zpS (hb); have n2_ := zpS (hi); clear HK; clear HB; clear HI0; have HK := n0_; have HB := n1_; have HI0 := n2_; clear n0_ n1_ n2_; (try clear hb); (try clear hb2)) | ((with_reducible refine zgK (f := 88) rfl ?_); refine zqQ (some 16) rfl rfl Try.func88 (by kernel_rfl) rfl #[.pointer (some ⟨g, 0, none⟩), .int .i64 (wrap64 (1 + t182)), .int .i64 16] rfl (by (try simp only [List.map_toArray, List.map_cons, List.map_nil]); first | done | rfl | (simp only [List.length_drop, List.length_take]; rfl)) ?_; (with_reducible refine (zfT.calls k g s0_0 t183 t184 (wrap64 (1 + t182)) 16 t185 t188 t189 w0 _ ?side1 ?side2 A6.out).mono ?_); (case side1 => repeat (first | (with_reducible first | exact HI0.out | apply zxI.alloc | apply zxI.drewN | apply zxI.drew | apply zxI.set_1 | apply zxI.set_2) | exact HI0.out)); (case side2 => repeat (first | (with_reducible first | exact HB.out | apply znU | apply zkZ | apply zvF | refine zjF ?_ (zxI.ge HI0.out)) | exact HB.out)); rintro e w12 ⟨v186, rfl, ho0, hi, hb, hk⟩; refine ⟨_, rfl, ?_⟩; have n0_ := zpS (Kd.R_lower ho0 (zaV (w := w) (g := g) (row := none) (by repeat (first | (with_reducible first | exact HK.out | apply zwG.set_ | apply zeS | apply zwU | apply zbV) | exact HK.out)))); have n1_ := zpS (zwG.trans (by repeat (first | (with_reducible first | exact HK.out | apply zwG.set_ | apply zeS | apply zwU | apply zbV) | exact HK.out)) hk (.inl rfl)); have n2_ := zpS (hb); have n3_ := zpS (hi); clear HK; clear HB; clear HI0; have HO187 := n0_; have HK := n1_; have HB := n2_; have HI0 := n3_; clear n0_ n1_ n2_ n3_; (try clear hb); (try clear hb2); (try clear ho0)) | ((with_reducible refine zgK (f := 87) rfl ?_); refine zqQ (some 19) rfl rfl Try.func87 (by kernel_rfl) rfl #[.pointer (some ⟨g, 0, none⟩), .int .i64 (wrap64 (1 + t182))] rfl (by (try simp only [List.map_toArray, List.map_cons, List.map_nil]); first | done | rfl | (simp only [List.length_drop, List.length_take]; rfl)) ?_; (with_reducible refine (zcB.calls g s0_0 t188 t189 (wrap64 (1 + t182)) t190 t191 t192 w0 _ ?side1 ?side2 A7.out).mono ?_); (case side1 => repeat (first | (with_reducible first | exact HI0.out | apply zxI.alloc | apply zxI.drewN | apply zxI.drew | apply zxI.set_1 | apply zxI.set_2) | exact HI0.out)); (case side2 => repeat (first | (with_reducible first | exact HB.out | apply znU | apply zkZ | apply zvF | refine zjF ?_ (zxI.ge HI0.out)) | exact HB.out)); rintro e w13 ⟨rfl, hi, hb, hk⟩; refine ⟨_, rfl, ?_⟩; have n0_ := zpS (Kd.R_mono (Kd.R_keep (zxI.apart (show zxI w0 _ g s0_0 t188 t189 from by repeat (first | (with_reducible first | exact HI0.out | apply zxI.alloc | apply zxI.drewN | apply zxI.drew | apply zxI.set_1 | apply zxI.set_2) | exact HI0.out)) (by (with_reducible repeat (first | apply Kd.R_alloc | apply Kd.R_drewN | apply Kd.R_drew)); exact HO187.out) (by decide)) hk (fun _ h => h.2)) (fun _ h => h.1)); have n1_ := zpS (zwG.trans (by repeat (first | (with_reducible first | exact HK.out | apply zwG.set_ | apply zeS | apply zwU | apply zbV) | exact HK.out)) hk (.inl rfl)); have n2_ := zpS (hb); have n3_ := zpS (hi); clear HO187; clear HK; clear HB; clear HI0; have HO187 := n0_; have HK := n1_; have HB := n2_; have HI0 := n3_; clear n0_ n1_ n2_ n3_; (try clear hb); (try clear hb2); obtain ⟨Ao14, co14, eo14⟩ := Kd.R_slice HO187.out; subst eo14) | ((with_reducible refine zgK (f := 89) rfl ?_); refine zqQ (some 22) rfl rfl Try.func89 (by kernel_rfl) rfl #[.slice Ao14 t185.length co14, .int .i64 t190] rfl (by (try simp only [List.map_toArray, List.map_cons, List.map_nil]); first | done | rfl | (simp only [List.length_drop, List.length_take]; rfl)) ?_; (with_reducible refine (zrU.calls _ _ t185 t190 t193 _ ?side1 ?side2 A8.out).mono ?_); (case side1 => repeat (first | exact (Kd.R_reads' HO187.out).2.2 | (with_reducible refine Kd.C_alloc ?_ _) | (with_reducible refine Kd.C_drewN ?_ _) | (with_reducible refine Kd.C_drew ?_))); (case side2 => exact (Kd.R_reads' HO187.out).2.1); rintro e w15 ⟨v194, rfl, ho0, hb⟩; refine ⟨_, rfl, ?_⟩; have n0_ := zpS (Kd.R_elder' (by (with_reducible repeat (first | apply Kd.R_alloc | apply Kd.R_drewN | apply Kd.R_drew)); exact HO187.out) (Kd.R_base ho0) hb); have n1_ := zpS (Kd.R_lower (Kd.R_new' ho0 (Kd.R_lt (by (with_reducible repeat (first | apply Kd.R_alloc | apply Kd.R_drewN | apply Kd.R_drew)); exact HO187.out))) (zaV (w := w) (g := g) (row := none) (by repeat (first | (with_reducible first | exact HK.out | apply zwG.set_ | apply zeS | apply zwU | apply zbV) | exact HK.out)))); have n2_ := zpS (zxI.below (by repeat (first | (with_reducible first | exact HI0.out | apply zxI.alloc | apply zxI.drewN | apply zxI.drew | apply zxI.set_1 | apply zxI.set_2) | exact HI0.out)) hb); have n3_ := zpS (zwG.trans (by repeat (first | (with_reducible first | exact HK.out | apply zwG.set_ | apply zeS | apply zwU | apply zbV) | exact HK.out)) (zwG.of_below hb g none) (.inl rfl)); have n4_ := zpS (zkR (by repeat (first | (with_reducible first | exact HB.out | apply znU | apply zkZ | apply zvF | refine zjF ?_ (zxI.ge HI0.out)) | exact HB.out)) hb); clear HO187; clear HI0; clear HK; clear HB; have HO187 := n0_; have HO195 := n1_; have HI0 := n2_; have HK := n3_; have HB := n4_; clear n0_ n1_ n2_ n3_ n4_; (try clear hb); (try clear hb2); (try clear ho0)))
  go_ret
  exact ⟨_, by first | rfl | (simp [ziS, znJ] <;> rfl) | (simp [*, ziS, znJ] <;> rfl), by (with_reducible repeat (first | apply Kd.R_alloc | apply Kd.R_drewN | apply Kd.R_drew)); exact Kd.R_mono HO195.out (fun _ hk => trivial), by repeat (first | (with_reducible first | exact HI0.out | apply zxI.alloc | apply zxI.drewN | apply zxI.drew | apply zxI.set_1 | apply zxI.set_2) | exact HI0.out), by repeat (first | (with_reducible first | exact HB.out | apply znU | apply zkZ | apply zvF | refine zjF ?_ (zxI.ge HI0.out)) | exact HB.out), by repeat (first | (with_reducible first | exact HK.out | apply zwG.set_ | apply zeS | apply zwU | apply zbV) | exact HK.out)⟩
 ·replace c4 := Bool.eq_false_iff.mpr c4
  subst c4
  have H1 : ((zfT.f k s0_0 t180 t181 (wrap64 (1 + t176)) 16).bind fun bt196 => ((zcB.f s0_0 bt196.2.1 bt196.2.2 (wrap64 (1 + t176))).bind fun bt201 => ((zrU.f bt196.1 bt201.1).bind fun t204 => (some (t204, bt201.2.1, bt201.2.2))))) = some (r1, r2, r3) := by rw [if_neg (show ¬ (false = true) by decide)] at H; exact H
  clear H
  have H := H1
  clear H1
  replace H := Option.bind_eq_some_iff.mp H
  obtain ⟨⟨t196, t199, t200⟩, A160, H⟩ := H
  replace H : ((zcB.f s0_0 t199 t200 (wrap64 (1 + t176))).bind fun bt201 => ((zrU.f t196 bt201.1).bind fun t204 => (some (t204, bt201.2.1, bt201.2.2)))) = some (r1, r2, r3) := H
  have A16 := zpS A160
  clear A160
  replace H := Option.bind_eq_some_iff.mp H
  obtain ⟨⟨t201, t202, t203⟩, A170, H⟩ := H
  replace H : ((zrU.f t196 t201).bind fun t204 => (some (t204, t202, t203))) = some (r1, r2, r3) := H
  have A17 := zpS A170
  clear A170
  replace H := Option.bind_eq_some_iff.mp H
  obtain ⟨t204, A180, H⟩ := H
  replace H : (some (t204, t202, t203)) = some (r1, r2, r3) := H
  have A18 := zpS A180
  clear A180
  simp only [Option.some.injEq, Prod.mk.injEq] at H
  obtain ⟨rfl, rfl, rfl⟩ := H
  go_enter Try.func69, Try.ntmps69
  go_wp2_with (first | ((with_reducible refine zgK (f := 87) rfl ?_); refine zqQ (some 7) rfl rfl Try.func87 (by kernel_rfl) rfl #[.pointer (some ⟨g, 0, none⟩), .int .i64 8] rfl (by (try simp only [List.map_toArray, List.map_cons, List.map_nil]); first | done | rfl | (simp only [List.length_drop, List.length_take]; rfl)) ?_; (with_reducible refine (zcB.calls g s0_0 s0_1 s0_2 8 t176 t177 t178 w0 _ ?side1 ?side2 A2.out).mono ?_); (case side1 => repeat (first | (with_reducible first | exact HI0.out | apply zxI.alloc | apply zxI.drewN | apply zxI.drew | apply zxI.set_1 | apply zxI.set_2) | exact HI0.out)); (case side2 => repeat (first | (with_reducible first | exact HB.out | apply znU | apply zkZ | apply zvF | refine zjF ?_ (zxI.ge HI0.out)) | exact HB.out)); rintro e w19 ⟨rfl, hi, hb, hk⟩; refine ⟨_, rfl, ?_⟩; have n0_ := zpS (zwG.trans (by repeat (first | (with_reducible first | exact HK.out | apply zwG.set_ | apply zeS | apply zwU | apply zbV) | exact HK.out)) hk (.inl rfl)); have n1_ := zpS (hb); have n2_ := zpS (hi); clear HK; clear HB; clear HI0; have HK := n0_; have HB := n1_; have HI0 := n2_; clear n0_ n1_ n2_; (try clear hb); (try clear hb2)) | ((with_reducible refine zgK (f := 66) rfl ?_); refine zqQ (some 10) rfl rfl Try.func66 (by kernel_rfl) rfl #[.pointer (some ⟨g, 0, none⟩), .int .i64 8] rfl (by (try simp only [List.map_toArray, List.map_cons, List.map_nil]); first | done | rfl | (simp only [List.length_drop, List.length_take]; rfl)) ?_; (with_reducible refine (zmN.calls g s0_0 t177 t178 8 false t180 t181 w0 _ ?side1 ?side2 A3.out).mono ?_); (case side1 => repeat (first | (with_reducible first | exact HI0.out | apply zxI.alloc | apply zxI.drewN | apply zxI.drew | apply zxI.set_1 | apply zxI.set_2) | exact HI0.out)); (case side2 => repeat (first | (with_reducible first | exact HB.out | apply znU | apply zkZ | apply zvF | refine zjF ?_ (zxI.ge HI0.out)) | exact HB.out)); rintro e w20 ⟨rfl, hi, hb, hk⟩; refine ⟨_, rfl, ?_⟩; have n0_ := zpS (zwG.trans (by repeat (first | (with_reducible first | exact HK.out | apply zwG.set_ | apply zeS | apply zwU | apply zbV) | exact HK.out)) hk (.inl rfl)); have n1_ := zpS (hb); have n2_ := zpS (hi); clear HK; clear HB; clear HI0; have HK := n0_; have HB := n1_; have HI0 := n2_; clear n0_ n1_ n2_; (try clear hb); (try clear hb2)) | ((with_reducible refine zgK (f := 88) rfl ?_); refine zqQ (some 16) rfl rfl Try.func88 (by kernel_rfl) rfl #[.pointer (some ⟨g, 0, none⟩), .int .i64 (wrap64 (1 + t176)), .int .i64 16] rfl (by (try simp only [List.map_toArray, List.map_cons, List.map_nil]); first | done | rfl | (simp only [List.length_drop, List.length_take]; rfl)) ?_; (with_reducible refine (zfT.calls k g s0_0 t180 t181 (wrap64 (1 + t176)) 16 t196 t199 t200 w0 _ ?side1 ?side2 A16.out).mono ?_); (case side1 => repeat (first | (with_reducible first | exact HI0.out | apply zxI.alloc | apply zxI.drewN | apply zxI.drew | apply zxI.set_1 | apply zxI.set_2) | exact HI0.out)); (case side2 => repeat (first | (with_reducible first | exact HB.out | apply znU | apply zkZ | apply zvF | refine zjF ?_ (zxI.ge HI0.out)) | exact HB.out)); rintro e w21 ⟨v197, rfl, ho0, hi, hb, hk⟩; refine ⟨_, rfl, ?_⟩; have n0_ := zpS (Kd.R_lower ho0 (zaV (w := w) (g := g) (row := none) (by repeat (first | (with_reducible first | exact HK.out | apply zwG.set_ | apply zeS | apply zwU | apply zbV) | exact HK.out)))); have n1_ := zpS (zwG.trans (by repeat (first | (with_reducible first | exact HK.out | apply zwG.set_ | apply zeS | apply zwU | apply zbV) | exact HK.out)) hk (.inl rfl)); have n2_ := zpS (hb); have n3_ := zpS (hi); clear HK; clear HB; clear HI0; have HO198 := n0_; have HK := n1_; have HB := n2_; have HI0 := n3_; clear n0_ n1_ n2_ n3_; (try clear hb); (try clear hb2); (try clear ho0)) | ((with_reducible refine zgK (f := 87) rfl ?_); refine zqQ (some 19) rfl rfl Try.func87 (by kernel_rfl) rfl #[.pointer (some ⟨g, 0, none⟩), .int .i64 (wrap64 (1 + t176))] rfl (by (try simp only [List.map_toArray, List.map_cons, List.map_nil]); first | done | rfl | (simp only [List.length_drop, List.length_take]; rfl)) ?_; (with_reducible refine (zcB.calls g s0_0 t199 t200 (wrap64 (1 + t176)) t201 t202 t203 w0 _ ?side1 ?side2 A17.out).mono ?_); (case side1 => repeat (first | (with_reducible first | exact HI0.out | apply zxI.alloc | apply zxI.drewN | apply zxI.drew | apply zxI.set_1 | apply zxI.set_2) | exact HI0.out)); (case side2 => repeat (first | (with_reducible first | exact HB.out | apply znU | apply zkZ | apply zvF | refine zjF ?_ (zxI.ge HI0.out)) | exact HB.out)); rintro e w22 ⟨rfl, hi, hb, hk⟩; refine ⟨_, rfl, ?_⟩; have n0_ := zpS (Kd.R_mono (Kd.R_keep (zxI.apart (show zxI w0 _ g s0_0 t199 t200 from by repeat (first | (with_reducible first | exact HI0.out | apply zxI.alloc | apply zxI.drewN | apply zxI.drew | apply zxI.set_1 | apply zxI.set_2) | exact HI0.out)) (by (with_reducible repeat (first | apply Kd.R_alloc | apply Kd.R_drewN | apply Kd.R_drew)); exact HO198.out) (by decide)) hk (fun _ h => h.2)) (fun _ h => h.1)); have n1_ := zpS (zwG.trans (by repeat (first | (with_reducible first | exact HK.out | apply zwG.set_ | apply zeS | apply zwU | apply zbV) | exact HK.out)) hk (.inl rfl)); have n2_ := zpS (hb); have n3_ := zpS (hi); clear HO198; clear HK; clear HB; clear HI0; have HO198 := n0_; have HK := n1_; have HB := n2_; have HI0 := n3_; clear n0_ n1_ n2_ n3_; (try clear hb); (try clear hb2); obtain ⟨Ao23, co23, eo23⟩ := Kd.R_slice HO198.out; subst eo23) | ((with_reducible refine zgK (f := 89) rfl ?_); refine zqQ (some 22) rfl rfl Try.func89 (by kernel_rfl) rfl #[.slice Ao23 t196.length co23, .int .i64 t201] rfl (by (try simp only [List.map_toArray, List.map_cons, List.map_nil]); first | done | rfl | (simp only [List.length_drop, List.length_take]; rfl)) ?_; (with_reducible refine (zrU.calls _ _ t196 t201 t204 _ ?side1 ?side2 A18.out).mono ?_); (case side1 => repeat (first | exact (Kd.R_reads' HO198.out).2.2 | (with_reducible refine Kd.C_alloc ?_ _) | (with_reducible refine Kd.C_drewN ?_ _) | (with_reducible refine Kd.C_drew ?_))); (case side2 => exact (Kd.R_reads' HO198.out).2.1); rintro e w24 ⟨v205, rfl, ho0, hb⟩; refine ⟨_, rfl, ?_⟩; have n0_ := zpS (Kd.R_elder' (by (with_reducible repeat (first | apply Kd.R_alloc | apply Kd.R_drewN | apply Kd.R_drew)); exact HO198.out) (Kd.R_base ho0) hb); have n1_ := zpS (Kd.R_lower (Kd.R_new' ho0 (Kd.R_lt (by (with_reducible repeat (first | apply Kd.R_alloc | apply Kd.R_drewN | apply Kd.R_drew)); exact HO198.out))) (zaV (w := w) (g := g) (row := none) (by repeat (first | (with_reducible first | exact HK.out | apply zwG.set_ | apply zeS | apply zwU | apply zbV) | exact HK.out)))); have n2_ := zpS (zxI.below (by repeat (first | (with_reducible first | exact HI0.out | apply zxI.alloc | apply zxI.drewN | apply zxI.drew | apply zxI.set_1 | apply zxI.set_2) | exact HI0.out)) hb); have n3_ := zpS (zwG.trans (by repeat (first | (with_reducible first | exact HK.out | apply zwG.set_ | apply zeS | apply zwU | apply zbV) | exact HK.out)) (zwG.of_below hb g none) (.inl rfl)); have n4_ := zpS (zkR (by repeat (first | (with_reducible first | exact HB.out | apply znU | apply zkZ | apply zvF | refine zjF ?_ (zxI.ge HI0.out)) | exact HB.out)) hb); clear HO198; clear HI0; clear HK; clear HB; have HO198 := n0_; have HO206 := n1_; have HI0 := n2_; have HK := n3_; have HB := n4_; clear n0_ n1_ n2_ n3_ n4_; (try clear hb); (try clear hb2); (try clear ho0)))
  go_ret
  exact ⟨_, by first | rfl | (simp [ziS, znJ] <;> rfl) | (simp [*, ziS, znJ] <;> rfl), by (with_reducible repeat (first | apply Kd.R_alloc | apply Kd.R_drewN | apply Kd.R_drew)); exact Kd.R_mono HO206.out (fun _ hk => trivial), by repeat (first | (with_reducible first | exact HI0.out | apply zxI.alloc | apply zxI.drewN | apply zxI.drew | apply zxI.set_1 | apply zxI.set_2) | exact HI0.out), by repeat (first | (with_reducible first | exact HB.out | apply znU | apply zkZ | apply zvF | refine zjF ?_ (zxI.ge HI0.out)) | exact HB.out), by repeat (first | (with_reducible first | exact HK.out | apply zwG.set_ | apply zeS | apply zwU | apply zbV) | exact HK.out)⟩

def zyA.f (k : Nat) (l0 : List Int) : Option (List Int) := (zqP.f l0).bind fun bt207 => ((zmN.f bt207.1 bt207.2.1 bt207.2.2 2).bind fun bt211 => (if bt211.1 = true then ((zpJ.f bt207.1 bt211.2.1 bt211.2.2 (([2, 4, 4, 6, 8] : List Int))).bind fun bt217 => ((zaF.f k bt207.1 bt217.2.1 bt217.2.2 bt217.1).bind fun bt220 => (some bt220.1))) else ((ziM.f k bt207.1 bt211.2.1 bt211.2.2).bind fun bt225 => (some bt225.1))))
theorem zyA.mono : ∀ a0 k, LeO (zyA.f k a0) (zyA.f (k + 1) a0) := by
 intro a0 k
 unfold zyA.f
 repeat' first
   | (with_reducible exact ziM.mono _ _ _ _)
   | (with_reducible exact zaF.mono _ _ _ _ _)
   | (with_reducible exact LeO.refl _)
   | (with_reducible exact LeO.none _)
   | (with_reducible refine LeO.ite ?_ ?_)
   | (with_reducible refine LeO.bind ?_ (fun _ => ?_))
   | exact ziM.mono _ _ _ _
   | exact zaF.mono _ _ _ _ _
   | exact LeO.none _
   | refine LeO.ite ?_ ?_
   | refine LeO.bind ?_ (fun _ => ?_)
theorem zyA.calls (k : Nat) (A0 : Option Addr) (c0 : Nat) (l0 : List Int) (r : List Int) (w : World) (hr0 : Kd.C (Kd.int .u8) w A0 l0.length l0) (hc0 : l0.length ≤ c0) (h : zyA.f k l0 = some r) :
  Calls Try.prog 27 #[.slice A0 l0.length c0] w fun e w' => ∃ v0_ : Value, e = .returned (v0_) ∧ Kd.R (Kd.int .i64) 2 w' w.heap.size (fun _ => True) v0_ r ∧ Below w.heap.size w w' := by
 have HR0 := zpS hr0
 have HC0 := zpS hc0
 clear hr0 hc0
 have HB := zpS (Below.refl w.heap.size w)
 have H : ((zqP.f l0).bind fun bt207 => ((zmN.f bt207.1 bt207.2.1 bt207.2.2 2).bind fun bt211 => (if bt211.1 = true then ((zpJ.f bt207.1 bt211.2.1 bt211.2.2 (([2, 4, 4, 6, 8] : List Int))).bind fun bt217 => ((zaF.f k bt207.1 bt217.2.1 bt217.2.2 bt217.1).bind fun bt220 => (some bt220.1))) else ((ziM.f k bt207.1 bt211.2.1 bt211.2.2).bind fun bt225 => (some bt225.1))))) = some r := h
 clear h
 replace H := Option.bind_eq_some_iff.mp H
 obtain ⟨⟨t207, t208, t209⟩, A20, H⟩ := H
 replace H : ((zmN.f t207 t208 t209 2).bind fun bt211 => (if bt211.1 = true then ((zpJ.f t207 bt211.2.1 bt211.2.2 (([2, 4, 4, 6, 8] : List Int))).bind fun bt217 => ((zaF.f k t207 bt217.2.1 bt217.2.2 bt217.1).bind fun bt220 => (some bt220.1))) else ((ziM.f k t207 bt211.2.1 bt211.2.2).bind fun bt225 => (some bt225.1)))) = some r := H
 have A2 := zpS A20
 clear A20
 replace H := Option.bind_eq_some_iff.mp H
 obtain ⟨⟨t211, t212, t213⟩, A30, H⟩ := H
 replace H : (if t211 = true then ((zpJ.f t207 t212 t213 (([2, 4, 4, 6, 8] : List Int))).bind fun bt217 => ((zaF.f k t207 bt217.2.1 bt217.2.2 bt217.1).bind fun bt220 => (some bt220.1))) else ((ziM.f k t207 t212 t213).bind fun bt225 => (some bt225.1))) = some r := H
 have A3 := zpS A30
 clear A30
 by_cases c4 : t211 = true
 ·subst c4
  have H1 : ((zpJ.f t207 t212 t213 (([2, 4, 4, 6, 8] : List Int))).bind fun bt217 => ((zaF.f k t207 bt217.2.1 bt217.2.2 bt217.1).bind fun bt220 => (some bt220.1))) = some r := by rw [if_pos rfl] at H; exact H
  clear H
  have H := H1
  clear H1
  obtain ⟨y214, hy214⟩ : ∃ y_ : List Int, y_ = (([2, 4, 4, 6, 8] : List Int)) := ⟨_, rfl⟩
  replace H : ((zpJ.f t207 t212 t213 y214).bind fun bt217 => ((zaF.f k t207 bt217.2.1 bt217.2.2 bt217.1).bind fun bt220 => (some bt220.1))) = some r := by first | (rw [hy214]; with_reducible exact H) | (have H2_ := (Option.bind_some _ _).symm.trans H; rw [hy214]; with_reducible exact H2_) | (have H2_ := (Option.bind_some _ _).symm.trans H; with_reducible exact H2_) | with_reducible exact H | (rw [hy214]; exact H) | exact H
  have Ny214 := zpS hy214
  clear hy214
  replace H := Option.bind_eq_some_iff.mp H
  obtain ⟨⟨t217, t218, t219⟩, A50, H⟩ := H
  replace H : ((zaF.f k t207 t218 t219 t217).bind fun bt220 => (some bt220.1)) = some r := H
  have A5 := zpS A50
  clear A50
  replace H := Option.bind_eq_some_iff.mp H
  obtain ⟨⟨t220, t223, t224⟩, A60, H⟩ := H
  replace H : (some t220) = some r := H
  have A6 := zpS A60
  clear A60
  obtain rfl := Option.some.inj H
  go_enter Try.func27, Try.ntmps27
  go_wp2_with (first | ((with_reducible refine zgK (f := 54) rfl ?_); refine zqQ (some 6) rfl rfl Try.func54 (by kernel_rfl) rfl #[.slice A0 l0.length c0] rfl (by (try simp only [List.map_toArray, List.map_cons, List.map_nil]); first | done | rfl | (simp only [List.length_drop, List.length_take]; rfl)) ?_; (with_reducible refine (zqP.calls _ _ l0 t207 t208 t209 w _ ?side1 ?side2 ?side3 A2.out).mono ?_); (case side1 => repeat (first | (with_reducible first | exact HB.out | apply znU | apply zkZ | apply zvF) | exact HB.out)); (case side2 => exact HR0.out); (case side3 => exact HC0.out); rintro e w7 ⟨g210, rfl, hi, hb, hb2⟩; refine ⟨_, rfl, ?_⟩; have n0_ := zpS (hb); have n1_ := zpS (hi); clear HB; have HB := n0_; have HI210 := n1_; clear n0_ n1_; (try clear hb); (try clear hb2)) | ((with_reducible refine zgK (f := 66) rfl ?_); refine zqQ (some 8) rfl rfl Try.func66 (by kernel_rfl) rfl #[.pointer (some ⟨g210, 0, none⟩), .int .i64 2] rfl (by (try simp only [List.map_toArray, List.map_cons, List.map_nil]); first | done | rfl | (simp only [List.length_drop, List.length_take]; rfl)) ?_; (with_reducible refine (zmN.calls g210 t207 t208 t209 2 true t212 t213 w _ ?side1 ?side2 A3.out).mono ?_); (case side1 => repeat (first | (with_reducible first | exact HI210.out | apply zxI.alloc | apply zxI.drewN | apply zxI.drew | apply zxI.set_1 | apply zxI.set_2) | exact HI210.out)); (case side2 => repeat (first | (with_reducible first | exact HB.out | apply znU | apply zkZ | apply zvF | refine zjF ?_ (zxI.ge HI210.out)) | exact HB.out)); rintro e w8 ⟨rfl, hi, hb, hk⟩; refine ⟨_, rfl, ?_⟩; have n0_ := zpS (hb); have n1_ := zpS (hi); clear HB; clear HI210; have HB := n0_; have HI210 := n1_; clear n0_ n1_; (try clear hb); (try clear hb2)) | ((with_reducible refine gate_dst (N := 10) rfl ?_); refine Kd.R_lit (Kd.int .i64) _ 2 ?hg (N := 10) ?hd (xs := ([2, 4, 4, 6, 8] : List Int)) (zlR := [.int .i64 2, .int .i64 4, .int .i64 4, .int .i64 6, .int .i64 8]) (ok := fun _ => True) (okp := fun _ => True) ?hr ?hp (fun _ hk => hk) trivial (Below.refl _ _) (Nat.le_refl _) (by simp) ?_; (case hd => rfl); (case hg => rfl); (case hr => first | (go_simp; done) | (go_simp; rfl)); (case hp => exact (zfI.one (show Kd.M (Kd.int .i64) _ _ _ 2 [.int .i64 2] from rfl) (zfI.one (show Kd.M (Kd.int .i64) _ _ _ 4 [.int .i64 4] from rfl) (zfI.one (show Kd.M (Kd.int .i64) _ _ _ 4 [.int .i64 4] from rfl) (zfI.one (show Kd.M (Kd.int .i64) _ _ _ 6 [.int .i64 6] from rfl) (zfI.one (show Kd.M (Kd.int .i64) _ _ _ 8 [.int .i64 8] from rfl) (zfI.none _ _))))))); intro v215 w9 ho10 hb hg_ hnew_; clear hg_ hnew_; (first | rw [← Ny214.out] at ho10 | (simp only [Int.reduceToNat] at ho10; rw [← Ny214.out] at ho10)); have n0_ := zpS (Kd.R_lower ho10 (zuA (by repeat (first | (with_reducible first | exact HB.out | apply znU | apply zkZ | apply zvF | refine zjF ?_ (zxI.ge HI210.out)) | exact HB.out)))); have n1_ := zpS (zxI.below (by repeat (first | (with_reducible first | exact HI210.out | apply zxI.alloc | apply zxI.drewN | apply zxI.drew | apply zxI.set_1 | apply zxI.set_2) | exact HI210.out)) hb); have n2_ := zpS (zkR (by repeat (first | (with_reducible first | exact HB.out | apply znU | apply zkZ | apply zvF | refine zjF ?_ (zxI.ge HI210.out)) | exact HB.out)) hb); clear HI210; clear HB; have HO216 := n0_; have HI210 := n1_; have HB := n2_; clear n0_ n1_ n2_; clear hb ho10; obtain ⟨Ao11, co11, eo11⟩ := Kd.R_slice HO216.out; subst eo11) | ((with_reducible refine zgK (f := 67) rfl ?_); refine zqQ (some 11) rfl rfl Try.func67 (by kernel_rfl) rfl #[.pointer (some ⟨g210, 0, none⟩), .slice Ao11 y214.length co11] rfl (by (try simp only [List.map_toArray, List.map_cons, List.map_nil]); first | done | rfl | (simp only [List.length_drop, List.length_take]; rfl)) ?_; (with_reducible refine (zpJ.calls g210 t207 t212 t213 _ _ y214 t217 t218 t219 w _ ?side1 ?side2 ?side3 ?side4 ?side5 A5.out).mono ?_); (case side1 => repeat (first | (with_reducible first | exact HI210.out | apply zxI.alloc | apply zxI.drewN | apply zxI.drew | apply zxI.set_1 | apply zxI.set_2) | exact HI210.out)); (case side2 => repeat (first | (with_reducible first | exact HB.out | apply znU | apply zkZ | apply zvF | refine zjF ?_ (zxI.ge HI210.out)) | exact HB.out)); (case side3 => repeat (first | exact (Kd.R_reads' HO216.out).2.2 | (with_reducible refine Kd.C_alloc ?_ _) | (with_reducible refine Kd.C_drewN ?_ _) | (with_reducible refine Kd.C_drew ?_))); (case side4 => exact (Kd.R_reads' HO216.out).2.1); (case side5 => exact far_slice (zxI.own_ne HI210.out HO216.out (by decide))); rintro e w12 ⟨rfl, hi, hb, hk⟩; refine ⟨_, rfl, ?_⟩; have n0_ := zpS (Kd.R_mono (Kd.R_keep (zxI.apart (show zxI w _ g210 t207 t212 t213 from by repeat (first | (with_reducible first | exact HI210.out | apply zxI.alloc | apply zxI.drewN | apply zxI.drew | apply zxI.set_1 | apply zxI.set_2) | exact HI210.out)) (by (with_reducible repeat (first | apply Kd.R_alloc | apply Kd.R_drewN | apply Kd.R_drew)); exact HO216.out) (by decide)) hk (fun _ h => h.2)) (fun _ h => h.1)); have n1_ := zpS (hb); have n2_ := zpS (hi); clear HO216; clear HB; clear HI210; have HO216 := n0_; have HB := n1_; have HI210 := n2_; clear n0_ n1_ n2_; (try clear hb); (try clear hb2)) | ((with_reducible refine zgK (f := 68) rfl ?_); refine zqQ (some 14) rfl rfl Try.func68 (by kernel_rfl) rfl #[.pointer (some ⟨g210, 0, none⟩), .int .i64 t217] rfl (by (try simp only [List.map_toArray, List.map_cons, List.map_nil]); first | done | rfl | (simp only [List.length_drop, List.length_take]; rfl)) ?_; (with_reducible refine (zaF.calls k g210 t207 t218 t219 t217 t220 t223 t224 w _ ?side1 ?side2 A6.out).mono ?_); (case side1 => repeat (first | (with_reducible first | exact HI210.out | apply zxI.alloc | apply zxI.drewN | apply zxI.drew | apply zxI.set_1 | apply zxI.set_2) | exact HI210.out)); (case side2 => repeat (first | (with_reducible first | exact HB.out | apply znU | apply zkZ | apply zvF | refine zjF ?_ (zxI.ge HI210.out)) | exact HB.out)); rintro e w13 ⟨v221, rfl, ho0, hi, hb, hk⟩; refine ⟨_, rfl, ?_⟩; have n0_ := zpS (Kd.R_mono (Kd.R_told (Kd.R_oldK (zxI.apart (show zxI w _ g210 t207 t218 t219 from by repeat (first | (with_reducible first | exact HI210.out | apply zxI.alloc | apply zxI.drewN | apply zxI.drew | apply zxI.set_1 | apply zxI.set_2) | exact HI210.out)) (by (with_reducible repeat (first | apply Kd.R_alloc | apply Kd.R_drewN | apply Kd.R_drew)); exact HO216.out) (by decide)) hk) (Kd.R_base ho0)) (fun _ h_ => h_.1)); have n1_ := zpS (Kd.R_lower (Kd.R_new' ho0 (Kd.R_lt (by (with_reducible repeat (first | apply Kd.R_alloc | apply Kd.R_drewN | apply Kd.R_drew)); exact HO216.out))) (zuA (by repeat (first | (with_reducible first | exact HB.out | apply znU | apply zkZ | apply zvF | refine zjF ?_ (zxI.ge HI210.out)) | exact HB.out)))); have n2_ := zpS (hb); have n3_ := zpS (hi); clear HO216; clear HB; clear HI210; have HO216 := n0_; have HO222 := n1_; have HB := n2_; have HI210 := n3_; clear n0_ n1_ n2_ n3_; (try clear hb); (try clear hb2); (try clear ho0)))
  go_ret
  exact ⟨_, by first | rfl | (simp [ziS, znJ] <;> rfl) | (simp [*, ziS, znJ] <;> rfl), by (with_reducible repeat (first | apply Kd.R_alloc | apply Kd.R_drewN | apply Kd.R_drew)); exact Kd.R_mono HO222.out (fun _ hk => trivial), by repeat (first | (with_reducible first | exact HB.out | apply znU | apply zkZ | apply zvF | refine zjF ?_ (zxI.ge HI210.out)) | exact HB.out)⟩
 ·replace c4 := Bool.eq_false_iff.mpr c4
  subst c4
  have H1 : ((ziM.f k t207 t212 t213).bind fun bt225 => (some bt225.1)) = some r := by rw [if_neg (show ¬ (false = true) by decide)] at H; exact H
  clear H
  have H := H1
  clear H1
  replace H := Option.bind_eq_some_iff.mp H
  obtain ⟨⟨t225, t228, t229⟩, A140, H⟩ := H
  replace H : (some t225) = some r := H
  have A14 := zpS A140
  clear A140
  obtain rfl := Option.some.inj H
  go_enter Try.func27, Try.ntmps27
  go_wp2_with (first | ((with_reducible refine zgK (f := 54) rfl ?_); refine zqQ (some 6) rfl rfl Try.func54 (by kernel_rfl) rfl #[.slice A0 l0.length c0] rfl (by (try simp only [List.map_toArray, List.map_cons, List.map_nil]); first | done | rfl | (simp only [List.length_drop, List.length_take]; rfl)) ?_; (with_reducible refine (zqP.calls _ _ l0 t207 t208 t209 w _ ?side1 ?side2 ?side3 A2.out).mono ?_); (case side1 => repeat (first | (with_reducible first | exact HB.out | apply znU | apply zkZ | apply zvF) | exact HB.out)); (case side2 => exact HR0.out); (case side3 => exact HC0.out); rintro e w15 ⟨g210, rfl, hi, hb, hb2⟩; refine ⟨_, rfl, ?_⟩; have n0_ := zpS (hb); have n1_ := zpS (hi); clear HB; have HB := n0_; have HI210 := n1_; clear n0_ n1_; (try clear hb); (try clear hb2)) | ((with_reducible refine zgK (f := 66) rfl ?_); refine zqQ (some 8) rfl rfl Try.func66 (by kernel_rfl) rfl #[.pointer (some ⟨g210, 0, none⟩), .int .i64 2] rfl (by (try simp only [List.map_toArray, List.map_cons, List.map_nil]); first | done | rfl | (simp only [List.length_drop, List.length_take]; rfl)) ?_; (with_reducible refine (zmN.calls g210 t207 t208 t209 2 false t212 t213 w _ ?side1 ?side2 A3.out).mono ?_); (case side1 => repeat (first | (with_reducible first | exact HI210.out | apply zxI.alloc | apply zxI.drewN | apply zxI.drew | apply zxI.set_1 | apply zxI.set_2) | exact HI210.out)); (case side2 => repeat (first | (with_reducible first | exact HB.out | apply znU | apply zkZ | apply zvF | refine zjF ?_ (zxI.ge HI210.out)) | exact HB.out)); rintro e w16 ⟨rfl, hi, hb, hk⟩; refine ⟨_, rfl, ?_⟩; have n0_ := zpS (hb); have n1_ := zpS (hi); clear HB; clear HI210; have HB := n0_; have HI210 := n1_; clear n0_ n1_; (try clear hb); (try clear hb2)) | ((with_reducible refine zgK (f := 69) rfl ?_); refine zqQ (some 16) rfl rfl Try.func69 (by kernel_rfl) rfl #[.pointer (some ⟨g210, 0, none⟩)] rfl (by (try simp only [List.map_toArray, List.map_cons, List.map_nil]); first | done | rfl | (simp only [List.length_drop, List.length_take]; rfl)) ?_; (with_reducible refine (ziM.calls k g210 t207 t212 t213 t225 t228 t229 w _ ?side1 ?side2 A14.out).mono ?_); (case side1 => repeat (first | (with_reducible first | exact HI210.out | apply zxI.alloc | apply zxI.drewN | apply zxI.drew | apply zxI.set_1 | apply zxI.set_2) | exact HI210.out)); (case side2 => repeat (first | (with_reducible first | exact HB.out | apply znU | apply zkZ | apply zvF | refine zjF ?_ (zxI.ge HI210.out)) | exact HB.out)); rintro e w17 ⟨v226, rfl, ho0, hi, hb, hk⟩; refine ⟨_, rfl, ?_⟩; have n0_ := zpS (Kd.R_lower ho0 (zuA (by repeat (first | (with_reducible first | exact HB.out | apply znU | apply zkZ | apply zvF | refine zjF ?_ (zxI.ge HI210.out)) | exact HB.out)))); have n1_ := zpS (hb); have n2_ := zpS (hi); clear HB; clear HI210; have HO227 := n0_; have HB := n1_; have HI210 := n2_; clear n0_ n1_ n2_; (try clear hb); (try clear hb2); (try clear ho0)))
  go_ret
  exact ⟨_, by first | rfl | (simp [ziS, znJ] <;> rfl) | (simp [*, ziS, znJ] <;> rfl), by (with_reducible repeat (first | apply Kd.R_alloc | apply Kd.R_drewN | apply Kd.R_drew)); exact HO227.out, by repeat (first | (with_reducible first | exact HB.out | apply znU | apply zkZ | apply zvF | refine zjF ?_ (zxI.ge HI210.out)) | exact HB.out)⟩

-- NOT PRINTED: function 97 (slices_IndexFunc_int64_int64)

-- NOT PRINTED: function 62 (slices_ContainsFunc_int64_int64)

def zcG.l0 : Nat → Int → List Int → Int → Int → Option (Int)
 | 0, _, _, _, _ => none
 | k + 1, x3, x6, x7, x8 => if x8 < x7 then (if 0 ≤ x8 then (if x8 < (x6.length : Int) then (zcG.l0 k (wrap64 (x3 + (rd x6 x8))) x6 x7 (wrap64 (x8 + 1))) else (none)) else (none)) else (some x3)
def zcG.f (k : Nat) (l0 : List Int) : Option (Int) := zcG.l0 k 0 l0 (l0.length : Int) 0
theorem zcG.mono_l : ∀ k, (∀ y0 y1 y2 y3, LeO (zcG.l0 k y0 y1 y2 y3) (zcG.l0 (k + 1) y0 y1 y2 y3))
 | 0 => fun _ _ _ _ r h => by simp [zcG.l0] at h
 | k + 1 => by
  have ih0 := zcG.mono_l k
  ·intro y0 y1 y2 y3
   unfold zcG.l0
   repeat' first
   | (with_reducible exact ih0 _ _ _ _)
   | (with_reducible exact LeO.refl _)
   | (with_reducible exact LeO.none _)
   | (with_reducible refine LeO.ite ?_ ?_)
   | (with_reducible refine LeO.bind ?_ (fun _ => ?_))
   | exact ih0 _ _ _ _
   | exact LeO.none _
   | refine LeO.ite ?_ ?_
   | refine LeO.bind ?_ (fun _ => ?_)
theorem zcG.mono : ∀ a0 k, LeO (zcG.f k a0) (zcG.f (k + 1) a0) := by
 intro a0 k
 have ih0 := zcG.mono_l k
 unfold zcG.f
 repeat' first
   | (with_reducible exact ih0 _ _ _ _)
   | (with_reducible exact LeO.refl _)
   | (with_reducible exact LeO.none _)
   | (with_reducible refine LeO.ite ?_ ?_)
   | (with_reducible refine LeO.bind ?_ (fun _ => ?_))
   | exact ih0 _ _ _ _
   | exact LeO.none _
   | refine LeO.ite ?_ ?_
   | refine LeO.bind ?_ (fun _ => ?_)
theorem zcG.calls (k : Nat) (A0 : Option Addr) (c0 : Nat) (l0 : List Int) (r : Int) (w : World) (hr0 : Kd.C (Kd.int .i64) w A0 l0.length l0) (hc0 : l0.length ≤ c0) (h : zcG.f k l0 = some r) :
  Calls Try.prog 64 #[.slice A0 l0.length c0] w fun e w' => e = .returned (.int .i64 r) ∧ Drawn0 w w' := by
 have HR0 := zpS hr0
 have HC0 := zpS hc0
 clear hr0 hc0
 have H : (zcG.l0 k 0 l0 (l0.length : Int) 0) = some r := h
 clear h
 have H' := zpS H
 clear H
 go_enter Try.func64, Try.ntmps64
 go_wp2
 (try go_simp)
 go_loopg [3, 8] k (fun kq v3 v8 w' => ∃ (x3_1 : Int) (x8_1 : Int), v3 = .int .i64 x3_1 ∧ v8 = .int .i64 x8_1 ∧ Aside0 (zcG.l0 kq x3_1 l0 (l0.length : Int) x8_1 = some r) ∧ Aside0 (kq ≤ k) ∧ Drawn0 w w')
 case atStart => exact ⟨(0), (0), (by first | rfl | (simp; done) | (simp [*]; done)), (by first | rfl | (simp; done) | (simp [*]; done)), H', ⟨Nat.le_refl _⟩, by repeat (first | exact Drawn0.refl _ | apply Drawn0.step)⟩
 case round =>
  clear H'
  obtain ⟨x3_1, x8_1, rfl, rfl, HA, HK1, ⟨m1, rfl⟩⟩ := hrel
  cases gk with
  | zero => exact absurd HA.out (by simp [zcG.l0])
  | succ k1 =>
   have H := HA.out
   clear HA
   simp only [zcG.l0] at H
   by_cases c2 : x8_1 < (l0.length : Int)
   ·rw [if_pos c2] at H
    have c2b0 : decide (x8_1 < (l0.length : Int)) = true := decide_eq_true c2
    clear c2
    by_cases c3 : 0 ≤ x8_1
    ·rw [if_pos c3] at H
     have c3b0 : decide (0 ≤ x8_1) = true := decide_eq_true c3
     clear c3
     by_cases c4 : x8_1 < (l0.length : Int)
     ·rw [if_pos c4] at H
      have c4b0 : decide (x8_1 < (l0.length : Int)) = true := decide_eq_true c4
      clear c4
      have H' := zpS H
      clear H
      have p230 : 0 ≤ (x8_1 : Int) := dt_
      have q230 : x8_1 < (l0.length : Int) := dt_
      obtain ⟨ad230, e230, hx230_0⟩ := Kd.at_int HR0.out x8_1 p230 q230
      cases e230
      replace p230 := eq_true p230
      replace q230 := eq_true q230
      go_wp2
      go_roundg k1
      case measure => have := HK1.out; omega
      case rel => exact ⟨(wrap64 (x3_1 + (rd l0 x8_1))), (wrap64 (x8_1 + 1)), (by first | rfl | (simp; done) | (simp [*]; done)), (by first | rfl | (simp; done) | (simp [*]; done)), H', ⟨by have := HK1.out; omega⟩, by repeat (first | exact Drawn0.refl _ | apply Drawn0.step)⟩
     ·rw [if_neg c4] at H
      exact absurd H (by simp)
    ·rw [if_neg c3] at H
     exact absurd H (by simp)
   ·rw [if_neg c2] at H
    have c2b0 : decide (x8_1 < (l0.length : Int)) = false := decide_eq_false c2
    clear c2
    obtain rfl := Option.some.inj H
    go_wp2
    go_ret
    exact ⟨by first | rfl | (simp; done) | (simp [*]; done), by repeat (first | exact Drawn0.refl _ | apply Drawn0.step)⟩

def zrP.f (a0 : Int) (a1 : Int) (a2 : Int) : Option (Bool) := if a0 ≥ a1 then (some (decide (a0 ≤ a2))) else (some false)
theorem zrP.calls (a0 : Int) (a1 : Int) (a2 : Int) (r : Bool) (w : World) (h : zrP.f a0 a1 a2 = some r) :
  Calls Try.prog 60 #[.int .i64 a0, .int .i64 a1, .int .i64 a2] w fun e w' => e = .returned (.bool r) ∧ Drawn0 w w' := by
 have H : (if a0 ≥ a1 then (some (decide (a0 ≤ a2))) else (some false)) = some r := h
 clear h
 by_cases c4 : a0 ≥ a1
 ·rw [if_pos c4] at H
  have c4b0 : decide (a1 ≤ a0) = true := decide_eq_true c4
  clear c4
  obtain rfl := Option.some.inj H
  go_enter Try.func60, Try.ntmps60
  go_wp2
  go_ret
  exact ⟨by first | rfl | (simp; done) | (simp [*]; done), by repeat (first | exact Drawn0.refl _ | apply Drawn0.step)⟩
 ·rw [if_neg c4] at H
  have c4b0 : decide (a1 ≤ a0) = false := decide_eq_false c4
  clear c4
  obtain rfl := Option.some.inj H
  go_enter Try.func60, Try.ntmps60
  go_wp2
  go_ret
  exact ⟨by first | rfl | (simp; done) | (simp [*]; done), by repeat (first | exact Drawn0.refl _ | apply Drawn0.step)⟩

def zvU.f (a0 : Int) : Option (Bool) := (zrP.f a0 1 16).bind fun t231 => (some (!t231))
theorem zvU.calls (a0 : Int) (r : Bool) (w : World) (h : zvU.f a0 = some r) :
  Calls Try.prog 75 #[.int .i64 a0] w fun e w' => e = .returned (.bool r) ∧ Drawn0 w w' := by
 have H : ((zrP.f a0 1 16).bind fun t231 => (some (!t231))) = some r := h
 clear h
 replace H := Option.bind_eq_some_iff.mp H
 obtain ⟨t231, A20, H⟩ := H
 replace H : (some (!t231)) = some r := H
 have A2 := zpS A20
 clear A20
 obtain rfl := Option.some.inj H
 go_enter Try.func75, Try.ntmps75
 go_wp2_with (first | ((with_reducible refine zgK (f := 60) rfl ?_); refine zqQ (some 4) rfl rfl Try.func60 (by kernel_rfl) rfl #[.int .i64 a0, .int .i64 1, .int .i64 16] rfl (by (try simp only [List.map_toArray, List.map_cons, List.map_nil]); first | done | rfl | (simp only [List.length_drop, List.length_take]; rfl)) ?_; (with_reducible refine (zrP.calls a0 1 16 t231 _ A2.out).mono ?_); rintro e w' ⟨rfl, ⟨nd, rfl⟩⟩; refine ⟨_, rfl, ?_⟩))
 go_ret
 exact ⟨by first | rfl | (simp; done) | (simp [*]; done), by repeat (first | exact Drawn0.refl _ | apply Drawn0.step)⟩

def zjN.i : Nat → List Int → Option Int
 | _, [] => some (-1)
 | j, x :: xs => (zvU.f x).bind fun b => if b = true then some (j : Int) else zjN.i (j + 1) xs
def zjN.f (l0 : List Int) : Option Bool := (zjN.i 0 l0).bind fun j => some (decide (0 ≤ j))
theorem zjN.icalls (A0 : Option Addr) (c0 : Nat) (l0 : List Int) (r : Int) (w : World) (hr0 : Kd.C (Kd.int .i64) w A0 l0.length l0) (hc0 : l0.length ≤ c0) (h : zjN.i 0 l0 = some r) :
  Calls Try.prog 97 #[.slice A0 l0.length c0, .func (.func 75) #[] #[]] w fun e w' => e = .returned (.int .i64 r) ∧ Drawn0 w w' := by
 have hmx := hr0.2.1
 have HR0 := zpS hr0
 have HC0 := zpS hc0
 clear hr0 hc0
 have H' := zpS h
 clear h
 go_enter Try.func97, Try.ntmps97
 go_wp2
 go_loopg [8] l0.length (fun kq v8 w' => ∃ j : Nat, v8 = .int .i64 j ∧ Aside0 (zjN.i j (l0.drop j) = some r) ∧ Aside0 (kq + j = l0.length) ∧ Drawn0 w w')
 case atStart => exact ⟨0, rfl, H', ⟨rfl⟩, Drawn0.refl _⟩
 case round =>
  clear H'
  obtain ⟨j, rfl, HA, HK1, ⟨m1, rfl⟩⟩ := hrel
  by_cases hlt : j < l0.length
  ·have H := HA.out
   rw [List.drop_eq_getElem_cons hlt] at H
   simp only [zjN.i] at H
   obtain ⟨b, A20, H⟩ := Option.bind_eq_some_iff.mp H
   have hrd : l0[j] = rd l0 (j : Int) := by
    unfold rd
    rw [Int.toNat_natCast, List.getD_eq_getElem?_getD, List.getElem?_eq_getElem hlt]
    rfl
   rw [hrd] at A20
   have A2 := zpS A20
   clear A20 HA hrd
   have c2b0 : decide ((j : Int) < (l0.length : Int)) = true := decide_eq_true (by omega)
   have c3b0 : decide (0 ≤ (j : Int)) = true := decide_eq_true (by omega)
   obtain ⟨ad111, e111, hx111_0⟩ := Kd.at_int HR0.out (j : Int) (by omega) (by omega)
   cases e111
   rw [Int.toNat_natCast] at hx111_0
   cases b with
   | true =>
    simp only [if_true, Option.some.injEq] at H
    subst H
    go_wp2_with (go_at_call 75; (with_reducible refine (zvU.calls _ true _ A2.out).mono ?_); rintro e w' ⟨rfl, ⟨nd, rfl⟩⟩)
    go_ret
    exact ⟨rfl, by repeat (first | exact Drawn0.refl _ | apply Drawn0.step)⟩
   | false =>
    have H2 := zpS (show zjN.i (j + 1) (l0.drop (j + 1)) = some r from by simpa using H)
    clear H
    go_wp2_with (go_at_call 75; (with_reducible refine (zvU.calls _ false _ A2.out).mono ?_); rintro e w' ⟨rfl, ⟨nd, rfl⟩⟩)
    go_roundg (l0.length - (j + 1))
    case measure => have := HK1.out; omega
    case rel => exact ⟨j + 1, by (try rw [wrap64]); go_num, H2, ⟨by omega⟩, by repeat (first | exact Drawn0.refl _ | apply Drawn0.step)⟩
  ·have H := HA.out
   rw [List.drop_eq_nil_of_le (by omega)] at H
   simp only [zjN.i, Option.some.injEq] at H
   subst H
   have c2b0 : decide ((j : Int) < (l0.length : Int)) = false := decide_eq_false (by omega)
   go_wp2
   go_ret
   exact ⟨rfl, by repeat (first | exact Drawn0.refl _ | apply Drawn0.step)⟩
theorem zjN.calls (A0 : Option Addr) (c0 : Nat) (l0 : List Int) (r : Bool) (w : World) (hr0 : Kd.C (Kd.int .i64) w A0 l0.length l0) (hc0 : l0.length ≤ c0) (h : zjN.f l0 = some r) :
  Calls Try.prog 62 #[.slice A0 l0.length c0, .func (.func 75) #[] #[]] w fun e w' => e = .returned (.bool r) ∧ Drawn0 w w' := by
 obtain ⟨q, hq, h⟩ := Option.bind_eq_some_iff.mp h
 obtain rfl := Option.some.inj h
 have HQ := zpS hq
 clear hq
 go_enter Try.func62, Try.ntmps62
 go_wp2_with (go_at_call 97; (with_reducible refine (zjN.icalls _ _ l0 q _ ?h1 ?h2 HQ.out).mono ?_); (case h1 => exact hr0); (case h2 => exact hc0); rintro e w' ⟨rfl, ⟨nd, rfl⟩⟩)
 go_ret
 exact ⟨rfl, by repeat (first | exact Drawn0.refl _ | apply Drawn0.step)⟩
theorem zjN.i_any (p : Int → Bool) : ∀ (l : List Int) (j : Nat), (∀ x ∈ l, zvU.f x = some (p x)) → ∃ q : Int, zjN.i j l = some q ∧ (0 ≤ q ↔ l.any p = true)
 | [], j, _ => ⟨-1, rfl, by simp⟩
 | x :: xs, j, hp => by
  simp only [zjN.i, hp x List.mem_cons_self, Option.bind_some]
  cases h : p x with
  | true => exact ⟨j, by simp, by simp [h]⟩
  | false =>
   obtain ⟨q, hq, hq2⟩ := zjN.i_any p xs (j + 1) (fun y hy => hp y (List.mem_cons_of_mem _ hy))
   exact ⟨q, by simpa using hq, by simpa [h] using hq2⟩
theorem zjN.eq_any (p : Int → Bool) (l : List Int) (hp : ∀ x ∈ l, zvU.f x = some (p x)) : zjN.f l = some (l.any p) := by
 obtain ⟨q, hq, hq2⟩ := zjN.i_any p l 0 hp
 unfold zjN.f
 rw [hq, Option.bind_some]
 by_cases h : 0 ≤ q
 ·rw [decide_eq_true h, hq2.1 h]
 ·rw [decide_eq_false h, Bool.eq_false_iff.2 (fun e => h (hq2.2 e))]

def zfO.f (k : Nat) (l0 : List Int) : Option (Bool) := if (l0.length : Int) ≤ 16 then ((zjN.f l0).bind fun t232 => (if t232 = true then (some false) else ((zcG.f k l0).bind fun t233 => (some (t233 == 16))))) else (some false)
theorem zfO.mono : ∀ a0 k, LeO (zfO.f k a0) (zfO.f (k + 1) a0) := by
 intro a0 k
 unfold zfO.f
 repeat' first
   | (with_reducible exact zcG.mono _ _)
   | (with_reducible exact LeO.refl _)
   | (with_reducible exact LeO.none _)
   | (with_reducible refine LeO.ite ?_ ?_)
   | (with_reducible refine LeO.bind ?_ (fun _ => ?_))
   | exact zcG.mono _ _
   | exact LeO.none _
   | refine LeO.ite ?_ ?_
   | refine LeO.bind ?_ (fun _ => ?_)
theorem zfO.calls (k : Nat) (A0 : Option Addr) (c0 : Nat) (l0 : List Int) (r : Bool) (w : World) (hr0 : Kd.C (Kd.int .i64) w A0 l0.length l0) (hc0 : l0.length ≤ c0) (h : zfO.f k l0 = some r) :
  Calls Try.prog 34 #[.slice A0 l0.length c0] w fun e w' => e = .returned (.bool r) ∧ Drawn0 w w' := by
 have HR0 := zpS hr0
 have HC0 := zpS hc0
 clear hr0 hc0
 have H : (if (l0.length : Int) ≤ 16 then ((zjN.f l0).bind fun t232 => (if t232 = true then (some false) else ((zcG.f k l0).bind fun t233 => (some (t233 == 16))))) else (some false)) = some r := h
 clear h
 by_cases c2 : (l0.length : Int) ≤ 16
 ·rw [if_pos c2] at H
  have c2b0 : decide ((l0.length : Int) ≤ 16) = true := decide_eq_true c2
  have c2b1 : decide (l0.length ≤ 16) = true := decide_eq_true (by omega)
  clear c2
  replace H := Option.bind_eq_some_iff.mp H
  obtain ⟨t232, A30, H⟩ := H
  replace H : (if t232 = true then (some false) else ((zcG.f k l0).bind fun t233 => (some (t233 == 16)))) = some r := H
  have A3 := zpS A30
  clear A30
  by_cases c4 : t232 = true
  ·subst c4
   have H1 : (some false) = some r := by rw [if_pos rfl] at H; exact H
   clear H
   have H := H1
   clear H1
   obtain rfl := Option.some.inj H
   go_enter Try.func34, Try.ntmps34
   go_wp2_with (first | (go_at_call 62; (with_reducible refine (zjN.calls _ _ l0  true _ ?side1 ?side2 A3.out).mono ?_); (case side1 => repeat (first | exact HR0.out | (with_reducible refine Kd.C_alloc ?_ _) | (with_reducible refine Kd.C_drewN ?_ _) | (with_reducible refine Kd.C_drew ?_))); (case side2 => exact HC0.out); rintro e w' ⟨rfl, ⟨nd, rfl⟩⟩))
   go_ret
   exact ⟨by first | rfl | (simp; done) | (simp [*]; done), by repeat (first | exact Drawn0.refl _ | apply Drawn0.step)⟩
  ·replace c4 := Bool.eq_false_iff.mpr c4
   subst c4
   have H1 : ((zcG.f k l0).bind fun t233 => (some (t233 == 16))) = some r := by rw [if_neg (show ¬ (false = true) by decide)] at H; exact H
   clear H
   have H := H1
   clear H1
   replace H := Option.bind_eq_some_iff.mp H
   obtain ⟨t233, A50, H⟩ := H
   replace H : (some (t233 == 16)) = some r := H
   have A5 := zpS A50
   clear A50
   obtain rfl := Option.some.inj H
   go_enter Try.func34, Try.ntmps34
   go_wp2_with (first | (go_at_call 62; (with_reducible refine (zjN.calls _ _ l0  false _ ?side1 ?side2 A3.out).mono ?_); (case side1 => repeat (first | exact HR0.out | (with_reducible refine Kd.C_alloc ?_ _) | (with_reducible refine Kd.C_drewN ?_ _) | (with_reducible refine Kd.C_drew ?_))); (case side2 => exact HC0.out); rintro e w' ⟨rfl, ⟨nd, rfl⟩⟩) | (go_at_call 64; (with_reducible refine (zcG.calls k _ _ l0 t233 _ ?side1 ?side2 A5.out).mono ?_); (case side1 => repeat (first | exact HR0.out | (with_reducible refine Kd.C_alloc ?_ _) | (with_reducible refine Kd.C_drewN ?_ _) | (with_reducible refine Kd.C_drew ?_))); (case side2 => exact HC0.out); rintro e w' ⟨rfl, ⟨nd, rfl⟩⟩))
   go_ret
   exact ⟨by first | rfl | (simp; done) | (simp [*]; done), by repeat (first | exact Drawn0.refl _ | apply Drawn0.step)⟩
 ·rw [if_neg c2] at H
  have c2b0 : decide ((l0.length : Int) ≤ 16) = false := decide_eq_false c2
  have c2b1 : decide (l0.length ≤ 16) = false := decide_eq_false (by omega)
  clear c2
  obtain rfl := Option.some.inj H
  go_enter Try.func34, Try.ntmps34
  go_wp2
  go_ret
  exact ⟨by first | rfl | (simp; done) | (simp [*]; done), by repeat (first | exact Drawn0.refl _ | apply Drawn0.step)⟩

end Go.Proofs.Ytbpkbllokmplnaa.PFnAngles
