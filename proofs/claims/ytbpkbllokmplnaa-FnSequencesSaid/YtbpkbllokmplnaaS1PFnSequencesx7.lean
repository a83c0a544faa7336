-- Printed for this claim by this session's program pp.py, which drives the kit's print with additions. Not trusted: Lean checks it.
import Derived.Test.YtbpkbllokmplnaaS1PFnSequencesx0
import Derived.Test.YtbpkbllokmplnaaS1PFnSequencesx5
import Derived.Test.YtbpkbllokmplnaaS1PFnSequencesx6
namespace Go.Proofs.Ytbpkbllokmplnaa.PFnSequences
open Go.RowKit Go.Proofs.YtbpkbllokmplnaaW.PrintWords Go.Proofs.YtbpkbllokmplnaaW.PrintLast Go.Proofs.YtbpkbllokmplnaaW.PrintMore
attribute [local go_sem] max2_int min2_int max_two min_two max_three min_three max_four min_four   -- for this text's walks alone
set_option linter.unusedVariables false
set_option maxHeartbeats 8000000
set_option maxRecDepth 100000
set_option linter.unusedSimpArgs false

mutual
def zaF.j0 : Nat → List Int → List Int → List Int → Int → Int → Option (List Int × Int × Int)
 | 0, _, _, _, _, _ => none
 | k + 1, x5, x6, x1000, x1001, x1002 => zaF.l0 k x5 x6 (([] : List Int)) 0 x1000 x1001 x1002
def zaF.l0 : Nat → List Int → List Int → List Int → Int → List Int → Int → Int → Option (List Int × Int × Int)
 | 0, _, _, _, _, _, _, _ => none
 | k + 1, x5, x6, x8, x9, x1000, x1001, x1002 => if x9 < (x5.length : Int) then (if 0 ≤ x9 then (if x9 < (x6.length : Int) then ((some (([rd x5 x9, rd x6 x9] : List Int) : List Int)).bind fun y247 => (if x8.length + y247.length < 17592186044416 then (zaF.l0 k x5 x6 (x8 ++ y247) (wrap64 (x9 + 1)) x1000 x1001 x1002) else (none))) else (none)) else (none)) else (some (x8, x1001, x1002))
end
def zaF.f (k : Nat) (s0_0 : List Int) (s0_1 : Int) (s0_2 : Int) (a1 : Int) : Option (List Int × Int × Int) := (zfT.f k s0_0 s0_1 s0_2 (wrap64 (Int.tdiv a1 2)) 8).bind fun bt223 => ((zfT.f k s0_0 bt223.2.1 bt223.2.2 (wrap64 (Int.tdiv a1 2)) 8).bind fun bt228 => ((zmN.f s0_0 bt228.2.1 bt228.2.2 3).bind fun bt233 => (if bt233.1 = true then ((zcB.f s0_0 bt233.2.1 bt233.2.2 (wrap64 (Int.tdiv a1 2))).bind fun bt236 => ((zrU.f bt223.1 bt236.1).bind fun t239 => (zaF.j0 k bt223.1 t239 s0_0 bt236.2.1 bt236.2.2))) else (zaF.j0 k bt223.1 bt228.1 s0_0 bt233.2.1 bt233.2.2))))
theorem zaF.mono_l : ∀ k, (∀ y0 y1 y2 y3 y4, LeO (zaF.j0 k y0 y1 y2 y3 y4) (zaF.j0 (k + 1) y0 y1 y2 y3 y4)) ∧ (∀ y0 y1 y2 y3 y4 y5 y6, LeO (zaF.l0 k y0 y1 y2 y3 y4 y5 y6) (zaF.l0 (k + 1) y0 y1 y2 y3 y4 y5 y6))
 | 0 => ⟨fun _ _ _ _ _ r h => by simp [zaF.j0] at h, fun _ _ _ _ _ _ _ r h => by simp [zaF.l0] at h⟩
 | k + 1 => by
  obtain ⟨ih0, ih1⟩ := zaF.mono_l k
  refine ⟨?_, ?_⟩
  ·intro y0 y1 y2 y3 y4
   unfold zaF.j0
   repeat' first
   | (with_reducible exact ih0 _ _ _ _ _)
   | (with_reducible exact ih1 _ _ _ _ _ _ _)
   | (with_reducible exact zfT.mono _ _ _ _ _ _)
   | (with_reducible exact LeO.refl _)
   | (with_reducible exact LeO.none _)
   | (with_reducible refine LeO.ite ?_ ?_)
   | (with_reducible refine LeO.bind ?_ (fun _ => ?_))
   | exact ih0 _ _ _ _ _
   | exact ih1 _ _ _ _ _ _ _
   | exact zfT.mono _ _ _ _ _ _
   | exact LeO.none _
   | refine LeO.ite ?_ ?_
   | refine LeO.bind ?_ (fun _ => ?_)
  ·intro y0 y1 y2 y3 y4 y5 y6
   unfold zaF.l0
   repeat' first
   | (with_reducible exact ih0 _ _ _ _ _)
   | (with_reducible exact ih1 _ _ _ _ _ _ _)
   | (with_reducible exact zfT.mono _ _ _ _ _ _)
   | (with_reducible exact LeO.refl _)
   | (with_reducible exact LeO.none _)
   | (with_reducible refine LeO.ite ?_ ?_)
   | (with_reducible refine LeO.bind ?_ (fun _ => ?_))
   | exact ih0 _ _ _ _ _
   | exact ih1 _ _ _ _ _ _ _
   | exact zfT.mono _ _ _ _ _ _
   | exact LeO.none _
   | refine LeO.ite ?_ ?_
   | refine LeO.bind ?_ (fun _ => ?_)
theorem zaF.mono : ∀ a0 a1 a2 a3 k, LeO (zaF.f k a0 a1 a2 a3) (zaF.f (k + 1) a0 a1 a2 a3) := by
 intro a0 a1 a2 a3 k
 obtain ⟨ih0, ih1⟩ := zaF.mono_l k
 unfold zaF.f
 repeat' first
   | (with_reducible exact ih0 _ _ _ _ _)
   | (with_reducible exact ih1 _ _ _ _ _ _ _)
   | (with_reducible exact zfT.mono _ _ _ _ _ _)
   | (with_reducible exact LeO.refl _)
   | (with_reducible exact LeO.none _)
   | (with_reducible refine LeO.ite ?_ ?_)
   | (with_reducible refine LeO.bind ?_ (fun _ => ?_))
   | exact ih0 _ _ _ _ _
   | exact ih1 _ _ _ _ _ _ _
   | exact zfT.mono _ _ _ _ _ _
   | exact LeO.none _
   | refine LeO.ite ?_ ?_
   | refine LeO.bind ?_ (fun _ => ?_)
def zaF.T10 : Bool × List (List Nat × List Nat) := (true, [([], []), ([], []), ([], []), ([1, 2], [1, 2]), ([3], [3]), ([], []), ([], []), ([5, 6], [5, 6]), ([7], [7]), ([4, 8], [4, 8]), ([0, 9], [0, 9]), ([10, 10, 0, 1, 2, 3, 4, 5, 6, 7, 8, 9, 10], [0, 10])])
def zaF.B10 : List Nat := [0, 0, 0, 6, 14, 0, 0, 96, 224, 510, 1023, 2047]
theorem zaF.tab10 : rtab .any (opsOf Try.f68 10) = zaF.T10 := by kernel_rfl
theorem zaF.bits10 : waitsOk zaF.T10.2 zaF.B10 = true := by kernel_rfl
theorem zaF.calls (k : Nat) (g : Nat) (s0_0 : List Int) (s0_1 : Int) (s0_2 : Int) (a1 : Int) (r1 : List Int) (r2 : Int) (r3 : Int) (w0 w : World) (hI : zxI w0 w g s0_0 s0_1 s0_2) (hB : Below w0.heap.size w0 w) (h : zaF.f k s0_0 s0_1 s0_2 a1 = some (r1, r2, r3)) :
  Calls Try.prog 68 #[.pointer (some ⟨g, 0, none⟩), .int .i64 a1] w fun e w' => ∃ v0_ : Value, e = .returned (v0_) ∧ Kd.R (Kd.int .i64) 2 w' w.heap.size (fun _ => True) v0_ r1 ∧ zxI w0 w' g s0_0 r2 r3 ∧ Below w0.heap.size w0 w' ∧ zwG w w' g none := by
 have HI0 := zpS hI
 have HK := zpS (zwG.refl w g none)
 have HL := zpS hB.size
 clear hI
 have HW0 := zpS hB.size
 have HB := zpS hB
 clear hB
 have H : ((zfT.f k s0_0 s0_1 s0_2 (wrap64 (Int.tdiv a1 2)) 8).bind fun bt223 => ((zfT.f k s0_0 bt223.2.1 bt223.2.2 (wrap64 (Int.tdiv a1 2)) 8).bind fun bt228 => ((zmN.f s0_0 bt228.2.1 bt228.2.2 3).bind fun bt233 => (if bt233.1 = true then ((zcB.f s0_0 bt233.2.1 bt233.2.2 (wrap64 (Int.tdiv a1 2))).bind fun bt236 => ((zrU.f bt223.1 bt236.1).bind fun t239 => (zaF.j0 k bt223.1 t239 s0_0 bt236.2.1 bt236.2.2))) else (zaF.j0 k bt223.1 bt228.1 s0_0 bt233.2.1 bt233.2.2))))) = some (r1, r2, r3) := h
 clear h
 replace H := Option.bind_eq_some_iff.mp H
 obtain ⟨⟨t223, t226, t227⟩, A30, H⟩ := H
 replace H : ((zfT.f k s0_0 t226 t227 (wrap64 (Int.tdiv a1 2)) 8).bind fun bt228 => ((zmN.f s0_0 bt228.2.1 bt228.2.2 3).bind fun bt233 => (if bt233.1 = true then ((zcB.f s0_0 bt233.2.1 bt233.2.2 (wrap64 (Int.tdiv a1 2))).bind fun bt236 => ((zrU.f t223 bt236.1).bind fun t239 => (zaF.j0 k t223 t239 s0_0 bt236.2.1 bt236.2.2))) else (zaF.j0 k t223 bt228.1 s0_0 bt233.2.1 bt233.2.2)))) = some (r1, r2, r3) := H
 have A3 := zpS A30
 clear A30
 replace H := Option.bind_eq_some_iff.mp H
 obtain ⟨⟨t228, t231, t232⟩, A40, H⟩ := H
 replace H : ((zmN.f s0_0 t231 t232 3).bind fun bt233 => (if bt233.1 = true then ((zcB.f s0_0 bt233.2.1 bt233.2.2 (wrap64 (Int.tdiv a1 2))).bind fun bt236 => ((zrU.f t223 bt236.1).bind fun t239 => (zaF.j0 k t223 t239 s0_0 bt236.2.1 bt236.2.2))) else (zaF.j0 k t223 t228 s0_0 bt233.2.1 bt233.2.2))) = some (r1, r2, r3) := H
 have A4 := zpS A40
 clear A40
 replace H := Option.bind_eq_some_iff.mp H
 obtain ⟨⟨t233, t234, t235⟩, A50, H⟩ := H
 replace H : (if t233 = true then ((zcB.f s0_0 t234 t235 (wrap64 (Int.tdiv a1 2))).bind fun bt236 => ((zrU.f t223 bt236.1).bind fun t239 => (zaF.j0 k t223 t239 s0_0 bt236.2.1 bt236.2.2))) else (zaF.j0 k t223 t228 s0_0 t234 t235)) = some (r1, r2, r3) := H
 have A5 := zpS A50
 clear A50
 have HC6 := zpS H
 clear H
 go_enter Try.func68, Try.ntmps68
 go_upto_if 19 with (first | ((with_reducible refine zgK (f := 88) rfl ?_); refine zqQ (some 13) rfl rfl Try.func88 (by kernel_rfl) rfl #[.pointer (some ⟨g, 0, none⟩), .int .i64 (wrap64 (Int.tdiv a1 2)), .int .i64 8] rfl (by (try simp only [List.map_toArray, List.map_cons, List.map_nil]); first | done | rfl | (simp only [List.length_drop, List.length_take]; rfl)) ?_; (with_reducible refine (zfT.calls k g s0_0 s0_1 s0_2 (wrap64 (Int.tdiv a1 2)) 8 t223 t226 t227 w0 _ ?side1 ?side2 A3.out).mono ?_); (case side1 => repeat (first | (with_reducible first | exact HI0.out | apply zxI.alloc | apply zxI.drewN | apply zxI.drew | apply zxI.set_1 | apply zxI.set_2) | exact HI0.out)); (case side2 => repeat (first | (with_reducible first | exact HB.out | apply znU | apply zkZ | apply zvF | refine zjF ?_ (zxI.ge HI0.out)) | exact HB.out)); rintro e w7 ⟨v224, rfl, ho0, hi, hb, hk⟩; refine ⟨_, rfl, ?_⟩; have n0_ := zpS (Kd.R_lower ho0 (keep_size (w := w) (g := g) (row := none) (by repeat (first | (with_reducible first | exact HK.out | apply zwG.set_ | apply zeS | apply zwU | apply zbV) | exact HK.out)))); have n1_ := zpS (zwG.trans (by repeat (first | (with_reducible first | exact HK.out | apply zwG.set_ | apply zeS | apply zwU | apply zbV) | exact HK.out)) hk (.inl rfl)); have n2_ := zpS (hb); have n3_ := zpS (hi); clear HK; clear HB; clear HI0; have HO225 := n0_; have HK := n1_; have HB := n2_; have HI0 := n3_; clear n0_ n1_ n2_ n3_; (try clear hb); (try clear hb2); (try clear ho0)) | ((with_reducible refine zgK (f := 88) rfl ?_); refine zqQ (some 17) rfl rfl Try.func88 (by kernel_rfl) rfl #[.pointer (some ⟨g, 0, none⟩), .int .i64 (wrap64 (Int.tdiv a1 2)), .int .i64 8] rfl (by (try simp only [List.map_toArray, List.map_cons, List.map_nil]); first | done | rfl | (simp only [List.length_drop, List.length_take]; rfl)) ?_; (with_reducible refine (zfT.calls k g s0_0 t226 t227 (wrap64 (Int.tdiv a1 2)) 8 t228 t231 t232 w0 _ ?side1 ?side2 A4.out).mono ?_); (case side1 => repeat (first | (with_reducible first | exact HI0.out | apply zxI.alloc | apply zxI.drewN | apply zxI.drew | apply zxI.set_1 | apply zxI.set_2) | exact HI0.out)); (case side2 => repeat (first | (with_reducible first | exact HB.out | apply znU | apply zkZ | apply zvF | refine zjF ?_ (zxI.ge HI0.out)) | exact HB.out)); rintro e w8 ⟨v229, rfl, ho0, hi, hb, hk⟩; refine ⟨_, rfl, ?_⟩; have n0_ := zpS (Kd.R_mono (Kd.R_told (Kd.R_oldK (zxI.apart (show zxI w0 _ g s0_0 t226 t227 from by repeat (first | (with_reducible first | exact HI0.out | apply zxI.alloc | apply zxI.drewN | apply zxI.drew | apply zxI.set_1 | apply zxI.set_2) | exact HI0.out)) (by (with_reducible repeat (first | apply Kd.R_alloc | apply Kd.R_drewN | apply Kd.R_drew)); exact HO225.out) (by decide)) hk) (Kd.R_base ho0)) (fun _ h_ => h_.1)); have n1_ := zpS (Kd.R_lower (Kd.R_new' ho0 (Kd.R_lt (by (with_reducible repeat (first | apply Kd.R_alloc | apply Kd.R_drewN | apply Kd.R_drew)); exact HO225.out))) (keep_size (w := w) (g := g) (row := none) (by repeat (first | (with_reducible first | exact HK.out | apply zwG.set_ | apply zeS | apply zwU | apply zbV) | exact HK.out)))); have n2_ := zpS (zwG.trans (by repeat (first | (with_reducible first | exact HK.out | apply zwG.set_ | apply zeS | apply zwU | apply zbV) | exact HK.out)) hk (.inl rfl)); have n3_ := zpS (hb); have n4_ := zpS (hi); clear HO225; clear HK; clear HB; clear HI0; have HO225 := n0_; have HO230 := n1_; have HK := n2_; have HB := n3_; have HI0 := n4_; clear n0_ n1_ n2_ n3_ n4_; (try clear hb); (try clear hb2); (try clear ho0)) | ((with_reducible refine zgK (f := 66) rfl ?_); refine zqQ (some 19) rfl rfl Try.func66 (by kernel_rfl) rfl #[.pointer (some ⟨g, 0, none⟩), .int .i64 3] rfl (by (try simp only [List.map_toArray, List.map_cons, List.map_nil]); first | done | rfl | (simp only [List.length_drop, List.length_take]; rfl)) ?_; (with_reducible refine (zmN.calls g s0_0 t231 t232 3 t233 t234 t235 w0 _ ?side1 ?side2 A5.out).mono ?_); (case side1 => repeat (first | (with_reducible first | exact HI0.out | apply zxI.alloc | apply zxI.drewN | apply zxI.drew | apply zxI.set_1 | apply zxI.set_2) | exact HI0.out)); (case side2 => repeat (first | (with_reducible first | exact HB.out | apply znU | apply zkZ | apply zvF | refine zjF ?_ (zxI.ge HI0.out)) | exact HB.out)); rintro e w9 ⟨rfl, hi, hb, hk⟩; refine ⟨_, rfl, ?_⟩; have n0_ := zpS (Kd.R_mono (Kd.R_keep (zxI.apart (show zxI w0 _ g s0_0 t231 t232 from by repeat (first | (with_reducible first | exact HI0.out | apply zxI.alloc | apply zxI.drewN | apply zxI.drew | apply zxI.set_1 | apply zxI.set_2) | exact HI0.out)) (by (with_reducible repeat (first | apply Kd.R_alloc | apply Kd.R_drewN | apply Kd.R_drew)); exact HO225.out) (by decide)) hk (fun _ h => h.2)) (fun _ h => h.1)); have n1_ := zpS (Kd.R_mono (Kd.R_keep (zxI.apart (show zxI w0 _ g s0_0 t231 t232 from by repeat (first | (with_reducible first | exact HI0.out | apply zxI.alloc | apply zxI.drewN | apply zxI.drew | apply zxI.set_1 | apply zxI.set_2) | exact HI0.out)) (by (with_reducible repeat (first | apply Kd.R_alloc | apply Kd.R_drewN | apply Kd.R_drew)); exact HO230.out) (by decide)) hk (fun _ h => h.2)) (fun _ h => h.1)); have n2_ := zpS (zwG.trans (by repeat (first | (with_reducible first | exact HK.out | apply zwG.set_ | apply zeS | apply zwU | apply zbV) | exact HK.out)) hk (.inl rfl)); have n3_ := zpS (hb); have n4_ := zpS (hi); clear HO225; clear HO230; clear HK; clear HB; clear HI0; have HO225 := n0_; have HO230 := n1_; have HK := n2_; have HB := n3_; have HI0 := n4_; clear n0_ n1_ n2_ n3_ n4_; (try clear hb); (try clear hb2)))
 (try simp only [Act.put, set_a_, set_b_, set_c_])
 go_cut [6] (fun v6 wc => ∃ (kq : Nat) (x6_5 : List Int) (x1001_5 : Int) (x1002_5 : Int), Aside0 (zaF.j0 kq t223 x6_5 s0_0 x1001_5 x1002_5 = some (r1, r2, r3)) ∧ Aside0 (kq ≤ k) ∧ Aside0 (Kd.R (Kd.int .i64) 2 wc w.heap.size (fun k_ => some k_ ≠ (v6 : Value).ownBlock) v224 t223) ∧ Aside0 (Kd.R (Kd.int .i64) 2 wc w.heap.size (fun k_ => some k_ ≠ (v224 : Value).ownBlock) v6 x6_5) ∧ Aside0 (zxI w0 wc g s0_0 x1001_5 x1002_5) ∧ Aside0 (zwG w wc g none) ∧ Aside0 (Below w0.heap.size w0 wc))
 case first =>
  have H := HC6.out
  clear HC6
  by_cases c10 : t233 = true
  ·subst c10
   have H1 : ((zcB.f s0_0 t234 t235 (wrap64 (Int.tdiv a1 2))).bind fun bt236 => ((zrU.f t223 bt236.1).bind fun t239 => (zaF.j0 k t223 t239 s0_0 bt236.2.1 bt236.2.2))) = some (r1, r2, r3) := by rw [if_pos rfl] at H; exact H
   clear H
   have H := H1
   clear H1
   replace H := Option.bind_eq_some_iff.mp H
   obtain ⟨⟨t236, t237, t238⟩, A110, H⟩ := H
   replace H : ((zrU.f t223 t236).bind fun t239 => (zaF.j0 k t223 t239 s0_0 t237 t238)) = some (r1, r2, r3) := H
   have A11 := zpS A110
   clear A110
   replace H := Option.bind_eq_some_iff.mp H
   obtain ⟨t239, A120, H⟩ := H
   replace H : (zaF.j0 k t223 t239 s0_0 t237 t238) = some (r1, r2, r3) := H
   have A12 := zpS A120
   clear A120
   have H' := zpS H
   clear H
   go_wp2_with (first | ((with_reducible refine zgK (f := 87) rfl ?_); refine zqQ (some 23) rfl rfl Try.func87 (by kernel_rfl) rfl #[.pointer (some ⟨g, 0, none⟩), .int .i64 (wrap64 (Int.tdiv a1 2))] rfl (by (try simp only [List.map_toArray, List.map_cons, List.map_nil]); first | done | rfl | (simp only [List.length_drop, List.length_take]; rfl)) ?_; (with_reducible refine (zcB.calls g s0_0 t234 t235 (wrap64 (Int.tdiv a1 2)) t236 t237 t238 w0 _ ?side1 ?side2 A11.out).mono ?_); (case side1 => repeat (first | (with_reducible first | exact HI0.out | apply zxI.alloc | apply zxI.drewN | apply zxI.drew | apply zxI.set_1 | apply zxI.set_2) | exact HI0.out)); (case side2 => repeat (first | (with_reducible first | exact HB.out | apply znU | apply zkZ | apply zvF | refine zjF ?_ (zxI.ge HI0.out)) | exact HB.out)); rintro e w13 ⟨rfl, hi, hb, hk⟩; refine ⟨_, rfl, ?_⟩; have n0_ := zpS (Kd.R_mono (Kd.R_keep (zxI.apart (show zxI w0 _ g s0_0 t234 t235 from by repeat (first | (with_reducible first | exact HI0.out | apply zxI.alloc | apply zxI.drewN | apply zxI.drew | apply zxI.set_1 | apply zxI.set_2) | exact HI0.out)) (by (with_reducible repeat (first | apply Kd.R_alloc | apply Kd.R_drewN | apply Kd.R_drew)); exact HO225.out) (by decide)) hk (fun _ h => h.2)) (fun _ h => h.1)); have n1_ := zpS (Kd.R_mono (Kd.R_keep (zxI.apart (show zxI w0 _ g s0_0 t234 t235 from by repeat (first | (with_reducible first | exact HI0.out | apply zxI.alloc | apply zxI.drewN | apply zxI.drew | apply zxI.set_1 | apply zxI.set_2) | exact HI0.out)) (by (with_reducible repeat (first | apply Kd.R_alloc | apply Kd.R_drewN | apply Kd.R_drew)); exact HO230.out) (by decide)) hk (fun _ h => h.2)) (fun _ h => h.1)); have n2_ := zpS (zwG.trans (by repeat (first | (with_reducible first | exact HK.out | apply zwG.set_ | apply zeS | apply zwU | apply zbV) | exact HK.out)) hk (.inl rfl)); have n3_ := zpS (hb); have n4_ := zpS (hi); clear HO225; clear HO230; clear HK; clear HB; clear HI0; have HO225 := n0_; have HO230 := n1_; have HK := n2_; have HB := n3_; have HI0 := n4_; clear n0_ n1_ n2_ n3_ n4_; (try clear hb); (try clear hb2); obtain ⟨Ao14, co14, eo14⟩ := Kd.R_slice HO225.out; subst eo14) | ((with_reducible refine zgK (f := 89) rfl ?_); refine zqQ (some 26) rfl rfl Try.func89 (by kernel_rfl) rfl #[.slice Ao14 t223.length co14, .int .i64 t236] rfl (by (try simp only [List.map_toArray, List.map_cons, List.map_nil]); first | done | rfl | (simp only [List.length_drop, List.length_take]; rfl)) ?_; (with_reducible refine (zrU.calls _ _ t223 t236 t239 _ ?side1 ?side2 A12.out).mono ?_); (case side1 => repeat (first | exact (Kd.R_reads' HO225.out).2.2 | (with_reducible refine Kd.C_alloc ?_ _) | (with_reducible refine Kd.C_drewN ?_ _) | (with_reducible refine Kd.C_drew ?_))); (case side2 => exact (Kd.R_reads' HO225.out).2.1); rintro e w15 ⟨v240, rfl, ho0, hb⟩; refine ⟨_, rfl, ?_⟩; have n0_ := zpS (Kd.R_elder' (by (with_reducible repeat (first | apply Kd.R_alloc | apply Kd.R_drewN | apply Kd.R_drew)); exact HO225.out) (Kd.R_base ho0) hb); have n1_ := zpS (Kd.R_elder' (by (with_reducible repeat (first | apply Kd.R_alloc | apply Kd.R_drewN | apply Kd.R_drew)); exact HO230.out) (Kd.R_base ho0) hb); have n2_ := zpS (Kd.R_lower (Kd.R_new' (Kd.R_new' ho0 (Kd.R_lt (by (with_reducible repeat (first | apply Kd.R_alloc | apply Kd.R_drewN | apply Kd.R_drew)); exact HO225.out))) (Kd.R_lt (by (with_reducible repeat (first | apply Kd.R_alloc | apply Kd.R_drewN | apply Kd.R_drew)); exact HO230.out))) (keep_size (w := w) (g := g) (row := none) (by repeat (first | (with_reducible first | exact HK.out | apply zwG.set_ | apply zeS | apply zwU | apply zbV) | exact HK.out)))); have n3_ := zpS (zxI.below (by repeat (first | (with_reducible first | exact HI0.out | apply zxI.alloc | apply zxI.drewN | apply zxI.drew | apply zxI.set_1 | apply zxI.set_2) | exact HI0.out)) hb); have n4_ := zpS (zwG.trans (by repeat (first | (with_reducible first | exact HK.out | apply zwG.set_ | apply zeS | apply zwU | apply zbV) | exact HK.out)) (zwG.of_below hb g none) (.inl rfl)); have n5_ := zpS (zkR (by repeat (first | (with_reducible first | exact HB.out | apply znU | apply zkZ | apply zvF | refine zjF ?_ (zxI.ge HI0.out)) | exact HB.out)) hb); clear HO225; clear HO230; clear HI0; clear HK; clear HB; have HO225 := n0_; have HO230 := n1_; have HO241 := n2_; have HI0 := n3_; have HK := n4_; have HB := n5_; clear n0_ n1_ n2_ n3_ n4_ n5_; (try clear hb); (try clear hb2); (try clear ho0)))
   go_meet
   case rel => exact ⟨_, (t239), (t237), (t238), H', ⟨by first | omega | exact Nat.le_refl _⟩, ⟨by (with_reducible repeat (first | apply Kd.R_alloc | apply Kd.R_drewN | apply Kd.R_drew)); exact Kd.R_mono HO225.out (fun _ hk => hk.2)⟩, ⟨by (with_reducible repeat (first | apply Kd.R_alloc | apply Kd.R_drewN | apply Kd.R_drew)); exact Kd.R_mono HO241.out (fun _ hk => hk.1.2)⟩, ⟨by repeat (first | (with_reducible first | exact HI0.out | apply zxI.alloc | apply zxI.drewN | apply zxI.drew | apply zxI.set_1 | apply zxI.set_2) | exact HI0.out)⟩, ⟨by repeat (first | (with_reducible first | exact HK.out | apply zwG.set_ | apply zeS | apply zwU | apply zbV) | exact HK.out)⟩, ⟨by repeat (first | (with_reducible first | exact HB.out | apply znU | apply zkZ | apply zvF | refine zjF ?_ (zxI.ge HI0.out)) | exact HB.out)⟩⟩
  ·replace c10 := Bool.eq_false_iff.mpr c10
   subst c10
   have H1 : (zaF.j0 k t223 t228 s0_0 t234 t235) = some (r1, r2, r3) := by rw [if_neg (show ¬ (false = true) by decide)] at H; exact H
   clear H
   have H := H1
   clear H1
   have H' := zpS H
   clear H
   go_wp2
   go_meet
   case rel => exact ⟨_, (t228), (t234), (t235), H', ⟨by first | omega | exact Nat.le_refl _⟩, ⟨by (with_reducible repeat (first | apply Kd.R_alloc | apply Kd.R_drewN | apply Kd.R_drew)); exact Kd.R_mono HO225.out (fun _ hk => hk.2)⟩, ⟨by (with_reducible repeat (first | apply Kd.R_alloc | apply Kd.R_drewN | apply Kd.R_drew)); exact Kd.R_mono HO230.out (fun _ hk => hk.2)⟩, ⟨by repeat (first | (with_reducible first | exact HI0.out | apply zxI.alloc | apply zxI.drewN | apply zxI.drew | apply zxI.set_1 | apply zxI.set_2) | exact HI0.out)⟩, ⟨by repeat (first | (with_reducible first | exact HK.out | apply zwG.set_ | apply zeS | apply zwU | apply zbV) | exact HK.out)⟩, ⟨by repeat (first | (with_reducible first | exact HB.out | apply znU | apply zkZ | apply zvF | refine zjF ?_ (zxI.ge HI0.out)) | exact HB.out)⟩⟩
 case rest =>
  clear HC6
  try clear c1
  try clear p2
  try clear c6
  try clear p6
  try clear c8
  try clear c10
  obtain ⟨kq, x6_5, x1001_5, x1002_5, HA, HJ5, HO_5, HO_6, HI0, HK, HB⟩ := hcut
  cases kq with
  | zero => exact absurd HA.out (by simp [zaF.j0])
  | succ kj5 =>
   have H := HA.out
   clear HA
   simp only [zaF.j0] at H
   obtain ⟨y242, hy242⟩ : ∃ y_ : List Int, y_ = (([] : List Int)) := ⟨_, rfl⟩
   replace H : (zaF.l0 kj5 t223 x6_5 y242 0 s0_0 x1001_5 x1002_5) = some (r1, r2, r3) := by first | (rw [hy242]; with_reducible exact H) | (have H2_ := (Option.bind_some _ _).symm.trans H; rw [hy242]; with_reducible exact H2_) | (have H2_ := (Option.bind_some _ _).symm.trans H; with_reducible exact H2_) | with_reducible exact H | (rw [hy242]; exact H) | exact H
   have Ny242 := zpS hy242
   clear hy242
   have H' := zpS H
   clear H
   go_wp2_with (first | ((with_reducible refine gate_dst (N := 27) rfl ?_); refine Kd.R_lit (Kd.int .i64) _ 2 ?hg (N := 27) ?hd (xs := ([] : List Int)) (zlR := []) (ok := fun _ => True) (okp := fun _ => True) ?hr ?hp (fun _ hk => hk) trivial (Below.refl _ _) (Nat.le_refl _) (by simp) ?_; (case hd => rfl); (case hg => rfl); (case hr => first | (go_simp; done) | (go_simp; rfl)); (case hp => exact (zfI.none _ _)); intro v243 w16 ho17 hb hg_ hnew_; clear hg_ hnew_; (first | rw [← Ny242.out] at ho17 | (simp only [Int.reduceToNat] at ho17; rw [← Ny242.out] at ho17)); have n0_ := zpS (Kd.R_elder' (by (with_reducible repeat (first | apply Kd.R_alloc | apply Kd.R_drewN | apply Kd.R_drew)); exact HO_5.out) (Kd.R_base ho17) hb); have n1_ := zpS (Kd.R_elder' (by (with_reducible repeat (first | apply Kd.R_alloc | apply Kd.R_drewN | apply Kd.R_drew)); exact HO_6.out) (Kd.R_base ho17) hb); have n2_ := zpS (Kd.R_lower (Kd.R_new' (Kd.R_new' ho17 (Kd.R_lt (by (with_reducible repeat (first | apply Kd.R_alloc | apply Kd.R_drewN | apply Kd.R_drew)); exact HO_5.out))) (Kd.R_lt (by (with_reducible repeat (first | apply Kd.R_alloc | apply Kd.R_drewN | apply Kd.R_drew)); exact HO_6.out))) (keep_size (w := w) (g := g) (row := none) (by repeat (first | (with_reducible first | exact HK.out | apply zwG.set_ | apply zeS | apply zwU | apply zbV) | exact HK.out)))); have n3_ := zpS (zxI.below (by repeat (first | (with_reducible first | exact HI0.out | apply zxI.alloc | apply zxI.drewN | apply zxI.drew | apply zxI.set_1 | apply zxI.set_2) | exact HI0.out)) hb); have n4_ := zpS (zwG.trans (by repeat (first | (with_reducible first | exact HK.out | apply zwG.set_ | apply zeS | apply zwU | apply zbV) | exact HK.out)) (zwG.of_below hb g none) (.inl rfl)); have n5_ := zpS (zkR (by repeat (first | (with_reducible first | exact HB.out | apply znU | apply zkZ | apply zvF | refine zjF ?_ (zxI.ge HI0.out)) | exact HB.out)) hb); clear HO_5; clear HO_6; clear HI0; clear HK; clear HB; have HO_5 := n0_; have HO_6 := n1_; have HO244 := n2_; have HI0 := n3_; have HK := n4_; have HB := n5_; clear n0_ n1_ n2_ n3_ n4_ n5_; clear hb ho17))
   (try go_simp)
   go_loopg [8, 9] kj5 (fun kq v8 v9 w' => ∃ (x8_2 : List Int) (x9_2 : Int), v9 = .int .i64 x9_2 ∧ Aside0 (zaF.l0 kq t223 x6_5 x8_2 x9_2 s0_0 x1001_5 x1002_5 = some (r1, r2, r3)) ∧ Aside0 (kq ≤ kj5) ∧ Aside0 (Kd.R (Kd.int .i64) 2 w' w.heap.size (fun k_ => some k_ ≠ (u6 : Value).ownBlock ∧ some k_ ≠ (v8 : Value).ownBlock) v224 t223) ∧ Aside0 (Kd.R (Kd.int .i64) 2 w' w.heap.size (fun k_ => some k_ ≠ (v224 : Value).ownBlock ∧ some k_ ≠ (v8 : Value).ownBlock) u6 x6_5) ∧ Aside0 (Kd.R (Kd.int .i64) 2 w' w.heap.size (fun k_ => some k_ ≠ (v224 : Value).ownBlock ∧ some k_ ≠ (u6 : Value).ownBlock) v8 x8_2) ∧ Aside0 (zxI w0 w' g s0_0 x1001_5 x1002_5) ∧ Aside0 (zwG w w' g none) ∧ Aside0 (Below w0.heap.size w0 w'))
   case atStart => exact ⟨(y242), (0), (by first | rfl | (simp; done) | (simp [*]; done)), H', ⟨Nat.le_refl _⟩, ⟨by (with_reducible repeat (first | apply Kd.R_alloc | apply Kd.R_drewN | apply Kd.R_drew)); exact HO_5.out⟩, ⟨by (with_reducible repeat (first | apply Kd.R_alloc | apply Kd.R_drewN | apply Kd.R_drew)); exact HO_6.out⟩, ⟨by (with_reducible repeat (first | apply Kd.R_alloc | apply Kd.R_drewN | apply Kd.R_drew)); exact Kd.R_mono HO244.out (fun _ hk => ⟨hk.1.2, hk.2⟩)⟩, ⟨by repeat (first | (with_reducible first | exact HI0.out | apply zxI.alloc | apply zxI.drewN | apply zxI.drew | apply zxI.set_1 | apply zxI.set_2) | exact HI0.out)⟩, ⟨by repeat (first | (with_reducible first | exact HK.out | apply zwG.set_ | apply zeS | apply zwU | apply zbV) | exact HK.out)⟩, ⟨by repeat (first | (with_reducible first | exact HB.out | apply znU | apply zkZ | apply zvF | refine zjF ?_ (zxI.ge HI0.out)) | exact HB.out)⟩⟩
   case round =>
    clear H'
    try clear c1
    try clear p2
    try clear c6
    try clear p6
    try clear c8
    try clear c10
    try clear p2
    try clear p6
    obtain ⟨x8_2, x9_2, rfl, HA, HK2, HO_5, HO_6, HO_8, HI0, HK, HB⟩ := hrel
    cases gk with
    | zero => exact absurd HA.out (by simp [zaF.l0])
    | succ k2 =>
     have H := HA.out
     clear HA
     simp only [zaF.l0] at H
     by_cases c18 : x9_2 < (t223.length : Int)
     ·rw [if_pos c18] at H
      have c18b0 : decide (x9_2 < (t223.length : Int)) = true := decide_eq_true c18
      clear c18
      by_cases c19 : 0 ≤ x9_2
      ·rw [if_pos c19] at H
       have c19b0 : decide (0 ≤ x9_2) = true := decide_eq_true c19
       clear c19
       by_cases c20 : x9_2 < (x6_5.length : Int)
       ·rw [if_pos c20] at H
        have c20b0 : decide (x9_2 < (x6_5.length : Int)) = true := decide_eq_true c20
        clear c20
        obtain ⟨y247, hy247⟩ : ∃ y_ : List Int, y_ = (([rd t223 x9_2, rd x6_5 x9_2] : List Int)) := ⟨_, rfl⟩
        replace H : (if x8_2.length + y247.length < 17592186044416 then (zaF.l0 k2 t223 x6_5 (x8_2 ++ y247) (wrap64 (x9_2 + 1)) s0_0 x1001_5 x1002_5) else (none)) = some (r1, r2, r3) := by first | (rw [hy247]; with_reducible exact H) | (have H2_ := (Option.bind_some _ _).symm.trans H; rw [hy247]; with_reducible exact H2_) | (have H2_ := (Option.bind_some _ _).symm.trans H; with_reducible exact H2_) | with_reducible exact H | (rw [hy247]; exact H) | exact H
        have Ny247 := zpS hy247
        clear hy247
        by_cases c21 : x8_2.length + y247.length < 17592186044416
        ·rw [if_pos c21] at H
         have LMc21 := zpS c21
         clear c21
         obtain ⟨y250, hy250⟩ : ∃ y_ : List Int, y_ = (x8_2 ++ y247) := ⟨_, rfl⟩
         replace H : (zaF.l0 k2 t223 x6_5 y250 (wrap64 (x9_2 + 1)) s0_0 x1001_5 x1002_5) = some (r1, r2, r3) := by first | (rw [hy250]; with_reducible exact H) | (have H2_ := (Option.bind_some _ _).symm.trans H; rw [hy250]; with_reducible exact H2_) | (have H2_ := (Option.bind_some _ _).symm.trans H; with_reducible exact H2_) | with_reducible exact H | (rw [hy250]; exact H) | exact H
         have Ny250 := zpS hy250
         clear hy250
         have H' := zpS H
         clear H
         obtain ⟨Ao22, co22, eo22⟩ := Kd.R_slice HO_5.out
         subst eo22
         try go_wp2
         have n0_ := zpS (Kd.R_drew HO_5.out)
         have n1_ := zpS (Kd.R_drew HO_6.out)
         have n2_ := zpS (Kd.R_drew HO_8.out)
         have n3_ := zpS (zxI.drew HI0.out)
         have n4_ := zpS (zwU HK.out)
         have n5_ := zpS (zvF HB.out)
         clear HO_5
         clear HO_6
         clear HO_8
         clear HI0
         clear HK
         clear HB
         have HO_5 := n0_
         have HO_6 := n1_
         have HO_8 := n2_
         have HI0 := n3_
         have HK := n4_
         have HB := n5_
         clear n0_ n1_ n2_ n3_ n4_ n5_
         have p245 : 0 ≤ (x9_2 : Int) := dt_
         have q245 : x9_2 < (t223.length : Int) := dt_
         obtain ⟨ad245, e245, hx245_0⟩ := Kd.at_int (Kd.R_reads' HO_5.out).2.2 x9_2 p245 q245
         cases e245
         replace p245 := eq_true p245
         replace q245 := eq_true q245
         obtain ⟨Ao24, co24, eo24⟩ := Kd.R_slice HO_6.out
         (first | subst eo24 | (injection eo24 with f1_ f2_ f3_; have f4_ := f1_.symm; have f5_ := f3_.symm; clear f1_ f2_ f3_; subst f4_; subst f5_))
         have p246 : 0 ≤ (x9_2 : Int) := dt_
         have q246 : x9_2 < (x6_5.length : Int) := dt_
         obtain ⟨ad246, e246, hx246_0⟩ := Kd.at_int (Kd.R_reads' HO_6.out).2.2 x9_2 p246 q246
         cases e246
         replace p246 := eq_true p246
         replace q246 := eq_true q246
         refine start_ (n := 12) (S := fun w' => w'.cell? (ad245.add (x9_2).toNat) = some (.int .i64 (rd t223 x9_2)) ∧ w'.cell? (ad246.add (x9_2).toNat) = some (.int .i64 (rd x6_5 x9_2))) (ds := []) #[false, false, false, false, false, false, false, false, false, false, false, false] (by kernel_rfl) rfl rfl ⟨hx245_0, hx246_0⟩ (fun hHeld => ?_); refine with_tabW zaF.tab10 zaF.bits10 (fun HT_ HW_ => ?_)
         generalize wr.drew = w23 at HO_5 HO_6 HO_8 HI0 HK HB hx245_0 hx246_0 hHeld ⊢
         refine pu_ 0 (some 34) (bl_ 12 1) ?_
         refine pu_ 1 (some 35) (bl_ 12 3) ?_
         refine pu_ 2 (some 36) (bl_ 12 7) ?_
         refine pu_ 3 (some 37) (bl_ 12 15) ?_
         refine pu_ 5 (some 39) (bl_ 12 47) ?_
         refine pu_ 6 (some 40) (bl_ 12 111) ?_
         refine pu_ 7 (some 41) (bl_ 12 239) ?_
         refine tk2_ 4 (some 38) (bl_ 12 255) hHeld ?_
         refine tk2_ 8 (some 42) (bl_ 12 511) hHeld ?_
         refine one_ (i := 9) (N := some 43) (bl_ 12 1023) rfl rfl (one_of HT_.out (by kernel_rfl)) (by decide) (fun K hK => ?_)
         refine Kd.R_lit_step (Kd.int .i64) _ 2 ?hg (N := 43) ?hd (xs := ([rd t223 x9_2, rd x6_5 x9_2] : List Int)) (zlR := [.int .i64 (rd t223 x9_2), .int .i64 (rd x6_5 x9_2)]) (ok := fun _ => True) (okp := fun _ => True) ?hr ?hp (fun _ hk => hk) trivial (Below.refl _ _) (Nat.le_refl _) (by simp) ?_; (case hd => rfl); (case hg => rfl); (case hr => first | (go_simp; done) | (go_simp; rfl)); (case hp => exact (zfI.one (show Kd.M (Kd.int .i64) _ _ _ (rd t223 x9_2) [.int .i64 (rd t223 x9_2)] from rfl) (zfI.one (show Kd.M (Kd.int .i64) _ _ _ (rd x6_5 x9_2) [.int .i64 (rd x6_5 x9_2)] from rfl) (zfI.none _ _))))
         intro v248 w25 ho26 hb hg_ hnew_
         have HS0_ := (hb.cell (World.block_lt_of_cell? _ _ (hHeld.1))).trans (hHeld.1)
         have HS1_ := (hb.cell (World.block_lt_of_cell? _ _ (hHeld.2))).trans (hHeld.2)
         clear hg_ hnew_
         (first | rw [← Ny247.out] at ho26 | (simp only [Int.reduceToNat] at ho26; rw [← Ny247.out] at ho26))
         have n0_ := zpS (Kd.R_elder' (by (with_reducible repeat (first | apply Kd.R_alloc | apply Kd.R_drewN | apply Kd.R_drew)); exact HO_5.out) (Kd.R_base ho26) hb)
         have n1_ := zpS (Kd.R_elder' (by (with_reducible repeat (first | apply Kd.R_alloc | apply Kd.R_drewN | apply Kd.R_drew)); exact HO_6.out) (Kd.R_base ho26) hb)
         have n2_ := zpS (Kd.R_elder' (by (with_reducible repeat (first | apply Kd.R_alloc | apply Kd.R_drewN | apply Kd.R_drew)); exact HO_8.out) (Kd.R_base ho26) hb)
         have n3_ := zpS (Kd.R_lower (Kd.R_new' (Kd.R_new' (Kd.R_new' ho26 (Kd.R_lt (by (with_reducible repeat (first | apply Kd.R_alloc | apply Kd.R_drewN | apply Kd.R_drew)); exact HO_5.out))) (Kd.R_lt (by (with_reducible repeat (first | apply Kd.R_alloc | apply Kd.R_drewN | apply Kd.R_drew)); exact HO_6.out))) (Kd.R_lt (by (with_reducible repeat (first | apply Kd.R_alloc | apply Kd.R_drewN | apply Kd.R_drew)); exact HO_8.out))) (keep_size (w := w) (g := g) (row := none) (by repeat (first | (with_reducible first | exact HK.out | apply zwG.set_ | apply zeS | apply zwU | apply zbV) | exact HK.out))))
         have n4_ := zpS (zxI.below (by repeat (first | (with_reducible first | exact HI0.out | apply zxI.alloc | apply zxI.drewN | apply zxI.drew | apply zxI.set_1 | apply zxI.set_2) | exact HI0.out)) hb)
         have n5_ := zpS (zwG.trans (by repeat (first | (with_reducible first | exact HK.out | apply zwG.set_ | apply zeS | apply zwU | apply zbV) | exact HK.out)) (zwG.of_below hb g none) (.inl rfl))
         have n6_ := zpS (zkR (by repeat (first | (with_reducible first | exact HB.out | apply znU | apply zkZ | apply zvF | refine zjF ?_ (zxI.ge HI0.out)) | exact HB.out)) hb)
         clear HO_5
         clear HO_6
         clear HO_8
         clear HI0
         clear HK
         clear HB
         have HO_5 := n0_
         have HO_6 := n1_
         have HO_8 := n2_
         have HO249 := n3_
         have HI0 := n4_
         have HK := n5_
         have HB := n6_
         clear n0_ n1_ n2_ n3_ n4_ n5_ n6_
         clear hb ho26
         obtain ⟨Ao28, co28, eo28⟩ := Kd.R_slice HO249.out
         (first | subst eo28 | (injection eo28 with f1_ f2_ f3_; have f4_ := f1_.symm; have f5_ := f3_.symm; clear f1_ f2_ f3_; subst f4_; subst f5_))
         refine hK.out _ _ ⟨HS0_, HS1_⟩ (fun hHeld => ?_)
         clear hK K
         refine norm_ (a' := ?_) ?_ ?_
         rotate_left
         ·show Act.put _ (some 43) _ = _
          simp only [Act.put, List.setIfInBounds_toArray, List.set_cons_zero, List.set_cons_succ, zcM, ziJ]
          rfl
         refine one_ (i := 10) (N := some 44) (bl_ 12 2047) rfl rfl (one_of HT_.out (by kernel_rfl)) (by decide) (fun K hK => ?_)
         refine Kd.R_append_rows_step (Kd.int .i64) w.heap.size (by rfl) (.tmp 34) (.tmp 43) 22 2 (.int .i64 0) 8 rfl Try.underlying22 info2 rfl (by decide) (by omega) u8 x8_2 y247 _ _ _ (fun k_ => some k_ ≠ (.slice (some ad245) t223.length co22 : Value).ownBlock ∧ some k_ ≠ (.slice (some ad246) x6_5.length co24 : Value).ownBlock ∧ some k_ ≠ (.slice Ao28 y247.length co28 : Value).ownBlock) (fun _ => False) rfl rfl ?aO ?aR (fun _ _ h => h) (fun _ h => h.elim) ?aF (Below.refl _ _) ?aS ?aL ?_
         (case aR => repeat (first | exact (Kd.R_reads' HO249.out).2.2 | (with_reducible refine Kd.C_alloc ?_ _) | (with_reducible refine Kd.C_drewN ?_ _) | (with_reducible refine Kd.C_drew ?_)))
         (case aF => exact (fun k_ hk => ⟨Kd.fresh' (Kd.R_lt (by (with_reducible repeat (first | apply Kd.R_alloc | apply Kd.R_drewN | apply Kd.R_drew)); exact HO_5.out)) k_ hk, Kd.fresh' (Kd.R_lt (by (with_reducible repeat (first | apply Kd.R_alloc | apply Kd.R_drewN | apply Kd.R_drew)); exact HO_6.out)) k_ hk, Kd.fresh' (Kd.R_lt (by (with_reducible repeat (first | apply Kd.R_alloc | apply Kd.R_drewN | apply Kd.R_drew)); exact HO249.out)) k_ hk⟩))
         (case aO => exact (by (with_reducible repeat (first | apply Kd.R_alloc | apply Kd.R_drewN | apply Kd.R_drew)); exact Kd.R_mono HO_8.out (fun _ hk => ⟨hk.1.1, ⟨hk.1.2, hk.2⟩⟩)))
         (case aS => exact (keep_size (w := w) (g := g) (row := none) (by repeat (first | (with_reducible first | exact HK.out | apply zwG.set_ | apply zeS | apply zwU | apply zbV) | exact HK.out))))
         (case aL => have := LMc21.out; omega)
         intro v251 w27 ho hb hg hat
         have HS0_ := cell_grown hg (hHeld.1) (by (first | rw [add_block] | (show some (Addr.add _ _).block ≠ _; rw [add_block]) | skip); have h_ := HO_5.out.1 _ rfl; revert h_; (try simp only [and_imp]); intros; assumption)
         have HS1_ := cell_grown hg (hHeld.2) (by (first | rw [add_block] | (show some (Addr.add _ _).block ≠ _; rw [add_block]) | skip); have h_ := HO_6.out.1 _ rfl; revert h_; (try simp only [and_imp]); intros; assumption)
         rw [← Ny250.out] at ho
         have n0_ := zpS (Kd.R_after (ok := (fun k_ => some k_ ≠ (.slice (some ad246) x6_5.length co24 : Value).ownBlock ∧ some k_ ≠ (.slice Ao28 y247.length co28 : Value).ownBlock)) (by (with_reducible repeat (first | apply Kd.R_alloc | apply Kd.R_drewN | apply Kd.R_drew)); exact Kd.R_mono HO_5.out (fun _ hk => ⟨⟨hk.1.1, hk.2⟩, hk.1.2⟩)) hg hat)
         have n1_ := zpS (Kd.R_after (ok := (fun k_ => some k_ ≠ (.slice (some ad245) t223.length co22 : Value).ownBlock ∧ some k_ ≠ (.slice Ao28 y247.length co28 : Value).ownBlock)) (by (with_reducible repeat (first | apply Kd.R_alloc | apply Kd.R_drewN | apply Kd.R_drew)); exact Kd.R_mono HO_6.out (fun _ hk => ⟨⟨hk.1.1, hk.2⟩, hk.1.2⟩)) hg hat)
         have n2_ := zpS (zxI.grown (by repeat (first | (with_reducible first | exact HI0.out | apply zxI.alloc | apply zxI.drewN | apply zxI.drew | apply zxI.set_1 | apply zxI.set_2) | exact HI0.out)) hg (zxI.own_ne HI0.out HO_8.out (by decide)))
         have n3_ := zpS (Kd.R_after (ok := (fun k_ => some k_ ≠ (.slice (some ad245) t223.length co22 : Value).ownBlock ∧ some k_ ≠ (.slice (some ad246) x6_5.length co24 : Value).ownBlock)) (by (with_reducible repeat (first | apply Kd.R_alloc | apply Kd.R_drewN | apply Kd.R_drew)); exact Kd.R_mono HO249.out (fun _ hk => ⟨⟨hk.1.1.2, hk.1.2⟩, hk.2⟩)) hg hat)
         have n4_ := zpS (below_weaken (by repeat (first | (with_reducible first | exact HB.out | apply znU | apply zkZ | apply zvF | refine zjF ?_ (zxI.ge HI0.out)) | exact HB.out)) HL.out hb)
         have n5_ := zpS (zwG.trans (by repeat (first | (with_reducible first | exact HK.out | apply zwG.set_ | apply zeS | apply zwU | apply zbV) | exact HK.out)) (zwG.of_grown hg g) (Kd.R_base2 HO_8.out))
         have n6_ := zpS (ho)
         clear HO_5
         clear HO_6
         clear HI0
         clear HO249
         clear HB
         clear HK
         clear HO_8
         have HO_5 := n0_
         have HO_6 := n1_
         have HI0 := n2_
         have HO249 := n3_
         have HB := n4_
         have HK := n5_
         have HO252 := n6_
         clear n0_ n1_ n2_ n3_ n4_ n5_ n6_
         clear ho hb hg hat
         refine hK.out _ _ ⟨HS0_, HS1_⟩ (fun hHeld => ?_)
         clear hK K
         refine norm_ (a' := ?_) ?_ ?_
         rotate_left
         ·show Act.put _ (some 44) _ = _
          simp only [Act.put, List.setIfInBounds_toArray, List.set_cons_zero, List.set_cons_succ, zcM, ziJ]
          rfl
         refine pu_ 11 (some 8) (bl_ 12 4095) ?_
         refine done_ (done_of HT_.out (by kernel_rfl)) ?_
         try go_wp2
         go_roundg k2
         case measure => have := HJ5.out; have := HK2.out; omega
         case rel => exact ⟨(y250), (wrap64 (x9_2 + 1)), (by first | rfl | (simp; done) | (simp [*]; done)), H', ⟨by have := HJ5.out; have := HK2.out; omega⟩, ⟨by (with_reducible repeat (first | apply Kd.R_alloc | apply Kd.R_drewN | apply Kd.R_drew)); exact Kd.R_mono HO_5.out (fun _ hk => ⟨hk.1.1, hk.2⟩)⟩, ⟨by (with_reducible repeat (first | apply Kd.R_alloc | apply Kd.R_drewN | apply Kd.R_drew)); exact Kd.R_mono HO_6.out (fun _ hk => ⟨hk.1.1, hk.2⟩)⟩, ⟨by (with_reducible repeat (first | apply Kd.R_alloc | apply Kd.R_drewN | apply Kd.R_drew)); exact Kd.R_mono HO252.out (fun _ hk => ⟨hk.1, hk.2.1⟩)⟩, ⟨by repeat (first | (with_reducible first | exact HI0.out | apply zxI.alloc | apply zxI.drewN | apply zxI.drew | apply zxI.set_1 | apply zxI.set_2) | exact HI0.out)⟩, ⟨by repeat (first | (with_reducible first | exact HK.out | apply zwG.set_ | apply zeS | apply zwU | apply zbV) | exact HK.out)⟩, ⟨by repeat (first | (with_reducible first | exact HB.out | apply znU | apply zkZ | apply zvF | refine zjF ?_ (zxI.ge HI0.out)) | exact HB.out)⟩⟩
        ·rw [if_neg c21] at H
         exact absurd H (by simp)
       ·rw [if_neg c20] at H
        exact absurd H (by simp)
      ·rw [if_neg c19] at H
       exact absurd H (by simp)
     ·rw [if_neg c18] at H
      have c18b0 : decide (x9_2 < (t223.length : Int)) = false := decide_eq_false c18
      clear c18
      simp only [Option.some.injEq, Prod.mk.injEq] at H
      obtain ⟨rfl, rfl, rfl⟩ := H
      obtain ⟨Ao29, co29, eo29⟩ := Kd.R_slice HO_5.out
      subst eo29
      go_wp2
      go_ret
      exact ⟨_, by first | rfl | (simp [ziS, znJ] <;> rfl) | (simp [*, ziS, znJ] <;> rfl), by (with_reducible repeat (first | apply Kd.R_alloc | apply Kd.R_drewN | apply Kd.R_drew)); exact Kd.R_mono HO_8.out (fun _ hk => trivial), by repeat (first | (with_reducible first | exact HI0.out | apply zxI.alloc | apply zxI.drewN | apply zxI.drew | apply zxI.set_1 | apply zxI.set_2) | exact HI0.out), by repeat (first | (with_reducible first | exact HB.out | apply znU | apply zkZ | apply zvF | refine zjF ?_ (zxI.ge HI0.out)) | exact HB.out), by repeat (first | (with_reducible first | exact HK.out | apply zwG.set_ | apply zeS | apply zwU | apply zbV) | exact HK.out)⟩

def zgN.f (k : Nat) (l0 : List Int) : Option (List Int) := (zqP.f l0).bind fun bt253 => ((zpJ.f bt253.1 bt253.2.1 bt253.2.2 (([2, 4, 6, 6, 8] : List Int))).bind fun bt260 => ((zaF.f k bt253.1 bt260.2.1 bt260.2.2 bt260.1).bind fun bt263 => (some bt263.1)))
theorem zgN.mono : ∀ a0 k, LeO (zgN.f k a0) (zgN.f (k + 1) a0) := by
 intro a0 k
 unfold zgN.f
 repeat' first
   | (with_reducible exact zaF.mono _ _ _ _ _)
   | (with_reducible exact LeO.refl _)
   | (with_reducible exact LeO.none _)
   | (with_reducible refine LeO.ite ?_ ?_)
   | (with_reducible refine LeO.bind ?_ (fun _ => ?_))
   | exact zaF.mono _ _ _ _ _
   | exact LeO.none _
   | refine LeO.ite ?_ ?_
   | refine LeO.bind ?_ (fun _ => ?_)
theorem zgN.calls (k : Nat) (A0 : Option Addr) (c0 : Nat) (l0 : List Int) (r : List Int) (w : World) (hr0 : Kd.C (Kd.int .u8) w A0 l0.length l0) (hc0 : l0.length ≤ c0) (h : zgN.f k l0 = some r) :
  Calls Try.prog 41 #[.slice A0 l0.length c0] w fun e w' => ∃ v0_ : Value, e = .returned (v0_) ∧ Kd.R (Kd.int .i64) 2 w' w.heap.size (fun _ => True) v0_ r ∧ Below w.heap.size w w' := by
 have HR0 := zpS hr0
 have HC0 := zpS hc0
 clear hr0 hc0
 have HB := zpS (Below.refl w.heap.size w)
 have H : ((zqP.f l0).bind fun bt253 => ((zpJ.f bt253.1 bt253.2.1 bt253.2.2 (([2, 4, 6, 6, 8] : List Int))).bind fun bt260 => ((zaF.f k bt253.1 bt260.2.1 bt260.2.2 bt260.1).bind fun bt263 => (some bt263.1)))) = some r := h
 clear h
 replace H := Option.bind_eq_some_iff.mp H
 obtain ⟨⟨t253, t254, t255⟩, A20, H⟩ := H
 replace H : ((zpJ.f t253 t254 t255 (([2, 4, 6, 6, 8] : List Int))).bind fun bt260 => ((zaF.f k t253 bt260.2.1 bt260.2.2 bt260.1).bind fun bt263 => (some bt263.1))) = some r := H
 have A2 := zpS A20
 clear A20
 obtain ⟨y257, hy257⟩ : ∃ y_ : List Int, y_ = (([2, 4, 6, 6, 8] : List Int)) := ⟨_, rfl⟩
 replace H : ((zpJ.f t253 t254 t255 y257).bind fun bt260 => ((zaF.f k t253 bt260.2.1 bt260.2.2 bt260.1).bind fun bt263 => (some bt263.1))) = some r := by first | (rw [hy257]; with_reducible exact H) | (have H2_ := (Option.bind_some _ _).symm.trans H; rw [hy257]; with_reducible exact H2_) | (have H2_ := (Option.bind_some _ _).symm.trans H; with_reducible exact H2_) | with_reducible exact H | (rw [hy257]; exact H) | exact H
 have Ny257 := zpS hy257
 clear hy257
 replace H := Option.bind_eq_some_iff.mp H
 obtain ⟨⟨t260, t261, t262⟩, A30, H⟩ := H
 replace H : ((zaF.f k t253 t261 t262 t260).bind fun bt263 => (some bt263.1)) = some r := H
 have A3 := zpS A30
 clear A30
 replace H := Option.bind_eq_some_iff.mp H
 obtain ⟨⟨t263, t266, t267⟩, A40, H⟩ := H
 replace H : (some t263) = some r := H
 have A4 := zpS A40
 clear A40
 obtain rfl := Option.some.inj H
 go_enter Try.func41, Try.ntmps41
 go_wp2_with (first | ((with_reducible refine zgK (f := 54) rfl ?_); refine zqQ (some 6) rfl rfl Try.func54 (by kernel_rfl) rfl #[.slice A0 l0.length c0] rfl (by (try simp only [List.map_toArray, List.map_cons, List.map_nil]); first | done | rfl | (simp only [List.length_drop, List.length_take]; rfl)) ?_; (with_reducible refine (zqP.calls _ _ l0 t253 t254 t255 w _ ?side1 ?side2 ?side3 A2.out).mono ?_); (case side1 => repeat (first | (with_reducible first | exact HB.out | apply znU | apply zkZ | apply zvF) | exact HB.out)); (case side2 => exact HR0.out); (case side3 => exact HC0.out); rintro e w5 ⟨g256, rfl, hi, hb, hb2⟩; refine ⟨_, rfl, ?_⟩; have n0_ := zpS (hb); have n1_ := zpS (hi); clear HB; have HB := n0_; have HI256 := n1_; clear n0_ n1_; (try clear hb); (try clear hb2)) | ((with_reducible refine gate_dst (N := 8) rfl ?_); refine Kd.R_lit (Kd.int .i64) _ 2 ?hg (N := 8) ?hd (xs := ([2, 4, 6, 6, 8] : List Int)) (zlR := [.int .i64 2, .int .i64 4, .int .i64 6, .int .i64 6, .int .i64 8]) (ok := fun _ => True) (okp := fun _ => True) ?hr ?hp (fun _ hk => hk) trivial (Below.refl _ _) (Nat.le_refl _) (by simp) ?_; (case hd => rfl); (case hg => rfl); (case hr => first | (go_simp; done) | (go_simp; rfl)); (case hp => exact (zfI.one (show Kd.M (Kd.int .i64) _ _ _ 2 [.int .i64 2] from rfl) (zfI.one (show Kd.M (Kd.int .i64) _ _ _ 4 [.int .i64 4] from rfl) (zfI.one (show Kd.M (Kd.int .i64) _ _ _ 6 [.int .i64 6] from rfl) (zfI.one (show Kd.M (Kd.int .i64) _ _ _ 6 [.int .i64 6] from rfl) (zfI.one (show Kd.M (Kd.int .i64) _ _ _ 8 [.int .i64 8] from rfl) (zfI.none _ _))))))); intro v258 w6 ho7 hb hg_ hnew_; clear hg_ hnew_; (first | rw [← Ny257.out] at ho7 | (simp only [Int.reduceToNat] at ho7; rw [← Ny257.out] at ho7)); have n0_ := zpS (Kd.R_lower ho7 (zuA (by repeat (first | (with_reducible first | exact HB.out | apply znU | apply zkZ | apply zvF | refine zjF ?_ (zxI.ge HI256.out)) | exact HB.out)))); have n1_ := zpS (zxI.below (by repeat (first | (with_reducible first | exact HI256.out | apply zxI.alloc | apply zxI.drewN | apply zxI.drew | apply zxI.set_1 | apply zxI.set_2) | exact HI256.out)) hb); have n2_ := zpS (zkR (by repeat (first | (with_reducible first | exact HB.out | apply znU | apply zkZ | apply zvF | refine zjF ?_ (zxI.ge HI256.out)) | exact HB.out)) hb); clear HI256; clear HB; have HO259 := n0_; have HI256 := n1_; have HB := n2_; clear n0_ n1_ n2_; clear hb ho7; obtain ⟨Ao8, co8, eo8⟩ := Kd.R_slice HO259.out; subst eo8) | ((with_reducible refine zgK (f := 67) rfl ?_); refine zqQ (some 9) rfl rfl Try.func67 (by kernel_rfl) rfl #[.pointer (some ⟨g256, 0, none⟩), .slice Ao8 y257.length co8] rfl (by (try simp only [List.map_toArray, List.map_cons, List.map_nil]); first | done | rfl | (simp only [List.length_drop, List.length_take]; rfl)) ?_; (with_reducible refine (zpJ.calls g256 t253 t254 t255 _ _ y257 t260 t261 t262 w _ ?side1 ?side2 ?side3 ?side4 ?side5 A3.out).mono ?_); (case side1 => repeat (first | (with_reducible first | exact HI256.out | apply zxI.alloc | apply zxI.drewN | apply zxI.drew | apply zxI.set_1 | apply zxI.set_2) | exact HI256.out)); (case side2 => repeat (first | (with_reducible first | exact HB.out | apply znU | apply zkZ | apply zvF | refine zjF ?_ (zxI.ge HI256.out)) | exact HB.out)); (case side3 => repeat (first | exact (Kd.R_reads' HO259.out).2.2 | (with_reducible refine Kd.C_alloc ?_ _) | (with_reducible refine Kd.C_drewN ?_ _) | (with_reducible refine Kd.C_drew ?_))); (case side4 => exact (Kd.R_reads' HO259.out).2.1); (case side5 => exact far_slice (zxI.own_ne HI256.out HO259.out (by decide))); rintro e w9 ⟨rfl, hi, hb, hk⟩; refine ⟨_, rfl, ?_⟩; have n0_ := zpS (Kd.R_mono (Kd.R_keep (zxI.apart (show zxI w _ g256 t253 t254 t255 from by repeat (first | (with_reducible first | exact HI256.out | apply zxI.alloc | apply zxI.drewN | apply zxI.drew | apply zxI.set_1 | apply zxI.set_2) | exact HI256.out)) (by (with_reducible repeat (first | apply Kd.R_alloc | apply Kd.R_drewN | apply Kd.R_drew)); exact HO259.out) (by decide)) hk (fun _ h => h.2)) (fun _ h => h.1)); have n1_ := zpS (hb); have n2_ := zpS (hi); clear HO259; clear HB; clear HI256; have HO259 := n0_; have HB := n1_; have HI256 := n2_; clear n0_ n1_ n2_; (try clear hb); (try clear hb2)) | ((with_reducible refine zgK (f := 68) rfl ?_); refine zqQ (some 12) rfl rfl Try.func68 (by kernel_rfl) rfl #[.pointer (some ⟨g256, 0, none⟩), .int .i64 t260] rfl (by (try simp only [List.map_toArray, List.map_cons, List.map_nil]); first | done | rfl | (simp only [List.length_drop, List.length_take]; rfl)) ?_; (with_reducible refine (zaF.calls k g256 t253 t261 t262 t260 t263 t266 t267 w _ ?side1 ?side2 A4.out).mono ?_); (case side1 => repeat (first | (with_reducible first | exact HI256.out | apply zxI.alloc | apply zxI.drewN | apply zxI.drew | apply zxI.set_1 | apply zxI.set_2) | exact HI256.out)); (case side2 => repeat (first | (with_reducible first | exact HB.out | apply znU | apply zkZ | apply zvF | refine zjF ?_ (zxI.ge HI256.out)) | exact HB.out)); rintro e w10 ⟨v264, rfl, ho0, hi, hb, hk⟩; refine ⟨_, rfl, ?_⟩; have n0_ := zpS (Kd.R_mono (Kd.R_told (Kd.R_oldK (zxI.apart (show zxI w _ g256 t253 t261 t262 from by repeat (first | (with_reducible first | exact HI256.out | apply zxI.alloc | apply zxI.drewN | apply zxI.drew | apply zxI.set_1 | apply zxI.set_2) | exact HI256.out)) (by (with_reducible repeat (first | apply Kd.R_alloc | apply Kd.R_drewN | apply Kd.R_drew)); exact HO259.out) (by decide)) hk) (Kd.R_base ho0)) (fun _ h_ => h_.1)); have n1_ := zpS (Kd.R_lower (Kd.R_new' ho0 (Kd.R_lt (by (with_reducible repeat (first | apply Kd.R_alloc | apply Kd.R_drewN | apply Kd.R_drew)); exact HO259.out))) (zuA (by repeat (first | (with_reducible first | exact HB.out | apply znU | apply zkZ | apply zvF | refine zjF ?_ (zxI.ge HI256.out)) | exact HB.out)))); have n2_ := zpS (hb); have n3_ := zpS (hi); clear HO259; clear HB; clear HI256; have HO259 := n0_; have HO265 := n1_; have HB := n2_; have HI256 := n3_; clear n0_ n1_ n2_ n3_; (try clear hb); (try clear hb2); (try clear ho0)))
 go_ret
 exact ⟨_, by first | rfl | (simp [ziS, znJ] <;> rfl) | (simp [*, ziS, znJ] <;> rfl), by (with_reducible repeat (first | apply Kd.R_alloc | apply Kd.R_drewN | apply Kd.R_drew)); exact Kd.R_mono HO265.out (fun _ hk => trivial), by repeat (first | (with_reducible first | exact HB.out | apply znU | apply zkZ | apply zvF | refine zjF ?_ (zxI.ge HI256.out)) | exact HB.out)⟩

end Go.Proofs.Ytbpkbllokmplnaa.PFnSequences
