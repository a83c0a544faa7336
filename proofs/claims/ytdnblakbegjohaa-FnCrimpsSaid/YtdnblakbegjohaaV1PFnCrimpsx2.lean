-- Printed for this claim by this session's program pp.py, which drives the kit's print with additions. Not trusted: Lean checks it.
import Derived.Test.YtdnblakbegjohaaV1PFnCrimpsx0
import Derived.Test.YtdnblakbegjohaaV1PFnCrimpsx1
namespace Go.Proofs.Ytdnblakbegjohaa.PFnCrimps
open Go.RowKit Go.Proofs.YtdnblakbegjohaaW.PrintWords Go.Proofs.YtdnblakbegjohaaW.PrintLast Go.Proofs.YtdnblakbegjohaaW.PrintMore
attribute [local go_sem] max2_int min2_int max_two min_two znE zuB max_four min_four   -- for this text's walks alone
set_option linter.unusedVariables false
set_option linter.unusedSimpArgs false

mutual
def zaK.j0 : Nat → Int → Int → List Int → Int → Int → Option (List Int × Int × Int)
 | 0, _, _, _, _, _ => none
 | k + 1, x5, x6, x1000, x1001, x1002 => (zfT.f k x1000 x1001 x1002 x5 x6).bind fun bt150 => ((zfT.f k x1000 bt150.2.1 bt150.2.2 x5 x6).bind fun bt155 => ((zmN.f x1000 bt155.2.1 bt155.2.2 3).bind fun bt160 => (if bt160.1 = true then ((zcB.f x1000 bt160.2.1 bt160.2.2 x5).bind fun bt163 => ((zrU.f bt150.1 bt163.1).bind fun t166 => (zaK.j1 k bt150.1 t166 x1000 bt163.2.1 bt163.2.2))) else (zaK.j1 k bt150.1 bt155.1 x1000 bt160.2.1 bt160.2.2))))
def zaK.j1 : Nat → List Int → List Int → List Int → Int → Int → Option (List Int × Int × Int)
 | 0, _, _, _, _, _ => none
 | k + 1, x7, x8, x1000, x1001, x1002 => zaK.l0 k x7 x8 (([] : List Int)) 0 x1000 x1001 x1002
def zaK.l0 : Nat → List Int → List Int → List Int → Int → List Int → Int → Int → Option (List Int × Int × Int)
 | 0, _, _, _, _, _, _, _ => none
 | k + 1, x7, x8, x10, x11, x1000, x1001, x1002 => if x11 < (x7.length : Int) then (if 0 ≤ x11 then (if x11 < (x8.length : Int) then ((some (([rd x7 x11, rd x8 x11] : List Int) : List Int)).bind fun y174 => (if x10.length + y174.length < 17592186044416 then (zaK.l0 k x7 x8 (x10 ++ y174) (wrap64 (x11 + 1)) x1000 x1001 x1002) else (none))) else (none)) else (none)) else (some (x10, x1001, x1002))
end
def zaK.f (k : Nat) (s0_0 : List Int) (s0_1 : Int) (s0_2 : Int) (a1 : Int) : Option (List Int × Int × Int) := (zcB.f s0_0 s0_1 s0_2 (wrap64 (Int.tdiv a1 2))).bind fun bt141 => ((zmN.f s0_0 bt141.2.1 bt141.2.2 4).bind fun bt144 => (if bt144.1 = true then ((zcB.f s0_0 bt144.2.1 bt144.2.2 (wrap64 ((wrap64 (8 - (wrap64 (1 + bt141.1)))) + 1))).bind fun bt147 => (zaK.j0 k (wrap64 (1 + bt141.1)) (wrap64 ((wrap64 (1 + bt141.1)) + bt147.1)) s0_0 bt147.2.1 bt147.2.2)) else (zaK.j0 k (wrap64 (1 + bt141.1)) 8 s0_0 bt144.2.1 bt144.2.2)))
theorem zaK.mono_l : ∀ k, (∀ y0 y1 y2 y3 y4, LeO (zaK.j0 k y0 y1 y2 y3 y4) (zaK.j0 (k + 1) y0 y1 y2 y3 y4)) ∧ (∀ y0 y1 y2 y3 y4, LeO (zaK.j1 k y0 y1 y2 y3 y4) (zaK.j1 (k + 1) y0 y1 y2 y3 y4)) ∧ (∀ y0 y1 y2 y3 y4 y5 y6, LeO (zaK.l0 k y0 y1 y2 y3 y4 y5 y6) (zaK.l0 (k + 1) y0 y1 y2 y3 y4 y5 y6))
 | 0 => ⟨fun _ _ _ _ _ r h => by simp [zaK.j0] at h, fun _ _ _ _ _ r h => by simp [zaK.j1] at h, fun _ _ _ _ _ _ _ r h => by simp [zaK.l0] at h⟩
 | k + 1 => by
  obtain ⟨ih0, ih1, ih2⟩ := zaK.mono_l k
  refine ⟨?_, ?_, ?_⟩
  ·intro y0 y1 y2 y3 y4
   unfold zaK.j0
   repeat' first
   | (with_reducible exact ih0 _ _ _ _ _)
   | (with_reducible exact ih1 _ _ _ _ _)
   | (with_reducible exact ih2 _ _ _ _ _ _ _)
   | (with_reducible exact zfT.mono _ _ _ _ _ _)
   | (with_reducible exact LeO.refl _)
   | (with_reducible exact LeO.none _)
   | (with_reducible refine LeO.ite ?_ ?_)
   | (with_reducible refine LeO.bind ?_ (fun _ => ?_))
   | exact ih0 _ _ _ _ _
   | exact ih1 _ _ _ _ _
   | exact ih2 _ _ _ _ _ _ _
   | exact zfT.mono _ _ _ _ _ _
   | exact LeO.none _
   | refine LeO.ite ?_ ?_
   | refine LeO.bind ?_ (fun _ => ?_)
  ·intro y0 y1 y2 y3 y4
   unfold zaK.j1
   repeat' first
   | (with_reducible exact ih0 _ _ _ _ _)
   | (with_reducible exact ih1 _ _ _ _ _)
   | (with_reducible exact ih2 _ _ _ _ _ _ _)
   | (with_reducible exact zfT.mono _ _ _ _ _ _)
   | (with_reducible exact LeO.refl _)
   | (with_reducible exact LeO.none _)
   | (with_reducible refine LeO.ite ?_ ?_)
   | (with_reducible refine LeO.bind ?_ (fun _ => ?_))
   | exact ih0 _ _ _ _ _
   | exact ih1 _ _ _ _ _
   | exact ih2 _ _ _ _ _ _ _
   | exact zfT.mono _ _ _ _ _ _
   | exact LeO.none _
   | refine LeO.ite ?_ ?_
   | refine LeO.bind ?_ (fun _ => ?_)
  ·intro y0 y1 y2 y3 y4 y5 y6
   unfold zaK.l0
   repeat' first
   | (with_reducible exact ih0 _ _ _ _ _)
   | (with_reducible exact ih1 _ _ _ _ _)
   | (with_reducible exact ih2 _ _ _ _ _ _ _)
   | (with_reducible exact zfT.mono _ _ _ _ _ _)
   | (with_reducible exact LeO.refl _)
   | (with_reducible exact LeO.none _)
   | (with_reducible refine LeO.ite ?_ ?_)
   | (with_reducible refine LeO.bind ?_ (fun _ => ?_))
   | exact ih0 _ _ _ _ _
   | exact ih1 _ _ _ _ _
   | exact ih2 _ _ _ _ _ _ _
   | exact zfT.mono _ _ _ _ _ _
   | exact LeO.none _
   | refine LeO.ite ?_ ?_
   | refine LeO.bind ?_ (fun _ => ?_)
theorem zaK.mono : ∀ a0 a1 a2 a3 k, LeO (zaK.f k a0 a1 a2 a3) (zaK.f (k + 1) a0 a1 a2 a3) := by
 intro a0 a1 a2 a3 k
 obtain ⟨ih0, ih1, ih2⟩ := zaK.mono_l k
 unfold zaK.f
 repeat' first
   | (with_reducible exact ih0 _ _ _ _ _)
   | (with_reducible exact ih1 _ _ _ _ _)
   | (with_reducible exact ih2 _ _ _ _ _ _ _)
   | (with_reducible exact zfT.mono _ _ _ _ _ _)
   | (with_reducible exact LeO.refl _)
   | (with_reducible exact LeO.none _)
   | (with_reducible refine LeO.ite ?_ ?_)
   | (with_reducible refine LeO.bind ?_ (fun _ => ?_))
   | exact ih0 _ _ _ _ _
   | exact ih1 _ _ _ _ _
   | exact ih2 _ _ _ _ _ _ _
   | exact zfT.mono _ _ _ _ _ _
   | exact LeO.none _
   | refine LeO.ite ?_ ?_
   | refine LeO.bind ?_ (fun _ => ?_)
def zaK.T14 : Bool × List (List Nat × List Nat) := (true, [([], []), ([], []), ([], []), ([1, 2], [1, 2]), ([3], [3]), ([], []), ([], []), ([5, 6], [5, 6]), ([7], [7]), ([4, 8], [4, 8]), ([0, 9], [0, 9]), ([10, 10, 0, 1, 2, 3, 4, 5, 6, 7, 8, 9, 10], [0, 10])])
def zaK.B14 : List Nat := [0, 0, 0, 6, 14, 0, 0, 96, 224, 510, 1023, 2047]
theorem zaK.tab14 : rtab .any (opsOf Try.f11 14) = zaK.T14 := by kernel_rfl
theorem zaK.bits14 : ztE zaK.T14.2 zaK.B14 = true := by kernel_rfl
set_option maxHeartbeats 8000000 in
set_option maxRecDepth 100000 in
theorem zaK.calls (k : Nat) (g : Nat) (s0_0 : List Int) (s0_1 : Int) (s0_2 : Int) (a1 : Int) (r1 : List Int) (r2 : Int) (r3 : Int) (w0 w : World) (hI : zoE w0 w g s0_0 s0_1 s0_2) (hB : Below w0.heap.size w0 w) (h : zaK.f k s0_0 s0_1 s0_2 a1 = some (r1, r2, r3)) :
  Calls Try.prog 11 #[.pointer (some ⟨g, 0, none⟩), .int .i64 a1] w fun e w' => ∃ v0_ : Value, e = .returned (v0_) ∧ Kd.R (Kd.int .i64) 2 w' w.heap.size (fun _ => True) v0_ r1 ∧ zoE w0 w' g s0_0 r2 r3 ∧ Below w0.heap.size w0 w' ∧ zwG w w' g none := by
 have HI0 := zpS hI
 have HK := zpS (zwG.refl w g none)
 have HL := zpS hB.size
 clear hI
 have HW0 := zpS hB.size
 have HB := zpS hB
 clear hB
 have H : ((zcB.f s0_0 s0_1 s0_2 (wrap64 (Int.tdiv a1 2))).bind fun bt141 => ((zmN.f s0_0 bt141.2.1 bt141.2.2 4).bind fun bt144 => (if bt144.1 = true then ((zcB.f s0_0 bt144.2.1 bt144.2.2 (wrap64 ((wrap64 (8 - (wrap64 (1 + bt141.1)))) + 1))).bind fun bt147 => (zaK.j0 k (wrap64 (1 + bt141.1)) (wrap64 ((wrap64 (1 + bt141.1)) + bt147.1)) s0_0 bt147.2.1 bt147.2.2)) else (zaK.j0 k (wrap64 (1 + bt141.1)) 8 s0_0 bt144.2.1 bt144.2.2)))) = some (r1, r2, r3) := h
 clear h
 replace H := Option.bind_eq_some_iff.mp H
 obtain ⟨⟨t141, t142, t143⟩, A30, H⟩ := H
 replace H : ((zmN.f s0_0 t142 t143 4).bind fun bt144 => (if bt144.1 = true then ((zcB.f s0_0 bt144.2.1 bt144.2.2 (wrap64 ((wrap64 (8 - (wrap64 (1 + t141)))) + 1))).bind fun bt147 => (zaK.j0 k (wrap64 (1 + t141)) (wrap64 ((wrap64 (1 + t141)) + bt147.1)) s0_0 bt147.2.1 bt147.2.2)) else (zaK.j0 k (wrap64 (1 + t141)) 8 s0_0 bt144.2.1 bt144.2.2))) = some (r1, r2, r3) := H
 have A3 := zpS A30
 clear A30
 replace H := Option.bind_eq_some_iff.mp H
 obtain ⟨⟨t144, t145, t146⟩, A40, H⟩ := H
 replace H : (if t144 = true then ((zcB.f s0_0 t145 t146 (wrap64 ((wrap64 (8 - (wrap64 (1 + t141)))) + 1))).bind fun bt147 => (zaK.j0 k (wrap64 (1 + t141)) (wrap64 ((wrap64 (1 + t141)) + bt147.1)) s0_0 bt147.2.1 bt147.2.2)) else (zaK.j0 k (wrap64 (1 + t141)) 8 s0_0 t145 t146)) = some (r1, r2, r3) := H
 have A4 := zpS A40
 clear A40
 have HC5 := zpS H
 clear H
 go_enter Try.func11, Try.ntmps11
 go_upto_if 18 with (first | ((with_reducible refine zgM (f := 23) rfl ?_); refine zqQ (some 15) rfl rfl Try.func23 (by kernel_rfl) rfl #[.pointer (some ⟨g, 0, none⟩), .int .i64 (wrap64 (Int.tdiv a1 2))] rfl (by (try simp only [List.map_toArray, List.map_cons, List.map_nil]); first | done | rfl | (simp only [List.length_drop, List.length_take]; rfl)) ?_; (with_reducible refine (zcB.calls g s0_0 s0_1 s0_2 (wrap64 (Int.tdiv a1 2)) t141 t142 t143 w0 _ ?side1 ?side2 A3.out).mono ?_); (case side1 => repeat (first | (with_reducible first | exact HI0.out | apply zoE.alloc | apply zoE.drewN | apply zoE.drew | apply zoE.set_1 | apply zoE.set_2) | exact HI0.out)); (case side2 => repeat (first | (with_reducible first | exact HB.out | apply znU | apply zkZ | apply zvF | refine zjF ?_ (zoE.ge HI0.out)) | exact HB.out)); rintro e w6 ⟨rfl, hi, hb, hk⟩; refine ⟨_, rfl, ?_⟩; have n0_ := zpS (zwG.trans (by repeat (first | (with_reducible first | exact HK.out | apply zwG.set_ | apply zeS | apply zwU | apply zbV) | exact HK.out)) hk (.inl rfl)); have n1_ := zpS (hb); have n2_ := zpS (hi); clear HK; clear HB; clear HI0; have HK := n0_; have HB := n1_; have HI0 := n2_; clear n0_ n1_ n2_; (try clear hb); (try clear hb2)) | ((with_reducible refine zgM (f := 24) rfl ?_); refine zqQ (some 18) rfl rfl Try.func24 (by kernel_rfl) rfl #[.pointer (some ⟨g, 0, none⟩), .int .i64 4] rfl (by (try simp only [List.map_toArray, List.map_cons, List.map_nil]); first | done | rfl | (simp only [List.length_drop, List.length_take]; rfl)) ?_; (with_reducible refine (zmN.calls g s0_0 t142 t143 4 t144 t145 t146 w0 _ ?side1 ?side2 A4.out).mono ?_); (case side1 => repeat (first | (with_reducible first | exact HI0.out | apply zoE.alloc | apply zoE.drewN | apply zoE.drew | apply zoE.set_1 | apply zoE.set_2) | exact HI0.out)); (case side2 => repeat (first | (with_reducible first | exact HB.out | apply znU | apply zkZ | apply zvF | refine zjF ?_ (zoE.ge HI0.out)) | exact HB.out)); rintro e w7 ⟨rfl, hi, hb, hk⟩; refine ⟨_, rfl, ?_⟩; have n0_ := zpS (zwG.trans (by repeat (first | (with_reducible first | exact HK.out | apply zwG.set_ | apply zeS | apply zwU | apply zbV) | exact HK.out)) hk (.inl rfl)); have n1_ := zpS (hb); have n2_ := zpS (hi); clear HK; clear HB; clear HI0; have HK := n0_; have HB := n1_; have HI0 := n2_; clear n0_ n1_ n2_; (try clear hb); (try clear hb2)))
 (try simp only [Act.put, set_a_, set_b_, set_c_])
 go_cut [6] (fun v6 wc => ∃ (kq : Nat) (x6_4 : Int) (x1001_4 : Int) (x1002_4 : Int), v6 = .int .i64 x6_4 ∧ Aside0 (zaK.j0 kq (wrap64 (1 + t141)) x6_4 s0_0 x1001_4 x1002_4 = some (r1, r2, r3)) ∧ Aside0 (kq ≤ k) ∧ Aside0 (zoE w0 wc g s0_0 x1001_4 x1002_4) ∧ Aside0 (zwG w wc g none) ∧ Aside0 (Below w0.heap.size w0 wc))
 case first =>
  have H := HC5.out
  clear HC5
  by_cases c8 : t144 = true
  ·subst c8
   have H1 : ((zcB.f s0_0 t145 t146 (wrap64 ((wrap64 (8 - (wrap64 (1 + t141)))) + 1))).bind fun bt147 => (zaK.j0 k (wrap64 (1 + t141)) (wrap64 ((wrap64 (1 + t141)) + bt147.1)) s0_0 bt147.2.1 bt147.2.2)) = some (r1, r2, r3) := by rw [if_pos rfl] at H; exact H
   clear H
   have H := H1
   clear H1
   replace H := Option.bind_eq_some_iff.mp H
   obtain ⟨⟨t147, t148, t149⟩, A90, H⟩ := H
   replace H : (zaK.j0 k (wrap64 (1 + t141)) (wrap64 ((wrap64 (1 + t141)) + t147)) s0_0 t148 t149) = some (r1, r2, r3) := H
   have A9 := zpS A90
   clear A90
   have H' := zpS H
   clear H
   go_wp2_with (first | ((with_reducible refine zgM (f := 23) rfl ?_); refine zqQ (some 24) rfl rfl Try.func23 (by kernel_rfl) rfl #[.pointer (some ⟨g, 0, none⟩), .int .i64 (wrap64 ((wrap64 (8 - (wrap64 (1 + t141)))) + 1))] rfl (by (try simp only [List.map_toArray, List.map_cons, List.map_nil]); first | done | rfl | (simp only [List.length_drop, List.length_take]; rfl)) ?_; (with_reducible refine (zcB.calls g s0_0 t145 t146 (wrap64 ((wrap64 (8 - (wrap64 (1 + t141)))) + 1)) t147 t148 t149 w0 _ ?side1 ?side2 A9.out).mono ?_); (case side1 => repeat (first | (with_reducible first | exact HI0.out | apply zoE.alloc | apply zoE.drewN | apply zoE.drew | apply zoE.set_1 | apply zoE.set_2) | exact HI0.out)); (case side2 => repeat (first | (with_reducible first | exact HB.out | apply znU | apply zkZ | apply zvF | refine zjF ?_ (zoE.ge HI0.out)) | exact HB.out)); rintro e w10 ⟨rfl, hi, hb, hk⟩; refine ⟨_, rfl, ?_⟩; have n0_ := zpS (zwG.trans (by repeat (first | (with_reducible first | exact HK.out | apply zwG.set_ | apply zeS | apply zwU | apply zbV) | exact HK.out)) hk (.inl rfl)); have n1_ := zpS (hb); have n2_ := zpS (hi); clear HK; clear HB; clear HI0; have HK := n0_; have HB := n1_; have HI0 := n2_; clear n0_ n1_ n2_; (try clear hb); (try clear hb2)))
   go_meet
   case rel => exact ⟨_, (wrap64 ((wrap64 (1 + t141)) + t147)), (t148), (t149), (by first | rfl | (simp; done) | (simp [*]; done)), H', ⟨by first | omega | exact Nat.le_refl _⟩, ⟨by repeat (first | (with_reducible first | exact HI0.out | apply zoE.alloc | apply zoE.drewN | apply zoE.drew | apply zoE.set_1 | apply zoE.set_2) | exact HI0.out)⟩, ⟨by repeat (first | (with_reducible first | exact HK.out | apply zwG.set_ | apply zeS | apply zwU | apply zbV) | exact HK.out)⟩, ⟨by repeat (first | (with_reducible first | exact HB.out | apply znU | apply zkZ | apply zvF | refine zjF ?_ (zoE.ge HI0.out)) | exact HB.out)⟩⟩
  ·replace c8 := Bool.eq_false_iff.mpr c8
   subst c8
   have H1 : (zaK.j0 k (wrap64 (1 + t141)) 8 s0_0 t145 t146) = some (r1, r2, r3) := by rw [if_neg (show ¬ (false = true) by decide)] at H; exact H
   clear H
   have H := H1
   clear H1
   have H' := zpS H
   clear H
   go_wp2
   go_meet
   case rel => exact ⟨_, (8), (t145), (t146), (by first | rfl | (simp; done) | (simp [*]; done)), H', ⟨by first | omega | exact Nat.le_refl _⟩, ⟨by repeat (first | (with_reducible first | exact HI0.out | apply zoE.alloc | apply zoE.drewN | apply zoE.drew | apply zoE.set_1 | apply zoE.set_2) | exact HI0.out)⟩, ⟨by repeat (first | (with_reducible first | exact HK.out | apply zwG.set_ | apply zeS | apply zwU | apply zbV) | exact HK.out)⟩, ⟨by repeat (first | (with_reducible first | exact HB.out | apply znU | apply zkZ | apply zvF | refine zjF ?_ (zoE.ge HI0.out)) | exact HB.out)⟩⟩
 case rest =>
  clear HC5
  try clear c1
  try clear c2
  try clear p2
  try clear p6
  try clear c8
  obtain ⟨kq, x6_4, x1001_4, x1002_4, rfl, HA, HJ4, HI0, HK, HB⟩ := hcut
  cases kq with
  | zero => exact absurd HA.out (by simp [zaK.j0])
  | succ kj4 =>
   have H := HA.out
   clear HA
   simp only [zaK.j0] at H
   replace H := Option.bind_eq_some_iff.mp H
   obtain ⟨⟨t150, t153, t154⟩, A110, H⟩ := H
   replace H : ((zfT.f kj4 s0_0 t153 t154 (wrap64 (1 + t141)) x6_4).bind fun bt155 => ((zmN.f s0_0 bt155.2.1 bt155.2.2 3).bind fun bt160 => (if bt160.1 = true then ((zcB.f s0_0 bt160.2.1 bt160.2.2 (wrap64 (1 + t141))).bind fun bt163 => ((zrU.f t150 bt163.1).bind fun t166 => (zaK.j1 kj4 t150 t166 s0_0 bt163.2.1 bt163.2.2))) else (zaK.j1 kj4 t150 bt155.1 s0_0 bt160.2.1 bt160.2.2)))) = some (r1, r2, r3) := H
   have A11 := zpS A110
   clear A110
   replace H := Option.bind_eq_some_iff.mp H
   obtain ⟨⟨t155, t158, t159⟩, A120, H⟩ := H
   replace H : ((zmN.f s0_0 t158 t159 3).bind fun bt160 => (if bt160.1 = true then ((zcB.f s0_0 bt160.2.1 bt160.2.2 (wrap64 (1 + t141))).bind fun bt163 => ((zrU.f t150 bt163.1).bind fun t166 => (zaK.j1 kj4 t150 t166 s0_0 bt163.2.1 bt163.2.2))) else (zaK.j1 kj4 t150 t155 s0_0 bt160.2.1 bt160.2.2))) = some (r1, r2, r3) := H
   have A12 := zpS A120
   clear A120
   replace H := Option.bind_eq_some_iff.mp H
   obtain ⟨⟨t160, t161, t162⟩, A130, H⟩ := H
   replace H : (if t160 = true then ((zcB.f s0_0 t161 t162 (wrap64 (1 + t141))).bind fun bt163 => ((zrU.f t150 bt163.1).bind fun t166 => (zaK.j1 kj4 t150 t166 s0_0 bt163.2.1 bt163.2.2))) else (zaK.j1 kj4 t150 t155 s0_0 t161 t162)) = some (r1, r2, r3) := H
   have A13 := zpS A130
   clear A130
   have HC14 := zpS H
   clear H
   go_upto_if 35 with (first | ((with_reducible refine zgM (f := 25) rfl ?_); refine zqQ (some 29) rfl rfl Try.func25 (by kernel_rfl) rfl #[.pointer (some ⟨g, 0, none⟩), .int .i64 (wrap64 (1 + t141)), .int .i64 x6_4] rfl (by (try simp only [List.map_toArray, List.map_cons, List.map_nil]); first | done | rfl | (simp only [List.length_drop, List.length_take]; rfl)) ?_; (with_reducible refine (zfT.calls kj4 g s0_0 x1001_4 x1002_4 (wrap64 (1 + t141)) x6_4 t150 t153 t154 w0 _ ?side1 ?side2 A11.out).mono ?_); (case side1 => repeat (first | (with_reducible first | exact HI0.out | apply zoE.alloc | apply zoE.drewN | apply zoE.drew | apply zoE.set_1 | apply zoE.set_2) | exact HI0.out)); (case side2 => repeat (first | (with_reducible first | exact HB.out | apply znU | apply zkZ | apply zvF | refine zjF ?_ (zoE.ge HI0.out)) | exact HB.out)); rintro e w15 ⟨v151, rfl, ho0, hi, hb, hk⟩; refine ⟨_, rfl, ?_⟩; have n0_ := zpS (Kd.R_lower ho0 (zaV (w := w) (g := g) (row := none) (by repeat (first | (with_reducible first | exact HK.out | apply zwG.set_ | apply zeS | apply zwU | apply zbV) | exact HK.out)))); have n1_ := zpS (zwG.trans (by repeat (first | (with_reducible first | exact HK.out | apply zwG.set_ | apply zeS | apply zwU | apply zbV) | exact HK.out)) hk (.inl rfl)); have n2_ := zpS (hb); have n3_ := zpS (hi); clear HK; clear HB; clear HI0; have HO152 := n0_; have HK := n1_; have HB := n2_; have HI0 := n3_; clear n0_ n1_ n2_ n3_; (try clear hb); (try clear hb2); (try clear ho0)) | ((with_reducible refine zgM (f := 25) rfl ?_); refine zqQ (some 33) rfl rfl Try.func25 (by kernel_rfl) rfl #[.pointer (some ⟨g, 0, none⟩), .int .i64 (wrap64 (1 + t141)), .int .i64 x6_4] rfl (by (try simp only [List.map_toArray, List.map_cons, List.map_nil]); first | done | rfl | (simp only [List.length_drop, List.length_take]; rfl)) ?_; (with_reducible refine (zfT.calls kj4 g s0_0 t153 t154 (wrap64 (1 + t141)) x6_4 t155 t158 t159 w0 _ ?side1 ?side2 A12.out).mono ?_); (case side1 => repeat (first | (with_reducible first | exact HI0.out | apply zoE.alloc | apply zoE.drewN | apply zoE.drew | apply zoE.set_1 | apply zoE.set_2) | exact HI0.out)); (case side2 => repeat (first | (with_reducible first | exact HB.out | apply znU | apply zkZ | apply zvF | refine zjF ?_ (zoE.ge HI0.out)) | exact HB.out)); rintro e w16 ⟨v156, rfl, ho0, hi, hb, hk⟩; refine ⟨_, rfl, ?_⟩; have n0_ := zpS (Kd.R_mono (Kd.R_told (Kd.R_oldK (zoE.apart (show zoE w0 _ g s0_0 t153 t154 from by repeat (first | (with_reducible first | exact HI0.out | apply zoE.alloc | apply zoE.drewN | apply zoE.drew | apply zoE.set_1 | apply zoE.set_2) | exact HI0.out)) (by (with_reducible repeat (first | apply Kd.R_alloc | apply Kd.R_drewN | apply Kd.R_drew)); exact HO152.out) (by decide)) hk) (Kd.R_base ho0)) (fun _ h_ => h_.1)); have n1_ := zpS (Kd.R_lower (Kd.R_new' ho0 (Kd.R_lt (by (with_reducible repeat (first | apply Kd.R_alloc | apply Kd.R_drewN | apply Kd.R_drew)); exact HO152.out))) (zaV (w := w) (g := g) (row := none) (by repeat (first | (with_reducible first | exact HK.out | apply zwG.set_ | apply zeS | apply zwU | apply zbV) | exact HK.out)))); have n2_ := zpS (zwG.trans (by repeat (first | (with_reducible first | exact HK.out | apply zwG.set_ | apply zeS | apply zwU | apply zbV) | exact HK.out)) hk (.inl rfl)); have n3_ := zpS (hb); have n4_ := zpS (hi); clear HO152; clear HK; clear HB; clear HI0; have HO152 := n0_; have HO157 := n1_; have HK := n2_; have HB := n3_; have HI0 := n4_; clear n0_ n1_ n2_ n3_ n4_; (try clear hb); (try clear hb2); (try clear ho0)) | ((with_reducible refine zgM (f := 24) rfl ?_); refine zqQ (some 35) rfl rfl Try.func24 (by kernel_rfl) rfl #[.pointer (some ⟨g, 0, none⟩), .int .i64 3] rfl (by (try simp only [List.map_toArray, List.map_cons, List.map_nil]); first | done | rfl | (simp only [List.length_drop, List.length_take]; rfl)) ?_; (with_reducible refine (zmN.calls g s0_0 t158 t159 3 t160 t161 t162 w0 _ ?side1 ?side2 A13.out).mono ?_); (case side1 => repeat (first | (with_reducible first | exact HI0.out | apply zoE.alloc | apply zoE.drewN | apply zoE.drew | apply zoE.set_1 | apply zoE.set_2) | exact HI0.out)); (case side2 => repeat (first | (with_reducible first | exact HB.out | apply znU | apply zkZ | apply zvF | refine zjF ?_ (zoE.ge HI0.out)) | exact HB.out)); rintro e w17 ⟨rfl, hi, hb, hk⟩; refine ⟨_, rfl, ?_⟩; have n0_ := zpS (Kd.R_mono (Kd.R_keep (zoE.apart (show zoE w0 _ g s0_0 t158 t159 from by repeat (first | (with_reducible first | exact HI0.out | apply zoE.alloc | apply zoE.drewN | apply zoE.drew | apply zoE.set_1 | apply zoE.set_2) | exact HI0.out)) (by (with_reducible repeat (first | apply Kd.R_alloc | apply Kd.R_drewN | apply Kd.R_drew)); exact HO152.out) (by decide)) hk (fun _ h => h.2)) (fun _ h => h.1)); have n1_ := zpS (Kd.R_mono (Kd.R_keep (zoE.apart (show zoE w0 _ g s0_0 t158 t159 from by repeat (first | (with_reducible first | exact HI0.out | apply zoE.alloc | apply zoE.drewN | apply zoE.drew | apply zoE.set_1 | apply zoE.set_2) | exact HI0.out)) (by (with_reducible repeat (first | apply Kd.R_alloc | apply Kd.R_drewN | apply Kd.R_drew)); exact HO157.out) (by decide)) hk (fun _ h => h.2)) (fun _ h => h.1)); have n2_ := zpS (zwG.trans (by repeat (first | (with_reducible first | exact HK.out | apply zwG.set_ | apply zeS | apply zwU | apply zbV) | exact HK.out)) hk (.inl rfl)); have n3_ := zpS (hb); have n4_ := zpS (hi); clear HO152; clear HO157; clear HK; clear HB; clear HI0; have HO152 := n0_; have HO157 := n1_; have HK := n2_; have HB := n3_; have HI0 := n4_; clear n0_ n1_ n2_ n3_ n4_; (try clear hb); (try clear hb2)))
   (try simp only [Act.put, set_a_, set_b_, set_c_])
   go_cut [8] (fun v8 wc => ∃ (kq : Nat) (x8_13 : List Int) (x1001_13 : Int) (x1002_13 : Int), Aside0 (zaK.j1 kq t150 x8_13 s0_0 x1001_13 x1002_13 = some (r1, r2, r3)) ∧ Aside0 (kq ≤ kj4) ∧ Aside0 (Kd.R (Kd.int .i64) 2 wc w.heap.size (fun k_ => some k_ ≠ (v8 : Value).ownBlock) v151 t150) ∧ Aside0 (Kd.R (Kd.int .i64) 2 wc w.heap.size (fun k_ => some k_ ≠ (v151 : Value).ownBlock) v8 x8_13) ∧ Aside0 (zoE w0 wc g s0_0 x1001_13 x1002_13) ∧ Aside0 (zwG w wc g none) ∧ Aside0 (Below w0.heap.size w0 wc))
   case first =>
    have H := HC14.out
    clear HC14
    by_cases c18 : t160 = true
    ·subst c18
     have H1 : ((zcB.f s0_0 t161 t162 (wrap64 (1 + t141))).bind fun bt163 => ((zrU.f t150 bt163.1).bind fun t166 => (zaK.j1 kj4 t150 t166 s0_0 bt163.2.1 bt163.2.2))) = some (r1, r2, r3) := by rw [if_pos rfl] at H; exact H
     clear H
     have H := H1
     clear H1
     replace H := Option.bind_eq_some_iff.mp H
     obtain ⟨⟨t163, t164, t165⟩, A190, H⟩ := H
     replace H : ((zrU.f t150 t163).bind fun t166 => (zaK.j1 kj4 t150 t166 s0_0 t164 t165)) = some (r1, r2, r3) := H
     have A19 := zpS A190
     clear A190
     replace H := Option.bind_eq_some_iff.mp H
     obtain ⟨t166, A200, H⟩ := H
     replace H : (zaK.j1 kj4 t150 t166 s0_0 t164 t165) = some (r1, r2, r3) := H
     have A20 := zpS A200
     clear A200
     have H' := zpS H
     clear H
     go_wp2_with (first | ((with_reducible refine zgM (f := 23) rfl ?_); refine zqQ (some 38) rfl rfl Try.func23 (by kernel_rfl) rfl #[.pointer (some ⟨g, 0, none⟩), .int .i64 (wrap64 (1 + t141))] rfl (by (try simp only [List.map_toArray, List.map_cons, List.map_nil]); first | done | rfl | (simp only [List.length_drop, List.length_take]; rfl)) ?_; (with_reducible refine (zcB.calls g s0_0 t161 t162 (wrap64 (1 + t141)) t163 t164 t165 w0 _ ?side1 ?side2 A19.out).mono ?_); (case side1 => repeat (first | (with_reducible first | exact HI0.out | apply zoE.alloc | apply zoE.drewN | apply zoE.drew | apply zoE.set_1 | apply zoE.set_2) | exact HI0.out)); (case side2 => repeat (first | (with_reducible first | exact HB.out | apply znU | apply zkZ | apply zvF | refine zjF ?_ (zoE.ge HI0.out)) | exact HB.out)); rintro e w21 ⟨rfl, hi, hb, hk⟩; refine ⟨_, rfl, ?_⟩; have n0_ := zpS (Kd.R_mono (Kd.R_keep (zoE.apart (show zoE w0 _ g s0_0 t161 t162 from by repeat (first | (with_reducible first | exact HI0.out | apply zoE.alloc | apply zoE.drewN | apply zoE.drew | apply zoE.set_1 | apply zoE.set_2) | exact HI0.out)) (by (with_reducible repeat (first | apply Kd.R_alloc | apply Kd.R_drewN | apply Kd.R_drew)); exact HO152.out) (by decide)) hk (fun _ h => h.2)) (fun _ h => h.1)); have n1_ := zpS (Kd.R_mono (Kd.R_keep (zoE.apart (show zoE w0 _ g s0_0 t161 t162 from by repeat (first | (with_reducible first | exact HI0.out | apply zoE.alloc | apply zoE.drewN | apply zoE.drew | apply zoE.set_1 | apply zoE.set_2) | exact HI0.out)) (by (with_reducible repeat (first | apply Kd.R_alloc | apply Kd.R_drewN | apply Kd.R_drew)); exact HO157.out) (by decide)) hk (fun _ h => h.2)) (fun _ h => h.1)); have n2_ := zpS (zwG.trans (by repeat (first | (with_reducible first | exact HK.out | apply zwG.set_ | apply zeS | apply zwU | apply zbV) | exact HK.out)) hk (.inl rfl)); have n3_ := zpS (hb); have n4_ := zpS (hi); clear HO152; clear HO157; clear HK; clear HB; clear HI0; have HO152 := n0_; have HO157 := n1_; have HK := n2_; have HB := n3_; have HI0 := n4_; clear n0_ n1_ n2_ n3_ n4_; (try clear hb); (try clear hb2); obtain ⟨Ao22, co22, eo22⟩ := Kd.R_slice HO152.out; subst eo22) | ((with_reducible refine zgM (f := 26) rfl ?_); refine zqQ (some 41) rfl rfl Try.func26 (by kernel_rfl) rfl #[.slice Ao22 t150.length co22, .int .i64 t163] rfl (by (try simp only [List.map_toArray, List.map_cons, List.map_nil]); first | done | rfl | (simp only [List.length_drop, List.length_take]; rfl)) ?_; (with_reducible refine (zrU.calls _ _ t150 t163 t166 _ ?side1 ?side2 A20.out).mono ?_); (case side1 => repeat (first | exact (Kd.R_reads' HO152.out).2.2 | (with_reducible refine Kd.C_alloc ?_ _) | (with_reducible refine Kd.C_drewN ?_ _) | (with_reducible refine Kd.C_drew ?_))); (case side2 => exact (Kd.R_reads' HO152.out).2.1); rintro e w23 ⟨v167, rfl, ho0, hb⟩; refine ⟨_, rfl, ?_⟩; have n0_ := zpS (Kd.R_elder' (by (with_reducible repeat (first | apply Kd.R_alloc | apply Kd.R_drewN | apply Kd.R_drew)); exact HO152.out) (Kd.R_base ho0) hb); have n1_ := zpS (Kd.R_elder' (by (with_reducible repeat (first | apply Kd.R_alloc | apply Kd.R_drewN | apply Kd.R_drew)); exact HO157.out) (Kd.R_base ho0) hb); have n2_ := zpS (Kd.R_lower (Kd.R_new' (Kd.R_new' ho0 (Kd.R_lt (by (with_reducible repeat (first | apply Kd.R_alloc | apply Kd.R_drewN | apply Kd.R_drew)); exact HO152.out))) (Kd.R_lt (by (with_reducible repeat (first | apply Kd.R_alloc | apply Kd.R_drewN | apply Kd.R_drew)); exact HO157.out))) (zaV (w := w) (g := g) (row := none) (by repeat (first | (with_reducible first | exact HK.out | apply zwG.set_ | apply zeS | apply zwU | apply zbV) | exact HK.out)))); have n3_ := zpS (zoE.below (by repeat (first | (with_reducible first | exact HI0.out | apply zoE.alloc | apply zoE.drewN | apply zoE.drew | apply zoE.set_1 | apply zoE.set_2) | exact HI0.out)) hb); have n4_ := zpS (zwG.trans (by repeat (first | (with_reducible first | exact HK.out | apply zwG.set_ | apply zeS | apply zwU | apply zbV) | exact HK.out)) (zwG.of_below hb g none) (.inl rfl)); have n5_ := zpS (zkR (by repeat (first | (with_reducible first | exact HB.out | apply znU | apply zkZ | apply zvF | refine zjF ?_ (zoE.ge HI0.out)) | exact HB.out)) hb); clear HO152; clear HO157; clear HI0; clear HK; clear HB; have HO152 := n0_; have HO157 := n1_; have HO168 := n2_; have HI0 := n3_; have HK := n4_; have HB := n5_; clear n0_ n1_ n2_ n3_ n4_ n5_; (try clear hb); (try clear hb2); (try clear ho0)))
     go_meet
     case rel => exact ⟨_, (t166), (t164), (t165), H', ⟨by have := HJ4.out; first | omega | exact Nat.le_refl _⟩, ⟨by (with_reducible repeat (first | apply Kd.R_alloc | apply Kd.R_drewN | apply Kd.R_drew)); exact Kd.R_mono HO152.out (fun _ hk => hk.2)⟩, ⟨by (with_reducible repeat (first | apply Kd.R_alloc | apply Kd.R_drewN | apply Kd.R_drew)); exact Kd.R_mono HO168.out (fun _ hk => hk.1.2)⟩, ⟨by repeat (first | (with_reducible first | exact HI0.out | apply zoE.alloc | apply zoE.drewN | apply zoE.drew | apply zoE.set_1 | apply zoE.set_2) | exact HI0.out)⟩, ⟨by repeat (first | (with_reducible first | exact HK.out | apply zwG.set_ | apply zeS | apply zwU | apply zbV) | exact HK.out)⟩, ⟨by repeat (first | (with_reducible first | exact HB.out | apply znU | apply zkZ | apply zvF | refine zjF ?_ (zoE.ge HI0.out)) | exact HB.out)⟩⟩
    ·replace c18 := Bool.eq_false_iff.mpr c18
     subst c18
     have H1 : (zaK.j1 kj4 t150 t155 s0_0 t161 t162) = some (r1, r2, r3) := by rw [if_neg (show ¬ (false = true) by decide)] at H; exact H
     clear H
     have H := H1
     clear H1
     have H' := zpS H
     clear H
     go_wp2
     go_meet
     case rel => exact ⟨_, (t155), (t161), (t162), H', ⟨by have := HJ4.out; first | omega | exact Nat.le_refl _⟩, ⟨by (with_reducible repeat (first | apply Kd.R_alloc | apply Kd.R_drewN | apply Kd.R_drew)); exact Kd.R_mono HO152.out (fun _ hk => hk.2)⟩, ⟨by (with_reducible repeat (first | apply Kd.R_alloc | apply Kd.R_drewN | apply Kd.R_drew)); exact Kd.R_mono HO157.out (fun _ hk => hk.2)⟩, ⟨by repeat (first | (with_reducible first | exact HI0.out | apply zoE.alloc | apply zoE.drewN | apply zoE.drew | apply zoE.set_1 | apply zoE.set_2) | exact HI0.out)⟩, ⟨by repeat (first | (with_reducible first | exact HK.out | apply zwG.set_ | apply zeS | apply zwU | apply zbV) | exact HK.out)⟩, ⟨by repeat (first | (with_reducible first | exact HB.out | apply znU | apply zkZ | apply zvF | refine zjF ?_ (zoE.ge HI0.out)) | exact HB.out)⟩⟩
   case rest =>
    clear HC14
    try clear c1
    try clear c2
    try clear p2
    try clear p6
    try clear c8
    try clear c11
    try clear c18
    try clear c23
    try clear p2
    try clear p6
    obtain ⟨kq, x8_13, x1001_13, x1002_13, HA, HJ13, HO_7, HO_8, HI0, HK, HB⟩ := hcut
    cases kq with
    | zero => exact absurd HA.out (by simp [zaK.j1])
    | succ kj13 =>
     have H := HA.out
     clear HA
     simp only [zaK.j1] at H
     obtain ⟨y169, hy169⟩ : ∃ y_ : List Int, y_ = (([] : List Int)) := ⟨_, rfl⟩
     replace H : (zaK.l0 kj13 t150 x8_13 y169 0 s0_0 x1001_13 x1002_13) = some (r1, r2, r3) := by first | (rw [hy169]; with_reducible exact H) | (have H2_ := (Option.bind_some _ _).symm.trans H; rw [hy169]; with_reducible exact H2_) | (have H2_ := (Option.bind_some _ _).symm.trans H; with_reducible exact H2_) | with_reducible exact H | (rw [hy169]; exact H) | exact H
     have Ny169 := zpS hy169
     clear hy169
     have H' := zpS H
     clear H
     go_wp2_with (first | ((with_reducible refine gate_dst (N := 42) rfl ?_); refine Kd.R_lit (Kd.int .i64) _ 2 ?hg (N := 42) ?hd (xs := ([] : List Int)) (zlR := []) (ok := fun _ => True) (okp := fun _ => True) ?hr ?hp (fun _ hk => hk) trivial (Below.refl _ _) (Nat.le_refl _) (by simp) ?_; (case hd => rfl); (case hg => rfl); (case hr => first | (go_simp; done) | (go_simp; rfl)); (case hp => exact (zfH.none _ _)); intro v170 w24 ho25 hb hg_ hnew_; clear hg_ hnew_; (first | rw [← Ny169.out] at ho25 | (simp only [Int.reduceToNat] at ho25; rw [← Ny169.out] at ho25)); have n0_ := zpS (Kd.R_elder' (by (with_reducible repeat (first | apply Kd.R_alloc | apply Kd.R_drewN | apply Kd.R_drew)); exact HO_7.out) (Kd.R_base ho25) hb); have n1_ := zpS (Kd.R_elder' (by (with_reducible repeat (first | apply Kd.R_alloc | apply Kd.R_drewN | apply Kd.R_drew)); exact HO_8.out) (Kd.R_base ho25) hb); have n2_ := zpS (Kd.R_lower (Kd.R_new' (Kd.R_new' ho25 (Kd.R_lt (by (with_reducible repeat (first | apply Kd.R_alloc | apply Kd.R_drewN | apply Kd.R_drew)); exact HO_7.out))) (Kd.R_lt (by (with_reducible repeat (first | apply Kd.R_alloc | apply Kd.R_drewN | apply Kd.R_drew)); exact HO_8.out))) (zaV (w := w) (g := g) (row := none) (by repeat (first | (with_reducible first | exact HK.out | apply zwG.set_ | apply zeS | apply zwU | apply zbV) | exact HK.out)))); have n3_ := zpS (zoE.below (by repeat (first | (with_reducible first | exact HI0.out | apply zoE.alloc | apply zoE.drewN | apply zoE.drew | apply zoE.set_1 | apply zoE.set_2) | exact HI0.out)) hb); have n4_ := zpS (zwG.trans (by repeat (first | (with_reducible first | exact HK.out | apply zwG.set_ | apply zeS | apply zwU | apply zbV) | exact HK.out)) (zwG.of_below hb g none) (.inl rfl)); have n5_ := zpS (zkR (by repeat (first | (with_reducible first | exact HB.out | apply znU | apply zkZ | apply zvF | refine zjF ?_ (zoE.ge HI0.out)) | exact HB.out)) hb); clear HO_7; clear HO_8; clear HI0; clear HK; clear HB; have HO_7 := n0_; have HO_8 := n1_; have HO171 := n2_; have HI0 := n3_; have HK := n4_; have HB := n5_; clear n0_ n1_ n2_ n3_ n4_ n5_; clear hb ho25))
     (try go_simp)
     go_loopg [10, 11] kj13 (fun kq v10 v11 w' => ∃ (x10_3 : List Int) (x11_3 : Int), v11 = .int .i64 x11_3 ∧ Aside0 (zaK.l0 kq t150 x8_13 x10_3 x11_3 s0_0 x1001_13 x1002_13 = some (r1, r2, r3)) ∧ Aside0 (kq ≤ kj13) ∧ Aside0 (Kd.R (Kd.int .i64) 2 w' w.heap.size (fun k_ => some k_ ≠ (u8 : Value).ownBlock ∧ some k_ ≠ (v10 : Value).ownBlock) v151 t150) ∧ Aside0 (Kd.R (Kd.int .i64) 2 w' w.heap.size (fun k_ => some k_ ≠ (v151 : Value).ownBlock ∧ some k_ ≠ (v10 : Value).ownBlock) u8 x8_13) ∧ Aside0 (Kd.R (Kd.int .i64) 2 w' w.heap.size (fun k_ => some k_ ≠ (v151 : Value).ownBlock ∧ some k_ ≠ (u8 : Value).ownBlock) v10 x10_3) ∧ Aside0 (zoE w0 w' g s0_0 x1001_13 x1002_13) ∧ Aside0 (zwG w w' g none) ∧ Aside0 (Below w0.heap.size w0 w'))
     case atStart => exact ⟨(y169), (0), (by first | rfl | (simp; done) | (simp [*]; done)), H', ⟨Nat.le_refl _⟩, ⟨by (with_reducible repeat (first | apply Kd.R_alloc | apply Kd.R_drewN | apply Kd.R_drew)); exact HO_7.out⟩, ⟨by (with_reducible repeat (first | apply Kd.R_alloc | apply Kd.R_drewN | apply Kd.R_drew)); exact HO_8.out⟩, ⟨by (with_reducible repeat (first | apply Kd.R_alloc | apply Kd.R_drewN | apply Kd.R_drew)); exact Kd.R_mono HO171.out (fun _ hk => ⟨hk.1.2, hk.2⟩)⟩, ⟨by repeat (first | (with_reducible first | exact HI0.out | apply zoE.alloc | apply zoE.drewN | apply zoE.drew | apply zoE.set_1 | apply zoE.set_2) | exact HI0.out)⟩, ⟨by repeat (first | (with_reducible first | exact HK.out | apply zwG.set_ | apply zeS | apply zwU | apply zbV) | exact HK.out)⟩, ⟨by repeat (first | (with_reducible first | exact HB.out | apply znU | apply zkZ | apply zvF | refine zjF ?_ (zoE.ge HI0.out)) | exact HB.out)⟩⟩
     case round =>
      clear H'
      try clear c1
      try clear c2
      try clear p2
      try clear p6
      try clear c8
      try clear c11
      try clear c18
      try clear c23
      try clear c24
      try clear c25
      try clear p2
      try clear p6
      obtain ⟨x10_3, x11_3, rfl, HA, HK3, HO_7, HO_8, HO_10, HI0, HK, HB⟩ := hrel
      cases gk with
      | zero => exact absurd HA.out (by simp [zaK.l0])
      | succ k3 =>
       have H := HA.out
       clear HA
       simp only [zaK.l0] at H
       by_cases c26 : x11_3 < (t150.length : Int)
       ·rw [if_pos c26] at H
        have c26b0 : decide (x11_3 < (t150.length : Int)) = true := decide_eq_true c26
        clear c26
        by_cases c27 : 0 ≤ x11_3
        ·rw [if_pos c27] at H
         have c27b0 : decide (0 ≤ x11_3) = true := decide_eq_true c27
         clear c27
         by_cases c28 : x11_3 < (x8_13.length : Int)
         ·rw [if_pos c28] at H
          have c28b0 : decide (x11_3 < (x8_13.length : Int)) = true := decide_eq_true c28
          clear c28
          obtain ⟨y174, hy174⟩ : ∃ y_ : List Int, y_ = (([rd t150 x11_3, rd x8_13 x11_3] : List Int)) := ⟨_, rfl⟩
          replace H : (if x10_3.length + y174.length < 17592186044416 then (zaK.l0 k3 t150 x8_13 (x10_3 ++ y174) (wrap64 (x11_3 + 1)) s0_0 x1001_13 x1002_13) else (none)) = some (r1, r2, r3) := by first | (rw [hy174]; with_reducible exact H) | (have H2_ := (Option.bind_some _ _).symm.trans H; rw [hy174]; with_reducible exact H2_) | (have H2_ := (Option.bind_some _ _).symm.trans H; with_reducible exact H2_) | with_reducible exact H | (rw [hy174]; exact H) | exact H
          have Ny174 := zpS hy174
          clear hy174
          by_cases c29 : x10_3.length + y174.length < 17592186044416
          ·rw [if_pos c29] at H
           have LMc29 := zpS c29
           clear c29
           obtain ⟨y177, hy177⟩ : ∃ y_ : List Int, y_ = (x10_3 ++ y174) := ⟨_, rfl⟩
           replace H : (zaK.l0 k3 t150 x8_13 y177 (wrap64 (x11_3 + 1)) s0_0 x1001_13 x1002_13) = some (r1, r2, r3) := by first | (rw [hy177]; with_reducible exact H) | (have H2_ := (Option.bind_some _ _).symm.trans H; rw [hy177]; with_reducible exact H2_) | (have H2_ := (Option.bind_some _ _).symm.trans H; with_reducible exact H2_) | with_reducible exact H | (rw [hy177]; exact H) | exact H
           have Ny177 := zpS hy177
           clear hy177
           have H' := zpS H
           clear H
           obtain ⟨Ao30, co30, eo30⟩ := Kd.R_slice HO_7.out
           subst eo30
           try go_wp2
           have n0_ := zpS (Kd.R_drew HO_7.out)
           have n1_ := zpS (Kd.R_drew HO_8.out)
           have n2_ := zpS (Kd.R_drew HO_10.out)
           have n3_ := zpS (zoE.drew HI0.out)
           have n4_ := zpS (zwU HK.out)
           have n5_ := zpS (zvF HB.out)
           clear HO_7
           clear HO_8
           clear HO_10
           clear HI0
           clear HK
           clear HB
           have HO_7 := n0_
           have HO_8 := n1_
           have HO_10 := n2_
           have HI0 := n3_
           have HK := n4_
           have HB := n5_
           clear n0_ n1_ n2_ n3_ n4_ n5_
           have p172 : 0 ≤ (x11_3 : Int) := of_decide_eq_true (by first | (with_reducible assumption) | assumption)
           have q172 : x11_3 < (t150.length : Int) := of_decide_eq_true (by first | (with_reducible assumption) | assumption)
           obtain ⟨ad172, e172, hx172_0⟩ := Kd.at_int (Kd.R_reads' HO_7.out).2.2 x11_3 p172 q172
           cases e172
           replace p172 := eq_true p172
           replace q172 := eq_true q172
           obtain ⟨Ao32, co32, eo32⟩ := Kd.R_slice HO_8.out
           (first | subst eo32 | (injection eo32 with f1_ f2_ f3_; have f4_ := f1_.symm; have f5_ := f3_.symm; clear f1_ f2_ f3_; subst f4_; subst f5_))
           have p173 : 0 ≤ (x11_3 : Int) := of_decide_eq_true (by first | (with_reducible assumption) | assumption)
           have q173 : x11_3 < (x8_13.length : Int) := of_decide_eq_true (by first | (with_reducible assumption) | assumption)
           obtain ⟨ad173, e173, hx173_0⟩ := Kd.at_int (Kd.R_reads' HO_8.out).2.2 x11_3 p173 q173
           cases e173
           replace p173 := eq_true p173
           replace q173 := eq_true q173
           refine start_ (n := 12) (S := fun w' => w'.cell? (ad172.add (x11_3).toNat) = some (.int .i64 (rd t150 x11_3)) ∧ w'.cell? (ad173.add (x11_3).toNat) = some (.int .i64 (rd x8_13 x11_3))) (ds := []) #[false, false, false, false, false, false, false, false, false, false, false, false] (by kernel_rfl) rfl rfl ⟨hx172_0, hx173_0⟩ (fun hHeld => ?_); refine zwI zaK.tab14 zaK.bits14 (fun HT_ HW_ => ?_)
           generalize wr.drew = w31 at HO_7 HO_8 HO_10 HI0 HK HB hx172_0 hx173_0 hHeld ⊢
           refine pu_ 0 (some 49) (bl_ 12 1) ?_
           refine pu_ 1 (some 50) (bl_ 12 3) ?_
           refine pu_ 2 (some 51) (bl_ 12 7) ?_
           refine pu_ 3 (some 52) (bl_ 12 15) ?_
           refine pu_ 5 (some 54) (bl_ 12 47) ?_
           refine pu_ 6 (some 55) (bl_ 12 111) ?_
           refine pu_ 7 (some 56) (bl_ 12 239) ?_
           refine tk2_ 4 (some 53) (bl_ 12 255) hHeld ?_
           refine tk2_ 8 (some 57) (bl_ 12 511) hHeld ?_
           refine one_ (i := 9) (N := some 58) (bl_ 12 1023) rfl rfl (zeO HT_.out (by kernel_rfl)) (by decide) (fun K hK => ?_)
           refine Kd.R_lit_step (Kd.int .i64) _ 2 ?hg (N := 58) ?hd (xs := ([rd t150 x11_3, rd x8_13 x11_3] : List Int)) (zlR := [.int .i64 (rd t150 x11_3), .int .i64 (rd x8_13 x11_3)]) (ok := fun _ => True) (okp := fun _ => True) ?hr ?hp (fun _ hk => hk) trivial (Below.refl _ _) (Nat.le_refl _) (by simp) ?_; (case hd => rfl); (case hg => rfl); (case hr => first | (go_simp; done) | (go_simp; rfl)); (case hp => exact (zfH.one (show Kd.M (Kd.int .i64) _ _ _ (rd t150 x11_3) [.int .i64 (rd t150 x11_3)] from rfl) (zfH.one (show Kd.M (Kd.int .i64) _ _ _ (rd x8_13 x11_3) [.int .i64 (rd x8_13 x11_3)] from rfl) (zfH.none _ _))))
           intro v175 w33 ho34 hb hg_ hnew_
           have HS0_ := (hb.cell (World.block_lt_of_cell? _ _ (hHeld.1))).trans (hHeld.1)
           have HS1_ := (hb.cell (World.block_lt_of_cell? _ _ (hHeld.2))).trans (hHeld.2)
           clear hg_ hnew_
           (first | rw [← Ny174.out] at ho34 | (simp only [Int.reduceToNat] at ho34; rw [← Ny174.out] at ho34))
           have n0_ := zpS (Kd.R_elder' (by (with_reducible repeat (first | apply Kd.R_alloc | apply Kd.R_drewN | apply Kd.R_drew)); exact HO_7.out) (Kd.R_base ho34) hb)
           have n1_ := zpS (Kd.R_elder' (by (with_reducible repeat (first | apply Kd.R_alloc | apply Kd.R_drewN | apply Kd.R_drew)); exact HO_8.out) (Kd.R_base ho34) hb)
           have n2_ := zpS (Kd.R_elder' (by (with_reducible repeat (first | apply Kd.R_alloc | apply Kd.R_drewN | apply Kd.R_drew)); exact HO_10.out) (Kd.R_base ho34) hb)
           have n3_ := zpS (Kd.R_lower (Kd.R_new' (Kd.R_new' (Kd.R_new' ho34 (Kd.R_lt (by (with_reducible repeat (first | apply Kd.R_alloc | apply Kd.R_drewN | apply Kd.R_drew)); exact HO_7.out))) (Kd.R_lt (by (with_reducible repeat (first | apply Kd.R_alloc | apply Kd.R_drewN | apply Kd.R_drew)); exact HO_8.out))) (Kd.R_lt (by (with_reducible repeat (first | apply Kd.R_alloc | apply Kd.R_drewN | apply Kd.R_drew)); exact HO_10.out))) (zaV (w := w) (g := g) (row := none) (by repeat (first | (with_reducible first | exact HK.out | apply zwG.set_ | apply zeS | apply zwU | apply zbV) | exact HK.out))))
           have n4_ := zpS (zoE.below (by repeat (first | (with_reducible first | exact HI0.out | apply zoE.alloc | apply zoE.drewN | apply zoE.drew | apply zoE.set_1 | apply zoE.set_2) | exact HI0.out)) hb)
           have n5_ := zpS (zwG.trans (by repeat (first | (with_reducible first | exact HK.out | apply zwG.set_ | apply zeS | apply zwU | apply zbV) | exact HK.out)) (zwG.of_below hb g none) (.inl rfl))
           have n6_ := zpS (zkR (by repeat (first | (with_reducible first | exact HB.out | apply znU | apply zkZ | apply zvF | refine zjF ?_ (zoE.ge HI0.out)) | exact HB.out)) hb)
           clear HO_7
           clear HO_8
           clear HO_10
           clear HI0
           clear HK
           clear HB
           have HO_7 := n0_
           have HO_8 := n1_
           have HO_10 := n2_
           have HO176 := n3_
           have HI0 := n4_
           have HK := n5_
           have HB := n6_
           clear n0_ n1_ n2_ n3_ n4_ n5_ n6_
           clear hb ho34
           obtain ⟨Ao36, co36, eo36⟩ := Kd.R_slice HO176.out
           (first | subst eo36 | (injection eo36 with f1_ f2_ f3_; have f4_ := f1_.symm; have f5_ := f3_.symm; clear f1_ f2_ f3_; subst f4_; subst f5_))
           refine hK.out _ _ ⟨HS0_, HS1_⟩ (fun hHeld => ?_)
           clear hK K
           refine zaN (a' := ?_) ?_ ?_
           rotate_left
           ·show Act.put _ (some 58) _ = _
            simp only [Act.put, List.setIfInBounds_toArray, List.set_cons_zero, List.set_cons_succ, zcM, ziJ]
            rfl
           refine one_ (i := 10) (N := some 59) (bl_ 12 2047) rfl rfl (zeO HT_.out (by kernel_rfl)) (by decide) (fun K hK => ?_)
           refine Kd.R_append_rows_step (Kd.int .i64) w.heap.size (by rfl) (.tmp 49) (.tmp 58) 24 2 (.int .i64 0) 8 rfl Try.underlying24 info2 rfl (by decide) (by omega) u10 x10_3 y174 _ _ _ (fun k_ => some k_ ≠ (.slice (some ad172) t150.length co30 : Value).ownBlock ∧ some k_ ≠ (.slice (some ad173) x8_13.length co32 : Value).ownBlock ∧ some k_ ≠ (.slice Ao36 y174.length co36 : Value).ownBlock) (fun _ => False) rfl rfl ?aO ?aR (fun _ _ h => h) (fun _ h => h.elim) ?aF (Below.refl _ _) ?aS ?aL ?_
           (case aR => repeat (first | exact (Kd.R_reads' HO176.out).2.2 | (with_reducible refine Kd.C_alloc ?_ _) | (with_reducible refine Kd.C_drewN ?_ _) | (with_reducible refine Kd.C_drew ?_)))
           (case aF => exact (fun k_ hk => ⟨Kd.fresh' (Kd.R_lt (by (with_reducible repeat (first | apply Kd.R_alloc | apply Kd.R_drewN | apply Kd.R_drew)); exact HO_7.out)) k_ hk, Kd.fresh' (Kd.R_lt (by (with_reducible repeat (first | apply Kd.R_alloc | apply Kd.R_drewN | apply Kd.R_drew)); exact HO_8.out)) k_ hk, Kd.fresh' (Kd.R_lt (by (with_reducible repeat (first | apply Kd.R_alloc | apply Kd.R_drewN | apply Kd.R_drew)); exact HO176.out)) k_ hk⟩))
           (case aO => exact (by (with_reducible repeat (first | apply Kd.R_alloc | apply Kd.R_drewN | apply Kd.R_drew)); exact Kd.R_mono HO_10.out (fun _ hk => ⟨hk.1.1, ⟨hk.1.2, hk.2⟩⟩)))
           (case aS => exact (zaV (w := w) (g := g) (row := none) (by repeat (first | (with_reducible first | exact HK.out | apply zwG.set_ | apply zeS | apply zwU | apply zbV) | exact HK.out))))
           (case aL => have := LMc29.out; omega)
           intro v178 w35 ho hb hg hat
           have HS0_ := zmX hg (hHeld.1) (by (first | rw [zhT] | (show some (Addr.add _ _).block ≠ _; rw [zhT]) | skip); have h_ := HO_7.out.1 _ rfl; revert h_; (try simp only [and_imp]); intros; assumption)
           have HS1_ := zmX hg (hHeld.2) (by (first | rw [zhT] | (show some (Addr.add _ _).block ≠ _; rw [zhT]) | skip); have h_ := HO_8.out.1 _ rfl; revert h_; (try simp only [and_imp]); intros; assumption)
           rw [← Ny177.out] at ho
           have n0_ := zpS (Kd.R_after (ok := (fun k_ => some k_ ≠ (.slice (some ad173) x8_13.length co32 : Value).ownBlock ∧ some k_ ≠ (.slice Ao36 y174.length co36 : Value).ownBlock)) (by (with_reducible repeat (first | apply Kd.R_alloc | apply Kd.R_drewN | apply Kd.R_drew)); exact Kd.R_mono HO_7.out (fun _ hk => ⟨⟨hk.1.1, hk.2⟩, hk.1.2⟩)) hg hat)
           have n1_ := zpS (Kd.R_after (ok := (fun k_ => some k_ ≠ (.slice (some ad172) t150.length co30 : Value).ownBlock ∧ some k_ ≠ (.slice Ao36 y174.length co36 : Value).ownBlock)) (by (with_reducible repeat (first | apply Kd.R_alloc | apply Kd.R_drewN | apply Kd.R_drew)); exact Kd.R_mono HO_8.out (fun _ hk => ⟨⟨hk.1.1, hk.2⟩, hk.1.2⟩)) hg hat)
           have n2_ := zpS (zoE.grown (by repeat (first | (with_reducible first | exact HI0.out | apply zoE.alloc | apply zoE.drewN | apply zoE.drew | apply zoE.set_1 | apply zoE.set_2) | exact HI0.out)) hg (zoE.own_ne HI0.out HO_10.out (by decide)))
           have n3_ := zpS (Kd.R_after (ok := (fun k_ => some k_ ≠ (.slice (some ad172) t150.length co30 : Value).ownBlock ∧ some k_ ≠ (.slice (some ad173) x8_13.length co32 : Value).ownBlock)) (by (with_reducible repeat (first | apply Kd.R_alloc | apply Kd.R_drewN | apply Kd.R_drew)); exact Kd.R_mono HO176.out (fun _ hk => ⟨⟨hk.1.1.2, hk.1.2⟩, hk.2⟩)) hg hat)
           have n4_ := zpS (below_weaken (by repeat (first | (with_reducible first | exact HB.out | apply znU | apply zkZ | apply zvF | refine zjF ?_ (zoE.ge HI0.out)) | exact HB.out)) HL.out hb)
           have n5_ := zpS (zwG.trans (by repeat (first | (with_reducible first | exact HK.out | apply zwG.set_ | apply zeS | apply zwU | apply zbV) | exact HK.out)) (zwG.of_grown hg g) (Kd.R_base2 HO_10.out))
           have n6_ := zpS (ho)
           clear HO_7
           clear HO_8
           clear HI0
           clear HO176
           clear HB
           clear HK
           clear HO_10
           have HO_7 := n0_
           have HO_8 := n1_
           have HI0 := n2_
           have HO176 := n3_
           have HB := n4_
           have HK := n5_
           have HO179 := n6_
           clear n0_ n1_ n2_ n3_ n4_ n5_ n6_
           clear ho hb hg hat
           refine hK.out _ _ ⟨HS0_, HS1_⟩ (fun hHeld => ?_)
           clear hK K
           refine zaN (a' := ?_) ?_ ?_
           rotate_left
           ·show Act.put _ (some 59) _ = _
            simp only [Act.put, List.setIfInBounds_toArray, List.set_cons_zero, List.set_cons_succ, zcM, ziJ]
            rfl
           refine pu_ 11 (some 10) (bl_ 12 4095) ?_
           refine done_ (done_of HT_.out (by kernel_rfl)) ?_
           try go_wp2
           go_roundg k3
           case measure => have := HJ4.out; have := HJ13.out; have := HK3.out; omega
           case rel => exact ⟨(y177), (wrap64 (x11_3 + 1)), (by first | rfl | (simp; done) | (simp [*]; done)), H', ⟨by have := HJ4.out; have := HJ13.out; have := HK3.out; omega⟩, ⟨by (with_reducible repeat (first | apply Kd.R_alloc | apply Kd.R_drewN | apply Kd.R_drew)); exact Kd.R_mono HO_7.out (fun _ hk => ⟨hk.1.1, hk.2⟩)⟩, ⟨by (with_reducible repeat (first | apply Kd.R_alloc | apply Kd.R_drewN | apply Kd.R_drew)); exact Kd.R_mono HO_8.out (fun _ hk => ⟨hk.1.1, hk.2⟩)⟩, ⟨by (with_reducible repeat (first | apply Kd.R_alloc | apply Kd.R_drewN | apply Kd.R_drew)); exact Kd.R_mono HO179.out (fun _ hk => ⟨hk.1, hk.2.1⟩)⟩, ⟨by repeat (first | (with_reducible first | exact HI0.out | apply zoE.alloc | apply zoE.drewN | apply zoE.drew | apply zoE.set_1 | apply zoE.set_2) | exact HI0.out)⟩, ⟨by repeat (first | (with_reducible first | exact HK.out | apply zwG.set_ | apply zeS | apply zwU | apply zbV) | exact HK.out)⟩, ⟨by repeat (first | (with_reducible first | exact HB.out | apply znU | apply zkZ | apply zvF | refine zjF ?_ (zoE.ge HI0.out)) | exact HB.out)⟩⟩
          ·rw [if_neg c29] at H
           exact absurd H (by simp)
         ·rw [if_neg c28] at H
          exact absurd H (by simp)
        ·rw [if_neg c27] at H
         exact absurd H (by simp)
       ·rw [if_neg c26] at H
        have c26b0 : decide (x11_3 < (t150.length : Int)) = false := decide_eq_false c26
        clear c26
        simp only [Option.some.injEq, Prod.mk.injEq] at H
        obtain ⟨rfl, rfl, rfl⟩ := H
        obtain ⟨Ao37, co37, eo37⟩ := Kd.R_slice HO_7.out
        subst eo37
        go_wp2
        go_ret
        exact ⟨_, by first | rfl | (simp [ziS, znJ] <;> rfl) | (simp [*, ziS, znJ] <;> rfl), by (with_reducible repeat (first | apply Kd.R_alloc | apply Kd.R_drewN | apply Kd.R_drew)); exact Kd.R_mono HO_10.out (fun _ hk => trivial), by repeat (first | (with_reducible first | exact HI0.out | apply zoE.alloc | apply zoE.drewN | apply zoE.drew | apply zoE.set_1 | apply zoE.set_2) | exact HI0.out), by repeat (first | (with_reducible first | exact HB.out | apply znU | apply zkZ | apply zvF | refine zjF ?_ (zoE.ge HI0.out)) | exact HB.out), by repeat (first | (with_reducible first | exact HK.out | apply zwG.set_ | apply zeS | apply zwU | apply zbV) | exact HK.out)⟩

def zqP.f (l0 : List Int) : Option (List Int × Int × Int) := some (l0, 0, 0)
set_option maxHeartbeats 8000000 in
set_option maxRecDepth 100000 in
theorem zqP.calls (A0 : Option Addr) (c0 : Nat) (l0 : List Int) (r1 : List Int) (r2 : Int) (r3 : Int) (w0 w : World) (hB : Below w0.heap.size w0 w) (hr0 : Kd.C (Kd.int .u8) w0 A0 l0.length l0) (hc0 : l0.length ≤ c0) (h : zqP.f l0 = some (r1, r2, r3)) :
  Calls Try.prog 12 #[.slice A0 l0.length c0] w fun e w' => ∃ g_ : Nat, e = .returned (.pointer (some ⟨g_, 0, none⟩)) ∧ zoE w0 w' g_ r1 r2 r3 ∧ Below w0.heap.size w0 w' ∧ Below w.heap.size w w' := by
 have hu46 := Try.underlying46
 have HR0 := zpS hr0
 have HC0 := zpS hc0
 clear hr0 hc0
 have HBW := zpS (Below.refl w.heap.size w)
 have HW0 := zpS hB.size
 have HB := zpS hB
 clear hB
 have H : (some (l0, 0, 0)) = some (r1, r2, r3) := h
 clear h
 simp only [Option.some.injEq, Prod.mk.injEq] at H
 obtain ⟨rfl, rfl, rfl⟩ := H
 go_enter Try.func12, Try.ntmps12
 go_wp2_with (first | ((with_reducible refine gate_dst (N := 5) rfl ?_); refine bx_ 5 #[.slice A0 l0.length c0, .int .i64 0, .int .u64 0] 46 ?_; intro gb180 hg w2 hbox hb; have n0_ := zpS (zkR HBW.out hb); have n1_ := (ns_ hb); have n2_ := zpS (hbox); have n3_ := zpS ((by rw [hg]; exact (zuA (by repeat (first | (with_reducible first | exact HBW.out | apply znU | apply zkZ | apply zvF) | exact HBW.out))) : w.heap.size ≤ gb180)); have n4_ := zpS ((Nat.le_trans HW0.out (by rw [hg]; exact (zuA (by repeat (first | (with_reducible first | exact HBW.out | apply znU | apply zkZ | apply zvF) | exact HBW.out))) : w.heap.size ≤ gb180) : w0.heap.size ≤ gb180)); clear HBW; clear HB; have HBW := n0_; have HB := n1_; have BK180 := n2_; have GW180 := n3_; have GE180 := n4_; clear n0_ n1_ n2_ n3_ n4_; clear hb hbox hg))
 go_ret
 exact ⟨_, rfl, (show zoE w0 _ gb180 l0 0 0 from ⟨_, _, bk_, GE180.out, HR0.out⟩), bb_, by repeat (first | (with_reducible first | exact HBW.out | apply znU | apply zkZ | apply zvF | refine zjF ?_ GW180.out) | exact HBW.out)⟩

def zuK.f (k : Nat) (l0 : List Int) (a1 : Int) : Option (List Int) := (zqP.f l0).bind fun bt181 => ((zaK.f k bt181.1 bt181.2.1 bt181.2.2 a1).bind fun bt185 => (some bt185.1))
theorem zuK.mono : ∀ a0 a1 k, LeO (zuK.f k a0 a1) (zuK.f (k + 1) a0 a1) := by
 intro a0 a1 k
 unfold zuK.f
 repeat' first
   | (with_reducible exact zaK.mono _ _ _ _ _)
   | (with_reducible exact LeO.refl _)
   | (with_reducible exact LeO.none _)
   | (with_reducible refine LeO.ite ?_ ?_)
   | (with_reducible refine LeO.bind ?_ (fun _ => ?_))
   | exact zaK.mono _ _ _ _ _
   | exact LeO.none _
   | refine LeO.ite ?_ ?_
   | refine LeO.bind ?_ (fun _ => ?_)
set_option maxHeartbeats 8000000 in
set_option maxRecDepth 100000 in
theorem zuK.calls (k : Nat) (A0 : Option Addr) (c0 : Nat) (l0 : List Int) (a1 : Int) (r : List Int) (w : World) (hr0 : Kd.C (Kd.int .u8) w A0 l0.length l0) (hc0 : l0.length ≤ c0) (h : zuK.f k l0 a1 = some r) :
  Calls Try.prog 5 #[.slice A0 l0.length c0, .int .i64 a1] w fun e w' => ∃ v0_ : Value, e = .returned (v0_) ∧ Kd.R (Kd.int .i64) 2 w' w.heap.size (fun _ => True) v0_ r ∧ Below w.heap.size w w' := by
 have HR0 := zpS hr0
 have HC0 := zpS hc0
 clear hr0 hc0
 have HB := zpS (Below.refl w.heap.size w)
 have H : ((zqP.f l0).bind fun bt181 => ((zaK.f k bt181.1 bt181.2.1 bt181.2.2 a1).bind fun bt185 => (some bt185.1))) = some r := h
 clear h
 replace H := Option.bind_eq_some_iff.mp H
 obtain ⟨⟨t181, t182, t183⟩, A30, H⟩ := H
 replace H : ((zaK.f k t181 t182 t183 a1).bind fun bt185 => (some bt185.1)) = some r := H
 have A3 := zpS A30
 clear A30
 replace H := Option.bind_eq_some_iff.mp H
 obtain ⟨⟨t185, t188, t189⟩, A40, H⟩ := H
 replace H : (some t185) = some r := H
 have A4 := zpS A40
 clear A40
 obtain rfl := Option.some.inj H
 go_enter Try.func5, Try.ntmps5
 go_wp2_with (first | ((with_reducible refine zgM (f := 12) rfl ?_); refine zqQ (some 6) rfl rfl Try.func12 (by kernel_rfl) rfl #[.slice A0 l0.length c0] rfl (by (try simp only [List.map_toArray, List.map_cons, List.map_nil]); first | done | rfl | (simp only [List.length_drop, List.length_take]; rfl)) ?_; (with_reducible refine (zqP.calls _ _ l0 t181 t182 t183 w _ ?side1 ?side2 ?side3 A3.out).mono ?_); (case side1 => repeat (first | (with_reducible first | exact HB.out | apply znU | apply zkZ | apply zvF) | exact HB.out)); (case side2 => exact HR0.out); (case side3 => exact HC0.out); rintro e w5 ⟨g184, rfl, hi, hb, hb2⟩; refine ⟨_, rfl, ?_⟩; have n0_ := zpS (hb); have n1_ := zpS (hi); clear HB; have HB := n0_; have HI184 := n1_; clear n0_ n1_; (try clear hb); (try clear hb2)) | ((with_reducible refine zgM (f := 11) rfl ?_); refine zqQ (some 8) rfl rfl Try.func11 (by kernel_rfl) rfl #[.pointer (some ⟨g184, 0, none⟩), .int .i64 a1] rfl (by (try simp only [List.map_toArray, List.map_cons, List.map_nil]); first | done | rfl | (simp only [List.length_drop, List.length_take]; rfl)) ?_; (with_reducible refine (zaK.calls k g184 t181 t182 t183 a1 t185 t188 t189 w _ ?side1 ?side2 A4.out).mono ?_); (case side1 => repeat (first | (with_reducible first | exact HI184.out | apply zoE.alloc | apply zoE.drewN | apply zoE.drew | apply zoE.set_1 | apply zoE.set_2) | exact HI184.out)); (case side2 => repeat (first | (with_reducible first | exact HB.out | apply znU | apply zkZ | apply zvF | refine zjF ?_ (zoE.ge HI184.out)) | exact HB.out)); rintro e w6 ⟨v186, rfl, ho0, hi, hb, hk⟩; refine ⟨_, rfl, ?_⟩; have n0_ := zpS (Kd.R_lower ho0 (zuA (by repeat (first | (with_reducible first | exact HB.out | apply znU | apply zkZ | apply zvF | refine zjF ?_ (zoE.ge HI184.out)) | exact HB.out)))); have n1_ := zpS (hb); have n2_ := zpS (hi); clear HB; clear HI184; have HO187 := n0_; have HB := n1_; have HI184 := n2_; clear n0_ n1_ n2_; (try clear hb); (try clear hb2); (try clear ho0)))
 go_ret
 exact ⟨_, by first | rfl | (simp [ziS, znJ] <;> rfl) | (simp [*, ziS, znJ] <;> rfl), by (with_reducible repeat (first | apply Kd.R_alloc | apply Kd.R_drewN | apply Kd.R_drew)); exact HO187.out, by repeat (first | (with_reducible first | exact HB.out | apply znU | apply zkZ | apply zvF | refine zjF ?_ (zoE.ge HI184.out)) | exact HB.out)⟩

def zyC.l0 : Nat → Int → List Int → Int → Option (List Int)
 | 0, _, _, _ => none
 | k + 1, x1, x5, x6 => if x6 ≥ 0 then (if 0 ≤ x6 then (if x6 < (x5.length : Int) then ((some (x5.set (x6 : Int).toNat 2 : List Int)).bind fun y193 => (if (Int.tmod x1 2) = 1 then (zyC.l0 k (wrap64 (Int.tdiv x1 2)) (y193.set (x6 : Int).toNat 3) (wrap64 (x6 - 1))) else (zyC.l0 k (wrap64 (Int.tdiv x1 2)) y193 (wrap64 (x6 - 1))))) else (none)) else (none)) else (some x5)
def zyC.f (k : Nat) (a0 : Int) (a1 : Int) : Option (List Int) := if 0 ≤ a0 then (if (a0 : Int).toNat ≤ 35184372088832 then (zyC.l0 k a1 (List.replicate (a0 : Int).toNat 0) (wrap64 (a0 - 1))) else (none)) else (none)
theorem zyC.mono_l : ∀ k, (∀ y0 y1 y2, LeO (zyC.l0 k y0 y1 y2) (zyC.l0 (k + 1) y0 y1 y2))
 | 0 => fun _ _ _ r h => by simp [zyC.l0] at h
 | k + 1 => by
  have ih0 := zyC.mono_l k
  ·intro y0 y1 y2
   unfold zyC.l0
   repeat' first
   | (with_reducible exact ih0 _ _ _)
   | (with_reducible exact LeO.refl _)
   | (with_reducible exact LeO.none _)
   | (with_reducible refine LeO.ite ?_ ?_)
   | (with_reducible refine LeO.bind ?_ (fun _ => ?_))
   | exact ih0 _ _ _
   | exact LeO.none _
   | refine LeO.ite ?_ ?_
   | refine LeO.bind ?_ (fun _ => ?_)
theorem zyC.mono : ∀ a0 a1 k, LeO (zyC.f k a0 a1) (zyC.f (k + 1) a0 a1) := by
 intro a0 a1 k
 have ih0 := zyC.mono_l k
 unfold zyC.f
 repeat' first
   | (with_reducible exact ih0 _ _ _)
   | (with_reducible exact LeO.refl _)
   | (with_reducible exact LeO.none _)
   | (with_reducible refine LeO.ite ?_ ?_)
   | (with_reducible refine LeO.bind ?_ (fun _ => ?_))
   | exact ih0 _ _ _
   | exact LeO.none _
   | refine LeO.ite ?_ ?_
   | refine LeO.bind ?_ (fun _ => ?_)
set_option maxHeartbeats 8000000 in
set_option maxRecDepth 100000 in
theorem zyC.calls (k : Nat) (a0 : Int) (a1 : Int) (r : List Int) (w : World) (h : zyC.f k a0 a1 = some r) :
  Calls Try.prog 27 #[.int .i64 a0, .int .i64 a1] w fun e w' => ∃ v0_ : Value, e = .returned (v0_) ∧ Kd.R (Kd.int .i64) 2 w' w.heap.size (fun _ => True) v0_ r ∧ Below w.heap.size w w' := by
 have HB := zpS (Below.refl w.heap.size w)
 have H : (if 0 ≤ a0 then (if (a0 : Int).toNat ≤ 35184372088832 then (zyC.l0 k a1 (List.replicate (a0 : Int).toNat 0) (wrap64 (a0 - 1))) else (none)) else (none)) = some r := h
 clear h
 by_cases c3 : 0 ≤ a0
 ·rw [if_pos c3] at H
  have c3b0 := eq_true c3
  have c3b1 : decide (0 ≤ a0) = true := decide_eq_true c3
  clear c3
  by_cases c4 : (a0 : Int).toNat ≤ 35184372088832
  ·rw [if_pos c4] at H
   have c4b0 := eq_true c4
   have c4b1 : decide ((a0 : Int).toNat ≤ 35184372088832) = true := decide_eq_true c4
   clear c4
   obtain ⟨y190, hy190⟩ : ∃ y_ : List Int, y_ = (List.replicate (a0 : Int).toNat 0) := ⟨_, rfl⟩
   replace H : (zyC.l0 k a1 y190 (wrap64 (a0 - 1))) = some r := by first | (rw [hy190]; with_reducible exact H) | (have H2_ := (Option.bind_some _ _).symm.trans H; rw [hy190]; with_reducible exact H2_) | (have H2_ := (Option.bind_some _ _).symm.trans H; with_reducible exact H2_) | with_reducible exact H | (rw [hy190]; exact H) | exact H
   have Ny190 := zpS hy190
   clear hy190
   have H' := zpS H
   clear H
   go_enter Try.func27, Try.ntmps27
   go_wp2_with (first | ((with_reducible refine gate_dst (N := 8) rfl ?_); refine Kd.R_make (Kd.int .i64) _ 2 rfl (N := 8) rfl 24 _ _ rfl a0 rfl rfl Try.underlying24 (.int .i64 0) 8 info2 rfl (by decide) (by omega) 0 (ok := fun _ => True) (okp := fun _ => True) rfl (fun _ hk => hk) trivial (of_decide_eq_true (by first | (with_reducible assumption) | assumption)) (Nat.le_trans (Nat.mul_le_mul_right _ (of_decide_eq_true (by first | (with_reducible assumption) | assumption) : a0.toNat ≤ 35184372088832)) (by omega)) (Below.refl _ _) (Nat.le_refl _) ?_; intro v191 w5 ho6 hb hg_ hnew_; clear hg_ hnew_; (first | rw [← Ny190.out] at ho6 | (simp only [Int.reduceToNat] at ho6; rw [← Ny190.out] at ho6)); have n0_ := zpS (Kd.R_lower ho6 (zuA bb_)); have n1_ := (ns_ hb); clear HB; have HO192 := n0_; have HB := n1_; clear n0_ n1_; clear hb ho6))
   (try go_simp)
   go_loopg [1, 6] k (fun kq v1 v6 w' => ∃ (x1_1 : Int) (x5_1 : List Int) (x6_1 : Int), v1 = .int .i64 x1_1 ∧ v6 = .int .i64 x6_1 ∧ Aside0 (zyC.l0 kq x1_1 x5_1 x6_1 = some r) ∧ Aside0 (kq ≤ k) ∧ Aside0 (Kd.R (Kd.int .i64) 2 w' w.heap.size (fun _ => True) v191 x5_1) ∧ Aside0 (Below w.heap.size w w'))
   case atStart => exact ⟨(a1), (y190), (wrap64 (a0 - 1)), (by first | rfl | (simp; done) | (simp [*]; done)), (by first | rfl | (simp; done) | (simp [*]; done)), H', ⟨Nat.le_refl _⟩, ⟨by (with_reducible repeat (first | apply Kd.R_alloc | apply Kd.R_drewN | apply Kd.R_drew)); exact HO192.out⟩, ⟨bb_⟩⟩
   case round =>
    clear H'
    try clear c2
    try clear p2
    try clear c3
    try clear c3b0
    try clear c3b1
    try clear c4
    try clear c4b0
    try clear c4b1
    try clear p6
    obtain ⟨x1_1, x5_1, x6_1, rfl, rfl, HA, HK1, HO_5, HB⟩ := hrel
    cases gk with
    | zero => exact absurd HA.out (by simp [zyC.l0])
    | succ k1 =>
     have H := HA.out
     clear HA
     simp only [zyC.l0] at H
     by_cases c7 : x6_1 ≥ 0
     ·rw [if_pos c7] at H
      have c7b0 : decide (0 ≤ x6_1) = true := decide_eq_true c7
      clear c7
      by_cases c8 : 0 ≤ x6_1
      ·rw [if_pos c8] at H
       have c8b0 : decide (0 ≤ x6_1) = true := decide_eq_true c8
       clear c8
       by_cases c9 : x6_1 < (x5_1.length : Int)
       ·rw [if_pos c9] at H
        have c9b0 : decide (x6_1 < (x5_1.length : Int)) = true := decide_eq_true c9
        clear c9
        obtain ⟨y193, hy193⟩ : ∃ y_ : List Int, y_ = (x5_1.set (x6_1 : Int).toNat 2) := ⟨_, rfl⟩
        replace H : (if (Int.tmod x1_1 2) = 1 then (zyC.l0 k1 (wrap64 (Int.tdiv x1_1 2)) (y193.set (x6_1 : Int).toNat 3) (wrap64 (x6_1 - 1))) else (zyC.l0 k1 (wrap64 (Int.tdiv x1_1 2)) y193 (wrap64 (x6_1 - 1)))) = some r := by first | (rw [hy193]; with_reducible exact H) | (have H2_ := (Option.bind_some _ _).symm.trans H; rw [hy193]; with_reducible exact H2_) | (have H2_ := (Option.bind_some _ _).symm.trans H; with_reducible exact H2_) | with_reducible exact H | (rw [hy193]; exact H) | exact H
        have Ny193 := zpS hy193
        clear hy193
        by_cases c11 : (Int.tmod x1_1 2) = 1
        ·rw [if_pos c11] at H
         have c11b0 : ((Int.tmod x1_1 2) == 1) = true := beq_iff_eq.mpr c11
         have c11b1 : ((Int.tmod x1_1 2) != 1) = false := bne_eq_false_iff_eq.mpr c11
         clear c11
         obtain ⟨y194, hy194⟩ : ∃ y_ : List Int, y_ = (y193.set (x6_1 : Int).toNat 3) := ⟨_, rfl⟩
         replace H : (zyC.l0 k1 (wrap64 (Int.tdiv x1_1 2)) y194 (wrap64 (x6_1 - 1))) = some r := by first | (rw [hy194]; with_reducible exact H) | (have H2_ := (Option.bind_some _ _).symm.trans H; rw [hy194]; with_reducible exact H2_) | (have H2_ := (Option.bind_some _ _).symm.trans H; with_reducible exact H2_) | with_reducible exact H | (rw [hy194]; exact H) | exact H
         have Ny194 := zpS hy194
         clear hy194
         have H' := zpS H
         clear H
         have p10 : 0 ≤ (x6_1 : Int) := of_decide_eq_true (by first | (with_reducible assumption) | assumption)
         have q10 : (x6_1 : Int) < ((x5_1.length : Int) : Int) := of_decide_eq_true (by first | (with_reducible assumption) | assumption)
         obtain ⟨go10, co10, eo10, gb10, gl10, cl10, HG10⟩ := Kd.R_form HO_5.out (by omega)
         (first | cases eo10 | (injection eo10 with ea_ en_ ec_; (first | subst ea_ | (injection ea_ with ea_; subst ea_)); subst ec_; clear en_))
         have GB10 := zpS gb10
         have GG10 := zpS HG10
         clear gb10 gl10 HG10
         obtain ⟨hx10_0, hf10_0⟩ := Kd.R_celln 0 HO_5.out (x6_1 : Int) p10 q10
         replace p10 := eq_true p10
         replace q10 := eq_true q10
         have HP13 := Kd.R_putg HO_5.out (x6_1 : Int) 2
         go_wp2_with (first | ((with_reducible refine gate_store (t := 2) (p := 17) rfl ?_); refine store_event (t := 2) (p := 17) (v := ?vo_w14) (w1 := (wr.setCell ⟨go10, (x6_1 : Int).toNat, none⟩ (.int .i64 2))) ?hg ?ho ?hn ?hr ?_; (case ho => rfl); (case hg => rfl); (case hn => rfl); (case hr => first | (go_simp; done) | (go_simp; rfl)); intro w14 hw; have hg : wr.grownBy w14 (some go10) := (by rw [hw]; exact HP13.2); have hp_ : Kd.R (Kd.int .i64) 2 w14 w.heap.size (fun _ => True) (.slice (some ⟨go10, 0, none⟩) x5_1.length co10) y193 := (by rw [hw, Ny193.out]; exact HP13.1); clear HP13; have n0_ := zpS (hp_); have n1_ := zpS ((by rw [hw]; exact zjF (HB.out) GB10.out : Below w.heap.size w w14)); clear HO_5; clear HB; have HO_5 := n0_; have HB := n1_; clear n0_ n1_; clear hg hw hp_; have p12 : 0 ≤ (x6_1 : Int) := of_decide_eq_true (by first | (with_reducible assumption) | assumption); have q12 : (x6_1 : Int) < ((x5_1.length : Int) : Int) := of_decide_eq_true (by first | (with_reducible assumption) | assumption); obtain ⟨hx12_0, hf12_0⟩ := Kd.R_celln 0 HO_5.out (x6_1 : Int) p12 q12; replace p12 := eq_true p12; replace q12 := eq_true q12; obtain ⟨hy15_, hz15_⟩ := Kd.R_celln 0 HO_5.out (x6_1 : Int) (of_decide_eq_true (by first | (with_reducible assumption) | assumption)) (of_decide_eq_true (by first | (with_reducible assumption) | assumption)); have HP15 := Kd.R_putg HO_5.out (x6_1 : Int) 3) | ((with_reducible refine gate_store (t := 2) (p := 23) rfl ?_); refine store_event (t := 2) (p := 23) (v := ?vo_w16) (w1 := (w14.setCell ⟨go10, (x6_1 : Int).toNat, none⟩ (.int .i64 3))) ?hg ?ho ?hn ?hr ?_; (case ho => rfl); (case hg => rfl); (case hn => rfl); (case hr => first | (go_simp; done) | (go_simp; rfl)); intro w16 hw; have hg : w14.grownBy w16 (some go10) := (by rw [hw]; exact HP15.2); have hp_ : Kd.R (Kd.int .i64) 2 w16 w.heap.size (fun _ => True) (.slice (some ⟨go10, 0, none⟩) x5_1.length co10) y194 := (by rw [hw, Ny194.out]; exact HP15.1); clear HP15; have n0_ := zpS (hp_); have n1_ := zpS ((by rw [hw]; exact zjF (HB.out) GB10.out : Below w.heap.size w w16)); clear HO_5; clear HB; have HO_5 := n0_; have HB := n1_; clear n0_ n1_; clear hg hw hp_))
         go_roundg k1
         case measure => have := HK1.out; omega
         case rel => exact ⟨(wrap64 (Int.tdiv x1_1 2)), (y194), (wrap64 (x6_1 - 1)), (by first | rfl | (simp; done) | (simp [*]; done)), (by first | rfl | (simp; done) | (simp [*]; done)), H', ⟨by have := HK1.out; omega⟩, ⟨by (with_reducible repeat (first | apply Kd.R_alloc | apply Kd.R_drewN | apply Kd.R_drew)); exact HO_5.out⟩, ⟨bb_⟩⟩
        ·rw [if_neg c11] at H
         have c11b0 : ((Int.tmod x1_1 2) == 1) = false := beq_eq_false_iff_ne.mpr c11
         have c11b1 : ((Int.tmod x1_1 2) != 1) = true := bne_iff_ne.mpr c11
         have H' := zpS H
         clear H
         have p10 : 0 ≤ (x6_1 : Int) := of_decide_eq_true (by first | (with_reducible assumption) | assumption)
         have q10 : (x6_1 : Int) < ((x5_1.length : Int) : Int) := of_decide_eq_true (by first | (with_reducible assumption) | assumption)
         obtain ⟨go10, co10, eo10, gb10, gl10, cl10, HG10⟩ := Kd.R_form HO_5.out (by omega)
         (first | cases eo10 | (injection eo10 with ea_ en_ ec_; (first | subst ea_ | (injection ea_ with ea_; subst ea_)); subst ec_; clear en_))
         have GB10 := zpS gb10
         have GG10 := zpS HG10
         clear gb10 gl10 HG10
         obtain ⟨hx10_0, hf10_0⟩ := Kd.R_celln 0 HO_5.out (x6_1 : Int) p10 q10
         replace p10 := eq_true p10
         replace q10 := eq_true q10
         have HP17 := Kd.R_putg HO_5.out (x6_1 : Int) 2
         go_wp2_with (first | ((with_reducible refine gate_store (t := 2) (p := 17) rfl ?_); refine store_event (t := 2) (p := 17) (v := ?vo_w18) (w1 := (wr.setCell ⟨go10, (x6_1 : Int).toNat, none⟩ (.int .i64 2))) ?hg ?ho ?hn ?hr ?_; (case ho => rfl); (case hg => rfl); (case hn => rfl); (case hr => first | (go_simp; done) | (go_simp; rfl)); intro w18 hw; have hg : wr.grownBy w18 (some go10) := (by rw [hw]; exact HP17.2); have hp_ : Kd.R (Kd.int .i64) 2 w18 w.heap.size (fun _ => True) (.slice (some ⟨go10, 0, none⟩) x5_1.length co10) y193 := (by rw [hw, Ny193.out]; exact HP17.1); clear HP17; have n0_ := zpS (hp_); have n1_ := zpS ((by rw [hw]; exact zjF (HB.out) GB10.out : Below w.heap.size w w18)); clear HO_5; clear HB; have HO_5 := n0_; have HB := n1_; clear n0_ n1_; clear hg hw hp_))
         go_roundg k1
         case measure => have := HK1.out; omega
         case rel => exact ⟨(wrap64 (Int.tdiv x1_1 2)), (y193), (wrap64 (x6_1 - 1)), (by first | rfl | (simp; done) | (simp [*]; done)), (by first | rfl | (simp; done) | (simp [*]; done)), H', ⟨by have := HK1.out; omega⟩, ⟨by (with_reducible repeat (first | apply Kd.R_alloc | apply Kd.R_drewN | apply Kd.R_drew)); exact HO_5.out⟩, ⟨bb_⟩⟩
       ·rw [if_neg c9] at H
        exact absurd H (by simp)
      ·rw [if_neg c8] at H
       exact absurd H (by simp)
     ·rw [if_neg c7] at H
      have c7b0 : decide (0 ≤ x6_1) = false := decide_eq_false c7
      clear c7
      obtain rfl := Option.some.inj H
      go_wp2
      go_ret
      exact ⟨_, by first | rfl | (simp [ziS, znJ] <;> rfl) | (simp [*, ziS, znJ] <;> rfl), by (with_reducible repeat (first | apply Kd.R_alloc | apply Kd.R_drewN | apply Kd.R_drew)); exact HO_5.out, bb_⟩
  ·rw [if_neg c4] at H
   exact absurd H (by simp)
 ·rw [if_neg c3] at H
  exact absurd H (by simp)

def ziN.l0 : Nat → List Int → Int → Int → Option (Int)
 | 0, _, _, _ => none
 | k + 1, x0, x3, x4 => if x4 < (x0.length : Int) then (if 0 ≤ x4 then (if (rd x0 x4) = 2 then (ziN.l0 k x0 (wrap64 (x3 + 1)) (wrap64 (x4 + 1))) else (ziN.l0 k x0 (wrap64 (x3 - 1)) (wrap64 (x4 + 1)))) else (none)) else (some x3)
def ziN.f (k : Nat) (l0 : List Int) : Option (Int) := ziN.l0 k l0 0 0
theorem ziN.mono_l : ∀ k, (∀ y0 y1 y2, LeO (ziN.l0 k y0 y1 y2) (ziN.l0 (k + 1) y0 y1 y2))
 | 0 => fun _ _ _ r h => by simp [ziN.l0] at h
 | k + 1 => by
  have ih0 := ziN.mono_l k
  ·intro y0 y1 y2
   unfold ziN.l0
   repeat' first
   | (with_reducible exact ih0 _ _ _)
   | (with_reducible exact LeO.refl _)
   | (with_reducible exact LeO.none _)
   | (with_reducible refine LeO.ite ?_ ?_)
   | (with_reducible refine LeO.bind ?_ (fun _ => ?_))
   | exact ih0 _ _ _
   | exact LeO.none _
   | refine LeO.ite ?_ ?_
   | refine LeO.bind ?_ (fun _ => ?_)
theorem ziN.mono : ∀ a0 k, LeO (ziN.f k a0) (ziN.f (k + 1) a0) := by
 intro a0 k
 have ih0 := ziN.mono_l k
 unfold ziN.f
 repeat' first
   | (with_reducible exact ih0 _ _ _)
   | (with_reducible exact LeO.refl _)
   | (with_reducible exact LeO.none _)
   | (with_reducible refine LeO.ite ?_ ?_)
   | (with_reducible refine LeO.bind ?_ (fun _ => ?_))
   | exact ih0 _ _ _
   | exact LeO.none _
   | refine LeO.ite ?_ ?_
   | refine LeO.bind ?_ (fun _ => ?_)
set_option maxHeartbeats 8000000 in
set_option maxRecDepth 100000 in
theorem ziN.calls (k : Nat) (A0 : Option Addr) (c0 : Nat) (l0 : List Int) (r : Int) (w : World) (hr0 : Kd.C (Kd.int .i64) w A0 l0.length l0) (hc0 : l0.length ≤ c0) (h : ziN.f k l0 = some r) :
  Calls Try.prog 41 #[.slice A0 l0.length c0] w fun e w' => e = .returned (.int .i64 r) ∧ Drawn0 w w' := by
 have HR0 := zpS hr0
 have HC0 := zpS hc0
 clear hr0 hc0
 have H : (ziN.l0 k l0 0 0) = some r := h
 clear h
 have H' := zpS H
 clear H
 go_enter Try.func41, Try.ntmps41
 go_wp2
 (try go_simp)
 go_loopg [3, 4] k (fun kq v3 v4 w' => ∃ (x3_1 : Int) (x4_1 : Int), v3 = .int .i64 x3_1 ∧ v4 = .int .i64 x4_1 ∧ Aside0 (ziN.l0 kq l0 x3_1 x4_1 = some r) ∧ Aside0 (kq ≤ k) ∧ Drawn0 w w')
 case atStart => exact ⟨(0), (0), (by first | rfl | (simp; done) | (simp [*]; done)), (by first | rfl | (simp; done) | (simp [*]; done)), H', ⟨Nat.le_refl _⟩, by repeat (first | exact Drawn0.refl _ | apply Drawn0.step)⟩
 case round =>
  clear H'
  obtain ⟨x3_1, x4_1, rfl, rfl, HA, HK1, ⟨m1, rfl⟩⟩ := hrel
  cases gk with
  | zero => exact absurd HA.out (by simp [ziN.l0])
  | succ k1 =>
   have H := HA.out
   clear HA
   simp only [ziN.l0] at H
   by_cases c2 : x4_1 < (l0.length : Int)
   ·rw [if_pos c2] at H
    have c2b0 : decide (x4_1 < (l0.length : Int)) = true := decide_eq_true c2
    clear c2
    by_cases c3 : 0 ≤ x4_1
    ·rw [if_pos c3] at H
     have c3b0 : decide (0 ≤ x4_1) = true := decide_eq_true c3
     clear c3
     by_cases c4 : (rd l0 x4_1) = 2
     ·rw [if_pos c4] at H
      have c4b0 : ((rd l0 x4_1) == 2) = true := beq_iff_eq.mpr c4
      have c4b1 : ((rd l0 x4_1) != 2) = false := bne_eq_false_iff_eq.mpr c4
      clear c4
      have H' := zpS H
      clear H
      have p195 : 0 ≤ (x4_1 : Int) := of_decide_eq_true (by first | (with_reducible assumption) | assumption)
      have q195 : x4_1 < (l0.length : Int) := of_decide_eq_true (by first | (with_reducible assumption) | assumption)
      obtain ⟨ad195, e195, hx195_0⟩ := Kd.at_int HR0.out x4_1 p195 q195
      cases e195
      replace p195 := eq_true p195
      replace q195 := eq_true q195
      go_wp2
      go_roundg k1
      case measure => have := HK1.out; omega
      case rel => exact ⟨(wrap64 (x3_1 + 1)), (wrap64 (x4_1 + 1)), (by first | rfl | (simp; done) | (simp [*]; done)), (by first | rfl | (simp; done) | (simp [*]; done)), H', ⟨by have := HK1.out; omega⟩, by repeat (first | exact Drawn0.refl _ | apply Drawn0.step)⟩
     ·rw [if_neg c4] at H
      have c4b0 : ((rd l0 x4_1) == 2) = false := beq_eq_false_iff_ne.mpr c4
      have c4b1 : ((rd l0 x4_1) != 2) = true := bne_iff_ne.mpr c4
      have H' := zpS H
      clear H
      have p195 : 0 ≤ (x4_1 : Int) := of_decide_eq_true (by first | (with_reducible assumption) | assumption)
      have q195 : x4_1 < (l0.length : Int) := of_decide_eq_true (by first | (with_reducible assumption) | assumption)
      obtain ⟨ad195, e195, hx195_0⟩ := Kd.at_int HR0.out x4_1 p195 q195
      cases e195
      replace p195 := eq_true p195
      replace q195 := eq_true q195
      go_wp2
      go_roundg k1
      case measure => have := HK1.out; omega
      case rel => exact ⟨(wrap64 (x3_1 - 1)), (wrap64 (x4_1 + 1)), (by first | rfl | (simp; done) | (simp [*]; done)), (by first | rfl | (simp; done) | (simp [*]; done)), H', ⟨by have := HK1.out; omega⟩, by repeat (first | exact Drawn0.refl _ | apply Drawn0.step)⟩
    ·rw [if_neg c3] at H
     exact absurd H (by simp)
   ·rw [if_neg c2] at H
    have c2b0 : decide (x4_1 < (l0.length : Int)) = false := decide_eq_false c2
    clear c2
    obtain rfl := Option.some.inj H
    go_wp2
    go_ret
    exact ⟨by first | rfl | (simp; done) | (simp [*]; done), by repeat (first | exact Drawn0.refl _ | apply Drawn0.step)⟩

end Go.Proofs.Ytdnblakbegjohaa.PFnCrimps
