-- Printed for this claim by this session's program pp.py, which drives the kit's print with additions. Not trusted: Lean checks it.
import Derived.Test.YtdnblakbegjohaaV1PFnCrimpsx0
import Derived.Test.YtdnblakbegjohaaV1PFnCrimpsx5
import Derived.Test.YtdnblakbegjohaaV1PFnCrimpsx6
namespace Go.Proofs.Ytdnblakbegjohaa.PFnCrimps
open Go.RowKit Go.Proofs.YtdnblakbegjohaaW.PrintWords Go.Proofs.YtdnblakbegjohaaW.PrintLast Go.Proofs.YtdnblakbegjohaaW.PrintMore
attribute [local go_sem] max2_int min2_int max_two min_two znE zuB max_four min_four   -- for this text's walks alone
set_option linter.unusedVariables false
set_option linter.unusedSimpArgs false

def zgK.l0 : Nat → Int → List Int → Int → Int → Int → Int → Int → Option (List Int)
 | 0, _, _, _, _, _, _, _ => none
 | k + 1, x1, x5, x9, x10, x309000, x309001, x309002 => if x10 < x9 then (if x1 = 0 then (none) else (if x5.length < 17592186044416 then (zgK.l0 k x1 (x5 ++ [Int.tmod (wrap64 (x309000 + x10)) x1]) x9 (wrap64 (x10 + 1)) x309000 x309001 x309002) else (none))) else (some x5)
def zgK.f (k : Nat) (a0_0 : Int) (a0_1 : Int) (a0_2 : Int) (a1 : Int) : Option (List Int) := zgK.l0 k a1 ([] : List Int) (wrap64 (a0_1 + 1)) 0 a0_0 a0_1 a0_2
theorem zgK.mono_l : ∀ k, (∀ y0 y1 y2 y3 y4 y5 y6, LeO (zgK.l0 k y0 y1 y2 y3 y4 y5 y6) (zgK.l0 (k + 1) y0 y1 y2 y3 y4 y5 y6))
 | 0 => fun _ _ _ _ _ _ _ r h => by simp [zgK.l0] at h
 | k + 1 => by
  have ih0 := zgK.mono_l k
  ·intro y0 y1 y2 y3 y4 y5 y6
   unfold zgK.l0
   repeat' first
   | (with_reducible exact ih0 _ _ _ _ _ _ _)
   | (with_reducible exact LeO.refl _)
   | (with_reducible exact LeO.none _)
   | (with_reducible refine LeO.ite ?_ ?_)
   | (with_reducible refine LeO.bind ?_ (fun _ => ?_))
   | exact ih0 _ _ _ _ _ _ _
   | exact LeO.none _
   | refine LeO.ite ?_ ?_
   | refine LeO.bind ?_ (fun _ => ?_)
theorem zgK.mono : ∀ a0 a1 a2 a3 k, LeO (zgK.f k a0 a1 a2 a3) (zgK.f (k + 1) a0 a1 a2 a3) := by
 intro a0 a1 a2 a3 k
 have ih0 := zgK.mono_l k
 unfold zgK.f
 repeat' first
   | (with_reducible exact ih0 _ _ _ _ _ _ _)
   | (with_reducible exact LeO.refl _)
   | (with_reducible exact LeO.none _)
   | (with_reducible refine LeO.ite ?_ ?_)
   | (with_reducible refine LeO.bind ?_ (fun _ => ?_))
   | exact ih0 _ _ _ _ _ _ _
   | exact LeO.none _
   | refine LeO.ite ?_ ?_
   | refine LeO.bind ?_ (fun _ => ?_)
set_option maxHeartbeats 8000000 in
set_option maxRecDepth 100000 in
theorem zgK.calls (k : Nat) (a0_0 : Int) (a0_1 : Int) (a0_2 : Int) (a1 : Int) (r : List Int) (w : World) (h : zgK.f k a0_0 a0_1 a0_2 a1 = some r) :
  Calls Try.prog 34 #[.agg #[.int .i64 a0_0, .int .i64 a0_1, .int .i64 a0_2], .int .i64 a1] w fun e w' => ∃ v0_ : Value, e = .returned (v0_) ∧ Kd.R (Kd.int .i64) 2 w' w.heap.size (fun _ => True) v0_ r ∧ Below w.heap.size w w' := by
 have hu51 := Try.underlying51
 have HB := zpS (Below.refl w.heap.size w)
 have H : (zgK.l0 k a1 ([] : List Int) (wrap64 (a0_1 + 1)) 0 a0_0 a0_1 a0_2) = some r := h
 clear h
 have H' := zpS H
 clear H
 go_enter Try.func34, Try.ntmps34
 go_wp2_with (first | ((with_reducible refine gate_dst (N := 2) rfl ?_); refine bx_ 2 #[.int .i64 a0_0, .int .i64 a0_1, .int .i64 a0_2] 51 ?_; intro gb308 hg w3 hbox hb; have n0_ := (ns_ hb); have n1_ := zpS (hbox); have n2_ := (ng_ hg); have n3_ := n2_; clear HB; have HB := n0_; have BK308 := n1_; have GW308 := n2_; have GE308 := n3_; clear n0_ n1_ n2_ n3_; clear hb hbox hg; obtain ⟨hcz4_0, hcz4_1, hcz4_2⟩ := cz3_ BK308.out; obtain ⟨hfz4_0, hfz4_1, hfz4_2⟩ := fz3_ BK308.out))
 (try go_simp)
 go_loopg [5, 10] k (fun kq v5 v10 w' => ∃ (x5_1 : List Int) (x10_1 : Int), v10 = .int .i64 x10_1 ∧ Aside0 (zgK.l0 kq a1 x5_1 (wrap64 (a0_1 + 1)) x10_1 a0_0 a0_1 a0_2 = some r) ∧ Aside0 (kq ≤ k) ∧ Aside0 (Kd.R (Kd.int .i64) 2 w' w.heap.size (fun _ => True) v5 x5_1) ∧ Aside0 (w'.heap[gb308]? = some (.cells #[.int .i64 a0_0, .int .i64 a0_1, .int .i64 a0_2] 51 (0, 0))) ∧ Aside0 (Below w.heap.size w w'))
 case atStart => exact ⟨(([] : List Int)), (0), (by first | rfl | (simp; done) | (simp [*]; done)), H', ⟨Nat.le_refl _⟩, ⟨by first | exact Kd.R_nil _ _ _ _ _ | exact Kd.N_nil _ _ _ _ _ | exact Kd.V_nil _ _ _ _ _ | exact Kd.Q_nil _ _ _ _ _ | exact Kd.S_nil _ _ _ _ _⟩, ⟨bk_⟩, ⟨bb_⟩⟩
 case round =>
  clear H'
  try clear p2
  try clear c3
  try clear hcz4_0
  try clear hcz4_1
  try clear hcz4_2
  try clear hfz4_0
  try clear hfz4_1
  try clear hfz4_2
  obtain ⟨x5_1, x10_1, rfl, HA, HK1, HO_5, BK308, HB⟩ := hrel
  cases gk with
  | zero => exact absurd HA.out (by simp [zgK.l0])
  | succ k1 =>
   have H := HA.out
   clear HA
   simp only [zgK.l0] at H
   by_cases c5 : x10_1 < (wrap64 (a0_1 + 1))
   ·rw [if_pos c5] at H
    have c5b0 : decide (x10_1 < (wrap64 (a0_1 + 1))) = true := decide_eq_true c5
    clear c5
    by_cases c6 : a1 = 0
    ·rw [if_pos c6] at H
     exact absurd H (by simp)
    ·rw [if_neg c6] at H
     have c6b0 : (a1 == 0) = false := beq_eq_false_iff_ne.mpr c6
     have c6b1 : (a1 != 0) = true := bne_iff_ne.mpr c6
     by_cases c7 : x5_1.length < 17592186044416
     ·rw [if_pos c7] at H
      have LMc7 := zpS c7
      clear c7
      obtain ⟨y309, hy309⟩ : ∃ y_ : List Int, y_ = (x5_1 ++ [Int.tmod (wrap64 (a0_0 + x10_1)) a1]) := ⟨_, rfl⟩
      replace H : (zgK.l0 k1 a1 y309 (wrap64 (a0_1 + 1)) (wrap64 (x10_1 + 1)) a0_0 a0_1 a0_2) = some r := by first | (rw [hy309]; with_reducible exact H) | (have H2_ := (Option.bind_some _ _).symm.trans H; rw [hy309]; with_reducible exact H2_) | (have H2_ := (Option.bind_some _ _).symm.trans H; with_reducible exact H2_) | with_reducible exact H | (rw [hy309]; exact H) | exact H
      have Ny309 := zpS hy309
      clear hy309
      have H' := zpS H
      clear H
      obtain ⟨hcz8_0, hcz8_1, hcz8_2⟩ := cz3_ BK308.out
      obtain ⟨hfz8_0, hfz8_1, hfz8_2⟩ := fz3_ BK308.out
      go_wp2_with (first | ((with_reducible refine zcO (b := .append) (xs := #[.tmp 13, .tmp 20]) rfl ?_); at_builtin; refine Kd.R_append (Kd.int .i64) (w0 := w) w.heap.size rfl (.tmp 13) (.tmp 20) 24 2 (.int .i64 0) 8 rfl Try.underlying24 info2 rfl (by decide) (by omega) u5 x5_1 (Int.tmod (wrap64 (a0_0 + x10_1)) a1) [.int .i64 (Int.tmod (wrap64 (a0_0 + x10_1)) a1)] (fun _ => True) (fun _ => False) rfl rfl ?aP (fun _ hk => hk.elim) ?aF ?aO ?aB ?aS ?aL ?_; (case aP => exact rfl); (case aB => exact bb_); (case aF => exact (fun _ _ => trivial)); (case aO => exact (by (with_reducible repeat (first | apply Kd.R_alloc | apply Kd.R_drewN | apply Kd.R_drew)); exact HO_5.out)); (case aS => exact (zuA bb_)); (case aL => have := LMc7.out; omega); intro v310 w9 ho hb hg hat; rw [← Ny309.out] at ho; have n0_ := zpS (blk_grown (g := gb308) (o := .cells #[.int .i64 a0_0, .int .i64 a0_1, .int .i64 a0_2] 51 (0, 0)) bk_ hg (Kd.R_ne HO_5.out BK308.out (by decide))); have n1_ := zpS (hb); have n2_ := zpS (ho); clear BK308; clear HB; clear HO_5; have BK308 := n0_; have HB := n1_; have HO311 := n2_; clear n0_ n1_ n2_; clear ho hb hg hat))
      go_roundg k1
      case measure => have := HK1.out; omega
      case rel => exact ⟨(y309), (wrap64 (x10_1 + 1)), (by first | rfl | (simp; done) | (simp [*]; done)), H', ⟨by have := HK1.out; omega⟩, ⟨by (with_reducible repeat (first | apply Kd.R_alloc | apply Kd.R_drewN | apply Kd.R_drew)); exact HO311.out⟩, ⟨bk_⟩, ⟨bb_⟩⟩
     ·rw [if_neg c7] at H
      exact absurd H (by simp)
   ·rw [if_neg c5] at H
    have c5b0 : decide (x10_1 < (wrap64 (a0_1 + 1))) = false := decide_eq_false c5
    clear c5
    obtain rfl := Option.some.inj H
    go_wp2
    go_ret
    exact ⟨_, by first | rfl | (simp [ziS, znJ] <;> rfl) | (simp [*, ziS, znJ] <;> rfl), by (with_reducible repeat (first | apply Kd.R_alloc | apply Kd.R_drewN | apply Kd.R_drew)); exact HO_5.out, bb_⟩

def zbF.f (k : Nat) (a0_0 : Int) (a0_1 : Int) (a0_2 : Int) (l1 : List Int) : Option (Bool) := (zfN.f l1).bind fun t313 => ((zgK.f k a0_0 a0_1 a0_2 t313).bind fun t314 => ((zrS.f k l1 t314).bind fun t317 => ((zyZ.f k t317).bind fun t320 => (some (t320 == (Int.tmod (wrap64 (a0_1 + 1)) 2))))))
theorem zbF.mono : ∀ a0 a1 a2 a3 k, LeO (zbF.f k a0 a1 a2 a3) (zbF.f (k + 1) a0 a1 a2 a3) := by
 intro a0 a1 a2 a3 k
 unfold zbF.f
 repeat' first
   | (with_reducible exact zrS.mono _ _ _)
   | (with_reducible exact zyZ.mono _ _)
   | (with_reducible exact zgK.mono _ _ _ _ _)
   | (with_reducible exact LeO.refl _)
   | (with_reducible exact LeO.none _)
   | (with_reducible refine LeO.ite ?_ ?_)
   | (with_reducible refine LeO.bind ?_ (fun _ => ?_))
   | exact zrS.mono _ _ _
   | exact zyZ.mono _ _
   | exact zgK.mono _ _ _ _ _
   | exact LeO.none _
   | refine LeO.ite ?_ ?_
   | refine LeO.bind ?_ (fun _ => ?_)
def zbF.T1 : Bool × List (List Nat × List Nat) := (true, [([], []), ([], []), ([], []), ([2], [2]), ([1, 3, 3], [1, 3]), ([0, 4, 4], [0, 4]), ([5, 5], [5]), ([], []), ([7], [7]), ([8], [8]), ([9], [9]), ([6, 10], [6, 10]), ([11, 6, 0, 1, 2, 3, 4, 5, 6, 7, 8, 9, 10, 11], [11])])
def zbF.B1 : List Nat := [0, 0, 0, 4, 14, 31, 63, 0, 128, 384, 896, 2047, 4095]
theorem zbF.tab1 : rtab .any (opsOf Try.f32 1) = zbF.T1 := by kernel_rfl
theorem zbF.bits1 : ztE zbF.T1.2 zbF.B1 = true := by kernel_rfl
set_option maxHeartbeats 8000000 in
set_option maxRecDepth 100000 in
theorem zbF.calls (k : Nat) (a0_0 : Int) (a0_1 : Int) (a0_2 : Int) (A1 : Option Addr) (c1 : Nat) (l1 : List Int) (r : Bool) (w : World) (hr1 : Kd.C (Kd.int .i64) w A1 l1.length l1) (hc1 : l1.length ≤ c1) (h : zbF.f k a0_0 a0_1 a0_2 l1 = some r) :
  Calls Try.prog 32 #[.agg #[.int .i64 a0_0, .int .i64 a0_1, .int .i64 a0_2], .slice A1 l1.length c1] w fun e w' => e = .returned (.bool r) ∧ Below w.heap.size w w' := by
 have hu51 := Try.underlying51
 have HR1 := zpS hr1
 have HC1 := zpS hc1
 clear hr1 hc1
 have HB := zpS (Below.refl w.heap.size w)
 have H : ((zfN.f l1).bind fun t313 => ((zgK.f k a0_0 a0_1 a0_2 t313).bind fun t314 => ((zrS.f k l1 t314).bind fun t317 => ((zyZ.f k t317).bind fun t320 => (some (t320 == (Int.tmod (wrap64 (a0_1 + 1)) 2))))))) = some r := h
 clear h
 replace H := Option.bind_eq_some_iff.mp H
 obtain ⟨t313, A30, H⟩ := H
 replace H : ((zgK.f k a0_0 a0_1 a0_2 t313).bind fun t314 => ((zrS.f k l1 t314).bind fun t317 => ((zyZ.f k t317).bind fun t320 => (some (t320 == (Int.tmod (wrap64 (a0_1 + 1)) 2)))))) = some r := H
 have A3 := zpS A30
 clear A30
 replace H := Option.bind_eq_some_iff.mp H
 obtain ⟨t314, A40, H⟩ := H
 replace H : ((zrS.f k l1 t314).bind fun t317 => ((zyZ.f k t317).bind fun t320 => (some (t320 == (Int.tmod (wrap64 (a0_1 + 1)) 2))))) = some r := H
 have A4 := zpS A40
 clear A40
 replace H := Option.bind_eq_some_iff.mp H
 obtain ⟨t317, A50, H⟩ := H
 replace H : ((zyZ.f k t317).bind fun t320 => (some (t320 == (Int.tmod (wrap64 (a0_1 + 1)) 2)))) = some r := H
 have A5 := zpS A50
 clear A50
 replace H := Option.bind_eq_some_iff.mp H
 obtain ⟨t320, A60, H⟩ := H
 replace H : (some (t320 == (Int.tmod (wrap64 (a0_1 + 1)) 2))) = some r := H
 have A6 := zpS A60
 clear A60
 obtain rfl := Option.some.inj H
 go_enter Try.func32, Try.ntmps32
 try go_wp2_with (first | ((with_reducible refine gate_dst (N := 2) rfl ?_); refine bx_ 2 #[.int .i64 a0_0, .int .i64 a0_1, .int .i64 a0_2] 51 ?_; intro gb312 hg w7 hbox hb; have n0_ := (ns_ hb); have n1_ := zpS (hbox); have n2_ := (ng_ hg); have n3_ := n2_; clear HB; have HB := n0_; have BK312 := n1_; have GW312 := n2_; have GE312 := n3_; clear n0_ n1_ n2_ n3_; clear hb hbox hg))
 have n0_ := zpS (ztN BK312.out)
 have n1_ := zpS (zvF HB.out)
 clear BK312
 clear HB
 have BK312 := n0_
 have HB := n1_
 clear n0_ n1_
 refine start_ (n := 13) (S := fun w' => w'.cell? ⟨gb312, 0, none⟩ = some (.int .i64 a0_0) ∧ w'.cell? ⟨gb312, 1, none⟩ = some (.int .i64 a0_1) ∧ w'.cell? ⟨gb312, 2, none⟩ = some (.int .i64 a0_2)) (ds := []) #[false, false, false, false, false, false, false, false, false, false, false, false, false] (by kernel_rfl) rfl rfl ⟨(zzS BK312.out 0).trans rfl, (zzS BK312.out 1).trans rfl, (zzS BK312.out 2).trans rfl⟩ (fun hHeld => ?_); refine zwI zbF.tab1 zbF.bits1 (fun HT_ HW_ => ?_)
 generalize w7.drew = w8 at BK312 HB hHeld ⊢
 refine pu_ 0 (some 5) (bl_ 13 1) ?_
 refine pu_ 2 (some 7) (bl_ 13 5) ?_
 refine pu_ 7 (some 12) (bl_ 13 133) ?_
 refine tk3_ 1 (some 6) (bl_ 13 135) hHeld ?_
 refine tk3_ 8 (some 13) (bl_ 13 391) hHeld ?_
 refine pu_ 9 (some 14) (bl_ 13 903) ?_
 refine pu_ 10 (some 15) (bl_ 13 1927) ?_
 refine one_ (i := 3) (N := some 8) (bl_ 13 1935) rfl rfl (zeO HT_.out (by kernel_rfl)) (by decide) (fun K hK => ?_)
 refine goes_ Try.func18 (by kernel_rfl) rfl #[.slice A1 l1.length c1] (by rfl) rfl rfl (by (try simp only [List.map_toArray, List.map_cons, List.map_nil]); first | done | rfl | (simp only [List.length_drop, List.length_take]; rfl)) ?_
 with_reducible refine (zfN.calls _ _ l1 t313 _ ?side1 ?side2 A3.out).mono ?_
 (case side1 => repeat (first | exact (Kd.C_below HR1.out HB.out) | (with_reducible refine Kd.C_alloc ?_ _) | (with_reducible refine Kd.C_drewN ?_ _) | (with_reducible refine Kd.C_drew ?_)))
 (case side2 => exact HC1.out)
 rintro e w' ⟨rfl, ⟨nd, rfl⟩⟩
 refine ⟨_, rfl, ?_⟩
 refine hK.out _ _ ⟨(zzS BK312.out 0).trans rfl, (zzS BK312.out 1).trans rfl, (zzS BK312.out 2).trans rfl⟩ (fun hHeld => ?_)
 clear hK K
 refine zaN (a' := ?_) ?_ ?_
 rotate_left
 ·show Act.put _ (some 8) _ = _
  simp only [Act.put, List.setIfInBounds_toArray, List.set_cons_zero, List.set_cons_succ, zcM, ziJ]
  rfl
 refine one_ (i := 4) (N := some 9) (bl_ 13 1951) rfl rfl (zeO HT_.out (by kernel_rfl)) (by decide) (fun K hK => ?_)
 refine goes_ Try.func34 (by kernel_rfl) rfl #[.agg #[.int .i64 a0_0, .int .i64 a0_1, .int .i64 a0_2], .int .i64 t313] (by rfl) rfl rfl (by (try simp only [List.map_toArray, List.map_cons, List.map_nil]); first | done | rfl | (simp only [List.length_drop, List.length_take]; rfl)) ?_
 with_reducible refine (zgK.calls k a0_0 a0_1 a0_2 t313 t314 _ A4.out).mono ?_
 rintro e w9 ⟨v315, rfl, ho0, hb⟩
 refine ⟨_, rfl, ?_⟩
 have n0_ := zpS (Kd.R_lower ho0 (zuA bb_))
 have n1_ := zpS (zgN (g := gb312) (o := .cells #[.int .i64 a0_0, .int .i64 a0_1, .int .i64 a0_2] 51 (0, 0)) bk_ hb)
 have n2_ := (ns_ hb)
 clear BK312
 clear HB
 have HO316 := n0_
 have BK312 := n1_
 have HB := n2_
 clear n0_ n1_ n2_
 (try clear hb)
 (try clear hb2)
 (try clear hk)
 (try clear hi)
 (try clear ho0)
 obtain ⟨Ao10, co10, eo10⟩ := Kd.R_slice HO316.out
 (first | subst eo10 | (injection eo10 with f1_ f2_ f3_; have f4_ := f1_.symm; have f5_ := f3_.symm; clear f1_ f2_ f3_; subst f4_; subst f5_))
 refine hK.out _ _ ⟨(zzS BK312.out 0).trans rfl, (zzS BK312.out 1).trans rfl, (zzS BK312.out 2).trans rfl⟩ (fun hHeld => ?_)
 clear hK K
 refine zaN (a' := ?_) ?_ ?_
 rotate_left
 ·show Act.put _ (some 9) _ = _
  simp only [Act.put, List.setIfInBounds_toArray, List.set_cons_zero, List.set_cons_succ, zcM, ziJ]
  rfl
 refine one_ (i := 5) (N := some 10) (bl_ 13 1983) rfl rfl (zeO HT_.out (by kernel_rfl)) (by decide) (fun K hK => ?_)
 refine goes_ Try.func33 (by kernel_rfl) rfl #[.slice A1 l1.length c1, .slice Ao10 t314.length co10] (by rfl) rfl rfl (by (try simp only [List.map_toArray, List.map_cons, List.map_nil]); first | done | rfl | (simp only [List.length_drop, List.length_take]; rfl)) ?_
 with_reducible refine (zrS.calls k _ _ l1 _ _ t314 t317 _ ?side1 ?side2 ?side3 ?side4 A5.out).mono ?_
 (case side1 => repeat (first | exact (Kd.C_below HR1.out HB.out) | (with_reducible refine Kd.C_alloc ?_ _) | (with_reducible refine Kd.C_drewN ?_ _) | (with_reducible refine Kd.C_drew ?_)))
 (case side2 => exact HC1.out)
 (case side3 => repeat (first | exact (Kd.R_reads' HO316.out).2.2 | (with_reducible refine Kd.C_alloc ?_ _) | (with_reducible refine Kd.C_drewN ?_ _) | (with_reducible refine Kd.C_drew ?_)))
 (case side4 => exact (Kd.R_reads' HO316.out).2.1)
 rintro e w11 ⟨v318, rfl, ho0, hb⟩
 refine ⟨_, rfl, ?_⟩
 have n0_ := zpS (Kd.R_elder' (by (with_reducible repeat (first | apply Kd.R_alloc | apply Kd.R_drewN | apply Kd.R_drew)); exact HO316.out) (Kd.R_base ho0) hb)
 have n1_ := zpS (Kd.R_lower (Kd.R_new' ho0 (Kd.R_lt (by (with_reducible repeat (first | apply Kd.R_alloc | apply Kd.R_drewN | apply Kd.R_drew)); exact HO316.out))) (zuA bb_))
 have n2_ := zpS (zgN (g := gb312) (o := .cells #[.int .i64 a0_0, .int .i64 a0_1, .int .i64 a0_2] 51 (0, 0)) bk_ hb)
 have n3_ := (ns_ hb)
 clear HO316
 clear BK312
 clear HB
 have HO316 := n0_
 have HO319 := n1_
 have BK312 := n2_
 have HB := n3_
 clear n0_ n1_ n2_ n3_
 (try clear hb)
 (try clear hb2)
 (try clear hk)
 (try clear hi)
 (try clear ho0)
 obtain ⟨Ao12, co12, eo12⟩ := Kd.R_slice HO319.out
 (first | subst eo12 | (injection eo12 with f1_ f2_ f3_; have f4_ := f1_.symm; have f5_ := f3_.symm; clear f1_ f2_ f3_; subst f4_; subst f5_))
 refine hK.out _ _ ⟨(zzS BK312.out 0).trans rfl, (zzS BK312.out 1).trans rfl, (zzS BK312.out 2).trans rfl⟩ (fun hHeld => ?_)
 clear hK K
 refine zaN (a' := ?_) ?_ ?_
 rotate_left
 ·show Act.put _ (some 10) _ = _
  simp only [Act.put, List.setIfInBounds_toArray, List.set_cons_zero, List.set_cons_succ, zcM, ziJ]
  rfl
 refine one_ (i := 6) (N := some 11) (bl_ 13 2047) rfl rfl (zeO HT_.out (by kernel_rfl)) (by decide) (fun K hK => ?_)
 refine goes_ Try.func30 (by kernel_rfl) rfl #[.slice Ao12 t317.length co12] (by rfl) rfl rfl (by (try simp only [List.map_toArray, List.map_cons, List.map_nil]); first | done | rfl | (simp only [List.length_drop, List.length_take]; rfl)) ?_
 with_reducible refine (zyZ.calls k _ _ t317 t320 _ ?side1 ?side2 A6.out).mono ?_
 (case side1 => repeat (first | exact (Kd.R_reads' HO319.out).2.2 | (with_reducible refine Kd.C_alloc ?_ _) | (with_reducible refine Kd.C_drewN ?_ _) | (with_reducible refine Kd.C_drew ?_)))
 (case side2 => exact (Kd.R_reads' HO319.out).2.1)
 rintro e w13 ⟨rfl, hb⟩
 refine ⟨_, rfl, ?_⟩
 have n0_ := zpS (Kd.R_below (by (with_reducible repeat (first | apply Kd.R_alloc | apply Kd.R_drewN | apply Kd.R_drew)); exact HO316.out) hb)
 have n1_ := zpS (Kd.R_below (by (with_reducible repeat (first | apply Kd.R_alloc | apply Kd.R_drewN | apply Kd.R_drew)); exact HO319.out) hb)
 have n2_ := zpS (zgN (g := gb312) (o := .cells #[.int .i64 a0_0, .int .i64 a0_1, .int .i64 a0_2] 51 (0, 0)) bk_ hb)
 have n3_ := (ns_ hb)
 clear HO316
 clear HO319
 clear BK312
 clear HB
 have HO316 := n0_
 have HO319 := n1_
 have BK312 := n2_
 have HB := n3_
 clear n0_ n1_ n2_ n3_
 (try clear hb)
 (try clear hb2)
 (try clear hk)
 (try clear hi)
 refine hK.out _ _ ⟨(zzS BK312.out 0).trans rfl, (zzS BK312.out 1).trans rfl, (zzS BK312.out 2).trans rfl⟩ (fun hHeld => ?_)
 clear hK K
 refine zaN (a' := ?_) ?_ ?_
 rotate_left
 ·show Act.put _ (some 11) _ = _
  simp only [Act.put, List.setIfInBounds_toArray, List.set_cons_zero, List.set_cons_succ, zcM, ziJ]
  rfl
 refine pu_ 11 (some 16) (bl_ 13 4095) ?_
 refine pu_ 12 (some 4) (bl_ 13 8191) ?_
 refine done_ (done_of HT_.out (by kernel_rfl)) ?_
 try go_wp2
 go_ret
 exact ⟨by first | rfl | (simp [ziS, znJ] <;> rfl) | (simp [*, ziS, znJ] <;> rfl), bb_⟩

end Go.Proofs.Ytdnblakbegjohaa.PFnCrimps
