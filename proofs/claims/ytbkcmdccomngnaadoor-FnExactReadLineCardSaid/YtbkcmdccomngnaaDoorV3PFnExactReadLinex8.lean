-- Printed for this claim by this session's program pp.py, which drives the kit's print with additions. Not trusted: Lean checks it.
import Derived.Test.YtbkcmdccomngnaaDoorV3PFnExactReadLinex0
import Derived.Test.YtbkcmdccomngnaaDoorV3PFnExactReadLinex6
import Derived.Test.YtbkcmdccomngnaaDoorV3PFnExactReadLinex7
namespace Go.Proofs.YtbkcmdccomngnaaDoor.PFnExactReadLine
open Go.RowKit Go.Proofs.YtbkcmdccomngnaaDoorW.PrintWords Go.Proofs.YtbkcmdccomngnaaDoorW.PrintLast Go.Proofs.YtbkcmdccomngnaaDoorW.PrintMore
attribute [local go_sem] max2_int min2_int max_two min_two znE zuA max_four min_four   -- for this text's walks alone
set_option linter.unusedVariables false
set_option maxHeartbeats 8000000
set_option maxRecDepth 100000
set_option linter.unusedSimpArgs false

mutual
def zjG.j0 : Nat → ByteArray → Bool → Int → Int → Int → Option (ByteArray)
 | 0, _, _, _, _, _ => none
 | k + 1, x3, x8, x177000, x177001, x177002 => if x8 = true then ((zcM.f x177001).bind fun t178 => (if t178.size + 1 ≤ 9223372036854775807 then (if x177002 = 0 then (some (t178 ++ (⟨#[114]⟩ : ByteArray))) else (if 0 ≤ x177002 then ((zcM.f (shl .i64 1 x177002)).bind fun t179 => (if 1 + t179.size ≤ 9223372036854775807 then (if (t178 ++ (⟨#[114]⟩ : ByteArray)).size + ((⟨#[47]⟩ : ByteArray) ++ t179).size ≤ 9223372036854775807 then (some ((t178 ++ (⟨#[114]⟩ : ByteArray)) ++ ((⟨#[47]⟩ : ByteArray) ++ t179))) else (none)) else (none))) else (none))) else (none))) else (if x177001 = 0 then (if x177002 = 0 then (some x3) else (if 0 ≤ x177002 then ((zcM.f (shl .i64 1 x177002)).bind fun t180 => (if 1 + t180.size ≤ 9223372036854775807 then (if x3.size + ((⟨#[47]⟩ : ByteArray) ++ t180).size ≤ 9223372036854775807 then (some (x3 ++ ((⟨#[47]⟩ : ByteArray) ++ t180))) else (none)) else (none))) else (none))) else (if x177001 < 0 then (zjG.j1 k x3 (⟨#[45]⟩ : ByteArray) x177000 x177001 x177002) else (zjG.j1 k x3 (⟨#[43]⟩ : ByteArray) x177000 x177001 x177002)))
def zjG.j1 : Nat → ByteArray → ByteArray → Int → Int → Int → Option (ByteArray)
 | 0, _, _, _, _, _ => none
 | k + 1, x3, x4, x177000, x177001, x177002 => (impl_abs.f x177001).bind fun t181 => ((zcM.f t181).bind fun t182 => (if x4.size + t182.size ≤ 9223372036854775807 then (if (x4 ++ t182).size + 1 ≤ 9223372036854775807 then (if x3.size + ((x4 ++ t182) ++ (⟨#[114]⟩ : ByteArray)).size ≤ 9223372036854775807 then (if x177002 = 0 then (some (x3 ++ ((x4 ++ t182) ++ (⟨#[114]⟩ : ByteArray)))) else (if 1 + (x3 ++ ((x4 ++ t182) ++ (⟨#[114]⟩ : ByteArray))).size ≤ 9223372036854775807 then (if ((⟨#[40]⟩ : ByteArray) ++ (x3 ++ ((x4 ++ t182) ++ (⟨#[114]⟩ : ByteArray)))).size + 1 ≤ 9223372036854775807 then (if 0 ≤ x177002 then ((zcM.f (shl .i64 1 x177002)).bind fun t183 => (if 1 + t183.size ≤ 9223372036854775807 then (if (((⟨#[40]⟩ : ByteArray) ++ (x3 ++ ((x4 ++ t182) ++ (⟨#[114]⟩ : ByteArray)))) ++ (⟨#[41]⟩ : ByteArray)).size + ((⟨#[47]⟩ : ByteArray) ++ t183).size ≤ 9223372036854775807 then (some ((((⟨#[40]⟩ : ByteArray) ++ (x3 ++ ((x4 ++ t182) ++ (⟨#[114]⟩ : ByteArray)))) ++ (⟨#[41]⟩ : ByteArray)) ++ ((⟨#[47]⟩ : ByteArray) ++ t183))) else (none)) else (none))) else (none)) else (none)) else (none))) else (none)) else (none)) else (none)))
end
def zjG.f (k : Nat) (a0_0 : Int) (a0_1 : Int) (a0_2 : Int) : Option (ByteArray) := (zcM.f a0_0).bind fun t177 => (if a0_0 = 0 then (zjG.j0 k t177 (a0_1 != 0) a0_0 a0_1 a0_2) else (zjG.j0 k t177 false a0_0 a0_1 a0_2))
theorem zjG.mono_l : ∀ k, (∀ y0 y1 y2 y3 y4, LeO (zjG.j0 k y0 y1 y2 y3 y4) (zjG.j0 (k + 1) y0 y1 y2 y3 y4)) ∧ (∀ y0 y1 y2 y3 y4, LeO (zjG.j1 k y0 y1 y2 y3 y4) (zjG.j1 (k + 1) y0 y1 y2 y3 y4))
 | 0 => ⟨fun _ _ _ _ _ r h => by simp [zjG.j0] at h, fun _ _ _ _ _ r h => by simp [zjG.j1] at h⟩
 | k + 1 => by
  obtain ⟨ih0, ih1⟩ := zjG.mono_l k
  refine ⟨?_, ?_⟩
  ·intro y0 y1 y2 y3 y4
   unfold zjG.j0
   repeat' first
   | (with_reducible exact ih0 _ _ _ _ _)
   | (with_reducible exact ih1 _ _ _ _ _)
   | (with_reducible exact LeO.refl _)
   | (with_reducible exact LeO.none _)
   | (with_reducible refine LeO.ite ?_ ?_)
   | (with_reducible refine LeO.bind ?_ (fun _ => ?_))
   | exact ih0 _ _ _ _ _
   | exact ih1 _ _ _ _ _
   | exact LeO.none _
   | refine LeO.ite ?_ ?_
   | refine LeO.bind ?_ (fun _ => ?_)
  ·intro y0 y1 y2 y3 y4
   unfold zjG.j1
   repeat' first
   | (with_reducible exact ih0 _ _ _ _ _)
   | (with_reducible exact ih1 _ _ _ _ _)
   | (with_reducible exact LeO.refl _)
   | (with_reducible exact LeO.none _)
   | (with_reducible refine LeO.ite ?_ ?_)
   | (with_reducible refine LeO.bind ?_ (fun _ => ?_))
   | exact ih0 _ _ _ _ _
   | exact ih1 _ _ _ _ _
   | exact LeO.none _
   | refine LeO.ite ?_ ?_
   | refine LeO.bind ?_ (fun _ => ?_)
theorem zjG.mono : ∀ a0 a1 a2 k, LeO (zjG.f k a0 a1 a2) (zjG.f (k + 1) a0 a1 a2) := by
 intro a0 a1 a2 k
 obtain ⟨ih0, ih1⟩ := zjG.mono_l k
 unfold zjG.f
 repeat' first
   | (with_reducible exact ih0 _ _ _ _ _)
   | (with_reducible exact ih1 _ _ _ _ _)
   | (with_reducible exact LeO.refl _)
   | (with_reducible exact LeO.none _)
   | (with_reducible refine LeO.ite ?_ ?_)
   | (with_reducible refine LeO.bind ?_ (fun _ => ?_))
   | exact ih0 _ _ _ _ _
   | exact ih1 _ _ _ _ _
   | exact LeO.none _
   | refine LeO.ite ?_ ?_
   | refine LeO.bind ?_ (fun _ => ?_)
theorem zjG.calls (k : Nat) (a0_0 : Int) (a0_1 : Int) (a0_2 : Int) (r : ByteArray) (w : World) (hG : LaidV w) (h : zjG.f k a0_0 a0_1 a0_2 = some r) :
  Calls Tryd.prog 29 #[.agg #[.int .i64 a0_0, .int .i64 a0_1, .int .i64 a0_2]] w fun e w' => e = .returned (.string r) ∧ Below w.heap.size w w' := by
 have hu23 := Tryd.underlying23
 have HB := zpS (Below.refl w.heap.size w)
 have H : ((zcM.f a0_0).bind fun t177 => (if a0_0 = 0 then (zjG.j0 k t177 (a0_1 != 0) a0_0 a0_1 a0_2) else (zjG.j0 k t177 false a0_0 a0_1 a0_2))) = some r := h
 clear h
 replace H := Option.bind_eq_some_iff.mp H
 obtain ⟨t177, A20, H⟩ := H
 replace H : (if a0_0 = 0 then (zjG.j0 k t177 (a0_1 != 0) a0_0 a0_1 a0_2) else (zjG.j0 k t177 false a0_0 a0_1 a0_2)) = some r := H
 have A2 := zpS A20
 clear A20
 have HC3 := zpS H
 clear H
 go_enter Tryd.func29, Tryd.ntmps29
 go_upto_region 2 with (first | ((with_reducible refine zpZ (N := 1) rfl ?_); refine bx_ 1 #[.int .i64 a0_0, .int .i64 a0_1, .int .i64 a0_2] 23 ?_; intro gb176 hg w4 hbox hb; have n0_ := (ns_ hb); have n1_ := zpS (hbox); have n2_ := (ng_ hg); have n3_ := n2_; clear HB; have HB := n0_; have BK176 := n1_; have GW176 := n2_; have GE176 := n3_; clear n0_ n1_ n2_ n3_; clear hb hbox hg; obtain ⟨hcz5_0, hcz5_1, hcz5_2⟩ := zdT BK176.out; obtain ⟨hfz5_0, hfz5_1, hfz5_2⟩ := zqD BK176.out) | ((with_reducible refine zgK (f := 42) rfl ?_); refine zqQ (some 7) rfl rfl Tryd.func42 (by kernel_rfl) rfl #[.int .i64 a0_0] rfl (by (try simp only [List.map_toArray, List.map_cons, List.map_nil]); first | done | rfl | (simp only [List.length_drop, List.length_take]; rfl)) ?_; (with_reducible refine (zcM.calls a0_0 t177 _ ?side1 A2.out).mono ?_); (case side1 => exact LaidV.below hG bb_); rintro e w6 ⟨rfl, hb⟩; refine ⟨_, rfl, ?_⟩; have n0_ := zpS (zgM (g := gb176) (o := .cells #[.int .i64 a0_0, .int .i64 a0_1, .int .i64 a0_2] 23 (0, 0)) bk_ hb); have n1_ := (ns_ hb); clear BK176; clear HB; have BK176 := n0_; have HB := n1_; clear n0_ n1_; (try clear hb); (try clear hb2)))
 (try simp only [Act.put, set_a_, set_b_, set_c_])
 go_cut [8] (fun v8 wc => ∃ (kq : Nat) (x8_2 : Bool), v8 = .bool x8_2 ∧ Aside0 (zjG.j0 kq t177 x8_2 a0_0 a0_1 a0_2 = some r) ∧ Aside0 (kq ≤ k) ∧ Aside0 (wc.heap[gb176]? = some (.cells #[.int .i64 a0_0, .int .i64 a0_1, .int .i64 a0_2] 23 (0, 0))) ∧ Aside0 (Below w.heap.size w wc))
 case first =>
  have H := HC3.out
  clear HC3
  by_cases c7 : a0_0 = 0
  ·rw [if_pos c7] at H
   have c7b0 : (a0_0 == 0) = true := beq_iff_eq.mpr c7
   have c7b1 : (a0_0 != 0) = false := bne_eq_false_iff_eq.mpr c7
   clear c7
   (first | rw [c7b0] | (simp only [zcN, ziJ]; rw [c7b0]) | skip)
   have H' := zpS H
   clear H
   obtain ⟨hcz8_0, hcz8_1, hcz8_2⟩ := zdT BK176.out
   obtain ⟨hfz8_0, hfz8_1, hfz8_2⟩ := zqD BK176.out
   go_wp2
   go_meet
   case rel => exact ⟨_, ((a0_1 != 0)), (by first | rfl | (simp; done) | (simp [*]; done)), H', ⟨by first | omega | exact Nat.le_refl _⟩, ⟨bk_⟩, ⟨bb_⟩⟩
  ·rw [if_neg c7] at H
   have c7b0 : (a0_0 == 0) = false := beq_eq_false_iff_ne.mpr c7
   have c7b1 : (a0_0 != 0) = true := bne_iff_ne.mpr c7
   (first | rw [c7b0] | (simp only [zcN, ziJ]; rw [c7b0]) | skip)
   have H' := zpS H
   clear H
   obtain ⟨hcz9_0, hcz9_1, hcz9_2⟩ := zdT BK176.out
   obtain ⟨hfz9_0, hfz9_1, hfz9_2⟩ := zqD BK176.out
   go_wp2
   go_meet
   case rel => exact ⟨_, (false), (by first | rfl | (simp; done) | (simp [*]; done)), H', ⟨by first | omega | exact Nat.le_refl _⟩, ⟨bk_⟩, ⟨bb_⟩⟩
 case rest =>
  clear HC3
  try clear c2
  try clear p2
  try clear c4
  try clear c7
  try clear c7b0
  try clear c7b1
  try clear hcz5_0
  try clear hcz5_1
  try clear hcz5_2
  try clear hcz8_0
  try clear hcz8_1
  try clear hcz8_2
  try clear hcz9_0
  try clear hcz9_1
  try clear hcz9_2
  try clear hfz5_0
  try clear hfz5_1
  try clear hfz5_2
  try clear hfz8_0
  try clear hfz8_1
  try clear hfz8_2
  try clear hfz9_0
  try clear hfz9_1
  try clear hfz9_2
  obtain ⟨kq, x8_2, rfl, HA, HJ2, BK176, HB⟩ := hcut
  cases kq with
  | zero => exact absurd HA.out (by simp [zjG.j0])
  | succ kj2 =>
   have H := HA.out
   clear HA
   simp only [zjG.j0] at H
   by_cases c10 : x8_2 = true
   ·subst c10
    have H1 : ((zcM.f a0_1).bind fun t178 => (if t178.size + 1 ≤ 9223372036854775807 then (if a0_2 = 0 then (some (t178 ++ (⟨#[114]⟩ : ByteArray))) else (if 0 ≤ a0_2 then ((zcM.f (shl .i64 1 a0_2)).bind fun t179 => (if 1 + t179.size ≤ 9223372036854775807 then (if (t178 ++ (⟨#[114]⟩ : ByteArray)).size + ((⟨#[47]⟩ : ByteArray) ++ t179).size ≤ 9223372036854775807 then (some ((t178 ++ (⟨#[114]⟩ : ByteArray)) ++ ((⟨#[47]⟩ : ByteArray) ++ t179))) else (none)) else (none))) else (none))) else (none))) = some r := by rw [if_pos rfl] at H; exact H
    clear H
    have H := H1
    clear H1
    replace H := Option.bind_eq_some_iff.mp H
    obtain ⟨t178, A110, H⟩ := H
    replace H : (if t178.size + 1 ≤ 9223372036854775807 then (if a0_2 = 0 then (some (t178 ++ (⟨#[114]⟩ : ByteArray))) else (if 0 ≤ a0_2 then ((zcM.f (shl .i64 1 a0_2)).bind fun t179 => (if 1 + t179.size ≤ 9223372036854775807 then (if (t178 ++ (⟨#[114]⟩ : ByteArray)).size + ((⟨#[47]⟩ : ByteArray) ++ t179).size ≤ 9223372036854775807 then (some ((t178 ++ (⟨#[114]⟩ : ByteArray)) ++ ((⟨#[47]⟩ : ByteArray) ++ t179))) else (none)) else (none))) else (none))) else (none)) = some r := H
    have A11 := zpS A110
    clear A110
    by_cases c12 : t178.size + 1 ≤ 9223372036854775807
    ·rw [if_pos c12] at H
     have c12b0 := eq_true c12
     have c12b1 : decide (t178.size + 1 ≤ 9223372036854775807) = true := decide_eq_true c12
     try have c12b2 : (9223372036854775807 < t178.size + 1) = False := eq_false (Nat.not_lt.2 c12)
     by_cases c13 : a0_2 = 0
     ·rw [if_pos c13] at H
      have c13b0 : (a0_2 == 0) = true := beq_iff_eq.mpr c13
      have c13b1 : (a0_2 != 0) = false := bne_eq_false_iff_eq.mpr c13
      clear c13
      obtain rfl := Option.some.inj H
      obtain ⟨hcz14_0, hcz14_1, hcz14_2⟩ := zdT BK176.out
      obtain ⟨hfz14_0, hfz14_1, hfz14_2⟩ := zqD BK176.out
      go_wp2_with (first | ((with_reducible refine zgK (f := 42) rfl ?_); refine zqQ (some 19) rfl rfl Tryd.func42 (by kernel_rfl) rfl #[.int .i64 a0_1] rfl (by (try simp only [List.map_toArray, List.map_cons, List.map_nil]); first | done | rfl | (simp only [List.length_drop, List.length_take]; rfl)) ?_; (with_reducible refine (zcM.calls a0_1 t178 _ ?side1 A11.out).mono ?_); (case side1 => exact LaidV.below hG bb_); rintro e w15 ⟨rfl, hb⟩; refine ⟨_, rfl, ?_⟩; have n0_ := zpS (zgM (g := gb176) (o := .cells #[.int .i64 a0_0, .int .i64 a0_1, .int .i64 a0_2] 23 (0, 0)) bk_ hb); have n1_ := (ns_ hb); clear BK176; clear HB; have BK176 := n0_; have HB := n1_; clear n0_ n1_; (try clear hb); (try clear hb2); obtain ⟨hcz16_0, hcz16_1, hcz16_2⟩ := zdT BK176.out; obtain ⟨hfz16_0, hfz16_1, hfz16_2⟩ := zqD BK176.out))
      go_ret
      exact ⟨by first | rfl | (simp [ziS, znJ] <;> rfl) | (simp [*, ziS, znJ] <;> rfl), bb_⟩
     ·rw [if_neg c13] at H
      have c13b0 : (a0_2 == 0) = false := beq_eq_false_iff_ne.mpr c13
      have c13b1 : (a0_2 != 0) = true := bne_iff_ne.mpr c13
      by_cases c17 : 0 ≤ a0_2
      ·rw [if_pos c17] at H
       have c17b0 := eq_true c17
       have c17b1 : decide (0 ≤ a0_2) = true := decide_eq_true c17
       clear c17
       obtain ⟨ji18, hji18⟩ : ∃ j_ : Int, (shl .i64 1 a0_2) = j_ := ⟨_, rfl⟩
       replace H : ((zcM.f (ji18)).bind fun t179 => (if 1 + t179.size ≤ 9223372036854775807 then (if (t178 ++ (⟨#[114]⟩ : ByteArray)).size + ((⟨#[47]⟩ : ByteArray) ++ t179).size ≤ 9223372036854775807 then (some ((t178 ++ (⟨#[114]⟩ : ByteArray)) ++ ((⟨#[47]⟩ : ByteArray) ++ t179))) else (none)) else (none))) = some r := by first | (rw [hji18] at H; exact H) | (simp only [hji18] at H ⊢; exact H)
       (try rw [hji18] at A11)
       have hji18_ : (IntKind.i64.wrap (1 * 2 ^ min a0_2.toNat 64)) = ji18 := hji18
       have hji18z : a0_2 ≤ 64 → (IntKind.i64.wrap (1 * 2 ^ a0_2.toNat)) = ji18 := shl_small hji18
       have hji18u : (IntKind.i64.wrap (2 ^ min a0_2.toNat 64)) = ji18 := by have h_ := hji18_; rw [Int.one_mul] at h_; exact h_
       have hji18v : a0_2 ≤ 64 → (IntKind.i64.wrap (2 ^ a0_2.toNat)) = ji18 := fun hle_ => by have h_ := hji18z hle_; rw [Int.one_mul] at h_; exact h_
       have hji18y : (wrap64 (1 * 2 ^ min a0_2.toNat 64)) = ji18 := (zcN _).symm.trans hji18_
       have hji18x : a0_2 ≤ 64 → (wrap64 (1 * 2 ^ a0_2.toNat)) = ji18 := fun h_ => (zcN _).symm.trans (hji18z h_)
       replace H := Option.bind_eq_some_iff.mp H
       obtain ⟨t179, A190, H⟩ := H
       replace H : (if 1 + t179.size ≤ 9223372036854775807 then (if (t178 ++ (⟨#[114]⟩ : ByteArray)).size + ((⟨#[47]⟩ : ByteArray) ++ t179).size ≤ 9223372036854775807 then (some ((t178 ++ (⟨#[114]⟩ : ByteArray)) ++ ((⟨#[47]⟩ : ByteArray) ++ t179))) else (none)) else (none)) = some r := H
       have A19 := zpS A190
       clear A190
       by_cases c20 : 1 + t179.size ≤ 9223372036854775807
       ·rw [if_pos c20] at H
        have c20b0 := eq_true c20
        have c20b1 : decide (1 + t179.size ≤ 9223372036854775807) = true := decide_eq_true c20
        try have c20b2 : (9223372036854775807 < 1 + t179.size) = False := eq_false (Nat.not_lt.2 c20)
        by_cases c21 : (t178 ++ (⟨#[114]⟩ : ByteArray)).size + ((⟨#[47]⟩ : ByteArray) ++ t179).size ≤ 9223372036854775807
        ·rw [if_pos c21] at H
         have c21b0 := eq_true c21
         have c21b1 : decide ((t178 ++ (⟨#[114]⟩ : ByteArray)).size + ((⟨#[47]⟩ : ByteArray) ++ t179).size ≤ 9223372036854775807) = true := decide_eq_true c21
         try have c21b2 : (9223372036854775807 < (t178 ++ (⟨#[114]⟩ : ByteArray)).size + ((⟨#[47]⟩ : ByteArray) ++ t179).size) = False := eq_false (Nat.not_lt.2 c21)
         (try (have c21b3 : (9223372036854775807 < t178.size + 1 + (1 + t179.size)) = False := eq_false (Nat.not_lt.2 (by have h_ := c21; simp only [ByteArray.size_append] at h_; exact h_))))
         obtain rfl := Option.some.inj H
         obtain ⟨hcz22_0, hcz22_1, hcz22_2⟩ := zdT BK176.out
         obtain ⟨hfz22_0, hfz22_1, hfz22_2⟩ := zqD BK176.out
         go_wp2_with (first | ((with_reducible refine zgK (f := 42) rfl ?_); refine zqQ (some 19) rfl rfl Tryd.func42 (by kernel_rfl) rfl #[.int .i64 a0_1] rfl (by (try simp only [List.map_toArray, List.map_cons, List.map_nil]); first | done | rfl | (simp only [List.length_drop, List.length_take]; rfl)) ?_; (with_reducible refine (zcM.calls a0_1 t178 _ ?side1 A11.out).mono ?_); (case side1 => exact LaidV.below hG bb_); rintro e w23 ⟨rfl, hb⟩; refine ⟨_, rfl, ?_⟩; have n0_ := zpS (zgM (g := gb176) (o := .cells #[.int .i64 a0_0, .int .i64 a0_1, .int .i64 a0_2] 23 (0, 0)) bk_ hb); have n1_ := (ns_ hb); clear BK176; clear HB; have BK176 := n0_; have HB := n1_; clear n0_ n1_; (try clear hb); (try clear hb2); obtain ⟨hcz24_0, hcz24_1, hcz24_2⟩ := zdT BK176.out; obtain ⟨hfz24_0, hfz24_1, hfz24_2⟩ := zqD BK176.out) | ((with_reducible refine zgK (f := 42) rfl ?_); refine zqQ (some 50) rfl rfl Tryd.func42 (by kernel_rfl) rfl #[.int .i64 ji18] rfl (by (try simp only [List.map_toArray, List.map_cons, List.map_nil]); first | done | (simp only [hji18]; rfl) | rfl | (simp only [List.length_drop, List.length_take]; rfl)) ?_; (with_reducible refine (zcM.calls ji18 t179 _ ?side1 A19.out).mono ?_); (case side1 => exact LaidV.below hG bb_); rintro e w25 ⟨rfl, hb⟩; refine ⟨_, rfl, ?_⟩; have n0_ := zpS (zgM (g := gb176) (o := .cells #[.int .i64 a0_0, .int .i64 a0_1, .int .i64 a0_2] 23 (0, 0)) bk_ hb); have n1_ := (ns_ hb); clear BK176; clear HB; have BK176 := n0_; have HB := n1_; clear n0_ n1_; (try clear hb); (try clear hb2)))
         go_ret
         exact ⟨by first | rfl | (simp [ziS, znJ] <;> rfl) | (simp only [← hji18]; first | rfl | (simp [ziS, znJ] <;> rfl)) | (simp [*, ziS, znJ] <;> rfl), bb_⟩
        ·rw [if_neg c21] at H
         exact absurd H (by simp)
       ·rw [if_neg c20] at H
        exact absurd H (by simp)
      ·rw [if_neg c17] at H
       exact absurd H (by simp)
    ·rw [if_neg c12] at H
     exact absurd H (by simp)
   ·replace c10 := Bool.eq_false_iff.mpr c10
    subst c10
    have H1 : (if a0_1 = 0 then (if a0_2 = 0 then (some t177) else (if 0 ≤ a0_2 then ((zcM.f (shl .i64 1 a0_2)).bind fun t180 => (if 1 + t180.size ≤ 9223372036854775807 then (if t177.size + ((⟨#[47]⟩ : ByteArray) ++ t180).size ≤ 9223372036854775807 then (some (t177 ++ ((⟨#[47]⟩ : ByteArray) ++ t180))) else (none)) else (none))) else (none))) else (if a0_1 < 0 then (zjG.j1 kj2 t177 (⟨#[45]⟩ : ByteArray) a0_0 a0_1 a0_2) else (zjG.j1 kj2 t177 (⟨#[43]⟩ : ByteArray) a0_0 a0_1 a0_2))) = some r := by rw [if_neg (show ¬ (false = true) by decide)] at H; exact H
    clear H
    have H := H1
    clear H1
    by_cases c26 : a0_1 = 0
    ·rw [if_pos c26] at H
     have c26b0 : (a0_1 == 0) = true := beq_iff_eq.mpr c26
     have c26b1 : (a0_1 != 0) = false := bne_eq_false_iff_eq.mpr c26
     clear c26
     by_cases c27 : a0_2 = 0
     ·rw [if_pos c27] at H
      have c27b0 : (a0_2 == 0) = true := beq_iff_eq.mpr c27
      have c27b1 : (a0_2 != 0) = false := bne_eq_false_iff_eq.mpr c27
      clear c27
      obtain rfl := Option.some.inj H
      obtain ⟨hcz28_0, hcz28_1, hcz28_2⟩ := zdT BK176.out
      obtain ⟨hfz28_0, hfz28_1, hfz28_2⟩ := zqD BK176.out
      go_wp2
      go_ret
      exact ⟨by first | rfl | (simp [ziS, znJ] <;> rfl) | (simp [*, ziS, znJ] <;> rfl), bb_⟩
     ·rw [if_neg c27] at H
      have c27b0 : (a0_2 == 0) = false := beq_eq_false_iff_ne.mpr c27
      have c27b1 : (a0_2 != 0) = true := bne_iff_ne.mpr c27
      by_cases c29 : 0 ≤ a0_2
      ·rw [if_pos c29] at H
       have c29b0 := eq_true c29
       have c29b1 : decide (0 ≤ a0_2) = true := decide_eq_true c29
       clear c29
       obtain ⟨ji30, hji30⟩ : ∃ j_ : Int, (shl .i64 1 a0_2) = j_ := ⟨_, rfl⟩
       replace H : ((zcM.f (ji30)).bind fun t180 => (if 1 + t180.size ≤ 9223372036854775807 then (if t177.size + ((⟨#[47]⟩ : ByteArray) ++ t180).size ≤ 9223372036854775807 then (some (t177 ++ ((⟨#[47]⟩ : ByteArray) ++ t180))) else (none)) else (none))) = some r := by first | (rw [hji30] at H; exact H) | (simp only [hji30] at H ⊢; exact H)
       have hji30_ : (IntKind.i64.wrap (1 * 2 ^ min a0_2.toNat 64)) = ji30 := hji30
       have hji30z : a0_2 ≤ 64 → (IntKind.i64.wrap (1 * 2 ^ a0_2.toNat)) = ji30 := shl_small hji30
       have hji30u : (IntKind.i64.wrap (2 ^ min a0_2.toNat 64)) = ji30 := by have h_ := hji30_; rw [Int.one_mul] at h_; exact h_
       have hji30v : a0_2 ≤ 64 → (IntKind.i64.wrap (2 ^ a0_2.toNat)) = ji30 := fun hle_ => by have h_ := hji30z hle_; rw [Int.one_mul] at h_; exact h_
       have hji30y : (wrap64 (1 * 2 ^ min a0_2.toNat 64)) = ji30 := (zcN _).symm.trans hji30_
       have hji30x : a0_2 ≤ 64 → (wrap64 (1 * 2 ^ a0_2.toNat)) = ji30 := fun h_ => (zcN _).symm.trans (hji30z h_)
       replace H := Option.bind_eq_some_iff.mp H
       obtain ⟨t180, A310, H⟩ := H
       replace H : (if 1 + t180.size ≤ 9223372036854775807 then (if t177.size + ((⟨#[47]⟩ : ByteArray) ++ t180).size ≤ 9223372036854775807 then (some (t177 ++ ((⟨#[47]⟩ : ByteArray) ++ t180))) else (none)) else (none)) = some r := H
       have A31 := zpS A310
       clear A310
       by_cases c32 : 1 + t180.size ≤ 9223372036854775807
       ·rw [if_pos c32] at H
        have c32b0 := eq_true c32
        have c32b1 : decide (1 + t180.size ≤ 9223372036854775807) = true := decide_eq_true c32
        try have c32b2 : (9223372036854775807 < 1 + t180.size) = False := eq_false (Nat.not_lt.2 c32)
        by_cases c33 : t177.size + ((⟨#[47]⟩ : ByteArray) ++ t180).size ≤ 9223372036854775807
        ·rw [if_pos c33] at H
         have c33b0 := eq_true c33
         have c33b1 : decide (t177.size + ((⟨#[47]⟩ : ByteArray) ++ t180).size ≤ 9223372036854775807) = true := decide_eq_true c33
         try have c33b2 : (9223372036854775807 < t177.size + ((⟨#[47]⟩ : ByteArray) ++ t180).size) = False := eq_false (Nat.not_lt.2 c33)
         (try (have c33b3 : (9223372036854775807 < t177.size + (1 + t180.size)) = False := eq_false (Nat.not_lt.2 (by have h_ := c33; simp only [ByteArray.size_append] at h_; exact h_))))
         obtain rfl := Option.some.inj H
         obtain ⟨hcz34_0, hcz34_1, hcz34_2⟩ := zdT BK176.out
         obtain ⟨hfz34_0, hfz34_1, hfz34_2⟩ := zqD BK176.out
         go_wp2_with (first | ((with_reducible refine zgK (f := 42) rfl ?_); refine zqQ (some 50) rfl rfl Tryd.func42 (by kernel_rfl) rfl #[.int .i64 ji30] rfl (by (try simp only [List.map_toArray, List.map_cons, List.map_nil]); first | done | (simp only [hji30]; rfl) | rfl | (simp only [List.length_drop, List.length_take]; rfl)) ?_; (with_reducible refine (zcM.calls ji30 t180 _ ?side1 A31.out).mono ?_); (case side1 => exact LaidV.below hG bb_); rintro e w35 ⟨rfl, hb⟩; refine ⟨_, rfl, ?_⟩; have n0_ := zpS (zgM (g := gb176) (o := .cells #[.int .i64 a0_0, .int .i64 a0_1, .int .i64 a0_2] 23 (0, 0)) bk_ hb); have n1_ := (ns_ hb); clear BK176; clear HB; have BK176 := n0_; have HB := n1_; clear n0_ n1_; (try clear hb); (try clear hb2)))
         go_ret
         exact ⟨by first | rfl | (simp [ziS, znJ] <;> rfl) | (simp only [← hji30]; first | rfl | (simp [ziS, znJ] <;> rfl)) | (simp [*, ziS, znJ] <;> rfl), bb_⟩
        ·rw [if_neg c33] at H
         exact absurd H (by simp)
       ·rw [if_neg c32] at H
        exact absurd H (by simp)
      ·rw [if_neg c29] at H
       exact absurd H (by simp)
    ·rw [if_neg c26] at H
     have c26b0 : (a0_1 == 0) = false := beq_eq_false_iff_ne.mpr c26
     have c26b1 : (a0_1 != 0) = true := bne_iff_ne.mpr c26
     have HC36 := zpS H
     clear H
     obtain ⟨hcz37_0, hcz37_1, hcz37_2⟩ := zdT BK176.out
     obtain ⟨hfz37_0, hfz37_1, hfz37_2⟩ := zqD BK176.out
     go_upto_if 27 with (fail)
     go_cut [4] (fun v4 wc => ∃ (kq : Nat) (x4_35 : ByteArray), v4 = .string x4_35 ∧ Aside0 (zjG.j1 kq t177 x4_35 a0_0 a0_1 a0_2 = some r) ∧ Aside0 (kq ≤ kj2) ∧ Aside0 (wc.heap[gb176]? = some (.cells #[.int .i64 a0_0, .int .i64 a0_1, .int .i64 a0_2] 23 (0, 0))) ∧ Aside0 (Below w.heap.size w wc))
     case first =>
      have H := HC36.out
      clear HC36
      by_cases c38 : a0_1 < 0
      ·rw [if_pos c38] at H
       have c38b0 : decide (a0_1 < 0) = true := decide_eq_true c38
       clear c38
       (first | rw [c38b0] | (simp only [zcN, ziJ]; rw [c38b0]) | skip)
       have H' := zpS H
       clear H
       go_wp2
       go_meet
       case rel => exact ⟨_, ((⟨#[45]⟩ : ByteArray)), (by first | rfl | (simp; done) | (simp [*]; done)), H', ⟨by have := HJ2.out; first | omega | exact Nat.le_refl _⟩, ⟨bk_⟩, ⟨bb_⟩⟩
      ·rw [if_neg c38] at H
       have c38b0 : decide (a0_1 < 0) = false := decide_eq_false c38
       clear c38
       (first | rw [c38b0] | (simp only [zcN, ziJ]; rw [c38b0]) | skip)
       have H' := zpS H
       clear H
       go_wp2
       go_meet
       case rel => exact ⟨_, ((⟨#[43]⟩ : ByteArray)), (by first | rfl | (simp; done) | (simp [*]; done)), H', ⟨by have := HJ2.out; first | omega | exact Nat.le_refl _⟩, ⟨bk_⟩, ⟨bb_⟩⟩
     case rest =>
      clear HC36
      try clear c1
      try clear c2
      try clear p2
      try clear c3
      try clear c4
      try clear p6
      try clear c7
      try clear c7b0
      try clear c7b1
      try clear c10
      try clear c12
      try clear c12b0
      try clear c12b1
      try clear c12b2
      try clear c13
      try clear c13b0
      try clear c13b1
      try clear c17
      try clear c17b0
      try clear c17b1
      try clear c20
      try clear c20b0
      try clear c20b1
      try clear c20b2
      try clear c21
      try clear c21b0
      try clear c21b1
      try clear c21b2
      try clear c26
      try clear c26b0
      try clear c26b1
      try clear c27
      try clear c27b0
      try clear c27b1
      try clear c29
      try clear c29b0
      try clear c29b1
      try clear c32
      try clear c32b0
      try clear c32b1
      try clear c32b2
      try clear c33
      try clear c33b0
      try clear c33b1
      try clear c33b2
      try clear c38
      try clear c38b0
      try clear hcz14_0
      try clear hcz14_1
      try clear hcz14_2
      try clear hcz16_0
      try clear hcz16_1
      try clear hcz16_2
      try clear hcz22_0
      try clear hcz22_1
      try clear hcz22_2
      try clear hcz24_0
      try clear hcz24_1
      try clear hcz24_2
      try clear hcz28_0
      try clear hcz28_1
      try clear hcz28_2
      try clear hcz34_0
      try clear hcz34_1
      try clear hcz34_2
      try clear hcz37_0
      try clear hcz37_1
      try clear hcz37_2
      try clear hcz5_0
      try clear hcz5_1
      try clear hcz5_2
      try clear hcz8_0
      try clear hcz8_1
      try clear hcz8_2
      try clear hcz9_0
      try clear hcz9_1
      try clear hcz9_2
      try clear hfz14_0
      try clear hfz14_1
      try clear hfz14_2
      try clear hfz16_0
      try clear hfz16_1
      try clear hfz16_2
      try clear hfz22_0
      try clear hfz22_1
      try clear hfz22_2
      try clear hfz24_0
      try clear hfz24_1
      try clear hfz24_2
      try clear hfz28_0
      try clear hfz28_1
      try clear hfz28_2
      try clear hfz34_0
      try clear hfz34_1
      try clear hfz34_2
      try clear hfz37_0
      try clear hfz37_1
      try clear hfz37_2
      try clear hfz5_0
      try clear hfz5_1
      try clear hfz5_2
      try clear hfz8_0
      try clear hfz8_1
      try clear hfz8_2
      try clear hfz9_0
      try clear hfz9_1
      try clear hfz9_2
      try clear p2
      obtain ⟨kq, x4_35, rfl, HA, HJ35, BK176, HB⟩ := hcut
      cases kq with
      | zero => exact absurd HA.out (by simp [zjG.j1])
      | succ kj35 =>
       have H := HA.out
       clear HA
       simp only [zjG.j1] at H
       replace H := Option.bind_eq_some_iff.mp H
       obtain ⟨t181, A390, H⟩ := H
       replace H : ((zcM.f t181).bind fun t182 => (if x4_35.size + t182.size ≤ 9223372036854775807 then (if (x4_35 ++ t182).size + 1 ≤ 9223372036854775807 then (if t177.size + ((x4_35 ++ t182) ++ (⟨#[114]⟩ : ByteArray)).size ≤ 9223372036854775807 then (if a0_2 = 0 then (some (t177 ++ ((x4_35 ++ t182) ++ (⟨#[114]⟩ : ByteArray)))) else (if 1 + (t177 ++ ((x4_35 ++ t182) ++ (⟨#[114]⟩ : ByteArray))).size ≤ 9223372036854775807 then (if ((⟨#[40]⟩ : ByteArray) ++ (t177 ++ ((x4_35 ++ t182) ++ (⟨#[114]⟩ : ByteArray)))).size + 1 ≤ 9223372036854775807 then (if 0 ≤ a0_2 then ((zcM.f (shl .i64 1 a0_2)).bind fun t183 => (if 1 + t183.size ≤ 9223372036854775807 then (if (((⟨#[40]⟩ : ByteArray) ++ (t177 ++ ((x4_35 ++ t182) ++ (⟨#[114]⟩ : ByteArray)))) ++ (⟨#[41]⟩ : ByteArray)).size + ((⟨#[47]⟩ : ByteArray) ++ t183).size ≤ 9223372036854775807 then (some ((((⟨#[40]⟩ : ByteArray) ++ (t177 ++ ((x4_35 ++ t182) ++ (⟨#[114]⟩ : ByteArray)))) ++ (⟨#[41]⟩ : ByteArray)) ++ ((⟨#[47]⟩ : ByteArray) ++ t183))) else (none)) else (none))) else (none)) else (none)) else (none))) else (none)) else (none)) else (none))) = some r := H
       have A39 := zpS A390
       clear A390
       replace H := Option.bind_eq_some_iff.mp H
       obtain ⟨t182, A400, H⟩ := H
       replace H : (if x4_35.size + t182.size ≤ 9223372036854775807 then (if (x4_35 ++ t182).size + 1 ≤ 9223372036854775807 then (if t177.size + ((x4_35 ++ t182) ++ (⟨#[114]⟩ : ByteArray)).size ≤ 9223372036854775807 then (if a0_2 = 0 then (some (t177 ++ ((x4_35 ++ t182) ++ (⟨#[114]⟩ : ByteArray)))) else (if 1 + (t177 ++ ((x4_35 ++ t182) ++ (⟨#[114]⟩ : ByteArray))).size ≤ 9223372036854775807 then (if ((⟨#[40]⟩ : ByteArray) ++ (t177 ++ ((x4_35 ++ t182) ++ (⟨#[114]⟩ : ByteArray)))).size + 1 ≤ 9223372036854775807 then (if 0 ≤ a0_2 then ((zcM.f (shl .i64 1 a0_2)).bind fun t183 => (if 1 + t183.size ≤ 9223372036854775807 then (if (((⟨#[40]⟩ : ByteArray) ++ (t177 ++ ((x4_35 ++ t182) ++ (⟨#[114]⟩ : ByteArray)))) ++ (⟨#[41]⟩ : ByteArray)).size + ((⟨#[47]⟩ : ByteArray) ++ t183).size ≤ 9223372036854775807 then (some ((((⟨#[40]⟩ : ByteArray) ++ (t177 ++ ((x4_35 ++ t182) ++ (⟨#[114]⟩ : ByteArray)))) ++ (⟨#[41]⟩ : ByteArray)) ++ ((⟨#[47]⟩ : ByteArray) ++ t183))) else (none)) else (none))) else (none)) else (none)) else (none))) else (none)) else (none)) else (none)) = some r := H
       have A40 := zpS A400
       clear A400
       by_cases c41 : x4_35.size + t182.size ≤ 9223372036854775807
       ·rw [if_pos c41] at H
        have c41b0 := eq_true c41
        have c41b1 : decide (x4_35.size + t182.size ≤ 9223372036854775807) = true := decide_eq_true c41
        try have c41b2 : (9223372036854775807 < x4_35.size + t182.size) = False := eq_false (Nat.not_lt.2 c41)
        by_cases c42 : (x4_35 ++ t182).size + 1 ≤ 9223372036854775807
        ·rw [if_pos c42] at H
         have c42b0 := eq_true c42
         have c42b1 : decide ((x4_35 ++ t182).size + 1 ≤ 9223372036854775807) = true := decide_eq_true c42
         try have c42b2 : (9223372036854775807 < (x4_35 ++ t182).size + 1) = False := eq_false (Nat.not_lt.2 c42)
         (try (have c42b3 : (9223372036854775807 < x4_35.size + t182.size + 1) = False := eq_false (Nat.not_lt.2 (by have h_ := c42; simp only [ByteArray.size_append] at h_; exact h_))))
         by_cases c43 : t177.size + ((x4_35 ++ t182) ++ (⟨#[114]⟩ : ByteArray)).size ≤ 9223372036854775807
         ·rw [if_pos c43] at H
          have c43b0 := eq_true c43
          have c43b1 : decide (t177.size + ((x4_35 ++ t182) ++ (⟨#[114]⟩ : ByteArray)).size ≤ 9223372036854775807) = true := decide_eq_true c43
          try have c43b2 : (9223372036854775807 < t177.size + ((x4_35 ++ t182) ++ (⟨#[114]⟩ : ByteArray)).size) = False := eq_false (Nat.not_lt.2 c43)
          (try (have c43b3 : (9223372036854775807 < t177.size + (x4_35.size + t182.size + 1)) = False := eq_false (Nat.not_lt.2 (by have h_ := c43; simp only [ByteArray.size_append] at h_; exact h_))))
          by_cases c44 : a0_2 = 0
          ·rw [if_pos c44] at H
           have c44b0 : (a0_2 == 0) = true := beq_iff_eq.mpr c44
           have c44b1 : (a0_2 != 0) = false := bne_eq_false_iff_eq.mpr c44
           clear c44
           obtain rfl := Option.some.inj H
           obtain ⟨hcz45_0, hcz45_1, hcz45_2⟩ := zdT BK176.out
           obtain ⟨hfz45_0, hfz45_1, hfz45_2⟩ := zqD BK176.out
           go_wp2_with (first | ((with_reducible refine zgK (f := 47) rfl ?_); refine zqQ (some 32) rfl rfl Tryd.func47 (by kernel_rfl) rfl #[.int .i64 a0_1] rfl (by (try simp only [List.map_toArray, List.map_cons, List.map_nil]); first | done | rfl | (simp only [List.length_drop, List.length_take]; rfl)) ?_; (with_reducible refine (impl_abs.calls a0_1 t181 _ A39.out).mono ?_); rintro e w46 ⟨rfl, hb⟩; refine ⟨_, rfl, ?_⟩; have n0_ := zpS (zgM (g := gb176) (o := .cells #[.int .i64 a0_0, .int .i64 a0_1, .int .i64 a0_2] 23 (0, 0)) bk_ hb); have n1_ := (ns_ hb); clear BK176; clear HB; have BK176 := n0_; have HB := n1_; clear n0_ n1_; (try clear hb); (try clear hb2)) | ((with_reducible refine zgK (f := 42) rfl ?_); refine zqQ (some 33) rfl rfl Tryd.func42 (by kernel_rfl) rfl #[.int .i64 t181] rfl (by (try simp only [List.map_toArray, List.map_cons, List.map_nil]); first | done | rfl | (simp only [List.length_drop, List.length_take]; rfl)) ?_; (with_reducible refine (zcM.calls t181 t182 _ ?side1 A40.out).mono ?_); (case side1 => exact LaidV.below hG bb_); rintro e w47 ⟨rfl, hb⟩; refine ⟨_, rfl, ?_⟩; have n0_ := zpS (zgM (g := gb176) (o := .cells #[.int .i64 a0_0, .int .i64 a0_1, .int .i64 a0_2] 23 (0, 0)) bk_ hb); have n1_ := (ns_ hb); clear BK176; clear HB; have BK176 := n0_; have HB := n1_; clear n0_ n1_; (try clear hb); (try clear hb2); obtain ⟨hcz48_0, hcz48_1, hcz48_2⟩ := zdT BK176.out; obtain ⟨hfz48_0, hfz48_1, hfz48_2⟩ := zqD BK176.out))
           go_ret
           exact ⟨by first | rfl | (simp [ziS, znJ] <;> rfl) | (simp [*, ziS, znJ] <;> rfl), bb_⟩
          ·rw [if_neg c44] at H
           have c44b0 : (a0_2 == 0) = false := beq_eq_false_iff_ne.mpr c44
           have c44b1 : (a0_2 != 0) = true := bne_iff_ne.mpr c44
           by_cases c49 : 1 + (t177 ++ ((x4_35 ++ t182) ++ (⟨#[114]⟩ : ByteArray))).size ≤ 9223372036854775807
           ·rw [if_pos c49] at H
            have c49b0 := eq_true c49
            have c49b1 : decide (1 + (t177 ++ ((x4_35 ++ t182) ++ (⟨#[114]⟩ : ByteArray))).size ≤ 9223372036854775807) = true := decide_eq_true c49
            try have c49b2 : (9223372036854775807 < 1 + (t177 ++ ((x4_35 ++ t182) ++ (⟨#[114]⟩ : ByteArray))).size) = False := eq_false (Nat.not_lt.2 c49)
            (try (have c49b3 : (9223372036854775807 < 1 + (t177.size + (x4_35.size + t182.size + 1))) = False := eq_false (Nat.not_lt.2 (by have h_ := c49; simp only [ByteArray.size_append] at h_; exact h_))))
            by_cases c50 : ((⟨#[40]⟩ : ByteArray) ++ (t177 ++ ((x4_35 ++ t182) ++ (⟨#[114]⟩ : ByteArray)))).size + 1 ≤ 9223372036854775807
            ·rw [if_pos c50] at H
             have c50b0 := eq_true c50
             have c50b1 : decide (((⟨#[40]⟩ : ByteArray) ++ (t177 ++ ((x4_35 ++ t182) ++ (⟨#[114]⟩ : ByteArray)))).size + 1 ≤ 9223372036854775807) = true := decide_eq_true c50
             try have c50b2 : (9223372036854775807 < ((⟨#[40]⟩ : ByteArray) ++ (t177 ++ ((x4_35 ++ t182) ++ (⟨#[114]⟩ : ByteArray)))).size + 1) = False := eq_false (Nat.not_lt.2 c50)
             (try (have c50b3 : (9223372036854775807 < 1 + (t177.size + (x4_35.size + t182.size + 1)) + 1) = False := eq_false (Nat.not_lt.2 (by have h_ := c50; simp only [ByteArray.size_append] at h_; exact h_))))
             by_cases c51 : 0 ≤ a0_2
             ·rw [if_pos c51] at H
              have c51b0 := eq_true c51
              have c51b1 : decide (0 ≤ a0_2) = true := decide_eq_true c51
              clear c51
              obtain ⟨ji52, hji52⟩ : ∃ j_ : Int, (shl .i64 1 a0_2) = j_ := ⟨_, rfl⟩
              replace H : ((zcM.f (ji52)).bind fun t183 => (if 1 + t183.size ≤ 9223372036854775807 then (if (((⟨#[40]⟩ : ByteArray) ++ (t177 ++ ((x4_35 ++ t182) ++ (⟨#[114]⟩ : ByteArray)))) ++ (⟨#[41]⟩ : ByteArray)).size + ((⟨#[47]⟩ : ByteArray) ++ t183).size ≤ 9223372036854775807 then (some ((((⟨#[40]⟩ : ByteArray) ++ (t177 ++ ((x4_35 ++ t182) ++ (⟨#[114]⟩ : ByteArray)))) ++ (⟨#[41]⟩ : ByteArray)) ++ ((⟨#[47]⟩ : ByteArray) ++ t183))) else (none)) else (none))) = some r := by first | (rw [hji52] at H; exact H) | (simp only [hji52] at H ⊢; exact H)
              (try rw [hji52] at A39)
              (try rw [hji52] at A40)
              have hji52_ : (IntKind.i64.wrap (1 * 2 ^ min a0_2.toNat 64)) = ji52 := hji52
              have hji52z : a0_2 ≤ 64 → (IntKind.i64.wrap (1 * 2 ^ a0_2.toNat)) = ji52 := shl_small hji52
              have hji52u : (IntKind.i64.wrap (2 ^ min a0_2.toNat 64)) = ji52 := by have h_ := hji52_; rw [Int.one_mul] at h_; exact h_
              have hji52v : a0_2 ≤ 64 → (IntKind.i64.wrap (2 ^ a0_2.toNat)) = ji52 := fun hle_ => by have h_ := hji52z hle_; rw [Int.one_mul] at h_; exact h_
              have hji52y : (wrap64 (1 * 2 ^ min a0_2.toNat 64)) = ji52 := (zcN _).symm.trans hji52_
              have hji52x : a0_2 ≤ 64 → (wrap64 (1 * 2 ^ a0_2.toNat)) = ji52 := fun h_ => (zcN _).symm.trans (hji52z h_)
              replace H := Option.bind_eq_some_iff.mp H
              obtain ⟨t183, A530, H⟩ := H
              replace H : (if 1 + t183.size ≤ 9223372036854775807 then (if (((⟨#[40]⟩ : ByteArray) ++ (t177 ++ ((x4_35 ++ t182) ++ (⟨#[114]⟩ : ByteArray)))) ++ (⟨#[41]⟩ : ByteArray)).size + ((⟨#[47]⟩ : ByteArray) ++ t183).size ≤ 9223372036854775807 then (some ((((⟨#[40]⟩ : ByteArray) ++ (t177 ++ ((x4_35 ++ t182) ++ (⟨#[114]⟩ : ByteArray)))) ++ (⟨#[41]⟩ : ByteArray)) ++ ((⟨#[47]⟩ : ByteArray) ++ t183))) else (none)) else (none)) = some r := H
              have A53 := zpS A530
              clear A530
              by_cases c54 : 1 + t183.size ≤ 9223372036854775807
              ·rw [if_pos c54] at H
               have c54b0 := eq_true c54
               have c54b1 : decide (1 + t183.size ≤ 9223372036854775807) = true := decide_eq_true c54
               try have c54b2 : (9223372036854775807 < 1 + t183.size) = False := eq_false (Nat.not_lt.2 c54)
               by_cases c55 : (((⟨#[40]⟩ : ByteArray) ++ (t177 ++ ((x4_35 ++ t182) ++ (⟨#[114]⟩ : ByteArray)))) ++ (⟨#[41]⟩ : ByteArray)).size + ((⟨#[47]⟩ : ByteArray) ++ t183).size ≤ 9223372036854775807
               ·rw [if_pos c55] at H
                have c55b0 := eq_true c55
                have c55b1 : decide ((((⟨#[40]⟩ : ByteArray) ++ (t177 ++ ((x4_35 ++ t182) ++ (⟨#[114]⟩ : ByteArray)))) ++ (⟨#[41]⟩ : ByteArray)).size + ((⟨#[47]⟩ : ByteArray) ++ t183).size ≤ 9223372036854775807) = true := decide_eq_true c55
                try have c55b2 : (9223372036854775807 < (((⟨#[40]⟩ : ByteArray) ++ (t177 ++ ((x4_35 ++ t182) ++ (⟨#[114]⟩ : ByteArray)))) ++ (⟨#[41]⟩ : ByteArray)).size + ((⟨#[47]⟩ : ByteArray) ++ t183).size) = False := eq_false (Nat.not_lt.2 c55)
                (try (have c55b3 : (9223372036854775807 < 1 + (t177.size + (x4_35.size + t182.size + 1)) + 1 + (1 + t183.size)) = False := eq_false (Nat.not_lt.2 (by have h_ := c55; simp only [ByteArray.size_append] at h_; exact h_))))
                obtain rfl := Option.some.inj H
                obtain ⟨hcz56_0, hcz56_1, hcz56_2⟩ := zdT BK176.out
                obtain ⟨hfz56_0, hfz56_1, hfz56_2⟩ := zqD BK176.out
                go_wp2_with (first | ((with_reducible refine zgK (f := 47) rfl ?_); refine zqQ (some 32) rfl rfl Tryd.func47 (by kernel_rfl) rfl #[.int .i64 a0_1] rfl (by (try simp only [List.map_toArray, List.map_cons, List.map_nil]); first | done | rfl | (simp only [List.length_drop, List.length_take]; rfl)) ?_; (with_reducible refine (impl_abs.calls a0_1 t181 _ A39.out).mono ?_); rintro e w57 ⟨rfl, hb⟩; refine ⟨_, rfl, ?_⟩; have n0_ := zpS (zgM (g := gb176) (o := .cells #[.int .i64 a0_0, .int .i64 a0_1, .int .i64 a0_2] 23 (0, 0)) bk_ hb); have n1_ := (ns_ hb); clear BK176; clear HB; have BK176 := n0_; have HB := n1_; clear n0_ n1_; (try clear hb); (try clear hb2)) | ((with_reducible refine zgK (f := 42) rfl ?_); refine zqQ (some 33) rfl rfl Tryd.func42 (by kernel_rfl) rfl #[.int .i64 t181] rfl (by (try simp only [List.map_toArray, List.map_cons, List.map_nil]); first | done | rfl | (simp only [List.length_drop, List.length_take]; rfl)) ?_; (with_reducible refine (zcM.calls t181 t182 _ ?side1 A40.out).mono ?_); (case side1 => exact LaidV.below hG bb_); rintro e w58 ⟨rfl, hb⟩; refine ⟨_, rfl, ?_⟩; have n0_ := zpS (zgM (g := gb176) (o := .cells #[.int .i64 a0_0, .int .i64 a0_1, .int .i64 a0_2] 23 (0, 0)) bk_ hb); have n1_ := (ns_ hb); clear BK176; clear HB; have BK176 := n0_; have HB := n1_; clear n0_ n1_; (try clear hb); (try clear hb2); obtain ⟨hcz59_0, hcz59_1, hcz59_2⟩ := zdT BK176.out; obtain ⟨hfz59_0, hfz59_1, hfz59_2⟩ := zqD BK176.out) | ((with_reducible refine zgK (f := 42) rfl ?_); refine zqQ (some 50) rfl rfl Tryd.func42 (by kernel_rfl) rfl #[.int .i64 ji52] rfl (by (try simp only [List.map_toArray, List.map_cons, List.map_nil]); first | done | (simp only [hji52]; rfl) | rfl | (simp only [List.length_drop, List.length_take]; rfl)) ?_; (with_reducible refine (zcM.calls ji52 t183 _ ?side1 A53.out).mono ?_); (case side1 => exact LaidV.below hG bb_); rintro e w60 ⟨rfl, hb⟩; refine ⟨_, rfl, ?_⟩; have n0_ := zpS (zgM (g := gb176) (o := .cells #[.int .i64 a0_0, .int .i64 a0_1, .int .i64 a0_2] 23 (0, 0)) bk_ hb); have n1_ := (ns_ hb); clear BK176; clear HB; have BK176 := n0_; have HB := n1_; clear n0_ n1_; (try clear hb); (try clear hb2)))
                go_ret
                exact ⟨by first | rfl | (simp [ziS, znJ] <;> rfl) | (simp only [← hji52]; first | rfl | (simp [ziS, znJ] <;> rfl)) | (simp [*, ziS, znJ] <;> rfl), bb_⟩
               ·rw [if_neg c55] at H
                exact absurd H (by simp)
              ·rw [if_neg c54] at H
               exact absurd H (by simp)
             ·rw [if_neg c51] at H
              exact absurd H (by simp)
            ·rw [if_neg c50] at H
             exact absurd H (by simp)
           ·rw [if_neg c49] at H
            exact absurd H (by simp)
         ·rw [if_neg c43] at H
          exact absurd H (by simp)
        ·rw [if_neg c42] at H
         exact absurd H (by simp)
       ·rw [if_neg c41] at H
        exact absurd H (by simp)

def zaB.j0 : Nat → ByteArray → ByteArray → Int → Int → Int → Option (Int × Int × Int × Bool)
 | 0, _, _, _, _, _ => none
 | k + 1, x0, x4, x189000, x189001, x189002 => (zjE.f x4 (⟨#[40]⟩ : ByteArray)).bind fun t192 => ((ziM.f t192 (⟨#[41]⟩ : ByteArray)).bind fun t193 => ((zsR.f t193).bind fun bt194 => ((zdR.f bt194.1 bt194.2 x189002).bind fun t196 => (if t196 = true then ((zjG.f k bt194.1 bt194.2 x189002).bind fun t197 => (if t197.toList = x0.toList then (some (bt194.1, bt194.2, x189002, true)) else (some (0, 0, 0, false)))) else (some (0, 0, 0, false))))))
def zaB.f (k : Nat) (a0 : ByteArray) : Option (Int × Int × Int × Bool) := (strings_Cut.f a0 (⟨#[47]⟩ : ByteArray)).bind fun bt185 => (if bt185.2.2 = true then ((zkI.f bt185.2.1).bind fun bt189 => ((bits_Len64.f (IntKind.u64.wrap (bt189.1))).bind fun t191 => (zaB.j0 k a0 bt185.1 0 0 (wrap64 (t191 - 1))))) else (zaB.j0 k a0 bt185.1 0 0 0))
theorem zaB.mono_l : ∀ k, (∀ y0 y1 y2 y3 y4, LeO (zaB.j0 k y0 y1 y2 y3 y4) (zaB.j0 (k + 1) y0 y1 y2 y3 y4))
 | 0 => fun _ _ _ _ _ r h => by simp [zaB.j0] at h
 | k + 1 => by
  have ih0 := zaB.mono_l k
  ·intro y0 y1 y2 y3 y4
   unfold zaB.j0
   repeat' first
   | (with_reducible exact ih0 _ _ _ _ _)
   | (with_reducible exact zjG.mono _ _ _ _)
   | (with_reducible exact LeO.refl _)
   | (with_reducible exact LeO.none _)
   | (with_reducible refine LeO.ite ?_ ?_)
   | (with_reducible refine LeO.bind ?_ (fun _ => ?_))
   | exact ih0 _ _ _ _ _
   | exact zjG.mono _ _ _ _
   | exact LeO.none _
   | refine LeO.ite ?_ ?_
   | refine LeO.bind ?_ (fun _ => ?_)
theorem zaB.mono : ∀ a0 k, LeO (zaB.f k a0) (zaB.f (k + 1) a0) := by
 intro a0 k
 have ih0 := zaB.mono_l k
 unfold zaB.f
 repeat' first
   | (with_reducible exact ih0 _ _ _ _ _)
   | (with_reducible exact zjG.mono _ _ _ _)
   | (with_reducible exact LeO.refl _)
   | (with_reducible exact LeO.none _)
   | (with_reducible refine LeO.ite ?_ ?_)
   | (with_reducible refine LeO.bind ?_ (fun _ => ?_))
   | exact ih0 _ _ _ _ _
   | exact zjG.mono _ _ _ _
   | exact LeO.none _
   | refine LeO.ite ?_ ?_
   | refine LeO.bind ?_ (fun _ => ?_)
theorem zaB.calls (k : Nat) (a0 : ByteArray) (r1 : Int) (r2 : Int) (r3 : Int) (r4 : Bool) (w : World) (hG : LaidV w) (h : zaB.f k a0 = some (r1, r2, r3, r4)) :
  Calls Tryd.prog 8 #[.string a0] w fun e w' => e = .returned (.tuple #[.agg #[.int .i64 r1, .int .i64 r2, .int .i64 r3], .bool r4]) ∧ Below w.heap.size w w' := by
 have hu23 := Tryd.underlying23
 have HB := zpS (Below.refl w.heap.size w)
 have H : ((strings_Cut.f a0 (⟨#[47]⟩ : ByteArray)).bind fun bt185 => (if bt185.2.2 = true then ((zkI.f bt185.2.1).bind fun bt189 => ((bits_Len64.f (IntKind.u64.wrap (bt189.1))).bind fun t191 => (zaB.j0 k a0 bt185.1 0 0 (wrap64 (t191 - 1))))) else (zaB.j0 k a0 bt185.1 0 0 0))) = some (r1, r2, r3, r4) := h
 clear h
 replace H := Option.bind_eq_some_iff.mp H
 obtain ⟨⟨t185, t186, t187⟩, A20, H⟩ := H
 replace H : (if t187 = true then ((zkI.f t186).bind fun bt189 => ((bits_Len64.f (IntKind.u64.wrap (bt189.1))).bind fun t191 => (zaB.j0 k a0 t185 0 0 (wrap64 (t191 - 1))))) else (zaB.j0 k a0 t185 0 0 0)) = some (r1, r2, r3, r4) := H
 have A2 := zpS A20
 clear A20
 have HC3 := zpS H
 clear H
 go_enter Tryd.func8, Tryd.ntmps8
 go_upto_if 16 with (first | ((with_reducible refine zpZ (N := 2) rfl ?_); refine bx_ 2 #[.int .i64 0, .int .i64 0, .int .i64 0] 23 ?_; intro gb184 hg w4 hbox hb; have n0_ := (ns_ hb); have n1_ := zpS (hbox); have n2_ := (ng_ hg); have n3_ := n2_; clear HB; have HB := n0_; have BK184 := n1_; have GW184 := n2_; have GE184 := n3_; clear n0_ n1_ n2_ n3_; clear hb hbox hg) | ((with_reducible refine zgK (f := 22) rfl ?_); refine zqQ (some 12) rfl rfl Tryd.func22 (by kernel_rfl) rfl #[.string a0, .string (⟨#[47]⟩ : ByteArray)] rfl (by (try simp only [List.map_toArray, List.map_cons, List.map_nil]); first | done | rfl | (simp only [List.length_drop, List.length_take]; rfl)) ?_; (with_reducible refine (strings_Cut.calls a0 (⟨#[47]⟩ : ByteArray) t185 t186 t187 _ ?side1 A2.out).mono ?_); (case side1 => exact LaidV.below hG bb_); rintro e w' ⟨rfl, ⟨nd, rfl⟩⟩; refine ⟨_, rfl, ?_⟩) | ((with_reducible refine zpZ (N := 7) rfl ?_); refine bx_ 7 #[.int .i64 0, .int .i64 0, .int .i64 0] 23 ?_; intro gb188 hg w5 hbox hb; have n0_ := zpS (zgM (g := gb184) (o := .cells #[.int .i64 0, .int .i64 0, .int .i64 0] 23 (0, 0)) bk_ hb); have n1_ := (ns_ hb); have n2_ := zpS (hbox); have n3_ := (ng_ hg); have n4_ := n3_; have n5_ := zpS ((by rw [hg]; exact Nat.ne_of_lt (zmN (g := gb184) (o := .cells #[.int .i64 0, .int .i64 0, .int .i64 0] 23 (0, 0)) bk_) : gb184 ≠ gb188)); have n6_ := zpS ((by rw [hg]; exact Nat.ne_of_gt (zmN (g := gb184) (o := .cells #[.int .i64 0, .int .i64 0, .int .i64 0] 23 (0, 0)) bk_) : gb188 ≠ gb184)); clear BK184; clear HB; have BK184 := n0_; have HB := n1_; have BK188 := n2_; have GW188 := n3_; have GE188 := n4_; have NB184_188 := n5_; have NB188_184 := n6_; clear n0_ n1_ n2_ n3_ n4_ n5_ n6_; clear hb hbox hg))
 (try simp only [Act.put, set_a_, set_b_, set_c_])
 go_cut [] (fun wc => ∃ (kq : Nat) (x189002_2 : Int), Aside0 (zaB.j0 kq a0 t185 0 0 x189002_2 = some (r1, r2, r3, r4)) ∧ Aside0 (kq ≤ k) ∧ Aside0 (wc.heap[gb184]? = some (.cells #[.int .i64 0, .int .i64 0, .int .i64 0] 23 (0, 0))) ∧ Aside0 (wc.heap[gb188]? = some (.cells #[.int .i64 0, .int .i64 0, .int .i64 x189002_2] 23 (0, 0))) ∧ Aside0 (Below w.heap.size w wc))
 case first =>
  have H := HC3.out
  clear HC3
  by_cases c6 : t187 = true
  ·subst c6
   have H1 : ((zkI.f t186).bind fun bt189 => ((bits_Len64.f (IntKind.u64.wrap (bt189.1))).bind fun t191 => (zaB.j0 k a0 t185 0 0 (wrap64 (t191 - 1))))) = some (r1, r2, r3, r4) := by rw [if_pos rfl] at H; exact H
   clear H
   have H := H1
   clear H1
   replace H := Option.bind_eq_some_iff.mp H
   obtain ⟨⟨t189, t190⟩, A70, H⟩ := H
   replace H : ((bits_Len64.f (IntKind.u64.wrap (t189))).bind fun t191 => (zaB.j0 k a0 t185 0 0 (wrap64 (t191 - 1)))) = some (r1, r2, r3, r4) := H
   have A7 := zpS A70
   clear A70
   replace H := Option.bind_eq_some_iff.mp H
   obtain ⟨t191, A80, H⟩ := H
   replace H : (zaB.j0 k a0 t185 0 0 (wrap64 (t191 - 1))) = some (r1, r2, r3, r4) := H
   have A8 := zpS A80
   clear A80
   have H' := zpS H
   clear H
   go_wp2_with (first | ((with_reducible refine zgK (f := 23) rfl ?_); refine zqQ (some 19) rfl rfl Tryd.func23 (by kernel_rfl) rfl #[.string t186] rfl (by (try simp only [List.map_toArray, List.map_cons, List.map_nil]); first | done | rfl | (simp only [List.length_drop, List.length_take]; rfl)) ?_; (with_reducible refine (zkI.calls t186 t189 t190 _ ?side1 A7.out).mono ?_); (case side1 => exact LaidV.below hG bb_); rintro e w9 ⟨rfl, hb⟩; refine ⟨_, rfl, ?_⟩; have n0_ := zpS (zgM (g := gb184) (o := .cells #[.int .i64 0, .int .i64 0, .int .i64 0] 23 (0, 0)) bk_ hb); have n1_ := zpS (zgM (g := gb188) (o := .cells #[.int .i64 0, .int .i64 0, .int .i64 0] 23 (0, 0)) bk_ hb); have n2_ := (ns_ hb); clear BK184; clear BK188; clear HB; have BK184 := n0_; have BK188 := n1_; have HB := n2_; clear n0_ n1_ n2_; (try clear hb); (try clear hb2)) | ((with_reducible refine zgK (f := 24) rfl ?_); refine zqQ (some 24) rfl rfl Tryd.func24 (by kernel_rfl) rfl #[.int .u64 (IntKind.u64.wrap (t189))] rfl (by (try simp only [List.map_toArray, List.map_cons, List.map_nil]); first | done | rfl | (simp only [List.length_drop, List.length_take]; rfl)) ?_; (with_reducible refine (bits_Len64.calls (IntKind.u64.wrap (t189)) t191 _ A8.out).mono ?_); rintro e w' ⟨rfl, ⟨nd, rfl⟩⟩; refine ⟨_, rfl, ?_⟩; (try (rw [zxE w9]; generalize hq_ : World.drewN w9 _ = w9; have n0_ : Aside0 (w9.heap[gb184]? = some (.cells #[.int .i64 0, .int .i64 0, .int .i64 0] 23 (0, 0))) := ⟨by rw [← hq_]; exact bk_⟩; have n1_ : Aside0 (w9.heap[gb188]? = some (.cells #[.int .i64 0, .int .i64 0, .int .i64 0] 23 (0, 0))) := ⟨by rw [← hq_]; exact bk_⟩; have n2_ : Aside0 (Below w.heap.size w w9) := ⟨by rw [← hq_]; exact bb_⟩; clear BK184 BK188 HB hq_; have BK184 := n0_; have BK188 := n1_; have HB := n2_; clear n0_ n1_ n2_)); have hnb10 := NB188_184.out; have hnc10 := NB184_188.out; obtain ⟨hcz11_0, hcz11_1, hcz11_2⟩ := zdT BK188.out; obtain ⟨hfz11_0, hfz11_1, hfz11_2⟩ := zqD BK188.out))
   go_meet
   case rel => exact ⟨_, (wrap64 (t191 - 1)), H', ⟨by first | omega | exact Nat.le_refl _⟩, ⟨by (with_reducible repeat (first | apply zuW | apply ztN | apply zqY)); refine znI ?_ NB184_188.out _; (with_reducible repeat (first | apply zuW | apply ztN | apply zqY)); exact BK184.out⟩, ⟨by (with_reducible repeat (first | apply zuW | apply ztN | apply zqY)); refine zlL (cs := #[.int .i64 0, .int .i64 0, .int .i64 0]) ?_ 2 _ rfl; (with_reducible repeat (first | apply zuW | apply ztN | apply zqY)); exact BK188.out⟩, ⟨bb_⟩⟩
  ·replace c6 := Bool.eq_false_iff.mpr c6
   subst c6
   have H1 : (zaB.j0 k a0 t185 0 0 0) = some (r1, r2, r3, r4) := by rw [if_neg (show ¬ (false = true) by decide)] at H; exact H
   clear H
   have H := H1
   clear H1
   have H' := zpS H
   clear H
   go_wp2
   go_meet
   case rel => exact ⟨_, (0), H', ⟨by first | omega | exact Nat.le_refl _⟩, ⟨bk_⟩, ⟨bk_⟩, ⟨bb_⟩⟩
 case rest =>
  clear HC3
  try clear c1
  try clear c2
  try clear p2
  try clear c6
  try clear p6
  try clear c8
  try clear c10
  try clear hcz11_0
  try clear hcz11_1
  try clear hcz11_2
  try clear hfz11_0
  try clear hfz11_1
  try clear hfz11_2
  obtain ⟨kq, x189002_2, HA, HJ2, BK184, BK188, HB⟩ := hcut
  cases kq with
  | zero => exact absurd HA.out (by simp [zaB.j0])
  | succ kj2 =>
   have H := HA.out
   clear HA
   simp only [zaB.j0] at H
   replace H := Option.bind_eq_some_iff.mp H
   obtain ⟨t192, A120, H⟩ := H
   replace H : ((ziM.f t192 (⟨#[41]⟩ : ByteArray)).bind fun t193 => ((zsR.f t193).bind fun bt194 => ((zdR.f bt194.1 bt194.2 x189002_2).bind fun t196 => (if t196 = true then ((zjG.f kj2 bt194.1 bt194.2 x189002_2).bind fun t197 => (if t197.toList = a0.toList then (some (bt194.1, bt194.2, x189002_2, true)) else (some (0, 0, 0, false)))) else (some (0, 0, 0, false)))))) = some (r1, r2, r3, r4) := H
   have A12 := zpS A120
   clear A120
   replace H := Option.bind_eq_some_iff.mp H
   obtain ⟨t193, A130, H⟩ := H
   replace H : ((zsR.f t193).bind fun bt194 => ((zdR.f bt194.1 bt194.2 x189002_2).bind fun t196 => (if t196 = true then ((zjG.f kj2 bt194.1 bt194.2 x189002_2).bind fun t197 => (if t197.toList = a0.toList then (some (bt194.1, bt194.2, x189002_2, true)) else (some (0, 0, 0, false)))) else (some (0, 0, 0, false))))) = some (r1, r2, r3, r4) := H
   have A13 := zpS A130
   clear A130
   replace H := Option.bind_eq_some_iff.mp H
   obtain ⟨⟨t194, t195⟩, A140, H⟩ := H
   replace H : ((zdR.f t194 t195 x189002_2).bind fun t196 => (if t196 = true then ((zjG.f kj2 t194 t195 x189002_2).bind fun t197 => (if t197.toList = a0.toList then (some (t194, t195, x189002_2, true)) else (some (0, 0, 0, false)))) else (some (0, 0, 0, false)))) = some (r1, r2, r3, r4) := H
   have A14 := zpS A140
   clear A140
   replace H := Option.bind_eq_some_iff.mp H
   obtain ⟨t196, A150, H⟩ := H
   replace H : (if t196 = true then ((zjG.f kj2 t194 t195 x189002_2).bind fun t197 => (if t197.toList = a0.toList then (some (t194, t195, x189002_2, true)) else (some (0, 0, 0, false)))) else (some (0, 0, 0, false))) = some (r1, r2, r3, r4) := H
   have A15 := zpS A150
   clear A150
   by_cases c16 : t196 = true
   ·subst c16
    have H1 : ((zjG.f kj2 t194 t195 x189002_2).bind fun t197 => (if t197.toList = a0.toList then (some (t194, t195, x189002_2, true)) else (some (0, 0, 0, false)))) = some (r1, r2, r3, r4) := by rw [if_pos rfl] at H; exact H
    clear H
    have H := H1
    clear H1
    replace H := Option.bind_eq_some_iff.mp H
    obtain ⟨t197, A170, H⟩ := H
    replace H : (if t197.toList = a0.toList then (some (t194, t195, x189002_2, true)) else (some (0, 0, 0, false))) = some (r1, r2, r3, r4) := H
    have A17 := zpS A170
    clear A170
    by_cases c18 : t197.toList = a0.toList
    ·rw [if_pos c18] at H
     have c18b0 : (t197.toList == a0.toList) = true := beq_iff_eq.mpr c18
     have c18b1 : (t197.toList != a0.toList) = false := bne_eq_false_iff_eq.mpr c18
     clear c18
     simp only [Option.some.injEq, Prod.mk.injEq] at H
     obtain ⟨rfl, rfl, rfl, rfl⟩ := H
     go_wp2_with (first | ((with_reducible refine zgK (f := 27) rfl ?_); refine zqQ (some 29) rfl rfl Tryd.func27 (by kernel_rfl) rfl #[.string t185, .string (⟨#[40]⟩ : ByteArray)] rfl (by (try simp only [List.map_toArray, List.map_cons, List.map_nil]); first | done | rfl | (simp only [List.length_drop, List.length_take]; rfl)) ?_; (with_reducible refine (zjE.calls t185 (⟨#[40]⟩ : ByteArray) t192 _ A12.out).mono ?_); rintro e w' ⟨rfl, ⟨nd, rfl⟩⟩; refine ⟨_, rfl, ?_⟩; (try (rw [zxE wc]; generalize hq_ : World.drewN wc _ = wc; have n0_ : Aside0 (wc.heap[gb184]? = some (.cells #[.int .i64 0, .int .i64 0, .int .i64 0] 23 (0, 0))) := ⟨by rw [← hq_]; exact bk_⟩; have n1_ : Aside0 (wc.heap[gb188]? = some (.cells #[.int .i64 0, .int .i64 0, .int .i64 x189002_2] 23 (0, 0))) := ⟨by rw [← hq_]; exact bk_⟩; have n2_ : Aside0 (Below w.heap.size w wc) := ⟨by rw [← hq_]; exact bb_⟩; clear BK184 BK188 HB hq_; have BK184 := n0_; have BK188 := n1_; have HB := n2_; clear n0_ n1_ n2_))) | ((with_reducible refine zgK (f := 26) rfl ?_); refine zqQ (some 30) rfl rfl Tryd.func26 (by kernel_rfl) rfl #[.string t192, .string (⟨#[41]⟩ : ByteArray)] rfl (by (try simp only [List.map_toArray, List.map_cons, List.map_nil]); first | done | rfl | (simp only [List.length_drop, List.length_take]; rfl)) ?_; (with_reducible refine (ziM.calls t192 (⟨#[41]⟩ : ByteArray) t193 _ A13.out).mono ?_); rintro e w' ⟨rfl, ⟨nd, rfl⟩⟩; refine ⟨_, rfl, ?_⟩; (try (rw [zxE wc]; generalize hq_ : World.drewN wc _ = wc; have n0_ : Aside0 (wc.heap[gb184]? = some (.cells #[.int .i64 0, .int .i64 0, .int .i64 0] 23 (0, 0))) := ⟨by rw [← hq_]; exact bk_⟩; have n1_ : Aside0 (wc.heap[gb188]? = some (.cells #[.int .i64 0, .int .i64 0, .int .i64 x189002_2] 23 (0, 0))) := ⟨by rw [← hq_]; exact bk_⟩; have n2_ : Aside0 (Below w.heap.size w wc) := ⟨by rw [← hq_]; exact bb_⟩; clear BK184 BK188 HB hq_; have BK184 := n0_; have BK188 := n1_; have HB := n2_; clear n0_ n1_ n2_))) | ((with_reducible refine zgK (f := 25) rfl ?_); refine zqQ (some 31) rfl rfl Tryd.func25 (by kernel_rfl) rfl #[.string t193] rfl (by (try simp only [List.map_toArray, List.map_cons, List.map_nil]); first | done | rfl | (simp only [List.length_drop, List.length_take]; rfl)) ?_; (with_reducible refine (zsR.calls t193 t194 t195 _ ?side1 A14.out).mono ?_); (case side1 => exact LaidV.below hG bb_); rintro e w19 ⟨rfl, hb⟩; refine ⟨_, rfl, ?_⟩; have n0_ := zpS (zgM (g := gb184) (o := .cells #[.int .i64 0, .int .i64 0, .int .i64 0] 23 (0, 0)) bk_ hb); have n1_ := zpS (zgM (g := gb188) (o := .cells #[.int .i64 0, .int .i64 0, .int .i64 x189002_2] 23 (0, 0)) bk_ hb); have n2_ := (ns_ hb); clear BK184; clear BK188; clear HB; have BK184 := n0_; have BK188 := n1_; have HB := n2_; clear n0_ n1_ n2_; (try clear hb); (try clear hb2); have hnb20 := NB188_184.out; have hnc20 := NB184_188.out; obtain ⟨hcz21_0, hcz21_1, hcz21_2⟩ := zdT BK188.out; obtain ⟨hfz21_0, hfz21_1, hfz21_2⟩ := zqD BK188.out) | ((with_reducible refine zgK (f := 28) rfl ?_); refine zqQ (some 37) rfl rfl Tryd.func28 (by kernel_rfl) rfl #[.agg #[.int .i64 t194, .int .i64 t195, .int .i64 x189002_2]] rfl (by (try simp only [List.map_toArray, List.map_cons, List.map_nil]); first | done | rfl | (simp only [List.length_drop, List.length_take]; rfl)) ?_; (with_reducible refine (zdR.calls t194 t195 x189002_2 true _ A15.out).mono ?_); rintro e w22 ⟨rfl, hb⟩; refine ⟨_, rfl, ?_⟩; have n0_ := zpS (zgM (g := gb184) (o := .cells #[.int .i64 0, .int .i64 0, .int .i64 0] 23 (0, 0)) (by (with_reducible repeat (first | apply zuW | apply ztN | apply zqY)); refine znI ?_ NB184_188.out _; (with_reducible repeat (first | apply zuW | apply ztN | apply zqY)); refine znI ?_ NB184_188.out _; (with_reducible repeat (first | apply zuW | apply ztN | apply zqY)); exact BK184.out) hb); have n1_ := zpS (zgM (g := gb188) (o := .cells #[.int .i64 t194, .int .i64 t195, .int .i64 x189002_2] 23 (0, 0)) (by (with_reducible repeat (first | apply zuW | apply ztN | apply zqY)); refine zlL (cs := #[.int .i64 t194, .int .i64 0, .int .i64 x189002_2]) ?_ 1 _ rfl; (with_reducible repeat (first | apply zuW | apply ztN | apply zqY)); refine zlL (cs := #[.int .i64 0, .int .i64 0, .int .i64 x189002_2]) ?_ 0 _ rfl; (with_reducible repeat (first | apply zuW | apply ztN | apply zqY)); exact BK188.out) hb); have n2_ := (ns_ hb); clear BK184; clear BK188; clear HB; have BK184 := n0_; have BK188 := n1_; have HB := n2_; clear n0_ n1_ n2_; (try clear hb); (try clear hb2); obtain ⟨hcz23_0, hcz23_1, hcz23_2⟩ := zdT BK188.out; obtain ⟨hfz23_0, hfz23_1, hfz23_2⟩ := zqD BK188.out) | (go_at_call 29; (with_reducible refine (zjG.calls kj2 t194 t195 x189002_2 t197 _ ?side1 A17.out).mono ?_); (case side1 => exact LaidV.below hG bb_); rintro e w24 ⟨rfl, hb⟩; have n0_ := zpS (zgM (g := gb184) (o := .cells #[.int .i64 0, .int .i64 0, .int .i64 0] 23 (0, 0)) bk_ hb); have n1_ := zpS (zgM (g := gb188) (o := .cells #[.int .i64 t194, .int .i64 t195, .int .i64 x189002_2] 23 (0, 0)) bk_ hb); have n2_ := (ns_ hb); clear BK184; clear BK188; clear HB; have BK184 := n0_; have BK188 := n1_; have HB := n2_; clear n0_ n1_ n2_; (try clear hb); (try clear hb2); obtain ⟨hcz25_0, hcz25_1, hcz25_2⟩ := zdT BK188.out; obtain ⟨hfz25_0, hfz25_1, hfz25_2⟩ := zqD BK188.out; obtain ⟨hcz26_0, hcz26_1, hcz26_2⟩ := zdT BK184.out; obtain ⟨hfz26_0, hfz26_1, hfz26_2⟩ := zqD BK184.out))
     refine bodyPost_ret (zzB rfl _ _ gb184 23 #[.int .i64 t194, .int .i64 t195, .int .i64 x189002_2] (0, 0) _ rfl (by (with_reducible repeat (first | apply zuW | apply ztN | apply zqY)); refine zlL (cs := #[.int .i64 t194, .int .i64 t195, .int .i64 0]) ?_ 2 _ rfl; (with_reducible repeat (first | apply zuW | apply ztN | apply zqY)); refine zlL (cs := #[.int .i64 t194, .int .i64 0, .int .i64 0]) ?_ 1 _ rfl; (with_reducible repeat (first | apply zuW | apply ztN | apply zqY)); refine zlL (cs := #[.int .i64 0, .int .i64 0, .int .i64 0]) ?_ 0 _ rfl; (with_reducible repeat (first | apply zuW | apply ztN | apply zqY)); exact BK184.out) Tryd.underlying23 rfl (by kernel_rfl)) rfl ?_
     exact ⟨by first | rfl | (simp [ziS, znJ] <;> rfl) | (simp [*, ziS, znJ] <;> rfl), bb_⟩
    ·rw [if_neg c18] at H
     have c18b0 : (t197.toList == a0.toList) = false := beq_eq_false_iff_ne.mpr c18
     have c18b1 : (t197.toList != a0.toList) = true := bne_iff_ne.mpr c18
     simp only [Option.some.injEq, Prod.mk.injEq] at H
     obtain ⟨rfl, rfl, rfl, rfl⟩ := H
     go_wp2_with (first | ((with_reducible refine zgK (f := 27) rfl ?_); refine zqQ (some 29) rfl rfl Tryd.func27 (by kernel_rfl) rfl #[.string t185, .string (⟨#[40]⟩ : ByteArray)] rfl (by (try simp only [List.map_toArray, List.map_cons, List.map_nil]); first | done | rfl | (simp only [List.length_drop, List.length_take]; rfl)) ?_; (with_reducible refine (zjE.calls t185 (⟨#[40]⟩ : ByteArray) t192 _ A12.out).mono ?_); rintro e w' ⟨rfl, ⟨nd, rfl⟩⟩; refine ⟨_, rfl, ?_⟩; (try (rw [zxE wc]; generalize hq_ : World.drewN wc _ = wc; have n0_ : Aside0 (wc.heap[gb184]? = some (.cells #[.int .i64 0, .int .i64 0, .int .i64 0] 23 (0, 0))) := ⟨by rw [← hq_]; exact bk_⟩; have n1_ : Aside0 (wc.heap[gb188]? = some (.cells #[.int .i64 0, .int .i64 0, .int .i64 x189002_2] 23 (0, 0))) := ⟨by rw [← hq_]; exact bk_⟩; have n2_ : Aside0 (Below w.heap.size w wc) := ⟨by rw [← hq_]; exact bb_⟩; clear BK184 BK188 HB hq_; have BK184 := n0_; have BK188 := n1_; have HB := n2_; clear n0_ n1_ n2_))) | ((with_reducible refine zgK (f := 26) rfl ?_); refine zqQ (some 30) rfl rfl Tryd.func26 (by kernel_rfl) rfl #[.string t192, .string (⟨#[41]⟩ : ByteArray)] rfl (by (try simp only [List.map_toArray, List.map_cons, List.map_nil]); first | done | rfl | (simp only [List.length_drop, List.length_take]; rfl)) ?_; (with_reducible refine (ziM.calls t192 (⟨#[41]⟩ : ByteArray) t193 _ A13.out).mono ?_); rintro e w' ⟨rfl, ⟨nd, rfl⟩⟩; refine ⟨_, rfl, ?_⟩; (try (rw [zxE wc]; generalize hq_ : World.drewN wc _ = wc; have n0_ : Aside0 (wc.heap[gb184]? = some (.cells #[.int .i64 0, .int .i64 0, .int .i64 0] 23 (0, 0))) := ⟨by rw [← hq_]; exact bk_⟩; have n1_ : Aside0 (wc.heap[gb188]? = some (.cells #[.int .i64 0, .int .i64 0, .int .i64 x189002_2] 23 (0, 0))) := ⟨by rw [← hq_]; exact bk_⟩; have n2_ : Aside0 (Below w.heap.size w wc) := ⟨by rw [← hq_]; exact bb_⟩; clear BK184 BK188 HB hq_; have BK184 := n0_; have BK188 := n1_; have HB := n2_; clear n0_ n1_ n2_))) | ((with_reducible refine zgK (f := 25) rfl ?_); refine zqQ (some 31) rfl rfl Tryd.func25 (by kernel_rfl) rfl #[.string t193] rfl (by (try simp only [List.map_toArray, List.map_cons, List.map_nil]); first | done | rfl | (simp only [List.length_drop, List.length_take]; rfl)) ?_; (with_reducible refine (zsR.calls t193 t194 t195 _ ?side1 A14.out).mono ?_); (case side1 => exact LaidV.below hG bb_); rintro e w27 ⟨rfl, hb⟩; refine ⟨_, rfl, ?_⟩; have n0_ := zpS (zgM (g := gb184) (o := .cells #[.int .i64 0, .int .i64 0, .int .i64 0] 23 (0, 0)) bk_ hb); have n1_ := zpS (zgM (g := gb188) (o := .cells #[.int .i64 0, .int .i64 0, .int .i64 x189002_2] 23 (0, 0)) bk_ hb); have n2_ := (ns_ hb); clear BK184; clear BK188; clear HB; have BK184 := n0_; have BK188 := n1_; have HB := n2_; clear n0_ n1_ n2_; (try clear hb); (try clear hb2); have hnb28 := NB188_184.out; have hnc28 := NB184_188.out; obtain ⟨hcz29_0, hcz29_1, hcz29_2⟩ := zdT BK188.out; obtain ⟨hfz29_0, hfz29_1, hfz29_2⟩ := zqD BK188.out) | ((with_reducible refine zgK (f := 28) rfl ?_); refine zqQ (some 37) rfl rfl Tryd.func28 (by kernel_rfl) rfl #[.agg #[.int .i64 t194, .int .i64 t195, .int .i64 x189002_2]] rfl (by (try simp only [List.map_toArray, List.map_cons, List.map_nil]); first | done | rfl | (simp only [List.length_drop, List.length_take]; rfl)) ?_; (with_reducible refine (zdR.calls t194 t195 x189002_2 true _ A15.out).mono ?_); rintro e w30 ⟨rfl, hb⟩; refine ⟨_, rfl, ?_⟩; have n0_ := zpS (zgM (g := gb184) (o := .cells #[.int .i64 0, .int .i64 0, .int .i64 0] 23 (0, 0)) (by (with_reducible repeat (first | apply zuW | apply ztN | apply zqY)); refine znI ?_ NB184_188.out _; (with_reducible repeat (first | apply zuW | apply ztN | apply zqY)); refine znI ?_ NB184_188.out _; (with_reducible repeat (first | apply zuW | apply ztN | apply zqY)); exact BK184.out) hb); have n1_ := zpS (zgM (g := gb188) (o := .cells #[.int .i64 t194, .int .i64 t195, .int .i64 x189002_2] 23 (0, 0)) (by (with_reducible repeat (first | apply zuW | apply ztN | apply zqY)); refine zlL (cs := #[.int .i64 t194, .int .i64 0, .int .i64 x189002_2]) ?_ 1 _ rfl; (with_reducible repeat (first | apply zuW | apply ztN | apply zqY)); refine zlL (cs := #[.int .i64 0, .int .i64 0, .int .i64 x189002_2]) ?_ 0 _ rfl; (with_reducible repeat (first | apply zuW | apply ztN | apply zqY)); exact BK188.out) hb); have n2_ := (ns_ hb); clear BK184; clear BK188; clear HB; have BK184 := n0_; have BK188 := n1_; have HB := n2_; clear n0_ n1_ n2_; (try clear hb); (try clear hb2); obtain ⟨hcz31_0, hcz31_1, hcz31_2⟩ := zdT BK188.out; obtain ⟨hfz31_0, hfz31_1, hfz31_2⟩ := zqD BK188.out) | (go_at_call 29; (with_reducible refine (zjG.calls kj2 t194 t195 x189002_2 t197 _ ?side1 A17.out).mono ?_); (case side1 => exact LaidV.below hG bb_); rintro e w32 ⟨rfl, hb⟩; have n0_ := zpS (zgM (g := gb184) (o := .cells #[.int .i64 0, .int .i64 0, .int .i64 0] 23 (0, 0)) bk_ hb); have n1_ := zpS (zgM (g := gb188) (o := .cells #[.int .i64 t194, .int .i64 t195, .int .i64 x189002_2] 23 (0, 0)) bk_ hb); have n2_ := (ns_ hb); clear BK184; clear BK188; clear HB; have BK184 := n0_; have BK188 := n1_; have HB := n2_; clear n0_ n1_ n2_; (try clear hb); (try clear hb2); obtain ⟨hcz33_0, hcz33_1, hcz33_2⟩ := zdT BK184.out; obtain ⟨hfz33_0, hfz33_1, hfz33_2⟩ := zqD BK184.out))
     refine bodyPost_ret (zzB rfl _ _ gb184 23 #[.int .i64 0, .int .i64 0, .int .i64 0] (0, 0) _ rfl (by (with_reducible repeat (first | apply zuW | apply ztN | apply zqY)); refine zlL (cs := #[.int .i64 0, .int .i64 0, .int .i64 0]) ?_ 2 _ rfl; (with_reducible repeat (first | apply zuW | apply ztN | apply zqY)); refine zlL (cs := #[.int .i64 0, .int .i64 0, .int .i64 0]) ?_ 1 _ rfl; (with_reducible repeat (first | apply zuW | apply ztN | apply zqY)); refine zlL (cs := #[.int .i64 0, .int .i64 0, .int .i64 0]) ?_ 0 _ rfl; (with_reducible repeat (first | apply zuW | apply ztN | apply zqY)); exact BK184.out) Tryd.underlying23 rfl (by kernel_rfl)) rfl ?_
     exact ⟨by first | rfl | (simp [ziS, znJ] <;> rfl) | (simp [*, ziS, znJ] <;> rfl), bb_⟩
   ·replace c16 := Bool.eq_false_iff.mpr c16
    subst c16
    have H1 : (some (0, 0, 0, false)) = some (r1, r2, r3, r4) := by rw [if_neg (show ¬ (false = true) by decide)] at H; exact H
    clear H
    have H := H1
    clear H1
    simp only [Option.some.injEq, Prod.mk.injEq] at H
    obtain ⟨rfl, rfl, rfl, rfl⟩ := H
    go_wp2_with (first | ((with_reducible refine zgK (f := 27) rfl ?_); refine zqQ (some 29) rfl rfl Tryd.func27 (by kernel_rfl) rfl #[.string t185, .string (⟨#[40]⟩ : ByteArray)] rfl (by (try simp only [List.map_toArray, List.map_cons, List.map_nil]); first | done | rfl | (simp only [List.length_drop, List.length_take]; rfl)) ?_; (with_reducible refine (zjE.calls t185 (⟨#[40]⟩ : ByteArray) t192 _ A12.out).mono ?_); rintro e w' ⟨rfl, ⟨nd, rfl⟩⟩; refine ⟨_, rfl, ?_⟩; (try (rw [zxE wc]; generalize hq_ : World.drewN wc _ = wc; have n0_ : Aside0 (wc.heap[gb184]? = some (.cells #[.int .i64 0, .int .i64 0, .int .i64 0] 23 (0, 0))) := ⟨by rw [← hq_]; exact bk_⟩; have n1_ : Aside0 (wc.heap[gb188]? = some (.cells #[.int .i64 0, .int .i64 0, .int .i64 x189002_2] 23 (0, 0))) := ⟨by rw [← hq_]; exact bk_⟩; have n2_ : Aside0 (Below w.heap.size w wc) := ⟨by rw [← hq_]; exact bb_⟩; clear BK184 BK188 HB hq_; have BK184 := n0_; have BK188 := n1_; have HB := n2_; clear n0_ n1_ n2_))) | ((with_reducible refine zgK (f := 26) rfl ?_); refine zqQ (some 30) rfl rfl Tryd.func26 (by kernel_rfl) rfl #[.string t192, .string (⟨#[41]⟩ : ByteArray)] rfl (by (try simp only [List.map_toArray, List.map_cons, List.map_nil]); first | done | rfl | (simp only [List.length_drop, List.length_take]; rfl)) ?_; (with_reducible refine (ziM.calls t192 (⟨#[41]⟩ : ByteArray) t193 _ A13.out).mono ?_); rintro e w' ⟨rfl, ⟨nd, rfl⟩⟩; refine ⟨_, rfl, ?_⟩; (try (rw [zxE wc]; generalize hq_ : World.drewN wc _ = wc; have n0_ : Aside0 (wc.heap[gb184]? = some (.cells #[.int .i64 0, .int .i64 0, .int .i64 0] 23 (0, 0))) := ⟨by rw [← hq_]; exact bk_⟩; have n1_ : Aside0 (wc.heap[gb188]? = some (.cells #[.int .i64 0, .int .i64 0, .int .i64 x189002_2] 23 (0, 0))) := ⟨by rw [← hq_]; exact bk_⟩; have n2_ : Aside0 (Below w.heap.size w wc) := ⟨by rw [← hq_]; exact bb_⟩; clear BK184 BK188 HB hq_; have BK184 := n0_; have BK188 := n1_; have HB := n2_; clear n0_ n1_ n2_))) | ((with_reducible refine zgK (f := 25) rfl ?_); refine zqQ (some 31) rfl rfl Tryd.func25 (by kernel_rfl) rfl #[.string t193] rfl (by (try simp only [List.map_toArray, List.map_cons, List.map_nil]); first | done | rfl | (simp only [List.length_drop, List.length_take]; rfl)) ?_; (with_reducible refine (zsR.calls t193 t194 t195 _ ?side1 A14.out).mono ?_); (case side1 => exact LaidV.below hG bb_); rintro e w34 ⟨rfl, hb⟩; refine ⟨_, rfl, ?_⟩; have n0_ := zpS (zgM (g := gb184) (o := .cells #[.int .i64 0, .int .i64 0, .int .i64 0] 23 (0, 0)) bk_ hb); have n1_ := zpS (zgM (g := gb188) (o := .cells #[.int .i64 0, .int .i64 0, .int .i64 x189002_2] 23 (0, 0)) bk_ hb); have n2_ := (ns_ hb); clear BK184; clear BK188; clear HB; have BK184 := n0_; have BK188 := n1_; have HB := n2_; clear n0_ n1_ n2_; (try clear hb); (try clear hb2); have hnb35 := NB188_184.out; have hnc35 := NB184_188.out; obtain ⟨hcz36_0, hcz36_1, hcz36_2⟩ := zdT BK188.out; obtain ⟨hfz36_0, hfz36_1, hfz36_2⟩ := zqD BK188.out) | ((with_reducible refine zgK (f := 28) rfl ?_); refine zqQ (some 37) rfl rfl Tryd.func28 (by kernel_rfl) rfl #[.agg #[.int .i64 t194, .int .i64 t195, .int .i64 x189002_2]] rfl (by (try simp only [List.map_toArray, List.map_cons, List.map_nil]); first | done | rfl | (simp only [List.length_drop, List.length_take]; rfl)) ?_; (with_reducible refine (zdR.calls t194 t195 x189002_2 false _ A15.out).mono ?_); rintro e w37 ⟨rfl, hb⟩; refine ⟨_, rfl, ?_⟩; have n0_ := zpS (zgM (g := gb184) (o := .cells #[.int .i64 0, .int .i64 0, .int .i64 0] 23 (0, 0)) (by (with_reducible repeat (first | apply zuW | apply ztN | apply zqY)); refine znI ?_ NB184_188.out _; (with_reducible repeat (first | apply zuW | apply ztN | apply zqY)); refine znI ?_ NB184_188.out _; (with_reducible repeat (first | apply zuW | apply ztN | apply zqY)); exact BK184.out) hb); have n1_ := zpS (zgM (g := gb188) (o := .cells #[.int .i64 t194, .int .i64 t195, .int .i64 x189002_2] 23 (0, 0)) (by (with_reducible repeat (first | apply zuW | apply ztN | apply zqY)); refine zlL (cs := #[.int .i64 t194, .int .i64 0, .int .i64 x189002_2]) ?_ 1 _ rfl; (with_reducible repeat (first | apply zuW | apply ztN | apply zqY)); refine zlL (cs := #[.int .i64 0, .int .i64 0, .int .i64 x189002_2]) ?_ 0 _ rfl; (with_reducible repeat (first | apply zuW | apply ztN | apply zqY)); exact BK188.out) hb); have n2_ := (ns_ hb); clear BK184; clear BK188; clear HB; have BK184 := n0_; have BK188 := n1_; have HB := n2_; clear n0_ n1_ n2_; (try clear hb); (try clear hb2); obtain ⟨hcz38_0, hcz38_1, hcz38_2⟩ := zdT BK184.out; obtain ⟨hfz38_0, hfz38_1, hfz38_2⟩ := zqD BK184.out))
    refine bodyPost_ret (zzB rfl _ _ gb184 23 #[.int .i64 0, .int .i64 0, .int .i64 0] (0, 0) _ rfl (by (with_reducible repeat (first | apply zuW | apply ztN | apply zqY)); refine zlL (cs := #[.int .i64 0, .int .i64 0, .int .i64 0]) ?_ 2 _ rfl; (with_reducible repeat (first | apply zuW | apply ztN | apply zqY)); refine zlL (cs := #[.int .i64 0, .int .i64 0, .int .i64 0]) ?_ 1 _ rfl; (with_reducible repeat (first | apply zuW | apply ztN | apply zqY)); refine zlL (cs := #[.int .i64 0, .int .i64 0, .int .i64 0]) ?_ 0 _ rfl; (with_reducible repeat (first | apply zuW | apply ztN | apply zqY)); exact BK184.out) Tryd.underlying23 rfl (by kernel_rfl)) rfl ?_
    exact ⟨by first | rfl | (simp [ziS, znJ] <;> rfl) | (simp [*, ziS, znJ] <;> rfl), bb_⟩

def zyD.f (a0_0 : Int) (a0_1 : Int) (a0_2 : Int) (a0_3 : Int) : Option (Bool) := (zrP.f a0_0 0 7).bind fun t199 => (if t199 = true then ((zdR.f a0_1 a0_2 a0_3).bind fun t200 => (some t200)) else (some false))
theorem zyD.calls (a0_0 : Int) (a0_1 : Int) (a0_2 : Int) (a0_3 : Int) (r : Bool) (w : World) (h : zyD.f a0_0 a0_1 a0_2 a0_3 = some r) :
  Calls Tryd.prog 31 #[.agg #[.int .i64 a0_0, .int .i64 a0_1, .int .i64 a0_2, .int .i64 a0_3]] w fun e w' => e = .returned (.bool r) ∧ Below w.heap.size w w' := by
 have hu29 := Tryd.underlying29
 have hu23 := Tryd.underlying23
 have HB := zpS (Below.refl w.heap.size w)
 have H : ((zrP.f a0_0 0 7).bind fun t199 => (if t199 = true then ((zdR.f a0_1 a0_2 a0_3).bind fun t200 => (some t200)) else (some false))) = some r := h
 clear h
 replace H := Option.bind_eq_some_iff.mp H
 obtain ⟨t199, A20, H⟩ := H
 replace H : (if t199 = true then ((zdR.f a0_1 a0_2 a0_3).bind fun t200 => (some t200)) else (some false)) = some r := H
 have A2 := zpS A20
 clear A20
 by_cases c3 : t199 = true
 ·subst c3
  have H1 : ((zdR.f a0_1 a0_2 a0_3).bind fun t200 => (some t200)) = some r := by rw [if_pos rfl] at H; exact H
  clear H
  have H := H1
  clear H1
  replace H := Option.bind_eq_some_iff.mp H
  obtain ⟨t200, A40, H⟩ := H
  replace H : (some t200) = some r := H
  have A4 := zpS A40
  clear A40
  obtain rfl := Option.some.inj H
  go_enter Tryd.func31, Tryd.ntmps31
  go_wp2_with (first | ((with_reducible refine zpZ (N := 1) rfl ?_); refine bx_ 1 #[.int .i64 a0_0, .int .i64 a0_1, .int .i64 a0_2, .int .i64 a0_3] 29 ?_; intro gb198 hg w5 hbox hb; have n0_ := (ns_ hb); have n1_ := zpS (hbox); have n2_ := (ng_ hg); have n3_ := n2_; clear HB; have HB := n0_; have BK198 := n1_; have GW198 := n2_; have GE198 := n3_; clear n0_ n1_ n2_ n3_; clear hb hbox hg; have hcz6_0 : w5.cell? ⟨gb198, 0, none⟩ = some (.int .i64 a0_0) := (zzS BK198.out 0).trans rfl; have hcz6_1 : w5.cell? ⟨gb198, 1, none⟩ = some (.int .i64 a0_1) := (zzS BK198.out 1).trans rfl; have hcz6_2 : w5.cell? ⟨gb198, 2, none⟩ = some (.int .i64 a0_2) := (zzS BK198.out 2).trans rfl; have hcz6_3 : w5.cell? ⟨gb198, 3, none⟩ = some (.int .i64 a0_3) := (zzS BK198.out 3).trans rfl; have hfz6_0 := zjF BK198.out 0; have hfz6_1 := zjF BK198.out 1; have hfz6_2 := zjF BK198.out 2; have hfz6_3 := zjF BK198.out 3) | ((with_reducible refine zgK (f := 46) rfl ?_); refine zqQ (some 5) rfl rfl Tryd.func46 (by kernel_rfl) rfl #[.int .i64 a0_0, .int .i64 0, .int .i64 7] rfl (by (try simp only [List.map_toArray, List.map_cons, List.map_nil]); first | done | rfl | (simp only [List.length_drop, List.length_take]; rfl)) ?_; (with_reducible refine (zrP.calls a0_0 0 7 true _ A2.out).mono ?_); rintro e w' ⟨rfl, ⟨nd, rfl⟩⟩; refine ⟨_, rfl, ?_⟩) | (go_at_call 28; (with_reducible refine (zdR.calls a0_1 a0_2 a0_3 t200 _ A4.out).mono ?_); rintro e w7 ⟨rfl, hb⟩; have n0_ := zpS (zgM (g := gb198) (o := .cells #[.int .i64 a0_0, .int .i64 a0_1, .int .i64 a0_2, .int .i64 a0_3] 29 (0, 0)) bk_ hb); have n1_ := (ns_ hb); clear BK198; clear HB; have BK198 := n0_; have HB := n1_; clear n0_ n1_; (try clear hb); (try clear hb2)))
  go_ret
  exact ⟨by first | rfl | (simp [ziS, znJ] <;> rfl) | (simp [*, ziS, znJ] <;> rfl), bb_⟩
 ·replace c3 := Bool.eq_false_iff.mpr c3
  subst c3
  have H1 : (some false) = some r := by rw [if_neg (show ¬ (false = true) by decide)] at H; exact H
  clear H
  have H := H1
  clear H1
  obtain rfl := Option.some.inj H
  go_enter Tryd.func31, Tryd.ntmps31
  go_wp2_with (first | ((with_reducible refine zpZ (N := 1) rfl ?_); refine bx_ 1 #[.int .i64 a0_0, .int .i64 a0_1, .int .i64 a0_2, .int .i64 a0_3] 29 ?_; intro gb198 hg w8 hbox hb; have n0_ := (ns_ hb); have n1_ := zpS (hbox); have n2_ := (ng_ hg); have n3_ := n2_; clear HB; have HB := n0_; have BK198 := n1_; have GW198 := n2_; have GE198 := n3_; clear n0_ n1_ n2_ n3_; clear hb hbox hg; have hcz9_0 : w8.cell? ⟨gb198, 0, none⟩ = some (.int .i64 a0_0) := (zzS BK198.out 0).trans rfl; have hcz9_1 : w8.cell? ⟨gb198, 1, none⟩ = some (.int .i64 a0_1) := (zzS BK198.out 1).trans rfl; have hcz9_2 : w8.cell? ⟨gb198, 2, none⟩ = some (.int .i64 a0_2) := (zzS BK198.out 2).trans rfl; have hcz9_3 : w8.cell? ⟨gb198, 3, none⟩ = some (.int .i64 a0_3) := (zzS BK198.out 3).trans rfl; have hfz9_0 := zjF BK198.out 0; have hfz9_1 := zjF BK198.out 1; have hfz9_2 := zjF BK198.out 2; have hfz9_3 := zjF BK198.out 3) | ((with_reducible refine zgK (f := 46) rfl ?_); refine zqQ (some 5) rfl rfl Tryd.func46 (by kernel_rfl) rfl #[.int .i64 a0_0, .int .i64 0, .int .i64 7] rfl (by (try simp only [List.map_toArray, List.map_cons, List.map_nil]); first | done | rfl | (simp only [List.length_drop, List.length_take]; rfl)) ?_; (with_reducible refine (zrP.calls a0_0 0 7 false _ A2.out).mono ?_); rintro e w' ⟨rfl, ⟨nd, rfl⟩⟩; refine ⟨_, rfl, ?_⟩))
  go_ret
  exact ⟨by first | rfl | (simp [ziS, znJ] <;> rfl) | (simp [*, ziS, znJ] <;> rfl), bb_⟩

def zvL.f (k : Nat) (a0 : ByteArray) : Option (Int × Int × Int × Int × Bool) := (strings_Cut.f a0 (⟨#[64]⟩ : ByteArray)).bind fun bt202 => ((zkI.f bt202.1).bind fun bt205 => ((zaB.f k bt202.2.1).bind fun bt207 => (if bt205.2 = true then (if bt207.2.2.2 = true then ((zyD.f bt205.1 bt207.1 bt207.2.1 bt207.2.2.1).bind fun t213 => (if t213 = true then (some (bt205.1, bt207.1, bt207.2.1, bt207.2.2.1, true)) else (some (0, 0, 0, 0, false)))) else (some (0, 0, 0, 0, false))) else (some (0, 0, 0, 0, false)))))
theorem zvL.mono : ∀ a0 k, LeO (zvL.f k a0) (zvL.f (k + 1) a0) := by
 intro a0 k
 unfold zvL.f
 repeat' first
   | (with_reducible exact zaB.mono _ _)
   | (with_reducible exact LeO.refl _)
   | (with_reducible exact LeO.none _)
   | (with_reducible refine LeO.ite ?_ ?_)
   | (with_reducible refine LeO.bind ?_ (fun _ => ?_))
   | exact zaB.mono _ _
   | exact LeO.none _
   | refine LeO.ite ?_ ?_
   | refine LeO.bind ?_ (fun _ => ?_)
theorem zvL.calls (k : Nat) (a0 : ByteArray) (r1 : Int) (r2 : Int) (r3 : Int) (r4 : Int) (r5 : Bool) (w : World) (hG : LaidV w) (h : zvL.f k a0 = some (r1, r2, r3, r4, r5)) :
  Calls Tryd.prog 11 #[.string a0] w fun e w' => e = .returned (.tuple #[.agg #[.int .i64 r1, .int .i64 r2, .int .i64 r3, .int .i64 r4], .bool r5]) ∧ Below w.heap.size w w' := by
 have hu29 := Tryd.underlying29
 have hu23 := Tryd.underlying23
 have HB := zpS (Below.refl w.heap.size w)
 have H : ((strings_Cut.f a0 (⟨#[64]⟩ : ByteArray)).bind fun bt202 => ((zkI.f bt202.1).bind fun bt205 => ((zaB.f k bt202.2.1).bind fun bt207 => (if bt205.2 = true then (if bt207.2.2.2 = true then ((zyD.f bt205.1 bt207.1 bt207.2.1 bt207.2.2.1).bind fun t213 => (if t213 = true then (some (bt205.1, bt207.1, bt207.2.1, bt207.2.2.1, true)) else (some (0, 0, 0, 0, false)))) else (some (0, 0, 0, 0, false))) else (some (0, 0, 0, 0, false)))))) = some (r1, r2, r3, r4, r5) := h
 clear h
 replace H := Option.bind_eq_some_iff.mp H
 obtain ⟨⟨t202, t203, t204⟩, A20, H⟩ := H
 replace H : ((zkI.f t202).bind fun bt205 => ((zaB.f k t203).bind fun bt207 => (if bt205.2 = true then (if bt207.2.2.2 = true then ((zyD.f bt205.1 bt207.1 bt207.2.1 bt207.2.2.1).bind fun t213 => (if t213 = true then (some (bt205.1, bt207.1, bt207.2.1, bt207.2.2.1, true)) else (some (0, 0, 0, 0, false)))) else (some (0, 0, 0, 0, false))) else (some (0, 0, 0, 0, false))))) = some (r1, r2, r3, r4, r5) := H
 have A2 := zpS A20
 clear A20
 replace H := Option.bind_eq_some_iff.mp H
 obtain ⟨⟨t205, t206⟩, A30, H⟩ := H
 replace H : ((zaB.f k t203).bind fun bt207 => (if t206 = true then (if bt207.2.2.2 = true then ((zyD.f t205 bt207.1 bt207.2.1 bt207.2.2.1).bind fun t213 => (if t213 = true then (some (t205, bt207.1, bt207.2.1, bt207.2.2.1, true)) else (some (0, 0, 0, 0, false)))) else (some (0, 0, 0, 0, false))) else (some (0, 0, 0, 0, false)))) = some (r1, r2, r3, r4, r5) := H
 have A3 := zpS A30
 clear A30
 replace H := Option.bind_eq_some_iff.mp H
 obtain ⟨⟨t207, t208, t209, t210⟩, A40, H⟩ := H
 replace H : (if t206 = true then (if t210 = true then ((zyD.f t205 t207 t208 t209).bind fun t213 => (if t213 = true then (some (t205, t207, t208, t209, true)) else (some (0, 0, 0, 0, false)))) else (some (0, 0, 0, 0, false))) else (some (0, 0, 0, 0, false))) = some (r1, r2, r3, r4, r5) := H
 have A4 := zpS A40
 clear A40
 by_cases c5 : t206 = true
 ·subst c5
  have H1 : (if t210 = true then ((zyD.f t205 t207 t208 t209).bind fun t213 => (if t213 = true then (some (t205, t207, t208, t209, true)) else (some (0, 0, 0, 0, false)))) else (some (0, 0, 0, 0, false))) = some (r1, r2, r3, r4, r5) := by rw [if_pos rfl] at H; exact H
  clear H
  have H := H1
  clear H1
  by_cases c6 : t210 = true
  ·subst c6
   have H1 : ((zyD.f t205 t207 t208 t209).bind fun t213 => (if t213 = true then (some (t205, t207, t208, t209, true)) else (some (0, 0, 0, 0, false)))) = some (r1, r2, r3, r4, r5) := by rw [if_pos rfl] at H; exact H
   clear H
   have H := H1
   clear H1
   replace H := Option.bind_eq_some_iff.mp H
   obtain ⟨t213, A70, H⟩ := H
   replace H : (if t213 = true then (some (t205, t207, t208, t209, true)) else (some (0, 0, 0, 0, false))) = some (r1, r2, r3, r4, r5) := H
   have A7 := zpS A70
   clear A70
   by_cases c8 : t213 = true
   ·subst c8
    have H1 : (some (t205, t207, t208, t209, true)) = some (r1, r2, r3, r4, r5) := by rw [if_pos rfl] at H; exact H
    clear H
    have H := H1
    clear H1
    simp only [Option.some.injEq, Prod.mk.injEq] at H
    obtain ⟨rfl, rfl, rfl, rfl, rfl⟩ := H
    go_enter Tryd.func11, Tryd.ntmps11
    go_wp2_with (first | ((with_reducible refine zpZ (N := 2) rfl ?_); refine bx_ 2 #[.int .i64 0, .int .i64 0, .int .i64 0, .int .i64 0] 29 ?_; intro gb201 hg w9 hbox hb; have n0_ := (ns_ hb); have n1_ := zpS (hbox); have n2_ := (ng_ hg); have n3_ := n2_; clear HB; have HB := n0_; have BK201 := n1_; have GW201 := n2_; have GE201 := n3_; clear n0_ n1_ n2_ n3_; clear hb hbox hg) | ((with_reducible refine zgK (f := 22) rfl ?_); refine zqQ (some 14) rfl rfl Tryd.func22 (by kernel_rfl) rfl #[.string a0, .string (⟨#[64]⟩ : ByteArray)] rfl (by (try simp only [List.map_toArray, List.map_cons, List.map_nil]); first | done | rfl | (simp only [List.length_drop, List.length_take]; rfl)) ?_; (with_reducible refine (strings_Cut.calls a0 (⟨#[64]⟩ : ByteArray) t202 t203 t204 _ ?side1 A2.out).mono ?_); (case side1 => exact LaidV.below hG bb_); rintro e w' ⟨rfl, ⟨nd, rfl⟩⟩; refine ⟨_, rfl, ?_⟩; (try (rw [zxE w9]; generalize hq_ : World.drewN w9 _ = w9; have n0_ : Aside0 (w9.heap[gb201]? = some (.cells #[.int .i64 0, .int .i64 0, .int .i64 0, .int .i64 0] 29 (0, 0))) := ⟨by rw [← hq_]; exact bk_⟩; have n1_ : Aside0 (Below w.heap.size w w9) := ⟨by rw [← hq_]; exact bb_⟩; clear BK201 HB hq_; have BK201 := n0_; have HB := n1_; clear n0_ n1_))) | ((with_reducible refine zgK (f := 23) rfl ?_); refine zqQ (some 20) rfl rfl Tryd.func23 (by kernel_rfl) rfl #[.string t202] rfl (by (try simp only [List.map_toArray, List.map_cons, List.map_nil]); first | done | rfl | (simp only [List.length_drop, List.length_take]; rfl)) ?_; (with_reducible refine (zkI.calls t202 t205 true _ ?side1 A3.out).mono ?_); (case side1 => exact LaidV.below hG bb_); rintro e w10 ⟨rfl, hb⟩; refine ⟨_, rfl, ?_⟩; have n0_ := zpS (zgM (g := gb201) (o := .cells #[.int .i64 0, .int .i64 0, .int .i64 0, .int .i64 0] 29 (0, 0)) bk_ hb); have n1_ := (ns_ hb); clear BK201; clear HB; have BK201 := n0_; have HB := n1_; clear n0_ n1_; (try clear hb); (try clear hb2)) | ((with_reducible refine zgK (f := 8) rfl ?_); refine zqQ (some 25) rfl rfl Tryd.func8 (by kernel_rfl) rfl #[.string t203] rfl (by (try simp only [List.map_toArray, List.map_cons, List.map_nil]); first | done | rfl | (simp only [List.length_drop, List.length_take]; rfl)) ?_; (with_reducible refine (zaB.calls k t203 t207 t208 t209 true _ ?side1 A4.out).mono ?_); (case side1 => exact LaidV.below hG bb_); rintro e w11 ⟨rfl, hb⟩; refine ⟨_, rfl, ?_⟩; have n0_ := zpS (zgM (g := gb201) (o := .cells #[.int .i64 0, .int .i64 0, .int .i64 0, .int .i64 0] 29 (0, 0)) bk_ hb); have n1_ := (ns_ hb); clear BK201; clear HB; have BK201 := n0_; have HB := n1_; clear n0_ n1_; (try clear hb); (try clear hb2)) | ((with_reducible refine zpZ (N := 9) rfl ?_); refine bx_ 9 #[.int .i64 0, .int .i64 0, .int .i64 0] 23 ?_; intro gb211 hg w12 hbox hb; have n0_ := zpS (zgM (g := gb201) (o := .cells #[.int .i64 0, .int .i64 0, .int .i64 0, .int .i64 0] 29 (0, 0)) bk_ hb); have n1_ := (ns_ hb); have n2_ := zpS (hbox); have n3_ := (ng_ hg); have n4_ := n3_; have n5_ := zpS ((by rw [hg]; exact Nat.ne_of_lt (zmN (g := gb201) (o := .cells #[.int .i64 0, .int .i64 0, .int .i64 0, .int .i64 0] 29 (0, 0)) bk_) : gb201 ≠ gb211)); have n6_ := zpS ((by rw [hg]; exact Nat.ne_of_gt (zmN (g := gb201) (o := .cells #[.int .i64 0, .int .i64 0, .int .i64 0, .int .i64 0] 29 (0, 0)) bk_) : gb211 ≠ gb201)); clear BK201; clear HB; have BK201 := n0_; have HB := n1_; have BK211 := n2_; have GW211 := n3_; have GE211 := n4_; have NB201_211 := n5_; have NB211_201 := n6_; clear n0_ n1_ n2_ n3_ n4_ n5_ n6_; clear hb hbox hg; have hnb13 := NB211_201.out; have hnc13 := NB201_211.out; obtain ⟨hcz14_0, hcz14_1, hcz14_2⟩ := zdT BK211.out; obtain ⟨hfz14_0, hfz14_1, hfz14_2⟩ := zqD BK211.out) | ((with_reducible refine zpZ (N := 11) rfl ?_); refine bx_ 11 #[.int .i64 0, .int .i64 0, .int .i64 0, .int .i64 0] 29 ?_; intro gb212 hg w15 hbox hb; have n0_ := zpS (zgM (g := gb201) (o := .cells #[.int .i64 0, .int .i64 0, .int .i64 0, .int .i64 0] 29 (0, 0)) (by (with_reducible repeat (first | apply zuW | apply ztN | apply zqY)); refine znI ?_ NB201_211.out _; (with_reducible repeat (first | apply zuW | apply ztN | apply zqY)); refine znI ?_ NB201_211.out _; (with_reducible repeat (first | apply zuW | apply ztN | apply zqY)); refine znI ?_ NB201_211.out _; (with_reducible repeat (first | apply zuW | apply ztN | apply zqY)); exact BK201.out) hb); have n1_ := zpS (zgM (g := gb211) (o := .cells #[.int .i64 t207, .int .i64 t208, .int .i64 t209] 23 (0, 0)) (by (with_reducible repeat (first | apply zuW | apply ztN | apply zqY)); refine zlL (cs := #[.int .i64 t207, .int .i64 t208, .int .i64 0]) ?_ 2 _ rfl; (with_reducible repeat (first | apply zuW | apply ztN | apply zqY)); refine zlL (cs := #[.int .i64 t207, .int .i64 0, .int .i64 0]) ?_ 1 _ rfl; (with_reducible repeat (first | apply zuW | apply ztN | apply zqY)); refine zlL (cs := #[.int .i64 0, .int .i64 0, .int .i64 0]) ?_ 0 _ rfl; (with_reducible repeat (first | apply zuW | apply ztN | apply zqY)); exact BK211.out) hb); have n2_ := (ns_ hb); have n3_ := zpS (hbox); have n4_ := (ng_ hg); have n5_ := n4_; have n6_ := zpS ((by rw [hg]; exact Nat.ne_of_lt (zmN (g := gb201) (o := .cells #[.int .i64 0, .int .i64 0, .int .i64 0, .int .i64 0] 29 (0, 0)) (by (with_reducible repeat (first | apply zuW | apply ztN | apply zqY)); refine znI ?_ NB201_211.out _; (with_reducible repeat (first | apply zuW | apply ztN | apply zqY)); refine znI ?_ NB201_211.out _; (with_reducible repeat (first | apply zuW | apply ztN | apply zqY)); refine znI ?_ NB201_211.out _; (with_reducible repeat (first | apply zuW | apply ztN | apply zqY)); exact BK201.out)) : gb201 ≠ gb212)); have n7_ := zpS ((by rw [hg]; exact Nat.ne_of_gt (zmN (g := gb201) (o := .cells #[.int .i64 0, .int .i64 0, .int .i64 0, .int .i64 0] 29 (0, 0)) (by (with_reducible repeat (first | apply zuW | apply ztN | apply zqY)); refine znI ?_ NB201_211.out _; (with_reducible repeat (first | apply zuW | apply ztN | apply zqY)); refine znI ?_ NB201_211.out _; (with_reducible repeat (first | apply zuW | apply ztN | apply zqY)); refine znI ?_ NB201_211.out _; (with_reducible repeat (first | apply zuW | apply ztN | apply zqY)); exact BK201.out)) : gb212 ≠ gb201)); have n8_ := zpS ((by rw [hg]; exact Nat.ne_of_lt (zmN (g := gb211) (o := .cells #[.int .i64 t207, .int .i64 t208, .int .i64 t209] 23 (0, 0)) (by (with_reducible repeat (first | apply zuW | apply ztN | apply zqY)); refine zlL (cs := #[.int .i64 t207, .int .i64 t208, .int .i64 0]) ?_ 2 _ rfl; (with_reducible repeat (first | apply zuW | apply ztN | apply zqY)); refine zlL (cs := #[.int .i64 t207, .int .i64 0, .int .i64 0]) ?_ 1 _ rfl; (with_reducible repeat (first | apply zuW | apply ztN | apply zqY)); refine zlL (cs := #[.int .i64 0, .int .i64 0, .int .i64 0]) ?_ 0 _ rfl; (with_reducible repeat (first | apply zuW | apply ztN | apply zqY)); exact BK211.out)) : gb211 ≠ gb212)); have n9_ := zpS ((by rw [hg]; exact Nat.ne_of_gt (zmN (g := gb211) (o := .cells #[.int .i64 t207, .int .i64 t208, .int .i64 t209] 23 (0, 0)) (by (with_reducible repeat (first | apply zuW | apply ztN | apply zqY)); refine zlL (cs := #[.int .i64 t207, .int .i64 t208, .int .i64 0]) ?_ 2 _ rfl; (with_reducible repeat (first | apply zuW | apply ztN | apply zqY)); refine zlL (cs := #[.int .i64 t207, .int .i64 0, .int .i64 0]) ?_ 1 _ rfl; (with_reducible repeat (first | apply zuW | apply ztN | apply zqY)); refine zlL (cs := #[.int .i64 0, .int .i64 0, .int .i64 0]) ?_ 0 _ rfl; (with_reducible repeat (first | apply zuW | apply ztN | apply zqY)); exact BK211.out)) : gb212 ≠ gb211)); clear BK201; clear BK211; clear HB; have BK201 := n0_; have BK211 := n1_; have HB := n2_; have BK212 := n3_; have GW212 := n4_; have GE212 := n5_; have NB201_212 := n6_; have NB212_201 := n7_; have NB211_212 := n8_; have NB212_211 := n9_; clear n0_ n1_ n2_ n3_ n4_ n5_ n6_ n7_ n8_ n9_; clear hb hbox hg; have hnb16 := NB212_201.out; have hnc16 := NB201_212.out; have hnb17 := NB212_211.out; have hnc17 := NB211_212.out; have hcz18_0 : w15.cell? ⟨gb212, 0, none⟩ = some (.int .i64 0) := (zzS BK212.out 0).trans rfl; have hcz18_1 : w15.cell? ⟨gb212, 1, none⟩ = some (.int .i64 0) := (zzS BK212.out 1).trans rfl; have hcz18_2 : w15.cell? ⟨gb212, 2, none⟩ = some (.int .i64 0) := (zzS BK212.out 2).trans rfl; have hcz18_3 : w15.cell? ⟨gb212, 3, none⟩ = some (.int .i64 0) := (zzS BK212.out 3).trans rfl; have hfz18_0 := zjF BK212.out 0; have hfz18_1 := zjF BK212.out 1; have hfz18_2 := zjF BK212.out 2; have hfz18_3 := zjF BK212.out 3) | (go_at_call 31; (with_reducible refine (zyD.calls t205 t207 t208 t209 true _ A7.out).mono ?_); rintro e w19 ⟨rfl, hb⟩; have n0_ := zpS (zgM (g := gb201) (o := .cells #[.int .i64 0, .int .i64 0, .int .i64 0, .int .i64 0] 29 (0, 0)) (by (with_reducible repeat (first | apply zuW | apply ztN | apply zqY)); refine znI ?_ NB201_212.out _; (with_reducible repeat (first | apply zuW | apply ztN | apply zqY)); refine znI ?_ NB201_212.out _; (with_reducible repeat (first | apply zuW | apply ztN | apply zqY)); refine znI ?_ NB201_212.out _; (with_reducible repeat (first | apply zuW | apply ztN | apply zqY)); refine znI ?_ NB201_212.out _; (with_reducible repeat (first | apply zuW | apply ztN | apply zqY)); exact BK201.out) hb); have n1_ := zpS (zgM (g := gb211) (o := .cells #[.int .i64 t207, .int .i64 t208, .int .i64 t209] 23 (0, 0)) (by (with_reducible repeat (first | apply zuW | apply ztN | apply zqY)); refine znI ?_ NB211_212.out _; (with_reducible repeat (first | apply zuW | apply ztN | apply zqY)); refine znI ?_ NB211_212.out _; (with_reducible repeat (first | apply zuW | apply ztN | apply zqY)); refine znI ?_ NB211_212.out _; (with_reducible repeat (first | apply zuW | apply ztN | apply zqY)); refine znI ?_ NB211_212.out _; (with_reducible repeat (first | apply zuW | apply ztN | apply zqY)); exact BK211.out) hb); have n2_ := zpS (zgM (g := gb212) (o := .cells #[.int .i64 t205, .int .i64 t207, .int .i64 t208, .int .i64 t209] 29 (0, 0)) (by (with_reducible repeat (first | apply zuW | apply ztN | apply zqY)); refine zlL (cs := #[.int .i64 t205, .int .i64 t207, .int .i64 t208, .int .i64 0]) ?_ 3 _ rfl; (with_reducible repeat (first | apply zuW | apply ztN | apply zqY)); refine zlL (cs := #[.int .i64 t205, .int .i64 t207, .int .i64 0, .int .i64 0]) ?_ 2 _ rfl; (with_reducible repeat (first | apply zuW | apply ztN | apply zqY)); refine zlL (cs := #[.int .i64 t205, .int .i64 0, .int .i64 0, .int .i64 0]) ?_ 1 _ rfl; (with_reducible repeat (first | apply zuW | apply ztN | apply zqY)); refine zlL (cs := #[.int .i64 0, .int .i64 0, .int .i64 0, .int .i64 0]) ?_ 0 _ rfl; (with_reducible repeat (first | apply zuW | apply ztN | apply zqY)); exact BK212.out) hb); have n3_ := (ns_ hb); clear BK201; clear BK211; clear BK212; clear HB; have BK201 := n0_; have BK211 := n1_; have BK212 := n2_; have HB := n3_; clear n0_ n1_ n2_ n3_; (try clear hb); (try clear hb2); have hcz20_0 : w19.cell? ⟨gb212, 0, none⟩ = some (.int .i64 t205) := (zzS BK212.out 0).trans rfl; have hcz20_1 : w19.cell? ⟨gb212, 1, none⟩ = some (.int .i64 t207) := (zzS BK212.out 1).trans rfl; have hcz20_2 : w19.cell? ⟨gb212, 2, none⟩ = some (.int .i64 t208) := (zzS BK212.out 2).trans rfl; have hcz20_3 : w19.cell? ⟨gb212, 3, none⟩ = some (.int .i64 t209) := (zzS BK212.out 3).trans rfl; have hfz20_0 := zjF BK212.out 0; have hfz20_1 := zjF BK212.out 1; have hfz20_2 := zjF BK212.out 2; have hfz20_3 := zjF BK212.out 3; have hcz21_0 : w19.cell? ⟨gb201, 0, none⟩ = some (.int .i64 0) := (zzS BK201.out 0).trans rfl; have hcz21_1 : w19.cell? ⟨gb201, 1, none⟩ = some (.int .i64 0) := (zzS BK201.out 1).trans rfl; have hcz21_2 : w19.cell? ⟨gb201, 2, none⟩ = some (.int .i64 0) := (zzS BK201.out 2).trans rfl; have hcz21_3 : w19.cell? ⟨gb201, 3, none⟩ = some (.int .i64 0) := (zzS BK201.out 3).trans rfl; have hfz21_0 := zjF BK201.out 0; have hfz21_1 := zjF BK201.out 1; have hfz21_2 := zjF BK201.out 2; have hfz21_3 := zjF BK201.out 3))
    refine bodyPost_ret (zzB rfl _ _ gb201 29 #[.int .i64 t205, .int .i64 t207, .int .i64 t208, .int .i64 t209] (0, 0) _ rfl (by (with_reducible repeat (first | apply zuW | apply ztN | apply zqY)); refine zlL (cs := #[.int .i64 t205, .int .i64 t207, .int .i64 t208, .int .i64 0]) ?_ 3 _ rfl; (with_reducible repeat (first | apply zuW | apply ztN | apply zqY)); refine zlL (cs := #[.int .i64 t205, .int .i64 t207, .int .i64 0, .int .i64 0]) ?_ 2 _ rfl; (with_reducible repeat (first | apply zuW | apply ztN | apply zqY)); refine zlL (cs := #[.int .i64 t205, .int .i64 0, .int .i64 0, .int .i64 0]) ?_ 1 _ rfl; (with_reducible repeat (first | apply zuW | apply ztN | apply zqY)); refine zlL (cs := #[.int .i64 0, .int .i64 0, .int .i64 0, .int .i64 0]) ?_ 0 _ rfl; (with_reducible repeat (first | apply zuW | apply ztN | apply zqY)); exact BK201.out) Tryd.underlying29 rfl (by kernel_rfl)) rfl ?_
    exact ⟨by first | rfl | (simp [ziS, znJ] <;> rfl) | (simp [*, ziS, znJ] <;> rfl), bb_⟩
   ·replace c8 := Bool.eq_false_iff.mpr c8
    subst c8
    have H1 : (some (0, 0, 0, 0, false)) = some (r1, r2, r3, r4, r5) := by rw [if_neg (show ¬ (false = true) by decide)] at H; exact H
    clear H
    have H := H1
    clear H1
    simp only [Option.some.injEq, Prod.mk.injEq] at H
    obtain ⟨rfl, rfl, rfl, rfl, rfl⟩ := H
    go_enter Tryd.func11, Tryd.ntmps11
    go_wp2_with (first | ((with_reducible refine zpZ (N := 2) rfl ?_); refine bx_ 2 #[.int .i64 0, .int .i64 0, .int .i64 0, .int .i64 0] 29 ?_; intro gb201 hg w22 hbox hb; have n0_ := (ns_ hb); have n1_ := zpS (hbox); have n2_ := (ng_ hg); have n3_ := n2_; clear HB; have HB := n0_; have BK201 := n1_; have GW201 := n2_; have GE201 := n3_; clear n0_ n1_ n2_ n3_; clear hb hbox hg) | ((with_reducible refine zgK (f := 22) rfl ?_); refine zqQ (some 14) rfl rfl Tryd.func22 (by kernel_rfl) rfl #[.string a0, .string (⟨#[64]⟩ : ByteArray)] rfl (by (try simp only [List.map_toArray, List.map_cons, List.map_nil]); first | done | rfl | (simp only [List.length_drop, List.length_take]; rfl)) ?_; (with_reducible refine (strings_Cut.calls a0 (⟨#[64]⟩ : ByteArray) t202 t203 t204 _ ?side1 A2.out).mono ?_); (case side1 => exact LaidV.below hG bb_); rintro e w' ⟨rfl, ⟨nd, rfl⟩⟩; refine ⟨_, rfl, ?_⟩; (try (rw [zxE w22]; generalize hq_ : World.drewN w22 _ = w22; have n0_ : Aside0 (w22.heap[gb201]? = some (.cells #[.int .i64 0, .int .i64 0, .int .i64 0, .int .i64 0] 29 (0, 0))) := ⟨by rw [← hq_]; exact bk_⟩; have n1_ : Aside0 (Below w.heap.size w w22) := ⟨by rw [← hq_]; exact bb_⟩; clear BK201 HB hq_; have BK201 := n0_; have HB := n1_; clear n0_ n1_))) | ((with_reducible refine zgK (f := 23) rfl ?_); refine zqQ (some 20) rfl rfl Tryd.func23 (by kernel_rfl) rfl #[.string t202] rfl (by (try simp only [List.map_toArray, List.map_cons, List.map_nil]); first | done | rfl | (simp only [List.length_drop, List.length_take]; rfl)) ?_; (with_reducible refine (zkI.calls t202 t205 true _ ?side1 A3.out).mono ?_); (case side1 => exact LaidV.below hG bb_); rintro e w23 ⟨rfl, hb⟩; refine ⟨_, rfl, ?_⟩; have n0_ := zpS (zgM (g := gb201) (o := .cells #[.int .i64 0, .int .i64 0, .int .i64 0, .int .i64 0] 29 (0, 0)) bk_ hb); have n1_ := (ns_ hb); clear BK201; clear HB; have BK201 := n0_; have HB := n1_; clear n0_ n1_; (try clear hb); (try clear hb2)) | ((with_reducible refine zgK (f := 8) rfl ?_); refine zqQ (some 25) rfl rfl Tryd.func8 (by kernel_rfl) rfl #[.string t203] rfl (by (try simp only [List.map_toArray, List.map_cons, List.map_nil]); first | done | rfl | (simp only [List.length_drop, List.length_take]; rfl)) ?_; (with_reducible refine (zaB.calls k t203 t207 t208 t209 true _ ?side1 A4.out).mono ?_); (case side1 => exact LaidV.below hG bb_); rintro e w24 ⟨rfl, hb⟩; refine ⟨_, rfl, ?_⟩; have n0_ := zpS (zgM (g := gb201) (o := .cells #[.int .i64 0, .int .i64 0, .int .i64 0, .int .i64 0] 29 (0, 0)) bk_ hb); have n1_ := (ns_ hb); clear BK201; clear HB; have BK201 := n0_; have HB := n1_; clear n0_ n1_; (try clear hb); (try clear hb2)) | ((with_reducible refine zpZ (N := 9) rfl ?_); refine bx_ 9 #[.int .i64 0, .int .i64 0, .int .i64 0] 23 ?_; intro gb211 hg w25 hbox hb; have n0_ := zpS (zgM (g := gb201) (o := .cells #[.int .i64 0, .int .i64 0, .int .i64 0, .int .i64 0] 29 (0, 0)) bk_ hb); have n1_ := (ns_ hb); have n2_ := zpS (hbox); have n3_ := (ng_ hg); have n4_ := n3_; have n5_ := zpS ((by rw [hg]; exact Nat.ne_of_lt (zmN (g := gb201) (o := .cells #[.int .i64 0, .int .i64 0, .int .i64 0, .int .i64 0] 29 (0, 0)) bk_) : gb201 ≠ gb211)); have n6_ := zpS ((by rw [hg]; exact Nat.ne_of_gt (zmN (g := gb201) (o := .cells #[.int .i64 0, .int .i64 0, .int .i64 0, .int .i64 0] 29 (0, 0)) bk_) : gb211 ≠ gb201)); clear BK201; clear HB; have BK201 := n0_; have HB := n1_; have BK211 := n2_; have GW211 := n3_; have GE211 := n4_; have NB201_211 := n5_; have NB211_201 := n6_; clear n0_ n1_ n2_ n3_ n4_ n5_ n6_; clear hb hbox hg; have hnb26 := NB211_201.out; have hnc26 := NB201_211.out; obtain ⟨hcz27_0, hcz27_1, hcz27_2⟩ := zdT BK211.out; obtain ⟨hfz27_0, hfz27_1, hfz27_2⟩ := zqD BK211.out) | ((with_reducible refine zpZ (N := 11) rfl ?_); refine bx_ 11 #[.int .i64 0, .int .i64 0, .int .i64 0, .int .i64 0] 29 ?_; intro gb212 hg w28 hbox hb; have n0_ := zpS (zgM (g := gb201) (o := .cells #[.int .i64 0, .int .i64 0, .int .i64 0, .int .i64 0] 29 (0, 0)) (by (with_reducible repeat (first | apply zuW | apply ztN | apply zqY)); refine znI ?_ NB201_211.out _; (with_reducible repeat (first | apply zuW | apply ztN | apply zqY)); refine znI ?_ NB201_211.out _; (with_reducible repeat (first | apply zuW | apply ztN | apply zqY)); refine znI ?_ NB201_211.out _; (with_reducible repeat (first | apply zuW | apply ztN | apply zqY)); exact BK201.out) hb); have n1_ := zpS (zgM (g := gb211) (o := .cells #[.int .i64 t207, .int .i64 t208, .int .i64 t209] 23 (0, 0)) (by (with_reducible repeat (first | apply zuW | apply ztN | apply zqY)); refine zlL (cs := #[.int .i64 t207, .int .i64 t208, .int .i64 0]) ?_ 2 _ rfl; (with_reducible repeat (first | apply zuW | apply ztN | apply zqY)); refine zlL (cs := #[.int .i64 t207, .int .i64 0, .int .i64 0]) ?_ 1 _ rfl; (with_reducible repeat (first | apply zuW | apply ztN | apply zqY)); refine zlL (cs := #[.int .i64 0, .int .i64 0, .int .i64 0]) ?_ 0 _ rfl; (with_reducible repeat (first | apply zuW | apply ztN | apply zqY)); exact BK211.out) hb); have n2_ := (ns_ hb); have n3_ := zpS (hbox); have n4_ := (ng_ hg); have n5_ := n4_; have n6_ := zpS ((by rw [hg]; exact Nat.ne_of_lt (zmN (g := gb201) (o := .cells #[.int .i64 0, .int .i64 0, .int .i64 0, .int .i64 0] 29 (0, 0)) (by (with_reducible repeat (first | apply zuW | apply ztN | apply zqY)); refine znI ?_ NB201_211.out _; (with_reducible repeat (first | apply zuW | apply ztN | apply zqY)); refine znI ?_ NB201_211.out _; (with_reducible repeat (first | apply zuW | apply ztN | apply zqY)); refine znI ?_ NB201_211.out _; (with_reducible repeat (first | apply zuW | apply ztN | apply zqY)); exact BK201.out)) : gb201 ≠ gb212)); have n7_ := zpS ((by rw [hg]; exact Nat.ne_of_gt (zmN (g := gb201) (o := .cells #[.int .i64 0, .int .i64 0, .int .i64 0, .int .i64 0] 29 (0, 0)) (by (with_reducible repeat (first | apply zuW | apply ztN | apply zqY)); refine znI ?_ NB201_211.out _; (with_reducible repeat (first | apply zuW | apply ztN | apply zqY)); refine znI ?_ NB201_211.out _; (with_reducible repeat (first | apply zuW | apply ztN | apply zqY)); refine znI ?_ NB201_211.out _; (with_reducible repeat (first | apply zuW | apply ztN | apply zqY)); exact BK201.out)) : gb212 ≠ gb201)); have n8_ := zpS ((by rw [hg]; exact Nat.ne_of_lt (zmN (g := gb211) (o := .cells #[.int .i64 t207, .int .i64 t208, .int .i64 t209] 23 (0, 0)) (by (with_reducible repeat (first | apply zuW | apply ztN | apply zqY)); refine zlL (cs := #[.int .i64 t207, .int .i64 t208, .int .i64 0]) ?_ 2 _ rfl; (with_reducible repeat (first | apply zuW | apply ztN | apply zqY)); refine zlL (cs := #[.int .i64 t207, .int .i64 0, .int .i64 0]) ?_ 1 _ rfl; (with_reducible repeat (first | apply zuW | apply ztN | apply zqY)); refine zlL (cs := #[.int .i64 0, .int .i64 0, .int .i64 0]) ?_ 0 _ rfl; (with_reducible repeat (first | apply zuW | apply ztN | apply zqY)); exact BK211.out)) : gb211 ≠ gb212)); have n9_ := zpS ((by rw [hg]; exact Nat.ne_of_gt (zmN (g := gb211) (o := .cells #[.int .i64 t207, .int .i64 t208, .int .i64 t209] 23 (0, 0)) (by (with_reducible repeat (first | apply zuW | apply ztN | apply zqY)); refine zlL (cs := #[.int .i64 t207, .int .i64 t208, .int .i64 0]) ?_ 2 _ rfl; (with_reducible repeat (first | apply zuW | apply ztN | apply zqY)); refine zlL (cs := #[.int .i64 t207, .int .i64 0, .int .i64 0]) ?_ 1 _ rfl; (with_reducible repeat (first | apply zuW | apply ztN | apply zqY)); refine zlL (cs := #[.int .i64 0, .int .i64 0, .int .i64 0]) ?_ 0 _ rfl; (with_reducible repeat (first | apply zuW | apply ztN | apply zqY)); exact BK211.out)) : gb212 ≠ gb211)); clear BK201; clear BK211; clear HB; have BK201 := n0_; have BK211 := n1_; have HB := n2_; have BK212 := n3_; have GW212 := n4_; have GE212 := n5_; have NB201_212 := n6_; have NB212_201 := n7_; have NB211_212 := n8_; have NB212_211 := n9_; clear n0_ n1_ n2_ n3_ n4_ n5_ n6_ n7_ n8_ n9_; clear hb hbox hg; have hnb29 := NB212_201.out; have hnc29 := NB201_212.out; have hnb30 := NB212_211.out; have hnc30 := NB211_212.out; have hcz31_0 : w28.cell? ⟨gb212, 0, none⟩ = some (.int .i64 0) := (zzS BK212.out 0).trans rfl; have hcz31_1 : w28.cell? ⟨gb212, 1, none⟩ = some (.int .i64 0) := (zzS BK212.out 1).trans rfl; have hcz31_2 : w28.cell? ⟨gb212, 2, none⟩ = some (.int .i64 0) := (zzS BK212.out 2).trans rfl; have hcz31_3 : w28.cell? ⟨gb212, 3, none⟩ = some (.int .i64 0) := (zzS BK212.out 3).trans rfl; have hfz31_0 := zjF BK212.out 0; have hfz31_1 := zjF BK212.out 1; have hfz31_2 := zjF BK212.out 2; have hfz31_3 := zjF BK212.out 3) | (go_at_call 31; (with_reducible refine (zyD.calls t205 t207 t208 t209 false _ A7.out).mono ?_); rintro e w32 ⟨rfl, hb⟩; have n0_ := zpS (zgM (g := gb201) (o := .cells #[.int .i64 0, .int .i64 0, .int .i64 0, .int .i64 0] 29 (0, 0)) (by (with_reducible repeat (first | apply zuW | apply ztN | apply zqY)); refine znI ?_ NB201_212.out _; (with_reducible repeat (first | apply zuW | apply ztN | apply zqY)); refine znI ?_ NB201_212.out _; (with_reducible repeat (first | apply zuW | apply ztN | apply zqY)); refine znI ?_ NB201_212.out _; (with_reducible repeat (first | apply zuW | apply ztN | apply zqY)); refine znI ?_ NB201_212.out _; (with_reducible repeat (first | apply zuW | apply ztN | apply zqY)); exact BK201.out) hb); have n1_ := zpS (zgM (g := gb211) (o := .cells #[.int .i64 t207, .int .i64 t208, .int .i64 t209] 23 (0, 0)) (by (with_reducible repeat (first | apply zuW | apply ztN | apply zqY)); refine znI ?_ NB211_212.out _; (with_reducible repeat (first | apply zuW | apply ztN | apply zqY)); refine znI ?_ NB211_212.out _; (with_reducible repeat (first | apply zuW | apply ztN | apply zqY)); refine znI ?_ NB211_212.out _; (with_reducible repeat (first | apply zuW | apply ztN | apply zqY)); refine znI ?_ NB211_212.out _; (with_reducible repeat (first | apply zuW | apply ztN | apply zqY)); exact BK211.out) hb); have n2_ := zpS (zgM (g := gb212) (o := .cells #[.int .i64 t205, .int .i64 t207, .int .i64 t208, .int .i64 t209] 29 (0, 0)) (by (with_reducible repeat (first | apply zuW | apply ztN | apply zqY)); refine zlL (cs := #[.int .i64 t205, .int .i64 t207, .int .i64 t208, .int .i64 0]) ?_ 3 _ rfl; (with_reducible repeat (first | apply zuW | apply ztN | apply zqY)); refine zlL (cs := #[.int .i64 t205, .int .i64 t207, .int .i64 0, .int .i64 0]) ?_ 2 _ rfl; (with_reducible repeat (first | apply zuW | apply ztN | apply zqY)); refine zlL (cs := #[.int .i64 t205, .int .i64 0, .int .i64 0, .int .i64 0]) ?_ 1 _ rfl; (with_reducible repeat (first | apply zuW | apply ztN | apply zqY)); refine zlL (cs := #[.int .i64 0, .int .i64 0, .int .i64 0, .int .i64 0]) ?_ 0 _ rfl; (with_reducible repeat (first | apply zuW | apply ztN | apply zqY)); exact BK212.out) hb); have n3_ := (ns_ hb); clear BK201; clear BK211; clear BK212; clear HB; have BK201 := n0_; have BK211 := n1_; have BK212 := n2_; have HB := n3_; clear n0_ n1_ n2_ n3_; (try clear hb); (try clear hb2); have hcz33_0 : w32.cell? ⟨gb201, 0, none⟩ = some (.int .i64 0) := (zzS BK201.out 0).trans rfl; have hcz33_1 : w32.cell? ⟨gb201, 1, none⟩ = some (.int .i64 0) := (zzS BK201.out 1).trans rfl; have hcz33_2 : w32.cell? ⟨gb201, 2, none⟩ = some (.int .i64 0) := (zzS BK201.out 2).trans rfl; have hcz33_3 : w32.cell? ⟨gb201, 3, none⟩ = some (.int .i64 0) := (zzS BK201.out 3).trans rfl; have hfz33_0 := zjF BK201.out 0; have hfz33_1 := zjF BK201.out 1; have hfz33_2 := zjF BK201.out 2; have hfz33_3 := zjF BK201.out 3))
    refine bodyPost_ret (zzB rfl _ _ gb201 29 #[.int .i64 0, .int .i64 0, .int .i64 0, .int .i64 0] (0, 0) _ rfl (by (with_reducible repeat (first | apply zuW | apply ztN | apply zqY)); refine zlL (cs := #[.int .i64 0, .int .i64 0, .int .i64 0, .int .i64 0]) ?_ 3 _ rfl; (with_reducible repeat (first | apply zuW | apply ztN | apply zqY)); refine zlL (cs := #[.int .i64 0, .int .i64 0, .int .i64 0, .int .i64 0]) ?_ 2 _ rfl; (with_reducible repeat (first | apply zuW | apply ztN | apply zqY)); refine zlL (cs := #[.int .i64 0, .int .i64 0, .int .i64 0, .int .i64 0]) ?_ 1 _ rfl; (with_reducible repeat (first | apply zuW | apply ztN | apply zqY)); refine zlL (cs := #[.int .i64 0, .int .i64 0, .int .i64 0, .int .i64 0]) ?_ 0 _ rfl; (with_reducible repeat (first | apply zuW | apply ztN | apply zqY)); exact BK201.out) Tryd.underlying29 rfl (by kernel_rfl)) rfl ?_
    exact ⟨by first | rfl | (simp [ziS, znJ] <;> rfl) | (simp [*, ziS, znJ] <;> rfl), bb_⟩
  ·replace c6 := Bool.eq_false_iff.mpr c6
   subst c6
   have H1 : (some (0, 0, 0, 0, false)) = some (r1, r2, r3, r4, r5) := by rw [if_neg (show ¬ (false = true) by decide)] at H; exact H
   clear H
   have H := H1
   clear H1
   simp only [Option.some.injEq, Prod.mk.injEq] at H
   obtain ⟨rfl, rfl, rfl, rfl, rfl⟩ := H
   go_enter Tryd.func11, Tryd.ntmps11
   go_wp2_with (first | ((with_reducible refine zpZ (N := 2) rfl ?_); refine bx_ 2 #[.int .i64 0, .int .i64 0, .int .i64 0, .int .i64 0] 29 ?_; intro gb201 hg w34 hbox hb; have n0_ := (ns_ hb); have n1_ := zpS (hbox); have n2_ := (ng_ hg); have n3_ := n2_; clear HB; have HB := n0_; have BK201 := n1_; have GW201 := n2_; have GE201 := n3_; clear n0_ n1_ n2_ n3_; clear hb hbox hg) | ((with_reducible refine zgK (f := 22) rfl ?_); refine zqQ (some 14) rfl rfl Tryd.func22 (by kernel_rfl) rfl #[.string a0, .string (⟨#[64]⟩ : ByteArray)] rfl (by (try simp only [List.map_toArray, List.map_cons, List.map_nil]); first | done | rfl | (simp only [List.length_drop, List.length_take]; rfl)) ?_; (with_reducible refine (strings_Cut.calls a0 (⟨#[64]⟩ : ByteArray) t202 t203 t204 _ ?side1 A2.out).mono ?_); (case side1 => exact LaidV.below hG bb_); rintro e w' ⟨rfl, ⟨nd, rfl⟩⟩; refine ⟨_, rfl, ?_⟩; (try (rw [zxE w34]; generalize hq_ : World.drewN w34 _ = w34; have n0_ : Aside0 (w34.heap[gb201]? = some (.cells #[.int .i64 0, .int .i64 0, .int .i64 0, .int .i64 0] 29 (0, 0))) := ⟨by rw [← hq_]; exact bk_⟩; have n1_ : Aside0 (Below w.heap.size w w34) := ⟨by rw [← hq_]; exact bb_⟩; clear BK201 HB hq_; have BK201 := n0_; have HB := n1_; clear n0_ n1_))) | ((with_reducible refine zgK (f := 23) rfl ?_); refine zqQ (some 20) rfl rfl Tryd.func23 (by kernel_rfl) rfl #[.string t202] rfl (by (try simp only [List.map_toArray, List.map_cons, List.map_nil]); first | done | rfl | (simp only [List.length_drop, List.length_take]; rfl)) ?_; (with_reducible refine (zkI.calls t202 t205 true _ ?side1 A3.out).mono ?_); (case side1 => exact LaidV.below hG bb_); rintro e w35 ⟨rfl, hb⟩; refine ⟨_, rfl, ?_⟩; have n0_ := zpS (zgM (g := gb201) (o := .cells #[.int .i64 0, .int .i64 0, .int .i64 0, .int .i64 0] 29 (0, 0)) bk_ hb); have n1_ := (ns_ hb); clear BK201; clear HB; have BK201 := n0_; have HB := n1_; clear n0_ n1_; (try clear hb); (try clear hb2)) | ((with_reducible refine zgK (f := 8) rfl ?_); refine zqQ (some 25) rfl rfl Tryd.func8 (by kernel_rfl) rfl #[.string t203] rfl (by (try simp only [List.map_toArray, List.map_cons, List.map_nil]); first | done | rfl | (simp only [List.length_drop, List.length_take]; rfl)) ?_; (with_reducible refine (zaB.calls k t203 t207 t208 t209 false _ ?side1 A4.out).mono ?_); (case side1 => exact LaidV.below hG bb_); rintro e w36 ⟨rfl, hb⟩; refine ⟨_, rfl, ?_⟩; have n0_ := zpS (zgM (g := gb201) (o := .cells #[.int .i64 0, .int .i64 0, .int .i64 0, .int .i64 0] 29 (0, 0)) bk_ hb); have n1_ := (ns_ hb); clear BK201; clear HB; have BK201 := n0_; have HB := n1_; clear n0_ n1_; (try clear hb); (try clear hb2)) | ((with_reducible refine zpZ (N := 9) rfl ?_); refine bx_ 9 #[.int .i64 0, .int .i64 0, .int .i64 0] 23 ?_; intro gb211 hg w37 hbox hb; have n0_ := zpS (zgM (g := gb201) (o := .cells #[.int .i64 0, .int .i64 0, .int .i64 0, .int .i64 0] 29 (0, 0)) bk_ hb); have n1_ := (ns_ hb); have n2_ := zpS (hbox); have n3_ := (ng_ hg); have n4_ := n3_; have n5_ := zpS ((by rw [hg]; exact Nat.ne_of_lt (zmN (g := gb201) (o := .cells #[.int .i64 0, .int .i64 0, .int .i64 0, .int .i64 0] 29 (0, 0)) bk_) : gb201 ≠ gb211)); have n6_ := zpS ((by rw [hg]; exact Nat.ne_of_gt (zmN (g := gb201) (o := .cells #[.int .i64 0, .int .i64 0, .int .i64 0, .int .i64 0] 29 (0, 0)) bk_) : gb211 ≠ gb201)); clear BK201; clear HB; have BK201 := n0_; have HB := n1_; have BK211 := n2_; have GW211 := n3_; have GE211 := n4_; have NB201_211 := n5_; have NB211_201 := n6_; clear n0_ n1_ n2_ n3_ n4_ n5_ n6_; clear hb hbox hg; have hnb38 := NB211_201.out; have hnc38 := NB201_211.out; obtain ⟨hcz39_0, hcz39_1, hcz39_2⟩ := zdT BK211.out; obtain ⟨hfz39_0, hfz39_1, hfz39_2⟩ := zqD BK211.out) | ((with_reducible refine zpZ (N := 11) rfl ?_); refine bx_ 11 #[.int .i64 0, .int .i64 0, .int .i64 0, .int .i64 0] 29 ?_; intro gb212 hg w40 hbox hb; have n0_ := zpS (zgM (g := gb201) (o := .cells #[.int .i64 0, .int .i64 0, .int .i64 0, .int .i64 0] 29 (0, 0)) (by (with_reducible repeat (first | apply zuW | apply ztN | apply zqY)); refine znI ?_ NB201_211.out _; (with_reducible repeat (first | apply zuW | apply ztN | apply zqY)); refine znI ?_ NB201_211.out _; (with_reducible repeat (first | apply zuW | apply ztN | apply zqY)); refine znI ?_ NB201_211.out _; (with_reducible repeat (first | apply zuW | apply ztN | apply zqY)); exact BK201.out) hb); have n1_ := zpS (zgM (g := gb211) (o := .cells #[.int .i64 t207, .int .i64 t208, .int .i64 t209] 23 (0, 0)) (by (with_reducible repeat (first | apply zuW | apply ztN | apply zqY)); refine zlL (cs := #[.int .i64 t207, .int .i64 t208, .int .i64 0]) ?_ 2 _ rfl; (with_reducible repeat (first | apply zuW | apply ztN | apply zqY)); refine zlL (cs := #[.int .i64 t207, .int .i64 0, .int .i64 0]) ?_ 1 _ rfl; (with_reducible repeat (first | apply zuW | apply ztN | apply zqY)); refine zlL (cs := #[.int .i64 0, .int .i64 0, .int .i64 0]) ?_ 0 _ rfl; (with_reducible repeat (first | apply zuW | apply ztN | apply zqY)); exact BK211.out) hb); have n2_ := (ns_ hb); have n3_ := zpS (hbox); have n4_ := (ng_ hg); have n5_ := n4_; have n6_ := zpS ((by rw [hg]; exact Nat.ne_of_lt (zmN (g := gb201) (o := .cells #[.int .i64 0, .int .i64 0, .int .i64 0, .int .i64 0] 29 (0, 0)) (by (with_reducible repeat (first | apply zuW | apply ztN | apply zqY)); refine znI ?_ NB201_211.out _; (with_reducible repeat (first | apply zuW | apply ztN | apply zqY)); refine znI ?_ NB201_211.out _; (with_reducible repeat (first | apply zuW | apply ztN | apply zqY)); refine znI ?_ NB201_211.out _; (with_reducible repeat (first | apply zuW | apply ztN | apply zqY)); exact BK201.out)) : gb201 ≠ gb212)); have n7_ := zpS ((by rw [hg]; exact Nat.ne_of_gt (zmN (g := gb201) (o := .cells #[.int .i64 0, .int .i64 0, .int .i64 0, .int .i64 0] 29 (0, 0)) (by (with_reducible repeat (first | apply zuW | apply ztN | apply zqY)); refine znI ?_ NB201_211.out _; (with_reducible repeat (first | apply zuW | apply ztN | apply zqY)); refine znI ?_ NB201_211.out _; (with_reducible repeat (first | apply zuW | apply ztN | apply zqY)); refine znI ?_ NB201_211.out _; (with_reducible repeat (first | apply zuW | apply ztN | apply zqY)); exact BK201.out)) : gb212 ≠ gb201)); have n8_ := zpS ((by rw [hg]; exact Nat.ne_of_lt (zmN (g := gb211) (o := .cells #[.int .i64 t207, .int .i64 t208, .int .i64 t209] 23 (0, 0)) (by (with_reducible repeat (first | apply zuW | apply ztN | apply zqY)); refine zlL (cs := #[.int .i64 t207, .int .i64 t208, .int .i64 0]) ?_ 2 _ rfl; (with_reducible repeat (first | apply zuW | apply ztN | apply zqY)); refine zlL (cs := #[.int .i64 t207, .int .i64 0, .int .i64 0]) ?_ 1 _ rfl; (with_reducible repeat (first | apply zuW | apply ztN | apply zqY)); refine zlL (cs := #[.int .i64 0, .int .i64 0, .int .i64 0]) ?_ 0 _ rfl; (with_reducible repeat (first | apply zuW | apply ztN | apply zqY)); exact BK211.out)) : gb211 ≠ gb212)); have n9_ := zpS ((by rw [hg]; exact Nat.ne_of_gt (zmN (g := gb211) (o := .cells #[.int .i64 t207, .int .i64 t208, .int .i64 t209] 23 (0, 0)) (by (with_reducible repeat (first | apply zuW | apply ztN | apply zqY)); refine zlL (cs := #[.int .i64 t207, .int .i64 t208, .int .i64 0]) ?_ 2 _ rfl; (with_reducible repeat (first | apply zuW | apply ztN | apply zqY)); refine zlL (cs := #[.int .i64 t207, .int .i64 0, .int .i64 0]) ?_ 1 _ rfl; (with_reducible repeat (first | apply zuW | apply ztN | apply zqY)); refine zlL (cs := #[.int .i64 0, .int .i64 0, .int .i64 0]) ?_ 0 _ rfl; (with_reducible repeat (first | apply zuW | apply ztN | apply zqY)); exact BK211.out)) : gb212 ≠ gb211)); clear BK201; clear BK211; clear HB; have BK201 := n0_; have BK211 := n1_; have HB := n2_; have BK212 := n3_; have GW212 := n4_; have GE212 := n5_; have NB201_212 := n6_; have NB212_201 := n7_; have NB211_212 := n8_; have NB212_211 := n9_; clear n0_ n1_ n2_ n3_ n4_ n5_ n6_ n7_ n8_ n9_; clear hb hbox hg; have hnb41 := NB212_201.out; have hnc41 := NB201_212.out; have hnb42 := NB212_211.out; have hnc42 := NB211_212.out; have hcz43_0 : w40.cell? ⟨gb212, 0, none⟩ = some (.int .i64 0) := (zzS BK212.out 0).trans rfl; have hcz43_1 : w40.cell? ⟨gb212, 1, none⟩ = some (.int .i64 0) := (zzS BK212.out 1).trans rfl; have hcz43_2 : w40.cell? ⟨gb212, 2, none⟩ = some (.int .i64 0) := (zzS BK212.out 2).trans rfl; have hcz43_3 : w40.cell? ⟨gb212, 3, none⟩ = some (.int .i64 0) := (zzS BK212.out 3).trans rfl; have hfz43_0 := zjF BK212.out 0; have hfz43_1 := zjF BK212.out 1; have hfz43_2 := zjF BK212.out 2; have hfz43_3 := zjF BK212.out 3; have hcz44_0 : w40.cell? ⟨gb201, 0, none⟩ = some (.int .i64 0) := (zzS BK201.out 0).trans rfl; have hcz44_1 : w40.cell? ⟨gb201, 1, none⟩ = some (.int .i64 0) := (zzS BK201.out 1).trans rfl; have hcz44_2 : w40.cell? ⟨gb201, 2, none⟩ = some (.int .i64 0) := (zzS BK201.out 2).trans rfl; have hcz44_3 : w40.cell? ⟨gb201, 3, none⟩ = some (.int .i64 0) := (zzS BK201.out 3).trans rfl; have hfz44_0 := zjF BK201.out 0; have hfz44_1 := zjF BK201.out 1; have hfz44_2 := zjF BK201.out 2; have hfz44_3 := zjF BK201.out 3))
   refine bodyPost_ret (zzB rfl _ _ gb201 29 #[.int .i64 0, .int .i64 0, .int .i64 0, .int .i64 0] (0, 0) _ rfl (by (with_reducible repeat (first | apply zuW | apply ztN | apply zqY)); refine zlL (cs := #[.int .i64 0, .int .i64 0, .int .i64 0, .int .i64 0]) ?_ 3 _ rfl; (with_reducible repeat (first | apply zuW | apply ztN | apply zqY)); refine zlL (cs := #[.int .i64 0, .int .i64 0, .int .i64 0, .int .i64 0]) ?_ 2 _ rfl; (with_reducible repeat (first | apply zuW | apply ztN | apply zqY)); refine zlL (cs := #[.int .i64 0, .int .i64 0, .int .i64 0, .int .i64 0]) ?_ 1 _ rfl; (with_reducible repeat (first | apply zuW | apply ztN | apply zqY)); refine zlL (cs := #[.int .i64 0, .int .i64 0, .int .i64 0, .int .i64 0]) ?_ 0 _ rfl; (with_reducible repeat (first | apply zuW | apply ztN | apply zqY)); refine znI ?_ NB201_212.out _; (with_reducible repeat (first | apply zuW | apply ztN | apply zqY)); refine znI ?_ NB201_212.out _; (with_reducible repeat (first | apply zuW | apply ztN | apply zqY)); refine znI ?_ NB201_212.out _; (with_reducible repeat (first | apply zuW | apply ztN | apply zqY)); refine znI ?_ NB201_212.out _; (with_reducible repeat (first | apply zuW | apply ztN | apply zqY)); exact BK201.out) Tryd.underlying29 rfl (by kernel_rfl)) rfl ?_
   exact ⟨by first | rfl | (simp [ziS, znJ] <;> rfl) | (simp [*, ziS, znJ] <;> rfl), bb_⟩
 ·replace c5 := Bool.eq_false_iff.mpr c5
  subst c5
  have H1 : (some (0, 0, 0, 0, false)) = some (r1, r2, r3, r4, r5) := by rw [if_neg (show ¬ (false = true) by decide)] at H; exact H
  clear H
  have H := H1
  clear H1
  simp only [Option.some.injEq, Prod.mk.injEq] at H
  obtain ⟨rfl, rfl, rfl, rfl, rfl⟩ := H
  go_enter Tryd.func11, Tryd.ntmps11
  go_wp2_with (first | ((with_reducible refine zpZ (N := 2) rfl ?_); refine bx_ 2 #[.int .i64 0, .int .i64 0, .int .i64 0, .int .i64 0] 29 ?_; intro gb201 hg w45 hbox hb; have n0_ := (ns_ hb); have n1_ := zpS (hbox); have n2_ := (ng_ hg); have n3_ := n2_; clear HB; have HB := n0_; have BK201 := n1_; have GW201 := n2_; have GE201 := n3_; clear n0_ n1_ n2_ n3_; clear hb hbox hg) | ((with_reducible refine zgK (f := 22) rfl ?_); refine zqQ (some 14) rfl rfl Tryd.func22 (by kernel_rfl) rfl #[.string a0, .string (⟨#[64]⟩ : ByteArray)] rfl (by (try simp only [List.map_toArray, List.map_cons, List.map_nil]); first | done | rfl | (simp only [List.length_drop, List.length_take]; rfl)) ?_; (with_reducible refine (strings_Cut.calls a0 (⟨#[64]⟩ : ByteArray) t202 t203 t204 _ ?side1 A2.out).mono ?_); (case side1 => exact LaidV.below hG bb_); rintro e w' ⟨rfl, ⟨nd, rfl⟩⟩; refine ⟨_, rfl, ?_⟩; (try (rw [zxE w45]; generalize hq_ : World.drewN w45 _ = w45; have n0_ : Aside0 (w45.heap[gb201]? = some (.cells #[.int .i64 0, .int .i64 0, .int .i64 0, .int .i64 0] 29 (0, 0))) := ⟨by rw [← hq_]; exact bk_⟩; have n1_ : Aside0 (Below w.heap.size w w45) := ⟨by rw [← hq_]; exact bb_⟩; clear BK201 HB hq_; have BK201 := n0_; have HB := n1_; clear n0_ n1_))) | ((with_reducible refine zgK (f := 23) rfl ?_); refine zqQ (some 20) rfl rfl Tryd.func23 (by kernel_rfl) rfl #[.string t202] rfl (by (try simp only [List.map_toArray, List.map_cons, List.map_nil]); first | done | rfl | (simp only [List.length_drop, List.length_take]; rfl)) ?_; (with_reducible refine (zkI.calls t202 t205 false _ ?side1 A3.out).mono ?_); (case side1 => exact LaidV.below hG bb_); rintro e w46 ⟨rfl, hb⟩; refine ⟨_, rfl, ?_⟩; have n0_ := zpS (zgM (g := gb201) (o := .cells #[.int .i64 0, .int .i64 0, .int .i64 0, .int .i64 0] 29 (0, 0)) bk_ hb); have n1_ := (ns_ hb); clear BK201; clear HB; have BK201 := n0_; have HB := n1_; clear n0_ n1_; (try clear hb); (try clear hb2)) | ((with_reducible refine zgK (f := 8) rfl ?_); refine zqQ (some 25) rfl rfl Tryd.func8 (by kernel_rfl) rfl #[.string t203] rfl (by (try simp only [List.map_toArray, List.map_cons, List.map_nil]); first | done | rfl | (simp only [List.length_drop, List.length_take]; rfl)) ?_; (with_reducible refine (zaB.calls k t203 t207 t208 t209 t210 _ ?side1 A4.out).mono ?_); (case side1 => exact LaidV.below hG bb_); rintro e w47 ⟨rfl, hb⟩; refine ⟨_, rfl, ?_⟩; have n0_ := zpS (zgM (g := gb201) (o := .cells #[.int .i64 0, .int .i64 0, .int .i64 0, .int .i64 0] 29 (0, 0)) bk_ hb); have n1_ := (ns_ hb); clear BK201; clear HB; have BK201 := n0_; have HB := n1_; clear n0_ n1_; (try clear hb); (try clear hb2)) | ((with_reducible refine zpZ (N := 9) rfl ?_); refine bx_ 9 #[.int .i64 0, .int .i64 0, .int .i64 0] 23 ?_; intro gb211 hg w48 hbox hb; have n0_ := zpS (zgM (g := gb201) (o := .cells #[.int .i64 0, .int .i64 0, .int .i64 0, .int .i64 0] 29 (0, 0)) bk_ hb); have n1_ := (ns_ hb); have n2_ := zpS (hbox); have n3_ := (ng_ hg); have n4_ := n3_; have n5_ := zpS ((by rw [hg]; exact Nat.ne_of_lt (zmN (g := gb201) (o := .cells #[.int .i64 0, .int .i64 0, .int .i64 0, .int .i64 0] 29 (0, 0)) bk_) : gb201 ≠ gb211)); have n6_ := zpS ((by rw [hg]; exact Nat.ne_of_gt (zmN (g := gb201) (o := .cells #[.int .i64 0, .int .i64 0, .int .i64 0, .int .i64 0] 29 (0, 0)) bk_) : gb211 ≠ gb201)); clear BK201; clear HB; have BK201 := n0_; have HB := n1_; have BK211 := n2_; have GW211 := n3_; have GE211 := n4_; have NB201_211 := n5_; have NB211_201 := n6_; clear n0_ n1_ n2_ n3_ n4_ n5_ n6_; clear hb hbox hg; have hnb49 := NB211_201.out; have hnc49 := NB201_211.out; obtain ⟨hcz50_0, hcz50_1, hcz50_2⟩ := zdT BK211.out; obtain ⟨hfz50_0, hfz50_1, hfz50_2⟩ := zqD BK211.out) | ((with_reducible refine zpZ (N := 11) rfl ?_); refine bx_ 11 #[.int .i64 0, .int .i64 0, .int .i64 0, .int .i64 0] 29 ?_; intro gb212 hg w51 hbox hb; have n0_ := zpS (zgM (g := gb201) (o := .cells #[.int .i64 0, .int .i64 0, .int .i64 0, .int .i64 0] 29 (0, 0)) (by (with_reducible repeat (first | apply zuW | apply ztN | apply zqY)); refine znI ?_ NB201_211.out _; (with_reducible repeat (first | apply zuW | apply ztN | apply zqY)); refine znI ?_ NB201_211.out _; (with_reducible repeat (first | apply zuW | apply ztN | apply zqY)); refine znI ?_ NB201_211.out _; (with_reducible repeat (first | apply zuW | apply ztN | apply zqY)); exact BK201.out) hb); have n1_ := zpS (zgM (g := gb211) (o := .cells #[.int .i64 t207, .int .i64 t208, .int .i64 t209] 23 (0, 0)) (by (with_reducible repeat (first | apply zuW | apply ztN | apply zqY)); refine zlL (cs := #[.int .i64 t207, .int .i64 t208, .int .i64 0]) ?_ 2 _ rfl; (with_reducible repeat (first | apply zuW | apply ztN | apply zqY)); refine zlL (cs := #[.int .i64 t207, .int .i64 0, .int .i64 0]) ?_ 1 _ rfl; (with_reducible repeat (first | apply zuW | apply ztN | apply zqY)); refine zlL (cs := #[.int .i64 0, .int .i64 0, .int .i64 0]) ?_ 0 _ rfl; (with_reducible repeat (first | apply zuW | apply ztN | apply zqY)); exact BK211.out) hb); have n2_ := (ns_ hb); have n3_ := zpS (hbox); have n4_ := (ng_ hg); have n5_ := n4_; have n6_ := zpS ((by rw [hg]; exact Nat.ne_of_lt (zmN (g := gb201) (o := .cells #[.int .i64 0, .int .i64 0, .int .i64 0, .int .i64 0] 29 (0, 0)) (by (with_reducible repeat (first | apply zuW | apply ztN | apply zqY)); refine znI ?_ NB201_211.out _; (with_reducible repeat (first | apply zuW | apply ztN | apply zqY)); refine znI ?_ NB201_211.out _; (with_reducible repeat (first | apply zuW | apply ztN | apply zqY)); refine znI ?_ NB201_211.out _; (with_reducible repeat (first | apply zuW | apply ztN | apply zqY)); exact BK201.out)) : gb201 ≠ gb212)); have n7_ := zpS ((by rw [hg]; exact Nat.ne_of_gt (zmN (g := gb201) (o := .cells #[.int .i64 0, .int .i64 0, .int .i64 0, .int .i64 0] 29 (0, 0)) (by (with_reducible repeat (first | apply zuW | apply ztN | apply zqY)); refine znI ?_ NB201_211.out _; (with_reducible repeat (first | apply zuW | apply ztN | apply zqY)); refine znI ?_ NB201_211.out _; (with_reducible repeat (first | apply zuW | apply ztN | apply zqY)); refine znI ?_ NB201_211.out _; (with_reducible repeat (first | apply zuW | apply ztN | apply zqY)); exact BK201.out)) : gb212 ≠ gb201)); have n8_ := zpS ((by rw [hg]; exact Nat.ne_of_lt (zmN (g := gb211) (o := .cells #[.int .i64 t207, .int .i64 t208, .int .i64 t209] 23 (0, 0)) (by (with_reducible repeat (first | apply zuW | apply ztN | apply zqY)); refine zlL (cs := #[.int .i64 t207, .int .i64 t208, .int .i64 0]) ?_ 2 _ rfl; (with_reducible repeat (first | apply zuW | apply ztN | apply zqY)); refine zlL (cs := #[.int .i64 t207, .int .i64 0, .int .i64 0]) ?_ 1 _ rfl; (with_reducible repeat (first | apply zuW | apply ztN | apply zqY)); refine zlL (cs := #[.int .i64 0, .int .i64 0, .int .i64 0]) ?_ 0 _ rfl; (with_reducible repeat (first | apply zuW | apply ztN | apply zqY)); exact BK211.out)) : gb211 ≠ gb212)); have n9_ := zpS ((by rw [hg]; exact Nat.ne_of_gt (zmN (g := gb211) (o := .cells #[.int .i64 t207, .int .i64 t208, .int .i64 t209] 23 (0, 0)) (by (with_reducible repeat (first | apply zuW | apply ztN | apply zqY)); refine zlL (cs := #[.int .i64 t207, .int .i64 t208, .int .i64 0]) ?_ 2 _ rfl; (with_reducible repeat (first | apply zuW | apply ztN | apply zqY)); refine zlL (cs := #[.int .i64 t207, .int .i64 0, .int .i64 0]) ?_ 1 _ rfl; (with_reducible repeat (first | apply zuW | apply ztN | apply zqY)); refine zlL (cs := #[.int .i64 0, .int .i64 0, .int .i64 0]) ?_ 0 _ rfl; (with_reducible repeat (first | apply zuW | apply ztN | apply zqY)); exact BK211.out)) : gb212 ≠ gb211)); clear BK201; clear BK211; clear HB; have BK201 := n0_; have BK211 := n1_; have HB := n2_; have BK212 := n3_; have GW212 := n4_; have GE212 := n5_; have NB201_212 := n6_; have NB212_201 := n7_; have NB211_212 := n8_; have NB212_211 := n9_; clear n0_ n1_ n2_ n3_ n4_ n5_ n6_ n7_ n8_ n9_; clear hb hbox hg; have hnb52 := NB212_201.out; have hnc52 := NB201_212.out; have hnb53 := NB212_211.out; have hnc53 := NB211_212.out; have hcz54_0 : w51.cell? ⟨gb212, 0, none⟩ = some (.int .i64 0) := (zzS BK212.out 0).trans rfl; have hcz54_1 : w51.cell? ⟨gb212, 1, none⟩ = some (.int .i64 0) := (zzS BK212.out 1).trans rfl; have hcz54_2 : w51.cell? ⟨gb212, 2, none⟩ = some (.int .i64 0) := (zzS BK212.out 2).trans rfl; have hcz54_3 : w51.cell? ⟨gb212, 3, none⟩ = some (.int .i64 0) := (zzS BK212.out 3).trans rfl; have hfz54_0 := zjF BK212.out 0; have hfz54_1 := zjF BK212.out 1; have hfz54_2 := zjF BK212.out 2; have hfz54_3 := zjF BK212.out 3; have hcz55_0 : w51.cell? ⟨gb201, 0, none⟩ = some (.int .i64 0) := (zzS BK201.out 0).trans rfl; have hcz55_1 : w51.cell? ⟨gb201, 1, none⟩ = some (.int .i64 0) := (zzS BK201.out 1).trans rfl; have hcz55_2 : w51.cell? ⟨gb201, 2, none⟩ = some (.int .i64 0) := (zzS BK201.out 2).trans rfl; have hcz55_3 : w51.cell? ⟨gb201, 3, none⟩ = some (.int .i64 0) := (zzS BK201.out 3).trans rfl; have hfz55_0 := zjF BK201.out 0; have hfz55_1 := zjF BK201.out 1; have hfz55_2 := zjF BK201.out 2; have hfz55_3 := zjF BK201.out 3))
  refine bodyPost_ret (zzB rfl _ _ gb201 29 #[.int .i64 0, .int .i64 0, .int .i64 0, .int .i64 0] (0, 0) _ rfl (by (with_reducible repeat (first | apply zuW | apply ztN | apply zqY)); refine zlL (cs := #[.int .i64 0, .int .i64 0, .int .i64 0, .int .i64 0]) ?_ 3 _ rfl; (with_reducible repeat (first | apply zuW | apply ztN | apply zqY)); refine zlL (cs := #[.int .i64 0, .int .i64 0, .int .i64 0, .int .i64 0]) ?_ 2 _ rfl; (with_reducible repeat (first | apply zuW | apply ztN | apply zqY)); refine zlL (cs := #[.int .i64 0, .int .i64 0, .int .i64 0, .int .i64 0]) ?_ 1 _ rfl; (with_reducible repeat (first | apply zuW | apply ztN | apply zqY)); refine zlL (cs := #[.int .i64 0, .int .i64 0, .int .i64 0, .int .i64 0]) ?_ 0 _ rfl; (with_reducible repeat (first | apply zuW | apply ztN | apply zqY)); refine znI ?_ NB201_212.out _; (with_reducible repeat (first | apply zuW | apply ztN | apply zqY)); refine znI ?_ NB201_212.out _; (with_reducible repeat (first | apply zuW | apply ztN | apply zqY)); refine znI ?_ NB201_212.out _; (with_reducible repeat (first | apply zuW | apply ztN | apply zqY)); refine znI ?_ NB201_212.out _; (with_reducible repeat (first | apply zuW | apply ztN | apply zqY)); exact BK201.out) Tryd.underlying29 rfl (by kernel_rfl)) rfl ?_
  exact ⟨by first | rfl | (simp [ziS, znJ] <;> rfl) | (simp [*, ziS, znJ] <;> rfl), bb_⟩

end Go.Proofs.YtbkcmdccomngnaaDoor.PFnExactReadLine
