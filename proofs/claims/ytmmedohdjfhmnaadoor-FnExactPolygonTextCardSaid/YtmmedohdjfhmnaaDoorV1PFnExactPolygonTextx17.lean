-- Printed for this claim by this session's program pp.py, which drives the kit's print with additions. Not trusted: Lean checks it.
import Derived.Test.YtmmedohdjfhmnaaDoorV1PFnExactPolygonTextx0
import Derived.Test.YtmmedohdjfhmnaaDoorV1PFnExactPolygonTextx12
import Derived.Test.YtmmedohdjfhmnaaDoorV1PFnExactPolygonTextx13
import Derived.Test.YtmmedohdjfhmnaaDoorV1PFnExactPolygonTextx16
namespace Go.Proofs.YtmmedohdjfhmnaaDoor.PFnExactPolygonText
open Go.RowKit Go.Proofs.YtmmedohdjfhmnaaDoorW.PrintWords Go.Proofs.YtmmedohdjfhmnaaDoorW.PrintLast Go.Proofs.YtmmedohdjfhmnaaDoorW.PrintMore
attribute [local go_sem] zbB ziC zrC zhD znE zuB znH zkT   -- for this text's walks alone
set_option linter.unusedVariables false
set_option linter.unusedSimpArgs false

mutual
def zjG.j0 : Nat → ByteArray → Bool → Int → Int → Int → Option (ByteArray)
 | 0, _, _, _, _, _ => none
 | k + 1, x3, x8, x447000, x447001, x447002 => if x8 = true then ((zcN.f x447001).bind fun t448 => (if t448.size + 1 ≤ 9223372036854775807 then (if x447002 = 0 then (some (t448 ++ (⟨#[114]⟩ : ByteArray))) else (if 0 ≤ x447002 then ((zcN.f (shl .i64 1 x447002)).bind fun t449 => (if 1 + t449.size ≤ 9223372036854775807 then (if (t448 ++ (⟨#[114]⟩ : ByteArray)).size + ((⟨#[47]⟩ : ByteArray) ++ t449).size ≤ 9223372036854775807 then (some ((t448 ++ (⟨#[114]⟩ : ByteArray)) ++ ((⟨#[47]⟩ : ByteArray) ++ t449))) else (none)) else (none))) else (none))) else (none))) else (if x447001 = 0 then (if x447002 = 0 then (some x3) else (if 0 ≤ x447002 then ((zcN.f (shl .i64 1 x447002)).bind fun t450 => (if 1 + t450.size ≤ 9223372036854775807 then (if x3.size + ((⟨#[47]⟩ : ByteArray) ++ t450).size ≤ 9223372036854775807 then (some (x3 ++ ((⟨#[47]⟩ : ByteArray) ++ t450))) else (none)) else (none))) else (none))) else (if x447001 < 0 then (zjG.j1 k x3 (⟨#[45]⟩ : ByteArray) x447000 x447001 x447002) else (zjG.j1 k x3 (⟨#[43]⟩ : ByteArray) x447000 x447001 x447002)))
def zjG.j1 : Nat → ByteArray → ByteArray → Int → Int → Int → Option (ByteArray)
 | 0, _, _, _, _, _ => none
 | k + 1, x3, x4, x447000, x447001, x447002 => (zgD.f x447001).bind fun t451 => ((zcN.f t451).bind fun t452 => (if x4.size + t452.size ≤ 9223372036854775807 then (if (x4 ++ t452).size + 1 ≤ 9223372036854775807 then (if x3.size + ((x4 ++ t452) ++ (⟨#[114]⟩ : ByteArray)).size ≤ 9223372036854775807 then (if x447002 = 0 then (some (x3 ++ ((x4 ++ t452) ++ (⟨#[114]⟩ : ByteArray)))) else (if 1 + (x3 ++ ((x4 ++ t452) ++ (⟨#[114]⟩ : ByteArray))).size ≤ 9223372036854775807 then (if ((⟨#[40]⟩ : ByteArray) ++ (x3 ++ ((x4 ++ t452) ++ (⟨#[114]⟩ : ByteArray)))).size + 1 ≤ 9223372036854775807 then (if 0 ≤ x447002 then ((zcN.f (shl .i64 1 x447002)).bind fun t453 => (if 1 + t453.size ≤ 9223372036854775807 then (if (((⟨#[40]⟩ : ByteArray) ++ (x3 ++ ((x4 ++ t452) ++ (⟨#[114]⟩ : ByteArray)))) ++ (⟨#[41]⟩ : ByteArray)).size + ((⟨#[47]⟩ : ByteArray) ++ t453).size ≤ 9223372036854775807 then (some ((((⟨#[40]⟩ : ByteArray) ++ (x3 ++ ((x4 ++ t452) ++ (⟨#[114]⟩ : ByteArray)))) ++ (⟨#[41]⟩ : ByteArray)) ++ ((⟨#[47]⟩ : ByteArray) ++ t453))) else (none)) else (none))) else (none)) else (none)) else (none))) else (none)) else (none)) else (none)))
end
def zjG.f (k : Nat) (a0_0 : Int) (a0_1 : Int) (a0_2 : Int) : Option (ByteArray) := (zcN.f a0_0).bind fun t447 => (if a0_0 = 0 then (zjG.j0 k t447 (a0_1 != 0) a0_0 a0_1 a0_2) else (zjG.j0 k t447 false a0_0 a0_1 a0_2))
theorem zjG.mono_l : ∀ k, (∀ y0 y1 y2 y3 y4, LeO (zjG.j0 k y0 y1 y2 y3 y4) (zjG.j0 (k + 1) y0 y1 y2 y3 y4)) ∧ (∀ y0 y1 y2 y3 y4, LeO (zjG.j1 k y0 y1 y2 y3 y4) (zjG.j1 (k + 1) y0 y1 y2 y3 y4))
 | 0 => ⟨fun _ _ _ _ _ r h => by simp [zjG.j0] at h, fun _ _ _ _ _ r h => by simp [zjG.j1] at h⟩
 | k + 1 => by
  obtain ⟨ih0, ih1⟩ := zjG.mono_l k
  refine ⟨?_, ?_⟩
  ·intro y0 y1 y2 y3 y4
   unfold zjG.j0
   repeat' first
   | (with_reducible exact ih0 _ _ _ _ _)
   | (with_reducible exact ih1 _ _ _ _ _)
   | (with_reducible exact LeO.refl _)
   | (with_reducible exact LeO.none _)
   | (with_reducible refine LeO.ite ?_ ?_)
   | (with_reducible refine LeO.bind ?_ (fun _ => ?_))
   | exact ih0 _ _ _ _ _
   | exact ih1 _ _ _ _ _
   | exact LeO.none _
   | refine LeO.ite ?_ ?_
   | refine LeO.bind ?_ (fun _ => ?_)
  ·intro y0 y1 y2 y3 y4
   unfold zjG.j1
   repeat' first
   | (with_reducible exact ih0 _ _ _ _ _)
   | (with_reducible exact ih1 _ _ _ _ _)
   | (with_reducible exact LeO.refl _)
   | (with_reducible exact LeO.none _)
   | (with_reducible refine LeO.ite ?_ ?_)
   | (with_reducible refine LeO.bind ?_ (fun _ => ?_))
   | exact ih0 _ _ _ _ _
   | exact ih1 _ _ _ _ _
   | exact LeO.none _
   | refine LeO.ite ?_ ?_
   | refine LeO.bind ?_ (fun _ => ?_)
theorem zjG.mono : ∀ a0 a1 a2 k, LeO (zjG.f k a0 a1 a2) (zjG.f (k + 1) a0 a1 a2) := by
 intro a0 a1 a2 k
 obtain ⟨ih0, ih1⟩ := zjG.mono_l k
 unfold zjG.f
 repeat' first
   | (with_reducible exact ih0 _ _ _ _ _)
   | (with_reducible exact ih1 _ _ _ _ _)
   | (with_reducible exact LeO.refl _)
   | (with_reducible exact LeO.none _)
   | (with_reducible refine LeO.ite ?_ ?_)
   | (with_reducible refine LeO.bind ?_ (fun _ => ?_))
   | exact ih0 _ _ _ _ _
   | exact ih1 _ _ _ _ _
   | exact LeO.none _
   | refine LeO.ite ?_ ?_
   | refine LeO.bind ?_ (fun _ => ?_)
set_option maxHeartbeats 8000000 in
set_option maxRecDepth 100000 in
theorem zjG.calls (k : Nat) (a0_0 : Int) (a0_1 : Int) (a0_2 : Int) (r : ByteArray) (w : World) (hG : LaidV w) (h : zjG.f k a0_0 a0_1 a0_2 = some r) :
  Calls Tryd.prog 43 #[.agg #[.int .i64 a0_0, .int .i64 a0_1, .int .i64 a0_2]] w fun e w' => e = .returned (.string r) ∧ Below w.heap.size w w' := by
 have hu31 := Tryd.underlying31
 have HB := zpS (Below.refl w.heap.size w)
 have H : ((zcN.f a0_0).bind fun t447 => (if a0_0 = 0 then (zjG.j0 k t447 (a0_1 != 0) a0_0 a0_1 a0_2) else (zjG.j0 k t447 false a0_0 a0_1 a0_2))) = some r := h
 clear h
 replace H := Option.bind_eq_some_iff.mp H
 obtain ⟨t447, A20, H⟩ := H
 replace H : (if a0_0 = 0 then (zjG.j0 k t447 (a0_1 != 0) a0_0 a0_1 a0_2) else (zjG.j0 k t447 false a0_0 a0_1 a0_2)) = some r := H
 have A2 := zpS A20
 clear A20
 have HC3 := zpS H
 clear H
 go_enter Tryd.func43, Tryd.ntmps43
 go_upto_region 2 with (first | ((with_reducible refine zpZ (N := 1) rfl ?_); refine bx_ 1 #[.int .i64 a0_0, .int .i64 a0_1, .int .i64 a0_2] 31 ?_; intro gb446 hg w4 hbox hb; have n0_ := (ns_ hb); have n1_ := zpS (hbox); have n2_ := (ng_ hg); have n3_ := n2_; clear HB; have HB := n0_; have BK446 := n1_; have GW446 := n2_; have GE446 := n3_; clear n0_ n1_ n2_ n3_; clear hb hbox hg; obtain ⟨hcz5_0, hcz5_1, hcz5_2⟩ := zdT BK446.out; obtain ⟨hfz5_0, hfz5_1, hfz5_2⟩ := zqD BK446.out) | ((with_reducible refine zgK (f := 61) rfl ?_); refine zqQ (some 7) rfl rfl Tryd.func61 (by kernel_rfl) rfl #[.int .i64 a0_0] rfl (by (try simp only [List.map_toArray, List.map_cons, List.map_nil]); first | done | rfl | (simp only [List.length_drop, List.length_take]; rfl)) ?_; (with_reducible refine (zcN.calls a0_0 t447 _ ?side1 A2.out).mono ?_); (case side1 => exact LaidV.below hG bb_); rintro e w6 ⟨rfl, hb⟩; refine ⟨_, rfl, ?_⟩; have n0_ := zpS (zgM (g := gb446) (o := .cells #[.int .i64 a0_0, .int .i64 a0_1, .int .i64 a0_2] 31 (0, 0)) bk_ hb); have n1_ := (ns_ hb); clear BK446; clear HB; have BK446 := n0_; have HB := n1_; clear n0_ n1_; (try clear hb); (try clear hb2)))
 (try simp only [Act.put, set_a_, set_b_, set_c_])
 go_cut [8] (fun v8 wc => ∃ (kq : Nat) (x8_2 : Bool), v8 = .bool x8_2 ∧ Aside0 (zjG.j0 kq t447 x8_2 a0_0 a0_1 a0_2 = some r) ∧ Aside0 (kq ≤ k) ∧ Aside0 (wc.heap[gb446]? = some (.cells #[.int .i64 a0_0, .int .i64 a0_1, .int .i64 a0_2] 31 (0, 0))) ∧ Aside0 (Below w.heap.size w wc))
 case first =>
  have H := HC3.out
  clear HC3
  by_cases c7 : a0_0 = 0
  ·rw [if_pos c7] at H
   have c7b0 : (a0_0 == 0) = true := beq_iff_eq.mpr c7
   have c7b1 : (a0_0 != 0) = false := bne_eq_false_iff_eq.mpr c7
   clear c7
   (first | rw [c7b0] | (simp only [zcM, ziJ]; rw [c7b0]) | skip)
   have H' := zpS H
   clear H
   obtain ⟨hcz8_0, hcz8_1, hcz8_2⟩ := zdT BK446.out
   obtain ⟨hfz8_0, hfz8_1, hfz8_2⟩ := zqD BK446.out
   go_wp2
   go_meet
   case rel => exact ⟨_, ((a0_1 != 0)), (by first | rfl | (simp; done) | (simp [*]; done)), H', ⟨by first | omega | exact Nat.le_refl _⟩, ⟨bk_⟩, ⟨bb_⟩⟩
  ·rw [if_neg c7] at H
   have c7b0 : (a0_0 == 0) = false := beq_eq_false_iff_ne.mpr c7
   have c7b1 : (a0_0 != 0) = true := bne_iff_ne.mpr c7
   (first | rw [c7b0] | (simp only [zcM, ziJ]; rw [c7b0]) | skip)
   have H' := zpS H
   clear H
   obtain ⟨hcz9_0, hcz9_1, hcz9_2⟩ := zdT BK446.out
   obtain ⟨hfz9_0, hfz9_1, hfz9_2⟩ := zqD BK446.out
   go_wp2
   go_meet
   case rel => exact ⟨_, (false), (by first | rfl | (simp; done) | (simp [*]; done)), H', ⟨by first | omega | exact Nat.le_refl _⟩, ⟨bk_⟩, ⟨bb_⟩⟩
 case rest =>
  clear HC3
  try clear p2
  try clear c4
  try clear c6
  try clear c7
  try clear c7b0
  try clear c7b1
  try clear hcz5_0
  try clear hcz5_1
  try clear hcz5_2
  try clear hcz8_0
  try clear hcz8_1
  try clear hcz8_2
  try clear hcz9_0
  try clear hcz9_1
  try clear hcz9_2
  try clear hfz5_0
  try clear hfz5_1
  try clear hfz5_2
  try clear hfz8_0
  try clear hfz8_1
  try clear hfz8_2
  try clear hfz9_0
  try clear hfz9_1
  try clear hfz9_2
  obtain ⟨kq, x8_2, rfl, HA, HJ2, BK446, HB⟩ := hcut
  cases kq with
  | zero => exact absurd HA.out (by simp [zjG.j0])
  | succ kj2 =>
   have H := HA.out
   clear HA
   simp only [zjG.j0] at H
   by_cases c10 : x8_2 = true
   ·subst c10
    have H1 : ((zcN.f a0_1).bind fun t448 => (if t448.size + 1 ≤ 9223372036854775807 then (if a0_2 = 0 then (some (t448 ++ (⟨#[114]⟩ : ByteArray))) else (if 0 ≤ a0_2 then ((zcN.f (shl .i64 1 a0_2)).bind fun t449 => (if 1 + t449.size ≤ 9223372036854775807 then (if (t448 ++ (⟨#[114]⟩ : ByteArray)).size + ((⟨#[47]⟩ : ByteArray) ++ t449).size ≤ 9223372036854775807 then (some ((t448 ++ (⟨#[114]⟩ : ByteArray)) ++ ((⟨#[47]⟩ : ByteArray) ++ t449))) else (none)) else (none))) else (none))) else (none))) = some r := by rw [if_pos rfl] at H; exact H
    clear H
    have H := H1
    clear H1
    replace H := Option.bind_eq_some_iff.mp H
    obtain ⟨t448, A110, H⟩ := H
    replace H : (if t448.size + 1 ≤ 9223372036854775807 then (if a0_2 = 0 then (some (t448 ++ (⟨#[114]⟩ : ByteArray))) else (if 0 ≤ a0_2 then ((zcN.f (shl .i64 1 a0_2)).bind fun t449 => (if 1 + t449.size ≤ 9223372036854775807 then (if (t448 ++ (⟨#[114]⟩ : ByteArray)).size + ((⟨#[47]⟩ : ByteArray) ++ t449).size ≤ 9223372036854775807 then (some ((t448 ++ (⟨#[114]⟩ : ByteArray)) ++ ((⟨#[47]⟩ : ByteArray) ++ t449))) else (none)) else (none))) else (none))) else (none)) = some r := H
    have A11 := zpS A110
    clear A110
    by_cases c12 : t448.size + 1 ≤ 9223372036854775807
    ·rw [if_pos c12] at H
     have c12b0 := eq_true c12
     have c12b1 : decide (t448.size + 1 ≤ 9223372036854775807) = true := decide_eq_true c12
     try have c12b2 : (9223372036854775807 < t448.size + 1) = False := eq_false (Nat.not_lt.2 c12)
     by_cases c13 : a0_2 = 0
     ·rw [if_pos c13] at H
      have c13b0 : (a0_2 == 0) = true := beq_iff_eq.mpr c13
      have c13b1 : (a0_2 != 0) = false := bne_eq_false_iff_eq.mpr c13
      clear c13
      obtain rfl := Option.some.inj H
      obtain ⟨hcz14_0, hcz14_1, hcz14_2⟩ := zdT BK446.out
      obtain ⟨hfz14_0, hfz14_1, hfz14_2⟩ := zqD BK446.out
      go_wp2_with (first | ((with_reducible refine zgK (f := 61) rfl ?_); refine zqQ (some 19) rfl rfl Tryd.func61 (by kernel_rfl) rfl #[.int .i64 a0_1] rfl (by (try simp only [List.map_toArray, List.map_cons, List.map_nil]); first | done | rfl | (simp only [List.length_drop, List.length_take]; rfl)) ?_; (with_reducible refine (zcN.calls a0_1 t448 _ ?side1 A11.out).mono ?_); (case side1 => exact LaidV.below hG bb_); rintro e w15 ⟨rfl, hb⟩; refine ⟨_, rfl, ?_⟩; have n0_ := zpS (zgM (g := gb446) (o := .cells #[.int .i64 a0_0, .int .i64 a0_1, .int .i64 a0_2] 31 (0, 0)) bk_ hb); have n1_ := (ns_ hb); clear BK446; clear HB; have BK446 := n0_; have HB := n1_; clear n0_ n1_; (try clear hb); (try clear hb2); obtain ⟨hcz16_0, hcz16_1, hcz16_2⟩ := zdT BK446.out; obtain ⟨hfz16_0, hfz16_1, hfz16_2⟩ := zqD BK446.out))
      go_ret
      exact ⟨by first | rfl | (simp [ziS, znJ] <;> rfl) | (simp [*, ziS, znJ] <;> rfl), bb_⟩
     ·rw [if_neg c13] at H
      have c13b0 : (a0_2 == 0) = false := beq_eq_false_iff_ne.mpr c13
      have c13b1 : (a0_2 != 0) = true := bne_iff_ne.mpr c13
      by_cases c17 : 0 ≤ a0_2
      ·rw [if_pos c17] at H
       have c17b0 := eq_true c17
       have c17b1 : decide (0 ≤ a0_2) = true := decide_eq_true c17
       clear c17
       obtain ⟨ji18, hji18⟩ : ∃ j_ : Int, (shl .i64 1 a0_2) = j_ := ⟨_, rfl⟩
       replace H : ((zcN.f (ji18)).bind fun t449 => (if 1 + t449.size ≤ 9223372036854775807 then (if (t448 ++ (⟨#[114]⟩ : ByteArray)).size + ((⟨#[47]⟩ : ByteArray) ++ t449).size ≤ 9223372036854775807 then (some ((t448 ++ (⟨#[114]⟩ : ByteArray)) ++ ((⟨#[47]⟩ : ByteArray) ++ t449))) else (none)) else (none))) = some r := by first | (rw [hji18] at H; exact H) | (simp only [hji18] at H ⊢; exact H)
       (try rw [hji18] at A11)
       have hji18_ : (IntKind.i64.wrap (1 * 2 ^ min a0_2.toNat 64)) = ji18 := hji18
       have hji18z : a0_2 ≤ 64 → (IntKind.i64.wrap (1 * 2 ^ a0_2.toNat)) = ji18 := zsQ hji18
       have hji18u : (IntKind.i64.wrap (2 ^ min a0_2.toNat 64)) = ji18 := by have h_ := hji18_; rw [Int.one_mul] at h_; exact h_
       have hji18v : a0_2 ≤ 64 → (IntKind.i64.wrap (2 ^ a0_2.toNat)) = ji18 := fun hle_ => by have h_ := hji18z hle_; rw [Int.one_mul] at h_; exact h_
       have hji18y : (wrap64 (1 * 2 ^ min a0_2.toNat 64)) = ji18 := (zcM _).symm.trans hji18_
       have hji18x : a0_2 ≤ 64 → (wrap64 (1 * 2 ^ a0_2.toNat)) = ji18 := fun h_ => (zcM _).symm.trans (hji18z h_)
       replace H := Option.bind_eq_some_iff.mp H
       obtain ⟨t449, A190, H⟩ := H
       replace H : (if 1 + t449.size ≤ 9223372036854775807 then (if (t448 ++ (⟨#[114]⟩ : ByteArray)).size + ((⟨#[47]⟩ : ByteArray) ++ t449).size ≤ 9223372036854775807 then (some ((t448 ++ (⟨#[114]⟩ : ByteArray)) ++ ((⟨#[47]⟩ : ByteArray) ++ t449))) else (none)) else (none)) = some r := H
       have A19 := zpS A190
       clear A190
       by_cases c20 : 1 + t449.size ≤ 9223372036854775807
       ·rw [if_pos c20] at H
        have c20b0 := eq_true c20
        have c20b1 : decide (1 + t449.size ≤ 9223372036854775807) = true := decide_eq_true c20
        try have c20b2 : (9223372036854775807 < 1 + t449.size) = False := eq_false (Nat.not_lt.2 c20)
        by_cases c21 : (t448 ++ (⟨#[114]⟩ : ByteArray)).size + ((⟨#[47]⟩ : ByteArray) ++ t449).size ≤ 9223372036854775807
        ·rw [if_pos c21] at H
         have c21b0 := eq_true c21
         have c21b1 : decide ((t448 ++ (⟨#[114]⟩ : ByteArray)).size + ((⟨#[47]⟩ : ByteArray) ++ t449).size ≤ 9223372036854775807) = true := decide_eq_true c21
         try have c21b2 : (9223372036854775807 < (t448 ++ (⟨#[114]⟩ : ByteArray)).size + ((⟨#[47]⟩ : ByteArray) ++ t449).size) = False := eq_false (Nat.not_lt.2 c21)
         (try (have c21b3 : (9223372036854775807 < t448.size + 1 + (1 + t449.size)) = False := eq_false (Nat.not_lt.2 (by have h_ := c21; simp only [ByteArray.size_append] at h_; exact h_))))
         obtain rfl := Option.some.inj H
         obtain ⟨hcz22_0, hcz22_1, hcz22_2⟩ := zdT BK446.out
         obtain ⟨hfz22_0, hfz22_1, hfz22_2⟩ := zqD BK446.out
         go_wp2_with (first | ((with_reducible refine zgK (f := 61) rfl ?_); refine zqQ (some 19) rfl rfl Tryd.func61 (by kernel_rfl) rfl #[.int .i64 a0_1] rfl (by (try simp only [List.map_toArray, List.map_cons, List.map_nil]); first | done | rfl | (simp only [List.length_drop, List.length_take]; rfl)) ?_; (with_reducible refine (zcN.calls a0_1 t448 _ ?side1 A11.out).mono ?_); (case side1 => exact LaidV.below hG bb_); rintro e w23 ⟨rfl, hb⟩; refine ⟨_, rfl, ?_⟩; have n0_ := zpS (zgM (g := gb446) (o := .cells #[.int .i64 a0_0, .int .i64 a0_1, .int .i64 a0_2] 31 (0, 0)) bk_ hb); have n1_ := (ns_ hb); clear BK446; clear HB; have BK446 := n0_; have HB := n1_; clear n0_ n1_; (try clear hb); (try clear hb2); obtain ⟨hcz24_0, hcz24_1, hcz24_2⟩ := zdT BK446.out; obtain ⟨hfz24_0, hfz24_1, hfz24_2⟩ := zqD BK446.out) | ((with_reducible refine zgK (f := 61) rfl ?_); refine zqQ (some 50) rfl rfl Tryd.func61 (by kernel_rfl) rfl #[.int .i64 ji18] rfl (by (try simp only [List.map_toArray, List.map_cons, List.map_nil]); first | done | (simp only [hji18]; rfl) | rfl | (simp only [List.length_drop, List.length_take]; rfl)) ?_; (with_reducible refine (zcN.calls ji18 t449 _ ?side1 A19.out).mono ?_); (case side1 => exact LaidV.below hG bb_); rintro e w25 ⟨rfl, hb⟩; refine ⟨_, rfl, ?_⟩; have n0_ := zpS (zgM (g := gb446) (o := .cells #[.int .i64 a0_0, .int .i64 a0_1, .int .i64 a0_2] 31 (0, 0)) bk_ hb); have n1_ := (ns_ hb); clear BK446; clear HB; have BK446 := n0_; have HB := n1_; clear n0_ n1_; (try clear hb); (try clear hb2)))
         go_ret
         exact ⟨by first | rfl | (simp [ziS, znJ] <;> rfl) | (simp only [← hji18]; first | rfl | (simp [ziS, znJ] <;> rfl)) | (simp [*, ziS, znJ] <;> rfl), bb_⟩
        ·rw [if_neg c21] at H
         exact absurd H (by simp)
       ·rw [if_neg c20] at H
        exact absurd H (by simp)
      ·rw [if_neg c17] at H
       exact absurd H (by simp)
    ·rw [if_neg c12] at H
     exact absurd H (by simp)
   ·replace c10 := Bool.eq_false_iff.mpr c10
    subst c10
    have H1 : (if a0_1 = 0 then (if a0_2 = 0 then (some t447) else (if 0 ≤ a0_2 then ((zcN.f (shl .i64 1 a0_2)).bind fun t450 => (if 1 + t450.size ≤ 9223372036854775807 then (if t447.size + ((⟨#[47]⟩ : ByteArray) ++ t450).size ≤ 9223372036854775807 then (some (t447 ++ ((⟨#[47]⟩ : ByteArray) ++ t450))) else (none)) else (none))) else (none))) else (if a0_1 < 0 then (zjG.j1 kj2 t447 (⟨#[45]⟩ : ByteArray) a0_0 a0_1 a0_2) else (zjG.j1 kj2 t447 (⟨#[43]⟩ : ByteArray) a0_0 a0_1 a0_2))) = some r := by rw [if_neg (show ¬ (false = true) by decide)] at H; exact H
    clear H
    have H := H1
    clear H1
    by_cases c26 : a0_1 = 0
    ·rw [if_pos c26] at H
     have c26b0 : (a0_1 == 0) = true := beq_iff_eq.mpr c26
     have c26b1 : (a0_1 != 0) = false := bne_eq_false_iff_eq.mpr c26
     clear c26
     by_cases c27 : a0_2 = 0
     ·rw [if_pos c27] at H
      have c27b0 : (a0_2 == 0) = true := beq_iff_eq.mpr c27
      have c27b1 : (a0_2 != 0) = false := bne_eq_false_iff_eq.mpr c27
      clear c27
      obtain rfl := Option.some.inj H
      obtain ⟨hcz28_0, hcz28_1, hcz28_2⟩ := zdT BK446.out
      obtain ⟨hfz28_0, hfz28_1, hfz28_2⟩ := zqD BK446.out
      go_wp2
      go_ret
      exact ⟨by first | rfl | (simp [ziS, znJ] <;> rfl) | (simp [*, ziS, znJ] <;> rfl), bb_⟩
     ·rw [if_neg c27] at H
      have c27b0 : (a0_2 == 0) = false := beq_eq_false_iff_ne.mpr c27
      have c27b1 : (a0_2 != 0) = true := bne_iff_ne.mpr c27
      by_cases c29 : 0 ≤ a0_2
      ·rw [if_pos c29] at H
       have c29b0 := eq_true c29
       have c29b1 : decide (0 ≤ a0_2) = true := decide_eq_true c29
       clear c29
       obtain ⟨ji30, hji30⟩ : ∃ j_ : Int, (shl .i64 1 a0_2) = j_ := ⟨_, rfl⟩
       replace H : ((zcN.f (ji30)).bind fun t450 => (if 1 + t450.size ≤ 9223372036854775807 then (if t447.size + ((⟨#[47]⟩ : ByteArray) ++ t450).size ≤ 9223372036854775807 then (some (t447 ++ ((⟨#[47]⟩ : ByteArray) ++ t450))) else (none)) else (none))) = some r := by first | (rw [hji30] at H; exact H) | (simp only [hji30] at H ⊢; exact H)
       have hji30_ : (IntKind.i64.wrap (1 * 2 ^ min a0_2.toNat 64)) = ji30 := hji30
       have hji30z : a0_2 ≤ 64 → (IntKind.i64.wrap (1 * 2 ^ a0_2.toNat)) = ji30 := zsQ hji30
       have hji30u : (IntKind.i64.wrap (2 ^ min a0_2.toNat 64)) = ji30 := by have h_ := hji30_; rw [Int.one_mul] at h_; exact h_
       have hji30v : a0_2 ≤ 64 → (IntKind.i64.wrap (2 ^ a0_2.toNat)) = ji30 := fun hle_ => by have h_ := hji30z hle_; rw [Int.one_mul] at h_; exact h_
       have hji30y : (wrap64 (1 * 2 ^ min a0_2.toNat 64)) = ji30 := (zcM _).symm.trans hji30_
       have hji30x : a0_2 ≤ 64 → (wrap64 (1 * 2 ^ a0_2.toNat)) = ji30 := fun h_ => (zcM _).symm.trans (hji30z h_)
       replace H := Option.bind_eq_some_iff.mp H
       obtain ⟨t450, A310, H⟩ := H
       replace H : (if 1 + t450.size ≤ 9223372036854775807 then (if t447.size + ((⟨#[47]⟩ : ByteArray) ++ t450).size ≤ 9223372036854775807 then (some (t447 ++ ((⟨#[47]⟩ : ByteArray) ++ t450))) else (none)) else (none)) = some r := H
       have A31 := zpS A310
       clear A310
       by_cases c32 : 1 + t450.size ≤ 9223372036854775807
       ·rw [if_pos c32] at H
        have c32b0 := eq_true c32
        have c32b1 : decide (1 + t450.size ≤ 9223372036854775807) = true := decide_eq_true c32
        try have c32b2 : (9223372036854775807 < 1 + t450.size) = False := eq_false (Nat.not_lt.2 c32)
        by_cases c33 : t447.size + ((⟨#[47]⟩ : ByteArray) ++ t450).size ≤ 9223372036854775807
        ·rw [if_pos c33] at H
         have c33b0 := eq_true c33
         have c33b1 : decide (t447.size + ((⟨#[47]⟩ : ByteArray) ++ t450).size ≤ 9223372036854775807) = true := decide_eq_true c33
         try have c33b2 : (9223372036854775807 < t447.size + ((⟨#[47]⟩ : ByteArray) ++ t450).size) = False := eq_false (Nat.not_lt.2 c33)
         (try (have c33b3 : (9223372036854775807 < t447.size + (1 + t450.size)) = False := eq_false (Nat.not_lt.2 (by have h_ := c33; simp only [ByteArray.size_append] at h_; exact h_))))
         obtain rfl := Option.some.inj H
         obtain ⟨hcz34_0, hcz34_1, hcz34_2⟩ := zdT BK446.out
         obtain ⟨hfz34_0, hfz34_1, hfz34_2⟩ := zqD BK446.out
         go_wp2_with (first | ((with_reducible refine zgK (f := 61) rfl ?_); refine zqQ (some 50) rfl rfl Tryd.func61 (by kernel_rfl) rfl #[.int .i64 ji30] rfl (by (try simp only [List.map_toArray, List.map_cons, List.map_nil]); first | done | (simp only [hji30]; rfl) | rfl | (simp only [List.length_drop, List.length_take]; rfl)) ?_; (with_reducible refine (zcN.calls ji30 t450 _ ?side1 A31.out).mono ?_); (case side1 => exact LaidV.below hG bb_); rintro e w35 ⟨rfl, hb⟩; refine ⟨_, rfl, ?_⟩; have n0_ := zpS (zgM (g := gb446) (o := .cells #[.int .i64 a0_0, .int .i64 a0_1, .int .i64 a0_2] 31 (0, 0)) bk_ hb); have n1_ := (ns_ hb); clear BK446; clear HB; have BK446 := n0_; have HB := n1_; clear n0_ n1_; (try clear hb); (try clear hb2)))
         go_ret
         exact ⟨by first | rfl | (simp [ziS, znJ] <;> rfl) | (simp only [← hji30]; first | rfl | (simp [ziS, znJ] <;> rfl)) | (simp [*, ziS, znJ] <;> rfl), bb_⟩
        ·rw [if_neg c33] at H
         exact absurd H (by simp)
       ·rw [if_neg c32] at H
        exact absurd H (by simp)
      ·rw [if_neg c29] at H
       exact absurd H (by simp)
    ·rw [if_neg c26] at H
     have c26b0 : (a0_1 == 0) = false := beq_eq_false_iff_ne.mpr c26
     have c26b1 : (a0_1 != 0) = true := bne_iff_ne.mpr c26
     have HC36 := zpS H
     clear H
     obtain ⟨hcz37_0, hcz37_1, hcz37_2⟩ := zdT BK446.out
     obtain ⟨hfz37_0, hfz37_1, hfz37_2⟩ := zqD BK446.out
     go_upto_if 27 with (fail)
     go_cut [4] (fun v4 wc => ∃ (kq : Nat) (x4_35 : ByteArray), v4 = .string x4_35 ∧ Aside0 (zjG.j1 kq t447 x4_35 a0_0 a0_1 a0_2 = some r) ∧ Aside0 (kq ≤ kj2) ∧ Aside0 (wc.heap[gb446]? = some (.cells #[.int .i64 a0_0, .int .i64 a0_1, .int .i64 a0_2] 31 (0, 0))) ∧ Aside0 (Below w.heap.size w wc))
     case first =>
      have H := HC36.out
      clear HC36
      by_cases c38 : a0_1 < 0
      ·rw [if_pos c38] at H
       have c38b0 : decide (a0_1 < 0) = true := decide_eq_true c38
       clear c38
       (first | rw [c38b0] | (simp only [zcM, ziJ]; rw [c38b0]) | skip)
       have H' := zpS H
       clear H
       go_wp2
       go_meet
       case rel => exact ⟨_, ((⟨#[45]⟩ : ByteArray)), (by first | rfl | (simp; done) | (simp [*]; done)), H', ⟨by have := HJ2.out; first | omega | exact Nat.le_refl _⟩, ⟨bk_⟩, ⟨bb_⟩⟩
      ·rw [if_neg c38] at H
       have c38b0 : decide (a0_1 < 0) = false := decide_eq_false c38
       clear c38
       (first | rw [c38b0] | (simp only [zcM, ziJ]; rw [c38b0]) | skip)
       have H' := zpS H
       clear H
       go_wp2
       go_meet
       case rel => exact ⟨_, ((⟨#[43]⟩ : ByteArray)), (by first | rfl | (simp; done) | (simp [*]; done)), H', ⟨by have := HJ2.out; first | omega | exact Nat.le_refl _⟩, ⟨bk_⟩, ⟨bb_⟩⟩
     case rest =>
      clear HC36
      try clear c1
      try clear c2
      try clear p2
      try clear c3
      try clear c4
      try clear c6
      try clear p6
      try clear c7
      try clear c7b0
      try clear c7b1
      try clear c10
      try clear c12
      try clear c12b0
      try clear c12b1
      try clear c12b2
      try clear c13
      try clear c13b0
      try clear c13b1
      try clear c17
      try clear c17b0
      try clear c17b1
      try clear c20
      try clear c20b0
      try clear c20b1
      try clear c20b2
      try clear c21
      try clear c21b0
      try clear c21b1
      try clear c21b2
      try clear c26
      try clear c26b0
      try clear c26b1
      try clear c27
      try clear c27b0
      try clear c27b1
      try clear c29
      try clear c29b0
      try clear c29b1
      try clear c32
      try clear c32b0
      try clear c32b1
      try clear c32b2
      try clear c33
      try clear c33b0
      try clear c33b1
      try clear c33b2
      try clear c38
      try clear c38b0
      try clear hcz14_0
      try clear hcz14_1
      try clear hcz14_2
      try clear hcz16_0
      try clear hcz16_1
      try clear hcz16_2
      try clear hcz22_0
      try clear hcz22_1
      try clear hcz22_2
      try clear hcz24_0
      try clear hcz24_1
      try clear hcz24_2
      try clear hcz28_0
      try clear hcz28_1
      try clear hcz28_2
      try clear hcz34_0
      try clear hcz34_1
      try clear hcz34_2
      try clear hcz37_0
      try clear hcz37_1
      try clear hcz37_2
      try clear hcz5_0
      try clear hcz5_1
      try clear hcz5_2
      try clear hcz8_0
      try clear hcz8_1
      try clear hcz8_2
      try clear hcz9_0
      try clear hcz9_1
      try clear hcz9_2
      try clear hfz14_0
      try clear hfz14_1
      try clear hfz14_2
      try clear hfz16_0
      try clear hfz16_1
      try clear hfz16_2
      try clear hfz22_0
      try clear hfz22_1
      try clear hfz22_2
      try clear hfz24_0
      try clear hfz24_1
      try clear hfz24_2
      try clear hfz28_0
      try clear hfz28_1
      try clear hfz28_2
      try clear hfz34_0
      try clear hfz34_1
      try clear hfz34_2
      try clear hfz37_0
      try clear hfz37_1
      try clear hfz37_2
      try clear hfz5_0
      try clear hfz5_1
      try clear hfz5_2
      try clear hfz8_0
      try clear hfz8_1
      try clear hfz8_2
      try clear hfz9_0
      try clear hfz9_1
      try clear hfz9_2
      try clear p2
      obtain ⟨kq, x4_35, rfl, HA, HJ35, BK446, HB⟩ := hcut
      cases kq with
      | zero => exact absurd HA.out (by simp [zjG.j1])
      | succ kj35 =>
       have H := HA.out
       clear HA
       simp only [zjG.j1] at H
       replace H := Option.bind_eq_some_iff.mp H
       obtain ⟨t451, A390, H⟩ := H
       replace H : ((zcN.f t451).bind fun t452 => (if x4_35.size + t452.size ≤ 9223372036854775807 then (if (x4_35 ++ t452).size + 1 ≤ 9223372036854775807 then (if t447.size + ((x4_35 ++ t452) ++ (⟨#[114]⟩ : ByteArray)).size ≤ 9223372036854775807 then (if a0_2 = 0 then (some (t447 ++ ((x4_35 ++ t452) ++ (⟨#[114]⟩ : ByteArray)))) else (if 1 + (t447 ++ ((x4_35 ++ t452) ++ (⟨#[114]⟩ : ByteArray))).size ≤ 9223372036854775807 then (if ((⟨#[40]⟩ : ByteArray) ++ (t447 ++ ((x4_35 ++ t452) ++ (⟨#[114]⟩ : ByteArray)))).size + 1 ≤ 9223372036854775807 then (if 0 ≤ a0_2 then ((zcN.f (shl .i64 1 a0_2)).bind fun t453 => (if 1 + t453.size ≤ 9223372036854775807 then (if (((⟨#[40]⟩ : ByteArray) ++ (t447 ++ ((x4_35 ++ t452) ++ (⟨#[114]⟩ : ByteArray)))) ++ (⟨#[41]⟩ : ByteArray)).size + ((⟨#[47]⟩ : ByteArray) ++ t453).size ≤ 9223372036854775807 then (some ((((⟨#[40]⟩ : ByteArray) ++ (t447 ++ ((x4_35 ++ t452) ++ (⟨#[114]⟩ : ByteArray)))) ++ (⟨#[41]⟩ : ByteArray)) ++ ((⟨#[47]⟩ : ByteArray) ++ t453))) else (none)) else (none))) else (none)) else (none)) else (none))) else (none)) else (none)) else (none))) = some r := H
       have A39 := zpS A390
       clear A390
       replace H := Option.bind_eq_some_iff.mp H
       obtain ⟨t452, A400, H⟩ := H
       replace H : (if x4_35.size + t452.size ≤ 9223372036854775807 then (if (x4_35 ++ t452).size + 1 ≤ 9223372036854775807 then (if t447.size + ((x4_35 ++ t452) ++ (⟨#[114]⟩ : ByteArray)).size ≤ 9223372036854775807 then (if a0_2 = 0 then (some (t447 ++ ((x4_35 ++ t452) ++ (⟨#[114]⟩ : ByteArray)))) else (if 1 + (t447 ++ ((x4_35 ++ t452) ++ (⟨#[114]⟩ : ByteArray))).size ≤ 9223372036854775807 then (if ((⟨#[40]⟩ : ByteArray) ++ (t447 ++ ((x4_35 ++ t452) ++ (⟨#[114]⟩ : ByteArray)))).size + 1 ≤ 9223372036854775807 then (if 0 ≤ a0_2 then ((zcN.f (shl .i64 1 a0_2)).bind fun t453 => (if 1 + t453.size ≤ 9223372036854775807 then (if (((⟨#[40]⟩ : ByteArray) ++ (t447 ++ ((x4_35 ++ t452) ++ (⟨#[114]⟩ : ByteArray)))) ++ (⟨#[41]⟩ : ByteArray)).size + ((⟨#[47]⟩ : ByteArray) ++ t453).size ≤ 9223372036854775807 then (some ((((⟨#[40]⟩ : ByteArray) ++ (t447 ++ ((x4_35 ++ t452) ++ (⟨#[114]⟩ : ByteArray)))) ++ (⟨#[41]⟩ : ByteArray)) ++ ((⟨#[47]⟩ : ByteArray) ++ t453))) else (none)) else (none))) else (none)) else (none)) else (none))) else (none)) else (none)) else (none)) = some r := H
       have A40 := zpS A400
       clear A400
       by_cases c41 : x4_35.size + t452.size ≤ 9223372036854775807
       ·rw [if_pos c41] at H
        have c41b0 := eq_true c41
        have c41b1 : decide (x4_35.size + t452.size ≤ 9223372036854775807) = true := decide_eq_true c41
        try have c41b2 : (9223372036854775807 < x4_35.size + t452.size) = False := eq_false (Nat.not_lt.2 c41)
        by_cases c42 : (x4_35 ++ t452).size + 1 ≤ 9223372036854775807
        ·rw [if_pos c42] at H
         have c42b0 := eq_true c42
         have c42b1 : decide ((x4_35 ++ t452).size + 1 ≤ 9223372036854775807) = true := decide_eq_true c42
         try have c42b2 : (9223372036854775807 < (x4_35 ++ t452).size + 1) = False := eq_false (Nat.not_lt.2 c42)
         (try (have c42b3 : (9223372036854775807 < x4_35.size + t452.size + 1) = False := eq_false (Nat.not_lt.2 (by have h_ := c42; simp only [ByteArray.size_append] at h_; exact h_))))
         by_cases c43 : t447.size + ((x4_35 ++ t452) ++ (⟨#[114]⟩ : ByteArray)).size ≤ 9223372036854775807
         ·rw [if_pos c43] at H
          have c43b0 := eq_true c43
          have c43b1 : decide (t447.size + ((x4_35 ++ t452) ++ (⟨#[114]⟩ : ByteArray)).size ≤ 9223372036854775807) = true := decide_eq_true c43
          try have c43b2 : (9223372036854775807 < t447.size + ((x4_35 ++ t452) ++ (⟨#[114]⟩ : ByteArray)).size) = False := eq_false (Nat.not_lt.2 c43)
          (try (have c43b3 : (9223372036854775807 < t447.size + (x4_35.size + t452.size + 1)) = False := eq_false (Nat.not_lt.2 (by have h_ := c43; simp only [ByteArray.size_append] at h_; exact h_))))
          by_cases c44 : a0_2 = 0
          ·rw [if_pos c44] at H
           have c44b0 : (a0_2 == 0) = true := beq_iff_eq.mpr c44
           have c44b1 : (a0_2 != 0) = false := bne_eq_false_iff_eq.mpr c44
           clear c44
           obtain rfl := Option.some.inj H
           obtain ⟨hcz45_0, hcz45_1, hcz45_2⟩ := zdT BK446.out
           obtain ⟨hfz45_0, hfz45_1, hfz45_2⟩ := zqD BK446.out
           go_wp2_with (first | ((with_reducible refine zgK (f := 62) rfl ?_); refine zqQ (some 32) rfl rfl Tryd.func62 (by kernel_rfl) rfl #[.int .i64 a0_1] rfl (by (try simp only [List.map_toArray, List.map_cons, List.map_nil]); first | done | rfl | (simp only [List.length_drop, List.length_take]; rfl)) ?_; (with_reducible refine (zgD.calls a0_1 t451 _ A39.out).mono ?_); rintro e w46 ⟨rfl, hb⟩; refine ⟨_, rfl, ?_⟩; have n0_ := zpS (zgM (g := gb446) (o := .cells #[.int .i64 a0_0, .int .i64 a0_1, .int .i64 a0_2] 31 (0, 0)) bk_ hb); have n1_ := (ns_ hb); clear BK446; clear HB; have BK446 := n0_; have HB := n1_; clear n0_ n1_; (try clear hb); (try clear hb2)) | ((with_reducible refine zgK (f := 61) rfl ?_); refine zqQ (some 33) rfl rfl Tryd.func61 (by kernel_rfl) rfl #[.int .i64 t451] rfl (by (try simp only [List.map_toArray, List.map_cons, List.map_nil]); first | done | rfl | (simp only [List.length_drop, List.length_take]; rfl)) ?_; (with_reducible refine (zcN.calls t451 t452 _ ?side1 A40.out).mono ?_); (case side1 => exact LaidV.below hG bb_); rintro e w47 ⟨rfl, hb⟩; refine ⟨_, rfl, ?_⟩; have n0_ := zpS (zgM (g := gb446) (o := .cells #[.int .i64 a0_0, .int .i64 a0_1, .int .i64 a0_2] 31 (0, 0)) bk_ hb); have n1_ := (ns_ hb); clear BK446; clear HB; have BK446 := n0_; have HB := n1_; clear n0_ n1_; (try clear hb); (try clear hb2); obtain ⟨hcz48_0, hcz48_1, hcz48_2⟩ := zdT BK446.out; obtain ⟨hfz48_0, hfz48_1, hfz48_2⟩ := zqD BK446.out))
           go_ret
           exact ⟨by first | rfl | (simp [ziS, znJ] <;> rfl) | (simp [*, ziS, znJ] <;> rfl), bb_⟩
          ·rw [if_neg c44] at H
           have c44b0 : (a0_2 == 0) = false := beq_eq_false_iff_ne.mpr c44
           have c44b1 : (a0_2 != 0) = true := bne_iff_ne.mpr c44
           by_cases c49 : 1 + (t447 ++ ((x4_35 ++ t452) ++ (⟨#[114]⟩ : ByteArray))).size ≤ 9223372036854775807
           ·rw [if_pos c49] at H
            have c49b0 := eq_true c49
            have c49b1 : decide (1 + (t447 ++ ((x4_35 ++ t452) ++ (⟨#[114]⟩ : ByteArray))).size ≤ 9223372036854775807) = true := decide_eq_true c49
            try have c49b2 : (9223372036854775807 < 1 + (t447 ++ ((x4_35 ++ t452) ++ (⟨#[114]⟩ : ByteArray))).size) = False := eq_false (Nat.not_lt.2 c49)
            (try (have c49b3 : (9223372036854775807 < 1 + (t447.size + (x4_35.size + t452.size + 1))) = False := eq_false (Nat.not_lt.2 (by have h_ := c49; simp only [ByteArray.size_append] at h_; exact h_))))
            by_cases c50 : ((⟨#[40]⟩ : ByteArray) ++ (t447 ++ ((x4_35 ++ t452) ++ (⟨#[114]⟩ : ByteArray)))).size + 1 ≤ 9223372036854775807
            ·rw [if_pos c50] at H
             have c50b0 := eq_true c50
             have c50b1 : decide (((⟨#[40]⟩ : ByteArray) ++ (t447 ++ ((x4_35 ++ t452) ++ (⟨#[114]⟩ : ByteArray)))).size + 1 ≤ 9223372036854775807) = true := decide_eq_true c50
             try have c50b2 : (9223372036854775807 < ((⟨#[40]⟩ : ByteArray) ++ (t447 ++ ((x4_35 ++ t452) ++ (⟨#[114]⟩ : ByteArray)))).size + 1) = False := eq_false (Nat.not_lt.2 c50)
             (try (have c50b3 : (9223372036854775807 < 1 + (t447.size + (x4_35.size + t452.size + 1)) + 1) = False := eq_false (Nat.not_lt.2 (by have h_ := c50; simp only [ByteArray.size_append] at h_; exact h_))))
             by_cases c51 : 0 ≤ a0_2
             ·rw [if_pos c51] at H
              have c51b0 := eq_true c51
              have c51b1 : decide (0 ≤ a0_2) = true := decide_eq_true c51
              clear c51
              obtain ⟨ji52, hji52⟩ : ∃ j_ : Int, (shl .i64 1 a0_2) = j_ := ⟨_, rfl⟩
              replace H : ((zcN.f (ji52)).bind fun t453 => (if 1 + t453.size ≤ 9223372036854775807 then (if (((⟨#[40]⟩ : ByteArray) ++ (t447 ++ ((x4_35 ++ t452) ++ (⟨#[114]⟩ : ByteArray)))) ++ (⟨#[41]⟩ : ByteArray)).size + ((⟨#[47]⟩ : ByteArray) ++ t453).size ≤ 9223372036854775807 then (some ((((⟨#[40]⟩ : ByteArray) ++ (t447 ++ ((x4_35 ++ t452) ++ (⟨#[114]⟩ : ByteArray)))) ++ (⟨#[41]⟩ : ByteArray)) ++ ((⟨#[47]⟩ : ByteArray) ++ t453))) else (none)) else (none))) = some r := by first | (rw [hji52] at H; exact H) | (simp only [hji52] at H ⊢; exact H)
              (try rw [hji52] at A39)
              (try rw [hji52] at A40)
              have hji52_ : (IntKind.i64.wrap (1 * 2 ^ min a0_2.toNat 64)) = ji52 := hji52
              have hji52z : a0_2 ≤ 64 → (IntKind.i64.wrap (1 * 2 ^ a0_2.toNat)) = ji52 := zsQ hji52
              have hji52u : (IntKind.i64.wrap (2 ^ min a0_2.toNat 64)) = ji52 := by have h_ := hji52_; rw [Int.one_mul] at h_; exact h_
              have hji52v : a0_2 ≤ 64 → (IntKind.i64.wrap (2 ^ a0_2.toNat)) = ji52 := fun hle_ => by have h_ := hji52z hle_; rw [Int.one_mul] at h_; exact h_
              have hji52y : (wrap64 (1 * 2 ^ min a0_2.toNat 64)) = ji52 := (zcM _).symm.trans hji52_
              have hji52x : a0_2 ≤ 64 → (wrap64 (1 * 2 ^ a0_2.toNat)) = ji52 := fun h_ => (zcM _).symm.trans (hji52z h_)
              replace H := Option.bind_eq_some_iff.mp H
              obtain ⟨t453, A530, H⟩ := H
              replace H : (if 1 + t453.size ≤ 9223372036854775807 then (if (((⟨#[40]⟩ : ByteArray) ++ (t447 ++ ((x4_35 ++ t452) ++ (⟨#[114]⟩ : ByteArray)))) ++ (⟨#[41]⟩ : ByteArray)).size + ((⟨#[47]⟩ : ByteArray) ++ t453).size ≤ 9223372036854775807 then (some ((((⟨#[40]⟩ : ByteArray) ++ (t447 ++ ((x4_35 ++ t452) ++ (⟨#[114]⟩ : ByteArray)))) ++ (⟨#[41]⟩ : ByteArray)) ++ ((⟨#[47]⟩ : ByteArray) ++ t453))) else (none)) else (none)) = some r := H
              have A53 := zpS A530
              clear A530
              by_cases c54 : 1 + t453.size ≤ 9223372036854775807
              ·rw [if_pos c54] at H
               have c54b0 := eq_true c54
               have c54b1 : decide (1 + t453.size ≤ 9223372036854775807) = true := decide_eq_true c54
               try have c54b2 : (9223372036854775807 < 1 + t453.size) = False := eq_false (Nat.not_lt.2 c54)
               by_cases c55 : (((⟨#[40]⟩ : ByteArray) ++ (t447 ++ ((x4_35 ++ t452) ++ (⟨#[114]⟩ : ByteArray)))) ++ (⟨#[41]⟩ : ByteArray)).size + ((⟨#[47]⟩ : ByteArray) ++ t453).size ≤ 9223372036854775807
               ·rw [if_pos c55] at H
                have c55b0 := eq_true c55
                have c55b1 : decide ((((⟨#[40]⟩ : ByteArray) ++ (t447 ++ ((x4_35 ++ t452) ++ (⟨#[114]⟩ : ByteArray)))) ++ (⟨#[41]⟩ : ByteArray)).size + ((⟨#[47]⟩ : ByteArray) ++ t453).size ≤ 9223372036854775807) = true := decide_eq_true c55
                try have c55b2 : (9223372036854775807 < (((⟨#[40]⟩ : ByteArray) ++ (t447 ++ ((x4_35 ++ t452) ++ (⟨#[114]⟩ : ByteArray)))) ++ (⟨#[41]⟩ : ByteArray)).size + ((⟨#[47]⟩ : ByteArray) ++ t453).size) = False := eq_false (Nat.not_lt.2 c55)
                (try (have c55b3 : (9223372036854775807 < 1 + (t447.size + (x4_35.size + t452.size + 1)) + 1 + (1 + t453.size)) = False := eq_false (Nat.not_lt.2 (by have h_ := c55; simp only [ByteArray.size_append] at h_; exact h_))))
                obtain rfl := Option.some.inj H
                obtain ⟨hcz56_0, hcz56_1, hcz56_2⟩ := zdT BK446.out
                obtain ⟨hfz56_0, hfz56_1, hfz56_2⟩ := zqD BK446.out
                go_wp2_with (first | ((with_reducible refine zgK (f := 62) rfl ?_); refine zqQ (some 32) rfl rfl Tryd.func62 (by kernel_rfl) rfl #[.int .i64 a0_1] rfl (by (try simp only [List.map_toArray, List.map_cons, List.map_nil]); first | done | rfl | (simp only [List.length_drop, List.length_take]; rfl)) ?_; (with_reducible refine (zgD.calls a0_1 t451 _ A39.out).mono ?_); rintro e w57 ⟨rfl, hb⟩; refine ⟨_, rfl, ?_⟩; have n0_ := zpS (zgM (g := gb446) (o := .cells #[.int .i64 a0_0, .int .i64 a0_1, .int .i64 a0_2] 31 (0, 0)) bk_ hb); have n1_ := (ns_ hb); clear BK446; clear HB; have BK446 := n0_; have HB := n1_; clear n0_ n1_; (try clear hb); (try clear hb2)) | ((with_reducible refine zgK (f := 61) rfl ?_); refine zqQ (some 33) rfl rfl Tryd.func61 (by kernel_rfl) rfl #[.int .i64 t451] rfl (by (try simp only [List.map_toArray, List.map_cons, List.map_nil]); first | done | rfl | (simp only [List.length_drop, List.length_take]; rfl)) ?_; (with_reducible refine (zcN.calls t451 t452 _ ?side1 A40.out).mono ?_); (case side1 => exact LaidV.below hG bb_); rintro e w58 ⟨rfl, hb⟩; refine ⟨_, rfl, ?_⟩; have n0_ := zpS (zgM (g := gb446) (o := .cells #[.int .i64 a0_0, .int .i64 a0_1, .int .i64 a0_2] 31 (0, 0)) bk_ hb); have n1_ := (ns_ hb); clear BK446; clear HB; have BK446 := n0_; have HB := n1_; clear n0_ n1_; (try clear hb); (try clear hb2); obtain ⟨hcz59_0, hcz59_1, hcz59_2⟩ := zdT BK446.out; obtain ⟨hfz59_0, hfz59_1, hfz59_2⟩ := zqD BK446.out) | ((with_reducible refine zgK (f := 61) rfl ?_); refine zqQ (some 50) rfl rfl Tryd.func61 (by kernel_rfl) rfl #[.int .i64 ji52] rfl (by (try simp only [List.map_toArray, List.map_cons, List.map_nil]); first | done | (simp only [hji52]; rfl) | rfl | (simp only [List.length_drop, List.length_take]; rfl)) ?_; (with_reducible refine (zcN.calls ji52 t453 _ ?side1 A53.out).mono ?_); (case side1 => exact LaidV.below hG bb_); rintro e w60 ⟨rfl, hb⟩; refine ⟨_, rfl, ?_⟩; have n0_ := zpS (zgM (g := gb446) (o := .cells #[.int .i64 a0_0, .int .i64 a0_1, .int .i64 a0_2] 31 (0, 0)) bk_ hb); have n1_ := (ns_ hb); clear BK446; clear HB; have BK446 := n0_; have HB := n1_; clear n0_ n1_; (try clear hb); (try clear hb2)))
                go_ret
                exact ⟨by first | rfl | (simp [ziS, znJ] <;> rfl) | (simp only [← hji52]; first | rfl | (simp [ziS, znJ] <;> rfl)) | (simp [*, ziS, znJ] <;> rfl), bb_⟩
               ·rw [if_neg c55] at H
                exact absurd H (by simp)
              ·rw [if_neg c54] at H
               exact absurd H (by simp)
             ·rw [if_neg c51] at H
              exact absurd H (by simp)
            ·rw [if_neg c50] at H
             exact absurd H (by simp)
           ·rw [if_neg c49] at H
            exact absurd H (by simp)
         ·rw [if_neg c43] at H
          exact absurd H (by simp)
        ·rw [if_neg c42] at H
         exact absurd H (by simp)
       ·rw [if_neg c41] at H
        exact absurd H (by simp)

def zvK.f (k : Nat) (a0_0 : Int) (a0_1 : Int) (a0_2 : Int) (a0_3 : Int) (a0_4 : Int) (a0_5 : Int) : Option (ByteArray) := (zjG.f k a0_0 a0_1 a0_2).bind fun t455 => (if 1 + t455.size ≤ 9223372036854775807 then (if ((⟨#[40]⟩ : ByteArray) ++ t455).size + 1 ≤ 9223372036854775807 then ((zjG.f k a0_3 a0_4 a0_5).bind fun t456 => (if (((⟨#[40]⟩ : ByteArray) ++ t455) ++ (⟨#[44]⟩ : ByteArray)).size + t456.size ≤ 9223372036854775807 then (if ((((⟨#[40]⟩ : ByteArray) ++ t455) ++ (⟨#[44]⟩ : ByteArray)) ++ t456).size + 1 ≤ 9223372036854775807 then (some (((((⟨#[40]⟩ : ByteArray) ++ t455) ++ (⟨#[44]⟩ : ByteArray)) ++ t456) ++ (⟨#[41]⟩ : ByteArray))) else (none)) else (none))) else (none)) else (none))
theorem zvK.mono : ∀ a0 a1 a2 a3 a4 a5 k, LeO (zvK.f k a0 a1 a2 a3 a4 a5) (zvK.f (k + 1) a0 a1 a2 a3 a4 a5) := by
 intro a0 a1 a2 a3 a4 a5 k
 unfold zvK.f
 repeat' first
   | (with_reducible exact zjG.mono _ _ _ _)
   | (with_reducible exact LeO.refl _)
   | (with_reducible exact LeO.none _)
   | (with_reducible refine LeO.ite ?_ ?_)
   | (with_reducible refine LeO.bind ?_ (fun _ => ?_))
   | exact zjG.mono _ _ _ _
   | exact LeO.none _
   | refine LeO.ite ?_ ?_
   | refine LeO.bind ?_ (fun _ => ?_)
def zvK.T1 : Bool × List (List Nat × List Nat) := (true, [([], []), ([0], [0]), ([1], [1]), ([2], [2]), ([3], [3]), ([], []), ([5], [5]), ([6, 2], [6]), ([4, 7], [4, 7]), ([8], [8]), ([9, 7, 0, 1, 2, 3, 4, 5, 6, 7, 8, 9], [9])])
def zvK.B1 : List Nat := [0, 1, 3, 7, 15, 0, 32, 103, 255, 511, 1023]
theorem zvK.tab1 : rtab .any (opsOf Tryd.f28 1) = zvK.T1 := by kernel_rfl
theorem zvK.bits1 : ztG zvK.T1.2 zvK.B1 = true := by kernel_rfl
set_option maxHeartbeats 8000000 in
set_option maxRecDepth 100000 in
theorem zvK.calls (k : Nat) (a0_0 : Int) (a0_1 : Int) (a0_2 : Int) (a0_3 : Int) (a0_4 : Int) (a0_5 : Int) (r : ByteArray) (w : World) (hG : LaidV w) (h : zvK.f k a0_0 a0_1 a0_2 a0_3 a0_4 a0_5 = some r) :
  Calls Tryd.prog 28 #[.agg #[.int .i64 a0_0, .int .i64 a0_1, .int .i64 a0_2, .int .i64 a0_3, .int .i64 a0_4, .int .i64 a0_5]] w fun e w' => e = .returned (.string r) ∧ Below w.heap.size w w' := by
 have hu33 := Tryd.underlying33
 have hu31 := Tryd.underlying31
 have HB := zpS (Below.refl w.heap.size w)
 have H : ((zjG.f k a0_0 a0_1 a0_2).bind fun t455 => (if 1 + t455.size ≤ 9223372036854775807 then (if ((⟨#[40]⟩ : ByteArray) ++ t455).size + 1 ≤ 9223372036854775807 then ((zjG.f k a0_3 a0_4 a0_5).bind fun t456 => (if (((⟨#[40]⟩ : ByteArray) ++ t455) ++ (⟨#[44]⟩ : ByteArray)).size + t456.size ≤ 9223372036854775807 then (if ((((⟨#[40]⟩ : ByteArray) ++ t455) ++ (⟨#[44]⟩ : ByteArray)) ++ t456).size + 1 ≤ 9223372036854775807 then (some (((((⟨#[40]⟩ : ByteArray) ++ t455) ++ (⟨#[44]⟩ : ByteArray)) ++ t456) ++ (⟨#[41]⟩ : ByteArray))) else (none)) else (none))) else (none)) else (none))) = some r := h
 clear h
 replace H := Option.bind_eq_some_iff.mp H
 obtain ⟨t455, A20, H⟩ := H
 replace H : (if 1 + t455.size ≤ 9223372036854775807 then (if ((⟨#[40]⟩ : ByteArray) ++ t455).size + 1 ≤ 9223372036854775807 then ((zjG.f k a0_3 a0_4 a0_5).bind fun t456 => (if (((⟨#[40]⟩ : ByteArray) ++ t455) ++ (⟨#[44]⟩ : ByteArray)).size + t456.size ≤ 9223372036854775807 then (if ((((⟨#[40]⟩ : ByteArray) ++ t455) ++ (⟨#[44]⟩ : ByteArray)) ++ t456).size + 1 ≤ 9223372036854775807 then (some (((((⟨#[40]⟩ : ByteArray) ++ t455) ++ (⟨#[44]⟩ : ByteArray)) ++ t456) ++ (⟨#[41]⟩ : ByteArray))) else (none)) else (none))) else (none)) else (none)) = some r := H
 have A2 := zpS A20
 clear A20
 by_cases c3 : 1 + t455.size ≤ 9223372036854775807
 ·rw [if_pos c3] at H
  have c3b0 := eq_true c3
  have c3b1 : decide (1 + t455.size ≤ 9223372036854775807) = true := decide_eq_true c3
  try have c3b2 : (9223372036854775807 < 1 + t455.size) = False := eq_false (Nat.not_lt.2 c3)
  by_cases c4 : ((⟨#[40]⟩ : ByteArray) ++ t455).size + 1 ≤ 9223372036854775807
  ·rw [if_pos c4] at H
   have c4b0 := eq_true c4
   have c4b1 : decide (((⟨#[40]⟩ : ByteArray) ++ t455).size + 1 ≤ 9223372036854775807) = true := decide_eq_true c4
   try have c4b2 : (9223372036854775807 < ((⟨#[40]⟩ : ByteArray) ++ t455).size + 1) = False := eq_false (Nat.not_lt.2 c4)
   (try (have c4b3 : (9223372036854775807 < 1 + t455.size + 1) = False := eq_false (Nat.not_lt.2 (by have h_ := c4; simp only [ByteArray.size_append] at h_; exact h_))))
   replace H := Option.bind_eq_some_iff.mp H
   obtain ⟨t456, A50, H⟩ := H
   replace H : (if (((⟨#[40]⟩ : ByteArray) ++ t455) ++ (⟨#[44]⟩ : ByteArray)).size + t456.size ≤ 9223372036854775807 then (if ((((⟨#[40]⟩ : ByteArray) ++ t455) ++ (⟨#[44]⟩ : ByteArray)) ++ t456).size + 1 ≤ 9223372036854775807 then (some (((((⟨#[40]⟩ : ByteArray) ++ t455) ++ (⟨#[44]⟩ : ByteArray)) ++ t456) ++ (⟨#[41]⟩ : ByteArray))) else (none)) else (none)) = some r := H
   have A5 := zpS A50
   clear A50
   by_cases c6 : (((⟨#[40]⟩ : ByteArray) ++ t455) ++ (⟨#[44]⟩ : ByteArray)).size + t456.size ≤ 9223372036854775807
   ·rw [if_pos c6] at H
    have c6b0 := eq_true c6
    have c6b1 : decide ((((⟨#[40]⟩ : ByteArray) ++ t455) ++ (⟨#[44]⟩ : ByteArray)).size + t456.size ≤ 9223372036854775807) = true := decide_eq_true c6
    try have c6b2 : (9223372036854775807 < (((⟨#[40]⟩ : ByteArray) ++ t455) ++ (⟨#[44]⟩ : ByteArray)).size + t456.size) = False := eq_false (Nat.not_lt.2 c6)
    (try (have c6b3 : (9223372036854775807 < 1 + t455.size + 1 + t456.size) = False := eq_false (Nat.not_lt.2 (by have h_ := c6; simp only [ByteArray.size_append] at h_; exact h_))))
    by_cases c7 : ((((⟨#[40]⟩ : ByteArray) ++ t455) ++ (⟨#[44]⟩ : ByteArray)) ++ t456).size + 1 ≤ 9223372036854775807
    ·rw [if_pos c7] at H
     have c7b0 := eq_true c7
     have c7b1 : decide (((((⟨#[40]⟩ : ByteArray) ++ t455) ++ (⟨#[44]⟩ : ByteArray)) ++ t456).size + 1 ≤ 9223372036854775807) = true := decide_eq_true c7
     try have c7b2 : (9223372036854775807 < ((((⟨#[40]⟩ : ByteArray) ++ t455) ++ (⟨#[44]⟩ : ByteArray)) ++ t456).size + 1) = False := eq_false (Nat.not_lt.2 c7)
     (try (have c7b3 : (9223372036854775807 < 1 + t455.size + 1 + t456.size + 1) = False := eq_false (Nat.not_lt.2 (by have h_ := c7; simp only [ByteArray.size_append] at h_; exact h_))))
     obtain rfl := Option.some.inj H
     go_enter Tryd.func28, Tryd.ntmps28
     try go_wp2_with (first | ((with_reducible refine zpZ (N := 1) rfl ?_); refine bx_ 1 #[.int .i64 a0_0, .int .i64 a0_1, .int .i64 a0_2, .int .i64 a0_3, .int .i64 a0_4, .int .i64 a0_5] 33 ?_; intro gb454 hg w8 hbox hb; have n0_ := (ns_ hb); have n1_ := zpS (hbox); have n2_ := (ng_ hg); have n3_ := n2_; clear HB; have HB := n0_; have BK454 := n1_; have GW454 := n2_; have GE454 := n3_; clear n0_ n1_ n2_ n3_; clear hb hbox hg))
     have n0_ := zpS (ztN BK454.out)
     have n1_ := zpS (zvF HB.out)
     clear BK454
     clear HB
     have BK454 := n0_
     have HB := n1_
     clear n0_ n1_
     refine zpB (n := 11) (S := fun w' => w'.cell? ⟨gb454, 0, none⟩ = some (.int .i64 a0_0) ∧ w'.cell? ⟨gb454, 1, none⟩ = some (.int .i64 a0_1) ∧ w'.cell? ⟨gb454, 2, none⟩ = some (.int .i64 a0_2) ∧ w'.cell? ⟨gb454, 3, none⟩ = some (.int .i64 a0_3) ∧ w'.cell? ⟨gb454, 4, none⟩ = some (.int .i64 a0_4) ∧ w'.cell? ⟨gb454, 5, none⟩ = some (.int .i64 a0_5)) (ds := []) #[false, false, false, false, false, false, false, false, false, false, false] (by kernel_rfl) rfl rfl ⟨(zzS BK454.out 0).trans rfl, (zzS BK454.out 1).trans rfl, (zzS BK454.out 2).trans rfl, (zzS BK454.out 3).trans rfl, (zzS BK454.out 4).trans rfl, (zzS BK454.out 5).trans rfl⟩ (fun hHeld => ?_); refine zwI zvK.tab1 zvK.bits1 (fun HT_ HW_ => ?_)
     generalize w8.drew = w9 at BK454 HB hHeld ⊢
     refine pu_ 0 (some 3) (bl_ 11 1) ?_
     refine pu_ 5 (some 8) (bl_ 11 33) ?_
     refine tk6_ 1 (some 4) (bl_ 11 35) hHeld ?_
     refine tk6_ 6 (some 9) (bl_ 11 99) hHeld ?_
     refine zdC (i := 2) (N := some 5) (bl_ 11 103) rfl rfl (zeO HT_.out (by kernel_rfl)) (by decide) (fun K hK => ?_)
     refine zqW Tryd.func43 (by kernel_rfl) rfl #[.agg #[.int .i64 a0_0, .int .i64 a0_1, .int .i64 a0_2]] (by rfl) rfl rfl (by (try simp only [List.map_toArray, List.map_cons, List.map_nil]); first | done | rfl | (simp only [List.length_drop, List.length_take]; rfl)) ?_
     with_reducible refine (zjG.calls k a0_0 a0_1 a0_2 t455 _ ?side1 A2.out).mono ?_
     (case side1 => exact LaidV.below hG bb_)
     rintro e w10 ⟨rfl, hb⟩
     refine ⟨_, rfl, ?_⟩
     have n0_ := zpS (zgM (g := gb454) (o := .cells #[.int .i64 a0_0, .int .i64 a0_1, .int .i64 a0_2, .int .i64 a0_3, .int .i64 a0_4, .int .i64 a0_5] 33 (0, 0)) bk_ hb)
     have n1_ := (ns_ hb)
     clear BK454
     clear HB
     have BK454 := n0_
     have HB := n1_
     clear n0_ n1_
     (try clear hb)
     (try clear hb2)
     (try clear hk)
     (try clear hi)
     refine hK.out _ _ ⟨(zzS BK454.out 0).trans rfl, (zzS BK454.out 1).trans rfl, (zzS BK454.out 2).trans rfl, (zzS BK454.out 3).trans rfl, (zzS BK454.out 4).trans rfl, (zzS BK454.out 5).trans rfl⟩ (fun hHeld => ?_)
     clear hK K
     refine zaN (a' := ?_) ?_ ?_
     rotate_left
     ·show Act.put _ (some 5) _ = _
      simp only [Act.put, List.setIfInBounds_toArray, List.set_cons_zero, List.set_cons_succ, zcM, ziJ]
      rfl
     refine pu_ 3 (some 6) (bl_ 11 111) ?_
     refine pu_ 4 (some 7) (bl_ 11 127) ?_
     refine zdC (i := 7) (N := some 10) (bl_ 11 255) rfl rfl (zeO HT_.out (by kernel_rfl)) (by decide) (fun K hK => ?_)
     refine zqW Tryd.func43 (by kernel_rfl) rfl #[.agg #[.int .i64 a0_3, .int .i64 a0_4, .int .i64 a0_5]] (by rfl) rfl rfl (by (try simp only [List.map_toArray, List.map_cons, List.map_nil]); first | done | rfl | (simp only [List.length_drop, List.length_take]; rfl)) ?_
     with_reducible refine (zjG.calls k a0_3 a0_4 a0_5 t456 _ ?side1 A5.out).mono ?_
     (case side1 => exact LaidV.below hG bb_)
     rintro e w11 ⟨rfl, hb⟩
     refine ⟨_, rfl, ?_⟩
     have n0_ := zpS (zgM (g := gb454) (o := .cells #[.int .i64 a0_0, .int .i64 a0_1, .int .i64 a0_2, .int .i64 a0_3, .int .i64 a0_4, .int .i64 a0_5] 33 (0, 0)) bk_ hb)
     have n1_ := (ns_ hb)
     clear BK454
     clear HB
     have BK454 := n0_
     have HB := n1_
     clear n0_ n1_
     (try clear hb)
     (try clear hb2)
     (try clear hk)
     (try clear hi)
     refine hK.out _ _ ⟨(zzS BK454.out 0).trans rfl, (zzS BK454.out 1).trans rfl, (zzS BK454.out 2).trans rfl, (zzS BK454.out 3).trans rfl, (zzS BK454.out 4).trans rfl, (zzS BK454.out 5).trans rfl⟩ (fun hHeld => ?_)
     clear hK K
     refine zaN (a' := ?_) ?_ ?_
     rotate_left
     ·show Act.put _ (some 10) _ = _
      simp only [Act.put, List.setIfInBounds_toArray, List.set_cons_zero, List.set_cons_succ, zcM, ziJ]
      rfl
     refine pu_ 8 (some 11) (bl_ 11 511) ?_
     refine pu_ 9 (some 12) (bl_ 11 1023) ?_
     refine pu_ 10 (some 2) (bl_ 11 2047) ?_
     refine znK (zzP HT_.out (by kernel_rfl)) ?_
     try go_wp2
     go_ret
     exact ⟨by first | rfl | (simp [ziS, znJ] <;> rfl) | (simp [*, ziS, znJ] <;> rfl), bb_⟩
    ·rw [if_neg c7] at H
     exact absurd H (by simp)
   ·rw [if_neg c6] at H
    exact absurd H (by simp)
  ·rw [if_neg c4] at H
   exact absurd H (by simp)
 ·rw [if_neg c3] at H
  exact absurd H (by simp)

def strings_Join.f (l0 : List ByteArray) (a1 : ByteArray) : Option ByteArray := if l0.length ≤ 140737488355328 ∧ (Lib.join (l0.map (·.data.toList)) a1.data.toList).length ≤ 140737488355328 then some ⟨(Lib.join (l0.map (·.data.toList)) a1.data.toList).toArray⟩ else none
theorem strings_Join.calls (A0 : Option Addr) (c0 : Nat) (l0 : List ByteArray) (a1 : ByteArray) (r : ByteArray) (w : World) (hr0 : Kd.C Kd.string w A0 l0.length l0) (hc0 : l0.length ≤ c0) (h : strings_Join.f l0 a1 = some r) :
  Calls Tryd.prog 29 #[.slice A0 l0.length c0, .string a1] w fun e w' => e = .returned (.string r) ∧ Below w.heap.size w w' := by
 unfold strings_Join.f at h
 by_cases h1 : l0.length ≤ 140737488355328 ∧ (Lib.join (l0.map (·.data.toList)) a1.data.toList).length ≤ 140737488355328
 ·rw [if_pos h1] at h
  obtain rfl := Option.some.inj h
  by_cases hz : l0 = []
  ·subst hz
   refine (Tryd.strings_Join_none A0 c0 a1 w).mono ?_
   rintro e w' ⟨rfl, rfl⟩
   exact ⟨by rw [List.map_nil]; rfl, Below.refl _ _⟩
  ·have hp : 0 < l0.length := List.length_pos_iff.2 hz
   obtain ⟨ad, rfl, hx⟩ := Kd.at_string hr0 0 (by omega) (by omega)
   have hbk : ad.block < w.heap.size := World.block_lt_of_cell? w _ hx
   obtain ⟨b, o, rfl⟩ : ∃ b o, ad = ⟨b, o, none⟩ := by
    cases ad with
    | mk b o s =>
     cases s with
     | none => exact ⟨b, o, rfl⟩
     | some k =>
      exfalso
      have hx2 : w.cell? ⟨b, o, some k⟩ = some (.string (rdOf ByteArray.empty l0 0)) := hx
      unfold World.cell? at hx2
      split at hx2
      ·simp at hx2
      ·cases hx2
   have hcells : ∀ (j : Nat) x, l0[j]? = some x → w.cell? ⟨b, o + j, none⟩ = some (.string x) := by
    intro j x hj
    have hlt : j < l0.length := (List.getElem?_eq_some_iff.1 hj).1
    obtain ⟨ad', e', hx'⟩ := Kd.at_string hr0 (j : Int) (by omega) (by omega)
    cases e'
    rw [Int.toNat_natCast, add_at] at hx'
    have e2 : rdOf ByteArray.empty l0 (j : Int) = x := by
     unfold rdOf
     rw [Int.toNat_natCast, List.getD_eq_getElem?_getD, hj]; rfl
    rw [e2] at hx'
    exact hx'
   exact Tryd.strings_Join b o c0 l0 a1 w hcells hbk h1.1 hc0 h1.2
 ·rw [if_neg h1] at h; cases h

end Go.Proofs.YtmmedohdjfhmnaaDoor.PFnExactPolygonText
