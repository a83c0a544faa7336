-- Printed for this claim by this session's program pp.py, which drives the kit's print with additions. Not trusted: Lean checks it.
import Derived.Test.YtbkcmdccomngnaaDoorV4PFnExactReadMotionx0
import Derived.Test.YtbkcmdccomngnaaDoorV4PFnExactReadMotionx8
import Derived.Test.YtbkcmdccomngnaaDoorV4PFnExactReadMotionx9
namespace Go.Proofs.YtbkcmdccomngnaaDoor.PFnExactReadMotion
open Go.RowKit Go.Proofs.YtbkcmdccomngnaaDoorW.PrintWords Go.Proofs.YtbkcmdccomngnaaDoorW.PrintLast Go.Proofs.YtbkcmdccomngnaaDoorW.PrintMore
attribute [local go_sem] zbB ziA zrC zhD znE zuA znK zkT   -- for this text's walks alone
set_option linter.unusedVariables false
set_option maxHeartbeats 8000000
set_option maxRecDepth 100000
set_option linter.unusedSimpArgs false

def impl_abs.f (a0 : Int) : Option (Int) := some (mx a0 (wrap64 (-a0)))
theorem impl_abs.calls (a0 : Int) (r : Int) (w : World) (h : impl_abs.f a0 = some r) :
  Calls Tryd.prog 47 #[.int .i64 a0] w fun e w' => e = .returned (.int .i64 r) ∧ Below w.heap.size w w' := by
 have HB := zpS (Below.refl w.heap.size w)
 have H : (some (mx a0 (wrap64 (-a0)))) = some r := h
 clear h
 obtain ⟨ji2, hji2⟩ : ∃ j_ : Int, (mx a0 (wrap64 (-a0))) = j_ := ⟨_, rfl⟩
 replace H : (some ji2) = some r := by first | (rw [hji2] at H; exact H) | (simp only [hji2] at H ⊢; exact H)
 have hji2_ : (if a0 < (wrap64 (-a0)) then (wrap64 (-a0)) else a0) = ji2 := hji2
 obtain rfl := Option.some.inj H
 go_enter Tryd.func47, Tryd.ntmps47
 go_wp2
 go_ret
 exact ⟨by first | rfl | (simp [ziS, znJ] <;> rfl) | (simp only [← hji2]; first | rfl | (simp [ziS, znJ] <;> rfl)) | (simp [*, ziS, znJ] <;> rfl), bb_⟩

mutual
def zjG.j0 : Nat → ByteArray → Bool → Int → Int → Int → Option (ByteArray)
 | 0, _, _, _, _, _ => none
 | k + 1, x3, x8, x205000, x205001, x205002 => if x8 = true then ((zcM.f x205001).bind fun t206 => (if t206.size + 1 ≤ 9223372036854775807 then (if x205002 = 0 then (some (t206 ++ (⟨#[114]⟩ : ByteArray))) else (if 0 ≤ x205002 then ((zcM.f (shl .i64 1 x205002)).bind fun t207 => (if 1 + t207.size ≤ 9223372036854775807 then (if (t206 ++ (⟨#[114]⟩ : ByteArray)).size + ((⟨#[47]⟩ : ByteArray) ++ t207).size ≤ 9223372036854775807 then (some ((t206 ++ (⟨#[114]⟩ : ByteArray)) ++ ((⟨#[47]⟩ : ByteArray) ++ t207))) else (none)) else (none))) else (none))) else (none))) else (if x205001 = 0 then (if x205002 = 0 then (some x3) else (if 0 ≤ x205002 then ((zcM.f (shl .i64 1 x205002)).bind fun t208 => (if 1 + t208.size ≤ 9223372036854775807 then (if x3.size + ((⟨#[47]⟩ : ByteArray) ++ t208).size ≤ 9223372036854775807 then (some (x3 ++ ((⟨#[47]⟩ : ByteArray) ++ t208))) else (none)) else (none))) else (none))) else (if x205001 < 0 then (zjG.j1 k x3 (⟨#[45]⟩ : ByteArray) x205000 x205001 x205002) else (zjG.j1 k x3 (⟨#[43]⟩ : ByteArray) x205000 x205001 x205002)))
def zjG.j1 : Nat → ByteArray → ByteArray → Int → Int → Int → Option (ByteArray)
 | 0, _, _, _, _, _ => none
 | k + 1, x3, x4, x205000, x205001, x205002 => (impl_abs.f x205001).bind fun t209 => ((zcM.f t209).bind fun t210 => (if x4.size + t210.size ≤ 9223372036854775807 then (if (x4 ++ t210).size + 1 ≤ 9223372036854775807 then (if x3.size + ((x4 ++ t210) ++ (⟨#[114]⟩ : ByteArray)).size ≤ 9223372036854775807 then (if x205002 = 0 then (some (x3 ++ ((x4 ++ t210) ++ (⟨#[114]⟩ : ByteArray)))) else (if 1 + (x3 ++ ((x4 ++ t210) ++ (⟨#[114]⟩ : ByteArray))).size ≤ 9223372036854775807 then (if ((⟨#[40]⟩ : ByteArray) ++ (x3 ++ ((x4 ++ t210) ++ (⟨#[114]⟩ : ByteArray)))).size + 1 ≤ 9223372036854775807 then (if 0 ≤ x205002 then ((zcM.f (shl .i64 1 x205002)).bind fun t211 => (if 1 + t211.size ≤ 9223372036854775807 then (if (((⟨#[40]⟩ : ByteArray) ++ (x3 ++ ((x4 ++ t210) ++ (⟨#[114]⟩ : ByteArray)))) ++ (⟨#[41]⟩ : ByteArray)).size + ((⟨#[47]⟩ : ByteArray) ++ t211).size ≤ 9223372036854775807 then (some ((((⟨#[40]⟩ : ByteArray) ++ (x3 ++ ((x4 ++ t210) ++ (⟨#[114]⟩ : ByteArray)))) ++ (⟨#[41]⟩ : ByteArray)) ++ ((⟨#[47]⟩ : ByteArray) ++ t211))) else (none)) else (none))) else (none)) else (none)) else (none))) else (none)) else (none)) else (none)))
end
def zjG.f (k : Nat) (a0_0 : Int) (a0_1 : Int) (a0_2 : Int) : Option (ByteArray) := (zcM.f a0_0).bind fun t205 => (if a0_0 = 0 then (zjG.j0 k t205 (a0_1 != 0) a0_0 a0_1 a0_2) else (zjG.j0 k t205 false a0_0 a0_1 a0_2))
theorem zjG.mono_l : ∀ k, (∀ y0 y1 y2 y3 y4, LeO (zjG.j0 k y0 y1 y2 y3 y4) (zjG.j0 (k + 1) y0 y1 y2 y3 y4)) ∧ (∀ y0 y1 y2 y3 y4, LeO (zjG.j1 k y0 y1 y2 y3 y4) (zjG.j1 (k + 1) y0 y1 y2 y3 y4))
 | 0 => ⟨fun _ _ _ _ _ r h => by simp [zjG.j0] at h, fun _ _ _ _ _ r h => by simp [zjG.j1] at h⟩
 | k + 1 => by
  obtain ⟨ih0, ih1⟩ := zjG.mono_l k
  refine ⟨?_, ?_⟩
  ·intro y0 y1 y2 y3 y4
   unfold zjG.j0
   repeat' first
   | (with_reducible exact ih0 _ _ _ _ _)
   | (with_reducible exact ih1 _ _ _ _ _)
   | (with_reducible exact LeO.refl _)
   | (with_reducible exact LeO.none _)
   | (with_reducible refine LeO.ite ?_ ?_)
   | (with_reducible refine LeO.bind ?_ (fun _ => ?_))
   | exact ih0 _ _ _ _ _
   | exact ih1 _ _ _ _ _
   | exact LeO.none _
   | refine LeO.ite ?_ ?_
   | refine LeO.bind ?_ (fun _ => ?_)
  ·intro y0 y1 y2 y3 y4
   unfold zjG.j1
   repeat' first
   | (with_reducible exact ih0 _ _ _ _ _)
   | (with_reducible exact ih1 _ _ _ _ _)
   | (with_reducible exact LeO.refl _)
   | (with_reducible exact LeO.none _)
   | (with_reducible refine LeO.ite ?_ ?_)
   | (with_reducible refine LeO.bind ?_ (fun _ => ?_))
   | exact ih0 _ _ _ _ _
   | exact ih1 _ _ _ _ _
   | exact LeO.none _
   | refine LeO.ite ?_ ?_
   | refine LeO.bind ?_ (fun _ => ?_)
theorem zjG.mono : ∀ a0 a1 a2 k, LeO (zjG.f k a0 a1 a2) (zjG.f (k + 1) a0 a1 a2) := by
 intro a0 a1 a2 k
 obtain ⟨ih0, ih1⟩ := zjG.mono_l k
 unfold zjG.f
 repeat' first
   | (with_reducible exact ih0 _ _ _ _ _)
   | (with_reducible exact ih1 _ _ _ _ _)
   | (with_reducible exact LeO.refl _)
   | (with_reducible exact LeO.none _)
   | (with_reducible refine LeO.ite ?_ ?_)
   | (with_reducible refine LeO.bind ?_ (fun _ => ?_))
   | exact ih0 _ _ _ _ _
   | exact ih1 _ _ _ _ _
   | exact LeO.none _
   | refine LeO.ite ?_ ?_
   | refine LeO.bind ?_ (fun _ => ?_)
theorem zjG.calls (k : Nat) (a0_0 : Int) (a0_1 : Int) (a0_2 : Int) (r : ByteArray) (w : World) (hG : LaidV w) (h : zjG.f k a0_0 a0_1 a0_2 = some r) :
  Calls Tryd.prog 29 #[.agg #[.int .i64 a0_0, .int .i64 a0_1, .int .i64 a0_2]] w fun e w' => e = .returned (.string r) ∧ Below w.heap.size w w' := by
 have hu23 := Tryd.underlying23
 have HB := zpS (Below.refl w.heap.size w)
 have H : ((zcM.f a0_0).bind fun t205 => (if a0_0 = 0 then (zjG.j0 k t205 (a0_1 != 0) a0_0 a0_1 a0_2) else (zjG.j0 k t205 false a0_0 a0_1 a0_2))) = some r := h
 clear h
 replace H := Option.bind_eq_some_iff.mp H
 obtain ⟨t205, A20, H⟩ := H
 replace H : (if a0_0 = 0 then (zjG.j0 k t205 (a0_1 != 0) a0_0 a0_1 a0_2) else (zjG.j0 k t205 false a0_0 a0_1 a0_2)) = some r := H
 have A2 := zpS A20
 clear A20
 have HC3 := zpS H
 clear H
 go_enter Tryd.func29, Tryd.ntmps29
 go_upto_region 2 with (first | ((with_reducible refine zpZ (N := 1) rfl ?_); refine bx_ 1 #[.int .i64 a0_0, .int .i64 a0_1, .int .i64 a0_2] 23 ?_; intro gb204 hg w4 hbox hb; have n0_ := (ns_ hb); have n1_ := zpS (hbox); have n2_ := (ng_ hg); have n3_ := n2_; clear HB; have HB := n0_; have BK204 := n1_; have GW204 := n2_; have GE204 := n3_; clear n0_ n1_ n2_ n3_; clear hb hbox hg; obtain ⟨hcz5_0, hcz5_1, hcz5_2⟩ := zdT BK204.out; obtain ⟨hfz5_0, hfz5_1, hfz5_2⟩ := zqD BK204.out) | ((with_reducible refine zgK (f := 42) rfl ?_); refine zqQ (some 7) rfl rfl Tryd.func42 (by kernel_rfl) rfl #[.int .i64 a0_0] rfl (by (try simp only [List.map_toArray, List.map_cons, List.map_nil]); first | done | rfl | (simp only [List.length_drop, List.length_take]; rfl)) ?_; (with_reducible refine (zcM.calls a0_0 t205 _ ?side1 A2.out).mono ?_); (case side1 => exact LaidV.below hG bb_); rintro e w6 ⟨rfl, hb⟩; refine ⟨_, rfl, ?_⟩; have n0_ := zpS (zgM (g := gb204) (o := .cells #[.int .i64 a0_0, .int .i64 a0_1, .int .i64 a0_2] 23 (0, 0)) bk_ hb); have n1_ := (ns_ hb); clear BK204; clear HB; have BK204 := n0_; have HB := n1_; clear n0_ n1_; (try clear hb); (try clear hb2)))
 (try simp only [Act.put, set_a_, set_b_, set_c_])
 go_cut [8] (fun v8 wc => ∃ (kq : Nat) (x8_2 : Bool), v8 = .bool x8_2 ∧ Aside0 (zjG.j0 kq t205 x8_2 a0_0 a0_1 a0_2 = some r) ∧ Aside0 (kq ≤ k) ∧ Aside0 (wc.heap[gb204]? = some (.cells #[.int .i64 a0_0, .int .i64 a0_1, .int .i64 a0_2] 23 (0, 0))) ∧ Aside0 (Below w.heap.size w wc))
 case first =>
  have H := HC3.out
  clear HC3
  by_cases c7 : a0_0 = 0
  ·rw [if_pos c7] at H
   have c7b0 : (a0_0 == 0) = true := beq_iff_eq.mpr c7
   have c7b1 : (a0_0 != 0) = false := bne_eq_false_iff_eq.mpr c7
   clear c7
   (first | rw [c7b0] | (simp only [zcN, ziJ]; rw [c7b0]) | skip)
   have H' := zpS H
   clear H
   obtain ⟨hcz8_0, hcz8_1, hcz8_2⟩ := zdT BK204.out
   obtain ⟨hfz8_0, hfz8_1, hfz8_2⟩ := zqD BK204.out
   go_wp2
   go_meet
   case rel => exact ⟨_, ((a0_1 != 0)), (by first | rfl | (simp; done) | (simp [*]; done)), H', ⟨by first | omega | exact Nat.le_refl _⟩, ⟨bk_⟩, ⟨bb_⟩⟩
  ·rw [if_neg c7] at H
   have c7b0 : (a0_0 == 0) = false := beq_eq_false_iff_ne.mpr c7
   have c7b1 : (a0_0 != 0) = true := bne_iff_ne.mpr c7
   (first | rw [c7b0] | (simp only [zcN, ziJ]; rw [c7b0]) | skip)
   have H' := zpS H
   clear H
   obtain ⟨hcz9_0, hcz9_1, hcz9_2⟩ := zdT BK204.out
   obtain ⟨hfz9_0, hfz9_1, hfz9_2⟩ := zqD BK204.out
   go_wp2
   go_meet
   case rel => exact ⟨_, (false), (by first | rfl | (simp; done) | (simp [*]; done)), H', ⟨by first | omega | exact Nat.le_refl _⟩, ⟨bk_⟩, ⟨bb_⟩⟩
 case rest =>
  clear HC3
  try clear c2
  try clear p2
  try clear c4
  try clear c7
  try clear c7b0
  try clear c7b1
  try clear hcz5_0
  try clear hcz5_1
  try clear hcz5_2
  try clear hcz8_0
  try clear hcz8_1
  try clear hcz8_2
  try clear hcz9_0
  try clear hcz9_1
  try clear hcz9_2
  try clear hfz5_0
  try clear hfz5_1
  try clear hfz5_2
  try clear hfz8_0
  try clear hfz8_1
  try clear hfz8_2
  try clear hfz9_0
  try clear hfz9_1
  try clear hfz9_2
  obtain ⟨kq, x8_2, rfl, HA, HJ2, BK204, HB⟩ := hcut
  cases kq with
  | zero => exact absurd HA.out (by simp [zjG.j0])
  | succ kj2 =>
   have H := HA.out
   clear HA
   simp only [zjG.j0] at H
   by_cases c10 : x8_2 = true
   ·subst c10
    have H1 : ((zcM.f a0_1).bind fun t206 => (if t206.size + 1 ≤ 9223372036854775807 then (if a0_2 = 0 then (some (t206 ++ (⟨#[114]⟩ : ByteArray))) else (if 0 ≤ a0_2 then ((zcM.f (shl .i64 1 a0_2)).bind fun t207 => (if 1 + t207.size ≤ 9223372036854775807 then (if (t206 ++ (⟨#[114]⟩ : ByteArray)).size + ((⟨#[47]⟩ : ByteArray) ++ t207).size ≤ 9223372036854775807 then (some ((t206 ++ (⟨#[114]⟩ : ByteArray)) ++ ((⟨#[47]⟩ : ByteArray) ++ t207))) else (none)) else (none))) else (none))) else (none))) = some r := by rw [if_pos rfl] at H; exact H
    clear H
    have H := H1
    clear H1
    replace H := Option.bind_eq_some_iff.mp H
    obtain ⟨t206, A110, H⟩ := H
    replace H : (if t206.size + 1 ≤ 9223372036854775807 then (if a0_2 = 0 then (some (t206 ++ (⟨#[114]⟩ : ByteArray))) else (if 0 ≤ a0_2 then ((zcM.f (shl .i64 1 a0_2)).bind fun t207 => (if 1 + t207.size ≤ 9223372036854775807 then (if (t206 ++ (⟨#[114]⟩ : ByteArray)).size + ((⟨#[47]⟩ : ByteArray) ++ t207).size ≤ 9223372036854775807 then (some ((t206 ++ (⟨#[114]⟩ : ByteArray)) ++ ((⟨#[47]⟩ : ByteArray) ++ t207))) else (none)) else (none))) else (none))) else (none)) = some r := H
    have A11 := zpS A110
    clear A110
    by_cases c12 : t206.size + 1 ≤ 9223372036854775807
    ·rw [if_pos c12] at H
     have c12b0 := eq_true c12
     have c12b1 : decide (t206.size + 1 ≤ 9223372036854775807) = true := decide_eq_true c12
     try have c12b2 : (9223372036854775807 < t206.size + 1) = False := eq_false (Nat.not_lt.2 c12)
     by_cases c13 : a0_2 = 0
     ·rw [if_pos c13] at H
      have c13b0 : (a0_2 == 0) = true := beq_iff_eq.mpr c13
      have c13b1 : (a0_2 != 0) = false := bne_eq_false_iff_eq.mpr c13
      clear c13
      obtain rfl := Option.some.inj H
      obtain ⟨hcz14_0, hcz14_1, hcz14_2⟩ := zdT BK204.out
      obtain ⟨hfz14_0, hfz14_1, hfz14_2⟩ := zqD BK204.out
      go_wp2_with (first | ((with_reducible refine zgK (f := 42) rfl ?_); refine zqQ (some 19) rfl rfl Tryd.func42 (by kernel_rfl) rfl #[.int .i64 a0_1] rfl (by (try simp only [List.map_toArray, List.map_cons, List.map_nil]); first | done | rfl | (simp only [List.length_drop, List.length_take]; rfl)) ?_; (with_reducible refine (zcM.calls a0_1 t206 _ ?side1 A11.out).mono ?_); (case side1 => exact LaidV.below hG bb_); rintro e w15 ⟨rfl, hb⟩; refine ⟨_, rfl, ?_⟩; have n0_ := zpS (zgM (g := gb204) (o := .cells #[.int .i64 a0_0, .int .i64 a0_1, .int .i64 a0_2] 23 (0, 0)) bk_ hb); have n1_ := (ns_ hb); clear BK204; clear HB; have BK204 := n0_; have HB := n1_; clear n0_ n1_; (try clear hb); (try clear hb2); obtain ⟨hcz16_0, hcz16_1, hcz16_2⟩ := zdT BK204.out; obtain ⟨hfz16_0, hfz16_1, hfz16_2⟩ := zqD BK204.out))
      go_ret
      exact ⟨by first | rfl | (simp [ziS, znJ] <;> rfl) | (simp [*, ziS, znJ] <;> rfl), bb_⟩
     ·rw [if_neg c13] at H
      have c13b0 : (a0_2 == 0) = false := beq_eq_false_iff_ne.mpr c13
      have c13b1 : (a0_2 != 0) = true := bne_iff_ne.mpr c13
      by_cases c17 : 0 ≤ a0_2
      ·rw [if_pos c17] at H
       have c17b0 := eq_true c17
       have c17b1 : decide (0 ≤ a0_2) = true := decide_eq_true c17
       clear c17
       obtain ⟨ji18, hji18⟩ : ∃ j_ : Int, (shl .i64 1 a0_2) = j_ := ⟨_, rfl⟩
       replace H : ((zcM.f (ji18)).bind fun t207 => (if 1 + t207.size ≤ 9223372036854775807 then (if (t206 ++ (⟨#[114]⟩ : ByteArray)).size + ((⟨#[47]⟩ : ByteArray) ++ t207).size ≤ 9223372036854775807 then (some ((t206 ++ (⟨#[114]⟩ : ByteArray)) ++ ((⟨#[47]⟩ : ByteArray) ++ t207))) else (none)) else (none))) = some r := by first | (rw [hji18] at H; exact H) | (simp only [hji18] at H ⊢; exact H)
       (try rw [hji18] at A11)
       have hji18_ : (IntKind.i64.wrap (1 * 2 ^ min a0_2.toNat 64)) = ji18 := hji18
       have hji18z : a0_2 ≤ 64 → (IntKind.i64.wrap (1 * 2 ^ a0_2.toNat)) = ji18 := shl_small hji18
       have hji18u : (IntKind.i64.wrap (2 ^ min a0_2.toNat 64)) = ji18 := by have h_ := hji18_; rw [Int.one_mul] at h_; exact h_
       have hji18v : a0_2 ≤ 64 → (IntKind.i64.wrap (2 ^ a0_2.toNat)) = ji18 := fun hle_ => by have h_ := hji18z hle_; rw [Int.one_mul] at h_; exact h_
       have hji18y : (wrap64 (1 * 2 ^ min a0_2.toNat 64)) = ji18 := (zcN _).symm.trans hji18_
       have hji18x : a0_2 ≤ 64 → (wrap64 (1 * 2 ^ a0_2.toNat)) = ji18 := fun h_ => (zcN _).symm.trans (hji18z h_)
       replace H := Option.bind_eq_some_iff.mp H
       obtain ⟨t207, A190, H⟩ := H
       replace H : (if 1 + t207.size ≤ 9223372036854775807 then (if (t206 ++ (⟨#[114]⟩ : ByteArray)).size + ((⟨#[47]⟩ : ByteArray) ++ t207).size ≤ 9223372036854775807 then (some ((t206 ++ (⟨#[114]⟩ : ByteArray)) ++ ((⟨#[47]⟩ : ByteArray) ++ t207))) else (none)) else (none)) = some r := H
       have A19 := zpS A190
       clear A190
       by_cases c20 : 1 + t207.size ≤ 9223372036854775807
       ·rw [if_pos c20] at H
        have c20b0 := eq_true c20
        have c20b1 : decide (1 + t207.size ≤ 9223372036854775807) = true := decide_eq_true c20
        try have c20b2 : (9223372036854775807 < 1 + t207.size) = False := eq_false (Nat.not_lt.2 c20)
        by_cases c21 : (t206 ++ (⟨#[114]⟩ : ByteArray)).size + ((⟨#[47]⟩ : ByteArray) ++ t207).size ≤ 9223372036854775807
        ·rw [if_pos c21] at H
         have c21b0 := eq_true c21
         have c21b1 : decide ((t206 ++ (⟨#[114]⟩ : ByteArray)).size + ((⟨#[47]⟩ : ByteArray) ++ t207).size ≤ 9223372036854775807) = true := decide_eq_true c21
         try have c21b2 : (9223372036854775807 < (t206 ++ (⟨#[114]⟩ : ByteArray)).size + ((⟨#[47]⟩ : ByteArray) ++ t207).size) = False := eq_false (Nat.not_lt.2 c21)
         (try (have c21b3 : (9223372036854775807 < t206.size + 1 + (1 + t207.size)) = False := eq_false (Nat.not_lt.2 (by have h_ := c21; simp only [ByteArray.size_append] at h_; exact h_))))
         obtain rfl := Option.some.inj H
         obtain ⟨hcz22_0, hcz22_1, hcz22_2⟩ := zdT BK204.out
         obtain ⟨hfz22_0, hfz22_1, hfz22_2⟩ := zqD BK204.out
         go_wp2_with (first | ((with_reducible refine zgK (f := 42) rfl ?_); refine zqQ (some 19) rfl rfl Tryd.func42 (by kernel_rfl) rfl #[.int .i64 a0_1] rfl (by (try simp only [List.map_toArray, List.map_cons, List.map_nil]); first | done | rfl | (simp only [List.length_drop, List.length_take]; rfl)) ?_; (with_reducible refine (zcM.calls a0_1 t206 _ ?side1 A11.out).mono ?_); (case side1 => exact LaidV.below hG bb_); rintro e w23 ⟨rfl, hb⟩; refine ⟨_, rfl, ?_⟩; have n0_ := zpS (zgM (g := gb204) (o := .cells #[.int .i64 a0_0, .int .i64 a0_1, .int .i64 a0_2] 23 (0, 0)) bk_ hb); have n1_ := (ns_ hb); clear BK204; clear HB; have BK204 := n0_; have HB := n1_; clear n0_ n1_; (try clear hb); (try clear hb2); obtain ⟨hcz24_0, hcz24_1, hcz24_2⟩ := zdT BK204.out; obtain ⟨hfz24_0, hfz24_1, hfz24_2⟩ := zqD BK204.out) | ((with_reducible refine zgK (f := 42) rfl ?_); refine zqQ (some 50) rfl rfl Tryd.func42 (by kernel_rfl) rfl #[.int .i64 ji18] rfl (by (try simp only [List.map_toArray, List.map_cons, List.map_nil]); first | done | (simp only [hji18]; rfl) | rfl | (simp only [List.length_drop, List.length_take]; rfl)) ?_; (with_reducible refine (zcM.calls ji18 t207 _ ?side1 A19.out).mono ?_); (case side1 => exact LaidV.below hG bb_); rintro e w25 ⟨rfl, hb⟩; refine ⟨_, rfl, ?_⟩; have n0_ := zpS (zgM (g := gb204) (o := .cells #[.int .i64 a0_0, .int .i64 a0_1, .int .i64 a0_2] 23 (0, 0)) bk_ hb); have n1_ := (ns_ hb); clear BK204; clear HB; have BK204 := n0_; have HB := n1_; clear n0_ n1_; (try clear hb); (try clear hb2)))
         go_ret
         exact ⟨by first | rfl | (simp [ziS, znJ] <;> rfl) | (simp only [← hji18]; first | rfl | (simp [ziS, znJ] <;> rfl)) | (simp [*, ziS, znJ] <;> rfl), bb_⟩
        ·rw [if_neg c21] at H
         exact absurd H (by simp)
       ·rw [if_neg c20] at H
        exact absurd H (by simp)
      ·rw [if_neg c17] at H
       exact absurd H (by simp)
    ·rw [if_neg c12] at H
     exact absurd H (by simp)
   ·replace c10 := Bool.eq_false_iff.mpr c10
    subst c10
    have H1 : (if a0_1 = 0 then (if a0_2 = 0 then (some t205) else (if 0 ≤ a0_2 then ((zcM.f (shl .i64 1 a0_2)).bind fun t208 => (if 1 + t208.size ≤ 9223372036854775807 then (if t205.size + ((⟨#[47]⟩ : ByteArray) ++ t208).size ≤ 9223372036854775807 then (some (t205 ++ ((⟨#[47]⟩ : ByteArray) ++ t208))) else (none)) else (none))) else (none))) else (if a0_1 < 0 then (zjG.j1 kj2 t205 (⟨#[45]⟩ : ByteArray) a0_0 a0_1 a0_2) else (zjG.j1 kj2 t205 (⟨#[43]⟩ : ByteArray) a0_0 a0_1 a0_2))) = some r := by rw [if_neg (show ¬ (false = true) by decide)] at H; exact H
    clear H
    have H := H1
    clear H1
    by_cases c26 : a0_1 = 0
    ·rw [if_pos c26] at H
     have c26b0 : (a0_1 == 0) = true := beq_iff_eq.mpr c26
     have c26b1 : (a0_1 != 0) = false := bne_eq_false_iff_eq.mpr c26
     clear c26
     by_cases c27 : a0_2 = 0
     ·rw [if_pos c27] at H
      have c27b0 : (a0_2 == 0) = true := beq_iff_eq.mpr c27
      have c27b1 : (a0_2 != 0) = false := bne_eq_false_iff_eq.mpr c27
      clear c27
      obtain rfl := Option.some.inj H
      obtain ⟨hcz28_0, hcz28_1, hcz28_2⟩ := zdT BK204.out
      obtain ⟨hfz28_0, hfz28_1, hfz28_2⟩ := zqD BK204.out
      go_wp2
      go_ret
      exact ⟨by first | rfl | (simp [ziS, znJ] <;> rfl) | (simp [*, ziS, znJ] <;> rfl), bb_⟩
     ·rw [if_neg c27] at H
      have c27b0 : (a0_2 == 0) = false := beq_eq_false_iff_ne.mpr c27
      have c27b1 : (a0_2 != 0) = true := bne_iff_ne.mpr c27
      by_cases c29 : 0 ≤ a0_2
      ·rw [if_pos c29] at H
       have c29b0 := eq_true c29
       have c29b1 : decide (0 ≤ a0_2) = true := decide_eq_true c29
       clear c29
       obtain ⟨ji30, hji30⟩ : ∃ j_ : Int, (shl .i64 1 a0_2) = j_ := ⟨_, rfl⟩
       replace H : ((zcM.f (ji30)).bind fun t208 => (if 1 + t208.size ≤ 9223372036854775807 then (if t205.size + ((⟨#[47]⟩ : ByteArray) ++ t208).size ≤ 9223372036854775807 then (some (t205 ++ ((⟨#[47]⟩ : ByteArray) ++ t208))) else (none)) else (none))) = some r := by first | (rw [hji30] at H; exact H) | (simp only [hji30] at H ⊢; exact H)
       have hji30_ : (IntKind.i64.wrap (1 * 2 ^ min a0_2.toNat 64)) = ji30 := hji30
       have hji30z : a0_2 ≤ 64 → (IntKind.i64.wrap (1 * 2 ^ a0_2.toNat)) = ji30 := shl_small hji30
       have hji30u : (IntKind.i64.wrap (2 ^ min a0_2.toNat 64)) = ji30 := by have h_ := hji30_; rw [Int.one_mul] at h_; exact h_
       have hji30v : a0_2 ≤ 64 → (IntKind.i64.wrap (2 ^ a0_2.toNat)) = ji30 := fun hle_ => by have h_ := hji30z hle_; rw [Int.one_mul] at h_; exact h_
       have hji30y : (wrap64 (1 * 2 ^ min a0_2.toNat 64)) = ji30 := (zcN _).symm.trans hji30_
       have hji30x : a0_2 ≤ 64 → (wrap64 (1 * 2 ^ a0_2.toNat)) = ji30 := fun h_ => (zcN _).symm.trans (hji30z h_)
       replace H := Option.bind_eq_some_iff.mp H
       obtain ⟨t208, A310, H⟩ := H
       replace H : (if 1 + t208.size ≤ 9223372036854775807 then (if t205.size + ((⟨#[47]⟩ : ByteArray) ++ t208).size ≤ 9223372036854775807 then (some (t205 ++ ((⟨#[47]⟩ : ByteArray) ++ t208))) else (none)) else (none)) = some r := H
       have A31 := zpS A310
       clear A310
       by_cases c32 : 1 + t208.size ≤ 9223372036854775807
       ·rw [if_pos c32] at H
        have c32b0 := eq_true c32
        have c32b1 : decide (1 + t208.size ≤ 9223372036854775807) = true := decide_eq_true c32
        try have c32b2 : (9223372036854775807 < 1 + t208.size) = False := eq_false (Nat.not_lt.2 c32)
        by_cases c33 : t205.size + ((⟨#[47]⟩ : ByteArray) ++ t208).size ≤ 9223372036854775807
        ·rw [if_pos c33] at H
         have c33b0 := eq_true c33
         have c33b1 : decide (t205.size + ((⟨#[47]⟩ : ByteArray) ++ t208).size ≤ 9223372036854775807) = true := decide_eq_true c33
         try have c33b2 : (9223372036854775807 < t205.size + ((⟨#[47]⟩ : ByteArray) ++ t208).size) = False := eq_false (Nat.not_lt.2 c33)
         (try (have c33b3 : (9223372036854775807 < t205.size + (1 + t208.size)) = False := eq_false (Nat.not_lt.2 (by have h_ := c33; simp only [ByteArray.size_append] at h_; exact h_))))
         obtain rfl := Option.some.inj H
         obtain ⟨hcz34_0, hcz34_1, hcz34_2⟩ := zdT BK204.out
         obtain ⟨hfz34_0, hfz34_1, hfz34_2⟩ := zqD BK204.out
         go_wp2_with (first | ((with_reducible refine zgK (f := 42) rfl ?_); refine zqQ (some 50) rfl rfl Tryd.func42 (by kernel_rfl) rfl #[.int .i64 ji30] rfl (by (try simp only [List.map_toArray, List.map_cons, List.map_nil]); first | done | (simp only [hji30]; rfl) | rfl | (simp only [List.length_drop, List.length_take]; rfl)) ?_; (with_reducible refine (zcM.calls ji30 t208 _ ?side1 A31.out).mono ?_); (case side1 => exact LaidV.below hG bb_); rintro e w35 ⟨rfl, hb⟩; refine ⟨_, rfl, ?_⟩; have n0_ := zpS (zgM (g := gb204) (o := .cells #[.int .i64 a0_0, .int .i64 a0_1, .int .i64 a0_2] 23 (0, 0)) bk_ hb); have n1_ := (ns_ hb); clear BK204; clear HB; have BK204 := n0_; have HB := n1_; clear n0_ n1_; (try clear hb); (try clear hb2)))
         go_ret
         exact ⟨by first | rfl | (simp [ziS, znJ] <;> rfl) | (simp only [← hji30]; first | rfl | (simp [ziS, znJ] <;> rfl)) | (simp [*, ziS, znJ] <;> rfl), bb_⟩
        ·rw [if_neg c33] at H
         exact absurd H (by simp)
       ·rw [if_neg c32] at H
        exact absurd H (by simp)
      ·rw [if_neg c29] at H
       exact absurd H (by simp)
    ·rw [if_neg c26] at H
     have c26b0 : (a0_1 == 0) = false := beq_eq_false_iff_ne.mpr c26
     have c26b1 : (a0_1 != 0) = true := bne_iff_ne.mpr c26
     have HC36 := zpS H
     clear H
     obtain ⟨hcz37_0, hcz37_1, hcz37_2⟩ := zdT BK204.out
     obtain ⟨hfz37_0, hfz37_1, hfz37_2⟩ := zqD BK204.out
     go_upto_if 27 with (fail)
     go_cut [4] (fun v4 wc => ∃ (kq : Nat) (x4_35 : ByteArray), v4 = .string x4_35 ∧ Aside0 (zjG.j1 kq t205 x4_35 a0_0 a0_1 a0_2 = some r) ∧ Aside0 (kq ≤ kj2) ∧ Aside0 (wc.heap[gb204]? = some (.cells #[.int .i64 a0_0, .int .i64 a0_1, .int .i64 a0_2] 23 (0, 0))) ∧ Aside0 (Below w.heap.size w wc))
     case first =>
      have H := HC36.out
      clear HC36
      by_cases c38 : a0_1 < 0
      ·rw [if_pos c38] at H
       have c38b0 : decide (a0_1 < 0) = true := decide_eq_true c38
       clear c38
       (first | rw [c38b0] | (simp only [zcN, ziJ]; rw [c38b0]) | skip)
       have H' := zpS H
       clear H
       go_wp2
       go_meet
       case rel => exact ⟨_, ((⟨#[45]⟩ : ByteArray)), (by first | rfl | (simp; done) | (simp [*]; done)), H', ⟨by have := HJ2.out; first | omega | exact Nat.le_refl _⟩, ⟨bk_⟩, ⟨bb_⟩⟩
      ·rw [if_neg c38] at H
       have c38b0 : decide (a0_1 < 0) = false := decide_eq_false c38
       clear c38
       (first | rw [c38b0] | (simp only [zcN, ziJ]; rw [c38b0]) | skip)
       have H' := zpS H
       clear H
       go_wp2
       go_meet
       case rel => exact ⟨_, ((⟨#[43]⟩ : ByteArray)), (by first | rfl | (simp; done) | (simp [*]; done)), H', ⟨by have := HJ2.out; first | omega | exact Nat.le_refl _⟩, ⟨bk_⟩, ⟨bb_⟩⟩
     case rest =>
      clear HC36
      try clear c1
      try clear c2
      try clear p2
      try clear c3
      try clear c4
      try clear p6
      try clear c7
      try clear c7b0
      try clear c7b1
      try clear c10
      try clear c12
      try clear c12b0
      try clear c12b1
      try clear c12b2
      try clear c13
      try clear c13b0
      try clear c13b1
      try clear c17
      try clear c17b0
      try clear c17b1
      try clear c20
      try clear c20b0
      try clear c20b1
      try clear c20b2
      try clear c21
      try clear c21b0
      try clear c21b1
      try clear c21b2
      try clear c26
      try clear c26b0
      try clear c26b1
      try clear c27
      try clear c27b0
      try clear c27b1
      try clear c29
      try clear c29b0
      try clear c29b1
      try clear c32
      try clear c32b0
      try clear c32b1
      try clear c32b2
      try clear c33
      try clear c33b0
      try clear c33b1
      try clear c33b2
      try clear c38
      try clear c38b0
      try clear hcz14_0
      try clear hcz14_1
      try clear hcz14_2
      try clear hcz16_0
      try clear hcz16_1
      try clear hcz16_2
      try clear hcz22_0
      try clear hcz22_1
      try clear hcz22_2
      try clear hcz24_0
      try clear hcz24_1
      try clear hcz24_2
      try clear hcz28_0
      try clear hcz28_1
      try clear hcz28_2
      try clear hcz34_0
      try clear hcz34_1
      try clear hcz34_2
      try clear hcz37_0
      try clear hcz37_1
      try clear hcz37_2
      try clear hcz5_0
      try clear hcz5_1
      try clear hcz5_2
      try clear hcz8_0
      try clear hcz8_1
      try clear hcz8_2
      try clear hcz9_0
      try clear hcz9_1
      try clear hcz9_2
      try clear hfz14_0
      try clear hfz14_1
      try clear hfz14_2
      try clear hfz16_0
      try clear hfz16_1
      try clear hfz16_2
      try clear hfz22_0
      try clear hfz22_1
      try clear hfz22_2
      try clear hfz24_0
      try clear hfz24_1
      try clear hfz24_2
      try clear hfz28_0
      try clear hfz28_1
      try clear hfz28_2
      try clear hfz34_0
      try clear hfz34_1
      try clear hfz34_2
      try clear hfz37_0
      try clear hfz37_1
      try clear hfz37_2
      try clear hfz5_0
      try clear hfz5_1
      try clear hfz5_2
      try clear hfz8_0
      try clear hfz8_1
      try clear hfz8_2
      try clear hfz9_0
      try clear hfz9_1
      try clear hfz9_2
      try clear p2
      obtain ⟨kq, x4_35, rfl, HA, HJ35, BK204, HB⟩ := hcut
      cases kq with
      | zero => exact absurd HA.out (by simp [zjG.j1])
      | succ kj35 =>
       have H := HA.out
       clear HA
       simp only [zjG.j1] at H
       replace H := Option.bind_eq_some_iff.mp H
       obtain ⟨t209, A390, H⟩ := H
       replace H : ((zcM.f t209).bind fun t210 => (if x4_35.size + t210.size ≤ 9223372036854775807 then (if (x4_35 ++ t210).size + 1 ≤ 9223372036854775807 then (if t205.size + ((x4_35 ++ t210) ++ (⟨#[114]⟩ : ByteArray)).size ≤ 9223372036854775807 then (if a0_2 = 0 then (some (t205 ++ ((x4_35 ++ t210) ++ (⟨#[114]⟩ : ByteArray)))) else (if 1 + (t205 ++ ((x4_35 ++ t210) ++ (⟨#[114]⟩ : ByteArray))).size ≤ 9223372036854775807 then (if ((⟨#[40]⟩ : ByteArray) ++ (t205 ++ ((x4_35 ++ t210) ++ (⟨#[114]⟩ : ByteArray)))).size + 1 ≤ 9223372036854775807 then (if 0 ≤ a0_2 then ((zcM.f (shl .i64 1 a0_2)).bind fun t211 => (if 1 + t211.size ≤ 9223372036854775807 then (if (((⟨#[40]⟩ : ByteArray) ++ (t205 ++ ((x4_35 ++ t210) ++ (⟨#[114]⟩ : ByteArray)))) ++ (⟨#[41]⟩ : ByteArray)).size + ((⟨#[47]⟩ : ByteArray) ++ t211).size ≤ 9223372036854775807 then (some ((((⟨#[40]⟩ : ByteArray) ++ (t205 ++ ((x4_35 ++ t210) ++ (⟨#[114]⟩ : ByteArray)))) ++ (⟨#[41]⟩ : ByteArray)) ++ ((⟨#[47]⟩ : ByteArray) ++ t211))) else (none)) else (none))) else (none)) else (none)) else (none))) else (none)) else (none)) else (none))) = some r := H
       have A39 := zpS A390
       clear A390
       replace H := Option.bind_eq_some_iff.mp H
       obtain ⟨t210, A400, H⟩ := H
       replace H : (if x4_35.size + t210.size ≤ 9223372036854775807 then (if (x4_35 ++ t210).size + 1 ≤ 9223372036854775807 then (if t205.size + ((x4_35 ++ t210) ++ (⟨#[114]⟩ : ByteArray)).size ≤ 9223372036854775807 then (if a0_2 = 0 then (some (t205 ++ ((x4_35 ++ t210) ++ (⟨#[114]⟩ : ByteArray)))) else (if 1 + (t205 ++ ((x4_35 ++ t210) ++ (⟨#[114]⟩ : ByteArray))).size ≤ 9223372036854775807 then (if ((⟨#[40]⟩ : ByteArray) ++ (t205 ++ ((x4_35 ++ t210) ++ (⟨#[114]⟩ : ByteArray)))).size + 1 ≤ 9223372036854775807 then (if 0 ≤ a0_2 then ((zcM.f (shl .i64 1 a0_2)).bind fun t211 => (if 1 + t211.size ≤ 9223372036854775807 then (if (((⟨#[40]⟩ : ByteArray) ++ (t205 ++ ((x4_35 ++ t210) ++ (⟨#[114]⟩ : ByteArray)))) ++ (⟨#[41]⟩ : ByteArray)).size + ((⟨#[47]⟩ : ByteArray) ++ t211).size ≤ 9223372036854775807 then (some ((((⟨#[40]⟩ : ByteArray) ++ (t205 ++ ((x4_35 ++ t210) ++ (⟨#[114]⟩ : ByteArray)))) ++ (⟨#[41]⟩ : ByteArray)) ++ ((⟨#[47]⟩ : ByteArray) ++ t211))) else (none)) else (none))) else (none)) else (none)) else (none))) else (none)) else (none)) else (none)) = some r := H
       have A40 := zpS A400
       clear A400
       by_cases c41 : x4_35.size + t210.size ≤ 9223372036854775807
       ·rw [if_pos c41] at H
        have c41b0 := eq_true c41
        have c41b1 : decide (x4_35.size + t210.size ≤ 9223372036854775807) = true := decide_eq_true c41
        try have c41b2 : (9223372036854775807 < x4_35.size + t210.size) = False := eq_false (Nat.not_lt.2 c41)
        by_cases c42 : (x4_35 ++ t210).size + 1 ≤ 9223372036854775807
        ·rw [if_pos c42] at H
         have c42b0 := eq_true c42
         have c42b1 : decide ((x4_35 ++ t210).size + 1 ≤ 9223372036854775807) = true := decide_eq_true c42
         try have c42b2 : (9223372036854775807 < (x4_35 ++ t210).size + 1) = False := eq_false (Nat.not_lt.2 c42)
         (try (have c42b3 : (9223372036854775807 < x4_35.size + t210.size + 1) = False := eq_false (Nat.not_lt.2 (by have h_ := c42; simp only [ByteArray.size_append] at h_; exact h_))))
         by_cases c43 : t205.size + ((x4_35 ++ t210) ++ (⟨#[114]⟩ : ByteArray)).size ≤ 9223372036854775807
         ·rw [if_pos c43] at H
          have c43b0 := eq_true c43
          have c43b1 : decide (t205.size + ((x4_35 ++ t210) ++ (⟨#[114]⟩ : ByteArray)).size ≤ 9223372036854775807) = true := decide_eq_true c43
          try have c43b2 : (9223372036854775807 < t205.size + ((x4_35 ++ t210) ++ (⟨#[114]⟩ : ByteArray)).size) = False := eq_false (Nat.not_lt.2 c43)
          (try (have c43b3 : (9223372036854775807 < t205.size + (x4_35.size + t210.size + 1)) = False := eq_false (Nat.not_lt.2 (by have h_ := c43; simp only [ByteArray.size_append] at h_; exact h_))))
          by_cases c44 : a0_2 = 0
          ·rw [if_pos c44] at H
           have c44b0 : (a0_2 == 0) = true := beq_iff_eq.mpr c44
           have c44b1 : (a0_2 != 0) = false := bne_eq_false_iff_eq.mpr c44
           clear c44
           obtain rfl := Option.some.inj H
           obtain ⟨hcz45_0, hcz45_1, hcz45_2⟩ := zdT BK204.out
           obtain ⟨hfz45_0, hfz45_1, hfz45_2⟩ := zqD BK204.out
           go_wp2_with (first | ((with_reducible refine zgK (f := 47) rfl ?_); refine zqQ (some 32) rfl rfl Tryd.func47 (by kernel_rfl) rfl #[.int .i64 a0_1] rfl (by (try simp only [List.map_toArray, List.map_cons, List.map_nil]); first | done | rfl | (simp only [List.length_drop, List.length_take]; rfl)) ?_; (with_reducible refine (impl_abs.calls a0_1 t209 _ A39.out).mono ?_); rintro e w46 ⟨rfl, hb⟩; refine ⟨_, rfl, ?_⟩; have n0_ := zpS (zgM (g := gb204) (o := .cells #[.int .i64 a0_0, .int .i64 a0_1, .int .i64 a0_2] 23 (0, 0)) bk_ hb); have n1_ := (ns_ hb); clear BK204; clear HB; have BK204 := n0_; have HB := n1_; clear n0_ n1_; (try clear hb); (try clear hb2)) | ((with_reducible refine zgK (f := 42) rfl ?_); refine zqQ (some 33) rfl rfl Tryd.func42 (by kernel_rfl) rfl #[.int .i64 t209] rfl (by (try simp only [List.map_toArray, List.map_cons, List.map_nil]); first | done | rfl | (simp only [List.length_drop, List.length_take]; rfl)) ?_; (with_reducible refine (zcM.calls t209 t210 _ ?side1 A40.out).mono ?_); (case side1 => exact LaidV.below hG bb_); rintro e w47 ⟨rfl, hb⟩; refine ⟨_, rfl, ?_⟩; have n0_ := zpS (zgM (g := gb204) (o := .cells #[.int .i64 a0_0, .int .i64 a0_1, .int .i64 a0_2] 23 (0, 0)) bk_ hb); have n1_ := (ns_ hb); clear BK204; clear HB; have BK204 := n0_; have HB := n1_; clear n0_ n1_; (try clear hb); (try clear hb2); obtain ⟨hcz48_0, hcz48_1, hcz48_2⟩ := zdT BK204.out; obtain ⟨hfz48_0, hfz48_1, hfz48_2⟩ := zqD BK204.out))
           go_ret
           exact ⟨by first | rfl | (simp [ziS, znJ] <;> rfl) | (simp [*, ziS, znJ] <;> rfl), bb_⟩
          ·rw [if_neg c44] at H
           have c44b0 : (a0_2 == 0) = false := beq_eq_false_iff_ne.mpr c44
           have c44b1 : (a0_2 != 0) = true := bne_iff_ne.mpr c44
           by_cases c49 : 1 + (t205 ++ ((x4_35 ++ t210) ++ (⟨#[114]⟩ : ByteArray))).size ≤ 9223372036854775807
           ·rw [if_pos c49] at H
            have c49b0 := eq_true c49
            have c49b1 : decide (1 + (t205 ++ ((x4_35 ++ t210) ++ (⟨#[114]⟩ : ByteArray))).size ≤ 9223372036854775807) = true := decide_eq_true c49
            try have c49b2 : (9223372036854775807 < 1 + (t205 ++ ((x4_35 ++ t210) ++ (⟨#[114]⟩ : ByteArray))).size) = False := eq_false (Nat.not_lt.2 c49)
            (try (have c49b3 : (9223372036854775807 < 1 + (t205.size + (x4_35.size + t210.size + 1))) = False := eq_false (Nat.not_lt.2 (by have h_ := c49; simp only [ByteArray.size_append] at h_; exact h_))))
            by_cases c50 : ((⟨#[40]⟩ : ByteArray) ++ (t205 ++ ((x4_35 ++ t210) ++ (⟨#[114]⟩ : ByteArray)))).size + 1 ≤ 9223372036854775807
            ·rw [if_pos c50] at H
             have c50b0 := eq_true c50
             have c50b1 : decide (((⟨#[40]⟩ : ByteArray) ++ (t205 ++ ((x4_35 ++ t210) ++ (⟨#[114]⟩ : ByteArray)))).size + 1 ≤ 9223372036854775807) = true := decide_eq_true c50
             try have c50b2 : (9223372036854775807 < ((⟨#[40]⟩ : ByteArray) ++ (t205 ++ ((x4_35 ++ t210) ++ (⟨#[114]⟩ : ByteArray)))).size + 1) = False := eq_false (Nat.not_lt.2 c50)
             (try (have c50b3 : (9223372036854775807 < 1 + (t205.size + (x4_35.size + t210.size + 1)) + 1) = False := eq_false (Nat.not_lt.2 (by have h_ := c50; simp only [ByteArray.size_append] at h_; exact h_))))
             by_cases c51 : 0 ≤ a0_2
             ·rw [if_pos c51] at H
              have c51b0 := eq_true c51
              have c51b1 : decide (0 ≤ a0_2) = true := decide_eq_true c51
              clear c51
              obtain ⟨ji52, hji52⟩ : ∃ j_ : Int, (shl .i64 1 a0_2) = j_ := ⟨_, rfl⟩
              replace H : ((zcM.f (ji52)).bind fun t211 => (if 1 + t211.size ≤ 9223372036854775807 then (if (((⟨#[40]⟩ : ByteArray) ++ (t205 ++ ((x4_35 ++ t210) ++ (⟨#[114]⟩ : ByteArray)))) ++ (⟨#[41]⟩ : ByteArray)).size + ((⟨#[47]⟩ : ByteArray) ++ t211).size ≤ 9223372036854775807 then (some ((((⟨#[40]⟩ : ByteArray) ++ (t205 ++ ((x4_35 ++ t210) ++ (⟨#[114]⟩ : ByteArray)))) ++ (⟨#[41]⟩ : ByteArray)) ++ ((⟨#[47]⟩ : ByteArray) ++ t211))) else (none)) else (none))) = some r := by first | (rw [hji52] at H; exact H) | (simp only [hji52] at H ⊢; exact H)
              (try rw [hji52] at A39)
              (try rw [hji52] at A40)
              have hji52_ : (IntKind.i64.wrap (1 * 2 ^ min a0_2.toNat 64)) = ji52 := hji52
              have hji52z : a0_2 ≤ 64 → (IntKind.i64.wrap (1 * 2 ^ a0_2.toNat)) = ji52 := shl_small hji52
              have hji52u : (IntKind.i64.wrap (2 ^ min a0_2.toNat 64)) = ji52 := by have h_ := hji52_; rw [Int.one_mul] at h_; exact h_
              have hji52v : a0_2 ≤ 64 → (IntKind.i64.wrap (2 ^ a0_2.toNat)) = ji52 := fun hle_ => by have h_ := hji52z hle_; rw [Int.one_mul] at h_; exact h_
              have hji52y : (wrap64 (1 * 2 ^ min a0_2.toNat 64)) = ji52 := (zcN _).symm.trans hji52_
              have hji52x : a0_2 ≤ 64 → (wrap64 (1 * 2 ^ a0_2.toNat)) = ji52 := fun h_ => (zcN _).symm.trans (hji52z h_)
              replace H := Option.bind_eq_some_iff.mp H
              obtain ⟨t211, A530, H⟩ := H
              replace H : (if 1 + t211.size ≤ 9223372036854775807 then (if (((⟨#[40]⟩ : ByteArray) ++ (t205 ++ ((x4_35 ++ t210) ++ (⟨#[114]⟩ : ByteArray)))) ++ (⟨#[41]⟩ : ByteArray)).size + ((⟨#[47]⟩ : ByteArray) ++ t211).size ≤ 9223372036854775807 then (some ((((⟨#[40]⟩ : ByteArray) ++ (t205 ++ ((x4_35 ++ t210) ++ (⟨#[114]⟩ : ByteArray)))) ++ (⟨#[41]⟩ : ByteArray)) ++ ((⟨#[47]⟩ : ByteArray) ++ t211))) else (none)) else (none)) = some r := H
              have A53 := zpS A530
              clear A530
              by_cases c54 : 1 + t211.size ≤ 9223372036854775807
              ·rw [if_pos c54] at H
               have c54b0 := eq_true c54
               have c54b1 : decide (1 + t211.size ≤ 9223372036854775807) = true := decide_eq_true c54
               try have c54b2 : (9223372036854775807 < 1 + t211.size) = False := eq_false (Nat.not_lt.2 c54)
               by_cases c55 : (((⟨#[40]⟩ : ByteArray) ++ (t205 ++ ((x4_35 ++ t210) ++ (⟨#[114]⟩ : ByteArray)))) ++ (⟨#[41]⟩ : ByteArray)).size + ((⟨#[47]⟩ : ByteArray) ++ t211).size ≤ 9223372036854775807
               ·rw [if_pos c55] at H
                have c55b0 := eq_true c55
                have c55b1 : decide ((((⟨#[40]⟩ : ByteArray) ++ (t205 ++ ((x4_35 ++ t210) ++ (⟨#[114]⟩ : ByteArray)))) ++ (⟨#[41]⟩ : ByteArray)).size + ((⟨#[47]⟩ : ByteArray) ++ t211).size ≤ 9223372036854775807) = true := decide_eq_true c55
                try have c55b2 : (9223372036854775807 < (((⟨#[40]⟩ : ByteArray) ++ (t205 ++ ((x4_35 ++ t210) ++ (⟨#[114]⟩ : ByteArray)))) ++ (⟨#[41]⟩ : ByteArray)).size + ((⟨#[47]⟩ : ByteArray) ++ t211).size) = False := eq_false (Nat.not_lt.2 c55)
                (try (have c55b3 : (9223372036854775807 < 1 + (t205.size + (x4_35.size + t210.size + 1)) + 1 + (1 + t211.size)) = False := eq_false (Nat.not_lt.2 (by have h_ := c55; simp only [ByteArray.size_append] at h_; exact h_))))
                obtain rfl := Option.some.inj H
                obtain ⟨hcz56_0, hcz56_1, hcz56_2⟩ := zdT BK204.out
                obtain ⟨hfz56_0, hfz56_1, hfz56_2⟩ := zqD BK204.out
                go_wp2_with (first | ((with_reducible refine zgK (f := 47) rfl ?_); refine zqQ (some 32) rfl rfl Tryd.func47 (by kernel_rfl) rfl #[.int .i64 a0_1] rfl (by (try simp only [List.map_toArray, List.map_cons, List.map_nil]); first | done | rfl | (simp only [List.length_drop, List.length_take]; rfl)) ?_; (with_reducible refine (impl_abs.calls a0_1 t209 _ A39.out).mono ?_); rintro e w57 ⟨rfl, hb⟩; refine ⟨_, rfl, ?_⟩; have n0_ := zpS (zgM (g := gb204) (o := .cells #[.int .i64 a0_0, .int .i64 a0_1, .int .i64 a0_2] 23 (0, 0)) bk_ hb); have n1_ := (ns_ hb); clear BK204; clear HB; have BK204 := n0_; have HB := n1_; clear n0_ n1_; (try clear hb); (try clear hb2)) | ((with_reducible refine zgK (f := 42) rfl ?_); refine zqQ (some 33) rfl rfl Tryd.func42 (by kernel_rfl) rfl #[.int .i64 t209] rfl (by (try simp only [List.map_toArray, List.map_cons, List.map_nil]); first | done | rfl | (simp only [List.length_drop, List.length_take]; rfl)) ?_; (with_reducible refine (zcM.calls t209 t210 _ ?side1 A40.out).mono ?_); (case side1 => exact LaidV.below hG bb_); rintro e w58 ⟨rfl, hb⟩; refine ⟨_, rfl, ?_⟩; have n0_ := zpS (zgM (g := gb204) (o := .cells #[.int .i64 a0_0, .int .i64 a0_1, .int .i64 a0_2] 23 (0, 0)) bk_ hb); have n1_ := (ns_ hb); clear BK204; clear HB; have BK204 := n0_; have HB := n1_; clear n0_ n1_; (try clear hb); (try clear hb2); obtain ⟨hcz59_0, hcz59_1, hcz59_2⟩ := zdT BK204.out; obtain ⟨hfz59_0, hfz59_1, hfz59_2⟩ := zqD BK204.out) | ((with_reducible refine zgK (f := 42) rfl ?_); refine zqQ (some 50) rfl rfl Tryd.func42 (by kernel_rfl) rfl #[.int .i64 ji52] rfl (by (try simp only [List.map_toArray, List.map_cons, List.map_nil]); first | done | (simp only [hji52]; rfl) | rfl | (simp only [List.length_drop, List.length_take]; rfl)) ?_; (with_reducible refine (zcM.calls ji52 t211 _ ?side1 A53.out).mono ?_); (case side1 => exact LaidV.below hG bb_); rintro e w60 ⟨rfl, hb⟩; refine ⟨_, rfl, ?_⟩; have n0_ := zpS (zgM (g := gb204) (o := .cells #[.int .i64 a0_0, .int .i64 a0_1, .int .i64 a0_2] 23 (0, 0)) bk_ hb); have n1_ := (ns_ hb); clear BK204; clear HB; have BK204 := n0_; have HB := n1_; clear n0_ n1_; (try clear hb); (try clear hb2)))
                go_ret
                exact ⟨by first | rfl | (simp [ziS, znJ] <;> rfl) | (simp only [← hji52]; first | rfl | (simp [ziS, znJ] <;> rfl)) | (simp [*, ziS, znJ] <;> rfl), bb_⟩
               ·rw [if_neg c55] at H
                exact absurd H (by simp)
              ·rw [if_neg c54] at H
               exact absurd H (by simp)
             ·rw [if_neg c51] at H
              exact absurd H (by simp)
            ·rw [if_neg c50] at H
             exact absurd H (by simp)
           ·rw [if_neg c49] at H
            exact absurd H (by simp)
         ·rw [if_neg c43] at H
          exact absurd H (by simp)
        ·rw [if_neg c42] at H
         exact absurd H (by simp)
       ·rw [if_neg c41] at H
        exact absurd H (by simp)

def zaB.j0 : Nat → ByteArray → ByteArray → Int → Int → Int → Option (Int × Int × Int × Bool)
 | 0, _, _, _, _, _ => none
 | k + 1, x0, x4, x217000, x217001, x217002 => (zjE.f x4 (⟨#[40]⟩ : ByteArray)).bind fun t220 => ((ziM.f t220 (⟨#[41]⟩ : ByteArray)).bind fun t221 => ((zsS.f t221).bind fun bt222 => ((zdR.f bt222.1 bt222.2 x217002).bind fun t224 => (if t224 = true then ((zjG.f k bt222.1 bt222.2 x217002).bind fun t225 => (if t225.toList = x0.toList then (some (bt222.1, bt222.2, x217002, true)) else (some (0, 0, 0, false)))) else (some (0, 0, 0, false))))))
def zaB.f (k : Nat) (a0 : ByteArray) : Option (Int × Int × Int × Bool) := (strings_Cut.f a0 (⟨#[47]⟩ : ByteArray)).bind fun bt213 => (if bt213.2.2 = true then ((zkI.f bt213.2.1).bind fun bt217 => ((bits_Len64.f (IntKind.u64.wrap (bt217.1))).bind fun t219 => (zaB.j0 k a0 bt213.1 0 0 (wrap64 (t219 - 1))))) else (zaB.j0 k a0 bt213.1 0 0 0))
theorem zaB.mono_l : ∀ k, (∀ y0 y1 y2 y3 y4, LeO (zaB.j0 k y0 y1 y2 y3 y4) (zaB.j0 (k + 1) y0 y1 y2 y3 y4))
 | 0 => fun _ _ _ _ _ r h => by simp [zaB.j0] at h
 | k + 1 => by
  have ih0 := zaB.mono_l k
  ·intro y0 y1 y2 y3 y4
   unfold zaB.j0
   repeat' first
   | (with_reducible exact ih0 _ _ _ _ _)
   | (with_reducible exact zjG.mono _ _ _ _)
   | (with_reducible exact LeO.refl _)
   | (with_reducible exact LeO.none _)
   | (with_reducible refine LeO.ite ?_ ?_)
   | (with_reducible refine LeO.bind ?_ (fun _ => ?_))
   | exact ih0 _ _ _ _ _
   | exact zjG.mono _ _ _ _
   | exact LeO.none _
   | refine LeO.ite ?_ ?_
   | refine LeO.bind ?_ (fun _ => ?_)
theorem zaB.mono : ∀ a0 k, LeO (zaB.f k a0) (zaB.f (k + 1) a0) := by
 intro a0 k
 have ih0 := zaB.mono_l k
 unfold zaB.f
 repeat' first
   | (with_reducible exact ih0 _ _ _ _ _)
   | (with_reducible exact zjG.mono _ _ _ _)
   | (with_reducible exact LeO.refl _)
   | (with_reducible exact LeO.none _)
   | (with_reducible refine LeO.ite ?_ ?_)
   | (with_reducible refine LeO.bind ?_ (fun _ => ?_))
   | exact ih0 _ _ _ _ _
   | exact zjG.mono _ _ _ _
   | exact LeO.none _
   | refine LeO.ite ?_ ?_
   | refine LeO.bind ?_ (fun _ => ?_)
theorem zaB.calls (k : Nat) (a0 : ByteArray) (r1 : Int) (r2 : Int) (r3 : Int) (r4 : Bool) (w : World) (hG : LaidV w) (h : zaB.f k a0 = some (r1, r2, r3, r4)) :
  Calls Tryd.prog 8 #[.string a0] w fun e w' => e = .returned (.tuple #[.agg #[.int .i64 r1, .int .i64 r2, .int .i64 r3], .bool r4]) ∧ Below w.heap.size w w' := by
 have hu23 := Tryd.underlying23
 have HB := zpS (Below.refl w.heap.size w)
 have H : ((strings_Cut.f a0 (⟨#[47]⟩ : ByteArray)).bind fun bt213 => (if bt213.2.2 = true then ((zkI.f bt213.2.1).bind fun bt217 => ((bits_Len64.f (IntKind.u64.wrap (bt217.1))).bind fun t219 => (zaB.j0 k a0 bt213.1 0 0 (wrap64 (t219 - 1))))) else (zaB.j0 k a0 bt213.1 0 0 0))) = some (r1, r2, r3, r4) := h
 clear h
 replace H := Option.bind_eq_some_iff.mp H
 obtain ⟨⟨t213, t214, t215⟩, A20, H⟩ := H
 replace H : (if t215 = true then ((zkI.f t214).bind fun bt217 => ((bits_Len64.f (IntKind.u64.wrap (bt217.1))).bind fun t219 => (zaB.j0 k a0 t213 0 0 (wrap64 (t219 - 1))))) else (zaB.j0 k a0 t213 0 0 0)) = some (r1, r2, r3, r4) := H
 have A2 := zpS A20
 clear A20
 have HC3 := zpS H
 clear H
 go_enter Tryd.func8, Tryd.ntmps8
 go_upto_if 16 with (first | ((with_reducible refine zpZ (N := 2) rfl ?_); refine bx_ 2 #[.int .i64 0, .int .i64 0, .int .i64 0] 23 ?_; intro gb212 hg w4 hbox hb; have n0_ := (ns_ hb); have n1_ := zpS (hbox); have n2_ := (ng_ hg); have n3_ := n2_; clear HB; have HB := n0_; have BK212 := n1_; have GW212 := n2_; have GE212 := n3_; clear n0_ n1_ n2_ n3_; clear hb hbox hg) | ((with_reducible refine zgK (f := 22) rfl ?_); refine zqQ (some 12) rfl rfl Tryd.func22 (by kernel_rfl) rfl #[.string a0, .string (⟨#[47]⟩ : ByteArray)] rfl (by (try simp only [List.map_toArray, List.map_cons, List.map_nil]); first | done | rfl | (simp only [List.length_drop, List.length_take]; rfl)) ?_; (with_reducible refine (strings_Cut.calls a0 (⟨#[47]⟩ : ByteArray) t213 t214 t215 _ ?side1 A2.out).mono ?_); (case side1 => exact LaidV.below hG bb_); rintro e w' ⟨rfl, ⟨nd, rfl⟩⟩; refine ⟨_, rfl, ?_⟩) | ((with_reducible refine zpZ (N := 7) rfl ?_); refine bx_ 7 #[.int .i64 0, .int .i64 0, .int .i64 0] 23 ?_; intro gb216 hg w5 hbox hb; have n0_ := zpS (zgM (g := gb212) (o := .cells #[.int .i64 0, .int .i64 0, .int .i64 0] 23 (0, 0)) bk_ hb); have n1_ := (ns_ hb); have n2_ := zpS (hbox); have n3_ := (ng_ hg); have n4_ := n3_; have n5_ := zpS ((by rw [hg]; exact Nat.ne_of_lt (zmN (g := gb212) (o := .cells #[.int .i64 0, .int .i64 0, .int .i64 0] 23 (0, 0)) bk_) : gb212 ≠ gb216)); have n6_ := zpS ((by rw [hg]; exact Nat.ne_of_gt (zmN (g := gb212) (o := .cells #[.int .i64 0, .int .i64 0, .int .i64 0] 23 (0, 0)) bk_) : gb216 ≠ gb212)); clear BK212; clear HB; have BK212 := n0_; have HB := n1_; have BK216 := n2_; have GW216 := n3_; have GE216 := n4_; have NB212_216 := n5_; have NB216_212 := n6_; clear n0_ n1_ n2_ n3_ n4_ n5_ n6_; clear hb hbox hg))
 (try simp only [Act.put, set_a_, set_b_, set_c_])
 go_cut [] (fun wc => ∃ (kq : Nat) (x217002_2 : Int), Aside0 (zaB.j0 kq a0 t213 0 0 x217002_2 = some (r1, r2, r3, r4)) ∧ Aside0 (kq ≤ k) ∧ Aside0 (wc.heap[gb212]? = some (.cells #[.int .i64 0, .int .i64 0, .int .i64 0] 23 (0, 0))) ∧ Aside0 (wc.heap[gb216]? = some (.cells #[.int .i64 0, .int .i64 0, .int .i64 x217002_2] 23 (0, 0))) ∧ Aside0 (Below w.heap.size w wc))
 case first =>
  have H := HC3.out
  clear HC3
  by_cases c6 : t215 = true
  ·subst c6
   have H1 : ((zkI.f t214).bind fun bt217 => ((bits_Len64.f (IntKind.u64.wrap (bt217.1))).bind fun t219 => (zaB.j0 k a0 t213 0 0 (wrap64 (t219 - 1))))) = some (r1, r2, r3, r4) := by rw [if_pos rfl] at H; exact H
   clear H
   have H := H1
   clear H1
   replace H := Option.bind_eq_some_iff.mp H
   obtain ⟨⟨t217, t218⟩, A70, H⟩ := H
   replace H : ((bits_Len64.f (IntKind.u64.wrap (t217))).bind fun t219 => (zaB.j0 k a0 t213 0 0 (wrap64 (t219 - 1)))) = some (r1, r2, r3, r4) := H
   have A7 := zpS A70
   clear A70
   replace H := Option.bind_eq_some_iff.mp H
   obtain ⟨t219, A80, H⟩ := H
   replace H : (zaB.j0 k a0 t213 0 0 (wrap64 (t219 - 1))) = some (r1, r2, r3, r4) := H
   have A8 := zpS A80
   clear A80
   have H' := zpS H
   clear H
   go_wp2_with (first | ((with_reducible refine zgK (f := 23) rfl ?_); refine zqQ (some 19) rfl rfl Tryd.func23 (by kernel_rfl) rfl #[.string t214] rfl (by (try simp only [List.map_toArray, List.map_cons, List.map_nil]); first | done | rfl | (simp only [List.length_drop, List.length_take]; rfl)) ?_; (with_reducible refine (zkI.calls t214 t217 t218 _ ?side1 A7.out).mono ?_); (case side1 => exact LaidV.below hG bb_); rintro e w9 ⟨rfl, hb⟩; refine ⟨_, rfl, ?_⟩; have n0_ := zpS (zgM (g := gb212) (o := .cells #[.int .i64 0, .int .i64 0, .int .i64 0] 23 (0, 0)) bk_ hb); have n1_ := zpS (zgM (g := gb216) (o := .cells #[.int .i64 0, .int .i64 0, .int .i64 0] 23 (0, 0)) bk_ hb); have n2_ := (ns_ hb); clear BK212; clear BK216; clear HB; have BK212 := n0_; have BK216 := n1_; have HB := n2_; clear n0_ n1_ n2_; (try clear hb); (try clear hb2)) | ((with_reducible refine zgK (f := 24) rfl ?_); refine zqQ (some 24) rfl rfl Tryd.func24 (by kernel_rfl) rfl #[.int .u64 (IntKind.u64.wrap (t217))] rfl (by (try simp only [List.map_toArray, List.map_cons, List.map_nil]); first | done | rfl | (simp only [List.length_drop, List.length_take]; rfl)) ?_; (with_reducible refine (bits_Len64.calls (IntKind.u64.wrap (t217)) t219 _ A8.out).mono ?_); rintro e w' ⟨rfl, ⟨nd, rfl⟩⟩; refine ⟨_, rfl, ?_⟩; (try (rw [zxE w9]; generalize hq_ : World.drewN w9 _ = w9; have n0_ : Aside0 (w9.heap[gb212]? = some (.cells #[.int .i64 0, .int .i64 0, .int .i64 0] 23 (0, 0))) := ⟨by rw [← hq_]; exact bk_⟩; have n1_ : Aside0 (w9.heap[gb216]? = some (.cells #[.int .i64 0, .int .i64 0, .int .i64 0] 23 (0, 0))) := ⟨by rw [← hq_]; exact bk_⟩; have n2_ : Aside0 (Below w.heap.size w w9) := ⟨by rw [← hq_]; exact bb_⟩; clear BK212 BK216 HB hq_; have BK212 := n0_; have BK216 := n1_; have HB := n2_; clear n0_ n1_ n2_)); have hnb10 := NB216_212.out; have hnc10 := NB212_216.out; obtain ⟨hcz11_0, hcz11_1, hcz11_2⟩ := zdT BK216.out; obtain ⟨hfz11_0, hfz11_1, hfz11_2⟩ := zqD BK216.out))
   go_meet
   case rel => exact ⟨_, (wrap64 (t219 - 1)), H', ⟨by first | omega | exact Nat.le_refl _⟩, ⟨by (with_reducible repeat (first | apply zuW | apply ztN | apply zqY)); refine znI ?_ NB212_216.out _; (with_reducible repeat (first | apply zuW | apply ztN | apply zqY)); exact BK212.out⟩, ⟨by (with_reducible repeat (first | apply zuW | apply ztN | apply zqY)); refine zlL (cs := #[.int .i64 0, .int .i64 0, .int .i64 0]) ?_ 2 _ rfl; (with_reducible repeat (first | apply zuW | apply ztN | apply zqY)); exact BK216.out⟩, ⟨bb_⟩⟩
  ·replace c6 := Bool.eq_false_iff.mpr c6
   subst c6
   have H1 : (zaB.j0 k a0 t213 0 0 0) = some (r1, r2, r3, r4) := by rw [if_neg (show ¬ (false = true) by decide)] at H; exact H
   clear H
   have H := H1
   clear H1
   have H' := zpS H
   clear H
   go_wp2
   go_meet
   case rel => exact ⟨_, (0), H', ⟨by first | omega | exact Nat.le_refl _⟩, ⟨bk_⟩, ⟨bk_⟩, ⟨bb_⟩⟩
 case rest =>
  clear HC3
  try clear c1
  try clear c2
  try clear p2
  try clear c6
  try clear p6
  try clear c8
  try clear c10
  try clear hcz11_0
  try clear hcz11_1
  try clear hcz11_2
  try clear hfz11_0
  try clear hfz11_1
  try clear hfz11_2
  obtain ⟨kq, x217002_2, HA, HJ2, BK212, BK216, HB⟩ := hcut
  cases kq with
  | zero => exact absurd HA.out (by simp [zaB.j0])
  | succ kj2 =>
   have H := HA.out
   clear HA
   simp only [zaB.j0] at H
   replace H := Option.bind_eq_some_iff.mp H
   obtain ⟨t220, A120, H⟩ := H
   replace H : ((ziM.f t220 (⟨#[41]⟩ : ByteArray)).bind fun t221 => ((zsS.f t221).bind fun bt222 => ((zdR.f bt222.1 bt222.2 x217002_2).bind fun t224 => (if t224 = true then ((zjG.f kj2 bt222.1 bt222.2 x217002_2).bind fun t225 => (if t225.toList = a0.toList then (some (bt222.1, bt222.2, x217002_2, true)) else (some (0, 0, 0, false)))) else (some (0, 0, 0, false)))))) = some (r1, r2, r3, r4) := H
   have A12 := zpS A120
   clear A120
   replace H := Option.bind_eq_some_iff.mp H
   obtain ⟨t221, A130, H⟩ := H
   replace H : ((zsS.f t221).bind fun bt222 => ((zdR.f bt222.1 bt222.2 x217002_2).bind fun t224 => (if t224 = true then ((zjG.f kj2 bt222.1 bt222.2 x217002_2).bind fun t225 => (if t225.toList = a0.toList then (some (bt222.1, bt222.2, x217002_2, true)) else (some (0, 0, 0, false)))) else (some (0, 0, 0, false))))) = some (r1, r2, r3, r4) := H
   have A13 := zpS A130
   clear A130
   replace H := Option.bind_eq_some_iff.mp H
   obtain ⟨⟨t222, t223⟩, A140, H⟩ := H
   replace H : ((zdR.f t222 t223 x217002_2).bind fun t224 => (if t224 = true then ((zjG.f kj2 t222 t223 x217002_2).bind fun t225 => (if t225.toList = a0.toList then (some (t222, t223, x217002_2, true)) else (some (0, 0, 0, false)))) else (some (0, 0, 0, false)))) = some (r1, r2, r3, r4) := H
   have A14 := zpS A140
   clear A140
   replace H := Option.bind_eq_some_iff.mp H
   obtain ⟨t224, A150, H⟩ := H
   replace H : (if t224 = true then ((zjG.f kj2 t222 t223 x217002_2).bind fun t225 => (if t225.toList = a0.toList then (some (t222, t223, x217002_2, true)) else (some (0, 0, 0, false)))) else (some (0, 0, 0, false))) = some (r1, r2, r3, r4) := H
   have A15 := zpS A150
   clear A150
   by_cases c16 : t224 = true
   ·subst c16
    have H1 : ((zjG.f kj2 t222 t223 x217002_2).bind fun t225 => (if t225.toList = a0.toList then (some (t222, t223, x217002_2, true)) else (some (0, 0, 0, false)))) = some (r1, r2, r3, r4) := by rw [if_pos rfl] at H; exact H
    clear H
    have H := H1
    clear H1
    replace H := Option.bind_eq_some_iff.mp H
    obtain ⟨t225, A170, H⟩ := H
    replace H : (if t225.toList = a0.toList then (some (t222, t223, x217002_2, true)) else (some (0, 0, 0, false))) = some (r1, r2, r3, r4) := H
    have A17 := zpS A170
    clear A170
    by_cases c18 : t225.toList = a0.toList
    ·rw [if_pos c18] at H
     have c18b0 : (t225.toList == a0.toList) = true := beq_iff_eq.mpr c18
     have c18b1 : (t225.toList != a0.toList) = false := bne_eq_false_iff_eq.mpr c18
     clear c18
     simp only [Option.some.injEq, Prod.mk.injEq] at H
     obtain ⟨rfl, rfl, rfl, rfl⟩ := H
     go_wp2_with (first | ((with_reducible refine zgK (f := 27) rfl ?_); refine zqQ (some 29) rfl rfl Tryd.func27 (by kernel_rfl) rfl #[.string t213, .string (⟨#[40]⟩ : ByteArray)] rfl (by (try simp only [List.map_toArray, List.map_cons, List.map_nil]); first | done | rfl | (simp only [List.length_drop, List.length_take]; rfl)) ?_; (with_reducible refine (zjE.calls t213 (⟨#[40]⟩ : ByteArray) t220 _ A12.out).mono ?_); rintro e w' ⟨rfl, ⟨nd, rfl⟩⟩; refine ⟨_, rfl, ?_⟩; (try (rw [zxE wc]; generalize hq_ : World.drewN wc _ = wc; have n0_ : Aside0 (wc.heap[gb212]? = some (.cells #[.int .i64 0, .int .i64 0, .int .i64 0] 23 (0, 0))) := ⟨by rw [← hq_]; exact bk_⟩; have n1_ : Aside0 (wc.heap[gb216]? = some (.cells #[.int .i64 0, .int .i64 0, .int .i64 x217002_2] 23 (0, 0))) := ⟨by rw [← hq_]; exact bk_⟩; have n2_ : Aside0 (Below w.heap.size w wc) := ⟨by rw [← hq_]; exact bb_⟩; clear BK212 BK216 HB hq_; have BK212 := n0_; have BK216 := n1_; have HB := n2_; clear n0_ n1_ n2_))) | ((with_reducible refine zgK (f := 26) rfl ?_); refine zqQ (some 30) rfl rfl Tryd.func26 (by kernel_rfl) rfl #[.string t220, .string (⟨#[41]⟩ : ByteArray)] rfl (by (try simp only [List.map_toArray, List.map_cons, List.map_nil]); first | done | rfl | (simp only [List.length_drop, List.length_take]; rfl)) ?_; (with_reducible refine (ziM.calls t220 (⟨#[41]⟩ : ByteArray) t221 _ A13.out).mono ?_); rintro e w' ⟨rfl, ⟨nd, rfl⟩⟩; refine ⟨_, rfl, ?_⟩; (try (rw [zxE wc]; generalize hq_ : World.drewN wc _ = wc; have n0_ : Aside0 (wc.heap[gb212]? = some (.cells #[.int .i64 0, .int .i64 0, .int .i64 0] 23 (0, 0))) := ⟨by rw [← hq_]; exact bk_⟩; have n1_ : Aside0 (wc.heap[gb216]? = some (.cells #[.int .i64 0, .int .i64 0, .int .i64 x217002_2] 23 (0, 0))) := ⟨by rw [← hq_]; exact bk_⟩; have n2_ : Aside0 (Below w.heap.size w wc) := ⟨by rw [← hq_]; exact bb_⟩; clear BK212 BK216 HB hq_; have BK212 := n0_; have BK216 := n1_; have HB := n2_; clear n0_ n1_ n2_))) | ((with_reducible refine zgK (f := 25) rfl ?_); refine zqQ (some 31) rfl rfl Tryd.func25 (by kernel_rfl) rfl #[.string t221] rfl (by (try simp only [List.map_toArray, List.map_cons, List.map_nil]); first | done | rfl | (simp only [List.length_drop, List.length_take]; rfl)) ?_; (with_reducible refine (zsS.calls t221 t222 t223 _ ?side1 A14.out).mono ?_); (case side1 => exact LaidV.below hG bb_); rintro e w19 ⟨rfl, hb⟩; refine ⟨_, rfl, ?_⟩; have n0_ := zpS (zgM (g := gb212) (o := .cells #[.int .i64 0, .int .i64 0, .int .i64 0] 23 (0, 0)) bk_ hb); have n1_ := zpS (zgM (g := gb216) (o := .cells #[.int .i64 0, .int .i64 0, .int .i64 x217002_2] 23 (0, 0)) bk_ hb); have n2_ := (ns_ hb); clear BK212; clear BK216; clear HB; have BK212 := n0_; have BK216 := n1_; have HB := n2_; clear n0_ n1_ n2_; (try clear hb); (try clear hb2); have hnb20 := NB216_212.out; have hnc20 := NB212_216.out; obtain ⟨hcz21_0, hcz21_1, hcz21_2⟩ := zdT BK216.out; obtain ⟨hfz21_0, hfz21_1, hfz21_2⟩ := zqD BK216.out) | ((with_reducible refine zgK (f := 28) rfl ?_); refine zqQ (some 37) rfl rfl Tryd.func28 (by kernel_rfl) rfl #[.agg #[.int .i64 t222, .int .i64 t223, .int .i64 x217002_2]] rfl (by (try simp only [List.map_toArray, List.map_cons, List.map_nil]); first | done | rfl | (simp only [List.length_drop, List.length_take]; rfl)) ?_; (with_reducible refine (zdR.calls t222 t223 x217002_2 true _ A15.out).mono ?_); rintro e w22 ⟨rfl, hb⟩; refine ⟨_, rfl, ?_⟩; have n0_ := zpS (zgM (g := gb212) (o := .cells #[.int .i64 0, .int .i64 0, .int .i64 0] 23 (0, 0)) (by (with_reducible repeat (first | apply zuW | apply ztN | apply zqY)); refine znI ?_ NB212_216.out _; (with_reducible repeat (first | apply zuW | apply ztN | apply zqY)); refine znI ?_ NB212_216.out _; (with_reducible repeat (first | apply zuW | apply ztN | apply zqY)); exact BK212.out) hb); have n1_ := zpS (zgM (g := gb216) (o := .cells #[.int .i64 t222, .int .i64 t223, .int .i64 x217002_2] 23 (0, 0)) (by (with_reducible repeat (first | apply zuW | apply ztN | apply zqY)); refine zlL (cs := #[.int .i64 t222, .int .i64 0, .int .i64 x217002_2]) ?_ 1 _ rfl; (with_reducible repeat (first | apply zuW | apply ztN | apply zqY)); refine zlL (cs := #[.int .i64 0, .int .i64 0, .int .i64 x217002_2]) ?_ 0 _ rfl; (with_reducible repeat (first | apply zuW | apply ztN | apply zqY)); exact BK216.out) hb); have n2_ := (ns_ hb); clear BK212; clear BK216; clear HB; have BK212 := n0_; have BK216 := n1_; have HB := n2_; clear n0_ n1_ n2_; (try clear hb); (try clear hb2); obtain ⟨hcz23_0, hcz23_1, hcz23_2⟩ := zdT BK216.out; obtain ⟨hfz23_0, hfz23_1, hfz23_2⟩ := zqD BK216.out) | (go_at_call 29; (with_reducible refine (zjG.calls kj2 t222 t223 x217002_2 t225 _ ?side1 A17.out).mono ?_); (case side1 => exact LaidV.below hG bb_); rintro e w24 ⟨rfl, hb⟩; have n0_ := zpS (zgM (g := gb212) (o := .cells #[.int .i64 0, .int .i64 0, .int .i64 0] 23 (0, 0)) bk_ hb); have n1_ := zpS (zgM (g := gb216) (o := .cells #[.int .i64 t222, .int .i64 t223, .int .i64 x217002_2] 23 (0, 0)) bk_ hb); have n2_ := (ns_ hb); clear BK212; clear BK216; clear HB; have BK212 := n0_; have BK216 := n1_; have HB := n2_; clear n0_ n1_ n2_; (try clear hb); (try clear hb2); obtain ⟨hcz25_0, hcz25_1, hcz25_2⟩ := zdT BK216.out; obtain ⟨hfz25_0, hfz25_1, hfz25_2⟩ := zqD BK216.out; obtain ⟨hcz26_0, hcz26_1, hcz26_2⟩ := zdT BK212.out; obtain ⟨hfz26_0, hfz26_1, hfz26_2⟩ := zqD BK212.out))
     refine bodyPost_ret (zzB rfl _ _ gb212 23 #[.int .i64 t222, .int .i64 t223, .int .i64 x217002_2] (0, 0) _ rfl (by (with_reducible repeat (first | apply zuW | apply ztN | apply zqY)); refine zlL (cs := #[.int .i64 t222, .int .i64 t223, .int .i64 0]) ?_ 2 _ rfl; (with_reducible repeat (first | apply zuW | apply ztN | apply zqY)); refine zlL (cs := #[.int .i64 t222, .int .i64 0, .int .i64 0]) ?_ 1 _ rfl; (with_reducible repeat (first | apply zuW | apply ztN | apply zqY)); refine zlL (cs := #[.int .i64 0, .int .i64 0, .int .i64 0]) ?_ 0 _ rfl; (with_reducible repeat (first | apply zuW | apply ztN | apply zqY)); exact BK212.out) Tryd.underlying23 rfl (by kernel_rfl)) rfl ?_
     exact ⟨by first | rfl | (simp [ziS, znJ] <;> rfl) | (simp [*, ziS, znJ] <;> rfl), bb_⟩
    ·rw [if_neg c18] at H
     have c18b0 : (t225.toList == a0.toList) = false := beq_eq_false_iff_ne.mpr c18
     have c18b1 : (t225.toList != a0.toList) = true := bne_iff_ne.mpr c18
     simp only [Option.some.injEq, Prod.mk.injEq] at H
     obtain ⟨rfl, rfl, rfl, rfl⟩ := H
     go_wp2_with (first | ((with_reducible refine zgK (f := 27) rfl ?_); refine zqQ (some 29) rfl rfl Tryd.func27 (by kernel_rfl) rfl #[.string t213, .string (⟨#[40]⟩ : ByteArray)] rfl (by (try simp only [List.map_toArray, List.map_cons, List.map_nil]); first | done | rfl | (simp only [List.length_drop, List.length_take]; rfl)) ?_; (with_reducible refine (zjE.calls t213 (⟨#[40]⟩ : ByteArray) t220 _ A12.out).mono ?_); rintro e w' ⟨rfl, ⟨nd, rfl⟩⟩; refine ⟨_, rfl, ?_⟩; (try (rw [zxE wc]; generalize hq_ : World.drewN wc _ = wc; have n0_ : Aside0 (wc.heap[gb212]? = some (.cells #[.int .i64 0, .int .i64 0, .int .i64 0] 23 (0, 0))) := ⟨by rw [← hq_]; exact bk_⟩; have n1_ : Aside0 (wc.heap[gb216]? = some (.cells #[.int .i64 0, .int .i64 0, .int .i64 x217002_2] 23 (0, 0))) := ⟨by rw [← hq_]; exact bk_⟩; have n2_ : Aside0 (Below w.heap.size w wc) := ⟨by rw [← hq_]; exact bb_⟩; clear BK212 BK216 HB hq_; have BK212 := n0_; have BK216 := n1_; have HB := n2_; clear n0_ n1_ n2_))) | ((with_reducible refine zgK (f := 26) rfl ?_); refine zqQ (some 30) rfl rfl Tryd.func26 (by kernel_rfl) rfl #[.string t220, .string (⟨#[41]⟩ : ByteArray)] rfl (by (try simp only [List.map_toArray, List.map_cons, List.map_nil]); first | done | rfl | (simp only [List.length_drop, List.length_take]; rfl)) ?_; (with_reducible refine (ziM.calls t220 (⟨#[41]⟩ : ByteArray) t221 _ A13.out).mono ?_); rintro e w' ⟨rfl, ⟨nd, rfl⟩⟩; refine ⟨_, rfl, ?_⟩; (try (rw [zxE wc]; generalize hq_ : World.drewN wc _ = wc; have n0_ : Aside0 (wc.heap[gb212]? = some (.cells #[.int .i64 0, .int .i64 0, .int .i64 0] 23 (0, 0))) := ⟨by rw [← hq_]; exact bk_⟩; have n1_ : Aside0 (wc.heap[gb216]? = some (.cells #[.int .i64 0, .int .i64 0, .int .i64 x217002_2] 23 (0, 0))) := ⟨by rw [← hq_]; exact bk_⟩; have n2_ : Aside0 (Below w.heap.size w wc) := ⟨by rw [← hq_]; exact bb_⟩; clear BK212 BK216 HB hq_; have BK212 := n0_; have BK216 := n1_; have HB := n2_; clear n0_ n1_ n2_))) | ((with_reducible refine zgK (f := 25) rfl ?_); refine zqQ (some 31) rfl rfl Tryd.func25 (by kernel_rfl) rfl #[.string t221] rfl (by (try simp only [List.map_toArray, List.map_cons, List.map_nil]); first | done | rfl | (simp only [List.length_drop, List.length_take]; rfl)) ?_; (with_reducible refine (zsS.calls t221 t222 t223 _ ?side1 A14.out).mono ?_); (case side1 => exact LaidV.below hG bb_); rintro e w27 ⟨rfl, hb⟩; refine ⟨_, rfl, ?_⟩; have n0_ := zpS (zgM (g := gb212) (o := .cells #[.int .i64 0, .int .i64 0, .int .i64 0] 23 (0, 0)) bk_ hb); have n1_ := zpS (zgM (g := gb216) (o := .cells #[.int .i64 0, .int .i64 0, .int .i64 x217002_2] 23 (0, 0)) bk_ hb); have n2_ := (ns_ hb); clear BK212; clear BK216; clear HB; have BK212 := n0_; have BK216 := n1_; have HB := n2_; clear n0_ n1_ n2_; (try clear hb); (try clear hb2); have hnb28 := NB216_212.out; have hnc28 := NB212_216.out; obtain ⟨hcz29_0, hcz29_1, hcz29_2⟩ := zdT BK216.out; obtain ⟨hfz29_0, hfz29_1, hfz29_2⟩ := zqD BK216.out) | ((with_reducible refine zgK (f := 28) rfl ?_); refine zqQ (some 37) rfl rfl Tryd.func28 (by kernel_rfl) rfl #[.agg #[.int .i64 t222, .int .i64 t223, .int .i64 x217002_2]] rfl (by (try simp only [List.map_toArray, List.map_cons, List.map_nil]); first | done | rfl | (simp only [List.length_drop, List.length_take]; rfl)) ?_; (with_reducible refine (zdR.calls t222 t223 x217002_2 true _ A15.out).mono ?_); rintro e w30 ⟨rfl, hb⟩; refine ⟨_, rfl, ?_⟩; have n0_ := zpS (zgM (g := gb212) (o := .cells #[.int .i64 0, .int .i64 0, .int .i64 0] 23 (0, 0)) (by (with_reducible repeat (first | apply zuW | apply ztN | apply zqY)); refine znI ?_ NB212_216.out _; (with_reducible repeat (first | apply zuW | apply ztN | apply zqY)); refine znI ?_ NB212_216.out _; (with_reducible repeat (first | apply zuW | apply ztN | apply zqY)); exact BK212.out) hb); have n1_ := zpS (zgM (g := gb216) (o := .cells #[.int .i64 t222, .int .i64 t223, .int .i64 x217002_2] 23 (0, 0)) (by (with_reducible repeat (first | apply zuW | apply ztN | apply zqY)); refine zlL (cs := #[.int .i64 t222, .int .i64 0, .int .i64 x217002_2]) ?_ 1 _ rfl; (with_reducible repeat (first | apply zuW | apply ztN | apply zqY)); refine zlL (cs := #[.int .i64 0, .int .i64 0, .int .i64 x217002_2]) ?_ 0 _ rfl; (with_reducible repeat (first | apply zuW | apply ztN | apply zqY)); exact BK216.out) hb); have n2_ := (ns_ hb); clear BK212; clear BK216; clear HB; have BK212 := n0_; have BK216 := n1_; have HB := n2_; clear n0_ n1_ n2_; (try clear hb); (try clear hb2); obtain ⟨hcz31_0, hcz31_1, hcz31_2⟩ := zdT BK216.out; obtain ⟨hfz31_0, hfz31_1, hfz31_2⟩ := zqD BK216.out) | (go_at_call 29; (with_reducible refine (zjG.calls kj2 t222 t223 x217002_2 t225 _ ?side1 A17.out).mono ?_); (case side1 => exact LaidV.below hG bb_); rintro e w32 ⟨rfl, hb⟩; have n0_ := zpS (zgM (g := gb212) (o := .cells #[.int .i64 0, .int .i64 0, .int .i64 0] 23 (0, 0)) bk_ hb); have n1_ := zpS (zgM (g := gb216) (o := .cells #[.int .i64 t222, .int .i64 t223, .int .i64 x217002_2] 23 (0, 0)) bk_ hb); have n2_ := (ns_ hb); clear BK212; clear BK216; clear HB; have BK212 := n0_; have BK216 := n1_; have HB := n2_; clear n0_ n1_ n2_; (try clear hb); (try clear hb2); obtain ⟨hcz33_0, hcz33_1, hcz33_2⟩ := zdT BK212.out; obtain ⟨hfz33_0, hfz33_1, hfz33_2⟩ := zqD BK212.out))
     refine bodyPost_ret (zzB rfl _ _ gb212 23 #[.int .i64 0, .int .i64 0, .int .i64 0] (0, 0) _ rfl (by (with_reducible repeat (first | apply zuW | apply ztN | apply zqY)); refine zlL (cs := #[.int .i64 0, .int .i64 0, .int .i64 0]) ?_ 2 _ rfl; (with_reducible repeat (first | apply zuW | apply ztN | apply zqY)); refine zlL (cs := #[.int .i64 0, .int .i64 0, .int .i64 0]) ?_ 1 _ rfl; (with_reducible repeat (first | apply zuW | apply ztN | apply zqY)); refine zlL (cs := #[.int .i64 0, .int .i64 0, .int .i64 0]) ?_ 0 _ rfl; (with_reducible repeat (first | apply zuW | apply ztN | apply zqY)); exact BK212.out) Tryd.underlying23 rfl (by kernel_rfl)) rfl ?_
     exact ⟨by first | rfl | (simp [ziS, znJ] <;> rfl) | (simp [*, ziS, znJ] <;> rfl), bb_⟩
   ·replace c16 := Bool.eq_false_iff.mpr c16
    subst c16
    have H1 : (some (0, 0, 0, false)) = some (r1, r2, r3, r4) := by rw [if_neg (show ¬ (false = true) by decide)] at H; exact H
    clear H
    have H := H1
    clear H1
    simp only [Option.some.injEq, Prod.mk.injEq] at H
    obtain ⟨rfl, rfl, rfl, rfl⟩ := H
    go_wp2_with (first | ((with_reducible refine zgK (f := 27) rfl ?_); refine zqQ (some 29) rfl rfl Tryd.func27 (by kernel_rfl) rfl #[.string t213, .string (⟨#[40]⟩ : ByteArray)] rfl (by (try simp only [List.map_toArray, List.map_cons, List.map_nil]); first | done | rfl | (simp only [List.length_drop, List.length_take]; rfl)) ?_; (with_reducible refine (zjE.calls t213 (⟨#[40]⟩ : ByteArray) t220 _ A12.out).mono ?_); rintro e w' ⟨rfl, ⟨nd, rfl⟩⟩; refine ⟨_, rfl, ?_⟩; (try (rw [zxE wc]; generalize hq_ : World.drewN wc _ = wc; have n0_ : Aside0 (wc.heap[gb212]? = some (.cells #[.int .i64 0, .int .i64 0, .int .i64 0] 23 (0, 0))) := ⟨by rw [← hq_]; exact bk_⟩; have n1_ : Aside0 (wc.heap[gb216]? = some (.cells #[.int .i64 0, .int .i64 0, .int .i64 x217002_2] 23 (0, 0))) := ⟨by rw [← hq_]; exact bk_⟩; have n2_ : Aside0 (Below w.heap.size w wc) := ⟨by rw [← hq_]; exact bb_⟩; clear BK212 BK216 HB hq_; have BK212 := n0_; have BK216 := n1_; have HB := n2_; clear n0_ n1_ n2_))) | ((with_reducible refine zgK (f := 26) rfl ?_); refine zqQ (some 30) rfl rfl Tryd.func26 (by kernel_rfl) rfl #[.string t220, .string (⟨#[41]⟩ : ByteArray)] rfl (by (try simp only [List.map_toArray, List.map_cons, List.map_nil]); first | done | rfl | (simp only [List.length_drop, List.length_take]; rfl)) ?_; (with_reducible refine (ziM.calls t220 (⟨#[41]⟩ : ByteArray) t221 _ A13.out).mono ?_); rintro e w' ⟨rfl, ⟨nd, rfl⟩⟩; refine ⟨_, rfl, ?_⟩; (try (rw [zxE wc]; generalize hq_ : World.drewN wc _ = wc; have n0_ : Aside0 (wc.heap[gb212]? = some (.cells #[.int .i64 0, .int .i64 0, .int .i64 0] 23 (0, 0))) := ⟨by rw [← hq_]; exact bk_⟩; have n1_ : Aside0 (wc.heap[gb216]? = some (.cells #[.int .i64 0, .int .i64 0, .int .i64 x217002_2] 23 (0, 0))) := ⟨by rw [← hq_]; exact bk_⟩; have n2_ : Aside0 (Below w.heap.size w wc) := ⟨by rw [← hq_]; exact bb_⟩; clear BK212 BK216 HB hq_; have BK212 := n0_; have BK216 := n1_; have HB := n2_; clear n0_ n1_ n2_))) | ((with_reducible refine zgK (f := 25) rfl ?_); refine zqQ (some 31) rfl rfl Tryd.func25 (by kernel_rfl) rfl #[.string t221] rfl (by (try simp only [List.map_toArray, List.map_cons, List.map_nil]); first | done | rfl | (simp only [List.length_drop, List.length_take]; rfl)) ?_; (with_reducible refine (zsS.calls t221 t222 t223 _ ?side1 A14.out).mono ?_); (case side1 => exact LaidV.below hG bb_); rintro e w34 ⟨rfl, hb⟩; refine ⟨_, rfl, ?_⟩; have n0_ := zpS (zgM (g := gb212) (o := .cells #[.int .i64 0, .int .i64 0, .int .i64 0] 23 (0, 0)) bk_ hb); have n1_ := zpS (zgM (g := gb216) (o := .cells #[.int .i64 0, .int .i64 0, .int .i64 x217002_2] 23 (0, 0)) bk_ hb); have n2_ := (ns_ hb); clear BK212; clear BK216; clear HB; have BK212 := n0_; have BK216 := n1_; have HB := n2_; clear n0_ n1_ n2_; (try clear hb); (try clear hb2); have hnb35 := NB216_212.out; have hnc35 := NB212_216.out; obtain ⟨hcz36_0, hcz36_1, hcz36_2⟩ := zdT BK216.out; obtain ⟨hfz36_0, hfz36_1, hfz36_2⟩ := zqD BK216.out) | ((with_reducible refine zgK (f := 28) rfl ?_); refine zqQ (some 37) rfl rfl Tryd.func28 (by kernel_rfl) rfl #[.agg #[.int .i64 t222, .int .i64 t223, .int .i64 x217002_2]] rfl (by (try simp only [List.map_toArray, List.map_cons, List.map_nil]); first | done | rfl | (simp only [List.length_drop, List.length_take]; rfl)) ?_; (with_reducible refine (zdR.calls t222 t223 x217002_2 false _ A15.out).mono ?_); rintro e w37 ⟨rfl, hb⟩; refine ⟨_, rfl, ?_⟩; have n0_ := zpS (zgM (g := gb212) (o := .cells #[.int .i64 0, .int .i64 0, .int .i64 0] 23 (0, 0)) (by (with_reducible repeat (first | apply zuW | apply ztN | apply zqY)); refine znI ?_ NB212_216.out _; (with_reducible repeat (first | apply zuW | apply ztN | apply zqY)); refine znI ?_ NB212_216.out _; (with_reducible repeat (first | apply zuW | apply ztN | apply zqY)); exact BK212.out) hb); have n1_ := zpS (zgM (g := gb216) (o := .cells #[.int .i64 t222, .int .i64 t223, .int .i64 x217002_2] 23 (0, 0)) (by (with_reducible repeat (first | apply zuW | apply ztN | apply zqY)); refine zlL (cs := #[.int .i64 t222, .int .i64 0, .int .i64 x217002_2]) ?_ 1 _ rfl; (with_reducible repeat (first | apply zuW | apply ztN | apply zqY)); refine zlL (cs := #[.int .i64 0, .int .i64 0, .int .i64 x217002_2]) ?_ 0 _ rfl; (with_reducible repeat (first | apply zuW | apply ztN | apply zqY)); exact BK216.out) hb); have n2_ := (ns_ hb); clear BK212; clear BK216; clear HB; have BK212 := n0_; have BK216 := n1_; have HB := n2_; clear n0_ n1_ n2_; (try clear hb); (try clear hb2); obtain ⟨hcz38_0, hcz38_1, hcz38_2⟩ := zdT BK212.out; obtain ⟨hfz38_0, hfz38_1, hfz38_2⟩ := zqD BK212.out))
    refine bodyPost_ret (zzB rfl _ _ gb212 23 #[.int .i64 0, .int .i64 0, .int .i64 0] (0, 0) _ rfl (by (with_reducible repeat (first | apply zuW | apply ztN | apply zqY)); refine zlL (cs := #[.int .i64 0, .int .i64 0, .int .i64 0]) ?_ 2 _ rfl; (with_reducible repeat (first | apply zuW | apply ztN | apply zqY)); refine zlL (cs := #[.int .i64 0, .int .i64 0, .int .i64 0]) ?_ 1 _ rfl; (with_reducible repeat (first | apply zuW | apply ztN | apply zqY)); refine zlL (cs := #[.int .i64 0, .int .i64 0, .int .i64 0]) ?_ 0 _ rfl; (with_reducible repeat (first | apply zuW | apply ztN | apply zqY)); exact BK212.out) Tryd.underlying23 rfl (by kernel_rfl)) rfl ?_
    exact ⟨by first | rfl | (simp [ziS, znJ] <;> rfl) | (simp [*, ziS, znJ] <;> rfl), bb_⟩

def stringslite_CutPrefix.f (a0 : ByteArray) (a1 : ByteArray) : Option (ByteArray × Bool) := (stringslite_HasPrefix.f a0 a1).bind fun t226 => (if t226 = true then (if 0 ≤ (a1.size : Int) then (if (a1.size : Int) ≤ (a0.size : Int) then (some (a0.extract ((a1.size : Int) : Int).toNat a0.size, true)) else (none)) else (none)) else (some (a0, false)))
theorem stringslite_CutPrefix.calls (a0 : ByteArray) (a1 : ByteArray) (r1 : ByteArray) (r2 : Bool) (w : World) (h : stringslite_CutPrefix.f a0 a1 = some (r1, r2)) :
  Calls Tryd.prog 48 #[.string a0, .string a1] w fun e w' => e = .returned (.tuple #[.string r1, .bool r2]) ∧ Drawn0 w w' := by
 have H : ((stringslite_HasPrefix.f a0 a1).bind fun t226 => (if t226 = true then (if 0 ≤ (a1.size : Int) then (if (a1.size : Int) ≤ (a0.size : Int) then (some (a0.extract ((a1.size : Int) : Int).toNat a0.size, true)) else (none)) else (none)) else (some (a0, false)))) = some (r1, r2) := h
 clear h
 replace H := Option.bind_eq_some_iff.mp H
 obtain ⟨t226, A30, H⟩ := H
 replace H : (if t226 = true then (if 0 ≤ (a1.size : Int) then (if (a1.size : Int) ≤ (a0.size : Int) then (some (a0.extract ((a1.size : Int) : Int).toNat a0.size, true)) else (none)) else (none)) else (some (a0, false))) = some (r1, r2) := H
 have A3 := zpS A30
 clear A30
 by_cases c4 : t226 = true
 ·subst c4
  have H1 : (if 0 ≤ (a1.size : Int) then (if (a1.size : Int) ≤ (a0.size : Int) then (some (a0.extract ((a1.size : Int) : Int).toNat a0.size, true)) else (none)) else (none)) = some (r1, r2) := by rw [if_pos rfl] at H; exact H
  clear H
  have H := H1
  clear H1
  by_cases c5 : 0 ≤ (a1.size : Int)
  ·rw [if_pos c5] at H
   have c5b0 := eq_true c5
   have c5b1 : decide (0 ≤ (a1.size : Int)) = true := decide_eq_true c5
   clear c5
   by_cases c6 : (a1.size : Int) ≤ (a0.size : Int)
   ·rw [if_pos c6] at H
    have c6b0 := eq_true c6
    have c6b1 : decide ((a1.size : Int) ≤ (a0.size : Int)) = true := decide_eq_true c6
    clear c6
    simp only [Option.some.injEq, Prod.mk.injEq] at H
    obtain ⟨rfl, rfl⟩ := H
    go_enter Tryd.func48, Tryd.ntmps48
    go_wp2_with (first | ((with_reducible refine zgK (f := 63) rfl ?_); refine zqQ (some 8) rfl rfl Tryd.func63 (by kernel_rfl) rfl #[.string a0, .string a1] rfl (by (try simp only [List.map_toArray, List.map_cons, List.map_nil]); first | done | rfl | (simp only [List.length_drop, List.length_take]; rfl)) ?_; (with_reducible refine (stringslite_HasPrefix.calls a0 a1 true _ A3.out).mono ?_); rintro e w' ⟨rfl, ⟨nd, rfl⟩⟩; refine ⟨_, rfl, ?_⟩))
    go_ret2
    exact ⟨by first | rfl | (simp; done) | (simp [*]; done), by repeat (first | exact Drawn0.refl _ | apply Drawn0.step)⟩
   ·rw [if_neg c6] at H
    exact absurd H (by simp)
  ·rw [if_neg c5] at H
   exact absurd H (by simp)
 ·replace c4 := Bool.eq_false_iff.mpr c4
  subst c4
  have H1 : (some (a0, false)) = some (r1, r2) := by rw [if_neg (show ¬ (false = true) by decide)] at H; exact H
  clear H
  have H := H1
  clear H1
  simp only [Option.some.injEq, Prod.mk.injEq] at H
  obtain ⟨rfl, rfl⟩ := H
  go_enter Tryd.func48, Tryd.ntmps48
  go_wp2_with (first | ((with_reducible refine zgK (f := 63) rfl ?_); refine zqQ (some 8) rfl rfl Tryd.func63 (by kernel_rfl) rfl #[.string a0, .string a1] rfl (by (try simp only [List.map_toArray, List.map_cons, List.map_nil]); first | done | rfl | (simp only [List.length_drop, List.length_take]; rfl)) ?_; (with_reducible refine (stringslite_HasPrefix.calls a0 a1 false _ A3.out).mono ?_); rintro e w' ⟨rfl, ⟨nd, rfl⟩⟩; refine ⟨_, rfl, ?_⟩))
  go_ret2
  exact ⟨by first | rfl | (simp; done) | (simp [*]; done), by repeat (first | exact Drawn0.refl _ | apply Drawn0.step)⟩

def zvO.f (a0 : ByteArray) (a1 : ByteArray) : Option (ByteArray × Bool) := (stringslite_CutPrefix.f a0 a1).bind fun bt227 => (some (bt227.1, bt227.2))
theorem zvO.calls (a0 : ByteArray) (a1 : ByteArray) (r1 : ByteArray) (r2 : Bool) (w : World) (h : zvO.f a0 a1 = some (r1, r2)) :
  Calls Tryd.prog 33 #[.string a0, .string a1] w fun e w' => e = .returned (.tuple #[.string r1, .bool r2]) ∧ Drawn0 w w' := by
 have H : ((stringslite_CutPrefix.f a0 a1).bind fun bt227 => (some (bt227.1, bt227.2))) = some (r1, r2) := h
 clear h
 replace H := Option.bind_eq_some_iff.mp H
 obtain ⟨⟨t227, t228⟩, A30, H⟩ := H
 replace H : (some (t227, t228)) = some (r1, r2) := H
 have A3 := zpS A30
 clear A30
 simp only [Option.some.injEq, Prod.mk.injEq] at H
 obtain ⟨rfl, rfl⟩ := H
 go_enter Tryd.func33, Tryd.ntmps33
 go_wp2_with (first | ((with_reducible refine zgK (f := 48) rfl ?_); refine zqQ (some 8) rfl rfl Tryd.func48 (by kernel_rfl) rfl #[.string a0, .string a1] rfl (by (try simp only [List.map_toArray, List.map_cons, List.map_nil]); first | done | rfl | (simp only [List.length_drop, List.length_take]; rfl)) ?_; (with_reducible refine (stringslite_CutPrefix.calls a0 a1 t227 t228 _ A3.out).mono ?_); rintro e w' ⟨rfl, ⟨nd, rfl⟩⟩; refine ⟨_, rfl, ?_⟩))
 go_ret2
 exact ⟨by first | rfl | (simp; done) | (simp [*]; done), by repeat (first | exact Drawn0.refl _ | apply Drawn0.step)⟩

end Go.Proofs.YtbkcmdccomngnaaDoor.PFnExactReadMotion
