-- Printed for this claim by this session's program pp.py, which drives the kit's print with additions. Not trusted: Lean checks it.
import Derived.Test.YtbkcmdccomngnaaDoorV4PFnExactReadMotionx0
import Derived.Test.YtbkcmdccomngnaaDoorV4PFnExactReadMotionx2
import Derived.Test.YtbkcmdccomngnaaDoorV4PFnExactReadMotionx3
namespace Go.Proofs.YtbkcmdccomngnaaDoor.PFnExactReadMotion
open Go.RowKit Go.Proofs.YtbkcmdccomngnaaDoorW.PrintWords Go.Proofs.YtbkcmdccomngnaaDoorW.PrintLast Go.Proofs.YtbkcmdccomngnaaDoorW.PrintMore
attribute [local go_sem] zbB ziA zrC zhD znE zuA znK zkT   -- for this text's walks alone
set_option linter.unusedVariables false
set_option maxHeartbeats 8000000
set_option maxRecDepth 100000
set_option linter.unusedSimpArgs false

def zwU.j0 : Nat → ByteArray → Int → Int → Int → Option (ByteArray)
 | 0, _, _, _, _ => none
 | k + 1, x3, x125000, x125001, x125002 => if x125002 = 0 then (some x3) else (if x125000 = 0 then (if x3.size + 1 ≤ 9223372036854775807 then (if 0 ≤ (IntKind.u64.wrap (x125002)) then ((zlV.f k (shl .i64 1 (IntKind.u64.wrap (x125002)))).bind fun t131 => (if (x3 ++ (⟨#[47]⟩ : ByteArray)).size + t131.size ≤ 9223372036854775807 then (some ((x3 ++ (⟨#[47]⟩ : ByteArray)) ++ t131)) else (none))) else (none)) else (none)) else (if x125001 = 0 then (if x3.size + 1 ≤ 9223372036854775807 then (if 0 ≤ (IntKind.u64.wrap (x125002)) then ((zlV.f k (shl .i64 1 (IntKind.u64.wrap (x125002)))).bind fun t132 => (if (x3 ++ (⟨#[47]⟩ : ByteArray)).size + t132.size ≤ 9223372036854775807 then (some ((x3 ++ (⟨#[47]⟩ : ByteArray)) ++ t132)) else (none))) else (none)) else (none)) else (if 1 + x3.size ≤ 9223372036854775807 then (if ((⟨#[40]⟩ : ByteArray) ++ x3).size + 1 ≤ 9223372036854775807 then (if (((⟨#[40]⟩ : ByteArray) ++ x3) ++ (⟨#[41]⟩ : ByteArray)).size + 1 ≤ 9223372036854775807 then (if 0 ≤ (IntKind.u64.wrap (x125002)) then ((zlV.f k (shl .i64 1 (IntKind.u64.wrap (x125002)))).bind fun t133 => (if ((((⟨#[40]⟩ : ByteArray) ++ x3) ++ (⟨#[41]⟩ : ByteArray)) ++ (⟨#[47]⟩ : ByteArray)).size + t133.size ≤ 9223372036854775807 then (some (((((⟨#[40]⟩ : ByteArray) ++ x3) ++ (⟨#[41]⟩ : ByteArray)) ++ (⟨#[47]⟩ : ByteArray)) ++ t133)) else (none))) else (none)) else (none)) else (none)) else (none))))
def zwU.f (k : Nat) (a0_0 : Int) (a0_1 : Int) (a0_2 : Int) : Option (ByteArray) := if a0_1 = 0 then ((zlV.f k a0_0).bind fun t125 => (zwU.j0 k t125 a0_0 a0_1 a0_2)) else (if a0_0 = 0 then ((zlV.f k a0_1).bind fun t126 => (if t126.size + 1 ≤ 9223372036854775807 then (zwU.j0 k (t126 ++ (⟨#[114]⟩ : ByteArray)) a0_0 a0_1 a0_2) else (none))) else (if a0_1 > 0 then ((zlV.f k a0_0).bind fun t127 => (if t127.size + 1 ≤ 9223372036854775807 then ((zlV.f k a0_1).bind fun t128 => (if (t127 ++ (⟨#[43]⟩ : ByteArray)).size + t128.size ≤ 9223372036854775807 then (if ((t127 ++ (⟨#[43]⟩ : ByteArray)) ++ t128).size + 1 ≤ 9223372036854775807 then (zwU.j0 k (((t127 ++ (⟨#[43]⟩ : ByteArray)) ++ t128) ++ (⟨#[114]⟩ : ByteArray)) a0_0 a0_1 a0_2) else (none)) else (none))) else (none))) else ((zlV.f k a0_0).bind fun t129 => ((zlV.f k a0_1).bind fun t130 => (if t129.size + t130.size ≤ 9223372036854775807 then (if (t129 ++ t130).size + 1 ≤ 9223372036854775807 then (zwU.j0 k ((t129 ++ t130) ++ (⟨#[114]⟩ : ByteArray)) a0_0 a0_1 a0_2) else (none)) else (none))))))
theorem zwU.mono_l : ∀ k, (∀ y0 y1 y2 y3, LeO (zwU.j0 k y0 y1 y2 y3) (zwU.j0 (k + 1) y0 y1 y2 y3))
 | 0 => fun _ _ _ _ r h => by simp [zwU.j0] at h
 | k + 1 => by
  have ih0 := zwU.mono_l k
  ·intro y0 y1 y2 y3
   unfold zwU.j0
   repeat' first
   | (with_reducible exact ih0 _ _ _ _)
   | (with_reducible exact zlV.mono _ _)
   | (with_reducible exact LeO.refl _)
   | (with_reducible exact LeO.none _)
   | (with_reducible refine LeO.ite ?_ ?_)
   | (with_reducible refine LeO.bind ?_ (fun _ => ?_))
   | exact ih0 _ _ _ _
   | exact zlV.mono _ _
   | exact LeO.none _
   | refine LeO.ite ?_ ?_
   | refine LeO.bind ?_ (fun _ => ?_)
theorem zwU.mono : ∀ a0 a1 a2 k, LeO (zwU.f k a0 a1 a2) (zwU.f (k + 1) a0 a1 a2) := by
 intro a0 a1 a2 k
 have ih0 := zwU.mono_l k
 unfold zwU.f
 repeat' first
   | (with_reducible exact ih0 _ _ _ _)
   | (with_reducible exact zlV.mono _ _)
   | (with_reducible exact LeO.refl _)
   | (with_reducible exact LeO.none _)
   | (with_reducible refine LeO.ite ?_ ?_)
   | (with_reducible refine LeO.bind ?_ (fun _ => ?_))
   | exact ih0 _ _ _ _
   | exact zlV.mono _ _
   | exact LeO.none _
   | refine LeO.ite ?_ ?_
   | refine LeO.bind ?_ (fun _ => ?_)
def zwU.T2 : Bool × List (List Nat × List Nat) := (true, [([], []), ([0], [0]), ([1], [1]), ([], []), ([3], [3]), ([4, 2], [4]), ([2, 5], [2, 5]), ([6], [6]), ([7, 5, 0, 1, 2, 3, 4, 5, 6, 7], [7])])
def zwU.B2 : List Nat := [0, 1, 3, 0, 8, 31, 63, 127, 255]
theorem zwU.tab2 : rtab .any (opsOf Tryd.f39 2) = zwU.T2 := by kernel_rfl
theorem zwU.bits2 : waitsOk zwU.T2.2 zwU.B2 = true := by kernel_rfl
def zwU.T8 : Bool × List (List Nat × List Nat) := (true, [([], []), ([0], [0]), ([1], [1]), ([2], [2]), ([], []), ([4], [4]), ([5, 2], [5]), ([3, 6], [3, 6]), ([7], [7]), ([8, 6, 0, 1, 2, 3, 4, 5, 6, 7, 8], [8])])
def zwU.B8 : List Nat := [0, 1, 3, 7, 0, 16, 55, 127, 255, 511]
theorem zwU.tab8 : rtab .any (opsOf Tryd.f39 8) = zwU.T8 := by kernel_rfl
theorem zwU.bits8 : waitsOk zwU.T8.2 zwU.B8 = true := by kernel_rfl
theorem zwU.calls (k : Nat) (a0_0 : Int) (a0_1 : Int) (a0_2 : Int) (r : ByteArray) (w : World) (h : zwU.f k a0_0 a0_1 a0_2 = some r) :
  Calls Tryd.prog 39 #[.agg #[.int .i64 a0_0, .int .i64 a0_1, .int .i64 a0_2]] w fun e w' => e = .returned (.string r) ∧ Below w.heap.size w w' := by
 have hu23 := Tryd.underlying23
 have HB := zpS (Below.refl w.heap.size w)
 have H : (if a0_1 = 0 then ((zlV.f k a0_0).bind fun t125 => (zwU.j0 k t125 a0_0 a0_1 a0_2)) else (if a0_0 = 0 then ((zlV.f k a0_1).bind fun t126 => (if t126.size + 1 ≤ 9223372036854775807 then (zwU.j0 k (t126 ++ (⟨#[114]⟩ : ByteArray)) a0_0 a0_1 a0_2) else (none))) else (if a0_1 > 0 then ((zlV.f k a0_0).bind fun t127 => (if t127.size + 1 ≤ 9223372036854775807 then ((zlV.f k a0_1).bind fun t128 => (if (t127 ++ (⟨#[43]⟩ : ByteArray)).size + t128.size ≤ 9223372036854775807 then (if ((t127 ++ (⟨#[43]⟩ : ByteArray)) ++ t128).size + 1 ≤ 9223372036854775807 then (zwU.j0 k (((t127 ++ (⟨#[43]⟩ : ByteArray)) ++ t128) ++ (⟨#[114]⟩ : ByteArray)) a0_0 a0_1 a0_2) else (none)) else (none))) else (none))) else ((zlV.f k a0_0).bind fun t129 => ((zlV.f k a0_1).bind fun t130 => (if t129.size + t130.size ≤ 9223372036854775807 then (if (t129 ++ t130).size + 1 ≤ 9223372036854775807 then (zwU.j0 k ((t129 ++ t130) ++ (⟨#[114]⟩ : ByteArray)) a0_0 a0_1 a0_2) else (none)) else (none))))))) = some r := h
 clear h
 have HC2 := zpS H
 clear H
 go_enter Tryd.func39, Tryd.ntmps39
 go_upto_block 0 with (first | ((with_reducible refine zpZ (N := 1) rfl ?_); refine bx_ 1 #[.int .i64 a0_0, .int .i64 a0_1, .int .i64 a0_2] 23 ?_; intro gb124 hg w3 hbox hb; have n0_ := (ns_ hb); have n1_ := zpS (hbox); have n2_ := (ng_ hg); have n3_ := n2_; clear HB; have HB := n0_; have BK124 := n1_; have GW124 := n2_; have GE124 := n3_; clear n0_ n1_ n2_ n3_; clear hb hbox hg))
 (try simp only [Act.put, set_a_, set_b_, set_c_])
 go_cut [3] (fun v3 wc => ∃ (kq : Nat) (x3_1 : ByteArray), v3 = .string x3_1 ∧ Aside0 (zwU.j0 kq x3_1 a0_0 a0_1 a0_2 = some r) ∧ Aside0 (kq ≤ k) ∧ Aside0 (wc.heap[gb124]? = some (.cells #[.int .i64 a0_0, .int .i64 a0_1, .int .i64 a0_2] 23 (0, 0))) ∧ Aside0 (Below w.heap.size w wc))
 case first =>
  have H := HC2.out
  clear HC2
  by_cases c4 : a0_1 = 0
  ·rw [if_pos c4] at H
   have c4b0 : (a0_1 == 0) = true := beq_iff_eq.mpr c4
   have c4b1 : (a0_1 != 0) = false := bne_eq_false_iff_eq.mpr c4
   clear c4
   (first | rw [c4b0] | (simp only [zcN, ziJ]; rw [c4b0]) | skip)
   replace H := Option.bind_eq_some_iff.mp H
   obtain ⟨t125, A50, H⟩ := H
   replace H : (zwU.j0 k t125 a0_0 a0_1 a0_2) = some r := H
   have A5 := zpS A50
   clear A50
   have H' := zpS H
   clear H
   obtain ⟨hcz6_0, hcz6_1, hcz6_2⟩ := zdT BK124.out
   obtain ⟨hfz6_0, hfz6_1, hfz6_2⟩ := zqD BK124.out
   go_wp2_with (first | ((with_reducible refine zgK (f := 52) rfl ?_); refine zqQ (some 18) rfl rfl Tryd.func52 (by kernel_rfl) rfl #[.int .i64 a0_0] rfl (by (try simp only [List.map_toArray, List.map_cons, List.map_nil]); first | done | rfl | (simp only [List.length_drop, List.length_take]; rfl)) ?_; (with_reducible refine (zlV.calls k a0_0 t125 _ A5.out).mono ?_); rintro e w7 ⟨rfl, hb⟩; refine ⟨_, rfl, ?_⟩; have n0_ := zpS (zgM (g := gb124) (o := .cells #[.int .i64 a0_0, .int .i64 a0_1, .int .i64 a0_2] 23 (0, 0)) bk_ hb); have n1_ := (ns_ hb); clear BK124; clear HB; have BK124 := n0_; have HB := n1_; clear n0_ n1_; (try clear hb); (try clear hb2)))
   go_meet
   case rel => exact ⟨_, (t125), (by first | rfl | (simp; done) | (simp [*]; done)), H', ⟨by first | omega | exact Nat.le_refl _⟩, ⟨bk_⟩, ⟨bb_⟩⟩
  ·rw [if_neg c4] at H
   have c4b0 : (a0_1 == 0) = false := beq_eq_false_iff_ne.mpr c4
   have c4b1 : (a0_1 != 0) = true := bne_iff_ne.mpr c4
   (first | rw [c4b0] | (simp only [zcN, ziJ]; rw [c4b0]) | skip)
   by_cases c8 : a0_0 = 0
   ·rw [if_pos c8] at H
    have c8b0 : (a0_0 == 0) = true := beq_iff_eq.mpr c8
    have c8b1 : (a0_0 != 0) = false := bne_eq_false_iff_eq.mpr c8
    clear c8
    replace H := Option.bind_eq_some_iff.mp H
    obtain ⟨t126, A90, H⟩ := H
    replace H : (if t126.size + 1 ≤ 9223372036854775807 then (zwU.j0 k (t126 ++ (⟨#[114]⟩ : ByteArray)) a0_0 a0_1 a0_2) else (none)) = some r := H
    have A9 := zpS A90
    clear A90
    by_cases c10 : t126.size + 1 ≤ 9223372036854775807
    ·rw [if_pos c10] at H
     have c10b0 := eq_true c10
     have c10b1 : decide (t126.size + 1 ≤ 9223372036854775807) = true := decide_eq_true c10
     try have c10b2 : (9223372036854775807 < t126.size + 1) = False := eq_false (Nat.not_lt.2 c10)
     have H' := zpS H
     clear H
     obtain ⟨hcz11_0, hcz11_1, hcz11_2⟩ := zdT BK124.out
     obtain ⟨hfz11_0, hfz11_1, hfz11_2⟩ := zqD BK124.out
     go_wp2_with (first | ((with_reducible refine zgK (f := 52) rfl ?_); refine zqQ (some 25) rfl rfl Tryd.func52 (by kernel_rfl) rfl #[.int .i64 a0_1] rfl (by (try simp only [List.map_toArray, List.map_cons, List.map_nil]); first | done | rfl | (simp only [List.length_drop, List.length_take]; rfl)) ?_; (with_reducible refine (zlV.calls k a0_1 t126 _ A9.out).mono ?_); rintro e w12 ⟨rfl, hb⟩; refine ⟨_, rfl, ?_⟩; have n0_ := zpS (zgM (g := gb124) (o := .cells #[.int .i64 a0_0, .int .i64 a0_1, .int .i64 a0_2] 23 (0, 0)) bk_ hb); have n1_ := (ns_ hb); clear BK124; clear HB; have BK124 := n0_; have HB := n1_; clear n0_ n1_; (try clear hb); (try clear hb2)))
     go_meet
     case rel => exact ⟨_, (t126 ++ (⟨#[114]⟩ : ByteArray)), (by first | rfl | (simp; done) | (simp [*]; done)), H', ⟨by first | omega | exact Nat.le_refl _⟩, ⟨bk_⟩, ⟨bb_⟩⟩
    ·rw [if_neg c10] at H
     exact absurd H (by simp)
   ·rw [if_neg c8] at H
    have c8b0 : (a0_0 == 0) = false := beq_eq_false_iff_ne.mpr c8
    have c8b1 : (a0_0 != 0) = true := bne_iff_ne.mpr c8
    by_cases c13 : a0_1 > 0
    ·rw [if_pos c13] at H
     have c13b0 : decide (0 < a0_1) = true := decide_eq_true c13
     clear c13
     replace H := Option.bind_eq_some_iff.mp H
     obtain ⟨t127, A140, H⟩ := H
     replace H : (if t127.size + 1 ≤ 9223372036854775807 then ((zlV.f k a0_1).bind fun t128 => (if (t127 ++ (⟨#[43]⟩ : ByteArray)).size + t128.size ≤ 9223372036854775807 then (if ((t127 ++ (⟨#[43]⟩ : ByteArray)) ++ t128).size + 1 ≤ 9223372036854775807 then (zwU.j0 k (((t127 ++ (⟨#[43]⟩ : ByteArray)) ++ t128) ++ (⟨#[114]⟩ : ByteArray)) a0_0 a0_1 a0_2) else (none)) else (none))) else (none)) = some r := H
     have A14 := zpS A140
     clear A140
     by_cases c15 : t127.size + 1 ≤ 9223372036854775807
     ·rw [if_pos c15] at H
      have c15b0 := eq_true c15
      have c15b1 : decide (t127.size + 1 ≤ 9223372036854775807) = true := decide_eq_true c15
      try have c15b2 : (9223372036854775807 < t127.size + 1) = False := eq_false (Nat.not_lt.2 c15)
      replace H := Option.bind_eq_some_iff.mp H
      obtain ⟨t128, A160, H⟩ := H
      replace H : (if (t127 ++ (⟨#[43]⟩ : ByteArray)).size + t128.size ≤ 9223372036854775807 then (if ((t127 ++ (⟨#[43]⟩ : ByteArray)) ++ t128).size + 1 ≤ 9223372036854775807 then (zwU.j0 k (((t127 ++ (⟨#[43]⟩ : ByteArray)) ++ t128) ++ (⟨#[114]⟩ : ByteArray)) a0_0 a0_1 a0_2) else (none)) else (none)) = some r := H
      have A16 := zpS A160
      clear A160
      by_cases c17 : (t127 ++ (⟨#[43]⟩ : ByteArray)).size + t128.size ≤ 9223372036854775807
      ·rw [if_pos c17] at H
       have c17b0 := eq_true c17
       have c17b1 : decide ((t127 ++ (⟨#[43]⟩ : ByteArray)).size + t128.size ≤ 9223372036854775807) = true := decide_eq_true c17
       try have c17b2 : (9223372036854775807 < (t127 ++ (⟨#[43]⟩ : ByteArray)).size + t128.size) = False := eq_false (Nat.not_lt.2 c17)
       (try (have c17b3 : (9223372036854775807 < t127.size + 1 + t128.size) = False := eq_false (Nat.not_lt.2 (by have h_ := c17; simp only [ByteArray.size_append] at h_; exact h_))))
       by_cases c18 : ((t127 ++ (⟨#[43]⟩ : ByteArray)) ++ t128).size + 1 ≤ 9223372036854775807
       ·rw [if_pos c18] at H
        have c18b0 := eq_true c18
        have c18b1 : decide (((t127 ++ (⟨#[43]⟩ : ByteArray)) ++ t128).size + 1 ≤ 9223372036854775807) = true := decide_eq_true c18
        try have c18b2 : (9223372036854775807 < ((t127 ++ (⟨#[43]⟩ : ByteArray)) ++ t128).size + 1) = False := eq_false (Nat.not_lt.2 c18)
        (try (have c18b3 : (9223372036854775807 < t127.size + 1 + t128.size + 1) = False := eq_false (Nat.not_lt.2 (by have h_ := c18; simp only [ByteArray.size_append] at h_; exact h_))))
        have H' := zpS H
        clear H
        obtain ⟨hcz19_0, hcz19_1, hcz19_2⟩ := zdT BK124.out
        obtain ⟨hfz19_0, hfz19_1, hfz19_2⟩ := zqD BK124.out
        try go_wp2
        have n0_ := zpS (ztN BK124.out)
        have n1_ := zpS (zvF HB.out)
        clear BK124
        clear HB
        have BK124 := n0_
        have HB := n1_
        clear n0_ n1_
        refine start_ (n := 10) (S := fun w' => w'.cell? ⟨gb124, 0, none⟩ = some (.int .i64 a0_0) ∧ w'.cell? ⟨gb124, 1, none⟩ = some (.int .i64 a0_1) ∧ w'.cell? ⟨gb124, 2, none⟩ = some (.int .i64 a0_2)) (ds := []) #[false, false, false, false, false, false, false, false, false, false] (by kernel_rfl) rfl rfl ⟨(zzS BK124.out 0).trans rfl, (zzS BK124.out 1).trans rfl, (zzS BK124.out 2).trans rfl⟩ (fun hHeld => ?_); refine zwI zwU.tab8 zwU.bits8 (fun HT_ HW_ => ?_)
        generalize w3.drew = w20 at BK124 HB hHeld ⊢
        refine pu_ 0 (some 31) (bl_ 10 1) ?_
        refine pu_ 4 (some 35) (bl_ 10 17) ?_
        refine tk3_ 1 (some 32) (bl_ 10 19) hHeld ?_
        refine tk3_ 5 (some 36) (bl_ 10 51) hHeld ?_
        refine one_ (i := 2) (N := some 33) (bl_ 10 55) rfl rfl (zeO HT_.out (by kernel_rfl)) (by decide) (fun K hK => ?_)
        refine goes_ Tryd.func52 (by kernel_rfl) rfl #[.int .i64 a0_0] (by rfl) rfl rfl (by (try simp only [List.map_toArray, List.map_cons, List.map_nil]); first | done | rfl | (simp only [List.length_drop, List.length_take]; rfl)) ?_
        with_reducible refine (zlV.calls k a0_0 t127 _ A14.out).mono ?_
        rintro e w21 ⟨rfl, hb⟩
        refine ⟨_, rfl, ?_⟩
        have n0_ := zpS (zgM (g := gb124) (o := .cells #[.int .i64 a0_0, .int .i64 a0_1, .int .i64 a0_2] 23 (0, 0)) bk_ hb)
        have n1_ := (ns_ hb)
        clear BK124
        clear HB
        have BK124 := n0_
        have HB := n1_
        clear n0_ n1_
        (try clear hb)
        (try clear hb2)
        (try clear hk)
        (try clear hi)
        refine hK.out _ _ ⟨(zzS BK124.out 0).trans rfl, (zzS BK124.out 1).trans rfl, (zzS BK124.out 2).trans rfl⟩ (fun hHeld => ?_)
        clear hK K
        refine zaN (a' := ?_) ?_ ?_
        rotate_left
        ·show Act.put _ (some 33) _ = _
         simp only [Act.put, List.setIfInBounds_toArray, List.set_cons_zero, List.set_cons_succ, zcN, ziJ]
         rfl
        refine pu_ 3 (some 34) (bl_ 10 63) ?_
        refine one_ (i := 6) (N := some 37) (bl_ 10 127) rfl rfl (zeO HT_.out (by kernel_rfl)) (by decide) (fun K hK => ?_)
        refine goes_ Tryd.func52 (by kernel_rfl) rfl #[.int .i64 a0_1] (by rfl) rfl rfl (by (try simp only [List.map_toArray, List.map_cons, List.map_nil]); first | done | rfl | (simp only [List.length_drop, List.length_take]; rfl)) ?_
        with_reducible refine (zlV.calls k a0_1 t128 _ A16.out).mono ?_
        rintro e w22 ⟨rfl, hb⟩
        refine ⟨_, rfl, ?_⟩
        have n0_ := zpS (zgM (g := gb124) (o := .cells #[.int .i64 a0_0, .int .i64 a0_1, .int .i64 a0_2] 23 (0, 0)) bk_ hb)
        have n1_ := (ns_ hb)
        clear BK124
        clear HB
        have BK124 := n0_
        have HB := n1_
        clear n0_ n1_
        (try clear hb)
        (try clear hb2)
        (try clear hk)
        (try clear hi)
        refine hK.out _ _ ⟨(zzS BK124.out 0).trans rfl, (zzS BK124.out 1).trans rfl, (zzS BK124.out 2).trans rfl⟩ (fun hHeld => ?_)
        clear hK K
        refine zaN (a' := ?_) ?_ ?_
        rotate_left
        ·show Act.put _ (some 37) _ = _
         simp only [Act.put, List.setIfInBounds_toArray, List.set_cons_zero, List.set_cons_succ, zcN, ziJ]
         rfl
        refine pu_ 7 (some 38) (bl_ 10 255) ?_
        refine pu_ 8 (some 39) (bl_ 10 511) ?_
        refine pu_ 9 (some 3) (bl_ 10 1023) ?_
        refine done_ (done_of HT_.out (by kernel_rfl)) ?_
        try go_wp2
        go_meet
        case rel => exact ⟨_, (((t127 ++ (⟨#[43]⟩ : ByteArray)) ++ t128) ++ (⟨#[114]⟩ : ByteArray)), (by first | rfl | (simp; done) | (simp [*]; done)), H', ⟨by first | omega | exact Nat.le_refl _⟩, ⟨bk_⟩, ⟨bb_⟩⟩
       ·rw [if_neg c18] at H
        exact absurd H (by simp)
      ·rw [if_neg c17] at H
       exact absurd H (by simp)
     ·rw [if_neg c15] at H
      exact absurd H (by simp)
    ·rw [if_neg c13] at H
     have c13b0 : decide (0 < a0_1) = false := decide_eq_false c13
     clear c13
     replace H := Option.bind_eq_some_iff.mp H
     obtain ⟨t129, A230, H⟩ := H
     replace H : ((zlV.f k a0_1).bind fun t130 => (if t129.size + t130.size ≤ 9223372036854775807 then (if (t129 ++ t130).size + 1 ≤ 9223372036854775807 then (zwU.j0 k ((t129 ++ t130) ++ (⟨#[114]⟩ : ByteArray)) a0_0 a0_1 a0_2) else (none)) else (none))) = some r := H
     have A23 := zpS A230
     clear A230
     replace H := Option.bind_eq_some_iff.mp H
     obtain ⟨t130, A240, H⟩ := H
     replace H : (if t129.size + t130.size ≤ 9223372036854775807 then (if (t129 ++ t130).size + 1 ≤ 9223372036854775807 then (zwU.j0 k ((t129 ++ t130) ++ (⟨#[114]⟩ : ByteArray)) a0_0 a0_1 a0_2) else (none)) else (none)) = some r := H
     have A24 := zpS A240
     clear A240
     by_cases c25 : t129.size + t130.size ≤ 9223372036854775807
     ·rw [if_pos c25] at H
      have c25b0 := eq_true c25
      have c25b1 : decide (t129.size + t130.size ≤ 9223372036854775807) = true := decide_eq_true c25
      try have c25b2 : (9223372036854775807 < t129.size + t130.size) = False := eq_false (Nat.not_lt.2 c25)
      by_cases c26 : (t129 ++ t130).size + 1 ≤ 9223372036854775807
      ·rw [if_pos c26] at H
       have c26b0 := eq_true c26
       have c26b1 : decide ((t129 ++ t130).size + 1 ≤ 9223372036854775807) = true := decide_eq_true c26
       try have c26b2 : (9223372036854775807 < (t129 ++ t130).size + 1) = False := eq_false (Nat.not_lt.2 c26)
       (try (have c26b3 : (9223372036854775807 < t129.size + t130.size + 1) = False := eq_false (Nat.not_lt.2 (by have h_ := c26; simp only [ByteArray.size_append] at h_; exact h_))))
       have H' := zpS H
       clear H
       obtain ⟨hcz27_0, hcz27_1, hcz27_2⟩ := zdT BK124.out
       obtain ⟨hfz27_0, hfz27_1, hfz27_2⟩ := zqD BK124.out
       try go_wp2
       have n0_ := zpS (ztN BK124.out)
       have n1_ := zpS (zvF HB.out)
       clear BK124
       clear HB
       have BK124 := n0_
       have HB := n1_
       clear n0_ n1_
       refine start_ (n := 9) (S := fun w' => w'.cell? ⟨gb124, 0, none⟩ = some (.int .i64 a0_0) ∧ w'.cell? ⟨gb124, 1, none⟩ = some (.int .i64 a0_1) ∧ w'.cell? ⟨gb124, 2, none⟩ = some (.int .i64 a0_2)) (ds := []) #[false, false, false, false, false, false, false, false, false] (by kernel_rfl) rfl rfl ⟨(zzS BK124.out 0).trans rfl, (zzS BK124.out 1).trans rfl, (zzS BK124.out 2).trans rfl⟩ (fun hHeld => ?_); refine zwI zwU.tab2 zwU.bits2 (fun HT_ HW_ => ?_)
       generalize w3.drew = w28 at BK124 HB hHeld ⊢
       refine pu_ 0 (some 4) (bl_ 9 1) ?_
       refine pu_ 3 (some 7) (bl_ 9 9) ?_
       refine tk3_ 1 (some 5) (bl_ 9 11) hHeld ?_
       refine tk3_ 4 (some 8) (bl_ 9 27) hHeld ?_
       refine one_ (i := 2) (N := some 6) (bl_ 9 31) rfl rfl (zeO HT_.out (by kernel_rfl)) (by decide) (fun K hK => ?_)
       refine goes_ Tryd.func52 (by kernel_rfl) rfl #[.int .i64 a0_0] (by rfl) rfl rfl (by (try simp only [List.map_toArray, List.map_cons, List.map_nil]); first | done | rfl | (simp only [List.length_drop, List.length_take]; rfl)) ?_
       with_reducible refine (zlV.calls k a0_0 t129 _ A23.out).mono ?_
       rintro e w29 ⟨rfl, hb⟩
       refine ⟨_, rfl, ?_⟩
       have n0_ := zpS (zgM (g := gb124) (o := .cells #[.int .i64 a0_0, .int .i64 a0_1, .int .i64 a0_2] 23 (0, 0)) bk_ hb)
       have n1_ := (ns_ hb)
       clear BK124
       clear HB
       have BK124 := n0_
       have HB := n1_
       clear n0_ n1_
       (try clear hb)
       (try clear hb2)
       (try clear hk)
       (try clear hi)
       refine hK.out _ _ ⟨(zzS BK124.out 0).trans rfl, (zzS BK124.out 1).trans rfl, (zzS BK124.out 2).trans rfl⟩ (fun hHeld => ?_)
       clear hK K
       refine zaN (a' := ?_) ?_ ?_
       rotate_left
       ·show Act.put _ (some 6) _ = _
        simp only [Act.put, List.setIfInBounds_toArray, List.set_cons_zero, List.set_cons_succ, zcN, ziJ]
        rfl
       refine one_ (i := 5) (N := some 9) (bl_ 9 63) rfl rfl (zeO HT_.out (by kernel_rfl)) (by decide) (fun K hK => ?_)
       refine goes_ Tryd.func52 (by kernel_rfl) rfl #[.int .i64 a0_1] (by rfl) rfl rfl (by (try simp only [List.map_toArray, List.map_cons, List.map_nil]); first | done | rfl | (simp only [List.length_drop, List.length_take]; rfl)) ?_
       with_reducible refine (zlV.calls k a0_1 t130 _ A24.out).mono ?_
       rintro e w30 ⟨rfl, hb⟩
       refine ⟨_, rfl, ?_⟩
       have n0_ := zpS (zgM (g := gb124) (o := .cells #[.int .i64 a0_0, .int .i64 a0_1, .int .i64 a0_2] 23 (0, 0)) bk_ hb)
       have n1_ := (ns_ hb)
       clear BK124
       clear HB
       have BK124 := n0_
       have HB := n1_
       clear n0_ n1_
       (try clear hb)
       (try clear hb2)
       (try clear hk)
       (try clear hi)
       refine hK.out _ _ ⟨(zzS BK124.out 0).trans rfl, (zzS BK124.out 1).trans rfl, (zzS BK124.out 2).trans rfl⟩ (fun hHeld => ?_)
       clear hK K
       refine zaN (a' := ?_) ?_ ?_
       rotate_left
       ·show Act.put _ (some 9) _ = _
        simp only [Act.put, List.setIfInBounds_toArray, List.set_cons_zero, List.set_cons_succ, zcN, ziJ]
        rfl
       refine pu_ 6 (some 10) (bl_ 9 127) ?_
       refine pu_ 7 (some 11) (bl_ 9 255) ?_
       refine pu_ 8 (some 3) (bl_ 9 511) ?_
       refine done_ (done_of HT_.out (by kernel_rfl)) ?_
       try go_wp2
       go_meet
       case rel => exact ⟨_, ((t129 ++ t130) ++ (⟨#[114]⟩ : ByteArray)), (by first | rfl | (simp; done) | (simp [*]; done)), H', ⟨by first | omega | exact Nat.le_refl _⟩, ⟨bk_⟩, ⟨bb_⟩⟩
      ·rw [if_neg c26] at H
       exact absurd H (by simp)
     ·rw [if_neg c25] at H
      exact absurd H (by simp)
 case rest =>
  clear HC2
  try clear c1
  try clear c2
  try clear p2
  try clear c3
  try clear c4
  try clear c4b0
  try clear c4b1
  try clear c5
  try clear c8
  try clear c8b0
  try clear c8b1
  try clear c10
  try clear c10b0
  try clear c10b1
  try clear c10b2
  try clear c13
  try clear c13b0
  try clear c15
  try clear c15b0
  try clear c15b1
  try clear c15b2
  try clear c17
  try clear c17b0
  try clear c17b1
  try clear c17b2
  try clear c18
  try clear c18b0
  try clear c18b1
  try clear c18b2
  try clear c25
  try clear c25b0
  try clear c25b1
  try clear c25b2
  try clear c26
  try clear c26b0
  try clear c26b1
  try clear c26b2
  try clear hcz11_0
  try clear hcz11_1
  try clear hcz11_2
  try clear hcz19_0
  try clear hcz19_1
  try clear hcz19_2
  try clear hcz27_0
  try clear hcz27_1
  try clear hcz27_2
  try clear hcz6_0
  try clear hcz6_1
  try clear hcz6_2
  try clear hfz11_0
  try clear hfz11_1
  try clear hfz11_2
  try clear hfz19_0
  try clear hfz19_1
  try clear hfz19_2
  try clear hfz27_0
  try clear hfz27_1
  try clear hfz27_2
  try clear hfz6_0
  try clear hfz6_1
  try clear hfz6_2
  obtain ⟨kq, x3_1, rfl, HA, HJ1, BK124, HB⟩ := hcut
  cases kq with
  | zero => exact absurd HA.out (by simp [zwU.j0])
  | succ kj1 =>
   have H := HA.out
   clear HA
   simp only [zwU.j0] at H
   by_cases c31 : a0_2 = 0
   ·rw [if_pos c31] at H
    have c31b0 : (a0_2 == 0) = true := beq_iff_eq.mpr c31
    have c31b1 : (a0_2 != 0) = false := bne_eq_false_iff_eq.mpr c31
    clear c31
    obtain rfl := Option.some.inj H
    obtain ⟨hcz32_0, hcz32_1, hcz32_2⟩ := zdT BK124.out
    obtain ⟨hfz32_0, hfz32_1, hfz32_2⟩ := zqD BK124.out
    go_wp2
    go_ret
    exact ⟨by first | rfl | (simp [ziS, znJ] <;> rfl) | (simp [*, ziS, znJ] <;> rfl), bb_⟩
   ·rw [if_neg c31] at H
    have c31b0 : (a0_2 == 0) = false := beq_eq_false_iff_ne.mpr c31
    have c31b1 : (a0_2 != 0) = true := bne_iff_ne.mpr c31
    by_cases c33 : a0_0 = 0
    ·rw [if_pos c33] at H
     have c33b0 : (a0_0 == 0) = true := beq_iff_eq.mpr c33
     have c33b1 : (a0_0 != 0) = false := bne_eq_false_iff_eq.mpr c33
     clear c33
     by_cases c34 : x3_1.size + 1 ≤ 9223372036854775807
     ·rw [if_pos c34] at H
      have c34b0 := eq_true c34
      have c34b1 : decide (x3_1.size + 1 ≤ 9223372036854775807) = true := decide_eq_true c34
      try have c34b2 : (9223372036854775807 < x3_1.size + 1) = False := eq_false (Nat.not_lt.2 c34)
      obtain ⟨ji35, hji35⟩ : ∃ j_ : Int, (IntKind.u64.wrap (a0_2)) = j_ := ⟨_, rfl⟩
      replace H : (if 0 ≤ (ji35) then ((zlV.f kj1 (shl .i64 1 (ji35))).bind fun t131 => (if (x3_1 ++ (⟨#[47]⟩ : ByteArray)).size + t131.size ≤ 9223372036854775807 then (some ((x3_1 ++ (⟨#[47]⟩ : ByteArray)) ++ t131)) else (none))) else (none)) = some r := by first | (rw [hji35] at H; exact H) | (simp only [hji35] at H ⊢; exact H)
      by_cases c36 : 0 ≤ (ji35)
      ·rw [if_pos c36] at H
       have c36b0 := eq_true c36
       have c36b1 : decide (0 ≤ (ji35)) = true := decide_eq_true c36
       clear c36
       obtain ⟨ji37, hji37⟩ : ∃ j_ : Int, (shl .i64 1 (ji35)) = j_ := ⟨_, rfl⟩
       replace H : ((zlV.f kj1 (ji37)).bind fun t131 => (if (x3_1 ++ (⟨#[47]⟩ : ByteArray)).size + t131.size ≤ 9223372036854775807 then (some ((x3_1 ++ (⟨#[47]⟩ : ByteArray)) ++ t131)) else (none))) = some r := by first | (rw [hji37] at H; exact H) | (simp only [hji37] at H ⊢; exact H)
       have hji37_ : (IntKind.i64.wrap (1 * 2 ^ min (ji35).toNat 64)) = ji37 := hji37
       have hji37z : (ji35) ≤ 64 → (IntKind.i64.wrap (1 * 2 ^ (ji35).toNat)) = ji37 := shl_small hji37
       have hji37u : (IntKind.i64.wrap (2 ^ min (ji35).toNat 64)) = ji37 := by have h_ := hji37_; rw [Int.one_mul] at h_; exact h_
       have hji37v : (ji35) ≤ 64 → (IntKind.i64.wrap (2 ^ (ji35).toNat)) = ji37 := fun hle_ => by have h_ := hji37z hle_; rw [Int.one_mul] at h_; exact h_
       have hji37y : (wrap64 (1 * 2 ^ min (ji35).toNat 64)) = ji37 := (zcN _).symm.trans hji37_
       have hji37x : (ji35) ≤ 64 → (wrap64 (1 * 2 ^ (ji35).toNat)) = ji37 := fun h_ => (zcN _).symm.trans (hji37z h_)
       replace H := Option.bind_eq_some_iff.mp H
       obtain ⟨t131, A380, H⟩ := H
       replace H : (if (x3_1 ++ (⟨#[47]⟩ : ByteArray)).size + t131.size ≤ 9223372036854775807 then (some ((x3_1 ++ (⟨#[47]⟩ : ByteArray)) ++ t131)) else (none)) = some r := H
       have A38 := zpS A380
       clear A380
       by_cases c39 : (x3_1 ++ (⟨#[47]⟩ : ByteArray)).size + t131.size ≤ 9223372036854775807
       ·rw [if_pos c39] at H
        have c39b0 := eq_true c39
        have c39b1 : decide ((x3_1 ++ (⟨#[47]⟩ : ByteArray)).size + t131.size ≤ 9223372036854775807) = true := decide_eq_true c39
        try have c39b2 : (9223372036854775807 < (x3_1 ++ (⟨#[47]⟩ : ByteArray)).size + t131.size) = False := eq_false (Nat.not_lt.2 c39)
        (try (have c39b3 : (9223372036854775807 < x3_1.size + 1 + t131.size) = False := eq_false (Nat.not_lt.2 (by have h_ := c39; simp only [ByteArray.size_append] at h_; exact h_))))
        obtain rfl := Option.some.inj H
        obtain ⟨hcz40_0, hcz40_1, hcz40_2⟩ := zdT BK124.out
        obtain ⟨hfz40_0, hfz40_1, hfz40_2⟩ := zqD BK124.out
        go_wp2_with (first | ((with_reducible refine zgK (f := 52) rfl ?_); refine zqQ (some 61) rfl rfl Tryd.func52 (by kernel_rfl) rfl #[.int .i64 ji37] rfl (by (try simp only [List.map_toArray, List.map_cons, List.map_nil]); first | done | (simp only [hji37]; rfl) | rfl | (simp only [List.length_drop, List.length_take]; rfl)) ?_; (with_reducible refine (zlV.calls kj1 ji37 t131 _ A38.out).mono ?_); rintro e w41 ⟨rfl, hb⟩; refine ⟨_, rfl, ?_⟩; have n0_ := zpS (zgM (g := gb124) (o := .cells #[.int .i64 a0_0, .int .i64 a0_1, .int .i64 a0_2] 23 (0, 0)) bk_ hb); have n1_ := (ns_ hb); clear BK124; clear HB; have BK124 := n0_; have HB := n1_; clear n0_ n1_; (try clear hb); (try clear hb2)))
        go_ret
        exact ⟨by first | rfl | (simp [ziS, znJ] <;> rfl) | (simp only [← hji35, ← hji37]; first | rfl | (simp [ziS, znJ] <;> rfl)) | (simp [*, ziS, znJ] <;> rfl), bb_⟩
       ·rw [if_neg c39] at H
        exact absurd H (by simp)
      ·rw [if_neg c36] at H
       exact absurd H (by simp)
     ·rw [if_neg c34] at H
      exact absurd H (by simp)
    ·rw [if_neg c33] at H
     have c33b0 : (a0_0 == 0) = false := beq_eq_false_iff_ne.mpr c33
     have c33b1 : (a0_0 != 0) = true := bne_iff_ne.mpr c33
     by_cases c42 : a0_1 = 0
     ·rw [if_pos c42] at H
      have c42b0 : (a0_1 == 0) = true := beq_iff_eq.mpr c42
      have c42b1 : (a0_1 != 0) = false := bne_eq_false_iff_eq.mpr c42
      clear c42
      by_cases c43 : x3_1.size + 1 ≤ 9223372036854775807
      ·rw [if_pos c43] at H
       have c43b0 := eq_true c43
       have c43b1 : decide (x3_1.size + 1 ≤ 9223372036854775807) = true := decide_eq_true c43
       try have c43b2 : (9223372036854775807 < x3_1.size + 1) = False := eq_false (Nat.not_lt.2 c43)
       obtain ⟨ji44, hji44⟩ : ∃ j_ : Int, (IntKind.u64.wrap (a0_2)) = j_ := ⟨_, rfl⟩
       replace H : (if 0 ≤ (ji44) then ((zlV.f kj1 (shl .i64 1 (ji44))).bind fun t132 => (if (x3_1 ++ (⟨#[47]⟩ : ByteArray)).size + t132.size ≤ 9223372036854775807 then (some ((x3_1 ++ (⟨#[47]⟩ : ByteArray)) ++ t132)) else (none))) else (none)) = some r := by first | (rw [hji44] at H; exact H) | (simp only [hji44] at H ⊢; exact H)
       by_cases c45 : 0 ≤ (ji44)
       ·rw [if_pos c45] at H
        have c45b0 := eq_true c45
        have c45b1 : decide (0 ≤ (ji44)) = true := decide_eq_true c45
        clear c45
        obtain ⟨ji46, hji46⟩ : ∃ j_ : Int, (shl .i64 1 (ji44)) = j_ := ⟨_, rfl⟩
        replace H : ((zlV.f kj1 (ji46)).bind fun t132 => (if (x3_1 ++ (⟨#[47]⟩ : ByteArray)).size + t132.size ≤ 9223372036854775807 then (some ((x3_1 ++ (⟨#[47]⟩ : ByteArray)) ++ t132)) else (none))) = some r := by first | (rw [hji46] at H; exact H) | (simp only [hji46] at H ⊢; exact H)
        have hji46_ : (IntKind.i64.wrap (1 * 2 ^ min (ji44).toNat 64)) = ji46 := hji46
        have hji46z : (ji44) ≤ 64 → (IntKind.i64.wrap (1 * 2 ^ (ji44).toNat)) = ji46 := shl_small hji46
        have hji46u : (IntKind.i64.wrap (2 ^ min (ji44).toNat 64)) = ji46 := by have h_ := hji46_; rw [Int.one_mul] at h_; exact h_
        have hji46v : (ji44) ≤ 64 → (IntKind.i64.wrap (2 ^ (ji44).toNat)) = ji46 := fun hle_ => by have h_ := hji46z hle_; rw [Int.one_mul] at h_; exact h_
        have hji46y : (wrap64 (1 * 2 ^ min (ji44).toNat 64)) = ji46 := (zcN _).symm.trans hji46_
        have hji46x : (ji44) ≤ 64 → (wrap64 (1 * 2 ^ (ji44).toNat)) = ji46 := fun h_ => (zcN _).symm.trans (hji46z h_)
        replace H := Option.bind_eq_some_iff.mp H
        obtain ⟨t132, A470, H⟩ := H
        replace H : (if (x3_1 ++ (⟨#[47]⟩ : ByteArray)).size + t132.size ≤ 9223372036854775807 then (some ((x3_1 ++ (⟨#[47]⟩ : ByteArray)) ++ t132)) else (none)) = some r := H
        have A47 := zpS A470
        clear A470
        by_cases c48 : (x3_1 ++ (⟨#[47]⟩ : ByteArray)).size + t132.size ≤ 9223372036854775807
        ·rw [if_pos c48] at H
         have c48b0 := eq_true c48
         have c48b1 : decide ((x3_1 ++ (⟨#[47]⟩ : ByteArray)).size + t132.size ≤ 9223372036854775807) = true := decide_eq_true c48
         try have c48b2 : (9223372036854775807 < (x3_1 ++ (⟨#[47]⟩ : ByteArray)).size + t132.size) = False := eq_false (Nat.not_lt.2 c48)
         (try (have c48b3 : (9223372036854775807 < x3_1.size + 1 + t132.size) = False := eq_false (Nat.not_lt.2 (by have h_ := c48; simp only [ByteArray.size_append] at h_; exact h_))))
         obtain rfl := Option.some.inj H
         obtain ⟨hcz49_0, hcz49_1, hcz49_2⟩ := zdT BK124.out
         obtain ⟨hfz49_0, hfz49_1, hfz49_2⟩ := zqD BK124.out
         go_wp2_with (first | ((with_reducible refine zgK (f := 52) rfl ?_); refine zqQ (some 61) rfl rfl Tryd.func52 (by kernel_rfl) rfl #[.int .i64 ji46] rfl (by (try simp only [List.map_toArray, List.map_cons, List.map_nil]); first | done | (simp only [hji46]; rfl) | rfl | (simp only [List.length_drop, List.length_take]; rfl)) ?_; (with_reducible refine (zlV.calls kj1 ji46 t132 _ A47.out).mono ?_); rintro e w50 ⟨rfl, hb⟩; refine ⟨_, rfl, ?_⟩; have n0_ := zpS (zgM (g := gb124) (o := .cells #[.int .i64 a0_0, .int .i64 a0_1, .int .i64 a0_2] 23 (0, 0)) bk_ hb); have n1_ := (ns_ hb); clear BK124; clear HB; have BK124 := n0_; have HB := n1_; clear n0_ n1_; (try clear hb); (try clear hb2)))
         go_ret
         exact ⟨by first | rfl | (simp [ziS, znJ] <;> rfl) | (simp only [← hji44, ← hji46]; first | rfl | (simp [ziS, znJ] <;> rfl)) | (simp [*, ziS, znJ] <;> rfl), bb_⟩
        ·rw [if_neg c48] at H
         exact absurd H (by simp)
       ·rw [if_neg c45] at H
        exact absurd H (by simp)
      ·rw [if_neg c43] at H
       exact absurd H (by simp)
     ·rw [if_neg c42] at H
      have c42b0 : (a0_1 == 0) = false := beq_eq_false_iff_ne.mpr c42
      have c42b1 : (a0_1 != 0) = true := bne_iff_ne.mpr c42
      by_cases c51 : 1 + x3_1.size ≤ 9223372036854775807
      ·rw [if_pos c51] at H
       have c51b0 := eq_true c51
       have c51b1 : decide (1 + x3_1.size ≤ 9223372036854775807) = true := decide_eq_true c51
       try have c51b2 : (9223372036854775807 < 1 + x3_1.size) = False := eq_false (Nat.not_lt.2 c51)
       by_cases c52 : ((⟨#[40]⟩ : ByteArray) ++ x3_1).size + 1 ≤ 9223372036854775807
       ·rw [if_pos c52] at H
        have c52b0 := eq_true c52
        have c52b1 : decide (((⟨#[40]⟩ : ByteArray) ++ x3_1).size + 1 ≤ 9223372036854775807) = true := decide_eq_true c52
        try have c52b2 : (9223372036854775807 < ((⟨#[40]⟩ : ByteArray) ++ x3_1).size + 1) = False := eq_false (Nat.not_lt.2 c52)
        (try (have c52b3 : (9223372036854775807 < 1 + x3_1.size + 1) = False := eq_false (Nat.not_lt.2 (by have h_ := c52; simp only [ByteArray.size_append] at h_; exact h_))))
        by_cases c53 : (((⟨#[40]⟩ : ByteArray) ++ x3_1) ++ (⟨#[41]⟩ : ByteArray)).size + 1 ≤ 9223372036854775807
        ·rw [if_pos c53] at H
         have c53b0 := eq_true c53
         have c53b1 : decide ((((⟨#[40]⟩ : ByteArray) ++ x3_1) ++ (⟨#[41]⟩ : ByteArray)).size + 1 ≤ 9223372036854775807) = true := decide_eq_true c53
         try have c53b2 : (9223372036854775807 < (((⟨#[40]⟩ : ByteArray) ++ x3_1) ++ (⟨#[41]⟩ : ByteArray)).size + 1) = False := eq_false (Nat.not_lt.2 c53)
         (try (have c53b3 : (9223372036854775807 < 1 + x3_1.size + 1 + 1) = False := eq_false (Nat.not_lt.2 (by have h_ := c53; simp only [ByteArray.size_append] at h_; exact h_))))
         obtain ⟨ji54, hji54⟩ : ∃ j_ : Int, (IntKind.u64.wrap (a0_2)) = j_ := ⟨_, rfl⟩
         replace H : (if 0 ≤ (ji54) then ((zlV.f kj1 (shl .i64 1 (ji54))).bind fun t133 => (if ((((⟨#[40]⟩ : ByteArray) ++ x3_1) ++ (⟨#[41]⟩ : ByteArray)) ++ (⟨#[47]⟩ : ByteArray)).size + t133.size ≤ 9223372036854775807 then (some (((((⟨#[40]⟩ : ByteArray) ++ x3_1) ++ (⟨#[41]⟩ : ByteArray)) ++ (⟨#[47]⟩ : ByteArray)) ++ t133)) else (none))) else (none)) = some r := by first | (rw [hji54] at H; exact H) | (simp only [hji54] at H ⊢; exact H)
         by_cases c55 : 0 ≤ (ji54)
         ·rw [if_pos c55] at H
          have c55b0 := eq_true c55
          have c55b1 : decide (0 ≤ (ji54)) = true := decide_eq_true c55
          clear c55
          obtain ⟨ji56, hji56⟩ : ∃ j_ : Int, (shl .i64 1 (ji54)) = j_ := ⟨_, rfl⟩
          replace H : ((zlV.f kj1 (ji56)).bind fun t133 => (if ((((⟨#[40]⟩ : ByteArray) ++ x3_1) ++ (⟨#[41]⟩ : ByteArray)) ++ (⟨#[47]⟩ : ByteArray)).size + t133.size ≤ 9223372036854775807 then (some (((((⟨#[40]⟩ : ByteArray) ++ x3_1) ++ (⟨#[41]⟩ : ByteArray)) ++ (⟨#[47]⟩ : ByteArray)) ++ t133)) else (none))) = some r := by first | (rw [hji56] at H; exact H) | (simp only [hji56] at H ⊢; exact H)
          have hji56_ : (IntKind.i64.wrap (1 * 2 ^ min (ji54).toNat 64)) = ji56 := hji56
          have hji56z : (ji54) ≤ 64 → (IntKind.i64.wrap (1 * 2 ^ (ji54).toNat)) = ji56 := shl_small hji56
          have hji56u : (IntKind.i64.wrap (2 ^ min (ji54).toNat 64)) = ji56 := by have h_ := hji56_; rw [Int.one_mul] at h_; exact h_
          have hji56v : (ji54) ≤ 64 → (IntKind.i64.wrap (2 ^ (ji54).toNat)) = ji56 := fun hle_ => by have h_ := hji56z hle_; rw [Int.one_mul] at h_; exact h_
          have hji56y : (wrap64 (1 * 2 ^ min (ji54).toNat 64)) = ji56 := (zcN _).symm.trans hji56_
          have hji56x : (ji54) ≤ 64 → (wrap64 (1 * 2 ^ (ji54).toNat)) = ji56 := fun h_ => (zcN _).symm.trans (hji56z h_)
          replace H := Option.bind_eq_some_iff.mp H
          obtain ⟨t133, A570, H⟩ := H
          replace H : (if ((((⟨#[40]⟩ : ByteArray) ++ x3_1) ++ (⟨#[41]⟩ : ByteArray)) ++ (⟨#[47]⟩ : ByteArray)).size + t133.size ≤ 9223372036854775807 then (some (((((⟨#[40]⟩ : ByteArray) ++ x3_1) ++ (⟨#[41]⟩ : ByteArray)) ++ (⟨#[47]⟩ : ByteArray)) ++ t133)) else (none)) = some r := H
          have A57 := zpS A570
          clear A570
          by_cases c58 : ((((⟨#[40]⟩ : ByteArray) ++ x3_1) ++ (⟨#[41]⟩ : ByteArray)) ++ (⟨#[47]⟩ : ByteArray)).size + t133.size ≤ 9223372036854775807
          ·rw [if_pos c58] at H
           have c58b0 := eq_true c58
           have c58b1 : decide (((((⟨#[40]⟩ : ByteArray) ++ x3_1) ++ (⟨#[41]⟩ : ByteArray)) ++ (⟨#[47]⟩ : ByteArray)).size + t133.size ≤ 9223372036854775807) = true := decide_eq_true c58
           try have c58b2 : (9223372036854775807 < ((((⟨#[40]⟩ : ByteArray) ++ x3_1) ++ (⟨#[41]⟩ : ByteArray)) ++ (⟨#[47]⟩ : ByteArray)).size + t133.size) = False := eq_false (Nat.not_lt.2 c58)
           (try (have c58b3 : (9223372036854775807 < 1 + x3_1.size + 1 + 1 + t133.size) = False := eq_false (Nat.not_lt.2 (by have h_ := c58; simp only [ByteArray.size_append] at h_; exact h_))))
           obtain rfl := Option.some.inj H
           obtain ⟨hcz59_0, hcz59_1, hcz59_2⟩ := zdT BK124.out
           obtain ⟨hfz59_0, hfz59_1, hfz59_2⟩ := zqD BK124.out
           go_wp2_with (first | ((with_reducible refine zgK (f := 52) rfl ?_); refine zqQ (some 61) rfl rfl Tryd.func52 (by kernel_rfl) rfl #[.int .i64 ji56] rfl (by (try simp only [List.map_toArray, List.map_cons, List.map_nil]); first | done | (simp only [hji56]; rfl) | rfl | (simp only [List.length_drop, List.length_take]; rfl)) ?_; (with_reducible refine (zlV.calls kj1 ji56 t133 _ A57.out).mono ?_); rintro e w60 ⟨rfl, hb⟩; refine ⟨_, rfl, ?_⟩; have n0_ := zpS (zgM (g := gb124) (o := .cells #[.int .i64 a0_0, .int .i64 a0_1, .int .i64 a0_2] 23 (0, 0)) bk_ hb); have n1_ := (ns_ hb); clear BK124; clear HB; have BK124 := n0_; have HB := n1_; clear n0_ n1_; (try clear hb); (try clear hb2)))
           go_ret
           exact ⟨by first | rfl | (simp [ziS, znJ] <;> rfl) | (simp only [← hji54, ← hji56]; first | rfl | (simp [ziS, znJ] <;> rfl)) | (simp [*, ziS, znJ] <;> rfl), bb_⟩
          ·rw [if_neg c58] at H
           exact absurd H (by simp)
         ·rw [if_neg c55] at H
          exact absurd H (by simp)
        ·rw [if_neg c53] at H
         exact absurd H (by simp)
       ·rw [if_neg c52] at H
        exact absurd H (by simp)
      ·rw [if_neg c51] at H
       exact absurd H (by simp)

def znQ.f (k : Nat) (a0_0 : Int) (a0_1 : Int) (a0_2 : Int) : Option (ByteArray) := (zeG.f a0_0 a0_1 a0_2).bind fun t135 => (if t135 = true then ((zwU.f k a0_0 a0_1 a0_2).bind fun t136 => (some t136)) else (some (⟨#[]⟩ : ByteArray)))
theorem znQ.mono : ∀ a0 a1 a2 k, LeO (znQ.f k a0 a1 a2) (znQ.f (k + 1) a0 a1 a2) := by
 intro a0 a1 a2 k
 unfold znQ.f
 repeat' first
   | (with_reducible exact zwU.mono _ _ _ _)
   | (with_reducible exact LeO.refl _)
   | (with_reducible exact LeO.none _)
   | (with_reducible refine LeO.ite ?_ ?_)
   | (with_reducible refine LeO.bind ?_ (fun _ => ?_))
   | exact zwU.mono _ _ _ _
   | exact LeO.none _
   | refine LeO.ite ?_ ?_
   | refine LeO.bind ?_ (fun _ => ?_)
theorem znQ.calls (k : Nat) (a0_0 : Int) (a0_1 : Int) (a0_2 : Int) (r : ByteArray) (w : World) (h : znQ.f k a0_0 a0_1 a0_2 = some r) :
  Calls Tryd.prog 21 #[.agg #[.int .i64 a0_0, .int .i64 a0_1, .int .i64 a0_2]] w fun e w' => e = .returned (.string r) ∧ Below w.heap.size w w' := by
 have hu23 := Tryd.underlying23
 have HB := zpS (Below.refl w.heap.size w)
 have H : ((zeG.f a0_0 a0_1 a0_2).bind fun t135 => (if t135 = true then ((zwU.f k a0_0 a0_1 a0_2).bind fun t136 => (some t136)) else (some (⟨#[]⟩ : ByteArray)))) = some r := h
 clear h
 replace H := Option.bind_eq_some_iff.mp H
 obtain ⟨t135, A20, H⟩ := H
 replace H : (if t135 = true then ((zwU.f k a0_0 a0_1 a0_2).bind fun t136 => (some t136)) else (some (⟨#[]⟩ : ByteArray))) = some r := H
 have A2 := zpS A20
 clear A20
 by_cases c3 : t135 = true
 ·subst c3
  have H1 : ((zwU.f k a0_0 a0_1 a0_2).bind fun t136 => (some t136)) = some r := by rw [if_pos rfl] at H; exact H
  clear H
  have H := H1
  clear H1
  replace H := Option.bind_eq_some_iff.mp H
  obtain ⟨t136, A40, H⟩ := H
  replace H : (some t136) = some r := H
  have A4 := zpS A40
  clear A40
  obtain rfl := Option.some.inj H
  go_enter Tryd.func21, Tryd.ntmps21
  go_wp2_with (first | ((with_reducible refine zpZ (N := 1) rfl ?_); refine bx_ 1 #[.int .i64 a0_0, .int .i64 a0_1, .int .i64 a0_2] 23 ?_; intro gb134 hg w5 hbox hb; have n0_ := (ns_ hb); have n1_ := zpS (hbox); have n2_ := (ng_ hg); have n3_ := n2_; clear HB; have HB := n0_; have BK134 := n1_; have GW134 := n2_; have GE134 := n3_; clear n0_ n1_ n2_ n3_; clear hb hbox hg; obtain ⟨hcz6_0, hcz6_1, hcz6_2⟩ := zdT BK134.out; obtain ⟨hfz6_0, hfz6_1, hfz6_2⟩ := zqD BK134.out) | ((with_reducible refine zgK (f := 38) rfl ?_); refine zqQ (some 4) rfl rfl Tryd.func38 (by kernel_rfl) rfl #[.agg #[.int .i64 a0_0, .int .i64 a0_1, .int .i64 a0_2]] rfl (by (try simp only [List.map_toArray, List.map_cons, List.map_nil]); first | done | rfl | (simp only [List.length_drop, List.length_take]; rfl)) ?_; (with_reducible refine (zeG.calls a0_0 a0_1 a0_2 true _ A2.out).mono ?_); rintro e w7 ⟨rfl, hb⟩; refine ⟨_, rfl, ?_⟩; have n0_ := zpS (zgM (g := gb134) (o := .cells #[.int .i64 a0_0, .int .i64 a0_1, .int .i64 a0_2] 23 (0, 0)) bk_ hb); have n1_ := (ns_ hb); clear BK134; clear HB; have BK134 := n0_; have HB := n1_; clear n0_ n1_; (try clear hb); (try clear hb2); obtain ⟨hcz8_0, hcz8_1, hcz8_2⟩ := zdT BK134.out; obtain ⟨hfz8_0, hfz8_1, hfz8_2⟩ := zqD BK134.out) | ((with_reducible refine zgK (f := 39) rfl ?_); refine zqQ (some 7) rfl rfl Tryd.func39 (by kernel_rfl) rfl #[.agg #[.int .i64 a0_0, .int .i64 a0_1, .int .i64 a0_2]] rfl (by (try simp only [List.map_toArray, List.map_cons, List.map_nil]); first | done | rfl | (simp only [List.length_drop, List.length_take]; rfl)) ?_; (with_reducible refine (zwU.calls k a0_0 a0_1 a0_2 t136 _ A4.out).mono ?_); rintro e w9 ⟨rfl, hb⟩; refine ⟨_, rfl, ?_⟩; have n0_ := zpS (zgM (g := gb134) (o := .cells #[.int .i64 a0_0, .int .i64 a0_1, .int .i64 a0_2] 23 (0, 0)) bk_ hb); have n1_ := (ns_ hb); clear BK134; clear HB; have BK134 := n0_; have HB := n1_; clear n0_ n1_; (try clear hb); (try clear hb2)))
  go_ret
  exact ⟨by first | rfl | (simp [ziS, znJ] <;> rfl) | (simp [*, ziS, znJ] <;> rfl), bb_⟩
 ·replace c3 := Bool.eq_false_iff.mpr c3
  subst c3
  have H1 : (some (⟨#[]⟩ : ByteArray)) = some r := by rw [if_neg (show ¬ (false = true) by decide)] at H; exact H
  clear H
  have H := H1
  clear H1
  obtain rfl := Option.some.inj H
  go_enter Tryd.func21, Tryd.ntmps21
  go_wp2_with (first | ((with_reducible refine zpZ (N := 1) rfl ?_); refine bx_ 1 #[.int .i64 a0_0, .int .i64 a0_1, .int .i64 a0_2] 23 ?_; intro gb134 hg w10 hbox hb; have n0_ := (ns_ hb); have n1_ := zpS (hbox); have n2_ := (ng_ hg); have n3_ := n2_; clear HB; have HB := n0_; have BK134 := n1_; have GW134 := n2_; have GE134 := n3_; clear n0_ n1_ n2_ n3_; clear hb hbox hg; obtain ⟨hcz11_0, hcz11_1, hcz11_2⟩ := zdT BK134.out; obtain ⟨hfz11_0, hfz11_1, hfz11_2⟩ := zqD BK134.out) | ((with_reducible refine zgK (f := 38) rfl ?_); refine zqQ (some 4) rfl rfl Tryd.func38 (by kernel_rfl) rfl #[.agg #[.int .i64 a0_0, .int .i64 a0_1, .int .i64 a0_2]] rfl (by (try simp only [List.map_toArray, List.map_cons, List.map_nil]); first | done | rfl | (simp only [List.length_drop, List.length_take]; rfl)) ?_; (with_reducible refine (zeG.calls a0_0 a0_1 a0_2 false _ A2.out).mono ?_); rintro e w12 ⟨rfl, hb⟩; refine ⟨_, rfl, ?_⟩; have n0_ := zpS (zgM (g := gb134) (o := .cells #[.int .i64 a0_0, .int .i64 a0_1, .int .i64 a0_2] 23 (0, 0)) bk_ hb); have n1_ := (ns_ hb); clear BK134; clear HB; have BK134 := n0_; have HB := n1_; clear n0_ n1_; (try clear hb); (try clear hb2)))
  go_ret
  exact ⟨by first | rfl | (simp [ziS, znJ] <;> rfl) | (simp [*, ziS, znJ] <;> rfl), bb_⟩

end Go.Proofs.YtbkcmdccomngnaaDoor.PFnExactReadMotion
