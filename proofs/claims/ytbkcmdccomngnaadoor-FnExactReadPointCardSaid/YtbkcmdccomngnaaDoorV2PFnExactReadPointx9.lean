-- Printed for this claim by this session's program pp.py, which drives the kit's print with additions. Not trusted: Lean checks it.
import Derived.Test.YtbkcmdccomngnaaDoorV2PFnExactReadPointx0
import Derived.Test.YtbkcmdccomngnaaDoorV2PFnExactReadPointx8
namespace Go.Proofs.YtbkcmdccomngnaaDoor.PFnExactReadPoint
open Go.RowKit Go.Proofs.YtbkcmdccomngnaaDoorW.PrintWords Go.Proofs.YtbkcmdccomngnaaDoorW.PrintLast Go.Proofs.YtbkcmdccomngnaaDoorW.PrintMore
attribute [local go_sem] zbB ziA max_two min_two znE zuA znH zkT   -- for this text's walks alone
set_option linter.unusedVariables false
set_option maxHeartbeats 8000000
set_option maxRecDepth 100000
set_option linter.unusedSimpArgs false

def ziM.f (a0 : ByteArray) (a1 : ByteArray) : Option (ByteArray) := (stringslite_TrimSuffix.f a0 a1).bind fun t189 => (some t189)
theorem ziM.calls (a0 : ByteArray) (a1 : ByteArray) (r : ByteArray) (w : World) (h : ziM.f a0 a1 = some r) :
  Calls Tryd.prog 26 #[.string a0, .string a1] w fun e w' => e = .returned (.string r) ∧ Drawn0 w w' := by
 have H : ((stringslite_TrimSuffix.f a0 a1).bind fun t189 => (some t189)) = some r := h
 clear h
 replace H := Option.bind_eq_some_iff.mp H
 obtain ⟨t189, A30, H⟩ := H
 replace H : (some t189) = some r := H
 have A3 := zpS A30
 clear A30
 obtain rfl := Option.some.inj H
 go_enter Tryd.func26, Tryd.ntmps26
 go_wp2_with (first | ((with_reducible refine zgK (f := 44) rfl ?_); refine zqQ (some 7) rfl rfl Tryd.func44 (by kernel_rfl) rfl #[.string a0, .string a1] rfl (by (try simp only [List.map_toArray, List.map_cons, List.map_nil]); first | done | rfl | (simp only [List.length_drop, List.length_take]; rfl)) ?_; (with_reducible refine (stringslite_TrimSuffix.calls a0 a1 t189 _ A3.out).mono ?_); rintro e w' ⟨rfl, ⟨nd, rfl⟩⟩; refine ⟨_, rfl, ?_⟩))
 go_ret
 exact ⟨by first | rfl | (simp; done) | (simp [*]; done), by repeat (first | exact Drawn0.refl _ | apply Drawn0.step)⟩

def zrP.f (a0 : Int) (a1 : Int) (a2 : Int) : Option (Bool) := if a0 ≥ a1 then (some (decide (a0 ≤ a2))) else (some false)
theorem zrP.calls (a0 : Int) (a1 : Int) (a2 : Int) (r : Bool) (w : World) (h : zrP.f a0 a1 a2 = some r) :
  Calls Tryd.prog 46 #[.int .i64 a0, .int .i64 a1, .int .i64 a2] w fun e w' => e = .returned (.bool r) ∧ Drawn0 w w' := by
 have H : (if a0 ≥ a1 then (some (decide (a0 ≤ a2))) else (some false)) = some r := h
 clear h
 by_cases c4 : a0 ≥ a1
 ·rw [if_pos c4] at H
  have c4b0 : decide (a1 ≤ a0) = true := decide_eq_true c4
  clear c4
  obtain rfl := Option.some.inj H
  go_enter Tryd.func46, Tryd.ntmps46
  go_wp2
  go_ret
  exact ⟨by first | rfl | (simp; done) | (simp [*]; done), by repeat (first | exact Drawn0.refl _ | apply Drawn0.step)⟩
 ·rw [if_neg c4] at H
  have c4b0 : decide (a1 ≤ a0) = false := decide_eq_false c4
  clear c4
  obtain rfl := Option.some.inj H
  go_enter Tryd.func46, Tryd.ntmps46
  go_wp2
  go_ret
  exact ⟨by first | rfl | (simp; done) | (simp [*]; done), by repeat (first | exact Drawn0.refl _ | apply Drawn0.step)⟩

def zdR.f (a0_0 : Int) (a0_1 : Int) (a0_2 : Int) : Option (Bool) := (zrP.f a0_0 (-131072) 131072).bind fun t191 => (if t191 = true then ((zrP.f a0_1 (-131072) 131072).bind fun t192 => (if t192 = true then ((zrP.f a0_2 0 10).bind fun t193 => (if t193 = true then (if a0_2 = 0 then (some true) else (if (Go.bits .and .i64 a0_0 1) = 1 then (some true) else (some ((Go.bits .and .i64 a0_1 1) == 1)))) else (some false))) else (some false))) else (some false))
theorem zdR.calls (a0_0 : Int) (a0_1 : Int) (a0_2 : Int) (r : Bool) (w : World) (h : zdR.f a0_0 a0_1 a0_2 = some r) :
  Calls Tryd.prog 28 #[.agg #[.int .i64 a0_0, .int .i64 a0_1, .int .i64 a0_2]] w fun e w' => e = .returned (.bool r) ∧ Below w.heap.size w w' := by
 have hu23 := Tryd.underlying23
 have HB := zpS (Below.refl w.heap.size w)
 have H : ((zrP.f a0_0 (-131072) 131072).bind fun t191 => (if t191 = true then ((zrP.f a0_1 (-131072) 131072).bind fun t192 => (if t192 = true then ((zrP.f a0_2 0 10).bind fun t193 => (if t193 = true then (if a0_2 = 0 then (some true) else (if (Go.bits .and .i64 a0_0 1) = 1 then (some true) else (some ((Go.bits .and .i64 a0_1 1) == 1)))) else (some false))) else (some false))) else (some false))) = some r := h
 clear h
 replace H := Option.bind_eq_some_iff.mp H
 obtain ⟨t191, A20, H⟩ := H
 replace H : (if t191 = true then ((zrP.f a0_1 (-131072) 131072).bind fun t192 => (if t192 = true then ((zrP.f a0_2 0 10).bind fun t193 => (if t193 = true then (if a0_2 = 0 then (some true) else (if (Go.bits .and .i64 a0_0 1) = 1 then (some true) else (some ((Go.bits .and .i64 a0_1 1) == 1)))) else (some false))) else (some false))) else (some false)) = some r := H
 have A2 := zpS A20
 clear A20
 by_cases c3 : t191 = true
 ·subst c3
  have H1 : ((zrP.f a0_1 (-131072) 131072).bind fun t192 => (if t192 = true then ((zrP.f a0_2 0 10).bind fun t193 => (if t193 = true then (if a0_2 = 0 then (some true) else (if (Go.bits .and .i64 a0_0 1) = 1 then (some true) else (some ((Go.bits .and .i64 a0_1 1) == 1)))) else (some false))) else (some false))) = some r := by rw [if_pos rfl] at H; exact H
  clear H
  have H := H1
  clear H1
  replace H := Option.bind_eq_some_iff.mp H
  obtain ⟨t192, A40, H⟩ := H
  replace H : (if t192 = true then ((zrP.f a0_2 0 10).bind fun t193 => (if t193 = true then (if a0_2 = 0 then (some true) else (if (Go.bits .and .i64 a0_0 1) = 1 then (some true) else (some ((Go.bits .and .i64 a0_1 1) == 1)))) else (some false))) else (some false)) = some r := H
  have A4 := zpS A40
  clear A40
  by_cases c5 : t192 = true
  ·subst c5
   have H1 : ((zrP.f a0_2 0 10).bind fun t193 => (if t193 = true then (if a0_2 = 0 then (some true) else (if (Go.bits .and .i64 a0_0 1) = 1 then (some true) else (some ((Go.bits .and .i64 a0_1 1) == 1)))) else (some false))) = some r := by rw [if_pos rfl] at H; exact H
   clear H
   have H := H1
   clear H1
   replace H := Option.bind_eq_some_iff.mp H
   obtain ⟨t193, A60, H⟩ := H
   replace H : (if t193 = true then (if a0_2 = 0 then (some true) else (if (Go.bits .and .i64 a0_0 1) = 1 then (some true) else (some ((Go.bits .and .i64 a0_1 1) == 1)))) else (some false)) = some r := H
   have A6 := zpS A60
   clear A60
   by_cases c7 : t193 = true
   ·subst c7
    have H1 : (if a0_2 = 0 then (some true) else (if (Go.bits .and .i64 a0_0 1) = 1 then (some true) else (some ((Go.bits .and .i64 a0_1 1) == 1)))) = some r := by rw [if_pos rfl] at H; exact H
    clear H
    have H := H1
    clear H1
    by_cases c8 : a0_2 = 0
    ·rw [if_pos c8] at H
     have c8b0 : (a0_2 == 0) = true := beq_iff_eq.mpr c8
     have c8b1 : (a0_2 != 0) = false := bne_eq_false_iff_eq.mpr c8
     clear c8
     obtain rfl := Option.some.inj H
     go_enter Tryd.func28, Tryd.ntmps28
     go_wp2_with (first | ((with_reducible refine zpZ (N := 1) rfl ?_); refine bx_ 1 #[.int .i64 a0_0, .int .i64 a0_1, .int .i64 a0_2] 23 ?_; intro gb190 hg w9 hbox hb; have n0_ := (ns_ hb); have n1_ := zpS (hbox); have n2_ := (ng_ hg); have n3_ := n2_; clear HB; have HB := n0_; have BK190 := n1_; have GW190 := n2_; have GE190 := n3_; clear n0_ n1_ n2_ n3_; clear hb hbox hg; obtain ⟨hcz10_0, hcz10_1, hcz10_2⟩ := zdT BK190.out; obtain ⟨hfz10_0, hfz10_1, hfz10_2⟩ := zqD BK190.out) | ((with_reducible refine zgK (f := 46) rfl ?_); refine zqQ (some 5) rfl rfl Tryd.func46 (by kernel_rfl) rfl #[.int .i64 a0_0, .int .i64 (-131072), .int .i64 131072] rfl (by (try simp only [List.map_toArray, List.map_cons, List.map_nil]); first | done | rfl | (simp only [List.length_drop, List.length_take]; rfl)) ?_; (with_reducible refine (zrP.calls a0_0 (-131072) 131072 true _ A2.out).mono ?_); rintro e w' ⟨rfl, ⟨nd, rfl⟩⟩; refine ⟨_, rfl, ?_⟩) | (go_at_call 46; (with_reducible refine (zrP.calls a0_1 (-131072) 131072 true _ A4.out).mono ?_); rintro e w' ⟨rfl, ⟨nd, rfl⟩⟩) | (go_at_call 46; (with_reducible refine (zrP.calls a0_2 0 10 true _ A6.out).mono ?_); rintro e w' ⟨rfl, ⟨nd, rfl⟩⟩))
     go_ret
     exact ⟨by first | rfl | (simp [ziS, znJ] <;> rfl) | (simp [*, ziS, znJ] <;> rfl), bb_⟩
    ·rw [if_neg c8] at H
     have c8b0 : (a0_2 == 0) = false := beq_eq_false_iff_ne.mpr c8
     have c8b1 : (a0_2 != 0) = true := bne_iff_ne.mpr c8
     by_cases c11 : (Go.bits .and .i64 a0_0 1) = 1
     ·rw [if_pos c11] at H
      have c11b0 : ((Go.bits .and .i64 a0_0 1) == 1) = true := beq_iff_eq.mpr c11
      have c11b1 : ((Go.bits .and .i64 a0_0 1) != 1) = false := bne_eq_false_iff_eq.mpr c11
      clear c11
      obtain rfl := Option.some.inj H
      go_enter Tryd.func28, Tryd.ntmps28
      go_wp2_with (first | ((with_reducible refine zpZ (N := 1) rfl ?_); refine bx_ 1 #[.int .i64 a0_0, .int .i64 a0_1, .int .i64 a0_2] 23 ?_; intro gb190 hg w12 hbox hb; have n0_ := (ns_ hb); have n1_ := zpS (hbox); have n2_ := (ng_ hg); have n3_ := n2_; clear HB; have HB := n0_; have BK190 := n1_; have GW190 := n2_; have GE190 := n3_; clear n0_ n1_ n2_ n3_; clear hb hbox hg; obtain ⟨hcz13_0, hcz13_1, hcz13_2⟩ := zdT BK190.out; obtain ⟨hfz13_0, hfz13_1, hfz13_2⟩ := zqD BK190.out) | ((with_reducible refine zgK (f := 46) rfl ?_); refine zqQ (some 5) rfl rfl Tryd.func46 (by kernel_rfl) rfl #[.int .i64 a0_0, .int .i64 (-131072), .int .i64 131072] rfl (by (try simp only [List.map_toArray, List.map_cons, List.map_nil]); first | done | rfl | (simp only [List.length_drop, List.length_take]; rfl)) ?_; (with_reducible refine (zrP.calls a0_0 (-131072) 131072 true _ A2.out).mono ?_); rintro e w' ⟨rfl, ⟨nd, rfl⟩⟩; refine ⟨_, rfl, ?_⟩) | (go_at_call 46; (with_reducible refine (zrP.calls a0_1 (-131072) 131072 true _ A4.out).mono ?_); rintro e w' ⟨rfl, ⟨nd, rfl⟩⟩) | (go_at_call 46; (with_reducible refine (zrP.calls a0_2 0 10 true _ A6.out).mono ?_); rintro e w' ⟨rfl, ⟨nd, rfl⟩⟩))
      go_ret
      exact ⟨by first | rfl | (simp [ziS, znJ] <;> rfl) | (simp [*, ziS, znJ] <;> rfl), bb_⟩
     ·rw [if_neg c11] at H
      have c11b0 : ((Go.bits .and .i64 a0_0 1) == 1) = false := beq_eq_false_iff_ne.mpr c11
      have c11b1 : ((Go.bits .and .i64 a0_0 1) != 1) = true := bne_iff_ne.mpr c11
      obtain rfl := Option.some.inj H
      go_enter Tryd.func28, Tryd.ntmps28
      go_wp2_with (first | ((with_reducible refine zpZ (N := 1) rfl ?_); refine bx_ 1 #[.int .i64 a0_0, .int .i64 a0_1, .int .i64 a0_2] 23 ?_; intro gb190 hg w14 hbox hb; have n0_ := (ns_ hb); have n1_ := zpS (hbox); have n2_ := (ng_ hg); have n3_ := n2_; clear HB; have HB := n0_; have BK190 := n1_; have GW190 := n2_; have GE190 := n3_; clear n0_ n1_ n2_ n3_; clear hb hbox hg; obtain ⟨hcz15_0, hcz15_1, hcz15_2⟩ := zdT BK190.out; obtain ⟨hfz15_0, hfz15_1, hfz15_2⟩ := zqD BK190.out) | ((with_reducible refine zgK (f := 46) rfl ?_); refine zqQ (some 5) rfl rfl Tryd.func46 (by kernel_rfl) rfl #[.int .i64 a0_0, .int .i64 (-131072), .int .i64 131072] rfl (by (try simp only [List.map_toArray, List.map_cons, List.map_nil]); first | done | rfl | (simp only [List.length_drop, List.length_take]; rfl)) ?_; (with_reducible refine (zrP.calls a0_0 (-131072) 131072 true _ A2.out).mono ?_); rintro e w' ⟨rfl, ⟨nd, rfl⟩⟩; refine ⟨_, rfl, ?_⟩) | (go_at_call 46; (with_reducible refine (zrP.calls a0_1 (-131072) 131072 true _ A4.out).mono ?_); rintro e w' ⟨rfl, ⟨nd, rfl⟩⟩) | (go_at_call 46; (with_reducible refine (zrP.calls a0_2 0 10 true _ A6.out).mono ?_); rintro e w' ⟨rfl, ⟨nd, rfl⟩⟩))
      go_ret
      exact ⟨by first | rfl | (simp [ziS, znJ] <;> rfl) | (simp [*, ziS, znJ] <;> rfl), bb_⟩
   ·replace c7 := Bool.eq_false_iff.mpr c7
    subst c7
    have H1 : (some false) = some r := by rw [if_neg (show ¬ (false = true) by decide)] at H; exact H
    clear H
    have H := H1
    clear H1
    obtain rfl := Option.some.inj H
    go_enter Tryd.func28, Tryd.ntmps28
    go_wp2_with (first | ((with_reducible refine zpZ (N := 1) rfl ?_); refine bx_ 1 #[.int .i64 a0_0, .int .i64 a0_1, .int .i64 a0_2] 23 ?_; intro gb190 hg w16 hbox hb; have n0_ := (ns_ hb); have n1_ := zpS (hbox); have n2_ := (ng_ hg); have n3_ := n2_; clear HB; have HB := n0_; have BK190 := n1_; have GW190 := n2_; have GE190 := n3_; clear n0_ n1_ n2_ n3_; clear hb hbox hg; obtain ⟨hcz17_0, hcz17_1, hcz17_2⟩ := zdT BK190.out; obtain ⟨hfz17_0, hfz17_1, hfz17_2⟩ := zqD BK190.out) | ((with_reducible refine zgK (f := 46) rfl ?_); refine zqQ (some 5) rfl rfl Tryd.func46 (by kernel_rfl) rfl #[.int .i64 a0_0, .int .i64 (-131072), .int .i64 131072] rfl (by (try simp only [List.map_toArray, List.map_cons, List.map_nil]); first | done | rfl | (simp only [List.length_drop, List.length_take]; rfl)) ?_; (with_reducible refine (zrP.calls a0_0 (-131072) 131072 true _ A2.out).mono ?_); rintro e w' ⟨rfl, ⟨nd, rfl⟩⟩; refine ⟨_, rfl, ?_⟩) | (go_at_call 46; (with_reducible refine (zrP.calls a0_1 (-131072) 131072 true _ A4.out).mono ?_); rintro e w' ⟨rfl, ⟨nd, rfl⟩⟩) | (go_at_call 46; (with_reducible refine (zrP.calls a0_2 0 10 false _ A6.out).mono ?_); rintro e w' ⟨rfl, ⟨nd, rfl⟩⟩))
    go_ret
    exact ⟨by first | rfl | (simp [ziS, znJ] <;> rfl) | (simp [*, ziS, znJ] <;> rfl), bb_⟩
  ·replace c5 := Bool.eq_false_iff.mpr c5
   subst c5
   have H1 : (some false) = some r := by rw [if_neg (show ¬ (false = true) by decide)] at H; exact H
   clear H
   have H := H1
   clear H1
   obtain rfl := Option.some.inj H
   go_enter Tryd.func28, Tryd.ntmps28
   go_wp2_with (first | ((with_reducible refine zpZ (N := 1) rfl ?_); refine bx_ 1 #[.int .i64 a0_0, .int .i64 a0_1, .int .i64 a0_2] 23 ?_; intro gb190 hg w18 hbox hb; have n0_ := (ns_ hb); have n1_ := zpS (hbox); have n2_ := (ng_ hg); have n3_ := n2_; clear HB; have HB := n0_; have BK190 := n1_; have GW190 := n2_; have GE190 := n3_; clear n0_ n1_ n2_ n3_; clear hb hbox hg; obtain ⟨hcz19_0, hcz19_1, hcz19_2⟩ := zdT BK190.out; obtain ⟨hfz19_0, hfz19_1, hfz19_2⟩ := zqD BK190.out) | ((with_reducible refine zgK (f := 46) rfl ?_); refine zqQ (some 5) rfl rfl Tryd.func46 (by kernel_rfl) rfl #[.int .i64 a0_0, .int .i64 (-131072), .int .i64 131072] rfl (by (try simp only [List.map_toArray, List.map_cons, List.map_nil]); first | done | rfl | (simp only [List.length_drop, List.length_take]; rfl)) ?_; (with_reducible refine (zrP.calls a0_0 (-131072) 131072 true _ A2.out).mono ?_); rintro e w' ⟨rfl, ⟨nd, rfl⟩⟩; refine ⟨_, rfl, ?_⟩) | (go_at_call 46; (with_reducible refine (zrP.calls a0_1 (-131072) 131072 false _ A4.out).mono ?_); rintro e w' ⟨rfl, ⟨nd, rfl⟩⟩))
   go_ret
   exact ⟨by first | rfl | (simp [ziS, znJ] <;> rfl) | (simp [*, ziS, znJ] <;> rfl), bb_⟩
 ·replace c3 := Bool.eq_false_iff.mpr c3
  subst c3
  have H1 : (some false) = some r := by rw [if_neg (show ¬ (false = true) by decide)] at H; exact H
  clear H
  have H := H1
  clear H1
  obtain rfl := Option.some.inj H
  go_enter Tryd.func28, Tryd.ntmps28
  go_wp2_with (first | ((with_reducible refine zpZ (N := 1) rfl ?_); refine bx_ 1 #[.int .i64 a0_0, .int .i64 a0_1, .int .i64 a0_2] 23 ?_; intro gb190 hg w20 hbox hb; have n0_ := (ns_ hb); have n1_ := zpS (hbox); have n2_ := (ng_ hg); have n3_ := n2_; clear HB; have HB := n0_; have BK190 := n1_; have GW190 := n2_; have GE190 := n3_; clear n0_ n1_ n2_ n3_; clear hb hbox hg; obtain ⟨hcz21_0, hcz21_1, hcz21_2⟩ := zdT BK190.out; obtain ⟨hfz21_0, hfz21_1, hfz21_2⟩ := zqD BK190.out) | ((with_reducible refine zgK (f := 46) rfl ?_); refine zqQ (some 5) rfl rfl Tryd.func46 (by kernel_rfl) rfl #[.int .i64 a0_0, .int .i64 (-131072), .int .i64 131072] rfl (by (try simp only [List.map_toArray, List.map_cons, List.map_nil]); first | done | rfl | (simp only [List.length_drop, List.length_take]; rfl)) ?_; (with_reducible refine (zrP.calls a0_0 (-131072) 131072 false _ A2.out).mono ?_); rintro e w' ⟨rfl, ⟨nd, rfl⟩⟩; refine ⟨_, rfl, ?_⟩))
  go_ret
  exact ⟨by first | rfl | (simp [ziS, znJ] <;> rfl) | (simp [*, ziS, znJ] <;> rfl), bb_⟩

def strconv_FormatInt.f (a0 a1 : Int) : Option ByteArray := if a1 = 10 then (if -9223372036854775808 ≤ a0 ∧ a0 ≤ 9223372036854775807 then some ⟨(Lib.itoa a0).toArray⟩ else none) else none
theorem strconv_FormatInt.calls (a0 a1 : Int) (r : ByteArray) (w : World) (hG : LaidV w) (h : strconv_FormatInt.f a0 a1 = some r) :
  Calls Tryd.prog 56 #[.int .i64 a0, .int .i64 a1] w fun e w' => e = .returned (.string r) ∧ Below w.heap.size w w' := by
 unfold strconv_FormatInt.f at h
 by_cases h1 : a1 = 10
 ·rw [if_pos h1] at h
  subst h1
  by_cases h2 : -9223372036854775808 ≤ a0 ∧ a0 ≤ 9223372036854775807
  ·rw [if_pos h2] at h
   obtain rfl := Option.some.inj h
   refine (Tryd.strconv_FormatInt_10 a0 h2.1 h2.2 w hG.v3).mono ?_
   rintro e w' ⟨rfl, k, os, rfl⟩
   exact ⟨rfl, rfl, rfl, rfl, by show w.heap.size ≤ (w.heap ++ os).size; rw [Array.size_append]; omega, fun i hi => Array.getElem?_append_left hi⟩
  ·rw [if_neg h2] at h; cases h
 ·rw [if_neg h1] at h; cases h

def zcM.f (a0 : Int) : Option (ByteArray) := (strconv_FormatInt.f a0 10).bind fun t194 => (some t194)
theorem zcM.calls (a0 : Int) (r : ByteArray) (w : World) (hG : LaidV w) (h : zcM.f a0 = some r) :
  Calls Tryd.prog 42 #[.int .i64 a0] w fun e w' => e = .returned (.string r) ∧ Below w.heap.size w w' := by
 have HB := zpS (Below.refl w.heap.size w)
 have H : ((strconv_FormatInt.f a0 10).bind fun t194 => (some t194)) = some r := h
 clear h
 replace H := Option.bind_eq_some_iff.mp H
 obtain ⟨t194, A20, H⟩ := H
 replace H : (some t194) = some r := H
 have A2 := zpS A20
 clear A20
 obtain rfl := Option.some.inj H
 go_enter Tryd.func42, Tryd.ntmps42
 go_wp2_with (first | ((with_reducible refine zgK (f := 56) rfl ?_); refine zqQ (some 4) rfl rfl Tryd.func56 (by kernel_rfl) rfl #[.int .i64 a0, .int .i64 10] rfl (by (try simp only [List.map_toArray, List.map_cons, List.map_nil]); first | done | rfl | (simp only [List.length_drop, List.length_take]; rfl)) ?_; (with_reducible refine (strconv_FormatInt.calls a0 10 t194 _ ?side1 A2.out).mono ?_); (case side1 => exact LaidV.below hG bb_); rintro e w3 ⟨rfl, hb⟩; refine ⟨_, rfl, ?_⟩; have n0_ := (ns_ hb); clear HB; have HB := n0_; clear n0_; (try clear hb); (try clear hb2)))
 go_ret
 exact ⟨by first | rfl | (simp [ziS, znJ] <;> rfl) | (simp [*, ziS, znJ] <;> rfl), bb_⟩

def impl_abs.f (a0 : Int) : Option (Int) := some (mx a0 (wrap64 (-a0)))
theorem impl_abs.calls (a0 : Int) (r : Int) (w : World) (h : impl_abs.f a0 = some r) :
  Calls Tryd.prog 47 #[.int .i64 a0] w fun e w' => e = .returned (.int .i64 r) ∧ Below w.heap.size w w' := by
 have HB := zpS (Below.refl w.heap.size w)
 have H : (some (mx a0 (wrap64 (-a0)))) = some r := h
 clear h
 obtain ⟨ji2, hji2⟩ : ∃ j_ : Int, (mx a0 (wrap64 (-a0))) = j_ := ⟨_, rfl⟩
 replace H : (some ji2) = some r := by first | (rw [hji2] at H; exact H) | (simp only [hji2] at H ⊢; exact H)
 have hji2_ : (if a0 < (wrap64 (-a0)) then (wrap64 (-a0)) else a0) = ji2 := hji2
 obtain rfl := Option.some.inj H
 go_enter Tryd.func47, Tryd.ntmps47
 go_wp2
 go_ret
 exact ⟨by first | rfl | (simp [ziS, znJ] <;> rfl) | (simp only [← hji2]; first | rfl | (simp [ziS, znJ] <;> rfl)) | (simp [*, ziS, znJ] <;> rfl), bb_⟩

mutual
def zjG.j0 : Nat → ByteArray → Bool → Int → Int → Int → Option (ByteArray)
 | 0, _, _, _, _, _ => none
 | k + 1, x3, x8, x196000, x196001, x196002 => if x8 = true then ((zcM.f x196001).bind fun t197 => (if t197.size + 1 ≤ 9223372036854775807 then (if x196002 = 0 then (some (t197 ++ (⟨#[114]⟩ : ByteArray))) else (if 0 ≤ x196002 then ((zcM.f (shl .i64 1 x196002)).bind fun t198 => (if 1 + t198.size ≤ 9223372036854775807 then (if (t197 ++ (⟨#[114]⟩ : ByteArray)).size + ((⟨#[47]⟩ : ByteArray) ++ t198).size ≤ 9223372036854775807 then (some ((t197 ++ (⟨#[114]⟩ : ByteArray)) ++ ((⟨#[47]⟩ : ByteArray) ++ t198))) else (none)) else (none))) else (none))) else (none))) else (if x196001 = 0 then (if x196002 = 0 then (some x3) else (if 0 ≤ x196002 then ((zcM.f (shl .i64 1 x196002)).bind fun t199 => (if 1 + t199.size ≤ 9223372036854775807 then (if x3.size + ((⟨#[47]⟩ : ByteArray) ++ t199).size ≤ 9223372036854775807 then (some (x3 ++ ((⟨#[47]⟩ : ByteArray) ++ t199))) else (none)) else (none))) else (none))) else (if x196001 < 0 then (zjG.j1 k x3 (⟨#[45]⟩ : ByteArray) x196000 x196001 x196002) else (zjG.j1 k x3 (⟨#[43]⟩ : ByteArray) x196000 x196001 x196002)))
def zjG.j1 : Nat → ByteArray → ByteArray → Int → Int → Int → Option (ByteArray)
 | 0, _, _, _, _, _ => none
 | k + 1, x3, x4, x196000, x196001, x196002 => (impl_abs.f x196001).bind fun t200 => ((zcM.f t200).bind fun t201 => (if x4.size + t201.size ≤ 9223372036854775807 then (if (x4 ++ t201).size + 1 ≤ 9223372036854775807 then (if x3.size + ((x4 ++ t201) ++ (⟨#[114]⟩ : ByteArray)).size ≤ 9223372036854775807 then (if x196002 = 0 then (some (x3 ++ ((x4 ++ t201) ++ (⟨#[114]⟩ : ByteArray)))) else (if 1 + (x3 ++ ((x4 ++ t201) ++ (⟨#[114]⟩ : ByteArray))).size ≤ 9223372036854775807 then (if ((⟨#[40]⟩ : ByteArray) ++ (x3 ++ ((x4 ++ t201) ++ (⟨#[114]⟩ : ByteArray)))).size + 1 ≤ 9223372036854775807 then (if 0 ≤ x196002 then ((zcM.f (shl .i64 1 x196002)).bind fun t202 => (if 1 + t202.size ≤ 9223372036854775807 then (if (((⟨#[40]⟩ : ByteArray) ++ (x3 ++ ((x4 ++ t201) ++ (⟨#[114]⟩ : ByteArray)))) ++ (⟨#[41]⟩ : ByteArray)).size + ((⟨#[47]⟩ : ByteArray) ++ t202).size ≤ 9223372036854775807 then (some ((((⟨#[40]⟩ : ByteArray) ++ (x3 ++ ((x4 ++ t201) ++ (⟨#[114]⟩ : ByteArray)))) ++ (⟨#[41]⟩ : ByteArray)) ++ ((⟨#[47]⟩ : ByteArray) ++ t202))) else (none)) else (none))) else (none)) else (none)) else (none))) else (none)) else (none)) else (none)))
end
def zjG.f (k : Nat) (a0_0 : Int) (a0_1 : Int) (a0_2 : Int) : Option (ByteArray) := (zcM.f a0_0).bind fun t196 => (if a0_0 = 0 then (zjG.j0 k t196 (a0_1 != 0) a0_0 a0_1 a0_2) else (zjG.j0 k t196 false a0_0 a0_1 a0_2))
theorem zjG.mono_l : ∀ k, (∀ y0 y1 y2 y3 y4, LeO (zjG.j0 k y0 y1 y2 y3 y4) (zjG.j0 (k + 1) y0 y1 y2 y3 y4)) ∧ (∀ y0 y1 y2 y3 y4, LeO (zjG.j1 k y0 y1 y2 y3 y4) (zjG.j1 (k + 1) y0 y1 y2 y3 y4))
 | 0 => ⟨fun _ _ _ _ _ r h => by simp [zjG.j0] at h, fun _ _ _ _ _ r h => by simp [zjG.j1] at h⟩
 | k + 1 => by
  obtain ⟨ih0, ih1⟩ := zjG.mono_l k
  refine ⟨?_, ?_⟩
  ·intro y0 y1 y2 y3 y4
   unfold zjG.j0
   repeat' first
   | (with_reducible exact ih0 _ _ _ _ _)
   | (with_reducible exact ih1 _ _ _ _ _)
   | (with_reducible exact LeO.refl _)
   | (with_reducible exact LeO.none _)
   | (with_reducible refine LeO.ite ?_ ?_)
   | (with_reducible refine LeO.bind ?_ (fun _ => ?_))
   | exact ih0 _ _ _ _ _
   | exact ih1 _ _ _ _ _
   | exact LeO.none _
   | refine LeO.ite ?_ ?_
   | refine LeO.bind ?_ (fun _ => ?_)
  ·intro y0 y1 y2 y3 y4
   unfold zjG.j1
   repeat' first
   | (with_reducible exact ih0 _ _ _ _ _)
   | (with_reducible exact ih1 _ _ _ _ _)
   | (with_reducible exact LeO.refl _)
   | (with_reducible exact LeO.none _)
   | (with_reducible refine LeO.ite ?_ ?_)
   | (with_reducible refine LeO.bind ?_ (fun _ => ?_))
   | exact ih0 _ _ _ _ _
   | exact ih1 _ _ _ _ _
   | exact LeO.none _
   | refine LeO.ite ?_ ?_
   | refine LeO.bind ?_ (fun _ => ?_)
theorem zjG.mono : ∀ a0 a1 a2 k, LeO (zjG.f k a0 a1 a2) (zjG.f (k + 1) a0 a1 a2) := by
 intro a0 a1 a2 k
 obtain ⟨ih0, ih1⟩ := zjG.mono_l k
 unfold zjG.f
 repeat' first
   | (with_reducible exact ih0 _ _ _ _ _)
   | (with_reducible exact ih1 _ _ _ _ _)
   | (with_reducible exact LeO.refl _)
   | (with_reducible exact LeO.none _)
   | (with_reducible refine LeO.ite ?_ ?_)
   | (with_reducible refine LeO.bind ?_ (fun _ => ?_))
   | exact ih0 _ _ _ _ _
   | exact ih1 _ _ _ _ _
   | exact LeO.none _
   | refine LeO.ite ?_ ?_
   | refine LeO.bind ?_ (fun _ => ?_)
theorem zjG.calls (k : Nat) (a0_0 : Int) (a0_1 : Int) (a0_2 : Int) (r : ByteArray) (w : World) (hG : LaidV w) (h : zjG.f k a0_0 a0_1 a0_2 = some r) :
  Calls Tryd.prog 29 #[.agg #[.int .i64 a0_0, .int .i64 a0_1, .int .i64 a0_2]] w fun e w' => e = .returned (.string r) ∧ Below w.heap.size w w' := by
 have hu23 := Tryd.underlying23
 have HB := zpS (Below.refl w.heap.size w)
 have H : ((zcM.f a0_0).bind fun t196 => (if a0_0 = 0 then (zjG.j0 k t196 (a0_1 != 0) a0_0 a0_1 a0_2) else (zjG.j0 k t196 false a0_0 a0_1 a0_2))) = some r := h
 clear h
 replace H := Option.bind_eq_some_iff.mp H
 obtain ⟨t196, A20, H⟩ := H
 replace H : (if a0_0 = 0 then (zjG.j0 k t196 (a0_1 != 0) a0_0 a0_1 a0_2) else (zjG.j0 k t196 false a0_0 a0_1 a0_2)) = some r := H
 have A2 := zpS A20
 clear A20
 have HC3 := zpS H
 clear H
 go_enter Tryd.func29, Tryd.ntmps29
 go_upto_region 2 with (first | ((with_reducible refine zpZ (N := 1) rfl ?_); refine bx_ 1 #[.int .i64 a0_0, .int .i64 a0_1, .int .i64 a0_2] 23 ?_; intro gb195 hg w4 hbox hb; have n0_ := (ns_ hb); have n1_ := zpS (hbox); have n2_ := (ng_ hg); have n3_ := n2_; clear HB; have HB := n0_; have BK195 := n1_; have GW195 := n2_; have GE195 := n3_; clear n0_ n1_ n2_ n3_; clear hb hbox hg; obtain ⟨hcz5_0, hcz5_1, hcz5_2⟩ := zdT BK195.out; obtain ⟨hfz5_0, hfz5_1, hfz5_2⟩ := zqD BK195.out) | ((with_reducible refine zgK (f := 42) rfl ?_); refine zqQ (some 7) rfl rfl Tryd.func42 (by kernel_rfl) rfl #[.int .i64 a0_0] rfl (by (try simp only [List.map_toArray, List.map_cons, List.map_nil]); first | done | rfl | (simp only [List.length_drop, List.length_take]; rfl)) ?_; (with_reducible refine (zcM.calls a0_0 t196 _ ?side1 A2.out).mono ?_); (case side1 => exact LaidV.below hG bb_); rintro e w6 ⟨rfl, hb⟩; refine ⟨_, rfl, ?_⟩; have n0_ := zpS (zgM (g := gb195) (o := .cells #[.int .i64 a0_0, .int .i64 a0_1, .int .i64 a0_2] 23 (0, 0)) bk_ hb); have n1_ := (ns_ hb); clear BK195; clear HB; have BK195 := n0_; have HB := n1_; clear n0_ n1_; (try clear hb); (try clear hb2)))
 (try simp only [Act.put, set_a_, set_b_, set_c_])
 go_cut [8] (fun v8 wc => ∃ (kq : Nat) (x8_2 : Bool), v8 = .bool x8_2 ∧ Aside0 (zjG.j0 kq t196 x8_2 a0_0 a0_1 a0_2 = some r) ∧ Aside0 (kq ≤ k) ∧ Aside0 (wc.heap[gb195]? = some (.cells #[.int .i64 a0_0, .int .i64 a0_1, .int .i64 a0_2] 23 (0, 0))) ∧ Aside0 (Below w.heap.size w wc))
 case first =>
  have H := HC3.out
  clear HC3
  by_cases c7 : a0_0 = 0
  ·rw [if_pos c7] at H
   have c7b0 : (a0_0 == 0) = true := beq_iff_eq.mpr c7
   have c7b1 : (a0_0 != 0) = false := bne_eq_false_iff_eq.mpr c7
   clear c7
   (first | rw [c7b0] | (simp only [zcN, ziJ]; rw [c7b0]) | skip)
   have H' := zpS H
   clear H
   obtain ⟨hcz8_0, hcz8_1, hcz8_2⟩ := zdT BK195.out
   obtain ⟨hfz8_0, hfz8_1, hfz8_2⟩ := zqD BK195.out
   go_wp2
   go_meet
   case rel => exact ⟨_, ((a0_1 != 0)), (by first | rfl | (simp; done) | (simp [*]; done)), H', ⟨by first | omega | exact Nat.le_refl _⟩, ⟨bk_⟩, ⟨bb_⟩⟩
  ·rw [if_neg c7] at H
   have c7b0 : (a0_0 == 0) = false := beq_eq_false_iff_ne.mpr c7
   have c7b1 : (a0_0 != 0) = true := bne_iff_ne.mpr c7
   (first | rw [c7b0] | (simp only [zcN, ziJ]; rw [c7b0]) | skip)
   have H' := zpS H
   clear H
   obtain ⟨hcz9_0, hcz9_1, hcz9_2⟩ := zdT BK195.out
   obtain ⟨hfz9_0, hfz9_1, hfz9_2⟩ := zqD BK195.out
   go_wp2
   go_meet
   case rel => exact ⟨_, (false), (by first | rfl | (simp; done) | (simp [*]; done)), H', ⟨by first | omega | exact Nat.le_refl _⟩, ⟨bk_⟩, ⟨bb_⟩⟩
 case rest =>
  clear HC3
  try clear c2
  try clear p2
  try clear c4
  try clear c7
  try clear c7b0
  try clear c7b1
  try clear hcz5_0
  try clear hcz5_1
  try clear hcz5_2
  try clear hcz8_0
  try clear hcz8_1
  try clear hcz8_2
  try clear hcz9_0
  try clear hcz9_1
  try clear hcz9_2
  try clear hfz5_0
  try clear hfz5_1
  try clear hfz5_2
  try clear hfz8_0
  try clear hfz8_1
  try clear hfz8_2
  try clear hfz9_0
  try clear hfz9_1
  try clear hfz9_2
  obtain ⟨kq, x8_2, rfl, HA, HJ2, BK195, HB⟩ := hcut
  cases kq with
  | zero => exact absurd HA.out (by simp [zjG.j0])
  | succ kj2 =>
   have H := HA.out
   clear HA
   simp only [zjG.j0] at H
   by_cases c10 : x8_2 = true
   ·subst c10
    have H1 : ((zcM.f a0_1).bind fun t197 => (if t197.size + 1 ≤ 9223372036854775807 then (if a0_2 = 0 then (some (t197 ++ (⟨#[114]⟩ : ByteArray))) else (if 0 ≤ a0_2 then ((zcM.f (shl .i64 1 a0_2)).bind fun t198 => (if 1 + t198.size ≤ 9223372036854775807 then (if (t197 ++ (⟨#[114]⟩ : ByteArray)).size + ((⟨#[47]⟩ : ByteArray) ++ t198).size ≤ 9223372036854775807 then (some ((t197 ++ (⟨#[114]⟩ : ByteArray)) ++ ((⟨#[47]⟩ : ByteArray) ++ t198))) else (none)) else (none))) else (none))) else (none))) = some r := by rw [if_pos rfl] at H; exact H
    clear H
    have H := H1
    clear H1
    replace H := Option.bind_eq_some_iff.mp H
    obtain ⟨t197, A110, H⟩ := H
    replace H : (if t197.size + 1 ≤ 9223372036854775807 then (if a0_2 = 0 then (some (t197 ++ (⟨#[114]⟩ : ByteArray))) else (if 0 ≤ a0_2 then ((zcM.f (shl .i64 1 a0_2)).bind fun t198 => (if 1 + t198.size ≤ 9223372036854775807 then (if (t197 ++ (⟨#[114]⟩ : ByteArray)).size + ((⟨#[47]⟩ : ByteArray) ++ t198).size ≤ 9223372036854775807 then (some ((t197 ++ (⟨#[114]⟩ : ByteArray)) ++ ((⟨#[47]⟩ : ByteArray) ++ t198))) else (none)) else (none))) else (none))) else (none)) = some r := H
    have A11 := zpS A110
    clear A110
    by_cases c12 : t197.size + 1 ≤ 9223372036854775807
    ·rw [if_pos c12] at H
     have c12b0 := eq_true c12
     have c12b1 : decide (t197.size + 1 ≤ 9223372036854775807) = true := decide_eq_true c12
     try have c12b2 : (9223372036854775807 < t197.size + 1) = False := eq_false (Nat.not_lt.2 c12)
     by_cases c13 : a0_2 = 0
     ·rw [if_pos c13] at H
      have c13b0 : (a0_2 == 0) = true := beq_iff_eq.mpr c13
      have c13b1 : (a0_2 != 0) = false := bne_eq_false_iff_eq.mpr c13
      clear c13
      obtain rfl := Option.some.inj H
      obtain ⟨hcz14_0, hcz14_1, hcz14_2⟩ := zdT BK195.out
      obtain ⟨hfz14_0, hfz14_1, hfz14_2⟩ := zqD BK195.out
      go_wp2_with (first | ((with_reducible refine zgK (f := 42) rfl ?_); refine zqQ (some 19) rfl rfl Tryd.func42 (by kernel_rfl) rfl #[.int .i64 a0_1] rfl (by (try simp only [List.map_toArray, List.map_cons, List.map_nil]); first | done | rfl | (simp only [List.length_drop, List.length_take]; rfl)) ?_; (with_reducible refine (zcM.calls a0_1 t197 _ ?side1 A11.out).mono ?_); (case side1 => exact LaidV.below hG bb_); rintro e w15 ⟨rfl, hb⟩; refine ⟨_, rfl, ?_⟩; have n0_ := zpS (zgM (g := gb195) (o := .cells #[.int .i64 a0_0, .int .i64 a0_1, .int .i64 a0_2] 23 (0, 0)) bk_ hb); have n1_ := (ns_ hb); clear BK195; clear HB; have BK195 := n0_; have HB := n1_; clear n0_ n1_; (try clear hb); (try clear hb2); obtain ⟨hcz16_0, hcz16_1, hcz16_2⟩ := zdT BK195.out; obtain ⟨hfz16_0, hfz16_1, hfz16_2⟩ := zqD BK195.out))
      go_ret
      exact ⟨by first | rfl | (simp [ziS, znJ] <;> rfl) | (simp [*, ziS, znJ] <;> rfl), bb_⟩
     ·rw [if_neg c13] at H
      have c13b0 : (a0_2 == 0) = false := beq_eq_false_iff_ne.mpr c13
      have c13b1 : (a0_2 != 0) = true := bne_iff_ne.mpr c13
      by_cases c17 : 0 ≤ a0_2
      ·rw [if_pos c17] at H
       have c17b0 := eq_true c17
       have c17b1 : decide (0 ≤ a0_2) = true := decide_eq_true c17
       clear c17
       obtain ⟨ji18, hji18⟩ : ∃ j_ : Int, (shl .i64 1 a0_2) = j_ := ⟨_, rfl⟩
       replace H : ((zcM.f (ji18)).bind fun t198 => (if 1 + t198.size ≤ 9223372036854775807 then (if (t197 ++ (⟨#[114]⟩ : ByteArray)).size + ((⟨#[47]⟩ : ByteArray) ++ t198).size ≤ 9223372036854775807 then (some ((t197 ++ (⟨#[114]⟩ : ByteArray)) ++ ((⟨#[47]⟩ : ByteArray) ++ t198))) else (none)) else (none))) = some r := by first | (rw [hji18] at H; exact H) | (simp only [hji18] at H ⊢; exact H)
       (try rw [hji18] at A11)
       have hji18_ : (IntKind.i64.wrap (1 * 2 ^ min a0_2.toNat 64)) = ji18 := hji18
       have hji18z : a0_2 ≤ 64 → (IntKind.i64.wrap (1 * 2 ^ a0_2.toNat)) = ji18 := shl_small hji18
       have hji18u : (IntKind.i64.wrap (2 ^ min a0_2.toNat 64)) = ji18 := by have h_ := hji18_; rw [Int.one_mul] at h_; exact h_
       have hji18v : a0_2 ≤ 64 → (IntKind.i64.wrap (2 ^ a0_2.toNat)) = ji18 := fun hle_ => by have h_ := hji18z hle_; rw [Int.one_mul] at h_; exact h_
       have hji18y : (wrap64 (1 * 2 ^ min a0_2.toNat 64)) = ji18 := (zcN _).symm.trans hji18_
       have hji18x : a0_2 ≤ 64 → (wrap64 (1 * 2 ^ a0_2.toNat)) = ji18 := fun h_ => (zcN _).symm.trans (hji18z h_)
       replace H := Option.bind_eq_some_iff.mp H
       obtain ⟨t198, A190, H⟩ := H
       replace H : (if 1 + t198.size ≤ 9223372036854775807 then (if (t197 ++ (⟨#[114]⟩ : ByteArray)).size + ((⟨#[47]⟩ : ByteArray) ++ t198).size ≤ 9223372036854775807 then (some ((t197 ++ (⟨#[114]⟩ : ByteArray)) ++ ((⟨#[47]⟩ : ByteArray) ++ t198))) else (none)) else (none)) = some r := H
       have A19 := zpS A190
       clear A190
       by_cases c20 : 1 + t198.size ≤ 9223372036854775807
       ·rw [if_pos c20] at H
        have c20b0 := eq_true c20
        have c20b1 : decide (1 + t198.size ≤ 9223372036854775807) = true := decide_eq_true c20
        try have c20b2 : (9223372036854775807 < 1 + t198.size) = False := eq_false (Nat.not_lt.2 c20)
        by_cases c21 : (t197 ++ (⟨#[114]⟩ : ByteArray)).size + ((⟨#[47]⟩ : ByteArray) ++ t198).size ≤ 9223372036854775807
        ·rw [if_pos c21] at H
         have c21b0 := eq_true c21
         have c21b1 : decide ((t197 ++ (⟨#[114]⟩ : ByteArray)).size + ((⟨#[47]⟩ : ByteArray) ++ t198).size ≤ 9223372036854775807) = true := decide_eq_true c21
         try have c21b2 : (9223372036854775807 < (t197 ++ (⟨#[114]⟩ : ByteArray)).size + ((⟨#[47]⟩ : ByteArray) ++ t198).size) = False := eq_false (Nat.not_lt.2 c21)
         (try (have c21b3 : (9223372036854775807 < t197.size + 1 + (1 + t198.size)) = False := eq_false (Nat.not_lt.2 (by have h_ := c21; simp only [ByteArray.size_append] at h_; exact h_))))
         obtain rfl := Option.some.inj H
         obtain ⟨hcz22_0, hcz22_1, hcz22_2⟩ := zdT BK195.out
         obtain ⟨hfz22_0, hfz22_1, hfz22_2⟩ := zqD BK195.out
         go_wp2_with (first | ((with_reducible refine zgK (f := 42) rfl ?_); refine zqQ (some 19) rfl rfl Tryd.func42 (by kernel_rfl) rfl #[.int .i64 a0_1] rfl (by (try simp only [List.map_toArray, List.map_cons, List.map_nil]); first | done | rfl | (simp only [List.length_drop, List.length_take]; rfl)) ?_; (with_reducible refine (zcM.calls a0_1 t197 _ ?side1 A11.out).mono ?_); (case side1 => exact LaidV.below hG bb_); rintro e w23 ⟨rfl, hb⟩; refine ⟨_, rfl, ?_⟩; have n0_ := zpS (zgM (g := gb195) (o := .cells #[.int .i64 a0_0, .int .i64 a0_1, .int .i64 a0_2] 23 (0, 0)) bk_ hb); have n1_ := (ns_ hb); clear BK195; clear HB; have BK195 := n0_; have HB := n1_; clear n0_ n1_; (try clear hb); (try clear hb2); obtain ⟨hcz24_0, hcz24_1, hcz24_2⟩ := zdT BK195.out; obtain ⟨hfz24_0, hfz24_1, hfz24_2⟩ := zqD BK195.out) | ((with_reducible refine zgK (f := 42) rfl ?_); refine zqQ (some 50) rfl rfl Tryd.func42 (by kernel_rfl) rfl #[.int .i64 ji18] rfl (by (try simp only [List.map_toArray, List.map_cons, List.map_nil]); first | done | (simp only [hji18]; rfl) | rfl | (simp only [List.length_drop, List.length_take]; rfl)) ?_; (with_reducible refine (zcM.calls ji18 t198 _ ?side1 A19.out).mono ?_); (case side1 => exact LaidV.below hG bb_); rintro e w25 ⟨rfl, hb⟩; refine ⟨_, rfl, ?_⟩; have n0_ := zpS (zgM (g := gb195) (o := .cells #[.int .i64 a0_0, .int .i64 a0_1, .int .i64 a0_2] 23 (0, 0)) bk_ hb); have n1_ := (ns_ hb); clear BK195; clear HB; have BK195 := n0_; have HB := n1_; clear n0_ n1_; (try clear hb); (try clear hb2)))
         go_ret
         exact ⟨by first | rfl | (simp [ziS, znJ] <;> rfl) | (simp only [← hji18]; first | rfl | (simp [ziS, znJ] <;> rfl)) | (simp [*, ziS, znJ] <;> rfl), bb_⟩
        ·rw [if_neg c21] at H
         exact absurd H (by simp)
       ·rw [if_neg c20] at H
        exact absurd H (by simp)
      ·rw [if_neg c17] at H
       exact absurd H (by simp)
    ·rw [if_neg c12] at H
     exact absurd H (by simp)
   ·replace c10 := Bool.eq_false_iff.mpr c10
    subst c10
    have H1 : (if a0_1 = 0 then (if a0_2 = 0 then (some t196) else (if 0 ≤ a0_2 then ((zcM.f (shl .i64 1 a0_2)).bind fun t199 => (if 1 + t199.size ≤ 9223372036854775807 then (if t196.size + ((⟨#[47]⟩ : ByteArray) ++ t199).size ≤ 9223372036854775807 then (some (t196 ++ ((⟨#[47]⟩ : ByteArray) ++ t199))) else (none)) else (none))) else (none))) else (if a0_1 < 0 then (zjG.j1 kj2 t196 (⟨#[45]⟩ : ByteArray) a0_0 a0_1 a0_2) else (zjG.j1 kj2 t196 (⟨#[43]⟩ : ByteArray) a0_0 a0_1 a0_2))) = some r := by rw [if_neg (show ¬ (false = true) by decide)] at H; exact H
    clear H
    have H := H1
    clear H1
    by_cases c26 : a0_1 = 0
    ·rw [if_pos c26] at H
     have c26b0 : (a0_1 == 0) = true := beq_iff_eq.mpr c26
     have c26b1 : (a0_1 != 0) = false := bne_eq_false_iff_eq.mpr c26
     clear c26
     by_cases c27 : a0_2 = 0
     ·rw [if_pos c27] at H
      have c27b0 : (a0_2 == 0) = true := beq_iff_eq.mpr c27
      have c27b1 : (a0_2 != 0) = false := bne_eq_false_iff_eq.mpr c27
      clear c27
      obtain rfl := Option.some.inj H
      obtain ⟨hcz28_0, hcz28_1, hcz28_2⟩ := zdT BK195.out
      obtain ⟨hfz28_0, hfz28_1, hfz28_2⟩ := zqD BK195.out
      go_wp2
      go_ret
      exact ⟨by first | rfl | (simp [ziS, znJ] <;> rfl) | (simp [*, ziS, znJ] <;> rfl), bb_⟩
     ·rw [if_neg c27] at H
      have c27b0 : (a0_2 == 0) = false := beq_eq_false_iff_ne.mpr c27
      have c27b1 : (a0_2 != 0) = true := bne_iff_ne.mpr c27
      by_cases c29 : 0 ≤ a0_2
      ·rw [if_pos c29] at H
       have c29b0 := eq_true c29
       have c29b1 : decide (0 ≤ a0_2) = true := decide_eq_true c29
       clear c29
       obtain ⟨ji30, hji30⟩ : ∃ j_ : Int, (shl .i64 1 a0_2) = j_ := ⟨_, rfl⟩
       replace H : ((zcM.f (ji30)).bind fun t199 => (if 1 + t199.size ≤ 9223372036854775807 then (if t196.size + ((⟨#[47]⟩ : ByteArray) ++ t199).size ≤ 9223372036854775807 then (some (t196 ++ ((⟨#[47]⟩ : ByteArray) ++ t199))) else (none)) else (none))) = some r := by first | (rw [hji30] at H; exact H) | (simp only [hji30] at H ⊢; exact H)
       have hji30_ : (IntKind.i64.wrap (1 * 2 ^ min a0_2.toNat 64)) = ji30 := hji30
       have hji30z : a0_2 ≤ 64 → (IntKind.i64.wrap (1 * 2 ^ a0_2.toNat)) = ji30 := shl_small hji30
       have hji30u : (IntKind.i64.wrap (2 ^ min a0_2.toNat 64)) = ji30 := by have h_ := hji30_; rw [Int.one_mul] at h_; exact h_
       have hji30v : a0_2 ≤ 64 → (IntKind.i64.wrap (2 ^ a0_2.toNat)) = ji30 := fun hle_ => by have h_ := hji30z hle_; rw [Int.one_mul] at h_; exact h_
       have hji30y : (wrap64 (1 * 2 ^ min a0_2.toNat 64)) = ji30 := (zcN _).symm.trans hji30_
       have hji30x : a0_2 ≤ 64 → (wrap64 (1 * 2 ^ a0_2.toNat)) = ji30 := fun h_ => (zcN _).symm.trans (hji30z h_)
       replace H := Option.bind_eq_some_iff.mp H
       obtain ⟨t199, A310, H⟩ := H
       replace H : (if 1 + t199.size ≤ 9223372036854775807 then (if t196.size + ((⟨#[47]⟩ : ByteArray) ++ t199).size ≤ 9223372036854775807 then (some (t196 ++ ((⟨#[47]⟩ : ByteArray) ++ t199))) else (none)) else (none)) = some r := H
       have A31 := zpS A310
       clear A310
       by_cases c32 : 1 + t199.size ≤ 9223372036854775807
       ·rw [if_pos c32] at H
        have c32b0 := eq_true c32
        have c32b1 : decide (1 + t199.size ≤ 9223372036854775807) = true := decide_eq_true c32
        try have c32b2 : (9223372036854775807 < 1 + t199.size) = False := eq_false (Nat.not_lt.2 c32)
        by_cases c33 : t196.size + ((⟨#[47]⟩ : ByteArray) ++ t199).size ≤ 9223372036854775807
        ·rw [if_pos c33] at H
         have c33b0 := eq_true c33
         have c33b1 : decide (t196.size + ((⟨#[47]⟩ : ByteArray) ++ t199).size ≤ 9223372036854775807) = true := decide_eq_true c33
         try have c33b2 : (9223372036854775807 < t196.size + ((⟨#[47]⟩ : ByteArray) ++ t199).size) = False := eq_false (Nat.not_lt.2 c33)
         (try (have c33b3 : (9223372036854775807 < t196.size + (1 + t199.size)) = False := eq_false (Nat.not_lt.2 (by have h_ := c33; simp only [ByteArray.size_append] at h_; exact h_))))
         obtain rfl := Option.some.inj H
         obtain ⟨hcz34_0, hcz34_1, hcz34_2⟩ := zdT BK195.out
         obtain ⟨hfz34_0, hfz34_1, hfz34_2⟩ := zqD BK195.out
         go_wp2_with (first | ((with_reducible refine zgK (f := 42) rfl ?_); refine zqQ (some 50) rfl rfl Tryd.func42 (by kernel_rfl) rfl #[.int .i64 ji30] rfl (by (try simp only [List.map_toArray, List.map_cons, List.map_nil]); first | done | (simp only [hji30]; rfl) | rfl | (simp only [List.length_drop, List.length_take]; rfl)) ?_; (with_reducible refine (zcM.calls ji30 t199 _ ?side1 A31.out).mono ?_); (case side1 => exact LaidV.below hG bb_); rintro e w35 ⟨rfl, hb⟩; refine ⟨_, rfl, ?_⟩; have n0_ := zpS (zgM (g := gb195) (o := .cells #[.int .i64 a0_0, .int .i64 a0_1, .int .i64 a0_2] 23 (0, 0)) bk_ hb); have n1_ := (ns_ hb); clear BK195; clear HB; have BK195 := n0_; have HB := n1_; clear n0_ n1_; (try clear hb); (try clear hb2)))
         go_ret
         exact ⟨by first | rfl | (simp [ziS, znJ] <;> rfl) | (simp only [← hji30]; first | rfl | (simp [ziS, znJ] <;> rfl)) | (simp [*, ziS, znJ] <;> rfl), bb_⟩
        ·rw [if_neg c33] at H
         exact absurd H (by simp)
       ·rw [if_neg c32] at H
        exact absurd H (by simp)
      ·rw [if_neg c29] at H
       exact absurd H (by simp)
    ·rw [if_neg c26] at H
     have c26b0 : (a0_1 == 0) = false := beq_eq_false_iff_ne.mpr c26
     have c26b1 : (a0_1 != 0) = true := bne_iff_ne.mpr c26
     have HC36 := zpS H
     clear H
     obtain ⟨hcz37_0, hcz37_1, hcz37_2⟩ := zdT BK195.out
     obtain ⟨hfz37_0, hfz37_1, hfz37_2⟩ := zqD BK195.out
     go_upto_if 27 with (fail)
     go_cut [4] (fun v4 wc => ∃ (kq : Nat) (x4_35 : ByteArray), v4 = .string x4_35 ∧ Aside0 (zjG.j1 kq t196 x4_35 a0_0 a0_1 a0_2 = some r) ∧ Aside0 (kq ≤ kj2) ∧ Aside0 (wc.heap[gb195]? = some (.cells #[.int .i64 a0_0, .int .i64 a0_1, .int .i64 a0_2] 23 (0, 0))) ∧ Aside0 (Below w.heap.size w wc))
     case first =>
      have H := HC36.out
      clear HC36
      by_cases c38 : a0_1 < 0
      ·rw [if_pos c38] at H
       have c38b0 : decide (a0_1 < 0) = true := decide_eq_true c38
       clear c38
       (first | rw [c38b0] | (simp only [zcN, ziJ]; rw [c38b0]) | skip)
       have H' := zpS H
       clear H
       go_wp2
       go_meet
       case rel => exact ⟨_, ((⟨#[45]⟩ : ByteArray)), (by first | rfl | (simp; done) | (simp [*]; done)), H', ⟨by have := HJ2.out; first | omega | exact Nat.le_refl _⟩, ⟨bk_⟩, ⟨bb_⟩⟩
      ·rw [if_neg c38] at H
       have c38b0 : decide (a0_1 < 0) = false := decide_eq_false c38
       clear c38
       (first | rw [c38b0] | (simp only [zcN, ziJ]; rw [c38b0]) | skip)
       have H' := zpS H
       clear H
       go_wp2
       go_meet
       case rel => exact ⟨_, ((⟨#[43]⟩ : ByteArray)), (by first | rfl | (simp; done) | (simp [*]; done)), H', ⟨by have := HJ2.out; first | omega | exact Nat.le_refl _⟩, ⟨bk_⟩, ⟨bb_⟩⟩
     case rest =>
      clear HC36
      try clear c1
      try clear c2
      try clear p2
      try clear c3
      try clear c4
      try clear p6
      try clear c7
      try clear c7b0
      try clear c7b1
      try clear c10
      try clear c12
      try clear c12b0
      try clear c12b1
      try clear c12b2
      try clear c13
      try clear c13b0
      try clear c13b1
      try clear c17
      try clear c17b0
      try clear c17b1
      try clear c20
      try clear c20b0
      try clear c20b1
      try clear c20b2
      try clear c21
      try clear c21b0
      try clear c21b1
      try clear c21b2
      try clear c26
      try clear c26b0
      try clear c26b1
      try clear c27
      try clear c27b0
      try clear c27b1
      try clear c29
      try clear c29b0
      try clear c29b1
      try clear c32
      try clear c32b0
      try clear c32b1
      try clear c32b2
      try clear c33
      try clear c33b0
      try clear c33b1
      try clear c33b2
      try clear c38
      try clear c38b0
      try clear hcz14_0
      try clear hcz14_1
      try clear hcz14_2
      try clear hcz16_0
      try clear hcz16_1
      try clear hcz16_2
      try clear hcz22_0
      try clear hcz22_1
      try clear hcz22_2
      try clear hcz24_0
      try clear hcz24_1
      try clear hcz24_2
      try clear hcz28_0
      try clear hcz28_1
      try clear hcz28_2
      try clear hcz34_0
      try clear hcz34_1
      try clear hcz34_2
      try clear hcz37_0
      try clear hcz37_1
      try clear hcz37_2
      try clear hcz5_0
      try clear hcz5_1
      try clear hcz5_2
      try clear hcz8_0
      try clear hcz8_1
      try clear hcz8_2
      try clear hcz9_0
      try clear hcz9_1
      try clear hcz9_2
      try clear hfz14_0
      try clear hfz14_1
      try clear hfz14_2
      try clear hfz16_0
      try clear hfz16_1
      try clear hfz16_2
      try clear hfz22_0
      try clear hfz22_1
      try clear hfz22_2
      try clear hfz24_0
      try clear hfz24_1
      try clear hfz24_2
      try clear hfz28_0
      try clear hfz28_1
      try clear hfz28_2
      try clear hfz34_0
      try clear hfz34_1
      try clear hfz34_2
      try clear hfz37_0
      try clear hfz37_1
      try clear hfz37_2
      try clear hfz5_0
      try clear hfz5_1
      try clear hfz5_2
      try clear hfz8_0
      try clear hfz8_1
      try clear hfz8_2
      try clear hfz9_0
      try clear hfz9_1
      try clear hfz9_2
      try clear p2
      obtain ⟨kq, x4_35, rfl, HA, HJ35, BK195, HB⟩ := hcut
      cases kq with
      | zero => exact absurd HA.out (by simp [zjG.j1])
      | succ kj35 =>
       have H := HA.out
       clear HA
       simp only [zjG.j1] at H
       replace H := Option.bind_eq_some_iff.mp H
       obtain ⟨t200, A390, H⟩ := H
       replace H : ((zcM.f t200).bind fun t201 => (if x4_35.size + t201.size ≤ 9223372036854775807 then (if (x4_35 ++ t201).size + 1 ≤ 9223372036854775807 then (if t196.size + ((x4_35 ++ t201) ++ (⟨#[114]⟩ : ByteArray)).size ≤ 9223372036854775807 then (if a0_2 = 0 then (some (t196 ++ ((x4_35 ++ t201) ++ (⟨#[114]⟩ : ByteArray)))) else (if 1 + (t196 ++ ((x4_35 ++ t201) ++ (⟨#[114]⟩ : ByteArray))).size ≤ 9223372036854775807 then (if ((⟨#[40]⟩ : ByteArray) ++ (t196 ++ ((x4_35 ++ t201) ++ (⟨#[114]⟩ : ByteArray)))).size + 1 ≤ 9223372036854775807 then (if 0 ≤ a0_2 then ((zcM.f (shl .i64 1 a0_2)).bind fun t202 => (if 1 + t202.size ≤ 9223372036854775807 then (if (((⟨#[40]⟩ : ByteArray) ++ (t196 ++ ((x4_35 ++ t201) ++ (⟨#[114]⟩ : ByteArray)))) ++ (⟨#[41]⟩ : ByteArray)).size + ((⟨#[47]⟩ : ByteArray) ++ t202).size ≤ 9223372036854775807 then (some ((((⟨#[40]⟩ : ByteArray) ++ (t196 ++ ((x4_35 ++ t201) ++ (⟨#[114]⟩ : ByteArray)))) ++ (⟨#[41]⟩ : ByteArray)) ++ ((⟨#[47]⟩ : ByteArray) ++ t202))) else (none)) else (none))) else (none)) else (none)) else (none))) else (none)) else (none)) else (none))) = some r := H
       have A39 := zpS A390
       clear A390
       replace H := Option.bind_eq_some_iff.mp H
       obtain ⟨t201, A400, H⟩ := H
       replace H : (if x4_35.size + t201.size ≤ 9223372036854775807 then (if (x4_35 ++ t201).size + 1 ≤ 9223372036854775807 then (if t196.size + ((x4_35 ++ t201) ++ (⟨#[114]⟩ : ByteArray)).size ≤ 9223372036854775807 then (if a0_2 = 0 then (some (t196 ++ ((x4_35 ++ t201) ++ (⟨#[114]⟩ : ByteArray)))) else (if 1 + (t196 ++ ((x4_35 ++ t201) ++ (⟨#[114]⟩ : ByteArray))).size ≤ 9223372036854775807 then (if ((⟨#[40]⟩ : ByteArray) ++ (t196 ++ ((x4_35 ++ t201) ++ (⟨#[114]⟩ : ByteArray)))).size + 1 ≤ 9223372036854775807 then (if 0 ≤ a0_2 then ((zcM.f (shl .i64 1 a0_2)).bind fun t202 => (if 1 + t202.size ≤ 9223372036854775807 then (if (((⟨#[40]⟩ : ByteArray) ++ (t196 ++ ((x4_35 ++ t201) ++ (⟨#[114]⟩ : ByteArray)))) ++ (⟨#[41]⟩ : ByteArray)).size + ((⟨#[47]⟩ : ByteArray) ++ t202).size ≤ 9223372036854775807 then (some ((((⟨#[40]⟩ : ByteArray) ++ (t196 ++ ((x4_35 ++ t201) ++ (⟨#[114]⟩ : ByteArray)))) ++ (⟨#[41]⟩ : ByteArray)) ++ ((⟨#[47]⟩ : ByteArray) ++ t202))) else (none)) else (none))) else (none)) else (none)) else (none))) else (none)) else (none)) else (none)) = some r := H
       have A40 := zpS A400
       clear A400
       by_cases c41 : x4_35.size + t201.size ≤ 9223372036854775807
       ·rw [if_pos c41] at H
        have c41b0 := eq_true c41
        have c41b1 : decide (x4_35.size + t201.size ≤ 9223372036854775807) = true := decide_eq_true c41
        try have c41b2 : (9223372036854775807 < x4_35.size + t201.size) = False := eq_false (Nat.not_lt.2 c41)
        by_cases c42 : (x4_35 ++ t201).size + 1 ≤ 9223372036854775807
        ·rw [if_pos c42] at H
         have c42b0 := eq_true c42
         have c42b1 : decide ((x4_35 ++ t201).size + 1 ≤ 9223372036854775807) = true := decide_eq_true c42
         try have c42b2 : (9223372036854775807 < (x4_35 ++ t201).size + 1) = False := eq_false (Nat.not_lt.2 c42)
         (try (have c42b3 : (9223372036854775807 < x4_35.size + t201.size + 1) = False := eq_false (Nat.not_lt.2 (by have h_ := c42; simp only [ByteArray.size_append] at h_; exact h_))))
         by_cases c43 : t196.size + ((x4_35 ++ t201) ++ (⟨#[114]⟩ : ByteArray)).size ≤ 9223372036854775807
         ·rw [if_pos c43] at H
          have c43b0 := eq_true c43
          have c43b1 : decide (t196.size + ((x4_35 ++ t201) ++ (⟨#[114]⟩ : ByteArray)).size ≤ 9223372036854775807) = true := decide_eq_true c43
          try have c43b2 : (9223372036854775807 < t196.size + ((x4_35 ++ t201) ++ (⟨#[114]⟩ : ByteArray)).size) = False := eq_false (Nat.not_lt.2 c43)
          (try (have c43b3 : (9223372036854775807 < t196.size + (x4_35.size + t201.size + 1)) = False := eq_false (Nat.not_lt.2 (by have h_ := c43; simp only [ByteArray.size_append] at h_; exact h_))))
          by_cases c44 : a0_2 = 0
          ·rw [if_pos c44] at H
           have c44b0 : (a0_2 == 0) = true := beq_iff_eq.mpr c44
           have c44b1 : (a0_2 != 0) = false := bne_eq_false_iff_eq.mpr c44
           clear c44
           obtain rfl := Option.some.inj H
           obtain ⟨hcz45_0, hcz45_1, hcz45_2⟩ := zdT BK195.out
           obtain ⟨hfz45_0, hfz45_1, hfz45_2⟩ := zqD BK195.out
           go_wp2_with (first | ((with_reducible refine zgK (f := 47) rfl ?_); refine zqQ (some 32) rfl rfl Tryd.func47 (by kernel_rfl) rfl #[.int .i64 a0_1] rfl (by (try simp only [List.map_toArray, List.map_cons, List.map_nil]); first | done | rfl | (simp only [List.length_drop, List.length_take]; rfl)) ?_; (with_reducible refine (impl_abs.calls a0_1 t200 _ A39.out).mono ?_); rintro e w46 ⟨rfl, hb⟩; refine ⟨_, rfl, ?_⟩; have n0_ := zpS (zgM (g := gb195) (o := .cells #[.int .i64 a0_0, .int .i64 a0_1, .int .i64 a0_2] 23 (0, 0)) bk_ hb); have n1_ := (ns_ hb); clear BK195; clear HB; have BK195 := n0_; have HB := n1_; clear n0_ n1_; (try clear hb); (try clear hb2)) | ((with_reducible refine zgK (f := 42) rfl ?_); refine zqQ (some 33) rfl rfl Tryd.func42 (by kernel_rfl) rfl #[.int .i64 t200] rfl (by (try simp only [List.map_toArray, List.map_cons, List.map_nil]); first | done | rfl | (simp only [List.length_drop, List.length_take]; rfl)) ?_; (with_reducible refine (zcM.calls t200 t201 _ ?side1 A40.out).mono ?_); (case side1 => exact LaidV.below hG bb_); rintro e w47 ⟨rfl, hb⟩; refine ⟨_, rfl, ?_⟩; have n0_ := zpS (zgM (g := gb195) (o := .cells #[.int .i64 a0_0, .int .i64 a0_1, .int .i64 a0_2] 23 (0, 0)) bk_ hb); have n1_ := (ns_ hb); clear BK195; clear HB; have BK195 := n0_; have HB := n1_; clear n0_ n1_; (try clear hb); (try clear hb2); obtain ⟨hcz48_0, hcz48_1, hcz48_2⟩ := zdT BK195.out; obtain ⟨hfz48_0, hfz48_1, hfz48_2⟩ := zqD BK195.out))
           go_ret
           exact ⟨by first | rfl | (simp [ziS, znJ] <;> rfl) | (simp [*, ziS, znJ] <;> rfl), bb_⟩
          ·rw [if_neg c44] at H
           have c44b0 : (a0_2 == 0) = false := beq_eq_false_iff_ne.mpr c44
           have c44b1 : (a0_2 != 0) = true := bne_iff_ne.mpr c44
           by_cases c49 : 1 + (t196 ++ ((x4_35 ++ t201) ++ (⟨#[114]⟩ : ByteArray))).size ≤ 9223372036854775807
           ·rw [if_pos c49] at H
            have c49b0 := eq_true c49
            have c49b1 : decide (1 + (t196 ++ ((x4_35 ++ t201) ++ (⟨#[114]⟩ : ByteArray))).size ≤ 9223372036854775807) = true := decide_eq_true c49
            try have c49b2 : (9223372036854775807 < 1 + (t196 ++ ((x4_35 ++ t201) ++ (⟨#[114]⟩ : ByteArray))).size) = False := eq_false (Nat.not_lt.2 c49)
            (try (have c49b3 : (9223372036854775807 < 1 + (t196.size + (x4_35.size + t201.size + 1))) = False := eq_false (Nat.not_lt.2 (by have h_ := c49; simp only [ByteArray.size_append] at h_; exact h_))))
            by_cases c50 : ((⟨#[40]⟩ : ByteArray) ++ (t196 ++ ((x4_35 ++ t201) ++ (⟨#[114]⟩ : ByteArray)))).size + 1 ≤ 9223372036854775807
            ·rw [if_pos c50] at H
             have c50b0 := eq_true c50
             have c50b1 : decide (((⟨#[40]⟩ : ByteArray) ++ (t196 ++ ((x4_35 ++ t201) ++ (⟨#[114]⟩ : ByteArray)))).size + 1 ≤ 9223372036854775807) = true := decide_eq_true c50
             try have c50b2 : (9223372036854775807 < ((⟨#[40]⟩ : ByteArray) ++ (t196 ++ ((x4_35 ++ t201) ++ (⟨#[114]⟩ : ByteArray)))).size + 1) = False := eq_false (Nat.not_lt.2 c50)
             (try (have c50b3 : (9223372036854775807 < 1 + (t196.size + (x4_35.size + t201.size + 1)) + 1) = False := eq_false (Nat.not_lt.2 (by have h_ := c50; simp only [ByteArray.size_append] at h_; exact h_))))
             by_cases c51 : 0 ≤ a0_2
             ·rw [if_pos c51] at H
              have c51b0 := eq_true c51
              have c51b1 : decide (0 ≤ a0_2) = true := decide_eq_true c51
              clear c51
              obtain ⟨ji52, hji52⟩ : ∃ j_ : Int, (shl .i64 1 a0_2) = j_ := ⟨_, rfl⟩
              replace H : ((zcM.f (ji52)).bind fun t202 => (if 1 + t202.size ≤ 9223372036854775807 then (if (((⟨#[40]⟩ : ByteArray) ++ (t196 ++ ((x4_35 ++ t201) ++ (⟨#[114]⟩ : ByteArray)))) ++ (⟨#[41]⟩ : ByteArray)).size + ((⟨#[47]⟩ : ByteArray) ++ t202).size ≤ 9223372036854775807 then (some ((((⟨#[40]⟩ : ByteArray) ++ (t196 ++ ((x4_35 ++ t201) ++ (⟨#[114]⟩ : ByteArray)))) ++ (⟨#[41]⟩ : ByteArray)) ++ ((⟨#[47]⟩ : ByteArray) ++ t202))) else (none)) else (none))) = some r := by first | (rw [hji52] at H; exact H) | (simp only [hji52] at H ⊢; exact H)
              (try rw [hji52] at A39)
              (try rw [hji52] at A40)
              have hji52_ : (IntKind.i64.wrap (1 * 2 ^ min a0_2.toNat 64)) = ji52 := hji52
              have hji52z : a0_2 ≤ 64 → (IntKind.i64.wrap (1 * 2 ^ a0_2.toNat)) = ji52 := shl_small hji52
              have hji52u : (IntKind.i64.wrap (2 ^ min a0_2.toNat 64)) = ji52 := by have h_ := hji52_; rw [Int.one_mul] at h_; exact h_
              have hji52v : a0_2 ≤ 64 → (IntKind.i64.wrap (2 ^ a0_2.toNat)) = ji52 := fun hle_ => by have h_ := hji52z hle_; rw [Int.one_mul] at h_; exact h_
              have hji52y : (wrap64 (1 * 2 ^ min a0_2.toNat 64)) = ji52 := (zcN _).symm.trans hji52_
              have hji52x : a0_2 ≤ 64 → (wrap64 (1 * 2 ^ a0_2.toNat)) = ji52 := fun h_ => (zcN _).symm.trans (hji52z h_)
              replace H := Option.bind_eq_some_iff.mp H
              obtain ⟨t202, A530, H⟩ := H
              replace H : (if 1 + t202.size ≤ 9223372036854775807 then (if (((⟨#[40]⟩ : ByteArray) ++ (t196 ++ ((x4_35 ++ t201) ++ (⟨#[114]⟩ : ByteArray)))) ++ (⟨#[41]⟩ : ByteArray)).size + ((⟨#[47]⟩ : ByteArray) ++ t202).size ≤ 9223372036854775807 then (some ((((⟨#[40]⟩ : ByteArray) ++ (t196 ++ ((x4_35 ++ t201) ++ (⟨#[114]⟩ : ByteArray)))) ++ (⟨#[41]⟩ : ByteArray)) ++ ((⟨#[47]⟩ : ByteArray) ++ t202))) else (none)) else (none)) = some r := H
              have A53 := zpS A530
              clear A530
              by_cases c54 : 1 + t202.size ≤ 9223372036854775807
              ·rw [if_pos c54] at H
               have c54b0 := eq_true c54
               have c54b1 : decide (1 + t202.size ≤ 9223372036854775807) = true := decide_eq_true c54
               try have c54b2 : (9223372036854775807 < 1 + t202.size) = False := eq_false (Nat.not_lt.2 c54)
               by_cases c55 : (((⟨#[40]⟩ : ByteArray) ++ (t196 ++ ((x4_35 ++ t201) ++ (⟨#[114]⟩ : ByteArray)))) ++ (⟨#[41]⟩ : ByteArray)).size + ((⟨#[47]⟩ : ByteArray) ++ t202).size ≤ 9223372036854775807
               ·rw [if_pos c55] at H
                have c55b0 := eq_true c55
                have c55b1 : decide ((((⟨#[40]⟩ : ByteArray) ++ (t196 ++ ((x4_35 ++ t201) ++ (⟨#[114]⟩ : ByteArray)))) ++ (⟨#[41]⟩ : ByteArray)).size + ((⟨#[47]⟩ : ByteArray) ++ t202).size ≤ 9223372036854775807) = true := decide_eq_true c55
                try have c55b2 : (9223372036854775807 < (((⟨#[40]⟩ : ByteArray) ++ (t196 ++ ((x4_35 ++ t201) ++ (⟨#[114]⟩ : ByteArray)))) ++ (⟨#[41]⟩ : ByteArray)).size + ((⟨#[47]⟩ : ByteArray) ++ t202).size) = False := eq_false (Nat.not_lt.2 c55)
                (try (have c55b3 : (9223372036854775807 < 1 + (t196.size + (x4_35.size + t201.size + 1)) + 1 + (1 + t202.size)) = False := eq_false (Nat.not_lt.2 (by have h_ := c55; simp only [ByteArray.size_append] at h_; exact h_))))
                obtain rfl := Option.some.inj H
                obtain ⟨hcz56_0, hcz56_1, hcz56_2⟩ := zdT BK195.out
                obtain ⟨hfz56_0, hfz56_1, hfz56_2⟩ := zqD BK195.out
                go_wp2_with (first | ((with_reducible refine zgK (f := 47) rfl ?_); refine zqQ (some 32) rfl rfl Tryd.func47 (by kernel_rfl) rfl #[.int .i64 a0_1] rfl (by (try simp only [List.map_toArray, List.map_cons, List.map_nil]); first | done | rfl | (simp only [List.length_drop, List.length_take]; rfl)) ?_; (with_reducible refine (impl_abs.calls a0_1 t200 _ A39.out).mono ?_); rintro e w57 ⟨rfl, hb⟩; refine ⟨_, rfl, ?_⟩; have n0_ := zpS (zgM (g := gb195) (o := .cells #[.int .i64 a0_0, .int .i64 a0_1, .int .i64 a0_2] 23 (0, 0)) bk_ hb); have n1_ := (ns_ hb); clear BK195; clear HB; have BK195 := n0_; have HB := n1_; clear n0_ n1_; (try clear hb); (try clear hb2)) | ((with_reducible refine zgK (f := 42) rfl ?_); refine zqQ (some 33) rfl rfl Tryd.func42 (by kernel_rfl) rfl #[.int .i64 t200] rfl (by (try simp only [List.map_toArray, List.map_cons, List.map_nil]); first | done | rfl | (simp only [List.length_drop, List.length_take]; rfl)) ?_; (with_reducible refine (zcM.calls t200 t201 _ ?side1 A40.out).mono ?_); (case side1 => exact LaidV.below hG bb_); rintro e w58 ⟨rfl, hb⟩; refine ⟨_, rfl, ?_⟩; have n0_ := zpS (zgM (g := gb195) (o := .cells #[.int .i64 a0_0, .int .i64 a0_1, .int .i64 a0_2] 23 (0, 0)) bk_ hb); have n1_ := (ns_ hb); clear BK195; clear HB; have BK195 := n0_; have HB := n1_; clear n0_ n1_; (try clear hb); (try clear hb2); obtain ⟨hcz59_0, hcz59_1, hcz59_2⟩ := zdT BK195.out; obtain ⟨hfz59_0, hfz59_1, hfz59_2⟩ := zqD BK195.out) | ((with_reducible refine zgK (f := 42) rfl ?_); refine zqQ (some 50) rfl rfl Tryd.func42 (by kernel_rfl) rfl #[.int .i64 ji52] rfl (by (try simp only [List.map_toArray, List.map_cons, List.map_nil]); first | done | (simp only [hji52]; rfl) | rfl | (simp only [List.length_drop, List.length_take]; rfl)) ?_; (with_reducible refine (zcM.calls ji52 t202 _ ?side1 A53.out).mono ?_); (case side1 => exact LaidV.below hG bb_); rintro e w60 ⟨rfl, hb⟩; refine ⟨_, rfl, ?_⟩; have n0_ := zpS (zgM (g := gb195) (o := .cells #[.int .i64 a0_0, .int .i64 a0_1, .int .i64 a0_2] 23 (0, 0)) bk_ hb); have n1_ := (ns_ hb); clear BK195; clear HB; have BK195 := n0_; have HB := n1_; clear n0_ n1_; (try clear hb); (try clear hb2)))
                go_ret
                exact ⟨by first | rfl | (simp [ziS, znJ] <;> rfl) | (simp only [← hji52]; first | rfl | (simp [ziS, znJ] <;> rfl)) | (simp [*, ziS, znJ] <;> rfl), bb_⟩
               ·rw [if_neg c55] at H
                exact absurd H (by simp)
              ·rw [if_neg c54] at H
               exact absurd H (by simp)
             ·rw [if_neg c51] at H
              exact absurd H (by simp)
            ·rw [if_neg c50] at H
             exact absurd H (by simp)
           ·rw [if_neg c49] at H
            exact absurd H (by simp)
         ·rw [if_neg c43] at H
          exact absurd H (by simp)
        ·rw [if_neg c42] at H
         exact absurd H (by simp)
       ·rw [if_neg c41] at H
        exact absurd H (by simp)

end Go.Proofs.YtbkcmdccomngnaaDoor.PFnExactReadPoint
