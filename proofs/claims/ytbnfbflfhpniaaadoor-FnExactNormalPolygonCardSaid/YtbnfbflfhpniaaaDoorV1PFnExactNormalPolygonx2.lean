-- Printed for this claim by this session's program pp.py, which drives the kit's print with additions. Not trusted: Lean checks it.
import Derived.Test.YtbnfbflfhpniaaaDoorV1PFnExactNormalPolygonx0
namespace Go.Proofs.YtbnfbflfhpniaaaDoor.PFnExactNormalPolygon
open Go.RowKit Go.Proofs.YtbnfbflfhpniaaaDoorW.PrintWords Go.Proofs.YtbnfbflfhpniaaaDoorW.PrintLast Go.Proofs.YtbnfbflfhpniaaaDoorW.PrintMore
attribute [local go_sem] zbB ziC zrC zhD znE zuB znH zkT   -- for this text's walks alone
set_option linter.unusedVariables false
set_option maxHeartbeats 8000000
set_option maxRecDepth 100000
set_option linter.unusedSimpArgs false

def zeT.f (l0 : List (S41)) (a1 : Int) : Option (Int) := if (wrap64 (a1 - (l0.length : Int))) < 0 then (some (-1)) else (some (wrap64 (a1 - (l0.length : Int))))
theorem zeT.calls (A0 : Option Addr) (c0 : Nat) (l0 : List (S41)) (a1 : Int) (r : Int) (w : World) (hr0 : Kd.C k41 w A0 l0.length l0) (hc0 : l0.length ≤ c0) (h : zeT.f l0 a1 = some r) :
  Calls Tryd.prog 4 #[.slice A0 l0.length c0, .int .i64 a1] w fun e w' => e = .returned (.int .i64 r) ∧ Drawn0 w w' := by
 have HR0 := zpS hr0
 have HC0 := zpS hc0
 clear hr0 hc0
 have H : (if (wrap64 (a1 - (l0.length : Int))) < 0 then (some (-1)) else (some (wrap64 (a1 - (l0.length : Int))))) = some r := h
 clear h
 by_cases c3 : (wrap64 (a1 - (l0.length : Int))) < 0
 ·rw [if_pos c3] at H
  have c3b0 : decide ((wrap64 (a1 - (l0.length : Int))) < 0) = true := decide_eq_true c3
  clear c3
  obtain rfl := Option.some.inj H
  go_enter Tryd.func4, Tryd.ntmps4
  go_wp2
  go_ret
  exact ⟨by first | rfl | (simp; done) | (simp [*]; done), by repeat (first | exact Drawn0.refl _ | apply Drawn0.step)⟩
 ·rw [if_neg c3] at H
  have c3b0 : decide ((wrap64 (a1 - (l0.length : Int))) < 0) = false := decide_eq_false c3
  clear c3
  obtain rfl := Option.some.inj H
  go_enter Tryd.func4, Tryd.ntmps4
  go_wp2
  go_ret
  exact ⟨by first | rfl | (simp; done) | (simp [*]; done), by repeat (first | exact Drawn0.refl _ | apply Drawn0.step)⟩

def ziE.f (a0 : Int) (a1 : Int) (a2 : Int) : Option (Bool) := if a0 ≥ a1 then (some (decide (a0 ≤ a2))) else (some false)
theorem ziE.calls (a0 : Int) (a1 : Int) (a2 : Int) (r : Bool) (w : World) (h : ziE.f a0 a1 a2 = some r) :
  Calls Tryd.prog 27 #[.int .i64 a0, .int .i64 a1, .int .i64 a2] w fun e w' => e = .returned (.bool r) ∧ Drawn0 w w' := by
 have H : (if a0 ≥ a1 then (some (decide (a0 ≤ a2))) else (some false)) = some r := h
 clear h
 by_cases c4 : a0 ≥ a1
 ·rw [if_pos c4] at H
  have c4b0 : decide (a1 ≤ a0) = true := decide_eq_true c4
  clear c4
  obtain rfl := Option.some.inj H
  go_enter Tryd.func27, Tryd.ntmps27
  go_wp2
  go_ret
  exact ⟨by first | rfl | (simp; done) | (simp [*]; done), by repeat (first | exact Drawn0.refl _ | apply Drawn0.step)⟩
 ·rw [if_neg c4] at H
  have c4b0 : decide (a1 ≤ a0) = false := decide_eq_false c4
  clear c4
  obtain rfl := Option.some.inj H
  go_enter Tryd.func27, Tryd.ntmps27
  go_wp2
  go_ret
  exact ⟨by first | rfl | (simp; done) | (simp [*]; done), by repeat (first | exact Drawn0.refl _ | apply Drawn0.step)⟩

def zeG.f (a0_0 : Int) (a0_1 : Int) (a0_2 : Int) : Option (Bool) := (ziE.f a0_0 (-131072) 131072).bind fun t102 => (if t102 = true then ((ziE.f a0_1 (-131072) 131072).bind fun t103 => (if t103 = true then ((ziE.f a0_2 0 10).bind fun t104 => (if t104 = true then (if a0_2 = 0 then (some true) else (if (Int.tmod a0_0 2) = 0 then (some ((Int.tmod a0_1 2) != 0)) else (some true))) else (some false))) else (some false))) else (some false))
theorem zeG.calls (a0_0 : Int) (a0_1 : Int) (a0_2 : Int) (r : Bool) (w : World) (h : zeG.f a0_0 a0_1 a0_2 = some r) :
  Calls Tryd.prog 22 #[.agg #[.int .i64 a0_0, .int .i64 a0_1, .int .i64 a0_2]] w fun e w' => e = .returned (.bool r) ∧ Below w.heap.size w w' := by
 have hu33 := Tryd.underlying33
 have HB := zpS (Below.refl w.heap.size w)
 have H : ((ziE.f a0_0 (-131072) 131072).bind fun t102 => (if t102 = true then ((ziE.f a0_1 (-131072) 131072).bind fun t103 => (if t103 = true then ((ziE.f a0_2 0 10).bind fun t104 => (if t104 = true then (if a0_2 = 0 then (some true) else (if (Int.tmod a0_0 2) = 0 then (some ((Int.tmod a0_1 2) != 0)) else (some true))) else (some false))) else (some false))) else (some false))) = some r := h
 clear h
 replace H := Option.bind_eq_some_iff.mp H
 obtain ⟨t102, A20, H⟩ := H
 replace H : (if t102 = true then ((ziE.f a0_1 (-131072) 131072).bind fun t103 => (if t103 = true then ((ziE.f a0_2 0 10).bind fun t104 => (if t104 = true then (if a0_2 = 0 then (some true) else (if (Int.tmod a0_0 2) = 0 then (some ((Int.tmod a0_1 2) != 0)) else (some true))) else (some false))) else (some false))) else (some false)) = some r := H
 have A2 := zpS A20
 clear A20
 by_cases c3 : t102 = true
 ·subst c3
  have H1 : ((ziE.f a0_1 (-131072) 131072).bind fun t103 => (if t103 = true then ((ziE.f a0_2 0 10).bind fun t104 => (if t104 = true then (if a0_2 = 0 then (some true) else (if (Int.tmod a0_0 2) = 0 then (some ((Int.tmod a0_1 2) != 0)) else (some true))) else (some false))) else (some false))) = some r := by rw [if_pos rfl] at H; exact H
  clear H
  have H := H1
  clear H1
  replace H := Option.bind_eq_some_iff.mp H
  obtain ⟨t103, A40, H⟩ := H
  replace H : (if t103 = true then ((ziE.f a0_2 0 10).bind fun t104 => (if t104 = true then (if a0_2 = 0 then (some true) else (if (Int.tmod a0_0 2) = 0 then (some ((Int.tmod a0_1 2) != 0)) else (some true))) else (some false))) else (some false)) = some r := H
  have A4 := zpS A40
  clear A40
  by_cases c5 : t103 = true
  ·subst c5
   have H1 : ((ziE.f a0_2 0 10).bind fun t104 => (if t104 = true then (if a0_2 = 0 then (some true) else (if (Int.tmod a0_0 2) = 0 then (some ((Int.tmod a0_1 2) != 0)) else (some true))) else (some false))) = some r := by rw [if_pos rfl] at H; exact H
   clear H
   have H := H1
   clear H1
   replace H := Option.bind_eq_some_iff.mp H
   obtain ⟨t104, A60, H⟩ := H
   replace H : (if t104 = true then (if a0_2 = 0 then (some true) else (if (Int.tmod a0_0 2) = 0 then (some ((Int.tmod a0_1 2) != 0)) else (some true))) else (some false)) = some r := H
   have A6 := zpS A60
   clear A60
   by_cases c7 : t104 = true
   ·subst c7
    have H1 : (if a0_2 = 0 then (some true) else (if (Int.tmod a0_0 2) = 0 then (some ((Int.tmod a0_1 2) != 0)) else (some true))) = some r := by rw [if_pos rfl] at H; exact H
    clear H
    have H := H1
    clear H1
    by_cases c8 : a0_2 = 0
    ·rw [if_pos c8] at H
     have c8b0 : (a0_2 == 0) = true := beq_iff_eq.mpr c8
     have c8b1 : (a0_2 != 0) = false := bne_eq_false_iff_eq.mpr c8
     clear c8
     obtain rfl := Option.some.inj H
     go_enter Tryd.func22, Tryd.ntmps22
     go_wp2_with (first | ((with_reducible refine zpZ (N := 1) rfl ?_); refine bx_ 1 #[.int .i64 a0_0, .int .i64 a0_1, .int .i64 a0_2] 33 ?_; intro gb101 hg w9 hbox hb; have n0_ := (ns_ hb); have n1_ := zpS (hbox); have n2_ := (ng_ hg); have n3_ := n2_; clear HB; have HB := n0_; have BK101 := n1_; have GW101 := n2_; have GE101 := n3_; clear n0_ n1_ n2_ n3_; clear hb hbox hg; obtain ⟨hcz10_0, hcz10_1, hcz10_2⟩ := zdT BK101.out; obtain ⟨hfz10_0, hfz10_1, hfz10_2⟩ := zqD BK101.out) | ((with_reducible refine zgK (f := 27) rfl ?_); refine zqQ (some 5) rfl rfl Tryd.func27 (by kernel_rfl) rfl #[.int .i64 a0_0, .int .i64 (-131072), .int .i64 131072] rfl (by (try simp only [List.map_toArray, List.map_cons, List.map_nil]); first | done | rfl | (simp only [List.length_drop, List.length_take]; rfl)) ?_; (with_reducible refine (ziE.calls a0_0 (-131072) 131072 true _ A2.out).mono ?_); rintro e w' ⟨rfl, ⟨nd, rfl⟩⟩; refine ⟨_, rfl, ?_⟩) | (go_at_call 27; (with_reducible refine (ziE.calls a0_1 (-131072) 131072 true _ A4.out).mono ?_); rintro e w' ⟨rfl, ⟨nd, rfl⟩⟩) | (go_at_call 27; (with_reducible refine (ziE.calls a0_2 0 10 true _ A6.out).mono ?_); rintro e w' ⟨rfl, ⟨nd, rfl⟩⟩))
     go_ret
     exact ⟨by first | rfl | (simp [ziS, znJ] <;> rfl) | (simp [*, ziS, znJ] <;> rfl), bb_⟩
    ·rw [if_neg c8] at H
     have c8b0 : (a0_2 == 0) = false := beq_eq_false_iff_ne.mpr c8
     have c8b1 : (a0_2 != 0) = true := bne_iff_ne.mpr c8
     by_cases c11 : (Int.tmod a0_0 2) = 0
     ·rw [if_pos c11] at H
      have c11b0 : ((Int.tmod a0_0 2) == 0) = true := beq_iff_eq.mpr c11
      have c11b1 : ((Int.tmod a0_0 2) != 0) = false := bne_eq_false_iff_eq.mpr c11
      clear c11
      obtain rfl := Option.some.inj H
      go_enter Tryd.func22, Tryd.ntmps22
      go_wp2_with (first | ((with_reducible refine zpZ (N := 1) rfl ?_); refine bx_ 1 #[.int .i64 a0_0, .int .i64 a0_1, .int .i64 a0_2] 33 ?_; intro gb101 hg w12 hbox hb; have n0_ := (ns_ hb); have n1_ := zpS (hbox); have n2_ := (ng_ hg); have n3_ := n2_; clear HB; have HB := n0_; have BK101 := n1_; have GW101 := n2_; have GE101 := n3_; clear n0_ n1_ n2_ n3_; clear hb hbox hg; obtain ⟨hcz13_0, hcz13_1, hcz13_2⟩ := zdT BK101.out; obtain ⟨hfz13_0, hfz13_1, hfz13_2⟩ := zqD BK101.out) | ((with_reducible refine zgK (f := 27) rfl ?_); refine zqQ (some 5) rfl rfl Tryd.func27 (by kernel_rfl) rfl #[.int .i64 a0_0, .int .i64 (-131072), .int .i64 131072] rfl (by (try simp only [List.map_toArray, List.map_cons, List.map_nil]); first | done | rfl | (simp only [List.length_drop, List.length_take]; rfl)) ?_; (with_reducible refine (ziE.calls a0_0 (-131072) 131072 true _ A2.out).mono ?_); rintro e w' ⟨rfl, ⟨nd, rfl⟩⟩; refine ⟨_, rfl, ?_⟩) | (go_at_call 27; (with_reducible refine (ziE.calls a0_1 (-131072) 131072 true _ A4.out).mono ?_); rintro e w' ⟨rfl, ⟨nd, rfl⟩⟩) | (go_at_call 27; (with_reducible refine (ziE.calls a0_2 0 10 true _ A6.out).mono ?_); rintro e w' ⟨rfl, ⟨nd, rfl⟩⟩))
      go_ret
      exact ⟨by first | rfl | (simp [ziS, znJ] <;> rfl) | (simp [*, ziS, znJ] <;> rfl), bb_⟩
     ·rw [if_neg c11] at H
      have c11b0 : ((Int.tmod a0_0 2) == 0) = false := beq_eq_false_iff_ne.mpr c11
      have c11b1 : ((Int.tmod a0_0 2) != 0) = true := bne_iff_ne.mpr c11
      obtain rfl := Option.some.inj H
      go_enter Tryd.func22, Tryd.ntmps22
      go_wp2_with (first | ((with_reducible refine zpZ (N := 1) rfl ?_); refine bx_ 1 #[.int .i64 a0_0, .int .i64 a0_1, .int .i64 a0_2] 33 ?_; intro gb101 hg w14 hbox hb; have n0_ := (ns_ hb); have n1_ := zpS (hbox); have n2_ := (ng_ hg); have n3_ := n2_; clear HB; have HB := n0_; have BK101 := n1_; have GW101 := n2_; have GE101 := n3_; clear n0_ n1_ n2_ n3_; clear hb hbox hg; obtain ⟨hcz15_0, hcz15_1, hcz15_2⟩ := zdT BK101.out; obtain ⟨hfz15_0, hfz15_1, hfz15_2⟩ := zqD BK101.out) | ((with_reducible refine zgK (f := 27) rfl ?_); refine zqQ (some 5) rfl rfl Tryd.func27 (by kernel_rfl) rfl #[.int .i64 a0_0, .int .i64 (-131072), .int .i64 131072] rfl (by (try simp only [List.map_toArray, List.map_cons, List.map_nil]); first | done | rfl | (simp only [List.length_drop, List.length_take]; rfl)) ?_; (with_reducible refine (ziE.calls a0_0 (-131072) 131072 true _ A2.out).mono ?_); rintro e w' ⟨rfl, ⟨nd, rfl⟩⟩; refine ⟨_, rfl, ?_⟩) | (go_at_call 27; (with_reducible refine (ziE.calls a0_1 (-131072) 131072 true _ A4.out).mono ?_); rintro e w' ⟨rfl, ⟨nd, rfl⟩⟩) | (go_at_call 27; (with_reducible refine (ziE.calls a0_2 0 10 true _ A6.out).mono ?_); rintro e w' ⟨rfl, ⟨nd, rfl⟩⟩))
      go_ret
      exact ⟨by first | rfl | (simp [ziS, znJ] <;> rfl) | (simp [*, ziS, znJ] <;> rfl), bb_⟩
   ·replace c7 := Bool.eq_false_iff.mpr c7
    subst c7
    have H1 : (some false) = some r := by rw [if_neg (show ¬ (false = true) by decide)] at H; exact H
    clear H
    have H := H1
    clear H1
    obtain rfl := Option.some.inj H
    go_enter Tryd.func22, Tryd.ntmps22
    go_wp2_with (first | ((with_reducible refine zpZ (N := 1) rfl ?_); refine bx_ 1 #[.int .i64 a0_0, .int .i64 a0_1, .int .i64 a0_2] 33 ?_; intro gb101 hg w16 hbox hb; have n0_ := (ns_ hb); have n1_ := zpS (hbox); have n2_ := (ng_ hg); have n3_ := n2_; clear HB; have HB := n0_; have BK101 := n1_; have GW101 := n2_; have GE101 := n3_; clear n0_ n1_ n2_ n3_; clear hb hbox hg; obtain ⟨hcz17_0, hcz17_1, hcz17_2⟩ := zdT BK101.out; obtain ⟨hfz17_0, hfz17_1, hfz17_2⟩ := zqD BK101.out) | ((with_reducible refine zgK (f := 27) rfl ?_); refine zqQ (some 5) rfl rfl Tryd.func27 (by kernel_rfl) rfl #[.int .i64 a0_0, .int .i64 (-131072), .int .i64 131072] rfl (by (try simp only [List.map_toArray, List.map_cons, List.map_nil]); first | done | rfl | (simp only [List.length_drop, List.length_take]; rfl)) ?_; (with_reducible refine (ziE.calls a0_0 (-131072) 131072 true _ A2.out).mono ?_); rintro e w' ⟨rfl, ⟨nd, rfl⟩⟩; refine ⟨_, rfl, ?_⟩) | (go_at_call 27; (with_reducible refine (ziE.calls a0_1 (-131072) 131072 true _ A4.out).mono ?_); rintro e w' ⟨rfl, ⟨nd, rfl⟩⟩) | (go_at_call 27; (with_reducible refine (ziE.calls a0_2 0 10 false _ A6.out).mono ?_); rintro e w' ⟨rfl, ⟨nd, rfl⟩⟩))
    go_ret
    exact ⟨by first | rfl | (simp [ziS, znJ] <;> rfl) | (simp [*, ziS, znJ] <;> rfl), bb_⟩
  ·replace c5 := Bool.eq_false_iff.mpr c5
   subst c5
   have H1 : (some false) = some r := by rw [if_neg (show ¬ (false = true) by decide)] at H; exact H
   clear H
   have H := H1
   clear H1
   obtain rfl := Option.some.inj H
   go_enter Tryd.func22, Tryd.ntmps22
   go_wp2_with (first | ((with_reducible refine zpZ (N := 1) rfl ?_); refine bx_ 1 #[.int .i64 a0_0, .int .i64 a0_1, .int .i64 a0_2] 33 ?_; intro gb101 hg w18 hbox hb; have n0_ := (ns_ hb); have n1_ := zpS (hbox); have n2_ := (ng_ hg); have n3_ := n2_; clear HB; have HB := n0_; have BK101 := n1_; have GW101 := n2_; have GE101 := n3_; clear n0_ n1_ n2_ n3_; clear hb hbox hg; obtain ⟨hcz19_0, hcz19_1, hcz19_2⟩ := zdT BK101.out; obtain ⟨hfz19_0, hfz19_1, hfz19_2⟩ := zqD BK101.out) | ((with_reducible refine zgK (f := 27) rfl ?_); refine zqQ (some 5) rfl rfl Tryd.func27 (by kernel_rfl) rfl #[.int .i64 a0_0, .int .i64 (-131072), .int .i64 131072] rfl (by (try simp only [List.map_toArray, List.map_cons, List.map_nil]); first | done | rfl | (simp only [List.length_drop, List.length_take]; rfl)) ?_; (with_reducible refine (ziE.calls a0_0 (-131072) 131072 true _ A2.out).mono ?_); rintro e w' ⟨rfl, ⟨nd, rfl⟩⟩; refine ⟨_, rfl, ?_⟩) | (go_at_call 27; (with_reducible refine (ziE.calls a0_1 (-131072) 131072 false _ A4.out).mono ?_); rintro e w' ⟨rfl, ⟨nd, rfl⟩⟩))
   go_ret
   exact ⟨by first | rfl | (simp [ziS, znJ] <;> rfl) | (simp [*, ziS, znJ] <;> rfl), bb_⟩
 ·replace c3 := Bool.eq_false_iff.mpr c3
  subst c3
  have H1 : (some false) = some r := by rw [if_neg (show ¬ (false = true) by decide)] at H; exact H
  clear H
  have H := H1
  clear H1
  obtain rfl := Option.some.inj H
  go_enter Tryd.func22, Tryd.ntmps22
  go_wp2_with (first | ((with_reducible refine zpZ (N := 1) rfl ?_); refine bx_ 1 #[.int .i64 a0_0, .int .i64 a0_1, .int .i64 a0_2] 33 ?_; intro gb101 hg w20 hbox hb; have n0_ := (ns_ hb); have n1_ := zpS (hbox); have n2_ := (ng_ hg); have n3_ := n2_; clear HB; have HB := n0_; have BK101 := n1_; have GW101 := n2_; have GE101 := n3_; clear n0_ n1_ n2_ n3_; clear hb hbox hg; obtain ⟨hcz21_0, hcz21_1, hcz21_2⟩ := zdT BK101.out; obtain ⟨hfz21_0, hfz21_1, hfz21_2⟩ := zqD BK101.out) | ((with_reducible refine zgK (f := 27) rfl ?_); refine zqQ (some 5) rfl rfl Tryd.func27 (by kernel_rfl) rfl #[.int .i64 a0_0, .int .i64 (-131072), .int .i64 131072] rfl (by (try simp only [List.map_toArray, List.map_cons, List.map_nil]); first | done | rfl | (simp only [List.length_drop, List.length_take]; rfl)) ?_; (with_reducible refine (ziE.calls a0_0 (-131072) 131072 false _ A2.out).mono ?_); rintro e w' ⟨rfl, ⟨nd, rfl⟩⟩; refine ⟨_, rfl, ?_⟩))
  go_ret
  exact ⟨by first | rfl | (simp [ziS, znJ] <;> rfl) | (simp [*, ziS, znJ] <;> rfl), bb_⟩

def zzR.f (a0_0 : Int) (a0_1 : Int) (a0_2 : Int) (a0_3 : Int) (a0_4 : Int) (a0_5 : Int) : Option (Bool) := (zeG.f a0_0 a0_1 a0_2).bind fun t106 => (if t106 = true then ((zeG.f a0_3 a0_4 a0_5).bind fun t107 => (some t107)) else (some false))
theorem zzR.calls (a0_0 : Int) (a0_1 : Int) (a0_2 : Int) (a0_3 : Int) (a0_4 : Int) (a0_5 : Int) (r : Bool) (w : World) (h : zzR.f a0_0 a0_1 a0_2 a0_3 a0_4 a0_5 = some r) :
  Calls Tryd.prog 11 #[.agg #[.int .i64 a0_0, .int .i64 a0_1, .int .i64 a0_2, .int .i64 a0_3, .int .i64 a0_4, .int .i64 a0_5]] w fun e w' => e = .returned (.bool r) ∧ Below w.heap.size w w' := by
 have hu35 := Tryd.underlying35
 have hu33 := Tryd.underlying33
 have HB := zpS (Below.refl w.heap.size w)
 have H : ((zeG.f a0_0 a0_1 a0_2).bind fun t106 => (if t106 = true then ((zeG.f a0_3 a0_4 a0_5).bind fun t107 => (some t107)) else (some false))) = some r := h
 clear h
 replace H := Option.bind_eq_some_iff.mp H
 obtain ⟨t106, A20, H⟩ := H
 replace H : (if t106 = true then ((zeG.f a0_3 a0_4 a0_5).bind fun t107 => (some t107)) else (some false)) = some r := H
 have A2 := zpS A20
 clear A20
 by_cases c3 : t106 = true
 ·subst c3
  have H1 : ((zeG.f a0_3 a0_4 a0_5).bind fun t107 => (some t107)) = some r := by rw [if_pos rfl] at H; exact H
  clear H
  have H := H1
  clear H1
  replace H := Option.bind_eq_some_iff.mp H
  obtain ⟨t107, A40, H⟩ := H
  replace H : (some t107) = some r := H
  have A4 := zpS A40
  clear A40
  obtain rfl := Option.some.inj H
  go_enter Tryd.func11, Tryd.ntmps11
  go_wp2_with (first | ((with_reducible refine zpZ (N := 1) rfl ?_); refine bx_ 1 #[.int .i64 a0_0, .int .i64 a0_1, .int .i64 a0_2, .int .i64 a0_3, .int .i64 a0_4, .int .i64 a0_5] 35 ?_; intro gb105 hg w5 hbox hb; have n0_ := (ns_ hb); have n1_ := zpS (hbox); have n2_ := (ng_ hg); have n3_ := n2_; clear HB; have HB := n0_; have BK105 := n1_; have GW105 := n2_; have GE105 := n3_; clear n0_ n1_ n2_ n3_; clear hb hbox hg; obtain ⟨hcz6_0, hcz6_1, hcz6_2, hcz6_3, hcz6_4, hcz6_5⟩ := zrN BK105.out; obtain ⟨hfz6_0, hfz6_1, hfz6_2, hfz6_3, hfz6_4, hfz6_5⟩ := zoO BK105.out) | ((with_reducible refine zgK (f := 22) rfl ?_); refine zqQ (some 5) rfl rfl Tryd.func22 (by kernel_rfl) rfl #[.agg #[.int .i64 a0_0, .int .i64 a0_1, .int .i64 a0_2]] rfl (by (try simp only [List.map_toArray, List.map_cons, List.map_nil]); first | done | rfl | (simp only [List.length_drop, List.length_take]; rfl)) ?_; (with_reducible refine (zeG.calls a0_0 a0_1 a0_2 true _ A2.out).mono ?_); rintro e w7 ⟨rfl, hb⟩; refine ⟨_, rfl, ?_⟩; have n0_ := zpS (zgM (g := gb105) (o := .cells #[.int .i64 a0_0, .int .i64 a0_1, .int .i64 a0_2, .int .i64 a0_3, .int .i64 a0_4, .int .i64 a0_5] 35 (0, 0)) bk_ hb); have n1_ := (ns_ hb); clear BK105; clear HB; have BK105 := n0_; have HB := n1_; clear n0_ n1_; (try clear hb); (try clear hb2); obtain ⟨hcz8_0, hcz8_1, hcz8_2, hcz8_3, hcz8_4, hcz8_5⟩ := zrN BK105.out; obtain ⟨hfz8_0, hfz8_1, hfz8_2, hfz8_3, hfz8_4, hfz8_5⟩ := zoO BK105.out) | (go_at_call 22; (with_reducible refine (zeG.calls a0_3 a0_4 a0_5 t107 _ A4.out).mono ?_); rintro e w9 ⟨rfl, hb⟩; have n0_ := zpS (zgM (g := gb105) (o := .cells #[.int .i64 a0_0, .int .i64 a0_1, .int .i64 a0_2, .int .i64 a0_3, .int .i64 a0_4, .int .i64 a0_5] 35 (0, 0)) bk_ hb); have n1_ := (ns_ hb); clear BK105; clear HB; have BK105 := n0_; have HB := n1_; clear n0_ n1_; (try clear hb); (try clear hb2)))
  go_ret
  exact ⟨by first | rfl | (simp [ziS, znJ] <;> rfl) | (simp [*, ziS, znJ] <;> rfl), bb_⟩
 ·replace c3 := Bool.eq_false_iff.mpr c3
  subst c3
  have H1 : (some false) = some r := by rw [if_neg (show ¬ (false = true) by decide)] at H; exact H
  clear H
  have H := H1
  clear H1
  obtain rfl := Option.some.inj H
  go_enter Tryd.func11, Tryd.ntmps11
  go_wp2_with (first | ((with_reducible refine zpZ (N := 1) rfl ?_); refine bx_ 1 #[.int .i64 a0_0, .int .i64 a0_1, .int .i64 a0_2, .int .i64 a0_3, .int .i64 a0_4, .int .i64 a0_5] 35 ?_; intro gb105 hg w10 hbox hb; have n0_ := (ns_ hb); have n1_ := zpS (hbox); have n2_ := (ng_ hg); have n3_ := n2_; clear HB; have HB := n0_; have BK105 := n1_; have GW105 := n2_; have GE105 := n3_; clear n0_ n1_ n2_ n3_; clear hb hbox hg; obtain ⟨hcz11_0, hcz11_1, hcz11_2, hcz11_3, hcz11_4, hcz11_5⟩ := zrN BK105.out; obtain ⟨hfz11_0, hfz11_1, hfz11_2, hfz11_3, hfz11_4, hfz11_5⟩ := zoO BK105.out) | ((with_reducible refine zgK (f := 22) rfl ?_); refine zqQ (some 5) rfl rfl Tryd.func22 (by kernel_rfl) rfl #[.agg #[.int .i64 a0_0, .int .i64 a0_1, .int .i64 a0_2]] rfl (by (try simp only [List.map_toArray, List.map_cons, List.map_nil]); first | done | rfl | (simp only [List.length_drop, List.length_take]; rfl)) ?_; (with_reducible refine (zeG.calls a0_0 a0_1 a0_2 false _ A2.out).mono ?_); rintro e w12 ⟨rfl, hb⟩; refine ⟨_, rfl, ?_⟩; have n0_ := zpS (zgM (g := gb105) (o := .cells #[.int .i64 a0_0, .int .i64 a0_1, .int .i64 a0_2, .int .i64 a0_3, .int .i64 a0_4, .int .i64 a0_5] 35 (0, 0)) bk_ hb); have n1_ := (ns_ hb); clear BK105; clear HB; have BK105 := n0_; have HB := n1_; clear n0_ n1_; (try clear hb); (try clear hb2)))
  go_ret
  exact ⟨by first | rfl | (simp [ziS, znJ] <;> rfl) | (simp [*, ziS, znJ] <;> rfl), bb_⟩

def zpT.f (a0 : Int) : Option (Int × Int) := if a0 < 0 then (if (IntKind.u64.wrap ((IntKind.u64.wrap ((Go.bits .and .u64 (IntKind.u64.wrap (wrap64 (-a0))) 4294967295) * (Go.bits .and .u64 (IntKind.u64.wrap (wrap64 (-a0))) 4294967295))) + (IntKind.u64.wrap ((IntKind.u64.wrap ((IntKind.u64.wrap (2 * (Go.bits .and .u64 (IntKind.u64.wrap (wrap64 (-a0))) 4294967295))) * ((IntKind.u64.wrap (wrap64 (-a0))) / 4294967296))) * 4294967296)))) < (IntKind.u64.wrap ((Go.bits .and .u64 (IntKind.u64.wrap (wrap64 (-a0))) 4294967295) * (Go.bits .and .u64 (IntKind.u64.wrap (wrap64 (-a0))) 4294967295))) then (some (IntKind.u64.wrap ((IntKind.u64.wrap (((IntKind.u64.wrap (wrap64 (-a0))) / 4294967296) * ((IntKind.u64.wrap (wrap64 (-a0))) / 4294967296))) + (IntKind.u64.wrap (((IntKind.u64.wrap ((IntKind.u64.wrap (2 * (Go.bits .and .u64 (IntKind.u64.wrap (wrap64 (-a0))) 4294967295))) * ((IntKind.u64.wrap (wrap64 (-a0))) / 4294967296))) / 4294967296) + 1))), IntKind.u64.wrap ((IntKind.u64.wrap ((Go.bits .and .u64 (IntKind.u64.wrap (wrap64 (-a0))) 4294967295) * (Go.bits .and .u64 (IntKind.u64.wrap (wrap64 (-a0))) 4294967295))) + (IntKind.u64.wrap ((IntKind.u64.wrap ((IntKind.u64.wrap (2 * (Go.bits .and .u64 (IntKind.u64.wrap (wrap64 (-a0))) 4294967295))) * ((IntKind.u64.wrap (wrap64 (-a0))) / 4294967296))) * 4294967296))))) else (some (IntKind.u64.wrap ((IntKind.u64.wrap (((IntKind.u64.wrap (wrap64 (-a0))) / 4294967296) * ((IntKind.u64.wrap (wrap64 (-a0))) / 4294967296))) + ((IntKind.u64.wrap ((IntKind.u64.wrap (2 * (Go.bits .and .u64 (IntKind.u64.wrap (wrap64 (-a0))) 4294967295))) * ((IntKind.u64.wrap (wrap64 (-a0))) / 4294967296))) / 4294967296)), IntKind.u64.wrap ((IntKind.u64.wrap ((Go.bits .and .u64 (IntKind.u64.wrap (wrap64 (-a0))) 4294967295) * (Go.bits .and .u64 (IntKind.u64.wrap (wrap64 (-a0))) 4294967295))) + (IntKind.u64.wrap ((IntKind.u64.wrap ((IntKind.u64.wrap (2 * (Go.bits .and .u64 (IntKind.u64.wrap (wrap64 (-a0))) 4294967295))) * ((IntKind.u64.wrap (wrap64 (-a0))) / 4294967296))) * 4294967296)))))) else (if (IntKind.u64.wrap ((IntKind.u64.wrap ((Go.bits .and .u64 (IntKind.u64.wrap (a0)) 4294967295) * (Go.bits .and .u64 (IntKind.u64.wrap (a0)) 4294967295))) + (IntKind.u64.wrap ((IntKind.u64.wrap ((IntKind.u64.wrap (2 * (Go.bits .and .u64 (IntKind.u64.wrap (a0)) 4294967295))) * ((IntKind.u64.wrap (a0)) / 4294967296))) * 4294967296)))) < (IntKind.u64.wrap ((Go.bits .and .u64 (IntKind.u64.wrap (a0)) 4294967295) * (Go.bits .and .u64 (IntKind.u64.wrap (a0)) 4294967295))) then (some (IntKind.u64.wrap ((IntKind.u64.wrap (((IntKind.u64.wrap (a0)) / 4294967296) * ((IntKind.u64.wrap (a0)) / 4294967296))) + (IntKind.u64.wrap (((IntKind.u64.wrap ((IntKind.u64.wrap (2 * (Go.bits .and .u64 (IntKind.u64.wrap (a0)) 4294967295))) * ((IntKind.u64.wrap (a0)) / 4294967296))) / 4294967296) + 1))), IntKind.u64.wrap ((IntKind.u64.wrap ((Go.bits .and .u64 (IntKind.u64.wrap (a0)) 4294967295) * (Go.bits .and .u64 (IntKind.u64.wrap (a0)) 4294967295))) + (IntKind.u64.wrap ((IntKind.u64.wrap ((IntKind.u64.wrap (2 * (Go.bits .and .u64 (IntKind.u64.wrap (a0)) 4294967295))) * ((IntKind.u64.wrap (a0)) / 4294967296))) * 4294967296))))) else (some (IntKind.u64.wrap ((IntKind.u64.wrap (((IntKind.u64.wrap (a0)) / 4294967296) * ((IntKind.u64.wrap (a0)) / 4294967296))) + ((IntKind.u64.wrap ((IntKind.u64.wrap (2 * (Go.bits .and .u64 (IntKind.u64.wrap (a0)) 4294967295))) * ((IntKind.u64.wrap (a0)) / 4294967296))) / 4294967296)), IntKind.u64.wrap ((IntKind.u64.wrap ((Go.bits .and .u64 (IntKind.u64.wrap (a0)) 4294967295) * (Go.bits .and .u64 (IntKind.u64.wrap (a0)) 4294967295))) + (IntKind.u64.wrap ((IntKind.u64.wrap ((IntKind.u64.wrap (2 * (Go.bits .and .u64 (IntKind.u64.wrap (a0)) 4294967295))) * ((IntKind.u64.wrap (a0)) / 4294967296))) * 4294967296))))))
theorem zpT.calls (a0 : Int) (r1 : Int) (r2 : Int) (w : World) (h : zpT.f a0 = some (r1, r2)) :
  Calls Tryd.prog 70 #[.int .i64 a0] w fun e w' => e = .returned (.tuple #[.int .u64 r1, .int .u64 r2]) ∧ Drawn0 w w' := by
 have H : (if a0 < 0 then (if (IntKind.u64.wrap ((IntKind.u64.wrap ((Go.bits .and .u64 (IntKind.u64.wrap (wrap64 (-a0))) 4294967295) * (Go.bits .and .u64 (IntKind.u64.wrap (wrap64 (-a0))) 4294967295))) + (IntKind.u64.wrap ((IntKind.u64.wrap ((IntKind.u64.wrap (2 * (Go.bits .and .u64 (IntKind.u64.wrap (wrap64 (-a0))) 4294967295))) * ((IntKind.u64.wrap (wrap64 (-a0))) / 4294967296))) * 4294967296)))) < (IntKind.u64.wrap ((Go.bits .and .u64 (IntKind.u64.wrap (wrap64 (-a0))) 4294967295) * (Go.bits .and .u64 (IntKind.u64.wrap (wrap64 (-a0))) 4294967295))) then (some (IntKind.u64.wrap ((IntKind.u64.wrap (((IntKind.u64.wrap (wrap64 (-a0))) / 4294967296) * ((IntKind.u64.wrap (wrap64 (-a0))) / 4294967296))) + (IntKind.u64.wrap (((IntKind.u64.wrap ((IntKind.u64.wrap (2 * (Go.bits .and .u64 (IntKind.u64.wrap (wrap64 (-a0))) 4294967295))) * ((IntKind.u64.wrap (wrap64 (-a0))) / 4294967296))) / 4294967296) + 1))), IntKind.u64.wrap ((IntKind.u64.wrap ((Go.bits .and .u64 (IntKind.u64.wrap (wrap64 (-a0))) 4294967295) * (Go.bits .and .u64 (IntKind.u64.wrap (wrap64 (-a0))) 4294967295))) + (IntKind.u64.wrap ((IntKind.u64.wrap ((IntKind.u64.wrap (2 * (Go.bits .and .u64 (IntKind.u64.wrap (wrap64 (-a0))) 4294967295))) * ((IntKind.u64.wrap (wrap64 (-a0))) / 4294967296))) * 4294967296))))) else (some (IntKind.u64.wrap ((IntKind.u64.wrap (((IntKind.u64.wrap (wrap64 (-a0))) / 4294967296) * ((IntKind.u64.wrap (wrap64 (-a0))) / 4294967296))) + ((IntKind.u64.wrap ((IntKind.u64.wrap (2 * (Go.bits .and .u64 (IntKind.u64.wrap (wrap64 (-a0))) 4294967295))) * ((IntKind.u64.wrap (wrap64 (-a0))) / 4294967296))) / 4294967296)), IntKind.u64.wrap ((IntKind.u64.wrap ((Go.bits .and .u64 (IntKind.u64.wrap (wrap64 (-a0))) 4294967295) * (Go.bits .and .u64 (IntKind.u64.wrap (wrap64 (-a0))) 4294967295))) + (IntKind.u64.wrap ((IntKind.u64.wrap ((IntKind.u64.wrap (2 * (Go.bits .and .u64 (IntKind.u64.wrap (wrap64 (-a0))) 4294967295))) * ((IntKind.u64.wrap (wrap64 (-a0))) / 4294967296))) * 4294967296)))))) else (if (IntKind.u64.wrap ((IntKind.u64.wrap ((Go.bits .and .u64 (IntKind.u64.wrap (a0)) 4294967295) * (Go.bits .and .u64 (IntKind.u64.wrap (a0)) 4294967295))) + (IntKind.u64.wrap ((IntKind.u64.wrap ((IntKind.u64.wrap (2 * (Go.bits .and .u64 (IntKind.u64.wrap (a0)) 4294967295))) * ((IntKind.u64.wrap (a0)) / 4294967296))) * 4294967296)))) < (IntKind.u64.wrap ((Go.bits .and .u64 (IntKind.u64.wrap (a0)) 4294967295) * (Go.bits .and .u64 (IntKind.u64.wrap (a0)) 4294967295))) then (some (IntKind.u64.wrap ((IntKind.u64.wrap (((IntKind.u64.wrap (a0)) / 4294967296) * ((IntKind.u64.wrap (a0)) / 4294967296))) + (IntKind.u64.wrap (((IntKind.u64.wrap ((IntKind.u64.wrap (2 * (Go.bits .and .u64 (IntKind.u64.wrap (a0)) 4294967295))) * ((IntKind.u64.wrap (a0)) / 4294967296))) / 4294967296) + 1))), IntKind.u64.wrap ((IntKind.u64.wrap ((Go.bits .and .u64 (IntKind.u64.wrap (a0)) 4294967295) * (Go.bits .and .u64 (IntKind.u64.wrap (a0)) 4294967295))) + (IntKind.u64.wrap ((IntKind.u64.wrap ((IntKind.u64.wrap (2 * (Go.bits .and .u64 (IntKind.u64.wrap (a0)) 4294967295))) * ((IntKind.u64.wrap (a0)) / 4294967296))) * 4294967296))))) else (some (IntKind.u64.wrap ((IntKind.u64.wrap (((IntKind.u64.wrap (a0)) / 4294967296) * ((IntKind.u64.wrap (a0)) / 4294967296))) + ((IntKind.u64.wrap ((IntKind.u64.wrap (2 * (Go.bits .and .u64 (IntKind.u64.wrap (a0)) 4294967295))) * ((IntKind.u64.wrap (a0)) / 4294967296))) / 4294967296)), IntKind.u64.wrap ((IntKind.u64.wrap ((Go.bits .and .u64 (IntKind.u64.wrap (a0)) 4294967295) * (Go.bits .and .u64 (IntKind.u64.wrap (a0)) 4294967295))) + (IntKind.u64.wrap ((IntKind.u64.wrap ((IntKind.u64.wrap (2 * (Go.bits .and .u64 (IntKind.u64.wrap (a0)) 4294967295))) * ((IntKind.u64.wrap (a0)) / 4294967296))) * 4294967296))))))) = some (r1, r2) := h
 clear h
 by_cases c2 : a0 < 0
 ·rw [if_pos c2] at H
  have c2b0 : decide (a0 < 0) = true := decide_eq_true c2
  clear c2
  by_cases c3 : (IntKind.u64.wrap ((IntKind.u64.wrap ((Go.bits .and .u64 (IntKind.u64.wrap (wrap64 (-a0))) 4294967295) * (Go.bits .and .u64 (IntKind.u64.wrap (wrap64 (-a0))) 4294967295))) + (IntKind.u64.wrap ((IntKind.u64.wrap ((IntKind.u64.wrap (2 * (Go.bits .and .u64 (IntKind.u64.wrap (wrap64 (-a0))) 4294967295))) * ((IntKind.u64.wrap (wrap64 (-a0))) / 4294967296))) * 4294967296)))) < (IntKind.u64.wrap ((Go.bits .and .u64 (IntKind.u64.wrap (wrap64 (-a0))) 4294967295) * (Go.bits .and .u64 (IntKind.u64.wrap (wrap64 (-a0))) 4294967295)))
  ·rw [if_pos c3] at H
   have c3b0 : decide ((IntKind.u64.wrap ((IntKind.u64.wrap ((Go.bits .and .u64 (IntKind.u64.wrap (wrap64 (-a0))) 4294967295) * (Go.bits .and .u64 (IntKind.u64.wrap (wrap64 (-a0))) 4294967295))) + (IntKind.u64.wrap ((IntKind.u64.wrap ((IntKind.u64.wrap (2 * (Go.bits .and .u64 (IntKind.u64.wrap (wrap64 (-a0))) 4294967295))) * ((IntKind.u64.wrap (wrap64 (-a0))) / 4294967296))) * 4294967296)))) < (IntKind.u64.wrap ((Go.bits .and .u64 (IntKind.u64.wrap (wrap64 (-a0))) 4294967295) * (Go.bits .and .u64 (IntKind.u64.wrap (wrap64 (-a0))) 4294967295)))) = true := decide_eq_true c3
   clear c3
   simp only [Option.some.injEq, Prod.mk.injEq] at H
   obtain ⟨rfl, rfl⟩ := H
   go_enter Tryd.func70, Tryd.ntmps70
   go_wp2
   go_ret2
   exact ⟨by first | rfl | (simp; done) | (simp [*]; done), by repeat (first | exact Drawn0.refl _ | apply Drawn0.step)⟩
  ·rw [if_neg c3] at H
   have c3b0 : decide ((IntKind.u64.wrap ((IntKind.u64.wrap ((Go.bits .and .u64 (IntKind.u64.wrap (wrap64 (-a0))) 4294967295) * (Go.bits .and .u64 (IntKind.u64.wrap (wrap64 (-a0))) 4294967295))) + (IntKind.u64.wrap ((IntKind.u64.wrap ((IntKind.u64.wrap (2 * (Go.bits .and .u64 (IntKind.u64.wrap (wrap64 (-a0))) 4294967295))) * ((IntKind.u64.wrap (wrap64 (-a0))) / 4294967296))) * 4294967296)))) < (IntKind.u64.wrap ((Go.bits .and .u64 (IntKind.u64.wrap (wrap64 (-a0))) 4294967295) * (Go.bits .and .u64 (IntKind.u64.wrap (wrap64 (-a0))) 4294967295)))) = false := decide_eq_false c3
   clear c3
   simp only [Option.some.injEq, Prod.mk.injEq] at H
   obtain ⟨rfl, rfl⟩ := H
   go_enter Tryd.func70, Tryd.ntmps70
   go_wp2
   go_ret2
   exact ⟨by first | rfl | (simp; done) | (simp [*]; done), by repeat (first | exact Drawn0.refl _ | apply Drawn0.step)⟩
 ·rw [if_neg c2] at H
  have c2b0 : decide (a0 < 0) = false := decide_eq_false c2
  clear c2
  by_cases c4 : (IntKind.u64.wrap ((IntKind.u64.wrap ((Go.bits .and .u64 (IntKind.u64.wrap (a0)) 4294967295) * (Go.bits .and .u64 (IntKind.u64.wrap (a0)) 4294967295))) + (IntKind.u64.wrap ((IntKind.u64.wrap ((IntKind.u64.wrap (2 * (Go.bits .and .u64 (IntKind.u64.wrap (a0)) 4294967295))) * ((IntKind.u64.wrap (a0)) / 4294967296))) * 4294967296)))) < (IntKind.u64.wrap ((Go.bits .and .u64 (IntKind.u64.wrap (a0)) 4294967295) * (Go.bits .and .u64 (IntKind.u64.wrap (a0)) 4294967295)))
  ·rw [if_pos c4] at H
   have c4b0 : decide ((IntKind.u64.wrap ((IntKind.u64.wrap ((Go.bits .and .u64 (IntKind.u64.wrap (a0)) 4294967295) * (Go.bits .and .u64 (IntKind.u64.wrap (a0)) 4294967295))) + (IntKind.u64.wrap ((IntKind.u64.wrap ((IntKind.u64.wrap (2 * (Go.bits .and .u64 (IntKind.u64.wrap (a0)) 4294967295))) * ((IntKind.u64.wrap (a0)) / 4294967296))) * 4294967296)))) < (IntKind.u64.wrap ((Go.bits .and .u64 (IntKind.u64.wrap (a0)) 4294967295) * (Go.bits .and .u64 (IntKind.u64.wrap (a0)) 4294967295)))) = true := decide_eq_true c4
   clear c4
   simp only [Option.some.injEq, Prod.mk.injEq] at H
   obtain ⟨rfl, rfl⟩ := H
   go_enter Tryd.func70, Tryd.ntmps70
   go_wp2
   go_ret2
   exact ⟨by first | rfl | (simp; done) | (simp [*]; done), by repeat (first | exact Drawn0.refl _ | apply Drawn0.step)⟩
  ·rw [if_neg c4] at H
   have c4b0 : decide ((IntKind.u64.wrap ((IntKind.u64.wrap ((Go.bits .and .u64 (IntKind.u64.wrap (a0)) 4294967295) * (Go.bits .and .u64 (IntKind.u64.wrap (a0)) 4294967295))) + (IntKind.u64.wrap ((IntKind.u64.wrap ((IntKind.u64.wrap (2 * (Go.bits .and .u64 (IntKind.u64.wrap (a0)) 4294967295))) * ((IntKind.u64.wrap (a0)) / 4294967296))) * 4294967296)))) < (IntKind.u64.wrap ((Go.bits .and .u64 (IntKind.u64.wrap (a0)) 4294967295) * (Go.bits .and .u64 (IntKind.u64.wrap (a0)) 4294967295)))) = false := decide_eq_false c4
   clear c4
   simp only [Option.some.injEq, Prod.mk.injEq] at H
   obtain ⟨rfl, rfl⟩ := H
   go_enter Tryd.func70, Tryd.ntmps70
   go_wp2
   go_ret2
   exact ⟨by first | rfl | (simp; done) | (simp [*]; done), by repeat (first | exact Drawn0.refl _ | apply Drawn0.step)⟩

def zoU.f (a0 : Int) (a1 : Int) : Option (Bool) := (zpT.f a0).bind fun bt108 => ((zpT.f a1).bind fun bt110 => (if bt108.1 < (IntKind.u64.wrap ((IntKind.u64.wrap (bt110.1 * 2)) + (bt110.2 / 9223372036854775808))) then (some true) else (if bt108.1 = (IntKind.u64.wrap ((IntKind.u64.wrap (bt110.1 * 2)) + (bt110.2 / 9223372036854775808))) then (some (decide (bt108.2 < (IntKind.u64.wrap (bt110.2 * 2))))) else (some false))))
theorem zoU.calls (a0 : Int) (a1 : Int) (r : Bool) (w : World) (h : zoU.f a0 a1 = some r) :
  Calls Tryd.prog 59 #[.int .i64 a0, .int .i64 a1] w fun e w' => e = .returned (.bool r) ∧ Drawn0 w w' := by
 have H : ((zpT.f a0).bind fun bt108 => ((zpT.f a1).bind fun bt110 => (if bt108.1 < (IntKind.u64.wrap ((IntKind.u64.wrap (bt110.1 * 2)) + (bt110.2 / 9223372036854775808))) then (some true) else (if bt108.1 = (IntKind.u64.wrap ((IntKind.u64.wrap (bt110.1 * 2)) + (bt110.2 / 9223372036854775808))) then (some (decide (bt108.2 < (IntKind.u64.wrap (bt110.2 * 2))))) else (some false))))) = some r := h
 clear h
 replace H := Option.bind_eq_some_iff.mp H
 obtain ⟨⟨t108, t109⟩, A30, H⟩ := H
 replace H : ((zpT.f a1).bind fun bt110 => (if t108 < (IntKind.u64.wrap ((IntKind.u64.wrap (bt110.1 * 2)) + (bt110.2 / 9223372036854775808))) then (some true) else (if t108 = (IntKind.u64.wrap ((IntKind.u64.wrap (bt110.1 * 2)) + (bt110.2 / 9223372036854775808))) then (some (decide (t109 < (IntKind.u64.wrap (bt110.2 * 2))))) else (some false)))) = some r := H
 have A3 := zpS A30
 clear A30
 replace H := Option.bind_eq_some_iff.mp H
 obtain ⟨⟨t110, t111⟩, A40, H⟩ := H
 replace H : (if t108 < (IntKind.u64.wrap ((IntKind.u64.wrap (t110 * 2)) + (t111 / 9223372036854775808))) then (some true) else (if t108 = (IntKind.u64.wrap ((IntKind.u64.wrap (t110 * 2)) + (t111 / 9223372036854775808))) then (some (decide (t109 < (IntKind.u64.wrap (t111 * 2))))) else (some false))) = some r := H
 have A4 := zpS A40
 clear A40
 by_cases c5 : t108 < (IntKind.u64.wrap ((IntKind.u64.wrap (t110 * 2)) + (t111 / 9223372036854775808)))
 ·rw [if_pos c5] at H
  have c5b0 : decide (t108 < (IntKind.u64.wrap ((IntKind.u64.wrap (t110 * 2)) + (t111 / 9223372036854775808)))) = true := decide_eq_true c5
  clear c5
  obtain rfl := Option.some.inj H
  go_enter Tryd.func59, Tryd.ntmps59
  go_wp2_with (first | ((with_reducible refine zgK (f := 70) rfl ?_); refine zqQ (some 11) rfl rfl Tryd.func70 (by kernel_rfl) rfl #[.int .i64 a0] rfl (by (try simp only [List.map_toArray, List.map_cons, List.map_nil]); first | done | rfl | (simp only [List.length_drop, List.length_take]; rfl)) ?_; (with_reducible refine (zpT.calls a0 t108 t109 _ A3.out).mono ?_); rintro e w' ⟨rfl, ⟨nd, rfl⟩⟩; refine ⟨_, rfl, ?_⟩) | ((with_reducible refine zgK (f := 70) rfl ?_); refine zqQ (some 16) rfl rfl Tryd.func70 (by kernel_rfl) rfl #[.int .i64 a1] rfl (by (try simp only [List.map_toArray, List.map_cons, List.map_nil]); first | done | rfl | (simp only [List.length_drop, List.length_take]; rfl)) ?_; (with_reducible refine (zpT.calls a1 t110 t111 _ A4.out).mono ?_); rintro e w' ⟨rfl, ⟨nd, rfl⟩⟩; refine ⟨_, rfl, ?_⟩))
  go_ret
  exact ⟨by first | rfl | (simp; done) | (simp [*]; done), by repeat (first | exact Drawn0.refl _ | apply Drawn0.step)⟩
 ·rw [if_neg c5] at H
  have c5b0 : decide (t108 < (IntKind.u64.wrap ((IntKind.u64.wrap (t110 * 2)) + (t111 / 9223372036854775808)))) = false := decide_eq_false c5
  clear c5
  by_cases c6 : t108 = (IntKind.u64.wrap ((IntKind.u64.wrap (t110 * 2)) + (t111 / 9223372036854775808)))
  ·rw [if_pos c6] at H
   have c6b0 : (t108 == (IntKind.u64.wrap ((IntKind.u64.wrap (t110 * 2)) + (t111 / 9223372036854775808)))) = true := beq_iff_eq.mpr c6
   have c6b1 : (t108 != (IntKind.u64.wrap ((IntKind.u64.wrap (t110 * 2)) + (t111 / 9223372036854775808)))) = false := bne_eq_false_iff_eq.mpr c6
   clear c6
   obtain rfl := Option.some.inj H
   go_enter Tryd.func59, Tryd.ntmps59
   go_wp2_with (first | ((with_reducible refine zgK (f := 70) rfl ?_); refine zqQ (some 11) rfl rfl Tryd.func70 (by kernel_rfl) rfl #[.int .i64 a0] rfl (by (try simp only [List.map_toArray, List.map_cons, List.map_nil]); first | done | rfl | (simp only [List.length_drop, List.length_take]; rfl)) ?_; (with_reducible refine (zpT.calls a0 t108 t109 _ A3.out).mono ?_); rintro e w' ⟨rfl, ⟨nd, rfl⟩⟩; refine ⟨_, rfl, ?_⟩) | ((with_reducible refine zgK (f := 70) rfl ?_); refine zqQ (some 16) rfl rfl Tryd.func70 (by kernel_rfl) rfl #[.int .i64 a1] rfl (by (try simp only [List.map_toArray, List.map_cons, List.map_nil]); first | done | rfl | (simp only [List.length_drop, List.length_take]; rfl)) ?_; (with_reducible refine (zpT.calls a1 t110 t111 _ A4.out).mono ?_); rintro e w' ⟨rfl, ⟨nd, rfl⟩⟩; refine ⟨_, rfl, ?_⟩))
   go_ret
   exact ⟨by first | rfl | (simp; done) | (simp [*]; done), by repeat (first | exact Drawn0.refl _ | apply Drawn0.step)⟩
  ·rw [if_neg c6] at H
   have c6b0 : (t108 == (IntKind.u64.wrap ((IntKind.u64.wrap (t110 * 2)) + (t111 / 9223372036854775808)))) = false := beq_eq_false_iff_ne.mpr c6
   have c6b1 : (t108 != (IntKind.u64.wrap ((IntKind.u64.wrap (t110 * 2)) + (t111 / 9223372036854775808)))) = true := bne_iff_ne.mpr c6
   obtain rfl := Option.some.inj H
   go_enter Tryd.func59, Tryd.ntmps59
   go_wp2_with (first | ((with_reducible refine zgK (f := 70) rfl ?_); refine zqQ (some 11) rfl rfl Tryd.func70 (by kernel_rfl) rfl #[.int .i64 a0] rfl (by (try simp only [List.map_toArray, List.map_cons, List.map_nil]); first | done | rfl | (simp only [List.length_drop, List.length_take]; rfl)) ?_; (with_reducible refine (zpT.calls a0 t108 t109 _ A3.out).mono ?_); rintro e w' ⟨rfl, ⟨nd, rfl⟩⟩; refine ⟨_, rfl, ?_⟩) | ((with_reducible refine zgK (f := 70) rfl ?_); refine zqQ (some 16) rfl rfl Tryd.func70 (by kernel_rfl) rfl #[.int .i64 a1] rfl (by (try simp only [List.map_toArray, List.map_cons, List.map_nil]); first | done | rfl | (simp only [List.length_drop, List.length_take]; rfl)) ?_; (with_reducible refine (zpT.calls a1 t110 t111 _ A4.out).mono ?_); rintro e w' ⟨rfl, ⟨nd, rfl⟩⟩; refine ⟨_, rfl, ?_⟩))
   go_ret
   exact ⟨by first | rfl | (simp; done) | (simp [*]; done), by repeat (first | exact Drawn0.refl _ | apply Drawn0.step)⟩

mutual
def zxR.j0 : Nat → Bool → Int → Int → Int → Option (Int)
 | 0, _, _, _, _ => none
 | k + 1, x3, x113000, x113001, x113002 => if x3 = true then (some 0) else (if x113000 ≥ 0 then (zxR.j1 k (decide (x113001 ≥ 0)) x113000 x113001 x113002) else (zxR.j1 k false x113000 x113001 x113002))
def zxR.j1 : Nat → Bool → Int → Int → Int → Option (Int)
 | 0, _, _, _, _ => none
 | k + 1, x12, x113000, x113001, x113002 => if x12 = true then (some 1) else (if x113000 ≤ 0 then (zxR.j2 k (decide (x113001 ≤ 0)) x113000 x113001 x113002) else (zxR.j2 k false x113000 x113001 x113002))
def zxR.j2 : Nat → Bool → Int → Int → Int → Option (Int)
 | 0, _, _, _, _ => none
 | k + 1, x21, x113000, x113001, x113002 => if x21 = true then (some (-1)) else ((zoU.f x113000 x113001).bind fun t113 => (if (t113 == (decide (x113001 > 0))) = true then (some 1) else (some (-1))))
end
def zxR.f (k : Nat) (a0_0 : Int) (a0_1 : Int) (a0_2 : Int) : Option (Int) := if a0_0 = 0 then (zxR.j0 k (a0_1 == 0) a0_0 a0_1 a0_2) else (zxR.j0 k false a0_0 a0_1 a0_2)
theorem zxR.mono_l : ∀ k, (∀ y0 y1 y2 y3, LeO (zxR.j0 k y0 y1 y2 y3) (zxR.j0 (k + 1) y0 y1 y2 y3)) ∧ (∀ y0 y1 y2 y3, LeO (zxR.j1 k y0 y1 y2 y3) (zxR.j1 (k + 1) y0 y1 y2 y3)) ∧ (∀ y0 y1 y2 y3, LeO (zxR.j2 k y0 y1 y2 y3) (zxR.j2 (k + 1) y0 y1 y2 y3))
 | 0 => ⟨fun _ _ _ _ r h => by simp [zxR.j0] at h, fun _ _ _ _ r h => by simp [zxR.j1] at h, fun _ _ _ _ r h => by simp [zxR.j2] at h⟩
 | k + 1 => by
  obtain ⟨ih0, ih1, ih2⟩ := zxR.mono_l k
  refine ⟨?_, ?_, ?_⟩
  ·intro y0 y1 y2 y3
   unfold zxR.j0
   repeat' first
   | (with_reducible exact ih0 _ _ _ _)
   | (with_reducible exact ih1 _ _ _ _)
   | (with_reducible exact ih2 _ _ _ _)
   | (with_reducible exact LeO.refl _)
   | (with_reducible exact LeO.none _)
   | (with_reducible refine LeO.ite ?_ ?_)
   | (with_reducible refine LeO.bind ?_ (fun _ => ?_))
   | exact ih0 _ _ _ _
   | exact ih1 _ _ _ _
   | exact ih2 _ _ _ _
   | exact LeO.none _
   | refine LeO.ite ?_ ?_
   | refine LeO.bind ?_ (fun _ => ?_)
  ·intro y0 y1 y2 y3
   unfold zxR.j1
   repeat' first
   | (with_reducible exact ih0 _ _ _ _)
   | (with_reducible exact ih1 _ _ _ _)
   | (with_reducible exact ih2 _ _ _ _)
   | (with_reducible exact LeO.refl _)
   | (with_reducible exact LeO.none _)
   | (with_reducible refine LeO.ite ?_ ?_)
   | (with_reducible refine LeO.bind ?_ (fun _ => ?_))
   | exact ih0 _ _ _ _
   | exact ih1 _ _ _ _
   | exact ih2 _ _ _ _
   | exact LeO.none _
   | refine LeO.ite ?_ ?_
   | refine LeO.bind ?_ (fun _ => ?_)
  ·intro y0 y1 y2 y3
   unfold zxR.j2
   repeat' first
   | (with_reducible exact ih0 _ _ _ _)
   | (with_reducible exact ih1 _ _ _ _)
   | (with_reducible exact ih2 _ _ _ _)
   | (with_reducible exact LeO.refl _)
   | (with_reducible exact LeO.none _)
   | (with_reducible refine LeO.ite ?_ ?_)
   | (with_reducible refine LeO.bind ?_ (fun _ => ?_))
   | exact ih0 _ _ _ _
   | exact ih1 _ _ _ _
   | exact ih2 _ _ _ _
   | exact LeO.none _
   | refine LeO.ite ?_ ?_
   | refine LeO.bind ?_ (fun _ => ?_)
theorem zxR.mono : ∀ a0 a1 a2 k, LeO (zxR.f k a0 a1 a2) (zxR.f (k + 1) a0 a1 a2) := by
 intro a0 a1 a2 k
 obtain ⟨ih0, ih1, ih2⟩ := zxR.mono_l k
 unfold zxR.f
 repeat' first
   | (with_reducible exact ih0 _ _ _ _)
   | (with_reducible exact ih1 _ _ _ _)
   | (with_reducible exact ih2 _ _ _ _)
   | (with_reducible exact LeO.refl _)
   | (with_reducible exact LeO.none _)
   | (with_reducible refine LeO.ite ?_ ?_)
   | (with_reducible refine LeO.bind ?_ (fun _ => ?_))
   | exact ih0 _ _ _ _
   | exact ih1 _ _ _ _
   | exact ih2 _ _ _ _
   | exact LeO.none _
   | refine LeO.ite ?_ ?_
   | refine LeO.bind ?_ (fun _ => ?_)
theorem zxR.calls (k : Nat) (a0_0 : Int) (a0_1 : Int) (a0_2 : Int) (r : Int) (w : World) (h : zxR.f k a0_0 a0_1 a0_2 = some r) :
  Calls Tryd.prog 48 #[.agg #[.int .i64 a0_0, .int .i64 a0_1, .int .i64 a0_2]] w fun e w' => e = .returned (.int .i64 r) ∧ Below w.heap.size w w' := by
 have hu63 := Tryd.underlying63
 have HB := zpS (Below.refl w.heap.size w)
 have H : (if a0_0 = 0 then (zxR.j0 k (a0_1 == 0) a0_0 a0_1 a0_2) else (zxR.j0 k false a0_0 a0_1 a0_2)) = some r := h
 clear h
 have HC2 := zpS H
 clear H
 go_enter Tryd.func48, Tryd.ntmps48
 go_upto_region 1 with (first | ((with_reducible refine zpZ (N := 1) rfl ?_); refine bx_ 1 #[.int .i64 a0_0, .int .i64 a0_1, .int .i64 a0_2] 63 ?_; intro gb112 hg w3 hbox hb; have n0_ := (ns_ hb); have n1_ := zpS (hbox); have n2_ := (ng_ hg); have n3_ := n2_; clear HB; have HB := n0_; have BK112 := n1_; have GW112 := n2_; have GE112 := n3_; clear n0_ n1_ n2_ n3_; clear hb hbox hg))
 repeat (go_quiet (first | ((with_reducible refine zpZ (N := 1) rfl ?_); refine bx_ 1 #[.int .i64 a0_0, .int .i64 a0_1, .int .i64 a0_2] 63 ?_; intro gb112 hg w3 hbox hb; have n0_ := (ns_ hb); have n1_ := zpS (hbox); have n2_ := (ng_ hg); have n3_ := n2_; clear HB; have HB := n0_; have BK112 := n1_; have GW112 := n2_; have GE112 := n3_; clear n0_ n1_ n2_ n3_; clear hb hbox hg)); go_upto_region 1 with (first | ((with_reducible refine zpZ (N := 1) rfl ?_); refine bx_ 1 #[.int .i64 a0_0, .int .i64 a0_1, .int .i64 a0_2] 63 ?_; intro gb112 hg w3 hbox hb; have n0_ := (ns_ hb); have n1_ := zpS (hbox); have n2_ := (ng_ hg); have n3_ := n2_; clear HB; have HB := n0_; have BK112 := n1_; have GW112 := n2_; have GE112 := n3_; clear n0_ n1_ n2_ n3_; clear hb hbox hg)))
 (try simp only [Act.put, set_a_, set_b_, set_c_])
 go_cut [3] (fun v3 wc => ∃ (kq : Nat) (x3_1 : Bool), v3 = .bool x3_1 ∧ Aside0 (zxR.j0 kq x3_1 a0_0 a0_1 a0_2 = some r) ∧ Aside0 (kq ≤ k) ∧ Aside0 (wc.heap[gb112]? = some (.cells #[.int .i64 a0_0, .int .i64 a0_1, .int .i64 a0_2] 63 (0, 0))) ∧ Aside0 (Below w.heap.size w wc))
 case first =>
  have H := HC2.out
  clear HC2
  by_cases c4 : a0_0 = 0
  ·rw [if_pos c4] at H
   have c4b0 : (a0_0 == 0) = true := beq_iff_eq.mpr c4
   have c4b1 : (a0_0 != 0) = false := bne_eq_false_iff_eq.mpr c4
   clear c4
   (first | rw [c4b0] | (simp only [zcM, ziK]; rw [c4b0]) | skip)
   have H' := zpS H
   clear H
   obtain ⟨hcz5_0, hcz5_1, hcz5_2⟩ := zdT BK112.out
   obtain ⟨hfz5_0, hfz5_1, hfz5_2⟩ := zqD BK112.out
   go_wp2
   repeat (go_quiet (fail); try go_wp2)
   go_meet
   case rel => exact ⟨_, ((a0_1 == 0)), (by first | rfl | (simp; done) | (simp [*]; done)), H', ⟨by first | omega | exact Nat.le_refl _⟩, ⟨bk_⟩, ⟨bb_⟩⟩
  ·rw [if_neg c4] at H
   have c4b0 : (a0_0 == 0) = false := beq_eq_false_iff_ne.mpr c4
   have c4b1 : (a0_0 != 0) = true := bne_iff_ne.mpr c4
   (first | rw [c4b0] | (simp only [zcM, ziK]; rw [c4b0]) | skip)
   have H' := zpS H
   clear H
   obtain ⟨hcz6_0, hcz6_1, hcz6_2⟩ := zdT BK112.out
   obtain ⟨hfz6_0, hfz6_1, hfz6_2⟩ := zqD BK112.out
   go_wp2
   repeat (go_quiet (fail); try go_wp2)
   go_meet
   case rel => exact ⟨_, (false), (by first | rfl | (simp; done) | (simp [*]; done)), H', ⟨by first | omega | exact Nat.le_refl _⟩, ⟨bk_⟩, ⟨bb_⟩⟩
 case rest =>
  clear HC2
  try clear p2
  try clear c4
  try clear c4b0
  try clear c4b1
  try clear hcz5_0
  try clear hcz5_1
  try clear hcz5_2
  try clear hcz6_0
  try clear hcz6_1
  try clear hcz6_2
  try clear hfz5_0
  try clear hfz5_1
  try clear hfz5_2
  try clear hfz6_0
  try clear hfz6_1
  try clear hfz6_2
  obtain ⟨kq, x3_1, rfl, HA, HJ1, BK112, HB⟩ := hcut
  cases kq with
  | zero => exact absurd HA.out (by simp [zxR.j0])
  | succ kj1 =>
   have H := HA.out
   clear HA
   simp only [zxR.j0] at H
   by_cases c7 : x3_1 = true
   ·subst c7
    have H1 : (some 0) = some r := by rw [if_pos rfl] at H; exact H
    clear H
    have H := H1
    clear H1
    obtain rfl := Option.some.inj H
    go_wp2
    repeat (go_quiet (fail); try go_wp2)
    go_ret
    exact ⟨by first | rfl | (simp [ziS, znJ] <;> rfl) | (simp [*, ziS, znJ] <;> rfl), bb_⟩
   ·replace c7 := Bool.eq_false_iff.mpr c7
    subst c7
    have H1 : (if a0_0 ≥ 0 then (zxR.j1 kj1 (decide (a0_1 ≥ 0)) a0_0 a0_1 a0_2) else (zxR.j1 kj1 false a0_0 a0_1 a0_2)) = some r := by rw [if_neg (show ¬ (false = true) by decide)] at H; exact H
    clear H
    have H := H1
    clear H1
    have HC8 := zpS H
    clear H
    go_upto_region 3 with (fail)
    repeat (go_quiet (fail); go_upto_region 3 with (fail))
    go_cut [12] (fun v12 wc => ∃ (kq : Nat) (x12_7 : Bool), v12 = .bool x12_7 ∧ Aside0 (zxR.j1 kq x12_7 a0_0 a0_1 a0_2 = some r) ∧ Aside0 (kq ≤ kj1) ∧ Aside0 (wc.heap[gb112]? = some (.cells #[.int .i64 a0_0, .int .i64 a0_1, .int .i64 a0_2] 63 (0, 0))) ∧ Aside0 (Below w.heap.size w wc))
    case first =>
     have H := HC8.out
     clear HC8
     by_cases c9 : a0_0 ≥ 0
     ·rw [if_pos c9] at H
      have c9b0 : decide (0 ≤ a0_0) = true := decide_eq_true c9
      clear c9
      (first | rw [c9b0] | (simp only [zcM, ziK]; rw [c9b0]) | skip)
      have H' := zpS H
      clear H
      obtain ⟨hcz10_0, hcz10_1, hcz10_2⟩ := zdT BK112.out
      obtain ⟨hfz10_0, hfz10_1, hfz10_2⟩ := zqD BK112.out
      go_wp2
      repeat (go_quiet (fail); try go_wp2)
      go_meet
      case rel => exact ⟨_, (decide (a0_1 ≥ 0)), (by first | rfl | (simp; done) | (simp [*]; done)), H', ⟨by have := HJ1.out; first | omega | exact Nat.le_refl _⟩, ⟨bk_⟩, ⟨bb_⟩⟩
     ·rw [if_neg c9] at H
      have c9b0 : decide (0 ≤ a0_0) = false := decide_eq_false c9
      clear c9
      (first | rw [c9b0] | (simp only [zcM, ziK]; rw [c9b0]) | skip)
      have H' := zpS H
      clear H
      obtain ⟨hcz11_0, hcz11_1, hcz11_2⟩ := zdT BK112.out
      obtain ⟨hfz11_0, hfz11_1, hfz11_2⟩ := zqD BK112.out
      go_wp2
      repeat (go_quiet (fail); try go_wp2)
      go_meet
      case rel => exact ⟨_, (false), (by first | rfl | (simp; done) | (simp [*]; done)), H', ⟨by have := HJ1.out; first | omega | exact Nat.le_refl _⟩, ⟨bk_⟩, ⟨bb_⟩⟩
    case rest =>
     clear HC8
     try clear p2
     try clear c4
     try clear c4b0
     try clear c4b1
     try clear c7
     try clear c9
     try clear c9b0
     try clear hcz10_0
     try clear hcz10_1
     try clear hcz10_2
     try clear hcz11_0
     try clear hcz11_1
     try clear hcz11_2
     try clear hcz5_0
     try clear hcz5_1
     try clear hcz5_2
     try clear hcz6_0
     try clear hcz6_1
     try clear hcz6_2
     try clear hfz10_0
     try clear hfz10_1
     try clear hfz10_2
     try clear hfz11_0
     try clear hfz11_1
     try clear hfz11_2
     try clear hfz5_0
     try clear hfz5_1
     try clear hfz5_2
     try clear hfz6_0
     try clear hfz6_1
     try clear hfz6_2
     try clear p2
     obtain ⟨kq, x12_7, rfl, HA, HJ7, BK112, HB⟩ := hcut
     cases kq with
     | zero => exact absurd HA.out (by simp [zxR.j1])
     | succ kj7 =>
      have H := HA.out
      clear HA
      simp only [zxR.j1] at H
      by_cases c12 : x12_7 = true
      ·subst c12
       have H1 : (some 1) = some r := by rw [if_pos rfl] at H; exact H
       clear H
       have H := H1
       clear H1
       obtain rfl := Option.some.inj H
       go_wp2
       repeat (go_quiet (fail); try go_wp2)
       go_ret
       exact ⟨by first | rfl | (simp [ziS, znJ] <;> rfl) | (simp [*, ziS, znJ] <;> rfl), bb_⟩
      ·replace c12 := Bool.eq_false_iff.mpr c12
       subst c12
       have H1 : (if a0_0 ≤ 0 then (zxR.j2 kj7 (decide (a0_1 ≤ 0)) a0_0 a0_1 a0_2) else (zxR.j2 kj7 false a0_0 a0_1 a0_2)) = some r := by rw [if_neg (show ¬ (false = true) by decide)] at H; exact H
       clear H
       have H := H1
       clear H1
       have HC13 := zpS H
       clear H
       go_upto_region 5 with (fail)
       repeat (go_quiet (fail); go_upto_region 5 with (fail))
       go_cut [21] (fun v21 wc => ∃ (kq : Nat) (x21_12 : Bool), v21 = .bool x21_12 ∧ Aside0 (zxR.j2 kq x21_12 a0_0 a0_1 a0_2 = some r) ∧ Aside0 (kq ≤ kj7) ∧ Aside0 (wc.heap[gb112]? = some (.cells #[.int .i64 a0_0, .int .i64 a0_1, .int .i64 a0_2] 63 (0, 0))) ∧ Aside0 (Below w.heap.size w wc))
       case first =>
        have H := HC13.out
        clear HC13
        by_cases c14 : a0_0 ≤ 0
        ·rw [if_pos c14] at H
         have c14b0 : decide (a0_0 ≤ 0) = true := decide_eq_true c14
         clear c14
         (first | rw [c14b0] | (simp only [zcM, ziK]; rw [c14b0]) | skip)
         have H' := zpS H
         clear H
         obtain ⟨hcz15_0, hcz15_1, hcz15_2⟩ := zdT BK112.out
         obtain ⟨hfz15_0, hfz15_1, hfz15_2⟩ := zqD BK112.out
         go_wp2
         repeat (go_quiet (fail); try go_wp2)
         go_meet
         case rel => exact ⟨_, (decide (a0_1 ≤ 0)), (by first | rfl | (simp; done) | (simp [*]; done)), H', ⟨by have := HJ1.out; have := HJ7.out; first | omega | exact Nat.le_refl _⟩, ⟨bk_⟩, ⟨bb_⟩⟩
        ·rw [if_neg c14] at H
         have c14b0 : decide (a0_0 ≤ 0) = false := decide_eq_false c14
         clear c14
         (first | rw [c14b0] | (simp only [zcM, ziK]; rw [c14b0]) | skip)
         have H' := zpS H
         clear H
         obtain ⟨hcz16_0, hcz16_1, hcz16_2⟩ := zdT BK112.out
         obtain ⟨hfz16_0, hfz16_1, hfz16_2⟩ := zqD BK112.out
         go_wp2
         repeat (go_quiet (fail); try go_wp2)
         go_meet
         case rel => exact ⟨_, (false), (by first | rfl | (simp; done) | (simp [*]; done)), H', ⟨by have := HJ1.out; have := HJ7.out; first | omega | exact Nat.le_refl _⟩, ⟨bk_⟩, ⟨bb_⟩⟩
       case rest =>
        clear HC13
        try clear c1
        try clear p2
        try clear c4
        try clear c4b0
        try clear c4b1
        try clear c7
        try clear c9
        try clear c9b0
        try clear c12
        try clear c14
        try clear c14b0
        try clear hcz10_0
        try clear hcz10_1
        try clear hcz10_2
        try clear hcz11_0
        try clear hcz11_1
        try clear hcz11_2
        try clear hcz15_0
        try clear hcz15_1
        try clear hcz15_2
        try clear hcz16_0
        try clear hcz16_1
        try clear hcz16_2
        try clear hcz5_0
        try clear hcz5_1
        try clear hcz5_2
        try clear hcz6_0
        try clear hcz6_1
        try clear hcz6_2
        try clear hfz10_0
        try clear hfz10_1
        try clear hfz10_2
        try clear hfz11_0
        try clear hfz11_1
        try clear hfz11_2
        try clear hfz15_0
        try clear hfz15_1
        try clear hfz15_2
        try clear hfz16_0
        try clear hfz16_1
        try clear hfz16_2
        try clear hfz5_0
        try clear hfz5_1
        try clear hfz5_2
        try clear hfz6_0
        try clear hfz6_1
        try clear hfz6_2
        try clear p2
        obtain ⟨kq, x21_12, rfl, HA, HJ12, BK112, HB⟩ := hcut
        cases kq with
        | zero => exact absurd HA.out (by simp [zxR.j2])
        | succ kj12 =>
         have H := HA.out
         clear HA
         simp only [zxR.j2] at H
         by_cases c17 : x21_12 = true
         ·subst c17
          have H1 : (some (-1)) = some r := by rw [if_pos rfl] at H; exact H
          clear H
          have H := H1
          clear H1
          obtain rfl := Option.some.inj H
          go_wp2
          repeat (go_quiet (fail); try go_wp2)
          go_ret
          exact ⟨by first | rfl | (simp [ziS, znJ] <;> rfl) | (simp [*, ziS, znJ] <;> rfl), bb_⟩
         ·replace c17 := Bool.eq_false_iff.mpr c17
          subst c17
          have H1 : ((zoU.f a0_0 a0_1).bind fun t113 => (if (t113 == (decide (a0_1 > 0))) = true then (some 1) else (some (-1)))) = some r := by rw [if_neg (show ¬ (false = true) by decide)] at H; exact H
          clear H
          have H := H1
          clear H1
          replace H := Option.bind_eq_some_iff.mp H
          obtain ⟨t113, A180, H⟩ := H
          replace H : (if (t113 == (decide (a0_1 > 0))) = true then (some 1) else (some (-1))) = some r := H
          have A18 := zpS A180
          clear A180
          by_cases c19 : (t113 == (decide (a0_1 > 0))) = true
          ·rw [if_pos c19] at H
           have c19b0 : (t113 == (decide (a0_1 > 0))) = true := c19
           (try (have c19b1 : decide (t113 = (decide (a0_1 > 0))) = true := by simpa using c19))
           (try (have c19b2 : (t113 == (decide (a0_1 > 0))) = true := by simpa using c19))
           clear c19
           obtain rfl := Option.some.inj H
           obtain ⟨hcz20_0, hcz20_1, hcz20_2⟩ := zdT BK112.out
           obtain ⟨hfz20_0, hfz20_1, hfz20_2⟩ := zqD BK112.out
           go_wp2_with (first | (go_at_call 59; (with_reducible refine (zoU.calls a0_0 a0_1 t113 _ A18.out).mono ?_); rintro e w' ⟨rfl, ⟨nd, rfl⟩⟩; (try first | exact ⟨rfl, _, World.drewN_drewN _ _ _⟩ | exact ⟨rfl, _, Eq.trans (World.drewN_drewN _ _ _) (congrArg (World.drewN _) (Nat.add_assoc _ _ _))⟩)))
           repeat (go_quiet (first | (go_at_call 59; (with_reducible refine (zoU.calls a0_0 a0_1 t113 _ A18.out).mono ?_); rintro e w' ⟨rfl, ⟨nd, rfl⟩⟩; (try first | exact ⟨rfl, _, World.drewN_drewN _ _ _⟩ | exact ⟨rfl, _, Eq.trans (World.drewN_drewN _ _ _) (congrArg (World.drewN _) (Nat.add_assoc _ _ _))⟩))); try go_wp2_with (first | (go_at_call 59; (with_reducible refine (zoU.calls a0_0 a0_1 t113 _ A18.out).mono ?_); rintro e w' ⟨rfl, ⟨nd, rfl⟩⟩; (try first | exact ⟨rfl, _, World.drewN_drewN _ _ _⟩ | exact ⟨rfl, _, Eq.trans (World.drewN_drewN _ _ _) (congrArg (World.drewN _) (Nat.add_assoc _ _ _))⟩))))
           go_ret
           exact ⟨by first | rfl | (simp [ziS, znJ] <;> rfl) | (simp [*, ziS, znJ] <;> rfl), bb_⟩
          ·rw [if_neg c19] at H
           have c19b0 : (t113 == (decide (a0_1 > 0))) = false := by simpa using c19
           (try (have c19b1 : decide (t113 = (decide (a0_1 > 0))) = false := by simpa using c19))
           (try (have c19b2 : (t113 == (decide (a0_1 > 0))) = false := by simpa using c19))
           (try (have c19b3 : ¬ (t113 = (decide (a0_1 > 0))) := by simpa using c19))
           clear c19
           obtain rfl := Option.some.inj H
           obtain ⟨hcz21_0, hcz21_1, hcz21_2⟩ := zdT BK112.out
           obtain ⟨hfz21_0, hfz21_1, hfz21_2⟩ := zqD BK112.out
           go_wp2_with (first | (go_at_call 59; (with_reducible refine (zoU.calls a0_0 a0_1 t113 _ A18.out).mono ?_); rintro e w' ⟨rfl, ⟨nd, rfl⟩⟩; (try first | exact ⟨rfl, _, World.drewN_drewN _ _ _⟩ | exact ⟨rfl, _, Eq.trans (World.drewN_drewN _ _ _) (congrArg (World.drewN _) (Nat.add_assoc _ _ _))⟩)))
           repeat (go_quiet (first | (go_at_call 59; (with_reducible refine (zoU.calls a0_0 a0_1 t113 _ A18.out).mono ?_); rintro e w' ⟨rfl, ⟨nd, rfl⟩⟩; (try first | exact ⟨rfl, _, World.drewN_drewN _ _ _⟩ | exact ⟨rfl, _, Eq.trans (World.drewN_drewN _ _ _) (congrArg (World.drewN _) (Nat.add_assoc _ _ _))⟩))); try go_wp2_with (first | (go_at_call 59; (with_reducible refine (zoU.calls a0_0 a0_1 t113 _ A18.out).mono ?_); rintro e w' ⟨rfl, ⟨nd, rfl⟩⟩; (try first | exact ⟨rfl, _, World.drewN_drewN _ _ _⟩ | exact ⟨rfl, _, Eq.trans (World.drewN_drewN _ _ _) (congrArg (World.drewN _) (Nat.add_assoc _ _ _))⟩))))
           go_ret
           exact ⟨by first | rfl | (simp [ziS, znJ] <;> rfl) | (simp [*, ziS, znJ] <;> rfl), bb_⟩

end Go.Proofs.YtbnfbflfhpniaaaDoor.PFnExactNormalPolygon
