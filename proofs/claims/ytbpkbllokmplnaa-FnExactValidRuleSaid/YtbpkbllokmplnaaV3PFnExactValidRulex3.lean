-- Printed for this claim by this session's program pp.py, which drives the kit's print with additions. Not trusted: Lean checks it.
import Derived.Test.YtbpkbllokmplnaaV3PFnExactValidRulex0
import Derived.Test.YtbpkbllokmplnaaV3PFnExactValidRulex1
import Derived.Test.YtbpkbllokmplnaaV3PFnExactValidRulex2
namespace Go.Proofs.Ytbpkbllokmplnaa.PFnExactValidRule
open Go.RowKit Go.Proofs.YtbpkbllokmplnaaW.PrintWords Go.Proofs.YtbpkbllokmplnaaW.PrintLast Go.Proofs.YtbpkbllokmplnaaW.PrintMore
attribute [local go_sem] max2_int min2_int max_two min_two max_three min_three max_four min_four   -- for this text's walks alone
set_option linter.unusedVariables false
set_option linter.unusedSimpArgs false

def zhE.f (k : Nat) (a0_0 : Int) (l0_1 : List Int) (l0_2 : List Int) (a1 : Int) : Option (Bool) := (zrP.f a1 0 200).bind fun t128 => (if t128 = true then ((zrP.f a0_0 1 4).bind fun t129 => (if t129 = true then ((zfN.f l0_1).bind fun t130 => (if t130 = a0_0 then (if (l0_2.length : Int) = (l0_1.length : Int) then ((zjB.f k l0_1 0 (wrap64 (a1 - 1))).bind fun t131 => (if t131 = true then ((zbO.f l0_2).bind fun t132 => (some t132)) else (some false))) else (some false)) else (some false))) else (some false))) else (some false))
theorem zhE.mono : ∀ a0 a1 a2 a3 k, LeO (zhE.f k a0 a1 a2 a3) (zhE.f (k + 1) a0 a1 a2 a3) := by
 intro a0 a1 a2 a3 k
 unfold zhE.f
 repeat' first
   | (with_reducible exact zjB.mono _ _ _ _)
   | (with_reducible exact LeO.refl _)
   | (with_reducible exact LeO.none _)
   | (with_reducible refine LeO.ite ?_ ?_)
   | (with_reducible refine LeO.bind ?_ (fun _ => ?_))
   | exact zjB.mono _ _ _ _
   | exact LeO.none _
   | refine LeO.ite ?_ ?_
   | refine LeO.bind ?_ (fun _ => ?_)
def zhE.T1 : Bool × List (List Nat × List Nat) := (true, [([], []), ([0], [0]), ([1, 1], [1]), ([2], [2]), ([3, 2], [2, 3]), ([4, 2, 2], [2, 4]), ([2, 5], [2, 5]), ([6, 5], [6]), ([7], [7]), ([8, 7], [7, 8]), ([9, 7, 7], [7, 9]), ([7], [7]), ([11, 7], [7, 11]), ([10, 12, 7], [7, 10, 12]), ([7, 13], [7, 13]), ([14, 10], [14]), ([15], [15]), ([16, 15], [15, 16]), ([17, 15], [15, 17]), ([15], [15]), ([19, 15], [15, 19]), ([20, 15], [15, 20]), ([18, 21, 15], [15, 18, 21]), ([15, 22], [15, 22]), ([23, 15], [23]), ([24], [24]), ([25, 24], [24, 25]), ([24], [24]), ([27, 24], [24, 27]), ([26, 28, 24, 24], [24, 26, 28]), ([24, 29], [24, 29]), ([30, 29], [30]), ([31], [31]), ([32, 31], [31, 32]), ([33, 31, 31], [31, 33]), ([31, 34], [31, 34]), ([35, 34, 0, 1, 2, 3, 4, 5, 6, 7, 8, 9, 10, 11, 12, 13, 14, 15, 16, 17, 18, 19, 20, 21, 22, 23, 24, 25, 26, 27, 28, 29, 30, 31, 32, 33, 34, 35], [35])])
def zhE.B1 : List Nat := [0, 1, 3, 7, 15, 31, 63, 127, 255, 511, 1023, 255, 2303, 8191, 16383, 32767, 65535, 131071, 262143, 65535, 589823, 1638399, 4194303, 8388607, 16777215, 33554431, 67108863, 33554431, 167772159, 536870911, 1073741823, 2147483647, 4294967295, 8589934591, 17179869183, 34359738367, 68719476735]
theorem zhE.tab1 : rtab .any (opsOf Try.f45 1) = zhE.T1 := by kernel_rfl
theorem zhE.bits1 : waitsOk zhE.T1.2 zhE.B1 = true := by kernel_rfl
set_option maxHeartbeats 8000000 in
set_option maxRecDepth 100000 in
theorem zhE.calls (k : Nat) (a0_0 : Int) (A0_1 : Option Addr) (c0_1 : Nat) (l0_1 : List Int) (A0_2 : Option Addr) (c0_2 : Nat) (l0_2 : List Int) (a1 : Int) (r : Bool) (w : World) (hr0_1 : Kd.C (Kd.int .i64) w A0_1 l0_1.length l0_1) (hc0_1 : l0_1.length ≤ c0_1) (hr0_2 : Kd.C (Kd.int .i64) w A0_2 l0_2.length l0_2) (hc0_2 : l0_2.length ≤ c0_2) (h : zhE.f k a0_0 l0_1 l0_2 a1 = some r) :
  Calls Try.prog 45 #[.agg #[.int .i64 a0_0, .slice A0_1 l0_1.length c0_1, .slice A0_2 l0_2.length c0_2], .int .i64 a1] w fun e w' => e = .returned (.bool r) ∧ Below w.heap.size w w' := by
 have hu54 := Try.underlying54
 have HR0_1 := zpS hr0_1
 have HC0_1 := zpS hc0_1
 clear hr0_1 hc0_1
 have HR0_2 := zpS hr0_2
 have HC0_2 := zpS hc0_2
 clear hr0_2 hc0_2
 have HB := zpS (Below.refl w.heap.size w)
 have H : ((zrP.f a1 0 200).bind fun t128 => (if t128 = true then ((zrP.f a0_0 1 4).bind fun t129 => (if t129 = true then ((zfN.f l0_1).bind fun t130 => (if t130 = a0_0 then (if (l0_2.length : Int) = (l0_1.length : Int) then ((zjB.f k l0_1 0 (wrap64 (a1 - 1))).bind fun t131 => (if t131 = true then ((zbO.f l0_2).bind fun t132 => (some t132)) else (some false))) else (some false)) else (some false))) else (some false))) else (some false))) = some r := h
 clear h
 replace H := Option.bind_eq_some_iff.mp H
 obtain ⟨t128, A30, H⟩ := H
 replace H : (if t128 = true then ((zrP.f a0_0 1 4).bind fun t129 => (if t129 = true then ((zfN.f l0_1).bind fun t130 => (if t130 = a0_0 then (if (l0_2.length : Int) = (l0_1.length : Int) then ((zjB.f k l0_1 0 (wrap64 (a1 - 1))).bind fun t131 => (if t131 = true then ((zbO.f l0_2).bind fun t132 => (some t132)) else (some false))) else (some false)) else (some false))) else (some false))) else (some false)) = some r := H
 have A3 := zpS A30
 clear A30
 by_cases c4 : t128 = true
 ·subst c4
  have H1 : ((zrP.f a0_0 1 4).bind fun t129 => (if t129 = true then ((zfN.f l0_1).bind fun t130 => (if t130 = a0_0 then (if (l0_2.length : Int) = (l0_1.length : Int) then ((zjB.f k l0_1 0 (wrap64 (a1 - 1))).bind fun t131 => (if t131 = true then ((zbO.f l0_2).bind fun t132 => (some t132)) else (some false))) else (some false)) else (some false))) else (some false))) = some r := by rw [if_pos rfl] at H; exact H
  clear H
  have H := H1
  clear H1
  replace H := Option.bind_eq_some_iff.mp H
  obtain ⟨t129, A50, H⟩ := H
  replace H : (if t129 = true then ((zfN.f l0_1).bind fun t130 => (if t130 = a0_0 then (if (l0_2.length : Int) = (l0_1.length : Int) then ((zjB.f k l0_1 0 (wrap64 (a1 - 1))).bind fun t131 => (if t131 = true then ((zbO.f l0_2).bind fun t132 => (some t132)) else (some false))) else (some false)) else (some false))) else (some false)) = some r := H
  have A5 := zpS A50
  clear A50
  by_cases c6 : t129 = true
  ·subst c6
   have H1 : ((zfN.f l0_1).bind fun t130 => (if t130 = a0_0 then (if (l0_2.length : Int) = (l0_1.length : Int) then ((zjB.f k l0_1 0 (wrap64 (a1 - 1))).bind fun t131 => (if t131 = true then ((zbO.f l0_2).bind fun t132 => (some t132)) else (some false))) else (some false)) else (some false))) = some r := by rw [if_pos rfl] at H; exact H
   clear H
   have H := H1
   clear H1
   replace H := Option.bind_eq_some_iff.mp H
   obtain ⟨t130, A70, H⟩ := H
   replace H : (if t130 = a0_0 then (if (l0_2.length : Int) = (l0_1.length : Int) then ((zjB.f k l0_1 0 (wrap64 (a1 - 1))).bind fun t131 => (if t131 = true then ((zbO.f l0_2).bind fun t132 => (some t132)) else (some false))) else (some false)) else (some false)) = some r := H
   have A7 := zpS A70
   clear A70
   by_cases c8 : t130 = a0_0
   ·rw [if_pos c8] at H
    have c8b0 : (t130 == a0_0) = true := beq_iff_eq.mpr c8
    have c8b1 : (t130 != a0_0) = false := bne_eq_false_iff_eq.mpr c8
    clear c8
    by_cases c9 : (l0_2.length : Int) = (l0_1.length : Int)
    ·rw [if_pos c9] at H
     have c9b0 : ((l0_2.length : Int) == (l0_1.length : Int)) = true := beq_iff_eq.mpr c9
     have c9b1 : ((l0_2.length : Int) != (l0_1.length : Int)) = false := bne_eq_false_iff_eq.mpr c9
     have c9b2 : (l0_2.length == l0_1.length) = true := by first | simpa using c9 | (simp at c9 ⊢; omega)
     clear c9
     replace H := Option.bind_eq_some_iff.mp H
     obtain ⟨t131, A100, H⟩ := H
     replace H : (if t131 = true then ((zbO.f l0_2).bind fun t132 => (some t132)) else (some false)) = some r := H
     have A10 := zpS A100
     clear A100
     by_cases c11 : t131 = true
     ·subst c11
      have H1 : ((zbO.f l0_2).bind fun t132 => (some t132)) = some r := by rw [if_pos rfl] at H; exact H
      clear H
      have H := H1
      clear H1
      replace H := Option.bind_eq_some_iff.mp H
      obtain ⟨t132, A120, H⟩ := H
      replace H : (some t132) = some r := H
      have A12 := zpS A120
      clear A120
      obtain rfl := Option.some.inj H
      go_enter Try.func45, Try.ntmps45
      try go_wp2_with (first | ((with_reducible refine zpZ (N := 2) rfl ?_); (try (refine gate_guard (by rfl) ?_; dsimp only)); refine box_event ?hg (N := 2) ?hd (cs := #[.int .i64 a0_0, .slice A0_1 l0_1.length c0_1, .slice A0_2 l0_2.length c0_2]) (t := 54) ?hr ?_; (case hd => rfl); (case hg => rfl); (case hr => first | (go_simp; done) | (go_simp; rfl)); intro gb127 hg w13 hbox hb; have n0_ := (ns_ hb); have n1_ := zpS (hbox); have n2_ := (ng_ hg); have n3_ := n2_; clear HB; have HB := n0_; have BK127 := n1_; have GW127 := n2_; have GE127 := n3_; clear n0_ n1_ n2_ n3_; clear hb hbox hg))
      have n0_ := zpS (ztN BK127.out)
      have n1_ := zpS (zvF HB.out)
      clear BK127
      clear HB
      have BK127 := n0_
      have HB := n1_
      clear n0_ n1_
      refine start_ (n := 37) (S := fun w' => w'.cell? ⟨gb127, 0, none⟩ = some (.int .i64 a0_0) ∧ w'.cell? ⟨gb127, 1, none⟩ = some (.slice A0_1 l0_1.length c0_1) ∧ w'.cell? ⟨gb127, 2, none⟩ = some (.slice A0_2 l0_2.length c0_2)) (ds := []) #[false, false, false, false, false, false, false, false, false, false, false, false, false, false, false, false, false, false, false, false, false, false, false, false, false, false, false, false, false, false, false, false, false, false, false, false, false] (by kernel_rfl) rfl rfl ⟨(zzS BK127.out 0).trans rfl, (zzS BK127.out 1).trans rfl, (zzS BK127.out 2).trans rfl⟩ (fun hHeld => ?_); refine with_tabW zhE.tab1 zhE.bits1 (fun HT_ HW_ => ?_)
      generalize w13.drew = w14 at BK127 HB hHeld ⊢
      refine pu_ 0 (some 5) (bl_ 37 1) ?_
      refine one_ (i := 1) (N := some 6) (bl_ 37 3) rfl rfl (one_of HT_.out (by kernel_rfl)) (by decide) (fun K hK => ?_)
      refine goes_ Try.func60 (by kernel_rfl) rfl #[.int .i64 a1, .int .i64 0, .int .i64 200] (by rfl) rfl rfl (by (try simp only [List.map_toArray, List.map_cons, List.map_nil]); first | done | rfl | (simp only [List.length_drop, List.length_take]; rfl)) ?_
      with_reducible refine (zrP.calls a1 0 200 true _ A3.out).mono ?_
      rintro e w' ⟨rfl, ⟨nd, rfl⟩⟩
      refine ⟨_, rfl, ?_⟩
      refine hK.out _ _ ⟨(zzS BK127.out 0).trans rfl, (zzS BK127.out 1).trans rfl, (zzS BK127.out 2).trans rfl⟩ (fun hHeld => ?_)
      clear hK K
      refine norm_ (a' := ?_) ?_ ?_
      rotate_left
      ·show Act.put _ (some 6) _ = _
       simp only [Act.put, List.setIfInBounds_toArray, List.set_cons_zero, List.set_cons_succ, zcM, ziJ]
       rfl
      refine pu_ 2 (some 7) (bl_ 37 7) ?_
      refine pu_ 3 (some 8) (bl_ 37 15) ?_
      refine tk3_ 4 (some 9) (bl_ 37 31) hHeld ?_
      refine one_ (i := 5) (N := some 10) (bl_ 37 63) rfl rfl (one_of HT_.out (by kernel_rfl)) (by decide) (fun K hK => ?_)
      refine goes_ Try.func60 (by kernel_rfl) rfl #[.int .i64 a0_0, .int .i64 1, .int .i64 4] (by rfl) rfl rfl (by (try simp only [List.map_toArray, List.map_cons, List.map_nil]); first | done | rfl | (simp only [List.length_drop, List.length_take]; rfl)) ?_
      with_reducible refine (zrP.calls a0_0 1 4 true _ A5.out).mono ?_
      rintro e w' ⟨rfl, ⟨nd, rfl⟩⟩
      refine ⟨_, rfl, ?_⟩
      refine hK.out _ _ ⟨(zzS BK127.out 0).trans rfl, (zzS BK127.out 1).trans rfl, (zzS BK127.out 2).trans rfl⟩ (fun hHeld => ?_)
      clear hK K
      refine norm_ (a' := ?_) ?_ ?_
      rotate_left
      ·show Act.put _ (some 10) _ = _
       simp only [Act.put, List.setIfInBounds_toArray, List.set_cons_zero, List.set_cons_succ, zcM, ziJ]
       rfl
      refine pu_ 6 (some 11) (bl_ 37 127) ?_
      refine pu_ 7 (some 12) (bl_ 37 255) ?_
      refine pu_ 8 (some 13) (bl_ 37 511) ?_
      refine pu_ 11 (some 16) (bl_ 37 2559) ?_
      refine tk3_ 9 (some 14) (bl_ 37 3071) hHeld ?_
      refine tk3_ 12 (some 17) (bl_ 37 7167) hHeld ?_
      refine one_ (i := 10) (N := some 15) (bl_ 37 8191) rfl rfl (one_of HT_.out (by kernel_rfl)) (by decide) (fun K hK => ?_)
      refine goes_ Try.func61 (by kernel_rfl) rfl #[.slice A0_1 l0_1.length c0_1] (by rfl) rfl rfl (by (try simp only [List.map_toArray, List.map_cons, List.map_nil]); first | done | rfl | (simp only [List.length_drop, List.length_take]; rfl)) ?_
      with_reducible refine (zfN.calls _ _ l0_1 t130 _ ?side1 ?side2 A7.out).mono ?_
      (case side1 => repeat (first | exact (Kd.C_below HR0_1.out bb_) | (with_reducible refine Kd.C_alloc ?_ _) | (with_reducible refine Kd.C_drewN ?_ _) | (with_reducible refine Kd.C_drew ?_)))
      (case side2 => exact HC0_1.out)
      rintro e w' ⟨rfl, ⟨nd, rfl⟩⟩
      refine ⟨_, rfl, ?_⟩
      refine hK.out _ _ ⟨(zzS BK127.out 0).trans rfl, (zzS BK127.out 1).trans rfl, (zzS BK127.out 2).trans rfl⟩ (fun hHeld => ?_)
      clear hK K
      refine norm_ (a' := ?_) ?_ ?_
      rotate_left
      ·show Act.put _ (some 15) _ = _
       simp only [Act.put, List.setIfInBounds_toArray, List.set_cons_zero, List.set_cons_succ, zcM, ziJ]
       rfl
      refine pu_ 13 (some 18) (bl_ 37 16383) ?_
      refine pu_ 14 (some 19) (bl_ 37 32767) ?_
      refine pu_ 15 (some 20) (bl_ 37 65535) ?_
      refine pu_ 16 (some 21) (bl_ 37 131071) ?_
      refine pu_ 19 (some 24) (bl_ 37 655359) ?_
      refine tk3_ 17 (some 22) (bl_ 37 786431) hHeld ?_
      refine pu_ 18 (some 23) (bl_ 37 1048575) ?_
      refine tk3_ 20 (some 25) (bl_ 37 2097151) hHeld ?_
      refine pu_ 21 (some 26) (bl_ 37 4194303) ?_
      refine pu_ 22 (some 27) (bl_ 37 8388607) ?_
      refine pu_ 23 (some 28) (bl_ 37 16777215) ?_
      refine pu_ 24 (some 29) (bl_ 37 33554431) ?_
      refine pu_ 25 (some 30) (bl_ 37 67108863) ?_
      refine pu_ 27 (some 32) (bl_ 37 201326591) ?_
      refine pu_ 28 (some 33) (bl_ 37 469762047) ?_
      refine tk3_ 26 (some 31) (bl_ 37 536870911) hHeld ?_
      refine one_ (i := 29) (N := some 34) (bl_ 37 1073741823) rfl rfl (one_of HT_.out (by kernel_rfl)) (by decide) (fun K hK => ?_)
      refine goes_ Try.func70 (by kernel_rfl) rfl #[.slice A0_1 l0_1.length c0_1, .int .i64 0, .int .i64 (wrap64 (a1 - 1))] (by rfl) rfl rfl (by (try simp only [List.map_toArray, List.map_cons, List.map_nil]); first | done | rfl | (simp only [List.length_drop, List.length_take]; rfl)) ?_
      with_reducible refine (zjB.calls k _ _ l0_1 0 (wrap64 (a1 - 1)) true _ ?side1 ?side2 A10.out).mono ?_
      (case side1 => repeat (first | exact (Kd.C_below HR0_1.out bb_) | (with_reducible refine Kd.C_alloc ?_ _) | (with_reducible refine Kd.C_drewN ?_ _) | (with_reducible refine Kd.C_drew ?_)))
      (case side2 => exact HC0_1.out)
      rintro e w' ⟨rfl, ⟨nd, rfl⟩⟩
      refine ⟨_, rfl, ?_⟩
      refine hK.out _ _ ⟨(zzS BK127.out 0).trans rfl, (zzS BK127.out 1).trans rfl, (zzS BK127.out 2).trans rfl⟩ (fun hHeld => ?_)
      clear hK K
      refine norm_ (a' := ?_) ?_ ?_
      rotate_left
      ·show Act.put _ (some 34) _ = _
       simp only [Act.put, List.setIfInBounds_toArray, List.set_cons_zero, List.set_cons_succ, zcM, ziJ]
       rfl
      refine pu_ 30 (some 35) (bl_ 37 2147483647) ?_
      refine pu_ 31 (some 36) (bl_ 37 4294967295) ?_
      refine pu_ 32 (some 37) (bl_ 37 8589934591) ?_
      refine tk3_ 33 (some 38) (bl_ 37 17179869183) hHeld ?_
      refine one_ (i := 34) (N := some 39) (bl_ 37 34359738367) rfl rfl (one_of HT_.out (by kernel_rfl)) (by decide) (fun K hK => ?_)
      refine goes_ Try.func84 (by kernel_rfl) rfl #[.slice A0_2 l0_2.length c0_2] (by rfl) rfl rfl (by (try simp only [List.map_toArray, List.map_cons, List.map_nil]); first | done | rfl | (simp only [List.length_drop, List.length_take]; rfl)) ?_
      with_reducible refine (zbO.calls _ _ l0_2 t132 _ ?side1 ?side2 A12.out).mono ?_
      (case side1 => repeat (first | exact (Kd.C_below HR0_2.out bb_) | (with_reducible refine Kd.C_alloc ?_ _) | (with_reducible refine Kd.C_drewN ?_ _) | (with_reducible refine Kd.C_drew ?_)))
      (case side2 => exact HC0_2.out)
      rintro e w' ⟨rfl, ⟨nd, rfl⟩⟩
      refine ⟨_, rfl, ?_⟩
      refine hK.out _ _ ⟨(zzS BK127.out 0).trans rfl, (zzS BK127.out 1).trans rfl, (zzS BK127.out 2).trans rfl⟩ (fun hHeld => ?_)
      clear hK K
      refine norm_ (a' := ?_) ?_ ?_
      rotate_left
      ·show Act.put _ (some 39) _ = _
       simp only [Act.put, List.setIfInBounds_toArray, List.set_cons_zero, List.set_cons_succ, zcM, ziJ]
       rfl
      refine pu_ 35 (some 40) (bl_ 37 68719476735) ?_
      refine pu_ 36 (some 4) (bl_ 37 137438953471) ?_
      refine done_ (done_of HT_.out (by kernel_rfl)) ?_
      try go_wp2
      go_ret
      exact ⟨by first | rfl | (simp [ziS, znJ] <;> rfl) | (simp [*, ziS, znJ] <;> rfl), bb_⟩
     ·replace c11 := Bool.eq_false_iff.mpr c11
      subst c11
      have H1 : (some false) = some r := by rw [if_neg (show ¬ (false = true) by decide)] at H; exact H
      clear H
      have H := H1
      clear H1
      obtain rfl := Option.some.inj H
      go_enter Try.func45, Try.ntmps45
      try go_wp2_with (first | ((with_reducible refine zpZ (N := 2) rfl ?_); (try (refine gate_guard (by rfl) ?_; dsimp only)); refine box_event ?hg (N := 2) ?hd (cs := #[.int .i64 a0_0, .slice A0_1 l0_1.length c0_1, .slice A0_2 l0_2.length c0_2]) (t := 54) ?hr ?_; (case hd => rfl); (case hg => rfl); (case hr => first | (go_simp; done) | (go_simp; rfl)); intro gb127 hg w15 hbox hb; have n0_ := (ns_ hb); have n1_ := zpS (hbox); have n2_ := (ng_ hg); have n3_ := n2_; clear HB; have HB := n0_; have BK127 := n1_; have GW127 := n2_; have GE127 := n3_; clear n0_ n1_ n2_ n3_; clear hb hbox hg))
      have n0_ := zpS (ztN BK127.out)
      have n1_ := zpS (zvF HB.out)
      clear BK127
      clear HB
      have BK127 := n0_
      have HB := n1_
      clear n0_ n1_
      refine start_ (n := 37) (S := fun w' => w'.cell? ⟨gb127, 0, none⟩ = some (.int .i64 a0_0) ∧ w'.cell? ⟨gb127, 1, none⟩ = some (.slice A0_1 l0_1.length c0_1) ∧ w'.cell? ⟨gb127, 2, none⟩ = some (.slice A0_2 l0_2.length c0_2)) (ds := []) #[false, false, false, false, false, false, false, false, false, false, false, false, false, false, false, false, false, false, false, false, false, false, false, false, false, false, false, false, false, false, false, false, false, false, false, false, false] (by kernel_rfl) rfl rfl ⟨(zzS BK127.out 0).trans rfl, (zzS BK127.out 1).trans rfl, (zzS BK127.out 2).trans rfl⟩ (fun hHeld => ?_); refine with_tabW zhE.tab1 zhE.bits1 (fun HT_ HW_ => ?_)
      generalize w15.drew = w16 at BK127 HB hHeld ⊢
      refine pu_ 0 (some 5) (bl_ 37 1) ?_
      refine one_ (i := 1) (N := some 6) (bl_ 37 3) rfl rfl (one_of HT_.out (by kernel_rfl)) (by decide) (fun K hK => ?_)
      refine goes_ Try.func60 (by kernel_rfl) rfl #[.int .i64 a1, .int .i64 0, .int .i64 200] (by rfl) rfl rfl (by (try simp only [List.map_toArray, List.map_cons, List.map_nil]); first | done | rfl | (simp only [List.length_drop, List.length_take]; rfl)) ?_
      with_reducible refine (zrP.calls a1 0 200 true _ A3.out).mono ?_
      rintro e w' ⟨rfl, ⟨nd, rfl⟩⟩
      refine ⟨_, rfl, ?_⟩
      refine hK.out _ _ ⟨(zzS BK127.out 0).trans rfl, (zzS BK127.out 1).trans rfl, (zzS BK127.out 2).trans rfl⟩ (fun hHeld => ?_)
      clear hK K
      refine norm_ (a' := ?_) ?_ ?_
      rotate_left
      ·show Act.put _ (some 6) _ = _
       simp only [Act.put, List.setIfInBounds_toArray, List.set_cons_zero, List.set_cons_succ, zcM, ziJ]
       rfl
      refine pu_ 2 (some 7) (bl_ 37 7) ?_
      refine pu_ 3 (some 8) (bl_ 37 15) ?_
      refine tk3_ 4 (some 9) (bl_ 37 31) hHeld ?_
      refine one_ (i := 5) (N := some 10) (bl_ 37 63) rfl rfl (one_of HT_.out (by kernel_rfl)) (by decide) (fun K hK => ?_)
      refine goes_ Try.func60 (by kernel_rfl) rfl #[.int .i64 a0_0, .int .i64 1, .int .i64 4] (by rfl) rfl rfl (by (try simp only [List.map_toArray, List.map_cons, List.map_nil]); first | done | rfl | (simp only [List.length_drop, List.length_take]; rfl)) ?_
      with_reducible refine (zrP.calls a0_0 1 4 true _ A5.out).mono ?_
      rintro e w' ⟨rfl, ⟨nd, rfl⟩⟩
      refine ⟨_, rfl, ?_⟩
      refine hK.out _ _ ⟨(zzS BK127.out 0).trans rfl, (zzS BK127.out 1).trans rfl, (zzS BK127.out 2).trans rfl⟩ (fun hHeld => ?_)
      clear hK K
      refine norm_ (a' := ?_) ?_ ?_
      rotate_left
      ·show Act.put _ (some 10) _ = _
       simp only [Act.put, List.setIfInBounds_toArray, List.set_cons_zero, List.set_cons_succ, zcM, ziJ]
       rfl
      refine pu_ 6 (some 11) (bl_ 37 127) ?_
      refine pu_ 7 (some 12) (bl_ 37 255) ?_
      refine pu_ 8 (some 13) (bl_ 37 511) ?_
      refine pu_ 11 (some 16) (bl_ 37 2559) ?_
      refine tk3_ 9 (some 14) (bl_ 37 3071) hHeld ?_
      refine tk3_ 12 (some 17) (bl_ 37 7167) hHeld ?_
      refine one_ (i := 10) (N := some 15) (bl_ 37 8191) rfl rfl (one_of HT_.out (by kernel_rfl)) (by decide) (fun K hK => ?_)
      refine goes_ Try.func61 (by kernel_rfl) rfl #[.slice A0_1 l0_1.length c0_1] (by rfl) rfl rfl (by (try simp only [List.map_toArray, List.map_cons, List.map_nil]); first | done | rfl | (simp only [List.length_drop, List.length_take]; rfl)) ?_
      with_reducible refine (zfN.calls _ _ l0_1 t130 _ ?side1 ?side2 A7.out).mono ?_
      (case side1 => repeat (first | exact (Kd.C_below HR0_1.out bb_) | (with_reducible refine Kd.C_alloc ?_ _) | (with_reducible refine Kd.C_drewN ?_ _) | (with_reducible refine Kd.C_drew ?_)))
      (case side2 => exact HC0_1.out)
      rintro e w' ⟨rfl, ⟨nd, rfl⟩⟩
      refine ⟨_, rfl, ?_⟩
      refine hK.out _ _ ⟨(zzS BK127.out 0).trans rfl, (zzS BK127.out 1).trans rfl, (zzS BK127.out 2).trans rfl⟩ (fun hHeld => ?_)
      clear hK K
      refine norm_ (a' := ?_) ?_ ?_
      rotate_left
      ·show Act.put _ (some 15) _ = _
       simp only [Act.put, List.setIfInBounds_toArray, List.set_cons_zero, List.set_cons_succ, zcM, ziJ]
       rfl
      refine pu_ 13 (some 18) (bl_ 37 16383) ?_
      refine pu_ 14 (some 19) (bl_ 37 32767) ?_
      refine pu_ 15 (some 20) (bl_ 37 65535) ?_
      refine pu_ 16 (some 21) (bl_ 37 131071) ?_
      refine pu_ 19 (some 24) (bl_ 37 655359) ?_
      refine tk3_ 17 (some 22) (bl_ 37 786431) hHeld ?_
      refine pu_ 18 (some 23) (bl_ 37 1048575) ?_
      refine tk3_ 20 (some 25) (bl_ 37 2097151) hHeld ?_
      refine pu_ 21 (some 26) (bl_ 37 4194303) ?_
      refine pu_ 22 (some 27) (bl_ 37 8388607) ?_
      refine pu_ 23 (some 28) (bl_ 37 16777215) ?_
      refine pu_ 24 (some 29) (bl_ 37 33554431) ?_
      refine pu_ 25 (some 30) (bl_ 37 67108863) ?_
      refine pu_ 27 (some 32) (bl_ 37 201326591) ?_
      refine pu_ 28 (some 33) (bl_ 37 469762047) ?_
      refine tk3_ 26 (some 31) (bl_ 37 536870911) hHeld ?_
      refine one_ (i := 29) (N := some 34) (bl_ 37 1073741823) rfl rfl (one_of HT_.out (by kernel_rfl)) (by decide) (fun K hK => ?_)
      refine goes_ Try.func70 (by kernel_rfl) rfl #[.slice A0_1 l0_1.length c0_1, .int .i64 0, .int .i64 (wrap64 (a1 - 1))] (by rfl) rfl rfl (by (try simp only [List.map_toArray, List.map_cons, List.map_nil]); first | done | rfl | (simp only [List.length_drop, List.length_take]; rfl)) ?_
      with_reducible refine (zjB.calls k _ _ l0_1 0 (wrap64 (a1 - 1)) false _ ?side1 ?side2 A10.out).mono ?_
      (case side1 => repeat (first | exact (Kd.C_below HR0_1.out bb_) | (with_reducible refine Kd.C_alloc ?_ _) | (with_reducible refine Kd.C_drewN ?_ _) | (with_reducible refine Kd.C_drew ?_)))
      (case side2 => exact HC0_1.out)
      rintro e w' ⟨rfl, ⟨nd, rfl⟩⟩
      refine ⟨_, rfl, ?_⟩
      refine hK.out _ _ ⟨(zzS BK127.out 0).trans rfl, (zzS BK127.out 1).trans rfl, (zzS BK127.out 2).trans rfl⟩ (fun hHeld => ?_)
      clear hK K
      refine norm_ (a' := ?_) ?_ ?_
      rotate_left
      ·show Act.put _ (some 34) _ = _
       simp only [Act.put, List.setIfInBounds_toArray, List.set_cons_zero, List.set_cons_succ, zcM, ziJ]
       rfl
      refine pu_ 30 (some 35) (bl_ 37 2147483647) ?_
      refine pu_ 31 (some 36) (bl_ 37 4294967295) ?_
      refine ztK (i := 32) (N := some 37) (v := undef) (a' := ?_) (bl_ 37 8589934591) rfl rfl (zmT HT_.out (by kernel_rfl)) (fun _ _ _ h => h) (Or.inr ⟨by rfl, rfl⟩) ?_ ?_
      rotate_left
      ·simp only [Act.put, List.setIfInBounds_toArray, List.set_cons_zero, List.set_cons_succ, zcM, ziJ]
       rfl
      refine ztK (i := 33) (N := some 38) (v := undef) (a' := ?_) (bl_ 37 17179869183) rfl rfl (zmT HT_.out (by kernel_rfl)) (fun _ _ _ h => h) (Or.inr ⟨by rfl, rfl⟩) ?_ ?_
      rotate_left
      ·simp only [Act.put, List.setIfInBounds_toArray, List.set_cons_zero, List.set_cons_succ, zcM, ziJ]
       rfl
      refine ztK (i := 34) (N := some 39) (v := undef) (a' := ?_) (bl_ 37 34359738367) rfl rfl (zmT HT_.out (by kernel_rfl)) (fun _ _ _ h => h) (Or.inr ⟨by rfl, rfl⟩) ?_ ?_
      rotate_left
      ·simp only [Act.put, List.setIfInBounds_toArray, List.set_cons_zero, List.set_cons_succ, zcM, ziJ]
       rfl
      refine pu_ 35 (some 40) (bl_ 37 68719476735) ?_
      refine pu_ 36 (some 4) (bl_ 37 137438953471) ?_
      refine done_ (done_of HT_.out (by kernel_rfl)) ?_
      try go_wp2
      go_ret
      exact ⟨by first | rfl | (simp [ziS, znJ] <;> rfl) | (simp [*, ziS, znJ] <;> rfl), bb_⟩
    ·rw [if_neg c9] at H
     have c9b0 : ((l0_2.length : Int) == (l0_1.length : Int)) = false := beq_eq_false_iff_ne.mpr c9
     have c9b1 : ((l0_2.length : Int) != (l0_1.length : Int)) = true := bne_iff_ne.mpr c9
     have c9b2 : (l0_2.length == l0_1.length) = false := by first | simpa using c9 | (simp at c9 ⊢; omega)
     obtain rfl := Option.some.inj H
     go_enter Try.func45, Try.ntmps45
     try go_wp2_with (first | ((with_reducible refine zpZ (N := 2) rfl ?_); (try (refine gate_guard (by rfl) ?_; dsimp only)); refine box_event ?hg (N := 2) ?hd (cs := #[.int .i64 a0_0, .slice A0_1 l0_1.length c0_1, .slice A0_2 l0_2.length c0_2]) (t := 54) ?hr ?_; (case hd => rfl); (case hg => rfl); (case hr => first | (go_simp; done) | (go_simp; rfl)); intro gb127 hg w17 hbox hb; have n0_ := (ns_ hb); have n1_ := zpS (hbox); have n2_ := (ng_ hg); have n3_ := n2_; clear HB; have HB := n0_; have BK127 := n1_; have GW127 := n2_; have GE127 := n3_; clear n0_ n1_ n2_ n3_; clear hb hbox hg))
     have n0_ := zpS (ztN BK127.out)
     have n1_ := zpS (zvF HB.out)
     clear BK127
     clear HB
     have BK127 := n0_
     have HB := n1_
     clear n0_ n1_
     refine start_ (n := 37) (S := fun w' => w'.cell? ⟨gb127, 0, none⟩ = some (.int .i64 a0_0) ∧ w'.cell? ⟨gb127, 1, none⟩ = some (.slice A0_1 l0_1.length c0_1) ∧ w'.cell? ⟨gb127, 2, none⟩ = some (.slice A0_2 l0_2.length c0_2)) (ds := []) #[false, false, false, false, false, false, false, false, false, false, false, false, false, false, false, false, false, false, false, false, false, false, false, false, false, false, false, false, false, false, false, false, false, false, false, false, false] (by kernel_rfl) rfl rfl ⟨(zzS BK127.out 0).trans rfl, (zzS BK127.out 1).trans rfl, (zzS BK127.out 2).trans rfl⟩ (fun hHeld => ?_); refine with_tabW zhE.tab1 zhE.bits1 (fun HT_ HW_ => ?_)
     generalize w17.drew = w18 at BK127 HB hHeld ⊢
     refine pu_ 0 (some 5) (bl_ 37 1) ?_
     refine one_ (i := 1) (N := some 6) (bl_ 37 3) rfl rfl (one_of HT_.out (by kernel_rfl)) (by decide) (fun K hK => ?_)
     refine goes_ Try.func60 (by kernel_rfl) rfl #[.int .i64 a1, .int .i64 0, .int .i64 200] (by rfl) rfl rfl (by (try simp only [List.map_toArray, List.map_cons, List.map_nil]); first | done | rfl | (simp only [List.length_drop, List.length_take]; rfl)) ?_
     with_reducible refine (zrP.calls a1 0 200 true _ A3.out).mono ?_
     rintro e w' ⟨rfl, ⟨nd, rfl⟩⟩
     refine ⟨_, rfl, ?_⟩
     refine hK.out _ _ ⟨(zzS BK127.out 0).trans rfl, (zzS BK127.out 1).trans rfl, (zzS BK127.out 2).trans rfl⟩ (fun hHeld => ?_)
     clear hK K
     refine norm_ (a' := ?_) ?_ ?_
     rotate_left
     ·show Act.put _ (some 6) _ = _
      simp only [Act.put, List.setIfInBounds_toArray, List.set_cons_zero, List.set_cons_succ, zcM, ziJ]
      rfl
     refine pu_ 2 (some 7) (bl_ 37 7) ?_
     refine pu_ 3 (some 8) (bl_ 37 15) ?_
     refine tk3_ 4 (some 9) (bl_ 37 31) hHeld ?_
     refine one_ (i := 5) (N := some 10) (bl_ 37 63) rfl rfl (one_of HT_.out (by kernel_rfl)) (by decide) (fun K hK => ?_)
     refine goes_ Try.func60 (by kernel_rfl) rfl #[.int .i64 a0_0, .int .i64 1, .int .i64 4] (by rfl) rfl rfl (by (try simp only [List.map_toArray, List.map_cons, List.map_nil]); first | done | rfl | (simp only [List.length_drop, List.length_take]; rfl)) ?_
     with_reducible refine (zrP.calls a0_0 1 4 true _ A5.out).mono ?_
     rintro e w' ⟨rfl, ⟨nd, rfl⟩⟩
     refine ⟨_, rfl, ?_⟩
     refine hK.out _ _ ⟨(zzS BK127.out 0).trans rfl, (zzS BK127.out 1).trans rfl, (zzS BK127.out 2).trans rfl⟩ (fun hHeld => ?_)
     clear hK K
     refine norm_ (a' := ?_) ?_ ?_
     rotate_left
     ·show Act.put _ (some 10) _ = _
      simp only [Act.put, List.setIfInBounds_toArray, List.set_cons_zero, List.set_cons_succ, zcM, ziJ]
      rfl
     refine pu_ 6 (some 11) (bl_ 37 127) ?_
     refine pu_ 7 (some 12) (bl_ 37 255) ?_
     refine pu_ 8 (some 13) (bl_ 37 511) ?_
     refine pu_ 11 (some 16) (bl_ 37 2559) ?_
     refine tk3_ 9 (some 14) (bl_ 37 3071) hHeld ?_
     refine tk3_ 12 (some 17) (bl_ 37 7167) hHeld ?_
     refine one_ (i := 10) (N := some 15) (bl_ 37 8191) rfl rfl (one_of HT_.out (by kernel_rfl)) (by decide) (fun K hK => ?_)
     refine goes_ Try.func61 (by kernel_rfl) rfl #[.slice A0_1 l0_1.length c0_1] (by rfl) rfl rfl (by (try simp only [List.map_toArray, List.map_cons, List.map_nil]); first | done | rfl | (simp only [List.length_drop, List.length_take]; rfl)) ?_
     with_reducible refine (zfN.calls _ _ l0_1 t130 _ ?side1 ?side2 A7.out).mono ?_
     (case side1 => repeat (first | exact (Kd.C_below HR0_1.out bb_) | (with_reducible refine Kd.C_alloc ?_ _) | (with_reducible refine Kd.C_drewN ?_ _) | (with_reducible refine Kd.C_drew ?_)))
     (case side2 => exact HC0_1.out)
     rintro e w' ⟨rfl, ⟨nd, rfl⟩⟩
     refine ⟨_, rfl, ?_⟩
     refine hK.out _ _ ⟨(zzS BK127.out 0).trans rfl, (zzS BK127.out 1).trans rfl, (zzS BK127.out 2).trans rfl⟩ (fun hHeld => ?_)
     clear hK K
     refine norm_ (a' := ?_) ?_ ?_
     rotate_left
     ·show Act.put _ (some 15) _ = _
      simp only [Act.put, List.setIfInBounds_toArray, List.set_cons_zero, List.set_cons_succ, zcM, ziJ]
      rfl
     refine pu_ 13 (some 18) (bl_ 37 16383) ?_
     refine pu_ 14 (some 19) (bl_ 37 32767) ?_
     refine pu_ 15 (some 20) (bl_ 37 65535) ?_
     refine pu_ 16 (some 21) (bl_ 37 131071) ?_
     refine pu_ 19 (some 24) (bl_ 37 655359) ?_
     refine tk3_ 17 (some 22) (bl_ 37 786431) hHeld ?_
     refine pu_ 18 (some 23) (bl_ 37 1048575) ?_
     refine tk3_ 20 (some 25) (bl_ 37 2097151) hHeld ?_
     refine pu_ 21 (some 26) (bl_ 37 4194303) ?_
     refine pu_ 22 (some 27) (bl_ 37 8388607) ?_
     refine pu_ 23 (some 28) (bl_ 37 16777215) ?_
     refine pu_ 24 (some 29) (bl_ 37 33554431) ?_
     refine ztK (i := 25) (N := some 30) (v := undef) (a' := ?_) (bl_ 37 67108863) rfl rfl (zmT HT_.out (by kernel_rfl)) (fun _ _ _ h => h) (Or.inr ⟨by rfl, rfl⟩) ?_ ?_
     rotate_left
     ·simp only [Act.put, List.setIfInBounds_toArray, List.set_cons_zero, List.set_cons_succ, zcM, ziJ]
      rfl
     refine ztK (i := 26) (N := some 31) (v := undef) (a' := ?_) (bl_ 37 134217727) rfl rfl (zmT HT_.out (by kernel_rfl)) (fun _ _ _ h => h) (Or.inr ⟨by rfl, rfl⟩) ?_ ?_
     rotate_left
     ·simp only [Act.put, List.setIfInBounds_toArray, List.set_cons_zero, List.set_cons_succ, zcM, ziJ]
      rfl
     refine ztK (i := 27) (N := some 32) (v := undef) (a' := ?_) (bl_ 37 268435455) rfl rfl (zmT HT_.out (by kernel_rfl)) (fun _ _ _ h => h) (Or.inr ⟨by rfl, rfl⟩) ?_ ?_
     rotate_left
     ·simp only [Act.put, List.setIfInBounds_toArray, List.set_cons_zero, List.set_cons_succ, zcM, ziJ]
      rfl
     refine ztK (i := 28) (N := some 33) (v := undef) (a' := ?_) (bl_ 37 536870911) rfl rfl (zmT HT_.out (by kernel_rfl)) (fun _ _ _ h => h) (Or.inr ⟨by rfl, rfl⟩) ?_ ?_
     rotate_left
     ·simp only [Act.put, List.setIfInBounds_toArray, List.set_cons_zero, List.set_cons_succ, zcM, ziJ]
      rfl
     refine ztK (i := 29) (N := some 34) (v := undef) (a' := ?_) (bl_ 37 1073741823) rfl rfl (zmT HT_.out (by kernel_rfl)) (fun _ _ _ h => h) (Or.inr ⟨by rfl, rfl⟩) ?_ ?_
     rotate_left
     ·simp only [Act.put, List.setIfInBounds_toArray, List.set_cons_zero, List.set_cons_succ, zcM, ziJ]
      rfl
     refine pu_ 30 (some 35) (bl_ 37 2147483647) ?_
     refine pu_ 31 (some 36) (bl_ 37 4294967295) ?_
     refine ztK (i := 32) (N := some 37) (v := undef) (a' := ?_) (bl_ 37 8589934591) rfl rfl (zmT HT_.out (by kernel_rfl)) (fun _ _ _ h => h) (Or.inr ⟨by rfl, rfl⟩) ?_ ?_
     rotate_left
     ·simp only [Act.put, List.setIfInBounds_toArray, List.set_cons_zero, List.set_cons_succ, zcM, ziJ]
      rfl
     refine ztK (i := 33) (N := some 38) (v := undef) (a' := ?_) (bl_ 37 17179869183) rfl rfl (zmT HT_.out (by kernel_rfl)) (fun _ _ _ h => h) (Or.inr ⟨by rfl, rfl⟩) ?_ ?_
     rotate_left
     ·simp only [Act.put, List.setIfInBounds_toArray, List.set_cons_zero, List.set_cons_succ, zcM, ziJ]
      rfl
     refine ztK (i := 34) (N := some 39) (v := undef) (a' := ?_) (bl_ 37 34359738367) rfl rfl (zmT HT_.out (by kernel_rfl)) (fun _ _ _ h => h) (Or.inr ⟨by rfl, rfl⟩) ?_ ?_
     rotate_left
     ·simp only [Act.put, List.setIfInBounds_toArray, List.set_cons_zero, List.set_cons_succ, zcM, ziJ]
      rfl
     refine pu_ 35 (some 40) (bl_ 37 68719476735) ?_
     refine pu_ 36 (some 4) (bl_ 37 137438953471) ?_
     refine done_ (done_of HT_.out (by kernel_rfl)) ?_
     try go_wp2
     go_ret
     exact ⟨by first | rfl | (simp [ziS, znJ] <;> rfl) | (simp [*, ziS, znJ] <;> rfl), bb_⟩
   ·rw [if_neg c8] at H
    have c8b0 : (t130 == a0_0) = false := beq_eq_false_iff_ne.mpr c8
    have c8b1 : (t130 != a0_0) = true := bne_iff_ne.mpr c8
    obtain rfl := Option.some.inj H
    go_enter Try.func45, Try.ntmps45
    try go_wp2_with (first | ((with_reducible refine zpZ (N := 2) rfl ?_); (try (refine gate_guard (by rfl) ?_; dsimp only)); refine box_event ?hg (N := 2) ?hd (cs := #[.int .i64 a0_0, .slice A0_1 l0_1.length c0_1, .slice A0_2 l0_2.length c0_2]) (t := 54) ?hr ?_; (case hd => rfl); (case hg => rfl); (case hr => first | (go_simp; done) | (go_simp; rfl)); intro gb127 hg w19 hbox hb; have n0_ := (ns_ hb); have n1_ := zpS (hbox); have n2_ := (ng_ hg); have n3_ := n2_; clear HB; have HB := n0_; have BK127 := n1_; have GW127 := n2_; have GE127 := n3_; clear n0_ n1_ n2_ n3_; clear hb hbox hg))
    have n0_ := zpS (ztN BK127.out)
    have n1_ := zpS (zvF HB.out)
    clear BK127
    clear HB
    have BK127 := n0_
    have HB := n1_
    clear n0_ n1_
    refine start_ (n := 37) (S := fun w' => w'.cell? ⟨gb127, 0, none⟩ = some (.int .i64 a0_0) ∧ w'.cell? ⟨gb127, 1, none⟩ = some (.slice A0_1 l0_1.length c0_1) ∧ w'.cell? ⟨gb127, 2, none⟩ = some (.slice A0_2 l0_2.length c0_2)) (ds := []) #[false, false, false, false, false, false, false, false, false, false, false, false, false, false, false, false, false, false, false, false, false, false, false, false, false, false, false, false, false, false, false, false, false, false, false, false, false] (by kernel_rfl) rfl rfl ⟨(zzS BK127.out 0).trans rfl, (zzS BK127.out 1).trans rfl, (zzS BK127.out 2).trans rfl⟩ (fun hHeld => ?_); refine with_tabW zhE.tab1 zhE.bits1 (fun HT_ HW_ => ?_)
    generalize w19.drew = w20 at BK127 HB hHeld ⊢
    refine pu_ 0 (some 5) (bl_ 37 1) ?_
    refine one_ (i := 1) (N := some 6) (bl_ 37 3) rfl rfl (one_of HT_.out (by kernel_rfl)) (by decide) (fun K hK => ?_)
    refine goes_ Try.func60 (by kernel_rfl) rfl #[.int .i64 a1, .int .i64 0, .int .i64 200] (by rfl) rfl rfl (by (try simp only [List.map_toArray, List.map_cons, List.map_nil]); first | done | rfl | (simp only [List.length_drop, List.length_take]; rfl)) ?_
    with_reducible refine (zrP.calls a1 0 200 true _ A3.out).mono ?_
    rintro e w' ⟨rfl, ⟨nd, rfl⟩⟩
    refine ⟨_, rfl, ?_⟩
    refine hK.out _ _ ⟨(zzS BK127.out 0).trans rfl, (zzS BK127.out 1).trans rfl, (zzS BK127.out 2).trans rfl⟩ (fun hHeld => ?_)
    clear hK K
    refine norm_ (a' := ?_) ?_ ?_
    rotate_left
    ·show Act.put _ (some 6) _ = _
     simp only [Act.put, List.setIfInBounds_toArray, List.set_cons_zero, List.set_cons_succ, zcM, ziJ]
     rfl
    refine pu_ 2 (some 7) (bl_ 37 7) ?_
    refine pu_ 3 (some 8) (bl_ 37 15) ?_
    refine tk3_ 4 (some 9) (bl_ 37 31) hHeld ?_
    refine one_ (i := 5) (N := some 10) (bl_ 37 63) rfl rfl (one_of HT_.out (by kernel_rfl)) (by decide) (fun K hK => ?_)
    refine goes_ Try.func60 (by kernel_rfl) rfl #[.int .i64 a0_0, .int .i64 1, .int .i64 4] (by rfl) rfl rfl (by (try simp only [List.map_toArray, List.map_cons, List.map_nil]); first | done | rfl | (simp only [List.length_drop, List.length_take]; rfl)) ?_
    with_reducible refine (zrP.calls a0_0 1 4 true _ A5.out).mono ?_
    rintro e w' ⟨rfl, ⟨nd, rfl⟩⟩
    refine ⟨_, rfl, ?_⟩
    refine hK.out _ _ ⟨(zzS BK127.out 0).trans rfl, (zzS BK127.out 1).trans rfl, (zzS BK127.out 2).trans rfl⟩ (fun hHeld => ?_)
    clear hK K
    refine norm_ (a' := ?_) ?_ ?_
    rotate_left
    ·show Act.put _ (some 10) _ = _
     simp only [Act.put, List.setIfInBounds_toArray, List.set_cons_zero, List.set_cons_succ, zcM, ziJ]
     rfl
    refine pu_ 6 (some 11) (bl_ 37 127) ?_
    refine pu_ 7 (some 12) (bl_ 37 255) ?_
    refine pu_ 8 (some 13) (bl_ 37 511) ?_
    refine pu_ 11 (some 16) (bl_ 37 2559) ?_
    refine tk3_ 9 (some 14) (bl_ 37 3071) hHeld ?_
    refine tk3_ 12 (some 17) (bl_ 37 7167) hHeld ?_
    refine one_ (i := 10) (N := some 15) (bl_ 37 8191) rfl rfl (one_of HT_.out (by kernel_rfl)) (by decide) (fun K hK => ?_)
    refine goes_ Try.func61 (by kernel_rfl) rfl #[.slice A0_1 l0_1.length c0_1] (by rfl) rfl rfl (by (try simp only [List.map_toArray, List.map_cons, List.map_nil]); first | done | rfl | (simp only [List.length_drop, List.length_take]; rfl)) ?_
    with_reducible refine (zfN.calls _ _ l0_1 t130 _ ?side1 ?side2 A7.out).mono ?_
    (case side1 => repeat (first | exact (Kd.C_below HR0_1.out bb_) | (with_reducible refine Kd.C_alloc ?_ _) | (with_reducible refine Kd.C_drewN ?_ _) | (with_reducible refine Kd.C_drew ?_)))
    (case side2 => exact HC0_1.out)
    rintro e w' ⟨rfl, ⟨nd, rfl⟩⟩
    refine ⟨_, rfl, ?_⟩
    refine hK.out _ _ ⟨(zzS BK127.out 0).trans rfl, (zzS BK127.out 1).trans rfl, (zzS BK127.out 2).trans rfl⟩ (fun hHeld => ?_)
    clear hK K
    refine norm_ (a' := ?_) ?_ ?_
    rotate_left
    ·show Act.put _ (some 15) _ = _
     simp only [Act.put, List.setIfInBounds_toArray, List.set_cons_zero, List.set_cons_succ, zcM, ziJ]
     rfl
    refine pu_ 13 (some 18) (bl_ 37 16383) ?_
    refine pu_ 14 (some 19) (bl_ 37 32767) ?_
    refine pu_ 15 (some 20) (bl_ 37 65535) ?_
    refine ztK (i := 16) (N := some 21) (v := undef) (a' := ?_) (bl_ 37 131071) rfl rfl (zmT HT_.out (by kernel_rfl)) (fun _ _ _ h => h) (Or.inr ⟨by rfl, rfl⟩) ?_ ?_
    rotate_left
    ·simp only [Act.put, List.setIfInBounds_toArray, List.set_cons_zero, List.set_cons_succ, zcM, ziJ]
     rfl
    refine ztK (i := 17) (N := some 22) (v := undef) (a' := ?_) (bl_ 37 262143) rfl rfl (zmT HT_.out (by kernel_rfl)) (fun _ _ _ h => h) (Or.inr ⟨by rfl, rfl⟩) ?_ ?_
    rotate_left
    ·simp only [Act.put, List.setIfInBounds_toArray, List.set_cons_zero, List.set_cons_succ, zcM, ziJ]
     rfl
    refine ztK (i := 18) (N := some 23) (v := undef) (a' := ?_) (bl_ 37 524287) rfl rfl (zmT HT_.out (by kernel_rfl)) (fun _ _ _ h => h) (Or.inr ⟨by rfl, rfl⟩) ?_ ?_
    rotate_left
    ·simp only [Act.put, List.setIfInBounds_toArray, List.set_cons_zero, List.set_cons_succ, zcM, ziJ]
     rfl
    refine ztK (i := 19) (N := some 24) (v := undef) (a' := ?_) (bl_ 37 1048575) rfl rfl (zmT HT_.out (by kernel_rfl)) (fun _ _ _ h => h) (Or.inr ⟨by rfl, rfl⟩) ?_ ?_
    rotate_left
    ·simp only [Act.put, List.setIfInBounds_toArray, List.set_cons_zero, List.set_cons_succ, zcM, ziJ]
     rfl
    refine ztK (i := 20) (N := some 25) (v := undef) (a' := ?_) (bl_ 37 2097151) rfl rfl (zmT HT_.out (by kernel_rfl)) (fun _ _ _ h => h) (Or.inr ⟨by rfl, rfl⟩) ?_ ?_
    rotate_left
    ·simp only [Act.put, List.setIfInBounds_toArray, List.set_cons_zero, List.set_cons_succ, zcM, ziJ]
     rfl
    refine ztK (i := 21) (N := some 26) (v := undef) (a' := ?_) (bl_ 37 4194303) rfl rfl (zmT HT_.out (by kernel_rfl)) (fun _ _ _ h => h) (Or.inr ⟨by rfl, rfl⟩) ?_ ?_
    rotate_left
    ·simp only [Act.put, List.setIfInBounds_toArray, List.set_cons_zero, List.set_cons_succ, zcM, ziJ]
     rfl
    refine ztK (i := 22) (N := some 27) (v := undef) (a' := ?_) (bl_ 37 8388607) rfl rfl (zmT HT_.out (by kernel_rfl)) (fun _ _ _ h => h) (Or.inr ⟨by rfl, rfl⟩) ?_ ?_
    rotate_left
    ·simp only [Act.put, List.setIfInBounds_toArray, List.set_cons_zero, List.set_cons_succ, zcM, ziJ]
     rfl
    refine pu_ 23 (some 28) (bl_ 37 16777215) ?_
    refine pu_ 24 (some 29) (bl_ 37 33554431) ?_
    refine ztK (i := 25) (N := some 30) (v := undef) (a' := ?_) (bl_ 37 67108863) rfl rfl (zmT HT_.out (by kernel_rfl)) (fun _ _ _ h => h) (Or.inr ⟨by rfl, rfl⟩) ?_ ?_
    rotate_left
    ·simp only [Act.put, List.setIfInBounds_toArray, List.set_cons_zero, List.set_cons_succ, zcM, ziJ]
     rfl
    refine ztK (i := 26) (N := some 31) (v := undef) (a' := ?_) (bl_ 37 134217727) rfl rfl (zmT HT_.out (by kernel_rfl)) (fun _ _ _ h => h) (Or.inr ⟨by rfl, rfl⟩) ?_ ?_
    rotate_left
    ·simp only [Act.put, List.setIfInBounds_toArray, List.set_cons_zero, List.set_cons_succ, zcM, ziJ]
     rfl
    refine ztK (i := 27) (N := some 32) (v := undef) (a' := ?_) (bl_ 37 268435455) rfl rfl (zmT HT_.out (by kernel_rfl)) (fun _ _ _ h => h) (Or.inr ⟨by rfl, rfl⟩) ?_ ?_
    rotate_left
    ·simp only [Act.put, List.setIfInBounds_toArray, List.set_cons_zero, List.set_cons_succ, zcM, ziJ]
     rfl
    refine ztK (i := 28) (N := some 33) (v := undef) (a' := ?_) (bl_ 37 536870911) rfl rfl (zmT HT_.out (by kernel_rfl)) (fun _ _ _ h => h) (Or.inr ⟨by rfl, rfl⟩) ?_ ?_
    rotate_left
    ·simp only [Act.put, List.setIfInBounds_toArray, List.set_cons_zero, List.set_cons_succ, zcM, ziJ]
     rfl
    refine ztK (i := 29) (N := some 34) (v := undef) (a' := ?_) (bl_ 37 1073741823) rfl rfl (zmT HT_.out (by kernel_rfl)) (fun _ _ _ h => h) (Or.inr ⟨by rfl, rfl⟩) ?_ ?_
    rotate_left
    ·simp only [Act.put, List.setIfInBounds_toArray, List.set_cons_zero, List.set_cons_succ, zcM, ziJ]
     rfl
    refine pu_ 30 (some 35) (bl_ 37 2147483647) ?_
    refine pu_ 31 (some 36) (bl_ 37 4294967295) ?_
    refine ztK (i := 32) (N := some 37) (v := undef) (a' := ?_) (bl_ 37 8589934591) rfl rfl (zmT HT_.out (by kernel_rfl)) (fun _ _ _ h => h) (Or.inr ⟨by rfl, rfl⟩) ?_ ?_
    rotate_left
    ·simp only [Act.put, List.setIfInBounds_toArray, List.set_cons_zero, List.set_cons_succ, zcM, ziJ]
     rfl
    refine ztK (i := 33) (N := some 38) (v := undef) (a' := ?_) (bl_ 37 17179869183) rfl rfl (zmT HT_.out (by kernel_rfl)) (fun _ _ _ h => h) (Or.inr ⟨by rfl, rfl⟩) ?_ ?_
    rotate_left
    ·simp only [Act.put, List.setIfInBounds_toArray, List.set_cons_zero, List.set_cons_succ, zcM, ziJ]
     rfl
    refine ztK (i := 34) (N := some 39) (v := undef) (a' := ?_) (bl_ 37 34359738367) rfl rfl (zmT HT_.out (by kernel_rfl)) (fun _ _ _ h => h) (Or.inr ⟨by rfl, rfl⟩) ?_ ?_
    rotate_left
    ·simp only [Act.put, List.setIfInBounds_toArray, List.set_cons_zero, List.set_cons_succ, zcM, ziJ]
     rfl
    refine pu_ 35 (some 40) (bl_ 37 68719476735) ?_
    refine pu_ 36 (some 4) (bl_ 37 137438953471) ?_
    refine done_ (done_of HT_.out (by kernel_rfl)) ?_
    try go_wp2
    go_ret
    exact ⟨by first | rfl | (simp [ziS, znJ] <;> rfl) | (simp [*, ziS, znJ] <;> rfl), bb_⟩
  ·replace c6 := Bool.eq_false_iff.mpr c6
   subst c6
   have H1 : (some false) = some r := by rw [if_neg (show ¬ (false = true) by decide)] at H; exact H
   clear H
   have H := H1
   clear H1
   obtain rfl := Option.some.inj H
   go_enter Try.func45, Try.ntmps45
   try go_wp2_with (first | ((with_reducible refine zpZ (N := 2) rfl ?_); (try (refine gate_guard (by rfl) ?_; dsimp only)); refine box_event ?hg (N := 2) ?hd (cs := #[.int .i64 a0_0, .slice A0_1 l0_1.length c0_1, .slice A0_2 l0_2.length c0_2]) (t := 54) ?hr ?_; (case hd => rfl); (case hg => rfl); (case hr => first | (go_simp; done) | (go_simp; rfl)); intro gb127 hg w21 hbox hb; have n0_ := (ns_ hb); have n1_ := zpS (hbox); have n2_ := (ng_ hg); have n3_ := n2_; clear HB; have HB := n0_; have BK127 := n1_; have GW127 := n2_; have GE127 := n3_; clear n0_ n1_ n2_ n3_; clear hb hbox hg))
   have n0_ := zpS (ztN BK127.out)
   have n1_ := zpS (zvF HB.out)
   clear BK127
   clear HB
   have BK127 := n0_
   have HB := n1_
   clear n0_ n1_
   refine start_ (n := 37) (S := fun w' => w'.cell? ⟨gb127, 0, none⟩ = some (.int .i64 a0_0) ∧ w'.cell? ⟨gb127, 1, none⟩ = some (.slice A0_1 l0_1.length c0_1) ∧ w'.cell? ⟨gb127, 2, none⟩ = some (.slice A0_2 l0_2.length c0_2)) (ds := []) #[false, false, false, false, false, false, false, false, false, false, false, false, false, false, false, false, false, false, false, false, false, false, false, false, false, false, false, false, false, false, false, false, false, false, false, false, false] (by kernel_rfl) rfl rfl ⟨(zzS BK127.out 0).trans rfl, (zzS BK127.out 1).trans rfl, (zzS BK127.out 2).trans rfl⟩ (fun hHeld => ?_); refine with_tabW zhE.tab1 zhE.bits1 (fun HT_ HW_ => ?_)
   generalize w21.drew = w22 at BK127 HB hHeld ⊢
   refine pu_ 0 (some 5) (bl_ 37 1) ?_
   refine one_ (i := 1) (N := some 6) (bl_ 37 3) rfl rfl (one_of HT_.out (by kernel_rfl)) (by decide) (fun K hK => ?_)
   refine goes_ Try.func60 (by kernel_rfl) rfl #[.int .i64 a1, .int .i64 0, .int .i64 200] (by rfl) rfl rfl (by (try simp only [List.map_toArray, List.map_cons, List.map_nil]); first | done | rfl | (simp only [List.length_drop, List.length_take]; rfl)) ?_
   with_reducible refine (zrP.calls a1 0 200 true _ A3.out).mono ?_
   rintro e w' ⟨rfl, ⟨nd, rfl⟩⟩
   refine ⟨_, rfl, ?_⟩
   refine hK.out _ _ ⟨(zzS BK127.out 0).trans rfl, (zzS BK127.out 1).trans rfl, (zzS BK127.out 2).trans rfl⟩ (fun hHeld => ?_)
   clear hK K
   refine norm_ (a' := ?_) ?_ ?_
   rotate_left
   ·show Act.put _ (some 6) _ = _
    simp only [Act.put, List.setIfInBounds_toArray, List.set_cons_zero, List.set_cons_succ, zcM, ziJ]
    rfl
   refine pu_ 2 (some 7) (bl_ 37 7) ?_
   refine pu_ 3 (some 8) (bl_ 37 15) ?_
   refine tk3_ 4 (some 9) (bl_ 37 31) hHeld ?_
   refine one_ (i := 5) (N := some 10) (bl_ 37 63) rfl rfl (one_of HT_.out (by kernel_rfl)) (by decide) (fun K hK => ?_)
   refine goes_ Try.func60 (by kernel_rfl) rfl #[.int .i64 a0_0, .int .i64 1, .int .i64 4] (by rfl) rfl rfl (by (try simp only [List.map_toArray, List.map_cons, List.map_nil]); first | done | rfl | (simp only [List.length_drop, List.length_take]; rfl)) ?_
   with_reducible refine (zrP.calls a0_0 1 4 false _ A5.out).mono ?_
   rintro e w' ⟨rfl, ⟨nd, rfl⟩⟩
   refine ⟨_, rfl, ?_⟩
   refine hK.out _ _ ⟨(zzS BK127.out 0).trans rfl, (zzS BK127.out 1).trans rfl, (zzS BK127.out 2).trans rfl⟩ (fun hHeld => ?_)
   clear hK K
   refine norm_ (a' := ?_) ?_ ?_
   rotate_left
   ·show Act.put _ (some 10) _ = _
    simp only [Act.put, List.setIfInBounds_toArray, List.set_cons_zero, List.set_cons_succ, zcM, ziJ]
    rfl
   refine pu_ 6 (some 11) (bl_ 37 127) ?_
   refine pu_ 7 (some 12) (bl_ 37 255) ?_
   refine ztK (i := 8) (N := some 13) (v := undef) (a' := ?_) (bl_ 37 511) rfl rfl (zmT HT_.out (by kernel_rfl)) (fun _ _ _ h => h) (Or.inr ⟨by rfl, rfl⟩) ?_ ?_
   rotate_left
   ·simp only [Act.put, List.setIfInBounds_toArray, List.set_cons_zero, List.set_cons_succ, zcM, ziJ]
    rfl
   refine ztK (i := 9) (N := some 14) (v := undef) (a' := ?_) (bl_ 37 1023) rfl rfl (zmT HT_.out (by kernel_rfl)) (fun _ _ _ h => h) (Or.inr ⟨by rfl, rfl⟩) ?_ ?_
   rotate_left
   ·simp only [Act.put, List.setIfInBounds_toArray, List.set_cons_zero, List.set_cons_succ, zcM, ziJ]
    rfl
   refine ztK (i := 10) (N := some 15) (v := undef) (a' := ?_) (bl_ 37 2047) rfl rfl (zmT HT_.out (by kernel_rfl)) (fun _ _ _ h => h) (Or.inr ⟨by rfl, rfl⟩) ?_ ?_
   rotate_left
   ·simp only [Act.put, List.setIfInBounds_toArray, List.set_cons_zero, List.set_cons_succ, zcM, ziJ]
    rfl
   refine ztK (i := 11) (N := some 16) (v := undef) (a' := ?_) (bl_ 37 4095) rfl rfl (zmT HT_.out (by kernel_rfl)) (fun _ _ _ h => h) (Or.inr ⟨by rfl, rfl⟩) ?_ ?_
   rotate_left
   ·simp only [Act.put, List.setIfInBounds_toArray, List.set_cons_zero, List.set_cons_succ, zcM, ziJ]
    rfl
   refine ztK (i := 12) (N := some 17) (v := undef) (a' := ?_) (bl_ 37 8191) rfl rfl (zmT HT_.out (by kernel_rfl)) (fun _ _ _ h => h) (Or.inr ⟨by rfl, rfl⟩) ?_ ?_
   rotate_left
   ·simp only [Act.put, List.setIfInBounds_toArray, List.set_cons_zero, List.set_cons_succ, zcM, ziJ]
    rfl
   refine ztK (i := 13) (N := some 18) (v := undef) (a' := ?_) (bl_ 37 16383) rfl rfl (zmT HT_.out (by kernel_rfl)) (fun _ _ _ h => h) (Or.inr ⟨by rfl, rfl⟩) ?_ ?_
   rotate_left
   ·simp only [Act.put, List.setIfInBounds_toArray, List.set_cons_zero, List.set_cons_succ, zcM, ziJ]
    rfl
   refine pu_ 14 (some 19) (bl_ 37 32767) ?_
   refine pu_ 15 (some 20) (bl_ 37 65535) ?_
   refine ztK (i := 16) (N := some 21) (v := undef) (a' := ?_) (bl_ 37 131071) rfl rfl (zmT HT_.out (by kernel_rfl)) (fun _ _ _ h => h) (Or.inr ⟨by rfl, rfl⟩) ?_ ?_
   rotate_left
   ·simp only [Act.put, List.setIfInBounds_toArray, List.set_cons_zero, List.set_cons_succ, zcM, ziJ]
    rfl
   refine ztK (i := 17) (N := some 22) (v := undef) (a' := ?_) (bl_ 37 262143) rfl rfl (zmT HT_.out (by kernel_rfl)) (fun _ _ _ h => h) (Or.inr ⟨by rfl, rfl⟩) ?_ ?_
   rotate_left
   ·simp only [Act.put, List.setIfInBounds_toArray, List.set_cons_zero, List.set_cons_succ, zcM, ziJ]
    rfl
   refine ztK (i := 18) (N := some 23) (v := undef) (a' := ?_) (bl_ 37 524287) rfl rfl (zmT HT_.out (by kernel_rfl)) (fun _ _ _ h => h) (Or.inr ⟨by rfl, rfl⟩) ?_ ?_
   rotate_left
   ·simp only [Act.put, List.setIfInBounds_toArray, List.set_cons_zero, List.set_cons_succ, zcM, ziJ]
    rfl
   refine ztK (i := 19) (N := some 24) (v := undef) (a' := ?_) (bl_ 37 1048575) rfl rfl (zmT HT_.out (by kernel_rfl)) (fun _ _ _ h => h) (Or.inr ⟨by rfl, rfl⟩) ?_ ?_
   rotate_left
   ·simp only [Act.put, List.setIfInBounds_toArray, List.set_cons_zero, List.set_cons_succ, zcM, ziJ]
    rfl
   refine ztK (i := 20) (N := some 25) (v := undef) (a' := ?_) (bl_ 37 2097151) rfl rfl (zmT HT_.out (by kernel_rfl)) (fun _ _ _ h => h) (Or.inr ⟨by rfl, rfl⟩) ?_ ?_
   rotate_left
   ·simp only [Act.put, List.setIfInBounds_toArray, List.set_cons_zero, List.set_cons_succ, zcM, ziJ]
    rfl
   refine ztK (i := 21) (N := some 26) (v := undef) (a' := ?_) (bl_ 37 4194303) rfl rfl (zmT HT_.out (by kernel_rfl)) (fun _ _ _ h => h) (Or.inr ⟨by rfl, rfl⟩) ?_ ?_
   rotate_left
   ·simp only [Act.put, List.setIfInBounds_toArray, List.set_cons_zero, List.set_cons_succ, zcM, ziJ]
    rfl
   refine ztK (i := 22) (N := some 27) (v := undef) (a' := ?_) (bl_ 37 8388607) rfl rfl (zmT HT_.out (by kernel_rfl)) (fun _ _ _ h => h) (Or.inr ⟨by rfl, rfl⟩) ?_ ?_
   rotate_left
   ·simp only [Act.put, List.setIfInBounds_toArray, List.set_cons_zero, List.set_cons_succ, zcM, ziJ]
    rfl
   refine pu_ 23 (some 28) (bl_ 37 16777215) ?_
   refine pu_ 24 (some 29) (bl_ 37 33554431) ?_
   refine ztK (i := 25) (N := some 30) (v := undef) (a' := ?_) (bl_ 37 67108863) rfl rfl (zmT HT_.out (by kernel_rfl)) (fun _ _ _ h => h) (Or.inr ⟨by rfl, rfl⟩) ?_ ?_
   rotate_left
   ·simp only [Act.put, List.setIfInBounds_toArray, List.set_cons_zero, List.set_cons_succ, zcM, ziJ]
    rfl
   refine ztK (i := 26) (N := some 31) (v := undef) (a' := ?_) (bl_ 37 134217727) rfl rfl (zmT HT_.out (by kernel_rfl)) (fun _ _ _ h => h) (Or.inr ⟨by rfl, rfl⟩) ?_ ?_
   rotate_left
   ·simp only [Act.put, List.setIfInBounds_toArray, List.set_cons_zero, List.set_cons_succ, zcM, ziJ]
    rfl
   refine ztK (i := 27) (N := some 32) (v := undef) (a' := ?_) (bl_ 37 268435455) rfl rfl (zmT HT_.out (by kernel_rfl)) (fun _ _ _ h => h) (Or.inr ⟨by rfl, rfl⟩) ?_ ?_
   rotate_left
   ·simp only [Act.put, List.setIfInBounds_toArray, List.set_cons_zero, List.set_cons_succ, zcM, ziJ]
    rfl
   refine ztK (i := 28) (N := some 33) (v := undef) (a' := ?_) (bl_ 37 536870911) rfl rfl (zmT HT_.out (by kernel_rfl)) (fun _ _ _ h => h) (Or.inr ⟨by rfl, rfl⟩) ?_ ?_
   rotate_left
   ·simp only [Act.put, List.setIfInBounds_toArray, List.set_cons_zero, List.set_cons_succ, zcM, ziJ]
    rfl
   refine ztK (i := 29) (N := some 34) (v := undef) (a' := ?_) (bl_ 37 1073741823) rfl rfl (zmT HT_.out (by kernel_rfl)) (fun _ _ _ h => h) (Or.inr ⟨by rfl, rfl⟩) ?_ ?_
   rotate_left
   ·simp only [Act.put, List.setIfInBounds_toArray, List.set_cons_zero, List.set_cons_succ, zcM, ziJ]
    rfl
   refine pu_ 30 (some 35) (bl_ 37 2147483647) ?_
   refine pu_ 31 (some 36) (bl_ 37 4294967295) ?_
   refine ztK (i := 32) (N := some 37) (v := undef) (a' := ?_) (bl_ 37 8589934591) rfl rfl (zmT HT_.out (by kernel_rfl)) (fun _ _ _ h => h) (Or.inr ⟨by rfl, rfl⟩) ?_ ?_
   rotate_left
   ·simp only [Act.put, List.setIfInBounds_toArray, List.set_cons_zero, List.set_cons_succ, zcM, ziJ]
    rfl
   refine ztK (i := 33) (N := some 38) (v := undef) (a' := ?_) (bl_ 37 17179869183) rfl rfl (zmT HT_.out (by kernel_rfl)) (fun _ _ _ h => h) (Or.inr ⟨by rfl, rfl⟩) ?_ ?_
   rotate_left
   ·simp only [Act.put, List.setIfInBounds_toArray, List.set_cons_zero, List.set_cons_succ, zcM, ziJ]
    rfl
   refine ztK (i := 34) (N := some 39) (v := undef) (a' := ?_) (bl_ 37 34359738367) rfl rfl (zmT HT_.out (by kernel_rfl)) (fun _ _ _ h => h) (Or.inr ⟨by rfl, rfl⟩) ?_ ?_
   rotate_left
   ·simp only [Act.put, List.setIfInBounds_toArray, List.set_cons_zero, List.set_cons_succ, zcM, ziJ]
    rfl
   refine pu_ 35 (some 40) (bl_ 37 68719476735) ?_
   refine pu_ 36 (some 4) (bl_ 37 137438953471) ?_
   refine done_ (done_of HT_.out (by kernel_rfl)) ?_
   try go_wp2
   go_ret
   exact ⟨by first | rfl | (simp [ziS, znJ] <;> rfl) | (simp [*, ziS, znJ] <;> rfl), bb_⟩
 ·replace c4 := Bool.eq_false_iff.mpr c4
  subst c4
  have H1 : (some false) = some r := by rw [if_neg (show ¬ (false = true) by decide)] at H; exact H
  clear H
  have H := H1
  clear H1
  obtain rfl := Option.some.inj H
  go_enter Try.func45, Try.ntmps45
  try go_wp2_with (first | ((with_reducible refine zpZ (N := 2) rfl ?_); (try (refine gate_guard (by rfl) ?_; dsimp only)); refine box_event ?hg (N := 2) ?hd (cs := #[.int .i64 a0_0, .slice A0_1 l0_1.length c0_1, .slice A0_2 l0_2.length c0_2]) (t := 54) ?hr ?_; (case hd => rfl); (case hg => rfl); (case hr => first | (go_simp; done) | (go_simp; rfl)); intro gb127 hg w23 hbox hb; have n0_ := (ns_ hb); have n1_ := zpS (hbox); have n2_ := (ng_ hg); have n3_ := n2_; clear HB; have HB := n0_; have BK127 := n1_; have GW127 := n2_; have GE127 := n3_; clear n0_ n1_ n2_ n3_; clear hb hbox hg))
  have n0_ := zpS (ztN BK127.out)
  have n1_ := zpS (zvF HB.out)
  clear BK127
  clear HB
  have BK127 := n0_
  have HB := n1_
  clear n0_ n1_
  refine start_ (n := 37) (S := fun w' => True) (ds := []) #[false, false, false, false, false, false, false, false, false, false, false, false, false, false, false, false, false, false, false, false, false, false, false, false, false, false, false, false, false, false, false, false, false, false, false, false, false] (by kernel_rfl) rfl rfl trivial (fun hHeld => ?_); refine with_tabW zhE.tab1 zhE.bits1 (fun HT_ HW_ => ?_)
  generalize w23.drew = w24 at BK127 HB hHeld ⊢
  refine pu_ 0 (some 5) (bl_ 37 1) ?_
  refine one_ (i := 1) (N := some 6) (bl_ 37 3) rfl rfl (one_of HT_.out (by kernel_rfl)) (by decide) (fun K hK => ?_)
  refine goes_ Try.func60 (by kernel_rfl) rfl #[.int .i64 a1, .int .i64 0, .int .i64 200] (by rfl) rfl rfl (by (try simp only [List.map_toArray, List.map_cons, List.map_nil]); first | done | rfl | (simp only [List.length_drop, List.length_take]; rfl)) ?_
  with_reducible refine (zrP.calls a1 0 200 false _ A3.out).mono ?_
  rintro e w' ⟨rfl, ⟨nd, rfl⟩⟩
  refine ⟨_, rfl, ?_⟩
  refine hK.out _ _ trivial (fun hHeld => ?_)
  clear hK K
  refine norm_ (a' := ?_) ?_ ?_
  rotate_left
  ·show Act.put _ (some 6) _ = _
   simp only [Act.put, List.setIfInBounds_toArray, List.set_cons_zero, List.set_cons_succ, zcM, ziJ]
   rfl
  refine pu_ 2 (some 7) (bl_ 37 7) ?_
  refine ztK (i := 3) (N := some 8) (v := undef) (a' := ?_) (bl_ 37 15) rfl rfl (zmT HT_.out (by kernel_rfl)) (fun _ _ _ h => h) (Or.inr ⟨by rfl, rfl⟩) ?_ ?_
  rotate_left
  ·simp only [Act.put, List.setIfInBounds_toArray, List.set_cons_zero, List.set_cons_succ, zcM, ziJ]
   rfl
  refine ztK (i := 4) (N := some 9) (v := undef) (a' := ?_) (bl_ 37 31) rfl rfl (zmT HT_.out (by kernel_rfl)) (fun _ _ _ h => h) (Or.inr ⟨by rfl, rfl⟩) ?_ ?_
  rotate_left
  ·simp only [Act.put, List.setIfInBounds_toArray, List.set_cons_zero, List.set_cons_succ, zcM, ziJ]
   rfl
  refine ztK (i := 5) (N := some 10) (v := undef) (a' := ?_) (bl_ 37 63) rfl rfl (zmT HT_.out (by kernel_rfl)) (fun _ _ _ h => h) (Or.inr ⟨by rfl, rfl⟩) ?_ ?_
  rotate_left
  ·simp only [Act.put, List.setIfInBounds_toArray, List.set_cons_zero, List.set_cons_succ, zcM, ziJ]
   rfl
  refine pu_ 6 (some 11) (bl_ 37 127) ?_
  refine pu_ 7 (some 12) (bl_ 37 255) ?_
  refine ztK (i := 8) (N := some 13) (v := undef) (a' := ?_) (bl_ 37 511) rfl rfl (zmT HT_.out (by kernel_rfl)) (fun _ _ _ h => h) (Or.inr ⟨by rfl, rfl⟩) ?_ ?_
  rotate_left
  ·simp only [Act.put, List.setIfInBounds_toArray, List.set_cons_zero, List.set_cons_succ, zcM, ziJ]
   rfl
  refine ztK (i := 9) (N := some 14) (v := undef) (a' := ?_) (bl_ 37 1023) rfl rfl (zmT HT_.out (by kernel_rfl)) (fun _ _ _ h => h) (Or.inr ⟨by rfl, rfl⟩) ?_ ?_
  rotate_left
  ·simp only [Act.put, List.setIfInBounds_toArray, List.set_cons_zero, List.set_cons_succ, zcM, ziJ]
   rfl
  refine ztK (i := 10) (N := some 15) (v := undef) (a' := ?_) (bl_ 37 2047) rfl rfl (zmT HT_.out (by kernel_rfl)) (fun _ _ _ h => h) (Or.inr ⟨by rfl, rfl⟩) ?_ ?_
  rotate_left
  ·simp only [Act.put, List.setIfInBounds_toArray, List.set_cons_zero, List.set_cons_succ, zcM, ziJ]
   rfl
  refine ztK (i := 11) (N := some 16) (v := undef) (a' := ?_) (bl_ 37 4095) rfl rfl (zmT HT_.out (by kernel_rfl)) (fun _ _ _ h => h) (Or.inr ⟨by rfl, rfl⟩) ?_ ?_
  rotate_left
  ·simp only [Act.put, List.setIfInBounds_toArray, List.set_cons_zero, List.set_cons_succ, zcM, ziJ]
   rfl
  refine ztK (i := 12) (N := some 17) (v := undef) (a' := ?_) (bl_ 37 8191) rfl rfl (zmT HT_.out (by kernel_rfl)) (fun _ _ _ h => h) (Or.inr ⟨by rfl, rfl⟩) ?_ ?_
  rotate_left
  ·simp only [Act.put, List.setIfInBounds_toArray, List.set_cons_zero, List.set_cons_succ, zcM, ziJ]
   rfl
  refine ztK (i := 13) (N := some 18) (v := undef) (a' := ?_) (bl_ 37 16383) rfl rfl (zmT HT_.out (by kernel_rfl)) (fun _ _ _ h => h) (Or.inr ⟨by rfl, rfl⟩) ?_ ?_
  rotate_left
  ·simp only [Act.put, List.setIfInBounds_toArray, List.set_cons_zero, List.set_cons_succ, zcM, ziJ]
   rfl
  refine pu_ 14 (some 19) (bl_ 37 32767) ?_
  refine pu_ 15 (some 20) (bl_ 37 65535) ?_
  refine ztK (i := 16) (N := some 21) (v := undef) (a' := ?_) (bl_ 37 131071) rfl rfl (zmT HT_.out (by kernel_rfl)) (fun _ _ _ h => h) (Or.inr ⟨by rfl, rfl⟩) ?_ ?_
  rotate_left
  ·simp only [Act.put, List.setIfInBounds_toArray, List.set_cons_zero, List.set_cons_succ, zcM, ziJ]
   rfl
  refine ztK (i := 17) (N := some 22) (v := undef) (a' := ?_) (bl_ 37 262143) rfl rfl (zmT HT_.out (by kernel_rfl)) (fun _ _ _ h => h) (Or.inr ⟨by rfl, rfl⟩) ?_ ?_
  rotate_left
  ·simp only [Act.put, List.setIfInBounds_toArray, List.set_cons_zero, List.set_cons_succ, zcM, ziJ]
   rfl
  refine ztK (i := 18) (N := some 23) (v := undef) (a' := ?_) (bl_ 37 524287) rfl rfl (zmT HT_.out (by kernel_rfl)) (fun _ _ _ h => h) (Or.inr ⟨by rfl, rfl⟩) ?_ ?_
  rotate_left
  ·simp only [Act.put, List.setIfInBounds_toArray, List.set_cons_zero, List.set_cons_succ, zcM, ziJ]
   rfl
  refine ztK (i := 19) (N := some 24) (v := undef) (a' := ?_) (bl_ 37 1048575) rfl rfl (zmT HT_.out (by kernel_rfl)) (fun _ _ _ h => h) (Or.inr ⟨by rfl, rfl⟩) ?_ ?_
  rotate_left
  ·simp only [Act.put, List.setIfInBounds_toArray, List.set_cons_zero, List.set_cons_succ, zcM, ziJ]
   rfl
  refine ztK (i := 20) (N := some 25) (v := undef) (a' := ?_) (bl_ 37 2097151) rfl rfl (zmT HT_.out (by kernel_rfl)) (fun _ _ _ h => h) (Or.inr ⟨by rfl, rfl⟩) ?_ ?_
  rotate_left
  ·simp only [Act.put, List.setIfInBounds_toArray, List.set_cons_zero, List.set_cons_succ, zcM, ziJ]
   rfl
  refine ztK (i := 21) (N := some 26) (v := undef) (a' := ?_) (bl_ 37 4194303) rfl rfl (zmT HT_.out (by kernel_rfl)) (fun _ _ _ h => h) (Or.inr ⟨by rfl, rfl⟩) ?_ ?_
  rotate_left
  ·simp only [Act.put, List.setIfInBounds_toArray, List.set_cons_zero, List.set_cons_succ, zcM, ziJ]
   rfl
  refine ztK (i := 22) (N := some 27) (v := undef) (a' := ?_) (bl_ 37 8388607) rfl rfl (zmT HT_.out (by kernel_rfl)) (fun _ _ _ h => h) (Or.inr ⟨by rfl, rfl⟩) ?_ ?_
  rotate_left
  ·simp only [Act.put, List.setIfInBounds_toArray, List.set_cons_zero, List.set_cons_succ, zcM, ziJ]
   rfl
  refine pu_ 23 (some 28) (bl_ 37 16777215) ?_
  refine pu_ 24 (some 29) (bl_ 37 33554431) ?_
  refine ztK (i := 25) (N := some 30) (v := undef) (a' := ?_) (bl_ 37 67108863) rfl rfl (zmT HT_.out (by kernel_rfl)) (fun _ _ _ h => h) (Or.inr ⟨by rfl, rfl⟩) ?_ ?_
  rotate_left
  ·simp only [Act.put, List.setIfInBounds_toArray, List.set_cons_zero, List.set_cons_succ, zcM, ziJ]
   rfl
  refine ztK (i := 26) (N := some 31) (v := undef) (a' := ?_) (bl_ 37 134217727) rfl rfl (zmT HT_.out (by kernel_rfl)) (fun _ _ _ h => h) (Or.inr ⟨by rfl, rfl⟩) ?_ ?_
  rotate_left
  ·simp only [Act.put, List.setIfInBounds_toArray, List.set_cons_zero, List.set_cons_succ, zcM, ziJ]
   rfl
  refine ztK (i := 27) (N := some 32) (v := undef) (a' := ?_) (bl_ 37 268435455) rfl rfl (zmT HT_.out (by kernel_rfl)) (fun _ _ _ h => h) (Or.inr ⟨by rfl, rfl⟩) ?_ ?_
  rotate_left
  ·simp only [Act.put, List.setIfInBounds_toArray, List.set_cons_zero, List.set_cons_succ, zcM, ziJ]
   rfl
  refine ztK (i := 28) (N := some 33) (v := undef) (a' := ?_) (bl_ 37 536870911) rfl rfl (zmT HT_.out (by kernel_rfl)) (fun _ _ _ h => h) (Or.inr ⟨by rfl, rfl⟩) ?_ ?_
  rotate_left
  ·simp only [Act.put, List.setIfInBounds_toArray, List.set_cons_zero, List.set_cons_succ, zcM, ziJ]
   rfl
  refine ztK (i := 29) (N := some 34) (v := undef) (a' := ?_) (bl_ 37 1073741823) rfl rfl (zmT HT_.out (by kernel_rfl)) (fun _ _ _ h => h) (Or.inr ⟨by rfl, rfl⟩) ?_ ?_
  rotate_left
  ·simp only [Act.put, List.setIfInBounds_toArray, List.set_cons_zero, List.set_cons_succ, zcM, ziJ]
   rfl
  refine pu_ 30 (some 35) (bl_ 37 2147483647) ?_
  refine pu_ 31 (some 36) (bl_ 37 4294967295) ?_
  refine ztK (i := 32) (N := some 37) (v := undef) (a' := ?_) (bl_ 37 8589934591) rfl rfl (zmT HT_.out (by kernel_rfl)) (fun _ _ _ h => h) (Or.inr ⟨by rfl, rfl⟩) ?_ ?_
  rotate_left
  ·simp only [Act.put, List.setIfInBounds_toArray, List.set_cons_zero, List.set_cons_succ, zcM, ziJ]
   rfl
  refine ztK (i := 33) (N := some 38) (v := undef) (a' := ?_) (bl_ 37 17179869183) rfl rfl (zmT HT_.out (by kernel_rfl)) (fun _ _ _ h => h) (Or.inr ⟨by rfl, rfl⟩) ?_ ?_
  rotate_left
  ·simp only [Act.put, List.setIfInBounds_toArray, List.set_cons_zero, List.set_cons_succ, zcM, ziJ]
   rfl
  refine ztK (i := 34) (N := some 39) (v := undef) (a' := ?_) (bl_ 37 34359738367) rfl rfl (zmT HT_.out (by kernel_rfl)) (fun _ _ _ h => h) (Or.inr ⟨by rfl, rfl⟩) ?_ ?_
  rotate_left
  ·simp only [Act.put, List.setIfInBounds_toArray, List.set_cons_zero, List.set_cons_succ, zcM, ziJ]
   rfl
  refine pu_ 35 (some 40) (bl_ 37 68719476735) ?_
  refine pu_ 36 (some 4) (bl_ 37 137438953471) ?_
  refine done_ (done_of HT_.out (by kernel_rfl)) ?_
  try go_wp2
  go_ret
  exact ⟨by first | rfl | (simp [ziS, znJ] <;> rfl) | (simp [*, ziS, znJ] <;> rfl), bb_⟩

end Go.Proofs.Ytbpkbllokmplnaa.PFnExactValidRule
