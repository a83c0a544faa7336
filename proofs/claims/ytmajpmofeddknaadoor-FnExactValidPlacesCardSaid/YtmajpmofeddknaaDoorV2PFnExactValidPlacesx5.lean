-- Printed for this claim by this session's program pp.py, which drives the kit's print with additions. Not trusted: Lean checks it.
import Derived.Test.YtmajpmofeddknaaDoorV2PFnExactValidPlacesx0
import Derived.Test.YtmajpmofeddknaaDoorV2PFnExactValidPlacesx3
import Derived.Test.YtmajpmofeddknaaDoorV2PFnExactValidPlacesx4
namespace Go.Proofs.YtmajpmofeddknaaDoor.PFnExactValidPlaces
open Go.RowKit Go.Proofs.YtmajpmofeddknaaDoorW.PrintWords Go.Proofs.YtmajpmofeddknaaDoorW.PrintLast Go.Proofs.YtmajpmofeddknaaDoorW.PrintMore
attribute [local go_sem] zbB ziC zrC zhD znE zuB znH zkT   -- for this text's walks alone
set_option linter.unusedVariables false
set_option linter.unusedSimpArgs false

def znA.l0 : Nat → Int → Int → Int → Int → Int → Int → Int → Option (Int)
 | 0, _, _, _, _, _, _, _ => none
 | k + 1, x3, x179000, x179001, x179002, x179003, x179004, x179005 => if x3 < 16 then ((zmD.f k (wrap64 (x3 + 4)) x179000 x179001 x179002 x179003 x179004 x179005).bind fun bt179 => ((zbR.f bt179.1 bt179.2.1 bt179.2.2).bind fun t182 => (if t182 = true then ((zmD.f k x3 x179000 x179001 x179002 x179003 x179004 x179005).bind fun bt183 => ((zxR.f k bt183.1 bt183.2.1 bt183.2.2).bind fun t186 => (if t186 > 0 then (some x3) else (znA.l0 k (wrap64 (x3 + 1)) x179000 x179001 x179002 x179003 x179004 x179005)))) else (znA.l0 k (wrap64 (x3 + 1)) x179000 x179001 x179002 x179003 x179004 x179005)))) else (some (-1))
def znA.f (k : Nat) (a0_0 : Int) (a0_1 : Int) (a0_2 : Int) (a0_3 : Int) (a0_4 : Int) (a0_5 : Int) : Option (Int) := znA.l0 k 0 a0_0 a0_1 a0_2 a0_3 a0_4 a0_5
theorem znA.mono_l : ∀ k, (∀ y0 y1 y2 y3 y4 y5 y6, LeO (znA.l0 k y0 y1 y2 y3 y4 y5 y6) (znA.l0 (k + 1) y0 y1 y2 y3 y4 y5 y6))
 | 0 => fun _ _ _ _ _ _ _ r h => by simp [znA.l0] at h
 | k + 1 => by
  have ih0 := znA.mono_l k
  ·intro y0 y1 y2 y3 y4 y5 y6
   unfold znA.l0
   repeat' first
   | (with_reducible exact ih0 _ _ _ _ _ _ _)
   | (with_reducible exact zxR.mono _ _ _ _)
   | (with_reducible exact zmD.mono _ _ _ _ _ _ _ _)
   | (with_reducible exact LeO.refl _)
   | (with_reducible exact LeO.none _)
   | (with_reducible refine LeO.ite ?_ ?_)
   | (with_reducible refine LeO.bind ?_ (fun _ => ?_))
   | exact ih0 _ _ _ _ _ _ _
   | exact zxR.mono _ _ _ _
   | exact zmD.mono _ _ _ _ _ _ _ _
   | exact LeO.none _
   | refine LeO.ite ?_ ?_
   | refine LeO.bind ?_ (fun _ => ?_)
theorem znA.mono : ∀ a0 a1 a2 a3 a4 a5 k, LeO (znA.f k a0 a1 a2 a3 a4 a5) (znA.f (k + 1) a0 a1 a2 a3 a4 a5) := by
 intro a0 a1 a2 a3 a4 a5 k
 have ih0 := znA.mono_l k
 unfold znA.f
 repeat' first
   | (with_reducible exact ih0 _ _ _ _ _ _ _)
   | (with_reducible exact zxR.mono _ _ _ _)
   | (with_reducible exact zmD.mono _ _ _ _ _ _ _ _)
   | (with_reducible exact LeO.refl _)
   | (with_reducible exact LeO.none _)
   | (with_reducible refine LeO.ite ?_ ?_)
   | (with_reducible refine LeO.bind ?_ (fun _ => ?_))
   | exact ih0 _ _ _ _ _ _ _
   | exact zxR.mono _ _ _ _
   | exact zmD.mono _ _ _ _ _ _ _ _
   | exact LeO.none _
   | refine LeO.ite ?_ ?_
   | refine LeO.bind ?_ (fun _ => ?_)
set_option maxHeartbeats 8000000 in
set_option maxRecDepth 100000 in
theorem znA.calls (k : Nat) (a0_0 : Int) (a0_1 : Int) (a0_2 : Int) (a0_3 : Int) (a0_4 : Int) (a0_5 : Int) (r : Int) (w : World) (h : znA.f k a0_0 a0_1 a0_2 a0_3 a0_4 a0_5 = some r) :
  Calls Tryd.prog 110 #[.agg #[.int .i64 a0_0, .int .i64 a0_1, .int .i64 a0_2, .int .i64 a0_3, .int .i64 a0_4, .int .i64 a0_5]] w fun e w' => e = .returned (.int .i64 r) ∧ Below w.heap.size w w' := by
 have hu94 := Tryd.underlying94
 have HB := zpS (Below.refl w.heap.size w)
 have H : (znA.l0 k 0 a0_0 a0_1 a0_2 a0_3 a0_4 a0_5) = some r := h
 clear h
 have H' := zpS H
 clear H
 go_enter Tryd.func110, Tryd.ntmps110
 go_wp2_with (first | ((with_reducible refine zpZ (N := 1) rfl ?_); refine bx_ 1 #[.int .i64 a0_0, .int .i64 a0_1, .int .i64 a0_2, .int .i64 a0_3, .int .i64 a0_4, .int .i64 a0_5] 94 ?_; intro gb178 hg w2 hbox hb; have n0_ := (ns_ hb); have n1_ := zpS (hbox); have n2_ := (ng_ hg); have n3_ := n2_; clear HB; have HB := n0_; have BK178 := n1_; have GW178 := n2_; have GE178 := n3_; clear n0_ n1_ n2_ n3_; clear hb hbox hg))
 (try go_simp)
 go_loopg [3] k (fun kq v3 w' => ∃ (x3_1 : Int), v3 = .int .i64 x3_1 ∧ Aside0 (znA.l0 kq x3_1 a0_0 a0_1 a0_2 a0_3 a0_4 a0_5 = some r) ∧ Aside0 (kq ≤ k) ∧ Aside0 (w'.heap[gb178]? = some (.cells #[.int .i64 a0_0, .int .i64 a0_1, .int .i64 a0_2, .int .i64 a0_3, .int .i64 a0_4, .int .i64 a0_5] 94 (0, 0))) ∧ Aside0 (Below w.heap.size w w'))
 case atStart => exact ⟨(0), (by first | rfl | (simp; done) | (simp [*]; done)), H', ⟨Nat.le_refl _⟩, ⟨bk_⟩, ⟨bb_⟩⟩
 case round =>
  clear H'
  try clear c1
  try clear p2
  obtain ⟨x3_1, rfl, HA, HK1, BK178, HB⟩ := hrel
  cases gk with
  | zero => exact absurd HA.out (by simp [znA.l0])
  | succ k1 =>
   have H := HA.out
   clear HA
   simp only [znA.l0] at H
   by_cases c3 : x3_1 < 16
   ·rw [if_pos c3] at H
    have c3b0 : decide (x3_1 < 16) = true := decide_eq_true c3
    clear c3
    replace H := Option.bind_eq_some_iff.mp H
    obtain ⟨⟨t179, t180, t181⟩, A40, H⟩ := H
    replace H : ((zbR.f t179 t180 t181).bind fun t182 => (if t182 = true then ((zmD.f k1 x3_1 a0_0 a0_1 a0_2 a0_3 a0_4 a0_5).bind fun bt183 => ((zxR.f k1 bt183.1 bt183.2.1 bt183.2.2).bind fun t186 => (if t186 > 0 then (some x3_1) else (znA.l0 k1 (wrap64 (x3_1 + 1)) a0_0 a0_1 a0_2 a0_3 a0_4 a0_5)))) else (znA.l0 k1 (wrap64 (x3_1 + 1)) a0_0 a0_1 a0_2 a0_3 a0_4 a0_5))) = some r := H
    have A4 := zpS A40
    clear A40
    replace H := Option.bind_eq_some_iff.mp H
    obtain ⟨t182, A50, H⟩ := H
    replace H : (if t182 = true then ((zmD.f k1 x3_1 a0_0 a0_1 a0_2 a0_3 a0_4 a0_5).bind fun bt183 => ((zxR.f k1 bt183.1 bt183.2.1 bt183.2.2).bind fun t186 => (if t186 > 0 then (some x3_1) else (znA.l0 k1 (wrap64 (x3_1 + 1)) a0_0 a0_1 a0_2 a0_3 a0_4 a0_5)))) else (znA.l0 k1 (wrap64 (x3_1 + 1)) a0_0 a0_1 a0_2 a0_3 a0_4 a0_5)) = some r := H
    have A5 := zpS A50
    clear A50
    by_cases c6 : t182 = true
    ·subst c6
     have H1 : ((zmD.f k1 x3_1 a0_0 a0_1 a0_2 a0_3 a0_4 a0_5).bind fun bt183 => ((zxR.f k1 bt183.1 bt183.2.1 bt183.2.2).bind fun t186 => (if t186 > 0 then (some x3_1) else (znA.l0 k1 (wrap64 (x3_1 + 1)) a0_0 a0_1 a0_2 a0_3 a0_4 a0_5)))) = some r := by rw [if_pos rfl] at H; exact H
     clear H
     have H := H1
     clear H1
     replace H := Option.bind_eq_some_iff.mp H
     obtain ⟨⟨t183, t184, t185⟩, A70, H⟩ := H
     replace H : ((zxR.f k1 t183 t184 t185).bind fun t186 => (if t186 > 0 then (some x3_1) else (znA.l0 k1 (wrap64 (x3_1 + 1)) a0_0 a0_1 a0_2 a0_3 a0_4 a0_5))) = some r := H
     have A7 := zpS A70
     clear A70
     replace H := Option.bind_eq_some_iff.mp H
     obtain ⟨t186, A80, H⟩ := H
     replace H : (if t186 > 0 then (some x3_1) else (znA.l0 k1 (wrap64 (x3_1 + 1)) a0_0 a0_1 a0_2 a0_3 a0_4 a0_5)) = some r := H
     have A8 := zpS A80
     clear A80
     by_cases c9 : t186 > 0
     ·rw [if_pos c9] at H
      have c9b0 : decide (0 < t186) = true := decide_eq_true c9
      clear c9
      obtain rfl := Option.some.inj H
      obtain ⟨hcz10_0, hcz10_1, hcz10_2, hcz10_3, hcz10_4, hcz10_5⟩ := zrN BK178.out
      obtain ⟨hfz10_0, hfz10_1, hfz10_2, hfz10_3, hfz10_4, hfz10_5⟩ := zoQ BK178.out
      go_wp2_with (first | ((with_reducible refine zgK (f := 113) rfl ?_); refine zqQ (some 11) rfl rfl Tryd.func113 (by kernel_rfl) rfl #[.int .i64 (wrap64 (x3_1 + 4)), .agg #[.int .i64 a0_0, .int .i64 a0_1, .int .i64 a0_2, .int .i64 a0_3, .int .i64 a0_4, .int .i64 a0_5]] rfl (by (try simp only [List.map_toArray, List.map_cons, List.map_nil]); first | done | rfl | (simp only [List.length_drop, List.length_take]; rfl)) ?_; (with_reducible refine (zmD.calls k1 (wrap64 (x3_1 + 4)) a0_0 a0_1 a0_2 a0_3 a0_4 a0_5 t179 t180 t181 _ A4.out).mono ?_); rintro e w11 ⟨rfl, hb⟩; refine ⟨_, rfl, ?_⟩; have n0_ := zpS (zgM (g := gb178) (o := .cells #[.int .i64 a0_0, .int .i64 a0_1, .int .i64 a0_2, .int .i64 a0_3, .int .i64 a0_4, .int .i64 a0_5] 94 (0, 0)) bk_ hb); have n1_ := (ns_ hb); clear BK178; clear HB; have BK178 := n0_; have HB := n1_; clear n0_ n1_; (try clear hb); (try clear hb2)) | ((with_reducible refine zgK (f := 144) rfl ?_); refine zqQ (some 12) rfl rfl Tryd.func144 (by kernel_rfl) rfl #[.agg #[.int .i64 t179, .int .i64 t180, .int .i64 t181]] rfl (by (try simp only [List.map_toArray, List.map_cons, List.map_nil]); first | done | rfl | (simp only [List.length_drop, List.length_take]; rfl)) ?_; (with_reducible refine (zbR.calls t179 t180 t181 true _ A5.out).mono ?_); rintro e w12 ⟨rfl, hb⟩; refine ⟨_, rfl, ?_⟩; have n0_ := zpS (zgM (g := gb178) (o := .cells #[.int .i64 a0_0, .int .i64 a0_1, .int .i64 a0_2, .int .i64 a0_3, .int .i64 a0_4, .int .i64 a0_5] 94 (0, 0)) bk_ hb); have n1_ := (ns_ hb); clear BK178; clear HB; have BK178 := n0_; have HB := n1_; clear n0_ n1_; (try clear hb); (try clear hb2); obtain ⟨hcz13_0, hcz13_1, hcz13_2, hcz13_3, hcz13_4, hcz13_5⟩ := zrN BK178.out; obtain ⟨hfz13_0, hfz13_1, hfz13_2, hfz13_3, hfz13_4, hfz13_5⟩ := zoQ BK178.out) | (go_at_call 113; (with_reducible refine (zmD.calls k1 x3_1 a0_0 a0_1 a0_2 a0_3 a0_4 a0_5 t183 t184 t185 _ A7.out).mono ?_); rintro e w14 ⟨rfl, hb⟩; have n0_ := zpS (zgM (g := gb178) (o := .cells #[.int .i64 a0_0, .int .i64 a0_1, .int .i64 a0_2, .int .i64 a0_3, .int .i64 a0_4, .int .i64 a0_5] 94 (0, 0)) bk_ hb); have n1_ := (ns_ hb); clear BK178; clear HB; have BK178 := n0_; have HB := n1_; clear n0_ n1_; (try clear hb); (try clear hb2)) | (go_at_call 112; (with_reducible refine (zxR.calls k1 t183 t184 t185 t186 _ A8.out).mono ?_); rintro e w15 ⟨rfl, hb⟩; have n0_ := zpS (zgM (g := gb178) (o := .cells #[.int .i64 a0_0, .int .i64 a0_1, .int .i64 a0_2, .int .i64 a0_3, .int .i64 a0_4, .int .i64 a0_5] 94 (0, 0)) bk_ hb); have n1_ := (ns_ hb); clear BK178; clear HB; have BK178 := n0_; have HB := n1_; clear n0_ n1_; (try clear hb); (try clear hb2)))
      go_ret
      exact ⟨by first | rfl | (simp [ziS, znJ] <;> rfl) | (simp [*, ziS, znJ] <;> rfl), bb_⟩
     ·rw [if_neg c9] at H
      have c9b0 : decide (0 < t186) = false := decide_eq_false c9
      clear c9
      have H' := zpS H
      clear H
      obtain ⟨hcz16_0, hcz16_1, hcz16_2, hcz16_3, hcz16_4, hcz16_5⟩ := zrN BK178.out
      obtain ⟨hfz16_0, hfz16_1, hfz16_2, hfz16_3, hfz16_4, hfz16_5⟩ := zoQ BK178.out
      go_wp2_with (first | ((with_reducible refine zgK (f := 113) rfl ?_); refine zqQ (some 11) rfl rfl Tryd.func113 (by kernel_rfl) rfl #[.int .i64 (wrap64 (x3_1 + 4)), .agg #[.int .i64 a0_0, .int .i64 a0_1, .int .i64 a0_2, .int .i64 a0_3, .int .i64 a0_4, .int .i64 a0_5]] rfl (by (try simp only [List.map_toArray, List.map_cons, List.map_nil]); first | done | rfl | (simp only [List.length_drop, List.length_take]; rfl)) ?_; (with_reducible refine (zmD.calls k1 (wrap64 (x3_1 + 4)) a0_0 a0_1 a0_2 a0_3 a0_4 a0_5 t179 t180 t181 _ A4.out).mono ?_); rintro e w17 ⟨rfl, hb⟩; refine ⟨_, rfl, ?_⟩; have n0_ := zpS (zgM (g := gb178) (o := .cells #[.int .i64 a0_0, .int .i64 a0_1, .int .i64 a0_2, .int .i64 a0_3, .int .i64 a0_4, .int .i64 a0_5] 94 (0, 0)) bk_ hb); have n1_ := (ns_ hb); clear BK178; clear HB; have BK178 := n0_; have HB := n1_; clear n0_ n1_; (try clear hb); (try clear hb2)) | ((with_reducible refine zgK (f := 144) rfl ?_); refine zqQ (some 12) rfl rfl Tryd.func144 (by kernel_rfl) rfl #[.agg #[.int .i64 t179, .int .i64 t180, .int .i64 t181]] rfl (by (try simp only [List.map_toArray, List.map_cons, List.map_nil]); first | done | rfl | (simp only [List.length_drop, List.length_take]; rfl)) ?_; (with_reducible refine (zbR.calls t179 t180 t181 true _ A5.out).mono ?_); rintro e w18 ⟨rfl, hb⟩; refine ⟨_, rfl, ?_⟩; have n0_ := zpS (zgM (g := gb178) (o := .cells #[.int .i64 a0_0, .int .i64 a0_1, .int .i64 a0_2, .int .i64 a0_3, .int .i64 a0_4, .int .i64 a0_5] 94 (0, 0)) bk_ hb); have n1_ := (ns_ hb); clear BK178; clear HB; have BK178 := n0_; have HB := n1_; clear n0_ n1_; (try clear hb); (try clear hb2); obtain ⟨hcz19_0, hcz19_1, hcz19_2, hcz19_3, hcz19_4, hcz19_5⟩ := zrN BK178.out; obtain ⟨hfz19_0, hfz19_1, hfz19_2, hfz19_3, hfz19_4, hfz19_5⟩ := zoQ BK178.out) | (go_at_call 113; (with_reducible refine (zmD.calls k1 x3_1 a0_0 a0_1 a0_2 a0_3 a0_4 a0_5 t183 t184 t185 _ A7.out).mono ?_); rintro e w20 ⟨rfl, hb⟩; have n0_ := zpS (zgM (g := gb178) (o := .cells #[.int .i64 a0_0, .int .i64 a0_1, .int .i64 a0_2, .int .i64 a0_3, .int .i64 a0_4, .int .i64 a0_5] 94 (0, 0)) bk_ hb); have n1_ := (ns_ hb); clear BK178; clear HB; have BK178 := n0_; have HB := n1_; clear n0_ n1_; (try clear hb); (try clear hb2)) | (go_at_call 112; (with_reducible refine (zxR.calls k1 t183 t184 t185 t186 _ A8.out).mono ?_); rintro e w21 ⟨rfl, hb⟩; have n0_ := zpS (zgM (g := gb178) (o := .cells #[.int .i64 a0_0, .int .i64 a0_1, .int .i64 a0_2, .int .i64 a0_3, .int .i64 a0_4, .int .i64 a0_5] 94 (0, 0)) bk_ hb); have n1_ := (ns_ hb); clear BK178; clear HB; have BK178 := n0_; have HB := n1_; clear n0_ n1_; (try clear hb); (try clear hb2)))
      go_roundg k1
      case measure => have := HK1.out; omega
      case rel => exact ⟨(wrap64 (x3_1 + 1)), (by first | rfl | (simp; done) | (simp [*]; done)), H', ⟨by have := HK1.out; omega⟩, ⟨bk_⟩, ⟨bb_⟩⟩
    ·replace c6 := Bool.eq_false_iff.mpr c6
     subst c6
     have H1 : (znA.l0 k1 (wrap64 (x3_1 + 1)) a0_0 a0_1 a0_2 a0_3 a0_4 a0_5) = some r := by rw [if_neg (show ¬ (false = true) by decide)] at H; exact H
     clear H
     have H := H1
     clear H1
     have H' := zpS H
     clear H
     obtain ⟨hcz22_0, hcz22_1, hcz22_2, hcz22_3, hcz22_4, hcz22_5⟩ := zrN BK178.out
     obtain ⟨hfz22_0, hfz22_1, hfz22_2, hfz22_3, hfz22_4, hfz22_5⟩ := zoQ BK178.out
     go_wp2_with (first | ((with_reducible refine zgK (f := 113) rfl ?_); refine zqQ (some 11) rfl rfl Tryd.func113 (by kernel_rfl) rfl #[.int .i64 (wrap64 (x3_1 + 4)), .agg #[.int .i64 a0_0, .int .i64 a0_1, .int .i64 a0_2, .int .i64 a0_3, .int .i64 a0_4, .int .i64 a0_5]] rfl (by (try simp only [List.map_toArray, List.map_cons, List.map_nil]); first | done | rfl | (simp only [List.length_drop, List.length_take]; rfl)) ?_; (with_reducible refine (zmD.calls k1 (wrap64 (x3_1 + 4)) a0_0 a0_1 a0_2 a0_3 a0_4 a0_5 t179 t180 t181 _ A4.out).mono ?_); rintro e w23 ⟨rfl, hb⟩; refine ⟨_, rfl, ?_⟩; have n0_ := zpS (zgM (g := gb178) (o := .cells #[.int .i64 a0_0, .int .i64 a0_1, .int .i64 a0_2, .int .i64 a0_3, .int .i64 a0_4, .int .i64 a0_5] 94 (0, 0)) bk_ hb); have n1_ := (ns_ hb); clear BK178; clear HB; have BK178 := n0_; have HB := n1_; clear n0_ n1_; (try clear hb); (try clear hb2)) | ((with_reducible refine zgK (f := 144) rfl ?_); refine zqQ (some 12) rfl rfl Tryd.func144 (by kernel_rfl) rfl #[.agg #[.int .i64 t179, .int .i64 t180, .int .i64 t181]] rfl (by (try simp only [List.map_toArray, List.map_cons, List.map_nil]); first | done | rfl | (simp only [List.length_drop, List.length_take]; rfl)) ?_; (with_reducible refine (zbR.calls t179 t180 t181 false _ A5.out).mono ?_); rintro e w24 ⟨rfl, hb⟩; refine ⟨_, rfl, ?_⟩; have n0_ := zpS (zgM (g := gb178) (o := .cells #[.int .i64 a0_0, .int .i64 a0_1, .int .i64 a0_2, .int .i64 a0_3, .int .i64 a0_4, .int .i64 a0_5] 94 (0, 0)) bk_ hb); have n1_ := (ns_ hb); clear BK178; clear HB; have BK178 := n0_; have HB := n1_; clear n0_ n1_; (try clear hb); (try clear hb2)))
     go_roundg k1
     case measure => have := HK1.out; omega
     case rel => exact ⟨(wrap64 (x3_1 + 1)), (by first | rfl | (simp; done) | (simp [*]; done)), H', ⟨by have := HK1.out; omega⟩, ⟨bk_⟩, ⟨bb_⟩⟩
   ·rw [if_neg c3] at H
    have c3b0 : decide (x3_1 < 16) = false := decide_eq_false c3
    clear c3
    obtain rfl := Option.some.inj H
    go_wp2
    go_ret
    exact ⟨by first | rfl | (simp [ziS, znJ] <;> rfl) | (simp [*, ziS, znJ] <;> rfl), bb_⟩

def zpH.f (a0_0 : Int) (a0_1 : Int) (a0_2 : Int) : Option (Int × Int × Int) := some (wrap64 (-a0_0), wrap64 (-a0_1), a0_2)
set_option maxHeartbeats 8000000 in
set_option maxRecDepth 100000 in
theorem zpH.calls (a0_0 : Int) (a0_1 : Int) (a0_2 : Int) (r1 : Int) (r2 : Int) (r3 : Int) (w : World) (h : zpH.f a0_0 a0_1 a0_2 = some (r1, r2, r3)) :
  Calls Tryd.prog 172 #[.agg #[.int .i64 a0_0, .int .i64 a0_1, .int .i64 a0_2]] w fun e w' => e = .returned (.agg #[.int .i64 r1, .int .i64 r2, .int .i64 r3]) ∧ Below w.heap.size w w' := by
 have hu92 := Tryd.underlying92
 have HB := zpS (Below.refl w.heap.size w)
 have H : (some (wrap64 (-a0_0), wrap64 (-a0_1), a0_2)) = some (r1, r2, r3) := h
 clear h
 simp only [Option.some.injEq, Prod.mk.injEq] at H
 obtain ⟨rfl, rfl, rfl⟩ := H
 go_enter Tryd.func172, Tryd.ntmps172
 go_wp2_with (first | ((with_reducible refine zpZ (N := 1) rfl ?_); refine bx_ 1 #[.int .i64 a0_0, .int .i64 a0_1, .int .i64 a0_2] 92 ?_; intro gb187 hg w2 hbox hb; have n0_ := (ns_ hb); have n1_ := zpS (hbox); have n2_ := (ng_ hg); have n3_ := n2_; clear HB; have HB := n0_; have BK187 := n1_; have GW187 := n2_; have GE187 := n3_; clear n0_ n1_ n2_ n3_; clear hb hbox hg) | ((with_reducible refine zpZ (N := 2) rfl ?_); refine bx_ 2 #[.int .i64 0, .int .i64 0, .int .i64 0] 92 ?_; intro gb188 hg w3 hbox hb; have n0_ := zpS (zgM (g := gb187) (o := .cells #[.int .i64 a0_0, .int .i64 a0_1, .int .i64 a0_2] 92 (0, 0)) bk_ hb); have n1_ := (ns_ hb); have n2_ := zpS (hbox); have n3_ := (ng_ hg); have n4_ := n3_; have n5_ := zpS ((by rw [hg]; exact Nat.ne_of_lt (zmN (g := gb187) (o := .cells #[.int .i64 a0_0, .int .i64 a0_1, .int .i64 a0_2] 92 (0, 0)) bk_) : gb187 ≠ gb188)); have n6_ := zpS ((by rw [hg]; exact Nat.ne_of_gt (zmN (g := gb187) (o := .cells #[.int .i64 a0_0, .int .i64 a0_1, .int .i64 a0_2] 92 (0, 0)) bk_) : gb188 ≠ gb187)); clear BK187; clear HB; have BK187 := n0_; have HB := n1_; have BK188 := n2_; have GW188 := n3_; have GE188 := n4_; have NB187_188 := n5_; have NB188_187 := n6_; clear n0_ n1_ n2_ n3_ n4_ n5_ n6_; clear hb hbox hg; have hnb4 := NB187_188.out; have hnc4 := NB188_187.out; obtain ⟨hcz5_0, hcz5_1, hcz5_2⟩ := zdT BK187.out; obtain ⟨hfz5_0, hfz5_1, hfz5_2⟩ := zqD BK187.out; obtain ⟨hcz6_0, hcz6_1, hcz6_2⟩ := zdT BK188.out; obtain ⟨hfz6_0, hfz6_1, hfz6_2⟩ := zqD BK188.out))
 refine bodyPost_ret (results_cell_row rfl _ _ gb188 92 #[.int .i64 (wrap64 (-a0_0)), .int .i64 (wrap64 (-a0_1)), .int .i64 a0_2] (0, 0) _ rfl (by (with_reducible repeat (first | apply zuW | apply ztN | apply zqY)); refine zlL (cs := #[.int .i64 (wrap64 (-a0_0)), .int .i64 (wrap64 (-a0_1)), .int .i64 0]) ?_ 2 _ rfl; (with_reducible repeat (first | apply zuW | apply ztN | apply zqY)); refine zlL (cs := #[.int .i64 (wrap64 (-a0_0)), .int .i64 0, .int .i64 0]) ?_ 1 _ rfl; (with_reducible repeat (first | apply zuW | apply ztN | apply zqY)); refine zlL (cs := #[.int .i64 0, .int .i64 0, .int .i64 0]) ?_ 0 _ rfl; (with_reducible repeat (first | apply zuW | apply ztN | apply zqY)); exact BK188.out) Tryd.underlying92 rfl (by kernel_rfl)) rfl ?_
 exact ⟨by first | rfl | (simp [ziS, znJ] <;> rfl) | (simp [*, ziS, znJ] <;> rfl), bb_⟩

def zyB.f (k : Nat) (a0_0 : Int) (a0_1 : Int) (a0_2 : Int) (a1_0 : Int) (a1_1 : Int) (a1_2 : Int) : Option (Int × Int × Int) := (zpH.f a1_0 a1_1 a1_2).bind fun bt192 => ((zhQ.f k a0_0 a0_1 a0_2 bt192.1 bt192.2.1 bt192.2.2).bind fun bt195 => (some (bt195.1, bt195.2.1, bt195.2.2)))
theorem zyB.mono : ∀ a0 a1 a2 a3 a4 a5 k, LeO (zyB.f k a0 a1 a2 a3 a4 a5) (zyB.f (k + 1) a0 a1 a2 a3 a4 a5) := by
 intro a0 a1 a2 a3 a4 a5 k
 unfold zyB.f
 repeat' first
   | (with_reducible exact zhQ.mono _ _ _ _ _ _ _)
   | (with_reducible exact LeO.refl _)
   | (with_reducible exact LeO.none _)
   | (with_reducible refine LeO.ite ?_ ?_)
   | (with_reducible refine LeO.bind ?_ (fun _ => ?_))
   | exact zhQ.mono _ _ _ _ _ _ _
   | exact LeO.none _
   | refine LeO.ite ?_ ?_
   | refine LeO.bind ?_ (fun _ => ?_)
set_option maxHeartbeats 8000000 in
set_option maxRecDepth 100000 in
theorem zyB.calls (k : Nat) (a0_0 : Int) (a0_1 : Int) (a0_2 : Int) (a1_0 : Int) (a1_1 : Int) (a1_2 : Int) (r1 : Int) (r2 : Int) (r3 : Int) (w : World) (h : zyB.f k a0_0 a0_1 a0_2 a1_0 a1_1 a1_2 = some (r1, r2, r3)) :
  Calls Tryd.prog 145 #[.agg #[.int .i64 a0_0, .int .i64 a0_1, .int .i64 a0_2], .agg #[.int .i64 a1_0, .int .i64 a1_1, .int .i64 a1_2]] w fun e w' => e = .returned (.agg #[.int .i64 r1, .int .i64 r2, .int .i64 r3]) ∧ Below w.heap.size w w' := by
 have hu92 := Tryd.underlying92
 have HB := zpS (Below.refl w.heap.size w)
 have H : ((zpH.f a1_0 a1_1 a1_2).bind fun bt192 => ((zhQ.f k a0_0 a0_1 a0_2 bt192.1 bt192.2.1 bt192.2.2).bind fun bt195 => (some (bt195.1, bt195.2.1, bt195.2.2)))) = some (r1, r2, r3) := h
 clear h
 replace H := Option.bind_eq_some_iff.mp H
 obtain ⟨⟨t192, t193, t194⟩, A30, H⟩ := H
 replace H : ((zhQ.f k a0_0 a0_1 a0_2 t192 t193 t194).bind fun bt195 => (some (bt195.1, bt195.2.1, bt195.2.2))) = some (r1, r2, r3) := H
 have A3 := zpS A30
 clear A30
 replace H := Option.bind_eq_some_iff.mp H
 obtain ⟨⟨t195, t196, t197⟩, A40, H⟩ := H
 replace H : (some (t195, t196, t197)) = some (r1, r2, r3) := H
 have A4 := zpS A40
 clear A40
 simp only [Option.some.injEq, Prod.mk.injEq] at H
 obtain ⟨rfl, rfl, rfl⟩ := H
 go_enter Tryd.func145, Tryd.ntmps145
 try go_wp2_with (first | ((with_reducible refine zpZ (N := 2) rfl ?_); refine bx_ 2 #[.int .i64 a0_0, .int .i64 a0_1, .int .i64 a0_2] 92 ?_; intro gb189 hg w5 hbox hb; have n0_ := (ns_ hb); have n1_ := zpS (hbox); have n2_ := (ng_ hg); have n3_ := n2_; clear HB; have HB := n0_; have BK189 := n1_; have GW189 := n2_; have GE189 := n3_; clear n0_ n1_ n2_ n3_; clear hb hbox hg) | ((with_reducible refine zpZ (N := 3) rfl ?_); refine bx_ 3 #[.int .i64 a1_0, .int .i64 a1_1, .int .i64 a1_2] 92 ?_; intro gb190 hg w6 hbox hb; have n0_ := zpS (zgM (g := gb189) (o := .cells #[.int .i64 a0_0, .int .i64 a0_1, .int .i64 a0_2] 92 (0, 0)) bk_ hb); have n1_ := (ns_ hb); have n2_ := zpS (hbox); have n3_ := (ng_ hg); have n4_ := n3_; have n5_ := zpS ((by rw [hg]; exact Nat.ne_of_lt (zmN (g := gb189) (o := .cells #[.int .i64 a0_0, .int .i64 a0_1, .int .i64 a0_2] 92 (0, 0)) bk_) : gb189 ≠ gb190)); have n6_ := zpS ((by rw [hg]; exact Nat.ne_of_gt (zmN (g := gb189) (o := .cells #[.int .i64 a0_0, .int .i64 a0_1, .int .i64 a0_2] 92 (0, 0)) bk_) : gb190 ≠ gb189)); clear BK189; clear HB; have BK189 := n0_; have HB := n1_; have BK190 := n2_; have GW190 := n3_; have GE190 := n4_; have NB189_190 := n5_; have NB190_189 := n6_; clear n0_ n1_ n2_ n3_ n4_ n5_ n6_; clear hb hbox hg) | ((with_reducible refine zpZ (N := 4) rfl ?_); refine bx_ 4 #[.int .i64 0, .int .i64 0, .int .i64 0] 92 ?_; intro gb191 hg w7 hbox hb; have n0_ := zpS (zgM (g := gb189) (o := .cells #[.int .i64 a0_0, .int .i64 a0_1, .int .i64 a0_2] 92 (0, 0)) bk_ hb); have n1_ := zpS (zgM (g := gb190) (o := .cells #[.int .i64 a1_0, .int .i64 a1_1, .int .i64 a1_2] 92 (0, 0)) bk_ hb); have n2_ := (ns_ hb); have n3_ := zpS (hbox); have n4_ := (ng_ hg); have n5_ := n4_; have n6_ := zpS ((by rw [hg]; exact Nat.ne_of_lt (zmN (g := gb189) (o := .cells #[.int .i64 a0_0, .int .i64 a0_1, .int .i64 a0_2] 92 (0, 0)) bk_) : gb189 ≠ gb191)); have n7_ := zpS ((by rw [hg]; exact Nat.ne_of_gt (zmN (g := gb189) (o := .cells #[.int .i64 a0_0, .int .i64 a0_1, .int .i64 a0_2] 92 (0, 0)) bk_) : gb191 ≠ gb189)); have n8_ := zpS ((by rw [hg]; exact Nat.ne_of_lt (zmN (g := gb190) (o := .cells #[.int .i64 a1_0, .int .i64 a1_1, .int .i64 a1_2] 92 (0, 0)) bk_) : gb190 ≠ gb191)); have n9_ := zpS ((by rw [hg]; exact Nat.ne_of_gt (zmN (g := gb190) (o := .cells #[.int .i64 a1_0, .int .i64 a1_1, .int .i64 a1_2] 92 (0, 0)) bk_) : gb191 ≠ gb190)); clear BK189; clear BK190; clear HB; have BK189 := n0_; have BK190 := n1_; have HB := n2_; have BK191 := n3_; have GW191 := n4_; have GE191 := n5_; have NB189_191 := n6_; have NB191_189 := n7_; have NB190_191 := n8_; have NB191_190 := n9_; clear n0_ n1_ n2_ n3_ n4_ n5_ n6_ n7_ n8_ n9_; clear hb hbox hg))
 have n0_ := zpS (ztN BK189.out)
 have n1_ := zpS (ztN BK190.out)
 have n2_ := zpS (ztN BK191.out)
 have n3_ := zpS (zvF HB.out)
 clear BK189
 clear BK190
 clear BK191
 clear HB
 have BK189 := n0_
 have BK190 := n1_
 have BK191 := n2_
 have HB := n3_
 clear n0_ n1_ n2_ n3_
 refine zpB (n := 5) (S := fun w' => w'.cell? ⟨gb189, 0, none⟩ = some (.int .i64 a0_0) ∧ w'.cell? ⟨gb189, 1, none⟩ = some (.int .i64 a0_1) ∧ w'.cell? ⟨gb189, 2, none⟩ = some (.int .i64 a0_2) ∧ w'.cell? ⟨gb190, 0, none⟩ = some (.int .i64 a1_0) ∧ w'.cell? ⟨gb190, 1, none⟩ = some (.int .i64 a1_1) ∧ w'.cell? ⟨gb190, 2, none⟩ = some (.int .i64 a1_2)) (ds := []) #[false, false, false, false, false] (by kernel_rfl) rfl rfl ⟨(zzS BK189.out 0).trans rfl, (zzS BK189.out 1).trans rfl, (zzS BK189.out 2).trans rfl, (zzS BK190.out 0).trans rfl, (zzS BK190.out 1).trans rfl, (zzS BK190.out 2).trans rfl⟩ (fun hHeld => ?_)
 generalize w7.drew = w8 at BK189 BK190 BK191 HB hHeld ⊢
 refine take_ (i := 0) (N := some 5) (v := ?_) (a' := ?_) (bl_ 5 1) rfl rfl (by kernel_rfl) (fun _ _ _ h => h) (Or.inl ⟨by rfl, ?_⟩) hHeld ?_ ?_
 rotate_left
 ·rintro w' ⟨s0, s1, s2, s3, s4, s5⟩
  go_simp
  with_reducible rfl
 rotate_left
 ·simp only [Act.put, List.setIfInBounds_toArray, List.set_cons_zero, List.set_cons_succ, zcM, ziJ]
  rfl
 refine take_ (i := 1) (N := some 6) (v := ?_) (a' := ?_) (bl_ 5 3) rfl rfl (by kernel_rfl) (fun _ _ _ h => h) (Or.inl ⟨by rfl, ?_⟩) hHeld ?_ ?_
 rotate_left
 ·rintro w' ⟨s0, s1, s2, s3, s4, s5⟩
  go_simp
  with_reducible rfl
 rotate_left
 ·simp only [Act.put, List.setIfInBounds_toArray, List.set_cons_zero, List.set_cons_succ, zcM, ziJ]
  rfl
 refine zdC (i := 2) (N := some 7) (bl_ 5 7) rfl rfl (by kernel_rfl) (by decide) (fun K hK => ?_)
 refine zqW Tryd.func172 (by kernel_rfl) rfl #[.agg #[.int .i64 a1_0, .int .i64 a1_1, .int .i64 a1_2]] (by rfl) rfl rfl (by (try simp only [List.map_toArray, List.map_cons, List.map_nil]); first | done | rfl | (simp only [List.length_drop, List.length_take]; rfl)) ?_
 with_reducible refine (zpH.calls a1_0 a1_1 a1_2 t192 t193 t194 _ A3.out).mono ?_
 rintro e w9 ⟨rfl, hb⟩
 refine ⟨_, rfl, ?_⟩
 have n0_ := zpS (zgM (g := gb189) (o := .cells #[.int .i64 a0_0, .int .i64 a0_1, .int .i64 a0_2] 92 (0, 0)) bk_ hb)
 have n1_ := zpS (zgM (g := gb190) (o := .cells #[.int .i64 a1_0, .int .i64 a1_1, .int .i64 a1_2] 92 (0, 0)) bk_ hb)
 have n2_ := zpS (zgM (g := gb191) (o := .cells #[.int .i64 0, .int .i64 0, .int .i64 0] 92 (0, 0)) bk_ hb)
 have n3_ := (ns_ hb)
 clear BK189
 clear BK190
 clear BK191
 clear HB
 have BK189 := n0_
 have BK190 := n1_
 have BK191 := n2_
 have HB := n3_
 clear n0_ n1_ n2_ n3_
 (try clear hb)
 (try clear hb2)
 (try clear hk)
 (try clear hi)
 refine hK.out _ _ ⟨(zzS BK189.out 0).trans rfl, (zzS BK189.out 1).trans rfl, (zzS BK189.out 2).trans rfl, (zzS BK190.out 0).trans rfl, (zzS BK190.out 1).trans rfl, (zzS BK190.out 2).trans rfl⟩ (fun hHeld => ?_)
 clear hK K
 refine zaN (a' := ?_) ?_ ?_
 rotate_left
 ·show Act.put _ (some 7) _ = _
  simp only [Act.put, List.setIfInBounds_toArray, List.set_cons_zero, List.set_cons_succ, zcM, ziJ]
  rfl
 refine zdC (i := 3) (N := some 8) (bl_ 5 15) rfl rfl (by kernel_rfl) (by decide) (fun K hK => ?_)
 refine zqW Tryd.func148 (by kernel_rfl) rfl #[.agg #[.int .i64 a0_0, .int .i64 a0_1, .int .i64 a0_2], .agg #[.int .i64 t192, .int .i64 t193, .int .i64 t194]] (by rfl) rfl rfl (by (try simp only [List.map_toArray, List.map_cons, List.map_nil]); first | done | rfl | (simp only [List.length_drop, List.length_take]; rfl)) ?_
 with_reducible refine (zhQ.calls k a0_0 a0_1 a0_2 t192 t193 t194 t195 t196 t197 _ A4.out).mono ?_
 rintro e w10 ⟨rfl, hb⟩
 refine ⟨_, rfl, ?_⟩
 have n0_ := zpS (zgM (g := gb189) (o := .cells #[.int .i64 a0_0, .int .i64 a0_1, .int .i64 a0_2] 92 (0, 0)) bk_ hb)
 have n1_ := zpS (zgM (g := gb190) (o := .cells #[.int .i64 a1_0, .int .i64 a1_1, .int .i64 a1_2] 92 (0, 0)) bk_ hb)
 have n2_ := zpS (zgM (g := gb191) (o := .cells #[.int .i64 0, .int .i64 0, .int .i64 0] 92 (0, 0)) bk_ hb)
 have n3_ := (ns_ hb)
 clear BK189
 clear BK190
 clear BK191
 clear HB
 have BK189 := n0_
 have BK190 := n1_
 have BK191 := n2_
 have HB := n3_
 clear n0_ n1_ n2_ n3_
 (try clear hb)
 (try clear hb2)
 (try clear hk)
 (try clear hi)
 refine hK.out _ _ ⟨(zzS BK189.out 0).trans rfl, (zzS BK189.out 1).trans rfl, (zzS BK189.out 2).trans rfl, (zzS BK190.out 0).trans rfl, (zzS BK190.out 1).trans rfl, (zzS BK190.out 2).trans rfl⟩ (fun hHeld => ?_)
 clear hK K
 refine zaN (a' := ?_) ?_ ?_
 rotate_left
 ·show Act.put _ (some 8) _ = _
  simp only [Act.put, List.setIfInBounds_toArray, List.set_cons_zero, List.set_cons_succ, zcM, ziJ]
  rfl
 refine zdC (i := 4) (N := none) (bl_ 5 31) rfl rfl (by kernel_rfl) (by decide) (fun K hK => ?_)
 have hs11 : w10.cell? ⟨gb191, 0, none⟩ = some (.int .i64 0) := (zzS BK191.out 0).trans rfl
 have hfs11 := zjF BK191.out 0
 have hns11_0 := NB189_191.out
 have hns11_1 := NB190_191.out
 have hms11_0 := NB191_189.out
 have hms11_1 := NB191_190.out
 have hs12 : w10.cell? ⟨gb191, 1, none⟩ = some (.int .i64 0) := (zzS BK191.out 1).trans rfl
 have hfs12 := zjF BK191.out 1
 have hns12_0 := NB189_191.out
 have hns12_1 := NB190_191.out
 have hms12_0 := NB191_189.out
 have hms12_1 := NB191_190.out
 have hs13 : w10.cell? ⟨gb191, 2, none⟩ = some (.int .i64 0) := (zzS BK191.out 2).trans rfl
 have hfs13 := zjF BK191.out 2
 have hns13_0 := NB189_191.out
 have hns13_1 := NB190_191.out
 have hms13_0 := NB191_189.out
 have hms13_1 := NB191_190.out
 refine skip_ (w1 := ?_) (by rfl) rfl ?_ ?_
 rotate_left
 ·go_simp
  rfl
 refine hK.out _ _ ⟨((zgQ (p := ⟨gb191, _, none⟩) NB189_191.out _).trans (((zgQ (p := ⟨gb191, _, none⟩) NB189_191.out _).trans (((zgQ (p := ⟨gb191, _, none⟩) NB189_191.out _).trans (hHeld.1)))))), ((zgQ (p := ⟨gb191, _, none⟩) NB189_191.out _).trans (((zgQ (p := ⟨gb191, _, none⟩) NB189_191.out _).trans (((zgQ (p := ⟨gb191, _, none⟩) NB189_191.out _).trans (hHeld.2.1)))))), ((zgQ (p := ⟨gb191, _, none⟩) NB189_191.out _).trans (((zgQ (p := ⟨gb191, _, none⟩) NB189_191.out _).trans (((zgQ (p := ⟨gb191, _, none⟩) NB189_191.out _).trans (hHeld.2.2.1)))))), ((zgQ (p := ⟨gb191, _, none⟩) NB190_191.out _).trans (((zgQ (p := ⟨gb191, _, none⟩) NB190_191.out _).trans (((zgQ (p := ⟨gb191, _, none⟩) NB190_191.out _).trans (hHeld.2.2.2.1)))))), ((zgQ (p := ⟨gb191, _, none⟩) NB190_191.out _).trans (((zgQ (p := ⟨gb191, _, none⟩) NB190_191.out _).trans (((zgQ (p := ⟨gb191, _, none⟩) NB190_191.out _).trans (hHeld.2.2.2.2.1)))))), ((zgQ (p := ⟨gb191, _, none⟩) NB190_191.out _).trans (((zgQ (p := ⟨gb191, _, none⟩) NB190_191.out _).trans (((zgQ (p := ⟨gb191, _, none⟩) NB190_191.out _).trans (hHeld.2.2.2.2.2))))))⟩ (fun hHeld => ?_)
 clear hK K
 refine znK (by kernel_rfl) ?_
 try go_wp2
 refine bodyPost_ret (results_cell_row rfl _ _ gb191 92 #[.int .i64 t195, .int .i64 t196, .int .i64 t197] (0, 0) _ rfl (by (with_reducible repeat (first | apply zuW | apply ztN | apply zqY)); refine zlL (cs := #[.int .i64 t195, .int .i64 t196, .int .i64 0]) ?_ 2 _ rfl; (with_reducible repeat (first | apply zuW | apply ztN | apply zqY)); refine zlL (cs := #[.int .i64 t195, .int .i64 0, .int .i64 0]) ?_ 1 _ rfl; (with_reducible repeat (first | apply zuW | apply ztN | apply zqY)); refine zlL (cs := #[.int .i64 0, .int .i64 0, .int .i64 0]) ?_ 0 _ rfl; (with_reducible repeat (first | apply zuW | apply ztN | apply zqY)); exact BK191.out) Tryd.underlying92 rfl (by kernel_rfl)) rfl ?_
 exact ⟨by first | rfl | (simp [ziS, znJ] <;> rfl) | (simp [*, ziS, znJ] <;> rfl), bb_⟩

def zkL.f (k : Nat) (a0_0 : Int) (a0_1 : Int) (a0_2 : Int) (a0_3 : Int) (a0_4 : Int) (a0_5 : Int) (a1_0 : Int) (a1_1 : Int) (a1_2 : Int) (a1_3 : Int) (a1_4 : Int) (a1_5 : Int) : Option (Int × Int × Int × Int × Int × Int) := (zyB.f k a0_0 a0_1 a0_2 a1_0 a1_1 a1_2).bind fun bt201 => ((zyB.f k a0_3 a0_4 a0_5 a1_3 a1_4 a1_5).bind fun bt204 => (some (bt201.1, bt201.2.1, bt201.2.2, bt204.1, bt204.2.1, bt204.2.2)))
theorem zkL.mono : ∀ a0 a1 a2 a3 a4 a5 a6 a7 a8 a9 a10 a11 k, LeO (zkL.f k a0 a1 a2 a3 a4 a5 a6 a7 a8 a9 a10 a11) (zkL.f (k + 1) a0 a1 a2 a3 a4 a5 a6 a7 a8 a9 a10 a11) := by
 intro a0 a1 a2 a3 a4 a5 a6 a7 a8 a9 a10 a11 k
 unfold zkL.f
 repeat' first
   | (with_reducible exact zyB.mono _ _ _ _ _ _ _)
   | (with_reducible exact LeO.refl _)
   | (with_reducible exact LeO.none _)
   | (with_reducible refine LeO.ite ?_ ?_)
   | (with_reducible refine LeO.bind ?_ (fun _ => ?_))
   | exact zyB.mono _ _ _ _ _ _ _
   | exact LeO.none _
   | refine LeO.ite ?_ ?_
   | refine LeO.bind ?_ (fun _ => ?_)
def zkL.T1 : Bool × List (List Nat × List Nat) := (true, [([], []), ([0], [0]), ([], []), ([2], [2]), ([1, 3], [1, 3]), ([], []), ([5], [5]), ([], []), ([7], [7]), ([6, 8, 4], [6, 8]), ([4, 9], [4, 9]), ([10, 9, 0, 1, 2, 3, 4, 5, 6, 7, 8, 9, 10], [10])])
def zkL.B1 : List Nat := [0, 1, 0, 4, 15, 0, 32, 0, 128, 511, 1023, 2047]
theorem zkL.tab1 : rtab .any (opsOf Tryd.f111 1) = zkL.T1 := by kernel_rfl
theorem zkL.bits1 : ztG zkL.T1.2 zkL.B1 = true := by kernel_rfl
set_option maxHeartbeats 8000000 in
set_option maxRecDepth 100000 in
theorem zkL.calls (k : Nat) (a0_0 : Int) (a0_1 : Int) (a0_2 : Int) (a0_3 : Int) (a0_4 : Int) (a0_5 : Int) (a1_0 : Int) (a1_1 : Int) (a1_2 : Int) (a1_3 : Int) (a1_4 : Int) (a1_5 : Int) (r1 : Int) (r2 : Int) (r3 : Int) (r4 : Int) (r5 : Int) (r6 : Int) (w : World) (h : zkL.f k a0_0 a0_1 a0_2 a0_3 a0_4 a0_5 a1_0 a1_1 a1_2 a1_3 a1_4 a1_5 = some (r1, r2, r3, r4, r5, r6)) :
  Calls Tryd.prog 111 #[.agg #[.int .i64 a0_0, .int .i64 a0_1, .int .i64 a0_2, .int .i64 a0_3, .int .i64 a0_4, .int .i64 a0_5], .agg #[.int .i64 a1_0, .int .i64 a1_1, .int .i64 a1_2, .int .i64 a1_3, .int .i64 a1_4, .int .i64 a1_5]] w fun e w' => e = .returned (.agg #[.int .i64 r1, .int .i64 r2, .int .i64 r3, .int .i64 r4, .int .i64 r5, .int .i64 r6]) ∧ Below w.heap.size w w' := by
 have hu94 := Tryd.underlying94
 have hu92 := Tryd.underlying92
 have HB := zpS (Below.refl w.heap.size w)
 have H : ((zyB.f k a0_0 a0_1 a0_2 a1_0 a1_1 a1_2).bind fun bt201 => ((zyB.f k a0_3 a0_4 a0_5 a1_3 a1_4 a1_5).bind fun bt204 => (some (bt201.1, bt201.2.1, bt201.2.2, bt204.1, bt204.2.1, bt204.2.2)))) = some (r1, r2, r3, r4, r5, r6) := h
 clear h
 replace H := Option.bind_eq_some_iff.mp H
 obtain ⟨⟨t201, t202, t203⟩, A30, H⟩ := H
 replace H : ((zyB.f k a0_3 a0_4 a0_5 a1_3 a1_4 a1_5).bind fun bt204 => (some (t201, t202, t203, bt204.1, bt204.2.1, bt204.2.2))) = some (r1, r2, r3, r4, r5, r6) := H
 have A3 := zpS A30
 clear A30
 replace H := Option.bind_eq_some_iff.mp H
 obtain ⟨⟨t204, t205, t206⟩, A40, H⟩ := H
 replace H : (some (t201, t202, t203, t204, t205, t206)) = some (r1, r2, r3, r4, r5, r6) := H
 have A4 := zpS A40
 clear A40
 simp only [Option.some.injEq, Prod.mk.injEq] at H
 obtain ⟨rfl, rfl, rfl, rfl, rfl, rfl⟩ := H
 go_enter Tryd.func111, Tryd.ntmps111
 try go_wp2_with (first | ((with_reducible refine zpZ (N := 2) rfl ?_); refine bx_ 2 #[.int .i64 a0_0, .int .i64 a0_1, .int .i64 a0_2, .int .i64 a0_3, .int .i64 a0_4, .int .i64 a0_5] 94 ?_; intro gb198 hg w5 hbox hb; have n0_ := (ns_ hb); have n1_ := zpS (hbox); have n2_ := (ng_ hg); have n3_ := n2_; clear HB; have HB := n0_; have BK198 := n1_; have GW198 := n2_; have GE198 := n3_; clear n0_ n1_ n2_ n3_; clear hb hbox hg) | ((with_reducible refine zpZ (N := 3) rfl ?_); refine bx_ 3 #[.int .i64 a1_0, .int .i64 a1_1, .int .i64 a1_2, .int .i64 a1_3, .int .i64 a1_4, .int .i64 a1_5] 94 ?_; intro gb199 hg w6 hbox hb; have n0_ := zpS (zgM (g := gb198) (o := .cells #[.int .i64 a0_0, .int .i64 a0_1, .int .i64 a0_2, .int .i64 a0_3, .int .i64 a0_4, .int .i64 a0_5] 94 (0, 0)) bk_ hb); have n1_ := (ns_ hb); have n2_ := zpS (hbox); have n3_ := (ng_ hg); have n4_ := n3_; have n5_ := zpS ((by rw [hg]; exact Nat.ne_of_lt (zmN (g := gb198) (o := .cells #[.int .i64 a0_0, .int .i64 a0_1, .int .i64 a0_2, .int .i64 a0_3, .int .i64 a0_4, .int .i64 a0_5] 94 (0, 0)) bk_) : gb198 ≠ gb199)); have n6_ := zpS ((by rw [hg]; exact Nat.ne_of_gt (zmN (g := gb198) (o := .cells #[.int .i64 a0_0, .int .i64 a0_1, .int .i64 a0_2, .int .i64 a0_3, .int .i64 a0_4, .int .i64 a0_5] 94 (0, 0)) bk_) : gb199 ≠ gb198)); clear BK198; clear HB; have BK198 := n0_; have HB := n1_; have BK199 := n2_; have GW199 := n3_; have GE199 := n4_; have NB198_199 := n5_; have NB199_198 := n6_; clear n0_ n1_ n2_ n3_ n4_ n5_ n6_; clear hb hbox hg) | ((with_reducible refine zpZ (N := 4) rfl ?_); refine bx_ 4 #[.int .i64 0, .int .i64 0, .int .i64 0, .int .i64 0, .int .i64 0, .int .i64 0] 94 ?_; intro gb200 hg w7 hbox hb; have n0_ := zpS (zgM (g := gb198) (o := .cells #[.int .i64 a0_0, .int .i64 a0_1, .int .i64 a0_2, .int .i64 a0_3, .int .i64 a0_4, .int .i64 a0_5] 94 (0, 0)) bk_ hb); have n1_ := zpS (zgM (g := gb199) (o := .cells #[.int .i64 a1_0, .int .i64 a1_1, .int .i64 a1_2, .int .i64 a1_3, .int .i64 a1_4, .int .i64 a1_5] 94 (0, 0)) bk_ hb); have n2_ := (ns_ hb); have n3_ := zpS (hbox); have n4_ := (ng_ hg); have n5_ := n4_; have n6_ := zpS ((by rw [hg]; exact Nat.ne_of_lt (zmN (g := gb198) (o := .cells #[.int .i64 a0_0, .int .i64 a0_1, .int .i64 a0_2, .int .i64 a0_3, .int .i64 a0_4, .int .i64 a0_5] 94 (0, 0)) bk_) : gb198 ≠ gb200)); have n7_ := zpS ((by rw [hg]; exact Nat.ne_of_gt (zmN (g := gb198) (o := .cells #[.int .i64 a0_0, .int .i64 a0_1, .int .i64 a0_2, .int .i64 a0_3, .int .i64 a0_4, .int .i64 a0_5] 94 (0, 0)) bk_) : gb200 ≠ gb198)); have n8_ := zpS ((by rw [hg]; exact Nat.ne_of_lt (zmN (g := gb199) (o := .cells #[.int .i64 a1_0, .int .i64 a1_1, .int .i64 a1_2, .int .i64 a1_3, .int .i64 a1_4, .int .i64 a1_5] 94 (0, 0)) bk_) : gb199 ≠ gb200)); have n9_ := zpS ((by rw [hg]; exact Nat.ne_of_gt (zmN (g := gb199) (o := .cells #[.int .i64 a1_0, .int .i64 a1_1, .int .i64 a1_2, .int .i64 a1_3, .int .i64 a1_4, .int .i64 a1_5] 94 (0, 0)) bk_) : gb200 ≠ gb199)); clear BK198; clear BK199; clear HB; have BK198 := n0_; have BK199 := n1_; have HB := n2_; have BK200 := n3_; have GW200 := n4_; have GE200 := n5_; have NB198_200 := n6_; have NB200_198 := n7_; have NB199_200 := n8_; have NB200_199 := n9_; clear n0_ n1_ n2_ n3_ n4_ n5_ n6_ n7_ n8_ n9_; clear hb hbox hg))
 have n0_ := zpS (ztN BK198.out)
 have n1_ := zpS (ztN BK199.out)
 have n2_ := zpS (ztN BK200.out)
 have n3_ := zpS (zvF HB.out)
 clear BK198
 clear BK199
 clear BK200
 clear HB
 have BK198 := n0_
 have BK199 := n1_
 have BK200 := n2_
 have HB := n3_
 clear n0_ n1_ n2_ n3_
 refine zpB (n := 12) (S := fun w' => w'.cell? ⟨gb198, 0, none⟩ = some (.int .i64 a0_0) ∧ w'.cell? ⟨gb198, 1, none⟩ = some (.int .i64 a0_1) ∧ w'.cell? ⟨gb198, 2, none⟩ = some (.int .i64 a0_2) ∧ w'.cell? ⟨gb198, 3, none⟩ = some (.int .i64 a0_3) ∧ w'.cell? ⟨gb198, 4, none⟩ = some (.int .i64 a0_4) ∧ w'.cell? ⟨gb198, 5, none⟩ = some (.int .i64 a0_5) ∧ w'.cell? ⟨gb199, 0, none⟩ = some (.int .i64 a1_0) ∧ w'.cell? ⟨gb199, 1, none⟩ = some (.int .i64 a1_1) ∧ w'.cell? ⟨gb199, 2, none⟩ = some (.int .i64 a1_2) ∧ w'.cell? ⟨gb199, 3, none⟩ = some (.int .i64 a1_3) ∧ w'.cell? ⟨gb199, 4, none⟩ = some (.int .i64 a1_4) ∧ w'.cell? ⟨gb199, 5, none⟩ = some (.int .i64 a1_5)) (ds := []) #[false, false, false, false, false, false, false, false, false, false, false, false] (by kernel_rfl) rfl rfl ⟨(zzS BK198.out 0).trans rfl, (zzS BK198.out 1).trans rfl, (zzS BK198.out 2).trans rfl, (zzS BK198.out 3).trans rfl, (zzS BK198.out 4).trans rfl, (zzS BK198.out 5).trans rfl, (zzS BK199.out 0).trans rfl, (zzS BK199.out 1).trans rfl, (zzS BK199.out 2).trans rfl, (zzS BK199.out 3).trans rfl, (zzS BK199.out 4).trans rfl, (zzS BK199.out 5).trans rfl⟩ (fun hHeld => ?_); refine zwI zkL.tab1 zkL.bits1 (fun HT_ HW_ => ?_)
 generalize w7.drew = w8 at BK198 BK199 BK200 HB hHeld ⊢
 refine pu_ 0 (some 5) (bl_ 12 1) ?_
 refine pu_ 2 (some 7) (bl_ 12 5) ?_
 refine pu_ 5 (some 10) (bl_ 12 37) ?_
 refine pu_ 7 (some 12) (bl_ 12 165) ?_
 refine zmW 1 (some 6) (bl_ 12 167) hHeld ?_
 refine zmW 3 (some 8) (bl_ 12 175) hHeld ?_
 refine zmW 6 (some 11) (bl_ 12 239) hHeld ?_
 refine zmW 8 (some 13) (bl_ 12 495) hHeld ?_
 refine zdC (i := 4) (N := some 9) (bl_ 12 511) rfl rfl (zeO HT_.out (by kernel_rfl)) (by decide) (fun K hK => ?_)
 refine zqW Tryd.func145 (by kernel_rfl) rfl #[.agg #[.int .i64 a0_0, .int .i64 a0_1, .int .i64 a0_2], .agg #[.int .i64 a1_0, .int .i64 a1_1, .int .i64 a1_2]] (by rfl) rfl rfl (by (try simp only [List.map_toArray, List.map_cons, List.map_nil]); first | done | rfl | (simp only [List.length_drop, List.length_take]; rfl)) ?_
 with_reducible refine (zyB.calls k a0_0 a0_1 a0_2 a1_0 a1_1 a1_2 t201 t202 t203 _ A3.out).mono ?_
 rintro e w9 ⟨rfl, hb⟩
 refine ⟨_, rfl, ?_⟩
 have n0_ := zpS (zgM (g := gb198) (o := .cells #[.int .i64 a0_0, .int .i64 a0_1, .int .i64 a0_2, .int .i64 a0_3, .int .i64 a0_4, .int .i64 a0_5] 94 (0, 0)) bk_ hb)
 have n1_ := zpS (zgM (g := gb199) (o := .cells #[.int .i64 a1_0, .int .i64 a1_1, .int .i64 a1_2, .int .i64 a1_3, .int .i64 a1_4, .int .i64 a1_5] 94 (0, 0)) bk_ hb)
 have n2_ := zpS (zgM (g := gb200) (o := .cells #[.int .i64 0, .int .i64 0, .int .i64 0, .int .i64 0, .int .i64 0, .int .i64 0] 94 (0, 0)) bk_ hb)
 have n3_ := (ns_ hb)
 clear BK198
 clear BK199
 clear BK200
 clear HB
 have BK198 := n0_
 have BK199 := n1_
 have BK200 := n2_
 have HB := n3_
 clear n0_ n1_ n2_ n3_
 (try clear hb)
 (try clear hb2)
 (try clear hk)
 (try clear hi)
 refine hK.out _ _ ⟨(zzS BK198.out 0).trans rfl, (zzS BK198.out 1).trans rfl, (zzS BK198.out 2).trans rfl, (zzS BK198.out 3).trans rfl, (zzS BK198.out 4).trans rfl, (zzS BK198.out 5).trans rfl, (zzS BK199.out 0).trans rfl, (zzS BK199.out 1).trans rfl, (zzS BK199.out 2).trans rfl, (zzS BK199.out 3).trans rfl, (zzS BK199.out 4).trans rfl, (zzS BK199.out 5).trans rfl⟩ (fun hHeld => ?_)
 clear hK K
 refine zaN (a' := ?_) ?_ ?_
 rotate_left
 ·show Act.put _ (some 9) _ = _
  simp only [Act.put, List.setIfInBounds_toArray, List.set_cons_zero, List.set_cons_succ, zcM, ziJ]
  rfl
 refine zdC (i := 9) (N := some 14) (bl_ 12 1023) rfl rfl (zeO HT_.out (by kernel_rfl)) (by decide) (fun K hK => ?_)
 refine zqW Tryd.func145 (by kernel_rfl) rfl #[.agg #[.int .i64 a0_3, .int .i64 a0_4, .int .i64 a0_5], .agg #[.int .i64 a1_3, .int .i64 a1_4, .int .i64 a1_5]] (by rfl) rfl rfl (by (try simp only [List.map_toArray, List.map_cons, List.map_nil]); first | done | rfl | (simp only [List.length_drop, List.length_take]; rfl)) ?_
 with_reducible refine (zyB.calls k a0_3 a0_4 a0_5 a1_3 a1_4 a1_5 t204 t205 t206 _ A4.out).mono ?_
 rintro e w10 ⟨rfl, hb⟩
 refine ⟨_, rfl, ?_⟩
 have n0_ := zpS (zgM (g := gb198) (o := .cells #[.int .i64 a0_0, .int .i64 a0_1, .int .i64 a0_2, .int .i64 a0_3, .int .i64 a0_4, .int .i64 a0_5] 94 (0, 0)) bk_ hb)
 have n1_ := zpS (zgM (g := gb199) (o := .cells #[.int .i64 a1_0, .int .i64 a1_1, .int .i64 a1_2, .int .i64 a1_3, .int .i64 a1_4, .int .i64 a1_5] 94 (0, 0)) bk_ hb)
 have n2_ := zpS (zgM (g := gb200) (o := .cells #[.int .i64 0, .int .i64 0, .int .i64 0, .int .i64 0, .int .i64 0, .int .i64 0] 94 (0, 0)) bk_ hb)
 have n3_ := (ns_ hb)
 clear BK198
 clear BK199
 clear BK200
 clear HB
 have BK198 := n0_
 have BK199 := n1_
 have BK200 := n2_
 have HB := n3_
 clear n0_ n1_ n2_ n3_
 (try clear hb)
 (try clear hb2)
 (try clear hk)
 (try clear hi)
 refine hK.out _ _ ⟨(zzS BK198.out 0).trans rfl, (zzS BK198.out 1).trans rfl, (zzS BK198.out 2).trans rfl, (zzS BK198.out 3).trans rfl, (zzS BK198.out 4).trans rfl, (zzS BK198.out 5).trans rfl, (zzS BK199.out 0).trans rfl, (zzS BK199.out 1).trans rfl, (zzS BK199.out 2).trans rfl, (zzS BK199.out 3).trans rfl, (zzS BK199.out 4).trans rfl, (zzS BK199.out 5).trans rfl⟩ (fun hHeld => ?_)
 clear hK K
 refine zaN (a' := ?_) ?_ ?_
 rotate_left
 ·show Act.put _ (some 14) _ = _
  simp only [Act.put, List.setIfInBounds_toArray, List.set_cons_zero, List.set_cons_succ, zcM, ziJ]
  rfl
 refine pu_ 10 (some 15) (bl_ 12 2047) ?_
 refine zdC (i := 11) (N := none) (bl_ 12 4095) rfl rfl (zeO HT_.out (by kernel_rfl)) (by decide) (fun K hK => ?_)
 have hs11 : w10.cell? ⟨gb200, 0, none⟩ = some (.int .i64 0) := (zzS BK200.out 0).trans rfl
 have hfs11 := zjF BK200.out 0
 have hns11_0 := NB198_200.out
 have hns11_1 := NB199_200.out
 have hms11_0 := NB200_198.out
 have hms11_1 := NB200_199.out
 have hs12 : w10.cell? ⟨gb200, 1, none⟩ = some (.int .i64 0) := (zzS BK200.out 1).trans rfl
 have hfs12 := zjF BK200.out 1
 have hns12_0 := NB198_200.out
 have hns12_1 := NB199_200.out
 have hms12_0 := NB200_198.out
 have hms12_1 := NB200_199.out
 have hs13 : w10.cell? ⟨gb200, 2, none⟩ = some (.int .i64 0) := (zzS BK200.out 2).trans rfl
 have hfs13 := zjF BK200.out 2
 have hns13_0 := NB198_200.out
 have hns13_1 := NB199_200.out
 have hms13_0 := NB200_198.out
 have hms13_1 := NB200_199.out
 have hs14 : w10.cell? ⟨gb200, 3, none⟩ = some (.int .i64 0) := (zzS BK200.out 3).trans rfl
 have hfs14 := zjF BK200.out 3
 have hns14_0 := NB198_200.out
 have hns14_1 := NB199_200.out
 have hms14_0 := NB200_198.out
 have hms14_1 := NB200_199.out
 have hs15 : w10.cell? ⟨gb200, 4, none⟩ = some (.int .i64 0) := (zzS BK200.out 4).trans rfl
 have hfs15 := zjF BK200.out 4
 have hns15_0 := NB198_200.out
 have hns15_1 := NB199_200.out
 have hms15_0 := NB200_198.out
 have hms15_1 := NB200_199.out
 have hs16 : w10.cell? ⟨gb200, 5, none⟩ = some (.int .i64 0) := (zzS BK200.out 5).trans rfl
 have hfs16 := zjF BK200.out 5
 have hns16_0 := NB198_200.out
 have hns16_1 := NB199_200.out
 have hms16_0 := NB200_198.out
 have hms16_1 := NB200_199.out
 refine skip_ (w1 := ?_) (by rfl) rfl ?_ ?_
 rotate_left
 ·go_simp
  rfl
 refine hK.out _ _ ⟨((zgQ (p := ⟨gb200, _, none⟩) NB198_200.out _).trans (((zgQ (p := ⟨gb200, _, none⟩) NB198_200.out _).trans (((zgQ (p := ⟨gb200, _, none⟩) NB198_200.out _).trans (((zgQ (p := ⟨gb200, _, none⟩) NB198_200.out _).trans (((zgQ (p := ⟨gb200, _, none⟩) NB198_200.out _).trans (((zgQ (p := ⟨gb200, _, none⟩) NB198_200.out _).trans (hHeld.1)))))))))))), ((zgQ (p := ⟨gb200, _, none⟩) NB198_200.out _).trans (((zgQ (p := ⟨gb200, _, none⟩) NB198_200.out _).trans (((zgQ (p := ⟨gb200, _, none⟩) NB198_200.out _).trans (((zgQ (p := ⟨gb200, _, none⟩) NB198_200.out _).trans (((zgQ (p := ⟨gb200, _, none⟩) NB198_200.out _).trans (((zgQ (p := ⟨gb200, _, none⟩) NB198_200.out _).trans (hHeld.2.1)))))))))))), ((zgQ (p := ⟨gb200, _, none⟩) NB198_200.out _).trans (((zgQ (p := ⟨gb200, _, none⟩) NB198_200.out _).trans (((zgQ (p := ⟨gb200, _, none⟩) NB198_200.out _).trans (((zgQ (p := ⟨gb200, _, none⟩) NB198_200.out _).trans (((zgQ (p := ⟨gb200, _, none⟩) NB198_200.out _).trans (((zgQ (p := ⟨gb200, _, none⟩) NB198_200.out _).trans (hHeld.2.2.1)))))))))))), ((zgQ (p := ⟨gb200, _, none⟩) NB198_200.out _).trans (((zgQ (p := ⟨gb200, _, none⟩) NB198_200.out _).trans (((zgQ (p := ⟨gb200, _, none⟩) NB198_200.out _).trans (((zgQ (p := ⟨gb200, _, none⟩) NB198_200.out _).trans (((zgQ (p := ⟨gb200, _, none⟩) NB198_200.out _).trans (((zgQ (p := ⟨gb200, _, none⟩) NB198_200.out _).trans (hHeld.2.2.2.1)))))))))))), ((zgQ (p := ⟨gb200, _, none⟩) NB198_200.out _).trans (((zgQ (p := ⟨gb200, _, none⟩) NB198_200.out _).trans (((zgQ (p := ⟨gb200, _, none⟩) NB198_200.out _).trans (((zgQ (p := ⟨gb200, _, none⟩) NB198_200.out _).trans (((zgQ (p := ⟨gb200, _, none⟩) NB198_200.out _).trans (((zgQ (p := ⟨gb200, _, none⟩) NB198_200.out _).trans (hHeld.2.2.2.2.1)))))))))))), ((zgQ (p := ⟨gb200, _, none⟩) NB198_200.out _).trans (((zgQ (p := ⟨gb200, _, none⟩) NB198_200.out _).trans (((zgQ (p := ⟨gb200, _, none⟩) NB198_200.out _).trans (((zgQ (p := ⟨gb200, _, none⟩) NB198_200.out _).trans (((zgQ (p := ⟨gb200, _, none⟩) NB198_200.out _).trans (((zgQ (p := ⟨gb200, _, none⟩) NB198_200.out _).trans (hHeld.2.2.2.2.2.1)))))))))))), ((zgQ (p := ⟨gb200, _, none⟩) NB199_200.out _).trans (((zgQ (p := ⟨gb200, _, none⟩) NB199_200.out _).trans (((zgQ (p := ⟨gb200, _, none⟩) NB199_200.out _).trans (((zgQ (p := ⟨gb200, _, none⟩) NB199_200.out _).trans (((zgQ (p := ⟨gb200, _, none⟩) NB199_200.out _).trans (((zgQ (p := ⟨gb200, _, none⟩) NB199_200.out _).trans (hHeld.2.2.2.2.2.2.1)))))))))))), ((zgQ (p := ⟨gb200, _, none⟩) NB199_200.out _).trans (((zgQ (p := ⟨gb200, _, none⟩) NB199_200.out _).trans (((zgQ (p := ⟨gb200, _, none⟩) NB199_200.out _).trans (((zgQ (p := ⟨gb200, _, none⟩) NB199_200.out _).trans (((zgQ (p := ⟨gb200, _, none⟩) NB199_200.out _).trans (((zgQ (p := ⟨gb200, _, none⟩) NB199_200.out _).trans (hHeld.2.2.2.2.2.2.2.1)))))))))))), ((zgQ (p := ⟨gb200, _, none⟩) NB199_200.out _).trans (((zgQ (p := ⟨gb200, _, none⟩) NB199_200.out _).trans (((zgQ (p := ⟨gb200, _, none⟩) NB199_200.out _).trans (((zgQ (p := ⟨gb200, _, none⟩) NB199_200.out _).trans (((zgQ (p := ⟨gb200, _, none⟩) NB199_200.out _).trans (((zgQ (p := ⟨gb200, _, none⟩) NB199_200.out _).trans (hHeld.2.2.2.2.2.2.2.2.1)))))))))))), ((zgQ (p := ⟨gb200, _, none⟩) NB199_200.out _).trans (((zgQ (p := ⟨gb200, _, none⟩) NB199_200.out _).trans (((zgQ (p := ⟨gb200, _, none⟩) NB199_200.out _).trans (((zgQ (p := ⟨gb200, _, none⟩) NB199_200.out _).trans (((zgQ (p := ⟨gb200, _, none⟩) NB199_200.out _).trans (((zgQ (p := ⟨gb200, _, none⟩) NB199_200.out _).trans (hHeld.2.2.2.2.2.2.2.2.2.1)))))))))))), ((zgQ (p := ⟨gb200, _, none⟩) NB199_200.out _).trans (((zgQ (p := ⟨gb200, _, none⟩) NB199_200.out _).trans (((zgQ (p := ⟨gb200, _, none⟩) NB199_200.out _).trans (((zgQ (p := ⟨gb200, _, none⟩) NB199_200.out _).trans (((zgQ (p := ⟨gb200, _, none⟩) NB199_200.out _).trans (((zgQ (p := ⟨gb200, _, none⟩) NB199_200.out _).trans (hHeld.2.2.2.2.2.2.2.2.2.2.1)))))))))))), ((zgQ (p := ⟨gb200, _, none⟩) NB199_200.out _).trans (((zgQ (p := ⟨gb200, _, none⟩) NB199_200.out _).trans (((zgQ (p := ⟨gb200, _, none⟩) NB199_200.out _).trans (((zgQ (p := ⟨gb200, _, none⟩) NB199_200.out _).trans (((zgQ (p := ⟨gb200, _, none⟩) NB199_200.out _).trans (((zgQ (p := ⟨gb200, _, none⟩) NB199_200.out _).trans (hHeld.2.2.2.2.2.2.2.2.2.2.2))))))))))))⟩ (fun hHeld => ?_)
 clear hK K
 refine znK (zzP HT_.out (by kernel_rfl)) ?_
 try go_wp2
 refine bodyPost_ret (results_cell_row rfl _ _ gb200 94 #[.int .i64 t201, .int .i64 t202, .int .i64 t203, .int .i64 t204, .int .i64 t205, .int .i64 t206] (0, 0) _ rfl (by (with_reducible repeat (first | apply zuW | apply ztN | apply zqY)); refine zlL (cs := #[.int .i64 t201, .int .i64 t202, .int .i64 t203, .int .i64 t204, .int .i64 t205, .int .i64 0]) ?_ 5 _ rfl; (with_reducible repeat (first | apply zuW | apply ztN | apply zqY)); refine zlL (cs := #[.int .i64 t201, .int .i64 t202, .int .i64 t203, .int .i64 t204, .int .i64 0, .int .i64 0]) ?_ 4 _ rfl; (with_reducible repeat (first | apply zuW | apply ztN | apply zqY)); refine zlL (cs := #[.int .i64 t201, .int .i64 t202, .int .i64 t203, .int .i64 0, .int .i64 0, .int .i64 0]) ?_ 3 _ rfl; (with_reducible repeat (first | apply zuW | apply ztN | apply zqY)); refine zlL (cs := #[.int .i64 t201, .int .i64 t202, .int .i64 0, .int .i64 0, .int .i64 0, .int .i64 0]) ?_ 2 _ rfl; (with_reducible repeat (first | apply zuW | apply ztN | apply zqY)); refine zlL (cs := #[.int .i64 t201, .int .i64 0, .int .i64 0, .int .i64 0, .int .i64 0, .int .i64 0]) ?_ 1 _ rfl; (with_reducible repeat (first | apply zuW | apply ztN | apply zqY)); refine zlL (cs := #[.int .i64 0, .int .i64 0, .int .i64 0, .int .i64 0, .int .i64 0, .int .i64 0]) ?_ 0 _ rfl; (with_reducible repeat (first | apply zuW | apply ztN | apply zqY)); exact BK200.out) Tryd.underlying94 rfl (by kernel_rfl)) rfl ?_
 exact ⟨by first | rfl | (simp [ziS, znJ] <;> rfl) | (simp [*, ziS, znJ] <;> rfl), bb_⟩

end Go.Proofs.YtmajpmofeddknaaDoor.PFnExactValidPlaces
