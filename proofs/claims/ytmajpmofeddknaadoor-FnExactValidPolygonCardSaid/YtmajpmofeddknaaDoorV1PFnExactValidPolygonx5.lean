-- Printed for this claim by this session's program pp.py, which drives the kit's print with additions. Not trusted: Lean checks it.
import Derived.Test.YtmajpmofeddknaaDoorV1PFnExactValidPolygonx0
import Derived.Test.YtmajpmofeddknaaDoorV1PFnExactValidPolygonx3
import Derived.Test.YtmajpmofeddknaaDoorV1PFnExactValidPolygonx4
namespace Go.Proofs.YtmajpmofeddknaaDoor.PFnExactValidPolygon
open Go.RowKit Go.Proofs.YtmajpmofeddknaaDoorW.PrintWords Go.Proofs.YtmajpmofeddknaaDoorW.PrintLast Go.Proofs.YtmajpmofeddknaaDoorW.PrintMore
attribute [local go_sem] zdZ zdY zeP zeQ zdG zdH zdX zeA   -- for this text's walks alone
set_option linter.unusedVariables false
set_option linter.unusedSimpArgs false

def zbA.l0 : Nat → Int → Int → Int → Int → Int → Int → Int → Option (Int)
 | 0, _, _, _, _, _, _, _ => none
 | k + 1, x3, x177000, x177001, x177002, x177003, x177004, x177005 => if x3 < 16 then ((zcF.f k (wrap64 (x3 + 4)) x177000 x177001 x177002 x177003 x177004 x177005).bind fun bt177 => ((zdV.f bt177.1 bt177.2.1 bt177.2.2).bind fun t180 => (if t180 = true then ((zcF.f k x3 x177000 x177001 x177002 x177003 x177004 x177005).bind fun bt181 => ((zaZ.f k bt181.1 bt181.2.1 bt181.2.2).bind fun t184 => (if t184 > 0 then (some x3) else (zbA.l0 k (wrap64 (x3 + 1)) x177000 x177001 x177002 x177003 x177004 x177005)))) else (zbA.l0 k (wrap64 (x3 + 1)) x177000 x177001 x177002 x177003 x177004 x177005)))) else (some (-1))
def zbA.f (k : Nat) (a0_0 : Int) (a0_1 : Int) (a0_2 : Int) (a0_3 : Int) (a0_4 : Int) (a0_5 : Int) : Option (Int) := zbA.l0 k 0 a0_0 a0_1 a0_2 a0_3 a0_4 a0_5
theorem zbA.mono_l : ∀ k, (∀ y0 y1 y2 y3 y4 y5 y6, LeO (zbA.l0 k y0 y1 y2 y3 y4 y5 y6) (zbA.l0 (k + 1) y0 y1 y2 y3 y4 y5 y6))
 | 0 => fun _ _ _ _ _ _ _ r h => by simp [zbA.l0] at h
 | k + 1 => by
  have ih0 := zbA.mono_l k
  ·intro y0 y1 y2 y3 y4 y5 y6
   unfold zbA.l0
   repeat' first
   | (with_reducible exact ih0 _ _ _ _ _ _ _)
   | (with_reducible exact zaZ.mono _ _ _ _)
   | (with_reducible exact zcF.mono _ _ _ _ _ _ _ _)
   | (with_reducible exact LeO.refl _)
   | (with_reducible exact LeO.none _)
   | (with_reducible refine LeO.ite ?_ ?_)
   | (with_reducible refine LeO.bind ?_ (fun _ => ?_))
   | exact ih0 _ _ _ _ _ _ _
   | exact zaZ.mono _ _ _ _
   | exact zcF.mono _ _ _ _ _ _ _ _
   | exact LeO.none _
   | refine LeO.ite ?_ ?_
   | refine LeO.bind ?_ (fun _ => ?_)
theorem zbA.mono : ∀ a0 a1 a2 a3 a4 a5 k, LeO (zbA.f k a0 a1 a2 a3 a4 a5) (zbA.f (k + 1) a0 a1 a2 a3 a4 a5) := by
 intro a0 a1 a2 a3 a4 a5 k
 have ih0 := zbA.mono_l k
 unfold zbA.f
 repeat' first
   | (with_reducible exact ih0 _ _ _ _ _ _ _)
   | (with_reducible exact zaZ.mono _ _ _ _)
   | (with_reducible exact zcF.mono _ _ _ _ _ _ _ _)
   | (with_reducible exact LeO.refl _)
   | (with_reducible exact LeO.none _)
   | (with_reducible refine LeO.ite ?_ ?_)
   | (with_reducible refine LeO.bind ?_ (fun _ => ?_))
   | exact ih0 _ _ _ _ _ _ _
   | exact zaZ.mono _ _ _ _
   | exact zcF.mono _ _ _ _ _ _ _ _
   | exact LeO.none _
   | refine LeO.ite ?_ ?_
   | refine LeO.bind ?_ (fun _ => ?_)
set_option maxHeartbeats 8000000 in
set_option maxRecDepth 100000 in
theorem zbA.calls (k : Nat) (a0_0 : Int) (a0_1 : Int) (a0_2 : Int) (a0_3 : Int) (a0_4 : Int) (a0_5 : Int) (r : Int) (w : World) (h : zbA.f k a0_0 a0_1 a0_2 a0_3 a0_4 a0_5 = some r) :
  Calls Tryd.prog 110 #[.agg #[.int .i64 a0_0, .int .i64 a0_1, .int .i64 a0_2, .int .i64 a0_3, .int .i64 a0_4, .int .i64 a0_5]] w fun e w' => e = .returned (.int .i64 r) ∧ Below w.heap.size w w' := by
 have hu94 := Tryd.underlying94
 have HB := zaO (Below.refl w.heap.size w)
 have H : (zbA.l0 k 0 a0_0 a0_1 a0_2 a0_3 a0_4 a0_5) = some r := h
 clear h
 have H' := zaO H
 clear H
 go_enter Tryd.func110, Tryd.ntmps110
 go_wp2_with (first | ((with_reducible refine zbC (N := 1) rfl ?_); refine zaW ?hg (N := 1) ?hd (cs := #[.int .i64 a0_0, .int .i64 a0_1, .int .i64 a0_2, .int .i64 a0_3, .int .i64 a0_4, .int .i64 a0_5]) (t := 94) ?hr ?_; (case hd => rfl); (case hg => rfl); (case hr => first | (go_simp; done) | (go_simp; rfl)); intro gb176 hg w2 hbox hb; have n0_ := zaO (zaK (by repeat (first | (with_reducible first | exact HB.out | apply zaE | apply zaA | apply zaD) | exact HB.out)) hb); have n1_ := zaO (hbox); have n2_ := zaO ((by rw [hg]; exact (zaP (by repeat (first | (with_reducible first | exact HB.out | apply zaE | apply zaA | apply zaD) | exact HB.out))) : w.heap.size ≤ gb176)); have n3_ := n2_; clear HB; have HB := n0_; have BK176 := n1_; have GW176 := n2_; have GE176 := n3_; clear n0_ n1_ n2_ n3_; clear hb hbox hg))
 (try go_simp)
 go_loopg [3] k (fun kq v3 w' => ∃ (x3_1 : Int), v3 = .int .i64 x3_1 ∧ Aside0 (zbA.l0 kq x3_1 a0_0 a0_1 a0_2 a0_3 a0_4 a0_5 = some r) ∧ Aside0 (kq ≤ k) ∧ Aside0 (w'.heap[gb176]? = some (.cells #[.int .i64 a0_0, .int .i64 a0_1, .int .i64 a0_2, .int .i64 a0_3, .int .i64 a0_4, .int .i64 a0_5] 94 (0, 0))) ∧ Aside0 (Below w.heap.size w w'))
 case atStart => exact ⟨(0), (by first | rfl | (simp; done) | (simp [*]; done)), H', ⟨Nat.le_refl _⟩, ⟨by (with_reducible repeat (first | apply zaC | apply zaF | apply zaB)); exact BK176.out⟩, ⟨by repeat (first | (with_reducible first | exact HB.out | apply zaE | apply zaA | apply zaD | refine zaH ?_ GE176.out) | exact HB.out)⟩⟩
 case round =>
  clear H'
  try clear c1
  try clear p2
  obtain ⟨x3_1, rfl, HA, HK1, BK176, HB⟩ := hrel
  cases gk with
  | zero => exact absurd HA.out (by simp [zbA.l0])
  | succ k1 =>
   have H := HA.out
   clear HA
   simp only [zbA.l0] at H
   by_cases c3 : x3_1 < 16
   ·rw [if_pos c3] at H
    have c3b0 : decide (x3_1 < 16) = true := decide_eq_true c3
    clear c3
    replace H := Option.bind_eq_some_iff.mp H
    obtain ⟨⟨t177, t178, t179⟩, A40, H⟩ := H
    replace H : ((zdV.f t177 t178 t179).bind fun t180 => (if t180 = true then ((zcF.f k1 x3_1 a0_0 a0_1 a0_2 a0_3 a0_4 a0_5).bind fun bt181 => ((zaZ.f k1 bt181.1 bt181.2.1 bt181.2.2).bind fun t184 => (if t184 > 0 then (some x3_1) else (zbA.l0 k1 (wrap64 (x3_1 + 1)) a0_0 a0_1 a0_2 a0_3 a0_4 a0_5)))) else (zbA.l0 k1 (wrap64 (x3_1 + 1)) a0_0 a0_1 a0_2 a0_3 a0_4 a0_5))) = some r := H
    have A4 := zaO A40
    clear A40
    replace H := Option.bind_eq_some_iff.mp H
    obtain ⟨t180, A50, H⟩ := H
    replace H : (if t180 = true then ((zcF.f k1 x3_1 a0_0 a0_1 a0_2 a0_3 a0_4 a0_5).bind fun bt181 => ((zaZ.f k1 bt181.1 bt181.2.1 bt181.2.2).bind fun t184 => (if t184 > 0 then (some x3_1) else (zbA.l0 k1 (wrap64 (x3_1 + 1)) a0_0 a0_1 a0_2 a0_3 a0_4 a0_5)))) else (zbA.l0 k1 (wrap64 (x3_1 + 1)) a0_0 a0_1 a0_2 a0_3 a0_4 a0_5)) = some r := H
    have A5 := zaO A50
    clear A50
    by_cases c6 : t180 = true
    ·subst c6
     have H1 : ((zcF.f k1 x3_1 a0_0 a0_1 a0_2 a0_3 a0_4 a0_5).bind fun bt181 => ((zaZ.f k1 bt181.1 bt181.2.1 bt181.2.2).bind fun t184 => (if t184 > 0 then (some x3_1) else (zbA.l0 k1 (wrap64 (x3_1 + 1)) a0_0 a0_1 a0_2 a0_3 a0_4 a0_5)))) = some r := by rw [if_pos rfl] at H; exact H
     clear H
     have H := H1
     clear H1
     replace H := Option.bind_eq_some_iff.mp H
     obtain ⟨⟨t181, t182, t183⟩, A70, H⟩ := H
     replace H : ((zaZ.f k1 t181 t182 t183).bind fun t184 => (if t184 > 0 then (some x3_1) else (zbA.l0 k1 (wrap64 (x3_1 + 1)) a0_0 a0_1 a0_2 a0_3 a0_4 a0_5))) = some r := H
     have A7 := zaO A70
     clear A70
     replace H := Option.bind_eq_some_iff.mp H
     obtain ⟨t184, A80, H⟩ := H
     replace H : (if t184 > 0 then (some x3_1) else (zbA.l0 k1 (wrap64 (x3_1 + 1)) a0_0 a0_1 a0_2 a0_3 a0_4 a0_5)) = some r := H
     have A8 := zaO A80
     clear A80
     by_cases c9 : t184 > 0
     ·rw [if_pos c9] at H
      have c9b0 : decide (0 < t184) = true := decide_eq_true c9
      clear c9
      obtain rfl := Option.some.inj H
      obtain ⟨hcz10_0, hcz10_1, hcz10_2, hcz10_3, hcz10_4, hcz10_5⟩ := zeV BK176.out
      obtain ⟨hfz10_0, hfz10_1, hfz10_2, hfz10_3, hfz10_4, hfz10_5⟩ := zeW BK176.out
      go_wp2_with (first | ((with_reducible refine zaQ (f := 113) rfl ?_); refine zbV (some 11) rfl rfl Tryd.func113 (by kernel_rfl) rfl #[.int .i64 (wrap64 (x3_1 + 4)), .agg #[.int .i64 a0_0, .int .i64 a0_1, .int .i64 a0_2, .int .i64 a0_3, .int .i64 a0_4, .int .i64 a0_5]] rfl (by (try simp only [List.map_toArray, List.map_cons, List.map_nil]); first | done | rfl | (simp only [List.length_drop, List.length_take]; rfl)) ?_; (with_reducible refine (zcF.calls k1 (wrap64 (x3_1 + 4)) a0_0 a0_1 a0_2 a0_3 a0_4 a0_5 t177 t178 t179 _ A4.out).mono ?_); rintro e w11 ⟨rfl, hb⟩; refine ⟨_, rfl, ?_⟩; have n0_ := zaO (zaL (g := gb176) (o := .cells #[.int .i64 a0_0, .int .i64 a0_1, .int .i64 a0_2, .int .i64 a0_3, .int .i64 a0_4, .int .i64 a0_5] 94 (0, 0)) (by (with_reducible repeat (first | apply zaC | apply zaF | apply zaB)); exact BK176.out) hb); have n1_ := zaO (zaK (by repeat (first | (with_reducible first | exact HB.out | apply zaE | apply zaA | apply zaD | refine zaH ?_ GE176.out) | exact HB.out)) hb); clear BK176; clear HB; have BK176 := n0_; have HB := n1_; clear n0_ n1_; (try clear hb); (try clear hb2); (try clear hk); (try clear hi)) | ((with_reducible refine zaQ (f := 144) rfl ?_); refine zbV (some 12) rfl rfl Tryd.func144 (by kernel_rfl) rfl #[.agg #[.int .i64 t177, .int .i64 t178, .int .i64 t179]] rfl (by (try simp only [List.map_toArray, List.map_cons, List.map_nil]); first | done | rfl | (simp only [List.length_drop, List.length_take]; rfl)) ?_; (with_reducible refine (zdV.calls t177 t178 t179 true _ A5.out).mono ?_); rintro e w12 ⟨rfl, hb⟩; refine ⟨_, rfl, ?_⟩; have n0_ := zaO (zaL (g := gb176) (o := .cells #[.int .i64 a0_0, .int .i64 a0_1, .int .i64 a0_2, .int .i64 a0_3, .int .i64 a0_4, .int .i64 a0_5] 94 (0, 0)) (by (with_reducible repeat (first | apply zaC | apply zaF | apply zaB)); exact BK176.out) hb); have n1_ := zaO (zaK (by repeat (first | (with_reducible first | exact HB.out | apply zaE | apply zaA | apply zaD | refine zaH ?_ GE176.out) | exact HB.out)) hb); clear BK176; clear HB; have BK176 := n0_; have HB := n1_; clear n0_ n1_; (try clear hb); (try clear hb2); (try clear hk); (try clear hi); obtain ⟨hcz13_0, hcz13_1, hcz13_2, hcz13_3, hcz13_4, hcz13_5⟩ := zeV BK176.out; obtain ⟨hfz13_0, hfz13_1, hfz13_2, hfz13_3, hfz13_4, hfz13_5⟩ := zeW BK176.out) | (go_at_call 113; (with_reducible refine (zcF.calls k1 x3_1 a0_0 a0_1 a0_2 a0_3 a0_4 a0_5 t181 t182 t183 _ A7.out).mono ?_); rintro e w14 ⟨rfl, hb⟩; have n0_ := zaO (zaL (g := gb176) (o := .cells #[.int .i64 a0_0, .int .i64 a0_1, .int .i64 a0_2, .int .i64 a0_3, .int .i64 a0_4, .int .i64 a0_5] 94 (0, 0)) (by (with_reducible repeat (first | apply zaC | apply zaF | apply zaB)); exact BK176.out) hb); have n1_ := zaO (zaK (by repeat (first | (with_reducible first | exact HB.out | apply zaE | apply zaA | apply zaD | refine zaH ?_ GE176.out) | exact HB.out)) hb); clear BK176; clear HB; have BK176 := n0_; have HB := n1_; clear n0_ n1_; (try clear hb); (try clear hb2); (try clear hk); (try clear hi)) | (go_at_call 112; (with_reducible refine (zaZ.calls k1 t181 t182 t183 t184 _ A8.out).mono ?_); rintro e w15 ⟨rfl, hb⟩; have n0_ := zaO (zaL (g := gb176) (o := .cells #[.int .i64 a0_0, .int .i64 a0_1, .int .i64 a0_2, .int .i64 a0_3, .int .i64 a0_4, .int .i64 a0_5] 94 (0, 0)) (by (with_reducible repeat (first | apply zaC | apply zaF | apply zaB)); exact BK176.out) hb); have n1_ := zaO (zaK (by repeat (first | (with_reducible first | exact HB.out | apply zaE | apply zaA | apply zaD | refine zaH ?_ GE176.out) | exact HB.out)) hb); clear BK176; clear HB; have BK176 := n0_; have HB := n1_; clear n0_ n1_; (try clear hb); (try clear hb2); (try clear hk); (try clear hi)))
      go_ret
      exact ⟨by first | rfl | (simp [zaN, zaM] <;> rfl) | (simp [*, zaN, zaM] <;> rfl), by repeat (first | (with_reducible first | exact HB.out | apply zaE | apply zaA | apply zaD | refine zaH ?_ GE176.out) | exact HB.out)⟩
     ·rw [if_neg c9] at H
      have c9b0 : decide (0 < t184) = false := decide_eq_false c9
      clear c9
      have H' := zaO H
      clear H
      obtain ⟨hcz16_0, hcz16_1, hcz16_2, hcz16_3, hcz16_4, hcz16_5⟩ := zeV BK176.out
      obtain ⟨hfz16_0, hfz16_1, hfz16_2, hfz16_3, hfz16_4, hfz16_5⟩ := zeW BK176.out
      go_wp2_with (first | ((with_reducible refine zaQ (f := 113) rfl ?_); refine zbV (some 11) rfl rfl Tryd.func113 (by kernel_rfl) rfl #[.int .i64 (wrap64 (x3_1 + 4)), .agg #[.int .i64 a0_0, .int .i64 a0_1, .int .i64 a0_2, .int .i64 a0_3, .int .i64 a0_4, .int .i64 a0_5]] rfl (by (try simp only [List.map_toArray, List.map_cons, List.map_nil]); first | done | rfl | (simp only [List.length_drop, List.length_take]; rfl)) ?_; (with_reducible refine (zcF.calls k1 (wrap64 (x3_1 + 4)) a0_0 a0_1 a0_2 a0_3 a0_4 a0_5 t177 t178 t179 _ A4.out).mono ?_); rintro e w17 ⟨rfl, hb⟩; refine ⟨_, rfl, ?_⟩; have n0_ := zaO (zaL (g := gb176) (o := .cells #[.int .i64 a0_0, .int .i64 a0_1, .int .i64 a0_2, .int .i64 a0_3, .int .i64 a0_4, .int .i64 a0_5] 94 (0, 0)) (by (with_reducible repeat (first | apply zaC | apply zaF | apply zaB)); exact BK176.out) hb); have n1_ := zaO (zaK (by repeat (first | (with_reducible first | exact HB.out | apply zaE | apply zaA | apply zaD | refine zaH ?_ GE176.out) | exact HB.out)) hb); clear BK176; clear HB; have BK176 := n0_; have HB := n1_; clear n0_ n1_; (try clear hb); (try clear hb2); (try clear hk); (try clear hi)) | ((with_reducible refine zaQ (f := 144) rfl ?_); refine zbV (some 12) rfl rfl Tryd.func144 (by kernel_rfl) rfl #[.agg #[.int .i64 t177, .int .i64 t178, .int .i64 t179]] rfl (by (try simp only [List.map_toArray, List.map_cons, List.map_nil]); first | done | rfl | (simp only [List.length_drop, List.length_take]; rfl)) ?_; (with_reducible refine (zdV.calls t177 t178 t179 true _ A5.out).mono ?_); rintro e w18 ⟨rfl, hb⟩; refine ⟨_, rfl, ?_⟩; have n0_ := zaO (zaL (g := gb176) (o := .cells #[.int .i64 a0_0, .int .i64 a0_1, .int .i64 a0_2, .int .i64 a0_3, .int .i64 a0_4, .int .i64 a0_5] 94 (0, 0)) (by (with_reducible repeat (first | apply zaC | apply zaF | apply zaB)); exact BK176.out) hb); have n1_ := zaO (zaK (by repeat (first | (with_reducible first | exact HB.out | apply zaE | apply zaA | apply zaD | refine zaH ?_ GE176.out) | exact HB.out)) hb); clear BK176; clear HB; have BK176 := n0_; have HB := n1_; clear n0_ n1_; (try clear hb); (try clear hb2); (try clear hk); (try clear hi); obtain ⟨hcz19_0, hcz19_1, hcz19_2, hcz19_3, hcz19_4, hcz19_5⟩ := zeV BK176.out; obtain ⟨hfz19_0, hfz19_1, hfz19_2, hfz19_3, hfz19_4, hfz19_5⟩ := zeW BK176.out) | (go_at_call 113; (with_reducible refine (zcF.calls k1 x3_1 a0_0 a0_1 a0_2 a0_3 a0_4 a0_5 t181 t182 t183 _ A7.out).mono ?_); rintro e w20 ⟨rfl, hb⟩; have n0_ := zaO (zaL (g := gb176) (o := .cells #[.int .i64 a0_0, .int .i64 a0_1, .int .i64 a0_2, .int .i64 a0_3, .int .i64 a0_4, .int .i64 a0_5] 94 (0, 0)) (by (with_reducible repeat (first | apply zaC | apply zaF | apply zaB)); exact BK176.out) hb); have n1_ := zaO (zaK (by repeat (first | (with_reducible first | exact HB.out | apply zaE | apply zaA | apply zaD | refine zaH ?_ GE176.out) | exact HB.out)) hb); clear BK176; clear HB; have BK176 := n0_; have HB := n1_; clear n0_ n1_; (try clear hb); (try clear hb2); (try clear hk); (try clear hi)) | (go_at_call 112; (with_reducible refine (zaZ.calls k1 t181 t182 t183 t184 _ A8.out).mono ?_); rintro e w21 ⟨rfl, hb⟩; have n0_ := zaO (zaL (g := gb176) (o := .cells #[.int .i64 a0_0, .int .i64 a0_1, .int .i64 a0_2, .int .i64 a0_3, .int .i64 a0_4, .int .i64 a0_5] 94 (0, 0)) (by (with_reducible repeat (first | apply zaC | apply zaF | apply zaB)); exact BK176.out) hb); have n1_ := zaO (zaK (by repeat (first | (with_reducible first | exact HB.out | apply zaE | apply zaA | apply zaD | refine zaH ?_ GE176.out) | exact HB.out)) hb); clear BK176; clear HB; have BK176 := n0_; have HB := n1_; clear n0_ n1_; (try clear hb); (try clear hb2); (try clear hk); (try clear hi)))
      go_roundg k1
      case measure => have := HK1.out; omega
      case rel => exact ⟨(wrap64 (x3_1 + 1)), (by first | rfl | (simp; done) | (simp [*]; done)), H', ⟨by have := HK1.out; omega⟩, ⟨by (with_reducible repeat (first | apply zaC | apply zaF | apply zaB)); exact BK176.out⟩, ⟨by repeat (first | (with_reducible first | exact HB.out | apply zaE | apply zaA | apply zaD | refine zaH ?_ GE176.out) | exact HB.out)⟩⟩
    ·replace c6 := Bool.eq_false_iff.mpr c6
     subst c6
     have H1 : (zbA.l0 k1 (wrap64 (x3_1 + 1)) a0_0 a0_1 a0_2 a0_3 a0_4 a0_5) = some r := by rw [if_neg (show ¬ (false = true) by decide)] at H; exact H
     clear H
     have H := H1
     clear H1
     have H' := zaO H
     clear H
     obtain ⟨hcz22_0, hcz22_1, hcz22_2, hcz22_3, hcz22_4, hcz22_5⟩ := zeV BK176.out
     obtain ⟨hfz22_0, hfz22_1, hfz22_2, hfz22_3, hfz22_4, hfz22_5⟩ := zeW BK176.out
     go_wp2_with (first | ((with_reducible refine zaQ (f := 113) rfl ?_); refine zbV (some 11) rfl rfl Tryd.func113 (by kernel_rfl) rfl #[.int .i64 (wrap64 (x3_1 + 4)), .agg #[.int .i64 a0_0, .int .i64 a0_1, .int .i64 a0_2, .int .i64 a0_3, .int .i64 a0_4, .int .i64 a0_5]] rfl (by (try simp only [List.map_toArray, List.map_cons, List.map_nil]); first | done | rfl | (simp only [List.length_drop, List.length_take]; rfl)) ?_; (with_reducible refine (zcF.calls k1 (wrap64 (x3_1 + 4)) a0_0 a0_1 a0_2 a0_3 a0_4 a0_5 t177 t178 t179 _ A4.out).mono ?_); rintro e w23 ⟨rfl, hb⟩; refine ⟨_, rfl, ?_⟩; have n0_ := zaO (zaL (g := gb176) (o := .cells #[.int .i64 a0_0, .int .i64 a0_1, .int .i64 a0_2, .int .i64 a0_3, .int .i64 a0_4, .int .i64 a0_5] 94 (0, 0)) (by (with_reducible repeat (first | apply zaC | apply zaF | apply zaB)); exact BK176.out) hb); have n1_ := zaO (zaK (by repeat (first | (with_reducible first | exact HB.out | apply zaE | apply zaA | apply zaD | refine zaH ?_ GE176.out) | exact HB.out)) hb); clear BK176; clear HB; have BK176 := n0_; have HB := n1_; clear n0_ n1_; (try clear hb); (try clear hb2); (try clear hk); (try clear hi)) | ((with_reducible refine zaQ (f := 144) rfl ?_); refine zbV (some 12) rfl rfl Tryd.func144 (by kernel_rfl) rfl #[.agg #[.int .i64 t177, .int .i64 t178, .int .i64 t179]] rfl (by (try simp only [List.map_toArray, List.map_cons, List.map_nil]); first | done | rfl | (simp only [List.length_drop, List.length_take]; rfl)) ?_; (with_reducible refine (zdV.calls t177 t178 t179 false _ A5.out).mono ?_); rintro e w24 ⟨rfl, hb⟩; refine ⟨_, rfl, ?_⟩; have n0_ := zaO (zaL (g := gb176) (o := .cells #[.int .i64 a0_0, .int .i64 a0_1, .int .i64 a0_2, .int .i64 a0_3, .int .i64 a0_4, .int .i64 a0_5] 94 (0, 0)) (by (with_reducible repeat (first | apply zaC | apply zaF | apply zaB)); exact BK176.out) hb); have n1_ := zaO (zaK (by repeat (first | (with_reducible first | exact HB.out | apply zaE | apply zaA | apply zaD | refine zaH ?_ GE176.out) | exact HB.out)) hb); clear BK176; clear HB; have BK176 := n0_; have HB := n1_; clear n0_ n1_; (try clear hb); (try clear hb2); (try clear hk); (try clear hi)))
     go_roundg k1
     case measure => have := HK1.out; omega
     case rel => exact ⟨(wrap64 (x3_1 + 1)), (by first | rfl | (simp; done) | (simp [*]; done)), H', ⟨by have := HK1.out; omega⟩, ⟨by (with_reducible repeat (first | apply zaC | apply zaF | apply zaB)); exact BK176.out⟩, ⟨by repeat (first | (with_reducible first | exact HB.out | apply zaE | apply zaA | apply zaD | refine zaH ?_ GE176.out) | exact HB.out)⟩⟩
   ·rw [if_neg c3] at H
    have c3b0 : decide (x3_1 < 16) = false := decide_eq_false c3
    clear c3
    obtain rfl := Option.some.inj H
    go_wp2
    go_ret
    exact ⟨by first | rfl | (simp [zaN, zaM] <;> rfl) | (simp [*, zaN, zaM] <;> rfl), by repeat (first | (with_reducible first | exact HB.out | apply zaE | apply zaA | apply zaD | refine zaH ?_ GE176.out) | exact HB.out)⟩

def zeT.f (a0_0 : Int) (a0_1 : Int) (a0_2 : Int) : Option (Int × Int × Int) := some (wrap64 (-a0_0), wrap64 (-a0_1), a0_2)
set_option maxHeartbeats 8000000 in
set_option maxRecDepth 100000 in
theorem zeT.calls (a0_0 : Int) (a0_1 : Int) (a0_2 : Int) (r1 : Int) (r2 : Int) (r3 : Int) (w : World) (h : zeT.f a0_0 a0_1 a0_2 = some (r1, r2, r3)) :
  Calls Tryd.prog 172 #[.agg #[.int .i64 a0_0, .int .i64 a0_1, .int .i64 a0_2]] w fun e w' => e = .returned (.agg #[.int .i64 r1, .int .i64 r2, .int .i64 r3]) ∧ Below w.heap.size w w' := by
 have hu92 := Tryd.underlying92
 have HB := zaO (Below.refl w.heap.size w)
 have H : (some (wrap64 (-a0_0), wrap64 (-a0_1), a0_2)) = some (r1, r2, r3) := h
 clear h
 simp only [Option.some.injEq, Prod.mk.injEq] at H
 obtain ⟨rfl, rfl, rfl⟩ := H
 go_enter Tryd.func172, Tryd.ntmps172
 go_wp2_with (first | ((with_reducible refine zbC (N := 1) rfl ?_); refine zaW ?hg (N := 1) ?hd (cs := #[.int .i64 a0_0, .int .i64 a0_1, .int .i64 a0_2]) (t := 92) ?hr ?_; (case hd => rfl); (case hg => rfl); (case hr => first | (go_simp; done) | (go_simp; rfl)); intro gb185 hg w2 hbox hb; have n0_ := zaO (zaK (by repeat (first | (with_reducible first | exact HB.out | apply zaE | apply zaA | apply zaD) | exact HB.out)) hb); have n1_ := zaO (hbox); have n2_ := zaO ((by rw [hg]; exact (zaP (by repeat (first | (with_reducible first | exact HB.out | apply zaE | apply zaA | apply zaD) | exact HB.out))) : w.heap.size ≤ gb185)); have n3_ := n2_; clear HB; have HB := n0_; have BK185 := n1_; have GW185 := n2_; have GE185 := n3_; clear n0_ n1_ n2_ n3_; clear hb hbox hg) | ((with_reducible refine zbC (N := 2) rfl ?_); refine zaW ?hg (N := 2) ?hd (cs := #[.int .i64 0, .int .i64 0, .int .i64 0]) (t := 92) ?hr ?_; (case hd => rfl); (case hg => rfl); (case hr => first | (go_simp; done) | (go_simp; rfl)); intro gb186 hg w3 hbox hb; have n0_ := zaO (zaL (g := gb185) (o := .cells #[.int .i64 a0_0, .int .i64 a0_1, .int .i64 a0_2] 92 (0, 0)) (by (with_reducible repeat (first | apply zaC | apply zaF | apply zaB)); exact BK185.out) hb); have n1_ := zaO (zaK (by repeat (first | (with_reducible first | exact HB.out | apply zaE | apply zaA | apply zaD | refine zaH ?_ GE185.out) | exact HB.out)) hb); have n2_ := zaO (hbox); have n3_ := zaO ((by rw [hg]; exact (zaP (by repeat (first | (with_reducible first | exact HB.out | apply zaE | apply zaA | apply zaD | refine zaH ?_ GE185.out) | exact HB.out))) : w.heap.size ≤ gb186)); have n4_ := n3_; have n5_ := zaO ((by rw [hg]; exact Nat.ne_of_lt (zbN (g := gb185) (o := .cells #[.int .i64 a0_0, .int .i64 a0_1, .int .i64 a0_2] 92 (0, 0)) (by (with_reducible repeat (first | apply zaC | apply zaF | apply zaB)); exact BK185.out)) : gb185 ≠ gb186)); have n6_ := zaO ((by rw [hg]; exact Nat.ne_of_gt (zbN (g := gb185) (o := .cells #[.int .i64 a0_0, .int .i64 a0_1, .int .i64 a0_2] 92 (0, 0)) (by (with_reducible repeat (first | apply zaC | apply zaF | apply zaB)); exact BK185.out)) : gb186 ≠ gb185)); clear BK185; clear HB; have BK185 := n0_; have HB := n1_; have BK186 := n2_; have GW186 := n3_; have GE186 := n4_; have NB185_186 := n5_; have NB186_185 := n6_; clear n0_ n1_ n2_ n3_ n4_ n5_ n6_; clear hb hbox hg; have hnb4 := NB185_186.out; have hnc4 := NB186_185.out; obtain ⟨hcz5_0, hcz5_1, hcz5_2⟩ := zeE BK185.out; obtain ⟨hfz5_0, hfz5_1, hfz5_2⟩ := zeD BK185.out; obtain ⟨hcz6_0, hcz6_1, hcz6_2⟩ := zeE BK186.out; obtain ⟨hfz6_0, hfz6_1, hfz6_2⟩ := zeD BK186.out))
 refine bodyPost_ret (results_cell_row rfl _ _ gb186 92 #[.int .i64 (wrap64 (-a0_0)), .int .i64 (wrap64 (-a0_1)), .int .i64 a0_2] (0, 0) _ rfl (by (with_reducible repeat (first | apply zaC | apply zaF | apply zaB)); refine zaR (cs := #[.int .i64 (wrap64 (-a0_0)), .int .i64 (wrap64 (-a0_1)), .int .i64 0]) ?_ 2 _ rfl; (with_reducible repeat (first | apply zaC | apply zaF | apply zaB)); refine zaR (cs := #[.int .i64 (wrap64 (-a0_0)), .int .i64 0, .int .i64 0]) ?_ 1 _ rfl; (with_reducible repeat (first | apply zaC | apply zaF | apply zaB)); refine zaR (cs := #[.int .i64 0, .int .i64 0, .int .i64 0]) ?_ 0 _ rfl; (with_reducible repeat (first | apply zaC | apply zaF | apply zaB)); exact BK186.out) Tryd.underlying92 rfl (by kernel_rfl)) rfl ?_
 exact ⟨by first | rfl | (simp [zaN, zaM] <;> rfl) | (simp [*, zaN, zaM] <;> rfl), by repeat (first | (with_reducible first | exact HB.out | apply zaE | apply zaA | apply zaD | refine zaH ?_ GE185.out | refine zaH ?_ GE186.out) | exact HB.out)⟩

def zcL.f (k : Nat) (a0_0 : Int) (a0_1 : Int) (a0_2 : Int) (a1_0 : Int) (a1_1 : Int) (a1_2 : Int) : Option (Int × Int × Int) := (zeT.f a1_0 a1_1 a1_2).bind fun bt190 => ((zbO.f k a0_0 a0_1 a0_2 bt190.1 bt190.2.1 bt190.2.2).bind fun bt193 => (some (bt193.1, bt193.2.1, bt193.2.2)))
theorem zcL.mono : ∀ a0 a1 a2 a3 a4 a5 k, LeO (zcL.f k a0 a1 a2 a3 a4 a5) (zcL.f (k + 1) a0 a1 a2 a3 a4 a5) := by
 intro a0 a1 a2 a3 a4 a5 k
 unfold zcL.f
 repeat' first
   | (with_reducible exact zbO.mono _ _ _ _ _ _ _)
   | (with_reducible exact LeO.refl _)
   | (with_reducible exact LeO.none _)
   | (with_reducible refine LeO.ite ?_ ?_)
   | (with_reducible refine LeO.bind ?_ (fun _ => ?_))
   | exact zbO.mono _ _ _ _ _ _ _
   | exact LeO.none _
   | refine LeO.ite ?_ ?_
   | refine LeO.bind ?_ (fun _ => ?_)
set_option maxHeartbeats 8000000 in
set_option maxRecDepth 100000 in
theorem zcL.calls (k : Nat) (a0_0 : Int) (a0_1 : Int) (a0_2 : Int) (a1_0 : Int) (a1_1 : Int) (a1_2 : Int) (r1 : Int) (r2 : Int) (r3 : Int) (w : World) (h : zcL.f k a0_0 a0_1 a0_2 a1_0 a1_1 a1_2 = some (r1, r2, r3)) :
  Calls Tryd.prog 145 #[.agg #[.int .i64 a0_0, .int .i64 a0_1, .int .i64 a0_2], .agg #[.int .i64 a1_0, .int .i64 a1_1, .int .i64 a1_2]] w fun e w' => e = .returned (.agg #[.int .i64 r1, .int .i64 r2, .int .i64 r3]) ∧ Below w.heap.size w w' := by
 have hu92 := Tryd.underlying92
 have HB := zaO (Below.refl w.heap.size w)
 have H : ((zeT.f a1_0 a1_1 a1_2).bind fun bt190 => ((zbO.f k a0_0 a0_1 a0_2 bt190.1 bt190.2.1 bt190.2.2).bind fun bt193 => (some (bt193.1, bt193.2.1, bt193.2.2)))) = some (r1, r2, r3) := h
 clear h
 replace H := Option.bind_eq_some_iff.mp H
 obtain ⟨⟨t190, t191, t192⟩, A30, H⟩ := H
 replace H : ((zbO.f k a0_0 a0_1 a0_2 t190 t191 t192).bind fun bt193 => (some (bt193.1, bt193.2.1, bt193.2.2))) = some (r1, r2, r3) := H
 have A3 := zaO A30
 clear A30
 replace H := Option.bind_eq_some_iff.mp H
 obtain ⟨⟨t193, t194, t195⟩, A40, H⟩ := H
 replace H : (some (t193, t194, t195)) = some (r1, r2, r3) := H
 have A4 := zaO A40
 clear A40
 simp only [Option.some.injEq, Prod.mk.injEq] at H
 obtain ⟨rfl, rfl, rfl⟩ := H
 go_enter Tryd.func145, Tryd.ntmps145
 try go_wp2_with (first | ((with_reducible refine zbC (N := 2) rfl ?_); refine zaW ?hg (N := 2) ?hd (cs := #[.int .i64 a0_0, .int .i64 a0_1, .int .i64 a0_2]) (t := 92) ?hr ?_; (case hd => rfl); (case hg => rfl); (case hr => first | (go_simp; done) | (go_simp; rfl)); intro gb187 hg w5 hbox hb; have n0_ := zaO (zaK (by repeat (first | (with_reducible first | exact HB.out | apply zaE | apply zaA | apply zaD) | exact HB.out)) hb); have n1_ := zaO (hbox); have n2_ := zaO ((by rw [hg]; exact (zaP (by repeat (first | (with_reducible first | exact HB.out | apply zaE | apply zaA | apply zaD) | exact HB.out))) : w.heap.size ≤ gb187)); have n3_ := n2_; clear HB; have HB := n0_; have BK187 := n1_; have GW187 := n2_; have GE187 := n3_; clear n0_ n1_ n2_ n3_; clear hb hbox hg) | ((with_reducible refine zbC (N := 3) rfl ?_); refine zaW ?hg (N := 3) ?hd (cs := #[.int .i64 a1_0, .int .i64 a1_1, .int .i64 a1_2]) (t := 92) ?hr ?_; (case hd => rfl); (case hg => rfl); (case hr => first | (go_simp; done) | (go_simp; rfl)); intro gb188 hg w6 hbox hb; have n0_ := zaO (zaL (g := gb187) (o := .cells #[.int .i64 a0_0, .int .i64 a0_1, .int .i64 a0_2] 92 (0, 0)) (by (with_reducible repeat (first | apply zaC | apply zaF | apply zaB)); exact BK187.out) hb); have n1_ := zaO (zaK (by repeat (first | (with_reducible first | exact HB.out | apply zaE | apply zaA | apply zaD | refine zaH ?_ GE187.out) | exact HB.out)) hb); have n2_ := zaO (hbox); have n3_ := zaO ((by rw [hg]; exact (zaP (by repeat (first | (with_reducible first | exact HB.out | apply zaE | apply zaA | apply zaD | refine zaH ?_ GE187.out) | exact HB.out))) : w.heap.size ≤ gb188)); have n4_ := n3_; have n5_ := zaO ((by rw [hg]; exact Nat.ne_of_lt (zbN (g := gb187) (o := .cells #[.int .i64 a0_0, .int .i64 a0_1, .int .i64 a0_2] 92 (0, 0)) (by (with_reducible repeat (first | apply zaC | apply zaF | apply zaB)); exact BK187.out)) : gb187 ≠ gb188)); have n6_ := zaO ((by rw [hg]; exact Nat.ne_of_gt (zbN (g := gb187) (o := .cells #[.int .i64 a0_0, .int .i64 a0_1, .int .i64 a0_2] 92 (0, 0)) (by (with_reducible repeat (first | apply zaC | apply zaF | apply zaB)); exact BK187.out)) : gb188 ≠ gb187)); clear BK187; clear HB; have BK187 := n0_; have HB := n1_; have BK188 := n2_; have GW188 := n3_; have GE188 := n4_; have NB187_188 := n5_; have NB188_187 := n6_; clear n0_ n1_ n2_ n3_ n4_ n5_ n6_; clear hb hbox hg) | ((with_reducible refine zbC (N := 4) rfl ?_); refine zaW ?hg (N := 4) ?hd (cs := #[.int .i64 0, .int .i64 0, .int .i64 0]) (t := 92) ?hr ?_; (case hd => rfl); (case hg => rfl); (case hr => first | (go_simp; done) | (go_simp; rfl)); intro gb189 hg w7 hbox hb; have n0_ := zaO (zaL (g := gb187) (o := .cells #[.int .i64 a0_0, .int .i64 a0_1, .int .i64 a0_2] 92 (0, 0)) (by (with_reducible repeat (first | apply zaC | apply zaF | apply zaB)); exact BK187.out) hb); have n1_ := zaO (zaL (g := gb188) (o := .cells #[.int .i64 a1_0, .int .i64 a1_1, .int .i64 a1_2] 92 (0, 0)) (by (with_reducible repeat (first | apply zaC | apply zaF | apply zaB)); exact BK188.out) hb); have n2_ := zaO (zaK (by repeat (first | (with_reducible first | exact HB.out | apply zaE | apply zaA | apply zaD | refine zaH ?_ GE187.out | refine zaH ?_ GE188.out) | exact HB.out)) hb); have n3_ := zaO (hbox); have n4_ := zaO ((by rw [hg]; exact (zaP (by repeat (first | (with_reducible first | exact HB.out | apply zaE | apply zaA | apply zaD | refine zaH ?_ GE187.out | refine zaH ?_ GE188.out) | exact HB.out))) : w.heap.size ≤ gb189)); have n5_ := n4_; have n6_ := zaO ((by rw [hg]; exact Nat.ne_of_lt (zbN (g := gb187) (o := .cells #[.int .i64 a0_0, .int .i64 a0_1, .int .i64 a0_2] 92 (0, 0)) (by (with_reducible repeat (first | apply zaC | apply zaF | apply zaB)); exact BK187.out)) : gb187 ≠ gb189)); have n7_ := zaO ((by rw [hg]; exact Nat.ne_of_gt (zbN (g := gb187) (o := .cells #[.int .i64 a0_0, .int .i64 a0_1, .int .i64 a0_2] 92 (0, 0)) (by (with_reducible repeat (first | apply zaC | apply zaF | apply zaB)); exact BK187.out)) : gb189 ≠ gb187)); have n8_ := zaO ((by rw [hg]; exact Nat.ne_of_lt (zbN (g := gb188) (o := .cells #[.int .i64 a1_0, .int .i64 a1_1, .int .i64 a1_2] 92 (0, 0)) (by (with_reducible repeat (first | apply zaC | apply zaF | apply zaB)); exact BK188.out)) : gb188 ≠ gb189)); have n9_ := zaO ((by rw [hg]; exact Nat.ne_of_gt (zbN (g := gb188) (o := .cells #[.int .i64 a1_0, .int .i64 a1_1, .int .i64 a1_2] 92 (0, 0)) (by (with_reducible repeat (first | apply zaC | apply zaF | apply zaB)); exact BK188.out)) : gb189 ≠ gb188)); clear BK187; clear BK188; clear HB; have BK187 := n0_; have BK188 := n1_; have HB := n2_; have BK189 := n3_; have GW189 := n4_; have GE189 := n5_; have NB187_189 := n6_; have NB189_187 := n7_; have NB188_189 := n8_; have NB189_188 := n9_; clear n0_ n1_ n2_ n3_ n4_ n5_ n6_ n7_ n8_ n9_; clear hb hbox hg))
 have n0_ := zaO (zaF BK187.out)
 have n1_ := zaO (zaF BK188.out)
 have n2_ := zaO (zaF BK189.out)
 have n3_ := zaO (zaD HB.out)
 clear BK187
 clear BK188
 clear BK189
 clear HB
 have BK187 := n0_
 have BK188 := n1_
 have BK189 := n2_
 have HB := n3_
 clear n0_ n1_ n2_ n3_
 refine zdU (n := 5) (S := fun w' => w'.cell? ⟨gb187, 0, none⟩ = some (.int .i64 a0_0) ∧ w'.cell? ⟨gb187, 1, none⟩ = some (.int .i64 a0_1) ∧ w'.cell? ⟨gb187, 2, none⟩ = some (.int .i64 a0_2) ∧ w'.cell? ⟨gb188, 0, none⟩ = some (.int .i64 a1_0) ∧ w'.cell? ⟨gb188, 1, none⟩ = some (.int .i64 a1_1) ∧ w'.cell? ⟨gb188, 2, none⟩ = some (.int .i64 a1_2)) (ds := []) #[false, false, false, false, false] (by kernel_rfl) rfl rfl ⟨(zaI BK187.out 0).trans rfl, (zaI BK187.out 1).trans rfl, (zaI BK187.out 2).trans rfl, (zaI BK188.out 0).trans rfl, (zaI BK188.out 1).trans rfl, (zaI BK188.out 2).trans rfl⟩ (fun hHeld => ?_)
 generalize w7.drew = w8 at BK187 BK188 BK189 HB hHeld ⊢
 refine take_ (i := 0) (N := some 5) (v := ?_) (a' := ?_) #[true, false, false, false, false] rfl rfl (by kernel_rfl) (fun _ _ _ h => h) (Or.inl ⟨by rfl, ?_⟩) hHeld ?_ ?_
 rotate_left
 ·rintro w' ⟨s0, s1, s2, s3, s4, s5⟩
  go_simp
  with_reducible rfl
 rotate_left
 ·simp only [Act.put, List.setIfInBounds_toArray, List.set_cons_zero, List.set_cons_succ, zaT, zaU]
  rfl
 refine take_ (i := 1) (N := some 6) (v := ?_) (a' := ?_) #[true, true, false, false, false] rfl rfl (by kernel_rfl) (fun _ _ _ h => h) (Or.inl ⟨by rfl, ?_⟩) hHeld ?_ ?_
 rotate_left
 ·rintro w' ⟨s0, s1, s2, s3, s4, s5⟩
  go_simp
  with_reducible rfl
 rotate_left
 ·simp only [Act.put, List.setIfInBounds_toArray, List.set_cons_zero, List.set_cons_succ, zaT, zaU]
  rfl
 refine zeX (i := 2) (N := some 7) #[true, true, true, false, false] rfl rfl (by kernel_rfl) (by decide) (fun K hK => ?_)
 refine zdI Tryd.func172 (by kernel_rfl) rfl #[.agg #[.int .i64 a1_0, .int .i64 a1_1, .int .i64 a1_2]] (by rfl) rfl rfl (by (try simp only [List.map_toArray, List.map_cons, List.map_nil]); first | done | rfl | (simp only [List.length_drop, List.length_take]; rfl)) ?_
 with_reducible refine (zeT.calls a1_0 a1_1 a1_2 t190 t191 t192 _ A3.out).mono ?_
 rintro e w9 ⟨rfl, hb⟩
 refine ⟨_, rfl, ?_⟩
 have n0_ := zaO (zaL (g := gb187) (o := .cells #[.int .i64 a0_0, .int .i64 a0_1, .int .i64 a0_2] 92 (0, 0)) (by (with_reducible repeat (first | apply zaC | apply zaF | apply zaB)); exact BK187.out) hb)
 have n1_ := zaO (zaL (g := gb188) (o := .cells #[.int .i64 a1_0, .int .i64 a1_1, .int .i64 a1_2] 92 (0, 0)) (by (with_reducible repeat (first | apply zaC | apply zaF | apply zaB)); exact BK188.out) hb)
 have n2_ := zaO (zaL (g := gb189) (o := .cells #[.int .i64 0, .int .i64 0, .int .i64 0] 92 (0, 0)) (by (with_reducible repeat (first | apply zaC | apply zaF | apply zaB)); exact BK189.out) hb)
 have n3_ := zaO (zaK (by repeat (first | (with_reducible first | exact HB.out | apply zaE | apply zaA | apply zaD | refine zaH ?_ GE187.out | refine zaH ?_ GE188.out | refine zaH ?_ GE189.out) | exact HB.out)) hb)
 clear BK187
 clear BK188
 clear BK189
 clear HB
 have BK187 := n0_
 have BK188 := n1_
 have BK189 := n2_
 have HB := n3_
 clear n0_ n1_ n2_ n3_
 (try clear hb)
 (try clear hb2)
 (try clear hk)
 (try clear hi)
 refine hK.out _ _ ⟨(zaI BK187.out 0).trans rfl, (zaI BK187.out 1).trans rfl, (zaI BK187.out 2).trans rfl, (zaI BK188.out 0).trans rfl, (zaI BK188.out 1).trans rfl, (zaI BK188.out 2).trans rfl⟩ (fun hHeld => ?_)
 clear hK K
 refine zdL (a' := ?_) ?_ ?_
 rotate_left
 ·show Act.put _ (some 7) _ = _
  simp only [Act.put, List.setIfInBounds_toArray, List.set_cons_zero, List.set_cons_succ, zaT, zaU]
  rfl
 refine zeX (i := 3) (N := some 8) #[true, true, true, true, false] rfl rfl (by kernel_rfl) (by decide) (fun K hK => ?_)
 refine zdI Tryd.func148 (by kernel_rfl) rfl #[.agg #[.int .i64 a0_0, .int .i64 a0_1, .int .i64 a0_2], .agg #[.int .i64 t190, .int .i64 t191, .int .i64 t192]] (by rfl) rfl rfl (by (try simp only [List.map_toArray, List.map_cons, List.map_nil]); first | done | rfl | (simp only [List.length_drop, List.length_take]; rfl)) ?_
 with_reducible refine (zbO.calls k a0_0 a0_1 a0_2 t190 t191 t192 t193 t194 t195 _ A4.out).mono ?_
 rintro e w10 ⟨rfl, hb⟩
 refine ⟨_, rfl, ?_⟩
 have n0_ := zaO (zaL (g := gb187) (o := .cells #[.int .i64 a0_0, .int .i64 a0_1, .int .i64 a0_2] 92 (0, 0)) (by (with_reducible repeat (first | apply zaC | apply zaF | apply zaB)); exact BK187.out) hb)
 have n1_ := zaO (zaL (g := gb188) (o := .cells #[.int .i64 a1_0, .int .i64 a1_1, .int .i64 a1_2] 92 (0, 0)) (by (with_reducible repeat (first | apply zaC | apply zaF | apply zaB)); exact BK188.out) hb)
 have n2_ := zaO (zaL (g := gb189) (o := .cells #[.int .i64 0, .int .i64 0, .int .i64 0] 92 (0, 0)) (by (with_reducible repeat (first | apply zaC | apply zaF | apply zaB)); exact BK189.out) hb)
 have n3_ := zaO (zaK (by repeat (first | (with_reducible first | exact HB.out | apply zaE | apply zaA | apply zaD | refine zaH ?_ GE187.out | refine zaH ?_ GE188.out | refine zaH ?_ GE189.out) | exact HB.out)) hb)
 clear BK187
 clear BK188
 clear BK189
 clear HB
 have BK187 := n0_
 have BK188 := n1_
 have BK189 := n2_
 have HB := n3_
 clear n0_ n1_ n2_ n3_
 (try clear hb)
 (try clear hb2)
 (try clear hk)
 (try clear hi)
 refine hK.out _ _ ⟨(zaI BK187.out 0).trans rfl, (zaI BK187.out 1).trans rfl, (zaI BK187.out 2).trans rfl, (zaI BK188.out 0).trans rfl, (zaI BK188.out 1).trans rfl, (zaI BK188.out 2).trans rfl⟩ (fun hHeld => ?_)
 clear hK K
 refine zdL (a' := ?_) ?_ ?_
 rotate_left
 ·show Act.put _ (some 8) _ = _
  simp only [Act.put, List.setIfInBounds_toArray, List.set_cons_zero, List.set_cons_succ, zaT, zaU]
  rfl
 refine zeX (i := 4) (N := none) #[true, true, true, true, true] rfl rfl (by kernel_rfl) (by decide) (fun K hK => ?_)
 have hs11 : w10.cell? ⟨gb189, 0, none⟩ = some (.int .i64 0) := (zaI BK189.out 0).trans rfl
 have hfs11 := zbM BK189.out 0
 have hns11_0 := NB187_189.out
 have hns11_1 := NB188_189.out
 have hms11_0 := NB189_187.out
 have hms11_1 := NB189_188.out
 have hs12 : w10.cell? ⟨gb189, 1, none⟩ = some (.int .i64 0) := (zaI BK189.out 1).trans rfl
 have hfs12 := zbM BK189.out 1
 have hns12_0 := NB187_189.out
 have hns12_1 := NB188_189.out
 have hms12_0 := NB189_187.out
 have hms12_1 := NB189_188.out
 have hs13 : w10.cell? ⟨gb189, 2, none⟩ = some (.int .i64 0) := (zaI BK189.out 2).trans rfl
 have hfs13 := zbM BK189.out 2
 have hns13_0 := NB187_189.out
 have hns13_1 := NB188_189.out
 have hms13_0 := NB189_187.out
 have hms13_1 := NB189_188.out
 refine skip_ (w1 := ?_) (by rfl) rfl ?_ ?_
 rotate_left
 ·go_simp
  rfl
 refine hK.out _ _ ⟨((zaJ (p := ⟨gb189, _, none⟩) NB187_189.out _).trans (((zaJ (p := ⟨gb189, _, none⟩) NB187_189.out _).trans (((zaJ (p := ⟨gb189, _, none⟩) NB187_189.out _).trans (hHeld.1)))))), ((zaJ (p := ⟨gb189, _, none⟩) NB187_189.out _).trans (((zaJ (p := ⟨gb189, _, none⟩) NB187_189.out _).trans (((zaJ (p := ⟨gb189, _, none⟩) NB187_189.out _).trans (hHeld.2.1)))))), ((zaJ (p := ⟨gb189, _, none⟩) NB187_189.out _).trans (((zaJ (p := ⟨gb189, _, none⟩) NB187_189.out _).trans (((zaJ (p := ⟨gb189, _, none⟩) NB187_189.out _).trans (hHeld.2.2.1)))))), ((zaJ (p := ⟨gb189, _, none⟩) NB188_189.out _).trans (((zaJ (p := ⟨gb189, _, none⟩) NB188_189.out _).trans (((zaJ (p := ⟨gb189, _, none⟩) NB188_189.out _).trans (hHeld.2.2.2.1)))))), ((zaJ (p := ⟨gb189, _, none⟩) NB188_189.out _).trans (((zaJ (p := ⟨gb189, _, none⟩) NB188_189.out _).trans (((zaJ (p := ⟨gb189, _, none⟩) NB188_189.out _).trans (hHeld.2.2.2.2.1)))))), ((zaJ (p := ⟨gb189, _, none⟩) NB188_189.out _).trans (((zaJ (p := ⟨gb189, _, none⟩) NB188_189.out _).trans (((zaJ (p := ⟨gb189, _, none⟩) NB188_189.out _).trans (hHeld.2.2.2.2.2))))))⟩ (fun hHeld => ?_)
 clear hK K
 refine done_ (by kernel_rfl) ?_
 try go_wp2
 refine bodyPost_ret (results_cell_row rfl _ _ gb189 92 #[.int .i64 t193, .int .i64 t194, .int .i64 t195] (0, 0) _ rfl (by (with_reducible repeat (first | apply zaC | apply zaF | apply zaB)); refine zaR (cs := #[.int .i64 t193, .int .i64 t194, .int .i64 0]) ?_ 2 _ rfl; (with_reducible repeat (first | apply zaC | apply zaF | apply zaB)); refine zaR (cs := #[.int .i64 t193, .int .i64 0, .int .i64 0]) ?_ 1 _ rfl; (with_reducible repeat (first | apply zaC | apply zaF | apply zaB)); refine zaR (cs := #[.int .i64 0, .int .i64 0, .int .i64 0]) ?_ 0 _ rfl; (with_reducible repeat (first | apply zaC | apply zaF | apply zaB)); exact BK189.out) Tryd.underlying92 rfl (by kernel_rfl)) rfl ?_
 exact ⟨by first | rfl | (simp [zaN, zaM] <;> rfl) | (simp [*, zaN, zaM] <;> rfl), by repeat (first | (with_reducible first | exact HB.out | apply zaE | apply zaA | apply zaD | refine zaH ?_ GE187.out | refine zaH ?_ GE188.out | refine zaH ?_ GE189.out) | exact HB.out)⟩

def zcD.f (k : Nat) (a0_0 : Int) (a0_1 : Int) (a0_2 : Int) (a0_3 : Int) (a0_4 : Int) (a0_5 : Int) (a1_0 : Int) (a1_1 : Int) (a1_2 : Int) (a1_3 : Int) (a1_4 : Int) (a1_5 : Int) : Option (Int × Int × Int × Int × Int × Int) := (zcL.f k a0_0 a0_1 a0_2 a1_0 a1_1 a1_2).bind fun bt199 => ((zcL.f k a0_3 a0_4 a0_5 a1_3 a1_4 a1_5).bind fun bt202 => (some (bt199.1, bt199.2.1, bt199.2.2, bt202.1, bt202.2.1, bt202.2.2)))
theorem zcD.mono : ∀ a0 a1 a2 a3 a4 a5 a6 a7 a8 a9 a10 a11 k, LeO (zcD.f k a0 a1 a2 a3 a4 a5 a6 a7 a8 a9 a10 a11) (zcD.f (k + 1) a0 a1 a2 a3 a4 a5 a6 a7 a8 a9 a10 a11) := by
 intro a0 a1 a2 a3 a4 a5 a6 a7 a8 a9 a10 a11 k
 unfold zcD.f
 repeat' first
   | (with_reducible exact zcL.mono _ _ _ _ _ _ _)
   | (with_reducible exact LeO.refl _)
   | (with_reducible exact LeO.none _)
   | (with_reducible refine LeO.ite ?_ ?_)
   | (with_reducible refine LeO.bind ?_ (fun _ => ?_))
   | exact zcL.mono _ _ _ _ _ _ _
   | exact LeO.none _
   | refine LeO.ite ?_ ?_
   | refine LeO.bind ?_ (fun _ => ?_)
def zcD.T1 : Bool × List (List Nat × List Nat) := (true, [([], []), ([0], [0]), ([], []), ([2], [2]), ([1, 3], [1, 3]), ([], []), ([5], [5]), ([], []), ([7], [7]), ([6, 8, 4], [6, 8]), ([4, 9], [4, 9]), ([10, 9, 0, 1, 2, 3, 4, 5, 6, 7, 8, 9, 10], [10])])
def zcD.B1 : List Nat := [0, 1, 0, 4, 15, 0, 32, 0, 128, 511, 1023, 2047]
theorem zcD.tab1 : rtab .any (opsOf Tryd.f111 1) = zcD.T1 := by kernel_rfl
theorem zcD.bits1 : zeC zcD.T1.2 zcD.B1 = true := by kernel_rfl
set_option maxHeartbeats 8000000 in
set_option maxRecDepth 100000 in
theorem zcD.calls (k : Nat) (a0_0 : Int) (a0_1 : Int) (a0_2 : Int) (a0_3 : Int) (a0_4 : Int) (a0_5 : Int) (a1_0 : Int) (a1_1 : Int) (a1_2 : Int) (a1_3 : Int) (a1_4 : Int) (a1_5 : Int) (r1 : Int) (r2 : Int) (r3 : Int) (r4 : Int) (r5 : Int) (r6 : Int) (w : World) (h : zcD.f k a0_0 a0_1 a0_2 a0_3 a0_4 a0_5 a1_0 a1_1 a1_2 a1_3 a1_4 a1_5 = some (r1, r2, r3, r4, r5, r6)) :
  Calls Tryd.prog 111 #[.agg #[.int .i64 a0_0, .int .i64 a0_1, .int .i64 a0_2, .int .i64 a0_3, .int .i64 a0_4, .int .i64 a0_5], .agg #[.int .i64 a1_0, .int .i64 a1_1, .int .i64 a1_2, .int .i64 a1_3, .int .i64 a1_4, .int .i64 a1_5]] w fun e w' => e = .returned (.agg #[.int .i64 r1, .int .i64 r2, .int .i64 r3, .int .i64 r4, .int .i64 r5, .int .i64 r6]) ∧ Below w.heap.size w w' := by
 have hu94 := Tryd.underlying94
 have hu92 := Tryd.underlying92
 have HB := zaO (Below.refl w.heap.size w)
 have H : ((zcL.f k a0_0 a0_1 a0_2 a1_0 a1_1 a1_2).bind fun bt199 => ((zcL.f k a0_3 a0_4 a0_5 a1_3 a1_4 a1_5).bind fun bt202 => (some (bt199.1, bt199.2.1, bt199.2.2, bt202.1, bt202.2.1, bt202.2.2)))) = some (r1, r2, r3, r4, r5, r6) := h
 clear h
 replace H := Option.bind_eq_some_iff.mp H
 obtain ⟨⟨t199, t200, t201⟩, A30, H⟩ := H
 replace H : ((zcL.f k a0_3 a0_4 a0_5 a1_3 a1_4 a1_5).bind fun bt202 => (some (t199, t200, t201, bt202.1, bt202.2.1, bt202.2.2))) = some (r1, r2, r3, r4, r5, r6) := H
 have A3 := zaO A30
 clear A30
 replace H := Option.bind_eq_some_iff.mp H
 obtain ⟨⟨t202, t203, t204⟩, A40, H⟩ := H
 replace H : (some (t199, t200, t201, t202, t203, t204)) = some (r1, r2, r3, r4, r5, r6) := H
 have A4 := zaO A40
 clear A40
 simp only [Option.some.injEq, Prod.mk.injEq] at H
 obtain ⟨rfl, rfl, rfl, rfl, rfl, rfl⟩ := H
 go_enter Tryd.func111, Tryd.ntmps111
 try go_wp2_with (first | ((with_reducible refine zbC (N := 2) rfl ?_); refine zaW ?hg (N := 2) ?hd (cs := #[.int .i64 a0_0, .int .i64 a0_1, .int .i64 a0_2, .int .i64 a0_3, .int .i64 a0_4, .int .i64 a0_5]) (t := 94) ?hr ?_; (case hd => rfl); (case hg => rfl); (case hr => first | (go_simp; done) | (go_simp; rfl)); intro gb196 hg w5 hbox hb; have n0_ := zaO (zaK (by repeat (first | (with_reducible first | exact HB.out | apply zaE | apply zaA | apply zaD) | exact HB.out)) hb); have n1_ := zaO (hbox); have n2_ := zaO ((by rw [hg]; exact (zaP (by repeat (first | (with_reducible first | exact HB.out | apply zaE | apply zaA | apply zaD) | exact HB.out))) : w.heap.size ≤ gb196)); have n3_ := n2_; clear HB; have HB := n0_; have BK196 := n1_; have GW196 := n2_; have GE196 := n3_; clear n0_ n1_ n2_ n3_; clear hb hbox hg) | ((with_reducible refine zbC (N := 3) rfl ?_); refine zaW ?hg (N := 3) ?hd (cs := #[.int .i64 a1_0, .int .i64 a1_1, .int .i64 a1_2, .int .i64 a1_3, .int .i64 a1_4, .int .i64 a1_5]) (t := 94) ?hr ?_; (case hd => rfl); (case hg => rfl); (case hr => first | (go_simp; done) | (go_simp; rfl)); intro gb197 hg w6 hbox hb; have n0_ := zaO (zaL (g := gb196) (o := .cells #[.int .i64 a0_0, .int .i64 a0_1, .int .i64 a0_2, .int .i64 a0_3, .int .i64 a0_4, .int .i64 a0_5] 94 (0, 0)) (by (with_reducible repeat (first | apply zaC | apply zaF | apply zaB)); exact BK196.out) hb); have n1_ := zaO (zaK (by repeat (first | (with_reducible first | exact HB.out | apply zaE | apply zaA | apply zaD | refine zaH ?_ GE196.out) | exact HB.out)) hb); have n2_ := zaO (hbox); have n3_ := zaO ((by rw [hg]; exact (zaP (by repeat (first | (with_reducible first | exact HB.out | apply zaE | apply zaA | apply zaD | refine zaH ?_ GE196.out) | exact HB.out))) : w.heap.size ≤ gb197)); have n4_ := n3_; have n5_ := zaO ((by rw [hg]; exact Nat.ne_of_lt (zbN (g := gb196) (o := .cells #[.int .i64 a0_0, .int .i64 a0_1, .int .i64 a0_2, .int .i64 a0_3, .int .i64 a0_4, .int .i64 a0_5] 94 (0, 0)) (by (with_reducible repeat (first | apply zaC | apply zaF | apply zaB)); exact BK196.out)) : gb196 ≠ gb197)); have n6_ := zaO ((by rw [hg]; exact Nat.ne_of_gt (zbN (g := gb196) (o := .cells #[.int .i64 a0_0, .int .i64 a0_1, .int .i64 a0_2, .int .i64 a0_3, .int .i64 a0_4, .int .i64 a0_5] 94 (0, 0)) (by (with_reducible repeat (first | apply zaC | apply zaF | apply zaB)); exact BK196.out)) : gb197 ≠ gb196)); clear BK196; clear HB; have BK196 := n0_; have HB := n1_; have BK197 := n2_; have GW197 := n3_; have GE197 := n4_; have NB196_197 := n5_; have NB197_196 := n6_; clear n0_ n1_ n2_ n3_ n4_ n5_ n6_; clear hb hbox hg) | ((with_reducible refine zbC (N := 4) rfl ?_); refine zaW ?hg (N := 4) ?hd (cs := #[.int .i64 0, .int .i64 0, .int .i64 0, .int .i64 0, .int .i64 0, .int .i64 0]) (t := 94) ?hr ?_; (case hd => rfl); (case hg => rfl); (case hr => first | (go_simp; done) | (go_simp; rfl)); intro gb198 hg w7 hbox hb; have n0_ := zaO (zaL (g := gb196) (o := .cells #[.int .i64 a0_0, .int .i64 a0_1, .int .i64 a0_2, .int .i64 a0_3, .int .i64 a0_4, .int .i64 a0_5] 94 (0, 0)) (by (with_reducible repeat (first | apply zaC | apply zaF | apply zaB)); exact BK196.out) hb); have n1_ := zaO (zaL (g := gb197) (o := .cells #[.int .i64 a1_0, .int .i64 a1_1, .int .i64 a1_2, .int .i64 a1_3, .int .i64 a1_4, .int .i64 a1_5] 94 (0, 0)) (by (with_reducible repeat (first | apply zaC | apply zaF | apply zaB)); exact BK197.out) hb); have n2_ := zaO (zaK (by repeat (first | (with_reducible first | exact HB.out | apply zaE | apply zaA | apply zaD | refine zaH ?_ GE196.out | refine zaH ?_ GE197.out) | exact HB.out)) hb); have n3_ := zaO (hbox); have n4_ := zaO ((by rw [hg]; exact (zaP (by repeat (first | (with_reducible first | exact HB.out | apply zaE | apply zaA | apply zaD | refine zaH ?_ GE196.out | refine zaH ?_ GE197.out) | exact HB.out))) : w.heap.size ≤ gb198)); have n5_ := n4_; have n6_ := zaO ((by rw [hg]; exact Nat.ne_of_lt (zbN (g := gb196) (o := .cells #[.int .i64 a0_0, .int .i64 a0_1, .int .i64 a0_2, .int .i64 a0_3, .int .i64 a0_4, .int .i64 a0_5] 94 (0, 0)) (by (with_reducible repeat (first | apply zaC | apply zaF | apply zaB)); exact BK196.out)) : gb196 ≠ gb198)); have n7_ := zaO ((by rw [hg]; exact Nat.ne_of_gt (zbN (g := gb196) (o := .cells #[.int .i64 a0_0, .int .i64 a0_1, .int .i64 a0_2, .int .i64 a0_3, .int .i64 a0_4, .int .i64 a0_5] 94 (0, 0)) (by (with_reducible repeat (first | apply zaC | apply zaF | apply zaB)); exact BK196.out)) : gb198 ≠ gb196)); have n8_ := zaO ((by rw [hg]; exact Nat.ne_of_lt (zbN (g := gb197) (o := .cells #[.int .i64 a1_0, .int .i64 a1_1, .int .i64 a1_2, .int .i64 a1_3, .int .i64 a1_4, .int .i64 a1_5] 94 (0, 0)) (by (with_reducible repeat (first | apply zaC | apply zaF | apply zaB)); exact BK197.out)) : gb197 ≠ gb198)); have n9_ := zaO ((by rw [hg]; exact Nat.ne_of_gt (zbN (g := gb197) (o := .cells #[.int .i64 a1_0, .int .i64 a1_1, .int .i64 a1_2, .int .i64 a1_3, .int .i64 a1_4, .int .i64 a1_5] 94 (0, 0)) (by (with_reducible repeat (first | apply zaC | apply zaF | apply zaB)); exact BK197.out)) : gb198 ≠ gb197)); clear BK196; clear BK197; clear HB; have BK196 := n0_; have BK197 := n1_; have HB := n2_; have BK198 := n3_; have GW198 := n4_; have GE198 := n5_; have NB196_198 := n6_; have NB198_196 := n7_; have NB197_198 := n8_; have NB198_197 := n9_; clear n0_ n1_ n2_ n3_ n4_ n5_ n6_ n7_ n8_ n9_; clear hb hbox hg))
 have n0_ := zaO (zaF BK196.out)
 have n1_ := zaO (zaF BK197.out)
 have n2_ := zaO (zaF BK198.out)
 have n3_ := zaO (zaD HB.out)
 clear BK196
 clear BK197
 clear BK198
 clear HB
 have BK196 := n0_
 have BK197 := n1_
 have BK198 := n2_
 have HB := n3_
 clear n0_ n1_ n2_ n3_
 refine zdU (n := 12) (S := fun w' => w'.cell? ⟨gb196, 0, none⟩ = some (.int .i64 a0_0) ∧ w'.cell? ⟨gb196, 1, none⟩ = some (.int .i64 a0_1) ∧ w'.cell? ⟨gb196, 2, none⟩ = some (.int .i64 a0_2) ∧ w'.cell? ⟨gb196, 3, none⟩ = some (.int .i64 a0_3) ∧ w'.cell? ⟨gb196, 4, none⟩ = some (.int .i64 a0_4) ∧ w'.cell? ⟨gb196, 5, none⟩ = some (.int .i64 a0_5) ∧ w'.cell? ⟨gb197, 0, none⟩ = some (.int .i64 a1_0) ∧ w'.cell? ⟨gb197, 1, none⟩ = some (.int .i64 a1_1) ∧ w'.cell? ⟨gb197, 2, none⟩ = some (.int .i64 a1_2) ∧ w'.cell? ⟨gb197, 3, none⟩ = some (.int .i64 a1_3) ∧ w'.cell? ⟨gb197, 4, none⟩ = some (.int .i64 a1_4) ∧ w'.cell? ⟨gb197, 5, none⟩ = some (.int .i64 a1_5)) (ds := []) #[false, false, false, false, false, false, false, false, false, false, false, false] (by kernel_rfl) rfl rfl ⟨(zaI BK196.out 0).trans rfl, (zaI BK196.out 1).trans rfl, (zaI BK196.out 2).trans rfl, (zaI BK196.out 3).trans rfl, (zaI BK196.out 4).trans rfl, (zaI BK196.out 5).trans rfl, (zaI BK197.out 0).trans rfl, (zaI BK197.out 1).trans rfl, (zaI BK197.out 2).trans rfl, (zaI BK197.out 3).trans rfl, (zaI BK197.out 4).trans rfl, (zaI BK197.out 5).trans rfl⟩ (fun hHeld => ?_); refine zcT zcD.tab1 zcD.bits1 (fun HT_ HW_ => ?_)
 generalize w7.drew = w8 at BK196 BK197 BK198 HB hHeld ⊢
 refine zbL (i := 0) (N := some 5) (v := ?_) (a' := ?_) #[true, false, false, false, false, false, false, false, false, false, false, false] rfl rfl (zaY HT_.out (by kernel_rfl)) (fun _ _ _ h => h) (Or.inl ⟨by rfl, ?_⟩) ?_ ?_
 rotate_left
 ·intro w'
  go_simp
  with_reducible rfl
 rotate_left
 ·simp only [Act.put, List.setIfInBounds_toArray, List.set_cons_zero, List.set_cons_succ, zaT, zaU]
  rfl
 refine zbL (i := 2) (N := some 7) (v := ?_) (a' := ?_) #[true, false, true, false, false, false, false, false, false, false, false, false] rfl rfl (zaY HT_.out (by kernel_rfl)) (fun _ _ _ h => h) (Or.inl ⟨by rfl, ?_⟩) ?_ ?_
 rotate_left
 ·intro w'
  go_simp
  with_reducible rfl
 rotate_left
 ·simp only [Act.put, List.setIfInBounds_toArray, List.set_cons_zero, List.set_cons_succ, zaT, zaU]
  rfl
 refine zbL (i := 5) (N := some 10) (v := ?_) (a' := ?_) #[true, false, true, false, false, true, false, false, false, false, false, false] rfl rfl (zaY HT_.out (by kernel_rfl)) (fun _ _ _ h => h) (Or.inl ⟨by rfl, ?_⟩) ?_ ?_
 rotate_left
 ·intro w'
  go_simp
  with_reducible rfl
 rotate_left
 ·simp only [Act.put, List.setIfInBounds_toArray, List.set_cons_zero, List.set_cons_succ, zaT, zaU]
  rfl
 refine zbL (i := 7) (N := some 12) (v := ?_) (a' := ?_) #[true, false, true, false, false, true, false, true, false, false, false, false] rfl rfl (zaY HT_.out (by kernel_rfl)) (fun _ _ _ h => h) (Or.inl ⟨by rfl, ?_⟩) ?_ ?_
 rotate_left
 ·intro w'
  go_simp
  with_reducible rfl
 rotate_left
 ·simp only [Act.put, List.setIfInBounds_toArray, List.set_cons_zero, List.set_cons_succ, zaT, zaU]
  rfl
 refine take_ (i := 1) (N := some 6) (v := ?_) (a' := ?_) #[true, true, true, false, false, true, false, true, false, false, false, false] rfl rfl (zbU HT_.out HW_.out (by kernel_rfl)) (fun _ _ _ h => h) (Or.inl ⟨by rfl, ?_⟩) hHeld ?_ ?_
 rotate_left
 ·rintro w' ⟨s0, s1, s2, s3, s4, s5, s6, s7, s8, s9, s10, s11⟩
  go_simp
  with_reducible rfl
 rotate_left
 ·simp only [Act.put, List.setIfInBounds_toArray, List.set_cons_zero, List.set_cons_succ, zaT, zaU]
  rfl
 refine take_ (i := 3) (N := some 8) (v := ?_) (a' := ?_) #[true, true, true, true, false, true, false, true, false, false, false, false] rfl rfl (zbU HT_.out HW_.out (by kernel_rfl)) (fun _ _ _ h => h) (Or.inl ⟨by rfl, ?_⟩) hHeld ?_ ?_
 rotate_left
 ·rintro w' ⟨s0, s1, s2, s3, s4, s5, s6, s7, s8, s9, s10, s11⟩
  go_simp
  with_reducible rfl
 rotate_left
 ·simp only [Act.put, List.setIfInBounds_toArray, List.set_cons_zero, List.set_cons_succ, zaT, zaU]
  rfl
 refine take_ (i := 6) (N := some 11) (v := ?_) (a' := ?_) #[true, true, true, true, false, true, true, true, false, false, false, false] rfl rfl (zbU HT_.out HW_.out (by kernel_rfl)) (fun _ _ _ h => h) (Or.inl ⟨by rfl, ?_⟩) hHeld ?_ ?_
 rotate_left
 ·rintro w' ⟨s0, s1, s2, s3, s4, s5, s6, s7, s8, s9, s10, s11⟩
  go_simp
  with_reducible rfl
 rotate_left
 ·simp only [Act.put, List.setIfInBounds_toArray, List.set_cons_zero, List.set_cons_succ, zaT, zaU]
  rfl
 refine take_ (i := 8) (N := some 13) (v := ?_) (a' := ?_) #[true, true, true, true, false, true, true, true, true, false, false, false] rfl rfl (zbU HT_.out HW_.out (by kernel_rfl)) (fun _ _ _ h => h) (Or.inl ⟨by rfl, ?_⟩) hHeld ?_ ?_
 rotate_left
 ·rintro w' ⟨s0, s1, s2, s3, s4, s5, s6, s7, s8, s9, s10, s11⟩
  go_simp
  with_reducible rfl
 rotate_left
 ·simp only [Act.put, List.setIfInBounds_toArray, List.set_cons_zero, List.set_cons_succ, zaT, zaU]
  rfl
 refine zeX (i := 4) (N := some 9) #[true, true, true, true, true, true, true, true, true, false, false, false] rfl rfl (zcU HT_.out (by kernel_rfl)) (by decide) (fun K hK => ?_)
 refine zdI Tryd.func145 (by kernel_rfl) rfl #[.agg #[.int .i64 a0_0, .int .i64 a0_1, .int .i64 a0_2], .agg #[.int .i64 a1_0, .int .i64 a1_1, .int .i64 a1_2]] (by rfl) rfl rfl (by (try simp only [List.map_toArray, List.map_cons, List.map_nil]); first | done | rfl | (simp only [List.length_drop, List.length_take]; rfl)) ?_
 with_reducible refine (zcL.calls k a0_0 a0_1 a0_2 a1_0 a1_1 a1_2 t199 t200 t201 _ A3.out).mono ?_
 rintro e w9 ⟨rfl, hb⟩
 refine ⟨_, rfl, ?_⟩
 have n0_ := zaO (zaL (g := gb196) (o := .cells #[.int .i64 a0_0, .int .i64 a0_1, .int .i64 a0_2, .int .i64 a0_3, .int .i64 a0_4, .int .i64 a0_5] 94 (0, 0)) (by (with_reducible repeat (first | apply zaC | apply zaF | apply zaB)); exact BK196.out) hb)
 have n1_ := zaO (zaL (g := gb197) (o := .cells #[.int .i64 a1_0, .int .i64 a1_1, .int .i64 a1_2, .int .i64 a1_3, .int .i64 a1_4, .int .i64 a1_5] 94 (0, 0)) (by (with_reducible repeat (first | apply zaC | apply zaF | apply zaB)); exact BK197.out) hb)
 have n2_ := zaO (zaL (g := gb198) (o := .cells #[.int .i64 0, .int .i64 0, .int .i64 0, .int .i64 0, .int .i64 0, .int .i64 0] 94 (0, 0)) (by (with_reducible repeat (first | apply zaC | apply zaF | apply zaB)); exact BK198.out) hb)
 have n3_ := zaO (zaK (by repeat (first | (with_reducible first | exact HB.out | apply zaE | apply zaA | apply zaD | refine zaH ?_ GE196.out | refine zaH ?_ GE197.out | refine zaH ?_ GE198.out) | exact HB.out)) hb)
 clear BK196
 clear BK197
 clear BK198
 clear HB
 have BK196 := n0_
 have BK197 := n1_
 have BK198 := n2_
 have HB := n3_
 clear n0_ n1_ n2_ n3_
 (try clear hb)
 (try clear hb2)
 (try clear hk)
 (try clear hi)
 refine hK.out _ _ ⟨(zaI BK196.out 0).trans rfl, (zaI BK196.out 1).trans rfl, (zaI BK196.out 2).trans rfl, (zaI BK196.out 3).trans rfl, (zaI BK196.out 4).trans rfl, (zaI BK196.out 5).trans rfl, (zaI BK197.out 0).trans rfl, (zaI BK197.out 1).trans rfl, (zaI BK197.out 2).trans rfl, (zaI BK197.out 3).trans rfl, (zaI BK197.out 4).trans rfl, (zaI BK197.out 5).trans rfl⟩ (fun hHeld => ?_)
 clear hK K
 refine zdL (a' := ?_) ?_ ?_
 rotate_left
 ·show Act.put _ (some 9) _ = _
  simp only [Act.put, List.setIfInBounds_toArray, List.set_cons_zero, List.set_cons_succ, zaT, zaU]
  rfl
 refine zeX (i := 9) (N := some 14) #[true, true, true, true, true, true, true, true, true, true, false, false] rfl rfl (zcU HT_.out (by kernel_rfl)) (by decide) (fun K hK => ?_)
 refine zdI Tryd.func145 (by kernel_rfl) rfl #[.agg #[.int .i64 a0_3, .int .i64 a0_4, .int .i64 a0_5], .agg #[.int .i64 a1_3, .int .i64 a1_4, .int .i64 a1_5]] (by rfl) rfl rfl (by (try simp only [List.map_toArray, List.map_cons, List.map_nil]); first | done | rfl | (simp only [List.length_drop, List.length_take]; rfl)) ?_
 with_reducible refine (zcL.calls k a0_3 a0_4 a0_5 a1_3 a1_4 a1_5 t202 t203 t204 _ A4.out).mono ?_
 rintro e w10 ⟨rfl, hb⟩
 refine ⟨_, rfl, ?_⟩
 have n0_ := zaO (zaL (g := gb196) (o := .cells #[.int .i64 a0_0, .int .i64 a0_1, .int .i64 a0_2, .int .i64 a0_3, .int .i64 a0_4, .int .i64 a0_5] 94 (0, 0)) (by (with_reducible repeat (first | apply zaC | apply zaF | apply zaB)); exact BK196.out) hb)
 have n1_ := zaO (zaL (g := gb197) (o := .cells #[.int .i64 a1_0, .int .i64 a1_1, .int .i64 a1_2, .int .i64 a1_3, .int .i64 a1_4, .int .i64 a1_5] 94 (0, 0)) (by (with_reducible repeat (first | apply zaC | apply zaF | apply zaB)); exact BK197.out) hb)
 have n2_ := zaO (zaL (g := gb198) (o := .cells #[.int .i64 0, .int .i64 0, .int .i64 0, .int .i64 0, .int .i64 0, .int .i64 0] 94 (0, 0)) (by (with_reducible repeat (first | apply zaC | apply zaF | apply zaB)); exact BK198.out) hb)
 have n3_ := zaO (zaK (by repeat (first | (with_reducible first | exact HB.out | apply zaE | apply zaA | apply zaD | refine zaH ?_ GE196.out | refine zaH ?_ GE197.out | refine zaH ?_ GE198.out) | exact HB.out)) hb)
 clear BK196
 clear BK197
 clear BK198
 clear HB
 have BK196 := n0_
 have BK197 := n1_
 have BK198 := n2_
 have HB := n3_
 clear n0_ n1_ n2_ n3_
 (try clear hb)
 (try clear hb2)
 (try clear hk)
 (try clear hi)
 refine hK.out _ _ ⟨(zaI BK196.out 0).trans rfl, (zaI BK196.out 1).trans rfl, (zaI BK196.out 2).trans rfl, (zaI BK196.out 3).trans rfl, (zaI BK196.out 4).trans rfl, (zaI BK196.out 5).trans rfl, (zaI BK197.out 0).trans rfl, (zaI BK197.out 1).trans rfl, (zaI BK197.out 2).trans rfl, (zaI BK197.out 3).trans rfl, (zaI BK197.out 4).trans rfl, (zaI BK197.out 5).trans rfl⟩ (fun hHeld => ?_)
 clear hK K
 refine zdL (a' := ?_) ?_ ?_
 rotate_left
 ·show Act.put _ (some 14) _ = _
  simp only [Act.put, List.setIfInBounds_toArray, List.set_cons_zero, List.set_cons_succ, zaT, zaU]
  rfl
 refine zbL (i := 10) (N := some 15) (v := ?_) (a' := ?_) #[true, true, true, true, true, true, true, true, true, true, true, false] rfl rfl (zaY HT_.out (by kernel_rfl)) (fun _ _ _ h => h) (Or.inl ⟨by rfl, ?_⟩) ?_ ?_
 rotate_left
 ·intro w'
  go_simp
  with_reducible rfl
 rotate_left
 ·simp only [Act.put, List.setIfInBounds_toArray, List.set_cons_zero, List.set_cons_succ, zaT, zaU]
  rfl
 refine zeX (i := 11) (N := none) #[true, true, true, true, true, true, true, true, true, true, true, true] rfl rfl (zcU HT_.out (by kernel_rfl)) (by decide) (fun K hK => ?_)
 have hs11 : w10.cell? ⟨gb198, 0, none⟩ = some (.int .i64 0) := (zaI BK198.out 0).trans rfl
 have hfs11 := zbM BK198.out 0
 have hns11_0 := NB196_198.out
 have hns11_1 := NB197_198.out
 have hms11_0 := NB198_196.out
 have hms11_1 := NB198_197.out
 have hs12 : w10.cell? ⟨gb198, 1, none⟩ = some (.int .i64 0) := (zaI BK198.out 1).trans rfl
 have hfs12 := zbM BK198.out 1
 have hns12_0 := NB196_198.out
 have hns12_1 := NB197_198.out
 have hms12_0 := NB198_196.out
 have hms12_1 := NB198_197.out
 have hs13 : w10.cell? ⟨gb198, 2, none⟩ = some (.int .i64 0) := (zaI BK198.out 2).trans rfl
 have hfs13 := zbM BK198.out 2
 have hns13_0 := NB196_198.out
 have hns13_1 := NB197_198.out
 have hms13_0 := NB198_196.out
 have hms13_1 := NB198_197.out
 have hs14 : w10.cell? ⟨gb198, 3, none⟩ = some (.int .i64 0) := (zaI BK198.out 3).trans rfl
 have hfs14 := zbM BK198.out 3
 have hns14_0 := NB196_198.out
 have hns14_1 := NB197_198.out
 have hms14_0 := NB198_196.out
 have hms14_1 := NB198_197.out
 have hs15 : w10.cell? ⟨gb198, 4, none⟩ = some (.int .i64 0) := (zaI BK198.out 4).trans rfl
 have hfs15 := zbM BK198.out 4
 have hns15_0 := NB196_198.out
 have hns15_1 := NB197_198.out
 have hms15_0 := NB198_196.out
 have hms15_1 := NB198_197.out
 have hs16 : w10.cell? ⟨gb198, 5, none⟩ = some (.int .i64 0) := (zaI BK198.out 5).trans rfl
 have hfs16 := zbM BK198.out 5
 have hns16_0 := NB196_198.out
 have hns16_1 := NB197_198.out
 have hms16_0 := NB198_196.out
 have hms16_1 := NB198_197.out
 refine skip_ (w1 := ?_) (by rfl) rfl ?_ ?_
 rotate_left
 ·go_simp
  rfl
 refine hK.out _ _ ⟨((zaJ (p := ⟨gb198, _, none⟩) NB196_198.out _).trans (((zaJ (p := ⟨gb198, _, none⟩) NB196_198.out _).trans (((zaJ (p := ⟨gb198, _, none⟩) NB196_198.out _).trans (((zaJ (p := ⟨gb198, _, none⟩) NB196_198.out _).trans (((zaJ (p := ⟨gb198, _, none⟩) NB196_198.out _).trans (((zaJ (p := ⟨gb198, _, none⟩) NB196_198.out _).trans (hHeld.1)))))))))))), ((zaJ (p := ⟨gb198, _, none⟩) NB196_198.out _).trans (((zaJ (p := ⟨gb198, _, none⟩) NB196_198.out _).trans (((zaJ (p := ⟨gb198, _, none⟩) NB196_198.out _).trans (((zaJ (p := ⟨gb198, _, none⟩) NB196_198.out _).trans (((zaJ (p := ⟨gb198, _, none⟩) NB196_198.out _).trans (((zaJ (p := ⟨gb198, _, none⟩) NB196_198.out _).trans (hHeld.2.1)))))))))))), ((zaJ (p := ⟨gb198, _, none⟩) NB196_198.out _).trans (((zaJ (p := ⟨gb198, _, none⟩) NB196_198.out _).trans (((zaJ (p := ⟨gb198, _, none⟩) NB196_198.out _).trans (((zaJ (p := ⟨gb198, _, none⟩) NB196_198.out _).trans (((zaJ (p := ⟨gb198, _, none⟩) NB196_198.out _).trans (((zaJ (p := ⟨gb198, _, none⟩) NB196_198.out _).trans (hHeld.2.2.1)))))))))))), ((zaJ (p := ⟨gb198, _, none⟩) NB196_198.out _).trans (((zaJ (p := ⟨gb198, _, none⟩) NB196_198.out _).trans (((zaJ (p := ⟨gb198, _, none⟩) NB196_198.out _).trans (((zaJ (p := ⟨gb198, _, none⟩) NB196_198.out _).trans (((zaJ (p := ⟨gb198, _, none⟩) NB196_198.out _).trans (((zaJ (p := ⟨gb198, _, none⟩) NB196_198.out _).trans (hHeld.2.2.2.1)))))))))))), ((zaJ (p := ⟨gb198, _, none⟩) NB196_198.out _).trans (((zaJ (p := ⟨gb198, _, none⟩) NB196_198.out _).trans (((zaJ (p := ⟨gb198, _, none⟩) NB196_198.out _).trans (((zaJ (p := ⟨gb198, _, none⟩) NB196_198.out _).trans (((zaJ (p := ⟨gb198, _, none⟩) NB196_198.out _).trans (((zaJ (p := ⟨gb198, _, none⟩) NB196_198.out _).trans (hHeld.2.2.2.2.1)))))))))))), ((zaJ (p := ⟨gb198, _, none⟩) NB196_198.out _).trans (((zaJ (p := ⟨gb198, _, none⟩) NB196_198.out _).trans (((zaJ (p := ⟨gb198, _, none⟩) NB196_198.out _).trans (((zaJ (p := ⟨gb198, _, none⟩) NB196_198.out _).trans (((zaJ (p := ⟨gb198, _, none⟩) NB196_198.out _).trans (((zaJ (p := ⟨gb198, _, none⟩) NB196_198.out _).trans (hHeld.2.2.2.2.2.1)))))))))))), ((zaJ (p := ⟨gb198, _, none⟩) NB197_198.out _).trans (((zaJ (p := ⟨gb198, _, none⟩) NB197_198.out _).trans (((zaJ (p := ⟨gb198, _, none⟩) NB197_198.out _).trans (((zaJ (p := ⟨gb198, _, none⟩) NB197_198.out _).trans (((zaJ (p := ⟨gb198, _, none⟩) NB197_198.out _).trans (((zaJ (p := ⟨gb198, _, none⟩) NB197_198.out _).trans (hHeld.2.2.2.2.2.2.1)))))))))))), ((zaJ (p := ⟨gb198, _, none⟩) NB197_198.out _).trans (((zaJ (p := ⟨gb198, _, none⟩) NB197_198.out _).trans (((zaJ (p := ⟨gb198, _, none⟩) NB197_198.out _).trans (((zaJ (p := ⟨gb198, _, none⟩) NB197_198.out _).trans (((zaJ (p := ⟨gb198, _, none⟩) NB197_198.out _).trans (((zaJ (p := ⟨gb198, _, none⟩) NB197_198.out _).trans (hHeld.2.2.2.2.2.2.2.1)))))))))))), ((zaJ (p := ⟨gb198, _, none⟩) NB197_198.out _).trans (((zaJ (p := ⟨gb198, _, none⟩) NB197_198.out _).trans (((zaJ (p := ⟨gb198, _, none⟩) NB197_198.out _).trans (((zaJ (p := ⟨gb198, _, none⟩) NB197_198.out _).trans (((zaJ (p := ⟨gb198, _, none⟩) NB197_198.out _).trans (((zaJ (p := ⟨gb198, _, none⟩) NB197_198.out _).trans (hHeld.2.2.2.2.2.2.2.2.1)))))))))))), ((zaJ (p := ⟨gb198, _, none⟩) NB197_198.out _).trans (((zaJ (p := ⟨gb198, _, none⟩) NB197_198.out _).trans (((zaJ (p := ⟨gb198, _, none⟩) NB197_198.out _).trans (((zaJ (p := ⟨gb198, _, none⟩) NB197_198.out _).trans (((zaJ (p := ⟨gb198, _, none⟩) NB197_198.out _).trans (((zaJ (p := ⟨gb198, _, none⟩) NB197_198.out _).trans (hHeld.2.2.2.2.2.2.2.2.2.1)))))))))))), ((zaJ (p := ⟨gb198, _, none⟩) NB197_198.out _).trans (((zaJ (p := ⟨gb198, _, none⟩) NB197_198.out _).trans (((zaJ (p := ⟨gb198, _, none⟩) NB197_198.out _).trans (((zaJ (p := ⟨gb198, _, none⟩) NB197_198.out _).trans (((zaJ (p := ⟨gb198, _, none⟩) NB197_198.out _).trans (((zaJ (p := ⟨gb198, _, none⟩) NB197_198.out _).trans (hHeld.2.2.2.2.2.2.2.2.2.2.1)))))))))))), ((zaJ (p := ⟨gb198, _, none⟩) NB197_198.out _).trans (((zaJ (p := ⟨gb198, _, none⟩) NB197_198.out _).trans (((zaJ (p := ⟨gb198, _, none⟩) NB197_198.out _).trans (((zaJ (p := ⟨gb198, _, none⟩) NB197_198.out _).trans (((zaJ (p := ⟨gb198, _, none⟩) NB197_198.out _).trans (((zaJ (p := ⟨gb198, _, none⟩) NB197_198.out _).trans (hHeld.2.2.2.2.2.2.2.2.2.2.2))))))))))))⟩ (fun hHeld => ?_)
 clear hK K
 refine done_ (zdJ HT_.out (by kernel_rfl)) ?_
 try go_wp2
 refine bodyPost_ret (results_cell_row rfl _ _ gb198 94 #[.int .i64 t199, .int .i64 t200, .int .i64 t201, .int .i64 t202, .int .i64 t203, .int .i64 t204] (0, 0) _ rfl (by (with_reducible repeat (first | apply zaC | apply zaF | apply zaB)); refine zaR (cs := #[.int .i64 t199, .int .i64 t200, .int .i64 t201, .int .i64 t202, .int .i64 t203, .int .i64 0]) ?_ 5 _ rfl; (with_reducible repeat (first | apply zaC | apply zaF | apply zaB)); refine zaR (cs := #[.int .i64 t199, .int .i64 t200, .int .i64 t201, .int .i64 t202, .int .i64 0, .int .i64 0]) ?_ 4 _ rfl; (with_reducible repeat (first | apply zaC | apply zaF | apply zaB)); refine zaR (cs := #[.int .i64 t199, .int .i64 t200, .int .i64 t201, .int .i64 0, .int .i64 0, .int .i64 0]) ?_ 3 _ rfl; (with_reducible repeat (first | apply zaC | apply zaF | apply zaB)); refine zaR (cs := #[.int .i64 t199, .int .i64 t200, .int .i64 0, .int .i64 0, .int .i64 0, .int .i64 0]) ?_ 2 _ rfl; (with_reducible repeat (first | apply zaC | apply zaF | apply zaB)); refine zaR (cs := #[.int .i64 t199, .int .i64 0, .int .i64 0, .int .i64 0, .int .i64 0, .int .i64 0]) ?_ 1 _ rfl; (with_reducible repeat (first | apply zaC | apply zaF | apply zaB)); refine zaR (cs := #[.int .i64 0, .int .i64 0, .int .i64 0, .int .i64 0, .int .i64 0, .int .i64 0]) ?_ 0 _ rfl; (with_reducible repeat (first | apply zaC | apply zaF | apply zaB)); exact BK198.out) Tryd.underlying94 rfl (by kernel_rfl)) rfl ?_
 exact ⟨by first | rfl | (simp [zaN, zaM] <;> rfl) | (simp [*, zaN, zaM] <;> rfl), by repeat (first | (with_reducible first | exact HB.out | apply zaE | apply zaA | apply zaD | refine zaH ?_ GE196.out | refine zaH ?_ GE197.out | refine zaH ?_ GE198.out) | exact HB.out)⟩

end Go.Proofs.YtmajpmofeddknaaDoor.PFnExactValidPolygon
