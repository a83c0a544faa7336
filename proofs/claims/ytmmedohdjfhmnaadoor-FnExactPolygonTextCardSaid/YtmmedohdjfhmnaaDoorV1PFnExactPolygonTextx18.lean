-- Printed for this claim by this session's program pp.py, which drives the kit's print with additions. Not trusted: Lean checks it.
import Derived.Test.YtmmedohdjfhmnaaDoorV1PFnExactPolygonTextx0
import Derived.Test.YtmmedohdjfhmnaaDoorV1PFnExactPolygonTextx2
import Derived.Test.YtmmedohdjfhmnaaDoorV1PFnExactPolygonTextx10
import Derived.Test.YtmmedohdjfhmnaaDoorV1PFnExactPolygonTextx12
import Derived.Test.YtmmedohdjfhmnaaDoorV1PFnExactPolygonTextx16
import Derived.Test.YtmmedohdjfhmnaaDoorV1PFnExactPolygonTextx17
namespace Go.Proofs.YtmmedohdjfhmnaaDoor.PFnExactPolygonText
open Go.RowKit Go.Proofs.YtmmedohdjfhmnaaDoorW.PrintWords Go.Proofs.YtmmedohdjfhmnaaDoorW.PrintLast Go.Proofs.YtmmedohdjfhmnaaDoorW.PrintMore
attribute [local go_sem] zbB ziC zrC zhD znE zuB znH zkT   -- for this text's walks alone
set_option linter.unusedVariables false
set_option linter.unusedSimpArgs false

def zcO.l0 : Nat → List ByteArray → List (S33) → Int → Int → Option (ByteArray)
 | 0, _, _, _, _ => none
 | k + 1, x3, x6, x7, x8 => if x8 < x7 then (if 0 ≤ x8 then (if x8 < (x6.length : Int) then ((zvK.f k ((zdH x6 x8).f0.f0) ((zdH x6 x8).f0.f1) ((zdH x6 x8).f0.f2) ((zdH x6 x8).f1.f0) ((zdH x6 x8).f1.f1) ((zdH x6 x8).f1.f2)).bind fun t459 => (if x3.length < 8796093022208 then (zcO.l0 k (x3 ++ [t459]) x6 x7 (wrap64 (x8 + 1))) else (none))) else (none)) else (none)) else ((strings_Join.f x3 (⟨#[32]⟩ : ByteArray)).bind fun t463 => (some t463))
def zcO.f (k : Nat) (l0 : List (S33)) : Option (ByteArray) := zcO.l0 k ([] : List ByteArray) l0 (l0.length : Int) 0
theorem zcO.mono_l : ∀ k, (∀ y0 y1 y2 y3, LeO (zcO.l0 k y0 y1 y2 y3) (zcO.l0 (k + 1) y0 y1 y2 y3))
 | 0 => fun _ _ _ _ r h => by simp [zcO.l0] at h
 | k + 1 => by
  have ih0 := zcO.mono_l k
  ·intro y0 y1 y2 y3
   unfold zcO.l0
   repeat' first
   | (with_reducible exact ih0 _ _ _ _)
   | (with_reducible exact zvK.mono _ _ _ _ _ _ _)
   | (with_reducible exact LeO.refl _)
   | (with_reducible exact LeO.none _)
   | (with_reducible refine LeO.ite ?_ ?_)
   | (with_reducible refine LeO.bind ?_ (fun _ => ?_))
   | exact ih0 _ _ _ _
   | exact zvK.mono _ _ _ _ _ _ _
   | exact LeO.none _
   | refine LeO.ite ?_ ?_
   | refine LeO.bind ?_ (fun _ => ?_)
theorem zcO.mono : ∀ a0 k, LeO (zcO.f k a0) (zcO.f (k + 1) a0) := by
 intro a0 k
 have ih0 := zcO.mono_l k
 unfold zcO.f
 repeat' first
   | (with_reducible exact ih0 _ _ _ _)
   | (with_reducible exact zvK.mono _ _ _ _ _ _ _)
   | (with_reducible exact LeO.refl _)
   | (with_reducible exact LeO.none _)
   | (with_reducible refine LeO.ite ?_ ?_)
   | (with_reducible refine LeO.bind ?_ (fun _ => ?_))
   | exact ih0 _ _ _ _
   | exact zvK.mono _ _ _ _ _ _ _
   | exact LeO.none _
   | refine LeO.ite ?_ ?_
   | refine LeO.bind ?_ (fun _ => ?_)
set_option maxHeartbeats 8000000 in
set_option maxRecDepth 100000 in
theorem zcO.calls (k : Nat) (A0 : Option Addr) (c0 : Nat) (l0 : List (S33)) (r : ByteArray) (w : World) (hG : LaidV w) (hr0 : Kd.C k33 w A0 l0.length l0) (hc0 : l0.length ≤ c0) (h : zcO.f k l0 = some r) :
  Calls Tryd.prog 13 #[.slice A0 l0.length c0] w fun e w' => e = .returned (.string r) ∧ Below w.heap.size w w' := by
 have hu33 := Tryd.underlying33
 have HR0 := zpS hr0
 have HC0 := zpS hc0
 clear hr0 hc0
 have HB := zpS (Below.refl w.heap.size w)
 have H : (zcO.l0 k ([] : List ByteArray) l0 (l0.length : Int) 0) = some r := h
 clear h
 have H' := zpS H
 clear H
 go_enter Tryd.func13, Tryd.ntmps13
 go_wp2
 (try go_simp)
 go_loopg [3, 8] k (fun kq v3 v8 w' => ∃ (x3_1 : List ByteArray) (x8_1 : Int), v8 = .int .i64 x8_1 ∧ Aside0 (zcO.l0 kq x3_1 l0 (l0.length : Int) x8_1 = some r) ∧ Aside0 (kq ≤ k) ∧ Aside0 (Kd.R Kd.string 9 w' w.heap.size (fun _ => True) v3 x3_1) ∧ Aside0 (Below w.heap.size w w'))
 case atStart => exact ⟨(([] : List ByteArray)), (0), (by first | rfl | (simp; done) | (simp [*]; done)), H', ⟨Nat.le_refl _⟩, ⟨by first | exact Kd.R_nil _ _ _ _ _ | exact Kd.N_nil _ _ _ _ _ | exact Kd.V_nil _ _ _ _ _ | exact Kd.Q_nil _ _ _ _ _ | exact Kd.S_nil _ _ _ _ _⟩, ⟨bb_⟩⟩
 case round =>
  clear H'
  try clear c1
  obtain ⟨x3_1, x8_1, rfl, HA, HK1, HO_3, HB⟩ := hrel
  cases gk with
  | zero => exact absurd HA.out (by simp [zcO.l0])
  | succ k1 =>
   have H := HA.out
   clear HA
   simp only [zcO.l0] at H
   by_cases c2 : x8_1 < (l0.length : Int)
   ·rw [if_pos c2] at H
    have c2b0 : decide (x8_1 < (l0.length : Int)) = true := decide_eq_true c2
    clear c2
    by_cases c3 : 0 ≤ x8_1
    ·rw [if_pos c3] at H
     have c3b0 : decide (0 ≤ x8_1) = true := decide_eq_true c3
     clear c3
     by_cases c4 : x8_1 < (l0.length : Int)
     ·rw [if_pos c4] at H
      have c4b0 : decide (x8_1 < (l0.length : Int)) = true := decide_eq_true c4
      clear c4
      replace H := Option.bind_eq_some_iff.mp H
      obtain ⟨t459, A50, H⟩ := H
      replace H : (if x3_1.length < 8796093022208 then (zcO.l0 k1 (x3_1 ++ [t459]) l0 (l0.length : Int) (wrap64 (x8_1 + 1))) else (none)) = some r := H
      have A5 := zpS A50
      clear A50
      by_cases c6 : x3_1.length < 8796093022208
      ·rw [if_pos c6] at H
       have LMc6 := zpS c6
       clear c6
       obtain ⟨y460, hy460⟩ : ∃ y_ : List ByteArray, y_ = (x3_1 ++ [t459]) := ⟨_, rfl⟩
       replace H : (zcO.l0 k1 y460 l0 (l0.length : Int) (wrap64 (x8_1 + 1))) = some r := by first | (rw [hy460]; with_reducible exact H) | (have H2_ := (Option.bind_some _ _).symm.trans H; rw [hy460]; with_reducible exact H2_) | (have H2_ := (Option.bind_some _ _).symm.trans H; with_reducible exact H2_) | with_reducible exact H | (rw [hy460]; exact H) | exact H
       have Ny460 := zpS hy460
       clear hy460
       have H' := zpS H
       clear H
       have p457 : 0 ≤ (x8_1 : Int) := of_decide_eq_true (by first | (with_reducible assumption) | assumption)
       have q457 : x8_1 < (l0.length : Int) := of_decide_eq_true (by first | (with_reducible assumption) | assumption)
       obtain ⟨ad457, e457, hx457_0, hx457_1, hx457_2, hx457_3, hx457_4, hx457_5⟩ := zuR HR0.out x8_1 p457 q457
       cases e457
       replace hx457_0 := zeA HB.out hx457_0
       replace hx457_1 := zeA HB.out hx457_1
       replace hx457_2 := zeA HB.out hx457_2
       replace hx457_3 := zeA HB.out hx457_3
       replace hx457_4 := zeA HB.out hx457_4
       replace hx457_5 := zeA HB.out hx457_5
       replace p457 := eq_true p457
       replace q457 := eq_true q457
       go_wp2_with (first | ((with_reducible refine zpZ (N := 5) rfl ?_); refine bx_ 5 #[.int .i64 0, .int .i64 0, .int .i64 0, .int .i64 0, .int .i64 0, .int .i64 0] 33 ?_; intro gb458 hg w7 hbox hb; have n0_ := zpS (Kd.R_below (by (with_reducible repeat (first | apply Kd.R_alloc | apply Kd.R_drewN | apply Kd.R_drew)); exact HO_3.out) hb); have n1_ := (ns_ hb); have n2_ := zpS (hbox); have n3_ := (ng_ hg); have n4_ := n3_; clear HO_3; clear HB; have HO_3 := n0_; have HB := n1_; have BK458 := n2_; have GW458 := n3_; have GE458 := n4_; clear n0_ n1_ n2_ n3_ n4_; clear hb hbox hg; obtain ⟨hcz8_0, hcz8_1, hcz8_2, hcz8_3, hcz8_4, hcz8_5⟩ := zrN BK458.out; obtain ⟨hfz8_0, hfz8_1, hfz8_2, hfz8_3, hfz8_4, hfz8_5⟩ := zoO BK458.out) | ((with_reducible refine zgK (f := 28) rfl ?_); refine zqQ (some 14) rfl rfl Tryd.func28 (by kernel_rfl) rfl #[.agg #[.int .i64 ((zdH l0 x8_1).f0.f0), .int .i64 ((zdH l0 x8_1).f0.f1), .int .i64 ((zdH l0 x8_1).f0.f2), .int .i64 ((zdH l0 x8_1).f1.f0), .int .i64 ((zdH l0 x8_1).f1.f1), .int .i64 ((zdH l0 x8_1).f1.f2)]] rfl (by (try simp only [List.map_toArray, List.map_cons, List.map_nil]); first | done | rfl | (simp only [List.length_drop, List.length_take]; rfl)) ?_; (with_reducible refine (zvK.calls k1 ((zdH l0 x8_1).f0.f0) ((zdH l0 x8_1).f0.f1) ((zdH l0 x8_1).f0.f2) ((zdH l0 x8_1).f1.f0) ((zdH l0 x8_1).f1.f1) ((zdH l0 x8_1).f1.f2) t459 _ ?side1 A5.out).mono ?_); (case side1 => exact LaidV.below hG bb_); rintro e w9 ⟨rfl, hb⟩; refine ⟨_, rfl, ?_⟩; have n0_ := zpS (Kd.R_below (by (with_reducible repeat (first | apply Kd.R_alloc | apply Kd.R_drewN | apply Kd.R_drew)); exact (Kd.R_mono (Kd.R_far (p := ⟨gb458, 5, none⟩) (Kd.R_far (p := ⟨gb458, 4, none⟩) (Kd.R_far (p := ⟨gb458, 3, none⟩) (Kd.R_far (p := ⟨gb458, 2, none⟩) (Kd.R_far (p := ⟨gb458, 1, none⟩) (Kd.R_far (p := ⟨gb458, 0, none⟩) (Kd.R_types HO_3.out BK458.out (by decide)) (fun _ hk => hk.2) (.int .i64 ((zdH l0 x8_1).f0.f0))) (fun _ hk => hk.2) (.int .i64 ((zdH l0 x8_1).f0.f1))) (fun _ hk => hk.2) (.int .i64 ((zdH l0 x8_1).f0.f2))) (fun _ hk => hk.2) (.int .i64 ((zdH l0 x8_1).f1.f0))) (fun _ hk => hk.2) (.int .i64 ((zdH l0 x8_1).f1.f1))) (fun _ hk => hk.2) (.int .i64 ((zdH l0 x8_1).f1.f2))) (fun _ h_ => h_.1))) hb); have n1_ := zpS (zgM (g := gb458) (o := .cells #[.int .i64 ((zdH l0 x8_1).f0.f0), .int .i64 ((zdH l0 x8_1).f0.f1), .int .i64 ((zdH l0 x8_1).f0.f2), .int .i64 ((zdH l0 x8_1).f1.f0), .int .i64 ((zdH l0 x8_1).f1.f1), .int .i64 ((zdH l0 x8_1).f1.f2)] 33 (0, 0)) (by (with_reducible repeat (first | apply zuW | apply ztN | apply zqY)); refine zlL (cs := #[.int .i64 ((zdH l0 x8_1).f0.f0), .int .i64 ((zdH l0 x8_1).f0.f1), .int .i64 ((zdH l0 x8_1).f0.f2), .int .i64 ((zdH l0 x8_1).f1.f0), .int .i64 ((zdH l0 x8_1).f1.f1), .int .i64 0]) ?_ 5 _ rfl; (with_reducible repeat (first | apply zuW | apply ztN | apply zqY)); refine zlL (cs := #[.int .i64 ((zdH l0 x8_1).f0.f0), .int .i64 ((zdH l0 x8_1).f0.f1), .int .i64 ((zdH l0 x8_1).f0.f2), .int .i64 ((zdH l0 x8_1).f1.f0), .int .i64 0, .int .i64 0]) ?_ 4 _ rfl; (with_reducible repeat (first | apply zuW | apply ztN | apply zqY)); refine zlL (cs := #[.int .i64 ((zdH l0 x8_1).f0.f0), .int .i64 ((zdH l0 x8_1).f0.f1), .int .i64 ((zdH l0 x8_1).f0.f2), .int .i64 0, .int .i64 0, .int .i64 0]) ?_ 3 _ rfl; (with_reducible repeat (first | apply zuW | apply ztN | apply zqY)); refine zlL (cs := #[.int .i64 ((zdH l0 x8_1).f0.f0), .int .i64 ((zdH l0 x8_1).f0.f1), .int .i64 0, .int .i64 0, .int .i64 0, .int .i64 0]) ?_ 2 _ rfl; (with_reducible repeat (first | apply zuW | apply ztN | apply zqY)); refine zlL (cs := #[.int .i64 ((zdH l0 x8_1).f0.f0), .int .i64 0, .int .i64 0, .int .i64 0, .int .i64 0, .int .i64 0]) ?_ 1 _ rfl; (with_reducible repeat (first | apply zuW | apply ztN | apply zqY)); refine zlL (cs := #[.int .i64 0, .int .i64 0, .int .i64 0, .int .i64 0, .int .i64 0, .int .i64 0]) ?_ 0 _ rfl; (with_reducible repeat (first | apply zuW | apply ztN | apply zqY)); exact BK458.out) hb); have n2_ := (ns_ hb); clear HO_3; clear BK458; clear HB; have HO_3 := n0_; have BK458 := n1_; have HB := n2_; clear n0_ n1_ n2_; (try clear hb); (try clear hb2)) | ((with_reducible refine gate_builtin (b := .append) (xs := #[.tmp 12, .tmp 15]) rfl ?_); at_builtin; refine Kd.R_append Kd.string (w0 := w) w.heap.size rfl (.tmp 12) (.tmp 15) 52 9 (.string ⟨#[]⟩) 16 rfl Tryd.underlying52 info9 rfl (by decide) (by omega) u3 x3_1 t459 [.string t459] (fun _ => True) (fun _ => False) rfl rfl ?aP (fun _ hk => hk.elim) ?aF ?aO ?aB ?aS ?aL ?_; (case aP => exact rfl); (case aB => exact bb_); (case aF => exact (fun _ _ => trivial)); (case aO => exact (by (with_reducible repeat (first | apply Kd.R_alloc | apply Kd.R_drewN | apply Kd.R_drew)); exact HO_3.out)); (case aS => exact (zuA bb_)); (case aL => have := LMc6.out; omega); intro v461 w10 ho hb hg hat; rw [← Ny460.out] at ho; have n0_ := zpS (blk_grown (g := gb458) (o := .cells #[.int .i64 ((zdH l0 x8_1).f0.f0), .int .i64 ((zdH l0 x8_1).f0.f1), .int .i64 ((zdH l0 x8_1).f0.f2), .int .i64 ((zdH l0 x8_1).f1.f0), .int .i64 ((zdH l0 x8_1).f1.f1), .int .i64 ((zdH l0 x8_1).f1.f2)] 33 (0, 0)) bk_ hg (Kd.R_ne HO_3.out BK458.out (by decide))); have n1_ := zpS (hb); have n2_ := zpS (ho); clear BK458; clear HB; clear HO_3; have BK458 := n0_; have HB := n1_; have HO462 := n2_; clear n0_ n1_ n2_; clear ho hb hg hat))
       go_roundg k1
       case measure => have := HK1.out; omega
       case rel => exact ⟨(y460), (wrap64 (x8_1 + 1)), (by first | rfl | (simp; done) | (simp [*]; done)), H', ⟨by have := HK1.out; omega⟩, ⟨by (with_reducible repeat (first | apply Kd.R_alloc | apply Kd.R_drewN | apply Kd.R_drew)); exact HO462.out⟩, ⟨bb_⟩⟩
      ·rw [if_neg c6] at H
       exact absurd H (by simp)
     ·rw [if_neg c4] at H
      exact absurd H (by simp)
    ·rw [if_neg c3] at H
     exact absurd H (by simp)
   ·rw [if_neg c2] at H
    have c2b0 : decide (x8_1 < (l0.length : Int)) = false := decide_eq_false c2
    clear c2
    replace H := Option.bind_eq_some_iff.mp H
    obtain ⟨t463, A110, H⟩ := H
    replace H : (some t463) = some r := H
    have A11 := zpS A110
    clear A110
    obtain rfl := Option.some.inj H
    obtain ⟨Ao12, co12, eo12⟩ := Kd.R_slice HO_3.out
    subst eo12
    go_wp2_with (first | ((with_reducible refine zgK (f := 29) rfl ?_); refine zqQ (some 19) rfl rfl Tryd.func29 (by kernel_rfl) rfl #[.slice Ao12 x3_1.length co12, .string (⟨#[32]⟩ : ByteArray)] rfl (by (try simp only [List.map_toArray, List.map_cons, List.map_nil]); first | done | rfl | (simp only [List.length_drop, List.length_take]; rfl)) ?_; (with_reducible refine (strings_Join.calls _ _ x3_1 (⟨#[32]⟩ : ByteArray) t463 _ ?side1 ?side2 A11.out).mono ?_); (case side1 => repeat (first | exact (Kd.R_reads' HO_3.out).2.2 | (with_reducible refine Kd.C_alloc ?_ _) | (with_reducible refine Kd.C_drewN ?_ _) | (with_reducible refine Kd.C_drew ?_))); (case side2 => exact (Kd.R_reads' HO_3.out).2.1); rintro e w13 ⟨rfl, hb⟩; refine ⟨_, rfl, ?_⟩; have n0_ := zpS (Kd.R_below (by (with_reducible repeat (first | apply Kd.R_alloc | apply Kd.R_drewN | apply Kd.R_drew)); exact HO_3.out) hb); have n1_ := (ns_ hb); clear HO_3; clear HB; have HO_3 := n0_; have HB := n1_; clear n0_ n1_; (try clear hb); (try clear hb2)))
    go_ret
    exact ⟨by first | rfl | (simp [ziS, znJ] <;> rfl) | (simp [*, ziS, znJ] <;> rfl), bb_⟩

def znS.f (k : Nat) (l0 : List (S33)) : Option (ByteArray) := (zoR.f k l0).bind fun t464 => (if t464 = true then ((zcO.f k l0).bind fun t465 => (some t465)) else (some (⟨#[]⟩ : ByteArray)))
theorem znS.mono : ∀ a0 k, LeO (znS.f k a0) (znS.f (k + 1) a0) := by
 intro a0 k
 unfold znS.f
 repeat' first
   | (with_reducible exact zoR.mono _ _)
   | (with_reducible exact zcO.mono _ _)
   | (with_reducible exact LeO.refl _)
   | (with_reducible exact LeO.none _)
   | (with_reducible refine LeO.ite ?_ ?_)
   | (with_reducible refine LeO.bind ?_ (fun _ => ?_))
   | exact zoR.mono _ _
   | exact zcO.mono _ _
   | exact LeO.none _
   | refine LeO.ite ?_ ?_
   | refine LeO.bind ?_ (fun _ => ?_)
set_option maxHeartbeats 8000000 in
set_option maxRecDepth 100000 in
theorem znS.calls (k : Nat) (A0 : Option Addr) (c0 : Nat) (l0 : List (S33)) (r : ByteArray) (w : World) (hG : LaidV w) (hr0 : Kd.C k33 w A0 l0.length l0) (hc0 : l0.length ≤ c0) (h : znS.f k l0 = some r) :
  Calls Tryd.prog 7 #[.slice A0 l0.length c0] w fun e w' => e = .returned (.string r) ∧ Below w.heap.size w w' := by
 have HR0 := zpS hr0
 have HC0 := zpS hc0
 clear hr0 hc0
 have HB := zpS (Below.refl w.heap.size w)
 have H : ((zoR.f k l0).bind fun t464 => (if t464 = true then ((zcO.f k l0).bind fun t465 => (some t465)) else (some (⟨#[]⟩ : ByteArray)))) = some r := h
 clear h
 replace H := Option.bind_eq_some_iff.mp H
 obtain ⟨t464, A20, H⟩ := H
 replace H : (if t464 = true then ((zcO.f k l0).bind fun t465 => (some t465)) else (some (⟨#[]⟩ : ByteArray))) = some r := H
 have A2 := zpS A20
 clear A20
 by_cases c3 : t464 = true
 ·subst c3
  have H1 : ((zcO.f k l0).bind fun t465 => (some t465)) = some r := by rw [if_pos rfl] at H; exact H
  clear H
  have H := H1
  clear H1
  replace H := Option.bind_eq_some_iff.mp H
  obtain ⟨t465, A40, H⟩ := H
  replace H : (some t465) = some r := H
  have A4 := zpS A40
  clear A40
  obtain rfl := Option.some.inj H
  go_enter Tryd.func7, Tryd.ntmps7
  go_wp2_with (first | ((with_reducible refine zgK (f := 12) rfl ?_); refine zqQ (some 4) rfl rfl Tryd.func12 (by kernel_rfl) rfl #[.slice A0 l0.length c0] rfl (by (try simp only [List.map_toArray, List.map_cons, List.map_nil]); first | done | rfl | (simp only [List.length_drop, List.length_take]; rfl)) ?_; (with_reducible refine (zoR.calls k _ _ l0 true _ ?side3 ?side1 ?side2 A2.out).mono ?_); (case side1 => repeat (first | exact HR0.out | (with_reducible refine Kd.C_alloc ?_ _) | (with_reducible refine Kd.C_drewN ?_ _) | (with_reducible refine Kd.C_drew ?_))); (case side2 => exact HC0.out); (case side3 => exact LaidV.below hG bb_); rintro e w5 ⟨rfl, hb⟩; refine ⟨_, rfl, ?_⟩; have n0_ := (ns_ hb); clear HB; have HB := n0_; clear n0_; (try clear hb); (try clear hb2)) | ((with_reducible refine zgK (f := 13) rfl ?_); refine zqQ (some 7) rfl rfl Tryd.func13 (by kernel_rfl) rfl #[.slice A0 l0.length c0] rfl (by (try simp only [List.map_toArray, List.map_cons, List.map_nil]); first | done | rfl | (simp only [List.length_drop, List.length_take]; rfl)) ?_; (with_reducible refine (zcO.calls k _ _ l0 t465 _ ?side3 ?side1 ?side2 A4.out).mono ?_); (case side1 => repeat (first | exact (Kd.C_below HR0.out HB.out) | (with_reducible refine Kd.C_alloc ?_ _) | (with_reducible refine Kd.C_drewN ?_ _) | (with_reducible refine Kd.C_drew ?_))); (case side2 => exact HC0.out); (case side3 => exact LaidV.below hG bb_); rintro e w6 ⟨rfl, hb⟩; refine ⟨_, rfl, ?_⟩; have n0_ := (ns_ hb); clear HB; have HB := n0_; clear n0_; (try clear hb); (try clear hb2)))
  go_ret
  exact ⟨by first | rfl | (simp [ziS, znJ] <;> rfl) | (simp [*, ziS, znJ] <;> rfl), bb_⟩
 ·replace c3 := Bool.eq_false_iff.mpr c3
  subst c3
  have H1 : (some (⟨#[]⟩ : ByteArray)) = some r := by rw [if_neg (show ¬ (false = true) by decide)] at H; exact H
  clear H
  have H := H1
  clear H1
  obtain rfl := Option.some.inj H
  go_enter Tryd.func7, Tryd.ntmps7
  go_wp2_with (first | ((with_reducible refine zgK (f := 12) rfl ?_); refine zqQ (some 4) rfl rfl Tryd.func12 (by kernel_rfl) rfl #[.slice A0 l0.length c0] rfl (by (try simp only [List.map_toArray, List.map_cons, List.map_nil]); first | done | rfl | (simp only [List.length_drop, List.length_take]; rfl)) ?_; (with_reducible refine (zoR.calls k _ _ l0 false _ ?side3 ?side1 ?side2 A2.out).mono ?_); (case side1 => repeat (first | exact HR0.out | (with_reducible refine Kd.C_alloc ?_ _) | (with_reducible refine Kd.C_drewN ?_ _) | (with_reducible refine Kd.C_drew ?_))); (case side2 => exact HC0.out); (case side3 => exact LaidV.below hG bb_); rintro e w7 ⟨rfl, hb⟩; refine ⟨_, rfl, ?_⟩; have n0_ := (ns_ hb); clear HB; have HB := n0_; clear n0_; (try clear hb); (try clear hb2)))
  go_ret
  exact ⟨by first | rfl | (simp [ziS, znJ] <;> rfl) | (simp [*, ziS, znJ] <;> rfl), bb_⟩

def zaT.f (a0_0 : Int) (a0_1 : Int) (a0_2 : Int) (a1_0 : Int) (a1_1 : Int) (a1_2 : Int) : Option (Bool) := if a0_0 = a1_0 then (if a0_1 = a1_1 then (if a0_2 = a1_2 then (some true) else (some false)) else (some false)) else (some false)
set_option maxHeartbeats 8000000 in
set_option maxRecDepth 100000 in
theorem zaT.calls (a0_0 : Int) (a0_1 : Int) (a0_2 : Int) (a1_0 : Int) (a1_1 : Int) (a1_2 : Int) (r : Bool) (w : World) (h : zaT.f a0_0 a0_1 a0_2 a1_0 a1_1 a1_2 = some r) :
  Calls Tryd.prog 30 #[.agg #[.int .i64 a0_0, .int .i64 a0_1, .int .i64 a0_2], .agg #[.int .i64 a1_0, .int .i64 a1_1, .int .i64 a1_2]] w fun e w' => e = .returned (.bool r) ∧ Below w.heap.size w w' := by
 have hu31 := Tryd.underlying31
 have HB := zpS (Below.refl w.heap.size w)
 have H : (if a0_0 = a1_0 then (if a0_1 = a1_1 then (if a0_2 = a1_2 then (some true) else (some false)) else (some false)) else (some false)) = some r := h
 clear h
 by_cases c3 : a0_0 = a1_0
 ·rw [if_pos c3] at H
  have c3b0 : (a0_0 == a1_0) = true := beq_iff_eq.mpr c3
  have c3b1 : (a0_0 != a1_0) = false := bne_eq_false_iff_eq.mpr c3
  clear c3
  by_cases c4 : a0_1 = a1_1
  ·rw [if_pos c4] at H
   have c4b0 : (a0_1 == a1_1) = true := beq_iff_eq.mpr c4
   have c4b1 : (a0_1 != a1_1) = false := bne_eq_false_iff_eq.mpr c4
   clear c4
   by_cases c5 : a0_2 = a1_2
   ·rw [if_pos c5] at H
    have c5b0 : (a0_2 == a1_2) = true := beq_iff_eq.mpr c5
    have c5b1 : (a0_2 != a1_2) = false := bne_eq_false_iff_eq.mpr c5
    clear c5
    obtain rfl := Option.some.inj H
    go_enter Tryd.func30, Tryd.ntmps30
    go_wp2_with (first | ((with_reducible refine zpZ (N := 2) rfl ?_); refine bx_ 2 #[.int .i64 a0_0, .int .i64 a0_1, .int .i64 a0_2] 31 ?_; intro gb466 hg w6 hbox hb; have n0_ := (ns_ hb); have n1_ := zpS (hbox); have n2_ := (ng_ hg); have n3_ := n2_; clear HB; have HB := n0_; have BK466 := n1_; have GW466 := n2_; have GE466 := n3_; clear n0_ n1_ n2_ n3_; clear hb hbox hg) | ((with_reducible refine zpZ (N := 3) rfl ?_); refine bx_ 3 #[.int .i64 a1_0, .int .i64 a1_1, .int .i64 a1_2] 31 ?_; intro gb467 hg w7 hbox hb; have n0_ := zpS (zgM (g := gb466) (o := .cells #[.int .i64 a0_0, .int .i64 a0_1, .int .i64 a0_2] 31 (0, 0)) bk_ hb); have n1_ := (ns_ hb); have n2_ := zpS (hbox); have n3_ := (ng_ hg); have n4_ := n3_; have n5_ := zpS ((by rw [hg]; exact Nat.ne_of_lt (zmN (g := gb466) (o := .cells #[.int .i64 a0_0, .int .i64 a0_1, .int .i64 a0_2] 31 (0, 0)) bk_) : gb466 ≠ gb467)); have n6_ := zpS ((by rw [hg]; exact Nat.ne_of_gt (zmN (g := gb466) (o := .cells #[.int .i64 a0_0, .int .i64 a0_1, .int .i64 a0_2] 31 (0, 0)) bk_) : gb467 ≠ gb466)); clear BK466; clear HB; have BK466 := n0_; have HB := n1_; have BK467 := n2_; have GW467 := n3_; have GE467 := n4_; have NB466_467 := n5_; have NB467_466 := n6_; clear n0_ n1_ n2_ n3_ n4_ n5_ n6_; clear hb hbox hg; have hnb8 := NB466_467.out; have hnc8 := NB467_466.out; obtain ⟨hcz9_0, hcz9_1, hcz9_2⟩ := zdT BK466.out; obtain ⟨hfz9_0, hfz9_1, hfz9_2⟩ := zqD BK466.out; obtain ⟨hcz10_0, hcz10_1, hcz10_2⟩ := zdT BK467.out; obtain ⟨hfz10_0, hfz10_1, hfz10_2⟩ := zqD BK467.out))
    go_ret
    exact ⟨by first | rfl | (simp [ziS, znJ] <;> rfl) | (simp [*, ziS, znJ] <;> rfl), bb_⟩
   ·rw [if_neg c5] at H
    have c5b0 : (a0_2 == a1_2) = false := beq_eq_false_iff_ne.mpr c5
    have c5b1 : (a0_2 != a1_2) = true := bne_iff_ne.mpr c5
    obtain rfl := Option.some.inj H
    go_enter Tryd.func30, Tryd.ntmps30
    go_wp2_with (first | ((with_reducible refine zpZ (N := 2) rfl ?_); refine bx_ 2 #[.int .i64 a0_0, .int .i64 a0_1, .int .i64 a0_2] 31 ?_; intro gb466 hg w11 hbox hb; have n0_ := (ns_ hb); have n1_ := zpS (hbox); have n2_ := (ng_ hg); have n3_ := n2_; clear HB; have HB := n0_; have BK466 := n1_; have GW466 := n2_; have GE466 := n3_; clear n0_ n1_ n2_ n3_; clear hb hbox hg) | ((with_reducible refine zpZ (N := 3) rfl ?_); refine bx_ 3 #[.int .i64 a1_0, .int .i64 a1_1, .int .i64 a1_2] 31 ?_; intro gb467 hg w12 hbox hb; have n0_ := zpS (zgM (g := gb466) (o := .cells #[.int .i64 a0_0, .int .i64 a0_1, .int .i64 a0_2] 31 (0, 0)) bk_ hb); have n1_ := (ns_ hb); have n2_ := zpS (hbox); have n3_ := (ng_ hg); have n4_ := n3_; have n5_ := zpS ((by rw [hg]; exact Nat.ne_of_lt (zmN (g := gb466) (o := .cells #[.int .i64 a0_0, .int .i64 a0_1, .int .i64 a0_2] 31 (0, 0)) bk_) : gb466 ≠ gb467)); have n6_ := zpS ((by rw [hg]; exact Nat.ne_of_gt (zmN (g := gb466) (o := .cells #[.int .i64 a0_0, .int .i64 a0_1, .int .i64 a0_2] 31 (0, 0)) bk_) : gb467 ≠ gb466)); clear BK466; clear HB; have BK466 := n0_; have HB := n1_; have BK467 := n2_; have GW467 := n3_; have GE467 := n4_; have NB466_467 := n5_; have NB467_466 := n6_; clear n0_ n1_ n2_ n3_ n4_ n5_ n6_; clear hb hbox hg; have hnb13 := NB466_467.out; have hnc13 := NB467_466.out; obtain ⟨hcz14_0, hcz14_1, hcz14_2⟩ := zdT BK466.out; obtain ⟨hfz14_0, hfz14_1, hfz14_2⟩ := zqD BK466.out; obtain ⟨hcz15_0, hcz15_1, hcz15_2⟩ := zdT BK467.out; obtain ⟨hfz15_0, hfz15_1, hfz15_2⟩ := zqD BK467.out))
    go_ret
    exact ⟨by first | rfl | (simp [ziS, znJ] <;> rfl) | (simp [*, ziS, znJ] <;> rfl), bb_⟩
  ·rw [if_neg c4] at H
   have c4b0 : (a0_1 == a1_1) = false := beq_eq_false_iff_ne.mpr c4
   have c4b1 : (a0_1 != a1_1) = true := bne_iff_ne.mpr c4
   obtain rfl := Option.some.inj H
   go_enter Tryd.func30, Tryd.ntmps30
   go_wp2_with (first | ((with_reducible refine zpZ (N := 2) rfl ?_); refine bx_ 2 #[.int .i64 a0_0, .int .i64 a0_1, .int .i64 a0_2] 31 ?_; intro gb466 hg w16 hbox hb; have n0_ := (ns_ hb); have n1_ := zpS (hbox); have n2_ := (ng_ hg); have n3_ := n2_; clear HB; have HB := n0_; have BK466 := n1_; have GW466 := n2_; have GE466 := n3_; clear n0_ n1_ n2_ n3_; clear hb hbox hg) | ((with_reducible refine zpZ (N := 3) rfl ?_); refine bx_ 3 #[.int .i64 a1_0, .int .i64 a1_1, .int .i64 a1_2] 31 ?_; intro gb467 hg w17 hbox hb; have n0_ := zpS (zgM (g := gb466) (o := .cells #[.int .i64 a0_0, .int .i64 a0_1, .int .i64 a0_2] 31 (0, 0)) bk_ hb); have n1_ := (ns_ hb); have n2_ := zpS (hbox); have n3_ := (ng_ hg); have n4_ := n3_; have n5_ := zpS ((by rw [hg]; exact Nat.ne_of_lt (zmN (g := gb466) (o := .cells #[.int .i64 a0_0, .int .i64 a0_1, .int .i64 a0_2] 31 (0, 0)) bk_) : gb466 ≠ gb467)); have n6_ := zpS ((by rw [hg]; exact Nat.ne_of_gt (zmN (g := gb466) (o := .cells #[.int .i64 a0_0, .int .i64 a0_1, .int .i64 a0_2] 31 (0, 0)) bk_) : gb467 ≠ gb466)); clear BK466; clear HB; have BK466 := n0_; have HB := n1_; have BK467 := n2_; have GW467 := n3_; have GE467 := n4_; have NB466_467 := n5_; have NB467_466 := n6_; clear n0_ n1_ n2_ n3_ n4_ n5_ n6_; clear hb hbox hg; have hnb18 := NB466_467.out; have hnc18 := NB467_466.out; obtain ⟨hcz19_0, hcz19_1, hcz19_2⟩ := zdT BK466.out; obtain ⟨hfz19_0, hfz19_1, hfz19_2⟩ := zqD BK466.out; obtain ⟨hcz20_0, hcz20_1, hcz20_2⟩ := zdT BK467.out; obtain ⟨hfz20_0, hfz20_1, hfz20_2⟩ := zqD BK467.out))
   go_ret
   exact ⟨by first | rfl | (simp [ziS, znJ] <;> rfl) | (simp [*, ziS, znJ] <;> rfl), bb_⟩
 ·rw [if_neg c3] at H
  have c3b0 : (a0_0 == a1_0) = false := beq_eq_false_iff_ne.mpr c3
  have c3b1 : (a0_0 != a1_0) = true := bne_iff_ne.mpr c3
  obtain rfl := Option.some.inj H
  go_enter Tryd.func30, Tryd.ntmps30
  go_wp2_with (first | ((with_reducible refine zpZ (N := 2) rfl ?_); refine bx_ 2 #[.int .i64 a0_0, .int .i64 a0_1, .int .i64 a0_2] 31 ?_; intro gb466 hg w21 hbox hb; have n0_ := (ns_ hb); have n1_ := zpS (hbox); have n2_ := (ng_ hg); have n3_ := n2_; clear HB; have HB := n0_; have BK466 := n1_; have GW466 := n2_; have GE466 := n3_; clear n0_ n1_ n2_ n3_; clear hb hbox hg) | ((with_reducible refine zpZ (N := 3) rfl ?_); refine bx_ 3 #[.int .i64 a1_0, .int .i64 a1_1, .int .i64 a1_2] 31 ?_; intro gb467 hg w22 hbox hb; have n0_ := zpS (zgM (g := gb466) (o := .cells #[.int .i64 a0_0, .int .i64 a0_1, .int .i64 a0_2] 31 (0, 0)) bk_ hb); have n1_ := (ns_ hb); have n2_ := zpS (hbox); have n3_ := (ng_ hg); have n4_ := n3_; have n5_ := zpS ((by rw [hg]; exact Nat.ne_of_lt (zmN (g := gb466) (o := .cells #[.int .i64 a0_0, .int .i64 a0_1, .int .i64 a0_2] 31 (0, 0)) bk_) : gb466 ≠ gb467)); have n6_ := zpS ((by rw [hg]; exact Nat.ne_of_gt (zmN (g := gb466) (o := .cells #[.int .i64 a0_0, .int .i64 a0_1, .int .i64 a0_2] 31 (0, 0)) bk_) : gb467 ≠ gb466)); clear BK466; clear HB; have BK466 := n0_; have HB := n1_; have BK467 := n2_; have GW467 := n3_; have GE467 := n4_; have NB466_467 := n5_; have NB467_466 := n6_; clear n0_ n1_ n2_ n3_ n4_ n5_ n6_; clear hb hbox hg; have hnb23 := NB466_467.out; have hnc23 := NB467_466.out; obtain ⟨hcz24_0, hcz24_1, hcz24_2⟩ := zdT BK466.out; obtain ⟨hfz24_0, hfz24_1, hfz24_2⟩ := zqD BK466.out; obtain ⟨hcz25_0, hcz25_1, hcz25_2⟩ := zdT BK467.out; obtain ⟨hfz25_0, hfz25_1, hfz25_2⟩ := zqD BK467.out))
  go_ret
  exact ⟨by first | rfl | (simp [ziS, znJ] <;> rfl) | (simp [*, ziS, znJ] <;> rfl), bb_⟩

def zkR.f (a0_0 : Int) (a0_1 : Int) (a0_2 : Int) (a0_3 : Int) (a0_4 : Int) (a0_5 : Int) (a1_0 : Int) (a1_1 : Int) (a1_2 : Int) (a1_3 : Int) (a1_4 : Int) (a1_5 : Int) : Option (Bool) := (zaT.f a0_0 a0_1 a0_2 a1_0 a1_1 a1_2).bind fun t470 => (if t470 = true then ((zaT.f a0_3 a0_4 a0_5 a1_3 a1_4 a1_5).bind fun t471 => (if t471 = true then (some true) else (some false))) else (some false))
set_option maxHeartbeats 8000000 in
set_option maxRecDepth 100000 in
theorem zkR.calls (a0_0 : Int) (a0_1 : Int) (a0_2 : Int) (a0_3 : Int) (a0_4 : Int) (a0_5 : Int) (a1_0 : Int) (a1_1 : Int) (a1_2 : Int) (a1_3 : Int) (a1_4 : Int) (a1_5 : Int) (r : Bool) (w : World) (h : zkR.f a0_0 a0_1 a0_2 a0_3 a0_4 a0_5 a1_0 a1_1 a1_2 a1_3 a1_4 a1_5 = some r) :
  Calls Tryd.prog 14 #[.agg #[.int .i64 a0_0, .int .i64 a0_1, .int .i64 a0_2, .int .i64 a0_3, .int .i64 a0_4, .int .i64 a0_5], .agg #[.int .i64 a1_0, .int .i64 a1_1, .int .i64 a1_2, .int .i64 a1_3, .int .i64 a1_4, .int .i64 a1_5]] w fun e w' => e = .returned (.bool r) ∧ Below w.heap.size w w' := by
 have hu33 := Tryd.underlying33
 have hu31 := Tryd.underlying31
 have HB := zpS (Below.refl w.heap.size w)
 have H : ((zaT.f a0_0 a0_1 a0_2 a1_0 a1_1 a1_2).bind fun t470 => (if t470 = true then ((zaT.f a0_3 a0_4 a0_5 a1_3 a1_4 a1_5).bind fun t471 => (if t471 = true then (some true) else (some false))) else (some false))) = some r := h
 clear h
 replace H := Option.bind_eq_some_iff.mp H
 obtain ⟨t470, A30, H⟩ := H
 replace H : (if t470 = true then ((zaT.f a0_3 a0_4 a0_5 a1_3 a1_4 a1_5).bind fun t471 => (if t471 = true then (some true) else (some false))) else (some false)) = some r := H
 have A3 := zpS A30
 clear A30
 by_cases c4 : t470 = true
 ·subst c4
  have H1 : ((zaT.f a0_3 a0_4 a0_5 a1_3 a1_4 a1_5).bind fun t471 => (if t471 = true then (some true) else (some false))) = some r := by rw [if_pos rfl] at H; exact H
  clear H
  have H := H1
  clear H1
  replace H := Option.bind_eq_some_iff.mp H
  obtain ⟨t471, A50, H⟩ := H
  replace H : (if t471 = true then (some true) else (some false)) = some r := H
  have A5 := zpS A50
  clear A50
  by_cases c6 : t471 = true
  ·subst c6
   have H1 : (some true) = some r := by rw [if_pos rfl] at H; exact H
   clear H
   have H := H1
   clear H1
   obtain rfl := Option.some.inj H
   go_enter Tryd.func14, Tryd.ntmps14
   go_wp2_with (first | ((with_reducible refine zpZ (N := 2) rfl ?_); refine bx_ 2 #[.int .i64 a0_0, .int .i64 a0_1, .int .i64 a0_2, .int .i64 a0_3, .int .i64 a0_4, .int .i64 a0_5] 33 ?_; intro gb468 hg w7 hbox hb; have n0_ := (ns_ hb); have n1_ := zpS (hbox); have n2_ := (ng_ hg); have n3_ := n2_; clear HB; have HB := n0_; have BK468 := n1_; have GW468 := n2_; have GE468 := n3_; clear n0_ n1_ n2_ n3_; clear hb hbox hg) | ((with_reducible refine zpZ (N := 3) rfl ?_); refine bx_ 3 #[.int .i64 a1_0, .int .i64 a1_1, .int .i64 a1_2, .int .i64 a1_3, .int .i64 a1_4, .int .i64 a1_5] 33 ?_; intro gb469 hg w8 hbox hb; have n0_ := zpS (zgM (g := gb468) (o := .cells #[.int .i64 a0_0, .int .i64 a0_1, .int .i64 a0_2, .int .i64 a0_3, .int .i64 a0_4, .int .i64 a0_5] 33 (0, 0)) bk_ hb); have n1_ := (ns_ hb); have n2_ := zpS (hbox); have n3_ := (ng_ hg); have n4_ := n3_; have n5_ := zpS ((by rw [hg]; exact Nat.ne_of_lt (zmN (g := gb468) (o := .cells #[.int .i64 a0_0, .int .i64 a0_1, .int .i64 a0_2, .int .i64 a0_3, .int .i64 a0_4, .int .i64 a0_5] 33 (0, 0)) bk_) : gb468 ≠ gb469)); have n6_ := zpS ((by rw [hg]; exact Nat.ne_of_gt (zmN (g := gb468) (o := .cells #[.int .i64 a0_0, .int .i64 a0_1, .int .i64 a0_2, .int .i64 a0_3, .int .i64 a0_4, .int .i64 a0_5] 33 (0, 0)) bk_) : gb469 ≠ gb468)); clear BK468; clear HB; have BK468 := n0_; have HB := n1_; have BK469 := n2_; have GW469 := n3_; have GE469 := n4_; have NB468_469 := n5_; have NB469_468 := n6_; clear n0_ n1_ n2_ n3_ n4_ n5_ n6_; clear hb hbox hg; have hnb9 := NB468_469.out; have hnc9 := NB469_468.out; obtain ⟨hcz10_0, hcz10_1, hcz10_2, hcz10_3, hcz10_4, hcz10_5⟩ := zrN BK468.out; obtain ⟨hfz10_0, hfz10_1, hfz10_2, hfz10_3, hfz10_4, hfz10_5⟩ := zoO BK468.out; obtain ⟨hcz11_0, hcz11_1, hcz11_2, hcz11_3, hcz11_4, hcz11_5⟩ := zrN BK469.out; obtain ⟨hfz11_0, hfz11_1, hfz11_2, hfz11_3, hfz11_4, hfz11_5⟩ := zoO BK469.out) | ((with_reducible refine zgK (f := 30) rfl ?_); refine zqQ (some 9) rfl rfl Tryd.func30 (by kernel_rfl) rfl #[.agg #[.int .i64 a0_0, .int .i64 a0_1, .int .i64 a0_2], .agg #[.int .i64 a1_0, .int .i64 a1_1, .int .i64 a1_2]] rfl (by (try simp only [List.map_toArray, List.map_cons, List.map_nil]); first | done | rfl | (simp only [List.length_drop, List.length_take]; rfl)) ?_; (with_reducible refine (zaT.calls a0_0 a0_1 a0_2 a1_0 a1_1 a1_2 true _ A3.out).mono ?_); rintro e w12 ⟨rfl, hb⟩; refine ⟨_, rfl, ?_⟩; have n0_ := zpS (zgM (g := gb468) (o := .cells #[.int .i64 a0_0, .int .i64 a0_1, .int .i64 a0_2, .int .i64 a0_3, .int .i64 a0_4, .int .i64 a0_5] 33 (0, 0)) bk_ hb); have n1_ := zpS (zgM (g := gb469) (o := .cells #[.int .i64 a1_0, .int .i64 a1_1, .int .i64 a1_2, .int .i64 a1_3, .int .i64 a1_4, .int .i64 a1_5] 33 (0, 0)) bk_ hb); have n2_ := (ns_ hb); clear BK468; clear BK469; clear HB; have BK468 := n0_; have BK469 := n1_; have HB := n2_; clear n0_ n1_ n2_; (try clear hb); (try clear hb2); obtain ⟨hcz13_0, hcz13_1, hcz13_2, hcz13_3, hcz13_4, hcz13_5⟩ := zrN BK468.out; obtain ⟨hfz13_0, hfz13_1, hfz13_2, hfz13_3, hfz13_4, hfz13_5⟩ := zoO BK468.out; obtain ⟨hcz14_0, hcz14_1, hcz14_2, hcz14_3, hcz14_4, hcz14_5⟩ := zrN BK469.out; obtain ⟨hfz14_0, hfz14_1, hfz14_2, hfz14_3, hfz14_4, hfz14_5⟩ := zoO BK469.out) | ((with_reducible refine zgK (f := 30) rfl ?_); refine zqQ (some 15) rfl rfl Tryd.func30 (by kernel_rfl) rfl #[.agg #[.int .i64 a0_3, .int .i64 a0_4, .int .i64 a0_5], .agg #[.int .i64 a1_3, .int .i64 a1_4, .int .i64 a1_5]] rfl (by (try simp only [List.map_toArray, List.map_cons, List.map_nil]); first | done | rfl | (simp only [List.length_drop, List.length_take]; rfl)) ?_; (with_reducible refine (zaT.calls a0_3 a0_4 a0_5 a1_3 a1_4 a1_5 true _ A5.out).mono ?_); rintro e w15 ⟨rfl, hb⟩; refine ⟨_, rfl, ?_⟩; have n0_ := zpS (zgM (g := gb468) (o := .cells #[.int .i64 a0_0, .int .i64 a0_1, .int .i64 a0_2, .int .i64 a0_3, .int .i64 a0_4, .int .i64 a0_5] 33 (0, 0)) bk_ hb); have n1_ := zpS (zgM (g := gb469) (o := .cells #[.int .i64 a1_0, .int .i64 a1_1, .int .i64 a1_2, .int .i64 a1_3, .int .i64 a1_4, .int .i64 a1_5] 33 (0, 0)) bk_ hb); have n2_ := (ns_ hb); clear BK468; clear BK469; clear HB; have BK468 := n0_; have BK469 := n1_; have HB := n2_; clear n0_ n1_ n2_; (try clear hb); (try clear hb2)))
   go_ret
   exact ⟨by first | rfl | (simp [ziS, znJ] <;> rfl) | (simp [*, ziS, znJ] <;> rfl), bb_⟩
  ·replace c6 := Bool.eq_false_iff.mpr c6
   subst c6
   have H1 : (some false) = some r := by rw [if_neg (show ¬ (false = true) by decide)] at H; exact H
   clear H
   have H := H1
   clear H1
   obtain rfl := Option.some.inj H
   go_enter Tryd.func14, Tryd.ntmps14
   go_wp2_with (first | ((with_reducible refine zpZ (N := 2) rfl ?_); refine bx_ 2 #[.int .i64 a0_0, .int .i64 a0_1, .int .i64 a0_2, .int .i64 a0_3, .int .i64 a0_4, .int .i64 a0_5] 33 ?_; intro gb468 hg w16 hbox hb; have n0_ := (ns_ hb); have n1_ := zpS (hbox); have n2_ := (ng_ hg); have n3_ := n2_; clear HB; have HB := n0_; have BK468 := n1_; have GW468 := n2_; have GE468 := n3_; clear n0_ n1_ n2_ n3_; clear hb hbox hg) | ((with_reducible refine zpZ (N := 3) rfl ?_); refine bx_ 3 #[.int .i64 a1_0, .int .i64 a1_1, .int .i64 a1_2, .int .i64 a1_3, .int .i64 a1_4, .int .i64 a1_5] 33 ?_; intro gb469 hg w17 hbox hb; have n0_ := zpS (zgM (g := gb468) (o := .cells #[.int .i64 a0_0, .int .i64 a0_1, .int .i64 a0_2, .int .i64 a0_3, .int .i64 a0_4, .int .i64 a0_5] 33 (0, 0)) bk_ hb); have n1_ := (ns_ hb); have n2_ := zpS (hbox); have n3_ := (ng_ hg); have n4_ := n3_; have n5_ := zpS ((by rw [hg]; exact Nat.ne_of_lt (zmN (g := gb468) (o := .cells #[.int .i64 a0_0, .int .i64 a0_1, .int .i64 a0_2, .int .i64 a0_3, .int .i64 a0_4, .int .i64 a0_5] 33 (0, 0)) bk_) : gb468 ≠ gb469)); have n6_ := zpS ((by rw [hg]; exact Nat.ne_of_gt (zmN (g := gb468) (o := .cells #[.int .i64 a0_0, .int .i64 a0_1, .int .i64 a0_2, .int .i64 a0_3, .int .i64 a0_4, .int .i64 a0_5] 33 (0, 0)) bk_) : gb469 ≠ gb468)); clear BK468; clear HB; have BK468 := n0_; have HB := n1_; have BK469 := n2_; have GW469 := n3_; have GE469 := n4_; have NB468_469 := n5_; have NB469_468 := n6_; clear n0_ n1_ n2_ n3_ n4_ n5_ n6_; clear hb hbox hg; have hnb18 := NB468_469.out; have hnc18 := NB469_468.out; obtain ⟨hcz19_0, hcz19_1, hcz19_2, hcz19_3, hcz19_4, hcz19_5⟩ := zrN BK468.out; obtain ⟨hfz19_0, hfz19_1, hfz19_2, hfz19_3, hfz19_4, hfz19_5⟩ := zoO BK468.out; obtain ⟨hcz20_0, hcz20_1, hcz20_2, hcz20_3, hcz20_4, hcz20_5⟩ := zrN BK469.out; obtain ⟨hfz20_0, hfz20_1, hfz20_2, hfz20_3, hfz20_4, hfz20_5⟩ := zoO BK469.out) | ((with_reducible refine zgK (f := 30) rfl ?_); refine zqQ (some 9) rfl rfl Tryd.func30 (by kernel_rfl) rfl #[.agg #[.int .i64 a0_0, .int .i64 a0_1, .int .i64 a0_2], .agg #[.int .i64 a1_0, .int .i64 a1_1, .int .i64 a1_2]] rfl (by (try simp only [List.map_toArray, List.map_cons, List.map_nil]); first | done | rfl | (simp only [List.length_drop, List.length_take]; rfl)) ?_; (with_reducible refine (zaT.calls a0_0 a0_1 a0_2 a1_0 a1_1 a1_2 true _ A3.out).mono ?_); rintro e w21 ⟨rfl, hb⟩; refine ⟨_, rfl, ?_⟩; have n0_ := zpS (zgM (g := gb468) (o := .cells #[.int .i64 a0_0, .int .i64 a0_1, .int .i64 a0_2, .int .i64 a0_3, .int .i64 a0_4, .int .i64 a0_5] 33 (0, 0)) bk_ hb); have n1_ := zpS (zgM (g := gb469) (o := .cells #[.int .i64 a1_0, .int .i64 a1_1, .int .i64 a1_2, .int .i64 a1_3, .int .i64 a1_4, .int .i64 a1_5] 33 (0, 0)) bk_ hb); have n2_ := (ns_ hb); clear BK468; clear BK469; clear HB; have BK468 := n0_; have BK469 := n1_; have HB := n2_; clear n0_ n1_ n2_; (try clear hb); (try clear hb2); obtain ⟨hcz22_0, hcz22_1, hcz22_2, hcz22_3, hcz22_4, hcz22_5⟩ := zrN BK468.out; obtain ⟨hfz22_0, hfz22_1, hfz22_2, hfz22_3, hfz22_4, hfz22_5⟩ := zoO BK468.out; obtain ⟨hcz23_0, hcz23_1, hcz23_2, hcz23_3, hcz23_4, hcz23_5⟩ := zrN BK469.out; obtain ⟨hfz23_0, hfz23_1, hfz23_2, hfz23_3, hfz23_4, hfz23_5⟩ := zoO BK469.out) | ((with_reducible refine zgK (f := 30) rfl ?_); refine zqQ (some 15) rfl rfl Tryd.func30 (by kernel_rfl) rfl #[.agg #[.int .i64 a0_3, .int .i64 a0_4, .int .i64 a0_5], .agg #[.int .i64 a1_3, .int .i64 a1_4, .int .i64 a1_5]] rfl (by (try simp only [List.map_toArray, List.map_cons, List.map_nil]); first | done | rfl | (simp only [List.length_drop, List.length_take]; rfl)) ?_; (with_reducible refine (zaT.calls a0_3 a0_4 a0_5 a1_3 a1_4 a1_5 false _ A5.out).mono ?_); rintro e w24 ⟨rfl, hb⟩; refine ⟨_, rfl, ?_⟩; have n0_ := zpS (zgM (g := gb468) (o := .cells #[.int .i64 a0_0, .int .i64 a0_1, .int .i64 a0_2, .int .i64 a0_3, .int .i64 a0_4, .int .i64 a0_5] 33 (0, 0)) bk_ hb); have n1_ := zpS (zgM (g := gb469) (o := .cells #[.int .i64 a1_0, .int .i64 a1_1, .int .i64 a1_2, .int .i64 a1_3, .int .i64 a1_4, .int .i64 a1_5] 33 (0, 0)) bk_ hb); have n2_ := (ns_ hb); clear BK468; clear BK469; clear HB; have BK468 := n0_; have BK469 := n1_; have HB := n2_; clear n0_ n1_ n2_; (try clear hb); (try clear hb2)))
   go_ret
   exact ⟨by first | rfl | (simp [ziS, znJ] <;> rfl) | (simp [*, ziS, znJ] <;> rfl), bb_⟩
 ·replace c4 := Bool.eq_false_iff.mpr c4
  subst c4
  have H1 : (some false) = some r := by rw [if_neg (show ¬ (false = true) by decide)] at H; exact H
  clear H
  have H := H1
  clear H1
  obtain rfl := Option.some.inj H
  go_enter Tryd.func14, Tryd.ntmps14
  go_wp2_with (first | ((with_reducible refine zpZ (N := 2) rfl ?_); refine bx_ 2 #[.int .i64 a0_0, .int .i64 a0_1, .int .i64 a0_2, .int .i64 a0_3, .int .i64 a0_4, .int .i64 a0_5] 33 ?_; intro gb468 hg w25 hbox hb; have n0_ := (ns_ hb); have n1_ := zpS (hbox); have n2_ := (ng_ hg); have n3_ := n2_; clear HB; have HB := n0_; have BK468 := n1_; have GW468 := n2_; have GE468 := n3_; clear n0_ n1_ n2_ n3_; clear hb hbox hg) | ((with_reducible refine zpZ (N := 3) rfl ?_); refine bx_ 3 #[.int .i64 a1_0, .int .i64 a1_1, .int .i64 a1_2, .int .i64 a1_3, .int .i64 a1_4, .int .i64 a1_5] 33 ?_; intro gb469 hg w26 hbox hb; have n0_ := zpS (zgM (g := gb468) (o := .cells #[.int .i64 a0_0, .int .i64 a0_1, .int .i64 a0_2, .int .i64 a0_3, .int .i64 a0_4, .int .i64 a0_5] 33 (0, 0)) bk_ hb); have n1_ := (ns_ hb); have n2_ := zpS (hbox); have n3_ := (ng_ hg); have n4_ := n3_; have n5_ := zpS ((by rw [hg]; exact Nat.ne_of_lt (zmN (g := gb468) (o := .cells #[.int .i64 a0_0, .int .i64 a0_1, .int .i64 a0_2, .int .i64 a0_3, .int .i64 a0_4, .int .i64 a0_5] 33 (0, 0)) bk_) : gb468 ≠ gb469)); have n6_ := zpS ((by rw [hg]; exact Nat.ne_of_gt (zmN (g := gb468) (o := .cells #[.int .i64 a0_0, .int .i64 a0_1, .int .i64 a0_2, .int .i64 a0_3, .int .i64 a0_4, .int .i64 a0_5] 33 (0, 0)) bk_) : gb469 ≠ gb468)); clear BK468; clear HB; have BK468 := n0_; have HB := n1_; have BK469 := n2_; have GW469 := n3_; have GE469 := n4_; have NB468_469 := n5_; have NB469_468 := n6_; clear n0_ n1_ n2_ n3_ n4_ n5_ n6_; clear hb hbox hg; have hnb27 := NB468_469.out; have hnc27 := NB469_468.out; obtain ⟨hcz28_0, hcz28_1, hcz28_2, hcz28_3, hcz28_4, hcz28_5⟩ := zrN BK468.out; obtain ⟨hfz28_0, hfz28_1, hfz28_2, hfz28_3, hfz28_4, hfz28_5⟩ := zoO BK468.out; obtain ⟨hcz29_0, hcz29_1, hcz29_2, hcz29_3, hcz29_4, hcz29_5⟩ := zrN BK469.out; obtain ⟨hfz29_0, hfz29_1, hfz29_2, hfz29_3, hfz29_4, hfz29_5⟩ := zoO BK469.out) | ((with_reducible refine zgK (f := 30) rfl ?_); refine zqQ (some 9) rfl rfl Tryd.func30 (by kernel_rfl) rfl #[.agg #[.int .i64 a0_0, .int .i64 a0_1, .int .i64 a0_2], .agg #[.int .i64 a1_0, .int .i64 a1_1, .int .i64 a1_2]] rfl (by (try simp only [List.map_toArray, List.map_cons, List.map_nil]); first | done | rfl | (simp only [List.length_drop, List.length_take]; rfl)) ?_; (with_reducible refine (zaT.calls a0_0 a0_1 a0_2 a1_0 a1_1 a1_2 false _ A3.out).mono ?_); rintro e w30 ⟨rfl, hb⟩; refine ⟨_, rfl, ?_⟩; have n0_ := zpS (zgM (g := gb468) (o := .cells #[.int .i64 a0_0, .int .i64 a0_1, .int .i64 a0_2, .int .i64 a0_3, .int .i64 a0_4, .int .i64 a0_5] 33 (0, 0)) bk_ hb); have n1_ := zpS (zgM (g := gb469) (o := .cells #[.int .i64 a1_0, .int .i64 a1_1, .int .i64 a1_2, .int .i64 a1_3, .int .i64 a1_4, .int .i64 a1_5] 33 (0, 0)) bk_ hb); have n2_ := (ns_ hb); clear BK468; clear BK469; clear HB; have BK468 := n0_; have BK469 := n1_; have HB := n2_; clear n0_ n1_ n2_; (try clear hb); (try clear hb2)))
  go_ret
  exact ⟨by first | rfl | (simp [ziS, znJ] <;> rfl) | (simp [*, ziS, znJ] <;> rfl), bb_⟩

def zcH.l0 : Nat → List (S33) → List (S33) → Int → Option (Bool)
 | 0, _, _, _ => none
 | k + 1, x0, x1, x5 => if x5 < (x0.length : Int) then (if 0 ≤ x5 then (if x5 < (x1.length : Int) then ((zkR.f ((zdH x0 x5).f0.f0) ((zdH x0 x5).f0.f1) ((zdH x0 x5).f0.f2) ((zdH x0 x5).f1.f0) ((zdH x0 x5).f1.f1) ((zdH x0 x5).f1.f2) ((zdH x1 x5).f0.f0) ((zdH x1 x5).f0.f1) ((zdH x1 x5).f0.f2) ((zdH x1 x5).f1.f0) ((zdH x1 x5).f1.f1) ((zdH x1 x5).f1.f2)).bind fun t474 => (if t474 = true then (zcH.l0 k x0 x1 (wrap64 (x5 + 1))) else (some false))) else (none)) else (none)) else (some true)
def zcH.f (k : Nat) (l0 : List (S33)) (l1 : List (S33)) : Option (Bool) := if (l0.length : Int) = (l1.length : Int) then (zcH.l0 k l0 l1 0) else (some false)
theorem zcH.mono_l : ∀ k, (∀ y0 y1 y2, LeO (zcH.l0 k y0 y1 y2) (zcH.l0 (k + 1) y0 y1 y2))
 | 0 => fun _ _ _ r h => by simp [zcH.l0] at h
 | k + 1 => by
  have ih0 := zcH.mono_l k
  ·intro y0 y1 y2
   unfold zcH.l0
   repeat' first
   | (with_reducible exact ih0 _ _ _)
   | (with_reducible exact LeO.refl _)
   | (with_reducible exact LeO.none _)
   | (with_reducible refine LeO.ite ?_ ?_)
   | (with_reducible refine LeO.bind ?_ (fun _ => ?_))
   | exact ih0 _ _ _
   | exact LeO.none _
   | refine LeO.ite ?_ ?_
   | refine LeO.bind ?_ (fun _ => ?_)
theorem zcH.mono : ∀ a0 a1 k, LeO (zcH.f k a0 a1) (zcH.f (k + 1) a0 a1) := by
 intro a0 a1 k
 have ih0 := zcH.mono_l k
 unfold zcH.f
 repeat' first
   | (with_reducible exact ih0 _ _ _)
   | (with_reducible exact LeO.refl _)
   | (with_reducible exact LeO.none _)
   | (with_reducible refine LeO.ite ?_ ?_)
   | (with_reducible refine LeO.bind ?_ (fun _ => ?_))
   | exact ih0 _ _ _
   | exact LeO.none _
   | refine LeO.ite ?_ ?_
   | refine LeO.bind ?_ (fun _ => ?_)
def zcH.T6 : Bool × List (List Nat × List Nat) := (true, [([], []), ([], []), ([0, 1], [0, 1]), ([2], [2]), ([], []), ([], []), ([4, 5], [4, 5]), ([6], [6]), ([3, 7], [3, 7]), ([8], [8])])
def zcH.B6 : List Nat := [0, 0, 3, 7, 0, 0, 48, 112, 255, 511]
theorem zcH.tab6 : rtab .any (opsOf Tryd.f8 6) = zcH.T6 := by kernel_rfl
theorem zcH.bits6 : ztG zcH.T6.2 zcH.B6 = true := by kernel_rfl
set_option maxHeartbeats 8000000 in
set_option maxRecDepth 100000 in
theorem zcH.calls (k : Nat) (A0 : Option Addr) (c0 : Nat) (l0 : List (S33)) (A1 : Option Addr) (c1 : Nat) (l1 : List (S33)) (r : Bool) (w : World) (hr0 : Kd.C k33 w A0 l0.length l0) (hc0 : l0.length ≤ c0) (hr1 : Kd.C k33 w A1 l1.length l1) (hc1 : l1.length ≤ c1) (h : zcH.f k l0 l1 = some r) :
  Calls Tryd.prog 8 #[.slice A0 l0.length c0, .slice A1 l1.length c1] w fun e w' => e = .returned (.bool r) ∧ Below w.heap.size w w' := by
 have hu33 := Tryd.underlying33
 have HR0 := zpS hr0
 have HC0 := zpS hc0
 clear hr0 hc0
 have HR1 := zpS hr1
 have HC1 := zpS hc1
 clear hr1 hc1
 have HB := zpS (Below.refl w.heap.size w)
 have H : (if (l0.length : Int) = (l1.length : Int) then (zcH.l0 k l0 l1 0) else (some false)) = some r := h
 clear h
 by_cases c3 : (l0.length : Int) = (l1.length : Int)
 ·rw [if_pos c3] at H
  have c3b0 : ((l0.length : Int) == (l1.length : Int)) = true := beq_iff_eq.mpr c3
  have c3b1 : ((l0.length : Int) != (l1.length : Int)) = false := bne_eq_false_iff_eq.mpr c3
  have c3b2 : (l0.length == l1.length) = true := by first | simpa using c3 | (simp at c3 ⊢; omega)
  clear c3
  have H' := zpS H
  clear H
  go_enter Tryd.func8, Tryd.ntmps8
  go_wp2
  (try go_simp)
  go_loopg [5] k (fun kq v5 w' => ∃ (x5_1 : Int), v5 = .int .i64 x5_1 ∧ Aside0 (zcH.l0 kq l0 l1 x5_1 = some r) ∧ Aside0 (kq ≤ k) ∧ Aside0 (Below w.heap.size w w'))
  case atStart => exact ⟨(0), (by first | rfl | (simp; done) | (simp [*]; done)), H', ⟨Nat.le_refl _⟩, ⟨bb_⟩⟩
  case round =>
   clear H'
   try clear c1
   try clear p2
   try clear c3
   try clear c3b0
   try clear c3b1
   try clear c3b2
   obtain ⟨x5_1, rfl, HA, HK1, HB⟩ := hrel
   cases gk with
   | zero => exact absurd HA.out (by simp [zcH.l0])
   | succ k1 =>
    have H := HA.out
    clear HA
    simp only [zcH.l0] at H
    by_cases c4 : x5_1 < (l0.length : Int)
    ·rw [if_pos c4] at H
     have c4b0 : decide (x5_1 < (l0.length : Int)) = true := decide_eq_true c4
     clear c4
     by_cases c5 : 0 ≤ x5_1
     ·rw [if_pos c5] at H
      have c5b0 : decide (0 ≤ x5_1) = true := decide_eq_true c5
      clear c5
      by_cases c6 : x5_1 < (l1.length : Int)
      ·rw [if_pos c6] at H
       have c6b0 : decide (x5_1 < (l1.length : Int)) = true := decide_eq_true c6
       clear c6
       replace H := Option.bind_eq_some_iff.mp H
       obtain ⟨t474, A70, H⟩ := H
       replace H : (if t474 = true then (zcH.l0 k1 l0 l1 (wrap64 (x5_1 + 1))) else (some false)) = some r := H
       have A7 := zpS A70
       clear A70
       by_cases c8 : t474 = true
       ·subst c8
        have H1 : (zcH.l0 k1 l0 l1 (wrap64 (x5_1 + 1))) = some r := by rw [if_pos rfl] at H; exact H
        clear H
        have H := H1
        clear H1
        have H' := zpS H
        clear H
        try go_wp2
        have n0_ := zpS (zvF HB.out)
        clear HB
        have HB := n0_
        clear n0_
        have p472 : 0 ≤ (x5_1 : Int) := of_decide_eq_true (by first | (with_reducible assumption) | assumption)
        have q472 : x5_1 < (l0.length : Int) := of_decide_eq_true (by first | (with_reducible assumption) | assumption)
        obtain ⟨ad472, e472, hx472_0, hx472_1, hx472_2, hx472_3, hx472_4, hx472_5⟩ := zuR HR0.out x5_1 p472 q472
        have hw472_5 := hx472_5
        have hw472_4 := hx472_4
        have hw472_3 := hx472_3
        have hw472_2 := hx472_2
        have hw472_1 := hx472_1
        have hw472_0 := hx472_0
        cases e472
        replace hx472_0 := zeA HB.out hx472_0
        replace hx472_1 := zeA HB.out hx472_1
        replace hx472_2 := zeA HB.out hx472_2
        replace hx472_3 := zeA HB.out hx472_3
        replace hx472_4 := zeA HB.out hx472_4
        replace hx472_5 := zeA HB.out hx472_5
        replace p472 := eq_true p472
        replace q472 := eq_true q472
        have p473 : 0 ≤ (x5_1 : Int) := of_decide_eq_true (by first | (with_reducible assumption) | assumption)
        have q473 : x5_1 < (l1.length : Int) := of_decide_eq_true (by first | (with_reducible assumption) | assumption)
        obtain ⟨ad473, e473, hx473_0, hx473_1, hx473_2, hx473_3, hx473_4, hx473_5⟩ := zuR HR1.out x5_1 p473 q473
        have hw473_5 := hx473_5
        have hw473_4 := hx473_4
        have hw473_3 := hx473_3
        have hw473_2 := hx473_2
        have hw473_1 := hx473_1
        have hw473_0 := hx473_0
        cases e473
        replace hx473_0 := zeA HB.out hx473_0
        replace hx473_1 := zeA HB.out hx473_1
        replace hx473_2 := zeA HB.out hx473_2
        replace hx473_3 := zeA HB.out hx473_3
        replace hx473_4 := zeA HB.out hx473_4
        replace hx473_5 := zeA HB.out hx473_5
        replace p473 := eq_true p473
        replace q473 := eq_true q473
        refine zpB (n := 10) (S := fun w' => w'.cell? (ad472.add ((x5_1).toNat * 6)) = some (.int .i64 ((zdH l0 x5_1).f0.f0)) ∧ w'.cell? ⟨(ad472.add ((x5_1).toNat * 6)).block, (ad472.add ((x5_1).toNat * 6)).off + 1, none⟩ = some (.int .i64 ((zdH l0 x5_1).f0.f1)) ∧ w'.cell? ⟨(ad472.add ((x5_1).toNat * 6)).block, (ad472.add ((x5_1).toNat * 6)).off + 2, none⟩ = some (.int .i64 ((zdH l0 x5_1).f0.f2)) ∧ w'.cell? ⟨(ad472.add ((x5_1).toNat * 6)).block, (ad472.add ((x5_1).toNat * 6)).off + 3, none⟩ = some (.int .i64 ((zdH l0 x5_1).f1.f0)) ∧ w'.cell? ⟨(ad472.add ((x5_1).toNat * 6)).block, (ad472.add ((x5_1).toNat * 6)).off + 4, none⟩ = some (.int .i64 ((zdH l0 x5_1).f1.f1)) ∧ w'.cell? ⟨(ad472.add ((x5_1).toNat * 6)).block, (ad472.add ((x5_1).toNat * 6)).off + 5, none⟩ = some (.int .i64 ((zdH l0 x5_1).f1.f2)) ∧ w'.cell? (ad473.add ((x5_1).toNat * 6)) = some (.int .i64 ((zdH l1 x5_1).f0.f0)) ∧ w'.cell? ⟨(ad473.add ((x5_1).toNat * 6)).block, (ad473.add ((x5_1).toNat * 6)).off + 1, none⟩ = some (.int .i64 ((zdH l1 x5_1).f0.f1)) ∧ w'.cell? ⟨(ad473.add ((x5_1).toNat * 6)).block, (ad473.add ((x5_1).toNat * 6)).off + 2, none⟩ = some (.int .i64 ((zdH l1 x5_1).f0.f2)) ∧ w'.cell? ⟨(ad473.add ((x5_1).toNat * 6)).block, (ad473.add ((x5_1).toNat * 6)).off + 3, none⟩ = some (.int .i64 ((zdH l1 x5_1).f1.f0)) ∧ w'.cell? ⟨(ad473.add ((x5_1).toNat * 6)).block, (ad473.add ((x5_1).toNat * 6)).off + 4, none⟩ = some (.int .i64 ((zdH l1 x5_1).f1.f1)) ∧ w'.cell? ⟨(ad473.add ((x5_1).toNat * 6)).block, (ad473.add ((x5_1).toNat * 6)).off + 5, none⟩ = some (.int .i64 ((zdH l1 x5_1).f1.f2))) (ds := []) #[false, false, false, false, false, false, false, false, false, false] (by kernel_rfl) rfl rfl ⟨(zeA HB.out hw472_0), (zeA HB.out hw472_1), (zeA HB.out hw472_2), (zeA HB.out hw472_3), (zeA HB.out hw472_4), (zeA HB.out hw472_5), (zeA HB.out hw473_0), (zeA HB.out hw473_1), (zeA HB.out hw473_2), (zeA HB.out hw473_3), (zeA HB.out hw473_4), (zeA HB.out hw473_5)⟩ (fun hHeld => ?_); refine zwI zcH.tab6 zcH.bits6 (fun HT_ HW_ => ?_)
        generalize wr.drew = w9 at HB hx472_0 hx472_1 hx472_2 hx472_3 hx472_4 hx472_5 hx473_0 hx473_1 hx473_2 hx473_3 hx473_4 hx473_5 hHeld ⊢
        refine pu_ 0 (some 17) (bl_ 10 1) ?_
        refine pu_ 1 (some 18) (bl_ 10 3) ?_
        refine pu_ 2 (some 19) (bl_ 10 7) ?_
        refine pu_ 4 (some 21) (bl_ 10 23) ?_
        refine pu_ 5 (some 22) (bl_ 10 55) ?_
        refine pu_ 6 (some 23) (bl_ 10 119) ?_
        refine zmW 3 (some 20) (bl_ 10 127) hHeld ?_
        refine zmW 7 (some 24) (bl_ 10 255) hHeld ?_
        refine zdC (i := 8) (N := some 25) (bl_ 10 511) rfl rfl (zeO HT_.out (by kernel_rfl)) (by decide) (fun K hK => ?_)
        refine zqW Tryd.func14 (by kernel_rfl) rfl #[.agg #[.int .i64 ((zdH l0 x5_1).f0.f0), .int .i64 ((zdH l0 x5_1).f0.f1), .int .i64 ((zdH l0 x5_1).f0.f2), .int .i64 ((zdH l0 x5_1).f1.f0), .int .i64 ((zdH l0 x5_1).f1.f1), .int .i64 ((zdH l0 x5_1).f1.f2)], .agg #[.int .i64 ((zdH l1 x5_1).f0.f0), .int .i64 ((zdH l1 x5_1).f0.f1), .int .i64 ((zdH l1 x5_1).f0.f2), .int .i64 ((zdH l1 x5_1).f1.f0), .int .i64 ((zdH l1 x5_1).f1.f1), .int .i64 ((zdH l1 x5_1).f1.f2)]] (by rfl) rfl rfl (by (try simp only [List.map_toArray, List.map_cons, List.map_nil]); first | done | rfl | (simp only [List.length_drop, List.length_take]; rfl)) ?_
        with_reducible refine (zkR.calls ((zdH l0 x5_1).f0.f0) ((zdH l0 x5_1).f0.f1) ((zdH l0 x5_1).f0.f2) ((zdH l0 x5_1).f1.f0) ((zdH l0 x5_1).f1.f1) ((zdH l0 x5_1).f1.f2) ((zdH l1 x5_1).f0.f0) ((zdH l1 x5_1).f0.f1) ((zdH l1 x5_1).f0.f2) ((zdH l1 x5_1).f1.f0) ((zdH l1 x5_1).f1.f1) ((zdH l1 x5_1).f1.f2) true _ A7.out).mono ?_
        rintro e w10 ⟨rfl, hb⟩
        refine ⟨_, rfl, ?_⟩
        have n0_ := (ns_ hb)
        clear HB
        have HB := n0_
        clear n0_
        (try clear hb)
        (try clear hb2)
        (try clear hk)
        (try clear hi)
        refine hK.out _ _ ⟨(zeA HB.out hw472_0), (zeA HB.out hw472_1), (zeA HB.out hw472_2), (zeA HB.out hw472_3), (zeA HB.out hw472_4), (zeA HB.out hw472_5), (zeA HB.out hw473_0), (zeA HB.out hw473_1), (zeA HB.out hw473_2), (zeA HB.out hw473_3), (zeA HB.out hw473_4), (zeA HB.out hw473_5)⟩ (fun hHeld => ?_)
        clear hK K
        refine zaN (a' := ?_) ?_ ?_
        rotate_left
        ·show Act.put _ (some 25) _ = _
         simp only [Act.put, List.setIfInBounds_toArray, List.set_cons_zero, List.set_cons_succ, zcM, ziJ]
         rfl
        refine pu_ 9 (some 26) (bl_ 10 1023) ?_
        refine znK (zzP HT_.out (by kernel_rfl)) ?_
        try go_wp2
        go_roundg k1
        case measure => have := HK1.out; omega
        case rel => exact ⟨(wrap64 (x5_1 + 1)), (by first | rfl | (simp; done) | (simp [*]; done)), H', ⟨by have := HK1.out; omega⟩, ⟨bb_⟩⟩
       ·replace c8 := Bool.eq_false_iff.mpr c8
        subst c8
        have H1 : (some false) = some r := by rw [if_neg (show ¬ (false = true) by decide)] at H; exact H
        clear H
        have H := H1
        clear H1
        obtain rfl := Option.some.inj H
        try go_wp2
        have n0_ := zpS (zvF HB.out)
        clear HB
        have HB := n0_
        clear n0_
        have p472 : 0 ≤ (x5_1 : Int) := of_decide_eq_true (by first | (with_reducible assumption) | assumption)
        have q472 : x5_1 < (l0.length : Int) := of_decide_eq_true (by first | (with_reducible assumption) | assumption)
        obtain ⟨ad472, e472, hx472_0, hx472_1, hx472_2, hx472_3, hx472_4, hx472_5⟩ := zuR HR0.out x5_1 p472 q472
        have hw472_5 := hx472_5
        have hw472_4 := hx472_4
        have hw472_3 := hx472_3
        have hw472_2 := hx472_2
        have hw472_1 := hx472_1
        have hw472_0 := hx472_0
        cases e472
        replace hx472_0 := zeA HB.out hx472_0
        replace hx472_1 := zeA HB.out hx472_1
        replace hx472_2 := zeA HB.out hx472_2
        replace hx472_3 := zeA HB.out hx472_3
        replace hx472_4 := zeA HB.out hx472_4
        replace hx472_5 := zeA HB.out hx472_5
        replace p472 := eq_true p472
        replace q472 := eq_true q472
        have p473 : 0 ≤ (x5_1 : Int) := of_decide_eq_true (by first | (with_reducible assumption) | assumption)
        have q473 : x5_1 < (l1.length : Int) := of_decide_eq_true (by first | (with_reducible assumption) | assumption)
        obtain ⟨ad473, e473, hx473_0, hx473_1, hx473_2, hx473_3, hx473_4, hx473_5⟩ := zuR HR1.out x5_1 p473 q473
        have hw473_5 := hx473_5
        have hw473_4 := hx473_4
        have hw473_3 := hx473_3
        have hw473_2 := hx473_2
        have hw473_1 := hx473_1
        have hw473_0 := hx473_0
        cases e473
        replace hx473_0 := zeA HB.out hx473_0
        replace hx473_1 := zeA HB.out hx473_1
        replace hx473_2 := zeA HB.out hx473_2
        replace hx473_3 := zeA HB.out hx473_3
        replace hx473_4 := zeA HB.out hx473_4
        replace hx473_5 := zeA HB.out hx473_5
        replace p473 := eq_true p473
        replace q473 := eq_true q473
        refine zpB (n := 10) (S := fun w' => w'.cell? (ad472.add ((x5_1).toNat * 6)) = some (.int .i64 ((zdH l0 x5_1).f0.f0)) ∧ w'.cell? ⟨(ad472.add ((x5_1).toNat * 6)).block, (ad472.add ((x5_1).toNat * 6)).off + 1, none⟩ = some (.int .i64 ((zdH l0 x5_1).f0.f1)) ∧ w'.cell? ⟨(ad472.add ((x5_1).toNat * 6)).block, (ad472.add ((x5_1).toNat * 6)).off + 2, none⟩ = some (.int .i64 ((zdH l0 x5_1).f0.f2)) ∧ w'.cell? ⟨(ad472.add ((x5_1).toNat * 6)).block, (ad472.add ((x5_1).toNat * 6)).off + 3, none⟩ = some (.int .i64 ((zdH l0 x5_1).f1.f0)) ∧ w'.cell? ⟨(ad472.add ((x5_1).toNat * 6)).block, (ad472.add ((x5_1).toNat * 6)).off + 4, none⟩ = some (.int .i64 ((zdH l0 x5_1).f1.f1)) ∧ w'.cell? ⟨(ad472.add ((x5_1).toNat * 6)).block, (ad472.add ((x5_1).toNat * 6)).off + 5, none⟩ = some (.int .i64 ((zdH l0 x5_1).f1.f2)) ∧ w'.cell? (ad473.add ((x5_1).toNat * 6)) = some (.int .i64 ((zdH l1 x5_1).f0.f0)) ∧ w'.cell? ⟨(ad473.add ((x5_1).toNat * 6)).block, (ad473.add ((x5_1).toNat * 6)).off + 1, none⟩ = some (.int .i64 ((zdH l1 x5_1).f0.f1)) ∧ w'.cell? ⟨(ad473.add ((x5_1).toNat * 6)).block, (ad473.add ((x5_1).toNat * 6)).off + 2, none⟩ = some (.int .i64 ((zdH l1 x5_1).f0.f2)) ∧ w'.cell? ⟨(ad473.add ((x5_1).toNat * 6)).block, (ad473.add ((x5_1).toNat * 6)).off + 3, none⟩ = some (.int .i64 ((zdH l1 x5_1).f1.f0)) ∧ w'.cell? ⟨(ad473.add ((x5_1).toNat * 6)).block, (ad473.add ((x5_1).toNat * 6)).off + 4, none⟩ = some (.int .i64 ((zdH l1 x5_1).f1.f1)) ∧ w'.cell? ⟨(ad473.add ((x5_1).toNat * 6)).block, (ad473.add ((x5_1).toNat * 6)).off + 5, none⟩ = some (.int .i64 ((zdH l1 x5_1).f1.f2))) (ds := []) #[false, false, false, false, false, false, false, false, false, false] (by kernel_rfl) rfl rfl ⟨(zeA HB.out hw472_0), (zeA HB.out hw472_1), (zeA HB.out hw472_2), (zeA HB.out hw472_3), (zeA HB.out hw472_4), (zeA HB.out hw472_5), (zeA HB.out hw473_0), (zeA HB.out hw473_1), (zeA HB.out hw473_2), (zeA HB.out hw473_3), (zeA HB.out hw473_4), (zeA HB.out hw473_5)⟩ (fun hHeld => ?_); refine zwI zcH.tab6 zcH.bits6 (fun HT_ HW_ => ?_)
        generalize wr.drew = w11 at HB hx472_0 hx472_1 hx472_2 hx472_3 hx472_4 hx472_5 hx473_0 hx473_1 hx473_2 hx473_3 hx473_4 hx473_5 hHeld ⊢
        refine pu_ 0 (some 17) (bl_ 10 1) ?_
        refine pu_ 1 (some 18) (bl_ 10 3) ?_
        refine pu_ 2 (some 19) (bl_ 10 7) ?_
        refine pu_ 4 (some 21) (bl_ 10 23) ?_
        refine pu_ 5 (some 22) (bl_ 10 55) ?_
        refine pu_ 6 (some 23) (bl_ 10 119) ?_
        refine zmW 3 (some 20) (bl_ 10 127) hHeld ?_
        refine zmW 7 (some 24) (bl_ 10 255) hHeld ?_
        refine zdC (i := 8) (N := some 25) (bl_ 10 511) rfl rfl (zeO HT_.out (by kernel_rfl)) (by decide) (fun K hK => ?_)
        refine zqW Tryd.func14 (by kernel_rfl) rfl #[.agg #[.int .i64 ((zdH l0 x5_1).f0.f0), .int .i64 ((zdH l0 x5_1).f0.f1), .int .i64 ((zdH l0 x5_1).f0.f2), .int .i64 ((zdH l0 x5_1).f1.f0), .int .i64 ((zdH l0 x5_1).f1.f1), .int .i64 ((zdH l0 x5_1).f1.f2)], .agg #[.int .i64 ((zdH l1 x5_1).f0.f0), .int .i64 ((zdH l1 x5_1).f0.f1), .int .i64 ((zdH l1 x5_1).f0.f2), .int .i64 ((zdH l1 x5_1).f1.f0), .int .i64 ((zdH l1 x5_1).f1.f1), .int .i64 ((zdH l1 x5_1).f1.f2)]] (by rfl) rfl rfl (by (try simp only [List.map_toArray, List.map_cons, List.map_nil]); first | done | rfl | (simp only [List.length_drop, List.length_take]; rfl)) ?_
        with_reducible refine (zkR.calls ((zdH l0 x5_1).f0.f0) ((zdH l0 x5_1).f0.f1) ((zdH l0 x5_1).f0.f2) ((zdH l0 x5_1).f1.f0) ((zdH l0 x5_1).f1.f1) ((zdH l0 x5_1).f1.f2) ((zdH l1 x5_1).f0.f0) ((zdH l1 x5_1).f0.f1) ((zdH l1 x5_1).f0.f2) ((zdH l1 x5_1).f1.f0) ((zdH l1 x5_1).f1.f1) ((zdH l1 x5_1).f1.f2) false _ A7.out).mono ?_
        rintro e w12 ⟨rfl, hb⟩
        refine ⟨_, rfl, ?_⟩
        have n0_ := (ns_ hb)
        clear HB
        have HB := n0_
        clear n0_
        (try clear hb)
        (try clear hb2)
        (try clear hk)
        (try clear hi)
        refine hK.out _ _ ⟨(zeA HB.out hw472_0), (zeA HB.out hw472_1), (zeA HB.out hw472_2), (zeA HB.out hw472_3), (zeA HB.out hw472_4), (zeA HB.out hw472_5), (zeA HB.out hw473_0), (zeA HB.out hw473_1), (zeA HB.out hw473_2), (zeA HB.out hw473_3), (zeA HB.out hw473_4), (zeA HB.out hw473_5)⟩ (fun hHeld => ?_)
        clear hK K
        refine zaN (a' := ?_) ?_ ?_
        rotate_left
        ·show Act.put _ (some 25) _ = _
         simp only [Act.put, List.setIfInBounds_toArray, List.set_cons_zero, List.set_cons_succ, zcM, ziJ]
         rfl
        refine pu_ 9 (some 26) (bl_ 10 1023) ?_
        refine znK (zzP HT_.out (by kernel_rfl)) ?_
        try go_wp2
        go_ret
        exact ⟨by first | rfl | (simp [ziS, znJ] <;> rfl) | (simp [*, ziS, znJ] <;> rfl), bb_⟩
      ·rw [if_neg c6] at H
       exact absurd H (by simp)
     ·rw [if_neg c5] at H
      exact absurd H (by simp)
    ·rw [if_neg c4] at H
     have c4b0 : decide (x5_1 < (l0.length : Int)) = false := decide_eq_false c4
     clear c4
     obtain rfl := Option.some.inj H
     go_wp2
     go_ret
     exact ⟨by first | rfl | (simp [ziS, znJ] <;> rfl) | (simp [*, ziS, znJ] <;> rfl), bb_⟩
 ·rw [if_neg c3] at H
  have c3b0 : ((l0.length : Int) == (l1.length : Int)) = false := beq_eq_false_iff_ne.mpr c3
  have c3b1 : ((l0.length : Int) != (l1.length : Int)) = true := bne_iff_ne.mpr c3
  have c3b2 : (l0.length == l1.length) = false := by first | simpa using c3 | (simp at c3 ⊢; omega)
  obtain rfl := Option.some.inj H
  go_enter Tryd.func8, Tryd.ntmps8
  go_wp2
  go_ret
  exact ⟨by first | rfl | (simp [ziS, znJ] <;> rfl) | (simp [*, ziS, znJ] <;> rfl), bb_⟩

def laws_FnExactPolygonText.f (k : Nat) (l0 : List (S37)) : Option (Bool) := (zeT.f l0 1048576).bind fun t475 => (if t475 < 0 then (some true) else ((ztE.f k l0).bind fun t476 => ((zsB.f k t476).bind fun t479 => ((ztE.f k l0).bind fun t480 => ((znS.f k t480).bind fun t483 => (if t483.toList = t479.toList then ((ztE.f k l0).bind fun t484 => ((zcH.f k t480 t484).bind fun t487 => (if t487 = true then (some true) else (none)))) else (none)))))))
theorem laws_FnExactPolygonText.mono : ∀ a0 k, LeO (laws_FnExactPolygonText.f k a0) (laws_FnExactPolygonText.f (k + 1) a0) := by
 intro a0 k
 unfold laws_FnExactPolygonText.f
 repeat' first
   | (with_reducible exact znS.mono _ _)
   | (with_reducible exact zcH.mono _ _ _)
   | (with_reducible exact ztE.mono _ _)
   | (with_reducible exact zsB.mono _ _)
   | (with_reducible exact LeO.refl _)
   | (with_reducible exact LeO.none _)
   | (with_reducible refine LeO.ite ?_ ?_)
   | (with_reducible refine LeO.bind ?_ (fun _ => ?_))
   | exact znS.mono _ _
   | exact zcH.mono _ _ _
   | exact ztE.mono _ _
   | exact zsB.mono _ _
   | exact LeO.none _
   | refine LeO.ite ?_ ?_
   | refine LeO.bind ?_ (fun _ => ?_)
set_option maxHeartbeats 8000000 in
set_option maxRecDepth 100000 in
theorem laws_FnExactPolygonText.calls (k : Nat) (A0 : Option Addr) (c0 : Nat) (l0 : List (S37)) (r : Bool) (w : World) (hG : LaidV w) (hr0 : Kd.C k37 w A0 l0.length l0) (hc0 : l0.length ≤ c0) (h : laws_FnExactPolygonText.f k l0 = some r) :
  Calls Tryd.prog 3 #[.slice A0 l0.length c0] w fun e w' => e = .returned (.bool r) ∧ Below w.heap.size w w' := by
 have HR0 := zpS hr0
 have HC0 := zpS hc0
 clear hr0 hc0
 have HB := zpS (Below.refl w.heap.size w)
 have H : ((zeT.f l0 1048576).bind fun t475 => (if t475 < 0 then (some true) else ((ztE.f k l0).bind fun t476 => ((zsB.f k t476).bind fun t479 => ((ztE.f k l0).bind fun t480 => ((znS.f k t480).bind fun t483 => (if t483.toList = t479.toList then ((ztE.f k l0).bind fun t484 => ((zcH.f k t480 t484).bind fun t487 => (if t487 = true then (some true) else (none)))) else (none)))))))) = some r := h
 clear h
 replace H := Option.bind_eq_some_iff.mp H
 obtain ⟨t475, A20, H⟩ := H
 replace H : (if t475 < 0 then (some true) else ((ztE.f k l0).bind fun t476 => ((zsB.f k t476).bind fun t479 => ((ztE.f k l0).bind fun t480 => ((znS.f k t480).bind fun t483 => (if t483.toList = t479.toList then ((ztE.f k l0).bind fun t484 => ((zcH.f k t480 t484).bind fun t487 => (if t487 = true then (some true) else (none)))) else (none))))))) = some r := H
 have A2 := zpS A20
 clear A20
 by_cases c3 : t475 < 0
 ·rw [if_pos c3] at H
  have c3b0 : decide (t475 < 0) = true := decide_eq_true c3
  clear c3
  obtain rfl := Option.some.inj H
  go_enter Tryd.func3, Tryd.ntmps3
  go_wp2_with (first | ((with_reducible refine zgK (f := 4) rfl ?_); refine zqQ (some 9) rfl rfl Tryd.func4 (by kernel_rfl) rfl #[.slice A0 l0.length c0, .int .i64 1048576] rfl (by (try simp only [List.map_toArray, List.map_cons, List.map_nil]); first | done | rfl | (simp only [List.length_drop, List.length_take]; rfl)) ?_; (with_reducible refine (zeT.calls _ _ l0 1048576 t475 _ ?side1 ?side2 A2.out).mono ?_); (case side1 => repeat (first | exact HR0.out | (with_reducible refine Kd.C_alloc ?_ _) | (with_reducible refine Kd.C_drewN ?_ _) | (with_reducible refine Kd.C_drew ?_))); (case side2 => exact HC0.out); rintro e w' ⟨rfl, ⟨nd, rfl⟩⟩; refine ⟨_, rfl, ?_⟩))
  go_ret
  exact ⟨by first | rfl | (simp [ziS, znJ] <;> rfl) | (simp [*, ziS, znJ] <;> rfl), bb_⟩
 ·rw [if_neg c3] at H
  have c3b0 : decide (t475 < 0) = false := decide_eq_false c3
  clear c3
  replace H := Option.bind_eq_some_iff.mp H
  obtain ⟨t476, A40, H⟩ := H
  replace H : ((zsB.f k t476).bind fun t479 => ((ztE.f k l0).bind fun t480 => ((znS.f k t480).bind fun t483 => (if t483.toList = t479.toList then ((ztE.f k l0).bind fun t484 => ((zcH.f k t480 t484).bind fun t487 => (if t487 = true then (some true) else (none)))) else (none))))) = some r := H
  have A4 := zpS A40
  clear A40
  replace H := Option.bind_eq_some_iff.mp H
  obtain ⟨t479, A50, H⟩ := H
  replace H : ((ztE.f k l0).bind fun t480 => ((znS.f k t480).bind fun t483 => (if t483.toList = t479.toList then ((ztE.f k l0).bind fun t484 => ((zcH.f k t480 t484).bind fun t487 => (if t487 = true then (some true) else (none)))) else (none)))) = some r := H
  have A5 := zpS A50
  clear A50
  replace H := Option.bind_eq_some_iff.mp H
  obtain ⟨t480, A60, H⟩ := H
  replace H : ((znS.f k t480).bind fun t483 => (if t483.toList = t479.toList then ((ztE.f k l0).bind fun t484 => ((zcH.f k t480 t484).bind fun t487 => (if t487 = true then (some true) else (none)))) else (none))) = some r := H
  have A6 := zpS A60
  clear A60
  replace H := Option.bind_eq_some_iff.mp H
  obtain ⟨t483, A70, H⟩ := H
  replace H : (if t483.toList = t479.toList then ((ztE.f k l0).bind fun t484 => ((zcH.f k t480 t484).bind fun t487 => (if t487 = true then (some true) else (none)))) else (none)) = some r := H
  have A7 := zpS A70
  clear A70
  by_cases c8 : t483.toList = t479.toList
  ·rw [if_pos c8] at H
   have c8b0 : (t483.toList == t479.toList) = true := beq_iff_eq.mpr c8
   have c8b1 : (t483.toList != t479.toList) = false := bne_eq_false_iff_eq.mpr c8
   clear c8
   replace H := Option.bind_eq_some_iff.mp H
   obtain ⟨t484, A90, H⟩ := H
   replace H : ((zcH.f k t480 t484).bind fun t487 => (if t487 = true then (some true) else (none))) = some r := H
   have A9 := zpS A90
   clear A90
   replace H := Option.bind_eq_some_iff.mp H
   obtain ⟨t487, A100, H⟩ := H
   replace H : (if t487 = true then (some true) else (none)) = some r := H
   have A10 := zpS A100
   clear A100
   by_cases c11 : t487 = true
   ·subst c11
    have H1 : (some true) = some r := by rw [if_pos rfl] at H; exact H
    clear H
    have H := H1
    clear H1
    obtain rfl := Option.some.inj H
    go_enter Tryd.func3, Tryd.ntmps3
    go_wp2_with (first | ((with_reducible refine zgK (f := 4) rfl ?_); refine zqQ (some 9) rfl rfl Tryd.func4 (by kernel_rfl) rfl #[.slice A0 l0.length c0, .int .i64 1048576] rfl (by (try simp only [List.map_toArray, List.map_cons, List.map_nil]); first | done | rfl | (simp only [List.length_drop, List.length_take]; rfl)) ?_; (with_reducible refine (zeT.calls _ _ l0 1048576 t475 _ ?side1 ?side2 A2.out).mono ?_); (case side1 => repeat (first | exact HR0.out | (with_reducible refine Kd.C_alloc ?_ _) | (with_reducible refine Kd.C_drewN ?_ _) | (with_reducible refine Kd.C_drew ?_))); (case side2 => exact HC0.out); rintro e w' ⟨rfl, ⟨nd, rfl⟩⟩; refine ⟨_, rfl, ?_⟩) | ((with_reducible refine zgK (f := 6) rfl ?_); refine zqQ (some 13) rfl rfl Tryd.func6 (by kernel_rfl) rfl #[.slice A0 l0.length c0] rfl (by (try simp only [List.map_toArray, List.map_cons, List.map_nil]); first | done | rfl | (simp only [List.length_drop, List.length_take]; rfl)) ?_; (with_reducible refine (ztE.calls k _ _ l0 t476 _ ?side1 ?side2 A4.out).mono ?_); (case side1 => repeat (first | exact HR0.out | (with_reducible refine Kd.C_alloc ?_ _) | (with_reducible refine Kd.C_drewN ?_ _) | (with_reducible refine Kd.C_drew ?_))); (case side2 => exact HC0.out); rintro e w12 ⟨v477, rfl, ho0, hb⟩; refine ⟨_, rfl, ?_⟩; have n0_ := zpS (Kd.R_lower ho0 (zuA bb_)); have n1_ := (ns_ hb); clear HB; have HO478 := n0_; have HB := n1_; clear n0_ n1_; (try clear hb); (try clear hb2); (try clear ho0); obtain ⟨Ao13, co13, eo13⟩ := Kd.R_slice HO478.out; subst eo13) | ((with_reducible refine zgK (f := 5) rfl ?_); refine zqQ (some 14) rfl rfl Tryd.func5 (by kernel_rfl) rfl #[.slice Ao13 t476.length co13] rfl (by (try simp only [List.map_toArray, List.map_cons, List.map_nil]); first | done | rfl | (simp only [List.length_drop, List.length_take]; rfl)) ?_; (with_reducible refine (zsB.calls k _ _ t476 t479 _ ?side1 ?side2 A5.out).mono ?_); (case side1 => repeat (first | exact (Kd.R_reads' HO478.out).2.2 | (with_reducible refine Kd.C_alloc ?_ _) | (with_reducible refine Kd.C_drewN ?_ _) | (with_reducible refine Kd.C_drew ?_))); (case side2 => exact (Kd.R_reads' HO478.out).2.1); rintro e w14 ⟨rfl, hb⟩; refine ⟨_, rfl, ?_⟩; have n0_ := zpS (Kd.R_below (by (with_reducible repeat (first | apply Kd.R_alloc | apply Kd.R_drewN | apply Kd.R_drew)); exact HO478.out) hb); have n1_ := (ns_ hb); clear HO478; clear HB; have HO478 := n0_; have HB := n1_; clear n0_ n1_; (try clear hb); (try clear hb2)) | ((with_reducible refine zgK (f := 6) rfl ?_); refine zqQ (some 16) rfl rfl Tryd.func6 (by kernel_rfl) rfl #[.slice A0 l0.length c0] rfl (by (try simp only [List.map_toArray, List.map_cons, List.map_nil]); first | done | rfl | (simp only [List.length_drop, List.length_take]; rfl)) ?_; (with_reducible refine (ztE.calls k _ _ l0 t480 _ ?side1 ?side2 A6.out).mono ?_); (case side1 => repeat (first | exact (Kd.C_below HR0.out HB.out) | (with_reducible refine Kd.C_alloc ?_ _) | (with_reducible refine Kd.C_drewN ?_ _) | (with_reducible refine Kd.C_drew ?_))); (case side2 => exact HC0.out); rintro e w15 ⟨v481, rfl, ho0, hb⟩; refine ⟨_, rfl, ?_⟩; have n0_ := zpS (Kd.R_elder' (by (with_reducible repeat (first | apply Kd.R_alloc | apply Kd.R_drewN | apply Kd.R_drew)); exact HO478.out) (Kd.R_base ho0) hb); have n1_ := zpS (Kd.R_lower (Kd.R_new' ho0 (Kd.R_lt (by (with_reducible repeat (first | apply Kd.R_alloc | apply Kd.R_drewN | apply Kd.R_drew)); exact HO478.out))) (zuA bb_)); have n2_ := (ns_ hb); clear HO478; clear HB; have HO478 := n0_; have HO482 := n1_; have HB := n2_; clear n0_ n1_ n2_; (try clear hb); (try clear hb2); (try clear ho0); obtain ⟨Ao16, co16, eo16⟩ := Kd.R_slice HO482.out; subst eo16) | ((with_reducible refine zgK (f := 7) rfl ?_); refine zqQ (some 18) rfl rfl Tryd.func7 (by kernel_rfl) rfl #[.slice Ao16 t480.length co16] rfl (by (try simp only [List.map_toArray, List.map_cons, List.map_nil]); first | done | rfl | (simp only [List.length_drop, List.length_take]; rfl)) ?_; (with_reducible refine (znS.calls k _ _ t480 t483 _ ?side3 ?side1 ?side2 A7.out).mono ?_); (case side1 => repeat (first | exact (Kd.R_reads' HO482.out).2.2 | (with_reducible refine Kd.C_alloc ?_ _) | (with_reducible refine Kd.C_drewN ?_ _) | (with_reducible refine Kd.C_drew ?_))); (case side2 => exact (Kd.R_reads' HO482.out).2.1); (case side3 => exact LaidV.below hG bb_); rintro e w17 ⟨rfl, hb⟩; refine ⟨_, rfl, ?_⟩; have n0_ := zpS (Kd.R_below (by (with_reducible repeat (first | apply Kd.R_alloc | apply Kd.R_drewN | apply Kd.R_drew)); exact HO478.out) hb); have n1_ := zpS (Kd.R_below (by (with_reducible repeat (first | apply Kd.R_alloc | apply Kd.R_drewN | apply Kd.R_drew)); exact HO482.out) hb); have n2_ := (ns_ hb); clear HO478; clear HO482; clear HB; have HO478 := n0_; have HO482 := n1_; have HB := n2_; clear n0_ n1_ n2_; (try clear hb); (try clear hb2)) | ((with_reducible refine zgK (f := 6) rfl ?_); refine zqQ (some 24) rfl rfl Tryd.func6 (by kernel_rfl) rfl #[.slice A0 l0.length c0] rfl (by (try simp only [List.map_toArray, List.map_cons, List.map_nil]); first | done | rfl | (simp only [List.length_drop, List.length_take]; rfl)) ?_; (with_reducible refine (ztE.calls k _ _ l0 t484 _ ?side1 ?side2 A9.out).mono ?_); (case side1 => repeat (first | exact (Kd.C_below HR0.out HB.out) | (with_reducible refine Kd.C_alloc ?_ _) | (with_reducible refine Kd.C_drewN ?_ _) | (with_reducible refine Kd.C_drew ?_))); (case side2 => exact HC0.out); rintro e w18 ⟨v485, rfl, ho0, hb⟩; refine ⟨_, rfl, ?_⟩; have n0_ := zpS (Kd.R_elder' (by (with_reducible repeat (first | apply Kd.R_alloc | apply Kd.R_drewN | apply Kd.R_drew)); exact HO478.out) (Kd.R_base ho0) hb); have n1_ := zpS (Kd.R_elder' (by (with_reducible repeat (first | apply Kd.R_alloc | apply Kd.R_drewN | apply Kd.R_drew)); exact HO482.out) (Kd.R_base ho0) hb); have n2_ := zpS (Kd.R_lower (Kd.R_new' (Kd.R_new' ho0 (Kd.R_lt (by (with_reducible repeat (first | apply Kd.R_alloc | apply Kd.R_drewN | apply Kd.R_drew)); exact HO478.out))) (Kd.R_lt (by (with_reducible repeat (first | apply Kd.R_alloc | apply Kd.R_drewN | apply Kd.R_drew)); exact HO482.out))) (zuA bb_)); have n3_ := (ns_ hb); clear HO478; clear HO482; clear HB; have HO478 := n0_; have HO482 := n1_; have HO486 := n2_; have HB := n3_; clear n0_ n1_ n2_ n3_; (try clear hb); (try clear hb2); (try clear ho0); obtain ⟨Ao19, co19, eo19⟩ := Kd.R_slice HO486.out; subst eo19) | ((with_reducible refine zgK (f := 8) rfl ?_); refine zqQ (some 25) rfl rfl Tryd.func8 (by kernel_rfl) rfl #[.slice Ao16 t480.length co16, .slice Ao19 t484.length co19] rfl (by (try simp only [List.map_toArray, List.map_cons, List.map_nil]); first | done | rfl | (simp only [List.length_drop, List.length_take]; rfl)) ?_; (with_reducible refine (zcH.calls k _ _ t480 _ _ t484 true _ ?side1 ?side2 ?side3 ?side4 A10.out).mono ?_); (case side1 => repeat (first | exact (Kd.R_reads' HO482.out).2.2 | (with_reducible refine Kd.C_alloc ?_ _) | (with_reducible refine Kd.C_drewN ?_ _) | (with_reducible refine Kd.C_drew ?_))); (case side2 => exact (Kd.R_reads' HO482.out).2.1); (case side3 => repeat (first | exact (Kd.R_reads' HO486.out).2.2 | (with_reducible refine Kd.C_alloc ?_ _) | (with_reducible refine Kd.C_drewN ?_ _) | (with_reducible refine Kd.C_drew ?_))); (case side4 => exact (Kd.R_reads' HO486.out).2.1); rintro e w20 ⟨rfl, hb⟩; refine ⟨_, rfl, ?_⟩; have n0_ := zpS (Kd.R_below (by (with_reducible repeat (first | apply Kd.R_alloc | apply Kd.R_drewN | apply Kd.R_drew)); exact HO478.out) hb); have n1_ := zpS (Kd.R_below (by (with_reducible repeat (first | apply Kd.R_alloc | apply Kd.R_drewN | apply Kd.R_drew)); exact HO482.out) hb); have n2_ := zpS (Kd.R_below (by (with_reducible repeat (first | apply Kd.R_alloc | apply Kd.R_drewN | apply Kd.R_drew)); exact HO486.out) hb); have n3_ := (ns_ hb); clear HO478; clear HO482; clear HO486; clear HB; have HO478 := n0_; have HO482 := n1_; have HO486 := n2_; have HB := n3_; clear n0_ n1_ n2_ n3_; (try clear hb); (try clear hb2)))
    go_ret
    exact ⟨by first | rfl | (simp [ziS, znJ] <;> rfl) | (simp [*, ziS, znJ] <;> rfl), bb_⟩
   ·replace c11 := Bool.eq_false_iff.mpr c11
    subst c11
    have H1 : (none) = some r := by rw [if_neg (show ¬ (false = true) by decide)] at H; exact H
    clear H
    have H := H1
    clear H1
    exact absurd H (by simp)
  ·rw [if_neg c8] at H
   exact absurd H (by simp)
def ok35 (x : S35) : Prop := (Lit.int .i64 x.f0).wf = true ∧ (Lit.int .i64 x.f1).wf = true ∧ (Lit.int .i64 x.f2).wf = true
def ok37 (x : S37) : Prop := ok35 x.f0 ∧ ok35 x.f1

def laws_FnExactPolygonText.Pure : Prop := ∀ (l0 : List (S37)), (l0.length ≤ maxLen ∧ ∀ x_ ∈ l0, ok37 x_) → ∃ k, laws_FnExactPolygonText.f k l0 = some true

end Go.Proofs.YtmmedohdjfhmnaaDoor.PFnExactPolygonText
