-- Printed for this claim by this session's program pp.py, which drives the kit's print with additions. Not trusted: Lean checks it.
import Derived.Test.YtbpkbllokmplnaaV1PFnExactAssignmentsOfx0
import Derived.Test.YtbpkbllokmplnaaV1PFnExactAssignmentsOfx5
import Derived.Test.YtbpkbllokmplnaaV1PFnExactAssignmentsOfx7
namespace Go.Proofs.Ytbpkbllokmplnaa.PFnExactAssignmentsOf
open Go.RowKit Go.Proofs.YtbpkbllokmplnaaW.PrintWords Go.Proofs.YtbpkbllokmplnaaW.PrintLast Go.Proofs.YtbpkbllokmplnaaW.PrintMore
attribute [local go_sem] max2_int min2_int max_two min_two znE zuB max_four min_four   -- for this text's walks alone
set_option linter.unusedVariables false
set_option linter.unusedSimpArgs false

def zsL.l0 : Nat → List Int → List Int → Option (Bool)
 | 0, _, _ => none
 | k + 1, x0, x1 => (zzB.f k x0 x1).bind fun bt306 => (if bt306.2.2 = 6 then ((zyZ.f k x1).bind fun t313 => (some (t313 == 2))) else (if bt306.2.2 = 8 then (some false) else (zsL.l0 k bt306.1 bt306.2.1)))
def zsL.f (k : Nat) (l0 : List Int) (l1 : List Int) : Option (Bool) := zsL.l0 k l0 l1
theorem zsL.mono_l : ∀ k, (∀ y0 y1, LeO (zsL.l0 k y0 y1) (zsL.l0 (k + 1) y0 y1))
 | 0 => fun _ _ r h => by simp [zsL.l0] at h
 | k + 1 => by
  have ih0 := zsL.mono_l k
  ·intro y0 y1
   unfold zsL.l0
   repeat' first
   | (with_reducible exact ih0 _ _)
   | (with_reducible exact zzB.mono _ _ _)
   | (with_reducible exact zyZ.mono _ _)
   | (with_reducible exact LeO.refl _)
   | (with_reducible exact LeO.none _)
   | (with_reducible refine LeO.ite ?_ ?_)
   | (with_reducible refine LeO.bind ?_ (fun _ => ?_))
   | exact ih0 _ _
   | exact zzB.mono _ _ _
   | exact zyZ.mono _ _
   | exact LeO.none _
   | refine LeO.ite ?_ ?_
   | refine LeO.bind ?_ (fun _ => ?_)
theorem zsL.mono : ∀ a0 a1 k, LeO (zsL.f k a0 a1) (zsL.f (k + 1) a0 a1) := by
 intro a0 a1 k
 have ih0 := zsL.mono_l k
 unfold zsL.f
 repeat' first
   | (with_reducible exact ih0 _ _)
   | (with_reducible exact zzB.mono _ _ _)
   | (with_reducible exact zyZ.mono _ _)
   | (with_reducible exact LeO.refl _)
   | (with_reducible exact LeO.none _)
   | (with_reducible refine LeO.ite ?_ ?_)
   | (with_reducible refine LeO.bind ?_ (fun _ => ?_))
   | exact ih0 _ _
   | exact zzB.mono _ _ _
   | exact zyZ.mono _ _
   | exact LeO.none _
   | refine LeO.ite ?_ ?_
   | refine LeO.bind ?_ (fun _ => ?_)
set_option maxHeartbeats 8000000 in
set_option maxRecDepth 100000 in
theorem zsL.calls (k : Nat) (P0_ : Nat → Prop) (A0 : Option Addr) (c0 : Nat) (l0 : List Int) (P1_ : Nat → Prop) (A1 : Option Addr) (c1 : Nat) (l1 : List Int) (r : Bool) (w : World) (hs0 : Kd.V (Kd.int .i64) 2 w w.heap.size (fun k_ => P0_ k_) (.slice A0 l0.length c0) l0) (hs1 : Kd.V (Kd.int .i64) 2 w w.heap.size (fun k_ => P1_ k_) (.slice A1 l1.length c1) l1) (h : zsL.f k l0 l1 = some r) :
  Calls Try.prog 57 #[.slice A0 l0.length c0, .slice A1 l1.length c1] w fun e w' => e = .returned (.bool r) ∧ Below w.heap.size w w' := by
 have HO0 := zpS (show Kd.V (Kd.int .i64) 2 w w.heap.size (fun k_ => ((P0_ k_ ∨ P1_ k_) ∨ w.heap.size ≤ k_)) (.slice A0 l0.length c0) l0 from Kd.V_mono hs0 (fun k_ hk => .inl (.inl hk)))
 have HO1 := zpS (show Kd.V (Kd.int .i64) 2 w w.heap.size (fun k_ => ((P0_ k_ ∨ P1_ k_) ∨ w.heap.size ≤ k_)) (.slice A1 l1.length c1) l1 from Kd.V_mono hs1 (fun k_ hk => .inl (.inr hk)))
 have HB := zpS (Below.refl w.heap.size w)
 have H : (zsL.l0 k l0 l1) = some r := h
 clear h
 have H' := zpS H
 clear H
 go_enter Try.func57, Try.ntmps57
 go_wp2
 (try go_simp)
 go_loopg [0, 1] k (fun kq v0 v1 w' => ∃ (x0_1 : List Int) (x1_1 : List Int), Aside0 (zsL.l0 kq x0_1 x1_1 = some r) ∧ Aside0 (kq ≤ k) ∧ Aside0 (Kd.V (Kd.int .i64) 2 w' w.heap.size (fun k_ => ((P0_ k_ ∨ P1_ k_) ∨ w.heap.size ≤ k_)) v0 x0_1) ∧ Aside0 (Kd.V (Kd.int .i64) 2 w' w.heap.size (fun k_ => ((P0_ k_ ∨ P1_ k_) ∨ w.heap.size ≤ k_)) v1 x1_1) ∧ Aside0 (Below w.heap.size w w'))
 case atStart => exact ⟨(l0), (l1), H', ⟨Nat.le_refl _⟩, ⟨by (with_reducible repeat (first | apply Kd.V_alloc | apply Kd.V_drewN | apply Kd.V_drew)); exact HO0.out⟩, ⟨by (with_reducible repeat (first | apply Kd.V_alloc | apply Kd.V_drewN | apply Kd.V_drew)); exact HO1.out⟩, ⟨bb_⟩⟩
 case round =>
  clear H'
  try clear c1
  try clear p2
  obtain ⟨x0_1, x1_1, HA, HK1, HO_0, HO_1, HB⟩ := hrel
  cases gk with
  | zero => exact absurd HA.out (by simp [zsL.l0])
  | succ k1 =>
   have H := HA.out
   clear HA
   simp only [zsL.l0] at H
   replace H := Option.bind_eq_some_iff.mp H
   obtain ⟨⟨t306, t307, t308⟩, A30, H⟩ := H
   replace H : (if t308 = 6 then ((zyZ.f k1 x1_1).bind fun t313 => (some (t313 == 2))) else (if t308 = 8 then (some false) else (zsL.l0 k1 t306 t307))) = some r := H
   have A3 := zpS A30
   clear A30
   by_cases c4 : t308 = 6
   ·rw [if_pos c4] at H
    have c4b0 : (t308 == 6) = true := beq_iff_eq.mpr c4
    have c4b1 : (t308 != 6) = false := bne_eq_false_iff_eq.mpr c4
    clear c4
    replace H := Option.bind_eq_some_iff.mp H
    obtain ⟨t313, A50, H⟩ := H
    replace H : (some (t313 == 2)) = some r := H
    have A5 := zpS A50
    clear A50
    obtain rfl := Option.some.inj H
    obtain ⟨Ao6, co6, eo6⟩ := Kd.V_slice HO_0.out
    subst eo6
    obtain ⟨Ao7, co7, eo7⟩ := Kd.V_slice HO_1.out
    subst eo7
    go_wp2_with (first | ((with_reducible refine zgM (f := 59) rfl ?_); refine zqQ (some 11) rfl rfl Try.func59 (by kernel_rfl) rfl #[.slice Ao6 x0_1.length co6, .slice Ao7 x1_1.length co7] rfl (by (try simp only [List.map_toArray, List.map_cons, List.map_nil]); first | done | rfl | (simp only [List.length_drop, List.length_take]; rfl)) ?_; (with_reducible refine (zzB.calls k1 _ _ x0_1 _ _ x1_1 t306 t307 t308 _ ?side1 ?side2 ?side3 ?side4 A3.out).mono ?_); (case side1 => repeat (first | exact (Kd.V_reads' HO_0.out).2.2 | (with_reducible refine Kd.C_alloc ?_ _) | (with_reducible refine Kd.C_drewN ?_ _) | (with_reducible refine Kd.C_drew ?_))); (case side2 => exact (Kd.V_reads' HO_0.out).2.1); (case side3 => repeat (first | exact (Kd.V_reads' HO_1.out).2.2 | (with_reducible refine Kd.C_alloc ?_ _) | (with_reducible refine Kd.C_drewN ?_ _) | (with_reducible refine Kd.C_drew ?_))); (case side4 => exact (Kd.V_reads' HO_1.out).2.1); rintro e w8 ⟨v309, v311, rfl, ho0, ho1, hb⟩; refine ⟨_, rfl, ?_⟩; have n0_ := zpS (Kd.V_mono (Kd.V_told (Kd.V_told (Kd.V_old (by (with_reducible repeat (first | apply Kd.V_alloc | apply Kd.V_drewN | apply Kd.V_drew)); exact HO_0.out) hb) (Kd.R_base ho0)) (Kd.R_base ho1)) (fun _ h_ => h_.1)); have n1_ := zpS (Kd.V_mono (Kd.V_told (Kd.V_told (Kd.V_old (by (with_reducible repeat (first | apply Kd.V_alloc | apply Kd.V_drewN | apply Kd.V_drew)); exact HO_1.out) hb) (Kd.R_base ho0)) (Kd.R_base ho1)) (fun _ h_ => h_.1)); have n2_ := zpS (Kd.R_lower (Kd.R_newM (M := fun k_ => (w.heap.size ≤ k_)) ho0 (zuA bb_) (fun k_ h_ => h_)) (zuA bb_)); have n3_ := zpS (Kd.R_lower (Kd.R_newM (M := fun k_ => (w.heap.size ≤ k_)) ho1 (zuA bb_) (fun k_ h_ => h_)) (zuA bb_)); have n4_ := (ns_ hb); clear HO_0; clear HO_1; clear HB; have HO_0 := n0_; have HO_1 := n1_; have HO310 := n2_; have HO312 := n3_; have HB := n4_; clear n0_ n1_ n2_ n3_ n4_; (try clear hb); (try clear hb2); (try clear ho0); (try clear ho1)) | ((with_reducible refine zgM (f := 91) rfl ?_); refine zqQ (some 19) rfl rfl Try.func91 (by kernel_rfl) rfl #[.slice Ao7 x1_1.length co7] rfl (by (try simp only [List.map_toArray, List.map_cons, List.map_nil]); first | done | rfl | (simp only [List.length_drop, List.length_take]; rfl)) ?_; (with_reducible refine (zyZ.calls k1 _ _ x1_1 t313 _ ?side1 ?side2 A5.out).mono ?_); (case side1 => repeat (first | exact (Kd.V_reads' HO_1.out).2.2 | (with_reducible refine Kd.C_alloc ?_ _) | (with_reducible refine Kd.C_drewN ?_ _) | (with_reducible refine Kd.C_drew ?_))); (case side2 => exact (Kd.V_reads' HO_1.out).2.1); rintro e w9 ⟨rfl, hb⟩; refine ⟨_, rfl, ?_⟩; have n0_ := zpS (Kd.V_below (by (with_reducible repeat (first | apply Kd.V_alloc | apply Kd.V_drewN | apply Kd.V_drew)); exact HO_0.out) hb); have n1_ := zpS (Kd.V_below (by (with_reducible repeat (first | apply Kd.V_alloc | apply Kd.V_drewN | apply Kd.V_drew)); exact HO_1.out) hb); have n2_ := zpS (Kd.R_below (by (with_reducible repeat (first | apply Kd.R_alloc | apply Kd.R_drewN | apply Kd.R_drew)); exact HO310.out) hb); have n3_ := zpS (Kd.R_below (by (with_reducible repeat (first | apply Kd.R_alloc | apply Kd.R_drewN | apply Kd.R_drew)); exact HO312.out) hb); have n4_ := (ns_ hb); clear HO_0; clear HO_1; clear HO310; clear HO312; clear HB; have HO_0 := n0_; have HO_1 := n1_; have HO310 := n2_; have HO312 := n3_; have HB := n4_; clear n0_ n1_ n2_ n3_ n4_; (try clear hb); (try clear hb2)))
    go_ret
    exact ⟨by first | rfl | (simp [ziS, znJ] <;> rfl) | (simp [*, ziS, znJ] <;> rfl), bb_⟩
   ·rw [if_neg c4] at H
    have c4b0 : (t308 == 6) = false := beq_eq_false_iff_ne.mpr c4
    have c4b1 : (t308 != 6) = true := bne_iff_ne.mpr c4
    by_cases c10 : t308 = 8
    ·rw [if_pos c10] at H
     have c10b0 : (t308 == 8) = true := beq_iff_eq.mpr c10
     have c10b1 : (t308 != 8) = false := bne_eq_false_iff_eq.mpr c10
     clear c10
     obtain rfl := Option.some.inj H
     obtain ⟨Ao11, co11, eo11⟩ := Kd.V_slice HO_0.out
     subst eo11
     obtain ⟨Ao12, co12, eo12⟩ := Kd.V_slice HO_1.out
     subst eo12
     go_wp2_with (first | ((with_reducible refine zgM (f := 59) rfl ?_); refine zqQ (some 11) rfl rfl Try.func59 (by kernel_rfl) rfl #[.slice Ao11 x0_1.length co11, .slice Ao12 x1_1.length co12] rfl (by (try simp only [List.map_toArray, List.map_cons, List.map_nil]); first | done | rfl | (simp only [List.length_drop, List.length_take]; rfl)) ?_; (with_reducible refine (zzB.calls k1 _ _ x0_1 _ _ x1_1 t306 t307 t308 _ ?side1 ?side2 ?side3 ?side4 A3.out).mono ?_); (case side1 => repeat (first | exact (Kd.V_reads' HO_0.out).2.2 | (with_reducible refine Kd.C_alloc ?_ _) | (with_reducible refine Kd.C_drewN ?_ _) | (with_reducible refine Kd.C_drew ?_))); (case side2 => exact (Kd.V_reads' HO_0.out).2.1); (case side3 => repeat (first | exact (Kd.V_reads' HO_1.out).2.2 | (with_reducible refine Kd.C_alloc ?_ _) | (with_reducible refine Kd.C_drewN ?_ _) | (with_reducible refine Kd.C_drew ?_))); (case side4 => exact (Kd.V_reads' HO_1.out).2.1); rintro e w13 ⟨v309, v311, rfl, ho0, ho1, hb⟩; refine ⟨_, rfl, ?_⟩; have n0_ := zpS (Kd.V_mono (Kd.V_told (Kd.V_told (Kd.V_old (by (with_reducible repeat (first | apply Kd.V_alloc | apply Kd.V_drewN | apply Kd.V_drew)); exact HO_0.out) hb) (Kd.R_base ho0)) (Kd.R_base ho1)) (fun _ h_ => h_.1)); have n1_ := zpS (Kd.V_mono (Kd.V_told (Kd.V_told (Kd.V_old (by (with_reducible repeat (first | apply Kd.V_alloc | apply Kd.V_drewN | apply Kd.V_drew)); exact HO_1.out) hb) (Kd.R_base ho0)) (Kd.R_base ho1)) (fun _ h_ => h_.1)); have n2_ := zpS (Kd.R_lower (Kd.R_newM (M := fun k_ => (w.heap.size ≤ k_)) ho0 (zuA bb_) (fun k_ h_ => h_)) (zuA bb_)); have n3_ := zpS (Kd.R_lower (Kd.R_newM (M := fun k_ => (w.heap.size ≤ k_)) ho1 (zuA bb_) (fun k_ h_ => h_)) (zuA bb_)); have n4_ := (ns_ hb); clear HO_0; clear HO_1; clear HB; have HO_0 := n0_; have HO_1 := n1_; have HO310 := n2_; have HO312 := n3_; have HB := n4_; clear n0_ n1_ n2_ n3_ n4_; (try clear hb); (try clear hb2); (try clear ho0); (try clear ho1)))
     go_ret
     exact ⟨by first | rfl | (simp [ziS, znJ] <;> rfl) | (simp [*, ziS, znJ] <;> rfl), bb_⟩
    ·rw [if_neg c10] at H
     have c10b0 : (t308 == 8) = false := beq_eq_false_iff_ne.mpr c10
     have c10b1 : (t308 != 8) = true := bne_iff_ne.mpr c10
     have H' := zpS H
     clear H
     obtain ⟨Ao14, co14, eo14⟩ := Kd.V_slice HO_0.out
     subst eo14
     obtain ⟨Ao15, co15, eo15⟩ := Kd.V_slice HO_1.out
     subst eo15
     go_wp2_with (first | ((with_reducible refine zgM (f := 59) rfl ?_); refine zqQ (some 11) rfl rfl Try.func59 (by kernel_rfl) rfl #[.slice Ao14 x0_1.length co14, .slice Ao15 x1_1.length co15] rfl (by (try simp only [List.map_toArray, List.map_cons, List.map_nil]); first | done | rfl | (simp only [List.length_drop, List.length_take]; rfl)) ?_; (with_reducible refine (zzB.calls k1 _ _ x0_1 _ _ x1_1 t306 t307 t308 _ ?side1 ?side2 ?side3 ?side4 A3.out).mono ?_); (case side1 => repeat (first | exact (Kd.V_reads' HO_0.out).2.2 | (with_reducible refine Kd.C_alloc ?_ _) | (with_reducible refine Kd.C_drewN ?_ _) | (with_reducible refine Kd.C_drew ?_))); (case side2 => exact (Kd.V_reads' HO_0.out).2.1); (case side3 => repeat (first | exact (Kd.V_reads' HO_1.out).2.2 | (with_reducible refine Kd.C_alloc ?_ _) | (with_reducible refine Kd.C_drewN ?_ _) | (with_reducible refine Kd.C_drew ?_))); (case side4 => exact (Kd.V_reads' HO_1.out).2.1); rintro e w16 ⟨v309, v311, rfl, ho0, ho1, hb⟩; refine ⟨_, rfl, ?_⟩; have n0_ := zpS (Kd.V_mono (Kd.V_told (Kd.V_told (Kd.V_old (by (with_reducible repeat (first | apply Kd.V_alloc | apply Kd.V_drewN | apply Kd.V_drew)); exact HO_0.out) hb) (Kd.R_base ho0)) (Kd.R_base ho1)) (fun _ h_ => h_.1)); have n1_ := zpS (Kd.V_mono (Kd.V_told (Kd.V_told (Kd.V_old (by (with_reducible repeat (first | apply Kd.V_alloc | apply Kd.V_drewN | apply Kd.V_drew)); exact HO_1.out) hb) (Kd.R_base ho0)) (Kd.R_base ho1)) (fun _ h_ => h_.1)); have n2_ := zpS (Kd.R_lower (Kd.R_newM (M := fun k_ => (w.heap.size ≤ k_)) ho0 (zuA bb_) (fun k_ h_ => h_)) (zuA bb_)); have n3_ := zpS (Kd.R_lower (Kd.R_newM (M := fun k_ => (w.heap.size ≤ k_)) ho1 (zuA bb_) (fun k_ h_ => h_)) (zuA bb_)); have n4_ := (ns_ hb); clear HO_0; clear HO_1; clear HB; have HO_0 := n0_; have HO_1 := n1_; have HO310 := n2_; have HO312 := n3_; have HB := n4_; clear n0_ n1_ n2_ n3_ n4_; (try clear hb); (try clear hb2); (try clear ho0); (try clear ho1)))
     go_roundg k1
     case measure => have := HK1.out; omega
     case rel => exact ⟨(t306), (t307), H', ⟨by have := HK1.out; omega⟩, ⟨Kd.V_mono (Kd.R_V (by (with_reducible repeat (first | apply Kd.R_alloc | apply Kd.R_drewN | apply Kd.R_drew)); exact Kd.R_mono HO310.out (fun _ hk => hk.1))) (fun k_ hk => by first | exact ⟨(.inr (hk.1)), hk.2⟩ | exact (.inr (hk)))⟩, ⟨Kd.V_mono (Kd.R_V (by (with_reducible repeat (first | apply Kd.R_alloc | apply Kd.R_drewN | apply Kd.R_drew)); exact Kd.R_mono HO312.out (fun _ hk => hk.1))) (fun k_ hk => by first | exact ⟨(.inr (hk.1)), hk.2⟩ | exact (.inr (hk)))⟩, ⟨bb_⟩⟩

set_option maxHeartbeats 8000000 in
set_option maxRecDepth 100000 in
theorem impl_AssignmentsOf_clo_calls (w W : World) (g s : Nat) (v : Value) (rows : List (List Int)) (A : Option Addr) (c n : Nat) (ks : List Int) (hkn : ks.length = n) (hB : Below w.heap.size w W) (hg : w.heap.size ≤ g) (hgs : g < s) (hs : s ≤ W.heap.size)
  (hb : W.heap[g]? = some (.cells #[v] 23 (0, 0))) (hS : Kd.S (Kd.slice 2 (Kd.int .i64)) 22 W w.heap.size (fun k => k ≠ g ∧ k < s) v rows) (hR : Kd.R (Kd.int .i64) 2 W s (fun _ => True) (.slice A n c) ks) (hl : rows.length ≤ 1048576) :
  Calls Try.prog 51 #[.slice A n c, .pointer (some ⟨g, 0, none⟩)] W fun e w' => (∃ v0, e = .returned v0) ∧ ∃ v', Below w.heap.size w w' ∧ w'.heap[g]? = some (.cells #[v'] 23 (0, 0)) ∧ Kd.S (Kd.slice 2 (Kd.int .i64)) 22 w' w.heap.size (fun k => k ≠ g) v' (rows ++ [ks]) := by
 subst hkn
 obtain ⟨Av, cv, rfl⟩ := Kd.S_slice hS
 have hc : W.cell? ⟨g, 0, none⟩ = some (.slice Av rows.length cv) := (zzS hb 0).trans rfl
 have hf := zjG hb 0
 have HB := zpS hB
 have BK := zpS hb
 have HS := zpS hS
 have HR := zpS hR
 have HG := zpS hg
 have HGS := zpS hgs
 have HSZ := zpS hs
 have HL := zpS hl
 have HOWN := zpS (Kd.S_R hS).1
 clear hB hb hS hR hg hgs hs hl
 go_enter Try.func51, Try.ntmps51
 go_wp2_with (first | ((with_reducible refine zcL (b := .append) (xs := #[.tmp 3, .tmp 5]) rfl ?_); at_builtin; refine Kd.S_append (Kd.slice 2 (Kd.int .i64)) (w0 := w) w.heap.size rfl (.tmp 3) (.tmp 5) 23 22 (.slice none 0 0) 24 rfl Try.underlying23 info22 rfl (by decide) (by omega) (.slice Av rows.length cv) rows ks [.slice A ks.length c] (fun k => k ≠ g) (fun k => s ≤ k) rfl rfl ?aP ?aK ?aF ?aO ?aB ?aS ?aL ?_; (case aP => exact Kd.M_row (Kd.R_mono (Kd.R_lower (Kd.R_bound HR.out) (Nat.le_of_lt (Nat.lt_of_le_of_lt HG.out HGS.out))) (fun _ hk => hk.2.1))); (case aK => exact fun k hk => ⟨fun e => by have := HGS.out; omega, fun e => by have := (HOWN.out k e.symm).2; omega⟩); (case aF => exact fun k hk e => by have := HGS.out; have := HSZ.out; omega); (case aO => exact Kd.S_mono HS.out (fun k hk => ⟨hk.1, by have := hk.2; omega⟩)); (case aB => exact HB.out); (case aS => exact zuA HB.out); (case aL => have := HL.out; omega); intro v1 w1 ho hb1 hgr hat; obtain ⟨A1, c1, rfl⟩ := Kd.S_slice ho; have n0_ := zpS (blk_grown BK.out hgr (fun e => (HOWN.out g e.symm).1 rfl)); have n1_ := zpS hb1; have n2_ := zpS ho; clear HB BK HS HR ho hb1 hgr hat; have HB := n1_; have BK := n0_; have HS := n2_; clear n0_ n1_ n2_; have hc1 : w1.cell? ⟨g, 0, none⟩ = some (.slice Av rows.length cv) := (zzS BK.out 0).trans rfl; have hf1 := zjG BK.out 0))
 exact bodyPost_end (v := .tuple #[]) (by simp [results, Try.results51, go_sem]) rfl ⟨⟨_, rfl⟩, below_set HB.out HG.out, ⟨_, blk_put BK.out 0 _ rfl, by have h_ := Kd.S_far HS.out (p := ⟨g, 0, none⟩) (fun _ hk => hk) (.slice A1 (rows ++ [ks]).length c1); rw [List.length_append] at h_; exact h_⟩⟩

def zuY (n b i : Nat) : Int := 2 + ((b / 2 ^ (n - 1 - i) % 2 : Nat) : Int)
def zbP (n b : Nat) : List Int := (List.range n).map (zuY n b)
def zbS (k : Nat) (l : List Int) : Nat → Nat → List (List Int) → Option (List (List Int))
 | 0, _, out => some out
 | d + 1, b, out => (zsL.f k l (zbP l.length b)).bind fun t => zbS k l d (b + 1) (if t = true then out ++ [zbP l.length b] else out)
theorem impl_AssignmentsOf_old {W : World} {b g : Nat} {v : Value} {xs : List (List Int)} {o : Obj} (h : Kd.S (Kd.slice 2 (Kd.int .i64)) 22 W b (fun k => k ≠ g) v xs) (hb : W.heap[g]? = some o) : ∃ s, g < s ∧ s ≤ W.heap.size ∧ Kd.S (Kd.slice 2 (Kd.int .i64)) 22 W b (fun k => k ≠ g ∧ k < s) v xs :=
 ⟨W.heap.size, blk_lt hb, Nat.le_refl _, Kd.S_old h (Below.refl _ _)⟩
def zyX (n b i : Nat) : List Int := (List.range i).map (zuY n b) ++ List.replicate (n - i) 0

theorem ziP (n b i : Nat) (h : i ≤ n) : (zyX n b i).length = n := by unfold zyX; simp; omega
theorem impl_AssignmentsOf_partK_zero (n b : Nat) : zyX n b 0 = List.replicate n 0 := by unfold zyX; simp
theorem impl_AssignmentsOf_partK_all (n b : Nat) : zyX n b n = zbP n b := by unfold zyX zbP; simp
theorem impl_AssignmentsOf_partK_set (n b i : Nat) (h : i < n) : (zyX n b i).set i (zuY n b i) = zyX n b (i + 1) := by
 unfold zyX
 rw [List.set_append_right _ _ (by simp), List.range_succ, List.map_append, show n - i = (n - (i + 1)) + 1 by omega, List.replicate_succ]
 simp
theorem zcE (n b : Nat) : (zbP n b).length = n := by unfold zbP; simp
theorem impl_AssignmentsOf_over_and (n : Int) : bits .and .i64 n 1 = n % 2 := by
 have h127 : (BitVec.ofInt 64 1).toNat = 2 ^ 1 - 1 := by decide
 have key : (BitVec.ofInt 64 n &&& BitVec.ofInt 64 1).toNat = (n % ((2 ^ 64 : Nat) : Int)).toNat % 2 ^ 1 := by
  rw [BitVec.toNat_and, BitVec.toNat_ofInt, h127, Nat.and_two_pow_sub_one_eq_mod]
 show IntKind.i64.wrap ((BitVec.ofInt 64 n &&& BitVec.ofInt 64 1).toNat : Nat) = n % 2
 rw [key, IntKind.wrap_i64]
 omega
theorem impl_AssignmentsOf_bit_eq (n b i : Nat) : wrap64 (2 + bits .and .i64 ((b : Int) / 2 ^ (n - 1 - i)) 1) = zuY n b i := by
 have e : (b : Int) / 2 ^ (n - 1 - i) = ((b / 2 ^ (n - 1 - i) : Nat) : Int) := by push_cast; rfl
 rw [e, impl_AssignmentsOf_over_and]
 unfold zuY wrap64
 omega
theorem zlE (k : Nat) (A0 : Option Addr) (c0 : Nat) (l0 : List Int) (A1 : Option Addr) (c1 n : Nat) (l1 : List Int) (r : Bool) (w : World) (hl : l1.length = n) (hr0 : Kd.C (Kd.int .i64) w A0 l0.length l0) (hc0 : l0.length ≤ c0) (hr1 : ∃ A c, Value.slice A1 n c1 = .slice A l1.length c ∧ l1.length ≤ c ∧ Kd.C (Kd.int .i64) w A l1.length l1) (h : zsL.f k l0 l1 = some r) :
  Calls Try.prog 57 #[.slice A0 l0.length c0, .slice A1 n c1] w fun e w' => e = .returned (.bool r) ∧ Below w.heap.size w w' := by
 subst hl
 obtain ⟨A, c, e, hc1, hC⟩ := hr1
 cases e
 exact zsL.calls k (fun k_ => k_ < w.heap.size) A0 c0 l0 (fun k_ => k_ < w.heap.size) A1 c1 l1 r w (Kd.V_mk hc0 (Kd.C_F (Kd.heap_int .i64) hr0)) (Kd.V_mk hc1 (Kd.C_F (Kd.heap_int .i64) hC)) h
theorem impl_AssignmentsOf_two_pow (n : Nat) (h : n ≤ 16) : wrap64 ((2 : Int) ^ min n 64) = ((2 ^ n : Nat) : Int) := by
 rw [Nat.min_eq_left (by omega)]
 have h1 : (2 : Nat) ^ n ≤ 2 ^ 16 := Nat.pow_le_pow_right (by omega) h
 have e : ((2 : Int) ^ n) = ((2 ^ n : Nat) : Int) := by push_cast; rfl
 rw [e]
 have h3 : (2 : Nat) ^ 16 = 65536 := by decide
 rw [h3] at h1
 generalize (2 : Nat) ^ n = q at h1 ⊢
 unfold wrap64
 omega
set_option maxHeartbeats 8000000 in
set_option maxRecDepth 100000 in
theorem impl_AssignmentsOf_over_calls (k : Nat) (A0 : Option Addr) (c0 : Nat) (l0 : List Int) (w W : World) (g : Nat) (v0 : Value) (res : List (List Int)) (hr0 : Kd.C (Kd.int .i64) w A0 l0.length l0) (hc0 : l0.length ≤ c0) (hn : l0.length ≤ 10)
  (hB : Below w.heap.size w W) (hg : w.heap.size ≤ g) (hb : W.heap[g]? = some (.cells #[v0] 23 (0, 0))) (hS : Kd.S (Kd.slice 2 (Kd.int .i64)) 22 W w.heap.size (fun k => k ≠ g) v0 []) (h : zbS k l0 (2 ^ l0.length) 0 [] = some res) :
  Calls Try.prog 50 #[.slice A0 l0.length c0, .func (.func 51) #[] #[.pointer (some ⟨g, 0, none⟩)]] W fun e w' => (∃ v0, e = .returned v0) ∧ ∃ v', Below w.heap.size w w' ∧ w'.heap[g]? = some (.cells #[v'] 23 (0, 0)) ∧ Kd.S (Kd.slice 2 (Kd.int .i64)) 22 w' w.heap.size (fun k => k ≠ g) v' res := by
 have HR0 := zpS hr0
 have HC0 := zpS hc0
 have HB := zpS hB
 have HG := zpS hg
 have BK := zpS hb
 have HN := zpS hn
 have HS := zpS hS
 have H' := zpS h
 clear hr0 hc0 hB hg hb hn h hS
 go_enter Try.func50, Try.ntmps50
 go_wp2
 rw [impl_AssignmentsOf_two_pow _ (by have := HN.out; omega)]
 obtain ⟨N2, hN2⟩ : ∃ N2 : Nat, N2 = 2 ^ l0.length := ⟨_, rfl⟩
 rw [← hN2]
 have H2 := zpS (show zbS k l0 N2 0 [] = some res from by rw [hN2]; exact H'.out)
 have HN2 := zpS (show N2 ≤ 1024 from by rw [hN2]; exact Nat.pow_le_pow_right (by omega) HN.out)
 clear hN2 H'
 go_loopg [12] N2 (fun kq v12 w' => ∃ (b : Nat) (v : Value) (out : List (List Int)), v12 = .int .i64 b ∧ Aside0 (zbS k l0 kq b out = some res) ∧ Aside0 (kq + b = N2) ∧ Aside0 (out.length ≤ b) ∧ Aside0 (Below w.heap.size w w') ∧ Aside0 (w'.heap[g]? = some (.cells #[v] 23 (0, 0))) ∧ Aside0 (Kd.S (Kd.slice 2 (Kd.int .i64)) 22 w' w.heap.size (fun k => k ≠ g) v out))
 case atStart => exact ⟨0, v0, [], rfl, H2, ⟨rfl⟩, ⟨Nat.le_refl _⟩, HB, BK, HS⟩
 case round =>
  clear H2 HB BK HS
  obtain ⟨b, v, out, rfl, HA, HK, HLN, HB, BK, HS0⟩ := hrel
  by_cases hlt : b < N2
  ·obtain ⟨d, rfl⟩ : ∃ d, gk = d + 1 := ⟨gk - 1, by have := HK.out; omega⟩
   have H := HA.out
   simp only [zbS] at H
   obtain ⟨t, A10, H⟩ := Option.bind_eq_some_iff.mp H
   have A1 := zpS A10
   have H3 := zpS H
   clear A10 H HA
   obtain ⟨s, hgs0, hsz0, hS1⟩ := impl_AssignmentsOf_old HS0.out BK.out
   have HGS := zpS hgs0
   have HSZ := zpS hsz0
   have HS := zpS hS1
   clear hgs0 hsz0 hS1 HS0
   have HNN := HN2.out
   have c1 : decide ((b : Int) < (N2 : Int)) = true := decide_eq_true (by omega)
   have c2 : decide (0 ≤ (l0.length : Int)) = true := decide_eq_true (by omega)
   have hb6 : (b : Int) ≤ 1024 := by omega
   clear HNN
   go_wp2_with (first | ((with_reducible refine gate_dst (N := 16) rfl ?_); refine Kd.R_make (Kd.int .i64) _ 2 rfl (N := 16) rfl 22 _ _ rfl (l0.length : Int) rfl rfl Try.underlying22 (.int .i64 0) 8 info2 rfl (by decide) (by omega) 0 (ok := fun _ => True) (okp := fun _ => True) rfl (fun _ hk => hk) trivial (by omega) (by have := HN.out; rw [Int.toNat_natCast]; omega) (Below.refl _ _) (Nat.le_refl _) ?_; intro v16 w5 ho hb hg_ hnew_; clear hg_ hnew_; rw [Int.toNat_natCast, ← impl_AssignmentsOf_partK_zero _ b] at ho; have n0_ := zpS (Kd.R_lower ho HSZ.out); have n1_ := zpS (zkR HB.out hb); have n2_ := zpS (zgN BK.out hb); have n3_ := zpS (Kd.S_below (by (with_reducible repeat (first | apply Kd.S_alloc | apply Kd.S_drewN | apply Kd.S_drew)); exact HS.out) hb); have n4_ := zpS (Nat.le_trans HSZ.out hb.size); clear HB BK HS HSZ ho hb; have HO := n0_; have HB := n1_; have BK := n2_; have HS := n3_; have HSZ := n4_; clear n0_ n1_ n2_ n3_ n4_; obtain ⟨A16, c16, e16⟩ := Kd.R_slice HO.out; rw [ziP _ _ _ (Nat.zero_le _)] at e16; subst e16))
   go_loopg [19] l0.length (fun kq v19 wi => ∃ i : Nat, v19 = .int .i64 i ∧ Aside0 (kq + i = l0.length) ∧ Aside0 (Kd.R (Kd.int .i64) 2 wi s (fun _ => True) (.slice A16 l0.length c16) (zyX l0.length b i)) ∧ Aside0 (Below w.heap.size w wi) ∧ Aside0 (wi.heap[g]? = some (.cells #[v] 23 (0, 0))) ∧ Aside0 (Kd.S (Kd.slice 2 (Kd.int .i64)) 22 wi w.heap.size (fun k => k ≠ g ∧ k < s) v out) ∧ Aside0 (s ≤ wi.heap.size))
   case atStart => exact ⟨0, rfl, ⟨rfl⟩, HO, HB, BK, HS, HSZ⟩
   case round =>
    clear HO HB BK HS HSZ
    obtain ⟨i, rfl, HI, HO, HB, BK, HS, HSZ⟩ := hrel
    have hi0 := HI.out
    have hn0 := HN.out
    by_cases hi : i < l0.length
    ·have c3 : decide ((i : Int) < (l0.length : Int)) = true := decide_eq_true (by omega)
     have c4 : decide (0 ≤ (i : Int)) = true := decide_eq_true (by omega)
     obtain ⟨go, co, eo, gb, gl, cl, hG⟩ := Kd.R_form HO.out (by rw [ziP _ _ _ (by omega)]; omega)
     rw [ziP _ _ _ (by omega)] at eo
     obtain ⟨rfl, rfl⟩ : A16 = some ⟨go, 0, none⟩ ∧ c16 = co := by cases eo; exact ⟨rfl, rfl⟩
     have GO := zpS gb
     clear gb gl hG eo
     obtain ⟨hx, hf⟩ := Kd.R_celln 0 HO.out (i : Int) (by omega) (by omega)
     rw [Int.toNat_natCast] at hx hf
     have HP := Kd.R_putg HO.out (i : Int) (zuY l0.length b i)
     rw [Int.toNat_natCast, impl_AssignmentsOf_partK_set _ _ _ hi, ← impl_AssignmentsOf_bit_eq] at HP
     have HP1 := zpS HP.1
     have NE := zpS (show g ≠ go from by have := GO.out; have := HGS.out; omega)
     have GW := zpS (show w.heap.size ≤ go from by have := GO.out; have := HG.out; have := HGS.out; omega)
     clear HP
     go_wp2
     go_roundg (l0.length - (i + 1))
     case measure => have := HI.out; omega
     case rel => exact ⟨i + 1, by (try rw [wrap64]); go_num, ⟨by have := HI.out; omega⟩, HP1, ⟨below_set HB.out GW.out⟩, ⟨blk_far BK.out NE.out _⟩, ⟨Kd.S_far HS.out (fun k hk => by have h2 := hk.2; have h3 := GO.out; intro e; have h4 : k = go := e; omega) _⟩, ⟨by simpa [World.setCell] using HSZ.out⟩⟩
    ·obtain rfl : i = l0.length := by omega
     have c3 : decide ((l0.length : Int) < (l0.length : Int)) = false := decide_eq_false (by omega)
     rw [impl_AssignmentsOf_partK_all] at HO
     clear hi0 hn0 hi
     cases t with
     | true =>
      have H4 := zpS (show zbS k l0 d (b + 1) (out ++ [zbP l0.length b]) = some res from by have := H3.out; rw [if_pos rfl] at this; exact this)
      clear H3 H
      have hkl := zcE l0.length b
      obtain ⟨KN, hKN⟩ : ∃ KN, KN = zbP l0.length b := ⟨_, rfl⟩
      rw [← hKN] at H4 HO A1 hkl
      clear hKN
      have HKL := zpS hkl
      clear hkl
      go_wp2_with (first | (go_at_call 57; (with_reducible refine (zlE k _ _ l0 _ _ _ KN true _ ?h1 ?h2 HC0.out ?h3 A1.out).mono ?_); (case h1 => exact HKL.out); (case h2 => exact Kd.C_below HR0.out bb_); (case h3 => exact Kd.R_reads (by (with_reducible repeat (first | apply Kd.R_alloc | apply Kd.R_drewN | apply Kd.R_drew)); exact HO.out)); rintro e wz ⟨rfl, hz⟩; have n0_ := (ns_ hz); have n1_ := zpS (zgN (by (with_reducible repeat (first | apply zuW | apply ztN | apply zqY)); exact BK.out) hz); have n2_ := zpS (Kd.S_below (by (with_reducible repeat (first | apply Kd.S_alloc | apply Kd.S_drewN | apply Kd.S_drew)); exact HS.out) hz); have n3_ := zpS (Kd.R_below (by (with_reducible repeat (first | apply Kd.R_alloc | apply Kd.R_drewN | apply Kd.R_drew)); exact HO.out) hz); have n4_ := zpS (Nat.le_trans HSZ.out hz.size); clear HB BK HO HS HSZ hz; have HB := n0_; have BK := n1_; have HS := n2_; have HO := n3_; have HSZ := n4_; clear n0_ n1_ n2_ n3_ n4_) | (go_at_call 51; (with_reducible refine (impl_AssignmentsOf_clo_calls w _ g s v out _ _ _ KN HKL.out ?hB HG.out HGS.out ?hs ?hb ?hS ?hR ?hl).mono ?_); (case hB => exact bb_); (case hs => exact HSZ.out); (case hb => exact (by (with_reducible repeat (first | apply zuW | apply ztN | apply zqY)); exact BK.out)); (case hS => exact (by (with_reducible repeat (first | apply Kd.S_alloc | apply Kd.S_drewN | apply Kd.S_drew)); exact HS.out)); (case hR => exact (by (with_reducible repeat (first | apply Kd.R_alloc | apply Kd.R_drewN | apply Kd.R_drew)); exact HO.out)); (case hl => have := HLN.out; omega); rintro e wq ⟨⟨v0_, rfl⟩, v', hq1, hq2, hq3⟩; have n0_ := zpS hq1; have n1_ := zpS hq2; have n2_ := zpS hq3; clear HB BK HO HS HSZ hq1 hq2 hq3; have HB := n0_; have BK := n1_; have HS := n2_; clear n0_ n1_ n2_))
      go_roundg d
      case measure => omega
      case rel => exact ⟨b + 1, _, _, by (try rw [wrap64]); go_num, H4, ⟨by have := HK.out; omega⟩, ⟨by rw [List.length_append, List.length_singleton]; have := HLN.out; omega⟩, HB, BK, HS⟩
     | false =>
      have H4 := zpS (show zbS k l0 d (b + 1) out = some res from by have := H3.out; rw [if_neg (by simp)] at this; exact this)
      clear H3 H
      go_wp2_with (first | (go_at_call 57; (with_reducible refine (zlE k _ _ l0 _ _ _ (zbP l0.length b) false _ ?h1 ?h2 HC0.out ?h3 A1.out).mono ?_); (case h1 => exact zcE _ _); (case h2 => exact Kd.C_below HR0.out bb_); (case h3 => exact Kd.R_reads HO.out); rintro e wz ⟨rfl, hz⟩; have n0_ := (ns_ hz); have n1_ := zpS (zgN (by (with_reducible repeat (first | apply zuW | apply ztN | apply zqY)); exact BK.out) hz); have n2_ := zpS (Kd.S_below (by (with_reducible repeat (first | apply Kd.S_alloc | apply Kd.S_drewN | apply Kd.S_drew)); exact HS.out) hz); clear HB BK HO HS hz; have HB := n0_; have BK := n1_; have HS := n2_; clear n0_ n1_ n2_))
      go_roundg d
      case measure => omega
      case rel => exact ⟨b + 1, v, out, by (try rw [wrap64]); go_num, H4, ⟨by have := HK.out; omega⟩, ⟨by have := HLN.out; omega⟩, HB, BK, ⟨Kd.S_mono HS.out (fun _ hk => hk.1)⟩⟩
  ·have H := HA.out
   obtain rfl : gk = 0 := by have := HK.out; omega
   simp only [zbS, Option.some.injEq] at H
   subst H
   have c1 : decide ((b : Int) < (N2 : Int)) = false := decide_eq_false (by omega)
   go_wp2
   exact bodyPost_end (v := .tuple #[]) (by simp [results, Try.results50, go_sem]) rfl ⟨⟨_, rfl⟩, _, HB.out, BK.out, HS0.out⟩
theorem ztS (k : Nat) (l : List Int) : ∀ (d b : Nat) (o : List (List Int)), LeO (zbS k l d b o) (zbS (k + 1) l d b o)
 | 0, _, _ => LeO.refl _
 | d + 1, b, o => LeO.bind (zsL.mono _ _ k) (fun t => ztS k l d (b + 1) _)
def zyN.f (k : Nat) (l0 : List Int) : Option (List (List Int) × Int) := (ziL.f k l0).bind fun t => (if t = true then (if l0.length ≤ 10 then ((zbS k l0 (2 ^ l0.length) 0 []).bind fun m => (some (m, 0))) else (some ([], 5))) else some ([], 1))
theorem zyN.mono : ∀ a0 k, LeO (zyN.f k a0) (zyN.f (k + 1) a0) := fun a0 k => LeO.bind (ziL.mono a0 k) (fun t => LeO.ite (LeO.ite (LeO.bind (ztS k a0 _ _ _) (fun _ => LeO.refl _)) (LeO.refl _)) (LeO.refl _))
set_option maxHeartbeats 8000000 in
set_option maxRecDepth 100000 in
theorem zyN.calls (k : Nat) (A0 : Option Addr) (c0 : Nat) (l0 : List Int) (r1 : List (List Int)) (r2 : Int) (w : World) (hr0 : Kd.C (Kd.int .i64) w A0 l0.length l0) (hc0 : l0.length ≤ c0) (h : zyN.f k l0 = some (r1, r2)) :
  Calls Try.prog 12 #[.slice A0 l0.length c0] w fun e w' => ∃ v0_ : Value, e = .returned (.tuple #[v0_, .int .i64 r2]) ∧ Kd.S (Kd.slice 2 (Kd.int .i64)) 22 w' w.heap.size (fun _ => True) v0_ r1 ∧ Below w.heap.size w w' := by
 have HR0 := zpS hr0
 have HC0 := zpS hc0
 clear hr0 hc0
 have HB := zpS (Below.refl w.heap.size w)
 obtain ⟨t, A10, H⟩ := Option.bind_eq_some_iff.mp h
 have A1 := zpS A10
 clear A10 h
 cases t with
 | false =>
  simp only [Bool.false_eq_true, if_false, Option.some.injEq, Prod.mk.injEq] at H
  obtain ⟨rfl, rfl⟩ := H
  go_enter Try.func12, Try.ntmps12
  go_wp2_with (go_at_call 26; (with_reducible refine (ziL.calls k _ _ l0 false _ HR0.out HC0.out A1.out).mono ?_); rintro e w' ⟨rfl, ⟨nd, rfl⟩⟩)
  go_ret2
  exact ⟨_, rfl, Kd.S_nil _ _ _ _ _, by repeat (first | exact HB.out | apply znU | apply zlA | apply zvF)⟩
 | true =>
  simp only [if_true] at H
  by_cases hn : l0.length ≤ 10
  ·rw [if_pos hn] at H
   obtain ⟨m, A20, H⟩ := Option.bind_eq_some_iff.mp H
   simp only [Option.some.injEq, Prod.mk.injEq] at H
   obtain ⟨rfl, rfl⟩ := H
   have A2 := zpS A20
   have HN := zpS hn
   have c9 : decide ((l0.length : Int) > 10) = false := decide_eq_false (by omega)
   have c8 : decide ((10 : Int) < (l0.length : Int)) = false := decide_eq_false (by omega)
   clear A20 hn
   go_enter Try.func12, Try.ntmps12
   go_wp2_with (first | (go_at_call 26; (with_reducible refine (ziL.calls k _ _ l0 true _ HR0.out HC0.out A1.out).mono ?_); rintro e w' ⟨rfl, ⟨nd, rfl⟩⟩) | ((with_reducible refine gate_dst (N := 4) rfl ?_); refine bx_ 4 #[.slice none 0 0] 23 ?_; intro gb hg w8 hbox hb; have HB2 := (ns_ hb); have GE := zpS (by rw [hg]; exact (zuA bb_) : w.heap.size ≤ gb); have BK := zpS hbox; have hcz0 : w8.cell? ⟨gb, 0, none⟩ = some (.slice none 0 0) := (zzS BK.out 0).trans rfl; have hfz0 := zjG BK.out 0; clear hb hbox hg) | (go_at_call 50; (with_reducible refine (impl_AssignmentsOf_over_calls k _ _ l0 w _ _ (.slice none 0 0) m ?h0 HC0.out HN.out ?hB ?hg ?hb (Kd.S_nil _ _ _ _ _) A2.out).mono ?_); (case h0 => exact HR0.out); (case hB => repeat (first | exact HB2.out | apply znU | apply zlA | apply zvF)); (case hg => exact GE.out); (case hb => exact (by (with_reducible repeat (first | apply zuW | apply ztN | apply zqY)); exact BK.out)); rintro e wz ⟨⟨v0_, rfl⟩, v', hz, hk, hs⟩; have HZ := zpS hz; have HK := zpS hk; have HS := zpS hs; have hcz : wz.cell? ⟨gb, 0, none⟩ = some v' := (zzS HK.out 0).trans rfl; clear hz hk hs))
   go_ret2
   exact ⟨_, rfl, Kd.S_mono HS.out (fun _ _ => trivial), by repeat (first | exact HZ.out | apply znU | apply zlA | apply zvF)⟩
  ·rw [if_neg hn] at H
   simp only [Option.some.injEq, Prod.mk.injEq] at H
   obtain ⟨rfl, rfl⟩ := H
   have c9 : decide ((l0.length : Int) > 10) = true := decide_eq_true (by omega)
   have c8 : decide ((10 : Int) < (l0.length : Int)) = true := decide_eq_true (by omega)
   clear hn
   go_enter Try.func12, Try.ntmps12
   go_wp2_with (go_at_call 26; (with_reducible refine (ziL.calls k _ _ l0 true _ HR0.out HC0.out A1.out).mono ?_); rintro e w' ⟨rfl, ⟨nd, rfl⟩⟩)
   go_ret2
   exact ⟨_, rfl, Kd.S_nil _ _ _ _ _, by repeat (first | exact HB.out | apply znU | apply zlA | apply zvF)⟩

def zsK.l0 : Nat → List Int → List Int → Int → Option (Bool)
 | 0, _, _, _ => none
 | k + 1, x0, x1, x5 => if x5 < (x0.length : Int) then (if 0 ≤ x5 then (if x5 < (x1.length : Int) then (if (rd x0 x5) = (rd x1 x5) then (zsK.l0 k x0 x1 (wrap64 (x5 + 1))) else (some false)) else (none)) else (none)) else (some true)
def zsK.f (k : Nat) (l0 : List Int) (l1 : List Int) : Option (Bool) := if (l0.length : Int) = (l1.length : Int) then (zsK.l0 k l0 l1 0) else (some false)
theorem zsK.mono_l : ∀ k, (∀ y0 y1 y2, LeO (zsK.l0 k y0 y1 y2) (zsK.l0 (k + 1) y0 y1 y2))
 | 0 => fun _ _ _ r h => by simp [zsK.l0] at h
 | k + 1 => by
  have ih0 := zsK.mono_l k
  ·intro y0 y1 y2
   unfold zsK.l0
   repeat' first
   | (with_reducible exact ih0 _ _ _)
   | (with_reducible exact LeO.refl _)
   | (with_reducible exact LeO.none _)
   | (with_reducible refine LeO.ite ?_ ?_)
   | (with_reducible refine LeO.bind ?_ (fun _ => ?_))
   | exact ih0 _ _ _
   | exact LeO.none _
   | refine LeO.ite ?_ ?_
   | refine LeO.bind ?_ (fun _ => ?_)
theorem zsK.mono : ∀ a0 a1 k, LeO (zsK.f k a0 a1) (zsK.f (k + 1) a0 a1) := by
 intro a0 a1 k
 have ih0 := zsK.mono_l k
 unfold zsK.f
 repeat' first
   | (with_reducible exact ih0 _ _ _)
   | (with_reducible exact LeO.refl _)
   | (with_reducible exact LeO.none _)
   | (with_reducible refine LeO.ite ?_ ?_)
   | (with_reducible refine LeO.bind ?_ (fun _ => ?_))
   | exact ih0 _ _ _
   | exact LeO.none _
   | refine LeO.ite ?_ ?_
   | refine LeO.bind ?_ (fun _ => ?_)
set_option maxHeartbeats 8000000 in
set_option maxRecDepth 100000 in
theorem zsK.calls (k : Nat) (A0 : Option Addr) (c0 : Nat) (l0 : List Int) (A1 : Option Addr) (c1 : Nat) (l1 : List Int) (r : Bool) (w : World) (hr0 : Kd.C (Kd.int .i64) w A0 l0.length l0) (hc0 : l0.length ≤ c0) (hr1 : Kd.C (Kd.int .i64) w A1 l1.length l1) (hc1 : l1.length ≤ c1) (h : zsK.f k l0 l1 = some r) :
  Calls Try.prog 14 #[.slice A0 l0.length c0, .slice A1 l1.length c1] w fun e w' => e = .returned (.bool r) ∧ Drawn0 w w' := by
 have HR0 := zpS hr0
 have HC0 := zpS hc0
 clear hr0 hc0
 have HR1 := zpS hr1
 have HC1 := zpS hc1
 clear hr1 hc1
 have H : (if (l0.length : Int) = (l1.length : Int) then (zsK.l0 k l0 l1 0) else (some false)) = some r := h
 clear h
 by_cases c3 : (l0.length : Int) = (l1.length : Int)
 ·rw [if_pos c3] at H
  have c3b0 : ((l0.length : Int) == (l1.length : Int)) = true := beq_iff_eq.mpr c3
  have c3b1 : ((l0.length : Int) != (l1.length : Int)) = false := bne_eq_false_iff_eq.mpr c3
  have c3b2 : (l0.length == l1.length) = true := by first | simpa using c3 | (simp at c3 ⊢; omega)
  clear c3
  have H' := zpS H
  clear H
  go_enter Try.func14, Try.ntmps14
  go_wp2
  repeat (go_quiet (fail); try go_wp2)
  (try go_simp)
  go_loopg [5] k (fun kq v5 w' => ∃ (x5_1 : Int), v5 = .int .i64 x5_1 ∧ Aside0 (zsK.l0 kq l0 l1 x5_1 = some r) ∧ Aside0 (kq ≤ k) ∧ Drawn0 w w')
  case atStart => exact ⟨(0), (by first | rfl | (simp; done) | (simp [*]; done)), H', ⟨Nat.le_refl _⟩, by repeat (first | exact Drawn0.refl _ | apply Drawn0.step)⟩
  case round =>
   clear H'
   try clear c1
   try clear p2
   try clear c3
   try clear c3b0
   try clear c3b1
   try clear c3b2
   obtain ⟨x5_1, rfl, HA, HK1, ⟨m1, rfl⟩⟩ := hrel
   cases gk with
   | zero => exact absurd HA.out (by simp [zsK.l0])
   | succ k1 =>
    have H := HA.out
    clear HA
    simp only [zsK.l0] at H
    by_cases c4 : x5_1 < (l0.length : Int)
    ·rw [if_pos c4] at H
     have c4b0 : decide (x5_1 < (l0.length : Int)) = true := decide_eq_true c4
     clear c4
     by_cases c5 : 0 ≤ x5_1
     ·rw [if_pos c5] at H
      have c5b0 : decide (0 ≤ x5_1) = true := decide_eq_true c5
      clear c5
      by_cases c6 : x5_1 < (l1.length : Int)
      ·rw [if_pos c6] at H
       have c6b0 : decide (x5_1 < (l1.length : Int)) = true := decide_eq_true c6
       clear c6
       by_cases c7 : (rd l0 x5_1) = (rd l1 x5_1)
       ·rw [if_pos c7] at H
        have c7b0 : ((rd l0 x5_1) == (rd l1 x5_1)) = true := beq_iff_eq.mpr c7
        have c7b1 : ((rd l0 x5_1) != (rd l1 x5_1)) = false := bne_eq_false_iff_eq.mpr c7
        clear c7
        have H' := zpS H
        clear H
        have p314 : 0 ≤ (x5_1 : Int) := of_decide_eq_true (by first | (with_reducible assumption) | assumption)
        have q314 : x5_1 < (l0.length : Int) := of_decide_eq_true (by first | (with_reducible assumption) | assumption)
        obtain ⟨ad314, e314, hx314_0⟩ := Kd.at_int HR0.out x5_1 p314 q314
        cases e314
        replace p314 := eq_true p314
        replace q314 := eq_true q314
        have p315 : 0 ≤ (x5_1 : Int) := of_decide_eq_true (by first | (with_reducible assumption) | assumption)
        have q315 : x5_1 < (l1.length : Int) := of_decide_eq_true (by first | (with_reducible assumption) | assumption)
        obtain ⟨ad315, e315, hx315_0⟩ := Kd.at_int HR1.out x5_1 p315 q315
        cases e315
        replace p315 := eq_true p315
        replace q315 := eq_true q315
        go_wp2
        repeat (go_quiet (fail); try go_wp2)
        go_roundg k1
        case measure => have := HK1.out; omega
        case rel => exact ⟨(wrap64 (x5_1 + 1)), (by first | rfl | (simp; done) | (simp [*]; done)), H', ⟨by have := HK1.out; omega⟩, by repeat (first | exact Drawn0.refl _ | apply Drawn0.step)⟩
       ·rw [if_neg c7] at H
        have c7b0 : ((rd l0 x5_1) == (rd l1 x5_1)) = false := beq_eq_false_iff_ne.mpr c7
        have c7b1 : ((rd l0 x5_1) != (rd l1 x5_1)) = true := bne_iff_ne.mpr c7
        obtain rfl := Option.some.inj H
        have p314 : 0 ≤ (x5_1 : Int) := of_decide_eq_true (by first | (with_reducible assumption) | assumption)
        have q314 : x5_1 < (l0.length : Int) := of_decide_eq_true (by first | (with_reducible assumption) | assumption)
        obtain ⟨ad314, e314, hx314_0⟩ := Kd.at_int HR0.out x5_1 p314 q314
        cases e314
        replace p314 := eq_true p314
        replace q314 := eq_true q314
        have p315 : 0 ≤ (x5_1 : Int) := of_decide_eq_true (by first | (with_reducible assumption) | assumption)
        have q315 : x5_1 < (l1.length : Int) := of_decide_eq_true (by first | (with_reducible assumption) | assumption)
        obtain ⟨ad315, e315, hx315_0⟩ := Kd.at_int HR1.out x5_1 p315 q315
        cases e315
        replace p315 := eq_true p315
        replace q315 := eq_true q315
        go_wp2
        repeat (go_quiet (fail); try go_wp2)
        go_ret
        exact ⟨by first | rfl | (simp; done) | (simp [*]; done), by repeat (first | exact Drawn0.refl _ | apply Drawn0.step)⟩
      ·rw [if_neg c6] at H
       exact absurd H (by simp)
     ·rw [if_neg c5] at H
      exact absurd H (by simp)
    ·rw [if_neg c4] at H
     have c4b0 : decide (x5_1 < (l0.length : Int)) = false := decide_eq_false c4
     clear c4
     obtain rfl := Option.some.inj H
     go_wp2
     repeat (go_quiet (fail); try go_wp2)
     go_ret
     exact ⟨by first | rfl | (simp; done) | (simp [*]; done), by repeat (first | exact Drawn0.refl _ | apply Drawn0.step)⟩
 ·rw [if_neg c3] at H
  have c3b0 : ((l0.length : Int) == (l1.length : Int)) = false := beq_eq_false_iff_ne.mpr c3
  have c3b1 : ((l0.length : Int) != (l1.length : Int)) = true := bne_iff_ne.mpr c3
  have c3b2 : (l0.length == l1.length) = false := by first | simpa using c3 | (simp at c3 ⊢; omega)
  obtain rfl := Option.some.inj H
  go_enter Try.func14, Try.ntmps14
  go_wp2
  repeat (go_quiet (fail); try go_wp2)
  go_ret
  exact ⟨by first | rfl | (simp; done) | (simp [*]; done), by repeat (first | exact Drawn0.refl _ | apply Drawn0.step)⟩

def zxX.l0 : Nat → List (List Int) → List (List Int) → Int → Option (Bool)
 | 0, _, _, _ => none
 | k + 1, x0, x1, x5 => if x5 < (x0.length : Int) then (if 0 ≤ x5 then (if x5 < (x1.length : Int) then ((zsK.f k (rd_L1 x0 x5) (rd_L1 x1 x5)).bind fun t318 => (if t318 = true then (zxX.l0 k x0 x1 (wrap64 (x5 + 1))) else (some false))) else (none)) else (none)) else (some true)
def zxX.f (k : Nat) (l0 : List (List Int)) (l1 : List (List Int)) : Option (Bool) := if (l0.length : Int) = (l1.length : Int) then (zxX.l0 k l0 l1 0) else (some false)
theorem zxX.mono_l : ∀ k, (∀ y0 y1 y2, LeO (zxX.l0 k y0 y1 y2) (zxX.l0 (k + 1) y0 y1 y2))
 | 0 => fun _ _ _ r h => by simp [zxX.l0] at h
 | k + 1 => by
  have ih0 := zxX.mono_l k
  ·intro y0 y1 y2
   unfold zxX.l0
   repeat' first
   | (with_reducible exact ih0 _ _ _)
   | (with_reducible exact zsK.mono _ _ _)
   | (with_reducible exact LeO.refl _)
   | (with_reducible exact LeO.none _)
   | (with_reducible refine LeO.ite ?_ ?_)
   | (with_reducible refine LeO.bind ?_ (fun _ => ?_))
   | exact ih0 _ _ _
   | exact zsK.mono _ _ _
   | exact LeO.none _
   | refine LeO.ite ?_ ?_
   | refine LeO.bind ?_ (fun _ => ?_)
theorem zxX.mono : ∀ a0 a1 k, LeO (zxX.f k a0 a1) (zxX.f (k + 1) a0 a1) := by
 intro a0 a1 k
 have ih0 := zxX.mono_l k
 unfold zxX.f
 repeat' first
   | (with_reducible exact ih0 _ _ _)
   | (with_reducible exact zsK.mono _ _ _)
   | (with_reducible exact LeO.refl _)
   | (with_reducible exact LeO.none _)
   | (with_reducible refine LeO.ite ?_ ?_)
   | (with_reducible refine LeO.bind ?_ (fun _ => ?_))
   | exact ih0 _ _ _
   | exact zsK.mono _ _ _
   | exact LeO.none _
   | refine LeO.ite ?_ ?_
   | refine LeO.bind ?_ (fun _ => ?_)
set_option maxHeartbeats 8000000 in
set_option maxRecDepth 100000 in
theorem zxX.calls (k : Nat) (A0 : Option Addr) (c0 : Nat) (l0 : List (List Int)) (A1 : Option Addr) (c1 : Nat) (l1 : List (List Int)) (r : Bool) (w : World) (hr0 : Kd.C (Kd.slice 2 (Kd.int .i64)) w A0 l0.length l0) (hc0 : l0.length ≤ c0) (hr1 : Kd.C (Kd.slice 2 (Kd.int .i64)) w A1 l1.length l1) (hc1 : l1.length ≤ c1) (h : zxX.f k l0 l1 = some r) :
  Calls Try.prog 13 #[.slice A0 l0.length c0, .slice A1 l1.length c1] w fun e w' => e = .returned (.bool r) ∧ Drawn0 w w' := by
 have HR0 := zpS hr0
 have HC0 := zpS hc0
 clear hr0 hc0
 have HR1 := zpS hr1
 have HC1 := zpS hc1
 clear hr1 hc1
 have H : (if (l0.length : Int) = (l1.length : Int) then (zxX.l0 k l0 l1 0) else (some false)) = some r := h
 clear h
 by_cases c3 : (l0.length : Int) = (l1.length : Int)
 ·rw [if_pos c3] at H
  have c3b0 : ((l0.length : Int) == (l1.length : Int)) = true := beq_iff_eq.mpr c3
  have c3b1 : ((l0.length : Int) != (l1.length : Int)) = false := bne_eq_false_iff_eq.mpr c3
  have c3b2 : (l0.length == l1.length) = true := by first | simpa using c3 | (simp at c3 ⊢; omega)
  clear c3
  have H' := zpS H
  clear H
  go_enter Try.func13, Try.ntmps13
  go_wp2
  repeat (go_quiet (fail); try go_wp2)
  (try go_simp)
  go_loopg [5] k (fun kq v5 w' => ∃ (x5_1 : Int), v5 = .int .i64 x5_1 ∧ Aside0 (zxX.l0 kq l0 l1 x5_1 = some r) ∧ Aside0 (kq ≤ k) ∧ Drawn0 w w')
  case atStart => exact ⟨(0), (by first | rfl | (simp; done) | (simp [*]; done)), H', ⟨Nat.le_refl _⟩, by repeat (first | exact Drawn0.refl _ | apply Drawn0.step)⟩
  case round =>
   clear H'
   try clear c1
   try clear p2
   try clear c3
   try clear c3b0
   try clear c3b1
   try clear c3b2
   obtain ⟨x5_1, rfl, HA, HK1, ⟨m1, rfl⟩⟩ := hrel
   cases gk with
   | zero => exact absurd HA.out (by simp [zxX.l0])
   | succ k1 =>
    have H := HA.out
    clear HA
    simp only [zxX.l0] at H
    by_cases c4 : x5_1 < (l0.length : Int)
    ·rw [if_pos c4] at H
     have c4b0 : decide (x5_1 < (l0.length : Int)) = true := decide_eq_true c4
     clear c4
     by_cases c5 : 0 ≤ x5_1
     ·rw [if_pos c5] at H
      have c5b0 : decide (0 ≤ x5_1) = true := decide_eq_true c5
      clear c5
      by_cases c6 : x5_1 < (l1.length : Int)
      ·rw [if_pos c6] at H
       have c6b0 : decide (x5_1 < (l1.length : Int)) = true := decide_eq_true c6
       clear c6
       replace H := Option.bind_eq_some_iff.mp H
       obtain ⟨t318, A70, H⟩ := H
       replace H : (if t318 = true then (zxX.l0 k1 l0 l1 (wrap64 (x5_1 + 1))) else (some false)) = some r := H
       have A7 := zpS A70
       clear A70
       by_cases c8 : t318 = true
       ·subst c8
        have H1 : (zxX.l0 k1 l0 l1 (wrap64 (x5_1 + 1))) = some r := by rw [if_pos rfl] at H; exact H
        clear H
        have H := H1
        clear H1
        have H' := zpS H
        clear H
        have p316 : 0 ≤ (x5_1 : Int) := of_decide_eq_true (by first | (with_reducible assumption) | assumption)
        have q316 : x5_1 < (l0.length : Int) := of_decide_eq_true (by first | (with_reducible assumption) | assumption)
        obtain ⟨ad316, A316_0, c316_0, e316, hx316_0, hl316_0, hi316_0⟩ := at_L1 HR0.out x5_1 p316 q316
        cases e316
        have HR316_0 := zpS hi316_0
        have HC316_0 := zpS hl316_0
        clear hi316_0 hl316_0
        replace p316 := eq_true p316
        replace q316 := eq_true q316
        have p317 : 0 ≤ (x5_1 : Int) := of_decide_eq_true (by first | (with_reducible assumption) | assumption)
        have q317 : x5_1 < (l1.length : Int) := of_decide_eq_true (by first | (with_reducible assumption) | assumption)
        obtain ⟨ad317, A317_0, c317_0, e317, hx317_0, hl317_0, hi317_0⟩ := at_L1 HR1.out x5_1 p317 q317
        cases e317
        have HR317_0 := zpS hi317_0
        have HC317_0 := zpS hl317_0
        clear hi317_0 hl317_0
        replace p317 := eq_true p317
        replace q317 := eq_true q317
        go_wp2_with (first | (go_at_call 14; (with_reducible refine (zsK.calls k1 _ _ (rd_L1 l0 x5_1) _ _ (rd_L1 l1 x5_1) true _ ?side1 ?side2 ?side3 ?side4 A7.out).mono ?_); (case side1 => repeat (first | exact HR316_0.out | (with_reducible refine Kd.C_alloc ?_ _) | (with_reducible refine Kd.C_drewN ?_ _) | (with_reducible refine Kd.C_drew ?_))); (case side2 => exact HC316_0.out); (case side3 => repeat (first | exact HR317_0.out | (with_reducible refine Kd.C_alloc ?_ _) | (with_reducible refine Kd.C_drewN ?_ _) | (with_reducible refine Kd.C_drew ?_))); (case side4 => exact HC317_0.out); rintro e w' ⟨rfl, ⟨nd, rfl⟩⟩; (try first | exact ⟨rfl, _, World.drewN_drewN _ _ _⟩ | exact ⟨rfl, _, Eq.trans (World.drewN_drewN _ _ _) (congrArg (World.drewN _) (Nat.add_assoc _ _ _))⟩)))
        repeat (go_quiet (first | (go_at_call 14; (with_reducible refine (zsK.calls k1 _ _ (rd_L1 l0 x5_1) _ _ (rd_L1 l1 x5_1) true _ ?side1 ?side2 ?side3 ?side4 A7.out).mono ?_); (case side1 => repeat (first | exact HR316_0.out | (with_reducible refine Kd.C_alloc ?_ _) | (with_reducible refine Kd.C_drewN ?_ _) | (with_reducible refine Kd.C_drew ?_))); (case side2 => exact HC316_0.out); (case side3 => repeat (first | exact HR317_0.out | (with_reducible refine Kd.C_alloc ?_ _) | (with_reducible refine Kd.C_drewN ?_ _) | (with_reducible refine Kd.C_drew ?_))); (case side4 => exact HC317_0.out); rintro e w' ⟨rfl, ⟨nd, rfl⟩⟩; (try first | exact ⟨rfl, _, World.drewN_drewN _ _ _⟩ | exact ⟨rfl, _, Eq.trans (World.drewN_drewN _ _ _) (congrArg (World.drewN _) (Nat.add_assoc _ _ _))⟩))); try go_wp2_with (first | (go_at_call 14; (with_reducible refine (zsK.calls k1 _ _ (rd_L1 l0 x5_1) _ _ (rd_L1 l1 x5_1) true _ ?side1 ?side2 ?side3 ?side4 A7.out).mono ?_); (case side1 => repeat (first | exact HR316_0.out | (with_reducible refine Kd.C_alloc ?_ _) | (with_reducible refine Kd.C_drewN ?_ _) | (with_reducible refine Kd.C_drew ?_))); (case side2 => exact HC316_0.out); (case side3 => repeat (first | exact HR317_0.out | (with_reducible refine Kd.C_alloc ?_ _) | (with_reducible refine Kd.C_drewN ?_ _) | (with_reducible refine Kd.C_drew ?_))); (case side4 => exact HC317_0.out); rintro e w' ⟨rfl, ⟨nd, rfl⟩⟩; (try first | exact ⟨rfl, _, World.drewN_drewN _ _ _⟩ | exact ⟨rfl, _, Eq.trans (World.drewN_drewN _ _ _) (congrArg (World.drewN _) (Nat.add_assoc _ _ _))⟩))))
        go_roundg k1
        case measure => have := HK1.out; omega
        case rel => exact ⟨(wrap64 (x5_1 + 1)), (by first | rfl | (simp; done) | (simp [*]; done)), H', ⟨by have := HK1.out; omega⟩, by repeat (first | exact Drawn0.refl _ | apply Drawn0.step)⟩
       ·replace c8 := Bool.eq_false_iff.mpr c8
        subst c8
        have H1 : (some false) = some r := by rw [if_neg (show ¬ (false = true) by decide)] at H; exact H
        clear H
        have H := H1
        clear H1
        obtain rfl := Option.some.inj H
        have p316 : 0 ≤ (x5_1 : Int) := of_decide_eq_true (by first | (with_reducible assumption) | assumption)
        have q316 : x5_1 < (l0.length : Int) := of_decide_eq_true (by first | (with_reducible assumption) | assumption)
        obtain ⟨ad316, A316_0, c316_0, e316, hx316_0, hl316_0, hi316_0⟩ := at_L1 HR0.out x5_1 p316 q316
        cases e316
        have HR316_0 := zpS hi316_0
        have HC316_0 := zpS hl316_0
        clear hi316_0 hl316_0
        replace p316 := eq_true p316
        replace q316 := eq_true q316
        have p317 : 0 ≤ (x5_1 : Int) := of_decide_eq_true (by first | (with_reducible assumption) | assumption)
        have q317 : x5_1 < (l1.length : Int) := of_decide_eq_true (by first | (with_reducible assumption) | assumption)
        obtain ⟨ad317, A317_0, c317_0, e317, hx317_0, hl317_0, hi317_0⟩ := at_L1 HR1.out x5_1 p317 q317
        cases e317
        have HR317_0 := zpS hi317_0
        have HC317_0 := zpS hl317_0
        clear hi317_0 hl317_0
        replace p317 := eq_true p317
        replace q317 := eq_true q317
        go_wp2_with (first | (go_at_call 14; (with_reducible refine (zsK.calls k1 _ _ (rd_L1 l0 x5_1) _ _ (rd_L1 l1 x5_1) false _ ?side1 ?side2 ?side3 ?side4 A7.out).mono ?_); (case side1 => repeat (first | exact HR316_0.out | (with_reducible refine Kd.C_alloc ?_ _) | (with_reducible refine Kd.C_drewN ?_ _) | (with_reducible refine Kd.C_drew ?_))); (case side2 => exact HC316_0.out); (case side3 => repeat (first | exact HR317_0.out | (with_reducible refine Kd.C_alloc ?_ _) | (with_reducible refine Kd.C_drewN ?_ _) | (with_reducible refine Kd.C_drew ?_))); (case side4 => exact HC317_0.out); rintro e w' ⟨rfl, ⟨nd, rfl⟩⟩; (try first | exact ⟨rfl, _, World.drewN_drewN _ _ _⟩ | exact ⟨rfl, _, Eq.trans (World.drewN_drewN _ _ _) (congrArg (World.drewN _) (Nat.add_assoc _ _ _))⟩)))
        repeat (go_quiet (first | (go_at_call 14; (with_reducible refine (zsK.calls k1 _ _ (rd_L1 l0 x5_1) _ _ (rd_L1 l1 x5_1) false _ ?side1 ?side2 ?side3 ?side4 A7.out).mono ?_); (case side1 => repeat (first | exact HR316_0.out | (with_reducible refine Kd.C_alloc ?_ _) | (with_reducible refine Kd.C_drewN ?_ _) | (with_reducible refine Kd.C_drew ?_))); (case side2 => exact HC316_0.out); (case side3 => repeat (first | exact HR317_0.out | (with_reducible refine Kd.C_alloc ?_ _) | (with_reducible refine Kd.C_drewN ?_ _) | (with_reducible refine Kd.C_drew ?_))); (case side4 => exact HC317_0.out); rintro e w' ⟨rfl, ⟨nd, rfl⟩⟩; (try first | exact ⟨rfl, _, World.drewN_drewN _ _ _⟩ | exact ⟨rfl, _, Eq.trans (World.drewN_drewN _ _ _) (congrArg (World.drewN _) (Nat.add_assoc _ _ _))⟩))); try go_wp2_with (first | (go_at_call 14; (with_reducible refine (zsK.calls k1 _ _ (rd_L1 l0 x5_1) _ _ (rd_L1 l1 x5_1) false _ ?side1 ?side2 ?side3 ?side4 A7.out).mono ?_); (case side1 => repeat (first | exact HR316_0.out | (with_reducible refine Kd.C_alloc ?_ _) | (with_reducible refine Kd.C_drewN ?_ _) | (with_reducible refine Kd.C_drew ?_))); (case side2 => exact HC316_0.out); (case side3 => repeat (first | exact HR317_0.out | (with_reducible refine Kd.C_alloc ?_ _) | (with_reducible refine Kd.C_drewN ?_ _) | (with_reducible refine Kd.C_drew ?_))); (case side4 => exact HC317_0.out); rintro e w' ⟨rfl, ⟨nd, rfl⟩⟩; (try first | exact ⟨rfl, _, World.drewN_drewN _ _ _⟩ | exact ⟨rfl, _, Eq.trans (World.drewN_drewN _ _ _) (congrArg (World.drewN _) (Nat.add_assoc _ _ _))⟩))))
        go_ret
        exact ⟨by first | rfl | (simp; done) | (simp [*]; done), by repeat (first | exact Drawn0.refl _ | apply Drawn0.step)⟩
      ·rw [if_neg c6] at H
       exact absurd H (by simp)
     ·rw [if_neg c5] at H
      exact absurd H (by simp)
    ·rw [if_neg c4] at H
     have c4b0 : decide (x5_1 < (l0.length : Int)) = false := decide_eq_false c4
     clear c4
     obtain rfl := Option.some.inj H
     go_wp2
     repeat (go_quiet (fail); try go_wp2)
     go_ret
     exact ⟨by first | rfl | (simp; done) | (simp [*]; done), by repeat (first | exact Drawn0.refl _ | apply Drawn0.step)⟩
 ·rw [if_neg c3] at H
  have c3b0 : ((l0.length : Int) == (l1.length : Int)) = false := beq_eq_false_iff_ne.mpr c3
  have c3b1 : ((l0.length : Int) != (l1.length : Int)) = true := bne_iff_ne.mpr c3
  have c3b2 : (l0.length == l1.length) = false := by first | simpa using c3 | (simp at c3 ⊢; omega)
  obtain rfl := Option.some.inj H
  go_enter Try.func13, Try.ntmps13
  go_wp2
  repeat (go_quiet (fail); try go_wp2)
  go_ret
  exact ⟨by first | rfl | (simp; done) | (simp [*]; done), by repeat (first | exact Drawn0.refl _ | apply Drawn0.step)⟩

def zlH.l0 : Nat → List Int → Int → Int → Option (Int × List Int)
 | 0, _, _, _ => none
 | k + 1, x0, x1, x5 => if x5 < (x0.length : Int) then (if 0 ≤ x5 then (zlH.l0 k (x0.set (x5 : Int).toNat x1) (wrap64 (x1 + 1)) (wrap64 (x5 + 1))) else (none)) else (some (x1, x0))
def zlH.f (k : Nat) (l0 : List Int) (a1 : Int) : Option (Int × List Int) := zlH.l0 k l0 a1 0
theorem zlH.mono_l : ∀ k, (∀ y0 y1 y2, LeO (zlH.l0 k y0 y1 y2) (zlH.l0 (k + 1) y0 y1 y2))
 | 0 => fun _ _ _ r h => by simp [zlH.l0] at h
 | k + 1 => by
  have ih0 := zlH.mono_l k
  ·intro y0 y1 y2
   unfold zlH.l0
   repeat' first
   | (with_reducible exact ih0 _ _ _)
   | (with_reducible exact LeO.refl _)
   | (with_reducible exact LeO.none _)
   | (with_reducible refine LeO.ite ?_ ?_)
   | (with_reducible refine LeO.bind ?_ (fun _ => ?_))
   | exact ih0 _ _ _
   | exact LeO.none _
   | refine LeO.ite ?_ ?_
   | refine LeO.bind ?_ (fun _ => ?_)
theorem zlH.mono : ∀ a0 a1 k, LeO (zlH.f k a0 a1) (zlH.f (k + 1) a0 a1) := by
 intro a0 a1 k
 have ih0 := zlH.mono_l k
 unfold zlH.f
 repeat' first
   | (with_reducible exact ih0 _ _ _)
   | (with_reducible exact LeO.refl _)
   | (with_reducible exact LeO.none _)
   | (with_reducible refine LeO.ite ?_ ?_)
   | (with_reducible refine LeO.bind ?_ (fun _ => ?_))
   | exact ih0 _ _ _
   | exact LeO.none _
   | refine LeO.ite ?_ ?_
   | refine LeO.bind ?_ (fun _ => ?_)
set_option maxHeartbeats 8000000 in
set_option maxRecDepth 100000 in
theorem zlH.calls (k : Nat) (P0_ : Nat → Prop) (u9000_ : Value) (l0 : List Int) (a1 : Int) (r1 : Int) (r2 : List Int) (w0 w : World) (hB : Below w0.heap.size w0 w) (ho0 : Kd.R (Kd.int .i64) 2 w w0.heap.size P0_ u9000_ l0) (h : zlH.f k l0 a1 = some (r1, r2)) :
  Calls Try.prog 15 #[u9000_, .int .i64 a1] w fun e w' => e = .returned (.int .i64 r1) ∧ Kd.R (Kd.int .i64) 2 w' w0.heap.size (fun k_ => (P0_ k_ ∨ w.heap.size ≤ k_)) u9000_ r2 ∧ Below w0.heap.size w0 w' ∧ Kept w w' (fun k_ => P0_ k_) := by
 have HO0 := zpS (show Kd.R (Kd.int .i64) 2 w w0.heap.size (fun k_ => (P0_ k_ ∨ w.heap.size ≤ k_)) u9000_ l0 from Kd.R_mono ho0 (fun k_ hk => (.inl hk)))
 have HK := zpS (Kept.refl w (fun k_ => P0_ k_))
 have HW0 := zpS hB.size
 have HB := zpS hB
 clear hB
 have H : (zlH.l0 k l0 a1 0) = some (r1, r2) := h
 clear h
 have H' := zpS H
 clear H
 go_enter Try.func15, Try.ntmps15
 go_wp2
 (try go_simp)
 go_loopg [1, 5] k (fun kq v1 v5 w' => ∃ (x0_1 : List Int) (x1_1 : Int) (x5_1 : Int), v1 = .int .i64 x1_1 ∧ v5 = .int .i64 x5_1 ∧ Aside0 (zlH.l0 kq x0_1 x1_1 x5_1 = some (r1, r2)) ∧ Aside0 (kq ≤ k) ∧ Aside0 (Kd.R (Kd.int .i64) 2 w' w0.heap.size (fun k_ => (P0_ k_ ∨ w.heap.size ≤ k_)) u9000_ x0_1) ∧ Aside0 (Kept w w' (fun k_ => P0_ k_)) ∧ Aside0 (Below w0.heap.size w0 w'))
 case atStart => exact ⟨(l0), (a1), (0), (by first | rfl | (simp; done) | (simp [*]; done)), (by first | rfl | (simp; done) | (simp [*]; done)), H', ⟨Nat.le_refl _⟩, ⟨by (with_reducible repeat (first | apply Kd.R_alloc | apply Kd.R_drewN | apply Kd.R_drew)); exact HO0.out⟩, ⟨by repeat (first | (with_reducible first | exact HK.out | apply Kept.alloc | apply Kept.drewN | apply Kept.drew) | exact HK.out)⟩, ⟨bb_⟩⟩
 case round =>
  clear H'
  try clear c1
  try clear p2
  obtain ⟨x0_1, x1_1, x5_1, rfl, rfl, HA, HK1, HO_0, HK, HB⟩ := hrel
  cases gk with
  | zero => exact absurd HA.out (by simp [zlH.l0])
  | succ k1 =>
   have H := HA.out
   clear HA
   simp only [zlH.l0] at H
   by_cases c3 : x5_1 < (x0_1.length : Int)
   ·rw [if_pos c3] at H
    have c3b0 : decide (x5_1 < (x0_1.length : Int)) = true := decide_eq_true c3
    clear c3
    by_cases c4 : 0 ≤ x5_1
    ·rw [if_pos c4] at H
     have c4b0 : decide (0 ≤ x5_1) = true := decide_eq_true c4
     clear c4
     obtain ⟨y319, hy319⟩ : ∃ y_ : List Int, y_ = (x0_1.set (x5_1 : Int).toNat x1_1) := ⟨_, rfl⟩
     replace H : (zlH.l0 k1 y319 (wrap64 (x1_1 + 1)) (wrap64 (x5_1 + 1))) = some (r1, r2) := by first | (rw [hy319]; with_reducible exact H) | (have H2_ := (Option.bind_some _ _).symm.trans H; rw [hy319]; with_reducible exact H2_) | (have H2_ := (Option.bind_some _ _).symm.trans H; with_reducible exact H2_) | with_reducible exact H | (rw [hy319]; exact H) | exact H
     have Ny319 := zpS hy319
     clear hy319
     have H' := zpS H
     clear H
     obtain ⟨Ao6, co6, eo6⟩ := Kd.R_slice HO_0.out
     subst eo6
     have p5 : 0 ≤ (x5_1 : Int) := of_decide_eq_true (by first | (with_reducible assumption) | assumption)
     have q5 : (x5_1 : Int) < ((x0_1.length : Int) : Int) := of_decide_eq_true (by first | (with_reducible assumption) | assumption)
     obtain ⟨go5, co5, eo5, gb5, gl5, cl5, HG5⟩ := Kd.R_form HO_0.out (by omega)
     (first | cases eo5 | (injection eo5 with ea_ en_ ec_; (first | subst ea_ | (injection ea_ with ea_; subst ea_)); subst ec_; clear en_))
     have GB5 := zpS gb5
     have GG5 := zpS HG5
     clear gb5 gl5 HG5
     have HMgo5 := zpS (show (P0_ go5 ∨ w.heap.size ≤ go5) from (HO_0.out.1 _ rfl))
     obtain ⟨hx5_0, hf5_0⟩ := Kd.R_celln 0 HO_0.out (x5_1 : Int) p5 q5
     replace p5 := eq_true p5
     replace q5 := eq_true q5
     have HP7 := Kd.R_putg HO_0.out (x5_1 : Int) x1_1
     go_wp2_with (first | ((with_reducible refine gate_store (t := 2) (p := 15) rfl ?_); refine store_event (t := 2) (p := 15) (v := ?vo_w8) (w1 := (wr.setCell ⟨go5, (x5_1 : Int).toNat, none⟩ (.int .i64 x1_1))) ?hg ?ho ?hn ?hr ?_; (case ho => rfl); (case hg => rfl); (case hn => rfl); (case hr => first | (go_simp; done) | (go_simp; rfl)); intro w8 hw; have hg : wr.grownBy w8 (some go5) := (by rw [hw]; exact HP7.2); have hp_ : Kd.R (Kd.int .i64) 2 w8 w0.heap.size (fun k_ => (P0_ k_ ∨ w.heap.size ≤ k_)) (.slice (some ⟨go5, 0, none⟩) x0_1.length co6) y319 := (by rw [hw, Ny319.out]; exact HP7.1); clear HP7; have n0_ := zpS (hp_); have n1_ := zpS ((by rw [hw]; exact below_set (HB.out) GB5.out : Below w0.heap.size w0 w8)); have n2_ := zpS (Kept.of_grown (S := (fun k_ => P0_ k_)) hg (by repeat (first | (with_reducible first | exact HK.out | apply Kept.alloc | apply Kept.drewN | apply Kept.drew) | exact HK.out)) (fun k_ e_ => (HO_0.out.1 k_ e_))); clear HO_0; clear HB; clear HK; have HO_0 := n0_; have HB := n1_; have HK := n2_; clear n0_ n1_ n2_; clear hg hw hp_))
     go_roundg k1
     case measure => have := HK1.out; omega
     case rel => exact ⟨(y319), (wrap64 (x1_1 + 1)), (wrap64 (x5_1 + 1)), (by first | rfl | (simp; done) | (simp [*]; done)), (by first | rfl | (simp; done) | (simp [*]; done)), H', ⟨by have := HK1.out; omega⟩, ⟨by (with_reducible repeat (first | apply Kd.R_alloc | apply Kd.R_drewN | apply Kd.R_drew)); exact HO_0.out⟩, ⟨by repeat (first | (with_reducible first | exact HK.out | apply Kept.alloc | apply Kept.drewN | apply Kept.drew) | exact HK.out)⟩, ⟨bb_⟩⟩
    ·rw [if_neg c4] at H
     exact absurd H (by simp)
   ·rw [if_neg c3] at H
    have c3b0 : decide (x5_1 < (x0_1.length : Int)) = false := decide_eq_false c3
    clear c3
    simp only [Option.some.injEq, Prod.mk.injEq] at H
    obtain ⟨rfl, rfl⟩ := H
    obtain ⟨Ao9, co9, eo9⟩ := Kd.R_slice HO_0.out
    subst eo9
    go_wp2
    go_ret
    exact ⟨by first | rfl | (simp [ziS, znJ] <;> rfl) | (simp [*, ziS, znJ] <;> rfl), by (with_reducible repeat (first | apply Kd.R_alloc | apply Kd.R_drewN | apply Kd.R_drew)); exact HO_0.out, bb_, by repeat (first | (with_reducible first | exact HK.out | apply Kept.alloc | apply Kept.drewN | apply Kept.drew) | exact HK.out)⟩

def zeR.f (k : Nat) : List (List Int) → Int → Option (Int × List (List Int))
 | [], m => some (m, [])
 | r :: rs, m => (zlH.f k r m).bind fun a => (zeR.f k rs a.1).bind fun b => some (b.1, a.2 :: b.2)
theorem zeR.mono : ∀ a0 a1 k, LeO (zeR.f k a0 a1) (zeR.f (k + 1) a0 a1)
 | [], _, _ => LeO.refl _
 | r :: rs, m, k => LeO.bind (zlH.mono r m k) (fun a => LeO.bind (zeR.mono rs a.1 k) (fun _ => LeO.refl _))
set_option maxHeartbeats 8000000 in
set_option maxRecDepth 100000 in
theorem zeR.calls (k : Nat) (ok : Nat → Prop) (v : Value) (rows : List (List Int)) (m r1 : Int) (r2 : List (List Int)) (w0 w : World) (hB : Below w0.heap.size w0 w) (hS : Kd.S (Kd.slice 2 (Kd.int .i64)) 22 w w0.heap.size ok v rows) (h : zeR.f k rows m = some (r1, r2)) :
  Calls Try.prog 16 #[v, .int .i64 m] w fun e w' => e = .returned (.int .i64 r1) ∧ Kd.S (Kd.slice 2 (Kd.int .i64)) 22 w' w0.heap.size ok v r2 ∧ Below w0.heap.size w0 w' ∧ Kept w w' ok := by
 obtain ⟨A, c, rfl⟩ := Kd.S_slice hS
 have hmx := (Kd.S_reads' hS).2.2.2.1
 obtain ⟨N, hN⟩ : ∃ N, N = rows.length := ⟨_, rfl⟩
 rw [← hN] at hS ⊢
 have HB := zpS hB
 have HS := zpS hS
 have H' := zpS h
 have HN := zpS hN
 have HMX := zpS hmx
 clear hB hS h hN hmx
 go_enter Try.func16, Try.ntmps16
 go_wp2
 go_loopg [1, 5] N (fun kq v1 v5 w' => ∃ (x : Int) (i : Nat) (done todo rest : List (List Int)), v1 = .int .i64 x ∧ v5 = .int .i64 i ∧ Aside0 (zeR.f k todo x = some (r1, rest)) ∧ Aside0 (r2 = done ++ rest) ∧ Aside0 (done.length = i) ∧ Aside0 (i + todo.length = N) ∧ Aside0 (kq + i = N) ∧ Aside0 (Below w0.heap.size w0 w') ∧ Aside0 (Kept w w' ok) ∧ Aside0 (Kd.S (Kd.slice 2 (Kd.int .i64)) 22 w' w0.heap.size ok (.slice A N c) (done ++ todo)))
 case atStart => exact ⟨m, 0, [], rows, r2, rfl, rfl, H', ⟨rfl⟩, ⟨rfl⟩, ⟨by have := HN.out; omega⟩, ⟨rfl⟩, HB, ⟨Kept.refl _ _⟩, HS⟩
 case round =>
  clear H' HB HS
  obtain ⟨x, i, dn, todo, rest, rfl, rfl, HA, HR, HD, HT, HK, HB, HKP, HS⟩ := hrel
  have hnn : N ≤ 9223372036854775807 := by have := HN.out; have := HMX.out; omega
  cases todo with
  | nil =>
   have hT := HT.out
   rw [List.length_nil, Nat.add_zero] at hT
   have hlt : ¬ i < N := by omega
   have c1 : decide ((i : Int) < (N : Int)) = false := decide_eq_false (by omega)
   have hA := HA.out
   simp only [zeR.f, Option.some.injEq, Prod.mk.injEq] at hA
   obtain ⟨rfl, rfl⟩ := hA
   have HS2 := zpS (show Kd.S (Kd.slice 2 (Kd.int .i64)) 22 _ w0.heap.size ok (.slice A N c) r2 from by rw [HR.out]; exact HS.out)
   clear HA hT
   go_wp2
   go_ret
   exact ⟨rfl, HS2.out, HB.out, HKP.out⟩
  | cons r rs =>
   have hT := HT.out
   rw [List.length_cons] at hT
   obtain ⟨d, rfl⟩ : ∃ d, gk = d + 1 := ⟨gk - 1, by have := HK.out; omega⟩
   have hA := HA.out
   simp only [zeR.f] at hA
   obtain ⟨⟨x2, r'⟩, A10, hA⟩ := Option.bind_eq_some_iff.mp hA
   obtain ⟨⟨y1, rest'⟩, A20, hA⟩ := Option.bind_eq_some_iff.mp hA
   simp only [Option.some.injEq, Prod.mk.injEq] at hA
   obtain ⟨rfl, rfl⟩ := hA
   have A1 := zpS A10
   have A2 := zpS A20
   clear A10 A20 HA
   have hD := HD.out
   obtain ⟨g, cap, ev, hge, hgl, cells, hcl0⟩ := Kd.S_form HS.out (by rw [List.length_append, List.length_cons]; omega)
   have el : (dn ++ r :: rs).length = N := by rw [List.length_append, List.length_cons]; omega
   rw [el] at ev
   obtain ⟨rfl, rfl⟩ : A = some ⟨g, 0, none⟩ ∧ c = cap := by cases ev; exact ⟨rfl, rfl⟩
   clear ev hge hgl hcl0
   obtain ⟨oki, c1, hcl, hM, hcc, hoki, hback⟩ := Kd.S_borrow HS.out [] (i : Int) (by omega) (by omega)
   have eg : (dn ++ r :: rs).getD (i : Int).toNat [] = r := by
    rw [Int.toNat_natCast, List.getD_eq_getElem?_getD, List.getElem?_append_right (by omega), hD, Nat.sub_self]
    rfl
   rw [eg] at hM
   obtain ⟨vi, rfl, hRi⟩ := hM
   obtain ⟨Ai, ci, rfl⟩ := Kd.R_slice hRi
   have hx := hcc 0 _ rfl
   rw [Int.toNat_natCast] at hx
   have e1 : (Kd.slice 2 (Kd.int .i64)).sz = 1 := rfl
   rw [e1, Nat.mul_one, Nat.add_zero, add_plain] at hx
   have es : (dn ++ r :: rs).set (i : Int).toNat r' = (dn ++ [r']) ++ rs := by
    rw [Int.toNat_natCast, List.set_append_right _ _ (by omega), hD, Nat.sub_self]
    simp
   have HRI := zpS hRi
   have HOK := zpS (fun k_ h_ => (hoki k_ h_).1)
   have HBK := zpS (fun (w1 : World) (row : Option Nat) (h1 : World.grownBy _ w1 row) (h2 : ∀ k, row = some k → oki k) (h3 : (Kd.slice 2 (Kd.int .i64)).M w1 w0.heap.size oki r' [Value.slice Ai r.length ci]) => hback h1 h2 h3)
   rw [es] at HBK
   clear hRi hback hcc hcl hoki eg es el
   have hlt : i < N := by omega
   have c1 : decide ((i : Int) < (N : Int)) = true := decide_eq_true (by omega)
   have c2 : decide (0 ≤ (i : Int)) = true := decide_eq_true (by omega)
   have hiN : (i : Int) ≤ 9223372036854775806 := by omega
   clear hT hnn
   go_wp2_with (first | (go_at_call 15; (with_reducible refine (zlH.calls k (fun k_ => some k_ = (Value.slice Ai r.length ci).ownBlock) _ r x x2 r' w0 _ ?hB ?hR A1.out).mono ?_); (case hB => exact HB.out); (case hR => exact Kd.R_tight rfl HRI.out); rintro e wq ⟨rfl, hq1, hq2, hq3⟩; have n0_ := zpS (HBK.out wq (Value.slice Ai r.length ci).ownBlock ⟨hq2.os.trans HB.out.os.symm, hq2.tape.trans HB.out.tape.symm, hq2.output.trans HB.out.output.symm, hq3.1, fun k_ hk_ hne_ => hq3.2 k_ hk_ hne_⟩ (fun k_ e_ => HRI.out.1 k_ e_) ⟨_, rfl, Kd.R_mono (Kd.R_tight rfl hq1) (fun k_ e_ => HRI.out.1 k_ e_.symm)⟩); have n1_ := zpS hq2; have n2_ := zpS (Kept.then_ HKP.out hq3 (fun k_ e_ => .inl (HOK.out k_ (HRI.out.1 k_ e_.symm)))); clear HB HS HBK HRI HOK HKP hq1 hq2 hq3; have HB := n1_; have HS := n0_; have HKP := n2_; clear n0_ n1_ n2_))
   go_roundg d
   case measure => omega
   case rel => exact ⟨x2, i + 1, dn ++ [r'], rs, rest', rfl, by (try rw [wrap64]); go_num, A2, ⟨by have := HR.out; rw [this]; simp⟩, ⟨by rw [List.length_append, List.length_singleton, hD]⟩, ⟨by have := HT.out; rw [List.length_cons] at this; omega⟩, ⟨by have := HK.out; omega⟩, HB, HKP, HS⟩

end Go.Proofs.Ytbpkbllokmplnaa.PFnExactAssignmentsOf
