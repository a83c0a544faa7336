-- Printed for this claim by this session's program pp.py, which drives the kit's print with additions. Not trusted: Lean checks it.
import Derived.Test.YtbpkbllokmplnaaV2PFnVertexCountx0
import Derived.Test.YtbpkbllokmplnaaV2PFnVertexCountx1
import Derived.Test.YtbpkbllokmplnaaV2PFnVertexCountx2
import Derived.Test.YtbpkbllokmplnaaV2PFnVertexCountx4
namespace Go.Proofs.Ytbpkbllokmplnaa.PFnVertexCount
open Go.RowKit Go.Proofs.YtbpkbllokmplnaaW.PrintWords Go.Proofs.YtbpkbllokmplnaaW.PrintLast Go.Proofs.YtbpkbllokmplnaaW.PrintMore
attribute [local go_sem] max2_int min2_int max_two min_two znE zuB max_four min_four   -- for this text's walks alone
set_option linter.unusedVariables false
set_option linter.unusedSimpArgs false

def zsK.l0 : Nat → List Int → List Int → Option (Bool)
 | 0, _, _ => none
 | k + 1, x0, x1 => (zzB.f k x0 x1).bind fun bt192 => (if bt192.2.2 = 6 then ((zyZ.f k x1).bind fun t199 => (some (t199 == 2))) else (if bt192.2.2 = 8 then (some false) else (zsK.l0 k bt192.1 bt192.2.1)))
def zsK.f (k : Nat) (l0 : List Int) (l1 : List Int) : Option (Bool) := zsK.l0 k l0 l1
theorem zsK.mono_l : ∀ k, (∀ y0 y1, LeO (zsK.l0 k y0 y1) (zsK.l0 (k + 1) y0 y1))
 | 0 => fun _ _ r h => by simp [zsK.l0] at h
 | k + 1 => by
  have ih0 := zsK.mono_l k
  ·intro y0 y1
   unfold zsK.l0
   repeat' first
   | (with_reducible exact ih0 _ _)
   | (with_reducible exact zzB.mono _ _ _)
   | (with_reducible exact zyZ.mono _ _)
   | (with_reducible exact LeO.refl _)
   | (with_reducible exact LeO.none _)
   | (with_reducible refine LeO.ite ?_ ?_)
   | (with_reducible refine LeO.bind ?_ (fun _ => ?_))
   | exact ih0 _ _
   | exact zzB.mono _ _ _
   | exact zyZ.mono _ _
   | exact LeO.none _
   | refine LeO.ite ?_ ?_
   | refine LeO.bind ?_ (fun _ => ?_)
theorem zsK.mono : ∀ a0 a1 k, LeO (zsK.f k a0 a1) (zsK.f (k + 1) a0 a1) := by
 intro a0 a1 k
 have ih0 := zsK.mono_l k
 unfold zsK.f
 repeat' first
   | (with_reducible exact ih0 _ _)
   | (with_reducible exact zzB.mono _ _ _)
   | (with_reducible exact zyZ.mono _ _)
   | (with_reducible exact LeO.refl _)
   | (with_reducible exact LeO.none _)
   | (with_reducible refine LeO.ite ?_ ?_)
   | (with_reducible refine LeO.bind ?_ (fun _ => ?_))
   | exact ih0 _ _
   | exact zzB.mono _ _ _
   | exact zyZ.mono _ _
   | exact LeO.none _
   | refine LeO.ite ?_ ?_
   | refine LeO.bind ?_ (fun _ => ?_)
set_option maxHeartbeats 8000000 in
set_option maxRecDepth 100000 in
theorem zsK.calls (k : Nat) (P0_ : Nat → Prop) (A0 : Option Addr) (c0 : Nat) (l0 : List Int) (P1_ : Nat → Prop) (A1 : Option Addr) (c1 : Nat) (l1 : List Int) (r : Bool) (w : World) (hs0 : Kd.V (Kd.int .i64) 2 w w.heap.size (fun k_ => P0_ k_) (.slice A0 l0.length c0) l0) (hs1 : Kd.V (Kd.int .i64) 2 w w.heap.size (fun k_ => P1_ k_) (.slice A1 l1.length c1) l1) (h : zsK.f k l0 l1 = some r) :
  Calls Try.prog 57 #[.slice A0 l0.length c0, .slice A1 l1.length c1] w fun e w' => e = .returned (.bool r) ∧ Below w.heap.size w w' := by
 have HO0 := zpS (show Kd.V (Kd.int .i64) 2 w w.heap.size (fun k_ => ((P0_ k_ ∨ P1_ k_) ∨ w.heap.size ≤ k_)) (.slice A0 l0.length c0) l0 from Kd.V_mono hs0 (fun k_ hk => .inl (.inl hk)))
 have HO1 := zpS (show Kd.V (Kd.int .i64) 2 w w.heap.size (fun k_ => ((P0_ k_ ∨ P1_ k_) ∨ w.heap.size ≤ k_)) (.slice A1 l1.length c1) l1 from Kd.V_mono hs1 (fun k_ hk => .inl (.inr hk)))
 have HB := zpS (Below.refl w.heap.size w)
 have H : (zsK.l0 k l0 l1) = some r := h
 clear h
 have H' := zpS H
 clear H
 go_enter Try.func57, Try.ntmps57
 go_wp2
 (try go_simp)
 go_loopg [0, 1] k (fun kq v0 v1 w' => ∃ (x0_1 : List Int) (x1_1 : List Int), Aside0 (zsK.l0 kq x0_1 x1_1 = some r) ∧ Aside0 (kq ≤ k) ∧ Aside0 (Kd.V (Kd.int .i64) 2 w' w.heap.size (fun k_ => ((P0_ k_ ∨ P1_ k_) ∨ w.heap.size ≤ k_)) v0 x0_1) ∧ Aside0 (Kd.V (Kd.int .i64) 2 w' w.heap.size (fun k_ => ((P0_ k_ ∨ P1_ k_) ∨ w.heap.size ≤ k_)) v1 x1_1) ∧ Aside0 (Below w.heap.size w w'))
 case atStart => exact ⟨(l0), (l1), H', ⟨Nat.le_refl _⟩, ⟨by (with_reducible repeat (first | apply Kd.V_alloc | apply Kd.V_drewN | apply Kd.V_drew)); exact HO0.out⟩, ⟨by (with_reducible repeat (first | apply Kd.V_alloc | apply Kd.V_drewN | apply Kd.V_drew)); exact HO1.out⟩, ⟨bb_⟩⟩
 case round =>
  clear H'
  try clear c1
  try clear p2
  obtain ⟨x0_1, x1_1, HA, HK1, HO_0, HO_1, HB⟩ := hrel
  cases gk with
  | zero => exact absurd HA.out (by simp [zsK.l0])
  | succ k1 =>
   have H := HA.out
   clear HA
   simp only [zsK.l0] at H
   replace H := Option.bind_eq_some_iff.mp H
   obtain ⟨⟨t192, t193, t194⟩, A30, H⟩ := H
   replace H : (if t194 = 6 then ((zyZ.f k1 x1_1).bind fun t199 => (some (t199 == 2))) else (if t194 = 8 then (some false) else (zsK.l0 k1 t192 t193))) = some r := H
   have A3 := zpS A30
   clear A30
   by_cases c4 : t194 = 6
   ·rw [if_pos c4] at H
    have c4b0 : (t194 == 6) = true := beq_iff_eq.mpr c4
    have c4b1 : (t194 != 6) = false := bne_eq_false_iff_eq.mpr c4
    clear c4
    replace H := Option.bind_eq_some_iff.mp H
    obtain ⟨t199, A50, H⟩ := H
    replace H : (some (t199 == 2)) = some r := H
    have A5 := zpS A50
    clear A50
    obtain rfl := Option.some.inj H
    obtain ⟨Ao6, co6, eo6⟩ := Kd.V_slice HO_0.out
    subst eo6
    obtain ⟨Ao7, co7, eo7⟩ := Kd.V_slice HO_1.out
    subst eo7
    go_wp2_with (first | ((with_reducible refine zgL (f := 59) rfl ?_); refine zqQ (some 11) rfl rfl Try.func59 (by kernel_rfl) rfl #[.slice Ao6 x0_1.length co6, .slice Ao7 x1_1.length co7] rfl (by (try simp only [List.map_toArray, List.map_cons, List.map_nil]); first | done | rfl | (simp only [List.length_drop, List.length_take]; rfl)) ?_; (with_reducible refine (zzB.calls k1 _ _ x0_1 _ _ x1_1 t192 t193 t194 _ ?side1 ?side2 ?side3 ?side4 A3.out).mono ?_); (case side1 => repeat (first | exact (Kd.V_reads' HO_0.out).2.2 | (with_reducible refine Kd.C_alloc ?_ _) | (with_reducible refine Kd.C_drewN ?_ _) | (with_reducible refine Kd.C_drew ?_))); (case side2 => exact (Kd.V_reads' HO_0.out).2.1); (case side3 => repeat (first | exact (Kd.V_reads' HO_1.out).2.2 | (with_reducible refine Kd.C_alloc ?_ _) | (with_reducible refine Kd.C_drewN ?_ _) | (with_reducible refine Kd.C_drew ?_))); (case side4 => exact (Kd.V_reads' HO_1.out).2.1); rintro e w8 ⟨v195, v197, rfl, ho0, ho1, hb⟩; refine ⟨_, rfl, ?_⟩; have n0_ := zpS (Kd.V_mono (Kd.V_told (Kd.V_told (Kd.V_old (by (with_reducible repeat (first | apply Kd.V_alloc | apply Kd.V_drewN | apply Kd.V_drew)); exact HO_0.out) hb) (Kd.R_base ho0)) (Kd.R_base ho1)) (fun _ h_ => h_.1)); have n1_ := zpS (Kd.V_mono (Kd.V_told (Kd.V_told (Kd.V_old (by (with_reducible repeat (first | apply Kd.V_alloc | apply Kd.V_drewN | apply Kd.V_drew)); exact HO_1.out) hb) (Kd.R_base ho0)) (Kd.R_base ho1)) (fun _ h_ => h_.1)); have n2_ := zpS (Kd.R_lower (Kd.R_newM (M := fun k_ => (w.heap.size ≤ k_)) ho0 (zuA bb_) (fun k_ h_ => h_)) (zuA bb_)); have n3_ := zpS (Kd.R_lower (Kd.R_newM (M := fun k_ => (w.heap.size ≤ k_)) ho1 (zuA bb_) (fun k_ h_ => h_)) (zuA bb_)); have n4_ := (ns_ hb); clear HO_0; clear HO_1; clear HB; have HO_0 := n0_; have HO_1 := n1_; have HO196 := n2_; have HO198 := n3_; have HB := n4_; clear n0_ n1_ n2_ n3_ n4_; (try clear hb); (try clear hb2); (try clear ho0); (try clear ho1)) | ((with_reducible refine zgL (f := 91) rfl ?_); refine zqQ (some 19) rfl rfl Try.func91 (by kernel_rfl) rfl #[.slice Ao7 x1_1.length co7] rfl (by (try simp only [List.map_toArray, List.map_cons, List.map_nil]); first | done | rfl | (simp only [List.length_drop, List.length_take]; rfl)) ?_; (with_reducible refine (zyZ.calls k1 _ _ x1_1 t199 _ ?side1 ?side2 A5.out).mono ?_); (case side1 => repeat (first | exact (Kd.V_reads' HO_1.out).2.2 | (with_reducible refine Kd.C_alloc ?_ _) | (with_reducible refine Kd.C_drewN ?_ _) | (with_reducible refine Kd.C_drew ?_))); (case side2 => exact (Kd.V_reads' HO_1.out).2.1); rintro e w9 ⟨rfl, hb⟩; refine ⟨_, rfl, ?_⟩; have n0_ := zpS (Kd.V_below (by (with_reducible repeat (first | apply Kd.V_alloc | apply Kd.V_drewN | apply Kd.V_drew)); exact HO_0.out) hb); have n1_ := zpS (Kd.V_below (by (with_reducible repeat (first | apply Kd.V_alloc | apply Kd.V_drewN | apply Kd.V_drew)); exact HO_1.out) hb); have n2_ := zpS (Kd.R_below (by (with_reducible repeat (first | apply Kd.R_alloc | apply Kd.R_drewN | apply Kd.R_drew)); exact HO196.out) hb); have n3_ := zpS (Kd.R_below (by (with_reducible repeat (first | apply Kd.R_alloc | apply Kd.R_drewN | apply Kd.R_drew)); exact HO198.out) hb); have n4_ := (ns_ hb); clear HO_0; clear HO_1; clear HO196; clear HO198; clear HB; have HO_0 := n0_; have HO_1 := n1_; have HO196 := n2_; have HO198 := n3_; have HB := n4_; clear n0_ n1_ n2_ n3_ n4_; (try clear hb); (try clear hb2)))
    go_ret
    exact ⟨by first | rfl | (simp [ziS, znJ] <;> rfl) | (simp [*, ziS, znJ] <;> rfl), bb_⟩
   ·rw [if_neg c4] at H
    have c4b0 : (t194 == 6) = false := beq_eq_false_iff_ne.mpr c4
    have c4b1 : (t194 != 6) = true := bne_iff_ne.mpr c4
    by_cases c10 : t194 = 8
    ·rw [if_pos c10] at H
     have c10b0 : (t194 == 8) = true := beq_iff_eq.mpr c10
     have c10b1 : (t194 != 8) = false := bne_eq_false_iff_eq.mpr c10
     clear c10
     obtain rfl := Option.some.inj H
     obtain ⟨Ao11, co11, eo11⟩ := Kd.V_slice HO_0.out
     subst eo11
     obtain ⟨Ao12, co12, eo12⟩ := Kd.V_slice HO_1.out
     subst eo12
     go_wp2_with (first | ((with_reducible refine zgL (f := 59) rfl ?_); refine zqQ (some 11) rfl rfl Try.func59 (by kernel_rfl) rfl #[.slice Ao11 x0_1.length co11, .slice Ao12 x1_1.length co12] rfl (by (try simp only [List.map_toArray, List.map_cons, List.map_nil]); first | done | rfl | (simp only [List.length_drop, List.length_take]; rfl)) ?_; (with_reducible refine (zzB.calls k1 _ _ x0_1 _ _ x1_1 t192 t193 t194 _ ?side1 ?side2 ?side3 ?side4 A3.out).mono ?_); (case side1 => repeat (first | exact (Kd.V_reads' HO_0.out).2.2 | (with_reducible refine Kd.C_alloc ?_ _) | (with_reducible refine Kd.C_drewN ?_ _) | (with_reducible refine Kd.C_drew ?_))); (case side2 => exact (Kd.V_reads' HO_0.out).2.1); (case side3 => repeat (first | exact (Kd.V_reads' HO_1.out).2.2 | (with_reducible refine Kd.C_alloc ?_ _) | (with_reducible refine Kd.C_drewN ?_ _) | (with_reducible refine Kd.C_drew ?_))); (case side4 => exact (Kd.V_reads' HO_1.out).2.1); rintro e w13 ⟨v195, v197, rfl, ho0, ho1, hb⟩; refine ⟨_, rfl, ?_⟩; have n0_ := zpS (Kd.V_mono (Kd.V_told (Kd.V_told (Kd.V_old (by (with_reducible repeat (first | apply Kd.V_alloc | apply Kd.V_drewN | apply Kd.V_drew)); exact HO_0.out) hb) (Kd.R_base ho0)) (Kd.R_base ho1)) (fun _ h_ => h_.1)); have n1_ := zpS (Kd.V_mono (Kd.V_told (Kd.V_told (Kd.V_old (by (with_reducible repeat (first | apply Kd.V_alloc | apply Kd.V_drewN | apply Kd.V_drew)); exact HO_1.out) hb) (Kd.R_base ho0)) (Kd.R_base ho1)) (fun _ h_ => h_.1)); have n2_ := zpS (Kd.R_lower (Kd.R_newM (M := fun k_ => (w.heap.size ≤ k_)) ho0 (zuA bb_) (fun k_ h_ => h_)) (zuA bb_)); have n3_ := zpS (Kd.R_lower (Kd.R_newM (M := fun k_ => (w.heap.size ≤ k_)) ho1 (zuA bb_) (fun k_ h_ => h_)) (zuA bb_)); have n4_ := (ns_ hb); clear HO_0; clear HO_1; clear HB; have HO_0 := n0_; have HO_1 := n1_; have HO196 := n2_; have HO198 := n3_; have HB := n4_; clear n0_ n1_ n2_ n3_ n4_; (try clear hb); (try clear hb2); (try clear ho0); (try clear ho1)))
     go_ret
     exact ⟨by first | rfl | (simp [ziS, znJ] <;> rfl) | (simp [*, ziS, znJ] <;> rfl), bb_⟩
    ·rw [if_neg c10] at H
     have c10b0 : (t194 == 8) = false := beq_eq_false_iff_ne.mpr c10
     have c10b1 : (t194 != 8) = true := bne_iff_ne.mpr c10
     have H' := zpS H
     clear H
     obtain ⟨Ao14, co14, eo14⟩ := Kd.V_slice HO_0.out
     subst eo14
     obtain ⟨Ao15, co15, eo15⟩ := Kd.V_slice HO_1.out
     subst eo15
     go_wp2_with (first | ((with_reducible refine zgL (f := 59) rfl ?_); refine zqQ (some 11) rfl rfl Try.func59 (by kernel_rfl) rfl #[.slice Ao14 x0_1.length co14, .slice Ao15 x1_1.length co15] rfl (by (try simp only [List.map_toArray, List.map_cons, List.map_nil]); first | done | rfl | (simp only [List.length_drop, List.length_take]; rfl)) ?_; (with_reducible refine (zzB.calls k1 _ _ x0_1 _ _ x1_1 t192 t193 t194 _ ?side1 ?side2 ?side3 ?side4 A3.out).mono ?_); (case side1 => repeat (first | exact (Kd.V_reads' HO_0.out).2.2 | (with_reducible refine Kd.C_alloc ?_ _) | (with_reducible refine Kd.C_drewN ?_ _) | (with_reducible refine Kd.C_drew ?_))); (case side2 => exact (Kd.V_reads' HO_0.out).2.1); (case side3 => repeat (first | exact (Kd.V_reads' HO_1.out).2.2 | (with_reducible refine Kd.C_alloc ?_ _) | (with_reducible refine Kd.C_drewN ?_ _) | (with_reducible refine Kd.C_drew ?_))); (case side4 => exact (Kd.V_reads' HO_1.out).2.1); rintro e w16 ⟨v195, v197, rfl, ho0, ho1, hb⟩; refine ⟨_, rfl, ?_⟩; have n0_ := zpS (Kd.V_mono (Kd.V_told (Kd.V_told (Kd.V_old (by (with_reducible repeat (first | apply Kd.V_alloc | apply Kd.V_drewN | apply Kd.V_drew)); exact HO_0.out) hb) (Kd.R_base ho0)) (Kd.R_base ho1)) (fun _ h_ => h_.1)); have n1_ := zpS (Kd.V_mono (Kd.V_told (Kd.V_told (Kd.V_old (by (with_reducible repeat (first | apply Kd.V_alloc | apply Kd.V_drewN | apply Kd.V_drew)); exact HO_1.out) hb) (Kd.R_base ho0)) (Kd.R_base ho1)) (fun _ h_ => h_.1)); have n2_ := zpS (Kd.R_lower (Kd.R_newM (M := fun k_ => (w.heap.size ≤ k_)) ho0 (zuA bb_) (fun k_ h_ => h_)) (zuA bb_)); have n3_ := zpS (Kd.R_lower (Kd.R_newM (M := fun k_ => (w.heap.size ≤ k_)) ho1 (zuA bb_) (fun k_ h_ => h_)) (zuA bb_)); have n4_ := (ns_ hb); clear HO_0; clear HO_1; clear HB; have HO_0 := n0_; have HO_1 := n1_; have HO196 := n2_; have HO198 := n3_; have HB := n4_; clear n0_ n1_ n2_ n3_ n4_; (try clear hb); (try clear hb2); (try clear ho0); (try clear ho1)))
     go_roundg k1
     case measure => have := HK1.out; omega
     case rel => exact ⟨(t192), (t193), H', ⟨by have := HK1.out; omega⟩, ⟨Kd.V_mono (Kd.R_V (by (with_reducible repeat (first | apply Kd.R_alloc | apply Kd.R_drewN | apply Kd.R_drew)); exact Kd.R_mono HO196.out (fun _ hk => hk.1))) (fun k_ hk => by first | exact ⟨(.inr (hk.1)), hk.2⟩ | exact (.inr (hk)))⟩, ⟨Kd.V_mono (Kd.R_V (by (with_reducible repeat (first | apply Kd.R_alloc | apply Kd.R_drewN | apply Kd.R_drew)); exact Kd.R_mono HO198.out (fun _ hk => hk.1))) (fun k_ hk => by first | exact ⟨(.inr (hk.1)), hk.2⟩ | exact (.inr (hk)))⟩, ⟨bb_⟩⟩

set_option maxHeartbeats 8000000 in
set_option maxRecDepth 100000 in
theorem impl_AssignmentsOf_clo_calls (w W : World) (g s : Nat) (v : Value) (rows : List (List Int)) (A : Option Addr) (c n : Nat) (ks : List Int) (hkn : ks.length = n) (hB : Below w.heap.size w W) (hg : w.heap.size ≤ g) (hgs : g < s) (hs : s ≤ W.heap.size)
  (hb : W.heap[g]? = some (.cells #[v] 23 (0, 0))) (hS : Kd.S (Kd.slice 2 (Kd.int .i64)) 22 W w.heap.size (fun k => k ≠ g ∧ k < s) v rows) (hR : Kd.R (Kd.int .i64) 2 W s (fun _ => True) (.slice A n c) ks) (hl : rows.length ≤ 1048576) :
  Calls Try.prog 51 #[.slice A n c, .pointer (some ⟨g, 0, none⟩)] W fun e w' => (∃ v0, e = .returned v0) ∧ ∃ v', Below w.heap.size w w' ∧ w'.heap[g]? = some (.cells #[v'] 23 (0, 0)) ∧ Kd.S (Kd.slice 2 (Kd.int .i64)) 22 w' w.heap.size (fun k => k ≠ g) v' (rows ++ [ks]) := by
 subst hkn
 obtain ⟨Av, cv, rfl⟩ := Kd.S_slice hS
 have hc : W.cell? ⟨g, 0, none⟩ = some (.slice Av rows.length cv) := (zzS hb 0).trans rfl
 have hf := zjG hb 0
 have HB := zpS hB
 have BK := zpS hb
 have HS := zpS hS
 have HR := zpS hR
 have HG := zpS hg
 have HGS := zpS hgs
 have HSZ := zpS hs
 have HL := zpS hl
 have HOWN := zpS (Kd.S_R hS).1
 clear hB hb hS hR hg hgs hs hl
 go_enter Try.func51, Try.ntmps51
 go_wp2_with (first | ((with_reducible refine zcM (b := .append) (xs := #[.tmp 3, .tmp 5]) rfl ?_); at_builtin; refine Kd.S_append (Kd.slice 2 (Kd.int .i64)) (w0 := w) w.heap.size rfl (.tmp 3) (.tmp 5) 23 22 (.slice none 0 0) 24 rfl Try.underlying23 info22 rfl (by decide) (by omega) (.slice Av rows.length cv) rows ks [.slice A ks.length c] (fun k => k ≠ g) (fun k => s ≤ k) rfl rfl ?aP ?aK ?aF ?aO ?aB ?aS ?aL ?_; (case aP => exact Kd.M_row (Kd.R_mono (Kd.R_lower (Kd.R_bound HR.out) (Nat.le_of_lt (Nat.lt_of_le_of_lt HG.out HGS.out))) (fun _ hk => hk.2.1))); (case aK => exact fun k hk => ⟨fun e => by have := HGS.out; omega, fun e => by have := (HOWN.out k e.symm).2; omega⟩); (case aF => exact fun k hk e => by have := HGS.out; have := HSZ.out; omega); (case aO => exact Kd.S_mono HS.out (fun k hk => ⟨hk.1, by have := hk.2; omega⟩)); (case aB => exact HB.out); (case aS => exact zuA HB.out); (case aL => have := HL.out; omega); intro v1 w1 ho hb1 hgr hat; obtain ⟨A1, c1, rfl⟩ := Kd.S_slice ho; have n0_ := zpS (blk_grown BK.out hgr (fun e => (HOWN.out g e.symm).1 rfl)); have n1_ := zpS hb1; have n2_ := zpS ho; clear HB BK HS HR ho hb1 hgr hat; have HB := n1_; have BK := n0_; have HS := n2_; clear n0_ n1_ n2_; have hc1 : w1.cell? ⟨g, 0, none⟩ = some (.slice Av rows.length cv) := (zzS BK.out 0).trans rfl; have hf1 := zjG BK.out 0))
 exact bodyPost_end (v := .tuple #[]) (by simp [results, Try.results51, go_sem]) rfl ⟨⟨_, rfl⟩, zjF HB.out HG.out, ⟨_, blk_put BK.out 0 _ rfl, by have h_ := Kd.S_far HS.out (p := ⟨g, 0, none⟩) (fun _ hk => hk) (.slice A1 (rows ++ [ks]).length c1); rw [List.length_append] at h_; exact h_⟩⟩

def zuY (n b i : Nat) : Int := 2 + ((b / 2 ^ (n - 1 - i) % 2 : Nat) : Int)
def zbP (n b : Nat) : List Int := (List.range n).map (zuY n b)
def zbS (k : Nat) (l : List Int) : Nat → Nat → List (List Int) → Option (List (List Int))
 | 0, _, out => some out
 | d + 1, b, out => (zsK.f k l (zbP l.length b)).bind fun t => zbS k l d (b + 1) (if t = true then out ++ [zbP l.length b] else out)
theorem impl_AssignmentsOf_old {W : World} {b g : Nat} {v : Value} {xs : List (List Int)} {o : Obj} (h : Kd.S (Kd.slice 2 (Kd.int .i64)) 22 W b (fun k => k ≠ g) v xs) (hb : W.heap[g]? = some o) : ∃ s, g < s ∧ s ≤ W.heap.size ∧ Kd.S (Kd.slice 2 (Kd.int .i64)) 22 W b (fun k => k ≠ g ∧ k < s) v xs :=
 ⟨W.heap.size, blk_lt hb, Nat.le_refl _, Kd.S_old h (Below.refl _ _)⟩
def zyX (n b i : Nat) : List Int := (List.range i).map (zuY n b) ++ List.replicate (n - i) 0

theorem ziP (n b i : Nat) (h : i ≤ n) : (zyX n b i).length = n := by unfold zyX; simp; omega
theorem impl_AssignmentsOf_partK_zero (n b : Nat) : zyX n b 0 = List.replicate n 0 := by unfold zyX; simp
theorem impl_AssignmentsOf_partK_all (n b : Nat) : zyX n b n = zbP n b := by unfold zyX zbP; simp
theorem impl_AssignmentsOf_partK_set (n b i : Nat) (h : i < n) : (zyX n b i).set i (zuY n b i) = zyX n b (i + 1) := by
 unfold zyX
 rw [List.set_append_right _ _ (by simp), List.range_succ, List.map_append, show n - i = (n - (i + 1)) + 1 by omega, List.replicate_succ]
 simp
theorem zcE (n b : Nat) : (zbP n b).length = n := by unfold zbP; simp
theorem impl_AssignmentsOf_over_and (n : Int) : bits .and .i64 n 1 = n % 2 := by
 have h127 : (BitVec.ofInt 64 1).toNat = 2 ^ 1 - 1 := by decide
 have key : (BitVec.ofInt 64 n &&& BitVec.ofInt 64 1).toNat = (n % ((2 ^ 64 : Nat) : Int)).toNat % 2 ^ 1 := by
  rw [BitVec.toNat_and, BitVec.toNat_ofInt, h127, Nat.and_two_pow_sub_one_eq_mod]
 show IntKind.i64.wrap ((BitVec.ofInt 64 n &&& BitVec.ofInt 64 1).toNat : Nat) = n % 2
 rw [key, IntKind.wrap_i64]
 omega
theorem impl_AssignmentsOf_bit_eq (n b i : Nat) : wrap64 (2 + bits .and .i64 ((b : Int) / 2 ^ (n - 1 - i)) 1) = zuY n b i := by
 have e : (b : Int) / 2 ^ (n - 1 - i) = ((b / 2 ^ (n - 1 - i) : Nat) : Int) := by push_cast; rfl
 rw [e, impl_AssignmentsOf_over_and]
 unfold zuY wrap64
 omega
theorem zlE (k : Nat) (A0 : Option Addr) (c0 : Nat) (l0 : List Int) (A1 : Option Addr) (c1 n : Nat) (l1 : List Int) (r : Bool) (w : World) (hl : l1.length = n) (hr0 : Kd.C (Kd.int .i64) w A0 l0.length l0) (hc0 : l0.length ≤ c0) (hr1 : ∃ A c, Value.slice A1 n c1 = .slice A l1.length c ∧ l1.length ≤ c ∧ Kd.C (Kd.int .i64) w A l1.length l1) (h : zsK.f k l0 l1 = some r) :
  Calls Try.prog 57 #[.slice A0 l0.length c0, .slice A1 n c1] w fun e w' => e = .returned (.bool r) ∧ Below w.heap.size w w' := by
 subst hl
 obtain ⟨A, c, e, hc1, hC⟩ := hr1
 cases e
 exact zsK.calls k (fun k_ => k_ < w.heap.size) A0 c0 l0 (fun k_ => k_ < w.heap.size) A1 c1 l1 r w (Kd.V_mk hc0 (Kd.C_F (Kd.heap_int .i64) hr0)) (Kd.V_mk hc1 (Kd.C_F (Kd.heap_int .i64) hC)) h
theorem impl_AssignmentsOf_two_pow (n : Nat) (h : n ≤ 16) : wrap64 ((2 : Int) ^ min n 64) = ((2 ^ n : Nat) : Int) := by
 rw [Nat.min_eq_left (by omega)]
 have h1 : (2 : Nat) ^ n ≤ 2 ^ 16 := Nat.pow_le_pow_right (by omega) h
 have e : ((2 : Int) ^ n) = ((2 ^ n : Nat) : Int) := by push_cast; rfl
 rw [e]
 have h3 : (2 : Nat) ^ 16 = 65536 := by decide
 rw [h3] at h1
 generalize (2 : Nat) ^ n = q at h1 ⊢
 unfold wrap64
 omega
set_option maxHeartbeats 8000000 in
set_option maxRecDepth 100000 in
theorem impl_AssignmentsOf_over_calls (k : Nat) (A0 : Option Addr) (c0 : Nat) (l0 : List Int) (w W : World) (g : Nat) (v0 : Value) (res : List (List Int)) (hr0 : Kd.C (Kd.int .i64) w A0 l0.length l0) (hc0 : l0.length ≤ c0) (hn : l0.length ≤ 10)
  (hB : Below w.heap.size w W) (hg : w.heap.size ≤ g) (hb : W.heap[g]? = some (.cells #[v0] 23 (0, 0))) (hS : Kd.S (Kd.slice 2 (Kd.int .i64)) 22 W w.heap.size (fun k => k ≠ g) v0 []) (h : zbS k l0 (2 ^ l0.length) 0 [] = some res) :
  Calls Try.prog 50 #[.slice A0 l0.length c0, .func (.func 51) #[] #[.pointer (some ⟨g, 0, none⟩)]] W fun e w' => (∃ v0, e = .returned v0) ∧ ∃ v', Below w.heap.size w w' ∧ w'.heap[g]? = some (.cells #[v'] 23 (0, 0)) ∧ Kd.S (Kd.slice 2 (Kd.int .i64)) 22 w' w.heap.size (fun k => k ≠ g) v' res := by
 have HR0 := zpS hr0
 have HC0 := zpS hc0
 have HB := zpS hB
 have HG := zpS hg
 have BK := zpS hb
 have HN := zpS hn
 have HS := zpS hS
 have H' := zpS h
 clear hr0 hc0 hB hg hb hn h hS
 go_enter Try.func50, Try.ntmps50
 go_wp2
 rw [impl_AssignmentsOf_two_pow _ (by have := HN.out; omega)]
 obtain ⟨N2, hN2⟩ : ∃ N2 : Nat, N2 = 2 ^ l0.length := ⟨_, rfl⟩
 rw [← hN2]
 have H2 := zpS (show zbS k l0 N2 0 [] = some res from by rw [hN2]; exact H'.out)
 have HN2 := zpS (show N2 ≤ 1024 from by rw [hN2]; exact Nat.pow_le_pow_right (by omega) HN.out)
 clear hN2 H'
 go_loopg [12] N2 (fun kq v12 w' => ∃ (b : Nat) (v : Value) (out : List (List Int)), v12 = .int .i64 b ∧ Aside0 (zbS k l0 kq b out = some res) ∧ Aside0 (kq + b = N2) ∧ Aside0 (out.length ≤ b) ∧ Aside0 (Below w.heap.size w w') ∧ Aside0 (w'.heap[g]? = some (.cells #[v] 23 (0, 0))) ∧ Aside0 (Kd.S (Kd.slice 2 (Kd.int .i64)) 22 w' w.heap.size (fun k => k ≠ g) v out))
 case atStart => exact ⟨0, v0, [], rfl, H2, ⟨rfl⟩, ⟨Nat.le_refl _⟩, HB, BK, HS⟩
 case round =>
  clear H2 HB BK HS
  obtain ⟨b, v, out, rfl, HA, HK, HLN, HB, BK, HS0⟩ := hrel
  by_cases hlt : b < N2
  ·obtain ⟨d, rfl⟩ : ∃ d, gk = d + 1 := ⟨gk - 1, by have := HK.out; omega⟩
   have H := HA.out
   simp only [zbS] at H
   obtain ⟨t, A10, H⟩ := Option.bind_eq_some_iff.mp H
   have A1 := zpS A10
   have H3 := zpS H
   clear A10 H HA
   obtain ⟨s, hgs0, hsz0, hS1⟩ := impl_AssignmentsOf_old HS0.out BK.out
   have HGS := zpS hgs0
   have HSZ := zpS hsz0
   have HS := zpS hS1
   clear hgs0 hsz0 hS1 HS0
   have HNN := HN2.out
   have c1 : decide ((b : Int) < (N2 : Int)) = true := decide_eq_true (by omega)
   have c2 : decide (0 ≤ (l0.length : Int)) = true := decide_eq_true (by omega)
   have hb6 : (b : Int) ≤ 1024 := by omega
   clear HNN
   go_wp2_with (first | ((with_reducible refine gate_dst (N := 16) rfl ?_); refine Kd.R_make (Kd.int .i64) _ 2 rfl (N := 16) rfl 22 _ _ rfl (l0.length : Int) rfl rfl Try.underlying22 (.int .i64 0) 8 info2 rfl (by decide) (by omega) 0 (ok := fun _ => True) (okp := fun _ => True) rfl (fun _ hk => hk) trivial (by omega) (by have := HN.out; rw [Int.toNat_natCast]; omega) (Below.refl _ _) (Nat.le_refl _) ?_; intro v16 w5 ho hb hg_ hnew_; clear hg_ hnew_; rw [Int.toNat_natCast, ← impl_AssignmentsOf_partK_zero _ b] at ho; have n0_ := zpS (Kd.R_lower ho HSZ.out); have n1_ := zpS (zkR HB.out hb); have n2_ := zpS (zgM BK.out hb); have n3_ := zpS (Kd.S_below (by (with_reducible repeat (first | apply Kd.S_alloc | apply Kd.S_drewN | apply Kd.S_drew)); exact HS.out) hb); have n4_ := zpS (Nat.le_trans HSZ.out hb.size); clear HB BK HS HSZ ho hb; have HO := n0_; have HB := n1_; have BK := n2_; have HS := n3_; have HSZ := n4_; clear n0_ n1_ n2_ n3_ n4_; obtain ⟨A16, c16, e16⟩ := Kd.R_slice HO.out; rw [ziP _ _ _ (Nat.zero_le _)] at e16; subst e16))
   go_loopg [19] l0.length (fun kq v19 wi => ∃ i : Nat, v19 = .int .i64 i ∧ Aside0 (kq + i = l0.length) ∧ Aside0 (Kd.R (Kd.int .i64) 2 wi s (fun _ => True) (.slice A16 l0.length c16) (zyX l0.length b i)) ∧ Aside0 (Below w.heap.size w wi) ∧ Aside0 (wi.heap[g]? = some (.cells #[v] 23 (0, 0))) ∧ Aside0 (Kd.S (Kd.slice 2 (Kd.int .i64)) 22 wi w.heap.size (fun k => k ≠ g ∧ k < s) v out) ∧ Aside0 (s ≤ wi.heap.size))
   case atStart => exact ⟨0, rfl, ⟨rfl⟩, HO, HB, BK, HS, HSZ⟩
   case round =>
    clear HO HB BK HS HSZ
    obtain ⟨i, rfl, HI, HO, HB, BK, HS, HSZ⟩ := hrel
    have hi0 := HI.out
    have hn0 := HN.out
    by_cases hi : i < l0.length
    ·have c3 : decide ((i : Int) < (l0.length : Int)) = true := decide_eq_true (by omega)
     have c4 : decide (0 ≤ (i : Int)) = true := decide_eq_true (by omega)
     obtain ⟨go, co, eo, gb, gl, cl, hG⟩ := Kd.R_form HO.out (by rw [ziP _ _ _ (by omega)]; omega)
     rw [ziP _ _ _ (by omega)] at eo
     obtain ⟨rfl, rfl⟩ : A16 = some ⟨go, 0, none⟩ ∧ c16 = co := by cases eo; exact ⟨rfl, rfl⟩
     have GO := zpS gb
     clear gb gl hG eo
     obtain ⟨hx, hf⟩ := Kd.R_celln 0 HO.out (i : Int) (by omega) (by omega)
     rw [Int.toNat_natCast] at hx hf
     have HP := Kd.R_putg HO.out (i : Int) (zuY l0.length b i)
     rw [Int.toNat_natCast, impl_AssignmentsOf_partK_set _ _ _ hi, ← impl_AssignmentsOf_bit_eq] at HP
     have HP1 := zpS HP.1
     have NE := zpS (show g ≠ go from by have := GO.out; have := HGS.out; omega)
     have GW := zpS (show w.heap.size ≤ go from by have := GO.out; have := HG.out; have := HGS.out; omega)
     clear HP
     go_wp2
     go_roundg (l0.length - (i + 1))
     case measure => have := HI.out; omega
     case rel => exact ⟨i + 1, by (try rw [wrap64]); go_num, ⟨by have := HI.out; omega⟩, HP1, ⟨zjF HB.out GW.out⟩, ⟨blk_far BK.out NE.out _⟩, ⟨Kd.S_far HS.out (fun k hk => by have h2 := hk.2; have h3 := GO.out; intro e; have h4 : k = go := e; omega) _⟩, ⟨by simpa [World.setCell] using HSZ.out⟩⟩
    ·obtain rfl : i = l0.length := by omega
     have c3 : decide ((l0.length : Int) < (l0.length : Int)) = false := decide_eq_false (by omega)
     rw [impl_AssignmentsOf_partK_all] at HO
     clear hi0 hn0 hi
     cases t with
     | true =>
      have H4 := zpS (show zbS k l0 d (b + 1) (out ++ [zbP l0.length b]) = some res from by have := H3.out; rw [if_pos rfl] at this; exact this)
      clear H3 H
      have hkl := zcE l0.length b
      obtain ⟨KN, hKN⟩ : ∃ KN, KN = zbP l0.length b := ⟨_, rfl⟩
      rw [← hKN] at H4 HO A1 hkl
      clear hKN
      have HKL := zpS hkl
      clear hkl
      go_wp2_with (first | (go_at_call 57; (with_reducible refine (zlE k _ _ l0 _ _ _ KN true _ ?h1 ?h2 HC0.out ?h3 A1.out).mono ?_); (case h1 => exact HKL.out); (case h2 => exact Kd.C_below HR0.out bb_); (case h3 => exact Kd.R_reads (by (with_reducible repeat (first | apply Kd.R_alloc | apply Kd.R_drewN | apply Kd.R_drew)); exact HO.out)); rintro e wz ⟨rfl, hz⟩; have n0_ := (ns_ hz); have n1_ := zpS (zgM (by (with_reducible repeat (first | apply zuW | apply ztN | apply zqY)); exact BK.out) hz); have n2_ := zpS (Kd.S_below (by (with_reducible repeat (first | apply Kd.S_alloc | apply Kd.S_drewN | apply Kd.S_drew)); exact HS.out) hz); have n3_ := zpS (Kd.R_below (by (with_reducible repeat (first | apply Kd.R_alloc | apply Kd.R_drewN | apply Kd.R_drew)); exact HO.out) hz); have n4_ := zpS (Nat.le_trans HSZ.out hz.size); clear HB BK HO HS HSZ hz; have HB := n0_; have BK := n1_; have HS := n2_; have HO := n3_; have HSZ := n4_; clear n0_ n1_ n2_ n3_ n4_) | (go_at_call 51; (with_reducible refine (impl_AssignmentsOf_clo_calls w _ g s v out _ _ _ KN HKL.out ?hB HG.out HGS.out ?hs ?hb ?hS ?hR ?hl).mono ?_); (case hB => exact bb_); (case hs => exact HSZ.out); (case hb => exact (by (with_reducible repeat (first | apply zuW | apply ztN | apply zqY)); exact BK.out)); (case hS => exact (by (with_reducible repeat (first | apply Kd.S_alloc | apply Kd.S_drewN | apply Kd.S_drew)); exact HS.out)); (case hR => exact (by (with_reducible repeat (first | apply Kd.R_alloc | apply Kd.R_drewN | apply Kd.R_drew)); exact HO.out)); (case hl => have := HLN.out; omega); rintro e wq ⟨⟨v0_, rfl⟩, v', hq1, hq2, hq3⟩; have n0_ := zpS hq1; have n1_ := zpS hq2; have n2_ := zpS hq3; clear HB BK HO HS HSZ hq1 hq2 hq3; have HB := n0_; have BK := n1_; have HS := n2_; clear n0_ n1_ n2_))
      go_roundg d
      case measure => omega
      case rel => exact ⟨b + 1, _, _, by (try rw [wrap64]); go_num, H4, ⟨by have := HK.out; omega⟩, ⟨by rw [List.length_append, List.length_singleton]; have := HLN.out; omega⟩, HB, BK, HS⟩
     | false =>
      have H4 := zpS (show zbS k l0 d (b + 1) out = some res from by have := H3.out; rw [if_neg (by simp)] at this; exact this)
      clear H3 H
      go_wp2_with (first | (go_at_call 57; (with_reducible refine (zlE k _ _ l0 _ _ _ (zbP l0.length b) false _ ?h1 ?h2 HC0.out ?h3 A1.out).mono ?_); (case h1 => exact zcE _ _); (case h2 => exact Kd.C_below HR0.out bb_); (case h3 => exact Kd.R_reads HO.out); rintro e wz ⟨rfl, hz⟩; have n0_ := (ns_ hz); have n1_ := zpS (zgM (by (with_reducible repeat (first | apply zuW | apply ztN | apply zqY)); exact BK.out) hz); have n2_ := zpS (Kd.S_below (by (with_reducible repeat (first | apply Kd.S_alloc | apply Kd.S_drewN | apply Kd.S_drew)); exact HS.out) hz); clear HB BK HO HS hz; have HB := n0_; have BK := n1_; have HS := n2_; clear n0_ n1_ n2_))
      go_roundg d
      case measure => omega
      case rel => exact ⟨b + 1, v, out, by (try rw [wrap64]); go_num, H4, ⟨by have := HK.out; omega⟩, ⟨by have := HLN.out; omega⟩, HB, BK, ⟨Kd.S_mono HS.out (fun _ hk => hk.1)⟩⟩
  ·have H := HA.out
   obtain rfl : gk = 0 := by have := HK.out; omega
   simp only [zbS, Option.some.injEq] at H
   subst H
   have c1 : decide ((b : Int) < (N2 : Int)) = false := decide_eq_false (by omega)
   go_wp2
   exact bodyPost_end (v := .tuple #[]) (by simp [results, Try.results50, go_sem]) rfl ⟨⟨_, rfl⟩, _, HB.out, BK.out, HS0.out⟩
theorem ztS (k : Nat) (l : List Int) : ∀ (d b : Nat) (o : List (List Int)), LeO (zbS k l d b o) (zbS (k + 1) l d b o)
 | 0, _, _ => LeO.refl _
 | d + 1, b, o => LeO.bind (zsK.mono _ _ k) (fun t => ztS k l d (b + 1) _)
def zyN.f (k : Nat) (l0 : List Int) : Option (List (List Int) × Int) := (ziL.f k l0).bind fun t => (if t = true then (if l0.length ≤ 10 then ((zbS k l0 (2 ^ l0.length) 0 []).bind fun m => (some (m, 0))) else (some ([], 5))) else some ([], 1))
theorem zyN.mono : ∀ a0 k, LeO (zyN.f k a0) (zyN.f (k + 1) a0) := fun a0 k => LeO.bind (ziL.mono a0 k) (fun t => LeO.ite (LeO.ite (LeO.bind (ztS k a0 _ _ _) (fun _ => LeO.refl _)) (LeO.refl _)) (LeO.refl _))
set_option maxHeartbeats 8000000 in
set_option maxRecDepth 100000 in
theorem zyN.calls (k : Nat) (A0 : Option Addr) (c0 : Nat) (l0 : List Int) (r1 : List (List Int)) (r2 : Int) (w : World) (hr0 : Kd.C (Kd.int .i64) w A0 l0.length l0) (hc0 : l0.length ≤ c0) (h : zyN.f k l0 = some (r1, r2)) :
  Calls Try.prog 12 #[.slice A0 l0.length c0] w fun e w' => ∃ v0_ : Value, e = .returned (.tuple #[v0_, .int .i64 r2]) ∧ Kd.S (Kd.slice 2 (Kd.int .i64)) 22 w' w.heap.size (fun _ => True) v0_ r1 ∧ Below w.heap.size w w' := by
 have HR0 := zpS hr0
 have HC0 := zpS hc0
 clear hr0 hc0
 have HB := zpS (Below.refl w.heap.size w)
 obtain ⟨t, A10, H⟩ := Option.bind_eq_some_iff.mp h
 have A1 := zpS A10
 clear A10 h
 cases t with
 | false =>
  simp only [Bool.false_eq_true, if_false, Option.some.injEq, Prod.mk.injEq] at H
  obtain ⟨rfl, rfl⟩ := H
  go_enter Try.func12, Try.ntmps12
  go_wp2_with (go_at_call 26; (with_reducible refine (ziL.calls k _ _ l0 false _ HR0.out HC0.out A1.out).mono ?_); rintro e w' ⟨rfl, ⟨nd, rfl⟩⟩)
  go_ret2
  exact ⟨_, rfl, Kd.S_nil _ _ _ _ _, by repeat (first | exact HB.out | apply znU | apply zkZ | apply zvF)⟩
 | true =>
  simp only [if_true] at H
  by_cases hn : l0.length ≤ 10
  ·rw [if_pos hn] at H
   obtain ⟨m, A20, H⟩ := Option.bind_eq_some_iff.mp H
   simp only [Option.some.injEq, Prod.mk.injEq] at H
   obtain ⟨rfl, rfl⟩ := H
   have A2 := zpS A20
   have HN := zpS hn
   have c9 : decide ((l0.length : Int) > 10) = false := decide_eq_false (by omega)
   have c8 : decide ((10 : Int) < (l0.length : Int)) = false := decide_eq_false (by omega)
   clear A20 hn
   go_enter Try.func12, Try.ntmps12
   go_wp2_with (first | (go_at_call 26; (with_reducible refine (ziL.calls k _ _ l0 true _ HR0.out HC0.out A1.out).mono ?_); rintro e w' ⟨rfl, ⟨nd, rfl⟩⟩) | ((with_reducible refine gate_dst (N := 4) rfl ?_); refine bx_ 4 #[.slice none 0 0] 23 ?_; intro gb hg w8 hbox hb; have HB2 := (ns_ hb); have GE := zpS (by rw [hg]; exact (zuA bb_) : w.heap.size ≤ gb); have BK := zpS hbox; have hcz0 : w8.cell? ⟨gb, 0, none⟩ = some (.slice none 0 0) := (zzS BK.out 0).trans rfl; have hfz0 := zjG BK.out 0; clear hb hbox hg) | (go_at_call 50; (with_reducible refine (impl_AssignmentsOf_over_calls k _ _ l0 w _ _ (.slice none 0 0) m ?h0 HC0.out HN.out ?hB ?hg ?hb (Kd.S_nil _ _ _ _ _) A2.out).mono ?_); (case h0 => exact HR0.out); (case hB => repeat (first | exact HB2.out | apply znU | apply zkZ | apply zvF)); (case hg => exact GE.out); (case hb => exact (by (with_reducible repeat (first | apply zuW | apply ztN | apply zqY)); exact BK.out)); rintro e wz ⟨⟨v0_, rfl⟩, v', hz, hk, hs⟩; have HZ := zpS hz; have HK := zpS hk; have HS := zpS hs; have hcz : wz.cell? ⟨gb, 0, none⟩ = some v' := (zzS HK.out 0).trans rfl; clear hz hk hs))
   go_ret2
   exact ⟨_, rfl, Kd.S_mono HS.out (fun _ _ => trivial), by repeat (first | exact HZ.out | apply znU | apply zkZ | apply zvF)⟩
  ·rw [if_neg hn] at H
   simp only [Option.some.injEq, Prod.mk.injEq] at H
   obtain ⟨rfl, rfl⟩ := H
   have c9 : decide ((l0.length : Int) > 10) = true := decide_eq_true (by omega)
   have c8 : decide ((10 : Int) < (l0.length : Int)) = true := decide_eq_true (by omega)
   clear hn
   go_enter Try.func12, Try.ntmps12
   go_wp2_with (go_at_call 26; (with_reducible refine (ziL.calls k _ _ l0 true _ HR0.out HC0.out A1.out).mono ?_); rintro e w' ⟨rfl, ⟨nd, rfl⟩⟩)
   go_ret2
   exact ⟨_, rfl, Kd.S_nil _ _ _ _ _, by repeat (first | exact HB.out | apply znU | apply zkZ | apply zvF)⟩

def zpR.f (l0 : List Int) (l1 : List Int) : Option (Bool) := if (l0.length : Int) > 3000 then (some true) else (some (decide ((l1.length : Int) > 3000)))
set_option maxHeartbeats 8000000 in
set_option maxRecDepth 100000 in
theorem zpR.calls (A0 : Option Addr) (c0 : Nat) (l0 : List Int) (A1 : Option Addr) (c1 : Nat) (l1 : List Int) (r : Bool) (w : World) (hr0 : Kd.C (Kd.int .u8) w A0 l0.length l0) (hc0 : l0.length ≤ c0) (hr1 : Kd.C (Kd.int .u8) w A1 l1.length l1) (hc1 : l1.length ≤ c1) (h : zpR.f l0 l1 = some r) :
  Calls Try.prog 18 #[.slice A0 l0.length c0, .slice A1 l1.length c1] w fun e w' => e = .returned (.bool r) ∧ Drawn0 w w' := by
 have HR0 := zpS hr0
 have HC0 := zpS hc0
 clear hr0 hc0
 have HR1 := zpS hr1
 have HC1 := zpS hc1
 clear hr1 hc1
 have H : (if (l0.length : Int) > 3000 then (some true) else (some (decide ((l1.length : Int) > 3000)))) = some r := h
 clear h
 by_cases c3 : (l0.length : Int) > 3000
 ·rw [if_pos c3] at H
  have c3b0 : decide (3000 < (l0.length : Int)) = true := decide_eq_true c3
  have c3b1 : decide (3000 < l0.length) = true := decide_eq_true (by omega)
  clear c3
  obtain rfl := Option.some.inj H
  go_enter Try.func18, Try.ntmps18
  go_wp2
  go_ret
  exact ⟨by first | rfl | (simp; done) | (simp [*]; done), by repeat (first | exact Drawn0.refl _ | apply Drawn0.step)⟩
 ·rw [if_neg c3] at H
  have c3b0 : decide (3000 < (l0.length : Int)) = false := decide_eq_false c3
  have c3b1 : decide (3000 < l0.length) = false := decide_eq_false (by omega)
  clear c3
  obtain rfl := Option.some.inj H
  go_enter Try.func18, Try.ntmps18
  go_wp2
  go_ret
  exact ⟨by first | rfl | (simp; done) | (simp [*]; done), by repeat (first | exact Drawn0.refl _ | apply Drawn0.step)⟩

def zxI (w0 W : World) (g : Nat) (f0 : List Int) (f1 : Int) (f2 : Int) : Prop := ∃ A0 c0, W.heap[g]? = some (.cells #[.slice A0 f0.length c0, .int .i64 f1, .int .u64 f2] 83 (0, 0)) ∧ w0.heap.size ≤ g ∧ Kd.C (Kd.int .u8) w0 A0 f0.length f0
theorem zxI.grown {w0 W : World} {g : Nat} {f0 : List Int} {f1 : Int} {f2 : Int} {W1 : World} {row : Option Nat} (h : zxI w0 W g f0 f1 f2) (hw : W.grownBy W1 row) (hne : some g ≠ row) : zxI w0 W1 g f0 f1 f2 := by
 obtain ⟨A0, c0, hb, hg, hr0⟩ := h
 exact ⟨A0, c0, blk_grown hb hw hne, hg, hr0⟩
theorem zxI.kept {w0 W : World} {g : Nat} {f0 : List Int} {f1 : Int} {f2 : Int} {W1 : World} {S : Nat → Prop} (h : zxI w0 W g f0 f1 f2) (hk : Kept W W1 S) (hne : ¬ S g) : zxI w0 W1 g f0 f1 f2 := by
 obtain ⟨A0, c0, hb, hg, hr0⟩ := h
 exact ⟨A0, c0, blk_kept hb hk hne, hg, hr0⟩
theorem zxI.below {w0 W : World} {g : Nat} {f0 : List Int} {f1 : Int} {f2 : Int} {W1 : World} (h : zxI w0 W g f0 f1 f2) (hw : Below W.heap.size W W1) : zxI w0 W1 g f0 f1 f2 := h.grown (grown_of_below hw none) (by simp)
theorem zxI.alloc {w0 W : World} {g : Nat} {f0 : List Int} {f1 : Int} {f2 : Int} (h : zxI w0 W g f0 f1 f2) (o : Obj) : zxI w0 (W.alloc o) g f0 f1 f2 := h.below (znU (Below.refl _ _) o)
theorem zxI.drewN {w0 W : World} {g : Nat} {f0 : List Int} {f1 : Int} {f2 : Int} (h : zxI w0 W g f0 f1 f2) (m : Nat) : zxI w0 (W.drewN m) g f0 f1 f2 := h
theorem zxI.drew {w0 W : World} {g : Nat} {f0 : List Int} {f1 : Int} {f2 : Int} (h : zxI w0 W g f0 f1 f2) : zxI w0 W.drew g f0 f1 f2 := h
theorem zxI.at_ {w0 W : World} {g : Nat} {f0 : List Int} {f1 : Int} {f2 : Int} {w' : World} {m : Nat} (hq : W.drewN m = w') (h : zxI w0 W g f0 f1 f2) : zxI w0 w' g f0 f1 f2 := by subst hq; exact zxI.drewN h m
theorem zxI.apart {w0 W : World} {g : Nat} {f0 : List Int} {f1 : Int} {f2 : Int} {α : Type} {d : Kd α} {e : Nat} {base : Nat} {ok : Nat → Prop} {v : Value} {xs : List α} (h : zxI w0 W g f0 f1 f2) (ho : d.R e W base ok v xs) (ht : ∀ q, q ∈ e :: d.E → q ≠ 83) : d.R e W base (fun k => ok k ∧ k ≠ g) v xs := by
 obtain ⟨A0, c0, hb, hg, hr0⟩ := h
 exact Kd.R_types ho hb ht
theorem zxI.own_ne {w0 W : World} {g : Nat} {f0 : List Int} {f1 : Int} {f2 : Int} {α : Type} {d : Kd α} {e : Nat} {base : Nat} {ok : Nat → Prop} {v : Value} {xs : List α} (h : zxI w0 W g f0 f1 f2) (ho : d.R e W base ok v xs) (ht : e ≠ 83) : some g ≠ v.ownBlock := by
 obtain ⟨A0, c0, hb, hg, hr0⟩ := h
 exact Kd.R_ne ho hb ht
theorem zxI.ge {w0 W : World} {g : Nat} {f0 : List Int} {f1 : Int} {f2 : Int} (h : zxI w0 W g f0 f1 f2) : w0.heap.size ≤ g := by
 obtain ⟨A0, c0, hb, hg, hr0⟩ := h
 exact hg
theorem cellS83_0 {W : World} {g : Nat} {A0 : Option Addr} {c0 : Nat} {f0 : List Int} {f1 : Int} {f2 : Int} (h : W.heap[g]? = some (.cells #[.slice A0 f0.length c0, .int .i64 f1, .int .u64 f2] 83 (0, 0))) : W.cell? ⟨g, 0, none⟩ = some (.slice A0 f0.length c0) := (zzS h 0).trans rfl
theorem cellS83_1 {W : World} {g : Nat} {A0 : Option Addr} {c0 : Nat} {f0 : List Int} {f1 : Int} {f2 : Int} (h : W.heap[g]? = some (.cells #[.slice A0 f0.length c0, .int .i64 f1, .int .u64 f2] 83 (0, 0))) : W.cell? ⟨g, 1, none⟩ = some (.int .i64 f1) := (zzS h 1).trans rfl
theorem zxI.set_1 {w0 W : World} {g : Nat} {f0 : List Int} {f1 : Int} {f2 : Int} (h : zxI w0 W g f0 f1 f2) (x : Int) : zxI w0 (W.setCell ⟨g, 1, none⟩ (.int .i64 x)) g f0 x f2 := by
 obtain ⟨A0, c0, hb, hg, hr0⟩ := h
 exact ⟨A0, c0, by simpa using blk_set hb 1 (.int .i64 x), hg, hr0⟩
theorem cellS83_2 {W : World} {g : Nat} {A0 : Option Addr} {c0 : Nat} {f0 : List Int} {f1 : Int} {f2 : Int} (h : W.heap[g]? = some (.cells #[.slice A0 f0.length c0, .int .i64 f1, .int .u64 f2] 83 (0, 0))) : W.cell? ⟨g, 2, none⟩ = some (.int .u64 f2) := (zzS h 2).trans rfl
theorem zxI.set_2 {w0 W : World} {g : Nat} {f0 : List Int} {f1 : Int} {f2 : Int} (h : zxI w0 W g f0 f1 f2) (x : Int) : zxI w0 (W.setCell ⟨g, 2, none⟩ (.int .u64 x)) g f0 f1 x := by
 obtain ⟨A0, c0, hb, hg, hr0⟩ := h
 exact ⟨A0, c0, by simpa using blk_set hb 2 (.int .u64 x), hg, hr0⟩
def zqO.f (s0_0 : List Int) (s0_1 : Int) (s0_2 : Int) : Option (Int × Int × Int) := if s0_1 < (s0_0.length : Int) then (if 0 ≤ s0_1 then (if (wrap64 (s0_1 + 1)) ≤ (s0_0.length : Int) then (some (wrap64 (rd s0_0 s0_1), wrap64 (s0_1 + 1), IntKind.u64.wrap ((IntKind.u64.wrap ((IntKind.u64.wrap (s0_2 * 6364136223846793005)) + (IntKind.u64.wrap (wrap64 (rd s0_0 s0_1))))) + 1442695040888963407))) else (some (wrap64 (Go.bits .and .u64 ((IntKind.u64.wrap ((IntKind.u64.wrap ((IntKind.u64.wrap (s0_2 * 6364136223846793005)) + (IntKind.u64.wrap (wrap64 (rd s0_0 s0_1))))) + 1442695040888963407)) / 1099511627776) 255), wrap64 (s0_1 + 1), IntKind.u64.wrap ((IntKind.u64.wrap ((IntKind.u64.wrap (s0_2 * 6364136223846793005)) + (IntKind.u64.wrap (wrap64 (rd s0_0 s0_1))))) + 1442695040888963407)))) else (none)) else (if (wrap64 (s0_1 + 1)) ≤ (s0_0.length : Int) then (some (0, wrap64 (s0_1 + 1), IntKind.u64.wrap ((IntKind.u64.wrap ((IntKind.u64.wrap (s0_2 * 6364136223846793005)))) + 1442695040888963407))) else (some (wrap64 (Go.bits .and .u64 ((IntKind.u64.wrap ((IntKind.u64.wrap ((IntKind.u64.wrap (s0_2 * 6364136223846793005)))) + 1442695040888963407)) / 1099511627776) 255), wrap64 (s0_1 + 1), IntKind.u64.wrap ((IntKind.u64.wrap ((IntKind.u64.wrap (s0_2 * 6364136223846793005)))) + 1442695040888963407))))
set_option maxHeartbeats 8000000 in
set_option maxRecDepth 100000 in
theorem zqO.calls (g : Nat) (s0_0 : List Int) (s0_1 : Int) (s0_2 : Int) (r1 : Int) (r2 : Int) (r3 : Int) (w0 w : World) (hI : zxI w0 w g s0_0 s0_1 s0_2) (hB : Below w0.heap.size w0 w) (h : zqO.f s0_0 s0_1 s0_2 = some (r1, r2, r3)) :
  Calls Try.prog 111 #[.pointer (some ⟨g, 0, none⟩)] w fun e w' => e = .returned (.int .i64 r1) ∧ zxI w0 w' g s0_0 r2 r3 ∧ Below w0.heap.size w0 w' ∧ zwG w w' g none := by
 have HI0 := zpS hI
 have HK := zpS (zwG.refl w g none)
 have HL := zpS hB.size
 clear hI
 have HW0 := zpS hB.size
 have HB := zpS hB
 clear hB
 have H : (if s0_1 < (s0_0.length : Int) then (if 0 ≤ s0_1 then (if (wrap64 (s0_1 + 1)) ≤ (s0_0.length : Int) then (some (wrap64 (rd s0_0 s0_1), wrap64 (s0_1 + 1), IntKind.u64.wrap ((IntKind.u64.wrap ((IntKind.u64.wrap (s0_2 * 6364136223846793005)) + (IntKind.u64.wrap (wrap64 (rd s0_0 s0_1))))) + 1442695040888963407))) else (some (wrap64 (Go.bits .and .u64 ((IntKind.u64.wrap ((IntKind.u64.wrap ((IntKind.u64.wrap (s0_2 * 6364136223846793005)) + (IntKind.u64.wrap (wrap64 (rd s0_0 s0_1))))) + 1442695040888963407)) / 1099511627776) 255), wrap64 (s0_1 + 1), IntKind.u64.wrap ((IntKind.u64.wrap ((IntKind.u64.wrap (s0_2 * 6364136223846793005)) + (IntKind.u64.wrap (wrap64 (rd s0_0 s0_1))))) + 1442695040888963407)))) else (none)) else (if (wrap64 (s0_1 + 1)) ≤ (s0_0.length : Int) then (some (0, wrap64 (s0_1 + 1), IntKind.u64.wrap ((IntKind.u64.wrap ((IntKind.u64.wrap (s0_2 * 6364136223846793005)))) + 1442695040888963407))) else (some (wrap64 (Go.bits .and .u64 ((IntKind.u64.wrap ((IntKind.u64.wrap ((IntKind.u64.wrap (s0_2 * 6364136223846793005)))) + 1442695040888963407)) / 1099511627776) 255), wrap64 (s0_1 + 1), IntKind.u64.wrap ((IntKind.u64.wrap ((IntKind.u64.wrap (s0_2 * 6364136223846793005)))) + 1442695040888963407))))) = some (r1, r2, r3) := h
 clear h
 by_cases c2 : s0_1 < (s0_0.length : Int)
 ·rw [if_pos c2] at H
  have c2b0 : decide (s0_1 < (s0_0.length : Int)) = true := decide_eq_true c2
  clear c2
  by_cases c3 : 0 ≤ s0_1
  ·rw [if_pos c3] at H
   have c3b0 : decide (0 ≤ s0_1) = true := decide_eq_true c3
   clear c3
   by_cases c4 : (wrap64 (s0_1 + 1)) ≤ (s0_0.length : Int)
   ·rw [if_pos c4] at H
    have c4b0 : decide ((wrap64 (s0_1 + 1)) ≤ (s0_0.length : Int)) = true := decide_eq_true c4
    clear c4
    simp only [Option.some.injEq, Prod.mk.injEq] at H
    obtain ⟨rfl, rfl, rfl⟩ := H
    obtain ⟨ASz5_0, cSz5_0, HGz5, hgz5, HSz5_0⟩ := HI0.out
    have hcz5_0 := cellS83_0 HGz5
    have hcz5_1 := cellS83_1 HGz5
    have hcz5_2 := cellS83_2 HGz5
    have hfz5_1 := zjG HGz5 1
    have hfz5_2 := zjG HGz5 2
    clear HGz5 hgz5
    have p200 : 0 ≤ (s0_1 : Int) := of_decide_eq_true (by first | (with_reducible assumption) | assumption)
    have q200 : s0_1 < (s0_0.length : Int) := of_decide_eq_true (by first | (with_reducible assumption) | assumption)
    obtain ⟨ad200, e200, hx200_0⟩ := Kd.at_int HSz5_0 s0_1 p200 q200
    cases e200
    replace hx200_0 := pw_cell_below HB.out hx200_0
    replace p200 := eq_true p200
    replace q200 := eq_true q200
    go_enter Try.func111, Try.ntmps111
    go_wp2
    repeat (go_quiet (fail); try go_wp2)
    go_ret
    exact ⟨by first | rfl | (simp [ziS, znJ] <;> rfl) | (simp [*, ziS, znJ] <;> rfl), by repeat (first | (with_reducible first | exact HI0.out | apply zxI.alloc | apply zxI.drewN | apply zxI.drew | apply zxI.set_1 | apply zxI.set_2) | exact HI0.out), by repeat (first | (with_reducible first | exact HB.out | apply znU | apply zkZ | apply zvF | refine zjF ?_ (zxI.ge HI0.out)) | exact HB.out), by repeat (first | (with_reducible first | exact HK.out | apply zwG.set_ | apply zeS | apply zwU | apply zbV) | exact HK.out)⟩
   ·rw [if_neg c4] at H
    have c4b0 : decide ((wrap64 (s0_1 + 1)) ≤ (s0_0.length : Int)) = false := decide_eq_false c4
    clear c4
    simp only [Option.some.injEq, Prod.mk.injEq] at H
    obtain ⟨rfl, rfl, rfl⟩ := H
    obtain ⟨ASz6_0, cSz6_0, HGz6, hgz6, HSz6_0⟩ := HI0.out
    have hcz6_0 := cellS83_0 HGz6
    have hcz6_1 := cellS83_1 HGz6
    have hcz6_2 := cellS83_2 HGz6
    have hfz6_1 := zjG HGz6 1
    have hfz6_2 := zjG HGz6 2
    clear HGz6 hgz6
    have p200 : 0 ≤ (s0_1 : Int) := of_decide_eq_true (by first | (with_reducible assumption) | assumption)
    have q200 : s0_1 < (s0_0.length : Int) := of_decide_eq_true (by first | (with_reducible assumption) | assumption)
    obtain ⟨ad200, e200, hx200_0⟩ := Kd.at_int HSz6_0 s0_1 p200 q200
    cases e200
    replace hx200_0 := pw_cell_below HB.out hx200_0
    replace p200 := eq_true p200
    replace q200 := eq_true q200
    go_enter Try.func111, Try.ntmps111
    go_wp2
    repeat (go_quiet (fail); try go_wp2)
    go_ret
    exact ⟨by first | rfl | (simp [ziS, znJ] <;> rfl) | (simp [*, ziS, znJ] <;> rfl), by repeat (first | (with_reducible first | exact HI0.out | apply zxI.alloc | apply zxI.drewN | apply zxI.drew | apply zxI.set_1 | apply zxI.set_2) | exact HI0.out), by repeat (first | (with_reducible first | exact HB.out | apply znU | apply zkZ | apply zvF | refine zjF ?_ (zxI.ge HI0.out)) | exact HB.out), by repeat (first | (with_reducible first | exact HK.out | apply zwG.set_ | apply zeS | apply zwU | apply zbV) | exact HK.out)⟩
  ·rw [if_neg c3] at H
   exact absurd H (by simp)
 ·rw [if_neg c2] at H
  have c2b0 : decide (s0_1 < (s0_0.length : Int)) = false := decide_eq_false c2
  clear c2
  by_cases c7 : (wrap64 (s0_1 + 1)) ≤ (s0_0.length : Int)
  ·rw [if_pos c7] at H
   have c7b0 : decide ((wrap64 (s0_1 + 1)) ≤ (s0_0.length : Int)) = true := decide_eq_true c7
   clear c7
   simp only [Option.some.injEq, Prod.mk.injEq] at H
   obtain ⟨rfl, rfl, rfl⟩ := H
   obtain ⟨ASz8_0, cSz8_0, HGz8, hgz8, HSz8_0⟩ := HI0.out
   have hcz8_0 := cellS83_0 HGz8
   have hcz8_1 := cellS83_1 HGz8
   have hcz8_2 := cellS83_2 HGz8
   have hfz8_1 := zjG HGz8 1
   have hfz8_2 := zjG HGz8 2
   clear HGz8 hgz8
   go_enter Try.func111, Try.ntmps111
   go_wp2
   repeat (go_quiet (fail); try go_wp2)
   go_ret
   exact ⟨by first | rfl | (simp [ziS, znJ] <;> rfl) | (simp [*, ziS, znJ] <;> rfl), by repeat (first | (with_reducible first | exact HI0.out | apply zxI.alloc | apply zxI.drewN | apply zxI.drew | apply zxI.set_1 | apply zxI.set_2) | exact HI0.out), by repeat (first | (with_reducible first | exact HB.out | apply znU | apply zkZ | apply zvF | refine zjF ?_ (zxI.ge HI0.out)) | exact HB.out), by repeat (first | (with_reducible first | exact HK.out | apply zwG.set_ | apply zeS | apply zwU | apply zbV) | exact HK.out)⟩
  ·rw [if_neg c7] at H
   have c7b0 : decide ((wrap64 (s0_1 + 1)) ≤ (s0_0.length : Int)) = false := decide_eq_false c7
   clear c7
   simp only [Option.some.injEq, Prod.mk.injEq] at H
   obtain ⟨rfl, rfl, rfl⟩ := H
   obtain ⟨ASz9_0, cSz9_0, HGz9, hgz9, HSz9_0⟩ := HI0.out
   have hcz9_0 := cellS83_0 HGz9
   have hcz9_1 := cellS83_1 HGz9
   have hcz9_2 := cellS83_2 HGz9
   have hfz9_1 := zjG HGz9 1
   have hfz9_2 := zjG HGz9 2
   clear HGz9 hgz9
   go_enter Try.func111, Try.ntmps111
   go_wp2
   repeat (go_quiet (fail); try go_wp2)
   go_ret
   exact ⟨by first | rfl | (simp [ziS, znJ] <;> rfl) | (simp [*, ziS, znJ] <;> rfl), by repeat (first | (with_reducible first | exact HI0.out | apply zxI.alloc | apply zxI.drewN | apply zxI.drew | apply zxI.set_1 | apply zxI.set_2) | exact HI0.out), by repeat (first | (with_reducible first | exact HB.out | apply znU | apply zkZ | apply zvF | refine zjF ?_ (zxI.ge HI0.out)) | exact HB.out), by repeat (first | (with_reducible first | exact HK.out | apply zwG.set_ | apply zeS | apply zwU | apply zbV) | exact HK.out)⟩

def zcB.f (s0_0 : List Int) (s0_1 : Int) (s0_2 : Int) (a1 : Int) : Option (Int × Int × Int) := if a1 ≤ 1 then (some (0, s0_1, s0_2)) else ((zqO.f s0_0 s0_1 s0_2).bind fun bt201 => (if a1 > 200 then ((zqO.f s0_0 bt201.2.1 bt201.2.2).bind fun bt204 => (if a1 = 0 then (none) else (some (Int.tmod (wrap64 ((wrap64 (bt201.1 * 256)) + bt204.1)) a1, bt204.2.1, bt204.2.2)))) else (if a1 = 0 then (none) else (some (Int.tmod bt201.1 a1, bt201.2.1, bt201.2.2)))))
set_option maxHeartbeats 8000000 in
set_option maxRecDepth 100000 in
theorem zcB.calls (g : Nat) (s0_0 : List Int) (s0_1 : Int) (s0_2 : Int) (a1 : Int) (r1 : Int) (r2 : Int) (r3 : Int) (w0 w : World) (hI : zxI w0 w g s0_0 s0_1 s0_2) (hB : Below w0.heap.size w0 w) (h : zcB.f s0_0 s0_1 s0_2 a1 = some (r1, r2, r3)) :
  Calls Try.prog 87 #[.pointer (some ⟨g, 0, none⟩), .int .i64 a1] w fun e w' => e = .returned (.int .i64 r1) ∧ zxI w0 w' g s0_0 r2 r3 ∧ Below w0.heap.size w0 w' ∧ zwG w w' g none := by
 have HI0 := zpS hI
 have HK := zpS (zwG.refl w g none)
 have HL := zpS hB.size
 clear hI
 have HW0 := zpS hB.size
 have HB := zpS hB
 clear hB
 have H : (if a1 ≤ 1 then (some (0, s0_1, s0_2)) else ((zqO.f s0_0 s0_1 s0_2).bind fun bt201 => (if a1 > 200 then ((zqO.f s0_0 bt201.2.1 bt201.2.2).bind fun bt204 => (if a1 = 0 then (none) else (some (Int.tmod (wrap64 ((wrap64 (bt201.1 * 256)) + bt204.1)) a1, bt204.2.1, bt204.2.2)))) else (if a1 = 0 then (none) else (some (Int.tmod bt201.1 a1, bt201.2.1, bt201.2.2)))))) = some (r1, r2, r3) := h
 clear h
 by_cases c3 : a1 ≤ 1
 ·rw [if_pos c3] at H
  have c3b0 : decide (a1 ≤ 1) = true := decide_eq_true c3
  clear c3
  simp only [Option.some.injEq, Prod.mk.injEq] at H
  obtain ⟨rfl, rfl, rfl⟩ := H
  go_enter Try.func87, Try.ntmps87
  go_wp2
  go_ret
  exact ⟨by first | rfl | (simp [ziS, znJ] <;> rfl) | (simp [*, ziS, znJ] <;> rfl), by repeat (first | (with_reducible first | exact HI0.out | apply zxI.alloc | apply zxI.drewN | apply zxI.drew | apply zxI.set_1 | apply zxI.set_2) | exact HI0.out), by repeat (first | (with_reducible first | exact HB.out | apply znU | apply zkZ | apply zvF | refine zjF ?_ (zxI.ge HI0.out)) | exact HB.out), by repeat (first | (with_reducible first | exact HK.out | apply zwG.set_ | apply zeS | apply zwU | apply zbV) | exact HK.out)⟩
 ·rw [if_neg c3] at H
  have c3b0 : decide (a1 ≤ 1) = false := decide_eq_false c3
  clear c3
  replace H := Option.bind_eq_some_iff.mp H
  obtain ⟨⟨t201, t202, t203⟩, A40, H⟩ := H
  replace H : (if a1 > 200 then ((zqO.f s0_0 t202 t203).bind fun bt204 => (if a1 = 0 then (none) else (some (Int.tmod (wrap64 ((wrap64 (t201 * 256)) + bt204.1)) a1, bt204.2.1, bt204.2.2)))) else (if a1 = 0 then (none) else (some (Int.tmod t201 a1, t202, t203)))) = some (r1, r2, r3) := H
  have A4 := zpS A40
  clear A40
  by_cases c5 : a1 > 200
  ·rw [if_pos c5] at H
   have c5b0 : decide (200 < a1) = true := decide_eq_true c5
   clear c5
   replace H := Option.bind_eq_some_iff.mp H
   obtain ⟨⟨t204, t205, t206⟩, A60, H⟩ := H
   replace H : (if a1 = 0 then (none) else (some (Int.tmod (wrap64 ((wrap64 (t201 * 256)) + t204)) a1, t205, t206))) = some (r1, r2, r3) := H
   have A6 := zpS A60
   clear A60
   by_cases c7 : a1 = 0
   ·rw [if_pos c7] at H
    exact absurd H (by simp)
   ·rw [if_neg c7] at H
    have c7b0 : (a1 == 0) = false := beq_eq_false_iff_ne.mpr c7
    have c7b1 : (a1 != 0) = true := bne_iff_ne.mpr c7
    simp only [Option.some.injEq, Prod.mk.injEq] at H
    obtain ⟨rfl, rfl, rfl⟩ := H
    go_enter Try.func87, Try.ntmps87
    go_wp2_with (first | ((with_reducible refine zgL (f := 111) rfl ?_); refine zqQ (some 9) rfl rfl Try.func111 (by kernel_rfl) rfl #[.pointer (some ⟨g, 0, none⟩)] rfl (by (try simp only [List.map_toArray, List.map_cons, List.map_nil]); first | done | rfl | (simp only [List.length_drop, List.length_take]; rfl)) ?_; (with_reducible refine (zqO.calls g s0_0 s0_1 s0_2 t201 t202 t203 w0 _ ?side1 ?side2 A4.out).mono ?_); (case side1 => repeat (first | (with_reducible first | exact HI0.out | apply zxI.alloc | apply zxI.drewN | apply zxI.drew | apply zxI.set_1 | apply zxI.set_2) | exact HI0.out)); (case side2 => repeat (first | (with_reducible first | exact HB.out | apply znU | apply zkZ | apply zvF | refine zjF ?_ (zxI.ge HI0.out)) | exact HB.out)); rintro e w8 ⟨rfl, hi, hb, hk⟩; refine ⟨_, rfl, ?_⟩; have n0_ := zpS (zwG.trans (by repeat (first | (with_reducible first | exact HK.out | apply zwG.set_ | apply zeS | apply zwU | apply zbV) | exact HK.out)) hk (.inl rfl)); have n1_ := zpS (hb); have n2_ := zpS (hi); clear HK; clear HB; clear HI0; have HK := n0_; have HB := n1_; have HI0 := n2_; clear n0_ n1_ n2_; (try clear hb); (try clear hb2)) | ((with_reducible refine zgL (f := 111) rfl ?_); refine zqQ (some 15) rfl rfl Try.func111 (by kernel_rfl) rfl #[.pointer (some ⟨g, 0, none⟩)] rfl (by (try simp only [List.map_toArray, List.map_cons, List.map_nil]); first | done | rfl | (simp only [List.length_drop, List.length_take]; rfl)) ?_; (with_reducible refine (zqO.calls g s0_0 t202 t203 t204 t205 t206 w0 _ ?side1 ?side2 A6.out).mono ?_); (case side1 => repeat (first | (with_reducible first | exact HI0.out | apply zxI.alloc | apply zxI.drewN | apply zxI.drew | apply zxI.set_1 | apply zxI.set_2) | exact HI0.out)); (case side2 => repeat (first | (with_reducible first | exact HB.out | apply znU | apply zkZ | apply zvF | refine zjF ?_ (zxI.ge HI0.out)) | exact HB.out)); rintro e w9 ⟨rfl, hi, hb, hk⟩; refine ⟨_, rfl, ?_⟩; have n0_ := zpS (zwG.trans (by repeat (first | (with_reducible first | exact HK.out | apply zwG.set_ | apply zeS | apply zwU | apply zbV) | exact HK.out)) hk (.inl rfl)); have n1_ := zpS (hb); have n2_ := zpS (hi); clear HK; clear HB; clear HI0; have HK := n0_; have HB := n1_; have HI0 := n2_; clear n0_ n1_ n2_; (try clear hb); (try clear hb2)))
    go_ret
    exact ⟨by first | rfl | (simp [ziS, znJ] <;> rfl) | (simp [*, ziS, znJ] <;> rfl), by repeat (first | (with_reducible first | exact HI0.out | apply zxI.alloc | apply zxI.drewN | apply zxI.drew | apply zxI.set_1 | apply zxI.set_2) | exact HI0.out), by repeat (first | (with_reducible first | exact HB.out | apply znU | apply zkZ | apply zvF | refine zjF ?_ (zxI.ge HI0.out)) | exact HB.out), by repeat (first | (with_reducible first | exact HK.out | apply zwG.set_ | apply zeS | apply zwU | apply zbV) | exact HK.out)⟩
  ·rw [if_neg c5] at H
   have c5b0 : decide (200 < a1) = false := decide_eq_false c5
   clear c5
   by_cases c10 : a1 = 0
   ·rw [if_pos c10] at H
    exact absurd H (by simp)
   ·rw [if_neg c10] at H
    have c10b0 : (a1 == 0) = false := beq_eq_false_iff_ne.mpr c10
    have c10b1 : (a1 != 0) = true := bne_iff_ne.mpr c10
    simp only [Option.some.injEq, Prod.mk.injEq] at H
    obtain ⟨rfl, rfl, rfl⟩ := H
    go_enter Try.func87, Try.ntmps87
    go_wp2_with (first | ((with_reducible refine zgL (f := 111) rfl ?_); refine zqQ (some 9) rfl rfl Try.func111 (by kernel_rfl) rfl #[.pointer (some ⟨g, 0, none⟩)] rfl (by (try simp only [List.map_toArray, List.map_cons, List.map_nil]); first | done | rfl | (simp only [List.length_drop, List.length_take]; rfl)) ?_; (with_reducible refine (zqO.calls g s0_0 s0_1 s0_2 t201 t202 t203 w0 _ ?side1 ?side2 A4.out).mono ?_); (case side1 => repeat (first | (with_reducible first | exact HI0.out | apply zxI.alloc | apply zxI.drewN | apply zxI.drew | apply zxI.set_1 | apply zxI.set_2) | exact HI0.out)); (case side2 => repeat (first | (with_reducible first | exact HB.out | apply znU | apply zkZ | apply zvF | refine zjF ?_ (zxI.ge HI0.out)) | exact HB.out)); rintro e w11 ⟨rfl, hi, hb, hk⟩; refine ⟨_, rfl, ?_⟩; have n0_ := zpS (zwG.trans (by repeat (first | (with_reducible first | exact HK.out | apply zwG.set_ | apply zeS | apply zwU | apply zbV) | exact HK.out)) hk (.inl rfl)); have n1_ := zpS (hb); have n2_ := zpS (hi); clear HK; clear HB; clear HI0; have HK := n0_; have HB := n1_; have HI0 := n2_; clear n0_ n1_ n2_; (try clear hb); (try clear hb2)))
    go_ret
    exact ⟨by first | rfl | (simp [ziS, znJ] <;> rfl) | (simp [*, ziS, znJ] <;> rfl), by repeat (first | (with_reducible first | exact HI0.out | apply zxI.alloc | apply zxI.drewN | apply zxI.drew | apply zxI.set_1 | apply zxI.set_2) | exact HI0.out), by repeat (first | (with_reducible first | exact HB.out | apply znU | apply zkZ | apply zvF | refine zjF ?_ (zxI.ge HI0.out)) | exact HB.out), by repeat (first | (with_reducible first | exact HK.out | apply zwG.set_ | apply zeS | apply zwU | apply zbV) | exact HK.out)⟩

def zmN.f (s0_0 : List Int) (s0_1 : Int) (s0_2 : Int) (a1 : Int) : Option (Bool × Int × Int) := (zcB.f s0_0 s0_1 s0_2 a1).bind fun bt207 => (some ((bt207.1 == 0), bt207.2.1, bt207.2.2))
set_option maxHeartbeats 8000000 in
set_option maxRecDepth 100000 in
theorem zmN.calls (g : Nat) (s0_0 : List Int) (s0_1 : Int) (s0_2 : Int) (a1 : Int) (r1 : Bool) (r2 : Int) (r3 : Int) (w0 w : World) (hI : zxI w0 w g s0_0 s0_1 s0_2) (hB : Below w0.heap.size w0 w) (h : zmN.f s0_0 s0_1 s0_2 a1 = some (r1, r2, r3)) :
  Calls Try.prog 66 #[.pointer (some ⟨g, 0, none⟩), .int .i64 a1] w fun e w' => e = .returned (.bool r1) ∧ zxI w0 w' g s0_0 r2 r3 ∧ Below w0.heap.size w0 w' ∧ zwG w w' g none := by
 have HI0 := zpS hI
 have HK := zpS (zwG.refl w g none)
 have HL := zpS hB.size
 clear hI
 have HW0 := zpS hB.size
 have HB := zpS hB
 clear hB
 have H : ((zcB.f s0_0 s0_1 s0_2 a1).bind fun bt207 => (some ((bt207.1 == 0), bt207.2.1, bt207.2.2))) = some (r1, r2, r3) := h
 clear h
 replace H := Option.bind_eq_some_iff.mp H
 obtain ⟨⟨t207, t208, t209⟩, A30, H⟩ := H
 replace H : (some ((t207 == 0), t208, t209)) = some (r1, r2, r3) := H
 have A3 := zpS A30
 clear A30
 simp only [Option.some.injEq, Prod.mk.injEq] at H
 obtain ⟨rfl, rfl, rfl⟩ := H
 go_enter Try.func66, Try.ntmps66
 go_wp2_with (first | ((with_reducible refine zgL (f := 87) rfl ?_); refine zqQ (some 7) rfl rfl Try.func87 (by kernel_rfl) rfl #[.pointer (some ⟨g, 0, none⟩), .int .i64 a1] rfl (by (try simp only [List.map_toArray, List.map_cons, List.map_nil]); first | done | rfl | (simp only [List.length_drop, List.length_take]; rfl)) ?_; (with_reducible refine (zcB.calls g s0_0 s0_1 s0_2 a1 t207 t208 t209 w0 _ ?side1 ?side2 A3.out).mono ?_); (case side1 => repeat (first | (with_reducible first | exact HI0.out | apply zxI.alloc | apply zxI.drewN | apply zxI.drew | apply zxI.set_1 | apply zxI.set_2) | exact HI0.out)); (case side2 => repeat (first | (with_reducible first | exact HB.out | apply znU | apply zkZ | apply zvF | refine zjF ?_ (zxI.ge HI0.out)) | exact HB.out)); rintro e w4 ⟨rfl, hi, hb, hk⟩; refine ⟨_, rfl, ?_⟩; have n0_ := zpS (zwG.trans (by repeat (first | (with_reducible first | exact HK.out | apply zwG.set_ | apply zeS | apply zwU | apply zbV) | exact HK.out)) hk (.inl rfl)); have n1_ := zpS (hb); have n2_ := zpS (hi); clear HK; clear HB; clear HI0; have HK := n0_; have HB := n1_; have HI0 := n2_; clear n0_ n1_ n2_; (try clear hb); (try clear hb2)))
 go_ret
 exact ⟨by first | rfl | (simp [ziS, znJ] <;> rfl) | (simp [*, ziS, znJ] <;> rfl), by repeat (first | (with_reducible first | exact HI0.out | apply zxI.alloc | apply zxI.drewN | apply zxI.drew | apply zxI.set_1 | apply zxI.set_2) | exact HI0.out), by repeat (first | (with_reducible first | exact HB.out | apply znU | apply zkZ | apply zvF | refine zjF ?_ (zxI.ge HI0.out)) | exact HB.out), by repeat (first | (with_reducible first | exact HK.out | apply zwG.set_ | apply zeS | apply zwU | apply zbV) | exact HK.out)⟩

def zmO.f (a0 : Int) (a1 : Int) : Option (Int) := if a0 < a1 then (some a0) else (some a1)
set_option maxHeartbeats 8000000 in
set_option maxRecDepth 100000 in
theorem zmO.calls (a0 : Int) (a1 : Int) (r : Int) (w : World) (h : zmO.f a0 a1 = some r) :
  Calls Try.prog 112 #[.int .i64 a0, .int .i64 a1] w fun e w' => e = .returned (.int .i64 r) ∧ Drawn0 w w' := by
 have H : (if a0 < a1 then (some a0) else (some a1)) = some r := h
 clear h
 by_cases c3 : a0 < a1
 ·rw [if_pos c3] at H
  have c3b0 : decide (a0 < a1) = true := decide_eq_true c3
  clear c3
  obtain rfl := Option.some.inj H
  go_enter Try.func112, Try.ntmps112
  go_wp2
  go_ret
  exact ⟨by first | rfl | (simp; done) | (simp [*]; done), by repeat (first | exact Drawn0.refl _ | apply Drawn0.step)⟩
 ·rw [if_neg c3] at H
  have c3b0 : decide (a0 < a1) = false := decide_eq_false c3
  clear c3
  obtain rfl := Option.some.inj H
  go_enter Try.func112, Try.ntmps112
  go_wp2
  go_ret
  exact ⟨by first | rfl | (simp; done) | (simp [*]; done), by repeat (first | exact Drawn0.refl _ | apply Drawn0.step)⟩

def zfT.l0 : Nat → Int → Int → List Int → List Int → Int → Int → Option (List Int × Int × Int)
 | 0, _, _, _, _, _, _ => none
 | k + 1, x1, x2, x7, x1000, x1001, x1002 => if x1 > 1 then ((zcB.f x1000 x1001 x1002 6).bind fun bt213 => ((zmO.f (wrap64 ((wrap64 (x2 - x1)) + 1)) (wrap64 (1 + bt213.1))).bind fun t216 => ((zcB.f x1000 bt213.2.1 bt213.2.2 t216).bind fun bt217 => (if x7.length < 17592186044416 then (zfT.l0 k (wrap64 (x1 - 1)) (wrap64 (x2 - (wrap64 (1 + bt217.1)))) (x7 ++ [wrap64 (1 + bt217.1)]) x1000 bt217.2.1 bt217.2.2) else (none))))) else (if x7.length < 17592186044416 then (some ((x7 ++ [x2]), x1001, x1002)) else (none))
def zfT.f (k : Nat) (s0_0 : List Int) (s0_1 : Int) (s0_2 : Int) (a1 : Int) (a2 : Int) : Option (List Int × Int × Int) := zfT.l0 k a1 a2 (([] : List Int)) s0_0 s0_1 s0_2
theorem zfT.mono_l : ∀ k, (∀ y0 y1 y2 y3 y4 y5, LeO (zfT.l0 k y0 y1 y2 y3 y4 y5) (zfT.l0 (k + 1) y0 y1 y2 y3 y4 y5))
 | 0 => fun _ _ _ _ _ _ r h => by simp [zfT.l0] at h
 | k + 1 => by
  have ih0 := zfT.mono_l k
  ·intro y0 y1 y2 y3 y4 y5
   unfold zfT.l0
   repeat' first
   | (with_reducible exact ih0 _ _ _ _ _ _)
   | (with_reducible exact LeO.refl _)
   | (with_reducible exact LeO.none _)
   | (with_reducible refine LeO.ite ?_ ?_)
   | (with_reducible refine LeO.bind ?_ (fun _ => ?_))
   | exact ih0 _ _ _ _ _ _
   | exact LeO.none _
   | refine LeO.ite ?_ ?_
   | refine LeO.bind ?_ (fun _ => ?_)
theorem zfT.mono : ∀ a0 a1 a2 a3 a4 k, LeO (zfT.f k a0 a1 a2 a3 a4) (zfT.f (k + 1) a0 a1 a2 a3 a4) := by
 intro a0 a1 a2 a3 a4 k
 have ih0 := zfT.mono_l k
 unfold zfT.f
 repeat' first
   | (with_reducible exact ih0 _ _ _ _ _ _)
   | (with_reducible exact LeO.refl _)
   | (with_reducible exact LeO.none _)
   | (with_reducible refine LeO.ite ?_ ?_)
   | (with_reducible refine LeO.bind ?_ (fun _ => ?_))
   | exact ih0 _ _ _ _ _ _
   | exact LeO.none _
   | refine LeO.ite ?_ ?_
   | refine LeO.bind ?_ (fun _ => ?_)
set_option maxHeartbeats 8000000 in
set_option maxRecDepth 100000 in
theorem zfT.calls (k : Nat) (g : Nat) (s0_0 : List Int) (s0_1 : Int) (s0_2 : Int) (a1 : Int) (a2 : Int) (r1 : List Int) (r2 : Int) (r3 : Int) (w0 w : World) (hI : zxI w0 w g s0_0 s0_1 s0_2) (hB : Below w0.heap.size w0 w) (h : zfT.f k s0_0 s0_1 s0_2 a1 a2 = some (r1, r2, r3)) :
  Calls Try.prog 88 #[.pointer (some ⟨g, 0, none⟩), .int .i64 a1, .int .i64 a2] w fun e w' => ∃ v0_ : Value, e = .returned (v0_) ∧ Kd.R (Kd.int .i64) 2 w' w.heap.size (fun _ => True) v0_ r1 ∧ zxI w0 w' g s0_0 r2 r3 ∧ Below w0.heap.size w0 w' ∧ zwG w w' g none := by
 have HI0 := zpS hI
 have HK := zpS (zwG.refl w g none)
 have HL := zpS hB.size
 clear hI
 have HW0 := zpS hB.size
 have HB := zpS hB
 clear hB
 have H : (zfT.l0 k a1 a2 (([] : List Int)) s0_0 s0_1 s0_2) = some (r1, r2, r3) := h
 clear h
 obtain ⟨y210, hy210⟩ : ∃ y_ : List Int, y_ = (([] : List Int)) := ⟨_, rfl⟩
 replace H : (zfT.l0 k a1 a2 y210 s0_0 s0_1 s0_2) = some (r1, r2, r3) := by first | (rw [hy210]; with_reducible exact H) | (have H2_ := (Option.bind_some _ _).symm.trans H; rw [hy210]; with_reducible exact H2_) | (have H2_ := (Option.bind_some _ _).symm.trans H; with_reducible exact H2_) | with_reducible exact H | (rw [hy210]; exact H) | exact H
 have Ny210 := zpS hy210
 clear hy210
 have H' := zpS H
 clear H
 go_enter Try.func88, Try.ntmps88
 go_wp2_with (first | ((with_reducible refine gate_dst (N := 10) rfl ?_); refine Kd.R_lit (Kd.int .i64) _ 2 ?hg (N := 10) ?hd (xs := ([] : List Int)) (zlR := []) (ok := fun _ => True) (okp := fun _ => True) ?hr ?hp (fun _ hk => hk) trivial (Below.refl _ _) (Nat.le_refl _) (by simp) ?_; (case hd => rfl); (case hg => rfl); (case hr => first | (go_simp; done) | (go_simp; rfl)); (case hp => exact (zfH.none _ _)); intro v211 w4 ho5 hb hg_ hnew_; clear hg_ hnew_; (first | rw [← Ny210.out] at ho5 | (simp only [Int.reduceToNat] at ho5; rw [← Ny210.out] at ho5)); have n0_ := zpS (Kd.R_lower ho5 (keep_size (w := w) (g := g) (row := none) (by repeat (first | (with_reducible first | exact HK.out | apply zwG.set_ | apply zeS | apply zwU | apply zbV) | exact HK.out)))); have n1_ := zpS (zxI.below (by repeat (first | (with_reducible first | exact HI0.out | apply zxI.alloc | apply zxI.drewN | apply zxI.drew | apply zxI.set_1 | apply zxI.set_2) | exact HI0.out)) hb); have n2_ := zpS (zwG.trans (by repeat (first | (with_reducible first | exact HK.out | apply zwG.set_ | apply zeS | apply zwU | apply zbV) | exact HK.out)) (zwG.of_below hb g none) (.inl rfl)); have n3_ := zpS (zkR (by repeat (first | (with_reducible first | exact HB.out | apply znU | apply zkZ | apply zvF | refine zjF ?_ (zxI.ge HI0.out)) | exact HB.out)) hb); clear HI0; clear HK; clear HB; have HO212 := n0_; have HI0 := n1_; have HK := n2_; have HB := n3_; clear n0_ n1_ n2_ n3_; clear hb ho5))
 (try go_simp)
 go_loopg [1, 2, 7] k (fun kq v1 v2 v7 w' => ∃ (x1_1 : Int) (x2_1 : Int) (x7_1 : List Int) (x1001_1 : Int) (x1002_1 : Int), v1 = .int .i64 x1_1 ∧ v2 = .int .i64 x2_1 ∧ Aside0 (zfT.l0 kq x1_1 x2_1 x7_1 s0_0 x1001_1 x1002_1 = some (r1, r2, r3)) ∧ Aside0 (kq ≤ k) ∧ Aside0 (Kd.R (Kd.int .i64) 2 w' w.heap.size (fun _ => True) v7 x7_1) ∧ Aside0 (zxI w0 w' g s0_0 x1001_1 x1002_1) ∧ Aside0 (zwG w w' g none) ∧ Aside0 (Below w0.heap.size w0 w'))
 case atStart => exact ⟨(a1), (a2), (y210), (s0_1), (s0_2), (by first | rfl | (simp; done) | (simp [*]; done)), (by first | rfl | (simp; done) | (simp [*]; done)), H', ⟨Nat.le_refl _⟩, ⟨by (with_reducible repeat (first | apply Kd.R_alloc | apply Kd.R_drewN | apply Kd.R_drew)); exact HO212.out⟩, ⟨by repeat (first | (with_reducible first | exact HI0.out | apply zxI.alloc | apply zxI.drewN | apply zxI.drew | apply zxI.set_1 | apply zxI.set_2) | exact HI0.out)⟩, ⟨by repeat (first | (with_reducible first | exact HK.out | apply zwG.set_ | apply zeS | apply zwU | apply zbV) | exact HK.out)⟩, ⟨by repeat (first | (with_reducible first | exact HB.out | apply znU | apply zkZ | apply zvF | refine zjF ?_ (zxI.ge HI0.out)) | exact HB.out)⟩⟩
 case round =>
  clear H'
  try clear p2
  obtain ⟨x1_1, x2_1, x7_1, x1001_1, x1002_1, rfl, rfl, HA, HK1, HO_7, HI0, HK, HB⟩ := hrel
  cases gk with
  | zero => exact absurd HA.out (by simp [zfT.l0])
  | succ k1 =>
   have H := HA.out
   clear HA
   simp only [zfT.l0] at H
   by_cases c6 : x1_1 > 1
   ·rw [if_pos c6] at H
    have c6b0 : decide (1 < x1_1) = true := decide_eq_true c6
    clear c6
    replace H := Option.bind_eq_some_iff.mp H
    obtain ⟨⟨t213, t214, t215⟩, A70, H⟩ := H
    replace H : ((zmO.f (wrap64 ((wrap64 (x2_1 - x1_1)) + 1)) (wrap64 (1 + t213))).bind fun t216 => ((zcB.f s0_0 t214 t215 t216).bind fun bt217 => (if x7_1.length < 17592186044416 then (zfT.l0 k1 (wrap64 (x1_1 - 1)) (wrap64 (x2_1 - (wrap64 (1 + bt217.1)))) (x7_1 ++ [wrap64 (1 + bt217.1)]) s0_0 bt217.2.1 bt217.2.2) else (none)))) = some (r1, r2, r3) := H
    have A7 := zpS A70
    clear A70
    replace H := Option.bind_eq_some_iff.mp H
    obtain ⟨t216, A80, H⟩ := H
    replace H : ((zcB.f s0_0 t214 t215 t216).bind fun bt217 => (if x7_1.length < 17592186044416 then (zfT.l0 k1 (wrap64 (x1_1 - 1)) (wrap64 (x2_1 - (wrap64 (1 + bt217.1)))) (x7_1 ++ [wrap64 (1 + bt217.1)]) s0_0 bt217.2.1 bt217.2.2) else (none))) = some (r1, r2, r3) := H
    have A8 := zpS A80
    clear A80
    replace H := Option.bind_eq_some_iff.mp H
    obtain ⟨⟨t217, t218, t219⟩, A90, H⟩ := H
    replace H : (if x7_1.length < 17592186044416 then (zfT.l0 k1 (wrap64 (x1_1 - 1)) (wrap64 (x2_1 - (wrap64 (1 + t217)))) (x7_1 ++ [wrap64 (1 + t217)]) s0_0 t218 t219) else (none)) = some (r1, r2, r3) := H
    have A9 := zpS A90
    clear A90
    by_cases c10 : x7_1.length < 17592186044416
    ·rw [if_pos c10] at H
     have LMc10 := zpS c10
     clear c10
     obtain ⟨y220, hy220⟩ : ∃ y_ : List Int, y_ = (x7_1 ++ [wrap64 (1 + t217)]) := ⟨_, rfl⟩
     replace H : (zfT.l0 k1 (wrap64 (x1_1 - 1)) (wrap64 (x2_1 - (wrap64 (1 + t217)))) y220 s0_0 t218 t219) = some (r1, r2, r3) := by first | (rw [hy220]; with_reducible exact H) | (have H2_ := (Option.bind_some _ _).symm.trans H; rw [hy220]; with_reducible exact H2_) | (have H2_ := (Option.bind_some _ _).symm.trans H; with_reducible exact H2_) | with_reducible exact H | (rw [hy220]; exact H) | exact H
     have Ny220 := zpS hy220
     clear hy220
     have H' := zpS H
     clear H
     go_wp2_with (first | ((with_reducible refine zgL (f := 87) rfl ?_); refine zqQ (some 20) rfl rfl Try.func87 (by kernel_rfl) rfl #[.pointer (some ⟨g, 0, none⟩), .int .i64 6] rfl (by (try simp only [List.map_toArray, List.map_cons, List.map_nil]); first | done | rfl | (simp only [List.length_drop, List.length_take]; rfl)) ?_; (with_reducible refine (zcB.calls g s0_0 x1001_1 x1002_1 6 t213 t214 t215 w0 _ ?side1 ?side2 A7.out).mono ?_); (case side1 => repeat (first | (with_reducible first | exact HI0.out | apply zxI.alloc | apply zxI.drewN | apply zxI.drew | apply zxI.set_1 | apply zxI.set_2) | exact HI0.out)); (case side2 => repeat (first | (with_reducible first | exact HB.out | apply znU | apply zkZ | apply zvF | refine zjF ?_ (zxI.ge HI0.out)) | exact HB.out)); rintro e w11 ⟨rfl, hi, hb, hk⟩; refine ⟨_, rfl, ?_⟩; have n0_ := zpS (Kd.R_mono (Kd.R_keep (zxI.apart (show zxI w0 _ g s0_0 x1001_1 x1002_1 from by repeat (first | (with_reducible first | exact HI0.out | apply zxI.alloc | apply zxI.drewN | apply zxI.drew | apply zxI.set_1 | apply zxI.set_2) | exact HI0.out)) (by (with_reducible repeat (first | apply Kd.R_alloc | apply Kd.R_drewN | apply Kd.R_drew)); exact HO_7.out) (by decide)) hk (fun _ h => h.2)) (fun _ h => h.1)); have n1_ := zpS (zwG.trans (by repeat (first | (with_reducible first | exact HK.out | apply zwG.set_ | apply zeS | apply zwU | apply zbV) | exact HK.out)) hk (.inl rfl)); have n2_ := zpS (hb); have n3_ := zpS (hi); clear HO_7; clear HK; clear HB; clear HI0; have HO_7 := n0_; have HK := n1_; have HB := n2_; have HI0 := n3_; clear n0_ n1_ n2_ n3_; (try clear hb); (try clear hb2)) | ((with_reducible refine zgL (f := 112) rfl ?_); refine zqQ (some 22) rfl rfl Try.func112 (by kernel_rfl) rfl #[.int .i64 (wrap64 ((wrap64 (x2_1 - x1_1)) + 1)), .int .i64 (wrap64 (1 + t213))] rfl (by (try simp only [List.map_toArray, List.map_cons, List.map_nil]); first | done | rfl | (simp only [List.length_drop, List.length_take]; rfl)) ?_; (with_reducible refine (zmO.calls (wrap64 ((wrap64 (x2_1 - x1_1)) + 1)) (wrap64 (1 + t213)) t216 _ A8.out).mono ?_); rintro e w' ⟨rfl, ⟨nd, rfl⟩⟩; refine ⟨_, rfl, ?_⟩) | ((with_reducible refine zgL (f := 87) rfl ?_); refine zqQ (some 25) rfl rfl Try.func87 (by kernel_rfl) rfl #[.pointer (some ⟨g, 0, none⟩), .int .i64 t216] rfl (by (try simp only [List.map_toArray, List.map_cons, List.map_nil]); first | done | rfl | (simp only [List.length_drop, List.length_take]; rfl)) ?_; (with_reducible refine (zcB.calls g s0_0 t214 t215 t216 t217 t218 t219 w0 _ ?side1 ?side2 A9.out).mono ?_); (case side1 => repeat (first | (with_reducible first | exact HI0.out | apply zxI.alloc | apply zxI.drewN | apply zxI.drew | apply zxI.set_1 | apply zxI.set_2) | exact HI0.out)); (case side2 => repeat (first | (with_reducible first | exact HB.out | apply znU | apply zkZ | apply zvF | refine zjF ?_ (zxI.ge HI0.out)) | exact HB.out)); rintro e w12 ⟨rfl, hi, hb, hk⟩; refine ⟨_, rfl, ?_⟩; have n0_ := zpS (Kd.R_mono (Kd.R_keep (zxI.apart (show zxI w0 _ g s0_0 t214 t215 from by repeat (first | (with_reducible first | exact HI0.out | apply zxI.alloc | apply zxI.drewN | apply zxI.drew | apply zxI.set_1 | apply zxI.set_2) | exact HI0.out)) (by (with_reducible repeat (first | apply Kd.R_alloc | apply Kd.R_drewN | apply Kd.R_drew)); exact HO_7.out) (by decide)) hk (fun _ h => h.2)) (fun _ h => h.1)); have n1_ := zpS (zwG.trans (by repeat (first | (with_reducible first | exact HK.out | apply zwG.set_ | apply zeS | apply zwU | apply zbV) | exact HK.out)) hk (.inl rfl)); have n2_ := zpS (hb); have n3_ := zpS (hi); clear HO_7; clear HK; clear HB; clear HI0; have HO_7 := n0_; have HK := n1_; have HB := n2_; have HI0 := n3_; clear n0_ n1_ n2_ n3_; (try clear hb); (try clear hb2)) | ((with_reducible refine zcM (b := .append) (xs := #[.tmp 27, .tmp 29]) rfl ?_); at_builtin; refine Kd.R_append (Kd.int .i64) w.heap.size rfl (.tmp 27) (.tmp 29) 22 2 (.int .i64 0) 8 rfl Try.underlying22 info2 rfl (by decide) (by omega) u7 x7_1 (wrap64 (1 + t217)) [.int .i64 (wrap64 (1 + t217))] (fun _ => True) (fun _ => False) rfl rfl ?aP (fun _ hk => hk.elim) ?aF ?aO (Below.refl _ _) ?aS ?aL ?_; (case aP => exact rfl); (case aF => exact (fun _ _ => trivial)); (case aO => exact (by (with_reducible repeat (first | apply Kd.R_alloc | apply Kd.R_drewN | apply Kd.R_drew)); exact HO_7.out)); (case aS => exact (keep_size (w := w) (g := g) (row := none) (by repeat (first | (with_reducible first | exact HK.out | apply zwG.set_ | apply zeS | apply zwU | apply zbV) | exact HK.out)))); (case aL => have := LMc10.out; omega); intro v221 w13 ho hb hg hat; rw [← Ny220.out] at ho; have n0_ := zpS (zxI.grown (by repeat (first | (with_reducible first | exact HI0.out | apply zxI.alloc | apply zxI.drewN | apply zxI.drew | apply zxI.set_1 | apply zxI.set_2) | exact HI0.out)) hg (zxI.own_ne HI0.out HO_7.out (by decide))); have n1_ := zpS (below_weaken (by repeat (first | (with_reducible first | exact HB.out | apply znU | apply zkZ | apply zvF | refine zjF ?_ (zxI.ge HI0.out)) | exact HB.out)) HL.out hb); have n2_ := zpS (zwG.trans (by repeat (first | (with_reducible first | exact HK.out | apply zwG.set_ | apply zeS | apply zwU | apply zbV) | exact HK.out)) (zwG.of_grown hg g) (Kd.R_base2 HO_7.out)); have n3_ := zpS (ho); clear HI0; clear HB; clear HK; clear HO_7; have HI0 := n0_; have HB := n1_; have HK := n2_; have HO222 := n3_; clear n0_ n1_ n2_ n3_; clear ho hb hg hat))
     go_roundg k1
     case measure => have := HK1.out; omega
     case rel => exact ⟨(wrap64 (x1_1 - 1)), (wrap64 (x2_1 - (wrap64 (1 + t217)))), (y220), (t218), (t219), (by first | rfl | (simp; done) | (simp [*]; done)), (by first | rfl | (simp; done) | (simp [*]; done)), H', ⟨by have := HK1.out; omega⟩, ⟨by (with_reducible repeat (first | apply Kd.R_alloc | apply Kd.R_drewN | apply Kd.R_drew)); exact HO222.out⟩, ⟨by repeat (first | (with_reducible first | exact HI0.out | apply zxI.alloc | apply zxI.drewN | apply zxI.drew | apply zxI.set_1 | apply zxI.set_2) | exact HI0.out)⟩, ⟨by repeat (first | (with_reducible first | exact HK.out | apply zwG.set_ | apply zeS | apply zwU | apply zbV) | exact HK.out)⟩, ⟨by repeat (first | (with_reducible first | exact HB.out | apply znU | apply zkZ | apply zvF | refine zjF ?_ (zxI.ge HI0.out)) | exact HB.out)⟩⟩
    ·rw [if_neg c10] at H
     exact absurd H (by simp)
   ·rw [if_neg c6] at H
    have c6b0 : decide (1 < x1_1) = false := decide_eq_false c6
    clear c6
    by_cases c14 : x7_1.length < 17592186044416
    ·rw [if_pos c14] at H
     have LMc14 := zpS c14
     clear c14
     obtain ⟨y223, hy223⟩ : ∃ y_ : List Int, y_ = (x7_1 ++ [x2_1]) := ⟨_, rfl⟩
     replace H : (some (y223, x1001_1, x1002_1)) = some (r1, r2, r3) := by first | (rw [hy223]; with_reducible exact H) | (have H2_ := (Option.bind_some _ _).symm.trans H; rw [hy223]; with_reducible exact H2_) | (have H2_ := (Option.bind_some _ _).symm.trans H; with_reducible exact H2_) | with_reducible exact H | (rw [hy223]; exact H) | exact H
     have Ny223 := zpS hy223
     clear hy223
     simp only [Option.some.injEq, Prod.mk.injEq] at H
     obtain ⟨rfl, rfl, rfl⟩ := H
     go_wp2_with (first | ((with_reducible refine zcM (b := .append) (xs := #[.tmp 34, .tmp 36]) rfl ?_); at_builtin; refine Kd.R_append (Kd.int .i64) w.heap.size rfl (.tmp 34) (.tmp 36) 22 2 (.int .i64 0) 8 rfl Try.underlying22 info2 rfl (by decide) (by omega) u7 x7_1 x2_1 [.int .i64 x2_1] (fun _ => True) (fun _ => False) rfl rfl ?aP (fun _ hk => hk.elim) ?aF ?aO (Below.refl _ _) ?aS ?aL ?_; (case aP => exact rfl); (case aF => exact (fun _ _ => trivial)); (case aO => exact (by (with_reducible repeat (first | apply Kd.R_alloc | apply Kd.R_drewN | apply Kd.R_drew)); exact HO_7.out)); (case aS => exact (keep_size (w := w) (g := g) (row := none) (by repeat (first | (with_reducible first | exact HK.out | apply zwG.set_ | apply zeS | apply zwU | apply zbV) | exact HK.out)))); (case aL => have := LMc14.out; omega); intro v224 w15 ho hb hg hat; rw [← Ny223.out] at ho; have n0_ := zpS (zxI.grown (by repeat (first | (with_reducible first | exact HI0.out | apply zxI.alloc | apply zxI.drewN | apply zxI.drew | apply zxI.set_1 | apply zxI.set_2) | exact HI0.out)) hg (zxI.own_ne HI0.out HO_7.out (by decide))); have n1_ := zpS (below_weaken (by repeat (first | (with_reducible first | exact HB.out | apply znU | apply zkZ | apply zvF | refine zjF ?_ (zxI.ge HI0.out)) | exact HB.out)) HL.out hb); have n2_ := zpS (zwG.trans (by repeat (first | (with_reducible first | exact HK.out | apply zwG.set_ | apply zeS | apply zwU | apply zbV) | exact HK.out)) (zwG.of_grown hg g) (Kd.R_base2 HO_7.out)); have n3_ := zpS (ho); clear HI0; clear HB; clear HK; clear HO_7; have HI0 := n0_; have HB := n1_; have HK := n2_; have HO225 := n3_; clear n0_ n1_ n2_ n3_; clear ho hb hg hat))
     go_ret
     exact ⟨_, by first | rfl | (simp [ziS, znJ] <;> rfl) | (simp [*, ziS, znJ] <;> rfl), by (with_reducible repeat (first | apply Kd.R_alloc | apply Kd.R_drewN | apply Kd.R_drew)); exact HO225.out, by repeat (first | (with_reducible first | exact HI0.out | apply zxI.alloc | apply zxI.drewN | apply zxI.drew | apply zxI.set_1 | apply zxI.set_2) | exact HI0.out), by repeat (first | (with_reducible first | exact HB.out | apply znU | apply zkZ | apply zvF | refine zjF ?_ (zxI.ge HI0.out)) | exact HB.out), by repeat (first | (with_reducible first | exact HK.out | apply zwG.set_ | apply zeS | apply zwU | apply zbV) | exact HK.out)⟩
    ·rw [if_neg c14] at H
     exact absurd H (by simp)

def znA.f (l0 : List Int) : Option (List Int) := (some (([] : List Int) : List Int)).bind fun y226 => (if y226.length + l0.length < 17592186044416 then (some (y226 ++ l0)) else (none))
set_option maxHeartbeats 8000000 in
set_option maxRecDepth 100000 in
theorem znA.calls (A0 : Option Addr) (c0 : Nat) (l0 : List Int) (r : List Int) (w : World) (hr0 : Kd.C (Kd.int .i64) w A0 l0.length l0) (hc0 : l0.length ≤ c0) (h : znA.f l0 = some r) :
  Calls Try.prog 105 #[.slice A0 l0.length c0] w fun e w' => ∃ v0_ : Value, e = .returned (v0_) ∧ Kd.R (Kd.int .i64) 2 w' w.heap.size (fun _ => True) v0_ r ∧ Below w.heap.size w w' := by
 have HR0 := zpS hr0
 have HC0 := zpS hc0
 clear hr0 hc0
 have HB := zpS (Below.refl w.heap.size w)
 have H : ((some (([] : List Int) : List Int)).bind fun y226 => (if y226.length + l0.length < 17592186044416 then (some (y226 ++ l0)) else (none))) = some r := h
 clear h
 obtain ⟨y226, hy226⟩ : ∃ y_ : List Int, y_ = (([] : List Int)) := ⟨_, rfl⟩
 replace H : (if y226.length + l0.length < 17592186044416 then (some (y226 ++ l0)) else (none)) = some r := by first | (rw [hy226]; with_reducible exact H) | (have H2_ := (Option.bind_some _ _).symm.trans H; rw [hy226]; with_reducible exact H2_) | (have H2_ := (Option.bind_some _ _).symm.trans H; with_reducible exact H2_) | with_reducible exact H | (rw [hy226]; exact H) | exact H
 have Ny226 := zpS hy226
 clear hy226
 by_cases c2 : y226.length + l0.length < 17592186044416
 ·rw [if_pos c2] at H
  have LMc2 := zpS c2
  clear c2
  obtain ⟨y229, hy229⟩ : ∃ y_ : List Int, y_ = (y226 ++ l0) := ⟨_, rfl⟩
  replace H : (some y229) = some r := by first | (rw [hy229]; with_reducible exact H) | (have H2_ := (Option.bind_some _ _).symm.trans H; rw [hy229]; with_reducible exact H2_) | (have H2_ := (Option.bind_some _ _).symm.trans H; with_reducible exact H2_) | with_reducible exact H | (rw [hy229]; exact H) | exact H
  have Ny229 := zpS hy229
  clear hy229
  obtain rfl := Option.some.inj H
  go_enter Try.func105, Try.ntmps105
  go_wp2_with (first | ((with_reducible refine gate_dst (N := 3) rfl ?_); refine Kd.R_lit (Kd.int .i64) _ 2 ?hg (N := 3) ?hd (xs := ([] : List Int)) (zlR := []) (ok := fun _ => True) (okp := fun _ => True) ?hr ?hp (fun _ hk => hk) trivial (Below.refl _ _) (Nat.le_refl _) (by simp) ?_; (case hd => rfl); (case hg => rfl); (case hr => first | (go_simp; done) | (go_simp; rfl)); (case hp => exact (zfH.none _ _)); intro v227 w3 ho4 hb hg_ hnew_; clear hg_ hnew_; (first | rw [← Ny226.out] at ho4 | (simp only [Int.reduceToNat] at ho4; rw [← Ny226.out] at ho4)); have n0_ := zpS (Kd.R_lower ho4 (zuA bb_)); have n1_ := (ns_ hb); clear HB; have HO228 := n0_; have HB := n1_; clear n0_ n1_; clear hb ho4) | ((with_reducible refine zcM (b := .append) (xs := #[.tmp 3, .tmp 4]) rfl ?_); at_builtin; refine Kd.R_append_rows (Kd.int .i64) (w0 := w) w.heap.size rfl (.tmp 3) (.tmp 4) 22 2 (.int .i64 0) 8 rfl Try.underlying22 info2 rfl (by decide) (by omega) v227 y226 l0 _ _ _ (fun _ => True) (fun _ => False) rfl rfl ?aO ?aR (fun _ _ h => h) (fun _ h => h.elim) ?aF ?aB ?aS ?aL ?_; (case aR => repeat (first | exact (Kd.C_below HR0.out HB.out) | (with_reducible refine Kd.C_alloc ?_ _) | (with_reducible refine Kd.C_drewN ?_ _) | (with_reducible refine Kd.C_drew ?_))); (case aB => exact bb_); (case aF => exact (fun _ _ => trivial)); (case aO => exact (by (with_reducible repeat (first | apply Kd.R_alloc | apply Kd.R_drewN | apply Kd.R_drew)); exact HO228.out)); (case aS => exact (zuA bb_)); (case aL => have := LMc2.out; omega); intro v230 w5 ho hb hg hat; rw [← Ny229.out] at ho; have n0_ := zpS (hb); have n1_ := zpS (ho); clear HB; clear HO228; have HB := n0_; have HO231 := n1_; clear n0_ n1_; clear ho hb hg hat))
  go_ret
  exact ⟨_, by first | rfl | (simp [ziS, znJ] <;> rfl) | (simp [*, ziS, znJ] <;> rfl), by (with_reducible repeat (first | apply Kd.R_alloc | apply Kd.R_drewN | apply Kd.R_drew)); exact HO231.out, bb_⟩
 ·rw [if_neg c2] at H
  exact absurd H (by simp)

def zrU.f (l0 : List Int) (a1 : Int) : Option (List Int) := if 0 ≤ a1 then (if a1 ≤ (l0.length : Int) then ((znA.f (l0.drop (a1 : Int).toNat)).bind fun t233 => (if t233.length + (l0.take (a1 : Int).toNat).length < 17592186044416 then (some (t233 ++ (l0.take (a1 : Int).toNat))) else (none))) else (none)) else (none)
set_option maxHeartbeats 8000000 in
set_option maxRecDepth 100000 in
theorem zrU.calls (A0 : Option Addr) (c0 : Nat) (l0 : List Int) (a1 : Int) (r : List Int) (w : World) (hr0 : Kd.C (Kd.int .i64) w A0 l0.length l0) (hc0 : l0.length ≤ c0) (h : zrU.f l0 a1 = some r) :
  Calls Try.prog 89 #[.slice A0 l0.length c0, .int .i64 a1] w fun e w' => ∃ v0_ : Value, e = .returned (v0_) ∧ Kd.R (Kd.int .i64) 2 w' w.heap.size (fun _ => True) v0_ r ∧ Below w.heap.size w w' := by
 have HR0 := zpS hr0
 have HC0 := zpS hc0
 clear hr0 hc0
 have HB := zpS (Below.refl w.heap.size w)
 have H : (if 0 ≤ a1 then (if a1 ≤ (l0.length : Int) then ((znA.f (l0.drop (a1 : Int).toNat)).bind fun t233 => (if t233.length + (l0.take (a1 : Int).toNat).length < 17592186044416 then (some (t233 ++ (l0.take (a1 : Int).toNat))) else (none))) else (none)) else (none)) = some r := h
 clear h
 by_cases c3 : 0 ≤ a1
 ·rw [if_pos c3] at H
  have c3b0 := eq_true c3
  have c3b1 : decide (0 ≤ a1) = true := decide_eq_true c3
  clear c3
  by_cases c4 : a1 ≤ (l0.length : Int)
  ·rw [if_pos c4] at H
   have c4b0 := eq_true c4
   have c4b1 : decide (a1 ≤ (l0.length : Int)) = true := decide_eq_true c4
   clear c4
   replace H := Option.bind_eq_some_iff.mp H
   obtain ⟨t233, A50, H⟩ := H
   replace H : (if t233.length + (l0.take (a1 : Int).toNat).length < 17592186044416 then (some (t233 ++ (l0.take (a1 : Int).toNat))) else (none)) = some r := H
   have A5 := zpS A50
   clear A50
   have c6b0 := eq_true (of_decide_eq_true (by first | (with_reducible assumption) | assumption) : 0 ≤ a1)
   have c7b0 := eq_true (of_decide_eq_true (by first | (with_reducible assumption) | assumption) : a1 ≤ (l0.length : Int))
   by_cases c8 : t233.length + (l0.take (a1 : Int).toNat).length < 17592186044416
   ·rw [if_pos c8] at H
    have LMc8 := zpS c8
    clear c8
    obtain ⟨y237, hy237⟩ : ∃ y_ : List Int, y_ = (t233 ++ (l0.take (a1 : Int).toNat)) := ⟨_, rfl⟩
    replace H : (some y237) = some r := by first | (rw [hy237]; with_reducible exact H) | (have H2_ := (Option.bind_some _ _).symm.trans H; rw [hy237]; with_reducible exact H2_) | (have H2_ := (Option.bind_some _ _).symm.trans H; with_reducible exact H2_) | with_reducible exact H | (rw [hy237]; exact H) | exact H
    have Ny237 := zpS hy237
    clear hy237
    obtain rfl := Option.some.inj H
    obtain ⟨i09, hi09, _, hsz9, _⟩ := info_parts info2
    obtain ⟨A9, hcut9, hA9, hC9⟩ := print_drop_of (P := Try.prog) (Value.int .i64) 0 22 2 .i64 Try.underlying22 hi09 hsz9 A0 c0 l0 a1 (of_decide_eq_true (by first | (with_reducible assumption) | assumption)) (of_decide_eq_true (by first | (with_reducible assumption) | assumption)) HC0.out
    have HR232 := zpS (Kd.C_of_reads (h1 := fun _ => rfl) (hA9 _ (Kd.reads_of_C HR0.out)))
    have HC232 := zpS hC9
    clear hA9 hC9 hi09 hsz9
    go_enter Try.func89, Try.ntmps89
    go_wp2_with (first | ((with_reducible refine zgL (f := 105) rfl ?_); refine zqQ (some 9) rfl rfl Try.func105 (by kernel_rfl) rfl #[.slice A9 (l0.drop (a1 : Int).toNat).length (c0 - a1.toNat)] rfl (by (try simp only [List.map_toArray, List.map_cons, List.map_nil]); first | done | (rw [show (l0.drop (a1 : Int).toNat).length = (l0.length - a1.toNat) from List.length_drop] <;> rfl) | rfl | (simp only [List.length_drop, List.length_take]; rfl)) ?_; (with_reducible refine (znA.calls _ _ (l0.drop (a1 : Int).toNat) t233 _ ?side1 ?side2 A5.out).mono ?_); (case side1 => repeat (first | exact HR232.out | (with_reducible refine Kd.C_alloc ?_ _) | (with_reducible refine Kd.C_drewN ?_ _) | (with_reducible refine Kd.C_drew ?_))); (case side2 => exact HC232.out); rintro e w10 ⟨v234, rfl, ho0, hb⟩; refine ⟨_, rfl, ?_⟩; have n0_ := zpS (Kd.R_lower ho0 (zuA bb_)); have n1_ := (ns_ hb); clear HB; have HO235 := n0_; have HB := n1_; clear n0_ n1_; (try clear hb); (try clear hb2); (try clear ho0); obtain ⟨i011, hi011, _, hsz11, _⟩ := info_parts info2; obtain ⟨hcut11, hA11, hC11⟩ := print_take_of (P := Try.prog) (Value.int .i64) 0 22 2 .i64 Try.underlying22 hi011 hsz11 A0 c0 l0 a1 (of_decide_eq_true (by first | (with_reducible assumption) | assumption)) (of_decide_eq_true (by first | (with_reducible assumption) | assumption)) HC0.out; have HR236 := zpS (Kd.C_of_reads (h1 := fun _ => rfl) (hA11 _ (Kd.reads_of_C HR0.out))); have HC236 := zpS hC11; clear hA11 hC11 hi011 hsz11) | ((with_reducible refine zcM (b := .append) (xs := #[.tmp 10, .tmp 13]) rfl ?_); at_builtin; refine Kd.R_append_rows (Kd.int .i64) (w0 := w) w.heap.size rfl (.tmp 10) (.tmp 13) 22 2 (.int .i64 0) 8 rfl Try.underlying22 info2 rfl (by decide) (by omega) v234 t233 (l0.take (a1 : Int).toNat) _ _ _ (fun _ => True) (fun _ => False) rfl rfl ?aO ?aR (fun _ _ h => h) (fun _ h => h.elim) ?aF ?aB ?aS ?aL ?_; (case aR => first | (have hz_ := HR236.out; rw [show (l0.take (a1 : Int).toNat).length = a1.toNat from (by rw [List.length_take]; have h_ : (a1 : Int) ≤ (l0.length : Int) := of_decide_eq_true (by first | (with_reducible assumption) | assumption); omega)] at hz_; repeat (first | exact (Kd.C_below hz_ HB.out) | (with_reducible refine Kd.C_alloc ?_ _) | (with_reducible refine Kd.C_drewN ?_ _) | (with_reducible refine Kd.C_drew ?_))) | (rw [← show (l0.take (a1 : Int).toNat).length = a1.toNat from (by rw [List.length_take]; have h_ : (a1 : Int) ≤ (l0.length : Int) := of_decide_eq_true (by first | (with_reducible assumption) | assumption); omega)]; repeat (first | exact (Kd.C_below HR236.out HB.out) | (with_reducible refine Kd.C_alloc ?_ _) | (with_reducible refine Kd.C_drewN ?_ _) | (with_reducible refine Kd.C_drew ?_))) | (repeat (first | exact (Kd.C_below HR236.out HB.out) | (with_reducible refine Kd.C_alloc ?_ _) | (with_reducible refine Kd.C_drewN ?_ _) | (with_reducible refine Kd.C_drew ?_)))); (case aB => exact bb_); (case aF => exact (fun _ _ => trivial)); (case aO => exact (by (with_reducible repeat (first | apply Kd.R_alloc | apply Kd.R_drewN | apply Kd.R_drew)); exact HO235.out)); (case aS => exact (zuA bb_)); (case aL => have := LMc8.out; have hlx_ := (show (l0.take (a1 : Int).toNat).length = a1.toNat from (by rw [List.length_take]; have h_ : (a1 : Int) ≤ (l0.length : Int) := of_decide_eq_true (by first | (with_reducible assumption) | assumption); omega)); omega); intro v238 w12 ho hb hg hat; rw [← Ny237.out] at ho; have n0_ := zpS (hb); have n1_ := zpS (ho); clear HB; clear HO235; have HB := n0_; have HO239 := n1_; clear n0_ n1_; clear ho hb hg hat))
    go_ret
    exact ⟨_, by first | rfl | (simp [ziS, znJ] <;> rfl) | (simp [*, ziS, znJ] <;> rfl), by (with_reducible repeat (first | apply Kd.R_alloc | apply Kd.R_drewN | apply Kd.R_drew)); exact HO239.out, bb_⟩
   ·rw [if_neg c8] at H
    exact absurd H (by simp)
  ·rw [if_neg c4] at H
   exact absurd H (by simp)
 ·rw [if_neg c3] at H
  exact absurd H (by simp)

end Go.Proofs.Ytbpkbllokmplnaa.PFnVertexCount
