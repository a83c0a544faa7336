-- Printed for this claim by this session's program pp.py, which drives the kit's print with additions. Not trusted: Lean checks it.
import Derived.Test.YtehghobmmpihfaaGreatDoorV1PFnExactReadPolygonx5
namespace Go.Proofs.YtehghobmmpihfaaGreatDoor.PFnExactReadPolygon
open Go.RowKit Go.Proofs.YtehghobmmpihfaaGreatDoorW.PrintWords Go.Proofs.YtehghobmmpihfaaGreatDoorW.PrintLast Go.Proofs.YtehghobmmpihfaaGreatDoorW.PrintMore
attribute [local go_sem] zbB ziB zrC zhD znE zuB znH zkT   -- for this text's walks alone
set_option linter.unusedVariables false
set_option maxHeartbeats 8000000
set_option maxRecDepth 100000
set_option linter.unusedSimpArgs false

mutual
def zhO.j2 : Nat → ByteArray → ByteArray → Int → Int → Int → Option (Int × Int × Int × Bool)
 | 0, _, _, _, _, _ => none
 | k + 1, x0, x4, x148000, x148001, x148002 => if (x4.size : Int) > 2 then (if 0 < (x4.size : Int) then (zhO.j3 k x0 x4 ((bt x4 0) == 40) x148000 x148001 x148002) else (none)) else (zhO.j3 k x0 x4 false x148000 x148001 x148002)
def zhO.j3 : Nat → ByteArray → ByteArray → Bool → Int → Int → Int → Option (Int × Int × Int × Bool)
 | 0, _, _, _, _, _, _ => none
 | k + 1, x0, x4, x57, x148000, x148001, x148002 => if x57 = true then (if 1 ≤ (wrap64 ((x4.size : Int) - 1)) then (if (wrap64 ((x4.size : Int) - 1)) ≤ (x4.size : Int) then (zhO.j4 k x0 (x4.extract 1 ((wrap64 ((x4.size : Int) - 1)) : Int).toNat) x148000 x148001 x148002) else (none)) else (none)) else (zhO.j4 k x0 x4 x148000 x148001 x148002)
def zhO.j4 : Nat → ByteArray → ByteArray → Int → Int → Int → Option (Int × Int × Int × Bool)
 | 0, _, _, _, _, _ => none
 | k + 1, x0, x4, x148000, x148001, x148002 => (zqO.f k x4).bind fun bt150 => (if bt150.2.2 = true then ((znQ.f k bt150.1 bt150.2.1 x148002).bind fun t153 => (if t153.toList = x0.toList then (some (bt150.1, bt150.2.1, x148002, true)) else (some (0, 0, 0, false)))) else (some (0, 0, 0, false)))
def zhO.l0 : Nat → ByteArray → ByteArray → Int → Int → Int → Int → Option (Int × Int × Int × Bool)
 | 0, _, _, _, _, _, _ => none
 | k + 1, x0, x4, x6, x148000, x148001, x148002 => if x6 < (x0.size : Int) then (if 0 ≤ x6 then (if (bt x0 x6) = 47 then (if 0 ≤ (wrap64 (x6 + 1)) then (if (wrap64 (x6 + 1)) ≤ (x0.size : Int) then ((zlS.f k (x0.extract ((wrap64 (x6 + 1)) : Int).toNat x0.size)).bind fun bt148 => (zhO.l1 k x0 x6 bt148.1 x148000 x148001 x148002)) else (none)) else (none)) else (zhO.l0 k x0 x4 (wrap64 (x6 + 1)) x148000 x148001 x148002)) else (none)) else (zhO.j2 k x0 x4 x148000 x148001 x148002)
def zhO.l1 : Nat → ByteArray → Int → Int → Int → Int → Int → Option (Int × Int × Int × Bool)
 | 0, _, _, _, _, _, _ => none
 | k + 1, x0, x6, x7, x148000, x148001, x148002 => if x148002 < 10 then (if 0 ≤ (IntKind.u64.wrap (x148002)) then (if (shl .i64 1 (IntKind.u64.wrap (x148002))) < x7 then (zhO.l1 k x0 x6 x7 x148000 x148001 (wrap64 (x148002 + 1))) else (if 0 ≤ x6 then (if x6 ≤ (x0.size : Int) then (zhO.j2 k x0 (x0.extract 0 (x6 : Int).toNat) x148000 x148001 x148002) else (none)) else (none))) else (none)) else (if 0 ≤ x6 then (if x6 ≤ (x0.size : Int) then (zhO.j2 k x0 (x0.extract 0 (x6 : Int).toNat) x148000 x148001 x148002) else (none)) else (none))
end
def zhO.f (k : Nat) (a0 : ByteArray) : Option (Int × Int × Int × Bool) := zhO.l0 k a0 a0 0 0 0 0
theorem zhO.mono_l : ∀ k, (∀ y0 y1 y2 y3 y4, LeO (zhO.j2 k y0 y1 y2 y3 y4) (zhO.j2 (k + 1) y0 y1 y2 y3 y4)) ∧ (∀ y0 y1 y2 y3 y4 y5, LeO (zhO.j3 k y0 y1 y2 y3 y4 y5) (zhO.j3 (k + 1) y0 y1 y2 y3 y4 y5)) ∧ (∀ y0 y1 y2 y3 y4, LeO (zhO.j4 k y0 y1 y2 y3 y4) (zhO.j4 (k + 1) y0 y1 y2 y3 y4)) ∧ (∀ y0 y1 y2 y3 y4 y5, LeO (zhO.l0 k y0 y1 y2 y3 y4 y5) (zhO.l0 (k + 1) y0 y1 y2 y3 y4 y5)) ∧ (∀ y0 y1 y2 y3 y4 y5, LeO (zhO.l1 k y0 y1 y2 y3 y4 y5) (zhO.l1 (k + 1) y0 y1 y2 y3 y4 y5))
 | 0 => ⟨fun _ _ _ _ _ r h => by simp [zhO.j2] at h, fun _ _ _ _ _ _ r h => by simp [zhO.j3] at h, fun _ _ _ _ _ r h => by simp [zhO.j4] at h, fun _ _ _ _ _ _ r h => by simp [zhO.l0] at h, fun _ _ _ _ _ _ r h => by simp [zhO.l1] at h⟩
 | k + 1 => by
  obtain ⟨ih0, ih1, ih2, ih3, ih4⟩ := zhO.mono_l k; refine ⟨?_, ?_, ?_, ?_, ?_⟩
  ·intro y0 y1 y2 y3 y4
   unfold zhO.j2
   repeat' (with_reducible first | exact ih0 _ _ _ _ _ | exact ih1 _ _ _ _ _ _ | exact ih2 _ _ _ _ _ | exact ih3 _ _ _ _ _ _ | exact ih4 _ _ _ _ _ _ | exact znQ.mono _ _ _ _ | exact zlS.mono _ _ | exact zqO.mono _ _ | exact LeO.refl _ | exact LeO.none _ | refine LeO.ite ?_ ?_ | refine LeO.bind ?_ (fun _ => ?_))
  ·intro y0 y1 y2 y3 y4 y5
   unfold zhO.j3
   repeat' (with_reducible first | exact ih0 _ _ _ _ _ | exact ih1 _ _ _ _ _ _ | exact ih2 _ _ _ _ _ | exact ih3 _ _ _ _ _ _ | exact ih4 _ _ _ _ _ _ | exact znQ.mono _ _ _ _ | exact zlS.mono _ _ | exact zqO.mono _ _ | exact LeO.refl _ | exact LeO.none _ | refine LeO.ite ?_ ?_ | refine LeO.bind ?_ (fun _ => ?_))
  ·intro y0 y1 y2 y3 y4
   unfold zhO.j4
   repeat' (with_reducible first | exact ih0 _ _ _ _ _ | exact ih1 _ _ _ _ _ _ | exact ih2 _ _ _ _ _ | exact ih3 _ _ _ _ _ _ | exact ih4 _ _ _ _ _ _ | exact znQ.mono _ _ _ _ | exact zlS.mono _ _ | exact zqO.mono _ _ | exact LeO.refl _ | exact LeO.none _ | refine LeO.ite ?_ ?_ | refine LeO.bind ?_ (fun _ => ?_))
  ·intro y0 y1 y2 y3 y4 y5
   unfold zhO.l0
   repeat' (with_reducible first | exact ih0 _ _ _ _ _ | exact ih1 _ _ _ _ _ _ | exact ih2 _ _ _ _ _ | exact ih3 _ _ _ _ _ _ | exact ih4 _ _ _ _ _ _ | exact znQ.mono _ _ _ _ | exact zlS.mono _ _ | exact zqO.mono _ _ | exact LeO.refl _ | exact LeO.none _ | refine LeO.ite ?_ ?_ | refine LeO.bind ?_ (fun _ => ?_))
  ·intro y0 y1 y2 y3 y4 y5
   unfold zhO.l1
   repeat' (with_reducible first | exact ih0 _ _ _ _ _ | exact ih1 _ _ _ _ _ _ | exact ih2 _ _ _ _ _ | exact ih3 _ _ _ _ _ _ | exact ih4 _ _ _ _ _ _ | exact znQ.mono _ _ _ _ | exact zlS.mono _ _ | exact zqO.mono _ _ | exact LeO.refl _ | exact LeO.none _ | refine LeO.ite ?_ ?_ | refine LeO.bind ?_ (fun _ => ?_))
theorem zhO.mono : ∀ a0 k, LeO (zhO.f k a0) (zhO.f (k + 1) a0) := by
 intro a0 k; obtain ⟨ih0, ih1, ih2, ih3, ih4⟩ := zhO.mono_l k; unfold zhO.f
 repeat' (with_reducible first | exact ih0 _ _ _ _ _ | exact ih1 _ _ _ _ _ _ | exact ih2 _ _ _ _ _ | exact ih3 _ _ _ _ _ _ | exact ih4 _ _ _ _ _ _ | exact znQ.mono _ _ _ _ | exact zlS.mono _ _ | exact zqO.mono _ _ | exact LeO.refl _ | exact LeO.none _ | refine LeO.ite ?_ ?_ | refine LeO.bind ?_ (fun _ => ?_))
theorem zhO.calls (k : Nat) (a0 : ByteArray) (r1 : Int) (r2 : Int) (r3 : Int) (r4 : Bool) (w : World) (h : zhO.f k a0 = some (r1, r2, r3, r4)) :
  Calls Tryz.prog 16 #[.string a0] w fun e w' => e = .returned (.tuple #[.agg #[.int .i64 r1, .int .i64 r2, .int .i64 r3], .bool r4]) ∧ Below w.heap.size w w' := by
 have hu31 := Tryz.underlying31; have HB := zpS (Below.refl w.heap.size w); have H := h; unfold zhO.f at H; clear h; have HC2 := zpS H; clear H; go_enter Tryz.func16, Tryz.ntmps16
 go_upto_block 0 with (first | ((with_reducible refine zpZ (N := 2) rfl ?_); refine bx_ 2 #[.int .i64 0, .int .i64 0, .int .i64 0] 31 ?_; intro gb146 hg w3 hbox hb; have BK146 := zpS (hbox); have GW146 := ng_ hg; replace HB := ns_ hb; have GE146 := GW146; clear hb hbox hg) | ((with_reducible refine zpZ (N := 5) rfl ?_); refine bx_ 5 #[.int .i64 0, .int .i64 0, .int .i64 0] 31 ?_; intro gb147 hg w4 hbox hb; have BK147 := zpS (hbox); have GW147 := ng_ hg; replace HB := ns_ hb; have GE147 := GW147; have NB146_147 := nl_ BK146 hg; have NB147_146 := nr_ BK146 hg; replace BK146 := kb_ BK146 hb; clear hb hbox hg; have hnb5 := NB147_146.out; have hnc5 := NB146_147.out; obtain ⟨hcz6_0, hcz6_1, hcz6_2⟩ := zdT BK147.out; obtain ⟨hfz6_0, hfz6_1, hfz6_2⟩ := zqD BK147.out))
 (try simp only [Act.put, set_a_, set_b_, set_c_])
 go_cut [4] (fun v4 wc => ∃ (kq : Nat) (x4_1 : ByteArray) (x148002_1 : Int), v4 = .string x4_1 ∧ Aside0 (zhO.j2 kq a0 x4_1 0 0 x148002_1 = some (r1, r2, r3, r4)) ∧ Aside0 (kq ≤ k) ∧ Aside0 (wc.heap[gb146]? = some (.cells #[.int .i64 0, .int .i64 0, .int .i64 0] 31 (0, 0))) ∧ Aside0 (wc.heap[gb147]? = some (.cells #[.int .i64 0, .int .i64 0, .int .i64 x148002_1] 31 (0, 0))) ∧ Aside0 (Below w.heap.size w wc))
 case first =>
  have H := HC2.out; clear HC2; have H' := zpS H; clear H
  go_wp2
  (try go_simp)
  go_loopg [4, 6] k (fun kq v4 v6 w' => ∃ (x4_1 : ByteArray) (x6_1 : Int) (x148002_1 : Int), v4 = .string x4_1 ∧ v6 = .int .i64 x6_1 ∧ Aside0 (zhO.l0 kq a0 x4_1 x6_1 0 0 x148002_1 = some (r1, r2, r3, r4)) ∧ Aside0 (kq ≤ k) ∧ Aside0 (w'.heap[gb146]? = some (.cells #[.int .i64 0, .int .i64 0, .int .i64 0] 31 (0, 0))) ∧ Aside0 (w'.heap[gb147]? = some (.cells #[.int .i64 0, .int .i64 0, .int .i64 x148002_1] 31 (0, 0))) ∧ Aside0 (Below w.heap.size w w'))
  case atStart => exact ⟨(a0), (0), (0), (ey_), (ey_), H', ⟨Nat.le_refl _⟩, ⟨by (with_reducible repeat (first | apply zuW | apply ztN | apply zqY)); refine znI ?_ NB146_147.out _; (with_reducible repeat (first | apply zuW | apply ztN | apply zqY)); refine znI ?_ NB146_147.out _; (with_reducible repeat (first | apply zuW | apply ztN | apply zqY)); refine znI ?_ NB146_147.out _; (with_reducible repeat (first | apply zuW | apply ztN | apply zqY)); exact BK146.out⟩, ⟨by (with_reducible repeat (first | apply zuW | apply ztN | apply zqY)); refine zlL (cs := #[.int .i64 0, .int .i64 0, .int .i64 0]) ?_ 2 _ rfl; (with_reducible repeat (first | apply zuW | apply ztN | apply zqY)); refine zlL (cs := #[.int .i64 0, .int .i64 0, .int .i64 0]) ?_ 1 _ rfl; (with_reducible repeat (first | apply zuW | apply ztN | apply zqY)); refine zlL (cs := #[.int .i64 0, .int .i64 0, .int .i64 0]) ?_ 0 _ rfl; (with_reducible repeat (first | apply zuW | apply ztN | apply zqY)); exact BK147.out⟩, ⟨bb_⟩⟩
  case round =>
   clear H'; (try clear c1); (try clear p2); (try clear c5); (try clear hcz6_0); (try clear hcz6_1); (try clear hcz6_2); (try clear hfz6_0); (try clear hfz6_1); (try clear hfz6_2); obtain ⟨x4_1, x6_1, x148002_1, rfl, rfl, HA, HK1, BK146, BK147, HB⟩ := hrel
   cases gk with
   | zero => exact absurd HA.out (by simp [zhO.l0])
   | succ k1 =>
    have H := HA.out; clear HA; simp only [zhO.l0] at H; replace H := ip_ H
    rcases H with ⟨c7, H⟩ | ⟨c7, H⟩
    ·have c7b0 := decide_eq_true c7
     clear c7
     (first | rw [c7b0] | (simp only [zcN, ziJ]; rw [c7b0]) | skip)
     replace H := in_ H; obtain ⟨c8, H⟩ := H; have c8b0 := decide_eq_true c8; clear c8; replace H := ip_ H
     rcases H with ⟨c10, H⟩ | ⟨c10, H⟩
     ·have c10b0 := bqt_ c10
      have c10b1 := bnf_ c10; clear c10; obtain ⟨ji11, hji11⟩ : ∃ j_ : Int, (wrap64 (x6_1 + 1)) = j_ := ⟨_, rfl⟩
      replace H : (if 0 ≤ (ji11) then (if (ji11) ≤ (a0.size : Int) then ((zlS.f k1 (a0.extract ((ji11) : Int).toNat a0.size)).bind fun bt148 => (zhO.l1 k1 a0 x6_1 bt148.1 0 0 x148002_1)) else (none)) else (none)) = some (r1, r2, r3, r4) := by first | (rw [hji11] at H; exact H) | (simp only [hji11] at H ⊢; exact H)
      have hji11w : (IntKind.i64.wrap (x6_1 + 1)) = ji11 := (zcN _).trans hji11; replace H := in_ H; obtain ⟨c12, H⟩ := H; have c12b0 := eq_true c12; have c12b1 := decide_eq_true c12; clear c12; replace H := in_ H; obtain ⟨c13, H⟩ := H; have c13b0 := eq_true c13; have c13b1 := decide_eq_true c13; clear c13; replace H := be_ H; obtain ⟨⟨t148, t149⟩, A14, H⟩ := H; dsimp only at H; have H' := zpS H; clear H; have p9 : 0 ≤ (x6_1 : Int) := dt_; have q9 : x6_1 < (a0.size : Int) := dt_; have hx9 := bt_at a0 x6_1; replace p9 := eq_true p9; replace q9 := eq_true q9
      go_wp2_with (first | ((with_reducible refine zgK (f := 34) rfl ?_); refine goesL_ (some 29) rfl rfl Tryz.func34 (by kernel_rfl) rfl #[.string (a0.extract ((ji11) : Int).toNat a0.size)] rfl (by (try simp only [List.map_toArray, List.map_cons, List.map_nil]); first | done | (simp only [hji11]; rfl) | rfl | (simp only [List.length_drop, List.length_take]; rfl)) ?_; (with_reducible refine (zlS.calls k1 (a0.extract ((ji11) : Int).toNat a0.size) t148 t149 _ A14.out).mono ?_); rintro e w' ⟨rfl, ⟨nd, rfl⟩⟩; refine ⟨_, rfl, ?_⟩))
      (try go_simp)
      go_loopg [] k1 (fun kq w' => ∃ (x148002_2 : Int), Aside0 (zhO.l1 kq a0 x6_1 t148 0 0 x148002_2 = some (r1, r2, r3, r4)) ∧ Aside0 (kq ≤ k1) ∧ Aside0 (w'.heap[gb146]? = some (.cells #[.int .i64 0, .int .i64 0, .int .i64 0] 31 (0, 0))) ∧ Aside0 (w'.heap[gb147]? = some (.cells #[.int .i64 0, .int .i64 0, .int .i64 x148002_2] 31 (0, 0))) ∧ Aside0 (Below w.heap.size w w'))
      case atStart => exact ⟨(x148002_1), H', ⟨Nat.le_refl _⟩, ⟨bk_⟩, ⟨bk_⟩, ⟨bb_⟩⟩
      case round =>
       clear H'; (try clear c1); (try clear p2); (try clear c3); (try clear c5); (try clear p6); (try clear c7); (try clear c7b0); (try clear c8); (try clear c8b0); (try clear p9); (try clear q9); (try clear hx9); (try clear c10); (try clear c10b0); (try clear c10b1); (try clear c12); (try clear c12b0); (try clear c12b1); (try clear c13); (try clear c13b0); (try clear c13b1); (try clear hcz6_0); (try clear hcz6_1); (try clear hcz6_2); (try clear hfz6_0); (try clear hfz6_1); (try clear hfz6_2); (try clear p2); (try clear p9); (try clear q9); obtain ⟨x148002_2, HA, HK2, BK146, BK147, HB⟩ := hrel
       cases gk with
       | zero => exact absurd HA.out (by simp [zhO.l1])
       | succ k2 =>
        have H := HA.out; clear HA; simp only [zhO.l1] at H; replace H := iq_ H
        rcases H with ⟨c15b0, H⟩ | ⟨c15b0, H⟩
        ·obtain ⟨ji16, hji16⟩ : ∃ j_ : Int, (IntKind.u64.wrap (x148002_2)) = j_ := ⟨_, rfl⟩
         replace H : (if 0 ≤ (ji16) then (if (shl .i64 1 (ji16)) < t148 then (zhO.l1 k2 a0 x6_1 t148 0 0 (wrap64 (x148002_2 + 1))) else (if 0 ≤ x6_1 then (if x6_1 ≤ (a0.size : Int) then (zhO.j2 k2 a0 (a0.extract 0 (x6_1 : Int).toNat) 0 0 x148002_2) else (none)) else (none))) else (none)) = some (r1, r2, r3, r4) := by first | (rw [hji16] at H; exact H) | (simp only [hji16] at H ⊢; exact H)
         replace H := in_ H; obtain ⟨c17, H⟩ := H; have c17b0 := eq_true c17; have c17b1 := decide_eq_true c17; clear c17; obtain ⟨ji18, hji18⟩ : ∃ j_ : Int, (shl .i64 1 (ji16)) = j_ := ⟨_, rfl⟩
         replace H : (if (ji18) < t148 then (zhO.l1 k2 a0 x6_1 t148 0 0 (wrap64 (x148002_2 + 1))) else (if 0 ≤ x6_1 then (if x6_1 ≤ (a0.size : Int) then (zhO.j2 k2 a0 (a0.extract 0 (x6_1 : Int).toNat) 0 0 x148002_2) else (none)) else (none))) = some (r1, r2, r3, r4) := by first | (rw [hji18] at H; exact H) | (simp only [hji18] at H ⊢; exact H)
         have hji18_ : (IntKind.i64.wrap (1 * 2 ^ min (ji16).toNat 64)) = ji18 := hji18; have hji18z : (ji16) ≤ 64 → (IntKind.i64.wrap (1 * 2 ^ (ji16).toNat)) = ji18 := zsQ hji18
         have hji18u : (IntKind.i64.wrap (2 ^ min (ji16).toNat 64)) = ji18 := by have h_ := hji18_; rw [Int.one_mul] at h_; exact h_
         have hji18v : (ji16) ≤ 64 → (IntKind.i64.wrap (2 ^ (ji16).toNat)) = ji18 := fun hle_ => by have h_ := hji18z hle_; rw [Int.one_mul] at h_; exact h_
         have hji18y : (wrap64 (1 * 2 ^ min (ji16).toNat 64)) = ji18 := (zcN _).symm.trans hji18_
         have hji18x : (ji16) ≤ 64 → (wrap64 (1 * 2 ^ (ji16).toNat)) = ji18 := fun h_ => (zcN _).symm.trans (hji18z h_)
         replace H := iq_ H
         rcases H with ⟨c19b0, H⟩ | ⟨c19b0, H⟩
         ·have H' := zpS H
          clear H; have hnb20 := NB147_146.out; have hnc20 := NB146_147.out; obtain ⟨hcz21_0, hcz21_1, hcz21_2⟩ := zdT BK147.out; obtain ⟨hfz21_0, hfz21_1, hfz21_2⟩ := zqD BK147.out
          go_wp2
          go_roundg k2
          case measure => have := HK1.out; have := HK2.out; omega
          case rel => exact ⟨(wrap64 (x148002_2 + 1)), H', ⟨by have := HK1.out; have := HK2.out; omega⟩, ⟨by (with_reducible repeat (first | apply zuW | apply ztN | apply zqY)); refine znI ?_ NB146_147.out _; (with_reducible repeat (first | apply zuW | apply ztN | apply zqY)); exact BK146.out⟩, ⟨by (with_reducible repeat (first | apply zuW | apply ztN | apply zqY)); refine zlL (cs := #[.int .i64 0, .int .i64 0, .int .i64 x148002_2]) ?_ 2 _ rfl; (with_reducible repeat (first | apply zuW | apply ztN | apply zqY)); exact BK147.out⟩, ⟨bb_⟩⟩
         ·replace H := in_ H
          obtain ⟨c22, H⟩ := H; have c22b0 := eq_true c22; have c22b1 := decide_eq_true c22; clear c22; replace H := in_ H; obtain ⟨c23, H⟩ := H; have c23b0 := eq_true c23; have c23b1 := decide_eq_true c23; clear c23; have H' := zpS H; clear H; have hnb24 := NB147_146.out; have hnc24 := NB146_147.out; obtain ⟨hcz25_0, hcz25_1, hcz25_2⟩ := zdT BK147.out; obtain ⟨hfz25_0, hfz25_1, hfz25_2⟩ := zqD BK147.out
          go_wp2
          go_meet
          case rel => exact ⟨_, (a0.extract 0 (x6_1 : Int).toNat), (x148002_2), (ey_), H', ⟨by have := HK1.out; have := HK2.out; first | omega | exact Nat.le_refl _⟩, ⟨bk_⟩, ⟨bk_⟩, ⟨bb_⟩⟩
        ·replace H := in_ H
         obtain ⟨c26, H⟩ := H; have c26b0 := eq_true c26; have c26b1 := decide_eq_true c26; clear c26; replace H := in_ H; obtain ⟨c27, H⟩ := H; have c27b0 := eq_true c27; have c27b1 := decide_eq_true c27; clear c27; have H' := zpS H; clear H; have hnb28 := NB147_146.out; have hnc28 := NB146_147.out; obtain ⟨hcz29_0, hcz29_1, hcz29_2⟩ := zdT BK147.out; obtain ⟨hfz29_0, hfz29_1, hfz29_2⟩ := zqD BK147.out
         go_wp2
         go_meet
         case rel => exact ⟨_, (a0.extract 0 (x6_1 : Int).toNat), (x148002_2), (ey_), H', ⟨by have := HK1.out; have := HK2.out; first | omega | exact Nat.le_refl _⟩, ⟨bk_⟩, ⟨bk_⟩, ⟨bb_⟩⟩
     ·have c10b0 := bqf_ c10
      have c10b1 := bnt_ c10; have H' := zpS H; clear H; have p9 : 0 ≤ (x6_1 : Int) := dt_; have q9 : x6_1 < (a0.size : Int) := dt_; have hx9 := bt_at a0 x6_1; replace p9 := eq_true p9; replace q9 := eq_true q9
      go_wp2
      go_roundg k1
      case measure => have := HK1.out; omega
      case rel => exact ⟨(x4_1), (wrap64 (x6_1 + 1)), (x148002_1), (ey_), (ey_), H', ⟨by have := HK1.out; omega⟩, ⟨bk_⟩, ⟨bk_⟩, ⟨bb_⟩⟩
    ·have c7b0 := decide_eq_false c7
     clear c7
     (first | rw [c7b0] | (simp only [zcN, ziJ]; rw [c7b0]) | skip)
     have H' := zpS H; clear H
     go_wp2
     go_meet
     case rel => exact ⟨_, (x4_1), (x148002_1), (ey_), H', ⟨by have := HK1.out; first | omega | exact Nat.le_refl _⟩, ⟨bk_⟩, ⟨bk_⟩, ⟨bb_⟩⟩
 case rest =>
  clear HC2; (try clear c1); (try clear c2); (try clear p2); (try clear c3); (try clear c5); (try clear p6); (try clear c7); (try clear c7b0); (try clear c8); (try clear c8b0); (try clear p9); (try clear q9); (try clear hx9); (try clear c10); (try clear c10b0); (try clear c10b1); (try clear c12); (try clear c12b0); (try clear c12b1); (try clear c13); (try clear c13b0); (try clear c13b1); (try clear c15); (try clear c15b0); (try clear c16); (try clear c17); (try clear c17b0); (try clear c17b1); (try clear c19); (try clear c19b0); (try clear c20); (try clear c22); (try clear c22b0); (try clear c22b1); (try clear c23); (try clear c23b0); (try clear c23b1); (try clear c24); (try clear c26); (try clear c26b0); (try clear c26b1); (try clear c27); (try clear c27b0); (try clear c27b1); (try clear c28); (try clear hcz21_0); (try clear hcz21_1); (try clear hcz21_2); (try clear hcz25_0); (try clear hcz25_1)
  (try clear hcz25_2); (try clear hcz29_0); (try clear hcz29_1); (try clear hcz29_2); (try clear hcz6_0); (try clear hcz6_1); (try clear hcz6_2); (try clear hfz21_0); (try clear hfz21_1); (try clear hfz21_2); (try clear hfz25_0); (try clear hfz25_1); (try clear hfz25_2); (try clear hfz29_0); (try clear hfz29_1); (try clear hfz29_2); (try clear hfz6_0); (try clear hfz6_1); (try clear hfz6_2); (try clear p2); (try clear p6); (try clear p9); (try clear q9); obtain ⟨kq, x4_1, x148002_1, rfl, HA, HJ1, BK146, BK147, HB⟩ := hcut
  cases kq with
  | zero => exact absurd HA.out (by simp [zhO.j2])
  | succ kj1 =>
   have H := HA.out; clear HA; simp only [zhO.j2] at H; have HC30 := zpS H; clear H
   go_upto_region 11 with (fail)
   go_cut [57] (fun v57 wc => ∃ (kq : Nat) (x57_29 : Bool), v57 = .bool x57_29 ∧ Aside0 (zhO.j3 kq a0 x4_1 x57_29 0 0 x148002_1 = some (r1, r2, r3, r4)) ∧ Aside0 (kq ≤ kj1) ∧ Aside0 (wc.heap[gb146]? = some (.cells #[.int .i64 0, .int .i64 0, .int .i64 0] 31 (0, 0))) ∧ Aside0 (wc.heap[gb147]? = some (.cells #[.int .i64 0, .int .i64 0, .int .i64 x148002_1] 31 (0, 0))) ∧ Aside0 (Below w.heap.size w wc))
   case first =>
    have H := HC30.out; clear HC30; replace H := ip_ H
    rcases H with ⟨c31, H⟩ | ⟨c31, H⟩
    ·have c31b0 : decide (2 < (x4_1.size : Int)) = true := decide_eq_true c31
     have c31b1 : decide (2 < x4_1.size) = true := decide_eq_true (by omega); clear c31
     (first | rw [c31b0] | (simp only [zcN, ziJ]; rw [c31b0]) | skip)
     replace H := in_ H; obtain ⟨c32, H⟩ := H; have c32b0 := decide_eq_true c32; have c32b1 : decide (0 < x4_1.size) = true := decide_eq_true (by omega); clear c32; have H' := zpS H; clear H; have p33 : 0 ≤ (0 : Int) := (by omega)
     have q33 : 0 < x4_1.size := (by have : (0 : Int) < (x4_1.size : Int) := dt_; omega)
     have hx33 : ∀ h : 0 < x4_1.size, ((x4_1[0]'h).toNat : Int) = bt x4_1 0 := bt_at x4_1 0; clear p33; have qi33 : (0 < (x4_1.size : Int)) = True := eq_true dt_; replace q33 := eq_true q33
     go_wp2
     go_meet
     case rel => exact ⟨_, (((bt x4_1 0) == 40)), (ey_), H', ⟨by have := HJ1.out; first | omega | exact Nat.le_refl _⟩, ⟨bk_⟩, ⟨bk_⟩, ⟨bb_⟩⟩
    ·have c31b0 : decide (2 < (x4_1.size : Int)) = false := decide_eq_false c31
     have c31b1 : decide (2 < x4_1.size) = false := decide_eq_false (by omega); clear c31
     (first | rw [c31b0] | (simp only [zcN, ziJ]; rw [c31b0]) | skip)
     have H' := zpS H; clear H
     go_wp2
     go_meet
     case rel => exact ⟨_, (false), (ey_), H', ⟨by have := HJ1.out; first | omega | exact Nat.le_refl _⟩, ⟨bk_⟩, ⟨bk_⟩, ⟨bb_⟩⟩
   case rest =>
    clear HC30; (try clear c1); (try clear c2); (try clear p2); (try clear c3); (try clear p3); (try clear q3); (try clear hx3); (try clear qi3); (try clear c5); (try clear p6); (try clear c7); (try clear c7b0); (try clear c8); (try clear c8b0); (try clear p9); (try clear q9); (try clear hx9); (try clear c10); (try clear c10b0); (try clear c10b1); (try clear c12); (try clear c12b0); (try clear c12b1); (try clear c13); (try clear c13b0); (try clear c13b1); (try clear c15); (try clear c15b0); (try clear c16); (try clear c17); (try clear c17b0); (try clear c17b1); (try clear c19); (try clear c19b0); (try clear c20); (try clear c22); (try clear c22b0); (try clear c22b1); (try clear c23); (try clear c23b0); (try clear c23b1); (try clear c24); (try clear c26); (try clear c26b0); (try clear c26b1); (try clear c27); (try clear c27b0); (try clear c27b1); (try clear c28); (try clear c31); (try clear c31b0)
    (try clear c31b1); (try clear c32); (try clear c32b0); (try clear c32b1); (try clear p33); (try clear q33); (try clear hx33); (try clear qi33); (try clear hcz21_0); (try clear hcz21_1); (try clear hcz21_2); (try clear hcz25_0); (try clear hcz25_1); (try clear hcz25_2); (try clear hcz29_0); (try clear hcz29_1); (try clear hcz29_2); (try clear hcz6_0); (try clear hcz6_1); (try clear hcz6_2); (try clear hfz21_0); (try clear hfz21_1); (try clear hfz21_2); (try clear hfz25_0); (try clear hfz25_1); (try clear hfz25_2); (try clear hfz29_0); (try clear hfz29_1); (try clear hfz29_2); (try clear hfz6_0); (try clear hfz6_1); (try clear hfz6_2); (try clear p2); (try clear p33); (try clear p6); (try clear p9); (try clear q33); (try clear q9); obtain ⟨kq, x57_29, rfl, HA, HJ29, BK146, BK147, HB⟩ := hcut
    cases kq with
    | zero => exact absurd HA.out (by simp [zhO.j3])
    | succ kj29 =>
     have H := HA.out; clear HA; simp only [zhO.j3] at H; have HC34 := zpS H; clear H
     go_upto_if 57 with (fail)
     go_cut [4] (fun v4 wc => ∃ (kq : Nat) (x4_33 : ByteArray), v4 = .string x4_33 ∧ Aside0 (zhO.j4 kq a0 x4_33 0 0 x148002_1 = some (r1, r2, r3, r4)) ∧ Aside0 (kq ≤ kj29) ∧ Aside0 (wc.heap[gb146]? = some (.cells #[.int .i64 0, .int .i64 0, .int .i64 0] 31 (0, 0))) ∧ Aside0 (wc.heap[gb147]? = some (.cells #[.int .i64 0, .int .i64 0, .int .i64 x148002_1] 31 (0, 0))) ∧ Aside0 (Below w.heap.size w wc))
     case first =>
      have H := HC34.out; clear HC34; replace H := ib_ H
      rcases H with ⟨rfl, H⟩ | ⟨rfl, H⟩
      ·replace H := in_ H
       obtain ⟨c36, H⟩ := H; have c36b0 := eq_true c36; have c36b1 := decide_eq_true c36; clear c36; replace H := in_ H; obtain ⟨c37, H⟩ := H; have c37b0 := eq_true c37; have c37b1 := decide_eq_true c37; clear c37; have H' := zpS H; clear H
       go_wp2
       go_meet
       case rel => exact ⟨_, (x4_1.extract 1 ((wrap64 ((x4_1.size : Int) - 1)) : Int).toNat), (ey_), H', ⟨by have := HJ1.out; have := HJ29.out; first | omega | exact Nat.le_refl _⟩, ⟨bk_⟩, ⟨bk_⟩, ⟨bb_⟩⟩
      ·have H' := zpS H
       clear H
       go_wp2
       go_meet
       case rel => exact ⟨_, (x4_1), (ey_), H', ⟨by have := HJ1.out; have := HJ29.out; first | omega | exact Nat.le_refl _⟩, ⟨bk_⟩, ⟨bk_⟩, ⟨bb_⟩⟩
     case rest =>
      clear HC34; (try clear c1); (try clear c2); (try clear p2); (try clear c3); (try clear p3); (try clear q3); (try clear hx3); (try clear qi3); (try clear c5); (try clear p6); (try clear c7); (try clear c7b0); (try clear c8); (try clear c8b0); (try clear p9); (try clear q9); (try clear hx9); (try clear c10); (try clear c10b0); (try clear c10b1); (try clear c12); (try clear c12b0); (try clear c12b1); (try clear c13); (try clear c13b0); (try clear c13b1); (try clear c15); (try clear c15b0); (try clear c16); (try clear c17); (try clear c17b0); (try clear c17b1); (try clear c19); (try clear c19b0); (try clear c20); (try clear c22); (try clear c22b0); (try clear c22b1); (try clear c23); (try clear c23b0); (try clear c23b1); (try clear c24); (try clear c26); (try clear c26b0); (try clear c26b1); (try clear c27); (try clear c27b0); (try clear c27b1); (try clear c28); (try clear c31); (try clear c31b0)
      (try clear c31b1); (try clear c32); (try clear c32b0); (try clear c32b1); (try clear p33); (try clear q33); (try clear hx33); (try clear qi33); (try clear c34); (try clear c35); (try clear c36); (try clear c36b0); (try clear c36b1); (try clear c37); (try clear c37b0); (try clear c37b1); (try clear hcz21_0); (try clear hcz21_1); (try clear hcz21_2); (try clear hcz25_0); (try clear hcz25_1); (try clear hcz25_2); (try clear hcz29_0); (try clear hcz29_1); (try clear hcz29_2); (try clear hcz6_0); (try clear hcz6_1); (try clear hcz6_2); (try clear hfz21_0); (try clear hfz21_1); (try clear hfz21_2); (try clear hfz25_0); (try clear hfz25_1); (try clear hfz25_2); (try clear hfz29_0); (try clear hfz29_1); (try clear hfz29_2); (try clear hfz6_0); (try clear hfz6_1); (try clear hfz6_2); (try clear p2); (try clear p3); (try clear p33); (try clear p6); (try clear p9); (try clear q3); (try clear q33); (try clear q9)
      obtain ⟨kq, x4_33, rfl, HA, HJ33, BK146, BK147, HB⟩ := hcut
      cases kq with
      | zero => exact absurd HA.out (by simp [zhO.j4])
      | succ kj33 =>
       have H := HA.out; clear HA; simp only [zhO.j4] at H; replace H := be_ H; obtain ⟨⟨t150, t151, t152⟩, A38, H⟩ := H; dsimp only at H; replace H := ib_ H
       rcases H with ⟨rfl, H⟩ | ⟨rfl, H⟩
       ·replace H := be_ H
        obtain ⟨t153, A40, H⟩ := H; replace H := ip_ H
        rcases H with ⟨c41, H⟩ | ⟨c41, H⟩
        ·have c41b0 := bqt_ c41
         have c41b1 := bnf_ c41; clear c41; simp only [Option.some.injEq, Prod.mk.injEq] at H; obtain ⟨rfl, rfl, rfl, rfl⟩ := H
         go_wp2_with (first | ((with_reducible refine zgK (f := 35) rfl ?_); refine gl_ (some 65) Tryz.func35 #[.string x4_33] ?_; (with_reducible refine (zqO.calls kj33 x4_33 t150 t151 true _ A38.out).mono ?_); rintro e w' ⟨rfl, ⟨nd, rfl⟩⟩; refine ⟨_, rfl, ?_⟩; (try (rw [zxE wc]; generalize hq_ : World.drewN wc _ = wc; have n0_ : Aside0 (wc.heap[gb146]? = some (.cells #[.int .i64 0, .int .i64 0, .int .i64 0] 31 (0, 0))) := ⟨by rw [← hq_]; exact bk_⟩; have n1_ : Aside0 (wc.heap[gb147]? = some (.cells #[.int .i64 0, .int .i64 0, .int .i64 x148002_1] 31 (0, 0))) := ⟨by rw [← hq_]; exact bk_⟩; have n2_ : Aside0 (Below w.heap.size w wc) := ⟨by rw [← hq_]; exact bb_⟩; clear BK146 BK147 HB hq_; have BK146 := n0_; have BK147 := n1_; have HB := n2_; clear n0_ n1_ n2_)); have hnb42 := NB147_146.out; have hnc42 := NB146_147.out; obtain ⟨hcz43_0, hcz43_1, hcz43_2⟩ := zdT BK147.out; obtain ⟨hfz43_0, hfz43_1, hfz43_2⟩ := zqD BK147.out) | (go_at_call 36; (with_reducible refine (znQ.calls kj33 t150 t151 x148002_1 t153 _ A40.out).mono ?_); rintro e w44 ⟨rfl, hb⟩; replace BK146 := zpS (zgM (g := gb146) (o := .cells #[.int .i64 0, .int .i64 0, .int .i64 0] 31 (0, 0)) (by (with_reducible repeat (first | apply zuW | apply ztN | apply zqY)); refine znI ?_ NB146_147.out _; (with_reducible repeat (first | apply zuW | apply ztN | apply zqY)); refine znI ?_ NB146_147.out _; (with_reducible repeat (first | apply zuW | apply ztN | apply zqY)); exact BK146.out) hb); replace BK147 := zpS (zgM (g := gb147) (o := .cells #[.int .i64 t150, .int .i64 t151, .int .i64 x148002_1] 31 (0, 0)) (by (with_reducible repeat (first | apply zuW | apply ztN | apply zqY)); refine zlL (cs := #[.int .i64 t150, .int .i64 0, .int .i64 x148002_1]) ?_ 1 _ rfl; (with_reducible repeat (first | apply zuW | apply ztN | apply zqY)); refine zlL (cs := #[.int .i64 0, .int .i64 0, .int .i64 x148002_1]) ?_ 0 _ rfl; (with_reducible repeat (first | apply zuW | apply ztN | apply zqY)); exact BK147.out) hb); replace HB := ns_ hb; (try clear hb); (try clear hb2); obtain ⟨hcz45_0, hcz45_1, hcz45_2⟩ := zdT BK147.out; obtain ⟨hfz45_0, hfz45_1, hfz45_2⟩ := zqD BK147.out; obtain ⟨hcz46_0, hcz46_1, hcz46_2⟩ := zdT BK146.out; obtain ⟨hfz46_0, hfz46_1, hfz46_2⟩ := zqD BK146.out))
         refine bodyPost_ret (zzB rfl _ _ gb146 31 #[.int .i64 t150, .int .i64 t151, .int .i64 x148002_1] (0, 0) _ rfl (by (with_reducible repeat (first | apply zuW | apply ztN | apply zqY)); refine zlL (cs := #[.int .i64 t150, .int .i64 t151, .int .i64 0]) ?_ 2 _ rfl; (with_reducible repeat (first | apply zuW | apply ztN | apply zqY)); refine zlL (cs := #[.int .i64 t150, .int .i64 0, .int .i64 0]) ?_ 1 _ rfl; (with_reducible repeat (first | apply zuW | apply ztN | apply zqY)); refine zlL (cs := #[.int .i64 0, .int .i64 0, .int .i64 0]) ?_ 0 _ rfl; (with_reducible repeat (first | apply zuW | apply ztN | apply zqY)); exact BK146.out) Tryz.underlying31 rfl (by kernel_rfl)) rfl ?_
         exact ⟨ex_, bb_⟩
        ·have c41b0 := bqf_ c41
         have c41b1 := bnt_ c41; simp only [Option.some.injEq, Prod.mk.injEq] at H; obtain ⟨rfl, rfl, rfl, rfl⟩ := H
         go_wp2_with (first | ((with_reducible refine zgK (f := 35) rfl ?_); refine gl_ (some 65) Tryz.func35 #[.string x4_33] ?_; (with_reducible refine (zqO.calls kj33 x4_33 t150 t151 true _ A38.out).mono ?_); rintro e w' ⟨rfl, ⟨nd, rfl⟩⟩; refine ⟨_, rfl, ?_⟩; (try (rw [zxE wc]; generalize hq_ : World.drewN wc _ = wc; have n0_ : Aside0 (wc.heap[gb146]? = some (.cells #[.int .i64 0, .int .i64 0, .int .i64 0] 31 (0, 0))) := ⟨by rw [← hq_]; exact bk_⟩; have n1_ : Aside0 (wc.heap[gb147]? = some (.cells #[.int .i64 0, .int .i64 0, .int .i64 x148002_1] 31 (0, 0))) := ⟨by rw [← hq_]; exact bk_⟩; have n2_ : Aside0 (Below w.heap.size w wc) := ⟨by rw [← hq_]; exact bb_⟩; clear BK146 BK147 HB hq_; have BK146 := n0_; have BK147 := n1_; have HB := n2_; clear n0_ n1_ n2_)); have hnb47 := NB147_146.out; have hnc47 := NB146_147.out; obtain ⟨hcz48_0, hcz48_1, hcz48_2⟩ := zdT BK147.out; obtain ⟨hfz48_0, hfz48_1, hfz48_2⟩ := zqD BK147.out) | (go_at_call 36; (with_reducible refine (znQ.calls kj33 t150 t151 x148002_1 t153 _ A40.out).mono ?_); rintro e w49 ⟨rfl, hb⟩; replace BK146 := zpS (zgM (g := gb146) (o := .cells #[.int .i64 0, .int .i64 0, .int .i64 0] 31 (0, 0)) (by (with_reducible repeat (first | apply zuW | apply ztN | apply zqY)); refine znI ?_ NB146_147.out _; (with_reducible repeat (first | apply zuW | apply ztN | apply zqY)); refine znI ?_ NB146_147.out _; (with_reducible repeat (first | apply zuW | apply ztN | apply zqY)); exact BK146.out) hb); replace BK147 := zpS (zgM (g := gb147) (o := .cells #[.int .i64 t150, .int .i64 t151, .int .i64 x148002_1] 31 (0, 0)) (by (with_reducible repeat (first | apply zuW | apply ztN | apply zqY)); refine zlL (cs := #[.int .i64 t150, .int .i64 0, .int .i64 x148002_1]) ?_ 1 _ rfl; (with_reducible repeat (first | apply zuW | apply ztN | apply zqY)); refine zlL (cs := #[.int .i64 0, .int .i64 0, .int .i64 x148002_1]) ?_ 0 _ rfl; (with_reducible repeat (first | apply zuW | apply ztN | apply zqY)); exact BK147.out) hb); replace HB := ns_ hb; (try clear hb); (try clear hb2); obtain ⟨hcz50_0, hcz50_1, hcz50_2⟩ := zdT BK146.out; obtain ⟨hfz50_0, hfz50_1, hfz50_2⟩ := zqD BK146.out))
         refine bodyPost_ret (zzB rfl _ _ gb146 31 #[.int .i64 0, .int .i64 0, .int .i64 0] (0, 0) _ rfl (by (with_reducible repeat (first | apply zuW | apply ztN | apply zqY)); refine zlL (cs := #[.int .i64 0, .int .i64 0, .int .i64 0]) ?_ 2 _ rfl; (with_reducible repeat (first | apply zuW | apply ztN | apply zqY)); refine zlL (cs := #[.int .i64 0, .int .i64 0, .int .i64 0]) ?_ 1 _ rfl; (with_reducible repeat (first | apply zuW | apply ztN | apply zqY)); refine zlL (cs := #[.int .i64 0, .int .i64 0, .int .i64 0]) ?_ 0 _ rfl; (with_reducible repeat (first | apply zuW | apply ztN | apply zqY)); exact BK146.out) Tryz.underlying31 rfl (by kernel_rfl)) rfl ?_
         exact ⟨ex_, bb_⟩
       ·simp only [Option.some.injEq, Prod.mk.injEq] at H
        obtain ⟨rfl, rfl, rfl, rfl⟩ := H
        go_wp2_with (first | ((with_reducible refine zgK (f := 35) rfl ?_); refine gl_ (some 65) Tryz.func35 #[.string x4_33] ?_; (with_reducible refine (zqO.calls kj33 x4_33 t150 t151 false _ A38.out).mono ?_); rintro e w' ⟨rfl, ⟨nd, rfl⟩⟩; refine ⟨_, rfl, ?_⟩; (try (rw [zxE wc]; generalize hq_ : World.drewN wc _ = wc; have n0_ : Aside0 (wc.heap[gb146]? = some (.cells #[.int .i64 0, .int .i64 0, .int .i64 0] 31 (0, 0))) := ⟨by rw [← hq_]; exact bk_⟩; have n1_ : Aside0 (wc.heap[gb147]? = some (.cells #[.int .i64 0, .int .i64 0, .int .i64 x148002_1] 31 (0, 0))) := ⟨by rw [← hq_]; exact bk_⟩; have n2_ : Aside0 (Below w.heap.size w wc) := ⟨by rw [← hq_]; exact bb_⟩; clear BK146 BK147 HB hq_; have BK146 := n0_; have BK147 := n1_; have HB := n2_; clear n0_ n1_ n2_)); have hnb51 := NB147_146.out; have hnc51 := NB146_147.out; obtain ⟨hcz52_0, hcz52_1, hcz52_2⟩ := zdT BK147.out; obtain ⟨hfz52_0, hfz52_1, hfz52_2⟩ := zqD BK147.out; obtain ⟨hcz53_0, hcz53_1, hcz53_2⟩ := zdT BK146.out; obtain ⟨hfz53_0, hfz53_1, hfz53_2⟩ := zqD BK146.out))
        refine bodyPost_ret (zzB rfl _ _ gb146 31 #[.int .i64 0, .int .i64 0, .int .i64 0] (0, 0) _ rfl (by (with_reducible repeat (first | apply zuW | apply ztN | apply zqY)); refine zlL (cs := #[.int .i64 0, .int .i64 0, .int .i64 0]) ?_ 2 _ rfl; (with_reducible repeat (first | apply zuW | apply ztN | apply zqY)); refine zlL (cs := #[.int .i64 0, .int .i64 0, .int .i64 0]) ?_ 1 _ rfl; (with_reducible repeat (first | apply zuW | apply ztN | apply zqY)); refine zlL (cs := #[.int .i64 0, .int .i64 0, .int .i64 0]) ?_ 0 _ rfl; (with_reducible repeat (first | apply zuW | apply ztN | apply zqY)); refine znI ?_ NB146_147.out _; (with_reducible repeat (first | apply zuW | apply ztN | apply zqY)); refine znI ?_ NB146_147.out _; (with_reducible repeat (first | apply zuW | apply ztN | apply zqY)); exact BK146.out) Tryz.underlying31 rfl (by kernel_rfl)) rfl ?_
        exact ⟨ex_, bb_⟩

end Go.Proofs.YtehghobmmpihfaaGreatDoor.PFnExactReadPolygon
