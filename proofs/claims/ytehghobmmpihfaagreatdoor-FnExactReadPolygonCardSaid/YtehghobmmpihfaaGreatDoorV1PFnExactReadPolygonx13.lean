-- Printed for this claim by this session's program pp.py, which drives the kit's print with additions. Not trusted: Lean checks it.
import Derived.Test.YtehghobmmpihfaaGreatDoorV1PFnExactReadPolygonx7
import Derived.Test.YtehghobmmpihfaaGreatDoorV1PFnExactReadPolygonx12
namespace Go.Proofs.YtehghobmmpihfaaGreatDoor.PFnExactReadPolygon
open Go.RowKit Go.Proofs.YtehghobmmpihfaaGreatDoorW.PrintWords Go.Proofs.YtehghobmmpihfaaGreatDoorW.PrintLast Go.Proofs.YtehghobmmpihfaaGreatDoorW.PrintMore
attribute [local go_sem] zbB ziB zrC zhD znE zuB znH zkT   -- for this text's walks alone
set_option linter.unusedVariables false
set_option maxHeartbeats 8000000
set_option maxRecDepth 100000
set_option linter.unusedSimpArgs false

mutual
def zqN.l0 : Nat → List (S33) → List ByteArray → Int → Option ((List (S33)) × Bool)
 | 0, _, _, _ => none
 | k + 1, x4, x5, x6 => if x6 < (x5.length : Int) then (zqN.j1 k x4 x5 x6 (decide (x6 ≤ 16))) else (zqN.j1 k x4 x5 x6 false)
def zqN.j1 : Nat → List (S33) → List ByteArray → Int → Bool → Option ((List (S33)) × Bool)
 | 0, _, _, _, _ => none
 | k + 1, x4, x5, x6, x19 => if x19 = true then (if 0 ≤ x6 then (if x6 < (x5.length : Int) then ((zkO.f k (zzV ByteArray.empty x5 x6)).bind fun bt325 => (if bt325.2.2.2.2.2.2 = true then (if x4.length < 2932031007402 then (zqN.l0 k (x4 ++ [(⟨(⟨bt325.1, bt325.2.1, bt325.2.2.1⟩ : S31), (⟨bt325.2.2.2.1, bt325.2.2.2.2.1, bt325.2.2.2.2.2.1⟩ : S31)⟩ : S33)]) x5 (wrap64 (x6 + 1))) else (none)) else (some (([] : List (S33)), false)))) else (none)) else (none)) else ((zhB.f k x4).bind fun t336 => (if t336 = true then (some (x4, true)) else (some (([] : List (S33)), false))))
end
def zqN.f (k : Nat) (a0 : ByteArray) : Option ((List (S33)) × Bool) := (zjZ.f k a0 32).bind fun t321 => (zqN.l0 k (([] : List (S33))) t321 0)
theorem zqN.mono_l : ∀ k, (∀ y0 y1 y2, LeO (zqN.l0 k y0 y1 y2) (zqN.l0 (k + 1) y0 y1 y2)) ∧ (∀ y0 y1 y2 y3, LeO (zqN.j1 k y0 y1 y2 y3) (zqN.j1 (k + 1) y0 y1 y2 y3))
 | 0 => ⟨fun _ _ _ r h => by simp [zqN.l0] at h, fun _ _ _ _ r h => by simp [zqN.j1] at h⟩
 | k + 1 => by
  obtain ⟨ih0, ih1⟩ := zqN.mono_l k; refine ⟨?_, ?_⟩
  ·intro y0 y1 y2
   unfold zqN.l0
   repeat' (with_reducible first | exact ih0 _ _ _ | exact ih1 _ _ _ _ | exact zkO.mono _ _ | exact zjZ.mono _ _ _ | exact zhB.mono _ _ | exact LeO.refl _ | exact LeO.none _ | refine LeO.ite ?_ ?_ | refine LeO.bind ?_ (fun _ => ?_))
  ·intro y0 y1 y2 y3
   unfold zqN.j1
   repeat' (with_reducible first | exact ih0 _ _ _ | exact ih1 _ _ _ _ | exact zkO.mono _ _ | exact zjZ.mono _ _ _ | exact zhB.mono _ _ | exact LeO.refl _ | exact LeO.none _ | refine LeO.ite ?_ ?_ | refine LeO.bind ?_ (fun _ => ?_))
theorem zqN.mono : ∀ a0 k, LeO (zqN.f k a0) (zqN.f (k + 1) a0) := by
 intro a0 k; obtain ⟨ih0, ih1⟩ := zqN.mono_l k; unfold zqN.f
 repeat' (with_reducible first | exact ih0 _ _ _ | exact ih1 _ _ _ _ | exact zkO.mono _ _ | exact zjZ.mono _ _ _ | exact zhB.mono _ _ | exact LeO.refl _ | exact LeO.none _ | refine LeO.ite ?_ ?_ | refine LeO.bind ?_ (fun _ => ?_))
theorem zqN.calls (k : Nat) (a0 : ByteArray) (r1 : List (S33)) (r2 : Bool) (w : World) (h : zqN.f k a0 = some (r1, r2)) :
  Calls Tryz.prog 4 #[.string a0] w fun e w' => ∃ v0_ : Value, e = .returned (.tuple #[v0_, .bool r2]) ∧ Kd.R k33 33 w' w.heap.size (fun _ => True) v0_ r1 ∧ Below w.heap.size w w' := by
 have hu33 := Tryz.underlying33; have HB := zpS (Below.refl w.heap.size w); have H := h; unfold zqN.f at H; clear h; obtain ⟨y318, hy318⟩ : ∃ y_ : List (S33), y_ = (([] : List (S33))) := ⟨_, rfl⟩
 replace H : ((zjZ.f k a0 32).bind fun t321 => (zqN.l0 k y318 t321 0)) = some (r1, r2) := by first | (rw [hy318]; with_reducible exact H) | (have H2_ := (Option.bind_some _ _).symm.trans H; rw [hy318]; with_reducible exact H2_) | (have H2_ := (Option.bind_some _ _).symm.trans H; with_reducible exact H2_) | with_reducible exact H | (rw [hy318]; exact H) | exact H
 have Ny318 := zpS hy318; clear hy318; replace H := be_ H; obtain ⟨t321, A2, H⟩ := H; have H' := zpS H; clear H; go_enter Tryz.func4, Tryz.ntmps4
 go_wp2_with (first | ((with_reducible refine zpZ (N := 9) rfl ?_); refine Kd.R_lit k33 _ 33 ?hg (N := 9) ?hd (xs := ([] : List (S33))) (inner := []) (ok := fun _ => True) (okp := fun _ => True) ?hr ?hp (fun _ hk => hk) trivial (Below.refl _ _) (Nat.le_refl _) (by simp) ?_; (case hd => rfl); (case hg => rfl); (case hr => first | (go_simp; done) | (go_simp; rfl)); (case hp => exact (zfH.none _ _)); intro v319 w3 ho4 hb hg_ hnew_; clear hg_ hnew_; (first | rw [← Ny318.out] at ho4 | (simp only [Int.reduceToNat] at ho4; rw [← Ny318.out] at ho4)); have HO320 := zpS (Kd.R_lower ho4 (zuA bb_)); replace HB := ns_ hb; clear hb ho4) | ((with_reducible refine zgK (f := 9) rfl ?_); refine gl_ (some 11) Tryz.func9 #[.string a0, .int .u8 32] ?_; (with_reducible refine (zjZ.calls k a0 32 t321 _ A2.out).mono ?_); rintro e w5 ⟨v322, rfl, ho0, hb⟩; refine ⟨_, rfl, ?_⟩; replace HO320 := zpS (Kd.R_below (by (with_reducible repeat (first | apply Kd.R_alloc | apply Kd.R_drewN | apply Kd.R_drew)); exact HO320.out) hb); have HO323 := zpS (Kd.R_lower ho0 (zuA bb_)); replace HB := ns_ hb; (try clear hb); (try clear hb2); (try clear ho0)))
 (try go_simp)
 go_loopg [4, 6] k (fun kq v4 v6 w' => ∃ (x4_1 : List (S33)) (x6_1 : Int), v6 = .int .i64 x6_1 ∧ Aside0 (zqN.l0 kq x4_1 t321 x6_1 = some (r1, r2)) ∧ Aside0 (kq ≤ k) ∧ Aside0 (Kd.R k33 33 w' w.heap.size (fun _ => True) v4 x4_1) ∧ Aside0 (Kd.R Kd.string 9 w' w.heap.size (fun _ => True) v322 t321) ∧ Aside0 (Below w.heap.size w w'))
 case atStart => exact ⟨(y318), (0), (ey_), H', ⟨Nat.le_refl _⟩, ⟨by (with_reducible repeat (first | apply Kd.R_alloc | apply Kd.R_drewN | apply Kd.R_drew)); exact HO320.out⟩, ⟨by (with_reducible repeat (first | apply Kd.R_alloc | apply Kd.R_drewN | apply Kd.R_drew)); exact HO323.out⟩, ⟨bb_⟩⟩
 case round =>
  clear H'; (try clear p2); (try clear c4); obtain ⟨x4_1, x6_1, rfl, HA, HK1, HO_4, HO_5, HB⟩ := hrel
  cases gk with
  | zero => exact absurd HA.out (by simp [zqN.l0])
  | succ k1 =>
   have H := HA.out; clear HA; simp only [zqN.l0] at H; have HC6 := zpS H; clear H
   go_upto_region 4 with (fail)
   go_cut [19] (fun v19 wc => ∃ (kq : Nat) (x19_5 : Bool), v19 = .bool x19_5 ∧ Aside0 (zqN.j1 kq x4_1 t321 x6_1 x19_5 = some (r1, r2)) ∧ Aside0 (kq ≤ k1) ∧ Aside0 (Kd.R k33 33 wc w.heap.size (fun _ => True) u4 x4_1) ∧ Aside0 (Kd.R Kd.string 9 wc w.heap.size (fun _ => True) v322 t321) ∧ Aside0 (Below w.heap.size w wc))
   case first =>
    have H := HC6.out; clear HC6; replace H := iq_ H
    rcases H with ⟨c7b0, H⟩ | ⟨c7b0, H⟩
    ·(first | rw [c7b0] | (simp only [zcN, ziJ]; rw [c7b0]) | skip)
     have H' := zpS H; clear H; obtain ⟨Ao8, co8, eo8⟩ := Kd.R_slice HO_5.out; subst eo8
     go_wp2
     go_meet
     case rel => exact ⟨_, (decide (x6_1 ≤ 16)), (ey_), H', ⟨by have := HK1.out; first | omega | exact Nat.le_refl _⟩, ⟨by (with_reducible repeat (first | apply Kd.R_alloc | apply Kd.R_drewN | apply Kd.R_drew)); exact HO_4.out⟩, ⟨by (with_reducible repeat (first | apply Kd.R_alloc | apply Kd.R_drewN | apply Kd.R_drew)); exact HO_5.out⟩, ⟨bb_⟩⟩
    ·(first | rw [c7b0] | (simp only [zcN, ziJ]; rw [c7b0]) | skip)
     have H' := zpS H; clear H; obtain ⟨Ao9, co9, eo9⟩ := Kd.R_slice HO_5.out; subst eo9
     go_wp2
     go_meet
     case rel => exact ⟨_, (false), (ey_), H', ⟨by have := HK1.out; first | omega | exact Nat.le_refl _⟩, ⟨by (with_reducible repeat (first | apply Kd.R_alloc | apply Kd.R_drewN | apply Kd.R_drew)); exact HO_4.out⟩, ⟨by (with_reducible repeat (first | apply Kd.R_alloc | apply Kd.R_drewN | apply Kd.R_drew)); exact HO_5.out⟩, ⟨bb_⟩⟩
   case rest =>
    clear HC6; (try clear p2); (try clear c4); (try clear c7); (try clear c7b0); (try clear c9); (try clear p2); obtain ⟨kq, x19_5, rfl, HA, HJ5, HO_4, HO_5, HB⟩ := hcut
    cases kq with
    | zero => exact absurd HA.out (by simp [zqN.j1])
    | succ kj5 =>
     have H := HA.out; clear HA; simp only [zqN.j1] at H; replace H := ib_ H
     rcases H with ⟨rfl, H⟩ | ⟨rfl, H⟩
     ·replace H := ie_ H
      obtain ⟨c11b0, H⟩ := H; replace H := ie_ H; obtain ⟨c12b0, H⟩ := H; replace H := be_ H; obtain ⟨⟨t325, t326, t327, t328, t329, t330, t331⟩, A13, H⟩ := H; dsimp only at H; replace H := ib_ H
      rcases H with ⟨rfl, H⟩ | ⟨rfl, H⟩
      ·replace H := in_ H
       obtain ⟨c15, H⟩ := H; have LMc15 := zpS c15; clear c15; obtain ⟨y333, hy333⟩ : ∃ y_ : List (S33), y_ = (x4_1 ++ [(⟨(⟨t325, t326, t327⟩ : S31), (⟨t328, t329, t330⟩ : S31)⟩ : S33)]) := ⟨_, rfl⟩
       replace H : (zqN.l0 kj5 y333 t321 (wrap64 (x6_1 + 1))) = some (r1, r2) := by first | (rw [hy333]; with_reducible exact H) | (have H2_ := (Option.bind_some _ _).symm.trans H; rw [hy333]; with_reducible exact H2_) | (have H2_ := (Option.bind_some _ _).symm.trans H; with_reducible exact H2_) | with_reducible exact H | (rw [hy333]; exact H) | exact H
       have Ny333 := zpS hy333; clear hy333; have H' := zpS H; clear H; obtain ⟨Ao16, co16, eo16⟩ := Kd.R_slice HO_5.out; subst eo16; have p324 : 0 ≤ (x6_1 : Int) := dt_; have q324 : x6_1 < (t321.length : Int) := dt_; obtain ⟨ad324, e324, hx324_0⟩ := Kd.at_string (Kd.R_reads' HO_5.out).2.2 x6_1 p324 q324; cases e324; replace p324 := eq_true p324; replace q324 := eq_true q324
       go_wp2_with (first | ((with_reducible refine zgK (f := 10) rfl ?_); refine gl_ (some 27) Tryz.func10 #[.string (zzV ByteArray.empty t321 x6_1)] ?_; (with_reducible refine (zkO.calls kj5 (zzV ByteArray.empty t321 x6_1) t325 t326 t327 t328 t329 t330 true _ A13.out).mono ?_); rintro e w17 ⟨rfl, hb⟩; refine ⟨_, rfl, ?_⟩; replace HO_4 := zpS (Kd.R_below (by (with_reducible repeat (first | apply Kd.R_alloc | apply Kd.R_drewN | apply Kd.R_drew)); exact HO_4.out) hb); replace HO_5 := zpS (Kd.R_below (by (with_reducible repeat (first | apply Kd.R_alloc | apply Kd.R_drewN | apply Kd.R_drew)); exact HO_5.out) hb); replace HB := ns_ hb; (try clear hb); (try clear hb2)) | ((with_reducible refine zpZ (N := 7) rfl ?_); refine bx_ 7 #[.int .i64 0, .int .i64 0, .int .i64 0, .int .i64 0, .int .i64 0, .int .i64 0] 33 ?_; intro gb332 hg w18 hbox hb; replace HO_4 := zpS (Kd.R_below (Kd.R_elderB (by (with_reducible repeat (first | apply Kd.R_alloc | apply Kd.R_drewN | apply Kd.R_drew)); exact HO_4.out) gb332 (Nat.le_of_eq hg.symm)) hb); replace HO_5 := zpS (Kd.R_below (by (with_reducible repeat (first | apply Kd.R_alloc | apply Kd.R_drewN | apply Kd.R_drew)); exact HO_5.out) hb); have BK332 := zpS (hbox); have GW332 := ng_ hg; replace HB := ns_ hb; have GE332 := GW332; clear hb hbox hg; obtain ⟨hcz19_0, hcz19_1, hcz19_2, hcz19_3, hcz19_4, hcz19_5⟩ := zrN BK332.out; obtain ⟨hfz19_0, hfz19_1, hfz19_2, hfz19_3, hfz19_4, hfz19_5⟩ := zoO BK332.out) | ((with_reducible refine zcL (b := .append) (xs := #[.tmp 32, .tmp 34]) rfl ?_); at_builtin; refine Kd.R_append k33 (w0 := w) w.heap.size rfl (.tmp 32) (.tmp 34) 22 33 (.agg #[(.int .i64 0), (.int .i64 0), (.int .i64 0), (.int .i64 0), (.int .i64 0), (.int .i64 0)]) 48 rfl Tryz.underlying22 info33 rfl (by decide) (by omega) u4 x4_1 (⟨(⟨t325, t326, t327⟩ : S31), (⟨t328, t329, t330⟩ : S31)⟩ : S33) [.int .i64 t325, .int .i64 t326, .int .i64 t327, .int .i64 t328, .int .i64 t329, .int .i64 t330] (fun k_ => k_ ≠ gb332) (fun _ => False) rfl (by first | (go_simp; done) | (go_simp; rfl)) ?aP (fun _ hk => hk.elim) ?aF ?aO ?aB ?aS ?aL ?_; (case aP => exact k33_mkM _ _ _ (⟨(⟨t325, t326, t327⟩ : S31), (⟨t328, t329, t330⟩ : S31)⟩ : S33)); (case aB => exact bb_); (case aF => exact (fun k_ hk => Kd.freshB (g := gb332) (o := .cells #[.int .i64 t325, .int .i64 t326, .int .i64 t327, .int .i64 t328, .int .i64 t329, .int .i64 t330] 33 (0, 0)) (by (with_reducible repeat (first | apply zuW | apply ztN | apply zqY)); refine zlL (cs := #[.int .i64 t325, .int .i64 t326, .int .i64 t327, .int .i64 t328, .int .i64 t329, .int .i64 0]) ?_ 5 _ rfl; (with_reducible repeat (first | apply zuW | apply ztN | apply zqY)); refine zlL (cs := #[.int .i64 t325, .int .i64 t326, .int .i64 t327, .int .i64 t328, .int .i64 0, .int .i64 0]) ?_ 4 _ rfl; (with_reducible repeat (first | apply zuW | apply ztN | apply zqY)); refine zlL (cs := #[.int .i64 t325, .int .i64 t326, .int .i64 t327, .int .i64 0, .int .i64 0, .int .i64 0]) ?_ 3 _ rfl; (with_reducible repeat (first | apply zuW | apply ztN | apply zqY)); refine zlL (cs := #[.int .i64 t325, .int .i64 t326, .int .i64 0, .int .i64 0, .int .i64 0, .int .i64 0]) ?_ 2 _ rfl; (with_reducible repeat (first | apply zuW | apply ztN | apply zqY)); refine zlL (cs := #[.int .i64 t325, .int .i64 0, .int .i64 0, .int .i64 0, .int .i64 0, .int .i64 0]) ?_ 1 _ rfl; (with_reducible repeat (first | apply zuW | apply ztN | apply zqY)); refine zlL (cs := #[.int .i64 0, .int .i64 0, .int .i64 0, .int .i64 0, .int .i64 0, .int .i64 0]) ?_ 0 _ rfl; (with_reducible repeat (first | apply zuW | apply ztN | apply zqY)); exact BK332.out) k_ hk)); (case aO => exact (by (with_reducible repeat (first | apply Kd.R_alloc | apply Kd.R_drewN | apply Kd.R_drew)); exact Kd.R_mono (Kd.R_far (p := ⟨gb332, 5, none⟩) (Kd.R_far (p := ⟨gb332, 4, none⟩) (Kd.R_far (p := ⟨gb332, 3, none⟩) (Kd.R_far (p := ⟨gb332, 2, none⟩) (Kd.R_far (p := ⟨gb332, 1, none⟩) (Kd.R_far (p := ⟨gb332, 0, none⟩) (Kd.R_mono HO_4.out (fun k_ hk => (⟨hk, hk.2⟩ : _ ∧ k_ ≠ gb332))) (fun _ hk => hk.2) (.int .i64 t325)) (fun _ hk => hk.2) (.int .i64 t326)) (fun _ hk => hk.2) (.int .i64 t327)) (fun _ hk => hk.2) (.int .i64 t328)) (fun _ hk => hk.2) (.int .i64 t329)) (fun _ hk => hk.2) (.int .i64 t330)) (fun _ hk => hk.1.2))); (case aS => exact (zuA bb_)); (case aL => have := LMc15.out; omega); intro v334 w20 ho hb hg hat; rw [← Ny333.out] at ho; replace HO_5 := zpS (Kd.R_over' (by (with_reducible repeat (first | apply Kd.R_alloc | apply Kd.R_drewN | apply Kd.R_drew)); exact (Kd.R_mono (Kd.R_far (p := ⟨gb332, 5, none⟩) (Kd.R_far (p := ⟨gb332, 4, none⟩) (Kd.R_far (p := ⟨gb332, 3, none⟩) (Kd.R_far (p := ⟨gb332, 2, none⟩) (Kd.R_far (p := ⟨gb332, 1, none⟩) (Kd.R_far (p := ⟨gb332, 0, none⟩) (Kd.R_types HO_5.out BK332.out (by decide)) (fun _ hk => hk.2) (.int .i64 t325)) (fun _ hk => hk.2) (.int .i64 t326)) (fun _ hk => hk.2) (.int .i64 t327)) (fun _ hk => hk.2) (.int .i64 t328)) (fun _ hk => hk.2) (.int .i64 t329)) (fun _ hk => hk.2) (.int .i64 t330)) (fun _ h_ => h_.1))) (Kd.R_typed (by (with_reducible repeat (first | apply Kd.R_alloc | apply Kd.R_drewN | apply Kd.R_drew)); exact (Kd.R_mono (Kd.R_far (p := ⟨gb332, 5, none⟩) (Kd.R_far (p := ⟨gb332, 4, none⟩) (Kd.R_far (p := ⟨gb332, 3, none⟩) (Kd.R_far (p := ⟨gb332, 2, none⟩) (Kd.R_far (p := ⟨gb332, 1, none⟩) (Kd.R_far (p := ⟨gb332, 0, none⟩) (Kd.R_mono HO_4.out (fun k_ hk => (⟨hk, hk.2⟩ : _ ∧ k_ ≠ gb332))) (fun _ hk => hk.2) (.int .i64 t325)) (fun _ hk => hk.2) (.int .i64 t326)) (fun _ hk => hk.2) (.int .i64 t327)) (fun _ hk => hk.2) (.int .i64 t328)) (fun _ hk => hk.2) (.int .i64 t329)) (fun _ hk => hk.2) (.int .i64 t330)) (fun _ h_ => h_.1)))) (by decide) hg); replace BK332 := zpS (blk_grown (g := gb332) (o := .cells #[.int .i64 t325, .int .i64 t326, .int .i64 t327, .int .i64 t328, .int .i64 t329, .int .i64 t330] 33 (0, 0)) (by (with_reducible repeat (first | apply zuW | apply ztN | apply zqY)); refine zlL (cs := #[.int .i64 t325, .int .i64 t326, .int .i64 t327, .int .i64 t328, .int .i64 t329, .int .i64 0]) ?_ 5 _ rfl; (with_reducible repeat (first | apply zuW | apply ztN | apply zqY)); refine zlL (cs := #[.int .i64 t325, .int .i64 t326, .int .i64 t327, .int .i64 t328, .int .i64 0, .int .i64 0]) ?_ 4 _ rfl; (with_reducible repeat (first | apply zuW | apply ztN | apply zqY)); refine zlL (cs := #[.int .i64 t325, .int .i64 t326, .int .i64 t327, .int .i64 0, .int .i64 0, .int .i64 0]) ?_ 3 _ rfl; (with_reducible repeat (first | apply zuW | apply ztN | apply zqY)); refine zlL (cs := #[.int .i64 t325, .int .i64 t326, .int .i64 0, .int .i64 0, .int .i64 0, .int .i64 0]) ?_ 2 _ rfl; (with_reducible repeat (first | apply zuW | apply ztN | apply zqY)); refine zlL (cs := #[.int .i64 t325, .int .i64 0, .int .i64 0, .int .i64 0, .int .i64 0, .int .i64 0]) ?_ 1 _ rfl; (with_reducible repeat (first | apply zuW | apply ztN | apply zqY)); refine zlL (cs := #[.int .i64 0, .int .i64 0, .int .i64 0, .int .i64 0, .int .i64 0, .int .i64 0]) ?_ 0 _ rfl; (with_reducible repeat (first | apply zuW | apply ztN | apply zqY)); exact BK332.out) hg (Kd.R_away HO_4.out (fun _ hk => hk.2))); replace HB := zpS (hb); have HO335 := zpS (ho); clear HO_4; clear ho hb hg hat))
       go_roundg kj5
       case measure => have := HK1.out; have := HJ5.out; omega
       case rel => exact ⟨(y333), (wrap64 (x6_1 + 1)), (ey_), H', ⟨by have := HK1.out; have := HJ5.out; omega⟩, ⟨by (with_reducible repeat (first | apply Kd.R_alloc | apply Kd.R_drewN | apply Kd.R_drew)); exact Kd.R_mono HO335.out (fun _ hk => trivial)⟩, ⟨by (with_reducible repeat (first | apply Kd.R_alloc | apply Kd.R_drewN | apply Kd.R_drew)); exact HO_5.out⟩, ⟨bb_⟩⟩
      ·simp only [Option.some.injEq, Prod.mk.injEq] at H
       obtain ⟨rfl, rfl⟩ := H; obtain ⟨Ao21, co21, eo21⟩ := Kd.R_slice HO_5.out; subst eo21; have p324 : 0 ≤ (x6_1 : Int) := dt_; have q324 : x6_1 < (t321.length : Int) := dt_; obtain ⟨ad324, e324, hx324_0⟩ := Kd.at_string (Kd.R_reads' HO_5.out).2.2 x6_1 p324 q324; cases e324; replace p324 := eq_true p324; replace q324 := eq_true q324
       go_wp2_with (first | ((with_reducible refine zgK (f := 10) rfl ?_); refine gl_ (some 27) Tryz.func10 #[.string (zzV ByteArray.empty t321 x6_1)] ?_; (with_reducible refine (zkO.calls kj5 (zzV ByteArray.empty t321 x6_1) t325 t326 t327 t328 t329 t330 false _ A13.out).mono ?_); rintro e w22 ⟨rfl, hb⟩; refine ⟨_, rfl, ?_⟩; replace HO_4 := zpS (Kd.R_below (by (with_reducible repeat (first | apply Kd.R_alloc | apply Kd.R_drewN | apply Kd.R_drew)); exact HO_4.out) hb); replace HO_5 := zpS (Kd.R_below (by (with_reducible repeat (first | apply Kd.R_alloc | apply Kd.R_drewN | apply Kd.R_drew)); exact HO_5.out) hb); replace HB := ns_ hb; (try clear hb); (try clear hb2)) | ((with_reducible refine zpZ (N := 7) rfl ?_); refine bx_ 7 #[.int .i64 0, .int .i64 0, .int .i64 0, .int .i64 0, .int .i64 0, .int .i64 0] 33 ?_; intro gb332 hg w23 hbox hb; replace HO_4 := zpS (Kd.R_below (Kd.R_elderB (by (with_reducible repeat (first | apply Kd.R_alloc | apply Kd.R_drewN | apply Kd.R_drew)); exact HO_4.out) gb332 (Nat.le_of_eq hg.symm)) hb); replace HO_5 := zpS (Kd.R_below (by (with_reducible repeat (first | apply Kd.R_alloc | apply Kd.R_drewN | apply Kd.R_drew)); exact HO_5.out) hb); have BK332 := zpS (hbox); have GW332 := ng_ hg; replace HB := ns_ hb; have GE332 := GW332; clear hb hbox hg; obtain ⟨hcz24_0, hcz24_1, hcz24_2, hcz24_3, hcz24_4, hcz24_5⟩ := zrN BK332.out; obtain ⟨hfz24_0, hfz24_1, hfz24_2, hfz24_3, hfz24_4, hfz24_5⟩ := zoO BK332.out))
       go_ret2
       exact ⟨_, ex_, by first | exact Kd.R_nil _ _ _ _ _ | exact Kd.N_nil _ _ _ _ _ | exact Kd.V_nil _ _ _ _ _ | exact Kd.Q_nil _ _ _ _ _ | exact Kd.S_nil _ _ _ _ _, bb_⟩
     ·replace H := be_ H
      obtain ⟨t336, A25, H⟩ := H; replace H := ib_ H
      rcases H with ⟨rfl, H⟩ | ⟨rfl, H⟩
      ·simp only [Option.some.injEq, Prod.mk.injEq] at H
       obtain ⟨rfl, rfl⟩ := H; obtain ⟨Ao27, co27, eo27⟩ := Kd.R_slice HO_4.out; subst eo27
       go_wp2_with (first | ((with_reducible refine zgK (f := 11) rfl ?_); refine gl_ (some 37) Tryz.func11 #[.slice Ao27 x4_1.length co27] ?_; (with_reducible refine (zhB.calls kj5 _ _ x4_1 true _ ?side1 ?side2 A25.out).mono ?_); (case side1 => repeat (first | exact (Kd.R_reads' HO_4.out).2.2 | (with_reducible refine Kd.C_alloc ?_ _) | (with_reducible refine Kd.C_drewN ?_ _) | (with_reducible refine Kd.C_drew ?_))); (case side2 => exact (Kd.R_reads' HO_4.out).2.1); rintro e w28 ⟨rfl, hb⟩; refine ⟨_, rfl, ?_⟩; replace HO_4 := zpS (Kd.R_below (by (with_reducible repeat (first | apply Kd.R_alloc | apply Kd.R_drewN | apply Kd.R_drew)); exact HO_4.out) hb); replace HO_5 := zpS (Kd.R_below (by (with_reducible repeat (first | apply Kd.R_alloc | apply Kd.R_drewN | apply Kd.R_drew)); exact HO_5.out) hb); replace HB := ns_ hb; (try clear hb); (try clear hb2)))
       go_ret2
       exact ⟨_, ex_, by (with_reducible repeat (first | apply Kd.R_alloc | apply Kd.R_drewN | apply Kd.R_drew)); exact HO_4.out, bb_⟩
      ·simp only [Option.some.injEq, Prod.mk.injEq] at H
       obtain ⟨rfl, rfl⟩ := H; obtain ⟨Ao29, co29, eo29⟩ := Kd.R_slice HO_4.out; subst eo29
       go_wp2_with (first | ((with_reducible refine zgK (f := 11) rfl ?_); refine gl_ (some 37) Tryz.func11 #[.slice Ao29 x4_1.length co29] ?_; (with_reducible refine (zhB.calls kj5 _ _ x4_1 false _ ?side1 ?side2 A25.out).mono ?_); (case side1 => repeat (first | exact (Kd.R_reads' HO_4.out).2.2 | (with_reducible refine Kd.C_alloc ?_ _) | (with_reducible refine Kd.C_drewN ?_ _) | (with_reducible refine Kd.C_drew ?_))); (case side2 => exact (Kd.R_reads' HO_4.out).2.1); rintro e w30 ⟨rfl, hb⟩; refine ⟨_, rfl, ?_⟩; replace HO_4 := zpS (Kd.R_below (by (with_reducible repeat (first | apply Kd.R_alloc | apply Kd.R_drewN | apply Kd.R_drew)); exact HO_4.out) hb); replace HO_5 := zpS (Kd.R_below (by (with_reducible repeat (first | apply Kd.R_alloc | apply Kd.R_drewN | apply Kd.R_drew)); exact HO_5.out) hb); replace HB := ns_ hb; (try clear hb); (try clear hb2)))
       go_ret2
       exact ⟨_, ex_, by first | exact Kd.R_nil _ _ _ _ _ | exact Kd.N_nil _ _ _ _ _ | exact Kd.V_nil _ _ _ _ _ | exact Kd.Q_nil _ _ _ _ _ | exact Kd.S_nil _ _ _ _ _, bb_⟩

def LaidV6 (w : World) : Prop := Lib.TabIs Tryz.prog w "internal/strconv.uint64pow10" .u64 Lib.pow10Tab
theorem LaidV6.below {w w' : World} (h : LaidV6 w) (hB : Below w.heap.size w w') : LaidV6 w' := by
 unfold LaidV6 Lib.TabIs World.var? at h ⊢
 cases hg : Tryz.prog.globalNamed "internal/strconv.uint64pow10" with
 | none => rw [hg] at h; cases h
 | some g =>
  rw [hg] at h; simp only [Option.bind_some] at h ⊢
  have hlt : g < w.heap.size := by
   cases hh : w.heap[g]? with
   | none => rw [hh] at h; cases h
   | some o => exact (Array.getElem?_eq_some_iff.1 hh).1
  rw [hB.block g hlt]
  exact h
def LaidV5 (w : World) : Prop := ∃ v, w.cell? ⟨5, 0, none⟩ = some v ∧ (v = .nilIface ∨ ∃ te pe, v = .iface te pe)
theorem LaidV5.below {w w' : World} (h : LaidV5 w) (hB : Below w.heap.size w w') : LaidV5 w' := by
 obtain ⟨m, hm, h2⟩ := h
 exact ⟨m, (hB.cell (World.block_lt_of_cell? w _ hm)).trans hm, h2⟩
def LaidV4 (w : World) : Prop := ∃ v, w.cell? ⟨4, 0, none⟩ = some v ∧ (v = .nilIface ∨ ∃ te pe, v = .iface te pe)
theorem LaidV4.below {w w' : World} (h : LaidV4 w) (hB : Below w.heap.size w w') : LaidV4 w' := by
 obtain ⟨m, hm, h2⟩ := h
 exact ⟨m, (hB.cell (World.block_lt_of_cell? w _ hm)).trans hm, h2⟩
def gv1 : List S33 := [⟨⟨1, 0, 0⟩, ⟨0, 0, 0⟩⟩, ⟨⟨1, 0, 0⟩, ⟨-1, 1, 0⟩⟩, ⟨⟨1, 0, 0⟩, ⟨1, 0, 0⟩⟩, ⟨⟨-1, 1, 0⟩, ⟨1, 0, 0⟩⟩, ⟨⟨0, 0, 0⟩, ⟨1, 0, 0⟩⟩, ⟨⟨1, -1, 0⟩, ⟨1, 0, 0⟩⟩, ⟨⟨-1, 0, 0⟩, ⟨1, 0, 0⟩⟩, ⟨⟨-1, 0, 0⟩, ⟨-1, 1, 0⟩⟩]
def LaidV1 (w : World) : Prop := ∀ (j : Nat) (p : S33), gv1[j]? = some p → ∀ (i : Nat) (u : Value), [Value.int .i64 p.f0.f0, .int .i64 p.f0.f1, .int .i64 p.f0.f2, .int .i64 p.f1.f0, .int .i64 p.f1.f1, .int .i64 p.f1.f2][i]? = some u → w.cell? ((⟨1, 0, none⟩ : Addr).add (j * 6 + i)) = some u
theorem LaidV1.below {w w' : World} (h : LaidV1 w) (hB : Below w.heap.size w w') : LaidV1 w' := fun j p hp i u hu => (hB.cell (World.block_lt_of_cell? w _ (h j p hp i u hu))).trans (h j p hp i u hu)
theorem LaidV1.C {w : World} (h : LaidV1 w) : Kd.C k33 w (some ⟨1, 0, none⟩) gv1.length gv1 :=
 ⟨rfl, by decide, fun _ => ⟨_, rfl, fun j p hp => ⟨_, rfl, k33_mk w p, fun i u hu => h j p hp i u hu⟩⟩⟩
def gvCells1 : List Value := gv1.flatMap fun p => [Value.int .i64 p.f0.f0, .int .i64 p.f0.f1, .int .i64 p.f0.f2, .int .i64 p.f1.f0, .int .i64 p.f1.f1, .int .i64 p.f1.f2]
theorem LaidV1.of_cells {w : World} (h : ∀ off : Nat, w.cell? ⟨1, off, none⟩ = gvCells1[off]?) : LaidV1 w := by
 intro j p hp i u hu; have hj : j < 8 := (List.getElem?_eq_some_iff.1 hp).1; have hi : i < 6 := (List.getElem?_eq_some_iff.1 hu).1
 have ha : (⟨1, 0, none⟩ : Addr).add (j * 6 + i) = ⟨1, j * 6 + i, none⟩ := by rw [zyK]
 rw [ha, h]
 have : j = 0 ∨ j = 1 ∨ j = 2 ∨ j = 3 ∨ j = 4 ∨ j = 5 ∨ j = 6 ∨ j = 7 := by omega
 have : i = 0 ∨ i = 1 ∨ i = 2 ∨ i = 3 ∨ i = 4 ∨ i = 5 := by omega
 rcases ‹j = 0 ∨ _› with rfl | rfl | rfl | rfl | rfl | rfl | rfl | rfl <;> cases hp <;> rcases ‹i = 0 ∨ _› with rfl | rfl | rfl | rfl | rfl | rfl <;> cases hu <;> rfl
def LaidV2 (w : World) : Prop := Lib.Utf8Tabs 2 3 w
theorem LaidV2.below {w w' : World} (h : LaidV2 w) (hB : Below w.heap.size w w') : LaidV2 w' := Utf8Tabs_below h hB
def LaidV0 (w : World) : Prop := ∃ m : Int, w.cell? ⟨0, 0, none⟩ = some (.int .i64 m)
theorem LaidV0.below {w w' : World} (h : LaidV0 w) (hB : Below w.heap.size w w') : LaidV0 w' := by
 obtain ⟨m, hm⟩ := h
 exact ⟨m, (hB.cell (World.block_lt_of_cell? w _ hm)).trans hm⟩
structure LaidV (w : World) : Prop where
 v6 : LaidV6 w
 v5 : LaidV5 w
 v4 : LaidV4 w
 v1 : LaidV1 w
 v2 : LaidV2 w
 v0 : LaidV0 w
theorem LaidV.below {w w' : World} (h : LaidV w) (hB : Below w.heap.size w w') : LaidV w' := ⟨LaidV6.below h.v6 hB, LaidV5.below h.v5 hB, LaidV4.below h.v4 hB, LaidV1.below h.v1 hB, LaidV2.below h.v2 hB, LaidV0.below h.v0 hB⟩

def strings_Split.f (a0 a1 : ByteArray) : Option (List ByteArray) := if a0.size < 4294967281 ∧ 1 ≤ a1.size then some (Lib.splitB a1 0 (Lib.countB a0 a1) a0) else none
theorem strings_Split_R (w : World) (xs : List ByteArray) (hm : xs.length ≤ 9223372036854775807) : Kd.R Kd.string 9 (w.alloc (.cells (xs.map Value.string).toArray 9)) w.heap.size (fun _ => True) (.slice (some ⟨w.heap.size, 0, none⟩) xs.length xs.length) xs := by
 refine ⟨fun _ _ => trivial, xs.map Value.string, ?_, ?_⟩
 ·have h2 := World.ownsRow_lit (base := w.heap.size) (e := 9) (size := 1) w (xs.map Value.string).toArray xs.length (Nat.le_refl _) (by simpa [maxLen] using hm) (by simp)
  have h3 : (w.alloc (.cells (xs.map Value.string).toArray 9)).ownsRow w.heap.size 9 1 (.slice (some ⟨w.heap.size, 0, none⟩) xs.length xs.length) xs.length (xs.map Value.string) := by simpa using h2
  exact h3
 ·refine ⟨by simp [Kd.string, Kd.scalar], fun j p hj => ?_⟩
  have hlt : j < xs.length := (List.getElem?_eq_some_iff.1 hj).1
  have e : ((xs.map Value.string).drop (j * 1)).take 1 = [Value.string p] := by
   rw [Nat.mul_one, List.drop_eq_getElem_cons (by rw [List.length_map]; exact hlt), List.take_succ_cons, List.take_zero, List.getElem_map]; rw [List.getElem?_eq_getElem hlt] at hj; rw [Option.some.inj hj]
  exact e
theorem strings_Split.calls (a0 a1 : ByteArray) (r : List ByteArray) (w : World) (hG : LaidV w) (h : strings_Split.f a0 a1 = some r) :
  Calls Tryz.prog 12 #[.string a0, .string a1] w fun e w' => ∃ v0_ : Value, e = .returned v0_ ∧ Kd.R Kd.string 9 w' w.heap.size (fun _ => True) v0_ r ∧ Below w.heap.size w w' := by
 unfold strings_Split.f at h
 by_cases hc : a0.size < 4294967281 ∧ 1 ≤ a1.size
 ·rw [if_pos hc] at h
  obtain rfl := Option.some.inj h; obtain ⟨m, hm⟩ := hG.v0; refine (Tryz.strings_Split a0 a1 m w hc.1 hm hc.2).mono ?_; rintro e w' ⟨rfl, rfl⟩; have hl := Lib.splitB_all a1 hc.2 0 (Lib.countB a0 a1) a0 rfl
  have hR := strings_Split_R w (Lib.splitB a1 0 (Lib.countB a0 a1) a0) (by
   have h1 := Lib.countB_le a1 hc.2 a0.size a0 (Nat.le_refl _); have h2 := hc.1
   omega)
  rw [hl] at hR
  exact ⟨_, rfl, hR, znU (Below.refl _ _) _⟩
 ·rw [if_neg hc] at h; cases h

def stringslite_HasPrefix.f (a0 : ByteArray) (a1 : ByteArray) : Option (Bool) := if (a0.size : Int) ≥ (a1.size : Int) then (if 0 ≤ (a1.size : Int) then (if (a1.size : Int) ≤ (a0.size : Int) then (some ((a0.extract 0 ((a1.size : Int) : Int).toNat).toList == a1.toList)) else (none)) else (none)) else (some false)
theorem stringslite_HasPrefix.calls (a0 : ByteArray) (a1 : ByteArray) (r : Bool) (w : World) (h : stringslite_HasPrefix.f a0 a1 = some r) :
  Calls Tryz.prog 72 #[.string a0, .string a1] w fun e w' => e = .returned (.bool r) ∧ Drawn0 w w' := by
 have H := h; unfold stringslite_HasPrefix.f at H; clear h; replace H := ip_ H
 rcases H with ⟨c3, H⟩ | ⟨c3, H⟩
 ·have c3b0 : decide ((a1.size : Int) ≤ (a0.size : Int)) = true := decide_eq_true c3
  have c3b1 : decide (a1.size ≤ a0.size) = true := decide_eq_true (Int.ofNat_le.mp c3); clear c3; replace H := in_ H; obtain ⟨c4, H⟩ := H; have c4b0 := eq_true c4; have c4b1 := decide_eq_true c4; clear c4; replace H := in_ H; obtain ⟨c5, H⟩ := H; have c5b0 := eq_true c5; have c5b1 := decide_eq_true c5; clear c5; obtain rfl := Option.some.inj H; go_enter Tryz.func72, Tryz.ntmps72
  go_wp2
  go_ret
  exact ⟨ey_, dn_⟩
 ·have c3b0 : decide ((a1.size : Int) ≤ (a0.size : Int)) = false := decide_eq_false c3
  have c3b1 : decide (a1.size ≤ a0.size) = false := decide_eq_false (fun h => c3 (Int.ofNat_le.mpr h))
  clear c3; obtain rfl := Option.some.inj H; go_enter Tryz.func72, Tryz.ntmps72
  go_wp2
  go_ret
  exact ⟨ey_, dn_⟩

def stringslite_CutPrefix.f (a0 : ByteArray) (a1 : ByteArray) : Option (ByteArray × Bool) := (stringslite_HasPrefix.f a0 a1).bind fun t337 => (if t337 = true then (if 0 ≤ (a1.size : Int) then (if (a1.size : Int) ≤ (a0.size : Int) then (some (a0.extract ((a1.size : Int) : Int).toNat a0.size, true)) else (none)) else (none)) else (some (a0, false)))
theorem stringslite_CutPrefix.calls (a0 : ByteArray) (a1 : ByteArray) (r1 : ByteArray) (r2 : Bool) (w : World) (h : stringslite_CutPrefix.f a0 a1 = some (r1, r2)) :
  Calls Tryz.prog 45 #[.string a0, .string a1] w fun e w' => e = .returned (.tuple #[.string r1, .bool r2]) ∧ Drawn0 w w' := by
 have H := h; unfold stringslite_CutPrefix.f at H; clear h; replace H := be_ H; obtain ⟨t337, A3, H⟩ := H; replace H := ib_ H
 rcases H with ⟨rfl, H⟩ | ⟨rfl, H⟩
 ·replace H := in_ H
  obtain ⟨c5, H⟩ := H; have c5b0 := eq_true c5; have c5b1 := decide_eq_true c5; clear c5; replace H := in_ H; obtain ⟨c6, H⟩ := H; have c6b0 := eq_true c6; have c6b1 := decide_eq_true c6; clear c6; simp only [Option.some.injEq, Prod.mk.injEq] at H; obtain ⟨rfl, rfl⟩ := H; go_enter Tryz.func45, Tryz.ntmps45
  go_wp2_with (first | ((with_reducible refine zgK (f := 72) rfl ?_); refine gl_ (some 8) Tryz.func72 #[.string a0, .string a1] ?_; (with_reducible refine (stringslite_HasPrefix.calls a0 a1 true _ A3.out).mono ?_); rintro e w' ⟨rfl, ⟨nd, rfl⟩⟩; refine ⟨_, rfl, ?_⟩))
  go_ret2
  exact ⟨ey_, dn_⟩
 ·simp only [Option.some.injEq, Prod.mk.injEq] at H
  obtain ⟨rfl, rfl⟩ := H; go_enter Tryz.func45, Tryz.ntmps45
  go_wp2_with (first | ((with_reducible refine zgK (f := 72) rfl ?_); refine gl_ (some 8) Tryz.func72 #[.string a0, .string a1] ?_; (with_reducible refine (stringslite_HasPrefix.calls a0 a1 false _ A3.out).mono ?_); rintro e w' ⟨rfl, ⟨nd, rfl⟩⟩; refine ⟨_, rfl, ?_⟩))
  go_ret2
  exact ⟨ey_, dn_⟩

def zvO.f (a0 : ByteArray) (a1 : ByteArray) : Option (ByteArray × Bool) := (stringslite_CutPrefix.f a0 a1).bind fun bt338 => (some (bt338.1, bt338.2))
theorem zvO.calls (a0 : ByteArray) (a1 : ByteArray) (r1 : ByteArray) (r2 : Bool) (w : World) (h : zvO.f a0 a1 = some (r1, r2)) :
  Calls Tryz.prog 24 #[.string a0, .string a1] w fun e w' => e = .returned (.tuple #[.string r1, .bool r2]) ∧ Drawn0 w w' := by
 have H := h; unfold zvO.f at H; clear h; replace H := be_ H; obtain ⟨⟨t338, t339⟩, A3, H⟩ := H; dsimp only at H; simp only [Option.some.injEq, Prod.mk.injEq] at H; obtain ⟨rfl, rfl⟩ := H; go_enter Tryz.func24, Tryz.ntmps24
 go_wp2_with (first | ((with_reducible refine zgK (f := 45) rfl ?_); refine gl_ (some 8) Tryz.func45 #[.string a0, .string a1] ?_; (with_reducible refine (stringslite_CutPrefix.calls a0 a1 t338 t339 _ A3.out).mono ?_); rintro e w' ⟨rfl, ⟨nd, rfl⟩⟩; refine ⟨_, rfl, ?_⟩))
 go_ret2
 exact ⟨ey_, dn_⟩

def stringslite_HasSuffix.f (a0 : ByteArray) (a1 : ByteArray) : Option (Bool) := if (a0.size : Int) ≥ (a1.size : Int) then (if 0 ≤ (wrap64 ((a0.size : Int) - (a1.size : Int))) then (if (wrap64 ((a0.size : Int) - (a1.size : Int))) ≤ (a0.size : Int) then (some ((a0.extract ((wrap64 ((a0.size : Int) - (a1.size : Int))) : Int).toNat a0.size).toList == a1.toList)) else (none)) else (none)) else (some false)
theorem stringslite_HasSuffix.calls (a0 : ByteArray) (a1 : ByteArray) (r : Bool) (w : World) (h : stringslite_HasSuffix.f a0 a1 = some r) :
  Calls Tryz.prog 73 #[.string a0, .string a1] w fun e w' => e = .returned (.bool r) ∧ Drawn0 w w' := by
 have H := h; unfold stringslite_HasSuffix.f at H; clear h; replace H := ip_ H
 rcases H with ⟨c3, H⟩ | ⟨c3, H⟩
 ·have c3b0 : decide ((a1.size : Int) ≤ (a0.size : Int)) = true := decide_eq_true c3
  have c3b1 : decide (a1.size ≤ a0.size) = true := decide_eq_true (Int.ofNat_le.mp c3); clear c3; obtain ⟨ji4, hji4⟩ : ∃ j_ : Int, (wrap64 ((a0.size : Int) - (a1.size : Int))) = j_ := ⟨_, rfl⟩
  replace H : (if 0 ≤ (ji4) then (if (ji4) ≤ (a0.size : Int) then (some ((a0.extract ((ji4) : Int).toNat a0.size).toList == a1.toList)) else (none)) else (none)) = some r := by first | (rw [hji4] at H; exact H) | (simp only [hji4] at H ⊢; exact H)
  have hji4w : (IntKind.i64.wrap ((a0.size : Int) - (a1.size : Int))) = ji4 := (zcN _).trans hji4; replace H := in_ H; obtain ⟨c5, H⟩ := H; have c5b0 := eq_true c5; have c5b1 := decide_eq_true c5; clear c5; replace H := in_ H; obtain ⟨c6, H⟩ := H; have c6b0 := eq_true c6; have c6b1 := decide_eq_true c6; clear c6; obtain rfl := Option.some.inj H; go_enter Tryz.func73, Tryz.ntmps73
  go_wp2
  go_ret
  exact ⟨by first | rfl | (simp; done) | (simp only [← hji4] <;> (first | rfl | simp)) | (simp [*]; done), dn_⟩
 ·have c3b0 : decide ((a1.size : Int) ≤ (a0.size : Int)) = false := decide_eq_false c3
  have c3b1 : decide (a1.size ≤ a0.size) = false := decide_eq_false (fun h => c3 (Int.ofNat_le.mpr h))
  clear c3; obtain rfl := Option.some.inj H; go_enter Tryz.func73, Tryz.ntmps73
  go_wp2
  go_ret
  exact ⟨ey_, dn_⟩

def stringslite_CutSuffix.f (a0 : ByteArray) (a1 : ByteArray) : Option (ByteArray × Bool) := (stringslite_HasSuffix.f a0 a1).bind fun t340 => (if t340 = true then (if 0 ≤ (wrap64 ((a0.size : Int) - (a1.size : Int))) then (if (wrap64 ((a0.size : Int) - (a1.size : Int))) ≤ (a0.size : Int) then (some (a0.extract 0 ((wrap64 ((a0.size : Int) - (a1.size : Int))) : Int).toNat, true)) else (none)) else (none)) else (some (a0, false)))
theorem stringslite_CutSuffix.calls (a0 : ByteArray) (a1 : ByteArray) (r1 : ByteArray) (r2 : Bool) (w : World) (h : stringslite_CutSuffix.f a0 a1 = some (r1, r2)) :
  Calls Tryz.prog 46 #[.string a0, .string a1] w fun e w' => e = .returned (.tuple #[.string r1, .bool r2]) ∧ Drawn0 w w' := by
 have H := h; unfold stringslite_CutSuffix.f at H; clear h; replace H := be_ H; obtain ⟨t340, A3, H⟩ := H; replace H := ib_ H
 rcases H with ⟨rfl, H⟩ | ⟨rfl, H⟩
 ·obtain ⟨ji5, hji5⟩ : ∃ j_ : Int, (wrap64 ((a0.size : Int) - (a1.size : Int))) = j_ := ⟨_, rfl⟩
  replace H : (if 0 ≤ (ji5) then (if (ji5) ≤ (a0.size : Int) then (some (a0.extract 0 ((ji5) : Int).toNat, true)) else (none)) else (none)) = some (r1, r2) := by first | (rw [hji5] at H; exact H) | (simp only [hji5] at H ⊢; exact H)
  (try rw [hji5] at A3)
  have hji5w : (IntKind.i64.wrap ((a0.size : Int) - (a1.size : Int))) = ji5 := (zcN _).trans hji5; replace H := in_ H; obtain ⟨c6, H⟩ := H; have c6b0 := eq_true c6; have c6b1 := decide_eq_true c6; clear c6; replace H := in_ H; obtain ⟨c7, H⟩ := H; have c7b0 := eq_true c7; have c7b1 := decide_eq_true c7; clear c7; simp only [Option.some.injEq, Prod.mk.injEq] at H; obtain ⟨rfl, rfl⟩ := H; go_enter Tryz.func46, Tryz.ntmps46
  go_wp2_with (first | ((with_reducible refine zgK (f := 73) rfl ?_); refine gl_ (some 8) Tryz.func73 #[.string a0, .string a1] ?_; (with_reducible refine (stringslite_HasSuffix.calls a0 a1 true _ A3.out).mono ?_); rintro e w' ⟨rfl, ⟨nd, rfl⟩⟩; refine ⟨_, rfl, ?_⟩))
  go_ret2
  exact ⟨by first | rfl | (simp; done) | (simp only [← hji5] <;> (first | rfl | simp)) | (simp [*]; done), dn_⟩
 ·simp only [Option.some.injEq, Prod.mk.injEq] at H
  obtain ⟨rfl, rfl⟩ := H; go_enter Tryz.func46, Tryz.ntmps46
  go_wp2_with (first | ((with_reducible refine zgK (f := 73) rfl ?_); refine gl_ (some 8) Tryz.func73 #[.string a0, .string a1] ?_; (with_reducible refine (stringslite_HasSuffix.calls a0 a1 false _ A3.out).mono ?_); rintro e w' ⟨rfl, ⟨nd, rfl⟩⟩; refine ⟨_, rfl, ?_⟩))
  go_ret2
  exact ⟨ey_, dn_⟩

def zlW.f (a0 : ByteArray) (a1 : ByteArray) : Option (ByteArray × Bool) := (stringslite_CutSuffix.f a0 a1).bind fun bt341 => (some (bt341.1, bt341.2))
theorem zlW.calls (a0 : ByteArray) (a1 : ByteArray) (r1 : ByteArray) (r2 : Bool) (w : World) (h : zlW.f a0 a1 = some (r1, r2)) :
  Calls Tryz.prog 25 #[.string a0, .string a1] w fun e w' => e = .returned (.tuple #[.string r1, .bool r2]) ∧ Drawn0 w w' := by
 have H := h; unfold zlW.f at H; clear h; replace H := be_ H; obtain ⟨⟨t341, t342⟩, A3, H⟩ := H; dsimp only at H; simp only [Option.some.injEq, Prod.mk.injEq] at H; obtain ⟨rfl, rfl⟩ := H; go_enter Tryz.func25, Tryz.ntmps25
 go_wp2_with (first | ((with_reducible refine zgK (f := 46) rfl ?_); refine gl_ (some 8) Tryz.func46 #[.string a0, .string a1] ?_; (with_reducible refine (stringslite_CutSuffix.calls a0 a1 t341 t342 _ A3.out).mono ?_); rintro e w' ⟨rfl, ⟨nd, rfl⟩⟩; refine ⟨_, rfl, ?_⟩))
 go_ret2
 exact ⟨ey_, dn_⟩

def strings_Cut.f (a0 a1 : ByteArray) : Option (ByteArray × ByteArray × Bool) := if a0.size < 4294967281 then some (⟨(Lib.cut a0.data.toList a1.data.toList).1.toArray⟩, ⟨(Lib.cut a0.data.toList a1.data.toList).2.1.toArray⟩, (Lib.cut a0.data.toList a1.data.toList).2.2) else none
theorem strings_Cut.calls (a0 a1 : ByteArray) (r1 r2 : ByteArray) (r3 : Bool) (w : World) (hG : LaidV w) (h : strings_Cut.f a0 a1 = some (r1, r2, r3)) :
  Calls Tryz.prog 26 #[.string a0, .string a1] w fun e w' => e = .returned (.tuple #[.string r1, .string r2, .bool r3]) ∧ Drawn0 w w' := by
 unfold strings_Cut.f at h
 by_cases h1 : a0.size < 4294967281
 ·rw [if_pos h1] at h
  simp only [Option.some.injEq, Prod.mk.injEq] at h; obtain ⟨rfl, rfl, rfl⟩ := h; obtain ⟨m, hm⟩ := hG.v0; refine (Tryz.strings_Cut a0 a1 m w h1 hm).mono ?_; rintro e w' ⟨rfl, n, rfl⟩
  exact ⟨rfl, n, rfl⟩
 ·rw [if_neg h1] at h; cases h

def zkI.f (a0 : ByteArray) : Option (Int × Bool) := if a0.size ≤ 281474976710656 then (match Lib.parseIntB 64 a0.data.toList with | .ok v => if -9223372036854775808 ≤ v ∧ v ≤ 9223372036854775807 then some (v, Lib.itoa v == a0.toList) else none | .range => some (Lib.intSat 64 a0.data.toList, false) | _ => some (0, false)) else none
theorem impl_readNumber_fmt (v : Int) (h0 : -9223372036854775808 ≤ v) (h1 : v ≤ 9223372036854775807) (w W : World) (hG : LaidV w) (hB : Below w.heap.size w W) :
  Calls Tryz.prog 100 #[.int .i64 v, .int .i64 10] W fun e w' => e = .returned (.string ⟨(Lib.itoa v).toArray⟩) ∧ Below w.heap.size w w' := by
 refine (Tryz.strconv_FormatInt_10 v h0 h1 W (LaidV.below hG hB).v6).mono ?_; rintro e w' ⟨rfl, k, os, rfl⟩
 exact ⟨rfl, hB.trans ((show Below W.heap.size W («Sort».grow (W.drewN k) os) from ⟨rfl, rfl, rfl, by show W.heap.size ≤ (W.heap ++ os).size; rw [Array.size_append]; omega, fun i hi => Array.getElem?_append_left hi⟩).mono hB.size)⟩
theorem impl_readNumber_dec (v : Int) (h0 : -9223372036854775808 ≤ v) (h1 : v ≤ 9223372036854775807) (w W : World) (hG : LaidV w) (hB : Below w.heap.size w W) :
  Calls Tryz.prog 75 #[.int .i64 v] W fun e w' => e = .returned (.string ⟨(Lib.itoa v).toArray⟩) ∧ Below w.heap.size w w' := by
 have HB := zpS hB; have V0 := zpS h0; have V1 := zpS h1; clear hB h0 h1; go_enter Tryz.func75, Tryz.ntmps75
 go_wp2_with (go_at_call 100; (refine (impl_readNumber_fmt v V0.out V1.out w _ hG HB.out).mono ?_); rintro e w' ⟨rfl, hw⟩; clear HB; have HB := zpS hw; clear hw)
 go_ret
 exact ⟨rfl, HB.out⟩
theorem impl_readNumber_bad (s : ByteArray) (h0 : s.size ≤ 281474976710656) (v : Int) (hv : (Lib.parseIntB 64 s.data.toList = Lib.parseIntB 64 [] ∧ v = 0) ∨ (Lib.parseIntB 64 s.data.toList = .range ∧ v = Lib.intSat 64 s.data.toList)) (w : World) (hG : LaidV w) :
  Calls Tryz.prog 74 #[.string s, .int .i64 10, .int .i64 64] w fun e w' => ∃ te pe, e = .returned (.tuple #[.int .i64 v, .iface te pe]) ∧ Below w.heap.size w w' := by
 rcases hv with ⟨hp, rfl⟩ | ⟨hp, rfl⟩
 ·obtain ⟨ev, h1, h2⟩ := hG.v4
  exact (Tryz.strconv_ParseInt_10_at64_syntax s h0 hp ev w h1 h2).mono (by rintro e w' ⟨N, rfl, _, _, hb⟩; exact ⟨_, _, rfl, hb⟩)
 ·obtain ⟨ev, h1, h2⟩ := hG.v5
  exact (Tryz.strconv_ParseInt_10_at64_range s h0 hp ev w h1 h2).mono (by rintro e w' ⟨N, rfl, _, _, hb⟩; exact ⟨_, _, rfl, hb⟩)
theorem impl_readNumber_good (s : ByteArray) (h0 : s.size ≤ 281474976710656) (v : Int) (hp : Lib.parseIntB 64 s.data.toList = .ok v) (w : World) :
  Calls Tryz.prog 74 #[.string s, .int .i64 10, .int .i64 64] w fun e w' => e = .returned (.tuple #[.int .i64 v, .nilIface]) ∧ Below w.heap.size w w' :=
 (Tryz.strconv_ParseInt_10_at64_ok s (by omega) v hp w).mono (by
  rintro e w' ⟨rfl, rfl | ⟨t, rfl⟩⟩
  ·exact ⟨rfl, Below.refl _ _⟩
  ·exact ⟨rfl, rfl, rfl, rfl, by rw [Lib.bytesWorld_size]; omega, fun k hk => Lib.bytesWorld_at_old w _ _ k (by omega)⟩)
theorem impl_readNumber_no (a0 : ByteArray) (v : Int) (w : World) (hG : LaidV w) (h1 : a0.size ≤ 281474976710656) (hv : (Lib.parseIntB 64 a0.data.toList = Lib.parseIntB 64 [] ∧ v = 0) ∨ (Lib.parseIntB 64 a0.data.toList = .range ∧ v = Lib.intSat 64 a0.data.toList)) :
  Calls Tryz.prog 48 #[.string a0] w fun e w' => e = .returned (.tuple #[.int .i64 v, .bool false]) ∧ Below w.heap.size w w' := by
 have HP := zpS hv; have H1 := zpS h1; clear hv h1; go_enter Tryz.func48, Tryz.ntmps48
 go_wp2_with (first | (go_at_call 74; (refine (impl_readNumber_bad a0 H1.out v HP.out w hG).mono ?_); rintro e w' ⟨te, pe, rfl, hw⟩; have HB := zpS hw; clear hw))
 go_ret2
 exact ⟨rfl, HB.out⟩
theorem zkI.calls (a0 : ByteArray) (r1 : Int) (r2 : Bool) (w : World) (hG : LaidV w) (h : zkI.f a0 = some (r1, r2)) :
  Calls Tryz.prog 48 #[.string a0] w fun e w' => e = .returned (.tuple #[.int .i64 r1, .bool r2]) ∧ Below w.heap.size w w' := by
 unfold zkI.f at h
 by_cases h1 : a0.size ≤ 281474976710656
 ·rw [if_pos h1] at h
  cases hp : Lib.parseIntB 64 a0.data.toList with
  | ok v =>
   rw [hp] at h; dsimp only at h
   by_cases hv : -9223372036854775808 ≤ v ∧ v ≤ 9223372036854775807
   ·rw [if_pos hv] at h
    simp only [Option.some.injEq, Prod.mk.injEq] at h; obtain ⟨rfl, rfl⟩ := h; obtain ⟨v0, v1⟩ := hv; have HP := zpS hp; have H1 := zpS h1; have V0 := zpS v0; have V1 := zpS v1; clear hp h1 v0 v1; go_enter Tryz.func48, Tryz.ntmps48
    go_wp2_with (first | (go_at_call 74; (refine (impl_readNumber_good a0 H1.out v HP.out w).mono ?_); rintro e w' ⟨rfl, hw⟩; have HB := zpS hw; clear hw) | (go_at_call 75; (refine (impl_readNumber_dec v V0.out V1.out w _ hG HB.out).mono ?_); rintro e w' ⟨rfl, hw⟩; clear HB; have HB := zpS hw; clear hw))
    go_ret2
    exact ⟨rfl, HB.out⟩
   ·rw [if_neg hv] at h; cases h
  | range =>
   rw [hp] at h; simp only [Option.some.injEq, Prod.mk.injEq] at h; obtain ⟨rfl, rfl⟩ := h
   exact impl_readNumber_no a0 _ w hG h1 (Or.inr ⟨hp, rfl⟩)
  | _ =>
   rw [hp] at h; simp only [Option.some.injEq, Prod.mk.injEq] at h; obtain ⟨rfl, rfl⟩ := h
   exact impl_readNumber_no a0 _ w hG h1 (Or.inl ⟨hp, rfl⟩)
 ·rw [if_neg h1] at h; cases h

def bits_Len64.f (a0 : Int) : Option Int := if 0 ≤ a0 ∧ a0 ≤ 18446744073709551615 then some (Lib.bitLen a0.toNat : Int) else none
theorem bits_Len64.calls (a0 : Int) (r : Int) (w : World) (h : bits_Len64.f a0 = some r) :
  Calls Tryz.prog 49 #[.int .u64 a0] w fun e w' => e = .returned (.int .i64 r) ∧ Drawn0 w w' := by
 unfold bits_Len64.f at h
 by_cases h1 : 0 ≤ a0 ∧ a0 ≤ 18446744073709551615
 ·rw [if_pos h1] at h
  obtain rfl := Option.some.inj h; refine (Tryz.bits_Len64 a0 w h1.1 h1.2).mono ?_; rintro e w' ⟨rfl, rfl⟩
  exact ⟨rfl, Drawn0.refl _⟩
 ·rw [if_neg h1] at h; cases h

def stringslite_TrimPrefix.f (a0 : ByteArray) (a1 : ByteArray) : Option (ByteArray) := (stringslite_HasPrefix.f a0 a1).bind fun t343 => (if t343 = true then (if 0 ≤ (a1.size : Int) then (if (a1.size : Int) ≤ (a0.size : Int) then (some (a0.extract ((a1.size : Int) : Int).toNat a0.size)) else (none)) else (none)) else (some a0))
theorem stringslite_TrimPrefix.calls (a0 : ByteArray) (a1 : ByteArray) (r : ByteArray) (w : World) (h : stringslite_TrimPrefix.f a0 a1 = some r) :
  Calls Tryz.prog 78 #[.string a0, .string a1] w fun e w' => e = .returned (.string r) ∧ Drawn0 w w' := by
 have H := h; unfold stringslite_TrimPrefix.f at H; clear h; replace H := be_ H; obtain ⟨t343, A3, H⟩ := H; replace H := ib_ H
 rcases H with ⟨rfl, H⟩ | ⟨rfl, H⟩
 ·replace H := in_ H
  obtain ⟨c5, H⟩ := H; have c5b0 := eq_true c5; have c5b1 := decide_eq_true c5; clear c5; replace H := in_ H; obtain ⟨c6, H⟩ := H; have c6b0 := eq_true c6; have c6b1 := decide_eq_true c6; clear c6; obtain rfl := Option.some.inj H; go_enter Tryz.func78, Tryz.ntmps78
  go_wp2_with (first | ((with_reducible refine zgK (f := 72) rfl ?_); refine gl_ (some 7) Tryz.func72 #[.string a0, .string a1] ?_; (with_reducible refine (stringslite_HasPrefix.calls a0 a1 true _ A3.out).mono ?_); rintro e w' ⟨rfl, ⟨nd, rfl⟩⟩; refine ⟨_, rfl, ?_⟩))
  go_ret
  exact ⟨ey_, dn_⟩
 ·obtain rfl := Option.some.inj H
  go_enter Tryz.func78, Tryz.ntmps78
  go_wp2_with (first | ((with_reducible refine zgK (f := 72) rfl ?_); refine gl_ (some 7) Tryz.func72 #[.string a0, .string a1] ?_; (with_reducible refine (stringslite_HasPrefix.calls a0 a1 false _ A3.out).mono ?_); rintro e w' ⟨rfl, ⟨nd, rfl⟩⟩; refine ⟨_, rfl, ?_⟩))
  go_ret
  exact ⟨ey_, dn_⟩

def zjE.f (a0 : ByteArray) (a1 : ByteArray) : Option (ByteArray) := (stringslite_TrimPrefix.f a0 a1).bind fun t344 => (some t344)
theorem zjE.calls (a0 : ByteArray) (a1 : ByteArray) (r : ByteArray) (w : World) (h : zjE.f a0 a1 = some r) :
  Calls Tryz.prog 52 #[.string a0, .string a1] w fun e w' => e = .returned (.string r) ∧ Drawn0 w w' := by
 have H := h; unfold zjE.f at H; clear h; replace H := be_ H; obtain ⟨t344, A3, H⟩ := H; obtain rfl := Option.some.inj H; go_enter Tryz.func52, Tryz.ntmps52
 go_wp2_with (first | ((with_reducible refine zgK (f := 78) rfl ?_); refine gl_ (some 7) Tryz.func78 #[.string a0, .string a1] ?_; (with_reducible refine (stringslite_TrimPrefix.calls a0 a1 t344 _ A3.out).mono ?_); rintro e w' ⟨rfl, ⟨nd, rfl⟩⟩; refine ⟨_, rfl, ?_⟩))
 go_ret
 exact ⟨ey_, dn_⟩

end Go.Proofs.YtehghobmmpihfaaGreatDoor.PFnExactReadPolygon
