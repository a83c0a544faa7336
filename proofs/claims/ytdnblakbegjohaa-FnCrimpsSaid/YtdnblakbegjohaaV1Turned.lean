/- Plain lemmas of this session on crimps: where none is possible, and mountains and valleys exchanged. Conditions: none. -/
import Derived.Test.YtdnblakbegjohaaV1Cones
namespace Go.Proofs.Ytdnblakbegjohaa.Math
open Go.RowKit Go.Proofs.YtdnblakbegjohaaW.PrintWords Go.Proofs.YtdnblakbegjohaaW.PrintMore

theorem firstRun_none (l : List Int) : ∀ (d i : Nat), zpQ l d i = none → ∀ j, i ≤ j → j < i + d → ¬ zfG l j > 0
  | 0, i, _, j, h1, h2 => by omega
  | d + 1, i, h, j, h1, h2 => by
    simp only [zpQ] at h
    split at h
    · cases h
    · by_cases e : j = i
      · subst e; assumption
      · exact firstRun_none l d (i + 1) h j (by omega) (by omega)
theorem runAt_min (l : List Int) (i : Nat) (hmin : ∀ k, at' l i ≤ at' l k) : ∀ d m : Nat, 1 ≤ m → 0 < runAt l i d m
  | 0, m, hm => by simp only [runAt]; omega
  | d + 1, m, hm => by
    simp only [runAt]
    split
    · exact runAt_min l i hmin d (m + 1) (by omega)
    · have := hmin (i + m)
      rw [if_neg (by omega)]
      omega
theorem runVal_min (l : List Int) (i : Nat) (hmin : ∀ k, at' l i ≤ at' l k) (hp : at' l (i + l.length - 1) > at' l i) : zfG l i > 0 := by
  unfold zfG
  rw [if_neg (by omega)]
  exact runAt_min l i hmin _ 1 (Nat.le_refl _)
theorem arg_min (f : Nat → Int) : ∀ n : Nat, 0 < n → ∃ i, i < n ∧ ∀ k, k < n → f i ≤ f k
  | 0, h => by omega
  | 1, _ => ⟨0, by omega, fun k hk => by rw [show k = 0 by omega]; exact Int.le_refl _⟩
  | n + 2, _ => by
    obtain ⟨i, hi, h⟩ := arg_min f (n + 1) (by omega)
    by_cases c : f i ≤ f (n + 1)
    · refine ⟨i, by omega, fun k hk => ?_⟩
      by_cases e : k = n + 1
      · rw [e]; exact c
      · exact h k (by omega)
    · refine ⟨n + 1, by omega, fun k hk => ?_⟩
      by_cases e : k = n + 1
      · rw [e]; exact Int.le_refl _
      · have := h k (by omega); omega
theorem all_same {l : List Int} (h0 : 0 < l.length) (hr : ∀ j, j < l.length → ¬ zfG l j > 0) : ∀ k, k < l.length → at' l k = at' l 0 := by
  obtain ⟨i0, hi0, hm⟩ := arg_min (at' l) l.length h0
  have hmin : ∀ k, at' l i0 ≤ at' l k := fun k => by
    rw [← at'_mod l k]
    exact hm _ (Nat.mod_lt _ h0)
  have back : ∀ t, t ≤ l.length → at' l (i0 + l.length - t) = at' l i0 := by
    intro t
    induction t with
    | zero => exact fun _ => at'_congr l (by rw [Nat.sub_zero, Nat.add_mod_right])
    | succ t ih =>
      intro ht
      have ih := ih (by omega)
      have hi := Nat.mod_lt (i0 + l.length - t) h0
      have e1 : at' l ((i0 + l.length - t) % l.length) = at' l i0 := by rw [at'_mod]; exact ih
      have e2 : at' l ((i0 + l.length - t) % l.length + l.length - 1) = at' l (i0 + l.length - (t + 1)) := by
        refine at'_congr l ?_
        rw [show (i0 + l.length - t) % l.length + l.length - 1 = (i0 + l.length - t) % l.length + (l.length - 1) by omega, add_mod_l, show i0 + l.length - t + (l.length - 1) = i0 + l.length - (t + 1) + l.length by omega, Nat.add_mod_right]
      have h3 := hr _ hi
      have h4 : ¬ at' l ((i0 + l.length - t) % l.length + l.length - 1) > at' l ((i0 + l.length - t) % l.length) := fun c => h3 (runVal_min l _ (fun k => by rw [e1]; exact hmin k) c)
      rw [e1, e2] at h4
      have := hmin (i0 + l.length - (t + 1))
      omega
  have all : ∀ k, k < l.length → at' l k = at' l i0 := by
    intro k hk
    by_cases c : k ≤ i0
    · rw [← back (i0 - k) (by omega)]
      exact at'_congr l (by rw [show i0 + l.length - (i0 - k) = k + l.length by omega, Nat.add_mod_right])
    · rw [← back (i0 + l.length - k) (by omega)]
      exact at'_congr l (by rw [show i0 + l.length - (i0 + l.length - k) = k by omega])
  intro k hk
  rw [all k hk, all 0 h0]
theorem firstRun_none_iff {l : List Int} (h0 : 0 < l.length) : zpQ l l.length 0 = none ↔ ∀ k, k < l.length → at' l k = at' l 0 := by
  constructor
  · intro h
    exact all_same h0 (fun j hj => firstRun_none l _ _ h j (by omega) (by omega))
  · intro h
    cases hf : zpQ l l.length 0 with
    | none => rfl
    | some i =>
      exfalso
      obtain ⟨_, hi, hr⟩ := zwE l _ _ _ hf
      unfold zfG at hr
      rw [if_pos (by rw [← at'_mod l (i + l.length - 1), h _ (Nat.mod_lt _ h0), h i (by omega)]; exact Int.le_refl _)] at hr
      omega
theorem crimpF_six (l q : List Int) : (zdQ l q).2.2 = 6 ↔ zpQ l l.length 0 = none := by
  unfold zdQ
  split
  · simp_all
  · rename_i i hf
    rw [hf]
    constructor
    · intro h
      exfalso
      unfold zuU at h
      split at h
      · split at h <;> simp at h
      · split at h <;> simp at h
    · intro h; cases h
/-- Mountains and valleys exchanged. -/
def turn5 (q : List Int) : List Int := q.map (fun x => 5 - x)
theorem turn5_length (q : List Int) : (turn5 q).length = q.length := by unfold turn5; simp
theorem turn5_ok {q : List Int} (h : znM q) : znM (turn5 q) := by
  intro x hx
  obtain ⟨y, hy, rfl⟩ := List.mem_map.1 hx
  have := h y hy
  omega
theorem tal_turn : ∀ {q : List Int}, znM q → tal (turn5 q) = -tal q
  | [], _ => rfl
  | x :: xs, h => by
    have h1 := h x List.mem_cons_self
    have h2 := tal_turn (q := xs) h.tail
    show tal ((5 - x) :: turn5 xs) = _
    simp only [tal]
    rw [h2]
    rcases h1 with rfl | rfl
    · rw [if_neg (by decide), if_pos rfl]; omega
    · rw [if_pos (by decide), if_neg (by decide)]; omega
theorem rot_turn (q : List Int) (b : Nat) : rot (turn5 q) b = turn5 (rot q b) := by unfold rot turn5; rw [List.map_append, List.map_drop, List.map_take]
theorem inner_turn (c : Nat) (Q : List Int) : zlR c (turn5 Q) = turn5 (zlR c Q) := by unfold zlR turn5; rw [List.map_drop, List.map_take]
theorem rd0_turn {Q : List Int} (h : 0 < Q.length) : rd (turn5 Q) 0 = 5 - rd Q 0 := by
  cases Q with
  | nil => simp at h
  | cons x xs => rfl
theorem crimpR_turn {c : Nat} {L Q : List Int} (h2 : c + 2 ≤ Q.length) (hq : znM Q) : zuU c L (turn5 Q) = ((zuU c L Q).1, turn5 (zuU c L Q).2.1, (zuU c L Q).2.2) := by
  have hi : znM (zlR c Q) := fun x hx => hq x (List.mem_of_mem_take (List.mem_of_mem_drop hx))
  have ht := tal_turn hi
  have hd : (turn5 Q).drop (c + 2) = turn5 (Q.drop (c + 2)) := by unfold turn5; rw [List.map_drop]
  unfold zuU
  rw [inner_turn, ht, rd0_turn (by omega), hd]
  generalize tal (zlR c Q) = s
  by_cases hodd : c % 2 = 1
  · rw [if_pos hodd, if_pos hodd]
    by_cases h : s = 0
    · rw [if_pos (show -s = 0 by omega), if_pos h]
      rfl
    · rw [if_neg (show ¬ -s = 0 by omega), if_neg h]
      rfl
  · rw [if_neg hodd, if_neg hodd]
    by_cases h : s = 1 ∨ s = -1
    · rw [if_pos (show -s = 1 ∨ -s = -1 by omega), if_pos h]
      rcases h with rfl | rfl
      · rfl
      · rfl
    · rw [if_neg (show ¬ (-s = 1 ∨ -s = -1) by omega), if_neg h]
      rfl
theorem crimpF_turn {l q : List Int} (hl : zzZ l) (hq : znM q) (hn : q.length = l.length) : zdQ l (turn5 q) = ((zdQ l q).1, turn5 (zdQ l q).2.1, (zdQ l q).2.2) := by
  unfold zdQ
  cases hf : zpQ l l.length 0 with
  | none => rfl
  | some i =>
    obtain ⟨_, hi, hr⟩ := zwE l _ _ _ hf
    have hb : (i + l.length - 1) % l.length < l.length := Nat.mod_lt _ (by omega)
    have R := runR_of hl (by omega : i < l.length) hr
    have R2 := R.two
    rw [zfX _ _ (by omega)] at R2
    simp only
    rw [rot_turn]
    exact crimpR_turn (by rw [zfX _ _ (by omega), hn]; exact R2) (hq.rot _)
/-- Exchanging mountains and valleys changes nothing. -/
theorem folds_turn : ∀ (n : Nat) {l q : List Int}, l.length ≤ n → zzZ l → znM q → q.length = l.length → folds l (turn5 q) = folds l q
  | 0, l, q, h, hl, _, _ => by have := hl.1; omega
  | n + 1, l, q, h, hl, hq, hn => by
    rw [folds_eq hl (turn5_ok hq) (by rw [turn5_length, hn]), folds_eq hl hq hn, crimpF_turn hl hq hn, tal_turn hq]
    simp only
    by_cases h6 : (zdQ l q).2.2 = 6
    · rw [if_pos h6, if_pos h6, decide_eq_decide]
      omega
    · rw [if_neg h6, if_neg h6]
      by_cases h0 : (zdQ l q).2.2 = 0
      · rw [if_pos h0, if_pos h0]
        obtain ⟨a1, a2, a3, a4⟩ := crimpF_ok hl hq hn h0
        exact folds_turn n (by omega) a1 a2 a3
      · rw [if_neg h0, if_neg h0]
end Go.Proofs.Ytdnblakbegjohaa.Math
