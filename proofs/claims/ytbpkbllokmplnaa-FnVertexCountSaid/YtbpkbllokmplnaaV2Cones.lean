/- Plain lemmas of this session on the kinds with which a cone can be folded: their mountains and valleys, their number, their order. Conditions: none. -/
import Derived.Test.YtbpkbllokmplnaaV2Bits
namespace Go.Proofs.Ytbpkbllokmplnaa.Math
open Go.RowKit Go.Proofs.YtbpkbllokmplnaaW.PrintWords Go.Proofs.YtbpkbllokmplnaaW.PrintMore

theorem tal_append : ∀ (a b : List Int), tal (a ++ b) = tal a + tal b
  | [], b => by simp [tal]
  | x :: xs, b => by rw [List.cons_append, tal, tal, tal_append xs b]; omega
theorem tal_rot (q : List Int) (b : Nat) : tal (rot q b) = tal q := by
  have e : tal q = tal (q.take b) + tal (q.drop b) := by rw [← tal_append, List.take_append_drop]
  unfold rot
  rw [tal_append, e]
  omega
theorem tal_cnt : ∀ l : List Int, tal l = 2 * cnt 2 l - l.length
  | [] => rfl
  | x :: xs => by
    have := tal_cnt xs
    simp only [tal, cnt, List.length_cons]
    split <;> omega
theorem split_kinds {c : Nat} {Q : List Int} (h : c + 2 ≤ Q.length) : Q = rd Q 0 :: (zlR c Q ++ Q.drop (c + 2)) := by
  cases Q with
  | nil => simp at h
  | cons x xs =>
    have e : rd (x :: xs) 0 = x := rfl
    rw [e]
    unfold zlR
    rw [List.take_succ_cons, List.drop_succ_cons, List.drop_zero, List.drop_succ_cons, List.take_append_drop]
theorem crimpR_tal {c : Nat} {L Q : List Int} (h2 : c + 2 ≤ Q.length) (h : (zuU c L Q).2.2 = 0) : tal (zuU c L Q).2.1 = tal Q := by
  have e : tal Q = tal [rd Q 0] + (tal (zlR c Q) + tal (Q.drop (c + 2))) := by
    rw [← tal_append, ← tal_append, List.singleton_append, ← split_kinds h2]
  unfold zuU at h ⊢
  by_cases hodd : c % 2 = 1
  · simp only [if_pos hodd] at h ⊢
    by_cases ht : tal (zlR c Q) = 0
    · rw [if_pos ht, e, ht]
      simp only [tal]
      omega
    · rw [if_neg ht] at h; simp at h
  · simp only [if_neg hodd] at h ⊢
    by_cases ht : tal (zlR c Q) = 1 ∨ tal (zlR c Q) = -1
    · rw [if_pos ht, e]
      simp only [tal]
      rcases ht with ht | ht
      · rw [ht, if_neg (show ¬ (1 : Int) < 0 by omega), if_pos rfl]; omega
      · rw [ht, if_pos (show (-1 : Int) < 0 by omega), if_neg (show ¬ (3 : Int) = 2 by omega)]; omega
    · rw [if_neg ht] at h; simp at h
theorem crimpF_tal {l q : List Int} (hl : zzZ l) (hn : q.length = l.length) (h : (zdQ l q).2.2 = 0) : tal (zdQ l q).2.1 = tal q := by
  unfold zdQ at h ⊢
  cases hf : zpQ l l.length 0 with
  | none => rw [hf] at h; simp at h
  | some i =>
    rw [hf] at h
    obtain ⟨_, hi, hr⟩ := zwE l _ _ _ hf
    have hb : (i + l.length - 1) % l.length < l.length := Nat.mod_lt _ (by omega)
    have R := runR_of hl (by omega : i < l.length) hr
    have R2 := R.two
    rw [zfX _ _ (by omega)] at R2
    have := crimpR_tal (L := rot l ((i + l.length - 1) % l.length)) (Q := rot q ((i + l.length - 1) % l.length)) (by rw [zfX _ _ (by omega), hn]; exact R2) h
    rw [tal_rot] at this
    exact this
/-- Mountains and valleys of kinds with which a cone can be folded differ by two. -/
theorem folds_tal : ∀ (n : Nat) {l q : List Int}, l.length ≤ n → zzZ l → znN q → q.length = l.length → folds l q = true → tal q = 2 ∨ tal q = -2
  | 0, l, q, h, hl, _, _, _ => by have := hl.1; omega
  | n + 1, l, q, h, hl, hq, hn, hf => by
    rw [folds_eq hl hq hn] at hf
    by_cases h6 : (zdQ l q).2.2 = 6
    · rw [if_pos h6] at hf; exact of_decide_eq_true hf
    · rw [if_neg h6] at hf
      by_cases h0 : (zdQ l q).2.2 = 0
      · rw [if_pos h0] at hf
        obtain ⟨a1, a2, a3, a4⟩ := crimpF_ok hl hq hn h0
        have := folds_tal n (by omega) a1 a2 a3 hf
        rw [crimpF_tal hl hn h0] at this
        exact this
      · rw [if_neg h0] at hf; cases hf
theorem waysF_pos : ∀ (n : Nat) (t : Int), -(n : Int) ≤ t → t ≤ n → (t + n) % 2 = 0 → 1 ≤ waysF n t
  | 0, t, h0, h1, _ => by
    obtain rfl : t = 0 := by omega
    decide
  | n + 1, t, h0, h1, h2 => by
    rw [waysF]
    by_cases h : t = -((n + 1 : Nat) : Int)
    · have := waysF_pos n (t + 1) (by omega) (by omega) (by omega)
      omega
    · have := waysF_pos n (t - 1) (by omega) (by omega) (by omega)
      omega
/-- A cone can be folded in two ways at least. -/
theorem nfold_two : ∀ (n : Nat) {l : List Int}, l.length ≤ n → zzZ l → 2 ≤ nfold l
  | 0, l, h, hl => by have := hl.1; omega
  | n + 1, l, h, hl => by
    have h1 := hl.1
    have h3 := hl.2.2.1
    rw [nfold_eq hl]
    cases hf : zpQ l l.length 0 with
    | none =>
      simp only
      have e1 := waysF_pos l.length 2 (by omega) (by omega) (by omega)
      have e2 := waysF_pos l.length (-2) (by omega) (by omega) (by omega)
      omega
    | some i =>
      simp only
      obtain ⟨_, hi, hr⟩ := zwE l _ _ _ hf
      have hb : (i + l.length - 1) % l.length < l.length := Nat.mod_lt _ (by omega)
      have R := runR_of hl (by omega : i < l.length) hr
      have hL := zfX l ((i + l.length - 1) % l.length) (by omega)
      generalize (zfG l i).toNat = c at R ⊢
      have R1 := R.one
      obtain ⟨n1, n2, n3⟩ := nextR_ok R
      have ih := nfold_two n (l := nextR c (rot l ((i + l.length - 1) % l.length))) (by omega) n1
      have e1 : 1 ≤ waysF (c + 1) (if c % 2 = 1 then 0 else 1) := by
        split
        · exact waysF_pos _ _ (by omega) (by omega) (by omega)
        · exact waysF_pos _ _ (by omega) (by omega) (by omega)
      exact Nat.le_trans ih (Nat.le_trans (by rw [Nat.one_mul]; exact Nat.le_refl _) (Nat.mul_le_mul_right _ e1))
theorem asgB_count (l : List Int) : ∀ d b, (asgB l d b).length = rsum (fun b => b01 (folds l (zkC l.length b))) d b
  | 0, _ => rfl
  | d + 1, b => by
    rw [asgB, List.length_append, asgB_count l d (b + 1), rsum]
    cases folds l (zkC l.length b) <;> simp [b01]
theorem asgB_nfold (l : List Int) : (asgB l (2 ^ l.length) 0).length = nfold l := by
  rw [asgB_count, rsum_kinds l.length (fun q => b01 (folds l q))]
  rfl
theorem asgB_in (l : List Int) : ∀ d b y, y ∈ asgB l d b → ∃ c, b ≤ c ∧ c < b + d ∧ y = zkC l.length c ∧ folds l y = true
  | 0, _, _, h => by simp [asgB] at h
  | d + 1, b, y, h => by
    rw [asgB, List.mem_append] at h
    rcases h with h | h
    · split at h
      · rename_i hf
        rw [List.mem_singleton.1 h]
        exact ⟨b, Nat.le_refl _, by omega, rfl, hf⟩
      · simp at h
    · obtain ⟨c, h1, h2, h3⟩ := asgB_in l d (b + 1) y h
      exact ⟨c, by omega, by omega, h3⟩
/-- Whether a list is before another one of the same length. -/
def lexlt : List Int → List Int → Bool
  | x :: xs, y :: ys => if x = y then lexlt xs ys else decide (x < y)
  | _, _ => false
theorem lexlt_kinds : ∀ (n b c : Nat), b < c → c < 2 ^ n → lexlt (zkC n b) (zkC n c) = true
  | 0, b, c, h, h2 => by simp at h2; omega
  | n + 1, b, c, h, h2 => by
    rw [kindsB_succ, kindsB_succ, lexlt]
    rw [Nat.pow_succ] at h2
    have ih := fun b c => lexlt_kinds n b c
    have hi := kindsB_high n
    generalize hP : 2 ^ n = P at h2 ih hi
    have hp : 0 < P := by rw [← hP]; exact Nat.pow_pos (by omega)
    have top : ∀ x, x < P * 2 → x / P % 2 = if P ≤ x then 1 else 0 := by
      intro x hx
      have e : x / P = if P ≤ x then 1 else 0 := by
        split
        · exact Nat.div_eq_of_lt_le (by omega) (by omega)
        · exact Nat.div_eq_of_lt (by omega)
      rw [e]
      split <;> rfl
    rw [top b (by omega), top c h2]
    by_cases h3 : P ≤ b
    · rw [if_pos h3, if_pos (show P ≤ c by omega), if_pos rfl]
      have e1 := hi (b - P)
      have e2 := hi (c - P)
      rw [Nat.sub_add_cancel h3] at e1
      rw [Nat.sub_add_cancel (show P ≤ c by omega)] at e2
      rw [e1, e2]
      exact ih _ _ (by omega) (by omega)
    · by_cases h4 : P ≤ c
      · rw [if_neg h3, if_pos h4, if_neg (by decide)]
        decide
      · rw [if_neg h3, if_neg h4, if_pos rfl]
        exact ih _ _ h (by omega)
theorem asgB_rise (l : List Int) : ∀ d b, b + d ≤ 2 ^ l.length → (asgB l d b).Pairwise (fun x y => lexlt x y = true)
  | 0, _, _ => List.Pairwise.nil
  | d + 1, b, h => by
    have ih := asgB_rise l d (b + 1) (by omega)
    rw [asgB]
    split
    · rw [List.singleton_append, List.pairwise_cons]
      refine ⟨fun y hy => ?_, ih⟩
      obtain ⟨c, h1, h2, h3, _⟩ := asgB_in l d (b + 1) y hy
      rw [h3]
      exact lexlt_kinds _ _ _ (by omega) (by omega)
    · rw [List.nil_append]; exact ih
end Go.Proofs.Ytbpkbllokmplnaa.Math
