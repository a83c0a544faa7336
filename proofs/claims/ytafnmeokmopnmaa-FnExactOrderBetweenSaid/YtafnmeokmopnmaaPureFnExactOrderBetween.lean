/- What is proved: the program's OrderBetween answers what the reference's answers, at every order and numbers. Conditions: none. -/
import Derived.Test.YtafnmeokmopnmaaPFnExactOrderBetweenx
import Derived.Test.YtafnmeokmopnmaaMath
namespace Go.Proofs.Ytafnmeokmopnmaa.Pure
open Go.RowKit Go.Proofs.Ytafnmeokmopnmaa.PFnExactOrderBetween Go.Proofs.YtafnmeokmopnmaaW.PrintWords Go.Proofs.YtafnmeokmopnmaaW.PrintLast Go.Proofs.YtafnmeokmopnmaaW.PrintMore Go.Proofs.Ytafnmeokmopnmaa.Math

-- spec_l00In
theorem spec_l00In_eq (a b c : Int) : spec_l00In.f a b c = some (decide (b ≤ a ∧ a ≤ c)) := by
  unfold spec_l00In.f
  by_cases h : b ≤ a <;> simp [h]

-- laws_toInt64S
theorem laws_toInt64S_l0 (l : List Int) (hl : l.length ≤ 1048576) : ∀ (d k j : Nat) (o : List Int), j + d = l.length → d < k → o.length = l.length → o.take j = l.take j →
    laws_toInt64S.l0 k l o (j : Int) = some l
  | 0, k, j, o, hd, hk, ho, ht => by
    obtain ⟨k, rfl⟩ : ∃ m, k = m + 1 := ⟨k - 1, by omega⟩
    simp only [laws_toInt64S.l0]
    rw [if_neg (by omega)]
    rw [List.take_of_length_le (by omega), List.take_of_length_le (by omega)] at ht
    rw [ht]
  | d + 1, k, j, o, hd, hk, ho, ht => by
    obtain ⟨k, rfl⟩ : ∃ m, k = m + 1 := ⟨k - 1, by omega⟩
    simp only [laws_toInt64S.l0]
    rw [if_pos (by omega), if_pos (by omega), if_pos (by omega), rd_nat l j (by omega), succ64 (by omega), Int.toNat_natCast]
    refine laws_toInt64S_l0 l hl d k (j + 1) _ (by omega) (by omega) (by simpa using ho) ?_
    rw [List.take_add_one, List.take_add_one, List.take_set_of_le (Nat.le_refl j), ht, List.getElem?_set_self (by omega), List.getElem?_eq_getElem (by omega)]
theorem laws_toInt64S_eq (l : List Int) (hl : l.length ≤ 1048576) (k : Nat) (hk : l.length < k) : laws_toInt64S.f k l = some l := by
  unfold laws_toInt64S.f
  rw [if_pos (by omega), if_pos (by omega), Int.toNat_natCast]
  exact laws_toInt64S_l0 l hl l.length k 0 _ (by omega) hk (by simp) (by simp)

-- impl_within
theorem impl_within_eq (a b c : Int) : impl_within.f a b c = some (decide (b ≤ a ∧ a ≤ c)) := by
  unfold impl_within.f
  by_cases h : b ≤ a <;> simp [h]

-- laws_eqInt64S
theorem laws_eqInt64S_l0 (a b : List Int) (hl : a.length ≤ 1048576) (hab : a.length = b.length) : ∀ (d k j : Nat), j + d = a.length → d < k →
    laws_eqInt64S.l0 k a b (j : Int) = some (decide (a.drop j = b.drop j))
  | 0, k, j, hd, hk => by
    obtain ⟨k, rfl⟩ : ∃ m, k = m + 1 := ⟨k - 1, by omega⟩
    simp only [laws_eqInt64S.l0]
    rw [if_neg (by omega), List.drop_eq_nil_of_le (by omega), List.drop_eq_nil_of_le (by omega)]
    simp
  | d + 1, k, j, hd, hk => by
    obtain ⟨k, rfl⟩ : ∃ m, k = m + 1 := ⟨k - 1, by omega⟩
    simp only [laws_eqInt64S.l0]
    rw [if_pos (by omega), if_pos (by omega), if_pos (by omega), rd_nat a j (by omega), rd_nat b j (by omega), succ64 (by omega), drop_at a j (by omega), drop_at b j (by omega)]
    by_cases h : a[j] = b[j]
    · rw [if_pos h, laws_eqInt64S_l0 a b hl hab d k (j + 1) (by omega) (by omega)]
      simp only [List.cons.injEq, h, true_and]
    · rw [if_neg h]
      simp only [List.cons.injEq, h, false_and, decide_false]
theorem laws_eqInt64S_eq (a b : List Int) (hl : a.length ≤ 1048576) (k : Nat) (hk : a.length < k) : laws_eqInt64S.f k a b = some (decide (a = b)) := by
  unfold laws_eqInt64S.f
  by_cases h : a.length = b.length
  · rw [if_pos (by omega)]
    have := laws_eqInt64S_l0 a b hl h a.length k 0 (by omega) hk
    rw [show ((0 : Nat) : Int) = 0 from rfl, List.drop_zero, List.drop_zero] at this
    exact this
  · rw [if_neg (by omega), decide_eq_false (fun c => h (by rw [c]))]

theorem OrderBetween_both (l : List Int) (n i k : Int) : ∃ r, spec_OrderBetween.f l n i k = some r ∧ impl_OrderBetween.f l n i k = some r := by
  unfold spec_OrderBetween.f impl_OrderBetween.f impl_length_int64.f
  simp only [spec_l00In_eq, impl_within_eq, Option.bind_some]
  by_cases h : 1 ≤ n ∧ n ≤ 24
  · rw [decide_eq_true h, if_pos rfl]
    have hm : n * n ≤ 24 * 24 := Int.mul_le_mul h.2 h.2 (by omega) (by omega)
    have hm0 : 0 ≤ n * n := Int.mul_nonneg (by omega) (by omega)
    by_cases h2 : (l.length : Int) = wrap64 (n * n)
    · rw [if_pos h2, w64 (n := n - 1) (by omega) (by omega)]
      rw [w64 (by omega) (by omega)] at h2
      by_cases h3 : 0 ≤ i ∧ i ≤ n - 1
      · rw [decide_eq_true h3, if_pos rfl]
        by_cases h4 : 0 ≤ k ∧ k ≤ n - 1
        · rw [decide_eq_true h4, if_pos rfl]
          have h5 : 0 ≤ i * n := Int.mul_nonneg h3.1 (by omega)
          have h6 : i * n ≤ (n - 1) * n := Int.mul_le_mul_of_nonneg_right h3.2 (by omega)
          have h7 : (n - 1) * n = n * n - n := by rw [Int.sub_mul, Int.one_mul]
          rw [w64 (n := i * n) (by omega) (by omega), w64 (n := i * n + k) (by omega) (by omega), if_pos (by omega), if_pos (by omega)]
          exact ⟨_, rfl, rfl⟩
        · rw [decide_eq_false h4]
          exact ⟨0, by simp, by simp⟩
      · rw [decide_eq_false h3]
        exact ⟨0, by simp, by simp⟩
    · rw [if_neg h2]
      exact ⟨0, rfl, rfl⟩
  · rw [decide_eq_false h]
    exact ⟨0, by simp, by simp⟩
theorem FnExactOrderBetween : laws_FnExactOrderBetween.Pure := by
  intro l n i k _ _ _ _ _ _
  refine ⟨l.length + 10, ?_⟩
  unfold laws_FnExactOrderBetween.f
  by_cases hl : (l.length : Int) > 1048576
  · rw [if_pos hl]
  · rw [if_neg hl]
    have hl' : l.length ≤ 1048576 := by omega
    obtain ⟨r, hs, hi⟩ := OrderBetween_both l n i k
    simp (disch := omega) only [laws_toInt64S_eq, hs, hi, Option.bind_some, laws_eqInt64S_eq, decide_true, if_true]

end Go.Proofs.Ytafnmeokmopnmaa.Pure
