/- What is proved: the program's FloorNum answers what the reference's answers, at every number. Conditions: none. -/
import Derived.Test.YtafnmeokmopnmaaPFnExactFloorNumx
import Derived.Test.YtafnmeokmopnmaaMath
namespace Go.Proofs.Ytafnmeokmopnmaa.Pure
open Go.RowKit Go.Proofs.Ytafnmeokmopnmaa.PFnExactFloorNum Go.Proofs.YtafnmeokmopnmaaW.PrintWords Go.Proofs.YtafnmeokmopnmaaW.PrintLast Go.Proofs.YtafnmeokmopnmaaW.PrintMore Go.Proofs.Ytafnmeokmopnmaa.Math

-- laws_toNum
theorem laws_toNum_eq (a b k : Int) : laws_toNum.f a b k = some (a, b, k) := rfl

-- spec_l00In
theorem spec_l00In_eq (a b c : Int) : spec_l00In.f a b c = some (decide (b ≤ a ∧ a ≤ c)) := by
  unfold spec_l00In.f
  by_cases h : b ≤ a <;> simp [h]

-- spec_l01Ok
theorem spec_l01Ok_eq (a b k : Int) : spec_l01Ok.f a b k = some (decide (NumOk a b k)) := by
  unfold spec_l01Ok.f NumOk
  simp only [spec_l00In_eq, Option.bind_some]
  by_cases h1 : -131072 ≤ a ∧ a ≤ 131072
  · by_cases h2 : -131072 ≤ b ∧ b ≤ 131072
    · by_cases h3 : 0 ≤ k ∧ k ≤ 10
      · simp only [h1, h2, h3, and_self, decide_true, if_true, true_and]
        by_cases h4 : k = 0
        · simp [h4]
        · by_cases h5 : Int.tmod a 2 = 0
          · have := (tmod2 a).1 h5
            by_cases h6 : Int.tmod b 2 = 0
            · have := (tmod2 b).1 h6
              simp [h4, h5, h6]; omega
            · have h7 : b % 2 = 1 := by have : ¬ b % 2 = 0 := fun h => h6 ((tmod2 b).2 h); omega
              simp [h4, h5, h6, h7]
          · have h7 : a % 2 = 1 := by have : ¬ a % 2 = 0 := fun h => h5 ((tmod2 a).2 h); omega
            simp [h4, h5, h7]
      · simp [h1, h2, h3]
    · simp [h1, h2]
  · simp [h1]

-- spec_l01Root
theorem spec_l01Root_l0 (n : Int) (h1 : n < 1099511627776) : ∀ (d k : Nat) (x y : Int), 0 ≤ x → x < y → y ≤ 1048576 → x * x ≤ n → n < y * y → y - x ≤ d → d < k → ∃ r, spec_l01Root.l0 k n x y = some r ∧ 0 ≤ r ∧ r ≤ 1048576 ∧ r * r ≤ n ∧ n < (r + 1) * (r + 1)
  | 0, k, x, y, _, _, _, _, _, _, _ => by omega
  | d + 1, k, x, y, hx, hxy, hy, hl, hh, hd, hk => by
    obtain ⟨k, rfl⟩ : ∃ m, k = m + 1 := ⟨k - 1, by omega⟩
    simp only [spec_l01Root.l0]
    rw [w64 (n := x + 1) (by omega) (by omega)]
    by_cases hc : x + 1 < y
    · rw [if_pos hc, w64 (n := x + y) (by omega) (by omega), Int.tdiv_eq_ediv_of_nonneg (by omega)]
      rw [w64 (n := (x + y) / 2) (by omega) (by omega)]
      have hm := sq_bd (m := (x + y) / 2) (by omega) (by omega)
      rw [w64 (n := (x + y) / 2 * ((x + y) / 2)) (by omega) (by omega)]
      by_cases ht : (x + y) / 2 * ((x + y) / 2) ≤ n
      · rw [if_pos ht]
        exact spec_l01Root_l0 n h1 d k _ _ (by omega) (by omega) hy ht hh (by omega) (by omega)
      · rw [if_neg ht]
        exact spec_l01Root_l0 n h1 d k _ _ hx (by omega) (by omega) hl (by omega) (by omega) (by omega)
    · rw [if_neg hc]
      obtain rfl : y = x + 1 := by omega
      exact ⟨x, rfl, hx, by omega, hl, hh⟩
theorem spec_l01Root_eq (n : Int) (h0 : 0 ≤ n) (h1 : n < 1099511627776) (k : Nat) (hk : 1048577 ≤ k) : ∃ r, spec_l01Root.f k n = some r ∧ 0 ≤ r ∧ r ≤ 1048576 ∧ r * r ≤ n ∧ n < (r + 1) * (r + 1) :=
  spec_l01Root_l0 n h1 1048576 k 0 1048576 (by omega) (by omega) (by omega) (by omega) (by omega) (by omega) (by omega)

-- impl_within
theorem impl_within_eq (a b c : Int) : impl_within.f a b c = some (decide (b ≤ a ∧ a ≤ c)) := by
  unfold impl_within.f
  by_cases h : b ≤ a <;> simp [h]

-- impl_ValidNum
theorem impl_ValidNum_eq (a b k : Int) : impl_ValidNum.f a b k = some (decide (NumOk a b k)) := by
  unfold impl_ValidNum.f NumOk
  simp only [impl_within_eq, Option.bind_some, and1]
  by_cases h1 : -131072 ≤ a ∧ a ≤ 131072
  · by_cases h2 : -131072 ≤ b ∧ b ≤ 131072
    · by_cases h3 : 0 ≤ k ∧ k ≤ 10
      · simp only [h1, h2, h3, and_self, decide_true, if_true, true_and]
        by_cases h4 : k = 0
        · simp [h4]
        · by_cases h5 : a % 2 = 1
          · simp [h4, h5]
          · by_cases h6 : b % 2 = 1 <;> simp [h4, h5, h6]
      · simp [h1, h2, h3]
    · simp [h1, h2]
  · simp [h1]

-- impl_rootDown
theorem impl_rootDown_l0 (n : Int) (h1 : n < 1099511627776) : ∀ (d k : Nat) (x y : Int), 0 ≤ x → x ≤ y → y ≤ 1048576 → x * x ≤ n → n < (y + 1) * (y + 1) → y - x ≤ d → d < k → ∃ r, impl_rootDown.l0 k n x y = some r ∧ 0 ≤ r ∧ r ≤ 1048576 ∧ r * r ≤ n ∧ n < (r + 1) * (r + 1)
  | d, k, x, y, hx, hxy, hy, hl, hh, hd, hk => by
    obtain ⟨k, rfl⟩ : ∃ m, k = m + 1 := ⟨k - 1, by omega⟩
    simp only [impl_rootDown.l0]
    by_cases hc : x < y
    · match d, hd, hk with
      | 0, hd, hk => omega
      | d + 1, hd, hk =>
      rw [if_pos hc, w64 (n := x + y) (by omega) (by omega), w64 (n := x + y + 1) (by omega) (by omega), Int.tdiv_eq_ediv_of_nonneg (by omega)]
      rw [w64 (n := (x + y + 1) / 2) (by omega) (by omega)]
      have hm := sq_bd (m := (x + y + 1) / 2) (by omega) (by omega)
      rw [w64 (n := (x + y + 1) / 2 * ((x + y + 1) / 2)) (by omega) (by omega)]
      by_cases ht : (x + y + 1) / 2 * ((x + y + 1) / 2) ≤ n
      · rw [if_pos ht]
        exact impl_rootDown_l0 n h1 d k _ _ (by omega) (by omega) hy ht hh (by omega) (by omega)
      · rw [if_neg ht, w64 (n := (x + y + 1) / 2 - 1) (by omega) (by omega)]
        exact impl_rootDown_l0 n h1 d k _ _ hx (by omega) (by omega) hl (by rw [Int.sub_add_cancel]; omega) (by omega) (by omega)
    · rw [if_neg hc]
      obtain rfl : y = x := by omega
      exact ⟨y, rfl, hx, by omega, hl, hh⟩
theorem impl_rootDown_eq (n : Int) (h0 : 0 ≤ n) (h1 : n < 1099511627776) (k : Nat) (hk : 1048577 ≤ k) : ∃ r, impl_rootDown.f k n = some r ∧ 0 ≤ r ∧ r ≤ 1048576 ∧ r * r ≤ n ∧ n < (r + 1) * (r + 1) :=
  impl_rootDown_l0 n h1 1048576 k 0 1048576 (by omega) (by omega) (by omega) (by omega) (by omega) (by omega) (by omega)

theorem FnExactFloorNum : laws_FnExactFloorNum.Pure := by
  intro a b k _
  refine ⟨1048577, ?_⟩
  unfold laws_FnExactFloorNum.f spec_FloorNum.f impl_FloorNum.f
  simp only [laws_toNum_eq, spec_l01Ok_eq, impl_ValidNum_eq, Option.bind_some]
  by_cases h : NumOk a b k
  · have h' := h
    obtain ⟨ha, hb, hk, _⟩ := h'
    have hm := sq_bd2 b hb.1 hb.2
    have e : wrap64 (wrap64 (2 * b) * b) = 2 * b * b := by rw [w64 (n := 2 * b) (by omega) (by omega), w64 (by omega) (by omega)]
    obtain ⟨r, hr, hr0, hr1, hr2, hr3⟩ := spec_l01Root_eq (2 * b * b) (by omega) (by omega) 1048577 (by omega)
    obtain ⟨s, hs, hs0, hs1, hs2, hs3⟩ := impl_rootDown_eq (2 * b * b) (by omega) (by omega) 1048577 (by omega)
    have he := root_unique hr0 hs0 hr2 hr3 hs2 hs3
    subst he
    simp only [h, decide_true, if_true, e, hr, hs, Option.bind_some]
    rw [wu64 (n := k) (by omega) (by omega)]
    by_cases h1 : b < 0 <;> simp [h1, hk.1]
  · simp [h]

end Go.Proofs.Ytafnmeokmopnmaa.Pure
