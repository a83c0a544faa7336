/- What is proved: the program's SignNum answers what the reference's answers, at every number. Conditions: none. -/
import Derived.Test.YtbkehpciffponaaPFnExactSignNumx
import Derived.Test.YtbkehpciffponaaMath
import Derived.Test.YtbkehpciffponaaNums
namespace Go.Proofs.Ytbkehpciffponaa.Pure
open Go.RowKit Go.Proofs.Ytbkehpciffponaa.PFnExactSignNum Go.Proofs.YtbkehpciffponaaW.PrintWords Go.Proofs.YtbkehpciffponaaW.PrintLast Go.Proofs.YtbkehpciffponaaW.PrintMore Go.Proofs.Ytbkehpciffponaa.Math

-- spec_l00In
theorem spec_l00In_eq (a b c : Int) : spec_l00In.f a b c = some (decide (b ≤ a ∧ a ≤ c)) := by
  unfold spec_l00In.f
  by_cases h : b ≤ a <;> simp [h]

-- spec_l01Ok
theorem spec_l01Ok_eq (a b k : Int) : spec_l01Ok.f a b k = some (decide (NumOk a b k)) := by
  unfold spec_l01Ok.f NumOk
  simp only [spec_l00In_eq, Option.bind_some]
  by_cases h1 : -131072 ≤ a ∧ a ≤ 131072
  · by_cases h2 : -131072 ≤ b ∧ b ≤ 131072
    · by_cases h3 : 0 ≤ k ∧ k ≤ 10
      · simp only [h1, h2, h3, and_self, decide_true, if_true, true_and]
        by_cases h4 : k = 0
        · simp [h4]
        · by_cases h5 : Int.tmod a 2 = 0
          · have := (tmod2 a).1 h5
            by_cases h6 : Int.tmod b 2 = 0
            · have := (tmod2 b).1 h6
              simp [h4, h5, h6]; omega
            · have h7 : b % 2 = 1 := by have : ¬ b % 2 = 0 := fun h => h6 ((tmod2 b).2 h); omega
              simp [h4, h5, h6, h7]
          · have h7 : a % 2 = 1 := by have : ¬ a % 2 = 0 := fun h => h5 ((tmod2 a).2 h); omega
            simp [h4, h5, h7]
      · simp [h1, h2, h3]
    · simp [h1, h2]
  · simp [h1]

-- spec_l01Square
-- MATH Nums
theorem sq_core (u : Int) (h0 : 0 ≤ u) (h1 : u ≤ 9223372036854775808) :
    let l := u % 4294967296; let h := u / 4294967296
    (let s := (l * l % 18446744073709551616 + ((2 * l % 18446744073709551616) * h % 18446744073709551616) * 4294967296 % 18446744073709551616) % 18446744073709551616
     let c := ((2 * l % 18446744073709551616) * h % 18446744073709551616) / 4294967296
     0 ≤ s ∧ s ≤ 18446744073709551615 ∧ (h * h % 18446744073709551616 + (if s < l * l % 18446744073709551616 then (c + 1) % 18446744073709551616 else c)) % 18446744073709551616 * 18446744073709551616 + s = u * u ∧
       0 ≤ (h * h % 18446744073709551616 + (if s < l * l % 18446744073709551616 then (c + 1) % 18446744073709551616 else c)) % 18446744073709551616) := by
  intro l h
  have hl0 : 0 ≤ l ∧ l ≤ 4294967295 := by simp only [l]; omega
  have hh0 : 0 ≤ h ∧ h ≤ 2147483648 := by simp only [h]; omega
  have e := halves u
  change u * u = h * h * 18446744073709551616 + 2 * (l * h) * 4294967296 + l * l at e
  have b1 := half_bd hl0.1 hl0.2 hl0.1 hl0.2
  have b2 : 0 ≤ l * h ∧ l * h ≤ 4294967295 * 2147483648 := ⟨Int.mul_nonneg hl0.1 hh0.1, Int.mul_le_mul hl0.2 hh0.2 hh0.1 (by omega)⟩
  have b3 : 0 ≤ h * h ∧ h * h ≤ 2147483648 * 2147483648 := ⟨Int.mul_nonneg hh0.1 hh0.1, Int.mul_le_mul hh0.2 hh0.2 hh0.1 (by omega)⟩
  rw [e, Int.emod_eq_of_lt (a := 2 * l) (by omega) (by omega), Int.mul_assoc 2 l h]
  generalize l * l = p at *
  generalize l * h = q at *
  generalize h * h = r at *
  clear e hl0 hh0
  clear_value l h
  simp only []
  split <;> omega
theorem spec_l01Square_eq (a : Int) (h0 : -9223372036854775807 ≤ a) (h1 : a ≤ 9223372036854775807) : ∃ h s : Int, spec_l01Square.f a = some (h, s) ∧ h * 18446744073709551616 + s = a * a ∧ 0 ≤ h ∧ 0 ≤ s ∧ s ≤ 18446744073709551615 := by
  unfold spec_l01Square.f
  have key : ∀ u : Int, 0 ≤ u → u ≤ 9223372036854775808 → u * u = a * a → ∃ h s : Int,
      (if (IntKind.u64.wrap ((IntKind.u64.wrap ((bits .and .u64 u 4294967295) * (bits .and .u64 u 4294967295))) + (IntKind.u64.wrap ((IntKind.u64.wrap ((IntKind.u64.wrap (2 * (bits .and .u64 u 4294967295))) * (u / 4294967296))) * 4294967296)))) < (IntKind.u64.wrap ((bits .and .u64 u 4294967295) * (bits .and .u64 u 4294967295))) then (some (IntKind.u64.wrap ((IntKind.u64.wrap ((u / 4294967296) * (u / 4294967296))) + (IntKind.u64.wrap (((IntKind.u64.wrap ((IntKind.u64.wrap (2 * (bits .and .u64 u 4294967295))) * (u / 4294967296))) / 4294967296) + 1))), IntKind.u64.wrap ((IntKind.u64.wrap ((bits .and .u64 u 4294967295) * (bits .and .u64 u 4294967295))) + (IntKind.u64.wrap ((IntKind.u64.wrap ((IntKind.u64.wrap (2 * (bits .and .u64 u 4294967295))) * (u / 4294967296))) * 4294967296))))) else (some (IntKind.u64.wrap ((IntKind.u64.wrap ((u / 4294967296) * (u / 4294967296))) + ((IntKind.u64.wrap ((IntKind.u64.wrap (2 * (bits .and .u64 u 4294967295))) * (u / 4294967296))) / 4294967296)), IntKind.u64.wrap ((IntKind.u64.wrap ((bits .and .u64 u 4294967295) * (bits .and .u64 u 4294967295))) + (IntKind.u64.wrap ((IntKind.u64.wrap ((IntKind.u64.wrap (2 * (bits .and .u64 u 4294967295))) * (u / 4294967296))) * 4294967296)))))) = some (h, s) ∧ h * 18446744073709551616 + s = a * a ∧ 0 ≤ h ∧ 0 ≤ s ∧ s ≤ 18446744073709551615 := by
    intro u hu hu1 he
    rw [andlow hu (by omega)]
    simp only [wrapu]
    have c := sq_core u hu hu1
    simp only [] at c
    by_cases hc : ((u % 4294967296) * (u % 4294967296) % 18446744073709551616 + ((2 * (u % 4294967296) % 18446744073709551616) * (u / 4294967296) % 18446744073709551616) * 4294967296 % 18446744073709551616) % 18446744073709551616 < (u % 4294967296) * (u % 4294967296) % 18446744073709551616
    · rw [if_pos hc] at c ⊢
      exact ⟨_, _, rfl, by rw [← he]; exact c.2.2.1, c.2.2.2, c.1, c.2.1⟩
    · rw [if_neg hc] at c ⊢
      exact ⟨_, _, rfl, by rw [← he]; exact c.2.2.1, c.2.2.2, c.1, c.2.1⟩
  by_cases hn : a < 0
  · rw [if_pos hn, w64 (n := -a) (by omega) (by omega), wu64 (n := -a) (by omega) (by omega)]
    exact key (-a) (by omega) (by omega) (by rw [Int.neg_mul_neg])
  · rw [if_neg hn, wu64 (n := a) (by omega) (by omega)]
    exact key a (by omega) (by omega) rfl

-- spec_l01Less
-- MATH Nums
theorem spec_l01Less_eq (a b : Int) (ha0 : -9223372036854775807 ≤ a) (ha1 : a ≤ 9223372036854775807) (hb0 : -4611686018427387904 ≤ b) (hb1 : b ≤ 4611686018427387904) : spec_l01Less.f a b = some (decide (a * a < 2 * (b * b))) := by
  unfold spec_l01Less.f
  obtain ⟨h, s, e, es, h1, h2, h3⟩ := spec_l01Square_eq a ha0 ha1
  obtain ⟨g, m, f, fs, g1, g2, g3⟩ := spec_l01Square_eq b (by omega) (by omega)
  have hbb : b * b ≤ 4611686018427387904 * 4611686018427387904 := by
    rcases Int.le_total 0 b with h | h
    · exact Int.mul_le_mul hb1 hb1 h (by omega)
    · rw [← Int.neg_mul_neg]; exact Int.mul_le_mul (by omega) (by omega) (by omega) (by omega)
  rw [e, f, ← es, ← fs] 
  rw [← fs] at hbb
  simp only [Option.bind_some, wrapu]
  by_cases c1 : h < (g * 2 % 18446744073709551616 + m / 9223372036854775808) % 18446744073709551616
  · rw [if_pos c1, decide_eq_true (by omega)]
  · rw [if_neg c1]
    by_cases c2 : h = (g * 2 % 18446744073709551616 + m / 9223372036854775808) % 18446744073709551616
    · rw [if_pos c2]
      congr 1
      rw [decide_eq_decide]
      constructor <;> intro _ <;> omega
    · rw [if_neg c2, decide_eq_false (by omega)]

-- spec_l01Sign
-- MATH Nums
theorem spec_l01Sign_eq (a b c : Int) (ha0 : -4611686018427387904 ≤ a) (ha1 : a ≤ 4611686018427387904) (hb0 : -4611686018427387904 ≤ b) (hb1 : b ≤ 4611686018427387904) (k : Nat) (hk : 3 ≤ k) : spec_l01Sign.f k a b c = some (sgn a b) := by
  obtain ⟨k, rfl⟩ : ∃ m, k = m + 3 := ⟨k - 3, by omega⟩
  unfold spec_l01Sign.f sgn
  simp only [spec_l01Sign.j0, spec_l01Sign.j1, spec_l01Sign.j2]
  rw [spec_l01Less_eq a b (by omega) (by omega) hb0 hb1]
  simp only [Option.bind_some]
  by_cases h1 : a = 0 ∧ b = 0
  · obtain ⟨rfl, rfl⟩ := h1; simp
  · rw [if_neg h1]
    have e1 : (if a = 0 then (if (b == 0) = true then some (0 : Int) else (if a ≥ 0 then (if decide (b ≥ 0) = true then some 1 else if a ≤ 0 then (if decide (b ≤ 0) = true then some (-1) else if (decide (a * a < 2 * (b * b)) == decide (b > 0)) = true then some 1 else some (-1)) else (if false = true then some (-1) else if (decide (a * a < 2 * (b * b)) == decide (b > 0)) = true then some 1 else some (-1))) else (if false = true then some 1 else if a ≤ 0 then (if decide (b ≤ 0) = true then some (-1) else if (decide (a * a < 2 * (b * b)) == decide (b > 0)) = true then some 1 else some (-1)) else (if false = true then some (-1) else if (decide (a * a < 2 * (b * b)) == decide (b > 0)) = true then some 1 else some (-1))))) else none) = none ∨ True := Or.inr trivial
    clear e1
    by_cases ha : a = 0
    · have hb : ¬ b = 0 := fun c => h1 ⟨ha, c⟩
      subst ha
      by_cases hb2 : 0 ≤ b
      · simp [hb, hb2]
      · have hb3 : b ≤ 0 := by omega
        simp [hb, hb2, hb3]
    · by_cases ha2 : 0 ≤ a
      · by_cases hb2 : 0 ≤ b
        · simp [ha, ha2, hb2]
        · have ha3 : ¬ a ≤ 0 := by omega
          simp [ha, ha2, hb2, ha3, apply_ite some]
      · have ha3 : a ≤ 0 := by omega
        by_cases hb3 : b ≤ 0
        · simp [ha, ha2, ha3, hb3]
        · simp [ha, ha2, ha3, hb3, apply_ite some]

-- spec_l01Of
theorem spec_l01Of_eq (a b k : Int) : spec_l01Of.f a b k = some (a, b, k) := rfl

-- laws_toNum
theorem laws_toNum_eq (a b k : Int) : laws_toNum.f a b k = some (a, b, k) := rfl

-- impl_within
theorem impl_within_eq (a b c : Int) : impl_within.f a b c = some (decide (b ≤ a ∧ a ≤ c)) := by
  unfold impl_within.f
  by_cases h : b ≤ a <;> simp [h]

-- impl_ValidNum
theorem impl_ValidNum_eq (a b k : Int) : impl_ValidNum.f a b k = some (decide (NumOk a b k)) := by
  unfold impl_ValidNum.f NumOk
  simp only [impl_within_eq, Option.bind_some, and1]
  by_cases h1 : -131072 ≤ a ∧ a ≤ 131072
  · by_cases h2 : -131072 ≤ b ∧ b ≤ 131072
    · by_cases h3 : 0 ≤ k ∧ k ≤ 10
      · simp only [h1, h2, h3, and_self, decide_true, if_true, true_and]
        by_cases h4 : k = 0
        · simp [h4]
        · by_cases h5 : a % 2 = 1
          · simp [h4, h5]
          · by_cases h6 : b % 2 = 1 <;> simp [h4, h5, h6]
      · simp [h1, h2, h3]
    · simp [h1, h2]
  · simp [h1]

-- impl_signOf
theorem impl_signOf_eq (a : Int) : impl_signOf.f a = some (if a < 0 then -1 else if a = 0 then 0 else 1) := by
  unfold impl_signOf.f mx mn
  congr 1
  by_cases h : a < 0
  · rw [if_pos h]; repeat' split
    all_goals omega
  · rw [if_neg h]
    by_cases h2 : a = 0
    · rw [if_pos h2]; repeat' split
      all_goals omega
    · rw [if_neg h2]; repeat' split
      all_goals omega

-- bits_Mul64
-- MATH Nums
theorem bits_Mul64_eq (a : Int) (h0 : 0 ≤ a) (h1 : a ≤ 18446744073709551615) : ∃ h s : Int, bits_Mul64.f a a = some (h, s) ∧ h * 18446744073709551616 + s = a * a ∧ 0 ≤ h ∧ 0 ≤ s ∧ s ≤ 18446744073709551615 := by
  unfold bits_Mul64.f
  have hl : 0 ≤ a % 4294967296 ∧ a % 4294967296 ≤ 4294967295 := by omega
  have hh : 0 ≤ a / 4294967296 ∧ a / 4294967296 ≤ 4294967295 := by omega
  have e := halves a
  have b1 := half_bd hl.1 hl.2 hl.1 hl.2
  have b2 := half_bd hl.1 hl.2 hh.1 hh.2
  have b3 := half_bd hh.1 hh.2 hh.1 hh.2
  rw [andlow h0 (by omega)]
  simp only [wrapu]
  rw [Int.mul_comm (a / 4294967296) (a % 4294967296)]
  have e0 : a * a = a * a := rfl
  generalize hp : (a % 4294967296) * (a % 4294967296) = p at *
  generalize hq : (a % 4294967296) * (a / 4294967296) = q at *
  generalize hr : (a / 4294967296) * (a / 4294967296) = r at *
  have hand : ∀ x : Int, 0 ≤ x → x < 18446744073709551616 → bits .and .u64 x 4294967295 = x % 4294967296 := fun x => andlow
  rw [hand _ (by omega) (by omega)]
  rw [e]
  clear hand hl hh hp hq hr e0 e
  exact ⟨_, _, rfl, by omega, by omega, by omega, by omega⟩

-- impl_abs
theorem impl_abs_eq (a : Int) (h0 : -9223372036854775807 ≤ a) (h1 : a ≤ 9223372036854775807) : impl_abs.f a = some (if a < 0 then -a else a) := by
  unfold impl_abs.f
  rw [w64 (by omega) (by omega)]
  congr 1
  unfold mx
  split <;> split <;> omega

-- impl_isGreater
-- MATH Nums
theorem impl_isGreater_eq (a b : Int) (ha0 : -9223372036854775807 ≤ a) (ha1 : a ≤ 9223372036854775807) (hb0 : -4611686018427387904 ≤ b) (hb1 : b ≤ 4611686018427387904) : impl_isGreater.f a b = some (decide (2 * (b * b) < a * a)) := by
  unfold impl_isGreater.f
  rw [impl_abs_eq a ha0 ha1, impl_abs_eq b (by omega) (by omega)]
  simp only [Option.bind_some]
  rw [wu64 (n := if a < 0 then -a else a) (by split <;> omega) (by split <;> omega), wu64 (n := if b < 0 then -b else b) (by split <;> omega) (by split <;> omega)]
  obtain ⟨h, s, e, es, h1, h2, h3⟩ := bits_Mul64_eq (if a < 0 then -a else a) (by split <;> omega) (by split <;> omega)
  obtain ⟨g, m, f, fs, g1, g2, g3⟩ := bits_Mul64_eq (if b < 0 then -b else b) (by split <;> omega) (by split <;> omega)
  rw [abs_sq] at es fs
  have hbb : b * b ≤ 4611686018427387904 * 4611686018427387904 := by
    rcases Int.le_total 0 b with h | h
    · exact Int.mul_le_mul hb1 hb1 h (by omega)
    · rw [← Int.neg_mul_neg]; exact Int.mul_le_mul (by omega) (by omega) (by omega) (by omega)
  rw [e, f, ← es, ← fs]
  rw [← fs] at hbb
  simp only [Option.bind_some, wrapu]
  rw [oru (by omega) (by omega) (by omega) (by omega) (by omega)]
  by_cases c1 : h > g * 2 % 18446744073709551616 + m / 9223372036854775808
  · rw [if_pos c1, decide_eq_true (by omega)]
  · rw [if_neg c1]
    by_cases c2 : h = g * 2 % 18446744073709551616 + m / 9223372036854775808
    · rw [if_pos c2]
      congr 1
      rw [decide_eq_decide]
      constructor <;> intro _ <;> omega
    · rw [if_neg c2, decide_eq_false (by omega)]

-- impl_Num_sign
-- MATH Nums
theorem impl_Num_sign_eq (a b c : Int) (ha0 : -4611686018427387904 ≤ a) (ha1 : a ≤ 4611686018427387904) (hb0 : -4611686018427387904 ≤ b) (hb1 : b ≤ 4611686018427387904) (k : Nat) (hk : 1 ≤ k) : impl_Num_sign.f k a b c = some (sgn a b) := by
  obtain ⟨k, rfl⟩ : ∃ m, k = m + 1 := ⟨k - 1, by omega⟩
  unfold impl_Num_sign.f
  simp only [impl_Num_sign.j0, impl_signOf_eq, Option.bind_some]
  rw [impl_isGreater_eq a b (by omega) (by omega) hb0 hb1]
  simp only [Option.bind_some]
  have hne : ¬ (a = 0 ∧ b = 0) → ¬ a * a = 2 * (b * b) := fun h e => h (no_root_int e)
  unfold sgn
  rcases Int.lt_trichotomy a 0 with ha | ha | ha
  · rcases Int.lt_trichotomy b 0 with hb | hb | hb
    · have h1 : ¬ (a = 0) := by omega
      have h2 : ¬ (0 ≤ a) := by omega
      have h3 : a ≤ 0 := by omega
      have h4 : b ≤ 0 := by omega
      simp [ha, hb, h1, h2, h3, h4]
    · subst hb
      have h1 : ¬ (a = 0) := by omega
      have h2 : ¬ (0 ≤ a) := by omega
      have h3 : a ≤ 0 := by omega
      simp [ha, h1, h2, h3]
    · have h1 : ¬ (a = 0) := by omega
      have h2 : ¬ (0 ≤ a) := by omega
      have h3 : ¬ b ≤ 0 := by omega
      have h4 : ¬ b < 0 := by omega
      have h5 : ¬ b = 0 := by omega
      have := hne (by omega)
      by_cases c : 2 * (b * b) < a * a
      · have c2 : ¬ a * a < 2 * (b * b) := by omega
        simp [ha, hb, h1, h2, h3, h4, h5, c, c2]
      · have c2 : a * a < 2 * (b * b) := by omega
        simp [ha, hb, h1, h2, h3, h4, h5, c, c2]
  · subst ha
    rcases Int.lt_trichotomy b 0 with hb | hb | hb
    · have h4 : b ≤ 0 := by omega
      have h5 : ¬ b = 0 := by omega
      have h6 : ¬ 0 ≤ b := by omega
      simp [hb, h4, h5, h6]
    · subst hb; simp
    · have h4 : ¬ b < 0 := by omega
      have h5 : ¬ b = 0 := by omega
      have h6 : 0 ≤ b := by omega
      simp [h4, h5, h6]
  · rcases Int.lt_trichotomy b 0 with hb | hb | hb
    · have h1 : ¬ (a = 0) := by omega
      have h2 : 0 ≤ a := by omega
      have h3 : ¬ a ≤ 0 := by omega
      have h4 : ¬ a < 0 := by omega
      have h5 : ¬ 0 ≤ b := by omega
      have h6 : ¬ 0 < b := by omega
      have := hne (by omega)
      by_cases c : 2 * (b * b) < a * a
      · have c2 : ¬ a * a < 2 * (b * b) := by omega
        simp [hb, h1, h2, h3, h4, h5, h6, c, c2]
      · have c2 : a * a < 2 * (b * b) := by omega
        simp [hb, h1, h2, h3, h4, h5, h6, c, c2]
    · subst hb
      have h1 : ¬ (a = 0) := by omega
      have h2 : 0 ≤ a := by omega
      have h4 : ¬ a < 0 := by omega
      simp [h1, h2, h4]
    · have h1 : ¬ (a = 0) := by omega
      have h2 : 0 ≤ a := by omega
      have h4 : ¬ a < 0 := by omega
      have h5 : ¬ b < 0 := by omega
      have h6 : ¬ b = 0 := by omega
      have h7 : 0 ≤ b := by omega
      simp [h1, h2, h4, h5, h6, h7]

theorem FnExactSignNum : laws_FnExactSignNum.Pure := by
  intro a b k _
  refine ⟨5, ?_⟩
  unfold laws_FnExactSignNum.f spec_SignNum.f impl_SignNum.f
  simp only [laws_toNum_eq, spec_l01Ok_eq, impl_ValidNum_eq, spec_l01Of_eq, Option.bind_some]
  by_cases h : NumOk a b k
  · rw [decide_eq_true h, if_pos rfl, if_pos rfl]
    obtain ⟨ha, hb, _⟩ := h
    rw [spec_l01Sign_eq a b k (by omega) (by omega) (by omega) (by omega) 5 (by omega), impl_Num_sign_eq a b k (by omega) (by omega) (by omega) (by omega) 5 (by omega)]
    simp
  · simp [h]

end Go.Proofs.Ytbkehpciffponaa.Pure
