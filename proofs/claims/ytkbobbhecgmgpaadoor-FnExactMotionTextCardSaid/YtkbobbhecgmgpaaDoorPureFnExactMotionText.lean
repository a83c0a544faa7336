/- What is proved: the program's MotionText answers what the reference's answers, at every motion. Conditions: none. -/
import Derived.Test.YtkbobbhecgmgpaaDoorPFnExactMotionTextx
import Derived.Test.YtkbobbhecgmgpaaDoorMath
import Derived.Test.YtkbobbhecgmgpaaDoorTxt
namespace Go.Proofs.YtkbobbhecgmgpaaDoor.Pure
open Go.RowKit Go.Proofs.YtkbobbhecgmgpaaDoor.PFnExactMotionText Go.Proofs.YtkbobbhecgmgpaaDoorW.PrintWords Go.Proofs.YtkbobbhecgmgpaaDoorW.PrintLast Go.Proofs.YtkbobbhecgmgpaaDoorW.PrintMore Go.Proofs.YtkbobbhecgmgpaaDoor.Math

-- spec_l00In
theorem spec_l00In_eq (a b c : Int) : spec_l00In.f a b c = some (decide (b ≤ a ∧ a ≤ c)) := by
  unfold spec_l00In.f
  by_cases h : b ≤ a <;> simp [h]

-- spec_l01Ok
theorem spec_l01Ok_eq (a b k : Int) : spec_l01Ok.f a b k = some (decide (NumOk a b k)) := by
  unfold spec_l01Ok.f NumOk
  simp only [spec_l00In_eq, Option.bind_some]
  by_cases h1 : -131072 ≤ a ∧ a ≤ 131072
  · by_cases h2 : -131072 ≤ b ∧ b ≤ 131072
    · by_cases h3 : 0 ≤ k ∧ k ≤ 10
      · simp only [h1, h2, h3, and_self, decide_true, if_true, true_and]
        by_cases h4 : k = 0
        · simp [h4]
        · by_cases h5 : Int.tmod a 2 = 0
          · have := (tmod2 a).1 h5
            by_cases h6 : Int.tmod b 2 = 0
            · have := (tmod2 b).1 h6
              simp [h4, h5, h6]; omega
            · have h7 : b % 2 = 1 := by have : ¬ b % 2 = 0 := fun h => h6 ((tmod2 b).2 h); omega
              simp [h4, h5, h6, h7]
          · have h7 : a % 2 = 1 := by have : ¬ a % 2 = 0 := fun h => h5 ((tmod2 a).2 h); omega
            simp [h4, h5, h7]
      · simp [h1, h2, h3]
    · simp [h1, h2]
  · simp [h1]

-- spec_l04Ok
theorem spec_l04Ok_eq (t : Int) (f : Bool) (a b k c d l : Int) : spec_l04Ok.f t f a b k c d l = some (decide ((0 ≤ t ∧ t ≤ 7) ∧ NumOk a b k ∧ NumOk c d l)) := by
  unfold spec_l04Ok.f
  simp only [spec_l00In_eq, spec_l01Ok_eq, Option.bind_some]
  by_cases h : 0 ≤ t ∧ t ≤ 7 <;> by_cases h1 : NumOk a b k <;> simp [h, h1]

-- spec_l01Dec
-- MATH Txt
theorem p10_9 : (10 : Nat) ^ 9 = 1000000000 := by decide
theorem spec_l01Dec_pos : ∀ (m : Nat) (n : Int) (k : Nat), 0 ≤ n → n.toNat < 10 ^ m → n < 1000000000 → 2 * m + 1 < k → spec_l01Dec.f k n = some (sb (Lib.itoa n))
  | 0, n, k, h0, h1, h2, hk => by
    obtain ⟨k, rfl⟩ : ∃ j, k = j + 2 := ⟨k - 2, by omega⟩
    have : n = 0 := by simp at h1; omega
    subst this
    simp only [spec_l01Dec.f, spec_l01Dec.j0]
    rw [if_neg (by omega), if_neg (by simp), if_neg (by omega), if_pos (by omega), w64 (n := 48 + 0) (by omega) (by omega), strOf_one _ (by omega) (by omega), dec_small (by omega) (by omega)]
    rfl
  | m + 1, n, k, h0, h1, h2, hk => by
    obtain ⟨k, rfl⟩ : ∃ j, k = j + 2 := ⟨k - 2, by omega⟩
    simp only [spec_l01Dec.f, spec_l01Dec.j0]
    rw [if_neg (by omega), if_neg (by simp), if_neg (by omega)]
    by_cases hn : n < 10
    · rw [if_pos hn, w64 (n := 48 + n) (by omega) (by omega), show (48 + n) % 256 = 48 + n by omega, strOf_one _ (by omega) (by omega), dec_small h0 hn, show (48 + n).toNat = 48 + n.toNat by omega]
    · rw [if_neg hn, Int.tdiv_eq_ediv_of_nonneg h0, Int.tmod_eq_emod_of_nonneg h0, w64 (n := n / 10) (by omega) (by omega), w64 (n := 48 + n % 10) (by omega) (by omega), show (48 + n % 10) % 256 = 48 + n % 10 by omega,
        spec_l01Dec_pos m (n / 10) k (by omega) (by rw [Nat.pow_succ] at h1; omega) (by omega) (by omega)]
      simp only [Option.bind_some]
      have hl := itoa_len (n := n / 10) (by omega)
      rw [strOf_one _ (by omega) (by omega), sb_size, sb_size, if_pos (by simp; omega), sb_append, dec_step (n := n) (by omega), show (48 + n % 10).toNat = 48 + (n % 10).toNat by omega]
theorem spec_l01Dec_neg : ∀ (m : Nat) (n : Int) (k : Nat), n < 0 → n.natAbs < 10 ^ m → -1000000000 < n → 2 * m + 22 < k → spec_l01Dec.f k n = some (sb (Lib.itoa n))
  | 0, n, k, h0, h1, h2, hk => by simp at h1; omega
  | m + 1, n, k, h0, h1, h2, hk => by
    obtain ⟨k, rfl⟩ : ∃ j, k = j + 2 := ⟨k - 2, by omega⟩
    simp only [spec_l01Dec.f, spec_l01Dec.j0]
    rw [if_pos (by omega)]
    have h9 := p10_9
    by_cases h10 : n > -10
    · rw [if_pos (by simpa using h10), w64 (n := -n) (by omega) (by omega), spec_l01Dec_pos 9 (-n) k (by omega) (by omega) (by omega) (by omega)]
      have hl := itoa_len (n := -n) (by omega)
      simp only [Option.bind_some]
      rw [sb_size, if_pos (by omega), sb_one, sb_append, dec_neg (n := n) (by omega)]
      rfl
    · have e1 : Int.tdiv n 10 = -((-n) / 10) := by
        have := Int.neg_tdiv (-n) 10
        rw [Int.neg_neg] at this
        rw [this, Int.tdiv_eq_ediv_of_nonneg (show 0 ≤ -n by omega)]
      have e2 : Int.tmod n 10 = -((-n) % 10) := by
        have := Int.neg_tmod (-n) 10
        rw [Int.neg_neg] at this
        rw [this, Int.tmod_eq_emod_of_nonneg (show 0 ≤ -n by omega)]
      rw [if_neg (by simpa using h10), if_pos (by omega), e1, e2, Int.neg_neg, w64 (n := -(-n / 10)) (by omega) (by omega), w64 (n := -n % 10) (by omega) (by omega),
        spec_l01Dec_neg m (-(-n / 10)) k (by omega) (by rw [Nat.pow_succ] at h1; omega) (by omega) (by omega), spec_l01Dec_pos 9 (-n % 10) k (by omega) (by omega) (by omega) (by omega)]
      simp only [Option.bind_some]
      have hl := itoa_len (n := -(-n / 10)) (by omega)
      have hl2 := itoa_len (n := -n % 10) (by omega)
      rw [sb_size, sb_size, if_pos (by omega), sb_append, dec_neg (n := n) (by omega), dec_neg (n := -(-n / 10)) (by omega), Int.neg_neg, dec_step (n := -n) (by omega), dec_small (n := -n % 10) (by omega) (by omega)]
      rfl
theorem spec_l01Dec_eq (n : Int) (k : Nat) (h0 : -1000000000 < n) (h1 : n < 1000000000) (hk : 60 < k) : spec_l01Dec.f k n = some (sb (Lib.itoa n)) := by
  have h9 := p10_9
  by_cases hn : 0 ≤ n
  · exact spec_l01Dec_pos 9 n k hn (by omega) h1 (by omega)
  · exact spec_l01Dec_neg 9 n k (by omega) (by omega) h0 (by omega)

-- spec_l01Text
-- MATH Txt
theorem spec_l01Text_eq (a b c : Int) (k : Nat) (h : NumOk a b c) (hk : 70 < k) : spec_l01Text.f k a b c = some (sb (numTxt a b c)) := by
  obtain ⟨la, lb, lc⟩ := itoa_numTxt_len h
  obtain ⟨ha, hb, hc, _⟩ := h
  have hs := shl_bd hc.1 hc.2
  have hw : IntKind.u64.wrap c = c := wu64 (by omega) (by omega)
  have j0 : ∀ (x : List UInt8) (k : Nat), x.length ≤ 50 → 65 < k → spec_l01Text.j0 k (sb x) a b c = some (sb (if c = 0 then x else if a = 0 ∨ b = 0 then x ++ (47 :: Lib.itoa (shl .i64 1 c)) else 40 :: (x ++ (41 :: 47 :: Lib.itoa (shl .i64 1 c))))) := by
    intro x k hx hk
    obtain ⟨k, rfl⟩ : ∃ j, k = j + 1 := ⟨k - 1, by omega⟩
    simp only [spec_l01Text.j0, hw, sb_one, sb_append, sb_size]
    rw [spec_l01Dec_eq _ k (by omega) (by omega) (by omega)]
    simp only [Option.bind_some, sb_append, sb_size, List.length_append, List.length_cons, List.length_nil]
    by_cases h0 : c = 0
    · rw [if_pos h0, if_pos h0]
    · rw [if_neg h0, if_neg h0]
      by_cases h1 : a = 0
      · rw [if_pos h1, if_pos (by omega), if_pos (by omega), if_pos (by omega), if_pos (Or.inl h1)]
        simp [List.append_assoc]
      · rw [if_neg h1]
        by_cases h2 : b = 0
        · rw [if_pos h2, if_pos (by omega), if_pos (by omega), if_pos (by omega), if_pos (Or.inr h2)]
          simp [List.append_assoc]
        · rw [if_neg h2, if_pos (by omega), if_pos (by omega), if_pos (by omega), if_pos (by omega), if_pos (by omega), if_neg (by omega)]
          simp [List.append_assoc]
  unfold spec_l01Text.f numTxt
  rw [spec_l01Dec_eq a k (by omega) (by omega) (by omega), spec_l01Dec_eq b k (by omega) (by omega) (by omega)]
  simp only [Option.bind_some, sb_one, sb_append, sb_size, List.length_append, List.length_cons, List.length_nil]
  by_cases h1 : b = 0
  · rw [if_pos h1, j0 _ k (by omega) (by omega)]
    simp [h1]
  · rw [if_neg h1]
    by_cases h2 : a = 0
    · rw [if_pos h2, if_pos (by omega), j0 _ k (by simp; omega) (by omega)]
      simp [h1, h2]
    · rw [if_neg h2]
      by_cases h3 : b > 0
      · rw [if_pos h3, if_pos (by omega), if_pos (by omega), if_pos (by omega), j0 _ k (by simp; omega) (by omega)]
        simp [h1, h2, h3, List.append_assoc]
      · rw [if_neg h3, if_pos (by omega), if_pos (by omega), j0 _ k (by simp; omega) (by omega)]
        simp [h1, h2, h3, List.append_assoc]

-- spec_l02Text
-- MATH Txt
theorem spec_l02Text_eq (a b c d e f : Int) (k : Nat) (h : NumOk a b c) (h2 : NumOk d e f) (hk : 70 < k) : spec_l02Text.f k a b c d e f = some (sb (pntTxt a b c d e f)) := by
  have hl := numTxt_len h
  have hl2 := numTxt_len h2
  unfold spec_l02Text.f pntTxt
  rw [spec_l01Text_eq a b c k h (by omega), spec_l01Text_eq d e f k h2 (by omega)]
  simp only [Option.bind_some, sb_one, sb_append, sb_size, List.length_append, List.length_cons, List.length_nil]
  rw [if_pos (by omega), if_pos (by omega), if_pos (by omega), if_pos (by omega)]
  simp [List.append_assoc]

-- spec_l04Text
-- MATH Txt
theorem spec_l04Text_eq (t : Int) (f : Bool) (a b c d e g : Int) (k : Nat) (ht : 0 ≤ t ∧ t ≤ 7) (h : NumOk a b c) (h2 : NumOk d e g) (hk : 70 < k) : spec_l04Text.f k t f a b c d e g = some (sb ((if f = true then 102 else 114) :: (Lib.itoa t ++ (32 :: pntTxt a b c d e g)))) := by
  have hl := pntTxt_len h h2
  have hl2 := itoa_len (n := t) (by omega)
  unfold spec_l04Text.f
  rw [spec_l01Dec_eq t k (by omega) (by omega) (by omega), spec_l02Text_eq a b c d e g k h h2 (by omega)]
  simp only [Option.bind_some, sb_one, sb_append, sb_size, List.length_append, List.length_cons, List.length_nil]
  cases f with
  | true =>
    rw [if_pos rfl, if_pos (by omega), if_pos (by omega), if_pos (by omega)]
    simp [List.append_assoc]
  | false =>
    rw [if_neg (by simp), if_pos (by omega), if_pos (by omega), if_pos (by omega)]
    simp [List.append_assoc]

-- laws_toNum
theorem laws_toNum_eq (a b k : Int) : laws_toNum.f a b k = some (a, b, k) := rfl

-- laws_toMotion
theorem laws_toMotion_eq (t : Int) (f : Bool) (a b k c d l : Int) : laws_toMotion.f t f a b k c d l = some (t, f, a, b, k, c, d, l) := rfl

-- impl_within
theorem impl_within_eq (a b c : Int) : impl_within.f a b c = some (decide (b ≤ a ∧ a ≤ c)) := by
  unfold impl_within.f
  by_cases h : b ≤ a <;> simp [h]

-- impl_ValidNum
theorem impl_ValidNum_eq (a b k : Int) : impl_ValidNum.f a b k = some (decide (NumOk a b k)) := by
  unfold impl_ValidNum.f NumOk
  simp only [impl_within_eq, Option.bind_some, and1]
  by_cases h1 : -131072 ≤ a ∧ a ≤ 131072
  · by_cases h2 : -131072 ≤ b ∧ b ≤ 131072
    · by_cases h3 : 0 ≤ k ∧ k ≤ 10
      · simp only [h1, h2, h3, and_self, decide_true, if_true, true_and]
        by_cases h4 : k = 0
        · simp [h4]
        · by_cases h5 : a % 2 = 1
          · simp [h4, h5]
          · by_cases h6 : b % 2 = 1 <;> simp [h4, h5, h6]
      · simp [h1, h2, h3]
    · simp [h1, h2]
  · simp [h1]

-- impl_ValidMotion
theorem impl_ValidMotion_eq (t : Int) (f : Bool) (a b k c d l : Int) : impl_ValidMotion.f t f a b k c d l = some (decide ((0 ≤ t ∧ t ≤ 7) ∧ NumOk a b k ∧ NumOk c d l)) := by
  unfold impl_ValidMotion.f
  simp only [impl_within_eq, impl_ValidNum_eq, Option.bind_some]
  by_cases h : 0 ≤ t ∧ t ≤ 7 <;> by_cases h1 : NumOk a b k <;> simp [h, h1]

-- impl_decimal
-- MATH Txt
theorem impl_decimal_eq (n : Int) (h0 : -9223372036854775808 ≤ n) (h1 : n ≤ 9223372036854775807) : impl_decimal.f n = some (sb (Lib.itoa n)) := by
  unfold impl_decimal.f strconv_FormatInt.f
  rw [if_pos rfl, if_pos ⟨h0, h1⟩]
  rfl

-- impl_abs
theorem impl_abs_eq (a : Int) (h0 : -9223372036854775807 ≤ a) (h1 : a ≤ 9223372036854775807) : impl_abs.f a = some (if a < 0 then -a else a) := by
  unfold impl_abs.f
  rw [w64 (by omega) (by omega)]
  congr 1
  unfold mx
  split <;> split <;> omega

-- impl_numText
-- MATH Txt
theorem impl_numText_eq (a b c : Int) (k : Nat) (h : NumOk a b c) (hk : 3 < k) : impl_numText.f k a b c = some (sb (numTxt a b c)) := by
  obtain ⟨la, lb, lc⟩ := itoa_numTxt_len h
  obtain ⟨ha, hb, hc, _⟩ := h
  have hs := shl_bd hc.1 hc.2
  obtain ⟨k, rfl⟩ : ∃ j, k = j + 2 := ⟨k - 2, by omega⟩
  have dc := impl_decimal_eq (shl .i64 1 c) (by omega) (by omega)
  have db := impl_decimal_eq b (by omega) (by omega)
  have j1 : ∀ (s : UInt8) (y : List UInt8), y.length ≤ 19 → (Lib.itoa (if b < 0 then -b else b)).length ≤ 19 → impl_numText.j1 (k + 1) (sb y) (sb [s]) a b c = some (sb (if c = 0 then y ++ (s :: (Lib.itoa (if b < 0 then -b else b) ++ [114])) else 40 :: (y ++ (s :: (Lib.itoa (if b < 0 then -b else b) ++ [114])) ++ (41 :: 47 :: Lib.itoa (shl .i64 1 c))))) := by
    intro s y hy hl
    simp only [impl_numText.j1]
    rw [impl_abs_eq b (by omega) (by omega)]
    simp only [Option.bind_some]
    rw [impl_decimal_eq _ (by split <;> omega) (by split <;> omega), dc]
    simp only [Option.bind_some, sb_one, sb_append, sb_size, List.length_append, List.length_cons, List.length_nil]
    rw [if_pos (by omega), if_pos (by omega), if_pos (by omega)]
    by_cases h0 : c = 0
    · rw [if_pos h0, if_pos h0]; simp
    · rw [if_neg h0, if_neg h0, if_pos (by omega), if_pos (by omega), if_pos (by omega), if_pos (by omega), if_pos (by omega)]
      simp [List.append_assoc]
  unfold impl_numText.f
  rw [impl_decimal_eq a (by omega) (by omega)]
  simp only [Option.bind_some, impl_numText.j0]
  by_cases h1 : b = 0
  · have e : (b != 0) = false := by simp [h1]
    rw [e, dc]
    simp only [Bool.false_eq_true, if_false, Option.bind_some, sb_one, sb_append, sb_size, List.length_append, List.length_cons, List.length_nil, ite_self]
    rw [if_pos h1]
    unfold numTxt
    by_cases h0 : c = 0
    · rw [if_pos h0]; simp [h0, h1]
    · rw [if_neg h0, if_pos (by omega), if_pos (by omega), if_pos (by omega)]; simp [h0, h1]
  · have e : (b != 0) = true := by simp [h1]
    rw [e, db, dc]
    simp only [if_true, Bool.false_eq_true, if_false, Option.bind_some, sb_one, sb_append, sb_size, List.length_append, List.length_cons, List.length_nil]
    by_cases h2 : a = 0
    · rw [if_pos h2, if_pos (by omega)]
      unfold numTxt
      by_cases h0 : c = 0
      · rw [if_pos h0]; simp [h0, h1, h2]
      · rw [if_neg h0, if_pos (by omega), if_pos (by omega), if_pos (by omega)]; simp [h0, h1, h2, List.append_assoc]
    · rw [if_neg h2, if_neg h1]
      unfold numTxt
      by_cases h3 : b < 0
      · have hl : (Lib.itoa (-b)).length ≤ 19 := itoa_len (by omega)
        rw [if_pos h3, j1 45 _ la (by rw [if_pos h3]; exact hl), if_pos h3]
        have e3 := dec_neg h3
        have h4 : ¬ b > 0 := by omega
        by_cases h0 : c = 0 <;> simp [h0, h1, h2, h4, e3, List.append_assoc]
      · rw [if_neg h3, j1 43 _ la (by rw [if_neg h3]; exact lb), if_neg h3]
        have h4 : b > 0 := by omega
        by_cases h0 : c = 0 <;> simp [h0, h1, h2, h4, List.append_assoc]

-- impl_pointText
-- MATH Txt
theorem impl_pointText_eq (a b c d e f : Int) (k : Nat) (h : NumOk a b c) (h2 : NumOk d e f) (hk : 70 < k) : impl_pointText.f k a b c d e f = some (sb (pntTxt a b c d e f)) := by
  have hl := numTxt_len h
  have hl2 := numTxt_len h2
  unfold impl_pointText.f pntTxt
  rw [impl_numText_eq a b c k h (by omega), impl_numText_eq d e f k h2 (by omega)]
  simp only [Option.bind_some, sb_one, sb_append, sb_size, List.length_append, List.length_cons, List.length_nil]
  rw [if_pos (by omega), if_pos (by omega), if_pos (by omega), if_pos (by omega)]
  simp [List.append_assoc]

-- impl_motionText
-- MATH Txt
theorem impl_motionText_eq (t : Int) (f : Bool) (a b c d e g : Int) (k : Nat) (ht : 0 ≤ t ∧ t ≤ 7) (h : NumOk a b c) (h2 : NumOk d e g) (hk : 70 < k) : impl_motionText.f k t f a b c d e g = some (sb ((if f = true then 102 else 114) :: (Lib.itoa t ++ (32 :: pntTxt a b c d e g)))) := by
  have hl := pntTxt_len h h2
  have hl2 := itoa_len (n := t) (by omega)
  unfold impl_motionText.f
  simp only [impl_Motion_shift.f, Option.bind_some]
  rw [impl_decimal_eq t (by omega) (by omega), impl_pointText_eq a b c d e g k h h2 (by omega)]
  simp only [Option.bind_some, sb_one, sb_append, sb_size, List.length_append, List.length_cons, List.length_nil]
  cases f with
  | true =>
    rw [if_pos rfl, if_pos (by omega), if_pos (by omega), if_pos (by omega)]
    simp [List.append_assoc]
  | false =>
    rw [if_neg (by simp), if_pos (by omega), if_pos (by omega), if_pos (by omega)]
    simp [List.append_assoc]

theorem FnExactMotionText : laws_FnExactMotionText.Pure := by
  intro t f a b c d e g _
  refine ⟨100, ?_⟩
  unfold laws_FnExactMotionText.f impl_MotionText.f spec_MotionText.f
  simp only [laws_toMotion_eq, impl_ValidMotion_eq, spec_l04Ok_eq, Option.bind_some]
  by_cases h : (0 ≤ t ∧ t ≤ 7) ∧ NumOk a b c ∧ NumOk d e g
  · rw [spec_l04Text_eq t f a b c d e g 100 h.1 h.2.1 h.2.2 (by omega), impl_motionText_eq t f a b c d e g 100 h.1 h.2.1 h.2.2 (by omega)]
    simp [h]
  · simp [h]

end Go.Proofs.YtkbobbhecgmgpaaDoor.Pure
