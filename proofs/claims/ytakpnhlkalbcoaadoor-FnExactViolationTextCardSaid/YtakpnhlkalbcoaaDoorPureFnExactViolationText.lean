/- What is proved: the program's ViolationText answers what the reference's answers, at every violation. Conditions: none. -/
import Derived.Test.YtakpnhlkalbcoaaDoorPFnExactViolationTextx
import Derived.Test.YtakpnhlkalbcoaaDoorMath
import Derived.Test.YtakpnhlkalbcoaaDoorTxt
namespace Go.Proofs.YtakpnhlkalbcoaaDoor.Pure
open Go.RowKit Go.Proofs.YtakpnhlkalbcoaaDoor.PFnExactViolationText Go.Proofs.YtakpnhlkalbcoaaDoorW.PrintWords Go.Proofs.YtakpnhlkalbcoaaDoorW.PrintLast Go.Proofs.YtakpnhlkalbcoaaDoorW.PrintMore Go.Proofs.YtakpnhlkalbcoaaDoor.Math

-- spec_l00In
theorem spec_l00In_eq (a b c : Int) : spec_l00In.f a b c = some (decide (b ≤ a ∧ a ≤ c)) := by
  unfold spec_l00In.f
  by_cases h : b ≤ a <;> simp [h]

-- spec_l13Faces
-- MATH Txt
theorem spec_l13Faces_eq (a b c d : Int) (k : Nat) (hk : 6 < k) : spec_l13Faces.f k 24 [a, b, c, d] = some (decide ((0 ≤ a ∧ a ≤ 23) ∧ (0 ≤ b ∧ b ≤ 23) ∧ (0 ≤ c ∧ c ≤ 23) ∧ (0 ≤ d ∧ d ≤ 23))) := by
  obtain ⟨k, rfl⟩ : ∃ j, k = j + 6 := ⟨k - 6, by omega⟩
  have r0 : rd [a, b, c, d] 0 = a := rfl
  have r1 : rd [a, b, c, d] 1 = b := rfl
  have r2 : rd [a, b, c, d] 2 = c := rfl
  have r3 : rd [a, b, c, d] 3 = d := rfl
  have e0 : wrap64 (24 - 1) = 23 := by unfold wrap64; omega
  have e1 : wrap64 (0 + 1) = 1 := by unfold wrap64; omega
  have e2 : wrap64 (1 + 1) = 2 := by unfold wrap64; omega
  have e3 : wrap64 (2 + 1) = 3 := by unfold wrap64; omega
  have e4 : wrap64 (3 + 1) = 4 := by unfold wrap64; omega
  have hl : (([a, b, c, d] : List Int).length : Int) = 4 := rfl
  unfold spec_l13Faces.f
  simp only [spec_l13Faces.l0, hl, e0, e1, e2, e3, e4, r0, r1, r2, r3, spec_l00In_eq, Option.bind_some]
  by_cases ha : 0 ≤ a ∧ a ≤ 23 <;> by_cases hb : 0 ≤ b ∧ b ≤ 23 <;> by_cases hc : 0 ≤ c ∧ c ≤ 23 <;> by_cases hd : 0 ≤ d ∧ d ≤ 23 <;> simp [ha, hb, hc, hd]

-- spec_l01Dec
-- MATH Txt
theorem p10_9 : (10 : Nat) ^ 9 = 1000000000 := by decide
theorem spec_l01Dec_pos : ∀ (m : Nat) (n : Int) (k : Nat), 0 ≤ n → n.toNat < 10 ^ m → n < 1000000000 → 2 * m + 1 < k → spec_l01Dec.f k n = some (sb (Lib.itoa n))
  | 0, n, k, h0, h1, h2, hk => by
    obtain ⟨k, rfl⟩ : ∃ j, k = j + 2 := ⟨k - 2, by omega⟩
    have : n = 0 := by simp at h1; omega
    subst this
    simp only [spec_l01Dec.f, spec_l01Dec.j0]
    rw [if_neg (by omega), if_neg (by simp), if_neg (by omega), if_pos (by omega), w64 (n := 48 + 0) (by omega) (by omega), strOf_one _ (by omega) (by omega), dec_small (by omega) (by omega)]
    rfl
  | m + 1, n, k, h0, h1, h2, hk => by
    obtain ⟨k, rfl⟩ : ∃ j, k = j + 2 := ⟨k - 2, by omega⟩
    simp only [spec_l01Dec.f, spec_l01Dec.j0]
    rw [if_neg (by omega), if_neg (by simp), if_neg (by omega)]
    by_cases hn : n < 10
    · rw [if_pos hn, w64 (n := 48 + n) (by omega) (by omega), show (48 + n) % 256 = 48 + n by omega, strOf_one _ (by omega) (by omega), dec_small h0 hn, show (48 + n).toNat = 48 + n.toNat by omega]
    · rw [if_neg hn, Int.tdiv_eq_ediv_of_nonneg h0, Int.tmod_eq_emod_of_nonneg h0, w64 (n := n / 10) (by omega) (by omega), w64 (n := 48 + n % 10) (by omega) (by omega), show (48 + n % 10) % 256 = 48 + n % 10 by omega,
        spec_l01Dec_pos m (n / 10) k (by omega) (by rw [Nat.pow_succ] at h1; omega) (by omega) (by omega)]
      simp only [Option.bind_some]
      have hl := itoa_len (n := n / 10) (by omega)
      rw [strOf_one _ (by omega) (by omega), sb_size, sb_size, if_pos (by simp; omega), sb_append, dec_step (n := n) (by omega), show (48 + n % 10).toNat = 48 + (n % 10).toNat by omega]
theorem spec_l01Dec_neg : ∀ (m : Nat) (n : Int) (k : Nat), n < 0 → n.natAbs < 10 ^ m → -1000000000 < n → 2 * m + 22 < k → spec_l01Dec.f k n = some (sb (Lib.itoa n))
  | 0, n, k, h0, h1, h2, hk => by simp at h1; omega
  | m + 1, n, k, h0, h1, h2, hk => by
    obtain ⟨k, rfl⟩ : ∃ j, k = j + 2 := ⟨k - 2, by omega⟩
    simp only [spec_l01Dec.f, spec_l01Dec.j0]
    rw [if_pos (by omega)]
    have h9 := p10_9
    by_cases h10 : n > -10
    · rw [if_pos (by simpa using h10), w64 (n := -n) (by omega) (by omega), spec_l01Dec_pos 9 (-n) k (by omega) (by omega) (by omega) (by omega)]
      have hl := itoa_len (n := -n) (by omega)
      simp only [Option.bind_some]
      rw [sb_size, if_pos (by omega), sb_one, sb_append, dec_neg (n := n) (by omega)]
      rfl
    · have e1 : Int.tdiv n 10 = -((-n) / 10) := by
        have := Int.neg_tdiv (-n) 10
        rw [Int.neg_neg] at this
        rw [this, Int.tdiv_eq_ediv_of_nonneg (show 0 ≤ -n by omega)]
      have e2 : Int.tmod n 10 = -((-n) % 10) := by
        have := Int.neg_tmod (-n) 10
        rw [Int.neg_neg] at this
        rw [this, Int.tmod_eq_emod_of_nonneg (show 0 ≤ -n by omega)]
      rw [if_neg (by simpa using h10), if_pos (by omega), e1, e2, Int.neg_neg, w64 (n := -(-n / 10)) (by omega) (by omega), w64 (n := -n % 10) (by omega) (by omega),
        spec_l01Dec_neg m (-(-n / 10)) k (by omega) (by rw [Nat.pow_succ] at h1; omega) (by omega) (by omega), spec_l01Dec_pos 9 (-n % 10) k (by omega) (by omega) (by omega) (by omega)]
      simp only [Option.bind_some]
      have hl := itoa_len (n := -(-n / 10)) (by omega)
      have hl2 := itoa_len (n := -n % 10) (by omega)
      rw [sb_size, sb_size, if_pos (by omega), sb_append, dec_neg (n := n) (by omega), dec_neg (n := -(-n / 10)) (by omega), Int.neg_neg, dec_step (n := -n) (by omega), dec_small (n := -n % 10) (by omega) (by omega)]
      rfl
theorem spec_l01Dec_eq (n : Int) (k : Nat) (h0 : -1000000000 < n) (h1 : n < 1000000000) (hk : 60 < k) : spec_l01Dec.f k n = some (sb (Lib.itoa n)) := by
  have h9 := p10_9
  by_cases hn : 0 ≤ n
  · exact spec_l01Dec_pos 9 n k hn (by omega) h1 (by omega)
  · exact spec_l01Dec_neg 9 n k (by omega) (by omega) h0 (by omega)

-- spec_ViolationText
-- MATH Txt
/-- The names of the kinds of violations. -/
def vName (v : Int) : List UInt8 := if v = 1 then [99, 121, 99, 108, 101] else if v = 2 then [99, 114, 111, 115, 115] else if v = 3 then [119, 101, 97, 118, 101] else [107, 105, 110, 100]
theorem vName_len (v : Int) : (vName v).length ≤ 5 := by unfold vName; repeat' split
                                                         all_goals decide
/-- The text of a violation. -/
def vTxt (v a b c d : Int) : List UInt8 := vName v ++ (32 :: (Lib.itoa a ++ (32 :: (Lib.itoa b ++ (32 :: (Lib.itoa c ++ if v = 3 then 32 :: Lib.itoa d else []))))))
def vNames : List ByteArray := [(⟨#[]⟩ : ByteArray), (⟨#[99, 121, 99, 108, 101]⟩ : ByteArray), (⟨#[99, 114, 111, 115, 115]⟩ : ByteArray), (⟨#[119, 101, 97, 118, 101]⟩ : ByteArray), (⟨#[107, 105, 110, 100]⟩ : ByteArray)]
theorem vNames_at (v : Int) (h : 1 ≤ v ∧ v ≤ 4) : rdOf ByteArray.empty vNames v = sb (vName v) := by
  have : v = 1 ∨ v = 2 ∨ v = 3 ∨ v = 4 := by omega
  rcases this with rfl | rfl | rfl | rfl <;> rfl
/-- What is said of a violation that has a text. -/
def VOk (v a b c d : Int) : Prop := (1 ≤ v ∧ v ≤ 4) ∧ ((0 ≤ a ∧ a ≤ 23) ∧ (0 ≤ b ∧ b ≤ 23) ∧ (0 ≤ c ∧ c ≤ 23) ∧ (0 ≤ d ∧ d ≤ 23)) ∧ (v = 3 ∨ d = 0)
instance (v a b c d : Int) : Decidable (VOk v a b c d) := by unfold VOk; infer_instance
theorem spec_ViolationText_eq (v a b c d : Int) (k : Nat) (hk : 70 < k) : spec_ViolationText.f k v a b c d = some (sb (if VOk v a b c d then vTxt v a b c d else [])) := by
  unfold spec_ViolationText.f
  simp only [Option.bind_some, spec_l00In_eq, spec_l13Faces_eq a b c d k (by omega)]
  have jt : spec_ViolationText.j0 k vNames true v a b c d = some (sb []) := by
    obtain ⟨k, rfl⟩ : ∃ j, k = j + 1 := ⟨k - 1, by omega⟩
    simp only [spec_ViolationText.j0, if_true]
    rfl
  by_cases h1 : 1 ≤ v ∧ v ≤ 4
  · by_cases h2 : (0 ≤ a ∧ a ≤ 23) ∧ (0 ≤ b ∧ b ≤ 23) ∧ (0 ≤ c ∧ c ≤ 23) ∧ (0 ≤ d ∧ d ≤ 23)
    · obtain ⟨ha, hb, hc, hd⟩ := h2
      have jf : spec_ViolationText.j0 k vNames false v a b c d = some (sb (vTxt v a b c d)) := by
        obtain ⟨k, rfl⟩ : ∃ j, k = j + 1 := ⟨k - 1, by omega⟩
        have la := itoa_len (n := a) (by omega)
        have lb := itoa_len (n := b) (by omega)
        have lc := itoa_len (n := c) (by omega)
        have ld := itoa_len (n := d) (by omega)
        have ln := vName_len v
        have hlen : (vNames.length : Int) = 5 := rfl
        simp only [spec_ViolationText.j0, hlen, vNames_at v h1]
        rw [spec_l01Dec_eq a k (by omega) (by omega) (by omega), spec_l01Dec_eq b k (by omega) (by omega) (by omega), spec_l01Dec_eq c k (by omega) (by omega) (by omega), spec_l01Dec_eq d k (by omega) (by omega) (by omega)]
        simp only [Option.bind_some, sb_one, sb_append, sb_size, List.length_append, List.length_cons, List.length_nil]
        rw [if_neg (by simp), if_pos (by omega), if_pos (by omega), if_pos (by omega), if_pos (by omega), if_pos (by omega), if_pos (by omega), if_pos (by omega), if_pos (by omega)]
        unfold vTxt
        by_cases h3 : v = 3
        · rw [if_pos h3, if_pos (by omega), if_pos (by omega)]
          simp [h3, List.append_assoc]
        · rw [if_neg h3]
          simp [h3, List.append_assoc]
      rw [if_pos (by simp [h1]), if_pos (by simp [ha, hb, hc, hd])]
      by_cases h3 : v = 3
      · rw [if_pos h3]
        refine jf.trans ?_
        rw [if_pos ⟨h1, ⟨ha, hb, hc, hd⟩, Or.inl h3⟩]
      · rw [if_neg h3]
        by_cases h4 : d = 0
        · have e : (d != 0) = false := by simp [h4]
          rw [e]
          refine jf.trans ?_
          rw [if_pos ⟨h1, ⟨ha, hb, hc, hd⟩, Or.inr h4⟩]
        · have e : (d != 0) = true := by simp [h4]
          rw [e]
          refine jt.trans ?_
          rw [if_neg (fun c => c.2.2.elim h3 h4)]
    · rw [if_pos (by simp [h1]), if_neg (by simpa using h2)]
      refine jt.trans ?_
      rw [if_neg (fun c => h2 c.2.1)]
  · rw [if_neg (by simpa using h1)]
    refine jt.trans ?_
    rw [if_neg (fun c => h1 c.1)]

-- impl_within
theorem impl_within_eq (a b c : Int) : impl_within.f a b c = some (decide (b ≤ a ∧ a ≤ c)) := by
  unfold impl_within.f
  by_cases h : b ≤ a <;> simp [h]

-- impl_decimal
-- MATH Txt
theorem impl_decimal_eq (n : Int) (h0 : -9223372036854775808 ≤ n) (h1 : n ≤ 9223372036854775807) : impl_decimal.f n = some (sb (Lib.itoa n)) := by
  unfold impl_decimal.f strconv_FormatInt.f
  rw [if_pos rfl, if_pos ⟨h0, h1⟩]
  rfl

-- impl_ViolationText
-- MATH Txt
theorem impl_ViolationText_1_eq (a : Int) : impl_ViolationText_1.f a = some (!decide (0 ≤ a ∧ a ≤ 23)) := by
  unfold impl_ViolationText_1.f
  simp only [impl_within_eq, Option.bind_some]
theorem impl_ViolationText_l0 : ∀ (d i : Nat) (x : List UInt8) (l : List Int) (k : Nat), i + d = l.length → d < k → (∀ y ∈ l, 0 ≤ y ∧ y ≤ 23) → x.length + 20 * d ≤ 1000 → l.length ≤ 1000 →
    impl_ViolationText.l0 k (sb x) l (l.length : Int) (i : Int) = some (sb (x ++ ((l.drop i).flatMap fun y => 32 :: Lib.itoa y)))
  | 0, i, x, l, k, h1, h2, h3, h4, h5 => by
    obtain ⟨k, rfl⟩ : ∃ j, k = j + 1 := ⟨k - 1, by omega⟩
    simp only [impl_ViolationText.l0]
    rw [if_neg (by omega), List.drop_eq_nil_of_le (by omega)]
    simp
  | d + 1, i, x, l, k, h1, h2, h3, h4, h5 => by
    obtain ⟨k, rfl⟩ : ∃ j, k = j + 1 := ⟨k - 1, by omega⟩
    have hlt : i < l.length := by omega
    have hr : rd l (i : Int) = l[i] := by
      unfold rd
      rw [Int.toNat_natCast, List.getD_eq_getElem?_getD, List.getElem?_eq_getElem hlt]
      rfl
    have hy := h3 l[i] (List.getElem_mem hlt)
    have hl := itoa_len (n := l[i]) (by omega)
    simp only [impl_ViolationText.l0]
    rw [if_pos (by omega), if_pos (by omega), if_pos (by omega), hr, impl_decimal_eq _ (by omega) (by omega)]
    simp only [Option.bind_some, sb_one, sb_append, sb_size, List.length_append, List.length_cons, List.length_nil]
    rw [if_pos (by omega), if_pos (by omega), w64 (n := (i : Int) + 1) (by omega) (by omega), show (i : Int) + 1 = ((i + 1 : Nat) : Int) by omega,
      impl_ViolationText_l0 d (i + 1) _ l k (by omega) (by omega) h3 (by simp only [List.length_append, List.length_cons, List.length_nil]; omega) h5, List.drop_eq_getElem_cons hlt, List.flatMap_cons]
    simp [List.append_assoc]
theorem impl_ViolationText_eq (v a b c d : Int) (k : Nat) (hk : 70 < k) : impl_ViolationText.f k v a b c d = some (sb (if VOk v a b c d then vTxt v a b c d else [])) := by
  unfold impl_ViolationText.f
  simp only [Option.bind_some, impl_within_eq, slices_ContainsFunc_int64_int64_impl_ViolationText_1.eq_any (fun x => !decide (0 ≤ x ∧ x ≤ 23)) [a, b, c, d] (fun x _ => impl_ViolationText_1_eq x)]
  have jt : impl_ViolationText.j0 k vNames [a, b, c, d] true v a b c d = some (sb []) := by
    obtain ⟨k, rfl⟩ : ∃ j, k = j + 1 := ⟨k - 1, by omega⟩
    simp only [impl_ViolationText.j0, if_true]
    rfl
  by_cases h1 : 1 ≤ v ∧ v ≤ 4
  · by_cases h2 : (0 ≤ a ∧ a ≤ 23) ∧ (0 ≤ b ∧ b ≤ 23) ∧ (0 ≤ c ∧ c ≤ 23) ∧ (0 ≤ d ∧ d ≤ 23)
    · have h2' := h2
      obtain ⟨ha, hb, hc, hd⟩ := h2
      have jf : impl_ViolationText.j0 k vNames [a, b, c, d] false v a b c d = some (sb (vTxt v a b c d)) := by
        obtain ⟨k, rfl⟩ : ∃ j, k = j + 2 := ⟨k - 2, by omega⟩
        have ln := vName_len v
        have hlen : (vNames.length : Int) = 5 := rfl
        have hl4 : (([a, b, c, d] : List Int).length : Int) = 4 := rfl
        simp only [impl_ViolationText.j0, impl_ViolationText.j1, hlen, vNames_at v h1]
        unfold vTxt
        by_cases h3 : v = 3
        · have := impl_ViolationText_l0 4 0 (vName v) [a, b, c, d] k rfl (by omega) (by simpa using ⟨ha, hb, hc, hd⟩) (by omega) (by simp)
          rw [if_neg (by simp), if_pos h3, if_pos (by omega), if_pos (by omega)]
          refine this.trans ?_
          simp [h3]
        · have := impl_ViolationText_l0 3 0 (vName v) [a, b, c] k rfl (by omega) (by simpa using ⟨ha, hb, hc⟩) (by omega) (by simp)
          rw [if_neg (by simp), if_neg h3, if_pos (by rw [hl4]; omega), if_pos (by omega), if_pos (by omega)]
          refine this.trans ?_
          simp [h3]
      rw [if_pos (by simp [h1]), if_neg (by simp [ha, hb, hc, hd])]
      by_cases h3 : v = 3
      · rw [if_pos h3]
        refine jf.trans ?_
        rw [if_pos ⟨h1, h2', Or.inl h3⟩]
      · rw [if_neg h3]
        by_cases h4 : d = 0
        · have e : (d != 0) = false := by simp [h4]
          rw [e]
          refine jf.trans ?_
          rw [if_pos ⟨h1, h2', Or.inr h4⟩]
        · have e : (d != 0) = true := by simp [h4]
          rw [e]
          refine jt.trans ?_
          rw [if_neg (fun c => c.2.2.elim h3 h4)]
    · have e : ([a, b, c, d].any fun x => !decide (0 ≤ x ∧ x ≤ 23)) = true := by
        simp only [List.any_cons, List.any_nil, Bool.or_false]
        by_cases ha : 0 ≤ a ∧ a ≤ 23 <;> by_cases hb : 0 ≤ b ∧ b ≤ 23 <;> by_cases hc : 0 ≤ c ∧ c ≤ 23 <;> by_cases hd : 0 ≤ d ∧ d ≤ 23 <;> simp [ha, hb, hc, hd] at h2 ⊢
      rw [if_pos (by simp [h1]), if_pos e]
      refine jt.trans ?_
      rw [if_neg (fun c => h2 c.2.1)]
  · rw [if_neg (by simpa using h1)]
    refine jt.trans ?_
    rw [if_neg (fun c => h1 c.1)]

theorem FnExactViolationText : laws_FnExactViolationText.Pure := by
  intro v a b c d _
  refine ⟨100, ?_⟩
  unfold laws_FnExactViolationText.f laws_toViolation.f
  simp only [Option.bind_some]
  rw [spec_ViolationText_eq v a b c d 100 (by omega), impl_ViolationText_eq v a b c d 100 (by omega)]
  simp

end Go.Proofs.YtakpnhlkalbcoaaDoor.Pure
