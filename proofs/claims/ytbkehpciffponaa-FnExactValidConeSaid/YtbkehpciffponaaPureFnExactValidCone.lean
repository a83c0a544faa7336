/- What is proved: the program's ValidCone answers what the reference's answers, at every list. Conditions: none. -/
import Derived.Test.YtbkehpciffponaaPFnExactValidConex2
import Derived.Test.YtbkehpciffponaaMath
import Derived.Test.YtbkehpciffponaaSecs
namespace Go.Proofs.Ytbkehpciffponaa.Pure
open Go.RowKit Go.Proofs.Ytbkehpciffponaa.PFnExactValidCone Go.Proofs.YtbkehpciffponaaW.PrintWords Go.Proofs.YtbkehpciffponaaW.PrintLast Go.Proofs.YtbkehpciffponaaW.PrintMore Go.Proofs.Ytbkehpciffponaa.Math

-- spec_l00In
theorem spec_l00In_eq (a b c : Int) : spec_l00In.f a b c = some (decide (b ≤ a ∧ a ≤ c)) := by
  unfold spec_l00In.f
  by_cases h : b ≤ a <;> simp [h]

-- spec_l11Ok
-- MATH Secs
theorem spec_l11Ok_l0 (l : List Int) (hl : l.length ≤ 16) : ∀ (d k j : Nat) (s o : Int), j + d = l.length → d < k → 0 ≤ s → s ≤ 16 * j → 0 ≤ o → o ≤ 16 * j → s ≤ 256 → o ≤ 256 →
    spec_l11Ok.l0 k l s o (j : Int) = some (decide ((∀ x ∈ l.drop j, 1 ≤ x ∧ x ≤ 16) ∧ s + (l.drop j).sum ≤ 16 ∧ 2 * o - s + (if j % 2 = 0 then alt (l.drop j) else -alt (l.drop j)) = 0))
  | 0, k, j, s, o, hd, hk, h0, h1, h2, h3, h4, h5 => by
    obtain ⟨k, rfl⟩ : ∃ m, k = m + 1 := ⟨k - 1, by omega⟩
    simp only [spec_l11Ok.l0]
    rw [if_neg (by omega), List.drop_eq_nil_of_le (by omega), w64 (by omega) (by omega)]
    by_cases h : s ≤ 16
    · rw [if_pos h]
      congr 1
      by_cases he : 2 * o = s
      · simp [alt, h, he]
      · have : ¬ (2 * o - s = 0) := by omega
        simp [alt, he, this]
    · rw [if_neg h]
      simp [h]
  | d + 1, k, j, s, o, hd, hk, h0, h1, h2, h3, h4, h5 => by
    obtain ⟨k, rfl⟩ : ∃ m, k = m + 1 := ⟨k - 1, by omega⟩
    simp only [spec_l11Ok.l0]
    rw [if_pos (by omega), if_pos (by omega), rd_nat l j (by omega), spec_l00In_eq, Option.bind_some, drop_at l j (by omega), succ64 (by omega)]
    by_cases h : 1 ≤ l[j] ∧ l[j] ≤ 16
    · rw [if_pos (by simp [h]), w64 (n := s + l[j]) (by omega) (by omega), w64 (n := o + l[j]) (by omega) (by omega)]
      by_cases hj : j % 2 = 0
      · rw [if_pos ((tmod2 _).2 (by omega)), spec_l11Ok_l0 l hl d k (j + 1) _ _ (by omega) (by omega) (by omega) (by omega) (by omega) (by omega) (by omega) (by omega), if_neg (show ¬ (j + 1) % 2 = 0 by omega), if_pos hj]
        congr 1
        rw [decide_eq_decide]
        simp only [List.forall_mem_cons, List.sum_cons, h, and_self, true_and, alt]
        constructor <;> rintro ⟨a, b, c⟩ <;> exact ⟨a, by omega, by omega⟩
      · rw [if_neg (fun c => by have := (tmod2 _).1 c; omega), spec_l11Ok_l0 l hl d k (j + 1) _ _ (by omega) (by omega) (by omega) (by omega) (by omega) (by omega) (by omega) (by omega), if_pos (show (j + 1) % 2 = 0 by omega), if_neg hj]
        congr 1
        rw [decide_eq_decide]
        simp only [List.forall_mem_cons, List.sum_cons, h, and_self, true_and, alt]
        constructor <;> rintro ⟨a, b, c⟩ <;> exact ⟨a, by omega, by omega⟩
    · rw [if_neg (by simp [h])]
      rw [decide_eq_false (by simp only [List.forall_mem_cons]; exact fun c => h c.1.1)]
theorem spec_l11Ok_eq (l : List Int) (k : Nat) (hk : 18 < k) : spec_l11Ok.f k l = some (decide (ConeOk l)) := by
  unfold spec_l11Ok.f
  obtain ⟨k, rfl⟩ : ∃ m, k = m + 1 := ⟨k - 1, by omega⟩
  simp only [spec_l11Ok.j0]
  by_cases h1 : l.length < 2
  · rw [if_pos (by omega), if_pos trivial, decide_eq_false (fun c : ConeOk l => by have := c.1; have := c.2.1; omega)]
  · rw [if_neg (by omega)]
    by_cases h2 : l.length > 16
    · rw [if_pos (by omega), if_pos trivial, decide_eq_false (fun c : ConeOk l => by have := c.1; have := c.2.1; omega)]
    · rw [if_neg (by omega)]
      by_cases h3 : l.length % 2 = 0
      · rw [if_neg (by simp; omega)]
        have := spec_l11Ok_l0 l (by omega) l.length k 0 0 0 (by omega) (by omega) (by omega) (by omega) (by omega) (by omega) (by omega) (by omega)
        rw [show ((0 : Nat) : Int) = 0 from rfl] at this
        rw [this, List.drop_zero]
        congr 1
        rw [decide_eq_decide]
        constructor
        · rintro ⟨a, b, c⟩; exact ⟨by omega, by omega, h3, a, by omega, by simpa using c⟩
        · rintro ⟨_, _, _, a, b, c⟩; exact ⟨a, by omega, by simpa using c⟩
      · rw [if_pos (by simp; omega), decide_eq_false (fun c : ConeOk l => h3 c.2.2.1)]

-- spec_ValidCone
theorem spec_ValidCone_eq (l : List Int) (k : Nat) (hk : 18 < k) : spec_ValidCone.f k l = some (decide (ConeOk l)) := by
  unfold spec_ValidCone.f
  rw [spec_l11Ok_eq l k hk]; rfl

-- laws_toInt64S
theorem laws_toInt64S_l0 (l : List Int) (hl : l.length ≤ 1048576) : ∀ (d k j : Nat) (o : List Int), j + d = l.length → d < k → o.length = l.length → o.take j = l.take j →
    laws_toInt64S.l0 k l o (j : Int) = some l
  | 0, k, j, o, hd, hk, ho, ht => by
    obtain ⟨k, rfl⟩ : ∃ m, k = m + 1 := ⟨k - 1, by omega⟩
    simp only [laws_toInt64S.l0]
    rw [if_neg (by omega)]
    rw [List.take_of_length_le (by omega), List.take_of_length_le (by omega)] at ht
    rw [ht]
  | d + 1, k, j, o, hd, hk, ho, ht => by
    obtain ⟨k, rfl⟩ : ∃ m, k = m + 1 := ⟨k - 1, by omega⟩
    simp only [laws_toInt64S.l0]
    rw [if_pos (by omega), if_pos (by omega), if_pos (by omega), rd_nat l j (by omega), succ64 (by omega), Int.toNat_natCast]
    refine laws_toInt64S_l0 l hl d k (j + 1) _ (by omega) (by omega) (by simpa using ho) ?_
    rw [List.take_add_one, List.take_add_one, List.take_set_of_le (Nat.le_refl j), ht, List.getElem?_set_self (by omega), List.getElem?_eq_getElem (by omega)]
theorem laws_toInt64S_eq (l : List Int) (hl : l.length ≤ 1048576) (k : Nat) (hk : l.length < k) : laws_toInt64S.f k l = some l := by
  unfold laws_toInt64S.f
  rw [if_pos (by omega), if_pos (by omega), Int.toNat_natCast]
  exact laws_toInt64S_l0 l hl l.length k 0 _ (by omega) hk (by simp) (by simp)

-- impl_within
theorem impl_within_eq (a b c : Int) : impl_within.f a b c = some (decide (b ≤ a ∧ a ≤ c)) := by
  unfold impl_within.f
  by_cases h : b ≤ a <;> simp [h]

-- impl_sumOf
theorem impl_sumOf_l0 (l : List Int) (hl : l.length ≤ 1048576) (hb : ∀ x ∈ l, -1048576 ≤ x ∧ x ≤ 1048576) : ∀ (d k j : Nat) (s : Int), j + d = l.length → d < k → -(1048576 * (j : Int)) ≤ s → s ≤ 1048576 * j →
    impl_sumOf.l0 k s l (l.length : Int) (j : Int) = some (s + (l.drop j).sum)
  | 0, k, j, s, hd, hk, h0, h1 => by
    obtain ⟨k, rfl⟩ : ∃ m, k = m + 1 := ⟨k - 1, by omega⟩
    simp only [impl_sumOf.l0]
    rw [if_neg (by omega), List.drop_eq_nil_of_le (by omega)]
    simp
  | d + 1, k, j, s, hd, hk, h0, h1 => by
    obtain ⟨k, rfl⟩ : ∃ m, k = m + 1 := ⟨k - 1, by omega⟩
    have h := hb l[j] (List.getElem_mem (by omega))
    simp only [impl_sumOf.l0]
    rw [if_pos (by omega), if_pos (by omega), if_pos (by omega), rd_nat l j (by omega), drop_at l j (by omega), w64 (by omega) (by omega), succ64 (by omega),
      impl_sumOf_l0 l hl hb d k (j + 1) _ (by omega) (by omega) (by omega) (by omega), List.sum_cons, Int.add_assoc]
theorem impl_sumOf_eq (l : List Int) (hl : l.length ≤ 1048576) (hb : ∀ x ∈ l, -1048576 ≤ x ∧ x ≤ 1048576) (k : Nat) (hk : l.length < k) : impl_sumOf.f k l = some l.sum := by
  unfold impl_sumOf.f
  have := impl_sumOf_l0 l hl hb l.length k 0 0 (by omega) hk (by omega) (by omega)
  rw [show ((0 : Nat) : Int) = 0 from rfl] at this
  rw [this, List.drop_zero, Int.zero_add]

-- impl_alternating
-- MATH Secs
theorem impl_alternating_l0 (l : List Int) (hl : l.length ≤ 1048576) (hb : ∀ x ∈ l, -1048576 ≤ x ∧ x ≤ 1048576) : ∀ (d k j : Nat) (s : Int), j + d = l.length → d < k → -(1048576 * (j : Int)) ≤ s → s ≤ 1048576 * j →
    impl_alternating.l0 k s l (l.length : Int) (j : Int) = some (s + (if j % 2 = 0 then alt (l.drop j) else -alt (l.drop j)))
  | 0, k, j, s, hd, hk, h0, h1 => by
    obtain ⟨k, rfl⟩ : ∃ m, k = m + 1 := ⟨k - 1, by omega⟩
    simp only [impl_alternating.l0]
    rw [if_neg (by omega), List.drop_eq_nil_of_le (by omega)]
    simp [alt]
  | d + 1, k, j, s, hd, hk, h0, h1 => by
    obtain ⟨k, rfl⟩ : ∃ m, k = m + 1 := ⟨k - 1, by omega⟩
    have h := hb l[j] (List.getElem_mem (by omega))
    simp only [impl_alternating.l0]
    rw [if_pos (by omega), if_pos (by omega), if_pos (by omega), rd_nat l j (by omega), drop_at l j (by omega), succ64 (by omega)]
    by_cases hj : j % 2 = 0
    · rw [if_pos ((tmod2 _).2 (by omega)), w64 (by omega) (by omega), impl_alternating_l0 l hl hb d k (j + 1) _ (by omega) (by omega) (by omega) (by omega), if_neg (show ¬ (j + 1) % 2 = 0 by omega), if_pos hj]
      simp only [alt]; congr 1; omega
    · rw [if_neg (fun c => by have := (tmod2 _).1 c; omega), w64 (by omega) (by omega), impl_alternating_l0 l hl hb d k (j + 1) _ (by omega) (by omega) (by omega) (by omega), if_pos (show (j + 1) % 2 = 0 by omega), if_neg hj]
      simp only [alt]; congr 1; omega
theorem impl_alternating_eq (l : List Int) (hl : l.length ≤ 1048576) (hb : ∀ x ∈ l, -1048576 ≤ x ∧ x ≤ 1048576) (k : Nat) (hk : l.length < k) : impl_alternating.f k l = some (alt l) := by
  unfold impl_alternating.f
  have := impl_alternating_l0 l hl hb l.length k 0 0 (by omega) hk (by omega) (by omega)
  rw [show ((0 : Nat) : Int) = 0 from rfl] at this
  rw [this, List.drop_zero]
  simp

-- impl_ValidCone
-- MATH Secs
theorem impl_ValidCone_eq (l : List Int) (k : Nat) (hk : 18 < k) : impl_ValidCone.f k l = some (decide (ConeOk l)) := by
  unfold impl_ValidCone.f impl_length_int64.f
  obtain ⟨k, rfl⟩ : ∃ m, k = m + 1 := ⟨k - 1, by omega⟩
  simp only [impl_ValidCone.j0, Option.bind_some, impl_within_eq]
  by_cases h1 : 2 ≤ l.length ∧ l.length ≤ 16
  · rw [if_pos (by rw [decide_eq_true_eq]; omega)]
    by_cases h3 : l.length % 2 = 0
    · rw [if_neg (by simp; omega), slices_ContainsFunc_int64_int64_impl_ValidCone_1.eq_any (fun x => !decide (1 ≤ x ∧ x ≤ 16)) l (fun x _ => by unfold impl_ValidCone_1.f; rw [impl_within_eq, Option.bind_some]), any_not l (fun x => 1 ≤ x ∧ x ≤ 16), Option.bind_some]
      by_cases h2 : ∀ x ∈ l, 1 ≤ x ∧ x ≤ 16
      · rw [decide_eq_true h2, if_neg (by simp), impl_sumOf_eq l (by omega) (fun x hx => by have := h2 x hx; omega) k (by omega), Option.bind_some]
        by_cases h4 : l.sum ≤ 16
        · rw [if_pos h4, impl_alternating_eq l (by omega) (fun x hx => by have := h2 x hx; omega) k (by omega), Option.bind_some]
          congr 1
          by_cases h5 : alt l = 0
          · rw [decide_eq_true (show ConeOk l from ⟨h1.1, h1.2, h3, h2, h4, h5⟩)]; simpa using h5
          · rw [decide_eq_false (fun c : ConeOk l => h5 c.2.2.2.2.2)]; simpa using h5
        · rw [if_neg h4, decide_eq_false (fun c : ConeOk l => h4 c.2.2.2.2.1)]
      · rw [decide_eq_false h2, if_pos (by simp), decide_eq_false (fun c : ConeOk l => h2 c.2.2.2.1)]
    · rw [if_pos (by simp; omega), decide_eq_false (fun c : ConeOk l => h3 c.2.2.1)]
  · rw [if_neg (by rw [decide_eq_true_eq]; omega), if_pos trivial, decide_eq_false (fun c : ConeOk l => h1 ⟨c.1, c.2.1⟩)]

-- laws_eqInt64S
theorem laws_eqInt64S_l0 (a b : List Int) (hl : a.length ≤ 1048576) (hab : a.length = b.length) : ∀ (d k j : Nat), j + d = a.length → d < k →
    laws_eqInt64S.l0 k a b (j : Int) = some (decide (a.drop j = b.drop j))
  | 0, k, j, hd, hk => by
    obtain ⟨k, rfl⟩ : ∃ m, k = m + 1 := ⟨k - 1, by omega⟩
    simp only [laws_eqInt64S.l0]
    rw [if_neg (by omega), List.drop_eq_nil_of_le (by omega), List.drop_eq_nil_of_le (by omega)]
    simp
  | d + 1, k, j, hd, hk => by
    obtain ⟨k, rfl⟩ : ∃ m, k = m + 1 := ⟨k - 1, by omega⟩
    simp only [laws_eqInt64S.l0]
    rw [if_pos (by omega), if_pos (by omega), if_pos (by omega), rd_nat a j (by omega), rd_nat b j (by omega), succ64 (by omega), drop_at a j (by omega), drop_at b j (by omega)]
    by_cases h : a[j] = b[j]
    · rw [if_pos h, laws_eqInt64S_l0 a b hl hab d k (j + 1) (by omega) (by omega)]
      simp only [List.cons.injEq, h, true_and]
    · rw [if_neg h]
      simp only [List.cons.injEq, h, false_and, decide_false]
theorem laws_eqInt64S_eq (a b : List Int) (hl : a.length ≤ 1048576) (k : Nat) (hk : a.length < k) : laws_eqInt64S.f k a b = some (decide (a = b)) := by
  unfold laws_eqInt64S.f
  by_cases h : a.length = b.length
  · rw [if_pos (by omega)]
    have := laws_eqInt64S_l0 a b hl h a.length k 0 (by omega) hk
    rw [show ((0 : Nat) : Int) = 0 from rfl, List.drop_zero, List.drop_zero] at this
    exact this
  · rw [if_neg (by omega), decide_eq_false (fun c => h (by rw [c]))]

theorem FnExactValidCone : laws_FnExactValidCone.Pure := by
  intro l _ _ _
  refine ⟨l.length + 20, ?_⟩
  unfold laws_FnExactValidCone.f
  by_cases hl : (l.length : Int) > 1048576
  · rw [if_pos hl]
  · rw [if_neg hl]
    have hl' : l.length ≤ 1048576 := by omega
    simp only [laws_toInt64S_eq l hl' _ (show l.length < l.length + 20 by omega), spec_ValidCone_eq l _ (show 18 < l.length + 20 by omega), impl_ValidCone_eq l _ (show 18 < l.length + 20 by omega), laws_eqInt64S_eq l l hl' _ (show l.length < l.length + 20 by omega), Option.bind_some]
    simp

end Go.Proofs.Ytbkehpciffponaa.Pure
