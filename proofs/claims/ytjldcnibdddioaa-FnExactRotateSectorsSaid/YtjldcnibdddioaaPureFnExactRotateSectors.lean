/- What is proved: the program's RotateSectors answers what the reference's answers, at every list and place. Conditions: none. -/
import Derived.Test.YtjldcnibdddioaaPFnExactRotateSectorsx
import Derived.Test.YtjldcnibdddioaaMath
import Derived.Test.YtjldcnibdddioaaSecs
namespace Go.Proofs.Ytjldcnibdddioaa.Pure
open Go.RowKit Go.Proofs.Ytjldcnibdddioaa.PFnExactRotateSectors Go.Proofs.YtjldcnibdddioaaW.PrintWords Go.Proofs.YtjldcnibdddioaaW.PrintLast Go.Proofs.YtjldcnibdddioaaW.PrintMore Go.Proofs.Ytjldcnibdddioaa.Math

-- spec_l00In
theorem spec_l00In_eq (a b c : Int) : spec_l00In.f a b c = some (decide (b ≤ a ∧ a ≤ c)) := by
  unfold spec_l00In.f
  by_cases h : b ≤ a <;> simp [h]

-- spec_l05Ok
-- MATH Secs
theorem spec_l05Ok_l0 (l : List Int) (hl : l.length ≤ 1048576) : ∀ (d k j : Nat) (s : Int), j + d = l.length → d < k → 0 ≤ s → s ≤ 16 * j →
    spec_l05Ok.l0 k l s (j : Int) = some (decide ((∀ x ∈ l.drop j, 1 ≤ x ∧ x ≤ 16) ∧ l.length ≤ 16 ∧ s + (l.drop j).sum = 16))
  | 0, k, j, s, hd, hk, h0, h1 => by
    obtain ⟨k, rfl⟩ : ∃ m, k = m + 1 := ⟨k - 1, by omega⟩
    simp only [spec_l05Ok.l0]
    rw [if_neg (by omega), List.drop_eq_nil_of_le (by omega)]
    by_cases h : l.length ≤ 16
    · rw [if_pos (by omega)]
      by_cases h2 : s = 16 <;> simp [h, h2]
    · rw [if_neg (by omega)]
      simp [h]
  | d + 1, k, j, s, hd, hk, h0, h1 => by
    obtain ⟨k, rfl⟩ : ∃ m, k = m + 1 := ⟨k - 1, by omega⟩
    simp only [spec_l05Ok.l0]
    rw [if_pos (by omega), if_pos (by omega), rd_nat l j (by omega), spec_l00In_eq, Option.bind_some, drop_at l j (by omega)]
    by_cases h : 1 ≤ l[j] ∧ l[j] ≤ 16
    · rw [if_pos (by simp [h]), w64 (by omega) (by omega), succ64 (by omega), spec_l05Ok_l0 l hl d k (j + 1) _ (by omega) (by omega) (by omega) (by omega)]
      congr 1
      rw [decide_eq_decide]
      simp only [List.forall_mem_cons, List.sum_cons, h, and_self, true_and, Int.add_assoc]
    · rw [if_neg (by simp [h])]
      rw [decide_eq_false (by simp only [List.forall_mem_cons]; exact fun c => h c.1.1)]
theorem spec_l05Ok_eq (l : List Int) (hl : l.length ≤ 1048576) (k : Nat) (hk : l.length < k) : spec_l05Ok.f k l = some (decide (SecOk l)) := by
  unfold spec_l05Ok.f
  have := spec_l05Ok_l0 l hl l.length k 0 0 (by omega) hk (by omega) (by omega)
  rw [show ((0 : Nat) : Int) = 0 from rfl] at this
  rw [this, List.drop_zero]
  congr 1
  rw [decide_eq_decide]
  unfold SecOk
  constructor
  · rintro ⟨a, b, c⟩; exact ⟨b, a, by omega⟩
  · rintro ⟨b, a, c⟩; exact ⟨a, b, by omega⟩

-- spec_l00Own
theorem spec_l00Own_eq (l : List Int) (hl : l.length ≤ 1048576) : spec_l00Own.f l = some l := by
  unfold spec_l00Own.f
  rw [Option.bind_some, if_pos (by simp; omega)]
  rfl

-- spec_l05Rotated
theorem spec_l05Rotated_eq (l : List Int) (i : Nat) (hl : l.length ≤ 1048576) (hi : i ≤ l.length) : spec_l05Rotated.f l (i : Int) = some (l.drop i ++ l.take i) := by
  unfold spec_l05Rotated.f
  rw [if_pos (by omega), if_pos (by omega), Int.toNat_natCast, spec_l00Own_eq _ (by rw [List.length_drop]; omega), Option.bind_some, if_pos (by rw [List.length_drop, List.length_take]; omega)]

-- spec_RotateSectors
-- MATH Secs
theorem spec_RotateSectors_eq (l : List Int) (i : Int) (hl : l.length ≤ 1048576) (k : Nat) (hk : l.length + 10 < k) : spec_RotateSectors.f k l i = some (if SecOk l ∧ 0 ≤ i ∧ i ≤ (l.length : Int) - 1 then l.drop i.toNat ++ l.take i.toNat else []) := by
  unfold spec_RotateSectors.f
  rw [spec_l05Ok_eq l hl k (by omega), Option.bind_some, spec_l00In_eq, w64 (by omega) (by omega)]
  by_cases h : SecOk l
  · rw [if_pos (by simp [h]), Option.bind_some]
    by_cases h2 : 0 ≤ i ∧ i ≤ (l.length : Int) - 1
    · obtain ⟨j, rfl⟩ : ∃ j : Nat, i = j := ⟨i.toNat, by omega⟩
      rw [if_pos (by simpa using h2.2), spec_l05Rotated_eq l j hl (by omega), if_pos ⟨h, h2⟩, Int.toNat_natCast]; rfl
    · rw [if_neg (by simpa using h2), if_neg (fun c => h2 c.2)]
  · rw [if_neg (by simp [h]), if_neg (fun c => h c.1)]

-- laws_toInt64S
theorem laws_toInt64S_l0 (l : List Int) (hl : l.length ≤ 1048576) : ∀ (d k j : Nat) (o : List Int), j + d = l.length → d < k → o.length = l.length → o.take j = l.take j →
    laws_toInt64S.l0 k l o (j : Int) = some l
  | 0, k, j, o, hd, hk, ho, ht => by
    obtain ⟨k, rfl⟩ : ∃ m, k = m + 1 := ⟨k - 1, by omega⟩
    simp only [laws_toInt64S.l0]
    rw [if_neg (by omega)]
    rw [List.take_of_length_le (by omega), List.take_of_length_le (by omega)] at ht
    rw [ht]
  | d + 1, k, j, o, hd, hk, ho, ht => by
    obtain ⟨k, rfl⟩ : ∃ m, k = m + 1 := ⟨k - 1, by omega⟩
    simp only [laws_toInt64S.l0]
    rw [if_pos (by omega), if_pos (by omega), if_pos (by omega), rd_nat l j (by omega), succ64 (by omega), Int.toNat_natCast]
    refine laws_toInt64S_l0 l hl d k (j + 1) _ (by omega) (by omega) (by simpa using ho) ?_
    rw [List.take_add_one, List.take_add_one, List.take_set_of_le (Nat.le_refl j), ht, List.getElem?_set_self (by omega), List.getElem?_eq_getElem (by omega)]
theorem laws_toInt64S_eq (l : List Int) (hl : l.length ≤ 1048576) (k : Nat) (hk : l.length < k) : laws_toInt64S.f k l = some l := by
  unfold laws_toInt64S.f
  rw [if_pos (by omega), if_pos (by omega), Int.toNat_natCast]
  exact laws_toInt64S_l0 l hl l.length k 0 _ (by omega) hk (by simp) (by simp)

-- impl_within
theorem impl_within_eq (a b c : Int) : impl_within.f a b c = some (decide (b ≤ a ∧ a ≤ c)) := by
  unfold impl_within.f
  by_cases h : b ≤ a <;> simp [h]

-- impl_sumOf
theorem impl_sumOf_l0 (l : List Int) (hl : l.length ≤ 1048576) (hb : ∀ x ∈ l, -1048576 ≤ x ∧ x ≤ 1048576) : ∀ (d k j : Nat) (s : Int), j + d = l.length → d < k → -(1048576 * (j : Int)) ≤ s → s ≤ 1048576 * j →
    impl_sumOf.l0 k s l (l.length : Int) (j : Int) = some (s + (l.drop j).sum)
  | 0, k, j, s, hd, hk, h0, h1 => by
    obtain ⟨k, rfl⟩ : ∃ m, k = m + 1 := ⟨k - 1, by omega⟩
    simp only [impl_sumOf.l0]
    rw [if_neg (by omega), List.drop_eq_nil_of_le (by omega)]
    simp
  | d + 1, k, j, s, hd, hk, h0, h1 => by
    obtain ⟨k, rfl⟩ : ∃ m, k = m + 1 := ⟨k - 1, by omega⟩
    have h := hb l[j] (List.getElem_mem (by omega))
    simp only [impl_sumOf.l0]
    rw [if_pos (by omega), if_pos (by omega), if_pos (by omega), rd_nat l j (by omega), drop_at l j (by omega), w64 (by omega) (by omega), succ64 (by omega),
      impl_sumOf_l0 l hl hb d k (j + 1) _ (by omega) (by omega) (by omega) (by omega), List.sum_cons, Int.add_assoc]
theorem impl_sumOf_eq (l : List Int) (hl : l.length ≤ 1048576) (hb : ∀ x ∈ l, -1048576 ≤ x ∧ x ≤ 1048576) (k : Nat) (hk : l.length < k) : impl_sumOf.f k l = some l.sum := by
  unfold impl_sumOf.f
  have := impl_sumOf_l0 l hl hb l.length k 0 0 (by omega) hk (by omega) (by omega)
  rw [show ((0 : Nat) : Int) = 0 from rfl] at this
  rw [this, List.drop_zero, Int.zero_add]

-- impl_ValidSectors
-- MATH Secs
theorem impl_ValidSectors_eq (l : List Int) (hl : l.length ≤ 1048576) (k : Nat) (hk : l.length < k) : impl_ValidSectors.f k l = some (decide (SecOk l)) := by
  unfold impl_ValidSectors.f
  rw [slices_ContainsFunc_int64_int64_impl_ValidSectors_1.eq_any (fun x => !decide (1 ≤ x ∧ x ≤ 16)) l (fun x _ => by unfold impl_ValidSectors_1.f; rw [impl_within_eq, Option.bind_some]), any_not l (fun x => 1 ≤ x ∧ x ≤ 16)]
  by_cases h : l.length ≤ 16
  · rw [if_pos (by omega), Option.bind_some]
    by_cases h2 : ∀ x ∈ l, 1 ≤ x ∧ x ≤ 16
    · rw [decide_eq_true h2, if_neg (by simp), impl_sumOf_eq l hl (fun x hx => by have := h2 x hx; omega) k hk, Option.bind_some]
      congr 1
      by_cases h3 : l.sum = 16
      · rw [decide_eq_true (show SecOk l from ⟨h, h2, h3⟩)]; simpa using h3
      · rw [decide_eq_false (fun c : SecOk l => h3 c.2.2)]; simpa using h3
    · rw [decide_eq_false h2, if_pos (by simp), decide_eq_false (fun c : SecOk l => h2 c.2.1)]
  · rw [if_neg (by omega), decide_eq_false (fun c : SecOk l => h c.1)]

-- slices_Concat_int64_int64
theorem slices_Concat_int64_int64_two (a b : List Int) (hl : a.length + b.length ≤ 1048576) (k : Nat) (hk : 6 ≤ k) : slices_Concat_int64_int64.f k [a, b] = some (a ++ b) := by
  obtain ⟨k, rfl⟩ : ∃ m, k = m + 6 := ⟨k - 6, by omega⟩
  have r0 : rd_L1 [a, b] 0 = a := rfl
  have r1 : rd_L1 [a, b] 1 = b := rfl
  have e0 : wrap64 (a.length : Int) = a.length := by rw [w64 (by omega) (by omega)]
  have e1 : wrap64 ((a.length : Int) + (b.length : Int)) = (a.length : Int) + b.length := w64 (by omega) (by omega)
  have e2 : wrap64 1 = 1 := w64 (n := 1) (by omega) (by omega)
  have e3 : wrap64 2 = 2 := w64 (n := 2) (by omega) (by omega)
  have n0 : ¬ ((a.length : Int) < 0) := by omega
  have n1 : ¬ ((a.length : Int) + (b.length : Int) < 0) := by omega
  have g : slices_Grow_int64_int64_nil.f ((a.length : Int) + b.length) = some [] := by unfold slices_Grow_int64_int64_nil.f; rw [if_pos (by omega)]
  have c1 : a.length < 17592186044416 := by omega
  have c2 : a.length + b.length < 17592186044416 := by omega
  unfold slices_Concat_int64_int64.f
  simp [slices_Concat_int64_int64.l0, slices_Concat_int64_int64.l1, r0, r1, e0, e1, e2, e3, n0, n1, g, c1, c2]

-- impl_turnedList
theorem impl_turnedList_eq (l : List Int) (i : Nat) (hl : l.length ≤ 1048576) (hi : i ≤ l.length) (k : Nat) (hk : 6 ≤ k) : impl_turnedList.f k l (i : Int) = some (l.drop i ++ l.take i) := by
  unfold impl_turnedList.f
  rw [if_pos (by omega), if_pos (by omega), Int.toNat_natCast, slices_Concat_int64_int64_two _ _ (by rw [List.length_drop, List.length_take]; omega) k hk]
  rfl

-- impl_RotateSectors
-- MATH Secs
theorem impl_RotateSectors_eq (l : List Int) (i : Int) (hl : l.length ≤ 1048576) (k : Nat) (hk : l.length + 10 < k) : impl_RotateSectors.f k l i = some (if SecOk l ∧ 0 ≤ i ∧ i ≤ (l.length : Int) - 1 then l.drop i.toNat ++ l.take i.toNat else []) := by
  unfold impl_RotateSectors.f impl_length_int64.f
  rw [impl_ValidSectors_eq l hl k (by omega), Option.bind_some, Option.bind_some, impl_within_eq, w64 (by omega) (by omega)]
  by_cases h : SecOk l
  · rw [if_pos (by simp [h]), Option.bind_some]
    by_cases h2 : 0 ≤ i ∧ i ≤ (l.length : Int) - 1
    · obtain ⟨j, rfl⟩ : ∃ j : Nat, i = j := ⟨i.toNat, by omega⟩
      rw [if_pos (by simpa using h2.2), impl_turnedList_eq l j hl (by omega) k (by omega), if_pos ⟨h, h2⟩, Int.toNat_natCast]; rfl
    · rw [if_neg (by simpa using h2), if_neg (fun c => h2 c.2)]
  · rw [if_neg (by simp [h]), if_neg (fun c => h c.1)]

-- laws_eqInt64S
theorem laws_eqInt64S_l0 (a b : List Int) (hl : a.length ≤ 1048576) (hab : a.length = b.length) : ∀ (d k j : Nat), j + d = a.length → d < k →
    laws_eqInt64S.l0 k a b (j : Int) = some (decide (a.drop j = b.drop j))
  | 0, k, j, hd, hk => by
    obtain ⟨k, rfl⟩ : ∃ m, k = m + 1 := ⟨k - 1, by omega⟩
    simp only [laws_eqInt64S.l0]
    rw [if_neg (by omega), List.drop_eq_nil_of_le (by omega), List.drop_eq_nil_of_le (by omega)]
    simp
  | d + 1, k, j, hd, hk => by
    obtain ⟨k, rfl⟩ : ∃ m, k = m + 1 := ⟨k - 1, by omega⟩
    simp only [laws_eqInt64S.l0]
    rw [if_pos (by omega), if_pos (by omega), if_pos (by omega), rd_nat a j (by omega), rd_nat b j (by omega), succ64 (by omega), drop_at a j (by omega), drop_at b j (by omega)]
    by_cases h : a[j] = b[j]
    · rw [if_pos h, laws_eqInt64S_l0 a b hl hab d k (j + 1) (by omega) (by omega)]
      simp only [List.cons.injEq, h, true_and]
    · rw [if_neg h]
      simp only [List.cons.injEq, h, false_and, decide_false]
theorem laws_eqInt64S_eq (a b : List Int) (hl : a.length ≤ 1048576) (k : Nat) (hk : a.length < k) : laws_eqInt64S.f k a b = some (decide (a = b)) := by
  unfold laws_eqInt64S.f
  by_cases h : a.length = b.length
  · rw [if_pos (by omega)]
    have := laws_eqInt64S_l0 a b hl h a.length k 0 (by omega) hk
    rw [show ((0 : Nat) : Int) = 0 from rfl, List.drop_zero, List.drop_zero] at this
    exact this
  · rw [if_neg (by omega), decide_eq_false (fun c => h (by rw [c]))]

-- laws_markInt64S
/-- The marks: a, a + 1, .. -/
def marks (a : Int) : Nat → List Int
  | 0 => []
  | n + 1 => a :: marks (a + 1) n
theorem marks_length : ∀ (n : Nat) (a : Int), (marks a n).length = n
  | 0, _ => rfl
  | n + 1, a => by simp [marks, marks_length n]
theorem marks_snoc : ∀ (n : Nat) (a : Int), marks a (n + 1) = marks a n ++ [a + n]
  | 0, a => by simp [marks]
  | n + 1, a => by
    rw [marks, marks_snoc n (a + 1)]
    simp only [marks, List.cons_append, List.cons.injEq, List.append_cancel_left_eq, and_true, true_and]
    omega
theorem laws_markInt64S_l0 (l : List Int) (hl : l.length ≤ 1048576) : ∀ (d k j : Nat) (o : List Int), j + d = l.length → d < k → o.length = l.length → o.take j = marks 1 j →
    laws_markInt64S.l0 k o (1 + j : Int) (j : Int) = some ((1 + l.length : Int), marks 1 l.length)
  | 0, k, j, o, hd, hk, ho, ht => by
    obtain ⟨k, rfl⟩ : ∃ m, k = m + 1 := ⟨k - 1, by omega⟩
    simp only [laws_markInt64S.l0]
    rw [if_neg (by omega)]
    obtain rfl : j = l.length := by omega
    rw [List.take_of_length_le (by omega)] at ht
    rw [ht]
  | d + 1, k, j, o, hd, hk, ho, ht => by
    obtain ⟨k, rfl⟩ : ∃ m, k = m + 1 := ⟨k - 1, by omega⟩
    simp only [laws_markInt64S.l0]
    rw [if_pos (by omega), if_pos (by omega), succ64 (by omega), Int.toNat_natCast, w64 (n := 1 + (j : Int) + 1) (by omega) (by omega)]
    have := laws_markInt64S_l0 l hl d k (j + 1) (o.set j (1 + j)) (by omega) (by omega) (by simpa using ho) (by
      rw [List.take_add_one, List.take_set_of_le (Nat.le_refl j), ht, List.getElem?_set_self (by omega), marks_snoc]
      simp)
    rw [← this]
    congr 1
theorem laws_markInt64S_eq (l : List Int) (hl : l.length ≤ 1048576) (k : Nat) (hk : l.length < k) : laws_markInt64S.f k l 1 = some ((1 + l.length : Int), marks 1 l.length) := by
  unfold laws_markInt64S.f
  have := laws_markInt64S_l0 l hl l.length k 0 l (by omega) hk rfl (by simp [marks])
  simpa using this

-- laws_heldInt64S
theorem laws_heldInt64S_l0 (n : Nat) (hn : n ≤ 1048576) : ∀ (d k j : Nat), j + d = n → d < k →
    laws_heldInt64S.l0 k (marks 1 n) (1 + j : Int) (j : Int) = some (1 + n : Int)
  | 0, k, j, hd, hk => by
    obtain ⟨k, rfl⟩ : ∃ m, k = m + 1 := ⟨k - 1, by omega⟩
    simp only [laws_heldInt64S.l0]
    rw [if_neg (by rw [marks_length]; omega)]
    obtain rfl : j = n := by omega
    rfl
  | d + 1, k, j, hd, hk => by
    obtain ⟨k, rfl⟩ : ∃ m, k = m + 1 := ⟨k - 1, by omega⟩
    have hm : ∀ (n j : Nat) (a : Int) (h : j < (marks a n).length), (marks a n)[j] = a + j := by
      intro n
      induction n with
      | zero => intro j a h; simp [marks] at h
      | succ n ih =>
        intro j a h
        cases j with
        | zero => simp [marks]
        | succ j =>
          have := ih j (a + 1) (by simpa [marks] using h)
          simp only [marks, List.getElem_cons_succ]
          rw [this]; omega
    simp only [laws_heldInt64S.l0]
    rw [if_pos (by rw [marks_length]; omega), if_pos (by omega), rd_nat _ j (by rw [marks_length]; omega), hm, if_pos rfl, succ64 (by omega), w64 (n := 1 + (j : Int) + 1) (by omega) (by omega)]
    rw [← laws_heldInt64S_l0 n hn d k (j + 1) (by omega) (by omega)]
    congr 1
theorem laws_heldInt64S_eq (n : Nat) (hn : n ≤ 1048576) (k : Nat) (hk : n < k) : laws_heldInt64S.f k (marks 1 n) 1 = some (1 + n : Int) := by
  unfold laws_heldInt64S.f
  have := laws_heldInt64S_l0 n hn n k 0 (by omega) hk
  simpa using this

theorem FnExactRotateSectors : laws_FnExactRotateSectors.Pure := by
  intro l i _ _ _ _
  refine ⟨l.length + 20, ?_⟩
  unfold laws_FnExactRotateSectors.f
  by_cases hl : (l.length : Int) > 1048576
  · rw [if_pos hl]
  · rw [if_neg hl]
    have hl' : l.length ≤ 1048576 := by omega
    obtain ⟨a, hr⟩ : ∃ r : List Int, r = (if SecOk l ∧ 0 ≤ i ∧ i ≤ (l.length : Int) - 1 then l.drop i.toNat ++ l.take i.toNat else []) := ⟨_, rfl⟩
    have hs : ∀ k, l.length + 10 < k → spec_RotateSectors.f k l i = some a := fun k hk => by rw [hr]; exact spec_RotateSectors_eq l i hl' k hk
    have hi : ∀ k, l.length + 10 < k → impl_RotateSectors.f k l i = some a := fun k hk => by rw [hr]; exact impl_RotateSectors_eq l i hl' k hk
    have hra : a.length ≤ l.length := by
      rw [hr]; split
      · rw [List.length_append, List.length_drop, List.length_take]; omega
      · simp
    clear hr
    simp (disch := omega) only [laws_toInt64S_eq, hs, hi, Option.bind_some, laws_eqInt64S_eq, laws_markInt64S_eq, decide_true, if_true, if_false, one_add_neg, Bool.not_true]
    simp (disch := omega) only [laws_FnExactRotateSectors.j0, laws_toInt64S_eq, hi, laws_eqInt64S_eq, laws_markInt64S_eq, laws_heldInt64S_eq, Option.bind_some, decide_true, if_true, if_false, Bool.false_eq_true, one_add_neg]

end Go.Proofs.Ytjldcnibdddioaa.Pure
