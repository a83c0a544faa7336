/- What is proved: the program's ReverseOrder answers what the reference's answers, at every list. Conditions: none. -/
import Derived.Test.YtbkehpciffponaaPFnExactReverseOrderx2
import Derived.Test.YtbkehpciffponaaMath
import Derived.Test.YtbkehpciffponaaSecs
namespace Go.Proofs.Ytbkehpciffponaa.Pure
open Go.RowKit Go.Proofs.Ytbkehpciffponaa.PFnExactReverseOrder Go.Proofs.YtbkehpciffponaaW.PrintWords Go.Proofs.YtbkehpciffponaaW.PrintLast Go.Proofs.YtbkehpciffponaaW.PrintMore Go.Proofs.Ytbkehpciffponaa.Math

-- laws_toInt64S
theorem laws_toInt64S_l0 (l : List Int) (hl : l.length ≤ 1048576) : ∀ (d k j : Nat) (o : List Int), j + d = l.length → d < k → o.length = l.length → o.take j = l.take j →
    laws_toInt64S.l0 k l o (j : Int) = some l
  | 0, k, j, o, hd, hk, ho, ht => by
    obtain ⟨k, rfl⟩ : ∃ m, k = m + 1 := ⟨k - 1, by omega⟩
    simp only [laws_toInt64S.l0]
    rw [if_neg (by omega)]
    rw [List.take_of_length_le (by omega), List.take_of_length_le (by omega)] at ht
    rw [ht]
  | d + 1, k, j, o, hd, hk, ho, ht => by
    obtain ⟨k, rfl⟩ : ∃ m, k = m + 1 := ⟨k - 1, by omega⟩
    simp only [laws_toInt64S.l0]
    rw [if_pos (by omega), if_pos (by omega), if_pos (by omega), rd_nat l j (by omega), succ64 (by omega), Int.toNat_natCast]
    refine laws_toInt64S_l0 l hl d k (j + 1) _ (by omega) (by omega) (by simpa using ho) ?_
    rw [List.take_add_one, List.take_add_one, List.take_set_of_le (Nat.le_refl j), ht, List.getElem?_set_self (by omega), List.getElem?_eq_getElem (by omega)]
theorem laws_toInt64S_eq (l : List Int) (hl : l.length ≤ 1048576) (k : Nat) (hk : l.length < k) : laws_toInt64S.f k l = some l := by
  unfold laws_toInt64S.f
  rw [if_pos (by omega), if_pos (by omega), Int.toNat_natCast]
  exact laws_toInt64S_l0 l hl l.length k 0 _ (by omega) hk (by simp) (by simp)

-- laws_eqInt64S
theorem laws_eqInt64S_l0 (a b : List Int) (hl : a.length ≤ 1048576) (hab : a.length = b.length) : ∀ (d k j : Nat), j + d = a.length → d < k →
    laws_eqInt64S.l0 k a b (j : Int) = some (decide (a.drop j = b.drop j))
  | 0, k, j, hd, hk => by
    obtain ⟨k, rfl⟩ : ∃ m, k = m + 1 := ⟨k - 1, by omega⟩
    simp only [laws_eqInt64S.l0]
    rw [if_neg (by omega), List.drop_eq_nil_of_le (by omega), List.drop_eq_nil_of_le (by omega)]
    simp
  | d + 1, k, j, hd, hk => by
    obtain ⟨k, rfl⟩ : ∃ m, k = m + 1 := ⟨k - 1, by omega⟩
    simp only [laws_eqInt64S.l0]
    rw [if_pos (by omega), if_pos (by omega), if_pos (by omega), rd_nat a j (by omega), rd_nat b j (by omega), succ64 (by omega), drop_at a j (by omega), drop_at b j (by omega)]
    by_cases h : a[j] = b[j]
    · rw [if_pos h, laws_eqInt64S_l0 a b hl hab d k (j + 1) (by omega) (by omega)]
      simp only [List.cons.injEq, h, true_and]
    · rw [if_neg h]
      simp only [List.cons.injEq, h, false_and, decide_false]
theorem laws_eqInt64S_eq (a b : List Int) (hl : a.length ≤ 1048576) (k : Nat) (hk : a.length < k) : laws_eqInt64S.f k a b = some (decide (a = b)) := by
  unfold laws_eqInt64S.f
  by_cases h : a.length = b.length
  · rw [if_pos (by omega)]
    have := laws_eqInt64S_l0 a b hl h a.length k 0 (by omega) hk
    rw [show ((0 : Nat) : Int) = 0 from rfl, List.drop_zero, List.drop_zero] at this
    exact this
  · rw [if_neg (by omega), decide_eq_false (fun c => h (by rw [c]))]

-- laws_markInt64S
/-- The marks: a, a + 1, .. -/
def marks (a : Int) : Nat → List Int
  | 0 => []
  | n + 1 => a :: marks (a + 1) n
theorem marks_length : ∀ (n : Nat) (a : Int), (marks a n).length = n
  | 0, _ => rfl
  | n + 1, a => by simp [marks, marks_length n]
theorem marks_snoc : ∀ (n : Nat) (a : Int), marks a (n + 1) = marks a n ++ [a + n]
  | 0, a => by simp [marks]
  | n + 1, a => by
    rw [marks, marks_snoc n (a + 1)]
    simp only [marks, List.cons_append, List.cons.injEq, List.append_cancel_left_eq, and_true, true_and]
    omega
theorem laws_markInt64S_l0 (l : List Int) (hl : l.length ≤ 1048576) : ∀ (d k j : Nat) (o : List Int), j + d = l.length → d < k → o.length = l.length → o.take j = marks 1 j →
    laws_markInt64S.l0 k o (1 + j : Int) (j : Int) = some ((1 + l.length : Int), marks 1 l.length)
  | 0, k, j, o, hd, hk, ho, ht => by
    obtain ⟨k, rfl⟩ : ∃ m, k = m + 1 := ⟨k - 1, by omega⟩
    simp only [laws_markInt64S.l0]
    rw [if_neg (by omega)]
    obtain rfl : j = l.length := by omega
    rw [List.take_of_length_le (by omega)] at ht
    rw [ht]
  | d + 1, k, j, o, hd, hk, ho, ht => by
    obtain ⟨k, rfl⟩ : ∃ m, k = m + 1 := ⟨k - 1, by omega⟩
    simp only [laws_markInt64S.l0]
    rw [if_pos (by omega), if_pos (by omega), succ64 (by omega), Int.toNat_natCast, w64 (n := 1 + (j : Int) + 1) (by omega) (by omega)]
    have := laws_markInt64S_l0 l hl d k (j + 1) (o.set j (1 + j)) (by omega) (by omega) (by simpa using ho) (by
      rw [List.take_add_one, List.take_set_of_le (Nat.le_refl j), ht, List.getElem?_set_self (by omega), marks_snoc]
      simp)
    rw [← this]
    congr 1
theorem laws_markInt64S_eq (l : List Int) (hl : l.length ≤ 1048576) (k : Nat) (hk : l.length < k) : laws_markInt64S.f k l 1 = some ((1 + l.length : Int), marks 1 l.length) := by
  unfold laws_markInt64S.f
  have := laws_markInt64S_l0 l hl l.length k 0 l (by omega) hk rfl (by simp [marks])
  simpa using this

-- laws_heldInt64S
theorem laws_heldInt64S_l0 (n : Nat) (hn : n ≤ 1048576) : ∀ (d k j : Nat), j + d = n → d < k →
    laws_heldInt64S.l0 k (marks 1 n) (1 + j : Int) (j : Int) = some (1 + n : Int)
  | 0, k, j, hd, hk => by
    obtain ⟨k, rfl⟩ : ∃ m, k = m + 1 := ⟨k - 1, by omega⟩
    simp only [laws_heldInt64S.l0]
    rw [if_neg (by rw [marks_length]; omega)]
    obtain rfl : j = n := by omega
    rfl
  | d + 1, k, j, hd, hk => by
    obtain ⟨k, rfl⟩ : ∃ m, k = m + 1 := ⟨k - 1, by omega⟩
    have hm : ∀ (n j : Nat) (a : Int) (h : j < (marks a n).length), (marks a n)[j] = a + j := by
      intro n
      induction n with
      | zero => intro j a h; simp [marks] at h
      | succ n ih =>
        intro j a h
        cases j with
        | zero => simp [marks]
        | succ j =>
          have := ih j (a + 1) (by simpa [marks] using h)
          simp only [marks, List.getElem_cons_succ]
          rw [this]; omega
    simp only [laws_heldInt64S.l0]
    rw [if_pos (by rw [marks_length]; omega), if_pos (by omega), rd_nat _ j (by rw [marks_length]; omega), hm, if_pos rfl, succ64 (by omega), w64 (n := 1 + (j : Int) + 1) (by omega) (by omega)]
    rw [← laws_heldInt64S_l0 n hn d k (j + 1) (by omega) (by omega)]
    congr 1
theorem laws_heldInt64S_eq (n : Nat) (hn : n ≤ 1048576) (k : Nat) (hk : n < k) : laws_heldInt64S.f k (marks 1 n) 1 = some (1 + n : Int) := by
  unfold laws_heldInt64S.f
  have := laws_heldInt64S_l0 n hn n k 0 (by omega) hk
  simpa using this

-- spec_l00In
theorem spec_l00In_eq (a b c : Int) : spec_l00In.f a b c = some (decide (b ≤ a ∧ a ≤ c)) := by
  unfold spec_l00In.f
  by_cases h : b ≤ a <;> simp [h]

-- spec_ReverseOrder
theorem spec_ReverseOrder_l0 (l : List Int) (hl : l.length ≤ 1048576) : ∀ (d k j : Nat) (o : List Int), j + d = l.length → d < k → o.length ≤ j →
    spec_ReverseOrder.l0 k l o (j : Int) = some (if (∀ x ∈ l.drop j, -1 ≤ x ∧ x ≤ 1) ∧ (j = l.length ∨ l.length ≤ 576) then o ++ (l.drop j).map (fun x => -x) else [])
  | 0, k, j, o, hd, hk, ho => by
    obtain ⟨k, rfl⟩ : ∃ m, k = m + 1 := ⟨k - 1, by omega⟩
    simp only [spec_ReverseOrder.l0]
    rw [if_neg (by omega), List.drop_eq_nil_of_le (by omega), if_pos ⟨by simp, by omega⟩]
    simp
  | d + 1, k, j, o, hd, hk, ho => by
    obtain ⟨k, rfl⟩ : ∃ m, k = m + 1 := ⟨k - 1, by omega⟩
    simp only [spec_ReverseOrder.l0]
    rw [if_pos (by omega), if_pos (by omega), rd_nat l j (by omega), spec_l00In_eq, Option.bind_some, drop_at l j (by omega), succ64 (by omega)]
    by_cases h : -1 ≤ l[j] ∧ l[j] ≤ 1
    · rw [if_pos (by simp [h])]
      by_cases h2 : l.length ≤ 576
      · rw [if_neg (by omega), if_pos (by omega), w64 (by omega) (by omega), spec_ReverseOrder_l0 l hl d k (j + 1) _ (by omega) (by omega) (by simp; omega)]
        by_cases h3 : ∀ x ∈ l.drop (j + 1), -1 ≤ x ∧ x ≤ 1
        · rw [if_pos ⟨h3, by omega⟩, if_pos ⟨by simp only [List.forall_mem_cons]; exact ⟨h, h3⟩, by omega⟩, List.map_cons, List.append_assoc]
          rfl
        · rw [if_neg (fun c => h3 c.1), if_neg (fun c => h3 (by have := c.1; simp only [List.forall_mem_cons] at this; exact this.2))]
      · rw [if_pos (by omega), if_neg (fun c => by have := c.2; omega)]
    · rw [if_neg (by simp [h]), if_neg (fun c => h (by have := c.1; simp only [List.forall_mem_cons] at this; exact this.1))]
theorem spec_ReverseOrder_eq (l : List Int) (hl : l.length ≤ 1048576) (k : Nat) (hk : l.length < k) : spec_ReverseOrder.f k l = some (if (∀ x ∈ l, -1 ≤ x ∧ x ≤ 1) ∧ l.length ≤ 576 then l.map (fun x => -x) else []) := by
  unfold spec_ReverseOrder.f
  have := spec_ReverseOrder_l0 l hl l.length k 0 [] (by omega) hk (by simp)
  rw [List.drop_zero] at this
  rw [show (0 : Int) = ((0 : Nat) : Int) from rfl, this]
  by_cases h : ∀ x ∈ l, -1 ≤ x ∧ x ≤ 1
  · by_cases h2 : l.length ≤ 576
    · rw [if_pos ⟨h, Or.inr h2⟩, if_pos ⟨h, h2⟩]; rfl
    · rw [if_neg (fun c => by rcases c.2 with c | c <;> omega), if_neg (fun c => h2 c.2)]
  · rw [if_neg (fun c => h c.1), if_neg (fun c => h c.1)]

-- impl_within
theorem impl_within_eq (a b c : Int) : impl_within.f a b c = some (decide (b ≤ a ∧ a ≤ c)) := by
  unfold impl_within.f
  by_cases h : b ≤ a <;> simp [h]

-- impl_reversed
theorem impl_reversed_l0 (l : List Int) (hl : l.length ≤ 1048576) (hb : ∀ x ∈ l, -1 ≤ x ∧ x ≤ 1) : ∀ (d k j : Nat) (o : List Int), j + d = l.length → d < k → o = (l.take j).map (fun x => -x) ++ l.drop j →
    impl_reversed.l0 k o (l.length : Int) (j : Int) = some (l.map (fun x => -x))
  | 0, k, j, o, hd, hk, ho => by
    obtain ⟨k, rfl⟩ : ∃ m, k = m + 1 := ⟨k - 1, by omega⟩
    simp only [impl_reversed.l0]
    rw [if_neg (by omega), ho, List.drop_eq_nil_of_le (by omega), List.take_of_length_le (by omega)]
    simp
  | d + 1, k, j, o, hd, hk, ho => by
    obtain ⟨k, rfl⟩ : ∃ m, k = m + 1 := ⟨k - 1, by omega⟩
    have h := hb l[j] (List.getElem_mem (by omega))
    have hol : o.length = l.length := by rw [ho]; simp; omega
    have hoj : o[j] = l[j] := by
      subst ho
      rw [List.getElem_append_right (by simp; omega)]
      simp [Nat.min_eq_left (show j ≤ l.length by omega)]
    simp only [impl_reversed.l0]
    rw [if_pos (by omega), if_pos (by omega), if_pos (by omega), rd_nat o j (by omega), hoj, w64 (by omega) (by omega), succ64 (by omega), Int.toNat_natCast]
    refine impl_reversed_l0 l hl hb d k (j + 1) _ (by omega) (by omega) ?_
    rw [ho, List.set_append_right _ _ (by simp; omega), drop_at l j (by omega), List.take_add_one, List.getElem?_eq_getElem (by omega), show j - ((l.take j).map (fun x => -x)).length = 0 by simp; omega, List.set_cons_zero, Option.toList_some, List.map_append, List.append_assoc]
    rfl
theorem impl_reversed_eq (l : List Int) (hl : l.length ≤ 1048576) (hb : ∀ x ∈ l, -1 ≤ x ∧ x ≤ 1) (k : Nat) (hk : l.length < k) : impl_reversed.f k l = some (l.map (fun x => -x)) := by
  unfold impl_reversed.f slices_Clone_int64_int64.f
  rw [if_pos (by omega), Option.bind_some]
  exact impl_reversed_l0 l hl hb l.length k 0 l (by omega) hk (by simp)

-- impl_ReverseOrder
-- MATH Secs
theorem impl_ReverseOrder_eq (l : List Int) (hl : l.length ≤ 1048576) (k : Nat) (hk : l.length < k) : impl_ReverseOrder.f k l = some (if (∀ x ∈ l, -1 ≤ x ∧ x ≤ 1) ∧ l.length ≤ 576 then l.map (fun x => -x) else []) := by
  unfold impl_ReverseOrder.f
  rw [slices_ContainsFunc_int64_int64_impl_ReverseOrder_1.eq_any (fun x => !decide (-1 ≤ x ∧ x ≤ 1)) l (fun x _ => by unfold impl_ReverseOrder_1.f; rw [impl_within_eq, Option.bind_some]), any_not l (fun x => -1 ≤ x ∧ x ≤ 1), Option.bind_some]
  by_cases h2 : l.length ≤ 576
  · rw [if_neg (by omega)]
    by_cases h : ∀ x ∈ l, -1 ≤ x ∧ x ≤ 1
    · rw [decide_eq_true h, if_neg (by simp), impl_reversed_eq l hl h k hk, if_pos ⟨h, h2⟩]; rfl
    · rw [decide_eq_false h, if_pos (by simp), if_neg (fun c => h c.1)]
  · rw [if_pos (by omega), if_neg (fun c => h2 c.2)]

theorem FnExactReverseOrder : laws_FnExactReverseOrder.Pure := by
  intro l _ _ _
  refine ⟨l.length + 10, ?_⟩
  unfold laws_FnExactReverseOrder.f
  by_cases hl : (l.length : Int) > 1048576
  · rw [if_pos hl]
  · rw [if_neg hl]
    have hl' : l.length ≤ 1048576 := by omega
    obtain ⟨a, hr⟩ : ∃ r : List Int, r = (if (∀ x ∈ l, -1 ≤ x ∧ x ≤ 1) ∧ l.length ≤ 576 then l.map (fun x => -x) else []) := ⟨_, rfl⟩
    have hs : ∀ k, l.length < k → spec_ReverseOrder.f k l = some a := fun k hk => by rw [hr]; exact spec_ReverseOrder_eq l hl' k hk
    have hi : ∀ k, l.length < k → impl_ReverseOrder.f k l = some a := fun k hk => by rw [hr]; exact impl_ReverseOrder_eq l hl' k hk
    have hra : a.length ≤ l.length := by rw [hr]; split <;> simp
    clear hr
    simp (disch := omega) only [laws_toInt64S_eq, hs, hi, Option.bind_some, laws_eqInt64S_eq, laws_markInt64S_eq, decide_true, if_true, if_false, one_add_neg, Bool.not_true]
    simp (disch := omega) only [laws_FnExactReverseOrder.j0, laws_toInt64S_eq, hi, laws_eqInt64S_eq, laws_markInt64S_eq, laws_heldInt64S_eq, Option.bind_some, decide_true, if_true, if_false, Bool.false_eq_true, one_add_neg]

end Go.Proofs.Ytbkehpciffponaa.Pure
