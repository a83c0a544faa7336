/- What is proved: the program's CanonicalSectors answers what the reference's answers, at every list. Conditions: none. -/
import Derived.Test.YtjldcnibdddioaaPFnExactCanonicalSectorsx
import Derived.Test.YtjldcnibdddioaaMath
import Derived.Test.YtjldcnibdddioaaSecs
import Derived.Test.YtjldcnibdddioaaLex
namespace Go.Proofs.Ytjldcnibdddioaa.Pure
open Go.RowKit Go.Proofs.Ytjldcnibdddioaa.PFnExactCanonicalSectors Go.Proofs.YtjldcnibdddioaaW.PrintWords Go.Proofs.YtjldcnibdddioaaW.PrintLast Go.Proofs.YtjldcnibdddioaaW.PrintMore Go.Proofs.Ytjldcnibdddioaa.Math

-- laws_toInt64S
theorem laws_toInt64S_l0 (l : List Int) (hl : l.length ≤ 1048576) : ∀ (d k j : Nat) (o : List Int), j + d = l.length → d < k → o.length = l.length → o.take j = l.take j →
    laws_toInt64S.l0 k l o (j : Int) = some l
  | 0, k, j, o, hd, hk, ho, ht => by
    obtain ⟨k, rfl⟩ : ∃ m, k = m + 1 := ⟨k - 1, by omega⟩
    simp only [laws_toInt64S.l0]
    rw [if_neg (by omega)]
    rw [List.take_of_length_le (by omega), List.take_of_length_le (by omega)] at ht
    rw [ht]
  | d + 1, k, j, o, hd, hk, ho, ht => by
    obtain ⟨k, rfl⟩ : ∃ m, k = m + 1 := ⟨k - 1, by omega⟩
    simp only [laws_toInt64S.l0]
    rw [if_pos (by omega), if_pos (by omega), if_pos (by omega), rd_nat l j (by omega), succ64 (by omega), Int.toNat_natCast]
    refine laws_toInt64S_l0 l hl d k (j + 1) _ (by omega) (by omega) (by simpa using ho) ?_
    rw [List.take_add_one, List.take_add_one, List.take_set_of_le (Nat.le_refl j), ht, List.getElem?_set_self (by omega), List.getElem?_eq_getElem (by omega)]
theorem laws_toInt64S_eq (l : List Int) (hl : l.length ≤ 1048576) (k : Nat) (hk : l.length < k) : laws_toInt64S.f k l = some l := by
  unfold laws_toInt64S.f
  rw [if_pos (by omega), if_pos (by omega), Int.toNat_natCast]
  exact laws_toInt64S_l0 l hl l.length k 0 _ (by omega) hk (by simp) (by simp)

-- laws_eqInt64S
theorem laws_eqInt64S_l0 (a b : List Int) (hl : a.length ≤ 1048576) (hab : a.length = b.length) : ∀ (d k j : Nat), j + d = a.length → d < k →
    laws_eqInt64S.l0 k a b (j : Int) = some (decide (a.drop j = b.drop j))
  | 0, k, j, hd, hk => by
    obtain ⟨k, rfl⟩ : ∃ m, k = m + 1 := ⟨k - 1, by omega⟩
    simp only [laws_eqInt64S.l0]
    rw [if_neg (by omega), List.drop_eq_nil_of_le (by omega), List.drop_eq_nil_of_le (by omega)]
    simp
  | d + 1, k, j, hd, hk => by
    obtain ⟨k, rfl⟩ : ∃ m, k = m + 1 := ⟨k - 1, by omega⟩
    simp only [laws_eqInt64S.l0]
    rw [if_pos (by omega), if_pos (by omega), if_pos (by omega), rd_nat a j (by omega), rd_nat b j (by omega), succ64 (by omega), drop_at a j (by omega), drop_at b j (by omega)]
    by_cases h : a[j] = b[j]
    · rw [if_pos h, laws_eqInt64S_l0 a b hl hab d k (j + 1) (by omega) (by omega)]
      simp only [List.cons.injEq, h, true_and]
    · rw [if_neg h]
      simp only [List.cons.injEq, h, false_and, decide_false]
theorem laws_eqInt64S_eq (a b : List Int) (hl : a.length ≤ 1048576) (k : Nat) (hk : a.length < k) : laws_eqInt64S.f k a b = some (decide (a = b)) := by
  unfold laws_eqInt64S.f
  by_cases h : a.length = b.length
  · rw [if_pos (by omega)]
    have := laws_eqInt64S_l0 a b hl h a.length k 0 (by omega) hk
    rw [show ((0 : Nat) : Int) = 0 from rfl, List.drop_zero, List.drop_zero] at this
    exact this
  · rw [if_neg (by omega), decide_eq_false (fun c => h (by rw [c]))]

-- laws_markInt64S
/-- The marks: a, a + 1, .. -/
def marks (a : Int) : Nat → List Int
  | 0 => []
  | n + 1 => a :: marks (a + 1) n
theorem marks_length : ∀ (n : Nat) (a : Int), (marks a n).length = n
  | 0, _ => rfl
  | n + 1, a => by simp [marks, marks_length n]
theorem marks_snoc : ∀ (n : Nat) (a : Int), marks a (n + 1) = marks a n ++ [a + n]
  | 0, a => by simp [marks]
  | n + 1, a => by
    rw [marks, marks_snoc n (a + 1)]
    simp only [marks, List.cons_append, List.cons.injEq, List.append_cancel_left_eq, and_true, true_and]
    omega
theorem laws_markInt64S_l0 (l : List Int) (hl : l.length ≤ 1048576) : ∀ (d k j : Nat) (o : List Int), j + d = l.length → d < k → o.length = l.length → o.take j = marks 1 j →
    laws_markInt64S.l0 k o (1 + j : Int) (j : Int) = some ((1 + l.length : Int), marks 1 l.length)
  | 0, k, j, o, hd, hk, ho, ht => by
    obtain ⟨k, rfl⟩ : ∃ m, k = m + 1 := ⟨k - 1, by omega⟩
    simp only [laws_markInt64S.l0]
    rw [if_neg (by omega)]
    obtain rfl : j = l.length := by omega
    rw [List.take_of_length_le (by omega)] at ht
    rw [ht]
  | d + 1, k, j, o, hd, hk, ho, ht => by
    obtain ⟨k, rfl⟩ : ∃ m, k = m + 1 := ⟨k - 1, by omega⟩
    simp only [laws_markInt64S.l0]
    rw [if_pos (by omega), if_pos (by omega), succ64 (by omega), Int.toNat_natCast, w64 (n := 1 + (j : Int) + 1) (by omega) (by omega)]
    have := laws_markInt64S_l0 l hl d k (j + 1) (o.set j (1 + j)) (by omega) (by omega) (by simpa using ho) (by
      rw [List.take_add_one, List.take_set_of_le (Nat.le_refl j), ht, List.getElem?_set_self (by omega), marks_snoc]
      simp)
    rw [← this]
    congr 1
theorem laws_markInt64S_eq (l : List Int) (hl : l.length ≤ 1048576) (k : Nat) (hk : l.length < k) : laws_markInt64S.f k l 1 = some ((1 + l.length : Int), marks 1 l.length) := by
  unfold laws_markInt64S.f
  have := laws_markInt64S_l0 l hl l.length k 0 l (by omega) hk rfl (by simp [marks])
  simpa using this

-- laws_heldInt64S
theorem laws_heldInt64S_l0 (n : Nat) (hn : n ≤ 1048576) : ∀ (d k j : Nat), j + d = n → d < k →
    laws_heldInt64S.l0 k (marks 1 n) (1 + j : Int) (j : Int) = some (1 + n : Int)
  | 0, k, j, hd, hk => by
    obtain ⟨k, rfl⟩ : ∃ m, k = m + 1 := ⟨k - 1, by omega⟩
    simp only [laws_heldInt64S.l0]
    rw [if_neg (by rw [marks_length]; omega)]
    obtain rfl : j = n := by omega
    rfl
  | d + 1, k, j, hd, hk => by
    obtain ⟨k, rfl⟩ : ∃ m, k = m + 1 := ⟨k - 1, by omega⟩
    have hm : ∀ (n j : Nat) (a : Int) (h : j < (marks a n).length), (marks a n)[j] = a + j := by
      intro n
      induction n with
      | zero => intro j a h; simp [marks] at h
      | succ n ih =>
        intro j a h
        cases j with
        | zero => simp [marks]
        | succ j =>
          have := ih j (a + 1) (by simpa [marks] using h)
          simp only [marks, List.getElem_cons_succ]
          rw [this]; omega
    simp only [laws_heldInt64S.l0]
    rw [if_pos (by rw [marks_length]; omega), if_pos (by omega), rd_nat _ j (by rw [marks_length]; omega), hm, if_pos rfl, succ64 (by omega), w64 (n := 1 + (j : Int) + 1) (by omega) (by omega)]
    rw [← laws_heldInt64S_l0 n hn d k (j + 1) (by omega) (by omega)]
    congr 1
theorem laws_heldInt64S_eq (n : Nat) (hn : n ≤ 1048576) (k : Nat) (hk : n < k) : laws_heldInt64S.f k (marks 1 n) 1 = some (1 + n : Int) := by
  unfold laws_heldInt64S.f
  have := laws_heldInt64S_l0 n hn n k 0 (by omega) hk
  simpa using this

-- spec_l00In
theorem spec_l00In_eq (a b c : Int) : spec_l00In.f a b c = some (decide (b ≤ a ∧ a ≤ c)) := by
  unfold spec_l00In.f
  by_cases h : b ≤ a <;> simp [h]

-- spec_l05Ok
-- MATH Secs
theorem spec_l05Ok_l0 (l : List Int) (hl : l.length ≤ 1048576) : ∀ (d k j : Nat) (s : Int), j + d = l.length → d < k → 0 ≤ s → s ≤ 16 * j →
    spec_l05Ok.l0 k l s (j : Int) = some (decide ((∀ x ∈ l.drop j, 1 ≤ x ∧ x ≤ 16) ∧ l.length ≤ 16 ∧ s + (l.drop j).sum = 16))
  | 0, k, j, s, hd, hk, h0, h1 => by
    obtain ⟨k, rfl⟩ : ∃ m, k = m + 1 := ⟨k - 1, by omega⟩
    simp only [spec_l05Ok.l0]
    rw [if_neg (by omega), List.drop_eq_nil_of_le (by omega)]
    by_cases h : l.length ≤ 16
    · rw [if_pos (by omega)]
      by_cases h2 : s = 16 <;> simp [h, h2]
    · rw [if_neg (by omega)]
      simp [h]
  | d + 1, k, j, s, hd, hk, h0, h1 => by
    obtain ⟨k, rfl⟩ : ∃ m, k = m + 1 := ⟨k - 1, by omega⟩
    simp only [spec_l05Ok.l0]
    rw [if_pos (by omega), if_pos (by omega), rd_nat l j (by omega), spec_l00In_eq, Option.bind_some, drop_at l j (by omega)]
    by_cases h : 1 ≤ l[j] ∧ l[j] ≤ 16
    · rw [if_pos (by simp [h]), w64 (by omega) (by omega), succ64 (by omega), spec_l05Ok_l0 l hl d k (j + 1) _ (by omega) (by omega) (by omega) (by omega)]
      congr 1
      rw [decide_eq_decide]
      simp only [List.forall_mem_cons, List.sum_cons, h, and_self, true_and, Int.add_assoc]
    · rw [if_neg (by simp [h])]
      rw [decide_eq_false (by simp only [List.forall_mem_cons]; exact fun c => h c.1.1)]
theorem spec_l05Ok_eq (l : List Int) (hl : l.length ≤ 1048576) (k : Nat) (hk : l.length < k) : spec_l05Ok.f k l = some (decide (SecOk l)) := by
  unfold spec_l05Ok.f
  have := spec_l05Ok_l0 l hl l.length k 0 0 (by omega) hk (by omega) (by omega)
  rw [show ((0 : Nat) : Int) = 0 from rfl] at this
  rw [this, List.drop_zero]
  congr 1
  rw [decide_eq_decide]
  unfold SecOk
  constructor
  · rintro ⟨a, b, c⟩; exact ⟨b, a, by omega⟩
  · rintro ⟨b, a, c⟩; exact ⟨a, b, by omega⟩

-- spec_l00Own
theorem spec_l00Own_eq (l : List Int) (hl : l.length ≤ 1048576) : spec_l00Own.f l = some l := by
  unfold spec_l00Own.f
  rw [Option.bind_some, if_pos (by simp; omega)]
  rfl

-- spec_l05Rotated
theorem spec_l05Rotated_eq (l : List Int) (i : Nat) (hl : l.length ≤ 1048576) (hi : i ≤ l.length) : spec_l05Rotated.f l (i : Int) = some (l.drop i ++ l.take i) := by
  unfold spec_l05Rotated.f
  rw [if_pos (by omega), if_pos (by omega), Int.toNat_natCast, spec_l00Own_eq _ (by rw [List.length_drop]; omega), Option.bind_some, if_pos (by rw [List.length_drop, List.length_take]; omega)]

-- spec_l05Mirrored
theorem spec_l05Mirrored_l0 (l : List Int) (hl : l.length ≤ 1048576) : ∀ (j k : Nat) (o : List Int), j < k → j ≤ l.length → o.length + j ≤ l.length → spec_l05Mirrored.l0 k l o ((j : Int) - 1) = some (o ++ (l.take j).reverse)
  | 0, k, o, hk, hj, ho => by
    obtain ⟨k, rfl⟩ : ∃ m, k = m + 1 := ⟨k - 1, by omega⟩
    simp only [spec_l05Mirrored.l0]
    rw [if_neg (by omega)]; simp
  | j + 1, k, o, hk, hj, ho => by
    obtain ⟨k, rfl⟩ : ∃ m, k = m + 1 := ⟨k - 1, by omega⟩
    have e : ((j + 1 : Nat) : Int) - 1 = (j : Int) := by omega
    simp only [spec_l05Mirrored.l0]
    rw [e, if_pos (by omega), if_pos (by omega), if_pos (by omega), if_pos (by omega), rd_nat l j (by omega), w64 (by omega) (by omega), spec_l05Mirrored_l0 l hl j k _ (by omega) (by omega) (by simp; omega),
      List.take_add_one, List.getElem?_eq_getElem (by omega), Option.toList_some, List.reverse_append, List.append_assoc]
    rfl
theorem spec_l05Mirrored_eq (l : List Int) (hl : l.length ≤ 1048576) (k : Nat) (hk : l.length < k) : spec_l05Mirrored.f k l = some l.reverse := by
  unfold spec_l05Mirrored.f
  rw [w64 (by omega) (by omega), spec_l05Mirrored_l0 l hl l.length k [] hk (by omega) (by simp)]
  simp

-- spec_l05Less
-- MATH Lex
theorem spec_l05Less_l0 (a b : List Int) (ha : a.length ≤ 1048576) (hb : b.length ≤ 1048576) : ∀ (d k j : Nat), j + d = a.length → 2 * d + 2 ≤ k →
    spec_l05Less.l0 k a b (j : Int) = some (lexLt (a.drop j) (b.drop j))
  | 0, k, j, hd, hk => by
    obtain ⟨k, rfl⟩ : ∃ m, k = m + 2 := ⟨k - 2, by omega⟩
    simp only [spec_l05Less.l0]
    rw [if_neg (by omega)]
    simp only [spec_l05Less.j1, Bool.false_eq_true, if_false]
    rw [List.drop_eq_nil_of_le (by omega)]
    simp only [lexLt, List.length_drop]
    congr 1
    rw [decide_eq_decide]; omega
  | d + 1, k, j, hd, hk => by
    obtain ⟨k, rfl⟩ : ∃ m, k = m + 2 := ⟨k - 2, by omega⟩
    simp only [spec_l05Less.l0]
    rw [if_pos (by omega)]
    simp only [spec_l05Less.j1, decide_eq_true_eq]
    by_cases h : j < b.length
    · rw [if_pos (by omega), if_pos (by omega), if_pos (by omega), if_pos (by omega), rd_nat a j (by omega), rd_nat b j h, succ64 (by omega), spec_l05Less_l0 a b ha hb d k (j + 1) (by omega) (by omega),
        drop_at a j (by omega), drop_at b j h]
      simp only [lexLt]
      by_cases h2 : a[j] = b[j] <;> simp [h2]
    · rw [if_neg (by omega), drop_at a j (by omega), List.drop_eq_nil_of_le (by omega : b.length ≤ j)]
      simp only [lexLt]
      congr 1
      rw [decide_eq_false (by omega)]
theorem spec_l05Less_eq (a b : List Int) (ha : a.length ≤ 1048576) (hb : b.length ≤ 1048576) (k : Nat) (hk : 2 * a.length + 2 ≤ k) : spec_l05Less.f k a b = some (lexLt a b) := by
  unfold spec_l05Less.f
  have := spec_l05Less_l0 a b ha hb a.length k 0 (by omega) hk
  simpa using this

-- spec_l05Least
theorem spec_l05Least_l0 (l : List Int) (hl : l.length ≤ 1048576) : ∀ (d k j : Nat) (b : List Int), j + d = l.length → 2 * d + 2 * l.length + 4 ≤ k → b.length = l.length →
    spec_l05Least.l0 k l b l.reverse (j : Int) = some (least l d j b)
  | 0, k, j, b, hd, hk, hb => by
    obtain ⟨k, rfl⟩ : ∃ m, k = m + 1 := ⟨k - 1, by omega⟩
    simp only [spec_l05Least.l0]
    rw [if_neg (by omega)]; rfl
  | d + 1, k, j, b, hd, hk, hb => by
    obtain ⟨k, rfl⟩ : ∃ m, k = m + 2 := ⟨k - 2, by omega⟩
    have hr : (rot l j).length = l.length := rot_length l j (by omega)
    have hr2 : (rot l.reverse j).length = l.length := by rw [rot_length _ _ (by rw [List.length_reverse]; omega), List.length_reverse]
    have step : ∀ b : List Int, b.length = l.length → spec_l05Least.j1 (k + 1) l b l.reverse (j : Int) = some (least l d (j + 1) (lesser (rot l.reverse j) b)) := by
      intro b hb
      simp only [spec_l05Least.j1]
      rw [spec_l05Rotated_eq _ j (by rw [List.length_reverse]; omega) (by rw [List.length_reverse]; omega), Option.bind_some, succ64 (by omega)]
      change (spec_l05Less.f k (rot l.reverse j) b).bind _ = _
      rw [spec_l05Less_eq _ _ (by omega) (by omega) k (by omega), Option.bind_some]
      unfold lesser
      by_cases h : lexLt (rot l.reverse j) b = true
      · rw [if_pos h, if_pos h]; exact spec_l05Least_l0 l hl d k (j + 1) _ (by omega) (by omega) hr2
      · rw [if_neg h, if_neg h]; exact spec_l05Least_l0 l hl d k (j + 1) _ (by omega) (by omega) hb
    simp only [spec_l05Least.l0]
    rw [if_pos (by omega), spec_l05Rotated_eq _ j (by omega) (by omega), Option.bind_some]
    change (spec_l05Less.f (k + 1) (rot l j) b).bind _ = _
    rw [spec_l05Less_eq _ _ (by omega) (by omega) (k + 1) (by omega), Option.bind_some]
    simp only [least]
    rw [show lesser (rot l j) b = if lexLt (rot l j) b = true then rot l j else b from rfl]
    by_cases h : lexLt (rot l j) b = true
    · rw [if_pos h, if_pos h]; exact step _ hr
    · rw [if_neg h, if_neg h]; exact step _ hb
theorem spec_l05Least_eq (l : List Int) (hl : l.length ≤ 1048576) (k : Nat) (hk : 4 * l.length + 4 ≤ k) : spec_l05Least.f k l = some (least l l.length 0 l) := by
  unfold spec_l05Least.f
  rw [spec_l00Own_eq l hl, Option.bind_some, spec_l05Mirrored_eq l hl k (by omega), Option.bind_some]
  have := spec_l05Least_l0 l hl l.length k 0 l (by omega) (by omega) rfl
  simpa using this

-- spec_CanonicalSectors
theorem spec_CanonicalSectors_eq (l : List Int) (hl : l.length ≤ 1048576) (k : Nat) (hk : 4 * l.length + 4 ≤ k) : spec_CanonicalSectors.f k l = some (if SecOk l then least l l.length 0 l else []) := by
  unfold spec_CanonicalSectors.f
  rw [spec_l05Ok_eq l hl k (by omega), Option.bind_some, spec_l05Least_eq l hl k hk, Option.bind_some]
  by_cases h : SecOk l <;> simp [h]

-- impl_within
theorem impl_within_eq (a b c : Int) : impl_within.f a b c = some (decide (b ≤ a ∧ a ≤ c)) := by
  unfold impl_within.f
  by_cases h : b ≤ a <;> simp [h]

-- impl_sumOf
theorem impl_sumOf_l0 (l : List Int) (hl : l.length ≤ 1048576) (hb : ∀ x ∈ l, -1048576 ≤ x ∧ x ≤ 1048576) : ∀ (d k j : Nat) (s : Int), j + d = l.length → d < k → -(1048576 * (j : Int)) ≤ s → s ≤ 1048576 * j →
    impl_sumOf.l0 k s l (l.length : Int) (j : Int) = some (s + (l.drop j).sum)
  | 0, k, j, s, hd, hk, h0, h1 => by
    obtain ⟨k, rfl⟩ : ∃ m, k = m + 1 := ⟨k - 1, by omega⟩
    simp only [impl_sumOf.l0]
    rw [if_neg (by omega), List.drop_eq_nil_of_le (by omega)]
    simp
  | d + 1, k, j, s, hd, hk, h0, h1 => by
    obtain ⟨k, rfl⟩ : ∃ m, k = m + 1 := ⟨k - 1, by omega⟩
    have h := hb l[j] (List.getElem_mem (by omega))
    simp only [impl_sumOf.l0]
    rw [if_pos (by omega), if_pos (by omega), if_pos (by omega), rd_nat l j (by omega), drop_at l j (by omega), w64 (by omega) (by omega), succ64 (by omega),
      impl_sumOf_l0 l hl hb d k (j + 1) _ (by omega) (by omega) (by omega) (by omega), List.sum_cons, Int.add_assoc]
theorem impl_sumOf_eq (l : List Int) (hl : l.length ≤ 1048576) (hb : ∀ x ∈ l, -1048576 ≤ x ∧ x ≤ 1048576) (k : Nat) (hk : l.length < k) : impl_sumOf.f k l = some l.sum := by
  unfold impl_sumOf.f
  have := impl_sumOf_l0 l hl hb l.length k 0 0 (by omega) hk (by omega) (by omega)
  rw [show ((0 : Nat) : Int) = 0 from rfl] at this
  rw [this, List.drop_zero, Int.zero_add]

-- impl_ValidSectors
-- MATH Secs
theorem impl_ValidSectors_eq (l : List Int) (hl : l.length ≤ 1048576) (k : Nat) (hk : l.length < k) : impl_ValidSectors.f k l = some (decide (SecOk l)) := by
  unfold impl_ValidSectors.f
  rw [slices_ContainsFunc_int64_int64_impl_ValidSectors_1.eq_any (fun x => !decide (1 ≤ x ∧ x ≤ 16)) l (fun x _ => by unfold impl_ValidSectors_1.f; rw [impl_within_eq, Option.bind_some]), any_not l (fun x => 1 ≤ x ∧ x ≤ 16)]
  by_cases h : l.length ≤ 16
  · rw [if_pos (by omega), Option.bind_some]
    by_cases h2 : ∀ x ∈ l, 1 ≤ x ∧ x ≤ 16
    · rw [decide_eq_true h2, if_neg (by simp), impl_sumOf_eq l hl (fun x hx => by have := h2 x hx; omega) k hk, Option.bind_some]
      congr 1
      by_cases h3 : l.sum = 16
      · rw [decide_eq_true (show SecOk l from ⟨h, h2, h3⟩)]; simpa using h3
      · rw [decide_eq_false (fun c : SecOk l => h3 c.2.2)]; simpa using h3
    · rw [decide_eq_false h2, if_pos (by simp), decide_eq_false (fun c : SecOk l => h2 c.2.1)]
  · rw [if_neg (by omega), decide_eq_false (fun c : SecOk l => h c.1)]

-- slices_Concat_int64_int64
theorem slices_Concat_int64_int64_two (a b : List Int) (hl : a.length + b.length ≤ 1048576) (k : Nat) (hk : 6 ≤ k) : slices_Concat_int64_int64.f k [a, b] = some (a ++ b) := by
  obtain ⟨k, rfl⟩ : ∃ m, k = m + 6 := ⟨k - 6, by omega⟩
  have r0 : rd_L1 [a, b] 0 = a := rfl
  have r1 : rd_L1 [a, b] 1 = b := rfl
  have e0 : wrap64 (a.length : Int) = a.length := by rw [w64 (by omega) (by omega)]
  have e1 : wrap64 ((a.length : Int) + (b.length : Int)) = (a.length : Int) + b.length := w64 (by omega) (by omega)
  have e2 : wrap64 1 = 1 := w64 (n := 1) (by omega) (by omega)
  have e3 : wrap64 2 = 2 := w64 (n := 2) (by omega) (by omega)
  have n0 : ¬ ((a.length : Int) < 0) := by omega
  have n1 : ¬ ((a.length : Int) + (b.length : Int) < 0) := by omega
  have g : slices_Grow_int64_int64_nil.f ((a.length : Int) + b.length) = some [] := by unfold slices_Grow_int64_int64_nil.f; rw [if_pos (by omega)]
  have c1 : a.length < 17592186044416 := by omega
  have c2 : a.length + b.length < 17592186044416 := by omega
  unfold slices_Concat_int64_int64.f
  simp [slices_Concat_int64_int64.l0, slices_Concat_int64_int64.l1, r0, r1, e0, e1, e2, e3, n0, n1, g, c1, c2]

-- impl_turnedList
theorem impl_turnedList_eq (l : List Int) (i : Nat) (hl : l.length ≤ 1048576) (hi : i ≤ l.length) (k : Nat) (hk : 6 ≤ k) : impl_turnedList.f k l (i : Int) = some (l.drop i ++ l.take i) := by
  unfold impl_turnedList.f
  rw [if_pos (by omega), if_pos (by omega), Int.toNat_natCast, slices_Concat_int64_int64_two _ _ (by rw [List.length_drop, List.length_take]; omega) k hk]
  rfl

-- slices_Reverse_int64_int64
theorem slices_Reverse_int64_int64_l0 (l : List Int) (hl : l.length ≤ 1048576) : ∀ (d k i : Nat) (o : List Int), l.length - 2 * i ≤ d → d < k → 2 * i ≤ l.length → 1 ≤ l.length → o.length = l.length →
    (∀ m, m < l.length → o[m]? = if m < i ∨ l.length - 1 - i < m then l[l.length - 1 - m]? else l[m]?) →
    slices_Reverse_int64_int64.l0 k o (i : Int) ((l.length : Int) - 1 - i) = some l.reverse
  | d, k, i, o, hd, hk, hi, hp, ho, h => by
    obtain ⟨k, rfl⟩ : ∃ m, k = m + 1 := ⟨k - 1, by omega⟩
    simp only [slices_Reverse_int64_int64.l0]
    by_cases hc : (i : Int) < (l.length : Int) - 1 - i
    · match d, hd, hk with
      | 0, hd, _ => omega
      | d + 1, hd, hk =>
      have ej : ((l.length : Int) - 1 - i) = ((l.length - 1 - i : Nat) : Int) := by omega
      rw [if_pos hc, if_pos (by omega), if_pos (by omega), if_pos (by omega), if_pos (by omega), ej, rd_nat o (l.length - 1 - i) (by omega), rd_nat o i (by omega), succ64 (by omega), pred64 (by omega) (by omega), Int.toNat_natCast, Int.toNat_natCast]
      have e2 : ((l.length - 1 - i - 1 : Nat) : Int) = (l.length : Int) - 1 - ((i + 1 : Nat) : Int) := by omega
      rw [e2]
      refine slices_Reverse_int64_int64_l0 l hl d k (i + 1) _ (by omega) (by omega) (by omega) hp (by simpa using ho) (fun m hm => ?_)
      have a1 : o[i] = l[i] := by
        have := h i (by omega)
        rw [if_neg (by omega), List.getElem?_eq_getElem (by omega), List.getElem?_eq_getElem (by omega)] at this
        exact Option.some.inj this
      have a2 : o[l.length - 1 - i] = l[l.length - 1 - i] := by
        have := h (l.length - 1 - i) (by omega)
        rw [if_neg (by omega), List.getElem?_eq_getElem (by omega), List.getElem?_eq_getElem (by omega)] at this
        exact Option.some.inj this
      by_cases m1 : m = l.length - 1 - i
      · subst m1
        rw [List.getElem?_set_self (by simp; omega), if_pos (by omega), a1, show l.length - 1 - (l.length - 1 - i) = i by omega, List.getElem?_eq_getElem (by omega)]
      · rw [List.getElem?_set_ne (by omega)]
        by_cases m2 : m = i
        · subst m2
          rw [List.getElem?_set_self (by omega), if_pos (by omega), a2, List.getElem?_eq_getElem (by omega)]
        · rw [List.getElem?_set_ne (by omega), h m hm]
          by_cases m3 : m < i ∨ l.length - 1 - i < m
          · rw [if_pos m3, if_pos (by omega)]
          · rw [if_neg m3, if_neg (by omega)]
    · rw [if_neg hc]
      congr 1
      refine List.ext_getElem? (fun m => ?_)
      by_cases hm : m < l.length
      · rw [h m hm, List.getElem?_reverse hm]
        by_cases m3 : m < i ∨ l.length - 1 - i < m
        · rw [if_pos m3]
        · rw [if_neg m3, show l.length - 1 - m = m by omega]
      · rw [List.getElem?_eq_none (by omega), List.getElem?_eq_none (by rw [List.length_reverse]; omega)]
theorem slices_Reverse_int64_int64_eq (l : List Int) (hl : l.length ≤ 1048576) (k : Nat) (hk : l.length + 1 < k) : slices_Reverse_int64_int64.f k l = some l.reverse := by
  unfold slices_Reverse_int64_int64.f
  rw [w64 (by omega) (by omega)]
  by_cases h : l.length = 0
  · have : l = [] := List.length_eq_zero_iff.1 h
    subst this
    obtain ⟨k, rfl⟩ : ∃ m, k = m + 1 := ⟨k - 1, by omega⟩
    simp [slices_Reverse_int64_int64.l0]
  · have := slices_Reverse_int64_int64_l0 l hl l.length k 0 l (by omega) (by omega) (by omega) (by omega) rfl (fun m hm => by rw [if_neg (by omega)])
    simpa using this

-- impl_mirrored
theorem impl_mirrored_eq (l : List Int) (hl : l.length ≤ 1048576) (k : Nat) (hk : l.length + 1 < k) : impl_mirrored.f k l = some l.reverse := by
  unfold impl_mirrored.f slices_Clone_int64_int64.f
  rw [if_pos (by omega), Option.bind_some, slices_Reverse_int64_int64_eq l hl k hk]; rfl

-- slices_Compare_int64_int64
theorem cmp_int64 (a b : Int) : cmp_Compare_int64.f a b = some (if a < b then -1 else if a > b then 1 else 0) := by
  unfold cmp_Compare_int64.f cmp_isNaN_int64.f
  simp only [bne_self_eq_false, Option.bind_some, Bool.false_eq_true, if_false]
  by_cases h : a < b
  · simp [h]
  · rw [if_neg h, if_neg h]; by_cases h2 : a > b <;> simp [h2]
theorem slices_Compare_int64_int64_l0 (a b : List Int) (ha : a.length ≤ 1048576) (hb : b.length ≤ 1048576) : ∀ (d k j : Nat), j + d = a.length → d + 1 ≤ k → j ≤ b.length →
    slices_Compare_int64_int64.l0 k a b a (a.length : Int) (j : Int) = some (lexCmp (a.drop j) (b.drop j))
  | 0, k, j, hd, hk, hj => by
    obtain ⟨k, rfl⟩ : ∃ m, k = m + 1 := ⟨k - 1, by omega⟩
    simp only [slices_Compare_int64_int64.l0]
    rw [if_neg (by omega), List.drop_eq_nil_of_le (by omega : a.length ≤ j)]
    by_cases h : j < b.length
    · rw [if_pos (by omega), drop_at b j h]; rfl
    · rw [if_neg (by omega), List.drop_eq_nil_of_le (by omega : b.length ≤ j)]; rfl
  | d + 1, k, j, hd, hk, hj => by
    obtain ⟨k, rfl⟩ : ∃ m, k = m + 1 := ⟨k - 1, by omega⟩
    simp only [slices_Compare_int64_int64.l0]
    rw [if_pos (by omega), if_pos (by omega), if_pos (by omega), drop_at a j (by omega)]
    by_cases h : j < b.length
    · rw [if_neg (by omega), if_pos (by omega), rd_nat a j (by omega), rd_nat b j h, cmp_int64, Option.bind_some, drop_at b j h, succ64 (by omega)]
      simp only [lexCmp]
      by_cases h2 : a[j] < b[j]
      · simp only [if_pos h2]; rfl
      · simp only [if_neg h2]
        by_cases h3 : a[j] > b[j]
        · simp only [if_pos h3]; rfl
        · simp only [if_neg h3, if_true]
          exact slices_Compare_int64_int64_l0 a b ha hb d k (j + 1) (by omega) (by omega) (by omega)
    · rw [if_pos (by omega), List.drop_eq_nil_of_le (by omega : b.length ≤ j)]; rfl
theorem slices_Compare_int64_int64_eq (a b : List Int) (ha : a.length ≤ 1048576) (hb : b.length ≤ 1048576) (k : Nat) (hk : a.length + 1 ≤ k) : slices_Compare_int64_int64.f k a b = some (lexCmp a b) := by
  unfold slices_Compare_int64_int64.f
  have := slices_Compare_int64_int64_l0 a b ha hb a.length k 0 (by omega) hk (by omega)
  simpa using this

-- impl_canonical
-- MATH Lex
theorem impl_canonical_l0 (l : List Int) (hl : l.length ≤ 1048576) : ∀ (d k j : Nat) (b : List Int), j + d = l.length → 4 * d + 2 * l.length + 20 ≤ k → b.length = l.length →
    impl_canonical.l0 k l b (l.length : Int) (j : Int) = some (least l d j b)
  | 0, k, j, b, hd, hk, hb => by
    obtain ⟨k, rfl⟩ : ∃ m, k = m + 1 := ⟨k - 1, by omega⟩
    simp only [impl_canonical.l0]
    rw [if_neg (by omega)]; rfl
  | d + 1, k, j, b, hd, hk, hb => by
    obtain ⟨k, rfl⟩ : ∃ m, k = m + 4 := ⟨k - 4, by omega⟩
    have hr : (rot l j).length = l.length := rot_length l j (by omega)
    have hr2 : (rot l.reverse j).length = l.length := by rw [rot_length _ _ (by rw [List.length_reverse]; omega), List.length_reverse]
    have e0 : rd_L1 [l, l.reverse] 0 = l := rfl
    have e1 : rd_L1 [l, l.reverse] 1 = l.reverse := rfl
    have w1 : wrap64 (0 + 1) = 1 := w64 (n := 0 + 1) (by omega) (by omega)
    have w2 : wrap64 (1 + 1) = 2 := w64 (n := 1 + 1) (by omega) (by omega)
    have s2 : ∀ b : List Int, b.length = l.length → impl_canonical.l1 (k + 1) l b (j : Int) (l.length : Int) (j : Int) [l, l.reverse] 2 2 = some (least l d (j + 1) b) := by
      intro b hb
      simp only [impl_canonical.l1]
      rw [if_neg (by omega), succ64 (by omega)]
      exact impl_canonical_l0 l hl d k (j + 1) b (by omega) (by omega) hb
    have s1 : ∀ b : List Int, b.length = l.length → impl_canonical.l1 (k + 2) l b (j : Int) (l.length : Int) (j : Int) [l, l.reverse] 2 1 = some (least l d (j + 1) (lesser (rot l.reverse j) b)) := by
      intro b hb
      rw [impl_canonical.l1]
      rw [if_pos (by omega), if_pos (by omega), if_pos (by simp), e1, impl_turnedList_eq _ j (by rw [List.length_reverse]; omega) (by rw [List.length_reverse]; omega) _ (by omega), Option.bind_some, show l.reverse.drop j ++ l.reverse.take j = rot l.reverse j from rfl, slices_Compare_int64_int64_eq _ _ (by omega) (by omega) _ (by omega), Option.bind_some, w2, s2 _ hr2, s2 _ hb]
      unfold lesser
      rw [← lexCmp_lt]
      by_cases h : lexCmp (rot l.reverse j) b < 0 <;> simp [h]
    have s0 : ∀ b : List Int, b.length = l.length → impl_canonical.l1 (k + 3) l b (j : Int) (l.length : Int) (j : Int) [l, l.reverse] 2 0 = some (least l d (j + 1) (lesser (rot l.reverse j) (lesser (rot l j) b))) := by
      intro b hb
      rw [impl_canonical.l1]
      rw [if_pos (by omega), if_pos (by omega), if_pos (by simp), e0, impl_turnedList_eq _ j (by omega) (by omega) _ (by omega), Option.bind_some, show l.drop j ++ l.take j = rot l j from rfl, slices_Compare_int64_int64_eq _ _ (by omega) (by omega) _ (by omega), Option.bind_some, w1, s1 _ hr, s1 _ hb]
      rw [show lesser (rot l j) b = if lexLt (rot l j) b = true then rot l j else b from rfl, ← lexCmp_lt]
      by_cases h : lexCmp (rot l j) b < 0 <;> simp [h]
    rw [impl_canonical.l0]
    rw [if_pos (by omega), impl_mirrored_eq l hl _ (by omega), Option.bind_some, Option.bind_some]
    exact s0 b hb
theorem impl_canonical_eq (l : List Int) (hl : l.length ≤ 1048576) (k : Nat) (hk : 6 * l.length + 20 ≤ k) : impl_canonical.f k l = some (least l l.length 0 l) := by
  unfold impl_canonical.f slices_Clone_int64_int64.f
  rw [if_pos (by omega), Option.bind_some]
  have := impl_canonical_l0 l hl l.length k 0 l (by omega) (by omega) rfl
  simpa using this

-- impl_CanonicalSectors
theorem impl_CanonicalSectors_eq (l : List Int) (hl : l.length ≤ 1048576) (k : Nat) (hk : 6 * l.length + 20 ≤ k) : impl_CanonicalSectors.f k l = some (if SecOk l then least l l.length 0 l else []) := by
  unfold impl_CanonicalSectors.f
  rw [impl_ValidSectors_eq l hl k (by omega), Option.bind_some, impl_canonical_eq l hl k hk, Option.bind_some]
  by_cases h : SecOk l <;> simp [h]

theorem FnExactCanonicalSectors : laws_FnExactCanonicalSectors.Pure := by
  intro l _ _ _
  refine ⟨6 * l.length + 30, ?_⟩
  unfold laws_FnExactCanonicalSectors.f
  by_cases hl : (l.length : Int) > 1048576
  · rw [if_pos hl]
  · rw [if_neg hl]
    have hl' : l.length ≤ 1048576 := by omega
    obtain ⟨a, hr⟩ : ∃ r : List Int, r = (if SecOk l then least l l.length 0 l else []) := ⟨_, rfl⟩
    have hs : ∀ k, 6 * l.length + 20 ≤ k → spec_CanonicalSectors.f k l = some a := fun k hk => by rw [hr]; exact spec_CanonicalSectors_eq l hl' k (by omega)
    have hi : ∀ k, 6 * l.length + 20 ≤ k → impl_CanonicalSectors.f k l = some a := fun k hk => by rw [hr]; exact impl_CanonicalSectors_eq l hl' k hk
    have hra : a.length ≤ l.length := by rw [hr]; split; exact Nat.le_of_eq (least_length l l.length 0 l (by omega) rfl); simp
    clear hr
    simp (disch := omega) only [laws_toInt64S_eq, hs, hi, Option.bind_some, laws_eqInt64S_eq, laws_markInt64S_eq, decide_true, if_true, if_false, one_add_neg, Bool.not_true]
    simp (disch := omega) only [laws_FnExactCanonicalSectors.j0, laws_toInt64S_eq, hi, laws_eqInt64S_eq, laws_markInt64S_eq, laws_heldInt64S_eq, Option.bind_some, decide_true, if_true, if_false, Bool.false_eq_true, one_add_neg]

end Go.Proofs.Ytjldcnibdddioaa.Pure
