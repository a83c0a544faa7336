/- What is proved: the program's SectorSymmetries answers what the reference's answers, at every list. Conditions: none. -/
import Derived.Test.YtjldcnibdddioaaPFnExactSectorSymmetriesx
import Derived.Test.YtjldcnibdddioaaMath
import Derived.Test.YtjldcnibdddioaaSecs
import Derived.Test.YtjldcnibdddioaaLex
namespace Go.Proofs.Ytjldcnibdddioaa.Pure
open Go.RowKit Go.Proofs.Ytjldcnibdddioaa.PFnExactSectorSymmetries Go.Proofs.YtjldcnibdddioaaW.PrintWords Go.Proofs.YtjldcnibdddioaaW.PrintLast Go.Proofs.YtjldcnibdddioaaW.PrintMore Go.Proofs.Ytjldcnibdddioaa.Math

-- laws_toInt64S
theorem laws_toInt64S_l0 (l : List Int) (hl : l.length ≤ 1048576) : ∀ (d k j : Nat) (o : List Int), j + d = l.length → d < k → o.length = l.length → o.take j = l.take j →
    laws_toInt64S.l0 k l o (j : Int) = some l
  | 0, k, j, o, hd, hk, ho, ht => by
    obtain ⟨k, rfl⟩ : ∃ m, k = m + 1 := ⟨k - 1, by omega⟩
    simp only [laws_toInt64S.l0]
    rw [if_neg (by omega)]
    rw [List.take_of_length_le (by omega), List.take_of_length_le (by omega)] at ht
    rw [ht]
  | d + 1, k, j, o, hd, hk, ho, ht => by
    obtain ⟨k, rfl⟩ : ∃ m, k = m + 1 := ⟨k - 1, by omega⟩
    simp only [laws_toInt64S.l0]
    rw [if_pos (by omega), if_pos (by omega), if_pos (by omega), rd_nat l j (by omega), succ64 (by omega), Int.toNat_natCast]
    refine laws_toInt64S_l0 l hl d k (j + 1) _ (by omega) (by omega) (by simpa using ho) ?_
    rw [List.take_add_one, List.take_add_one, List.take_set_of_le (Nat.le_refl j), ht, List.getElem?_set_self (by omega), List.getElem?_eq_getElem (by omega)]
theorem laws_toInt64S_eq (l : List Int) (hl : l.length ≤ 1048576) (k : Nat) (hk : l.length < k) : laws_toInt64S.f k l = some l := by
  unfold laws_toInt64S.f
  rw [if_pos (by omega), if_pos (by omega), Int.toNat_natCast]
  exact laws_toInt64S_l0 l hl l.length k 0 _ (by omega) hk (by simp) (by simp)

-- laws_eqInt64S
theorem laws_eqInt64S_l0 (a b : List Int) (hl : a.length ≤ 1048576) (hab : a.length = b.length) : ∀ (d k j : Nat), j + d = a.length → d < k →
    laws_eqInt64S.l0 k a b (j : Int) = some (decide (a.drop j = b.drop j))
  | 0, k, j, hd, hk => by
    obtain ⟨k, rfl⟩ : ∃ m, k = m + 1 := ⟨k - 1, by omega⟩
    simp only [laws_eqInt64S.l0]
    rw [if_neg (by omega), List.drop_eq_nil_of_le (by omega), List.drop_eq_nil_of_le (by omega)]
    simp
  | d + 1, k, j, hd, hk => by
    obtain ⟨k, rfl⟩ : ∃ m, k = m + 1 := ⟨k - 1, by omega⟩
    simp only [laws_eqInt64S.l0]
    rw [if_pos (by omega), if_pos (by omega), if_pos (by omega), rd_nat a j (by omega), rd_nat b j (by omega), succ64 (by omega), drop_at a j (by omega), drop_at b j (by omega)]
    by_cases h : a[j] = b[j]
    · rw [if_pos h, laws_eqInt64S_l0 a b hl hab d k (j + 1) (by omega) (by omega)]
      simp only [List.cons.injEq, h, true_and]
    · rw [if_neg h]
      simp only [List.cons.injEq, h, false_and, decide_false]
theorem laws_eqInt64S_eq (a b : List Int) (hl : a.length ≤ 1048576) (k : Nat) (hk : a.length < k) : laws_eqInt64S.f k a b = some (decide (a = b)) := by
  unfold laws_eqInt64S.f
  by_cases h : a.length = b.length
  · rw [if_pos (by omega)]
    have := laws_eqInt64S_l0 a b hl h a.length k 0 (by omega) hk
    rw [show ((0 : Nat) : Int) = 0 from rfl, List.drop_zero, List.drop_zero] at this
    exact this
  · rw [if_neg (by omega), decide_eq_false (fun c => h (by rw [c]))]

-- spec_l00In
theorem spec_l00In_eq (a b c : Int) : spec_l00In.f a b c = some (decide (b ≤ a ∧ a ≤ c)) := by
  unfold spec_l00In.f
  by_cases h : b ≤ a <;> simp [h]

-- spec_l05Ok
-- MATH Secs
theorem spec_l05Ok_l0 (l : List Int) (hl : l.length ≤ 1048576) : ∀ (d k j : Nat) (s : Int), j + d = l.length → d < k → 0 ≤ s → s ≤ 16 * j →
    spec_l05Ok.l0 k l s (j : Int) = some (decide ((∀ x ∈ l.drop j, 1 ≤ x ∧ x ≤ 16) ∧ l.length ≤ 16 ∧ s + (l.drop j).sum = 16))
  | 0, k, j, s, hd, hk, h0, h1 => by
    obtain ⟨k, rfl⟩ : ∃ m, k = m + 1 := ⟨k - 1, by omega⟩
    simp only [spec_l05Ok.l0]
    rw [if_neg (by omega), List.drop_eq_nil_of_le (by omega)]
    by_cases h : l.length ≤ 16
    · rw [if_pos (by omega)]
      by_cases h2 : s = 16 <;> simp [h, h2]
    · rw [if_neg (by omega)]
      simp [h]
  | d + 1, k, j, s, hd, hk, h0, h1 => by
    obtain ⟨k, rfl⟩ : ∃ m, k = m + 1 := ⟨k - 1, by omega⟩
    simp only [spec_l05Ok.l0]
    rw [if_pos (by omega), if_pos (by omega), rd_nat l j (by omega), spec_l00In_eq, Option.bind_some, drop_at l j (by omega)]
    by_cases h : 1 ≤ l[j] ∧ l[j] ≤ 16
    · rw [if_pos (by simp [h]), w64 (by omega) (by omega), succ64 (by omega), spec_l05Ok_l0 l hl d k (j + 1) _ (by omega) (by omega) (by omega) (by omega)]
      congr 1
      rw [decide_eq_decide]
      simp only [List.forall_mem_cons, List.sum_cons, h, and_self, true_and, Int.add_assoc]
    · rw [if_neg (by simp [h])]
      rw [decide_eq_false (by simp only [List.forall_mem_cons]; exact fun c => h c.1.1)]
theorem spec_l05Ok_eq (l : List Int) (hl : l.length ≤ 1048576) (k : Nat) (hk : l.length < k) : spec_l05Ok.f k l = some (decide (SecOk l)) := by
  unfold spec_l05Ok.f
  have := spec_l05Ok_l0 l hl l.length k 0 0 (by omega) hk (by omega) (by omega)
  rw [show ((0 : Nat) : Int) = 0 from rfl] at this
  rw [this, List.drop_zero]
  congr 1
  rw [decide_eq_decide]
  unfold SecOk
  constructor
  · rintro ⟨a, b, c⟩; exact ⟨b, a, by omega⟩
  · rintro ⟨b, a, c⟩; exact ⟨a, b, by omega⟩

-- spec_l00Own
theorem spec_l00Own_eq (l : List Int) (hl : l.length ≤ 1048576) : spec_l00Own.f l = some l := by
  unfold spec_l00Own.f
  rw [Option.bind_some, if_pos (by simp; omega)]
  rfl

-- spec_l05Rotated
theorem spec_l05Rotated_eq (l : List Int) (i : Nat) (hl : l.length ≤ 1048576) (hi : i ≤ l.length) : spec_l05Rotated.f l (i : Int) = some (l.drop i ++ l.take i) := by
  unfold spec_l05Rotated.f
  rw [if_pos (by omega), if_pos (by omega), Int.toNat_natCast, spec_l00Own_eq _ (by rw [List.length_drop]; omega), Option.bind_some, if_pos (by rw [List.length_drop, List.length_take]; omega)]

-- spec_l05Mirrored
theorem spec_l05Mirrored_l0 (l : List Int) (hl : l.length ≤ 1048576) : ∀ (j k : Nat) (o : List Int), j < k → j ≤ l.length → o.length + j ≤ l.length → spec_l05Mirrored.l0 k l o ((j : Int) - 1) = some (o ++ (l.take j).reverse)
  | 0, k, o, hk, hj, ho => by
    obtain ⟨k, rfl⟩ : ∃ m, k = m + 1 := ⟨k - 1, by omega⟩
    simp only [spec_l05Mirrored.l0]
    rw [if_neg (by omega)]; simp
  | j + 1, k, o, hk, hj, ho => by
    obtain ⟨k, rfl⟩ : ∃ m, k = m + 1 := ⟨k - 1, by omega⟩
    have e : ((j + 1 : Nat) : Int) - 1 = (j : Int) := by omega
    simp only [spec_l05Mirrored.l0]
    rw [e, if_pos (by omega), if_pos (by omega), if_pos (by omega), if_pos (by omega), rd_nat l j (by omega), w64 (by omega) (by omega), spec_l05Mirrored_l0 l hl j k _ (by omega) (by omega) (by simp; omega),
      List.take_add_one, List.getElem?_eq_getElem (by omega), Option.toList_some, List.reverse_append, List.append_assoc]
    rfl
theorem spec_l05Mirrored_eq (l : List Int) (hl : l.length ≤ 1048576) (k : Nat) (hk : l.length < k) : spec_l05Mirrored.f k l = some l.reverse := by
  unfold spec_l05Mirrored.f
  rw [w64 (by omega) (by omega), spec_l05Mirrored_l0 l hl l.length k [] hk (by omega) (by simp)]
  simp

-- spec_l05Less
-- MATH Lex
theorem spec_l05Less_l0 (a b : List Int) (ha : a.length ≤ 1048576) (hb : b.length ≤ 1048576) : ∀ (d k j : Nat), j + d = a.length → 2 * d + 2 ≤ k →
    spec_l05Less.l0 k a b (j : Int) = some (lexLt (a.drop j) (b.drop j))
  | 0, k, j, hd, hk => by
    obtain ⟨k, rfl⟩ : ∃ m, k = m + 2 := ⟨k - 2, by omega⟩
    simp only [spec_l05Less.l0]
    rw [if_neg (by omega)]
    simp only [spec_l05Less.j1, Bool.false_eq_true, if_false]
    rw [List.drop_eq_nil_of_le (by omega)]
    simp only [lexLt, List.length_drop]
    congr 1
    rw [decide_eq_decide]; omega
  | d + 1, k, j, hd, hk => by
    obtain ⟨k, rfl⟩ : ∃ m, k = m + 2 := ⟨k - 2, by omega⟩
    simp only [spec_l05Less.l0]
    rw [if_pos (by omega)]
    simp only [spec_l05Less.j1, decide_eq_true_eq]
    by_cases h : j < b.length
    · rw [if_pos (by omega), if_pos (by omega), if_pos (by omega), if_pos (by omega), rd_nat a j (by omega), rd_nat b j h, succ64 (by omega), spec_l05Less_l0 a b ha hb d k (j + 1) (by omega) (by omega),
        drop_at a j (by omega), drop_at b j h]
      simp only [lexLt]
      by_cases h2 : a[j] = b[j] <;> simp [h2]
    · rw [if_neg (by omega), drop_at a j (by omega), List.drop_eq_nil_of_le (by omega : b.length ≤ j)]
      simp only [lexLt]
      congr 1
      rw [decide_eq_false (by omega)]
theorem spec_l05Less_eq (a b : List Int) (ha : a.length ≤ 1048576) (hb : b.length ≤ 1048576) (k : Nat) (hk : 2 * a.length + 2 ≤ k) : spec_l05Less.f k a b = some (lexLt a b) := by
  unfold spec_l05Less.f
  have := spec_l05Less_l0 a b ha hb a.length k 0 (by omega) hk
  simpa using this

-- spec_l05Same
theorem spec_l05Same_eq (a b : List Int) (ha : a.length ≤ 1048576) (hb : b.length ≤ 1048576) (k : Nat) (hk : 2 * a.length + 2 ≤ k) (hk2 : 2 * b.length + 2 ≤ k) : spec_l05Same.f k a b = some (decide (a = b)) := by
  unfold spec_l05Same.f
  rw [spec_l05Less_eq a b ha hb k hk, spec_l05Less_eq b a hb ha k hk2, ← lexLt_same a b, Option.bind_some, Option.bind_some]
  cases lexLt a b <;> simp

-- spec_SectorSymmetries
/-- How many rotations, and how many rotations of the mirrored list, are the list itself. -/
def symm (l : List Int) : Nat → Nat → Int → Int → Int × Int
  | 0, _, a, b => (a, b)
  | d + 1, j, a, b => symm l d (j + 1) (if rot l j = l then a + 1 else a) (if rot l.reverse j = l then b + 1 else b)
theorem spec_SectorSymmetries_l0 (l : List Int) (hl : l.length ≤ 1048576) (hv : SecOk l) : ∀ (d k j : Nat) (a b : Int), j + d = l.length → 3 * d + 2 * l.length + 6 ≤ k → 0 ≤ a → a ≤ j → 0 ≤ b → b ≤ j →
    spec_SectorSymmetries.l0 k l a b l.reverse (j : Int) = some (symm l d j a b)
  | 0, k, j, a, b, hd, hk, _, _, _, _ => by
    obtain ⟨k, rfl⟩ : ∃ m, k = m + 2 := ⟨k - 2, by omega⟩
    rw [spec_SectorSymmetries.l0, if_neg (by omega), spec_SectorSymmetries.j1]
    rfl
  | d + 1, k, j, a, b, hd, hk, ha, ha2, hb, hb2 => by
    obtain ⟨k, rfl⟩ : ∃ m, k = m + 3 := ⟨k - 3, by omega⟩
    have hr : (rot l j).length = l.length := rot_length l j (by omega)
    have hr2 : (rot l.reverse j).length = l.length := by rw [rot_length _ _ (by rw [List.length_reverse]; omega), List.length_reverse]
    rw [spec_SectorSymmetries.l0, if_pos (by omega), spec_l05Ok_eq l hl _ (by omega), Option.bind_some, decide_eq_true hv, spec_SectorSymmetries.j1, if_pos rfl, spec_l05Rotated_eq _ j (by omega) (by omega), Option.bind_some,
      show l.drop j ++ l.take j = rot l j from rfl, spec_l05Same_eq _ _ (by omega) (by omega) _ (by omega) (by omega), Option.bind_some]
    have s : ∀ a : Int, 0 ≤ a → a ≤ j + 1 → spec_SectorSymmetries.j2 (k + 1) l a b l.reverse (j : Int) = some (symm l d (j + 1) a (if rot l.reverse j = l then b + 1 else b)) := by
      intro a ha ha2
      rw [spec_SectorSymmetries.j2, spec_l05Rotated_eq _ j (by rw [List.length_reverse]; omega) (by rw [List.length_reverse]; omega), Option.bind_some,
        show l.reverse.drop j ++ l.reverse.take j = rot l.reverse j from rfl, spec_l05Same_eq _ _ (by omega) (by omega) _ (by omega) (by omega), Option.bind_some, succ64 (by omega), w64 (n := b + 1) (by omega) (by omega)]
      by_cases h : rot l.reverse j = l
      · rw [if_pos (by simpa using h), if_pos h, spec_SectorSymmetries_l0 l hl hv d k (j + 1) _ _ (by omega) (by omega) (by omega) (by omega) (by omega) (by omega)]
      · rw [if_neg (by simpa using h), if_neg h, spec_SectorSymmetries_l0 l hl hv d k (j + 1) _ _ (by omega) (by omega) (by omega) (by omega) (by omega) (by omega)]
    rw [w64 (n := a + 1) (by omega) (by omega), symm]
    by_cases h : rot l j = l
    · rw [if_pos (by simpa using h), if_pos h]; exact s _ (by omega) (by omega)
    · rw [if_neg (by simpa using h), if_neg h]; exact s _ (by omega) (by omega)
theorem spec_SectorSymmetries_eq (l : List Int) (hl : l.length ≤ 1048576) (k : Nat) (hk : 5 * l.length + 10 ≤ k) : spec_SectorSymmetries.f k l = some (if SecOk l then symm l l.length 0 0 0 else (0, 0)) := by
  unfold spec_SectorSymmetries.f
  rw [spec_l05Mirrored_eq l hl k (by omega), Option.bind_some]
  by_cases h : SecOk l
  · rw [if_pos h]
    exact spec_SectorSymmetries_l0 l hl h l.length k 0 0 0 (by omega) (by omega) (by omega) (by omega) (by omega) (by omega)
  · rw [if_neg h]
    obtain ⟨k, rfl⟩ : ∃ m, k = m + 2 := ⟨k - 2, by omega⟩
    rw [spec_SectorSymmetries.l0, spec_l05Ok_eq l hl _ (by omega), Option.bind_some, decide_eq_false h, spec_SectorSymmetries.j1]
    simp

-- impl_within
theorem impl_within_eq (a b c : Int) : impl_within.f a b c = some (decide (b ≤ a ∧ a ≤ c)) := by
  unfold impl_within.f
  by_cases h : b ≤ a <;> simp [h]

-- impl_sumOf
theorem impl_sumOf_l0 (l : List Int) (hl : l.length ≤ 1048576) (hb : ∀ x ∈ l, -1048576 ≤ x ∧ x ≤ 1048576) : ∀ (d k j : Nat) (s : Int), j + d = l.length → d < k → -(1048576 * (j : Int)) ≤ s → s ≤ 1048576 * j →
    impl_sumOf.l0 k s l (l.length : Int) (j : Int) = some (s + (l.drop j).sum)
  | 0, k, j, s, hd, hk, h0, h1 => by
    obtain ⟨k, rfl⟩ : ∃ m, k = m + 1 := ⟨k - 1, by omega⟩
    simp only [impl_sumOf.l0]
    rw [if_neg (by omega), List.drop_eq_nil_of_le (by omega)]
    simp
  | d + 1, k, j, s, hd, hk, h0, h1 => by
    obtain ⟨k, rfl⟩ : ∃ m, k = m + 1 := ⟨k - 1, by omega⟩
    have h := hb l[j] (List.getElem_mem (by omega))
    simp only [impl_sumOf.l0]
    rw [if_pos (by omega), if_pos (by omega), if_pos (by omega), rd_nat l j (by omega), drop_at l j (by omega), w64 (by omega) (by omega), succ64 (by omega),
      impl_sumOf_l0 l hl hb d k (j + 1) _ (by omega) (by omega) (by omega) (by omega), List.sum_cons, Int.add_assoc]
theorem impl_sumOf_eq (l : List Int) (hl : l.length ≤ 1048576) (hb : ∀ x ∈ l, -1048576 ≤ x ∧ x ≤ 1048576) (k : Nat) (hk : l.length < k) : impl_sumOf.f k l = some l.sum := by
  unfold impl_sumOf.f
  have := impl_sumOf_l0 l hl hb l.length k 0 0 (by omega) hk (by omega) (by omega)
  rw [show ((0 : Nat) : Int) = 0 from rfl] at this
  rw [this, List.drop_zero, Int.zero_add]

-- impl_ValidSectors
-- MATH Secs
theorem impl_ValidSectors_eq (l : List Int) (hl : l.length ≤ 1048576) (k : Nat) (hk : l.length < k) : impl_ValidSectors.f k l = some (decide (SecOk l)) := by
  unfold impl_ValidSectors.f
  rw [slices_ContainsFunc_int64_int64_impl_ValidSectors_1.eq_any (fun x => !decide (1 ≤ x ∧ x ≤ 16)) l (fun x _ => by unfold impl_ValidSectors_1.f; rw [impl_within_eq, Option.bind_some]), any_not l (fun x => 1 ≤ x ∧ x ≤ 16)]
  by_cases h : l.length ≤ 16
  · rw [if_pos (by omega), Option.bind_some]
    by_cases h2 : ∀ x ∈ l, 1 ≤ x ∧ x ≤ 16
    · rw [decide_eq_true h2, if_neg (by simp), impl_sumOf_eq l hl (fun x hx => by have := h2 x hx; omega) k hk, Option.bind_some]
      congr 1
      by_cases h3 : l.sum = 16
      · rw [decide_eq_true (show SecOk l from ⟨h, h2, h3⟩)]; simpa using h3
      · rw [decide_eq_false (fun c : SecOk l => h3 c.2.2)]; simpa using h3
    · rw [decide_eq_false h2, if_pos (by simp), decide_eq_false (fun c : SecOk l => h2 c.2.1)]
  · rw [if_neg (by omega), decide_eq_false (fun c : SecOk l => h c.1)]

-- slices_Concat_int64_int64
theorem slices_Concat_int64_int64_two (a b : List Int) (hl : a.length + b.length ≤ 1048576) (k : Nat) (hk : 6 ≤ k) : slices_Concat_int64_int64.f k [a, b] = some (a ++ b) := by
  obtain ⟨k, rfl⟩ : ∃ m, k = m + 6 := ⟨k - 6, by omega⟩
  have r0 : rd_L1 [a, b] 0 = a := rfl
  have r1 : rd_L1 [a, b] 1 = b := rfl
  have e0 : wrap64 (a.length : Int) = a.length := by rw [w64 (by omega) (by omega)]
  have e1 : wrap64 ((a.length : Int) + (b.length : Int)) = (a.length : Int) + b.length := w64 (by omega) (by omega)
  have e2 : wrap64 1 = 1 := w64 (n := 1) (by omega) (by omega)
  have e3 : wrap64 2 = 2 := w64 (n := 2) (by omega) (by omega)
  have n0 : ¬ ((a.length : Int) < 0) := by omega
  have n1 : ¬ ((a.length : Int) + (b.length : Int) < 0) := by omega
  have g : slices_Grow_int64_int64_nil.f ((a.length : Int) + b.length) = some [] := by unfold slices_Grow_int64_int64_nil.f; rw [if_pos (by omega)]
  have c1 : a.length < 17592186044416 := by omega
  have c2 : a.length + b.length < 17592186044416 := by omega
  unfold slices_Concat_int64_int64.f
  simp [slices_Concat_int64_int64.l0, slices_Concat_int64_int64.l1, r0, r1, e0, e1, e2, e3, n0, n1, g, c1, c2]

-- impl_turnedList
theorem impl_turnedList_eq (l : List Int) (i : Nat) (hl : l.length ≤ 1048576) (hi : i ≤ l.length) (k : Nat) (hk : 6 ≤ k) : impl_turnedList.f k l (i : Int) = some (l.drop i ++ l.take i) := by
  unfold impl_turnedList.f
  rw [if_pos (by omega), if_pos (by omega), Int.toNat_natCast, slices_Concat_int64_int64_two _ _ (by rw [List.length_drop, List.length_take]; omega) k hk]
  rfl

-- slices_Equal_int64_int64
theorem slices_Equal_int64_int64_l0 (a b : List Int) (hl : a.length ≤ 1048576) (hab : a.length = b.length) : ∀ (d k j : Nat), j + d = a.length → d < k →
    slices_Equal_int64_int64.l0 k a b (a.length : Int) (j : Int) = some (decide (a.drop j = b.drop j))
  | 0, k, j, hd, hk => by
    obtain ⟨k, rfl⟩ : ∃ m, k = m + 1 := ⟨k - 1, by omega⟩
    simp only [slices_Equal_int64_int64.l0]
    rw [if_neg (by omega), List.drop_eq_nil_of_le (by omega), List.drop_eq_nil_of_le (by omega)]
    simp
  | d + 1, k, j, hd, hk => by
    obtain ⟨k, rfl⟩ : ∃ m, k = m + 1 := ⟨k - 1, by omega⟩
    simp only [slices_Equal_int64_int64.l0]
    rw [if_pos (by omega), if_pos (by omega), if_pos (by omega), if_pos (by omega), rd_nat a j (by omega), rd_nat b j (by omega), succ64 (by omega), drop_at a j (by omega), drop_at b j (by omega)]
    by_cases h : a[j] = b[j]
    · rw [if_pos h, slices_Equal_int64_int64_l0 a b hl hab d k (j + 1) (by omega) (by omega)]
      simp only [List.cons.injEq, h, true_and]
    · rw [if_neg h]
      simp only [List.cons.injEq, h, false_and, decide_false]
theorem slices_Equal_int64_int64_eq (a b : List Int) (hl : a.length ≤ 1048576) (k : Nat) (hk : a.length < k) : slices_Equal_int64_int64.f k a b = some (decide (a = b)) := by
  unfold slices_Equal_int64_int64.f
  by_cases h : a.length = b.length
  · rw [if_pos (by omega)]
    have := slices_Equal_int64_int64_l0 a b hl h a.length k 0 (by omega) hk
    rw [show ((0 : Nat) : Int) = 0 from rfl, List.drop_zero, List.drop_zero] at this
    exact this
  · rw [if_neg (by omega), decide_eq_false (fun c => h (by rw [c]))]

-- slices_Reverse_int64_int64
theorem slices_Reverse_int64_int64_l0 (l : List Int) (hl : l.length ≤ 1048576) : ∀ (d k i : Nat) (o : List Int), l.length - 2 * i ≤ d → d < k → 2 * i ≤ l.length → 1 ≤ l.length → o.length = l.length →
    (∀ m, m < l.length → o[m]? = if m < i ∨ l.length - 1 - i < m then l[l.length - 1 - m]? else l[m]?) →
    slices_Reverse_int64_int64.l0 k o (i : Int) ((l.length : Int) - 1 - i) = some l.reverse
  | d, k, i, o, hd, hk, hi, hp, ho, h => by
    obtain ⟨k, rfl⟩ : ∃ m, k = m + 1 := ⟨k - 1, by omega⟩
    simp only [slices_Reverse_int64_int64.l0]
    by_cases hc : (i : Int) < (l.length : Int) - 1 - i
    · match d, hd, hk with
      | 0, hd, _ => omega
      | d + 1, hd, hk =>
      have ej : ((l.length : Int) - 1 - i) = ((l.length - 1 - i : Nat) : Int) := by omega
      rw [if_pos hc, if_pos (by omega), if_pos (by omega), if_pos (by omega), if_pos (by omega), ej, rd_nat o (l.length - 1 - i) (by omega), rd_nat o i (by omega), succ64 (by omega), pred64 (by omega) (by omega), Int.toNat_natCast, Int.toNat_natCast]
      have e2 : ((l.length - 1 - i - 1 : Nat) : Int) = (l.length : Int) - 1 - ((i + 1 : Nat) : Int) := by omega
      rw [e2]
      refine slices_Reverse_int64_int64_l0 l hl d k (i + 1) _ (by omega) (by omega) (by omega) hp (by simpa using ho) (fun m hm => ?_)
      have a1 : o[i] = l[i] := by
        have := h i (by omega)
        rw [if_neg (by omega), List.getElem?_eq_getElem (by omega), List.getElem?_eq_getElem (by omega)] at this
        exact Option.some.inj this
      have a2 : o[l.length - 1 - i] = l[l.length - 1 - i] := by
        have := h (l.length - 1 - i) (by omega)
        rw [if_neg (by omega), List.getElem?_eq_getElem (by omega), List.getElem?_eq_getElem (by omega)] at this
        exact Option.some.inj this
      by_cases m1 : m = l.length - 1 - i
      · subst m1
        rw [List.getElem?_set_self (by simp; omega), if_pos (by omega), a1, show l.length - 1 - (l.length - 1 - i) = i by omega, List.getElem?_eq_getElem (by omega)]
      · rw [List.getElem?_set_ne (by omega)]
        by_cases m2 : m = i
        · subst m2
          rw [List.getElem?_set_self (by omega), if_pos (by omega), a2, List.getElem?_eq_getElem (by omega)]
        · rw [List.getElem?_set_ne (by omega), h m hm]
          by_cases m3 : m < i ∨ l.length - 1 - i < m
          · rw [if_pos m3, if_pos (by omega)]
          · rw [if_neg m3, if_neg (by omega)]
    · rw [if_neg hc]
      congr 1
      refine List.ext_getElem? (fun m => ?_)
      by_cases hm : m < l.length
      · rw [h m hm, List.getElem?_reverse hm]
        by_cases m3 : m < i ∨ l.length - 1 - i < m
        · rw [if_pos m3]
        · rw [if_neg m3, show l.length - 1 - m = m by omega]
      · rw [List.getElem?_eq_none (by omega), List.getElem?_eq_none (by rw [List.length_reverse]; omega)]
theorem slices_Reverse_int64_int64_eq (l : List Int) (hl : l.length ≤ 1048576) (k : Nat) (hk : l.length + 1 < k) : slices_Reverse_int64_int64.f k l = some l.reverse := by
  unfold slices_Reverse_int64_int64.f
  rw [w64 (by omega) (by omega)]
  by_cases h : l.length = 0
  · have : l = [] := List.length_eq_zero_iff.1 h
    subst this
    obtain ⟨k, rfl⟩ : ∃ m, k = m + 1 := ⟨k - 1, by omega⟩
    simp [slices_Reverse_int64_int64.l0]
  · have := slices_Reverse_int64_int64_l0 l hl l.length k 0 l (by omega) (by omega) (by omega) (by omega) rfl (fun m hm => by rw [if_neg (by omega)])
    simpa using this

-- impl_mirrored
theorem impl_mirrored_eq (l : List Int) (hl : l.length ≤ 1048576) (k : Nat) (hk : l.length + 1 < k) : impl_mirrored.f k l = some l.reverse := by
  unfold impl_mirrored.f slices_Clone_int64_int64.f
  rw [if_pos (by omega), Option.bind_some, slices_Reverse_int64_int64_eq l hl k hk]; rfl

-- impl_SectorSymmetries
theorem impl_SectorSymmetries_l0 (l : List Int) (hl : l.length ≤ 1048576) : ∀ (d k j : Nat) (a b : Int), j + d = l.length → 2 * d + 2 * l.length + 10 ≤ k → 0 ≤ a → a ≤ j → 0 ≤ b → b ≤ j →
    impl_SectorSymmetries.l0 k l a b (l.length : Int) (j : Int) = some (symm l d j a b)
  | 0, k, j, a, b, hd, hk, _, _, _, _ => by
    obtain ⟨k, rfl⟩ : ∃ m, k = m + 2 := ⟨k - 2, by omega⟩
    rw [impl_SectorSymmetries.l0, if_neg (by omega)]
    rfl
  | d + 1, k, j, a, b, hd, hk, ha, ha2, hb, hb2 => by
    obtain ⟨k, rfl⟩ : ∃ m, k = m + 2 := ⟨k - 2, by omega⟩
    have hr : (rot l j).length = l.length := rot_length l j (by omega)
    have hr2 : (rot l.reverse j).length = l.length := by rw [rot_length _ _ (by rw [List.length_reverse]; omega), List.length_reverse]
    rw [impl_SectorSymmetries.l0, if_pos (by omega), impl_turnedList_eq _ j (by omega) (by omega) _ (by omega), Option.bind_some,
      show l.drop j ++ l.take j = rot l j from rfl, slices_Equal_int64_int64_eq _ _ (by omega) _ (by omega), Option.bind_some]
    have s : ∀ a : Int, 0 ≤ a → a ≤ j + 1 → impl_SectorSymmetries.j1 (k + 1) l a b (j : Int) (l.length : Int) (j : Int) = some (symm l d (j + 1) a (if rot l.reverse j = l then b + 1 else b)) := by
      intro a ha ha2
      rw [impl_SectorSymmetries.j1, impl_mirrored_eq l hl _ (by omega), Option.bind_some, impl_turnedList_eq _ j (by rw [List.length_reverse]; omega) (by rw [List.length_reverse]; omega) _ (by omega), Option.bind_some,
        show l.reverse.drop j ++ l.reverse.take j = rot l.reverse j from rfl, slices_Equal_int64_int64_eq _ _ (by omega) _ (by omega), Option.bind_some, succ64 (by omega), w64 (n := b + 1) (by omega) (by omega)]
      by_cases h : rot l.reverse j = l
      · rw [if_pos (by simpa using h), if_pos h, impl_SectorSymmetries_l0 l hl d k (j + 1) _ _ (by omega) (by omega) (by omega) (by omega) (by omega) (by omega)]
      · rw [if_neg (by simpa using h), if_neg h, impl_SectorSymmetries_l0 l hl d k (j + 1) _ _ (by omega) (by omega) (by omega) (by omega) (by omega) (by omega)]
    rw [w64 (n := a + 1) (by omega) (by omega), symm]
    by_cases h : rot l j = l
    · rw [if_pos (by simpa using h), if_pos h]; exact s _ (by omega) (by omega)
    · rw [if_neg (by simpa using h), if_neg h]; exact s _ (by omega) (by omega)
theorem impl_SectorSymmetries_eq (l : List Int) (hl : l.length ≤ 1048576) (k : Nat) (hk : 5 * l.length + 10 ≤ k) : impl_SectorSymmetries.f k l = some (if SecOk l then symm l l.length 0 0 0 else (0, 0)) := by
  unfold impl_SectorSymmetries.f
  rw [impl_ValidSectors_eq l hl k (by omega), Option.bind_some]
  by_cases h : SecOk l
  · rw [if_pos h, if_pos (by simp [h])]
    exact impl_SectorSymmetries_l0 l hl l.length k 0 0 0 (by omega) (by omega) (by omega) (by omega) (by omega) (by omega)
  · rw [if_neg h, if_neg (by simp [h])]

theorem FnExactSectorSymmetries : laws_FnExactSectorSymmetries.Pure := by
  intro l _ _ _
  refine ⟨6 * l.length + 30, ?_⟩
  unfold laws_FnExactSectorSymmetries.f
  by_cases hl : (l.length : Int) > 1048576
  · rw [if_pos hl]
  · rw [if_neg hl]
    have hl' : l.length ≤ 1048576 := by omega
    rw [laws_toInt64S_eq l hl' _ (by omega), Option.bind_some, spec_SectorSymmetries_eq l hl' _ (by omega), Option.bind_some, Option.bind_some, impl_SectorSymmetries_eq l hl' _ (by omega), Option.bind_some, if_pos rfl, bne_self_eq_false,
      laws_FnExactSectorSymmetries.j0, if_neg (by simp), laws_toInt64S_eq l hl' _ (by omega), Option.bind_some, laws_eqInt64S_eq l l hl' _ (by omega), Option.bind_some, if_pos (by simp)]

end Go.Proofs.Ytjldcnibdddioaa.Pure
