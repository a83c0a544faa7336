/- What is proved: the program's SectorsOf answers what the reference's answers, at every list. Conditions: none. -/
import Derived.Test.YtbkehpciffponaaPFnExactSectorsOfx4
import Derived.Test.YtbkehpciffponaaMath
import Derived.Test.YtbkehpciffponaaSecs
namespace Go.Proofs.Ytbkehpciffponaa.Pure
open Go.RowKit Go.Proofs.Ytbkehpciffponaa.PFnExactSectorsOf Go.Proofs.YtbkehpciffponaaW.PrintWords Go.Proofs.YtbkehpciffponaaW.PrintLast Go.Proofs.YtbkehpciffponaaW.PrintMore Go.Proofs.Ytbkehpciffponaa.Math

-- laws_toInt64S
theorem laws_toInt64S_l0 (l : List Int) (hl : l.length ≤ 1048576) : ∀ (d k j : Nat) (o : List Int), j + d = l.length → d < k → o.length = l.length → o.take j = l.take j →
    laws_toInt64S.l0 k l o (j : Int) = some l
  | 0, k, j, o, hd, hk, ho, ht => by
    obtain ⟨k, rfl⟩ : ∃ m, k = m + 1 := ⟨k - 1, by omega⟩
    simp only [laws_toInt64S.l0]
    rw [if_neg (by omega)]
    rw [List.take_of_length_le (by omega), List.take_of_length_le (by omega)] at ht
    rw [ht]
  | d + 1, k, j, o, hd, hk, ho, ht => by
    obtain ⟨k, rfl⟩ : ∃ m, k = m + 1 := ⟨k - 1, by omega⟩
    simp only [laws_toInt64S.l0]
    rw [if_pos (by omega), if_pos (by omega), if_pos (by omega), rd_nat l j (by omega), succ64 (by omega), Int.toNat_natCast]
    refine laws_toInt64S_l0 l hl d k (j + 1) _ (by omega) (by omega) (by simpa using ho) ?_
    rw [List.take_add_one, List.take_add_one, List.take_set_of_le (Nat.le_refl j), ht, List.getElem?_set_self (by omega), List.getElem?_eq_getElem (by omega)]
theorem laws_toInt64S_eq (l : List Int) (hl : l.length ≤ 1048576) (k : Nat) (hk : l.length < k) : laws_toInt64S.f k l = some l := by
  unfold laws_toInt64S.f
  rw [if_pos (by omega), if_pos (by omega), Int.toNat_natCast]
  exact laws_toInt64S_l0 l hl l.length k 0 _ (by omega) hk (by simp) (by simp)

-- laws_eqInt64S
theorem laws_eqInt64S_l0 (a b : List Int) (hl : a.length ≤ 1048576) (hab : a.length = b.length) : ∀ (d k j : Nat), j + d = a.length → d < k →
    laws_eqInt64S.l0 k a b (j : Int) = some (decide (a.drop j = b.drop j))
  | 0, k, j, hd, hk => by
    obtain ⟨k, rfl⟩ : ∃ m, k = m + 1 := ⟨k - 1, by omega⟩
    simp only [laws_eqInt64S.l0]
    rw [if_neg (by omega), List.drop_eq_nil_of_le (by omega), List.drop_eq_nil_of_le (by omega)]
    simp
  | d + 1, k, j, hd, hk => by
    obtain ⟨k, rfl⟩ : ∃ m, k = m + 1 := ⟨k - 1, by omega⟩
    simp only [laws_eqInt64S.l0]
    rw [if_pos (by omega), if_pos (by omega), if_pos (by omega), rd_nat a j (by omega), rd_nat b j (by omega), succ64 (by omega), drop_at a j (by omega), drop_at b j (by omega)]
    by_cases h : a[j] = b[j]
    · rw [if_pos h, laws_eqInt64S_l0 a b hl hab d k (j + 1) (by omega) (by omega)]
      simp only [List.cons.injEq, h, true_and]
    · rw [if_neg h]
      simp only [List.cons.injEq, h, false_and, decide_false]
theorem laws_eqInt64S_eq (a b : List Int) (hl : a.length ≤ 1048576) (k : Nat) (hk : a.length < k) : laws_eqInt64S.f k a b = some (decide (a = b)) := by
  unfold laws_eqInt64S.f
  by_cases h : a.length = b.length
  · rw [if_pos (by omega)]
    have := laws_eqInt64S_l0 a b hl h a.length k 0 (by omega) hk
    rw [show ((0 : Nat) : Int) = 0 from rfl, List.drop_zero, List.drop_zero] at this
    exact this
  · rw [if_neg (by omega), decide_eq_false (fun c => h (by rw [c]))]

-- spec_l00In
theorem spec_l00In_eq (a b c : Int) : spec_l00In.f a b c = some (decide (b ≤ a ∧ a ≤ c)) := by
  unfold spec_l00In.f
  by_cases h : b ≤ a <;> simp [h]

-- spec_l05Dirs
-- MATH Secs
theorem spec_l05Dirs_l0 (l : List Int) (hl : l.length ≤ 1048576) : ∀ (d k j : Nat), j + d = l.length → d < k → spec_l05Dirs.l0 k l (j : Int) = some (rises 0 15 (prevOf l j) (l.drop j))
  | 0, k, j, hd, hk => by
    obtain ⟨k, rfl⟩ : ∃ m, k = m + 1 := ⟨k - 1, by omega⟩
    simp only [spec_l05Dirs.l0]
    rw [if_neg (by omega), List.drop_eq_nil_of_le (by omega)]; rfl
  | d + 1, k, j, hd, hk => by
    obtain ⟨k, rfl⟩ : ∃ m, k = m + 1 := ⟨k - 1, by omega⟩
    have ih := spec_l05Dirs_l0 l hl d k (j + 1) (by omega) (by omega)
    rw [show prevOf l (j + 1) = some l[j] by unfold prevOf; rw [if_neg (by omega), Nat.add_sub_cancel, List.getElem?_eq_getElem (by omega)]] at ih
    simp only [spec_l05Dirs.l0]
    rw [if_pos (by omega), if_pos (by omega), rd_nat l j (by omega), spec_l00In_eq, Option.bind_some, drop_at l j (by omega), succ64 (by omega), ih]
    by_cases h : 0 ≤ l[j] ∧ l[j] ≤ 15
    · rw [if_pos (by simp [h])]
      by_cases hj : j = 0
      · subst hj
        rw [if_neg (by omega)]
        simp [rises, prevOf, h]
      · rw [if_pos (by omega), pred64 (by omega) (by omega), if_pos (by omega), if_pos (by omega), rd_nat l (j - 1) (by omega)]
        have ha : prevOf l j = some l[j - 1] := by unfold prevOf; rw [if_neg hj, List.getElem?_eq_getElem (by omega)]
        by_cases hq : l[j] ≤ l[j - 1]
        · rw [if_pos hq, ha]
          have hq' : ¬ l[j - 1] < l[j] := by omega
          simp [rises, hq']
        · rw [if_neg hq, ha]
          have : l[j - 1] < l[j] := by omega
          simp [rises, h, this]
    · rw [if_neg (by simp [h])]
      simp only [rises, decide_eq_false h, Bool.false_and]
theorem spec_l05Dirs_eq (l : List Int) (hl : l.length ≤ 1048576) (k : Nat) (hk : l.length < k) : spec_l05Dirs.f k l = some (rises 0 15 none l) :=
  spec_l05Dirs_l0 l hl l.length k 0 (by omega) hk

-- spec_SectorsOf
-- MATH Secs
theorem spec_SectorsOf_l0 (l : List Int) (hl : l.length ≤ 1048576) (hb : ∀ x ∈ l, 0 ≤ x ∧ x ≤ 15) : ∀ (d k j : Nat) (o : List Int), j + 1 + d = l.length → d < k → o.length ≤ j →
    spec_SectorsOf.l0 k l o ((j + 1 : Nat) : Int) = some (o ++ gaps (rd l 0) (l.drop j), true)
  | 0, k, j, o, hd, hk, ho => by
    obtain ⟨k, rfl⟩ : ∃ m, k = m + 1 := ⟨k - 1, by omega⟩
    simp only [spec_SectorsOf.l0]
    have h := hb l[j] (List.getElem_mem (by omega))
    have h0 := hb l[0] (List.getElem_mem (by omega))
    have e0 : rd l 0 = l[0] := rd_nat l 0 (by omega)
    have e1 : wrap64 ((l.length : Int) - 1) = ((j : Nat) : Int) := by rw [w64 (by omega) (by omega)]; omega
    rw [if_neg (by omega), if_pos (by omega), e1, if_pos (by omega), if_pos (by omega), if_pos (by omega), rd_nat l j (by omega), e0, w64 (n := l[0] + 16) (by omega) (by omega), w64 (n := l[0] + 16 - l[j]) (by omega) (by omega),
      drop_at l j (by omega), List.drop_eq_nil_of_le (by omega), gaps]
  | d + 1, k, j, o, hd, hk, ho => by
    obtain ⟨k, rfl⟩ : ∃ m, k = m + 1 := ⟨k - 1, by omega⟩
    have h := hb l[j] (List.getElem_mem (by omega))
    have h1 := hb l[j + 1] (List.getElem_mem (by omega))
    simp only [spec_SectorsOf.l0]
    rw [if_pos (by omega), if_pos (by omega), pred64 (by omega) (by omega), Nat.add_sub_cancel, if_pos (by omega), if_pos (by omega), if_pos (by omega), succ64 (by omega), rd_nat l (j + 1) (by omega), rd_nat l j (by omega),
      w64 (n := l[j + 1] - l[j]) (by omega) (by omega), spec_SectorsOf_l0 l hl hb d k (j + 1) _ (by omega) (by omega) (by simp; omega), drop_at l j (by omega), drop_at l (j + 1) (by omega)]
    simp only [gaps, List.append_assoc, List.singleton_append]
theorem spec_SectorsOf_eq (l : List Int) (hl : l.length ≤ 1048576) (k : Nat) (hk : l.length + 1 < k) : spec_SectorsOf.f k l = some (if l.length ≠ 0 ∧ rises 0 15 none l = true then (gaps (rd l 0) l, true) else ([], false)) := by
  unfold spec_SectorsOf.f
  rw [spec_l05Dirs_eq l hl k (by omega)]
  obtain ⟨k, rfl⟩ : ∃ m, k = m + 1 := ⟨k - 1, by omega⟩
  simp only [spec_SectorsOf.j0, Option.bind_some]
  by_cases h0 : l.length = 0
  · rw [if_pos (by omega), if_pos trivial, if_neg (fun c => c.1 h0)]
  · rw [if_neg (by omega)]
    by_cases h : rises 0 15 none l = true
    · rw [if_neg (by simp [h]), if_pos ⟨h0, h⟩]
      have := spec_SectorsOf_l0 l hl (rises_mem h) (l.length - 1) k 0 [] (by omega) (by omega) (by simp)
      simpa using this
    · rw [if_pos (by simpa using h), if_neg (fun c => h c.2)]

-- impl_within
theorem impl_within_eq (a b c : Int) : impl_within.f a b c = some (decide (b ≤ a ∧ a ≤ c)) := by
  unfold impl_within.f
  by_cases h : b ≤ a <;> simp [h]

-- impl_isRising
-- MATH Secs
theorem impl_isRising_l0 (l : List Int) (lo hi : Int) (hl : l.length ≤ 1048576) : ∀ (d k j : Nat), j + d = l.length → d < k → impl_isRising.l0 k l lo hi l (l.length : Int) (j : Int) = some (rises lo hi (prevOf l j) (l.drop j))
  | 0, k, j, hd, hk => by
    obtain ⟨k, rfl⟩ : ∃ m, k = m + 1 := ⟨k - 1, by omega⟩
    simp only [impl_isRising.l0]
    rw [if_neg (by omega), List.drop_eq_nil_of_le (by omega)]; rfl
  | d + 1, k, j, hd, hk => by
    obtain ⟨k, rfl⟩ : ∃ m, k = m + 1 := ⟨k - 1, by omega⟩
    have ih := impl_isRising_l0 l lo hi hl d k (j + 1) (by omega) (by omega)
    rw [show prevOf l (j + 1) = some l[j] by unfold prevOf; rw [if_neg (by omega), Nat.add_sub_cancel, List.getElem?_eq_getElem (by omega)]] at ih
    simp only [impl_isRising.l0]
    rw [if_pos (by omega), if_pos (by omega), if_pos (by omega), rd_nat l j (by omega), impl_within_eq, Option.bind_some, drop_at l j (by omega), succ64 (by omega), ih]
    by_cases h : lo ≤ l[j] ∧ l[j] ≤ hi
    · rw [if_pos (by simp [h])]
      by_cases hj : j = 0
      · subst hj
        rw [if_neg (by omega)]
        simp [rises, prevOf, h]
      · rw [if_pos (by omega), pred64 (by omega) (by omega), if_pos (by omega), if_pos (by omega), rd_nat l (j - 1) (by omega)]
        have ha : prevOf l j = some l[j - 1] := by unfold prevOf; rw [if_neg hj, List.getElem?_eq_getElem (by omega)]
        by_cases hq : l[j] ≤ l[j - 1]
        · rw [if_pos (by omega), ha]
          have hq' : ¬ l[j - 1] < l[j] := by omega
          simp [rises, hq']
        · rw [if_neg (by omega), ha]
          have : l[j - 1] < l[j] := by omega
          simp [rises, h, this]
    · rw [if_neg (by simp [h])]
      simp only [rises, decide_eq_false h, Bool.false_and]
theorem impl_isRising_eq (l : List Int) (lo hi : Int) (hl : l.length ≤ 1048576) (k : Nat) (hk : l.length < k) : impl_isRising.f k l lo hi = some (rises lo hi none l) :=
  impl_isRising_l0 l lo hi hl l.length k 0 (by omega) hk

-- impl_sectorsOf
-- MATH Secs
theorem impl_sectorsOf_l0 (l : List Int) (hl : l.length ≤ 1048576) (hb : ∀ x ∈ l, 0 ≤ x ∧ x ≤ 15) : ∀ (d k j : Nat) (o : List Int), j + d = l.length → d < k → o.length ≤ j →
    impl_sectorsOf.l0 k l o l (l.length : Int) (j : Int) = some (o ++ gaps (rd l 0) (l.drop j))
  | 0, k, j, o, hd, hk, ho => by
    obtain ⟨k, rfl⟩ : ∃ m, k = m + 1 := ⟨k - 1, by omega⟩
    simp only [impl_sectorsOf.l0]
    rw [if_neg (by omega), List.drop_eq_nil_of_le (by omega)]
    simp [gaps]
  | d + 1, k, j, o, hd, hk, ho => by
    obtain ⟨k, rfl⟩ : ∃ m, k = m + 1 := ⟨k - 1, by omega⟩
    have h := hb l[j] (List.getElem_mem (by omega))
    have h0 := hb l[0] (List.getElem_mem (by omega))
    have e0 : rd l 0 = l[0] := rd_nat l 0 (by omega)
    simp only [impl_sectorsOf.l0]
    rw [if_pos (by omega), if_pos (by omega), if_pos (by omega), if_pos (by omega), succ64 (by omega), rd_nat l j (by omega), drop_at l j (by omega)]
    cases d with
    | zero =>
      rw [if_neg (by omega), if_pos (by omega), e0, w64 (n := l[0] + 16) (by omega) (by omega), w64 (n := l[0] + 16 - l[j]) (by omega) (by omega), ← e0, impl_sectorsOf_l0 l hl hb 0 k (j + 1) _ (by omega) (by omega) (by simp; omega), List.drop_eq_nil_of_le (by omega)]
      simp [gaps]
    | succ d =>
      have h1 := hb l[j + 1] (List.getElem_mem (by omega))
      rw [if_pos (by omega), if_pos (by omega), if_pos (by omega), rd_nat l (j + 1) (by omega), w64 (n := l[j + 1] - l[j]) (by omega) (by omega), impl_sectorsOf_l0 l hl hb (d + 1) k (j + 1) _ (by omega) (by omega) (by simp; omega), drop_at l (j + 1) (by omega)]
      simp only [gaps, List.append_assoc, List.singleton_append]
theorem impl_sectorsOf_eq (l : List Int) (hl : l.length ≤ 1048576) (hb : ∀ x ∈ l, 0 ≤ x ∧ x ≤ 15) (k : Nat) (hk : l.length < k) : impl_sectorsOf.f k l = some (gaps (rd l 0) l) := by
  unfold impl_sectorsOf.f
  have := impl_sectorsOf_l0 l hl hb l.length k 0 [] (by omega) hk (by simp)
  simpa using this

-- impl_SectorsOf
-- MATH Secs
theorem impl_SectorsOf_eq (l : List Int) (hl : l.length ≤ 1048576) (k : Nat) (hk : l.length + 1 < k) : impl_SectorsOf.f k l = some (if l.length ≠ 0 ∧ rises 0 15 none l = true then (gaps (rd l 0) l, true) else ([], false)) := by
  unfold impl_SectorsOf.f
  rw [impl_isRising_eq l 0 15 hl k (by omega), Option.bind_some]
  by_cases h0 : l.length = 0
  · rw [if_pos (by omega), if_neg (fun c => c.1 h0)]
  · rw [if_neg (by omega)]
    by_cases h : rises 0 15 none l = true
    · rw [if_pos h, if_pos ⟨h0, h⟩, impl_sectorsOf_eq l hl (rises_mem h) k (by omega)]; rfl
    · rw [if_neg h, if_neg (fun c => h c.2)]

-- laws_markInt64S
/-- The marks: a, a + 1, .. -/
def marks (a : Int) : Nat → List Int
  | 0 => []
  | n + 1 => a :: marks (a + 1) n
theorem marks_length : ∀ (n : Nat) (a : Int), (marks a n).length = n
  | 0, _ => rfl
  | n + 1, a => by simp [marks, marks_length n]
theorem marks_snoc : ∀ (n : Nat) (a : Int), marks a (n + 1) = marks a n ++ [a + n]
  | 0, a => by simp [marks]
  | n + 1, a => by
    rw [marks, marks_snoc n (a + 1)]
    simp only [marks, List.cons_append, List.cons.injEq, List.append_cancel_left_eq, and_true, true_and]
    omega
theorem laws_markInt64S_l0 (l : List Int) (hl : l.length ≤ 1048576) : ∀ (d k j : Nat) (o : List Int), j + d = l.length → d < k → o.length = l.length → o.take j = marks 1 j →
    laws_markInt64S.l0 k o (1 + j : Int) (j : Int) = some ((1 + l.length : Int), marks 1 l.length)
  | 0, k, j, o, hd, hk, ho, ht => by
    obtain ⟨k, rfl⟩ : ∃ m, k = m + 1 := ⟨k - 1, by omega⟩
    simp only [laws_markInt64S.l0]
    rw [if_neg (by omega)]
    obtain rfl : j = l.length := by omega
    rw [List.take_of_length_le (by omega)] at ht
    rw [ht]
  | d + 1, k, j, o, hd, hk, ho, ht => by
    obtain ⟨k, rfl⟩ : ∃ m, k = m + 1 := ⟨k - 1, by omega⟩
    simp only [laws_markInt64S.l0]
    rw [if_pos (by omega), if_pos (by omega), succ64 (by omega), Int.toNat_natCast, w64 (n := 1 + (j : Int) + 1) (by omega) (by omega)]
    have := laws_markInt64S_l0 l hl d k (j + 1) (o.set j (1 + j)) (by omega) (by omega) (by simpa using ho) (by
      rw [List.take_add_one, List.take_set_of_le (Nat.le_refl j), ht, List.getElem?_set_self (by omega), marks_snoc]
      simp)
    rw [← this]
    congr 1
theorem laws_markInt64S_eq (l : List Int) (hl : l.length ≤ 1048576) (k : Nat) (hk : l.length < k) : laws_markInt64S.f k l 1 = some ((1 + l.length : Int), marks 1 l.length) := by
  unfold laws_markInt64S.f
  have := laws_markInt64S_l0 l hl l.length k 0 l (by omega) hk rfl (by simp [marks])
  simpa using this

-- laws_heldInt64S
theorem laws_heldInt64S_l0 (n : Nat) (hn : n ≤ 1048576) : ∀ (d k j : Nat), j + d = n → d < k →
    laws_heldInt64S.l0 k (marks 1 n) (1 + j : Int) (j : Int) = some (1 + n : Int)
  | 0, k, j, hd, hk => by
    obtain ⟨k, rfl⟩ : ∃ m, k = m + 1 := ⟨k - 1, by omega⟩
    simp only [laws_heldInt64S.l0]
    rw [if_neg (by rw [marks_length]; omega)]
    obtain rfl : j = n := by omega
    rfl
  | d + 1, k, j, hd, hk => by
    obtain ⟨k, rfl⟩ : ∃ m, k = m + 1 := ⟨k - 1, by omega⟩
    have hm : ∀ (n j : Nat) (a : Int) (h : j < (marks a n).length), (marks a n)[j] = a + j := by
      intro n
      induction n with
      | zero => intro j a h; simp [marks] at h
      | succ n ih =>
        intro j a h
        cases j with
        | zero => simp [marks]
        | succ j =>
          have := ih j (a + 1) (by simpa [marks] using h)
          simp only [marks, List.getElem_cons_succ]
          rw [this]; omega
    simp only [laws_heldInt64S.l0]
    rw [if_pos (by rw [marks_length]; omega), if_pos (by omega), rd_nat _ j (by rw [marks_length]; omega), hm, if_pos rfl, succ64 (by omega), w64 (n := 1 + (j : Int) + 1) (by omega) (by omega)]
    rw [← laws_heldInt64S_l0 n hn d k (j + 1) (by omega) (by omega)]
    congr 1
theorem laws_heldInt64S_eq (n : Nat) (hn : n ≤ 1048576) (k : Nat) (hk : n < k) : laws_heldInt64S.f k (marks 1 n) 1 = some (1 + n : Int) := by
  unfold laws_heldInt64S.f
  have := laws_heldInt64S_l0 n hn n k 0 (by omega) hk
  simpa using this

theorem FnExactSectorsOf : laws_FnExactSectorsOf.Pure := by
  intro l _ _ _
  refine ⟨l.length + 10, ?_⟩
  unfold laws_FnExactSectorsOf.f
  by_cases hl : (l.length : Int) > 1048576
  · rw [if_pos hl]
  · rw [if_neg hl]
    have hl' : l.length ≤ 1048576 := by omega
    obtain ⟨r, hr⟩ : ∃ r : List Int × Bool, r = (if l.length ≠ 0 ∧ rises 0 15 none l = true then (gaps (rd l 0) l, true) else ([], false)) := ⟨_, rfl⟩
    have hs : ∀ k, l.length + 1 < k → spec_SectorsOf.f k l = some r := fun k hk => by rw [hr]; exact spec_SectorsOf_eq l hl' k hk
    have hi : ∀ k, l.length + 1 < k → impl_SectorsOf.f k l = some r := fun k hk => by rw [hr]; exact impl_SectorsOf_eq l hl' k hk
    have hrl : r.1.length ≤ l.length := by
      rw [hr]; split
      · exact Nat.le_of_eq (gaps_length _ _)
      · simp
    clear hr
    obtain ⟨a, b⟩ := r
    have hra : a.length ≤ l.length := hrl
    simp (disch := omega) only [laws_toInt64S_eq, hs, hi, Option.bind_some, laws_eqInt64S_eq, decide_true, if_true, bne_self_eq_false]
    simp (disch := omega) only [laws_FnExactSectorsOf.j0, laws_toInt64S_eq, laws_eqInt64S_eq, laws_markInt64S_eq, Option.bind_some, decide_true, if_true, if_false, bne_self_eq_false, Bool.false_eq_true, one_add_neg]
    simp (disch := omega) only [laws_FnExactSectorsOf.j1, laws_toInt64S_eq, hi, laws_eqInt64S_eq, laws_markInt64S_eq, laws_heldInt64S_eq, Option.bind_some, decide_true, if_true, if_false, bne_self_eq_false, Bool.false_eq_true, one_add_neg]
    simp (disch := omega) only [laws_FnExactSectorsOf.j2, laws_heldInt64S_eq, Option.bind_some, if_true, if_false, Bool.false_eq_true, one_add_neg]

end Go.Proofs.Ytbkehpciffponaa.Pure
