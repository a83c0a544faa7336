/- What is proved: the program's LittleRuns answers what the reference's answers, at every list. Conditions: none. -/
import Derived.Test.YtjldcnibdddioaaPFnExactLittleRunsx
import Derived.Test.YtjldcnibdddioaaMath
import Derived.Test.YtjldcnibdddioaaSecs
namespace Go.Proofs.Ytjldcnibdddioaa.Pure
open Go.RowKit Go.Proofs.Ytjldcnibdddioaa.PFnExactLittleRuns Go.Proofs.YtjldcnibdddioaaW.PrintWords Go.Proofs.YtjldcnibdddioaaW.PrintLast Go.Proofs.YtjldcnibdddioaaW.PrintMore Go.Proofs.Ytjldcnibdddioaa.Math

-- laws_toInt64S
theorem laws_toInt64S_l0 (l : List Int) (hl : l.length ≤ 1048576) : ∀ (d k j : Nat) (o : List Int), j + d = l.length → d < k → o.length = l.length → o.take j = l.take j →
    laws_toInt64S.l0 k l o (j : Int) = some l
  | 0, k, j, o, hd, hk, ho, ht => by
    obtain ⟨k, rfl⟩ : ∃ m, k = m + 1 := ⟨k - 1, by omega⟩
    simp only [laws_toInt64S.l0]
    rw [if_neg (by omega)]
    rw [List.take_of_length_le (by omega), List.take_of_length_le (by omega)] at ht
    rw [ht]
  | d + 1, k, j, o, hd, hk, ho, ht => by
    obtain ⟨k, rfl⟩ : ∃ m, k = m + 1 := ⟨k - 1, by omega⟩
    simp only [laws_toInt64S.l0]
    rw [if_pos (by omega), if_pos (by omega), if_pos (by omega), rd_nat l j (by omega), succ64 (by omega), Int.toNat_natCast]
    refine laws_toInt64S_l0 l hl d k (j + 1) _ (by omega) (by omega) (by simpa using ho) ?_
    rw [List.take_add_one, List.take_add_one, List.take_set_of_le (Nat.le_refl j), ht, List.getElem?_set_self (by omega), List.getElem?_eq_getElem (by omega)]
theorem laws_toInt64S_eq (l : List Int) (hl : l.length ≤ 1048576) (k : Nat) (hk : l.length < k) : laws_toInt64S.f k l = some l := by
  unfold laws_toInt64S.f
  rw [if_pos (by omega), if_pos (by omega), Int.toNat_natCast]
  exact laws_toInt64S_l0 l hl l.length k 0 _ (by omega) hk (by simp) (by simp)

-- laws_eqInt64S
theorem laws_eqInt64S_l0 (a b : List Int) (hl : a.length ≤ 1048576) (hab : a.length = b.length) : ∀ (d k j : Nat), j + d = a.length → d < k →
    laws_eqInt64S.l0 k a b (j : Int) = some (decide (a.drop j = b.drop j))
  | 0, k, j, hd, hk => by
    obtain ⟨k, rfl⟩ : ∃ m, k = m + 1 := ⟨k - 1, by omega⟩
    simp only [laws_eqInt64S.l0]
    rw [if_neg (by omega), List.drop_eq_nil_of_le (by omega), List.drop_eq_nil_of_le (by omega)]
    simp
  | d + 1, k, j, hd, hk => by
    obtain ⟨k, rfl⟩ : ∃ m, k = m + 1 := ⟨k - 1, by omega⟩
    simp only [laws_eqInt64S.l0]
    rw [if_pos (by omega), if_pos (by omega), if_pos (by omega), rd_nat a j (by omega), rd_nat b j (by omega), succ64 (by omega), drop_at a j (by omega), drop_at b j (by omega)]
    by_cases h : a[j] = b[j]
    · rw [if_pos h, laws_eqInt64S_l0 a b hl hab d k (j + 1) (by omega) (by omega)]
      simp only [List.cons.injEq, h, true_and]
    · rw [if_neg h]
      simp only [List.cons.injEq, h, false_and, decide_false]
theorem laws_eqInt64S_eq (a b : List Int) (hl : a.length ≤ 1048576) (k : Nat) (hk : a.length < k) : laws_eqInt64S.f k a b = some (decide (a = b)) := by
  unfold laws_eqInt64S.f
  by_cases h : a.length = b.length
  · rw [if_pos (by omega)]
    have := laws_eqInt64S_l0 a b hl h a.length k 0 (by omega) hk
    rw [show ((0 : Nat) : Int) = 0 from rfl, List.drop_zero, List.drop_zero] at this
    exact this
  · rw [if_neg (by omega), decide_eq_false (fun c => h (by rw [c]))]

-- laws_markInt64S
/-- The marks: a, a + 1, .. -/
def marks (a : Int) : Nat → List Int
  | 0 => []
  | n + 1 => a :: marks (a + 1) n
theorem marks_length : ∀ (n : Nat) (a : Int), (marks a n).length = n
  | 0, _ => rfl
  | n + 1, a => by simp [marks, marks_length n]
theorem marks_snoc : ∀ (n : Nat) (a : Int), marks a (n + 1) = marks a n ++ [a + n]
  | 0, a => by simp [marks]
  | n + 1, a => by
    rw [marks, marks_snoc n (a + 1)]
    simp only [marks, List.cons_append, List.cons.injEq, List.append_cancel_left_eq, and_true, true_and]
    omega
theorem laws_markInt64S_l0 (l : List Int) (hl : l.length ≤ 1048576) : ∀ (d k j : Nat) (o : List Int), j + d = l.length → d < k → o.length = l.length → o.take j = marks 1 j →
    laws_markInt64S.l0 k o (1 + j : Int) (j : Int) = some ((1 + l.length : Int), marks 1 l.length)
  | 0, k, j, o, hd, hk, ho, ht => by
    obtain ⟨k, rfl⟩ : ∃ m, k = m + 1 := ⟨k - 1, by omega⟩
    simp only [laws_markInt64S.l0]
    rw [if_neg (by omega)]
    obtain rfl : j = l.length := by omega
    rw [List.take_of_length_le (by omega)] at ht
    rw [ht]
  | d + 1, k, j, o, hd, hk, ho, ht => by
    obtain ⟨k, rfl⟩ : ∃ m, k = m + 1 := ⟨k - 1, by omega⟩
    simp only [laws_markInt64S.l0]
    rw [if_pos (by omega), if_pos (by omega), succ64 (by omega), Int.toNat_natCast, w64 (n := 1 + (j : Int) + 1) (by omega) (by omega)]
    have := laws_markInt64S_l0 l hl d k (j + 1) (o.set j (1 + j)) (by omega) (by omega) (by simpa using ho) (by
      rw [List.take_add_one, List.take_set_of_le (Nat.le_refl j), ht, List.getElem?_set_self (by omega), marks_snoc]
      simp)
    rw [← this]
    congr 1
theorem laws_markInt64S_eq (l : List Int) (hl : l.length ≤ 1048576) (k : Nat) (hk : l.length < k) : laws_markInt64S.f k l 1 = some ((1 + l.length : Int), marks 1 l.length) := by
  unfold laws_markInt64S.f
  have := laws_markInt64S_l0 l hl l.length k 0 l (by omega) hk rfl (by simp [marks])
  simpa using this

-- impl_within
theorem impl_within_eq (a b c : Int) : impl_within.f a b c = some (decide (b ≤ a ∧ a ≤ c)) := by
  unfold impl_within.f
  by_cases h : b ≤ a <;> simp [h]

-- impl_sumOf
theorem impl_sumOf_l0 (l : List Int) (hl : l.length ≤ 1048576) (hb : ∀ x ∈ l, -1048576 ≤ x ∧ x ≤ 1048576) : ∀ (d k j : Nat) (s : Int), j + d = l.length → d < k → -(1048576 * (j : Int)) ≤ s → s ≤ 1048576 * j →
    impl_sumOf.l0 k s l (l.length : Int) (j : Int) = some (s + (l.drop j).sum)
  | 0, k, j, s, hd, hk, h0, h1 => by
    obtain ⟨k, rfl⟩ : ∃ m, k = m + 1 := ⟨k - 1, by omega⟩
    simp only [impl_sumOf.l0]
    rw [if_neg (by omega), List.drop_eq_nil_of_le (by omega)]
    simp
  | d + 1, k, j, s, hd, hk, h0, h1 => by
    obtain ⟨k, rfl⟩ : ∃ m, k = m + 1 := ⟨k - 1, by omega⟩
    have h := hb l[j] (List.getElem_mem (by omega))
    simp only [impl_sumOf.l0]
    rw [if_pos (by omega), if_pos (by omega), if_pos (by omega), rd_nat l j (by omega), drop_at l j (by omega), w64 (by omega) (by omega), succ64 (by omega),
      impl_sumOf_l0 l hl hb d k (j + 1) _ (by omega) (by omega) (by omega) (by omega), List.sum_cons, Int.add_assoc]
theorem impl_sumOf_eq (l : List Int) (hl : l.length ≤ 1048576) (hb : ∀ x ∈ l, -1048576 ≤ x ∧ x ≤ 1048576) (k : Nat) (hk : l.length < k) : impl_sumOf.f k l = some l.sum := by
  unfold impl_sumOf.f
  have := impl_sumOf_l0 l hl hb l.length k 0 0 (by omega) hk (by omega) (by omega)
  rw [show ((0 : Nat) : Int) = 0 from rfl] at this
  rw [this, List.drop_zero, Int.zero_add]

-- impl_ValidSectors
-- MATH Secs
theorem impl_ValidSectors_eq (l : List Int) (hl : l.length ≤ 1048576) (k : Nat) (hk : l.length < k) : impl_ValidSectors.f k l = some (decide (SecOk l)) := by
  unfold impl_ValidSectors.f
  rw [slices_ContainsFunc_int64_int64_impl_ValidSectors_1.eq_any (fun x => !decide (1 ≤ x ∧ x ≤ 16)) l (fun x _ => by unfold impl_ValidSectors_1.f; rw [impl_within_eq, Option.bind_some]), any_not l (fun x => 1 ≤ x ∧ x ≤ 16)]
  by_cases h : l.length ≤ 16
  · rw [if_pos (by omega), Option.bind_some]
    by_cases h2 : ∀ x ∈ l, 1 ≤ x ∧ x ≤ 16
    · rw [decide_eq_true h2, if_neg (by simp), impl_sumOf_eq l hl (fun x hx => by have := h2 x hx; omega) k hk, Option.bind_some]
      congr 1
      by_cases h3 : l.sum = 16
      · rw [decide_eq_true (show SecOk l from ⟨h, h2, h3⟩)]; simpa using h3
      · rw [decide_eq_false (fun c : SecOk l => h3 c.2.2)]; simpa using h3
    · rw [decide_eq_false h2, if_pos (by simp), decide_eq_false (fun c : SecOk l => h2 c.2.1)]
  · rw [if_neg (by omega), decide_eq_false (fun c : SecOk l => h c.1)]

-- impl_littleRuns
-- MATH Secs
theorem tmodN (a b : Nat) : Int.tmod (a : Int) (b : Int) = ((a % b : Nat) : Int) := rfl
/-- The sector at a place, around. -/
def at' (l : List Int) (i : Nat) : Int := rd l ((i % l.length : Nat) : Int)
/-- How long the run at place i is, told from its place m on, where d places may still be looked at. -/
def runAt (l : List Int) (i : Nat) : Nat → Nat → Int
  | 0, m => m
  | d + 1, m => if at' l (i + m) = at' l i then runAt l i d (m + 1) else if at' l (i + m) < at' l i then 0 else m
theorem runAt_bd (l : List Int) (i : Nat) : ∀ d m : Nat, 0 ≤ runAt l i d m ∧ runAt l i d m ≤ m + d
  | 0, m => by simp only [runAt]; omega
  | d + 1, m => by
    have := runAt_bd l i d (m + 1)
    simp only [runAt]
    split
    · omega
    · split <;> omega
def addR (l : List Int) (i : Nat) (o : List S34) (r : Int) : List S34 := if r > 0 then o ++ [⟨i, r, at' l i⟩] else o
theorem addR_pos {l : List Int} {i : Nat} {o : List S34} {r : Int} (h : r > 0) : addR l i o r = o ++ [⟨i, r, at' l i⟩] := if_pos h
theorem addR_zero {l : List Int} {i : Nat} {o : List S34} {r : Int} (h : ¬ r > 0) : addR l i o r = o := if_neg h
def runStep (l : List Int) (i : Nat) (o : List S34) : List S34 :=
  if at' l (i + l.length - 1) ≤ at' l i then o else addR l i o (runAt l i (l.length - 2) 1)
def runsF (l : List Int) : Nat → Nat → List S34 → List S34
  | 0, _, o => o
  | d + 1, i, o => runsF l d (i + 1) (runStep l i o)
theorem runStep_length (l : List Int) (i : Nat) (o : List S34) : (runStep l i o).length ≤ o.length + 1 := by
  unfold runStep; split
  · omega
  · unfold addR; split <;> simp
theorem runsF_length (l : List Int) : ∀ (d i : Nat) (o : List S34), (runsF l d i o).length ≤ o.length + d
  | 0, _, _ => by simp [runsF]
  | d + 1, i, o => by
    have := runsF_length l d (i + 1) (runStep l i o)
    have := runStep_length l i o
    simp only [runsF]; omega
theorem at'_self (l : List Int) (i : Nat) (h : i < l.length) : rd l (i : Int) = at' l i := by unfold at'; rw [Nat.mod_eq_of_lt h]
theorem idx (l : List Int) (a : Nat) (_ : l.length ≤ 1048576) (ha : a ≤ 2097152) : Int.tmod (wrap64 (a : Int)) (l.length : Int) = ((a % l.length : Nat) : Int) := by rw [w64 (by omega) (by omega), tmodN]
theorem idx_lt (l : List Int) (a : Nat) (h : 0 < l.length) : ((a % l.length : Nat) : Int) < (l.length : Int) := by have := Nat.mod_lt a h; omega
/-- The place of the one before place i, looked at from place i on. -/
theorem at'_last (l : List Int) (i m : Nat) (_ : i < l.length) (hm : m + 1 = l.length) : at' l (i + m) = at' l (i + l.length - 1) := by rw [show i + m = i + l.length - 1 by omega]
set_option linter.unusedVariables false in
theorem impl_littleRuns_l1 (l : List Int) (hl : l.length ≤ 16) (i : Nat) (hi : i < l.length) (hp : ¬ at' l (i + l.length - 1) ≤ at' l i) (K : Nat) (o : List S34) (ho : o.length ≤ i) (res : List S34 → List S34)
    (hres : ∀ k o, K ≤ k → o.length ≤ i + 1 → impl_littleRuns.l0 k l (l.length : Int) o l (l.length : Int) ((i + 1 : Nat) : Int) = some (res o)) :
    ∀ (d k m : Nat), m + d + 1 = l.length → d + 1 + K ≤ k → impl_littleRuns.l1 k l (l.length : Int) o (i : Int) (at' l i) (m : Int) l (l.length : Int) (i : Int) =
      some (res (addR l i o (runAt l i d m)))
  | 0, k, m, hm, hk => by
    obtain ⟨k, rfl⟩ : ∃ m, k = m + 1 := ⟨k - 1, by omega⟩
    have hd := idx l (i + m) (by omega) (by omega)
    rw [show ((i + m : Nat) : Int) = (i : Int) + m by omega] at hd
    have hv : at' l (i + m) > at' l i := by rw [at'_last l i m hi (by omega)]; omega
    have hz : ¬ (l.length : Int) = 0 := by omega
    simp only [impl_littleRuns.l1]
    rw [if_pos (by omega), if_neg hz, hd, if_pos (by omega), if_pos (idx_lt l _ (by omega)), show rd l ((((i + m) % l.length : Nat)) : Int) = at' l (i + m) from rfl, if_neg (by omega), if_pos hv, if_pos (by omega), succ64 (by omega), hres _ _ (by omega) (by simp; omega)]
    simp only [runAt]
    by_cases h0 : m = 0
    · subst h0
      exfalso
      have e : i = 0 := by omega
      subst e
      rw [show (0 + l.length - 1 : Nat) = 0 by omega] at hp
      omega
    · rw [addR_pos (by omega)]
  | d + 1, k, m, hm, hk => by
    obtain ⟨k, rfl⟩ : ∃ m, k = m + 1 := ⟨k - 1, by omega⟩
    have hd := idx l (i + m) (by omega) (by omega)
    rw [show ((i + m : Nat) : Int) = (i : Int) + m by omega] at hd
    have hz : ¬ (l.length : Int) = 0 := by omega
    simp only [impl_littleRuns.l1]
    rw [if_pos (by omega), if_neg hz, hd, if_pos (by omega), if_pos (idx_lt l _ (by omega)), show rd l ((((i + m) % l.length : Nat)) : Int) = at' l (i + m) from rfl, succ64 (by omega), succ64 (by omega)]
    simp only [runAt]
    by_cases h : at' l (i + m) = at' l i
    · rw [if_pos h, if_pos h]
      exact impl_littleRuns_l1 l hl i hi hp K o ho res hres d k (m + 1) (by omega) (by omega)
    · rw [if_neg h, if_neg h]
      by_cases h2 : at' l (i + m) < at' l i
      · rw [if_neg (by omega), if_pos h2, hres _ _ (by omega) (by omega), addR_zero (by omega)]
      · rw [if_pos (by omega), if_neg h2, if_pos (by omega), hres _ _ (by omega) (by simp; omega)]
        by_cases h0 : m = 0
        · subst h0; exact absurd rfl h
        · rw [addR_pos (by omega)]
theorem impl_littleRuns_l0 (l : List Int) (hl : l.length ≤ 16) : ∀ (d k i : Nat) (o : List S34), i + d = l.length → 20 * d + 1 ≤ k → o.length ≤ i →
    impl_littleRuns.l0 k l (l.length : Int) o l (l.length : Int) (i : Int) = some (runsF l d i o)
  | 0, k, i, o, hd, hk, ho => by
    obtain ⟨k, rfl⟩ : ∃ m, k = m + 1 := ⟨k - 1, by omega⟩
    simp only [impl_littleRuns.l0]
    rw [if_neg (by omega)]; rfl
  | d + 1, k, i, o, hd, hk, ho => by
    obtain ⟨k, rfl⟩ : ∃ m, k = m + 1 := ⟨k - 1, by omega⟩
    have hdx := idx l (i + l.length - 1) (by omega) (by omega)
    have e1 : wrap64 ((i : Int) + (l.length : Int)) - 1 = ((i + l.length - 1 : Nat) : Int) := by rw [w64 (by omega) (by omega)]; omega
    have hz : ¬ (l.length : Int) = 0 := by omega
    simp only [impl_littleRuns.l0]
    rw [if_pos (by omega), if_pos (by omega), if_pos (by omega), if_neg hz, e1, hdx, if_pos (by omega), if_pos (idx_lt l _ (by omega)), show rd l ((((i + l.length - 1) % l.length : Nat)) : Int) = at' l (i + l.length - 1) from rfl, at'_self l i (by omega)]
    simp only [runsF, runStep]
    by_cases h : at' l (i + l.length - 1) ≤ at' l i
    · rw [if_pos h, if_pos h, succ64 (by omega)]
      exact impl_littleRuns_l0 l hl d k (i + 1) o (by omega) (by omega) (by omega)
    · rw [if_neg h, if_neg h]
      have h2 : 2 ≤ l.length := by
        rcases Nat.lt_or_ge l.length 2 with c | c
        · exfalso; rw [show i = 0 by omega, show l.length = 1 by omega] at h; exact h (Int.le_refl _)
        · exact c
      exact impl_littleRuns_l1 l hl i (by omega) h (20 * d + 1) o ho (runsF l d (i + 1)) (fun k o hk ho => impl_littleRuns_l0 l hl d k (i + 1) o (by omega) hk ho) (l.length - 2) k 1 (by omega) (by omega)

-- impl_LittleRuns
theorem impl_LittleRuns_eq (l : List Int) (hl : l.length ≤ 1048576) (k : Nat) (hk : l.length + 400 ≤ k) : impl_LittleRuns.f k l = some (if SecOk l then runsF l l.length 0 [] else []) := by
  unfold impl_LittleRuns.f impl_littleRuns.f
  rw [impl_ValidSectors_eq l hl k (by omega), Option.bind_some]
  by_cases h : SecOk l
  · have := impl_littleRuns_l0 l h.1 l.length k 0 [] (by omega) (by have := h.1; omega) (by simp)
    rw [show ((0 : Nat) : Int) = 0 from rfl] at this
    rw [this, if_pos h, if_pos (by simp [h])]; rfl
  · rw [if_neg h, if_neg (by simp [h])]

-- spec_l00In
theorem spec_l00In_eq (a b c : Int) : spec_l00In.f a b c = some (decide (b ≤ a ∧ a ≤ c)) := by
  unfold spec_l00In.f
  by_cases h : b ≤ a <;> simp [h]

-- spec_l05Ok
-- MATH Secs
theorem spec_l05Ok_l0 (l : List Int) (hl : l.length ≤ 1048576) : ∀ (d k j : Nat) (s : Int), j + d = l.length → d < k → 0 ≤ s → s ≤ 16 * j →
    spec_l05Ok.l0 k l s (j : Int) = some (decide ((∀ x ∈ l.drop j, 1 ≤ x ∧ x ≤ 16) ∧ l.length ≤ 16 ∧ s + (l.drop j).sum = 16))
  | 0, k, j, s, hd, hk, h0, h1 => by
    obtain ⟨k, rfl⟩ : ∃ m, k = m + 1 := ⟨k - 1, by omega⟩
    simp only [spec_l05Ok.l0]
    rw [if_neg (by omega), List.drop_eq_nil_of_le (by omega)]
    by_cases h : l.length ≤ 16
    · rw [if_pos (by omega)]
      by_cases h2 : s = 16 <;> simp [h, h2]
    · rw [if_neg (by omega)]
      simp [h]
  | d + 1, k, j, s, hd, hk, h0, h1 => by
    obtain ⟨k, rfl⟩ : ∃ m, k = m + 1 := ⟨k - 1, by omega⟩
    simp only [spec_l05Ok.l0]
    rw [if_pos (by omega), if_pos (by omega), rd_nat l j (by omega), spec_l00In_eq, Option.bind_some, drop_at l j (by omega)]
    by_cases h : 1 ≤ l[j] ∧ l[j] ≤ 16
    · rw [if_pos (by simp [h]), w64 (by omega) (by omega), succ64 (by omega), spec_l05Ok_l0 l hl d k (j + 1) _ (by omega) (by omega) (by omega) (by omega)]
      congr 1
      rw [decide_eq_decide]
      simp only [List.forall_mem_cons, List.sum_cons, h, and_self, true_and, Int.add_assoc]
    · rw [if_neg (by simp [h])]
      rw [decide_eq_false (by simp only [List.forall_mem_cons]; exact fun c => h c.1.1)]
theorem spec_l05Ok_eq (l : List Int) (hl : l.length ≤ 1048576) (k : Nat) (hk : l.length < k) : spec_l05Ok.f k l = some (decide (SecOk l)) := by
  unfold spec_l05Ok.f
  have := spec_l05Ok_l0 l hl l.length k 0 0 (by omega) hk (by omega) (by omega)
  rw [show ((0 : Nat) : Int) = 0 from rfl] at this
  rw [this, List.drop_zero]
  congr 1
  rw [decide_eq_decide]
  unfold SecOk
  constructor
  · rintro ⟨a, b, c⟩; exact ⟨b, a, by omega⟩
  · rintro ⟨b, a, c⟩; exact ⟨a, b, by omega⟩

-- spec_l05Run
theorem spec_l05Run_l0 (l : List Int) (hl : l.length ≤ 16) (i : Nat) (hi : i < l.length) (hp : ¬ at' l (i + l.length - 1) ≤ at' l i) :
    ∀ (d k m : Nat), m + d + 1 = l.length → d + 1 ≤ k → spec_l05Run.l0 k l (i : Int) (l.length : Int) (m : Int) = some (runAt l i d m)
  | 0, k, m, hm, hk => by
    obtain ⟨k, rfl⟩ : ∃ m, k = m + 1 := ⟨k - 1, by omega⟩
    have hd := idx l (i + m) (by omega) (by omega)
    rw [show ((i + m : Nat) : Int) = (i : Int) + m by omega] at hd
    have hv : at' l (i + m) > at' l i := by rw [at'_last l i m hi (by omega)]; omega
    have hz : ¬ (l.length : Int) = 0 := by omega
    simp only [spec_l05Run.l0]
    rw [if_neg hz, hd, if_pos (by omega), if_pos (idx_lt l _ (by omega)), if_pos (by omega), if_pos (by omega), show rd l ((((i + m) % l.length : Nat)) : Int) = at' l (i + m) from rfl, at'_self l i hi, if_neg (by omega), if_neg (by omega)]
    rfl
  | d + 1, k, m, hm, hk => by
    obtain ⟨k, rfl⟩ : ∃ m, k = m + 1 := ⟨k - 1, by omega⟩
    have hd := idx l (i + m) (by omega) (by omega)
    rw [show ((i + m : Nat) : Int) = (i : Int) + m by omega] at hd
    have hz : ¬ (l.length : Int) = 0 := by omega
    simp only [spec_l05Run.l0]
    rw [if_neg hz, hd, if_pos (by omega), if_pos (idx_lt l _ (by omega)), if_pos (by omega), if_pos (by omega), show rd l ((((i + m) % l.length : Nat)) : Int) = at' l (i + m) from rfl, at'_self l i hi, succ64 (by omega)]
    simp only [runAt]
    by_cases h : at' l (i + m) = at' l i
    · rw [if_pos h, if_pos h]
      exact spec_l05Run_l0 l hl i hi hp d k (m + 1) (by omega) (by omega)
    · rw [if_neg h, if_neg h]
      by_cases h2 : at' l (i + m) < at' l i <;> simp [h2]
theorem spec_l05Run_eq (l : List Int) (hl : l.length ≤ 16) (i : Nat) (hi : i < l.length) (k : Nat) (hk : 17 ≤ k) : spec_l05Run.f k l (i : Int) = some (if at' l (i + l.length - 1) ≤ at' l i then 0 else runAt l i (l.length - 2) 1) := by
  unfold spec_l05Run.f
  have hdx := idx l (i + l.length - 1) (by omega) (by omega)
  have e1 : wrap64 ((i : Int) + (l.length : Int)) - 1 = ((i + l.length - 1 : Nat) : Int) := by rw [w64 (by omega) (by omega)]; omega
  have hz : ¬ (l.length : Int) = 0 := by omega
  rw [if_neg hz, e1, hdx, if_pos (by omega), if_pos (idx_lt l _ (by omega)), if_pos (by omega), if_pos (by omega), show rd l ((((i + l.length - 1) % l.length : Nat)) : Int) = at' l (i + l.length - 1) from rfl, at'_self l i hi]
  by_cases h : at' l (i + l.length - 1) ≤ at' l i
  · rw [if_pos h, if_pos h]
  · rw [if_neg h, if_neg h]
    have h2 : 2 ≤ l.length := by
      rcases Nat.lt_or_ge l.length 2 with c | c
      · exfalso; rw [show i = 0 by omega, show l.length = 1 by omega] at h; exact h (Int.le_refl _)
      · exact c
    exact spec_l05Run_l0 l hl i hi h (l.length - 2) k 1 (by omega) (by omega)

-- spec_LittleRuns
theorem spec_LittleRuns_l0 (l : List Int) (hl : l.length ≤ 16) : ∀ (d k i : Nat) (o : List S34), i + d = l.length → d + 18 ≤ k → o.length ≤ i →
    spec_LittleRuns.l0 k l o (i : Int) = some (runsF l d i o)
  | 0, k, i, o, hd, hk, ho => by
    obtain ⟨k, rfl⟩ : ∃ m, k = m + 1 := ⟨k - 1, by omega⟩
    simp only [spec_LittleRuns.l0]
    rw [if_neg (by omega)]; rfl
  | d + 1, k, i, o, hd, hk, ho => by
    obtain ⟨k, rfl⟩ : ∃ m, k = m + 1 := ⟨k - 1, by omega⟩
    simp only [spec_LittleRuns.l0]
    rw [if_pos (by omega), spec_l05Run_eq l hl i (by omega) k (by omega), Option.bind_some, succ64 (by omega), at'_self l i (by omega)]
    simp only [runsF, runStep]
    by_cases h : at' l (i + l.length - 1) ≤ at' l i
    · rw [if_pos h, if_pos h, if_neg (by omega)]
      exact spec_LittleRuns_l0 l hl d k (i + 1) o (by omega) (by omega) (by omega)
    · rw [if_neg h, if_neg h]
      by_cases h2 : runAt l i (l.length - 2) 1 > 0
      · rw [if_pos h2, addR_pos h2, if_pos (by omega), if_pos (by omega)]
        exact spec_LittleRuns_l0 l hl d k (i + 1) _ (by omega) (by omega) (by simp; omega)
      · rw [if_neg h2, addR_zero h2]
        exact spec_LittleRuns_l0 l hl d k (i + 1) o (by omega) (by omega) (by omega)
theorem spec_LittleRuns_eq (l : List Int) (hl : l.length ≤ 1048576) (k : Nat) (hk : l.length + 400 ≤ k) : spec_LittleRuns.f k l = some (if SecOk l then runsF l l.length 0 [] else []) := by
  unfold spec_LittleRuns.f
  rw [spec_l05Ok_eq l hl k (by omega), Option.bind_some]
  by_cases h : SecOk l
  · have := spec_LittleRuns_l0 l h.1 l.length k 0 [] (by omega) (by have := h.1; omega) (by simp)
    rw [show ((0 : Nat) : Int) = 0 from rfl] at this
    rw [this, if_pos h, if_pos (by simp [h])]
  · rw [if_neg h, if_neg (by simp [h])]

-- laws_eqSectorRun
theorem laws_eqSectorRun_self (a b c : Int) : laws_eqSectorRun.f a b c a b c = some true := by unfold laws_eqSectorRun.f; simp

-- laws_eqSectorRunS
theorem laws_eqSectorRunS_l0 (a : List S34) (hl : a.length ≤ 1048576) : ∀ (d k j : Nat), j + d = a.length → d < k → laws_eqSectorRunS.l0 k a a (j : Int) = some true
  | 0, k, j, hd, hk => by
    obtain ⟨k, rfl⟩ : ∃ m, k = m + 1 := ⟨k - 1, by omega⟩
    simp only [laws_eqSectorRunS.l0]
    rw [if_neg (by omega)]
  | d + 1, k, j, hd, hk => by
    obtain ⟨k, rfl⟩ : ∃ m, k = m + 1 := ⟨k - 1, by omega⟩
    simp only [laws_eqSectorRunS.l0]
    rw [if_pos (by omega), if_pos (by omega), if_pos (by omega), laws_eqSectorRun_self, Option.bind_some, if_pos rfl, succ64 (by omega)]
    exact laws_eqSectorRunS_l0 a hl d k (j + 1) (by omega) (by omega)
/-- A list of runs is the same as itself. -/
theorem laws_eqSectorRunS_self (a : List S34) (hl : a.length ≤ 1048576) (k : Nat) (hk : a.length < k) : laws_eqSectorRunS.f k a a = some true := by
  unfold laws_eqSectorRunS.f
  rw [if_pos rfl]
  exact laws_eqSectorRunS_l0 a hl a.length k 0 (by omega) hk

-- laws_markSectorRunS
/-- The marks of a run. -/
def mkR (a : Int) : S34 := ⟨a, a + 1, a + 2⟩
def marksR (a : Int) : Nat → List S34
  | 0 => []
  | n + 1 => mkR a :: marksR (a + 3) n
theorem marksR_length : ∀ (n : Nat) (a : Int), (marksR a n).length = n
  | 0, _ => rfl
  | n + 1, a => by simp [marksR, marksR_length n]
theorem marksR_get : ∀ (n j : Nat) (a : Int) (h : j < (marksR a n).length), (marksR a n)[j] = mkR (a + 3 * j)
  | 0, j, a, h => by simp [marksR] at h
  | n + 1, 0, a, h => by simp [marksR]
  | n + 1, j + 1, a, h => by
    have := marksR_get n j (a + 3) (by simpa [marksR] using h)
    simp only [marksR, List.getElem_cons_succ]
    rw [this]
    congr 1
    omega
theorem marksR_snoc (n : Nat) (a : Int) : marksR a (n + 1) = marksR a n ++ [mkR (a + 3 * n)] := by
  refine List.ext_getElem (by simp [marksR_length]) (fun i h1 h2 => ?_)
  rw [marksR_length] at h1
  rw [marksR_get]
  by_cases hi : i < n
  · rw [List.getElem_append_left (by rw [marksR_length]; exact hi), marksR_get]
  · have : i = n := by omega
    subst this
    rw [List.getElem_append_right (by rw [marksR_length]; omega)]
    simp [marksR_length]
theorem rdR_set (l : List S34) (j : Nat) (v : S34) (h : j < l.length) : rd_T34 (l.set j v) (j : Int) = v := by
  unfold rd_T34
  rw [Int.toNat_natCast, List.getD_eq_getElem?_getD, List.getElem?_set_self h]
  rfl
theorem laws_markSectorRunS_l0 (l : List S34) (hl : l.length ≤ 1048576) : ∀ (d k j : Nat) (o : List S34), j + d = l.length → d < k → o.length = l.length → o.take j = marksR 1 j →
    laws_markSectorRunS.l0 k o (1 + 3 * j : Int) (j : Int) = some ((1 + 3 * l.length : Int), marksR 1 l.length)
  | 0, k, j, o, hd, hk, ho, ht => by
    obtain ⟨k, rfl⟩ : ∃ m, k = m + 1 := ⟨k - 1, by omega⟩
    simp only [laws_markSectorRunS.l0]
    rw [if_neg (by omega)]
    obtain rfl : j = l.length := by omega
    rw [List.take_of_length_le (by omega)] at ht
    rw [ht]
  | d + 1, k, j, o, hd, hk, ho, ht => by
    obtain ⟨k, rfl⟩ : ∃ m, k = m + 1 := ⟨k - 1, by omega⟩
    simp only [laws_markSectorRunS.l0]
    rw [if_pos (by omega), if_pos (by omega)]
    have hj : j < o.length := by omega
    have e1 := w64 (n := 1 + 3 * (j : Int) + 1) (by omega) (by omega)
    have e2 := w64 (n := 1 + 3 * (j : Int) + 1 + 1) (by omega) (by omega)
    have e3 := w64 (n := 1 + 3 * (j : Int) + 1 + 1 + 1) (by omega) (by omega)
    simp only [Option.bind_some, Int.toNat_natCast, e1, e2, e3, rdR_set _ j _ hj, List.set_set]
    rw [succ64 (by omega)]
    have := laws_markSectorRunS_l0 l hl d k (j + 1) (o.set j (mkR (1 + 3 * j))) (by omega) (by omega) (by simpa using ho) (by
      rw [List.take_add_one, List.take_set_of_le (Nat.le_refl j), ht, List.getElem?_set_self (by omega), marksR_snoc]
      rfl)
    rw [← this]
    congr 1
theorem laws_markSectorRunS_eq (l : List S34) (hl : l.length ≤ 1048576) (k : Nat) (hk : l.length < k) : laws_markSectorRunS.f k l 1 = some ((1 + 3 * l.length : Int), marksR 1 l.length) := by
  unfold laws_markSectorRunS.f
  have := laws_markSectorRunS_l0 l hl l.length k 0 l (by omega) hk rfl (by simp [marksR])
  simpa using this

-- laws_heldSectorRunS
theorem rdR_at (l : List S34) (j : Nat) (h : j < l.length) : rd_T34 l (j : Int) = l[j] := by
  unfold rd_T34
  rw [Int.toNat_natCast, List.getD_eq_getElem?_getD, List.getElem?_eq_getElem h]
  rfl
theorem laws_heldSectorRunS_l0 (n : Nat) (hn : n ≤ 1048576) : ∀ (d k j : Nat), j + d = n → d < k →
    laws_heldSectorRunS.l0 k (marksR 1 n) (1 + 3 * j : Int) (j : Int) = some (1 + 3 * n : Int)
  | 0, k, j, hd, hk => by
    obtain ⟨k, rfl⟩ : ∃ m, k = m + 1 := ⟨k - 1, by omega⟩
    simp only [laws_heldSectorRunS.l0]
    rw [if_neg (by rw [marksR_length]; omega)]
    obtain rfl : j = n := by omega
    rfl
  | d + 1, k, j, hd, hk => by
    obtain ⟨k, rfl⟩ : ∃ m, k = m + 1 := ⟨k - 1, by omega⟩
    have hj : j < (marksR 1 n).length := by rw [marksR_length]; omega
    have e1 := w64 (n := 1 + 3 * (j : Int) + 1) (by omega) (by omega)
    have e2 := w64 (n := 1 + 3 * (j : Int) + 1 + 1) (by omega) (by omega)
    have e3 := w64 (n := 1 + 3 * (j : Int) + 1 + 1 + 1) (by omega) (by omega)
    simp only [laws_heldSectorRunS.l0]
    rw [if_pos (by omega), if_pos (by omega), rdR_at _ j hj, marksR_get, e1, e2, e3]
    rw [if_pos (show (mkR (1 + 3 * (j : Int))).f0 = 1 + 3 * (j : Int) from rfl), if_pos (show (mkR (1 + 3 * (j : Int))).f1 = 1 + 3 * (j : Int) + 1 from rfl), if_pos (show (mkR (1 + 3 * (j : Int))).f2 = 1 + 3 * (j : Int) + 1 + 1 by show 1 + 3 * (j : Int) + 2 = _; omega), succ64 (by omega)]
    rw [← laws_heldSectorRunS_l0 n hn d k (j + 1) (by omega) (by omega)]
    congr 1
theorem laws_heldSectorRunS_eq (n : Nat) (hn : n ≤ 1048576) (k : Nat) (hk : n < k) : laws_heldSectorRunS.f k (marksR 1 n) 1 = some (1 + 3 * n : Int) := by
  unfold laws_heldSectorRunS.f
  have := laws_heldSectorRunS_l0 n hn n k 0 (by omega) hk
  simpa using this

theorem FnExactLittleRuns : laws_FnExactLittleRuns.Pure := by
  intro l _ _ _
  refine ⟨l.length + 500, ?_⟩
  unfold laws_FnExactLittleRuns.f
  by_cases hl : (l.length : Int) > 1048576
  · rw [if_pos hl]
  · rw [if_neg hl]
    have hl' : l.length ≤ 1048576 := by omega
    obtain ⟨a, hr⟩ : ∃ r : List S34, r = (if SecOk l then runsF l l.length 0 [] else []) := ⟨_, rfl⟩
    have hs : ∀ k, l.length + 400 ≤ k → spec_LittleRuns.f k l = some a := fun k hk => by rw [hr]; exact spec_LittleRuns_eq l hl' k hk
    have hi : ∀ k, l.length + 400 ≤ k → impl_LittleRuns.f k l = some a := fun k hk => by rw [hr]; exact impl_LittleRuns_eq l hl' k hk
    have hra : a.length ≤ l.length := by
      rw [hr]; split
      · simpa using runsF_length l l.length 0 []
      · simp
    clear hr
    have hneg : (1 + 3 * (a.length : Int) < 0) = False := by simp; omega
    simp (disch := omega) only [laws_toInt64S_eq, hs, hi, Option.bind_some, laws_eqInt64S_eq, laws_eqSectorRunS_self, laws_markInt64S_eq, decide_true, if_true, if_false, one_add_neg, Bool.not_true]
    simp (disch := omega) only [laws_FnExactLittleRuns.j0, laws_toInt64S_eq, hi, laws_eqSectorRunS_self, laws_markSectorRunS_eq, laws_heldSectorRunS_eq, hneg, Option.bind_some, if_true, if_false, Bool.false_eq_true]

end Go.Proofs.Ytjldcnibdddioaa.Pure
