/- What is proved: the program's CountAssignments answers what the reference's answers, at every list. Conditions: none. -/
import Derived.Test.YtakpnhlkalbcoaaPFnExactCountAssignmentsx
import Derived.Test.YtakpnhlkalbcoaaMath
import Derived.Test.YtakpnhlkalbcoaaSecs
import Derived.Test.YtakpnhlkalbcoaaLex
import Derived.Test.YtakpnhlkalbcoaaAround
import Derived.Test.YtakpnhlkalbcoaaCrimp
import Derived.Test.YtakpnhlkalbcoaaCount
import Derived.Test.YtakpnhlkalbcoaaBits
namespace Go.Proofs.Ytakpnhlkalbcoaa.Pure
open Go.RowKit Go.Proofs.Ytakpnhlkalbcoaa.PFnExactCountAssignments Go.Proofs.YtakpnhlkalbcoaaW.PrintWords Go.Proofs.YtakpnhlkalbcoaaW.PrintLast Go.Proofs.YtakpnhlkalbcoaaW.PrintMore Go.Proofs.Ytakpnhlkalbcoaa.Math

-- spec_l00In
theorem spec_l00In_eq (a b c : Int) : spec_l00In.f a b c = some (decide (b ≤ a ∧ a ≤ c)) := by
  unfold spec_l00In.f
  by_cases h : b ≤ a <;> simp [h]

-- spec_l11Ok
-- MATH Secs
theorem spec_l11Ok_l0 (l : List Int) (hl : l.length ≤ 16) : ∀ (d k j : Nat) (s o : Int), j + d = l.length → d < k → 0 ≤ s → s ≤ 16 * j → 0 ≤ o → o ≤ 16 * j → s ≤ 256 → o ≤ 256 →
    spec_l11Ok.l0 k l s o (j : Int) = some (decide ((∀ x ∈ l.drop j, 1 ≤ x ∧ x ≤ 16) ∧ s + (l.drop j).sum ≤ 16 ∧ 2 * o - s + (if j % 2 = 0 then alt (l.drop j) else -alt (l.drop j)) = 0))
  | 0, k, j, s, o, hd, hk, h0, h1, h2, h3, h4, h5 => by
    obtain ⟨k, rfl⟩ : ∃ m, k = m + 1 := ⟨k - 1, by omega⟩
    simp only [spec_l11Ok.l0]
    rw [if_neg (by omega), List.drop_eq_nil_of_le (by omega), w64 (by omega) (by omega)]
    by_cases h : s ≤ 16
    · rw [if_pos h]
      congr 1
      by_cases he : 2 * o = s
      · simp [alt, h, he]
      · have : ¬ (2 * o - s = 0) := by omega
        simp [alt, he, this]
    · rw [if_neg h]
      simp [h]
  | d + 1, k, j, s, o, hd, hk, h0, h1, h2, h3, h4, h5 => by
    obtain ⟨k, rfl⟩ : ∃ m, k = m + 1 := ⟨k - 1, by omega⟩
    simp only [spec_l11Ok.l0]
    rw [if_pos (by omega), if_pos (by omega), rd_nat l j (by omega), spec_l00In_eq, Option.bind_some, drop_at l j (by omega), succ64 (by omega)]
    by_cases h : 1 ≤ l[j] ∧ l[j] ≤ 16
    · rw [if_pos (by simp [h]), w64 (n := s + l[j]) (by omega) (by omega), w64 (n := o + l[j]) (by omega) (by omega)]
      by_cases hj : j % 2 = 0
      · rw [if_pos ((tmod2 _).2 (by omega)), spec_l11Ok_l0 l hl d k (j + 1) _ _ (by omega) (by omega) (by omega) (by omega) (by omega) (by omega) (by omega) (by omega), if_neg (show ¬ (j + 1) % 2 = 0 by omega), if_pos hj]
        congr 1
        rw [decide_eq_decide]
        simp only [List.forall_mem_cons, List.sum_cons, h, and_self, true_and, alt]
        constructor <;> rintro ⟨a, b, c⟩ <;> exact ⟨a, by omega, by omega⟩
      · rw [if_neg (fun c => by have := (tmod2 _).1 c; omega), spec_l11Ok_l0 l hl d k (j + 1) _ _ (by omega) (by omega) (by omega) (by omega) (by omega) (by omega) (by omega) (by omega), if_pos (show (j + 1) % 2 = 0 by omega), if_neg hj]
        congr 1
        rw [decide_eq_decide]
        simp only [List.forall_mem_cons, List.sum_cons, h, and_self, true_and, alt]
        constructor <;> rintro ⟨a, b, c⟩ <;> exact ⟨a, by omega, by omega⟩
    · rw [if_neg (by simp [h])]
      rw [decide_eq_false (by simp only [List.forall_mem_cons]; exact fun c => h c.1.1)]
theorem spec_l11Ok_eq (l : List Int) (k : Nat) (hk : 18 < k) : spec_l11Ok.f k l = some (decide (ConeOk l)) := by
  unfold spec_l11Ok.f
  obtain ⟨k, rfl⟩ : ∃ m, k = m + 1 := ⟨k - 1, by omega⟩
  simp only [spec_l11Ok.j0]
  by_cases h1 : l.length < 2
  · rw [if_pos (by omega), if_pos trivial, decide_eq_false (fun c : ConeOk l => by have := c.1; have := c.2.1; omega)]
  · rw [if_neg (by omega)]
    by_cases h2 : l.length > 16
    · rw [if_pos (by omega), if_pos trivial, decide_eq_false (fun c : ConeOk l => by have := c.1; have := c.2.1; omega)]
    · rw [if_neg (by omega)]
      by_cases h3 : l.length % 2 = 0
      · rw [if_neg (by simp; omega)]
        have := spec_l11Ok_l0 l (by omega) l.length k 0 0 0 (by omega) (by omega) (by omega) (by omega) (by omega) (by omega) (by omega) (by omega)
        rw [show ((0 : Nat) : Int) = 0 from rfl] at this
        rw [this, List.drop_zero]
        congr 1
        rw [decide_eq_decide]
        constructor
        · rintro ⟨a, b, c⟩; exact ⟨by omega, by omega, h3, a, by omega, by simpa using c⟩
        · rintro ⟨_, _, _, a, b, c⟩; exact ⟨a, by omega, by simpa using c⟩
      · rw [if_pos (by simp; omega), decide_eq_false (fun c : ConeOk l => h3 c.2.2.1)]

-- spec_l05Run
-- MATH Around
theorem spec_l05Run_l0 (l : List Int) (hl : l.length ≤ 16) (i : Nat) (hi : i < l.length) (hp : ¬ at' l (i + l.length - 1) ≤ at' l i) :
    ∀ (d k m : Nat), m + d + 1 = l.length → d + 1 ≤ k → spec_l05Run.l0 k l (i : Int) (l.length : Int) (m : Int) = some (runAt l i d m)
  | 0, k, m, hm, hk => by
    obtain ⟨k, rfl⟩ : ∃ m, k = m + 1 := ⟨k - 1, by omega⟩
    have hd := idx l (i + m) (by omega) (by omega)
    rw [show ((i + m : Nat) : Int) = (i : Int) + m by omega] at hd
    have hv : at' l (i + m) > at' l i := by rw [at'_last l i m hi (by omega)]; omega
    have hz : ¬ (l.length : Int) = 0 := by omega
    simp only [spec_l05Run.l0]
    rw [if_neg hz, hd, if_pos (by omega), if_pos (idx_lt l _ (by omega)), if_pos (by omega), if_pos (by omega), show rd l ((((i + m) % l.length : Nat)) : Int) = at' l (i + m) from rfl, at'_self l i hi, if_neg (by omega), if_neg (by omega)]
    rfl
  | d + 1, k, m, hm, hk => by
    obtain ⟨k, rfl⟩ : ∃ m, k = m + 1 := ⟨k - 1, by omega⟩
    have hd := idx l (i + m) (by omega) (by omega)
    rw [show ((i + m : Nat) : Int) = (i : Int) + m by omega] at hd
    have hz : ¬ (l.length : Int) = 0 := by omega
    simp only [spec_l05Run.l0]
    rw [if_neg hz, hd, if_pos (by omega), if_pos (idx_lt l _ (by omega)), if_pos (by omega), if_pos (by omega), show rd l ((((i + m) % l.length : Nat)) : Int) = at' l (i + m) from rfl, at'_self l i hi, succ64 (by omega)]
    simp only [runAt]
    by_cases h : at' l (i + m) = at' l i
    · rw [if_pos h, if_pos h]
      exact spec_l05Run_l0 l hl i hi hp d k (m + 1) (by omega) (by omega)
    · rw [if_neg h, if_neg h]
      by_cases h2 : at' l (i + m) < at' l i <;> simp [h2]
theorem spec_l05Run_eq (l : List Int) (hl : l.length ≤ 16) (i : Nat) (hi : i < l.length) (k : Nat) (hk : 17 ≤ k) : spec_l05Run.f k l (i : Int) = some (if at' l (i + l.length - 1) ≤ at' l i then 0 else runAt l i (l.length - 2) 1) := by
  unfold spec_l05Run.f
  have hdx := idx l (i + l.length - 1) (by omega) (by omega)
  have e1 : wrap64 ((i : Int) + (l.length : Int)) - 1 = ((i + l.length - 1 : Nat) : Int) := by rw [w64 (by omega) (by omega)]; omega
  have hz : ¬ (l.length : Int) = 0 := by omega
  rw [if_neg hz, e1, hdx, if_pos (by omega), if_pos (idx_lt l _ (by omega)), if_pos (by omega), if_pos (by omega), show rd l ((((i + l.length - 1) % l.length : Nat)) : Int) = at' l (i + l.length - 1) from rfl, at'_self l i hi]
  by_cases h : at' l (i + l.length - 1) ≤ at' l i
  · rw [if_pos h, if_pos h]
  · rw [if_neg h, if_neg h]
    have h2 : 2 ≤ l.length := by
      rcases Nat.lt_or_ge l.length 2 with c | c
      · exfalso; rw [show i = 0 by omega, show l.length = 1 by omega] at h; exact h (Int.le_refl _)
      · exact c
    exact spec_l05Run_l0 l hl i hi h (l.length - 2) k 1 (by omega) (by omega)
theorem spec_l05Run_val (l : List Int) (hl : l.length ≤ 16) (i : Nat) (hi : i < l.length) (k : Nat) (hk : 17 ≤ k) : spec_l05Run.f k l (i : Int) = some (runVal l i) := spec_l05Run_eq l hl i hi k hk

-- spec_l11Little
-- MATH Around
theorem spec_l11Little_l0 (l : List Int) (hl : l.length ≤ 16) : ∀ (d i k : Nat), i + d = l.length → d + 20 ≤ k →
    spec_l11Little.l0 k l (i : Int) = some (match firstRun l d i with | none => (-1, 0) | some j => ((j : Int), runVal l j))
  | 0, i, k, hd, hk => by
    obtain ⟨k, rfl⟩ : ∃ m, k = m + 1 := ⟨k - 1, by omega⟩
    simp only [spec_l11Little.l0, firstRun]
    rw [if_neg (by omega)]
  | d + 1, i, k, hd, hk => by
    obtain ⟨k, rfl⟩ : ∃ m, k = m + 1 := ⟨k - 1, by omega⟩
    simp only [spec_l11Little.l0, firstRun]
    rw [if_pos (by omega), spec_l05Run_val l hl i (by omega) k (by omega), Option.bind_some]
    by_cases h : runVal l i > 0
    · rw [if_pos h, if_pos h]
    · rw [if_neg h, if_neg h, succ64 (by omega)]
      exact spec_l11Little_l0 l hl d (i + 1) k (by omega) (by omega)
theorem spec_l11Little_eq (l : List Int) (hl : l.length ≤ 16) (k : Nat) (hk : 40 ≤ k) : spec_l11Little.f k l = some (match firstRun l l.length 0 with | none => (-1, 0) | some j => ((j : Int), runVal l j)) := by
  unfold spec_l11Little.f
  exact spec_l11Little_l0 l hl l.length 0 k (by omega) (by omega)

-- spec_l11Choose
-- MATH Bits
theorem choose_flat : ∀ n : Fin 17, n.val % 2 = 0 → 2 ≤ n.val → spec_l11Choose.f 40 (n.val : Int) (((n.val / 2 : Nat) : Int) - 1) = some ((waysF n.val 2 : Nat) : Int) := by decide +kernel
theorem choose_odd : ∀ c : Fin 17, c.val % 2 = 1 → spec_l11Choose.f 40 ((c.val + 1 : Nat) : Int) (((c.val + 1) / 2 : Nat) : Int) = some ((waysF (c.val + 1) 0 : Nat) : Int) := by decide +kernel
theorem choose_even : ∀ c : Fin 16, c.val % 2 = 0 → spec_l11Choose.f 40 ((c.val + 1 : Nat) : Int) ((c.val / 2 : Nat) : Int) = some ((waysF (c.val + 1) 1 : Nat) : Int) := by decide +kernel
theorem choose_more {a b v : Int} {k : Nat} (hk : 40 ≤ k) (h : spec_l11Choose.f 40 a b = some v) : spec_l11Choose.f k a b = some v := at_rounds (g := fun k => spec_l11Choose.f k a b) (fun k => spec_l11Choose.mono a b k) hk h

-- spec_l00Own
theorem spec_l00Own_eq (l : List Int) (hl : l.length ≤ 1048576) : spec_l00Own.f l = some l := by
  unfold spec_l00Own.f
  rw [Option.bind_some, if_pos (by simp; omega)]
  rfl

-- spec_l05Rotated
theorem spec_l05Rotated_eq (l : List Int) (i : Nat) (hl : l.length ≤ 1048576) (hi : i ≤ l.length) : spec_l05Rotated.f l (i : Int) = some (l.drop i ++ l.take i) := by
  unfold spec_l05Rotated.f
  rw [if_pos (by omega), if_pos (by omega), Int.toNat_natCast, spec_l00Own_eq _ (by rw [List.length_drop]; omega), Option.bind_some, if_pos (by rw [List.length_drop, List.length_take]; omega)]

-- spec_l11Count
theorem cw1 (c : Nat) (h : c ≤ 16) : wrap64 ((c : Int) + 1) = ((c + 1 : Nat) : Int) := succ64 (by omega)
theorem cw2 (c : Nat) (h : c ≤ 16) : wrap64 ((c : Int) + 2) = ((c + 2 : Nat) : Int) := by rw [w64 (by omega) (by omega)]; omega
theorem ctm (c : Nat) : Int.tmod (c : Int) 2 = ((c % 2 : Nat) : Int) := rfl
theorem ctd (c : Nat) : Int.tdiv (c : Int) 2 = ((c / 2 : Nat) : Int) := rfl
set_option maxRecDepth 10000 in
theorem spec_l11Count_eq : ∀ (d k : Nat) (l : List Int), ConeOk l → l.length ≤ d → 120 + d < k → spec_l11Count.f k l = some ((nfold l : Nat) : Int)
  | 0, k, l, hl, hd, _ => by have := hl.1; omega
  | d + 1, k, l, hl, hd, hk => by
    obtain ⟨k, rfl⟩ : ∃ m, k = m + 1 := ⟨k - 1, by omega⟩
    obtain ⟨h1, h2, h3, _⟩ := id hl
    have hlit := spec_l11Little_eq l h2 k (by omega)
    have hn := nfold_eq hl
    have hb16 := nfold_le h2
    rw [spec_l11Count.f]
    cases hf : firstRun l l.length 0 with
    | none =>
      rw [hf] at hlit hn
      simp only at hlit hn
      have hc := choose_more (k := k) (by omega) (choose_flat ⟨l.length, by omega⟩ h3 h1)
      have e : wrap64 (wrap64 ((l.length : Int) / 2) - 1) = ((l.length / 2 : Nat) : Int) - 1 := by
        rw [w64 (n := (l.length : Int) / 2) (by omega) (by omega), w64 (by omega) (by omega)]; rfl
      rw [hlit, Option.bind_some, if_pos (by decide), e]
      clear e
      simp only at hc
      rw [hc, Option.bind_some]
      rw [waysF_neg] at hn
      rw [w64 (by omega) (by omega)]
      congr 1
      omega
    | some i =>
      rw [hf] at hlit hn
      simp only at hlit hn
      obtain ⟨_, hi, hr⟩ := firstRun_some l _ _ _ hf
      have hi' : i < l.length := by omega
      have R := runR_of hl hi' hr
      obtain ⟨c, hc⟩ : ∃ c : Nat, c = (runVal l i).toNat := ⟨_, rfl⟩
      obtain ⟨b, hb⟩ : ∃ b : Nat, b = (i + l.length - 1) % l.length := ⟨_, rfl⟩
      have hv : runVal l i = (c : Int) := by omega
      rw [← hc, ← hb] at R hn
      rw [hv] at hlit
      have hbl : b < l.length := by rw [hb]; exact Nat.mod_lt _ (by omega)
      have hL : (rot l b).length = l.length := rot_length l b (Nat.le_of_lt hbl)
      have eL : spec_l05Rotated.f l (b : Int) = some (rot l b) := spec_l05Rotated_eq l b (by omega) (Nat.le_of_lt hbl)
      have z1 : ¬ ((i : Int) < 0) := by omega
      have z2 : ¬ ((l.length : Int) = 0) := by omega
      have e1 : Int.tmod (wrap64 (wrap64 ((i : Int) + (l.length : Int)) - 1)) (l.length : Int) = (b : Int) := by
        rw [w64 (n := (i : Int) + l.length) (by omega) (by omega), show (i : Int) + l.length - 1 = ((i + l.length - 1 : Nat) : Int) by omega, idx l _ (by omega) (by omega), hb]
      rw [hlit, Option.bind_some]
      dsimp only
      rw [if_neg z1, if_neg z2, e1, eL, Option.bind_some]
      clear e1 eL z1 z2 hlit hf hr hv hc
      obtain ⟨n1, n2, n3⟩ := nextR_ok R
      have hnx := nfold_le n1.2.1
      have R2 := R.two
      have R1 := R.one
      have ih : ∀ j, 120 + d < j → spec_l11Count.f j (nextR c (rot l b)) = some ((nfold (nextR c (rot l b)) : Nat) : Int) := fun j hj => spec_l11Count_eq d j _ n1 (by split at n2 <;> omega) hj
      generalize rot l b = L at *
      have hg0 := R.big _ (List.getElem_mem (show 0 < L.length by omega))
      have hg1 := R.big _ (List.getElem_mem (show 1 < L.length by omega))
      have hg2 := R.big _ (List.getElem_mem (show c + 1 < L.length by omega))
      rw [← rd_eq] at hg0 hg1 hg2
      have hg0 : 1 ≤ rd L 0 ∧ rd L 0 ≤ 16 := hg0
      have hg1 : 1 ≤ rd L 1 ∧ rd L 1 ≤ 16 := hg1
      have hc16 : c ≤ 16 := by omega
      rw [cw1 c hc16, cw2 c hc16, ctm c, ctd (c + 1), ctd c]
      rw [w64 (n := (((c + 1) / 2 : Nat) : Int)) (by omega) (by omega), w64 (n := ((c / 2 : Nat) : Int)) (by omega) (by omega)]
      by_cases hodd : c % 2 = 1
      · have hch := choose_more (k := k) (by omega) (choose_odd ⟨c, by omega⟩ hodd)
        simp only at hch
        rw [if_pos hodd] at hn
        have en : nextR c L = [rd L 0 - rd L 1 + rd L ((c + 1 : Nat) : Int)] ++ L.drop (c + 2) := by unfold nextR; rw [if_pos hodd]; rfl
        rw [if_pos (by omega), hch, Option.bind_some, if_pos (by omega), if_pos (by omega), if_pos (by omega), if_pos (by omega), Option.bind_some, if_pos (by omega), if_pos (by omega), Option.bind_some, Int.toNat_natCast, if_pos (by simp; omega),
          w64 (n := rd L 0 - rd L 1) (by omega) (by omega), w64 (n := rd L 0 - rd L 1 + rd L ((c + 1 : Nat) : Int)) (by omega) (by omega), ← en, ih k (by omega), Option.bind_some]
        rw [show ((waysF (c + 1) 0 : Nat) : Int) * ((nfold (nextR c L) : Nat) : Int) = ((nfold l : Nat) : Int) by rw [hn]; push_cast; rfl, w64 (by omega) (by omega)]
      · have hch := choose_more (k := k) (by omega) (choose_even ⟨c, by omega⟩ (by simp; omega))
        simp only at hch
        rw [if_neg hodd] at hn
        have en : nextR c L = [rd L 0] ++ L.drop (c + 1) := by unfold nextR; rw [if_neg hodd]; rfl
        rw [if_neg (by omega), hch, Option.bind_some, if_pos (by omega), Option.bind_some, if_pos (by omega), if_pos (by omega), Option.bind_some, Int.toNat_natCast, if_pos (by simp; omega), ← en, ih k (by omega), Option.bind_some]
        rw [show ((waysF (c + 1) 1 : Nat) : Int) * ((nfold (nextR c L) : Nat) : Int) = ((nfold l : Nat) : Int) by rw [hn]; push_cast; rfl, w64 (by omega) (by omega)]

-- spec_CountAssignments
def cntV (l : List Int) : Int × Int := if ConeOk l then (((nfold l : Nat) : Int), 0) else (0, 1)
theorem spec_CountAssignments_eq (l : List Int) (k : Nat) (hk : 200 ≤ k) : spec_CountAssignments.f k l = some (cntV l) := by
  unfold spec_CountAssignments.f cntV
  rw [spec_l11Ok_eq l k (by omega), Option.bind_some]
  by_cases h : ConeOk l
  · have := h.2.1
    rw [decide_eq_true h, if_pos rfl, spec_l11Count_eq l.length k l h (Nat.le_refl _) (by omega), Option.bind_some, if_pos h]
  · rw [decide_eq_false h, if_neg (by simp), if_neg h]

-- laws_toInt64S
theorem laws_toInt64S_l0 (l : List Int) (hl : l.length ≤ 1048576) : ∀ (d k j : Nat) (o : List Int), j + d = l.length → d < k → o.length = l.length → o.take j = l.take j →
    laws_toInt64S.l0 k l o (j : Int) = some l
  | 0, k, j, o, hd, hk, ho, ht => by
    obtain ⟨k, rfl⟩ : ∃ m, k = m + 1 := ⟨k - 1, by omega⟩
    simp only [laws_toInt64S.l0]
    rw [if_neg (by omega)]
    rw [List.take_of_length_le (by omega), List.take_of_length_le (by omega)] at ht
    rw [ht]
  | d + 1, k, j, o, hd, hk, ho, ht => by
    obtain ⟨k, rfl⟩ : ∃ m, k = m + 1 := ⟨k - 1, by omega⟩
    simp only [laws_toInt64S.l0]
    rw [if_pos (by omega), if_pos (by omega), if_pos (by omega), rd_nat l j (by omega), succ64 (by omega), Int.toNat_natCast]
    refine laws_toInt64S_l0 l hl d k (j + 1) _ (by omega) (by omega) (by simpa using ho) ?_
    rw [List.take_add_one, List.take_add_one, List.take_set_of_le (Nat.le_refl j), ht, List.getElem?_set_self (by omega), List.getElem?_eq_getElem (by omega)]
theorem laws_toInt64S_eq (l : List Int) (hl : l.length ≤ 1048576) (k : Nat) (hk : l.length < k) : laws_toInt64S.f k l = some l := by
  unfold laws_toInt64S.f
  rw [if_pos (by omega), if_pos (by omega), Int.toNat_natCast]
  exact laws_toInt64S_l0 l hl l.length k 0 _ (by omega) hk (by simp) (by simp)

-- impl_within
theorem impl_within_eq (a b c : Int) : impl_within.f a b c = some (decide (b ≤ a ∧ a ≤ c)) := by
  unfold impl_within.f
  by_cases h : b ≤ a <;> simp [h]

-- impl_sumOf
theorem impl_sumOf_l0 (l : List Int) (hl : l.length ≤ 1048576) (hb : ∀ x ∈ l, -1048576 ≤ x ∧ x ≤ 1048576) : ∀ (d k j : Nat) (s : Int), j + d = l.length → d < k → -(1048576 * (j : Int)) ≤ s → s ≤ 1048576 * j →
    impl_sumOf.l0 k s l (l.length : Int) (j : Int) = some (s + (l.drop j).sum)
  | 0, k, j, s, hd, hk, h0, h1 => by
    obtain ⟨k, rfl⟩ : ∃ m, k = m + 1 := ⟨k - 1, by omega⟩
    simp only [impl_sumOf.l0]
    rw [if_neg (by omega), List.drop_eq_nil_of_le (by omega)]
    simp
  | d + 1, k, j, s, hd, hk, h0, h1 => by
    obtain ⟨k, rfl⟩ : ∃ m, k = m + 1 := ⟨k - 1, by omega⟩
    have h := hb l[j] (List.getElem_mem (by omega))
    simp only [impl_sumOf.l0]
    rw [if_pos (by omega), if_pos (by omega), if_pos (by omega), rd_nat l j (by omega), drop_at l j (by omega), w64 (by omega) (by omega), succ64 (by omega),
      impl_sumOf_l0 l hl hb d k (j + 1) _ (by omega) (by omega) (by omega) (by omega), List.sum_cons, Int.add_assoc]
theorem impl_sumOf_eq (l : List Int) (hl : l.length ≤ 1048576) (hb : ∀ x ∈ l, -1048576 ≤ x ∧ x ≤ 1048576) (k : Nat) (hk : l.length < k) : impl_sumOf.f k l = some l.sum := by
  unfold impl_sumOf.f
  have := impl_sumOf_l0 l hl hb l.length k 0 0 (by omega) hk (by omega) (by omega)
  rw [show ((0 : Nat) : Int) = 0 from rfl] at this
  rw [this, List.drop_zero, Int.zero_add]

-- impl_alternating
-- MATH Secs
theorem impl_alternating_l0 (l : List Int) (hl : l.length ≤ 1048576) (hb : ∀ x ∈ l, -1048576 ≤ x ∧ x ≤ 1048576) : ∀ (d k j : Nat) (s : Int), j + d = l.length → d < k → -(1048576 * (j : Int)) ≤ s → s ≤ 1048576 * j →
    impl_alternating.l0 k s l (l.length : Int) (j : Int) = some (s + (if j % 2 = 0 then alt (l.drop j) else -alt (l.drop j)))
  | 0, k, j, s, hd, hk, h0, h1 => by
    obtain ⟨k, rfl⟩ : ∃ m, k = m + 1 := ⟨k - 1, by omega⟩
    simp only [impl_alternating.l0]
    rw [if_neg (by omega), List.drop_eq_nil_of_le (by omega)]
    simp [alt]
  | d + 1, k, j, s, hd, hk, h0, h1 => by
    obtain ⟨k, rfl⟩ : ∃ m, k = m + 1 := ⟨k - 1, by omega⟩
    have h := hb l[j] (List.getElem_mem (by omega))
    simp only [impl_alternating.l0]
    rw [if_pos (by omega), if_pos (by omega), if_pos (by omega), rd_nat l j (by omega), drop_at l j (by omega), succ64 (by omega)]
    by_cases hj : j % 2 = 0
    · rw [if_pos ((tmod2 _).2 (by omega)), w64 (by omega) (by omega), impl_alternating_l0 l hl hb d k (j + 1) _ (by omega) (by omega) (by omega) (by omega), if_neg (show ¬ (j + 1) % 2 = 0 by omega), if_pos hj]
      simp only [alt]; congr 1; omega
    · rw [if_neg (fun c => by have := (tmod2 _).1 c; omega), w64 (by omega) (by omega), impl_alternating_l0 l hl hb d k (j + 1) _ (by omega) (by omega) (by omega) (by omega), if_pos (show (j + 1) % 2 = 0 by omega), if_neg hj]
      simp only [alt]; congr 1; omega
theorem impl_alternating_eq (l : List Int) (hl : l.length ≤ 1048576) (hb : ∀ x ∈ l, -1048576 ≤ x ∧ x ≤ 1048576) (k : Nat) (hk : l.length < k) : impl_alternating.f k l = some (alt l) := by
  unfold impl_alternating.f
  have := impl_alternating_l0 l hl hb l.length k 0 0 (by omega) hk (by omega) (by omega)
  rw [show ((0 : Nat) : Int) = 0 from rfl] at this
  rw [this, List.drop_zero]
  simp

-- impl_ValidCone
-- MATH Secs
theorem impl_ValidCone_eq (l : List Int) (k : Nat) (hk : 18 < k) : impl_ValidCone.f k l = some (decide (ConeOk l)) := by
  unfold impl_ValidCone.f impl_length_int64.f
  obtain ⟨k, rfl⟩ : ∃ m, k = m + 1 := ⟨k - 1, by omega⟩
  simp only [impl_ValidCone.j0, Option.bind_some, impl_within_eq]
  by_cases h1 : 2 ≤ l.length ∧ l.length ≤ 16
  · rw [if_pos (by rw [decide_eq_true_eq]; omega)]
    by_cases h3 : l.length % 2 = 0
    · rw [if_neg (by simp; omega), slices_ContainsFunc_int64_int64_impl_ValidCone_1.eq_any (fun x => !decide (1 ≤ x ∧ x ≤ 16)) l (fun x _ => by unfold impl_ValidCone_1.f; rw [impl_within_eq, Option.bind_some]), any_not l (fun x => 1 ≤ x ∧ x ≤ 16), Option.bind_some]
      by_cases h2 : ∀ x ∈ l, 1 ≤ x ∧ x ≤ 16
      · rw [decide_eq_true h2, if_neg (by simp), impl_sumOf_eq l (by omega) (fun x hx => by have := h2 x hx; omega) k (by omega), Option.bind_some]
        by_cases h4 : l.sum ≤ 16
        · rw [if_pos h4, impl_alternating_eq l (by omega) (fun x hx => by have := h2 x hx; omega) k (by omega), Option.bind_some]
          congr 1
          by_cases h5 : alt l = 0
          · rw [decide_eq_true (show ConeOk l from ⟨h1.1, h1.2, h3, h2, h4, h5⟩)]; simpa using h5
          · rw [decide_eq_false (fun c : ConeOk l => h5 c.2.2.2.2.2)]; simpa using h5
        · rw [if_neg h4, decide_eq_false (fun c : ConeOk l => h4 c.2.2.2.2.1)]
      · rw [decide_eq_false h2, if_pos (by simp), decide_eq_false (fun c : ConeOk l => h2 c.2.2.2.1)]
    · rw [if_pos (by simp; omega), decide_eq_false (fun c : ConeOk l => h3 c.2.2.1)]
  · rw [if_neg (by rw [decide_eq_true_eq]; omega), if_pos trivial, decide_eq_false (fun c : ConeOk l => h1 ⟨c.1, c.2.1⟩)]

-- impl_littleRuns
-- MATH Secs
-- MATH Around
def addR (l : List Int) (i : Nat) (o : List S86) (r : Int) : List S86 := if r > 0 then o ++ [⟨i, r, at' l i⟩] else o
theorem addR_pos {l : List Int} {i : Nat} {o : List S86} {r : Int} (h : r > 0) : addR l i o r = o ++ [⟨i, r, at' l i⟩] := if_pos h
theorem addR_zero {l : List Int} {i : Nat} {o : List S86} {r : Int} (h : ¬ r > 0) : addR l i o r = o := if_neg h
def runStep (l : List Int) (i : Nat) (o : List S86) : List S86 :=
  if at' l (i + l.length - 1) ≤ at' l i then o else addR l i o (runAt l i (l.length - 2) 1)
def runsF (l : List Int) : Nat → Nat → List S86 → List S86
  | 0, _, o => o
  | d + 1, i, o => runsF l d (i + 1) (runStep l i o)
theorem runStep_length (l : List Int) (i : Nat) (o : List S86) : (runStep l i o).length ≤ o.length + 1 := by
  unfold runStep; split
  · omega
  · unfold addR; split <;> simp
theorem runsF_length (l : List Int) : ∀ (d i : Nat) (o : List S86), (runsF l d i o).length ≤ o.length + d
  | 0, _, _ => by simp [runsF]
  | d + 1, i, o => by
    have := runsF_length l d (i + 1) (runStep l i o)
    have := runStep_length l i o
    simp only [runsF]; omega
set_option linter.unusedVariables false in
theorem impl_littleRuns_l1 (l : List Int) (hl : l.length ≤ 16) (i : Nat) (hi : i < l.length) (hp : ¬ at' l (i + l.length - 1) ≤ at' l i) (K : Nat) (o : List S86) (ho : o.length ≤ i) (res : List S86 → List S86)
    (hres : ∀ k o, K ≤ k → o.length ≤ i + 1 → impl_littleRuns.l0 k l (l.length : Int) o l (l.length : Int) ((i + 1 : Nat) : Int) = some (res o)) :
    ∀ (d k m : Nat), m + d + 1 = l.length → d + 1 + K ≤ k → impl_littleRuns.l1 k l (l.length : Int) o (i : Int) (at' l i) (m : Int) l (l.length : Int) (i : Int) =
      some (res (addR l i o (runAt l i d m)))
  | 0, k, m, hm, hk => by
    obtain ⟨k, rfl⟩ : ∃ m, k = m + 1 := ⟨k - 1, by omega⟩
    have hd := idx l (i + m) (by omega) (by omega)
    rw [show ((i + m : Nat) : Int) = (i : Int) + m by omega] at hd
    have hv : at' l (i + m) > at' l i := by rw [at'_last l i m hi (by omega)]; omega
    have hz : ¬ (l.length : Int) = 0 := by omega
    simp only [impl_littleRuns.l1]
    rw [if_pos (by omega), if_neg hz, hd, if_pos (by omega), if_pos (idx_lt l _ (by omega)), show rd l ((((i + m) % l.length : Nat)) : Int) = at' l (i + m) from rfl, if_neg (by omega), if_pos hv, if_pos (by omega), succ64 (by omega), hres _ _ (by omega) (by simp; omega)]
    simp only [runAt]
    by_cases h0 : m = 0
    · subst h0
      exfalso
      have e : i = 0 := by omega
      subst e
      rw [show (0 + l.length - 1 : Nat) = 0 by omega] at hp
      omega
    · rw [addR_pos (by omega)]
  | d + 1, k, m, hm, hk => by
    obtain ⟨k, rfl⟩ : ∃ m, k = m + 1 := ⟨k - 1, by omega⟩
    have hd := idx l (i + m) (by omega) (by omega)
    rw [show ((i + m : Nat) : Int) = (i : Int) + m by omega] at hd
    have hz : ¬ (l.length : Int) = 0 := by omega
    simp only [impl_littleRuns.l1]
    rw [if_pos (by omega), if_neg hz, hd, if_pos (by omega), if_pos (idx_lt l _ (by omega)), show rd l ((((i + m) % l.length : Nat)) : Int) = at' l (i + m) from rfl, succ64 (by omega), succ64 (by omega)]
    simp only [runAt]
    by_cases h : at' l (i + m) = at' l i
    · rw [if_pos h, if_pos h]
      exact impl_littleRuns_l1 l hl i hi hp K o ho res hres d k (m + 1) (by omega) (by omega)
    · rw [if_neg h, if_neg h]
      by_cases h2 : at' l (i + m) < at' l i
      · rw [if_neg (by omega), if_pos h2, hres _ _ (by omega) (by omega), addR_zero (by omega)]
      · rw [if_pos (by omega), if_neg h2, if_pos (by omega), hres _ _ (by omega) (by simp; omega)]
        by_cases h0 : m = 0
        · subst h0; exact absurd rfl h
        · rw [addR_pos (by omega)]
theorem impl_littleRuns_l0 (l : List Int) (hl : l.length ≤ 16) : ∀ (d k i : Nat) (o : List S86), i + d = l.length → 20 * d + 1 ≤ k → o.length ≤ i →
    impl_littleRuns.l0 k l (l.length : Int) o l (l.length : Int) (i : Int) = some (runsF l d i o)
  | 0, k, i, o, hd, hk, ho => by
    obtain ⟨k, rfl⟩ : ∃ m, k = m + 1 := ⟨k - 1, by omega⟩
    simp only [impl_littleRuns.l0]
    rw [if_neg (by omega)]; rfl
  | d + 1, k, i, o, hd, hk, ho => by
    obtain ⟨k, rfl⟩ : ∃ m, k = m + 1 := ⟨k - 1, by omega⟩
    have hdx := idx l (i + l.length - 1) (by omega) (by omega)
    have e1 : wrap64 ((i : Int) + (l.length : Int)) - 1 = ((i + l.length - 1 : Nat) : Int) := by rw [w64 (by omega) (by omega)]; omega
    have hz : ¬ (l.length : Int) = 0 := by omega
    simp only [impl_littleRuns.l0]
    rw [if_pos (by omega), if_pos (by omega), if_pos (by omega), if_neg hz, e1, hdx, if_pos (by omega), if_pos (idx_lt l _ (by omega)), show rd l ((((i + l.length - 1) % l.length : Nat)) : Int) = at' l (i + l.length - 1) from rfl, at'_self l i (by omega)]
    simp only [runsF, runStep]
    by_cases h : at' l (i + l.length - 1) ≤ at' l i
    · rw [if_pos h, if_pos h, succ64 (by omega)]
      exact impl_littleRuns_l0 l hl d k (i + 1) o (by omega) (by omega) (by omega)
    · rw [if_neg h, if_neg h]
      have h2 : 2 ≤ l.length := by
        rcases Nat.lt_or_ge l.length 2 with c | c
        · exfalso; rw [show i = 0 by omega, show l.length = 1 by omega] at h; exact h (Int.le_refl _)
        · exact c
      exact impl_littleRuns_l1 l hl i (by omega) h (20 * d + 1) o ho (runsF l d (i + 1)) (fun k o hk ho => impl_littleRuns_l0 l hl d k (i + 1) o (by omega) hk ho) (l.length - 2) k 1 (by omega) (by omega)
/-- The run at a place, as the program tells it. -/
def runHead (l : List Int) (i : Nat) : S86 := ⟨i, runVal l i, at' l i⟩
theorem runStep_cons (l : List Int) (i : Nat) (x : S86) (o : List S86) : runStep l i (x :: o) = x :: runStep l i o := by
  unfold runStep
  split
  · rfl
  · unfold addR; split <;> rfl
theorem runsF_cons (l : List Int) (x : S86) : ∀ (d i : Nat) (o : List S86), runsF l d i (x :: o) = x :: runsF l d i o
  | 0, _, _ => rfl
  | d + 1, i, o => by simp only [runsF, runStep_cons]; exact runsF_cons l x d (i + 1) _
theorem runsF_first (l : List Int) : ∀ (d i : Nat), match firstRun l d i with | none => runsF l d i [] = [] | some j => ∃ o, runsF l d i [] = runHead l j :: o
  | 0, _ => by simp [firstRun, runsF]
  | d + 1, i => by
    simp only [firstRun, runsF]
    have e : runStep l i [] = if runVal l i > 0 then [runHead l i] else [] := by
      unfold runStep runHead runVal
      by_cases h : at' l (i + l.length - 1) ≤ at' l i
      · rw [if_pos h, if_pos h]; rfl
      · rw [if_neg h, if_neg h]; rfl
    rw [e]
    by_cases h : runVal l i > 0
    · rw [if_pos h, if_pos h]; exact ⟨_, runsF_cons l _ d (i + 1) []⟩
    · rw [if_neg h, if_neg h]; exact runsF_first l d (i + 1)
theorem impl_littleRuns_eq (l : List Int) (hl : l.length ≤ 16) (k : Nat) (hk : 400 ≤ k) : impl_littleRuns.f k l = some (runsF l l.length 0 []) := by
  unfold impl_littleRuns.f
  have := impl_littleRuns_l0 l hl l.length k 0 [] (by omega) (by omega) (by simp)
  rw [show ((0 : Nat) : Int) = 0 from rfl] at this
  exact this

-- impl_chosen
theorem impl_chosen_l0 (q ix : List Int) (h : ∀ x ∈ ix, 0 ≤ x ∧ x < q.length) (hl : ix.length ≤ 1000) : ∀ (d j k : Nat) (acc : List Int), j + d = ix.length → d < k → acc.length = j → impl_chosen.l0 k q acc ix (ix.length : Int) (j : Int) = some (acc ++ (ix.drop j).map (rd q))
  | 0, j, k, acc, hd, hk, ha => by
    obtain ⟨k, rfl⟩ : ∃ m, k = m + 1 := ⟨k - 1, by omega⟩
    simp only [impl_chosen.l0]
    rw [if_neg (by omega), List.drop_eq_nil_of_le (by omega)]
    simp
  | d + 1, j, k, acc, hd, hk, ha => by
    obtain ⟨k, rfl⟩ : ∃ m, k = m + 1 := ⟨k - 1, by omega⟩
    have hj : j < ix.length := by omega
    have hx := h ix[j] (List.getElem_mem hj)
    simp only [impl_chosen.l0]
    rw [if_pos (by omega), if_pos (by omega), if_pos (by omega), rd_nat ix j hj, if_pos hx.1, if_pos hx.2, if_pos (by omega), succ64 (by omega), impl_chosen_l0 q ix h hl d (j + 1) k _ (by omega) (by omega) (by simp; omega), drop_at ix j hj, List.map_cons, List.append_assoc]
    rfl
theorem impl_chosen_eq (q ix : List Int) (h : ∀ x ∈ ix, 0 ≤ x ∧ x < q.length) (hl : ix.length ≤ 100) (k : Nat) (hk : ix.length < k) : impl_chosen.f k q ix = some (ix.map (rd q)) := by
  unfold impl_chosen.f
  have := impl_chosen_l0 q ix h (by omega) ix.length 0 k [] (by omega) hk rfl
  simpa using this

-- impl_innerCreases
/-- The creases of a run of c sectors from place i on, of n. -/
def creases (i n : Nat) : Nat → Nat → List Int
  | 0, _ => []
  | d + 1, j => (((i + j) % n : Nat) : Int) :: creases i n d (j + 1)
theorem creases_length (i n : Nat) : ∀ d j, (creases i n d j).length = d
  | 0, _ => rfl
  | d + 1, j => by simp [creases, creases_length i n d (j + 1)]
theorem creases_mem (i n : Nat) (hn : 0 < n) : ∀ d j, ∀ x ∈ creases i n d j, 0 ≤ x ∧ x < n
  | 0, _, x, hx => by simp [creases] at hx
  | d + 1, j, x, hx => by
    rcases List.mem_cons.1 hx with rfl | hx
    · have := Nat.mod_lt (i + j) hn; omega
    · exact creases_mem i n hn d (j + 1) x hx
theorem creases_get (i n : Nat) : ∀ (d j t : Nat) (h : t < (creases i n d j).length), (creases i n d j)[t] = (((i + j + t) % n : Nat) : Int)
  | 0, j, t, h => by simp [creases] at h
  | d + 1, j, 0, h => rfl
  | d + 1, j, t + 1, h => by
    simp only [creases, List.getElem_cons_succ]
    rw [creases_get i n d (j + 1) t (by rw [creases_length] at h ⊢; omega)]
    congr 2; omega
theorem impl_innerCreases_l0 (i n c : Nat) (s : Int) (hn : 0 < n) (h16 : n ≤ 16) (hi : i ≤ 16) (hc : c ≤ 16) : ∀ (d j k : Nat) (acc : List Int), j + d = c + 1 → d < k → acc.length = j → impl_innerCreases.l0 k (n : Int) acc ((c : Int) + 1) (j : Int) (i : Int) (c : Int) s = some (acc ++ creases i n d j)
  | 0, j, k, acc, hd, hk, ha => by
    obtain ⟨k, rfl⟩ : ∃ m, k = m + 1 := ⟨k - 1, by omega⟩
    simp only [impl_innerCreases.l0]
    rw [if_neg (by omega)]
    simp [creases]
  | d + 1, j, k, acc, hd, hk, ha => by
    obtain ⟨k, rfl⟩ : ∃ m, k = m + 1 := ⟨k - 1, by omega⟩
    have hz : ¬ (n : Int) = 0 := by omega
    simp only [impl_innerCreases.l0]
    rw [if_pos (by omega), if_neg hz, if_pos (by omega), succ64 (by omega), w64 (n := (i : Int) + j) (by omega) (by omega), show (i : Int) + j = ((i + j : Nat) : Int) by omega, tmodN, impl_innerCreases_l0 i n c s hn h16 hi hc d (j + 1) k _ (by omega) (by omega) (by simp; omega)]
    simp [creases]
theorem impl_innerCreases_eq (i n c : Nat) (s : Int) (hn : 0 < n) (h16 : n ≤ 16) (hi : i ≤ 16) (hc : c ≤ 16) (k : Nat) (hk : 20 < k) : impl_innerCreases.f k (i : Int) (c : Int) s (n : Int) = some (creases i n (c + 1) 0) := by
  unfold impl_innerCreases.f
  rw [w64 (n := (c : Int) + 1) (by omega) (by omega)]
  have := impl_innerCreases_l0 i n c s hn h16 hi hc (c + 1) 0 k [] (by omega) (by omega) rfl
  simpa using this
/-- The kinds at a run's creases. -/
theorem creases_inner (q : List Int) (i c : Nat) (_hi : i < q.length) (hc : c + 2 ≤ q.length) : (creases i q.length (c + 1) 0).map (rd q) = inner c (rot q ((i + q.length - 1) % q.length)) := by
  have hb : (i + q.length - 1) % q.length < q.length := Nat.mod_lt _ (by omega)
  have hR := rot_length q ((i + q.length - 1) % q.length) (by omega)
  apply List.ext_getElem
  · unfold inner; rw [List.length_map, creases_length, List.length_drop, List.length_take, hR]; omega
  · intro t h1 h2
    rw [List.length_map, creases_length] at h1
    rw [List.getElem_map, creases_get]
    have e : (inner c (rot q ((i + q.length - 1) % q.length)))[t] = (rot q ((i + q.length - 1) % q.length))[1 + t]'(by rw [hR]; omega) := by simp [inner, Nat.add_comm]
    rw [e, ← rd_nat _ (1 + t) (by rw [hR]; omega), rd_rot q _ (1 + t) hb (by omega)]
    refine Eq.trans ?_ (at'_congr q (add_mod_l _ _ _)).symm
    show at' q (i + 0 + t) = _
    exact at'_congr q (by rw [show i + q.length - 1 + (1 + t) = i + 0 + t + q.length by omega, Nat.add_mod_right])

-- impl_countKind
-- MATH Crimp
theorem impl_countKind_l0 (y : Int) (l : List Int) (hl : l.length ≤ 1000) : ∀ (d j k : Nat) (s : Int), j + d = l.length → d < k → 0 ≤ s → s + d ≤ 1000 → impl_countKind.l0 k y s l (l.length : Int) (j : Int) = some (s + cnt y (l.drop j))
  | 0, j, k, s, hd, hk, h0, h1 => by
    obtain ⟨k, rfl⟩ : ∃ m, k = m + 1 := ⟨k - 1, by omega⟩
    simp only [impl_countKind.l0]
    rw [if_neg (by omega), List.drop_eq_nil_of_le (by omega)]
    simp [cnt]
  | d + 1, j, k, s, hd, hk, h0, h1 => by
    obtain ⟨k, rfl⟩ : ∃ m, k = m + 1 := ⟨k - 1, by omega⟩
    simp only [impl_countKind.l0]
    rw [if_pos (by omega), if_pos (by omega), if_pos (by omega), rd_nat l j (by omega), succ64 (by omega), drop_at l j (by omega), cnt]
    by_cases h : l[j] = y
    · rw [if_pos h, if_pos h, w64 (n := s + 1) (by omega) (by omega), impl_countKind_l0 y l hl d (j + 1) k (s + 1) (by omega) (by omega) (by omega) (by omega)]
      congr 1; omega
    · rw [if_neg h, if_neg h, impl_countKind_l0 y l hl d (j + 1) k s (by omega) (by omega) (by omega) (by omega)]
      congr 1; omega
theorem impl_countKind_eq (y : Int) (l : List Int) (hl : l.length ≤ 100) (k : Nat) (hk : l.length < k) : impl_countKind.f k l y = some (cnt y l) := by
  unfold impl_countKind.f
  have := impl_countKind_l0 y l (by omega) l.length 0 k 0 (by omega) hk (by omega) (by omega)
  simpa using this

-- impl_abs
theorem impl_abs_eq (a : Int) (h0 : -9223372036854775807 ≤ a) (h1 : a ≤ 9223372036854775807) : impl_abs.f a = some (if a < 0 then -a else a) := by
  unfold impl_abs.f
  rw [w64 (by omega) (by omega)]
  congr 1
  unfold mx
  split <;> split <;> omega

-- impl_excess
theorem impl_excess_eq (l : List Int) (hl : l.length ≤ 100) (hq : KndOk l) (k : Nat) (hk : l.length < k) : impl_excess.f k l = some (if tal l < 0 then -tal l else tal l) := by
  unfold impl_excess.f
  have h1 := cnt_bd 2 l
  have h2 := cnt_bd 3 l
  have h3 := cnt_tal hq
  have h4 := tal_bd l
  rw [impl_countKind_eq 2 l hl k hk, Option.bind_some, impl_countKind_eq 3 l hl k hk, Option.bind_some, w64 (n := cnt 2 l - cnt 3 l) (by omega) (by omega), h3]
  unfold impl_abs.f mx
  rw [w64 (n := -tal l) (by omega) (by omega), Option.bind_some]
  congr 1
  split <;> split <;> omega

-- impl_isBalanced
theorem impl_isBalanced_eq (q : List Int) (hq : KndOk q) (i c : Nat) (s : Int) (h16 : q.length ≤ 16) (hi : i < q.length) (hc : c + 2 ≤ q.length) (k : Nat) (hk : 100 < k) :
    impl_isBalanced.f k (i : Int) (c : Int) s q = some ((if tal (inner c (rot q ((i + q.length - 1) % q.length))) < 0 then -tal (inner c (rot q ((i + q.length - 1) % q.length))) else tal (inner c (rot q ((i + q.length - 1) % q.length)))) == (((c + 1) % 2 : Nat) : Int)) := by
  unfold impl_isBalanced.f impl_length_int64.f
  have hin := creases_inner q i c hi hc
  have hR := rot_length q ((i + q.length - 1) % q.length) (Nat.le_of_lt (Nat.mod_lt _ (by omega)))
  have hil : (inner c (rot q ((i + q.length - 1) % q.length))).length = c + 1 := by unfold inner; rw [List.length_drop, List.length_take, hR]; omega
  have hk2 : KndOk (inner c (rot q ((i + q.length - 1) % q.length))) := fun x hx => hq x (mem_rot (List.mem_of_mem_take (List.mem_of_mem_drop hx)))
  rw [Option.bind_some, impl_innerCreases_eq i q.length c s (by omega) h16 (by omega) (by omega) k (by omega), Option.bind_some, impl_chosen_eq q _ (creases_mem i q.length (by omega) (c + 1) 0) (by rw [creases_length]; omega) k (by rw [creases_length]; omega), Option.bind_some, hin, impl_excess_eq _ (by omega) hk2 k (by omega), Option.bind_some,
    succ64 (by omega), show Int.tmod ((c + 1 : Nat) : Int) 2 = (((c + 1) % 2 : Nat) : Int) from rfl]

-- impl_crimp
-- MATH Count
theorem impl_crimp_l0 (l q : List Int) (hq : q.length = l.length) (h16 : l.length ≤ 16) (b : Nat) (hb : b < l.length) : ∀ (d m k : Nat) (S O : List Int), m + d = l.length → 1 ≤ m → d < k → S.length + d ≤ 100 → O.length + d ≤ 100 →
    impl_crimp.l0 k l q (l.length : Int) (b : Int) S O (((b + m) % l.length : Nat) : Int) = some (S ++ (rot l b).drop m, O ++ (rot q b).drop m, 0)
  | 0, m, k, S, O, hd, h1, hk, hS, hO => by
    obtain ⟨k, rfl⟩ : ∃ m, k = m + 1 := ⟨k - 1, by omega⟩
    have hl := rot_length l b (by omega)
    have hl2 := rot_length q b (by omega)
    simp only [impl_crimp.l0]
    rw [show m = l.length by omega, Nat.add_mod_right, Nat.mod_eq_of_lt hb, if_pos rfl, List.drop_eq_nil_of_le (by omega), List.drop_eq_nil_of_le (by omega), List.append_nil, List.append_nil]
  | d + 1, m, k, S, O, hd, h1, hk, hS, hO => by
    obtain ⟨k, rfl⟩ : ∃ m, k = m + 1 := ⟨k - 1, by omega⟩
    have hl := rot_length l b (by omega)
    have hl2 := rot_length q b (by omega)
    have hx := Nat.mod_lt (b + m) (show 0 < l.length by omega)
    have hne : (b + m) % l.length ≠ b := by
      intro e
      by_cases c : b + m < l.length
      · rw [Nat.mod_eq_of_lt c] at e; omega
      · rw [show b + m = (b + m - l.length) + l.length by omega, Nat.add_mod_right, Nat.mod_eq_of_lt (by omega)] at e; omega
    have hz : ¬ (l.length : Int) = 0 := by omega
    have r1 : rd l (((b + m) % l.length : Nat) : Int) = (rot l b)[m]'(by omega) := by
      rw [← rd_nat _ m (by omega), rd_rot l b m hb (by omega)]; rfl
    have r2 : rd q (((b + m) % l.length : Nat) : Int) = (rot q b)[m]'(by omega) := by
      rw [← rd_nat _ m (by omega), rd_rot q b m (by omega) (by omega)]; unfold at'; rw [hq]
    have e : Int.tmod (wrap64 ((((b + m) % l.length : Nat) : Int) + 1)) (l.length : Int) = (((b + (m + 1)) % l.length : Nat) : Int) := by
      rw [succ64 (by omega), tmodN, add_mod_l, Nat.add_assoc]
    have E := Aside0.mk e
    clear e
    simp only [impl_crimp.l0]
    rw [if_neg (by omega), if_pos (by omega), if_pos (by omega), if_pos (by omega), if_pos (by omega), if_pos (by omega), if_neg hz, E.out, r1, r2, impl_crimp_l0 l q hq h16 b hb d (m + 1) k _ _ (by omega) (by omega) (by omega) (by simp; omega) (by simp; omega), drop_at (rot l b) m (by omega), drop_at (rot q b) m (by omega)]
    simp
set_option maxRecDepth 10000 in
theorem impl_crimp_eq (l q : List Int) (hl : ConeOk l) (hq : KndOk q) (hn : q.length = l.length) (k : Nat) (hk : 500 ≤ k) : impl_crimp.f k l q = some (crimpF l q) := by
  obtain ⟨h1, h2, h3, _⟩ := id hl
  have hruns := impl_littleRuns_eq l h2 k (by omega)
  have hfst := runsF_first l l.length 0
  unfold crimpF
  cases hf : firstRun l l.length 0 with
  | none =>
    rw [hf] at hfst
    simp only at hfst
    unfold impl_crimp.f
    rw [hruns, hfst]
    rfl
  | some i =>
    rw [hf] at hfst
    obtain ⟨o, ho⟩ := hfst
    obtain ⟨_, hi, hr⟩ := firstRun_some l _ _ _ hf
    have hi' : i < l.length := by omega
    have R := runR_of hl hi' hr
    obtain ⟨c, hc⟩ : ∃ c : Nat, c = (runVal l i).toNat := ⟨_, rfl⟩
    have hv : runVal l i = (c : Int) := by omega
    have hbal := impl_isBalanced_eq q hq i c (at' l i) (by omega) (by omega) (by have := R.two; rw [rot_length _ _ (Nat.le_of_lt (Nat.mod_lt _ (by omega))), ← hc] at this; omega) k (by omega)
    have hic := creases_inner q i c (by omega) (by have := R.two; rw [rot_length _ _ (Nat.le_of_lt (Nat.mod_lt _ (by omega))), ← hc] at this; omega)
    have hcm := creases_mem i q.length (by omega) (c + 1) 0
    obtain ⟨b, hb⟩ : ∃ b : Nat, b = (i + l.length - 1) % l.length := ⟨_, rfl⟩
    rw [hn, ← hb] at hbal hic
    rw [hn] at hcm
    rw [← hc, ← hb] at R
    simp only [← hc, ← hb]
    have hbl : b < l.length := by rw [hb]; exact Nat.mod_lt _ (by omega)
    have hL : (rot l b).length = l.length := rot_length l b (Nat.le_of_lt hbl)
    have hQ : (rot q b).length = l.length := by rw [rot_length q b (by rw [hn]; exact Nat.le_of_lt hbl), hn]
    have R1 := R.one
    have R2 := R.two
    have hc16 : c ≤ 16 := by omega
    have e1 : Int.tmod (wrap64 (wrap64 ((i : Int) + (l.length : Int)) - 1)) (l.length : Int) = (b : Int) := by
      rw [w64 (n := (i : Int) + l.length) (by omega) (by omega), show (i : Int) + l.length - 1 = ((i + l.length - 1 : Nat) : Int) by omega, idx l _ (by omega) (by omega), hb]
    have E1 := Aside0.mk e1
    clear e1
    have hbi : (b + 1) % l.length = i := by
      rw [hb, add_mod_l, show i + l.length - 1 + 1 = i + l.length by omega, Nat.add_mod_right, Nat.mod_eq_of_lt hi']
    obtain ⟨h, hh⟩ : ∃ h : Nat, h = (i + c) % l.length := ⟨_, rfl⟩
    have hhl : h < l.length := by rw [hh]; exact Nat.mod_lt _ (by omega)
    have hh2 : h = (b + (c + 1)) % l.length := by rw [hh, ← hbi, add_mod_l, show b + 1 + c = b + (c + 1) by omega]
    have e2 : Int.tmod (wrap64 ((i : Int) + (c : Int))) (l.length : Int) = (h : Int) := by
      rw [show (i : Int) + c = ((i + c : Nat) : Int) by omega, idx l _ (by omega) (by omega), hh]
    have E2 := Aside0.mk e2
    clear e2
    have e3 : Int.tmod (wrap64 ((h : Int) + 1)) (l.length : Int) = (((b + (c + 2)) % l.length : Nat) : Int) := by
      rw [succ64 (by omega), tmodN, hh2, add_mod_l, show b + (c + 1) + 1 = b + (c + 2) by omega]
    have E3 := Aside0.mk e3
    clear e3
    have rb : rd l (b : Int) = rd (rot l b) 0 := by rw [show (0 : Int) = ((0 : Nat) : Int) from rfl, rd_rot l b 0 hbl (by omega), at'_self l b hbl]; rfl
    have rh : rd l (h : Int) = rd (rot l b) ((c + 1 : Nat) : Int) := by rw [rd_rot l b (c + 1) hbl (by omega), hh2]; rfl
    have rs : at' l i = rd (rot l b) 1 := by
      rw [show (1 : Int) = ((1 : Nat) : Int) from rfl, rd_rot l b 1 hbl (by omega)]
      unfold at'
      rw [hbi, Nat.mod_eq_of_lt hi']
    have rq : rd q (b : Int) = rd (rot q b) 0 := by rw [show (0 : Int) = ((0 : Nat) : Int) from rfl, rd_rot q b 0 (by omega) (by omega), at'_self q b (by omega)]; rfl
    have hz : ¬ (l.length : Int) = 0 := by omega
    have hin : (inner c (rot q b)).length = c + 1 := by unfold inner; rw [List.length_drop, List.length_take]; omega
    have hk2 : KndOk (inner c (rot q b)) := fun x hx => hq x (mem_rot (List.mem_of_mem_take (List.mem_of_mem_drop hx)))
    have hct := cnt_tal hk2
    -- the loop
    have hloop : ∀ S O : List Int, S.length ≤ 10 → O.length ≤ 10 → impl_crimp.j0 k l q (l.length : Int) (b : Int) (h : Int) S O = some (S ++ (rot l b).drop (c + 2), O ++ (rot q b).drop (c + 2), 0) := by
      intro S O hS hO
      obtain ⟨k, rfl⟩ : ∃ m, k = m + 1 := ⟨k - 1, by omega⟩
      simp only [impl_crimp.j0]
      rw [if_neg hz, E3.out]
      exact impl_crimp_l0 l q hn h2 b hbl (l.length - (c + 2)) (c + 2) k S O (by omega) (by omega) (by omega) (by omega) (by omega)
    have r0 : rd_T86 (runHead l i :: o) 0 = ⟨(i : Int), (c : Int), at' l i⟩ := by rw [← hv]; rfl
    have hlen : ¬ (((runHead l i :: o).length : Int) = 0) := by rw [List.length_cons]; omega
    have hlen2 : (0 : Int) < ((runHead l i :: o).length : Int) := by rw [List.length_cons]; omega
    unfold impl_crimp.f impl_length_int64.f
    rw [hruns, ho, Option.bind_some, if_neg hlen, if_pos hlen2, Option.bind_some, r0]
    simp only
    rw [hbal, Option.bind_some]
    simp only [E1.out, E2.out, if_neg hz, if_pos (show (0 : Int) ≤ (b : Int) by omega), if_pos (show (b : Int) < (l.length : Int) by omega), if_pos (show (0 : Int) ≤ (h : Int) by omega), if_pos (show (h : Int) < (l.length : Int) by omega), if_pos (show (b : Int) < (q.length : Int) by omega)]
    have hg0 := R.big _ (List.getElem_mem (show 0 < (rot l b).length by omega))
    have hg1 := R.big _ (List.getElem_mem (show 1 < (rot l b).length by omega))
    have hg2 := R.big _ (List.getElem_mem (show c + 1 < (rot l b).length by omega))
    rw [← rd_eq] at hg0 hg1 hg2
    have hg0 : 1 ≤ rd (rot l b) 0 ∧ rd (rot l b) 0 ≤ 16 := hg0
    have hg1 : 1 ≤ rd (rot l b) 1 ∧ rd (rot l b) 1 ≤ 16 := hg1
    rw [rb, rh, rs, rq, w64 (n := rd (rot l b) 0 - rd (rot l b) 1) (by omega) (by omega), w64 (n := rd (rot l b) 0 - rd (rot l b) 1 + rd (rot l b) ((c + 1 : Nat) : Int)) (by omega) (by omega)]
    have hdr : (rot l b).drop (c + 1) = rd (rot l b) ((c + 1 : Nat) : Int) :: (rot l b).drop (c + 2) := by rw [drop_at _ (c + 1) (by omega), rd_eq _ (j := c + 1) (by omega)]
    rw [impl_innerCreases_eq i l.length c _ (by omega) h2 (by omega) hc16 k (by omega), Option.bind_some, impl_chosen_eq q _ (by rw [hn]; exact hcm) (by rw [creases_length]; omega) k (by rw [creases_length]; omega), Option.bind_some, hic, impl_countKind_eq 3 _ (by omega) k (by omega), Option.bind_some, impl_countKind_eq 2 _ (by omega) k (by omega), Option.bind_some,
      hloop _ _ (by simp) (by simp), hloop _ _ (by simp) (by simp), hloop _ _ (by simp) (by simp)]
    unfold crimpR
    rw [hdr]
    have htm : Int.tmod (c : Int) 2 = ((c % 2 : Nat) : Int) := rfl
    rw [htm]
    generalize tal (inner c (rot q b)) = t at *
    by_cases hodd : c % 2 = 1
    · rw [if_pos hodd]
      rw [if_pos (show ((c % 2 : Nat) : Int) = 1 by omega), show (c + 1) % 2 = 0 by omega]
      by_cases ht : t = 0
      · subst ht; simp
      · rw [if_neg ht, if_neg (by simp; split <;> omega)]
    · rw [if_neg hodd]
      rw [if_neg (show ¬ ((c % 2 : Nat) : Int) = 1 by omega), show (c + 1) % 2 = 1 by omega]
      by_cases ht : t = 1 ∨ t = -1
      · rw [if_pos ht, if_pos (by rcases ht with rfl | rfl <;> rfl)]
        by_cases hn : t < 0
        · rw [if_pos hn, if_pos (by omega)]; rfl
        · rw [if_neg hn, if_neg (by omega)]; rfl
      · rw [if_neg ht, if_neg (by simp; split <;> omega)]

-- impl_foldsAround
-- MATH Count
theorem impl_foldsAround_l0 : ∀ (d k : Nat) (l q : List Int), ConeOk l → KndOk q → q.length = l.length → l.length ≤ d → 520 + d < k → impl_foldsAround.l0 k l q = some (foldF d l q)
  | 0, k, l, q, hl, _, _, hd, _ => by have := hl.1; omega
  | d + 1, k, l, q, hl, hq, hn, hd, hk => by
    obtain ⟨k, rfl⟩ : ∃ m, k = m + 1 := ⟨k - 1, by omega⟩
    have h2 := hl.2.1
    simp only [impl_foldsAround.l0, foldF]
    rw [impl_crimp_eq l q hl hq hn k (by omega), Option.bind_some]
    by_cases h6 : (crimpF l q).2.2 = 6
    · rw [if_pos h6, if_pos h6, impl_excess_eq q (by omega) hq k (by omega), Option.bind_some]
      congr 1
      rw [Bool.eq_iff_iff, beq_iff_eq, decide_eq_true_eq]
      split <;> omega
    · rw [if_neg h6, if_neg h6]
      rcases crimpF_code l q with h | h | h
      · exact absurd h h6
      · rw [if_pos h, if_neg (by omega)]
      · rw [if_neg (by omega), if_pos h]
        obtain ⟨a1, a2, a3, a4⟩ := crimpF_ok hl hq hn h
        exact impl_foldsAround_l0 d k _ _ a1 a2 a3 (by omega) (by omega)
theorem impl_foldsAround_eq (l q : List Int) (hl : ConeOk l) (hq : KndOk q) (hn : q.length = l.length) (k : Nat) (hk : 600 ≤ k) : impl_foldsAround.f k l q = some (folds l q) := by
  unfold impl_foldsAround.f folds
  have := hl.2.1
  exact impl_foldsAround_l0 l.length k l q hl hq hn (Nat.le_refl _) (by omega)

-- impl_CountAssignments
-- MATH Bits
theorem kindsN_B (n b : Nat) : impl_CountAssignments_kindsN n b = kindsB n b := rfl
theorem cntF_eq (l : List Int) (hl : ConeOk l) (k : Nat) (hk : 600 ≤ k) : ∀ (d b : Nat) (m : Int), 0 ≤ m → m + d ≤ 1073741824 → impl_CountAssignments_cntF k l d b m = some (m + ((rsum (fun b => b01 (folds l (kindsB l.length b))) d b : Nat) : Int))
  | 0, b, m, _, _ => by simp [impl_CountAssignments_cntF, rsum]
  | d + 1, b, m, h0, h1 => by
    simp only [impl_CountAssignments_cntF, rsum, kindsN_B]
    rw [impl_foldsAround_eq l _ hl (kindsB_ok _ _) (kindsB_length _ _) k hk, Option.bind_some]
    cases hf : folds l (kindsB l.length b) with
    | true =>
      rw [if_pos rfl, w64 (by omega) (by omega), cntF_eq l hl k hk d (b + 1) (m + 1) (by omega) (by omega)]
      congr 1
      have : b01 true = 1 := rfl
      omega
    | false =>
      rw [if_neg (by simp), cntF_eq l hl k hk d (b + 1) m (by omega) (by omega)]
      congr 1
      have : b01 false = 0 := rfl
      omega
theorem impl_CountAssignments_eq (l : List Int) (k : Nat) (hk : 600 ≤ k) : impl_CountAssignments.f k l = some (cntV l) := by
  unfold impl_CountAssignments.f cntV
  rw [impl_ValidCone_eq l k (by omega), Option.bind_some]
  by_cases h : ConeOk l
  · have h16 := h.2.1
    have hp : (2 : Nat) ^ l.length ≤ 2 ^ 16 := Nat.pow_le_pow_right (by omega) h16
    have c : (2 : Nat) ^ 16 = 65536 := by decide
    rw [decide_eq_true h, if_pos rfl, if_pos h16, cntF_eq l h k hk _ 0 0 (by omega) (by omega), Option.bind_some, rsum_kinds l.length (fun q => b01 (folds l q)), Int.zero_add, if_pos h]
    rfl
  · rw [decide_eq_false h, if_neg (by simp), if_neg h]

-- laws_eqInt64S
theorem laws_eqInt64S_l0 (a b : List Int) (hl : a.length ≤ 1048576) (hab : a.length = b.length) : ∀ (d k j : Nat), j + d = a.length → d < k →
    laws_eqInt64S.l0 k a b (j : Int) = some (decide (a.drop j = b.drop j))
  | 0, k, j, hd, hk => by
    obtain ⟨k, rfl⟩ : ∃ m, k = m + 1 := ⟨k - 1, by omega⟩
    simp only [laws_eqInt64S.l0]
    rw [if_neg (by omega), List.drop_eq_nil_of_le (by omega), List.drop_eq_nil_of_le (by omega)]
    simp
  | d + 1, k, j, hd, hk => by
    obtain ⟨k, rfl⟩ : ∃ m, k = m + 1 := ⟨k - 1, by omega⟩
    simp only [laws_eqInt64S.l0]
    rw [if_pos (by omega), if_pos (by omega), if_pos (by omega), rd_nat a j (by omega), rd_nat b j (by omega), succ64 (by omega), drop_at a j (by omega), drop_at b j (by omega)]
    by_cases h : a[j] = b[j]
    · rw [if_pos h, laws_eqInt64S_l0 a b hl hab d k (j + 1) (by omega) (by omega)]
      simp only [List.cons.injEq, h, true_and]
    · rw [if_neg h]
      simp only [List.cons.injEq, h, false_and, decide_false]
theorem laws_eqInt64S_eq (a b : List Int) (hl : a.length ≤ 1048576) (k : Nat) (hk : a.length < k) : laws_eqInt64S.f k a b = some (decide (a = b)) := by
  unfold laws_eqInt64S.f
  by_cases h : a.length = b.length
  · rw [if_pos (by omega)]
    have := laws_eqInt64S_l0 a b hl h a.length k 0 (by omega) hk
    rw [show ((0 : Nat) : Int) = 0 from rfl, List.drop_zero, List.drop_zero] at this
    exact this
  · rw [if_neg (by omega), decide_eq_false (fun c => h (by rw [c]))]

theorem FnExactCountAssignments : laws_FnExactCountAssignments.Pure := by
  intro l _ _ _
  refine ⟨l.length + 1000, ?_⟩
  unfold laws_FnExactCountAssignments.f
  by_cases h1 : (l.length : Int) > 1048576
  · rw [if_pos h1]
  · rw [if_neg h1]
    simp (disch := omega) only [laws_toInt64S_eq, spec_CountAssignments_eq, impl_CountAssignments_eq, Option.bind_some, if_true, bne_self_eq_false]
    simp (disch := omega) only [laws_FnExactCountAssignments.j0, laws_toInt64S_eq, laws_eqInt64S_eq, Option.bind_some, decide_true, if_true, if_false, bne_self_eq_false, Bool.false_eq_true]

end Go.Proofs.Ytakpnhlkalbcoaa.Pure
