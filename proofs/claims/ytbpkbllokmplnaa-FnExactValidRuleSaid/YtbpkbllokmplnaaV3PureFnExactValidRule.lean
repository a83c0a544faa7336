/- What is proved: the program's ValidRule answers what the reference's answers, at every rule and every number of variables. Conditions: none. -/
import Derived.Test.YtbpkbllokmplnaaV3PFnExactValidRulex
import Derived.Test.YtbpkbllokmplnaaV3Math
import Derived.Test.YtbpkbllokmplnaaV3Secs
namespace Go.Proofs.Ytbpkbllokmplnaa.Pure
open Go.RowKit Go.Proofs.Ytbpkbllokmplnaa.PFnExactValidRule Go.Proofs.YtbpkbllokmplnaaW.PrintWords Go.Proofs.YtbpkbllokmplnaaW.PrintLast Go.Proofs.YtbpkbllokmplnaaW.PrintMore Go.Proofs.Ytbpkbllokmplnaa.Math

theorem spec_l00In_eq (a b c : Int) : ziE.f a b c = some (decide (b ≤ a ∧ a ≤ c)) := by
 unfold ziE.f
 by_cases h : b ≤ a <;> simp [h]

theorem spec_l00Rises_l0 (l : List Int) (lo hi : Int) (hl : l.length ≤ 1048576) : ∀ (d k j : Nat), j + d = l.length → d < k → zvW.l0 k l lo hi (j : Int) = some (rises lo hi (prevOf l j) (l.drop j))
 | 0, k, j, hd, hk => by
  obtain ⟨k, rfl⟩ : ∃ m, k = m + 1 := ⟨k - 1, by omega⟩
  simp only [zvW.l0]
  rw [if_neg (by omega), List.drop_eq_nil_of_le (by omega)]; rfl
 | d + 1, k, j, hd, hk => by
  obtain ⟨k, rfl⟩ : ∃ m, k = m + 1 := ⟨k - 1, by omega⟩
  have ih := spec_l00Rises_l0 l lo hi hl d k (j + 1) (by omega) (by omega)
  rw [show prevOf l (j + 1) = some l[j] by unfold prevOf; rw [if_neg (by omega), Nat.add_sub_cancel, List.getElem?_eq_getElem (by omega)]] at ih
  simp only [zvW.l0]
  rw [if_pos (by omega), if_pos (by omega), rd_nat l j (by omega), spec_l00In_eq, Option.bind_some, drop_at l j (by omega), succ64 (by omega), ih]
  by_cases h : lo ≤ l[j] ∧ l[j] ≤ hi
  ·rw [if_pos (by simp [h])]
   by_cases hj : j = 0
   ·subst hj
    rw [if_neg (by omega)]
    simp [rises, prevOf, h]
   ·rw [if_pos (by omega), pred64 (by omega) (by omega), if_pos (by omega), if_pos (by omega), rd_nat l (j - 1) (by omega)]
    have ha : prevOf l j = some l[j - 1] := by unfold prevOf; rw [if_neg hj, List.getElem?_eq_getElem (by omega)]
    by_cases hq : l[j] ≤ l[j - 1]
    ·rw [if_pos (by omega), ha]
     have hq' : ¬ l[j - 1] < l[j] := by omega
     simp [rises, hq']
    ·rw [if_neg (by omega), ha]
     have : l[j - 1] < l[j] := by omega
     simp [rises, h, this]
  ·rw [if_neg (by simp [h])]
   simp only [rises, decide_eq_false h, Bool.false_and]
theorem spec_l00Rises_eq (l : List Int) (lo hi : Int) (hl : l.length ≤ 1048576) (k : Nat) (hk : l.length < k) : zvW.f k l lo hi = some (rises lo hi none l) :=
 spec_l00Rises_l0 l lo hi hl l.length k 0 (by omega) hk

theorem laws_toInt64S_l0 (l : List Int) (hl : l.length ≤ 1048576) : ∀ (d k j : Nat) (o : List Int), j + d = l.length → d < k → o.length = l.length → o.take j = l.take j →
  zkZ.l0 k l o (j : Int) = some l
 | 0, k, j, o, hd, hk, ho, ht => by
  obtain ⟨k, rfl⟩ : ∃ m, k = m + 1 := ⟨k - 1, by omega⟩
  simp only [zkZ.l0]
  rw [if_neg (by omega)]
  rw [List.take_of_length_le (by omega), List.take_of_length_le (by omega)] at ht
  rw [ht]
 | d + 1, k, j, o, hd, hk, ho, ht => by
  obtain ⟨k, rfl⟩ : ∃ m, k = m + 1 := ⟨k - 1, by omega⟩
  simp only [zkZ.l0]
  rw [if_pos (by omega), if_pos (by omega), if_pos (by omega), rd_nat l j (by omega), succ64 (by omega), Int.toNat_natCast]
  refine laws_toInt64S_l0 l hl d k (j + 1) _ (by omega) (by omega) (by simpa using ho) ?_
  rw [List.take_add_one, List.take_add_one, List.take_set_of_le (Nat.le_refl j), ht, List.getElem?_set_self (by omega), List.getElem?_eq_getElem (by omega)]
theorem laws_toInt64S_eq (l : List Int) (hl : l.length ≤ 1048576) (k : Nat) (hk : l.length < k) : zkZ.f k l = some l := by
 unfold zkZ.f
 rw [if_pos (by omega), if_pos (by omega), Int.toNat_natCast]
 exact laws_toInt64S_l0 l hl l.length k 0 _ (by omega) hk (by simp) (by simp)

theorem impl_within_eq (a b c : Int) : zrP.f a b c = some (decide (b ≤ a ∧ a ≤ c)) := by
 unfold zrP.f
 by_cases h : b ≤ a <;> simp [h]

theorem impl_isRising_l0 (l : List Int) (lo hi : Int) (hl : l.length ≤ 1048576) : ∀ (d k j : Nat), j + d = l.length → d < k → zjB.l0 k l lo hi l (l.length : Int) (j : Int) = some (rises lo hi (prevOf l j) (l.drop j))
 | 0, k, j, hd, hk => by
  obtain ⟨k, rfl⟩ : ∃ m, k = m + 1 := ⟨k - 1, by omega⟩
  simp only [zjB.l0]
  rw [if_neg (by omega), List.drop_eq_nil_of_le (by omega)]; rfl
 | d + 1, k, j, hd, hk => by
  obtain ⟨k, rfl⟩ : ∃ m, k = m + 1 := ⟨k - 1, by omega⟩
  have ih := impl_isRising_l0 l lo hi hl d k (j + 1) (by omega) (by omega)
  rw [show prevOf l (j + 1) = some l[j] by unfold prevOf; rw [if_neg (by omega), Nat.add_sub_cancel, List.getElem?_eq_getElem (by omega)]] at ih
  simp only [zjB.l0]
  rw [if_pos (by omega), if_pos (by omega), if_pos (by omega), rd_nat l j (by omega), impl_within_eq, Option.bind_some, drop_at l j (by omega), succ64 (by omega), ih]
  by_cases h : lo ≤ l[j] ∧ l[j] ≤ hi
  ·rw [if_pos (by simp [h])]
   by_cases hj : j = 0
   ·subst hj
    rw [if_neg (by omega)]
    simp [rises, prevOf, h]
   ·rw [if_pos (by omega), pred64 (by omega) (by omega), if_pos (by omega), if_pos (by omega), rd_nat l (j - 1) (by omega)]
    have ha : prevOf l j = some l[j - 1] := by unfold prevOf; rw [if_neg hj, List.getElem?_eq_getElem (by omega)]
    by_cases hq : l[j] ≤ l[j - 1]
    ·rw [if_pos (by omega), ha]
     have hq' : ¬ l[j - 1] < l[j] := by omega
     simp [rises, hq']
    ·rw [if_neg (by omega), ha]
     have : l[j - 1] < l[j] := by omega
     simp [rises, h, this]
  ·rw [if_neg (by simp [h])]
   simp only [rises, decide_eq_false h, Bool.false_and]
theorem impl_isRising_eq (l : List Int) (lo hi : Int) (hl : l.length ≤ 1048576) (k : Nat) (hk : l.length < k) : zjB.f k l lo hi = some (rises lo hi none l) :=
 impl_isRising_l0 l lo hi hl l.length k 0 (by omega) hk

theorem impl_areUnits_eq (l : List Int) : zbO.f l = some (l.all fun x => decide (x = 1 ∨ x = -1)) := by
 unfold zbO.f
 rw [zoB.eq_any (fun x => !decide (x = 1 ∨ x = -1)) l (fun x _ => by
  simp only [zzZ.f, impl_isUnit.f]
  by_cases h1 : x = 1
  ·simp [h1]
  ·by_cases h2 : x = -1
   ·simp [h2]
   ·simp [h1, h2]), Option.bind_some, List.not_any_eq_all_not]
 simp only [Bool.not_not]

theorem laws_eqInt64S_l0 (a b : List Int) (hl : a.length ≤ 1048576) (hab : a.length = b.length) : ∀ (d k j : Nat), j + d = a.length → d < k →
  zsK.l0 k a b (j : Int) = some (decide (a.drop j = b.drop j))
 | 0, k, j, hd, hk => by
  obtain ⟨k, rfl⟩ : ∃ m, k = m + 1 := ⟨k - 1, by omega⟩
  simp only [zsK.l0]
  rw [if_neg (by omega), List.drop_eq_nil_of_le (by omega), List.drop_eq_nil_of_le (by omega)]
  simp
 | d + 1, k, j, hd, hk => by
  obtain ⟨k, rfl⟩ : ∃ m, k = m + 1 := ⟨k - 1, by omega⟩
  simp only [zsK.l0]
  rw [if_pos (by omega), if_pos (by omega), if_pos (by omega), rd_nat a j (by omega), rd_nat b j (by omega), succ64 (by omega), drop_at a j (by omega), drop_at b j (by omega)]
  by_cases h : a[j] = b[j]
  ·rw [if_pos h, laws_eqInt64S_l0 a b hl hab d k (j + 1) (by omega) (by omega)]
   simp only [List.cons.injEq, h, true_and]
  ·rw [if_neg h]
   simp only [List.cons.injEq, h, false_and, decide_false]
theorem laws_eqInt64S_eq (a b : List Int) (hl : a.length ≤ 1048576) (k : Nat) (hk : a.length < k) : zsK.f k a b = some (decide (a = b)) := by
 unfold zsK.f
 by_cases h : a.length = b.length
 ·rw [if_pos (by omega)]
  have := laws_eqInt64S_l0 a b hl h a.length k 0 (by omega) hk
  rw [show ((0 : Nat) : Int) = 0 from rfl, List.drop_zero, List.drop_zero] at this
  exact this
 ·rw [if_neg (by omega), decide_eq_false (fun c => h (by rw [c]))]

theorem ruleSz (kd : Int) (l1 l2 : List Int) (h1 : l1.length ≤ maxLen) (h2 : l2.length ≤ maxLen) : ∃ r, zzG.f kd l1 l2 1048576 = some r ∧ (0 ≤ r → l1.length ≤ 1048576 ∧ l2.length ≤ 1048576) := by
 have b1 : l1.length ≤ 9223372036854775807 := Nat.le_trans h1 (by unfold maxLen; omega)
 have b2 : l2.length ≤ 9223372036854775807 := Nat.le_trans h2 (by unfold maxLen; omega)
 unfold zzG.f zmA.f
 rw [w64 (n := 1048576 - (l1.length : Int)) (by omega) (by omega)]
 by_cases c1 : (1048576 : Int) - l1.length < 0
 ·rw [if_pos c1, Option.bind_some, if_pos (by omega)]
  exact ⟨-1, rfl, fun h => by omega⟩
 ·rw [if_neg c1, Option.bind_some, if_neg (by omega), w64 (n := 1048576 - (l1.length : Int) - l2.length) (by omega) (by omega)]
  by_cases c2 : (1048576 : Int) - l1.length - l2.length < 0
  ·rw [if_pos c2, Option.bind_some, if_pos (by omega)]
   exact ⟨-1, rfl, fun h => by omega⟩
  ·rw [if_neg c2, Option.bind_some, if_neg c2]
   exact ⟨_, rfl, fun _ => by omega⟩
theorem rule_both (kd : Int) (l1 l2 : List Int) (vars : Int) (h1 : l1.length ≤ 1048576) (k : Nat) (hk : l1.length < k) : ∃ r : Bool, ztD.f k kd l1 l2 vars = some r ∧ zhE.f k kd l1 l2 vars = some r := by
 unfold ztD.f zhE.f ztE
 rw [spec_l00In_eq, impl_within_eq, Option.bind_some, Option.bind_some]
 by_cases c1 : 0 ≤ vars ∧ vars ≤ 200
 ·rw [decide_eq_true c1, if_pos rfl, if_pos rfl, spec_l00In_eq, impl_within_eq, Option.bind_some, Option.bind_some]
  by_cases c2 : 1 ≤ kd ∧ kd ≤ 4
  ·rw [decide_eq_true c2, if_pos rfl, if_pos rfl]
   simp only [zfN.f, Option.bind_some]
   by_cases c3 : (l1.length : Int) = kd
   ·rw [if_pos c3, if_pos c3]
    by_cases c4 : l2.length = l1.length
    ·rw [if_pos c4, if_pos (by omega), spec_l00Rises_eq l1 _ _ h1 k hk, impl_isRising_eq l1 _ _ h1 k hk, Option.bind_some, Option.bind_some]
     cases rises 0 (wrap64 (vars - 1)) none l1 with
     | true =>
      rw [if_pos rfl, if_pos rfl, impl_areUnits_eq]
      exact ⟨_, rfl, rfl⟩
     | false => exact ⟨false, by simp, by simp⟩
    ·rw [if_neg c4, if_neg (by omega)]
     exact ⟨false, rfl, rfl⟩
   ·rw [if_neg c3, if_neg c3]
    exact ⟨false, rfl, rfl⟩
  ·rw [decide_eq_false c2]
   exact ⟨false, by simp, by simp⟩
 ·rw [decide_eq_false c1]
  exact ⟨false, by simp, by simp⟩
theorem FnExactValidRule : laws_FnExactValidRule.Pure := by
 intro kd l1 l2 vars hok _
 obtain ⟨_, h1, h2⟩ := hok
 refine ⟨1048600, ?_⟩
 obtain ⟨K, hK⟩ : ∃ K : Nat, K = 1048600 := ⟨_, rfl⟩
 rw [← hK]
 unfold laws_FnExactValidRule.f
 obtain ⟨r, e, hr⟩ := ruleSz kd l1 l2 h1.1 h2.1
 rw [e, Option.bind_some]
 by_cases h : r < 0
 ·rw [if_pos h]
 ·obtain ⟨n1, n2⟩ := hr (by omega)
  have et : zbI.f K kd l1 l2 = some (kd, l1, l2) := by
   unfold zbI.f
   rw [laws_toInt64S_eq l1 n1 K (by omega), Option.bind_some, laws_toInt64S_eq l2 n2 K (by omega), Option.bind_some]
  have ee : zkS.f K kd l1 l2 kd l1 l2 = some true := by
   unfold zkS.f
   rw [if_pos rfl, laws_eqInt64S_eq l1 l1 n1 K (by omega), Option.bind_some, laws_eqInt64S_eq l2 l2 n2 K (by omega), Option.bind_some]
   simp
  obtain ⟨b, e1, e2⟩ := rule_both kd l1 l2 vars n1 K (by omega)
  rw [if_neg h, et]
  simp only [Option.bind_some]
  rw [e1, Option.bind_some, e2, Option.bind_some, ee, Option.bind_some, bne_self_eq_false]
  simp

end Go.Proofs.Ytbpkbllokmplnaa.Pure
