/- What is proved: the program's ReadPolygon answers what the reference's answers, at every text. Conditions: none. -/
import Derived.Test.YtehghobmmpihfaaGreatDoorV1PFnExactReadPolygonx
import Derived.Test.YtehghobmmpihfaaGreatDoorV1Parse
import Derived.Test.YtehghobmmpihfaaGreatDoorV1Dirs
namespace Go.Proofs.YtehghobmmpihfaaGreatDoor.Pure
open Go.RowKit Go.Proofs.YtehghobmmpihfaaGreatDoor.PFnExactReadPolygon Go.Proofs.YtehghobmmpihfaaGreatDoorW.PrintWords Go.Proofs.YtehghobmmpihfaaGreatDoorW.PrintLast Go.Proofs.YtehghobmmpihfaaGreatDoorW.PrintMore Go.Proofs.YtehghobmmpihfaaGreatDoor.Math

theorem spec_l01Digit_isD (b : UInt8) : zsZ.f (b.toNat : Int) = some (isD b) := by
 unfold zsZ.f isD
 by_cases h1 : 48 ≤ b.toNat
 ·rw [if_pos (by omega)]
  congr 1
  by_cases h2 : b.toNat ≤ 57
  ·rw [decide_eq_true (by omega), decide_eq_true ⟨h1, h2⟩]
  ·rw [decide_eq_false (by omega), decide_eq_false (by omega)]
 ·rw [if_neg (by omega), decide_eq_false (by omega)]
theorem l01Int_loop (neg : Bool) : ∀ (suf pre : List UInt8) (acc : Int) (k : Nat), pre.length + suf.length ≤ 7 → 0 ≤ acc → acc < 10 ^ pre.length → suf.length < k →
  zlS.l0 k (sb (pre ++ suf)) neg acc (pre.length : Int) = some (if suf.all isD = true then (if neg = true then -(val acc suf) else val acc suf, true) else (0, false))
 | [], pre, acc, k, h, h0, h1, hk => by
  obtain ⟨k, rfl⟩ : ∃ m, k = m + 1 := ⟨k - 1, by omega⟩
  have hp := p10le pre.length (by simp at h; omega)
  have hl : (pre ++ [] : List UInt8).length = pre.length := by simp
  have hw : wrap64 (-acc) = -acc := w64 (by omega) (by omega)
  simp only [zlS.l0]
  rw [if_neg (by rw [zjA, hl]; omega), hw]
  cases neg <;> simp [val]
 | c :: suf, pre, acc, k, h, h0, h1, hk => by
  obtain ⟨k, rfl⟩ : ∃ m, k = m + 1 := ⟨k - 1, by omega⟩
  have hlen : (c :: suf).length = suf.length + 1 := rfl
  have hp := p10le (pre.length + 1) (by omega)
  have hp0 := p10le pre.length (by omega)
  have hl : pre.length < (pre ++ c :: suf).length := by simp
  have hg : (pre ++ c :: suf).getD pre.length 0 = c := by simp [List.getD_eq_getElem?_getD]
  simp only [zlS.l0]
  rw [if_pos (by rw [zjA]; omega), if_pos (by omega), bt_sb hl, hg, spec_l01Digit_isD, Option.bind_some]
  by_cases hd : isD c = true
  ·have hd' : 48 ≤ c.toNat ∧ c.toNat ≤ 57 := of_decide_eq_true hd
   rw [if_pos hd, w64 (n := 10 * acc) (by omega) (by omega), show ((c.toNat : Int) - 48) % 256 = (c.toNat : Int) - 48 by omega, w64 (n := 10 * acc + ((c.toNat : Int) - 48)) (by omega) (by omega), zaU (by omega)]
   have ih := l01Int_loop neg suf (pre ++ [c]) (10 * acc + ((c.toNat : Int) - 48)) k (by simp only [List.length_append, List.length_singleton]; omega) (by omega) (by
    rw [List.length_append, List.length_singleton, Int.pow_succ]; omega) (by omega)
   rw [List.append_assoc, List.singleton_append, List.length_append, List.length_singleton] at ih
   rw [ih, List.all_cons, hd, Bool.true_and, val_cons]
  ·have hd' : isD c = false := by simpa using hd
   rw [if_neg hd, List.all_cons, hd', Bool.false_and]
   rfl
theorem l01Int_j2 (t : List UInt8) (neg : Bool) (k : Nat) (hl : t.length ≤ 1048576) (hk : 12 < k) :
  zlS.j2 k (sb t) neg = some (if t.length < 1 ∨ 7 < t.length then (0, false) else if t.all isD = true then (if neg = true then -(val 0 t) else val 0 t, true) else (0, false)) := by
 obtain ⟨k, rfl⟩ : ∃ m, k = m + 2 := ⟨k - 2, by omega⟩
 simp only [zlS.j2, zlS.j3]
 rw [zjA]
 by_cases h1 : t.length < 1
 ·rw [if_pos (by omega), if_pos trivial, if_pos (Or.inl h1)]
 ·rw [if_neg (by omega)]
  by_cases h7 : 7 < t.length
  ·rw [if_pos (decide_eq_true (by omega)), if_pos (Or.inr h7)]
  ·rw [if_neg (by rw [decide_eq_false (by omega)]; simp), if_neg (by omega)]
   have := l01Int_loop neg t [] 0 k (by simp; omega) (Int.le_refl _) (by decide) (by omega)
   simpa using this
theorem zjO (l : List UInt8) (k : Nat) (hl : l.length ≤ 1048576) (hk : 20 < k) : zlS.f k (sb l) = some (l01 l) := by
 obtain ⟨k, rfl⟩ : ∃ m, k = m + 2 := ⟨k - 2, by omega⟩
 unfold zlS.f
 rw [sb_toList]
 cases l with
 | nil =>
  rw [if_pos rfl]
  simp only [zlS.j0, zlS.j1]
  rw [sb_toList, if_pos rfl, if_neg (by simp), l01Int_j2 [] false k (by simp) (by omega)]
  rfl
 | cons c r =>
  have hg : bt (sb (c :: r)) 0 = (c.toNat : Int) := bt_sb (l := c :: r) (j := 0) (by simp)
  have h0 : (0 : Int) < ((sb (c :: r)).size : Int) := by rw [zjA]; simp only [List.length_cons]; omega
  have hx : (sb (c :: r)).extract 1 (sb (c :: r)).size = sb r := by rw [zsR, zjA]; simp
  have hr : r.length ≤ 1048576 := by simp only [List.length_cons] at hl; omega
  rw [if_neg (by simp), if_pos h0, hg]
  simp only [zlS.j0, zlS.j1]
  rw [sb_toList, if_neg (by simp), if_pos h0, hg, hx]
  unfold l01
  simp only [List.head?_cons, List.tail_cons, Option.some.injEq]
  have h1 : (1 : Int) ≤ ((sb (c :: r)).size : Int) := by omega
  by_cases h45 : c = 45
  ·subst h45
   have e : (((45 : UInt8).toNat : Int) == 45) = true := rfl
   rw [if_pos (by decide), if_pos trivial, if_pos h1, l01Int_j2 r _ k hr (by omega), e]
   simp
  ·have hn : ¬ (c.toNat : Int) = 45 := fun h => h45 (by rw [← UInt8.toNat_inj]; show c.toNat = 45; omega)
   have hb : ((c.toNat : Int) == 45) = false := by simpa using hn
   rw [if_neg hn, hb]
   by_cases h43 : c = 43
   ·subst h43
    rw [if_pos (by decide), if_pos h1, l01Int_j2 r _ k hr (by omega)]
    simp
   ·have hn3 : ¬ (c.toNat : Int) = 43 := fun h => h43 (by rw [← UInt8.toNat_inj]; show c.toNat = 43; omega)
    have hb3 : ((c.toNat : Int) == 43) = false := by simpa using hn3
    rw [hb3, if_neg (by simp), l01Int_j2 (c :: r) _ k hl (by omega)]
    simp [h45, h43]

theorem l01Parts_j2 (l : List UInt8) (a : Nat) (k : Nat) (hl : l.length ≤ 1048576) (h1 : 1 ≤ l.length) (ha : a ≤ l.length - 1) (hk : 30 < k) :
  zqO.j2 k (sb l) (l.length : Int) (a : Int) = some (pr2 l a) := by
 obtain ⟨k, rfl⟩ : ∃ m, k = m + 1 := ⟨k - 1, by omega⟩
 have e1 : wrap64 ((l.length : Int) - 1) = ((l.length - 1 : Nat) : Int) := pred64 (by omega) h1
 have x1 : (sb l).extract 0 (l.length - 1) = sb (l.take (l.length - 1)) := by rw [zsR]; rfl
 have x2 : (sb l).extract 0 a = sb (l.take a) := by rw [zsR]; rfl
 have x3 : (sb l).extract a (l.length - 1) = sb ((l.take (l.length - 1)).drop a) := zsR _ _ _
 have l1 : (l.take (l.length - 1)).length ≤ 1048576 := by rw [List.length_take]; omega
 have l2 : (l.take a).length ≤ 1048576 := by rw [List.length_take]; omega
 have l3 : ((l.take (l.length - 1)).drop a).length ≤ 1048576 := by rw [List.length_drop, List.length_take]; omega
 simp only [zqO.j2, e1, Int.toNat_natCast, zjA]
 unfold pr2
 by_cases h0 : a = 0
 ·rw [if_pos (by omega), if_pos (by omega), if_pos (by omega), x1, zjO _ k l1 (by omega), if_pos h0]
  rfl
 ·rw [if_neg (by omega), if_pos (by omega), if_pos (by omega), x2, zjO _ k l2 (by omega), if_neg h0]
  simp only [Option.bind_some]
  rw [if_pos (by omega), if_pos (by omega), x3, zjO _ k l3 (by omega)]
  simp only [Option.bind_some]
  by_cases h : (l01 (l.take a)).2 = true
  ·rw [if_pos h, if_pos h]
  ·rw [if_neg h, if_neg h]
theorem l01Parts_loop (l : List UInt8) (hl : l.length ≤ 1048576) (h2 : 2 ≤ l.length) : ∀ (i k : Nat), i ≤ l.length - 2 → i + 40 < k → zqO.l0 k (sb l) (l.length : Int) (i : Int) = some (pr2 l (spn l i))
 | 0, k, hi, hk => by
  obtain ⟨k, rfl⟩ : ∃ m, k = m + 1 := ⟨k - 1, by omega⟩
  simp only [zqO.l0]
  rw [if_neg (by omega), l01Parts_j2 l 0 k hl (by omega) (by omega) (by omega)]
  rfl
 | i + 1, k, hi, hk => by
  obtain ⟨k, rfl⟩ : ∃ m, k = m + 1 := ⟨k - 1, by omega⟩
  have hj : i + 1 < l.length := by omega
  have ih := l01Parts_loop l hl h2 i k (by omega) (by omega)
  have j2 := l01Parts_j2 l (i + 1) k hl (by omega) (by omega) (by omega)
  have hs := isS_iff (l.getD (i + 1) 0)
  simp only [zqO.l0]
  rw [if_pos (by omega), if_pos (by omega), if_pos (by rw [zjA]; omega), bt_sb hj, j2, pred64 (j := i + 1) (by omega) (by omega), show i + 1 - 1 = i by omega, ih]
  simp only [spn]
  by_cases h43 : (l.getD (i + 1) 0).toNat = 43
  ·rw [if_pos (by omega), if_pos (hs.2 (Or.inl h43))]
  ·rw [if_neg (by omega)]
   by_cases h45 : (l.getD (i + 1) 0).toNat = 45
   ·rw [if_pos (by omega), if_pos (hs.2 (Or.inr h45))]
   ·rw [if_neg (by omega), if_neg fun h => by rcases hs.1 h with h | h <;> contradiction]
theorem spec_l01Parts_eq (l : List UInt8) (k : Nat) (hl : l.length ≤ 1048576) (hk : l.length + 60 < k) : zqO.f k (sb l) = some (prt l) := by
 obtain ⟨k, rfl⟩ : ∃ m, k = m + 1 := ⟨k - 1, by omega⟩
 unfold zqO.f
 simp only [zjA]
 by_cases h0 : l.length = 0
 ·obtain rfl := List.eq_nil_of_length_eq_zero h0
  rw [if_pos (by simp)]
  simp only [zqO.j0]
  rw [if_pos trivial, zjO [] k (by simp) (by omega)]
  rfl
 ·have e1 : wrap64 ((l.length : Int) - 1) = ((l.length - 1 : Nat) : Int) := pred64 (by omega) (by omega)
  rw [if_neg (by omega), e1, if_pos (by omega), if_pos (by omega), bt_sb (by omega)]
  simp only [zqO.j0]
  unfold prt
  by_cases h : l.getD (l.length - 1) 0 = 114
  ·have hb : (((l.getD (l.length - 1) 0).toNat : Int) != 114) = false := by rw [h]; rfl
   rw [hb, if_neg (by simp), if_pos h]
   by_cases h1 : l.length = 1
   ·obtain ⟨k, rfl⟩ : ∃ m, k = m + 1 := ⟨k - 1, by omega⟩
    have e2 : wrap64 ((l.length : Int) - 2) = -1 := by rw [w64 (by omega) (by omega)]; omega
    rw [e2]
    simp only [zqO.l0]
    rw [if_neg (by decide)]
    obtain ⟨k, rfl⟩ : ∃ m, k = m + 1 := ⟨k - 1, by omega⟩
    have x1 : (sb l).extract 0 (l.length - 1) = sb (l.take (l.length - 1)) := by rw [zsR]; rfl
    simp only [zqO.j2, e1, Int.toNat_natCast, zjA]
    rw [if_pos (by decide), if_pos (by omega), if_pos (by omega), x1, zjO _ k (by rw [List.length_take]; omega) (by omega), show l.length - 2 = 0 by omega]
    rfl
   ·have e2 : wrap64 ((l.length : Int) - 2) = ((l.length - 2 : Nat) : Int) := by rw [w64 (by omega) (by omega)]; omega
    rw [e2, l01Parts_loop l hl (by omega) (l.length - 2) k (Nat.le_refl _) (by omega)]
  ·have hb : (((l.getD (l.length - 1) 0).toNat : Int) != 114) = true := bne_iff_ne.2 fun hh => h (by rw [← UInt8.toNat_inj]; show (l.getD (l.length - 1) 0).toNat = 114; omega)
   rw [hb, if_pos rfl, if_neg h, zjO l k hl (by omega)]
   rfl

theorem spec_l00In_eq (a b c : Int) : ziE.f a b c = some (decide (b ≤ a ∧ a ≤ c)) := by
 unfold ziE.f
 by_cases h : b ≤ a <;> simp [h]

theorem spec_l01Ok_eq (a b k : Int) : zeG.f a b k = some (decide (znX a b k)) := by
 unfold zeG.f znX
 simp only [spec_l00In_eq, Option.bind_some]
 by_cases h1 : -131072 ≤ a ∧ a ≤ 131072
 ·by_cases h2 : -131072 ≤ b ∧ b ≤ 131072
  ·by_cases h3 : 0 ≤ k ∧ k ≤ 10
   ·simp only [h1, h2, h3, and_self, decide_true, if_true, true_and]
    by_cases h4 : k = 0
    ·simp [h4]
    ·by_cases h5 : Int.tmod a 2 = 0
     ·have := (tmod2 a).1 h5
      by_cases h6 : Int.tmod b 2 = 0
      ·have := (tmod2 b).1 h6
       simp [h4, h5, h6]; omega
      ·have h7 : b % 2 = 1 := by have : ¬ b % 2 = 0 := fun h => h6 ((tmod2 b).2 h); omega
       simp [h4, h5, h6, h7]
     ·have h7 : a % 2 = 1 := by have : ¬ a % 2 = 0 := fun h => h5 ((tmod2 a).2 h); omega
      simp [h4, h5, h7]
   ·simp [h1, h2, h3]
  ·simp [h1, h2]
 ·simp [h1]

theorem p10_9 : (10 : Nat) ^ 9 = 1000000000 := by decide
theorem spec_l01Dec_pos : ∀ (m : Nat) (n : Int) (k : Nat), 0 ≤ n → n.toNat < 10 ^ m → n < 1000000000 → 2 * m + 1 < k → zlV.f k n = some (sb (Lib.itoa n))
 | 0, n, k, h0, h1, h2, hk => by
  obtain ⟨k, rfl⟩ : ∃ j, k = j + 2 := ⟨k - 2, by omega⟩
  have : n = 0 := by simp at h1; omega
  subst this
  simp only [zlV.f, zlV.j0]
  rw [if_neg (by omega), if_neg (by simp), if_neg (by omega), if_pos (by omega), w64 (n := 48 + 0) (by omega) (by omega), strOf_one _ (by omega) (by omega), dec_small (by omega) (by omega)]
  rfl
 | m + 1, n, k, h0, h1, h2, hk => by
  obtain ⟨k, rfl⟩ : ∃ j, k = j + 2 := ⟨k - 2, by omega⟩
  simp only [zlV.f, zlV.j0]
  rw [if_neg (by omega), if_neg (by simp), if_neg (by omega)]
  by_cases hn : n < 10
  ·rw [if_pos hn, w64 (n := 48 + n) (by omega) (by omega), show (48 + n) % 256 = 48 + n by omega, strOf_one _ (by omega) (by omega), dec_small h0 hn, show (48 + n).toNat = 48 + n.toNat by omega]
  ·rw [if_neg hn, Int.tdiv_eq_ediv_of_nonneg h0, Int.tmod_eq_emod_of_nonneg h0, w64 (n := n / 10) (by omega) (by omega), w64 (n := 48 + n % 10) (by omega) (by omega), show (48 + n % 10) % 256 = 48 + n % 10 by omega,
    spec_l01Dec_pos m (n / 10) k (by omega) (by rw [Nat.pow_succ] at h1; omega) (by omega) (by omega)]
   simp only [Option.bind_some]
   have hl := itoa_len (n := n / 10) (by omega)
   rw [strOf_one _ (by omega) (by omega), zjA, zjA, if_pos (by simp; omega), sb_append, dec_step (n := n) (by omega), show (48 + n % 10).toNat = 48 + (n % 10).toNat by omega]
theorem spec_l01Dec_neg : ∀ (m : Nat) (n : Int) (k : Nat), n < 0 → n.natAbs < 10 ^ m → -1000000000 < n → 2 * m + 22 < k → zlV.f k n = some (sb (Lib.itoa n))
 | 0, n, k, h0, h1, h2, hk => by simp at h1; omega
 | m + 1, n, k, h0, h1, h2, hk => by
  obtain ⟨k, rfl⟩ : ∃ j, k = j + 2 := ⟨k - 2, by omega⟩
  simp only [zlV.f, zlV.j0]
  rw [if_pos (by omega)]
  have h9 := p10_9
  by_cases h10 : n > -10
  ·rw [if_pos (by simpa using h10), w64 (n := -n) (by omega) (by omega), spec_l01Dec_pos 9 (-n) k (by omega) (by omega) (by omega) (by omega)]
   have hl := itoa_len (n := -n) (by omega)
   simp only [Option.bind_some]
   rw [zjA, if_pos (by omega), sb_one, sb_append, dec_neg (n := n) (by omega)]
   rfl
  ·have e1 : Int.tdiv n 10 = -((-n) / 10) := by
    have := Int.neg_tdiv (-n) 10
    rw [Int.neg_neg] at this
    rw [this, Int.tdiv_eq_ediv_of_nonneg (show 0 ≤ -n by omega)]
   have e2 : Int.tmod n 10 = -((-n) % 10) := by
    have := Int.neg_tmod (-n) 10
    rw [Int.neg_neg] at this
    rw [this, Int.tmod_eq_emod_of_nonneg (show 0 ≤ -n by omega)]
   rw [if_neg (by simpa using h10), if_pos (by omega), e1, e2, Int.neg_neg, w64 (n := -(-n / 10)) (by omega) (by omega), w64 (n := -n % 10) (by omega) (by omega),
    spec_l01Dec_neg m (-(-n / 10)) k (by omega) (by rw [Nat.pow_succ] at h1; omega) (by omega) (by omega), spec_l01Dec_pos 9 (-n % 10) k (by omega) (by omega) (by omega) (by omega)]
   simp only [Option.bind_some]
   have hl := itoa_len (n := -(-n / 10)) (by omega)
   have hl2 := itoa_len (n := -n % 10) (by omega)
   rw [zjA, zjA, if_pos (by omega), sb_append, dec_neg (n := n) (by omega), dec_neg (n := -(-n / 10)) (by omega), Int.neg_neg, dec_step (n := -n) (by omega), dec_small (n := -n % 10) (by omega) (by omega)]
   rfl
theorem spec_l01Dec_eq (n : Int) (k : Nat) (h0 : -1000000000 < n) (h1 : n < 1000000000) (hk : 60 < k) : zlV.f k n = some (sb (Lib.itoa n)) := by
 have h9 := p10_9
 by_cases hn : 0 ≤ n
 ·exact spec_l01Dec_pos 9 n k hn (by omega) h1 (by omega)
 ·exact spec_l01Dec_neg 9 n k (by omega) (by omega) h0 (by omega)

theorem spec_l01Text_eq (a b c : Int) (k : Nat) (h : znX a b c) (hk : 70 < k) : zwU.f k a b c = some (sb (zuQ a b c)) := by
 obtain ⟨la, lb, lc⟩ := itoa_numTxt_len h
 obtain ⟨ha, hb, hc, _⟩ := h
 have hs := shl_bd hc.1 hc.2
 have hw : IntKind.u64.wrap c = c := wu64 (by omega) (by omega)
 have j0 : ∀ (x : List UInt8) (k : Nat), x.length ≤ 50 → 65 < k → zwU.j0 k (sb x) a b c = some (sb (if c = 0 then x else if a = 0 ∨ b = 0 then x ++ (47 :: Lib.itoa (shl .i64 1 c)) else 40 :: (x ++ (41 :: 47 :: Lib.itoa (shl .i64 1 c))))) := by
  intro x k hx hk
  obtain ⟨k, rfl⟩ : ∃ j, k = j + 1 := ⟨k - 1, by omega⟩
  simp only [zwU.j0, hw, sb_one, sb_append, zjA]
  rw [spec_l01Dec_eq _ k (by omega) (by omega) (by omega)]
  simp only [Option.bind_some, sb_append, zjA, List.length_append, List.length_cons, List.length_nil]
  by_cases h0 : c = 0
  ·rw [if_pos h0, if_pos h0]
  ·rw [if_neg h0, if_neg h0]
   by_cases h1 : a = 0
   ·rw [if_pos h1, if_pos (by omega), if_pos (by omega), if_pos (by omega), if_pos (Or.inl h1)]
    simp [List.append_assoc]
   ·rw [if_neg h1]
    by_cases h2 : b = 0
    ·rw [if_pos h2, if_pos (by omega), if_pos (by omega), if_pos (by omega), if_pos (Or.inr h2)]
     simp [List.append_assoc]
    ·rw [if_neg h2, if_pos (by omega), if_pos (by omega), if_pos (by omega), if_pos (by omega), if_pos (by omega), if_neg (by omega)]
     simp [List.append_assoc]
 unfold zwU.f zuQ
 rw [spec_l01Dec_eq a k (by omega) (by omega) (by omega), spec_l01Dec_eq b k (by omega) (by omega) (by omega)]
 simp only [Option.bind_some, sb_one, sb_append, zjA, List.length_append, List.length_cons, List.length_nil]
 by_cases h1 : b = 0
 ·rw [if_pos h1, j0 _ k (by omega) (by omega)]
  simp [h1]
 ·rw [if_neg h1]
  by_cases h2 : a = 0
  ·rw [if_pos h2, if_pos (by omega), j0 _ k (by simp; omega) (by omega)]
   simp [h1, h2]
  ·rw [if_neg h2]
   by_cases h3 : b > 0
   ·rw [if_pos h3, if_pos (by omega), if_pos (by omega), if_pos (by omega), j0 _ k (by simp; omega) (by omega)]
    simp [h1, h2, h3, List.append_assoc]
   ·rw [if_neg h3, if_pos (by omega), if_pos (by omega), j0 _ k (by simp; omega) (by omega)]
    simp [h1, h2, h3, List.append_assoc]

theorem spec_NumText_eqP (a b c : Int) (k : Nat) (hk : 100 < k) : znQ.f k a b c = some (sb (if znX a b c then zuQ a b c else [])) := by
 unfold znQ.f
 rw [spec_l01Ok_eq, Option.bind_some]
 by_cases h : znX a b c
 ·rw [if_pos (decide_eq_true h), if_pos h, spec_l01Text_eq a b c k h (by omega)]; rfl
 ·rw [if_neg (by simpa using h), if_neg h]; rfl
def finN (s t : List UInt8) (K : Int) : Int × Int × Int × Bool :=
 if (prt (unp t)).2.2 = true ∧ (if znX (prt (unp t)).1 (prt (unp t)).2.1 K then zuQ (prt (unp t)).1 (prt (unp t)).2.1 K else []) = s then ((prt (unp t)).1, (prt (unp t)).2.1, K, true) else (0, 0, 0, false)
theorem ReadNum_j4 (s t : List UInt8) (A B K : Int) (k : Nat) (ht : t.length ≤ 1048576) (hk : t.length + 120 < k) :
  zhO.j4 k (sb s) (sb t) A B K = some (if (prt t).2.2 = true ∧ (if znX (prt t).1 (prt t).2.1 K then zuQ (prt t).1 (prt t).2.1 K else []) = s then ((prt t).1, (prt t).2.1, K, true) else (0, 0, 0, false)) := by
 obtain ⟨k, rfl⟩ : ∃ m, k = m + 1 := ⟨k - 1, by omega⟩
 simp only [zhO.j4]
 rw [spec_l01Parts_eq t k ht (by omega)]
 simp only [Option.bind_some]
 by_cases h : (prt t).2.2 = true
 ·rw [if_pos h, spec_NumText_eqP _ _ _ k (by omega)]
  simp only [Option.bind_some, sb_toList, h, true_and]
  generalize (if znX (prt t).1 (prt t).2.1 K then zuQ (prt t).1 (prt t).2.1 K else []) = m
  by_cases hm : m = s
  ·rw [if_pos hm, if_pos hm]
  ·rw [if_neg hm, if_neg hm]
 ·rw [if_neg h, if_neg fun hh => h hh.1]
theorem ReadNum_j2 (s t : List UInt8) (A B K : Int) (k : Nat) (ht : t.length ≤ 1048576) (hk : t.length + 130 < k) :
  zhO.j2 k (sb s) (sb t) A B K = some (finN s t K) := by
 obtain ⟨k, rfl⟩ : ∃ m, k = m + 2 := ⟨k - 2, by omega⟩
 simp only [zhO.j2, zhO.j3, zjA]
 unfold finN
 by_cases h2 : 2 < t.length
 ·have hb : bt (sb t) 0 = ((t.getD 0 0).toNat : Int) := bt_sb (l := t) (j := 0) (by omega)
  rw [if_pos (by omega), if_pos (by omega), hb]
  by_cases h40 : t.getD 0 0 = 40
  ·have e : unp t = (t.take (t.length - 1)).drop 1 := by unfold unp; rw [if_pos ⟨h2, h40⟩]
   have hc : (((t.getD 0 0).toNat : Int) == 40) = true := by rw [h40]; rfl
   rw [hc, if_pos rfl, pred64 (by omega) (by omega), if_pos (by omega), if_pos (by omega), Int.toNat_natCast, zsR, e,
    ReadNum_j4 s _ A B K k (by rw [List.length_drop, List.length_take]; omega) (by rw [List.length_drop, List.length_take]; omega)]
  ·have e : unp t = t := by unfold unp; rw [if_neg fun h => h40 h.2]
   have hc : (((t.getD 0 0).toNat : Int) == 40) = false := beq_eq_false_iff_ne.2 fun hh => h40 (by rw [← UInt8.toNat_inj]; show (t.getD 0 0).toNat = 40; omega)
   rw [hc, if_neg (by simp), e, ReadNum_j4 s t A B K k ht (by omega)]
 ·have e : unp t = t := by unfold unp; rw [if_neg fun h => h2 h.1]
  rw [if_neg (by omega), if_neg (by simp), e, ReadNum_j4 s t A B K k ht (by omega)]
theorem ReadNum_l1 (s : List UInt8) (i : Nat) (n A B : Int) (hi : i ≤ s.length) (hs : s.length ≤ 1048576) : ∀ (f c k : Nat), c + f = 10 → s.length + 150 + f < k →
  zhO.l1 k (sb s) (i : Int) n A B (c : Int) = some (finN s (s.take i) (kOf n f c : Int))
 | 0, c, k, hc, hk => by
  obtain ⟨k, rfl⟩ : ∃ m, k = m + 1 := ⟨k - 1, by omega⟩
  simp only [zhO.l1, zjA, Int.toNat_natCast, kOf]
  rw [if_neg (by omega), if_pos (by omega), if_pos (by omega), zsR, List.drop_zero, ReadNum_j2 s _ A B _ k (by rw [List.length_take]; omega) (by rw [List.length_take]; omega)]
 | f + 1, c, k, hc, hk => by
  obtain ⟨k, rfl⟩ : ∃ m, k = m + 1 := ⟨k - 1, by omega⟩
  have ih := ReadNum_l1 s i n A B hi hs f (c + 1) k (by omega) (by omega)
  simp only [zhO.l1, zjA, Int.toNat_natCast, kOf]
  rw [if_pos (by omega), wu64 (by omega) (by omega), if_pos (by omega)]
  by_cases h : shl .i64 1 (c : Int) < n
  ·rw [if_pos h, if_pos h, zaU (by omega), ih]
  ·rw [if_neg h, if_neg h, if_pos (by omega), if_pos (by omega), zsR, List.drop_zero, ReadNum_j2 s _ A B _ k (by rw [List.length_take]; omega) (by rw [List.length_take]; omega)]
theorem ReadNum_no (s t : List UInt8) (hs : s.length ≤ 1048576) (ht : t.length ≤ 1048576) : ∀ (d j k : Nat), j + d = s.length → (∀ x ∈ s.drop j, x ≠ 47) → t.length + 140 + d < k → zhO.l0 k (sb s) (sb t) (j : Int) 0 0 0 = some (finN s t 0)
 | 0, j, k, hj, hn, hk => by
  obtain ⟨k, rfl⟩ : ∃ m, k = m + 1 := ⟨k - 1, by omega⟩
  simp only [zhO.l0, zjA]
  rw [if_neg (by omega), ReadNum_j2 s t 0 0 0 k ht (by omega)]
 | d + 1, j, k, hj, hn, hk => by
  obtain ⟨k, rfl⟩ : ∃ m, k = m + 1 := ⟨k - 1, by omega⟩
  have hlt : j < s.length := by omega
  have he : s.drop j = s.getD j 0 :: s.drop (j + 1) := by
   rw [List.drop_eq_getElem_cons hlt, List.getD_eq_getElem?_getD, List.getElem?_eq_getElem hlt, Option.getD_some]
  have ih := ReadNum_no s t hs ht d (j + 1) k (by omega) (fun x hx => hn x (by rw [he]; exact List.mem_cons_of_mem _ hx)) (by omega)
  have h47 : s.getD j 0 ≠ 47 := hn _ (by rw [he]; exact List.mem_cons_self)
  simp only [zhO.l0, zjA]
  rw [if_pos (by omega), if_pos (by omega), bt_sb hlt, if_neg fun hh => h47 (by rw [← UInt8.toNat_inj]; show (s.getD j 0).toNat = 47; omega), zaU (by omega), ih]
theorem ReadNum_yes (p q t : List UInt8) (hs : (p ++ 47 :: q).length ≤ 1048576) : ∀ (d j k : Nat), j + d = p.length → (∀ x ∈ p.drop j, x ≠ 47) → (p ++ 47 :: q).length + 200 + d < k →
  zhO.l0 k (sb (p ++ 47 :: q)) (sb t) (j : Int) 0 0 0 = some (finN (p ++ 47 :: q) p (kOf (l01 q).1 10 0 : Int))
 | 0, j, k, hj, hn, hk => by
  obtain ⟨k, rfl⟩ : ∃ m, k = m + 1 := ⟨k - 1, by omega⟩
  have hlen : (p ++ 47 :: q).length = p.length + 1 + q.length := by simp only [List.length_append, List.length_cons]; omega
  obtain rfl : j = p.length := by omega
  have hg : (p ++ 47 :: q).getD p.length 0 = 47 := by simp [List.getD_eq_getElem?_getD]
  simp only [zhO.l0, zjA]
  rw [if_pos (by omega), if_pos (by omega), bt_sb (by omega), hg, if_pos (by rfl), zaU (by omega), if_pos (by omega), if_pos (by omega), Int.toNat_natCast, zsR, List.take_length,
   show (p ++ 47 :: q).drop (p.length + 1) = q by rw [show p ++ 47 :: q = (p ++ [47]) ++ q by simp, show p.length + 1 = (p ++ [47]).length by simp, List.drop_left], zjO q k (by omega) (by omega)]
  simp only [Option.bind_some]
  have := ReadNum_l1 (p ++ 47 :: q) p.length (l01 q).1 0 0 (by omega) hs 10 0 k (by omega) (by omega)
  rw [List.take_left] at this
  exact this
 | d + 1, j, k, hj, hn, hk => by
  obtain ⟨k, rfl⟩ : ∃ m, k = m + 1 := ⟨k - 1, by omega⟩
  have hlen : (p ++ 47 :: q).length = p.length + 1 + q.length := by simp only [List.length_append, List.length_cons]; omega
  have hlt : j < p.length := by omega
  have he : p.drop j = p.getD j 0 :: p.drop (j + 1) := by
   rw [List.drop_eq_getElem_cons hlt, List.getD_eq_getElem?_getD, List.getElem?_eq_getElem hlt, Option.getD_some]
  have ih := ReadNum_yes p q t hs d (j + 1) k (by omega) (fun x hx => hn x (by rw [he]; exact List.mem_cons_of_mem _ hx)) (by omega)
  have hg : (p ++ 47 :: q).getD j 0 = p.getD j 0 := by simp only [List.getD_eq_getElem?_getD]; rw [List.getElem?_append_left hlt]
  have h47 : p.getD j 0 ≠ 47 := hn _ (by rw [he]; exact List.mem_cons_self)
  simp only [zhO.l0, zjA]
  rw [if_pos (by omega), if_pos (by omega), bt_sb (by omega), hg, if_neg fun hh => h47 (by rw [← UInt8.toNat_inj]; show (p.getD j 0).toNat = 47; omega), zaU (by omega), ih]
theorem spz_cut (s : List UInt8) : finN s (Lib.cut s [47]).1 (if (Lib.cut s [47]).2.2 = true then (kOf (l01 (Lib.cut s [47]).2.1).1 10 0 : Int) else 0) = zoA s := by
 rcases readN_or s with ⟨a, b, c, h1, h2, h3⟩ | ⟨h1, h2⟩
 ·have hz := spz_num h1
  rw [← h2] at hz
  unfold spz at hz
  have e1 := congrArg Prod.fst hz
  have e2 := congrArg Prod.snd hz
  dsimp only at e1 e2
  rw [h3]
  unfold finN
  rw [e1, e2]
  simp only [if_pos h1, h2, true_and, if_true]
 ·rw [h1]
  generalize (if (Lib.cut s [47]).2.2 = true then (kOf (l01 (Lib.cut s [47]).2.1).1 10 0 : Int) else 0) = K
  unfold finN
  rw [if_neg]
  rintro ⟨ho, hh⟩
  split at hh
  ·rename_i hn
   exact h2 ⟨_, _, _, hn, hh.symm⟩
  ·rw [← hh] at ho
   revert ho
   decide
theorem spec_ReadNum_eq (s : List UInt8) (k : Nat) (hs : s.length ≤ 1048576) (hk : 2 * s.length + 400 < k) : zhO.f k (sb s) = some (zoA s) := by
 unfold zhO.f
 rw [← spz_cut s]
 by_cases h : (47 : UInt8) ∈ s
 ·obtain ⟨p, q, rfl, hp⟩ := List.eq_append_cons_of_mem h
  rw [cut_at hp]
  have := ReadNum_yes p q (p ++ 47 :: q) hs p.length 0 k (by omega) (by rw [List.drop_zero]; rintro x hx rfl; exact hp hx) (by
   have : p.length ≤ (p ++ 47 :: q).length := by simp
   omega)
  simpa using this
 ·rw [cut_no h]
  have := ReadNum_no s s hs hs s.length 0 k (by omega) (by rw [List.drop_zero]; rintro x hx rfl; exact h hx) (by omega)
  simpa using this

theorem lia_sg (b : UInt8) : zwV b = isS b := rfl
theorem lia_scan (l : List UInt8) : ∀ i, zhK l i = scn l i
 | 0 => rfl
 | i + 1 => by simp only [zhK, scn, lia_scan l i, lia_sg]
theorem lia_back_bd (l : List UInt8) : ∀ f i, i ≤ l.length → -1 ≤ zrT l f i ∧ zrT l f i ≤ (i : Int)
 | 0, i, _ => by simp only [zrT]; omega
 | f + 1, i, hi => by
  simp only [zrT]
  split
  ·omega
  ·split
   ·omega
   ·have := lia_back_bd l f (i - (Lib.decodeLastL (l.take i)).2) (by omega)
    omega
theorem lia_back (l : List UInt8) (ha : ∀ b ∈ l, b.toNat < 128) : ∀ f i, i ≤ l.length → i < f → zrT l f i = scn l i
 | 0, i, _, h => by omega
 | f + 1, 0, _, _ => by simp [zrT, scn]
 | f + 1, i + 1, hi, hf => by
  have hlt : i < l.length := by omega
  have hne : l.take (i + 1) ≠ [] := fun h => by have := congrArg List.length h; rw [List.length_take, List.length_nil] at this; omega
  have hlen : (l.take (i + 1)).length = i + 1 := by rw [List.length_take]; omega
  have hg : (l.take (i + 1)).getD ((l.take (i + 1)).length - 1) 0 = l.getD i 0 := by
   rw [hlen, Nat.add_sub_cancel]
   simp only [List.getD_eq_getElem?_getD]
   rw [List.getElem?_take_of_lt (by omega)]
  have h128 : (l.getD i 0).toNat < 128 := by
   rw [List.getD_eq_getElem?_getD, List.getElem?_eq_getElem hlt, Option.getD_some]
   exact ha _ (List.getElem_mem hlt)
  have hd : Lib.decodeLastL (l.take (i + 1)) = ((l.getD i 0).toNat, 1) := by
   unfold Lib.decodeLastL
   rw [if_neg hne, hg, if_pos h128]
  simp only [zrT, hd, scn]
  rw [if_neg (by omega), Nat.add_sub_cancel, lia_back l ha f i (by omega) (by omega)]
  have hs := isS_iff (l.getD i 0)
  by_cases h : isS (l.getD i 0) = true
  ·rw [if_pos (hs.1 h), if_pos h]
  ·rw [if_neg fun hh => h (hs.2 hh), if_neg h]
theorem strings_LastIndexAny_tot (l : List UInt8) (hl : l.length ≤ 1048576) : ∃ r, zmH.f (sb l) (⟨#[43, 45]⟩ : ByteArray) = some r ∧ -1 ≤ r ∧ r ≤ (l.length : Int) ∧ ((∀ b ∈ l, b.toNat < 128) → r = scn l l.length) := by
 unfold zmH.f
 rw [if_pos ⟨rfl, by rw [zjA]; exact hl⟩]
 refine ⟨_, rfl, ?_⟩
 simp only [zjA, sb_data, lia_scan, lia_sg]
 by_cases h1 : l.length = 1
 ·rw [if_pos h1]
  refine ⟨by split <;> omega, by split <;> omega, fun _ => ?_⟩
  rw [h1]
  rfl
 ·rw [if_neg h1]
  by_cases h8 : 8 < l.length
  ·rw [if_pos h8]
   have := scn_bd l l.length
   exact ⟨by omega, by omega, fun _ => rfl⟩
  ·rw [if_neg h8]
   have := lia_back_bd l (l.length + 1) l.length (Nat.le_refl _)
   exact ⟨this.1, this.2, fun ha => lia_back l ha _ _ (Nat.le_refl _) (by omega)⟩

theorem impl_within_eq (a b c : Int) : zrP.f a b c = some (decide (b ≤ a ∧ a ≤ c)) := by
 unfold zrP.f
 by_cases h : b ≤ a <;> simp [h]

theorem impl_ValidNum_eq (a b k : Int) : zdR.f a b k = some (decide (znX a b k)) := by
 unfold zdR.f znX
 simp only [impl_within_eq, Option.bind_some, and1]
 by_cases h1 : -131072 ≤ a ∧ a ≤ 131072
 ·by_cases h2 : -131072 ≤ b ∧ b ≤ 131072
  ·by_cases h3 : 0 ≤ k ∧ k ≤ 10
   ·simp only [h1, h2, h3, and_self, decide_true, if_true, true_and]
    by_cases h4 : k = 0
    ·simp [h4]
    ·by_cases h5 : a % 2 = 1
     ·simp [h4, h5]
     ·by_cases h6 : b % 2 = 1 <;> simp [h4, h5, h6]
   ·simp [h1, h2, h3]
  ·simp [h1, h2]
 ·simp [h1]

theorem impl_abs_eq (a : Int) (h0 : -9223372036854775807 ≤ a) (h1 : a ≤ 9223372036854775807) : zgD.f a = some (if a < 0 then -a else a) := by
 unfold zgD.f
 rw [w64 (by omega) (by omega)]
 congr 1
 unfold mx
 split <;> split <;> omega

theorem impl_decimal_eq (n : Int) (h0 : -9223372036854775808 ≤ n) (h1 : n ≤ 9223372036854775807) : zcM.f n = some (sb (Lib.itoa n)) := by
 unfold zcM.f strconv_FormatInt.f
 rw [if_pos rfl, if_pos ⟨h0, h1⟩]
 rfl

theorem impl_numText_eq (a b c : Int) (k : Nat) (h : znX a b c) (hk : 3 < k) : zjG.f k a b c = some (sb (zuQ a b c)) := by
 obtain ⟨la, lb, lc⟩ := itoa_numTxt_len h
 obtain ⟨ha, hb, hc, _⟩ := h
 have hs := shl_bd hc.1 hc.2
 obtain ⟨k, rfl⟩ : ∃ j, k = j + 2 := ⟨k - 2, by omega⟩
 have dc := impl_decimal_eq (shl .i64 1 c) (by omega) (by omega)
 have db := impl_decimal_eq b (by omega) (by omega)
 have j1 : ∀ (s : UInt8) (y : List UInt8), y.length ≤ 19 → (Lib.itoa (if b < 0 then -b else b)).length ≤ 19 → zjG.j1 (k + 1) (sb y) (sb [s]) a b c = some (sb (if c = 0 then y ++ (s :: (Lib.itoa (if b < 0 then -b else b) ++ [114])) else 40 :: (y ++ (s :: (Lib.itoa (if b < 0 then -b else b) ++ [114])) ++ (41 :: 47 :: Lib.itoa (shl .i64 1 c))))) := by
  intro s y hy hl
  simp only [zjG.j1]
  rw [impl_abs_eq b (by omega) (by omega)]
  simp only [Option.bind_some]
  rw [impl_decimal_eq _ (by split <;> omega) (by split <;> omega), dc]
  simp only [Option.bind_some, sb_one, sb_append, zjA, List.length_append, List.length_cons, List.length_nil]
  rw [if_pos (by omega), if_pos (by omega), if_pos (by omega)]
  by_cases h0 : c = 0
  ·rw [if_pos h0, if_pos h0]; simp
  ·rw [if_neg h0, if_neg h0, if_pos (by omega), if_pos (by omega), if_pos (by omega), if_pos (by omega), if_pos (by omega)]
   simp [List.append_assoc]
 unfold zjG.f
 rw [impl_decimal_eq a (by omega) (by omega)]
 simp only [Option.bind_some, zjG.j0]
 by_cases h1 : b = 0
 ·have e : (b != 0) = false := by simp [h1]
  rw [e, dc]
  simp only [Bool.false_eq_true, if_false, Option.bind_some, sb_one, sb_append, zjA, List.length_append, List.length_cons, List.length_nil, ite_self]
  rw [if_pos h1]
  unfold zuQ
  by_cases h0 : c = 0
  ·rw [if_pos h0]; simp [h0, h1]
  ·rw [if_neg h0, if_pos (by omega), if_pos (by omega), if_pos (by omega)]; simp [h0, h1]
 ·have e : (b != 0) = true := by simp [h1]
  rw [e, db, dc]
  simp only [if_true, Bool.false_eq_true, if_false, Option.bind_some, sb_one, sb_append, zjA, List.length_append, List.length_cons, List.length_nil]
  by_cases h2 : a = 0
  ·rw [if_pos h2, if_pos (by omega)]
   unfold zuQ
   by_cases h0 : c = 0
   ·rw [if_pos h0]; simp [h0, h1, h2]
   ·rw [if_neg h0, if_pos (by omega), if_pos (by omega), if_pos (by omega)]; simp [h0, h1, h2, List.append_assoc]
  ·rw [if_neg h2, if_neg h1]
   unfold zuQ
   by_cases h3 : b < 0
   ·have hl : (Lib.itoa (-b)).length ≤ 19 := itoa_len (by omega)
    rw [if_pos h3, j1 45 _ la (by rw [if_pos h3]; exact hl), if_pos h3]
    have e3 := dec_neg h3
    have h4 : ¬ b > 0 := by omega
    by_cases h0 : c = 0 <;> simp [h0, h1, h2, h4, e3, List.append_assoc]
   ·rw [if_neg h3, j1 43 _ la (by rw [if_neg h3]; exact lb), if_neg h3]
    have h4 : b > 0 := by omega
    by_cases h0 : c = 0 <;> simp [h0, h1, h2, h4, List.append_assoc]

theorem parse_bd (l : List UInt8) (v : Int) (h : Lib.parseIntB 64 l = .ok v) : -9223372036854775808 ≤ v ∧ v ≤ 9223372036854775807 := by
 cases l with
 | nil => simp [Lib.parseIntB] at h
 | cons c r =>
  simp only [Lib.parseIntB] at h
  split at h
  ·cases h
  ·cases h
  ·rename_i u _
   split at h
   ·cases h
   ·split at h
    ·cases h
    ·rename_i h1 h2
     injection h with h
     have e : (2 : Nat) ^ (64 - 1) = 9223372036854775808 := rfl
     rw [e] at h1 h2
     by_cases hc : c.toNat = 45
     ·rw [if_pos hc] at h; omega
     ·rw [if_neg hc] at h; omega
theorem intSat_bd (l : List UInt8) : -9223372036854775808 ≤ Lib.intSat 64 l ∧ Lib.intSat 64 l ≤ 9223372036854775807 := by
 unfold Lib.intSat
 split <;> decide
theorem zyG (l : List UInt8) (hl : l.length ≤ 281474976710656) : ∃ v b, zkI.f (sb l) = some (v, b) ∧ -9223372036854775808 ≤ v ∧ v ≤ 9223372036854775807 ∧ (b = true → l = Lib.itoa v) := by
 unfold zkI.f
 rw [zjA, if_pos hl, sb_data, sb_toList]
 cases hp : Lib.parseIntB 64 l with
 | ok v =>
  have hb := parse_bd l v hp
  refine ⟨v, _, by dsimp only; rw [if_pos hb], hb.1, hb.2, fun h => (eq_of_beq h).symm⟩
 | range => exact ⟨_, false, rfl, (intSat_bd l).1, (intSat_bd l).2, fun h => by cases h⟩
 | _ => exact ⟨0, false, rfl, by omega, by omega, fun h => by cases h⟩
theorem zaS (n : Int) (h0 : -9223372036854775808 ≤ n) (h1 : n ≤ 9223372036854775807) (hl : (Lib.itoa n).length ≤ 281474976710656) : zkI.f (sb (Lib.itoa n)) = some (n, true) := by
 unfold zkI.f
 rw [zjA, if_pos hl, sb_data, sb_toList, parse_itoa n h0 h1]
 dsimp only
 rw [if_pos ⟨h0, h1⟩]
 simp
def tp (c : UInt8) (l : List UInt8) : List UInt8 := if l.head? = some c then l.tail else l
def ts (c : UInt8) (l : List UInt8) : List UInt8 := if l.getLast? = some c then l.dropLast else l
theorem tp_len (c : UInt8) (l : List UInt8) : (tp c l).length ≤ l.length := by unfold tp; split <;> simp
theorem ts_len (c : UInt8) (l : List UInt8) : (ts c l).length ≤ l.length := by unfold ts; split <;> simp
theorem hasPre (l : List UInt8) (c : UInt8) : stringslite_HasPrefix.f (sb l) (sb [c]) = some (decide (l.head? = some c)) := by
 unfold stringslite_HasPrefix.f
 simp only [zjA, zsR, sb_toList, List.length_singleton]
 cases l with
 | nil => rw [if_neg (by simp)]; rfl
 | cons x r =>
  rw [if_pos (by simp only [List.length_cons]; omega), if_pos (by omega), if_pos (by simp only [List.length_cons]; omega)]
  simp only [Int.toNat_natCast, List.drop_zero, List.head?_cons, Option.some.injEq]
  show ([x] == [c]) = _
  by_cases h : x = c
  ·subst h; simp
  ·rw [decide_eq_false h]; simpa using h
theorem hasSuf (l : List UInt8) (c : UInt8) (hl : l.length ≤ 1048576) : stringslite_HasSuffix.f (sb l) (sb [c]) = some (decide (l.getLast? = some c)) := by
 unfold stringslite_HasSuffix.f
 simp only [zjA, zsR, sb_toList, List.length_singleton]
 rcases List.eq_nil_or_concat l with rfl | ⟨r, x, rfl⟩
 ·rw [if_neg (by simp)]; rfl
 ·simp only [List.concat_eq_append] at *
  have e : (r ++ [x]).length = r.length + 1 := by simp
  have ew : wrap64 (((r ++ [x]).length : Int) - ((1 : Nat) : Int)) = ((r.length : Nat) : Int) := by rw [w64 (by omega) (by omega), e]; omega
  rw [if_pos (by omega), ew, if_pos (by omega), if_pos (by omega)]
  simp only [Int.toNat_natCast, List.take_length, List.drop_left, List.getLast?_append, List.getLast?_singleton, Option.some_or, Option.some.injEq]
  congr 1
  by_cases h : x = c
  ·subst h; simp
  ·rw [decide_eq_false h]; simpa using h
theorem trimPre (l : List UInt8) (c : UInt8) : zjE.f (sb l) (sb [c]) = some (sb (tp c l)) := by
 unfold zjE.f stringslite_TrimPrefix.f tp
 rw [hasPre]
 simp only [Option.bind_some, zjA, zsR, List.length_singleton]
 by_cases h : l.head? = some c
 ·have hl : 1 ≤ l.length := by cases l with | nil => simp at h | cons _ _ => simp
  rw [if_pos (decide_eq_true h), if_pos (by omega), if_pos (by omega), if_pos h]
  simp
 ·rw [if_neg (by simpa using h), if_neg h]
  rfl
theorem cutSuf (l : List UInt8) (c : UInt8) (hl : l.length ≤ 1048576) : stringslite_CutSuffix.f (sb l) (sb [c]) = some (sb (ts c l), decide (l.getLast? = some c)) := by
 unfold stringslite_CutSuffix.f ts
 rw [hasSuf l c hl]
 simp only [Option.bind_some, zjA, zsR, List.length_singleton]
 by_cases h : l.getLast? = some c
 ·have h1 : 1 ≤ l.length := by cases l with | nil => simp at h | cons _ _ => simp
  have ew : wrap64 ((l.length : Int) - ((1 : Nat) : Int)) = ((l.length - 1 : Nat) : Int) := by rw [w64 (by omega) (by omega)]; omega
  rw [if_pos (decide_eq_true h), ew, if_pos (by omega), if_pos (by omega), if_pos h, decide_eq_true h]
  simp [List.dropLast_eq_take]
 ·rw [if_neg (by simpa using h), if_neg h, decide_eq_false h]
theorem trimSuf (l : List UInt8) (c : UInt8) (hl : l.length ≤ 1048576) : ziM.f (sb l) (sb [c]) = some (sb (ts c l)) := by
 unfold ziM.f stringslite_TrimSuffix.f ts
 rw [hasSuf l c hl]
 simp only [Option.bind_some, zjA, zsR, List.length_singleton]
 by_cases h : l.getLast? = some c
 ·have h1 : 1 ≤ l.length := by cases l with | nil => simp at h | cons _ _ => simp
  have ew : wrap64 ((l.length : Int) - ((1 : Nat) : Int)) = ((l.length - 1 : Nat) : Int) := by rw [w64 (by omega) (by omega)]; omega
  rw [if_pos (decide_eq_true h), ew, if_pos (by omega), if_pos (by omega), if_pos h]
  simp [List.dropLast_eq_take]
 ·rw [if_neg (by simpa using h), if_neg h]
  rfl
theorem sCut (l : List UInt8) (c : UInt8) (hl : l.length ≤ 1048576) : strings_Cut.f (sb l) (sb [c]) = some (sb (Lib.cut l [c]).1, sb (Lib.cut l [c]).2.1, (Lib.cut l [c]).2.2) := by
 unfold strings_Cut.f
 rw [zjA, if_pos (by omega), sb_data, sb_data]
 rfl
theorem okB_128 {b : UInt8} (h : okB b) : b.toNat < 128 := by
 rcases h with h | rfl | rfl | rfl
 ·omega
 all_goals decide
theorem impl_readParts_tot (l : List UInt8) (hl : l.length ≤ 1048576) : ∃ a b, zsS.f (sb l) = some (a, b) ∧ (∀ x y : Int, x.natAbs < 10000000 → y.natAbs < 10000000 → l = bodyT x y → a = x ∧ b = y) := by
 unfold zsS.f zlW.f
 rw [show (⟨#[114]⟩ : ByteArray) = sb [114] from rfl, show (⟨#[43]⟩ : ByteArray) = sb [43] from rfl, cutSuf l 114 hl]
 simp only [Option.bind_some]
 by_cases h : l.getLast? = some 114
 ·have et : ts 114 l = l.dropLast := by unfold ts; rw [if_pos h]
  have hlen : (ts 114 l).length ≤ 1048576 := Nat.le_trans (ts_len _ _) hl
  obtain ⟨r, e, r1, r2, r3⟩ := strings_LastIndexAny_tot (ts 114 l) hlen
  rw [if_pos (decide_eq_true h), e]
  simp only [Option.bind_some]
  by_cases hr : r ≤ 0
  ·obtain ⟨v, b, e2, v1, v2, _⟩ := zyG (ts 114 l) (by omega)
   rw [if_pos hr, e2]
   refine ⟨0, v, rfl, ?_⟩
   intro x y hx hy hxy
   rcases body_forms x y with ⟨rfl, c, q, e4, _, e5⟩ | ⟨_, rfl, c, q, e4, e5, hq⟩ | ⟨_, _, p, c, q, hp, e4, hc, hq, e5, h6⟩
   ·exfalso
    apply e5
    rw [hxy, e4] at h
    rw [List.getLast?_eq_getElem?] at h
    simp only [List.length_cons, Nat.add_sub_cancel] at h
    rw [List.getD_eq_getElem?_getD, h]
    rfl
   ·have e6 : ts 114 l = Lib.itoa y := by rw [et, hxy, e5, e4, show c :: (q ++ [114]) = (c :: q) ++ [114] by simp, List.dropLast_concat]
    have hi := zaS y (by omega) (by omega) (by rw [← e6]; omega)
    rw [← e6, e2] at hi
    simp only [Option.some.injEq, Prod.mk.injEq] at hi
    exact ⟨rfl, hi.1⟩
   ·exfalso
    have e6 : ts 114 l = p ++ c :: q := by rw [et, hxy, e5, show p ++ (c :: (q ++ [114])) = (p ++ c :: q) ++ [114] by simp, List.dropLast_concat]
    have h128 : ∀ b ∈ ts 114 l, b.toNat < 128 := fun b hb => okB_128 (body_okB x y b (by rw [e5, show p ++ (c :: (q ++ [114])) = (p ++ c :: q) ++ [114] by simp, ← e6]; exact List.mem_append_left _ hb))
    have := r3 h128
    have hs := scn_app p c q hc hq q.length (Nat.le_refl _)
    rw [e6, show (p ++ c :: q).length = p.length + 1 + q.length by simp only [List.length_append, List.length_cons]; omega, hs] at this
    have : p.length ≠ 0 := by simpa using hp
    omega
  ·obtain ⟨n, rfl⟩ : ∃ n : Nat, r = (n : Int) := ⟨r.toNat, by omega⟩
   obtain ⟨v, b, e2, v1, v2, _⟩ := zyG ((ts 114 l).take n) (by rw [List.length_take]; omega)
   have hd : ((ts 114 l).drop n).length ≤ 1048576 := by rw [List.length_drop]; omega
   obtain ⟨v', b', e3, v1', v2', _⟩ := zyG (tp 43 ((ts 114 l).drop n)) (by have := tp_len 43 ((ts 114 l).drop n); omega)
   rw [if_neg hr, if_pos (by omega), zjA, if_pos (by omega)]
   simp only [Int.toNat_natCast, zsR, List.take_length, List.drop_zero]
   rw [e2]
   simp only [Option.bind_some]
   rw [trimPre]
   simp only [Option.bind_some]
   rw [e3]
   refine ⟨v, v', rfl, ?_⟩
   intro x y hx hy hxy
   rcases body_forms x y with ⟨rfl, c, q, e4, _, e5⟩ | ⟨_, rfl, c, q, e4, e5, hq⟩ | ⟨_, _, p, c, q, hp, e4, hc, hq, e5, h6⟩
   ·exfalso
    apply e5
    rw [hxy, e4] at h
    rw [List.getLast?_eq_getElem?] at h
    simp only [List.length_cons, Nat.add_sub_cancel] at h
    rw [List.getD_eq_getElem?_getD, h]
    rfl
   ·exfalso
    have e6 : ts 114 l = c :: q := by rw [et, hxy, e5, show c :: (q ++ [114]) = (c :: q) ++ [114] by simp, List.dropLast_concat]
    have h128 : ∀ b ∈ ts 114 l, b.toNat < 128 := fun b hb => okB_128 (body_okB 0 y b (by rw [e5, show c :: (q ++ [114]) = (c :: q) ++ [114] by simp, ← e6]; exact List.mem_append_left _ hb))
    have := r3 h128
    have hs := scn_low c q hq q.length (Nat.le_refl _)
    rw [e6, show (c :: q).length = 1 + q.length by simp only [List.length_cons]; omega] at this
    omega
   ·have e6 : ts 114 l = p ++ c :: q := by rw [et, hxy, e5, show p ++ (c :: (q ++ [114])) = (p ++ c :: q) ++ [114] by simp, List.dropLast_concat]
    have h128 : ∀ b ∈ ts 114 l, b.toNat < 128 := fun b hb => okB_128 (body_okB x y b (by rw [e5, show p ++ (c :: (q ++ [114])) = (p ++ c :: q) ++ [114] by simp, ← e6]; exact List.mem_append_left _ hb))
    have hn := r3 h128
    have hs := scn_app p c q hc hq q.length (Nat.le_refl _)
    rw [e6, show (p ++ c :: q).length = p.length + 1 + q.length by simp only [List.length_append, List.length_cons]; omega, hs] at hn
    obtain rfl : n = p.length := by omega
    have hlp : (ts 114 l).length = p.length + 1 + q.length := by rw [e6]; simp only [List.length_append, List.length_cons]; omega
    rw [e6, List.take_left, e4] at e2
    rw [e6, List.drop_left] at e3
    have hix := zaS x (by omega) (by omega) (by rw [← e4]; omega)
    rw [hix] at e2
    simp only [Option.some.injEq, Prod.mk.injEq] at e2
    refine ⟨e2.1.symm, ?_⟩
    rcases h6 with ⟨h0, rfl, hq6⟩ | ⟨h0, rfl, hq6⟩
    ·have ht : tp 43 (43 :: q) = q := by unfold tp; rw [if_pos (by simp)]; rfl
     rw [ht, hq6] at e3
     have hiy := zaS y (by omega) (by omega) (by rw [← hq6]; omega)
     rw [hiy] at e3
     simp only [Option.some.injEq, Prod.mk.injEq] at e3
     exact e3.1.symm
    ·have ht : tp 43 (45 :: q) = 45 :: q := by unfold tp; rw [if_neg (by simp)]
     rw [ht, hq6] at e3
     have hiy := zaS y (by omega) (by omega) (by rw [← hq6, List.length_cons]; omega)
     rw [hiy] at e3
     simp only [Option.some.injEq, Prod.mk.injEq] at e3
     exact e3.1.symm
 ·obtain ⟨v, b, e2, v1, v2, _⟩ := zyG l (by omega)
  rw [if_neg (by simpa using h), e2]
  refine ⟨v, 0, rfl, ?_⟩
  intro x y hx hy hxy
  have hlast : ∀ m : List UInt8, l = m ++ [114] → False := fun m hm => h (by rw [hm]; simp)
  rcases body_forms x y with ⟨rfl, c, q, e4, e4', e5⟩ | ⟨_, rfl, c, q, e4, e5, hq⟩ | ⟨_, _, p, c, q, hp, e4, hc, hq, e5, h6⟩
  ·rw [hxy, e4'] at e2
   have hi := zaS x (by omega) (by omega) (by rw [← e4', ← hxy]; omega)
   rw [hi] at e2
   simp only [Option.some.injEq, Prod.mk.injEq] at e2
   exact ⟨e2.1.symm, rfl⟩
  ·exact (hlast (c :: q) (by rw [hxy, e5]; simp)).elim
  ·exact (hlast (p ++ c :: q) (by rw [hxy, e5]; simp)).elim
def unq (t : List UInt8) : List UInt8 := ts 41 (tp 40 t)
theorem unq_body (a b : Int) : unq (bodyT a b) = bodyT a b := by
 have h1 : tp 40 (bodyT a b) = bodyT a b := by
  unfold tp
  rw [if_neg fun h => ?_]
  exact (okB_ne (body_okB a b _ (List.mem_of_mem_head? h))).2.1 rfl
 unfold unq
 rw [h1]
 unfold ts
 rw [if_neg fun h => ?_]
 exact (okB_ne (body_okB a b _ (List.mem_of_getLast? h))).2.2 rfl
theorem unq_par (l : List UInt8) : unq (40 :: (l ++ [41])) = l := by
 have h1 : tp 40 (40 :: (l ++ [41])) = l ++ [41] := by unfold tp; rw [if_pos (by simp)]; rfl
 unfold unq
 rw [h1]
 unfold ts
 rw [if_pos (by simp), List.dropLast_concat]
theorem len64_shl {k : Int} (h0 : 0 ≤ k) (h1 : k ≤ 10) : ((Lib.bitLen (IntKind.u64.wrap (shl .i64 1 k)).toNat : Nat) : Int) = k + 1 := by
 have : k = 0 ∨ k = 1 ∨ k = 2 ∨ k = 3 ∨ k = 4 ∨ k = 5 ∨ k = 6 ∨ k = 7 ∨ k = 8 ∨ k = 9 ∨ k = 10 := by omega
 rcases this with rfl | rfl | rfl | rfl | rfl | rfl | rfl | rfl | rfl | rfl | rfl <;> decide
theorem u64_bd (v : Int) : 0 ≤ IntKind.u64.wrap v ∧ IntKind.u64.wrap v ≤ 18446744073709551615 := by
 have e : IntKind.u64.wrap v = v % 18446744073709551616 := by
  simp [IntKind.wrap, IntKind.signed, IntKind.bits]
 rw [e]; omega
theorem impl_ReadNum_j0 (s t : List UInt8) (A B K : Int) (k : Nat) (ht : t.length ≤ 1048576) (hk : 100 < k) :
  ∃ a b, zaB.j0 k (sb s) (sb t) A B K = some (if znX a b K ∧ zuQ a b K = s then (a, b, K, true) else (0, 0, 0, false)) ∧ (∀ x y : Int, x.natAbs < 10000000 → y.natAbs < 10000000 → unq t = bodyT x y → a = x ∧ b = y) := by
 obtain ⟨k, rfl⟩ : ∃ m, k = m + 1 := ⟨k - 1, by omega⟩
 have h1 := tp_len 40 t
 have h2 := ts_len 41 (tp 40 t)
 obtain ⟨a, b, e, h⟩ := impl_readParts_tot (unq t) (by unfold unq; omega)
 refine ⟨a, b, ?_, h⟩
 simp only [zaB.j0]
 rw [show (⟨#[40]⟩ : ByteArray) = sb [40] from rfl, show (⟨#[41]⟩ : ByteArray) = sb [41] from rfl, trimPre]
 simp only [Option.bind_some]
 rw [trimSuf _ 41 (by omega)]
 simp only [Option.bind_some]
 rw [show sb (ts 41 (tp 40 t)) = sb (unq t) from rfl, e]
 simp only [Option.bind_some]
 rw [impl_ValidNum_eq]
 simp only [Option.bind_some]
 by_cases hn : znX a b K
 ·rw [if_pos (decide_eq_true hn), impl_numText_eq a b K k hn (by omega)]
  simp only [Option.bind_some, sb_toList, hn, true_and]
  by_cases hs : zuQ a b K = s
  ·rw [if_pos hs, if_pos hs]
  ·rw [if_neg hs, if_neg hs]
 ·rw [if_neg (by simpa using hn), if_neg fun hh => hn hh.1]
theorem impl_ReadNum_eq (s : List UInt8) (k : Nat) (hs : s.length ≤ 1048576) (hk : 100 < k) : zaB.f k (sb s) = some (zoA s) := by
 unfold zaB.f
 obtain ⟨c1, c2⟩ := cut_len s 47
 rw [show (⟨#[47]⟩ : ByteArray) = sb [47] from rfl, sCut s 47 hs]
 simp only [Option.bind_some]
 by_cases hf : (Lib.cut s [47]).2.2 = true
 ·rw [if_pos hf]
  obtain ⟨v, b, e, v1, v2, _⟩ := zyG (Lib.cut s [47]).2.1 (by omega)
  rw [e]
  simp only [Option.bind_some]
  unfold bits_Len64.f
  rw [if_pos (u64_bd v)]
  simp only [Option.bind_some]
  obtain ⟨a, b, e2, h⟩ := impl_ReadNum_j0 s (Lib.cut s [47]).1 0 0 (wrap64 ((Lib.bitLen (IntKind.u64.wrap v).toNat : Int) - 1)) k (by omega) hk
  rw [e2]
  congr 1
  refine readN_of s a b _ ?_
  intro x y z hz hxy
  obtain ⟨zx, zy, zk, _⟩ := id hz
  rw [hxy, num_cut] at h hf e
  by_cases h0 : z = 0
  ·rw [if_pos h0] at hf; cases hf
  ·rw [if_neg h0] at h e
   dsimp only at h e
   have hi := zaS (shl .i64 1 z) (by have := shl_bd zk.1 zk.2; omega) (by have := shl_bd zk.1 zk.2; omega) (by have := itoa_len (n := shl .i64 1 z) (by have := shl_bd zk.1 zk.2; omega); omega)
   rw [hi] at e
   simp only [Option.some.injEq, Prod.mk.injEq] at e
   have hK : wrap64 ((Lib.bitLen (IntKind.u64.wrap v).toNat : Int) - 1) = z := by
    rw [← e.1, len64_shl zk.1 zk.2, w64 (by omega) (by omega)]; omega
   have hab := h x y (by omega) (by omega) (by
    by_cases hc : x = 0 ∨ y = 0
    ·rw [if_pos hc]; exact unq_body x y
    ·rw [if_neg hc]; exact unq_par _)
   exact ⟨hab.1, hab.2, hK⟩
 ·rw [if_neg hf]
  obtain ⟨a, b, e2, h⟩ := impl_ReadNum_j0 s (Lib.cut s [47]).1 0 0 0 k (by omega) hk
  rw [e2]
  congr 1
  refine readN_of s a b _ ?_
  intro x y z hz hxy
  obtain ⟨zx, zy, zk, _⟩ := id hz
  rw [hxy, num_cut] at h hf
  by_cases h0 : z = 0
  ·rw [if_pos h0] at h
   have hab := h x y (by omega) (by omega) (unq_body x y)
   exact ⟨hab.1, hab.2, h0.symm⟩
  ·rw [if_neg h0] at hf
   exact absurd rfl hf

theorem num_mem {a b k : Int} {x : UInt8} (h : x ∈ zuQ a b k) : x ≠ 44 ∧ x ≠ 32 ∧ x ≠ 64 := by
 have hB : ∀ y, okB y → y ≠ 44 ∧ y ≠ 32 ∧ y ≠ 64 := by
  intro y hy
  rcases hy with hy | rfl | rfl | rfl
  ·refine ⟨?_, ?_, ?_⟩ <;> rintro rfl <;> revert hy <;> decide
  all_goals decide
 have hI : ∀ (n : Int) (y : UInt8), y ∈ Lib.itoa n → y ≠ 44 ∧ y ≠ 32 ∧ y ≠ 64 := fun n y hy => hB y ((itoa_okB n y hy).elim (fun h => Or.inl h) (fun h => Or.inr (Or.inr (Or.inl h))))
 rw [numTxt_body] at h
 split at h
 ·exact hB x (body_okB a b x h)
 ·split at h
  ·rcases List.mem_append.1 h with h | h
   ·exact hB x (body_okB a b x h)
   ·rcases List.mem_cons.1 h with rfl | h
    ·decide
    ·exact hI _ x h
  ·rcases List.mem_cons.1 h with rfl | h
   ·decide
   ·rcases List.mem_append.1 h with h | h
    ·exact hB x (body_okB a b x h)
    ·rcases List.mem_cons.1 h with rfl | h
     ·decide
     ·rcases List.mem_cons.1 h with rfl | h
      ·decide
      ·exact hI _ x h
theorem num_ne (a b k : Int) : zuQ a b k ≠ [] := by
 rw [numTxt_body]
 have := body_ne a b
 split
 ·exact this
 ·split <;> simp
theorem readN_ok {s : List UInt8} (h : (zoA s).2.2.2 = true) : znX (zoA s).1 (zoA s).2.1 (zoA s).2.2.1 ∧ s = zuQ (zoA s).1 (zoA s).2.1 (zoA s).2.2.1 := by
 rcases readN_or s with ⟨a, b, k, h1, h2, h3⟩ | h2
 ·rw [h3]; exact ⟨h1, h2⟩
 ·rw [h2.1] at h; cases h
def readP (s : List UInt8) : Int × Int × Int × Int × Int × Int × Bool :=
 if s.head? = some 40 ∧ (tp 40 s).getLast? = some 41 ∧ (Lib.cut (ts 41 (tp 40 s)) [44]).2.2 = true ∧ (zoA (Lib.cut (ts 41 (tp 40 s)) [44]).1).2.2.2 = true ∧ (zoA (Lib.cut (ts 41 (tp 40 s)) [44]).2.1).2.2.2 = true then
  ((zoA (Lib.cut (ts 41 (tp 40 s)) [44]).1).1, (zoA (Lib.cut (ts 41 (tp 40 s)) [44]).1).2.1, (zoA (Lib.cut (ts 41 (tp 40 s)) [44]).1).2.2.1, (zoA (Lib.cut (ts 41 (tp 40 s)) [44]).2.1).1, (zoA (Lib.cut (ts 41 (tp 40 s)) [44]).2.1).2.1, (zoA (Lib.cut (ts 41 (tp 40 s)) [44]).2.1).2.2.1, true)
 else (0, 0, 0, 0, 0, 0, false)
theorem readP_pnt {a b c d e f : Int} (h : znX a b c) (h2 : znX d e f) : readP (pntTxt a b c d e f) = (a, b, c, d, e, f, true) := by
 have e1 : tp 40 (pntTxt a b c d e f) = (zuQ a b c ++ 44 :: zuQ d e f) ++ [41] := by
  unfold tp pntTxt
  rw [if_pos (by simp)]
  simp
 have e2 : ts 41 (tp 40 (pntTxt a b c d e f)) = zuQ a b c ++ 44 :: zuQ d e f := by
  rw [e1]; unfold ts
  rw [if_pos List.getLast?_concat, List.dropLast_concat]
 have e3 : Lib.cut (zuQ a b c ++ 44 :: zuQ d e f) [44] = (zuQ a b c, zuQ d e f, true) := cut_at fun hm => (num_mem hm).1 rfl
 unfold readP
 rw [e2, e3]
 dsimp only
 rw [readN_num h, readN_num h2, e1, if_pos ⟨by simp [pntTxt], List.getLast?_concat, rfl, rfl, rfl⟩]
theorem readP_or (s : List UInt8) : (∃ a b c d e f, znX a b c ∧ znX d e f ∧ s = pntTxt a b c d e f ∧ readP s = (a, b, c, d, e, f, true)) ∨ (readP s = (0, 0, 0, 0, 0, 0, false) ∧ ¬ ∃ a b c d e f, znX a b c ∧ znX d e f ∧ s = pntTxt a b c d e f) := by
 by_cases h : ∃ a b c d e f, znX a b c ∧ znX d e f ∧ s = pntTxt a b c d e f
 ·obtain ⟨a, b, c, d, e, f, h1, h2, h3⟩ := h
  exact Or.inl ⟨a, b, c, d, e, f, h1, h2, h3, by rw [h3]; exact readP_pnt h1 h2⟩
 ·refine Or.inr ⟨?_, h⟩
  unfold readP
  rw [if_neg]
  rintro ⟨h1, h2, h3, h4, h5⟩
  apply h
  obtain ⟨n1, m1⟩ := readN_ok h4
  obtain ⟨n2, m2⟩ := readN_ok h5
  refine ⟨_, _, _, _, _, _, n1, n2, ?_⟩
  have s1 : s = 40 :: tp 40 s := by
   unfold tp; rw [if_pos h1]
   cases s with
   | nil => simp at h1
   | cons x r => simp at h1; rw [h1]; rfl
  have s2 : tp 40 s = ts 41 (tp 40 s) ++ [41] := by
   unfold ts; rw [if_pos h2]
   generalize tp 40 s = t at h2
   rcases List.eq_nil_or_concat t with rfl | ⟨r, x, rfl⟩
   ·simp at h2
   ·simp at h2; subst h2; simp
  have s3 : ts 41 (tp 40 s) = (Lib.cut (ts 41 (tp 40 s)) [44]).1 ++ 44 :: (Lib.cut (ts 41 (tp 40 s)) [44]).2.1 := by
   generalize ts 41 (tp 40 s) = t at h3
   by_cases hm : (44 : UInt8) ∈ t
   ·obtain ⟨p, q, rfl, hp⟩ := List.eq_append_cons_of_mem hm
    rw [cut_at hp]
   ·rw [cut_no hm] at h3; cases h3
  unfold pntTxt
  rw [← m1, ← m2]
  conv => lhs; rw [s1, s2, s3]
  simp
theorem impl_ReadPoint_eq (s : List UInt8) (k : Nat) (hs : s.length ≤ 1048576) (hk : 100 < k) : zkJ.f k (sb s) = some (readP s) := by
 have h1 := tp_len 40 s
 have h2 := ts_len 41 (tp 40 s)
 obtain ⟨c1, c2⟩ := cut_len (ts 41 (tp 40 s)) 44
 have hp : zvO.f (sb s) (⟨#[40]⟩ : ByteArray) = some (sb (tp 40 s), decide (s.head? = some 40)) := by
  unfold zvO.f stringslite_CutPrefix.f tp
  rw [show (⟨#[40]⟩ : ByteArray) = sb [40] from rfl, hasPre]
  simp only [Option.bind_some, zjA, zsR, List.length_singleton]
  by_cases h : s.head? = some 40
  ·have hl : 1 ≤ s.length := by cases s with | nil => simp at h | cons _ _ => simp
   rw [if_pos (decide_eq_true h), if_pos (by omega), if_pos (by omega), if_pos h, decide_eq_true h]
   simp
  ·rw [if_neg (by simpa using h), if_neg h, decide_eq_false h]
   rfl
 unfold zkJ.f zlW.f
 rw [hp]
 simp only [Option.bind_some]
 rw [show (⟨#[41]⟩ : ByteArray) = sb [41] from rfl, show (⟨#[44]⟩ : ByteArray) = sb [44] from rfl, cutSuf _ 41 (by omega)]
 simp only [Option.bind_some]
 rw [sCut _ 44 (by omega)]
 simp only [Option.bind_some]
 rw [impl_ReadNum_eq _ k (by omega) hk, impl_ReadNum_eq _ k (by omega) hk]
 simp only [Option.bind_some, decide_eq_true_eq]
 unfold readP
 by_cases a1 : s.head? = some 40
 ·by_cases a2 : (tp 40 s).getLast? = some 41
  ·by_cases a3 : (Lib.cut (ts 41 (tp 40 s)) [44]).2.2 = true
   ·by_cases a4 : (zoA (Lib.cut (ts 41 (tp 40 s)) [44]).1).2.2.2 = true
    ·by_cases a5 : (zoA (Lib.cut (ts 41 (tp 40 s)) [44]).2.1).2.2.2 = true
     ·rw [if_pos a1, if_pos a2, if_pos a3, if_pos a4, if_pos a5, if_pos ⟨a1, a2, a3, a4, a5⟩]
     ·rw [if_pos a1, if_pos a2, if_pos a3, if_pos a4, if_neg a5, if_neg fun h => a5 h.2.2.2.2]
    ·rw [if_pos a1, if_pos a2, if_pos a3, if_neg a4, if_neg fun h => a4 h.2.2.2.1]
   ·rw [if_pos a1, if_pos a2, if_neg a3, if_neg fun h => a3 h.2.2.1]
  ·rw [if_pos a1, if_neg a2, if_neg fun h => a2 h.2.1]
 ·rw [if_neg a1, if_neg fun h => a1 h.1]

def spl (c : UInt8) : List UInt8 → List UInt8 → List (List UInt8)
 | cur, [] => [cur]
 | cur, b :: l => if b = c then cur :: spl c [] l else spl c (cur ++ [b]) l
theorem spl_no (c : UInt8) : ∀ (l cur : List UInt8), c ∉ l → spl c cur l = [cur ++ l]
 | [], cur, _ => by simp [spl]
 | b :: l, cur, h => by
  simp only [List.mem_cons, not_or] at h
  simp only [spl]
  rw [if_neg (Ne.symm h.1), spl_no c l _ h.2]
  simp
theorem spl_app (c : UInt8) (q : List UInt8) : ∀ (p cur : List UInt8), c ∉ p → spl c cur (p ++ c :: q) = (cur ++ p) :: spl c [] q
 | [], cur, _ => by simp [spl]
 | b :: l, cur, h => by
  simp only [List.mem_cons, not_or] at h
  simp only [List.cons_append, spl]
  rw [if_neg (Ne.symm h.1), spl_app c q l _ h.2]
  simp
theorem spl_pos (c : UInt8) : ∀ (l cur : List UInt8), 1 ≤ (spl c cur l).length
 | [], cur => by simp [spl]
 | b :: l, cur => by
  simp only [spl]
  split
  ·simp
  ·exact spl_pos c l _
theorem spl_two {c : UInt8} {s : List UInt8} (h : (spl c [] s).length = 2) : ∃ p q, s = p ++ c :: q ∧ c ∉ p ∧ c ∉ q ∧ spl c [] s = [p, q] := by
 by_cases hm : c ∈ s
 ·obtain ⟨p, q, rfl, hp⟩ := List.eq_append_cons_of_mem hm
  have e := spl_app c q p [] hp
  rw [e] at h
  by_cases hq : c ∈ q
  ·obtain ⟨p2, q2, rfl, hp2⟩ := List.eq_append_cons_of_mem hq
   rw [spl_app c q2 p2 [] hp2] at h
   have := spl_pos c q2 []
   simp only [List.length_cons] at h
   omega
  ·exact ⟨p, q, rfl, hp, hq, by rw [e, spl_no c q [] hq]; simp⟩
 ·rw [spl_no c s [] hm] at h; simp at h
theorem split_loop (s : List UInt8) (c : UInt8) (hs : s.length ≤ 1048576) : ∀ (l cur done : List UInt8) (acc : List ByteArray) (k : Nat), s = done ++ cur ++ l → acc.length ≤ done.length → l.length < k →
  zjZ.l0 k (sb s) (c.toNat : Int) acc (done.length : Int) ((done.length + cur.length : Nat) : Int) = some (acc ++ (spl c cur l).map sb)
 | [], cur, done, acc, k, h, ha, hk => by
  obtain ⟨k, rfl⟩ : ∃ m, k = m + 1 := ⟨k - 1, by omega⟩
  have hl : s.length = done.length + cur.length := by rw [h]; simp
  simp only [zjZ.l0, zjA, Int.toNat_natCast, zsR, List.take_length]
  rw [if_neg (by omega), if_pos (by omega), if_pos (by omega), if_pos (by omega), h]
  simp [spl]
 | b :: l, cur, done, acc, k, h, ha, hk => by
  obtain ⟨k, rfl⟩ : ∃ m, k = m + 1 := ⟨k - 1, by omega⟩
  have hll : (b :: l).length = l.length + 1 := rfl
  have hl : s.length = done.length + cur.length + (l.length + 1) := by rw [h]; simp; omega
  have hg : s.getD (done.length + cur.length) 0 = b := by
   rw [h, List.getD_eq_getElem?_getD, List.getElem?_append_right (by simp)]
   simp
  simp only [zjZ.l0, zjA]
  rw [if_pos (by omega), if_pos (by omega), bt_sb (by omega), hg]
  by_cases hb : b = c
  ·subst hb
   rw [if_pos rfl, if_pos (by omega), if_pos (by omega), if_pos (by omega), if_pos (by omega), Int.toNat_natCast, Int.toNat_natCast, zsR, zaU (by omega)]
   have hx : (s.take (done.length + cur.length)).drop done.length = cur := by
    rw [h, show done ++ cur ++ b :: l = (done ++ cur) ++ b :: l from rfl, show done.length + cur.length = (done ++ cur).length by simp, List.take_left, List.drop_left]
   have ih := split_loop s b hs l [] (done ++ cur ++ [b]) (acc ++ [sb cur]) k (by rw [h]; simp) (by simp; omega) (by omega)
   rw [hx]
   simp only [List.length_append, List.length_singleton, List.length_nil, Nat.add_zero] at ih
   rw [ih]
   simp [spl]
  ·have hn : ¬ (b.toNat : Int) = (c.toNat : Int) := fun hh => hb (by rw [← UInt8.toNat_inj]; omega)
   rw [if_neg hn, zaU (by omega)]
   have ih := split_loop s c hs l (cur ++ [b]) done acc k (by rw [h]; simp) ha (by omega)
   simp only [List.length_append, List.length_singleton] at ih
   rw [show done.length + cur.length + 1 = done.length + (cur.length + 1) by omega, ih]
   simp only [spl]
   rw [if_neg hb]
theorem spec_l02Split_eq (s : List UInt8) (c : UInt8) (k : Nat) (hs : s.length ≤ 1048576) (hk : s.length < k) : zjZ.f k (sb s) (c.toNat : Int) = some ((spl c [] s).map sb) := by
 have := split_loop s c hs s [] [] [] k rfl (by simp) hk
 unfold zjZ.f
 simpa using this
theorem spl_pnt (a b c d e f : Int) : spl 44 [] (pntTxt a b c d e f) = [40 :: zuQ a b c, zuQ d e f ++ [41]] := by
 have h1 : (44 : UInt8) ∉ (40 :: zuQ a b c) := by
  intro hm
  rcases List.mem_cons.1 hm with hm | hm
  ·exact absurd hm (by decide)
  ·exact (num_mem hm).1 rfl
 have h2 : (44 : UInt8) ∉ (zuQ d e f ++ [41]) := by
  intro hm
  rcases List.mem_append.1 hm with hm | hm
  ·exact (num_mem hm).1 rfl
  ·exact absurd (List.mem_singleton.1 hm) (by decide)
 rw [show pntTxt a b c d e f = (40 :: zuQ a b c) ++ 44 :: (zuQ d e f ++ [41]) from rfl, spl_app 44 _ _ [] h1, spl_no 44 _ [] h2]
 rfl
theorem getD_end (m : List UInt8) (x : UInt8) : (m ++ [x]).getD ((m ++ [x]).length - 1) 0 = x := by simp [List.getD_eq_getElem?_getD]
theorem pnt_len {a b c d e f : Int} : 5 ≤ (pntTxt a b c d e f).length := by
 have h1 : 1 ≤ (zuQ a b c).length := by have := num_ne a b c; cases h : zuQ a b c with | nil => exact absurd h this | cons _ _ => simp
 have h2 : 1 ≤ (zuQ d e f).length := by have := num_ne d e f; cases h : zuQ d e f with | nil => exact absurd h this | cons _ _ => simp
 simp only [pntTxt, List.length_cons, List.length_append, List.length_nil]
 omega
theorem ReadPoint_j0t (l : List ByteArray) (k : Nat) (hk : 0 < k) : zkO.j0 k l true = some (0, 0, 0, 0, 0, 0, false) := by
 obtain ⟨k, rfl⟩ : ∃ m, k = m + 1 := ⟨k - 1, by omega⟩
 simp only [zkO.j0]
 rw [if_pos trivial]
theorem spec_ReadPoint_eq (s : List UInt8) (k : Nat) (hs : s.length ≤ 1048576) (hk : 2 * s.length + 410 < k) : zkO.f k (sb s) = some (readP s) := by
 unfold zkO.f
 rw [show (44 : Int) = (((44 : UInt8).toNat : Nat) : Int) from rfl, spec_l02Split_eq s 44 k hs (by omega)]
 simp only [Option.bind_some, zjA, List.length_map]
 have zero : (¬ ∃ a b c d e f, znX a b c ∧ znX d e f ∧ s = pntTxt a b c d e f) → readP s = (0, 0, 0, 0, 0, 0, false) := fun h => by
  rcases readP_or s with ⟨a, b, c, d, e, f, h1, h2, h3, _⟩ | h2
  ·exact absurd ⟨a, b, c, d, e, f, h1, h2, h3⟩ h
  ·exact h2.1
 by_cases h2 : (spl 44 [] s).length = 2
 ·rw [if_pos (by omega)]
  obtain ⟨p, q, hsp, hp, hq, e⟩ := spl_two h2
  rw [e]
  by_cases h5 : s.length < 5
  ·rw [if_pos (by omega), ReadPoint_j0t _ k (by omega), zero]
   rintro ⟨a, b, c, d, e, f, _, _, h⟩
   have := pnt_len (a := a) (b := b) (c := c) (d := d) (e := e) (f := f)
   rw [← h] at this; omega
  ·have hb0 : bt (sb s) 0 = ((s.getD 0 0).toNat : Int) := bt_sb (l := s) (j := 0) (by omega)
   rw [if_neg (by omega), if_pos (by omega), hb0]
   by_cases h40 : s.getD 0 0 = 40
   ·rw [if_pos (by rw [h40]; rfl), pred64 (by omega) (by omega), if_pos (by omega), if_pos (by omega), bt_sb (by omega)]
    by_cases h41 : s.getD (s.length - 1) 0 = 41
    ·have hc : (((s.getD (s.length - 1) 0).toNat : Int) != 41) = false := by rw [h41]; rfl
     rw [hc]
     obtain ⟨k, rfl⟩ : ∃ m, k = m + 1 := ⟨k - 1, by omega⟩
     have hsl : s.length = p.length + 1 + q.length := by rw [hsp]; simp only [List.length_append, List.length_cons]; omega
     -- p begins with '(', q ends with ')'
     obtain ⟨p', rfl⟩ : ∃ p', p = 40 :: p' := by
      cases p with
      | nil => rw [hsp] at h40; have h40 : (44 : UInt8) = 40 := h40; exact absurd h40 (by decide)
      | cons x r => rw [hsp] at h40; exact ⟨r, by have h40 : x = 40 := h40; rw [h40]⟩
     obtain ⟨q', rfl⟩ : ∃ q', q = q' ++ [41] := by
      rcases List.eq_nil_or_concat q with rfl | ⟨r, x, rfl⟩
      ·rw [hsp] at h41
       rw [getD_end] at h41
       exact absurd h41 (by decide)
      ·refine ⟨r, ?_⟩
       have hx : s.getD (s.length - 1) 0 = x := by
        rw [hsp, show 40 :: p' ++ 44 :: (r.concat x) = (40 :: p' ++ 44 :: r) ++ [x] by simp]
        exact getD_end _ _
       rw [hx] at h41
       rw [h41]; simp
     simp only [List.length_cons, List.length_append, List.length_nil] at hsl
     have x1 : (sb (40 :: p')).extract 1 (40 :: p').length = sb p' := by rw [zsR]; simp
     have x2 : (sb (q' ++ [41])).extract 0 q'.length = sb q' := by rw [zsR]; simp
     have ew : wrap64 (((q' ++ [41]).length : Int) - 1) = ((q'.length : Nat) : Int) := by rw [pred64 (by simp; omega) (by simp)]; simp
     have r0 : zzV ByteArray.empty (List.map sb [40 :: p', q' ++ [41]]) 0 = sb (40 :: p') := rfl
     have r1 : zzV ByteArray.empty (List.map sb [40 :: p', q' ++ [41]]) 1 = sb (q' ++ [41]) := rfl
     simp only [zkO.j0, r0, r1, zjA, x1, ew, Int.toNat_natCast, x2]
     rw [if_neg (by simp), if_pos (by simp), if_pos (by simp only [List.length_cons]; omega), spec_ReadNum_eq p' k (by omega) (by omega)]
     simp only [Option.bind_some]
     rw [if_pos (by simp), if_pos (by omega), if_pos (by simp only [List.length_append, List.length_singleton]; omega), spec_ReadNum_eq q' k (by omega) (by omega)]
     simp only [Option.bind_some]
     have hs2 : s = 40 :: (p' ++ (44 :: (q' ++ [41]))) := hsp
     rcases readN_or p' with ⟨a, b, c, n1, m1, o1⟩ | ⟨o1, n1⟩
     ·rcases readN_or q' with ⟨d, e, f, n2, m2, o2⟩ | ⟨o2, n2⟩
      ·rw [o1, o2, hs2, m1, m2, show (40 :: (zuQ a b c ++ (44 :: (zuQ d e f ++ [41])))) = pntTxt a b c d e f from rfl, readP_pnt n1 n2]
       rfl
      ·rw [o1, o2, zero]
       ·rfl
       ·rintro ⟨a', b', c', d', e', f', g1, g2, g3⟩
        have hu : spl 44 [] s = [40 :: zuQ a' b' c', zuQ d' e' f' ++ [41]] := by rw [g3]; exact spl_pnt _ _ _ _ _ _
        rw [‹spl 44 [] s = [40 :: p', q' ++ [41]]›] at hu
        simp only [List.cons.injEq, and_true, true_and] at hu
        exact n2 ⟨d', e', f', g2, List.append_cancel_right hu.2⟩
     ·have hz : (if (zoA p').2.2.2 = true then (if (zoA q').2.2.2 = true then some ((zoA p').1, (zoA p').2.1, (zoA p').2.2.1, (zoA q').1, (zoA q').2.1, (zoA q').2.2.1, true) else some (0, 0, 0, 0, 0, 0, false)) else some ((0, 0, 0, 0, 0, 0, false) : Int × Int × Int × Int × Int × Int × Bool)) = some (0, 0, 0, 0, 0, 0, false) := by rw [o1]; rfl
      rw [hz, zero]
      rintro ⟨a', b', c', d', e', f', g1, g2, g3⟩
      have hu : spl 44 [] s = [40 :: zuQ a' b' c', zuQ d' e' f' ++ [41]] := by rw [g3]; exact spl_pnt _ _ _ _ _ _
      rw [‹spl 44 [] s = [40 :: p', q' ++ [41]]›] at hu
      simp only [List.cons.injEq, and_true, true_and] at hu
      exact n1 ⟨a', b', c', g1, hu.1⟩
    ·have hc : (((s.getD (s.length - 1) 0).toNat : Int) != 41) = true := bne_iff_ne.2 fun hh => h41 (by rw [← UInt8.toNat_inj]; show (s.getD (s.length - 1) 0).toNat = 41; omega)
     rw [hc, ReadPoint_j0t _ k (by omega), zero]
     rintro ⟨a', b', c', d', e', f', g1, g2, g3⟩
     apply h41
     rw [g3, show pntTxt a' b' c' d' e' f' = (40 :: (zuQ a' b' c' ++ (44 :: zuQ d' e' f'))) ++ [41] by simp [pntTxt]]
     exact getD_end _ _
   ·have hn : ¬ ((s.getD 0 0).toNat : Int) = 40 := fun hh => h40 (by rw [← UInt8.toNat_inj]; show (s.getD 0 0).toNat = 40; omega)
    rw [if_neg hn, ReadPoint_j0t _ k (by omega), zero]
    rintro ⟨a', b', c', d', e', f', g1, g2, g3⟩
    apply h40
    rw [g3]; rfl
 ·rw [if_neg (by omega), ReadPoint_j0t _ k (by omega), zero]
  rintro ⟨a', b', c', d', e', f', g1, g2, g3⟩
  apply h2
  rw [g3, spl_pnt]
  rfl

theorem spec_l02Point_eq (a b k c d l : Int) : zzR.f a b k c d l = some (decide (znX a b k ∧ znX c d l)) := by
 unfold zzR.f
 simp only [spec_l01Ok_eq, Option.bind_some]
 by_cases h : znX a b k <;> simp [h]

theorem sq_core (u : Int) (h0 : 0 ≤ u) (h1 : u ≤ 9223372036854775808) :
  let l := u % 4294967296; let h := u / 4294967296
  (let s := (l * l % 18446744073709551616 + ((2 * l % 18446744073709551616) * h % 18446744073709551616) * 4294967296 % 18446744073709551616) % 18446744073709551616
   let c := ((2 * l % 18446744073709551616) * h % 18446744073709551616) / 4294967296
   0 ≤ s ∧ s ≤ 18446744073709551615 ∧ (h * h % 18446744073709551616 + (if s < l * l % 18446744073709551616 then (c + 1) % 18446744073709551616 else c)) % 18446744073709551616 * 18446744073709551616 + s = u * u ∧
    0 ≤ (h * h % 18446744073709551616 + (if s < l * l % 18446744073709551616 then (c + 1) % 18446744073709551616 else c)) % 18446744073709551616) := by
 intro l h
 have hl0 : 0 ≤ l ∧ l ≤ 4294967295 := by simp only [l]; omega
 have hh0 : 0 ≤ h ∧ h ≤ 2147483648 := by simp only [h]; omega
 have e := halves u
 change u * u = h * h * 18446744073709551616 + 2 * (l * h) * 4294967296 + l * l at e
 have b1 := half_bd hl0.1 hl0.2 hl0.1 hl0.2
 have b2 : 0 ≤ l * h ∧ l * h ≤ 4294967295 * 2147483648 := ⟨Int.mul_nonneg hl0.1 hh0.1, Int.mul_le_mul hl0.2 hh0.2 hh0.1 (by omega)⟩
 have b3 : 0 ≤ h * h ∧ h * h ≤ 2147483648 * 2147483648 := ⟨Int.mul_nonneg hh0.1 hh0.1, Int.mul_le_mul hh0.2 hh0.2 hh0.1 (by omega)⟩
 rw [e, Int.emod_eq_of_lt (a := 2 * l) (by omega) (by omega), Int.mul_assoc 2 l h]
 generalize l * l = p at *
 generalize l * h = q at *
 generalize h * h = r at *
 clear e hl0 hh0
 clear_value l h
 simp only []
 split <;> omega
theorem spec_l01Square_eq (a : Int) (h0 : -9223372036854775807 ≤ a) (h1 : a ≤ 9223372036854775807) : ∃ h s : Int, zpT.f a = some (h, s) ∧ h * 18446744073709551616 + s = a * a ∧ 0 ≤ h ∧ 0 ≤ s ∧ s ≤ 18446744073709551615 := by
 unfold zpT.f
 have key : ∀ u : Int, 0 ≤ u → u ≤ 9223372036854775808 → u * u = a * a → ∃ h s : Int,
   (if (IntKind.u64.wrap ((IntKind.u64.wrap ((bits .and .u64 u 4294967295) * (bits .and .u64 u 4294967295))) + (IntKind.u64.wrap ((IntKind.u64.wrap ((IntKind.u64.wrap (2 * (bits .and .u64 u 4294967295))) * (u / 4294967296))) * 4294967296)))) < (IntKind.u64.wrap ((bits .and .u64 u 4294967295) * (bits .and .u64 u 4294967295))) then (some (IntKind.u64.wrap ((IntKind.u64.wrap ((u / 4294967296) * (u / 4294967296))) + (IntKind.u64.wrap (((IntKind.u64.wrap ((IntKind.u64.wrap (2 * (bits .and .u64 u 4294967295))) * (u / 4294967296))) / 4294967296) + 1))), IntKind.u64.wrap ((IntKind.u64.wrap ((bits .and .u64 u 4294967295) * (bits .and .u64 u 4294967295))) + (IntKind.u64.wrap ((IntKind.u64.wrap ((IntKind.u64.wrap (2 * (bits .and .u64 u 4294967295))) * (u / 4294967296))) * 4294967296))))) else (some (IntKind.u64.wrap ((IntKind.u64.wrap ((u / 4294967296) * (u / 4294967296))) + ((IntKind.u64.wrap ((IntKind.u64.wrap (2 * (bits .and .u64 u 4294967295))) * (u / 4294967296))) / 4294967296)), IntKind.u64.wrap ((IntKind.u64.wrap ((bits .and .u64 u 4294967295) * (bits .and .u64 u 4294967295))) + (IntKind.u64.wrap ((IntKind.u64.wrap ((IntKind.u64.wrap (2 * (bits .and .u64 u 4294967295))) * (u / 4294967296))) * 4294967296)))))) = some (h, s) ∧ h * 18446744073709551616 + s = a * a ∧ 0 ≤ h ∧ 0 ≤ s ∧ s ≤ 18446744073709551615 := by
  intro u hu hu1 he
  rw [andlow hu (by omega)]
  simp only [wrapu]
  have c := sq_core u hu hu1
  simp only [] at c
  by_cases hc : ((u % 4294967296) * (u % 4294967296) % 18446744073709551616 + ((2 * (u % 4294967296) % 18446744073709551616) * (u / 4294967296) % 18446744073709551616) * 4294967296 % 18446744073709551616) % 18446744073709551616 < (u % 4294967296) * (u % 4294967296) % 18446744073709551616
  ·rw [if_pos hc] at c ⊢
   exact ⟨_, _, rfl, by rw [← he]; exact c.2.2.1, c.2.2.2, c.1, c.2.1⟩
  ·rw [if_neg hc] at c ⊢
   exact ⟨_, _, rfl, by rw [← he]; exact c.2.2.1, c.2.2.2, c.1, c.2.1⟩
 by_cases hn : a < 0
 ·rw [if_pos hn, w64 (n := -a) (by omega) (by omega), wu64 (n := -a) (by omega) (by omega)]
  exact key (-a) (by omega) (by omega) (by rw [Int.neg_mul_neg])
 ·rw [if_neg hn, wu64 (n := a) (by omega) (by omega)]
  exact key a (by omega) (by omega) rfl

theorem spec_l01Less_eq (a b : Int) (ha0 : -9223372036854775807 ≤ a) (ha1 : a ≤ 9223372036854775807) (hb0 : -4611686018427387904 ≤ b) (hb1 : b ≤ 4611686018427387904) : zoU.f a b = some (decide (a * a < 2 * (b * b))) := by
 unfold zoU.f
 obtain ⟨h, s, e, es, h1, h2, h3⟩ := spec_l01Square_eq a ha0 ha1
 obtain ⟨g, m, f, fs, g1, g2, g3⟩ := spec_l01Square_eq b (by omega) (by omega)
 have hbb : b * b ≤ 4611686018427387904 * 4611686018427387904 := by
  rcases Int.le_total 0 b with h | h
  ·exact Int.mul_le_mul hb1 hb1 h (by omega)
  ·rw [← Int.neg_mul_neg]; exact Int.mul_le_mul (by omega) (by omega) (by omega) (by omega)
 rw [e, f, ← es, ← fs] 
 rw [← fs] at hbb
 simp only [Option.bind_some, wrapu]
 by_cases c1 : h < (g * 2 % 18446744073709551616 + m / 9223372036854775808) % 18446744073709551616
 ·rw [if_pos c1, decide_eq_true (by omega)]
 ·rw [if_neg c1]
  by_cases c2 : h = (g * 2 % 18446744073709551616 + m / 9223372036854775808) % 18446744073709551616
  ·rw [if_pos c2]
   congr 1
   rw [decide_eq_decide]
   constructor <;> intro _ <;> omega
  ·rw [if_neg c2, decide_eq_false (by omega)]

theorem spec_l01Sign_eq (a b c : Int) (ha0 : -4611686018427387904 ≤ a) (ha1 : a ≤ 4611686018427387904) (hb0 : -4611686018427387904 ≤ b) (hb1 : b ≤ 4611686018427387904) (k : Nat) (hk : 3 ≤ k) : zxR.f k a b c = some (sgn a b) := by
 obtain ⟨k, rfl⟩ : ∃ m, k = m + 3 := ⟨k - 3, by omega⟩
 unfold zxR.f sgn
 simp only [zxR.j0, zxR.j1, zxR.j2]
 rw [spec_l01Less_eq a b (by omega) (by omega) hb0 hb1]
 simp only [Option.bind_some]
 by_cases h1 : a = 0 ∧ b = 0
 ·obtain ⟨rfl, rfl⟩ := h1; simp
 ·rw [if_neg h1]
  by_cases ha : a = 0
  ·have hb : ¬ b = 0 := fun c => h1 ⟨ha, c⟩
   subst ha
   by_cases hb2 : 0 ≤ b
   ·simp [hb, hb2]
   ·have hb3 : b ≤ 0 := by omega
    simp [hb, hb2, hb3]
  ·by_cases ha2 : 0 ≤ a
   ·by_cases hb2 : 0 ≤ b
    ·simp [ha, ha2, hb2]
    ·have ha3 : ¬ a ≤ 0 := by omega
     simp [ha, ha2, hb2, ha3, apply_ite some]
   ·have ha3 : a ≤ 0 := by omega
    by_cases hb3 : b ≤ 0
    ·simp [ha, ha2, ha3, hb3]
    ·simp [ha, ha2, ha3, hb3, apply_ite some]

theorem spec_l01Low_l0 : ∀ (k K : Nat) (a b : Int), k < K → -4611686018427387904 ≤ a → a ≤ 4611686018427387904 → -4611686018427387904 ≤ b → b ≤ 4611686018427387904 → k ≤ 1000 → zhR.l0 K a b (k : Int) = some (red k a b)
 | 0, K, a, b, hK, _, _, _, _, _ => by
  obtain ⟨K, rfl⟩ : ∃ m, K = m + 1 := ⟨K - 1, by omega⟩
  simp only [zhR.l0]
  rw [if_neg (by omega)]; rfl
 | k + 1, K, a, b, hK, h0, h1, h2, h3, h4 => by
  obtain ⟨K, rfl⟩ : ∃ m, K = m + 1 := ⟨K - 1, by omega⟩
  simp only [zhR.l0, red]
  rw [if_pos (by omega)]
  by_cases ha : a % 2 = 0
  ·rw [if_pos ((tmod2 a).2 ha)]
   by_cases hb : b % 2 = 0
   ·rw [if_pos ((tmod2 b).2 hb), if_pos ⟨ha, hb⟩, Int.tdiv_eq_ediv_of_dvd (by omega), Int.tdiv_eq_ediv_of_dvd (by omega), w64 (n := a / 2) (by omega) (by omega), w64 (n := b / 2) (by omega) (by omega), pred64 (by omega) (by omega)]
    exact spec_l01Low_l0 k K _ _ (by omega) (by omega) (by omega) (by omega) (by omega) (by omega)
   ·rw [if_neg (fun c => hb ((tmod2 b).1 c)), if_neg (fun c => hb c.2)]
  ·rw [if_neg (fun c => ha ((tmod2 a).1 c)), if_neg (fun c => ha c.1)]
theorem spec_l01Low_eq (a b : Int) (k K : Nat) (hK : k + 1 < K) (h0 : -4611686018427387904 ≤ a) (h1 : a ≤ 4611686018427387904) (h2 : -4611686018427387904 ≤ b) (h3 : b ≤ 4611686018427387904) (h4 : k ≤ 1000) : zhR.f K a b (k : Int) = some (red k a b) := by
 obtain ⟨K, rfl⟩ : ∃ m, K = m + 1 := ⟨K - 1, by omega⟩
 unfold zhR.f
 simp only [zhR.j0]
 by_cases h : a = 0
 ·rw [if_pos h]
  by_cases hb : b = 0
  ·subst h hb
   rw [if_pos (by simp), red_zero]
  ·rw [if_neg (by simpa using hb)]
   exact spec_l01Low_l0 k K a b (by omega) h0 h1 h2 h3 h4
 ·rw [if_neg h, if_neg (by simp)]
  exact spec_l01Low_l0 k K a b (by omega) h0 h1 h2 h3 h4

theorem spec_l01Add_l1 : ∀ (d k l K : Nat) (a b c e : Int), l + d = k → d + k + 3 < K → k ≤ 1000 →
  -1152921504606846976 ≤ a → a ≤ 1152921504606846976 → -1152921504606846976 ≤ b → b ≤ 1152921504606846976 →
  -1152921504606846976 ≤ c * 2 ^ d → c * 2 ^ d ≤ 1152921504606846976 → -1152921504606846976 ≤ e * 2 ^ d → e * 2 ^ d ≤ 1152921504606846976 →
  zhQ.l1 K a b (k : Int) c e (l : Int) = some (red k (a + c * 2 ^ d) (b + e * 2 ^ d))
 | 0, k, l, K, a, b, c, e, hd, hK, hk, a0, a1, b0, b1, c0, c1, e0, e1 => by
  obtain ⟨K, rfl⟩ : ∃ m, K = m + 1 := ⟨K - 1, by omega⟩
  rw [Int.pow_zero, Int.mul_one] at *
  simp only [zhQ.l1]
  rw [if_neg (by omega), w64 (n := a + c) (by omega) (by omega), w64 (n := b + e) (by omega) (by omega), spec_l01Low_eq (a + c) (b + e) k K (by omega) (by omega) (by omega) (by omega) (by omega) hk]
  simp only [Option.bind_some, Int.mul_one]
 | d + 1, k, l, K, a, b, c, e, hd, hK, hk, a0, a1, b0, b1, c0, c1, e0, e1 => by
  obtain ⟨K, rfl⟩ : ∃ m, K = m + 1 := ⟨K - 1, by omega⟩
  have p : ∀ x : Int, x * 2 ^ (d + 1) = x * 2 * 2 ^ d := fun x => by rw [Int.pow_succ', ← Int.mul_assoc]
  have cb := zxW (d + 1) c0 c1
  have eb := zxW (d + 1) e0 e1
  rw [p] at c0 c1 e0 e1
  simp only [zhQ.l1]
  rw [if_pos (by omega), w64 (n := c * 2) (by omega) (by omega), w64 (n := e * 2) (by omega) (by omega), zaU (by omega), p, p]
  exact spec_l01Add_l1 d k (l + 1) K a b (c * 2) (e * 2) (by omega) (by omega) hk a0 a1 b0 b1 c0 c1 e0 e1
theorem spec_l01Add_l0 : ∀ (d k l K : Nat) (a b c e : Int), k + d = l → d + l + 5 < K → l ≤ 1000 →
  -1152921504606846976 ≤ a * 2 ^ d → a * 2 ^ d ≤ 1152921504606846976 → -1152921504606846976 ≤ b * 2 ^ d → b * 2 ^ d ≤ 1152921504606846976 →
  -1152921504606846976 ≤ c → c ≤ 1152921504606846976 → -1152921504606846976 ≤ e → e ≤ 1152921504606846976 →
  zhQ.l0 K a b (k : Int) c e (l : Int) = some (red l (a * 2 ^ d + c) (b * 2 ^ d + e))
 | 0, k, l, K, a, b, c, e, hd, hK, hk, a0, a1, b0, b1, c0, c1, e0, e1 => by
  obtain ⟨K, rfl⟩ : ∃ m, K = m + 1 := ⟨K - 1, by omega⟩
  rw [Int.pow_zero, Int.mul_one] at *
  obtain rfl : k = l := by omega
  simp only [zhQ.l0]
  rw [if_neg (by omega), spec_l01Add_l1 0 k k K a b c e (by omega) (by omega) hk a0 a1 b0 b1 (by simpa using c0) (by simpa using c1) (by simpa using e0) (by simpa using e1)]
  simp
 | d + 1, k, l, K, a, b, c, e, hd, hK, hk, a0, a1, b0, b1, c0, c1, e0, e1 => by
  obtain ⟨K, rfl⟩ : ∃ m, K = m + 1 := ⟨K - 1, by omega⟩
  have p : ∀ x : Int, x * 2 ^ (d + 1) = x * 2 * 2 ^ d := fun x => by rw [Int.pow_succ', ← Int.mul_assoc]
  have cb := zxW (d + 1) a0 a1
  have eb := zxW (d + 1) b0 b1
  rw [p] at a0 a1 b0 b1
  simp only [zhQ.l0]
  rw [if_pos (by omega), w64 (n := a * 2) (by omega) (by omega), w64 (n := b * 2) (by omega) (by omega), zaU (by omega), p, p]
  exact spec_l01Add_l0 d (k + 1) l K (a * 2) (b * 2) c e (by omega) (by omega) hk a0 a1 b0 b1 c0 c1 e0 e1
theorem spec_l01Add_eq (N K : Nat) (A B C D : Int) (hK : K ≤ 100) (hN : 300 < N) (A0 : -1152921504606846976 ≤ A) (A1 : A ≤ 1152921504606846976) (B0 : -1152921504606846976 ≤ B) (B1 : B ≤ 1152921504606846976)
  (C0 : -1152921504606846976 ≤ C) (C1 : C ≤ 1152921504606846976) (D0 : -1152921504606846976 ≤ D) (D1 : D ≤ 1152921504606846976) :
  zhQ.f N (red K A B).1 (red K A B).2.1 (red K A B).2.2 (red K C D).1 (red K C D).2.1 (red K C D).2.2 = some (red K (A + C) (B + D)) := by
 obtain ⟨a, b, k, e1, hk, ha, hb, _⟩ := red_spec K A B
 obtain ⟨c, d, l, e2, hl, hc, hd, _⟩ := red_spec K C D
 rw [e1, e2]
 simp only [zhQ.f]
 have hs := red_sum hk hl ha hb hc hd
 have q : ∀ (x : Int) (i m : Nat), i ≤ m → m ≤ K → x * 2 ^ (K - i) = x * 2 ^ (m - i) * 2 ^ (K - m) := fun x i m h1 h2 => by
  rw [Int.mul_assoc, ← Int.pow_add, show m - i + (K - m) = K - i by omega]
 have bd : ∀ (X x : Int) (i m : Nat), i ≤ m → m ≤ K → X = x * 2 ^ (K - i) → -1152921504606846976 ≤ X → X ≤ 1152921504606846976 → -1152921504606846976 ≤ x * 2 ^ (m - i) ∧ x * 2 ^ (m - i) ≤ 1152921504606846976 := fun X x i m h1 h2 h3 h4 h5 =>
  zxW (K - m) (by rw [← q x i m h1 h2, ← h3]; exact h4) (by rw [← q x i m h1 h2, ← h3]; exact h5)
 rcases Nat.le_total k l with h | h
 ·rw [Nat.max_eq_right h] at hs
  have a' := bd A a k l h hl ha A0 A1
  have b' := bd B b k l h hl hb B0 B1
  have c' := bd C c l l (Nat.le_refl _) hl hc C0 C1
  have d' := bd D d l l (Nat.le_refl _) hl hd D0 D1
  rw [Nat.sub_self, Int.pow_zero, Int.mul_one] at c' d'
  rw [spec_l01Add_l0 (l - k) k l N a b c d (by omega) (by omega) (by omega) a'.1 a'.2 b'.1 b'.2 c'.1 c'.2 d'.1 d'.2, ← hs]
  simp
 ·rw [Nat.max_eq_left h] at hs
  have a' := bd A a k k (Nat.le_refl _) hk ha A0 A1
  have b' := bd B b k k (Nat.le_refl _) hk hb B0 B1
  have c' := bd C c l k h hk hc C0 C1
  have d' := bd D d l k h hk hd D0 D1
  rw [Nat.sub_self, Int.pow_zero, Int.mul_one] at a' b'
  obtain ⟨N, rfl⟩ : ∃ m, N = m + 1 := ⟨N - 1, by omega⟩
  simp only [zhQ.l0]
  rw [if_neg (by omega), spec_l01Add_l1 (k - l) k l N a b c d (by omega) (by omega) (by omega) a'.1 a'.2 b'.1 b'.2 c'.1 c'.2 d'.1 d'.2, ← hs]
  simp

theorem spec_l01Neg_eq (a b c : Int) (h0 : -4611686018427387904 ≤ a) (h1 : a ≤ 4611686018427387904) (h2 : -4611686018427387904 ≤ b) (h3 : b ≤ 4611686018427387904) : zpH.f a b c = some (-a, -b, c) := by
 unfold zpH.f
 rw [w64 (by omega) (by omega), w64 (by omega) (by omega)]

theorem spec_l01Sub_eq (N K : Nat) (A B C D : Int) (hK : K ≤ 100) (hN : 300 < N) (A0 : -1152921504606846976 ≤ A) (A1 : A ≤ 1152921504606846976) (B0 : -1152921504606846976 ≤ B) (B1 : B ≤ 1152921504606846976)
  (C0 : -1152921504606846976 ≤ C) (C1 : C ≤ 1152921504606846976) (D0 : -1152921504606846976 ≤ D) (D1 : D ≤ 1152921504606846976) :
  zyB.f N (red K A B).1 (red K A B).2.1 (red K A B).2.2 (red K C D).1 (red K C D).2.1 (red K C D).2.2 = some (red K (A - C) (B - D)) := by
 unfold zyB.f
 have bd := red_bd K C D C0 C1 D0 D1
 rw [spec_l01Neg_eq _ _ _ (by omega) (by omega) (by omega) (by omega)]
 have e := red_neg K C D
 have := spec_l01Add_eq N K A B (-C) (-D) hK hN A0 A1 B0 B1 (by omega) (by omega) (by omega) (by omega)
 rw [e] at this
 simp only [Option.bind_some] at this ⊢
 rw [this]
 simp only [Option.bind_some, Int.sub_eq_add_neg]

theorem spec_l01Of_eq (a b k : Int) : zqP.f a b k = some (a, b, k) := rfl

def cmpN (a b k c d l : Int) : Int := sgn (red 10 (a * 2 ^ (10 - k.toNat) - c * 2 ^ (10 - l.toNat)) (b * 2 ^ (10 - k.toNat) - d * 2 ^ (10 - l.toNat))).1 (red 10 (a * 2 ^ (10 - k.toNat) - c * 2 ^ (10 - l.toNat)) (b * 2 ^ (10 - k.toNat) - d * 2 ^ (10 - l.toNat))).2.1
theorem spec_l01Compare_eq (N : Nat) (a b k c d l : Int) (hN : 300 < N) (h1 : znX a b k) (h2 : znX c d l) : ztF.f N a b k c d l = some (cmpN a b k c d l) := by
 unfold ztF.f
 simp only [spec_l01Of_eq, Option.bind_some]
 have a' := ok_bd (j := 10 - k.toNat) (by omega) h1.1.1 h1.1.2
 have b' := ok_bd (j := 10 - k.toNat) (by omega) h1.2.1.1 h1.2.1.2
 have c' := ok_bd (j := 10 - l.toNat) (by omega) h2.1.1 h2.1.2
 have d' := ok_bd (j := 10 - l.toNat) (by omega) h2.2.1.1 h2.2.1.2
 have := spec_l01Sub_eq N 10 (a * 2 ^ (10 - k.toNat)) (b * 2 ^ (10 - k.toNat)) (c * 2 ^ (10 - l.toNat)) (d * 2 ^ (10 - l.toNat)) (by omega) hN (by omega) (by omega) (by omega) (by omega) (by omega) (by omega) (by omega) (by omega)
 rw [← red_ok h1, ← red_ok h2] at this
 simp only [] at this
 rw [this]
 simp only [Option.bind_some]
 have bd := red_bd 10 (a * 2 ^ (10 - k.toNat) - c * 2 ^ (10 - l.toNat)) (b * 2 ^ (10 - k.toNat) - d * 2 ^ (10 - l.toNat)) (m := 4611686018427387904) (by omega) (by omega) (by omega) (by omega)
 rw [spec_l01Sign_eq _ _ _ bd.1 bd.2.1 bd.2.2.1 bd.2.2.2 N (by omega)]
 rfl

theorem spec_l02Before_eq (N : Nat) (a b k c d l a' b' k' c' d' l' : Int) (hN : 300 < N) (h1 : znX a b k) (h2 : znX c d l) (h3 : znX a' b' k') (h4 : znX c' d' l') :
  zwB.f N a b k c d l a' b' k' c' d' l' = some (if cmpN a b k a' b' k' = 0 then cmpN c d l c' d' l' else cmpN a b k a' b' k') := by
 unfold zwB.f
 rw [spec_l01Compare_eq N a b k a' b' k' hN h1 h3, spec_l01Compare_eq N c d l c' d' l' hN h2 h4]
 simp only [Option.bind_some]
 split <;> rfl

theorem spec_l02Mod_eq (d : Int) : ziC.f d = some (d % 16) := by
 unfold ziC.f
 have h := Int.tmod_lt_of_pos d (show (0 : Int) < 16 by omega)
 have h2 : -16 < Int.tmod d 16 := by have := Int.lt_tmod_of_pos d (show (0 : Int) < 16 by omega); omega
 have e : (Int.tmod d 16 + 16) % 16 = d % 16 := by
  have := Int.tmod_add_mul_tdiv d 16
  omega
 rw [w64 (by omega) (by omega), Int.tmod_eq_emod_of_nonneg (by omega), e]

theorem zzC {a c : Int} (ha : a = -1 ∨ a = 0 ∨ a = 1) {M : Int} (h0 : -M ≤ c) (h1 : c ≤ M) : -M ≤ a * c ∧ a * c ≤ M := by
 rcases ha with rfl | rfl | rfl <;> omega
theorem zxS {a c : Int} (ha : a = -1 ∨ a = 0 ∨ a = 1) {M : Int} (h0 : -M ≤ c) (h1 : c ≤ M) : -(2 * M) ≤ 2 * a * c ∧ 2 * a * c ≤ 2 * M := by
 rcases ha with rfl | rfl | rfl <;> omega
theorem red_small {K k : Nat} {a b c d C D : Int} (hk : k ≤ K) (hC : C = c * 2 ^ (K - k)) (hD : D = d * 2 ^ (K - k)) : red k (a * c + 2 * b * d) (a * d + b * c) = red K (a * C + 2 * b * D) (a * D + b * C) := by
 rw [red_up hk, hC, hD, Int.add_mul, Int.add_mul, ← Int.mul_assoc, ← Int.mul_assoc, ← Int.mul_assoc, ← Int.mul_assoc]
theorem spec_l01Mul_eq (N K : Nat) (a b C D : Int) (hK : K ≤ 60) (hN : 300 < N) (ha : a = -1 ∨ a = 0 ∨ a = 1) (hb : b = -1 ∨ b = 0 ∨ b = 1) (C0 : -1099511627776 ≤ C) (C1 : C ≤ 1099511627776) (D0 : -1099511627776 ≤ D) (D1 : D ≤ 1099511627776) :
  zhW.f N a b 0 (red K C D).1 (red K C D).2.1 (red K C D).2.2 = some (red K (a * C + 2 * b * D) (a * D + b * C)) := by
 obtain ⟨c, d, k, e, hk, hC, hD, _⟩ := red_spec K C D
 have hc := zxW (a := c) (M := 1099511627776) (K - k) (by omega) (by omega)
 have hd := zxW (a := d) (M := 1099511627776) (K - k) (by omega) (by omega)
 have m1 := zzC ha hc.1 hc.2
 have m2 := zxS hb hd.1 hd.2
 have m3 := zzC ha hd.1 hd.2
 have m4 := zzC hb hc.1 hc.2
 rw [e]
 unfold zhW.f
 simp only
 rw [w64 (n := a * c) (by omega) (by omega), w64 (n := 2 * b) (by omega) (by omega), w64 (n := 2 * b * d) (by omega) (by omega), w64 (n := a * d) (by omega) (by omega), w64 (n := b * c) (by omega) (by omega), w64 (n := a * c + 2 * b * d) (by omega) (by omega),
  w64 (n := a * d + b * c) (by omega) (by omega), w64 (n := (0 : Int) + k) (by omega) (by omega), Int.zero_add, spec_l01Low_eq _ _ k N (by omega) (by omega) (by omega) (by omega) (by omega) (by omega), red_small hk hC hD]
 rfl

def dotR (x xb y yb P Pb Q Qb : Int) : Int × Int × Int := red 10 ((x * P + 2 * xb * Pb) + (y * Q + 2 * yb * Qb)) ((x * Pb + xb * P) + (y * Qb + yb * Q))
theorem spec_l02Dot_eq (N : Nat) (d x xb y yb P Pb Q Qb : Int) (hN : 300 < N) (hv : zqB.f d = some (x, xb, 0, y, yb, 0)) (hx : x = -1 ∨ x = 0 ∨ x = 1) (hxb : xb = -1 ∨ xb = 0 ∨ xb = 1) (hy : y = -1 ∨ y = 0 ∨ y = 1) (hyb : yb = -1 ∨ yb = 0 ∨ yb = 1)
  (p0 : -1073741824 ≤ P) (p1 : P ≤ 1073741824) (q0 : -1073741824 ≤ Pb) (q1 : Pb ≤ 1073741824) (r0 : -1073741824 ≤ Q) (r1 : Q ≤ 1073741824) (s0 : -1073741824 ≤ Qb) (s1 : Qb ≤ 1073741824) :
  zmD.f N d (red 10 P Pb).1 (red 10 P Pb).2.1 (red 10 P Pb).2.2 (red 10 Q Qb).1 (red 10 Q Qb).2.1 (red 10 Q Qb).2.2 = some (dotR x xb y yb P Pb Q Qb) := by
 have m1 := zzC hx p0 p1
 have m2 := zxS hxb q0 q1
 have m3 := zzC hx q0 q1
 have m4 := zzC hxb p0 p1
 have m5 := zzC hy r0 r1
 have m6 := zxS hyb s0 s1
 have m7 := zzC hy s0 s1
 have m8 := zzC hyb r0 r1
 unfold zmD.f ziY.f
 simp only [hv, Option.bind_some, spec_l01Of_eq]
 rw [spec_l01Mul_eq N 10 x xb P Pb (by omega) hN hx hxb (by omega) (by omega) (by omega) (by omega), spec_l01Mul_eq N 10 y yb Q Qb (by omega) hN hy hyb (by omega) (by omega) (by omega) (by omega)]
 simp only [Option.bind_some]
 rw [spec_l01Add_eq N 10 _ _ _ _ (by omega) hN (by omega) (by omega) (by omega) (by omega) (by omega) (by omega) (by omega) (by omega)]
 rfl

theorem ip_rd (l : List S33) (j : Nat) (h : j < l.length) : zdH l (j : Int) = l[j] := by
 unfold zdH
 rw [Int.toNat_natCast, List.getD_eq_getElem?_getD, List.getElem?_eq_getElem h]
 rfl
def toW (p : S33) : S70 := ⟨⟨p.f0.f0, p.f0.f1, p.f0.f2⟩, ⟨p.f1.f0, p.f1.f1, p.f1.f2⟩⟩
theorem w_rd (l : List S33) (j : Nat) (h : j < l.length) : zfK (l.map toW) (j : Int) = toW (zdH l (j : Int)) := by
 rw [ip_rd l j h]
 unfold zfK
 rw [Int.toNat_natCast, List.getD_eq_getElem?_getD, List.getElem?_map, List.getElem?_eq_getElem h]
 rfl
theorem wide_loop (l : List S33) (hl : l.length ≤ 1048576) : ∀ (d j : Nat) (acc : List S70), j + d = l.length → acc.length = j → ∀ k, d < k → zsN.l0 k l acc (j : Int) = some (acc ++ (l.drop j).map toW)
 | 0, j, acc, hd, ha, k, hk => by
  obtain ⟨k, rfl⟩ : ∃ m, k = m + 1 := ⟨k - 1, by omega⟩
  simp only [zsN.l0]
  rw [if_neg (by omega), List.drop_eq_nil_of_le (by omega)]
  simp
 | d + 1, j, acc, hd, ha, k, hk => by
  obtain ⟨k, rfl⟩ : ∃ m, k = m + 1 := ⟨k - 1, by omega⟩
  have hj : j < l.length := by omega
  simp only [zsN.l0]
  rw [if_pos (by omega), if_pos (by omega)]
  simp only [ziY.f, spec_l01Of_eq, Option.bind_some]
  rw [if_pos (by omega), zaU (by omega), wide_loop l hl d (j + 1) _ (by omega) (by simp; omega) k (by omega), List.drop_eq_getElem_cons hj, List.map_cons, List.append_assoc, ip_rd l j hj]
  rfl
theorem spec_l03Wide_eq (l : List S33) (hl : l.length ≤ 1048576) (k : Nat) (hk : l.length < k) : zsN.f k l = some (l.map toW) := by
 unfold zsN.f
 have := wide_loop l hl l.length 0 [] (by omega) rfl k hk
 simpa using this

theorem next_at {n : Nat} (j : Nat) (hj : j ≤ 1048576) : Int.tmod (wrap64 ((j : Int) + 1)) (n : Int) = (((j + 1) % n : Nat) : Int) := by rw [zaU (by omega)]; rfl
def allD (D : Nat → Int) : Nat → Nat → Bool
 | 0, _ => true
 | d + 1, j => decide (0 ≤ D j) && allD D d (j + 1)
theorem allD_iff (D : Nat → Int) : ∀ (d j : Nat), allD D d j = true ↔ ∀ i, j ≤ i → i < j + d → 0 ≤ D i
 | 0, j => by simp [allD]; intro i h1 h2; omega
 | d + 1, j => by
  simp only [allD, Bool.and_eq_true, decide_eq_true_eq, allD_iff D d (j + 1)]
  constructor
  ·intro h i h1 h2
   by_cases e : i = j
   ·subst e; exact h.1
   ·exact h.2 i (by omega) (by omega)
  ·intro h
   exact ⟨h j (by omega) (by omega), fun i h1 h2 => h i (by omega) (by omega)⟩
def SideIs (p q : S33) (r : Int) : Prop := ∀ N, 400 < N → ∃ x1 x2 x3 x4 x5 x6 : Int, zkL.f N q.f0.f0 q.f0.f1 q.f0.f2 q.f1.f0 q.f1.f1 q.f1.f2 p.f0.f0 p.f0.f1 p.f0.f2 p.f1.f0 p.f1.f1 p.f1.f2 = some (x1, x2, x3, x4, x5, x6) ∧ znA.f N x1 x2 x3 x4 x5 x6 = some r
theorem sides_loop (l : List S33) (D : Nat → Int) (hl : l.length ≤ 1048576) (hn : 0 < l.length) (hD : ∀ i, i < l.length → SideIs (zdH l (i : Int)) (zdH l (((i + 1) % l.length : Nat) : Int)) (D i)) :
  ∀ (d j : Nat) (acc : List Int), j + d = l.length → acc = (List.range j).map D → ∀ k, 400 + d < k → zlQ.l0 k (l.map toW) acc (j : Int) = some (if allD D d j = true then ((List.range l.length).map D, true) else ([], false))
 | 0, j, acc, hd, ha, k, hk => by
  obtain ⟨k, rfl⟩ : ∃ m, k = m + 1 := ⟨k - 1, by omega⟩
  simp only [zlQ.l0]
  rw [if_neg (by rw [List.length_map]; omega), ha, show j = l.length by omega]
  rfl
 | d + 1, j, acc, hd, ha, k, hk => by
  obtain ⟨k, rfl⟩ : ∃ m, k = m + 1 := ⟨k - 1, by omega⟩
  have hj : j < l.length := by omega
  have hm : (j + 1) % l.length < l.length := Nat.mod_lt _ hn
  obtain ⟨x1, x2, x3, x4, x5, x6, e1, e2⟩ := hD j hj k (by omega)
  simp only [zlQ.l0]
  rw [List.length_map, next_at j (by omega), if_pos (by omega), if_neg (by omega), if_pos (by omega), if_pos (by omega), if_pos (by omega), w_rd l _ hm, w_rd l j hj]
  simp only [toW]
  rw [e1, Option.bind_some, e2, Option.bind_some]
  by_cases h : D j < 0
  ·have ea : allD D (d + 1) j = false := by show (decide (0 ≤ D j) && allD D d (j + 1)) = false; rw [decide_eq_false (by omega), Bool.false_and]
   rw [if_pos h, ea]; rfl
  ·have ea : allD D (d + 1) j = allD D d (j + 1) := by show (decide (0 ≤ D j) && allD D d (j + 1)) = _; rw [decide_eq_true (by omega), Bool.true_and]
   rw [if_neg h, if_pos (by rw [ha, List.length_map, List.length_range]; omega), zaU (by omega), ea]
   exact sides_loop l D hl hn hD d (j + 1) _ (by omega) (by rw [ha, List.range_succ, List.map_append]; rfl) k (by omega)

def PtOk (p : S33) : Prop := znX p.f0.f0 p.f0.f1 p.f0.f2 ∧ znX p.f1.f0 p.f1.f1 p.f1.f2
instance (p : S33) : Decidable (PtOk p) := by unfold PtOk; infer_instance
def vz (a k : Int) : Int := a * 2 ^ (10 - k.toNat)
def cmpS (p q : S33) : Int := lexs (vz p.f0.f0 p.f0.f2 - vz q.f0.f0 q.f0.f2) (vz p.f0.f1 p.f0.f2 - vz q.f0.f1 q.f0.f2) (vz p.f1.f0 p.f1.f2 - vz q.f1.f0 q.f1.f2) (vz p.f1.f1 p.f1.f2 - vz q.f1.f1 q.f1.f2)
theorem cmpN_eq (a b k c d l : Int) : cmpN a b k c d l = sgn (vz a k - vz c l) (vz b k - vz d l) := by unfold cmpN vz; exact sgn_red 10 _ _
theorem cmpS_of (p q : S33) : (if cmpN p.f0.f0 p.f0.f1 p.f0.f2 q.f0.f0 q.f0.f1 q.f0.f2 = 0 then cmpN p.f1.f0 p.f1.f1 p.f1.f2 q.f1.f0 q.f1.f1 q.f1.f2 else cmpN p.f0.f0 p.f0.f1 p.f0.f2 q.f0.f0 q.f0.f1 q.f0.f2) = cmpS p q := by
 rw [cmpN_eq, cmpN_eq]; rfl
theorem cmpS_anti (p q : S33) : cmpS q p = -cmpS p q := by
 unfold cmpS
 rw [← lexs_neg]
 congr 1 <;> omega
theorem cmpS_three (p q : S33) : cmpS p q = 1 ∨ cmpS p q = 0 ∨ cmpS p q = -1 := lexs_three _ _ _ _
theorem cmpS_self (p : S33) : cmpS p p = 0 := by have := cmpS_anti p p; omega
theorem cmpS_same {p q : S33} (h : cmpS p q = 0) (r : S33) : cmpS p r = cmpS q r := by
 obtain ⟨h1, h2, h3, h4⟩ := lexs_zero h
 unfold cmpS
 congr 1 <;> omega
def cornerOk (l : List S33) (i : Nat) : Prop := PtOk (zdH l (i : Int)) ∧ (0 < i → cmpS (zdH l 0) (zdH l (i : Int)) = -1)
theorem corners_good (l : List S33) (hl : l.length ≤ 16) (h0 : PtOk (zdH l 0)) : ∀ (d j : Nat), j + d = l.length → (∀ i, j ≤ i → i < l.length → cornerOk l i) → ∀ K, 300 < K → zhB.l0 (d + 1 + K) l (l.length : Int) (j : Int) = ((zsN.f K l).bind fun t241 => ((zlQ.f K t241).bind fun bt244 => (if bt244.2 = true then (zhB.l1 K (l.length : Int) bt244.1 0 0) else (some false))))
 | 0, j, hd, hg, K, hK => by
  rw [show 0 + 1 + K = K + 1 by omega]
  simp only [zhB.l0]
  rw [if_neg (by omega)]
 | d + 1, j, hd, hg, K, hK => by
  rw [show d + 1 + 1 + K = (d + 1 + K) + 1 by omega]
  have hj : j < l.length := by omega
  obtain ⟨g1, g2⟩ := hg j (Nat.le_refl j) hj
  simp only [zhB.l0]
  rw [if_pos (by omega), if_pos (by omega), if_pos (by omega), spec_l02Point_eq, decide_eq_true (show znX _ _ _ ∧ znX _ _ _ from g1), Option.bind_some, if_pos rfl]
  have ih := corners_good l hl h0 d (j + 1) (by omega) (fun i h1 h2 => hg i (by omega) h2) K hK
  by_cases hz : 0 < j
  ·rw [if_pos (by omega), if_pos (by omega), spec_l02Before_eq _ _ _ _ _ _ _ _ _ _ _ _ _ (by omega) h0.1 h0.2 g1.1 g1.2, Option.bind_some, cmpS_of, g2 hz, if_neg (by omega), zaU (by omega)]
   exact ih
  ·rw [if_neg (by omega), zaU (by omega)]
   exact ih
theorem corners_bad (l : List S33) (hl : l.length ≤ 16) : ∀ (d j : Nat), j + d = l.length → (0 < j → PtOk (zdH l 0)) → (∃ i, j ≤ i ∧ i < l.length ∧ ¬ cornerOk l i) → ∀ k, 300 + d < k → zhB.l0 k l (l.length : Int) (j : Int) = some false
 | 0, j, hd, h0, ⟨i, h1, h2, _⟩, k, hk => by omega
 | d + 1, j, hd, h0, ⟨i, h1, h2, h3⟩, k, hk => by
  obtain ⟨k, rfl⟩ : ∃ m, k = m + 1 := ⟨k - 1, by omega⟩
  have hj : j < l.length := by omega
  simp only [zhB.l0]
  rw [if_pos (by omega), if_pos (by omega), if_pos (by omega), spec_l02Point_eq, Option.bind_some]
  by_cases g1 : PtOk (zdH l (j : Int))
  ·rw [decide_eq_true (show znX _ _ _ ∧ znX _ _ _ from g1), if_pos rfl]
   have more : j ≠ i → ∃ i', j + 1 ≤ i' ∧ i' < l.length ∧ ¬ cornerOk l i' := fun e => ⟨i, by omega, h2, h3⟩
   by_cases hz : 0 < j
   ·have p0 := h0 hz
    rw [if_pos (by omega), if_pos (by omega), spec_l02Before_eq _ _ _ _ _ _ _ _ _ _ _ _ _ (by omega) p0.1 p0.2 g1.1 g1.2, Option.bind_some, cmpS_of]
    by_cases hc : cmpS (zdH l 0) (zdH l (j : Int)) = -1
    ·rw [if_neg (by omega), zaU (by omega)]
     exact corners_bad l hl d (j + 1) (by omega) (fun _ => p0) (more fun e => by subst e; exact h3 ⟨g1, fun _ => hc⟩) k (by omega)
    ·rw [if_pos (by have := cmpS_three (zdH l 0) (zdH l (j : Int)); omega)]
   ·rw [if_neg (by omega), zaU (by omega)]
    have e0 : j = 0 := by omega
    subst e0
    exact corners_bad l hl d 1 (by omega) (fun _ => g1) (more fun e => by subst e; exact h3 ⟨g1, fun h => by omega⟩) k (by omega)
  ·rw [decide_eq_false (show ¬ (znX _ _ _ ∧ znX _ _ _) from g1), if_neg (by simp)]
def tOk (T : Nat → Int) : Nat → Nat → Bool
 | 0, _ => true
 | d + 1, j => decide (1 ≤ T j ∧ T j ≤ 7) && tOk T d (j + 1)
def tSum (T : Nat → Int) : Nat → Nat → Int
 | 0, _ => 0
 | d + 1, j => T j + tSum T d (j + 1)
theorem tOk_iff (T : Nat → Int) : ∀ (d j : Nat), tOk T d j = true ↔ ∀ i, j ≤ i → i < j + d → 1 ≤ T i ∧ T i ≤ 7
 | 0, j => by simp [tOk]; intro i h1 h2; omega
 | d + 1, j => by
  simp only [tOk, Bool.and_eq_true, decide_eq_true_eq, tOk_iff T d (j + 1)]
  constructor
  ·intro h i h1 h2
   by_cases e : i = j
   ·subst e; exact h.1
   ·exact h.2 i (by omega) (by omega)
  ·intro h
   exact ⟨h j (by omega) (by omega), fun i h1 h2 => h i (by omega) (by omega)⟩
theorem tSum_snoc (T : Nat → Int) : ∀ (d j : Nat), tSum T (d + 1) j = tSum T d j + T (j + d)
 | 0, j => by simp [tSum]
 | d + 1, j => by
  have := tSum_snoc T d (j + 1)
  simp only [tSum] at this ⊢
  rw [this, show j + 1 + d = j + (d + 1) by omega]; omega
theorem tSum_shift (T T' : Nat → Int) : ∀ (d j : Nat), (∀ i, j ≤ i → i < j + d → T' (i + 1) = T i) → tSum T' d (j + 1) = tSum T d j
 | 0, j, _ => rfl
 | d + 1, j, h => by simp only [tSum]; rw [h j (by omega) (by omega), tSum_shift T T' d (j + 1) (fun i h1 h2 => h i (by omega) (by omega))]
def zlX (n : Nat) (D : Nat → Int) (i : Nat) : Int := (D ((i + 1) % n) - D i) % 16
theorem sides_rd (D : Nat → Int) (n j : Nat) (h : j < n) : rd ((List.range n).map D) (j : Int) = D j := by
 unfold rd
 rw [Int.toNat_natCast, List.getD_eq_getElem?_getD, List.getElem?_map, List.getElem?_range h]
 rfl
theorem turns_loop (n : Nat) (D : Nat → Int) (hn : 0 < n) (hn2 : n ≤ 16) (hD : ∀ i, i < n → 0 ≤ D i ∧ D i ≤ 15) : ∀ (d j : Nat) (s : Int), j + d = n → 0 ≤ s → s ≤ 7 * j → ∀ k, d < k → zhB.l1 k (n : Int) ((List.range n).map D) s (j : Int) = some (tOk (zlX n D) d j && (s + tSum (zlX n D) d j == 16))
 | 0, j, s, hd, h0, h1, k, hk => by
  obtain ⟨k, rfl⟩ : ∃ m, k = m + 1 := ⟨k - 1, by omega⟩
  simp only [zhB.l1]
  rw [if_neg (by omega)]
  simp [tOk, tSum]
 | d + 1, j, s, hd, h0, h1, k, hk => by
  obtain ⟨k, rfl⟩ : ∃ m, k = m + 1 := ⟨k - 1, by omega⟩
  have hj : j < n := by omega
  have hm : (j + 1) % n < n := Nat.mod_lt _ hn
  have a1 := hD j hj
  have a2 := hD _ hm
  simp only [zhB.l1]
  rw [next_at j (by omega), if_pos (by omega), if_neg (by omega), if_pos (by omega), if_pos (by rw [List.length_map, List.length_range]; omega), if_pos (by omega), if_pos (by rw [List.length_map, List.length_range]; omega), sides_rd D n _ hm, sides_rd D n j hj, w64 (n := D ((j + 1) % n) - D j) (by omega) (by omega), spec_l02Mod_eq, Option.bind_some, spec_l00In_eq, Option.bind_some]
  simp only [tOk, tSum]
  have et : (D ((j + 1) % n) - D j) % 16 = zlX n D j := rfl
  rw [et]
  by_cases ht : 1 ≤ zlX n D j ∧ zlX n D j ≤ 7
  ·rw [decide_eq_true ht, if_pos rfl, w64 (by omega) (by omega), zaU (by omega), turns_loop n D hn hn2 hD d (j + 1) _ (by omega) (by omega) (by omega) k (by omega), Bool.true_and, Int.add_assoc]
  ·rw [decide_eq_false ht, if_neg (by simp), Bool.false_and, Bool.false_and]

theorem splitK_spl (c : UInt8) : ∀ (n : Nat) (l : List UInt8), l.count c = n → Lib.splitK [c] 0 n l = spl c [] l
 | 0, l, h => by
  have hm : c ∉ l := List.count_eq_zero.1 h
  rw [spl_no c l [] hm]; rfl
 | n + 1, l, h => by
  have hm : c ∈ l := List.count_pos_iff.1 (by omega)
  obtain ⟨p, q, rfl, hp⟩ := List.eq_append_cons_of_mem hm
  have hc : q.count c = n := by
   rw [List.count_append, List.count_cons_self, List.count_eq_zero.2 hp] at h
   omega
  have hi : Lib.index (p ++ c :: q) [c] = (p.length : Int) := by
   rw [idx_one, if_pos (by simp), List.idxOf_append, if_neg hp]
   simp
  have hne : ¬ (((p.length : Int) == -1) = true) := fun e => by have := beq_iff_eq.1 e; omega
  rw [Lib.splitK, hi, if_neg hne, Int.toNat_natCast, spl_app c q p [] hp, List.nil_append, Nat.add_zero, List.take_left, List.length_singleton]
  have e2 : (p ++ c :: q).drop (p.length + 1) = q := by
   rw [show p ++ c :: q = (p ++ [c]) ++ q by simp, show p.length + 1 = (p ++ [c]).length by simp, List.drop_left]
  rw [e2, splitK_spl c n q hc]
theorem strings_Split_eq (s : List UInt8) (hs : s.length ≤ 1048576) : strings_Split.f (sb s) ⟨#[32]⟩ = some ((spl 32 [] s).map sb) := by
 unfold strings_Split.f
 rw [if_pos ⟨by rw [zjA]; omega, by decide⟩]
 congr 1
 have h := Lib.splitB_data ⟨#[32]⟩ 0 (Lib.countB (sb s) ⟨#[32]⟩) (sb s)
 have hc : Lib.countB (sb s) ⟨#[32]⟩ = s.count 32 := by
  show Lib.count s [32] = _
  exact Lib.count_one 32 s
 rw [hc] at h ⊢
 rw [show Lib.splitK (⟨#[32]⟩ : ByteArray).data.toList 0 (s.count 32) (sb s).data.toList = spl 32 [] s from splitK_spl 32 _ s rfl] at h
 rw [← h, List.map_map]
 conv => lhs; rw [← List.map_id (Lib.splitB _ _ _ _)]
 exact List.map_congr_left (fun b _ => (sb_of b))

theorem impl_ValidPoint_eq (a b k c d l : Int) : ztU.f a b k c d l = some (decide (znX a b k ∧ znX c d l)) := by
 unfold ztU.f
 simp only [impl_ValidNum_eq, Option.bind_some]
 by_cases h : znX a b k <;> simp [h]

theorem impl_areValid_eq (l : List S33) : zmI.f l = some (l.all (fun p => decide (PtOk p))) := by
 unfold zmI.f
 rw [zhZ.eq_any (fun p => !decide (PtOk p)) l (fun x _ => by simp only [zkG.f]; rw [impl_ValidPoint_eq]; rfl), Option.bind_some, List.not_any_eq_all_not]
 simp only [Bool.not_not]

theorem impl_Num_neg_eq (a b c : Int) (h0 : -4611686018427387904 ≤ a) (h1 : a ≤ 4611686018427387904) (h2 : -4611686018427387904 ≤ b) (h3 : b ≤ 4611686018427387904) : zjD.f a b c = some (-a, -b, c) := by
 unfold zjD.f
 rw [w64 (by omega) (by omega), w64 (by omega) (by omega)]

theorem zbZ : ∀ (k K : Nat) (a b : Int), 2 * k + 1 < K → -4611686018427387904 ≤ a → a ≤ 4611686018427387904 → -4611686018427387904 ≤ b → b ≤ 4611686018427387904 → k ≤ 1000 → zbI.l0 K a b (k : Int) = some (red k a b)
 | 0, K, a, b, hK, _, _, _, _, _ => by
  obtain ⟨K, rfl⟩ : ∃ m, K = m + 2 := ⟨K - 2, by omega⟩
  simp only [zbI.l0, zbI.j1]
  rw [if_neg (by omega), if_neg (by simp)]; rfl
 | k + 1, K, a, b, hK, h0, h1, h2, h3, h4 => by
  obtain ⟨K, rfl⟩ : ∃ m, K = m + 2 := ⟨K - 2, by omega⟩
  simp only [zbI.l0, zbI.j1, red, and1]
  rw [if_pos (by omega)]
  by_cases ha : a % 2 = 0
  ·rw [if_pos ha]
   by_cases hb : b % 2 = 0
   ·rw [if_pos (by simpa using hb), if_pos (show a % 2 = 0 ∧ b % 2 = 0 from ⟨ha, hb⟩), Int.tdiv_eq_ediv_of_dvd (by omega), Int.tdiv_eq_ediv_of_dvd (by omega), w64 (n := a / 2) (by omega) (by omega), w64 (n := b / 2) (by omega) (by omega), pred64 (by omega) (by omega)]
    have ih := zbZ k K (a / 2) (b / 2) (by omega) (by omega) (by omega) (by omega) (by omega) (by omega)
    by_cases c1 : a / 2 = 0
    ·by_cases c2 : b / 2 = 0
     ·rw [if_pos c1, if_pos c2, c1, c2, red_zero]
      have := zbZ 0 K 0 0 (by omega) (by omega) (by omega) (by omega) (by omega) (by omega)
      rw [red_zero] at this
      exact this
     ·rw [if_pos c1, if_neg c2, Nat.add_sub_cancel]; exact ih
    ·rw [if_neg c1, Nat.add_sub_cancel]; exact ih
   ·rw [if_neg (by simpa using hb), if_neg (fun c => hb c.2)]
  ·rw [if_neg ha, if_neg (by simp), if_neg (fun c => ha c.1)]
theorem impl_Num_reduced_eq (a b : Int) (k K : Nat) (hK : 2 * k + 1 < K) (h0 : -4611686018427387904 ≤ a) (h1 : a ≤ 4611686018427387904) (h2 : -4611686018427387904 ≤ b) (h3 : b ≤ 4611686018427387904) (h4 : k ≤ 1000) : zbI.f K a b (k : Int) = some (red k a b) :=
 zbZ k K a b hK h0 h1 h2 h3 h4

theorem impl_Num_plus_eq (N K : Nat) (A B C D : Int) (hK : K ≤ 60) (hN : 300 < N) (A0 : -1152921504606846976 ≤ A) (A1 : A ≤ 1152921504606846976) (B0 : -1152921504606846976 ≤ B) (B1 : B ≤ 1152921504606846976)
  (C0 : -1152921504606846976 ≤ C) (C1 : C ≤ 1152921504606846976) (D0 : -1152921504606846976 ≤ D) (D1 : D ≤ 1152921504606846976) :
  zjL.f N (red K A B).1 (red K A B).2.1 (red K A B).2.2 (red K C D).1 (red K C D).2.1 (red K C D).2.2 = some (red K (A + C) (B + D)) := by
 obtain ⟨a, b, k, e1, hk, ha, hb, _⟩ := red_spec K A B
 obtain ⟨c, d, l, e2, hl, hc, hd, _⟩ := red_spec K C D
 rw [e1, e2]
 simp only [zjL.f]
 have hs := red_sum hk hl ha hb hc hd
 have hm : max k l ≤ K := by omega
 have q : ∀ (x : Int) (i m : Nat), i ≤ m → m ≤ K → x * 2 ^ (K - i) = x * 2 ^ (m - i) * 2 ^ (K - m) := fun x i m h1 h2 => by
  rw [Int.mul_assoc, ← Int.pow_add, show m - i + (K - m) = K - i by omega]
 have bd : ∀ (X x : Int) (i m : Nat), i ≤ m → m ≤ K → X = x * 2 ^ (K - i) → -1152921504606846976 ≤ X → X ≤ 1152921504606846976 → -1152921504606846976 ≤ x * 2 ^ (m - i) ∧ x * 2 ^ (m - i) ≤ 1152921504606846976 := fun X x i m h1 h2 h3 h4 h5 =>
  zxW (K - m) (by rw [← q x i m h1 h2, ← h3]; exact h4) (by rw [← q x i m h1 h2, ← h3]; exact h5)
 have a' := bd A a k (max k l) (by omega) hm ha A0 A1
 have b' := bd B b k (max k l) (by omega) hm hb B0 B1
 have c' := bd C c l (max k l) (by omega) hm hc C0 C1
 have d' := bd D d l (max k l) (by omega) hm hd D0 D1
 have emx : mx (k : Int) (l : Int) = ((max k l : Nat) : Int) := by unfold mx; omega
 have sh : ∀ (x : Int) (i : Nat), i ≤ 60 → -1152921504606846976 ≤ x * 2 ^ i → x * 2 ^ i ≤ 1152921504606846976 → shl .i64 x (i : Int) = x * 2 ^ i := fun x i hi h1 h2 => by
  unfold shl
  rw [Int.toNat_natCast, Nat.min_eq_left (by simp only [IntKind.bits]; omega)]
  rw [IntKind.wrap_i64]
  have hw := w64 (n := x * 2 ^ i) (by omega) (by omega)
  unfold wrap64 at hw
  exact hw
 rw [emx, w64 (n := ((max k l : Nat) : Int) - k) (by omega) (by omega), w64 (n := ((max k l : Nat) : Int) - l) (by omega) (by omega), if_pos (by omega), if_pos (by omega),
  show ((max k l : Nat) : Int) - k = ((max k l - k : Nat) : Int) by omega, show ((max k l : Nat) : Int) - l = ((max k l - l : Nat) : Int) by omega,
  sh a _ (by omega) a'.1 a'.2, sh b _ (by omega) b'.1 b'.2, sh c _ (by omega) c'.1 c'.2, sh d _ (by omega) d'.1 d'.2, w64 (by omega) (by omega), w64 (by omega) (by omega),
  impl_Num_reduced_eq _ _ (max k l) N (by omega) (by omega) (by omega) (by omega) (by omega) (by omega), hs]
 rfl

theorem zcT (N K : Nat) (A B C D : Int) (hK : K ≤ 60) (hN : 300 < N) (A0 : -1152921504606846976 ≤ A) (A1 : A ≤ 1152921504606846976) (B0 : -1152921504606846976 ≤ B) (B1 : B ≤ 1152921504606846976)
  (C0 : -1152921504606846976 ≤ C) (C1 : C ≤ 1152921504606846976) (D0 : -1152921504606846976 ≤ D) (D1 : D ≤ 1152921504606846976) :
  zpR.f N (red K A B).1 (red K A B).2.1 (red K A B).2.2 (red K C D).1 (red K C D).2.1 (red K C D).2.2 = some (red K (A - C) (B - D)) := by
 unfold zpR.f
 have bd := red_bd K C D C0 C1 D0 D1
 rw [impl_Num_neg_eq _ _ _ (by omega) (by omega) (by omega) (by omega)]
 have e := red_neg K C D
 have := impl_Num_plus_eq N K A B (-C) (-D) hK hN A0 A1 B0 B1 (by omega) (by omega) (by omega) (by omega)
 rw [e] at this
 simp only [Option.bind_some] at this ⊢
 rw [this]
 simp only [Option.bind_some, Int.sub_eq_add_neg]

theorem vec_all (d : Int) (h0 : 0 ≤ d) (h1 : d ≤ 15) : ∃ x xb y yb : Int, ((x = -1 ∨ x = 0 ∨ x = 1) ∧ (xb = -1 ∨ xb = 0 ∨ xb = 1) ∧ (y = -1 ∨ y = 0 ∨ y = 1) ∧ (yb = -1 ∨ yb = 0 ∨ yb = 1)) ∧
  zdP.f d = some (x, xb, 0, y, yb, 0) ∧ zqB.f d = some (x, xb, 0, y, yb, 0) ∧ zqB.f (wrap64 (d + 4)) = some (-y, -yb, 0, x, xb, 0) := by
 have : d = 0 ∨ d = 1 ∨ d = 2 ∨ d = 3 ∨ d = 4 ∨ d = 5 ∨ d = 6 ∨ d = 7 ∨ d = 8 ∨ d = 9 ∨ d = 10 ∨ d = 11 ∨ d = 12 ∨ d = 13 ∨ d = 14 ∨ d = 15 := by omega
 rcases this with rfl | rfl | rfl | rfl | rfl | rfl | rfl | rfl | rfl | rfl | rfl | rfl | rfl | rfl | rfl | rfl
 ·exact ⟨1, 0, 0, 0, by decide, by decide +kernel, by decide +kernel, by decide +kernel⟩
 ·exact ⟨1, 0, -1, 1, by decide, by decide +kernel, by decide +kernel, by decide +kernel⟩
 ·exact ⟨1, 0, 1, 0, by decide, by decide +kernel, by decide +kernel, by decide +kernel⟩
 ·exact ⟨-1, 1, 1, 0, by decide, by decide +kernel, by decide +kernel, by decide +kernel⟩
 ·exact ⟨0, 0, 1, 0, by decide, by decide +kernel, by decide +kernel, by decide +kernel⟩
 ·exact ⟨1, -1, 1, 0, by decide, by decide +kernel, by decide +kernel, by decide +kernel⟩
 ·exact ⟨-1, 0, 1, 0, by decide, by decide +kernel, by decide +kernel, by decide +kernel⟩
 ·exact ⟨-1, 0, -1, 1, by decide, by decide +kernel, by decide +kernel, by decide +kernel⟩
 ·exact ⟨-1, 0, 0, 0, by decide, by decide +kernel, by decide +kernel, by decide +kernel⟩
 ·exact ⟨-1, 0, 1, -1, by decide, by decide +kernel, by decide +kernel, by decide +kernel⟩
 ·exact ⟨-1, 0, -1, 0, by decide, by decide +kernel, by decide +kernel, by decide +kernel⟩
 ·exact ⟨1, -1, -1, 0, by decide, by decide +kernel, by decide +kernel, by decide +kernel⟩
 ·exact ⟨0, 0, -1, 0, by decide, by decide +kernel, by decide +kernel, by decide +kernel⟩
 ·exact ⟨-1, 1, -1, 0, by decide, by decide +kernel, by decide +kernel, by decide +kernel⟩
 ·exact ⟨1, 0, -1, 0, by decide, by decide +kernel, by decide +kernel, by decide +kernel⟩
 ·exact ⟨1, 0, 1, -1, by decide, by decide +kernel, by decide +kernel, by decide +kernel⟩

theorem zpW (N K : Nat) (a b C D : Int) (hK : K ≤ 60) (hN : 300 < N) (ha : a = -1 ∨ a = 0 ∨ a = 1) (hb : b = -1 ∨ b = 0 ∨ b = 1) (C0 : -1099511627776 ≤ C) (C1 : C ≤ 1099511627776) (D0 : -1099511627776 ≤ D) (D1 : D ≤ 1099511627776) :
  zeF.f N a b 0 (red K C D).1 (red K C D).2.1 (red K C D).2.2 = some (red K (a * C + 2 * b * D) (a * D + b * C)) := by
 obtain ⟨c, d, k, e, hk, hC, hD, _⟩ := red_spec K C D
 have hc := zxW (a := c) (M := 1099511627776) (K - k) (by omega) (by omega)
 have hd := zxW (a := d) (M := 1099511627776) (K - k) (by omega) (by omega)
 have m1 := zzC ha hc.1 hc.2
 have m2 := zxS hb hd.1 hd.2
 have m3 := zzC ha hd.1 hd.2
 have m4 := zzC hb hc.1 hc.2
 rw [e]
 unfold zeF.f
 simp only
 rw [w64 (n := a * c) (by omega) (by omega), w64 (n := 2 * b) (by omega) (by omega), w64 (n := 2 * b * d) (by omega) (by omega), w64 (n := a * d) (by omega) (by omega), w64 (n := b * c) (by omega) (by omega), w64 (n := a * c + 2 * b * d) (by omega) (by omega),
  w64 (n := a * d + b * c) (by omega) (by omega), w64 (n := (0 : Int) + k) (by omega) (by omega), Int.zero_add, impl_Num_reduced_eq _ _ k N (by omega) (by omega) (by omega) (by omega) (by omega) (by omega), red_small hk hC hD]
 rfl

theorem impl_Point_cross_eq (N : Nat) (x xb y yb P Pb Q Qb : Int) (hN : 300 < N) (hx : x = -1 ∨ x = 0 ∨ x = 1) (hxb : xb = -1 ∨ xb = 0 ∨ xb = 1) (hy : y = -1 ∨ y = 0 ∨ y = 1) (hyb : yb = -1 ∨ yb = 0 ∨ yb = 1)
  (p0 : -1073741824 ≤ P) (p1 : P ≤ 1073741824) (q0 : -1073741824 ≤ Pb) (q1 : Pb ≤ 1073741824) (r0 : -1073741824 ≤ Q) (r1 : Q ≤ 1073741824) (s0 : -1073741824 ≤ Qb) (s1 : Qb ≤ 1073741824) :
  zhX.f N x xb 0 y yb 0 (red 10 P Pb).1 (red 10 P Pb).2.1 (red 10 P Pb).2.2 (red 10 Q Qb).1 (red 10 Q Qb).2.1 (red 10 Q Qb).2.2 = some (dotR (-y) (-yb) x xb P Pb Q Qb) := by
 have m1 := zzC hx r0 r1
 have m2 := zxS hxb s0 s1
 have m3 := zzC hx s0 s1
 have m4 := zzC hxb r0 r1
 have m5 := zzC hy p0 p1
 have m6 := zxS hyb q0 q1
 have m7 := zzC hy q0 q1
 have m8 := zzC hyb p0 p1
 unfold zhX.f dotR
 rw [zpW N 10 x xb Q Qb (by omega) hN hx hxb (by omega) (by omega) (by omega) (by omega), zpW N 10 y yb P Pb (by omega) hN hy hyb (by omega) (by omega) (by omega) (by omega)]
 simp only [Option.bind_some]
 rw [zcT N 10 _ _ _ _ (by omega) hN (by omega) (by omega) (by omega) (by omega) (by omega) (by omega) (by omega) (by omega)]
 simp only [Option.bind_some]
 have e1 : (-y * P + 2 * -yb * Pb) + (x * Q + 2 * xb * Qb) = (x * Q + 2 * xb * Qb) - (y * P + 2 * yb * Pb) := by rw [Int.neg_mul, Int.mul_neg, Int.neg_mul]; omega
 have e2 : (-y * Pb + -yb * P) + (x * Qb + xb * Q) = (x * Qb + xb * Q) - (y * Pb + yb * P) := by rw [Int.neg_mul, Int.neg_mul]; omega
 rw [e1, e2]

theorem impl_Point_dot_eq (N : Nat) (x xb y yb P Pb Q Qb : Int) (hN : 300 < N) (hx : x = -1 ∨ x = 0 ∨ x = 1) (hxb : xb = -1 ∨ xb = 0 ∨ xb = 1) (hy : y = -1 ∨ y = 0 ∨ y = 1) (hyb : yb = -1 ∨ yb = 0 ∨ yb = 1)
  (p0 : -1073741824 ≤ P) (p1 : P ≤ 1073741824) (q0 : -1073741824 ≤ Pb) (q1 : Pb ≤ 1073741824) (r0 : -1073741824 ≤ Q) (r1 : Q ≤ 1073741824) (s0 : -1073741824 ≤ Qb) (s1 : Qb ≤ 1073741824) :
  ztL.f N x xb 0 y yb 0 (red 10 P Pb).1 (red 10 P Pb).2.1 (red 10 P Pb).2.2 (red 10 Q Qb).1 (red 10 Q Qb).2.1 (red 10 Q Qb).2.2 = some (dotR x xb y yb P Pb Q Qb) := by
 have m1 := zzC hx p0 p1
 have m2 := zxS hxb q0 q1
 have m3 := zzC hx q0 q1
 have m4 := zzC hxb p0 p1
 have m5 := zzC hy r0 r1
 have m6 := zxS hyb s0 s1
 have m7 := zzC hy s0 s1
 have m8 := zzC hyb r0 r1
 unfold ztL.f
 rw [zpW N 10 x xb P Pb (by omega) hN hx hxb (by omega) (by omega) (by omega) (by omega), zpW N 10 y yb Q Qb (by omega) hN hy hyb (by omega) (by omega) (by omega) (by omega)]
 simp only [Option.bind_some]
 rw [impl_Num_plus_eq N 10 _ _ _ _ (by omega) hN (by omega) (by omega) (by omega) (by omega) (by omega) (by omega) (by omega) (by omega)]
 rfl

theorem impl_signOf_eq (a : Int) : zpU.f a = some (if a < 0 then -1 else if a = 0 then 0 else 1) := by
 unfold zpU.f mx mn
 congr 1
 by_cases h : a < 0
 ·rw [if_pos h]; repeat' split
  all_goals omega
 ·rw [if_neg h]
  by_cases h2 : a = 0
  ·rw [if_pos h2]; repeat' split
   all_goals omega
  ·rw [if_neg h2]; repeat' split
   all_goals omega

theorem bits_Mul64_eq (a : Int) (h0 : 0 ≤ a) (h1 : a ≤ 18446744073709551615) : ∃ h s : Int, zoP.f a a = some (h, s) ∧ h * 18446744073709551616 + s = a * a ∧ 0 ≤ h ∧ 0 ≤ s ∧ s ≤ 18446744073709551615 := by
 unfold zoP.f
 have hl : 0 ≤ a % 4294967296 ∧ a % 4294967296 ≤ 4294967295 := by omega
 have hh : 0 ≤ a / 4294967296 ∧ a / 4294967296 ≤ 4294967295 := by omega
 have e := halves a
 have b1 := half_bd hl.1 hl.2 hl.1 hl.2
 have b2 := half_bd hl.1 hl.2 hh.1 hh.2
 have b3 := half_bd hh.1 hh.2 hh.1 hh.2
 rw [andlow h0 (by omega)]
 simp only [wrapu]
 rw [Int.mul_comm (a / 4294967296) (a % 4294967296)]
 have e0 : a * a = a * a := rfl
 generalize hp : (a % 4294967296) * (a % 4294967296) = p at *
 generalize hq : (a % 4294967296) * (a / 4294967296) = q at *
 generalize hr : (a / 4294967296) * (a / 4294967296) = r at *
 have hand : ∀ x : Int, 0 ≤ x → x < 18446744073709551616 → bits .and .u64 x 4294967295 = x % 4294967296 := fun x => andlow
 rw [hand _ (by omega) (by omega)]
 rw [e]
 clear hand hl hh hp hq hr e0 e
 exact ⟨_, _, rfl, by omega, by omega, by omega, by omega⟩

theorem impl_isGreater_eq (a b : Int) (ha0 : -9223372036854775807 ≤ a) (ha1 : a ≤ 9223372036854775807) (hb0 : -4611686018427387904 ≤ b) (hb1 : b ≤ 4611686018427387904) : zyC.f a b = some (decide (2 * (b * b) < a * a)) := by
 unfold zyC.f
 rw [impl_abs_eq a ha0 ha1, impl_abs_eq b (by omega) (by omega)]
 simp only [Option.bind_some]
 rw [wu64 (n := if a < 0 then -a else a) (by split <;> omega) (by split <;> omega), wu64 (n := if b < 0 then -b else b) (by split <;> omega) (by split <;> omega)]
 obtain ⟨h, s, e, es, h1, h2, h3⟩ := bits_Mul64_eq (if a < 0 then -a else a) (by split <;> omega) (by split <;> omega)
 obtain ⟨g, m, f, fs, g1, g2, g3⟩ := bits_Mul64_eq (if b < 0 then -b else b) (by split <;> omega) (by split <;> omega)
 rw [abs_sq] at es fs
 have hbb : b * b ≤ 4611686018427387904 * 4611686018427387904 := by
  rcases Int.le_total 0 b with h | h
  ·exact Int.mul_le_mul hb1 hb1 h (by omega)
  ·rw [← Int.neg_mul_neg]; exact Int.mul_le_mul (by omega) (by omega) (by omega) (by omega)
 rw [e, f, ← es, ← fs]
 rw [← fs] at hbb
 simp only [Option.bind_some, wrapu]
 rw [oru (by omega) (by omega) (by omega) (by omega) (by omega)]
 by_cases c1 : h > g * 2 % 18446744073709551616 + m / 9223372036854775808
 ·rw [if_pos c1, decide_eq_true (by omega)]
 ·rw [if_neg c1]
  by_cases c2 : h = g * 2 % 18446744073709551616 + m / 9223372036854775808
  ·rw [if_pos c2]
   congr 1
   rw [decide_eq_decide]
   constructor <;> intro _ <;> omega
  ·rw [if_neg c2, decide_eq_false (by omega)]

theorem impl_Num_sign_eq (a b c : Int) (ha0 : -4611686018427387904 ≤ a) (ha1 : a ≤ 4611686018427387904) (hb0 : -4611686018427387904 ≤ b) (hb1 : b ≤ 4611686018427387904) (k : Nat) (hk : 1 ≤ k) : zyE.f k a b c = some (sgn a b) := by
 obtain ⟨k, rfl⟩ : ∃ m, k = m + 1 := ⟨k - 1, by omega⟩
 unfold zyE.f
 simp only [zyE.j0, impl_signOf_eq, Option.bind_some]
 rw [impl_isGreater_eq a b (by omega) (by omega) hb0 hb1]
 simp only [Option.bind_some]
 have hne : ¬ (a = 0 ∧ b = 0) → ¬ a * a = 2 * (b * b) := fun h e => h (no_root_int e)
 unfold sgn
 rcases Int.lt_trichotomy a 0 with ha | ha | ha
 ·rcases Int.lt_trichotomy b 0 with hb | hb | hb
  ·have h1 : ¬ (a = 0) := by omega
   have h2 : ¬ (0 ≤ a) := by omega
   have h3 : a ≤ 0 := by omega
   have h4 : b ≤ 0 := by omega
   simp [ha, hb, h1, h2, h3, h4]
  ·subst hb
   have h1 : ¬ (a = 0) := by omega
   have h2 : ¬ (0 ≤ a) := by omega
   have h3 : a ≤ 0 := by omega
   simp [ha, h1, h2, h3]
  ·have h1 : ¬ (a = 0) := by omega
   have h2 : ¬ (0 ≤ a) := by omega
   have h3 : ¬ b ≤ 0 := by omega
   have h4 : ¬ b < 0 := by omega
   have h5 : ¬ b = 0 := by omega
   have := hne (by omega)
   by_cases c : 2 * (b * b) < a * a
   ·have c2 : ¬ a * a < 2 * (b * b) := by omega
    simp [ha, hb, h1, h2, h3, h4, h5, c, c2]
   ·have c2 : a * a < 2 * (b * b) := by omega
    simp [ha, hb, h1, h2, h3, h4, h5, c, c2]
 ·subst ha
  rcases Int.lt_trichotomy b 0 with hb | hb | hb
  ·have h4 : b ≤ 0 := by omega
   have h5 : ¬ b = 0 := by omega
   have h6 : ¬ 0 ≤ b := by omega
   simp [hb, h4, h5, h6]
  ·subst hb; simp
  ·have h4 : ¬ b < 0 := by omega
   have h5 : ¬ b = 0 := by omega
   have h6 : 0 ≤ b := by omega
   simp [h4, h5, h6]
 ·rcases Int.lt_trichotomy b 0 with hb | hb | hb
  ·have h1 : ¬ (a = 0) := by omega
   have h2 : 0 ≤ a := by omega
   have h3 : ¬ a ≤ 0 := by omega
   have h4 : ¬ a < 0 := by omega
   have h5 : ¬ 0 ≤ b := by omega
   have h6 : ¬ 0 < b := by omega
   have := hne (by omega)
   by_cases c : 2 * (b * b) < a * a
   ·have c2 : ¬ a * a < 2 * (b * b) := by omega
    simp [hb, h1, h2, h3, h4, h5, h6, c, c2]
   ·have c2 : a * a < 2 * (b * b) := by omega
    simp [hb, h1, h2, h3, h4, h5, h6, c, c2]
  ·subst hb
   have h1 : ¬ (a = 0) := by omega
   have h2 : 0 ≤ a := by omega
   have h4 : ¬ a < 0 := by omega
   simp [h1, h2, h4]
  ·have h1 : ¬ (a = 0) := by omega
   have h2 : 0 ≤ a := by omega
   have h4 : ¬ a < 0 := by omega
   have h5 : ¬ b < 0 := by omega
   have h6 : ¬ b = 0 := by omega
   have h7 : 0 ≤ b := by omega
   simp [h1, h2, h4, h5, h6, h7]

theorem neg_of {s X Y : Int} (h : s = sgn (-X) (-Y)) : s = -sgn X Y := by rw [h, sgn_neg]
theorem pos_of {s X Y : Int} (h : s = -sgn (-X) (-Y)) : s = sgn X Y := by rw [h, sgn_neg, Int.neg_neg]
theorem vec_lex (d : Int) (h0 : 0 ≤ d) (h1 : d ≤ 15) (x xb y yb P Pb Q Qb : Int) (hv : zdP.f d = some (x, xb, 0, y, yb, 0)) (c1 : (-y * P + 2 * -yb * Pb) + (x * Q + 2 * xb * Qb) = 0) (c2 : (-y * Pb + -yb * P) + (x * Qb + xb * Q) = 0) :
  lexs P Pb Q Qb = (if 5 ≤ d ∧ d ≤ 12 then -1 else 1) * sgn ((x * P + 2 * xb * Pb) + (y * Q + 2 * yb * Qb)) ((x * Pb + xb * P) + (y * Qb + yb * Q)) := by
 have hd : d = 0 ∨ d = 1 ∨ d = 2 ∨ d = 3 ∨ d = 4 ∨ d = 5 ∨ d = 6 ∨ d = 7 ∨ d = 8 ∨ d = 9 ∨ d = 10 ∨ d = 11 ∨ d = 12 ∨ d = 13 ∨ d = 14 ∨ d = 15 := by omega
 have key : ∀ {X Xb Y Yb : Int}, zdP.f d = some (X, Xb, 0, Y, Yb, 0) → x = X ∧ xb = Xb ∧ y = Y ∧ yb = Yb := by
  intro X Xb Y Yb e
  have h := Option.some.inj (hv.symm.trans e)
  exact ⟨congrArg (·.1) h, congrArg (·.2.1) h, congrArg (·.2.2.2.1) h, congrArg (·.2.2.2.2.1) h⟩
 rcases hd with rfl | rfl | rfl | rfl | rfl | rfl | rfl | rfl | rfl | rfl | rfl | rfl | rfl | rfl | rfl | rfl
 ·obtain ⟨rfl, rfl, rfl, rfl⟩ := key (show zdP.f 0 = some (1, 0, 0, 0, 0, 0) by decide +kernel)
  rw [if_neg (by omega), Int.one_mul]; exact lex0 (by omega) (by omega) (by omega) (by omega)
 ·obtain ⟨rfl, rfl, rfl, rfl⟩ := key (show zdP.f 1 = some (1, 0, 0, -1, 1, 0) by decide +kernel)
  rw [if_neg (by omega), Int.one_mul]; exact lex1 (by omega) (by omega) (by omega) (by omega)
 ·obtain ⟨rfl, rfl, rfl, rfl⟩ := key (show zdP.f 2 = some (1, 0, 0, 1, 0, 0) by decide +kernel)
  rw [if_neg (by omega), Int.one_mul]; exact lex2 (by omega) (by omega) (by omega) (by omega)
 ·obtain ⟨rfl, rfl, rfl, rfl⟩ := key (show zdP.f 3 = some (-1, 1, 0, 1, 0, 0) by decide +kernel)
  rw [if_neg (by omega), Int.one_mul]; exact lex3 (by omega) (by omega) (by omega) (by omega)
 ·obtain ⟨rfl, rfl, rfl, rfl⟩ := key (show zdP.f 4 = some (0, 0, 0, 1, 0, 0) by decide +kernel)
  rw [if_neg (by omega), Int.one_mul]; exact lex4 (by omega) (by omega) (by omega) (by omega)
 ·obtain ⟨rfl, rfl, rfl, rfl⟩ := key (show zdP.f 5 = some (1, -1, 0, 1, 0, 0) by decide +kernel)
  rw [if_pos (by omega), Int.neg_mul, Int.one_mul]; exact lex5 (by omega) (by omega) (by omega) (by omega)
 ·obtain ⟨rfl, rfl, rfl, rfl⟩ := key (show zdP.f 6 = some (-1, 0, 0, 1, 0, 0) by decide +kernel)
  rw [if_pos (by omega), Int.neg_mul, Int.one_mul]; exact lex6 (by omega) (by omega) (by omega) (by omega)
 ·obtain ⟨rfl, rfl, rfl, rfl⟩ := key (show zdP.f 7 = some (-1, 0, 0, -1, 1, 0) by decide +kernel)
  rw [if_pos (by omega), Int.neg_mul, Int.one_mul]; exact lex7 (by omega) (by omega) (by omega) (by omega)
 ·obtain ⟨rfl, rfl, rfl, rfl⟩ := key (show zdP.f 8 = some (-1, 0, 0, 0, 0, 0) by decide +kernel)
  rw [if_pos (by omega), Int.neg_mul, Int.one_mul]; exact neg_of (lex0 (by omega) (by omega) (by omega) (by omega))
 ·obtain ⟨rfl, rfl, rfl, rfl⟩ := key (show zdP.f 9 = some (-1, 0, 0, 1, -1, 0) by decide +kernel)
  rw [if_pos (by omega), Int.neg_mul, Int.one_mul]; exact neg_of (lex1 (by omega) (by omega) (by omega) (by omega))
 ·obtain ⟨rfl, rfl, rfl, rfl⟩ := key (show zdP.f 10 = some (-1, 0, 0, -1, 0, 0) by decide +kernel)
  rw [if_pos (by omega), Int.neg_mul, Int.one_mul]; exact neg_of (lex2 (by omega) (by omega) (by omega) (by omega))
 ·obtain ⟨rfl, rfl, rfl, rfl⟩ := key (show zdP.f 11 = some (1, -1, 0, -1, 0, 0) by decide +kernel)
  rw [if_pos (by omega), Int.neg_mul, Int.one_mul]; exact neg_of (lex3 (by omega) (by omega) (by omega) (by omega))
 ·obtain ⟨rfl, rfl, rfl, rfl⟩ := key (show zdP.f 12 = some (0, 0, 0, -1, 0, 0) by decide +kernel)
  rw [if_pos (by omega), Int.neg_mul, Int.one_mul]; exact neg_of (lex4 (by omega) (by omega) (by omega) (by omega))
 ·obtain ⟨rfl, rfl, rfl, rfl⟩ := key (show zdP.f 13 = some (-1, 1, 0, -1, 0, 0) by decide +kernel)
  rw [if_neg (by omega), Int.one_mul]; exact pos_of (lex5 (by omega) (by omega) (by omega) (by omega))
 ·obtain ⟨rfl, rfl, rfl, rfl⟩ := key (show zdP.f 14 = some (1, 0, 0, -1, 0, 0) by decide +kernel)
  rw [if_neg (by omega), Int.one_mul]; exact pos_of (lex6 (by omega) (by omega) (by omega) (by omega))
 ·obtain ⟨rfl, rfl, rfl, rfl⟩ := key (show zdP.f 15 = some (1, 0, 0, 1, -1, 0) by decide +kernel)
  rw [if_neg (by omega), Int.one_mul]; exact pos_of (lex7 (by omega) (by omega) (by omega) (by omega))
def DirSays (r P Pb Q Qb : Int) : Prop := r = -1 ∨ (0 ≤ r ∧ r ≤ 15 ∧ lexs P Pb Q Qb = if 5 ≤ r ∧ r ≤ 12 then -1 else 1)
theorem direction_two (P Pb Q Qb : Int) (p0 : -1073741824 ≤ P) (p1 : P ≤ 1073741824) (q0 : -1073741824 ≤ Pb) (q1 : Pb ≤ 1073741824) (r0 : -1073741824 ≤ Q) (r1 : Q ≤ 1073741824) (s0 : -1073741824 ≤ Qb) (s1 : Qb ≤ 1073741824) :
  ∀ (n : Nat) (d : Int), 0 ≤ d → d + n = 16 → ∃ r, DirSays r P Pb Q Qb ∧ ∀ N M, 310 + n < N → 310 + n < M →
   znA.l0 N d (red 10 P Pb).1 (red 10 P Pb).2.1 (red 10 P Pb).2.2 (red 10 Q Qb).1 (red 10 Q Qb).2.1 (red 10 Q Qb).2.2 = some r ∧
   zxB.l0 M d (red 10 P Pb).1 (red 10 P Pb).2.1 (red 10 P Pb).2.2 (red 10 Q Qb).1 (red 10 Q Qb).2.1 (red 10 Q Qb).2.2 = some r
 | 0, d, h0, h1 => by
  refine ⟨-1, Or.inl rfl, fun N M hN hM => ?_⟩
  obtain ⟨N, rfl⟩ : ∃ m, N = m + 1 := ⟨N - 1, by omega⟩
  obtain ⟨M, rfl⟩ : ∃ m, M = m + 1 := ⟨M - 1, by omega⟩
  simp only [znA.l0, zxB.l0]
  rw [if_neg (by omega), if_neg (by omega)]
  exact ⟨rfl, rfl⟩
 | n + 1, d, h0, h1 => by
  obtain ⟨x, xb, y, yb, ⟨hx, hxb, hy, hyb⟩, v1, v2, v3⟩ := vec_all d h0 (by omega)
  obtain ⟨r, hr, hi⟩ := direction_two P Pb Q Qb p0 p1 q0 q1 r0 r1 s0 s1 n (d + 1) (by omega) (by omega)
  have hy' : -y = -1 ∨ -y = 0 ∨ -y = 1 := by omega
  have hyb' : -yb = -1 ∨ -yb = 0 ∨ -yb = 1 := by omega
  have m1 := zzC hx p0 p1
  have m2 := zxS hxb q0 q1
  have m3 := zzC hx q0 q1
  have m4 := zzC hxb p0 p1
  have m5 := zzC hy r0 r1
  have m6 := zxS hyb s0 s1
  have m7 := zzC hy s0 s1
  have m8 := zzC hyb r0 r1
  have bd := red_bd 10 ((x * P + 2 * xb * Pb) + (y * Q + 2 * yb * Qb)) ((x * Pb + xb * P) + (y * Qb + yb * Q)) (m := 1152921504606846976) (by omega) (by omega) (by omega) (by omega)
  have z : ((dotR (-y) (-yb) x xb P Pb Q Qb).1 = 0 ∧ (dotR (-y) (-yb) x xb P Pb Q Qb).2.1 = 0) → (dotR (-y) (-yb) x xb P Pb Q Qb).2.2 = 0 := by
   unfold dotR
   obtain ⟨a, b, k, e, _, _, _, h⟩ := red_spec 10 ((-y * P + 2 * -yb * Pb) + (x * Q + 2 * xb * Qb)) ((-y * Pb + -yb * P) + (x * Qb + xb * Q))
   rw [e]
   rintro ⟨rfl, rfl⟩
   simp at h ⊢
   exact h
  have hz : zbR.f (dotR (-y) (-yb) x xb P Pb Q Qb).1 (dotR (-y) (-yb) x xb P Pb Q Qb).2.1 (dotR (-y) (-yb) x xb P Pb Q Qb).2.2 = some ((dotR (-y) (-yb) x xb P Pb Q Qb).1 == 0 && ((dotR (-y) (-yb) x xb P Pb Q Qb).2.1 == 0 && ((dotR (-y) (-yb) x xb P Pb Q Qb).2.2 == 0))) := by
   unfold zbR.f
   generalize dotR (-y) (-yb) x xb P Pb Q Qb = t at z ⊢
   by_cases a : t.1 = 0
   ·by_cases b : t.2.1 = 0
    ·simp [a, b, z ⟨a, b⟩]
    ·simp [a, b]
   ·simp [a]
  have step : ∀ N M, 310 + (n + 1) < N + 1 → 310 + (n + 1) < M + 1 →
    (znA.l0 (N + 1) d (red 10 P Pb).1 (red 10 P Pb).2.1 (red 10 P Pb).2.2 (red 10 Q Qb).1 (red 10 Q Qb).2.1 (red 10 Q Qb).2.2 = if ((dotR (-y) (-yb) x xb P Pb Q Qb).1 == 0 && ((dotR (-y) (-yb) x xb P Pb Q Qb).2.1 == 0 && ((dotR (-y) (-yb) x xb P Pb Q Qb).2.2 == 0))) = true then (if sgn (dotR x xb y yb P Pb Q Qb).1 (dotR x xb y yb P Pb Q Qb).2.1 > 0 then some d else some r) else some r) ∧
    (zxB.l0 (M + 1) d (red 10 P Pb).1 (red 10 P Pb).2.1 (red 10 P Pb).2.2 (red 10 Q Qb).1 (red 10 Q Qb).2.1 (red 10 Q Qb).2.2 = if ((dotR (-y) (-yb) x xb P Pb Q Qb).1 == 0 && ((dotR (-y) (-yb) x xb P Pb Q Qb).2.1 == 0 && ((dotR (-y) (-yb) x xb P Pb Q Qb).2.2 == 0))) = true then (if sgn (dotR x xb y yb P Pb Q Qb).1 (dotR x xb y yb P Pb Q Qb).2.1 > 0 then some d else some r) else some r) := by
   intro N M hN hM
   obtain ⟨i1, i2⟩ := hi N M (by omega) (by omega)
   simp only [znA.l0, zxB.l0]
   rw [if_pos (show d < 16 by omega), if_pos (show d < 16 by omega), spec_l02Dot_eq N _ (-y) (-yb) x xb P Pb Q Qb (by omega) v3 hy' hyb' hx hxb p0 p1 q0 q1 r0 r1 s0 s1, spec_l02Dot_eq N d x xb y yb P Pb Q Qb (by omega) v2 hx hxb hy hyb p0 p1 q0 q1 r0 r1 s0 s1, v1, w64 (n := d + 1) (by omega) (by omega)]
   simp only [Option.bind_some]
   rw [impl_Point_cross_eq M x xb y yb P Pb Q Qb (by omega) hx hxb hy hyb p0 p1 q0 q1 r0 r1 s0 s1, impl_Point_dot_eq M x xb y yb P Pb Q Qb (by omega) hx hxb hy hyb p0 p1 q0 q1 r0 r1 s0 s1]
   simp only [Option.bind_some]
   rw [spec_l01Sign_eq _ _ _ (by unfold dotR; omega) (by unfold dotR; omega) (by unfold dotR; omega) (by unfold dotR; omega) N (by omega), impl_Num_sign_eq _ _ _ (by unfold dotR; omega) (by unfold dotR; omega) (by unfold dotR; omega) (by unfold dotR; omega) M (by omega)]
   simp only [Option.bind_some]
   rw [hz, Option.bind_some, i1, i2]
   exact ⟨rfl, rfl⟩
  by_cases hc : ((dotR (-y) (-yb) x xb P Pb Q Qb).1 == 0 && ((dotR (-y) (-yb) x xb P Pb Q Qb).2.1 == 0 && ((dotR (-y) (-yb) x xb P Pb Q Qb).2.2 == 0))) = true
  ·by_cases hs : sgn (dotR x xb y yb P Pb Q Qb).1 (dotR x xb y yb P Pb Q Qb).2.1 > 0
   ·refine ⟨d, Or.inr ⟨h0, by omega, ?_⟩, fun N M hN hM => ?_⟩
    ·have hc' : (dotR (-y) (-yb) x xb P Pb Q Qb).1 = 0 ∧ (dotR (-y) (-yb) x xb P Pb Q Qb).2.1 = 0 := by simp at hc; exact ⟨hc.1, hc.2.1⟩
     have e0 : sgn (dotR (-y) (-yb) x xb P Pb Q Qb).1 (dotR (-y) (-yb) x xb P Pb Q Qb).2.1 = 0 := (sgn_zero _ _).2 hc'
     unfold dotR at e0 hs
     rw [sgn_red] at e0 hs
     obtain ⟨c1, c2⟩ := (sgn_zero _ _).1 e0
     rw [vec_lex d h0 (by omega) x xb y yb P Pb Q Qb v1 c1 c2]
     have s1' : sgn ((x * P + 2 * xb * Pb) + (y * Q + 2 * yb * Qb)) ((x * Pb + xb * P) + (y * Qb + yb * Q)) = 1 := by
      rcases sgn_three ((x * P + 2 * xb * Pb) + (y * Q + 2 * yb * Qb)) ((x * Pb + xb * P) + (y * Qb + yb * Q)) with h | h | h
      ·exact h
      ·rw [h] at hs; omega
      ·rw [h] at hs; omega
     rw [s1', Int.mul_one]
    ·obtain ⟨N, rfl⟩ : ∃ m, N = m + 1 := ⟨N - 1, by omega⟩
     obtain ⟨M, rfl⟩ : ∃ m, M = m + 1 := ⟨M - 1, by omega⟩
     obtain ⟨a, b⟩ := step N M (by omega) (by omega)
     rw [a, b, if_pos hc, if_pos hs]
     exact ⟨rfl, rfl⟩
   ·refine ⟨r, hr, fun N M hN hM => ?_⟩
    obtain ⟨N, rfl⟩ : ∃ m, N = m + 1 := ⟨N - 1, by omega⟩
    obtain ⟨M, rfl⟩ : ∃ m, M = m + 1 := ⟨M - 1, by omega⟩
    obtain ⟨a, b⟩ := step N M (by omega) (by omega)
    rw [a, b, if_pos hc, if_neg hs]
    exact ⟨rfl, rfl⟩
  ·refine ⟨r, hr, fun N M hN hM => ?_⟩
   obtain ⟨N, rfl⟩ : ∃ m, N = m + 1 := ⟨N - 1, by omega⟩
   obtain ⟨M, rfl⟩ : ∃ m, M = m + 1 := ⟨M - 1, by omega⟩
   obtain ⟨a, b⟩ := step N M (by omega) (by omega)
   rw [a, b, if_neg hc]
   exact ⟨rfl, rfl⟩
theorem vz_red {a b k : Int} (h : znX a b k) : (a, b, k) = red 10 (vz a k) (vz b k) ∧ -134217728 ≤ vz a k ∧ vz a k ≤ 134217728 ∧ -134217728 ≤ vz b k ∧ vz b k ≤ 134217728 := by
 obtain ⟨h1, h2, h3, h4⟩ := h
 have a1 := ok_bd (j := 10 - k.toNat) (by omega) h1.1 h1.2
 have b1 := ok_bd (j := 10 - k.toNat) (by omega) h2.1 h2.2
 exact ⟨red_ok ⟨h1, h2, h3, h4⟩, a1.1, a1.2, b1.1, b1.2⟩
theorem dir_pts (p q : S33) (hp : PtOk p) (hq : PtOk q) : ∃ r : Int, (r = -1 ∨ (0 ≤ r ∧ r ≤ 15 ∧ cmpS q p = if 5 ≤ r ∧ r ≤ 12 then -1 else 1)) ∧ SideIs p q r ∧ ∀ N, 400 < N → zxB.f N p.f0.f0 p.f0.f1 p.f0.f2 p.f1.f0 p.f1.f1 p.f1.f2 q.f0.f0 q.f0.f1 q.f0.f2 q.f1.f0 q.f1.f1 q.f1.f2 = some r := by
 obtain ⟨e1, g1, g2, g3, g4⟩ := vz_red hp.1
 obtain ⟨e2, g5, g6, g7, g8⟩ := vz_red hp.2
 obtain ⟨e3, g9, g10, g11, g12⟩ := vz_red hq.1
 obtain ⟨e4, g13, g14, g15, g16⟩ := vz_red hq.2
 obtain ⟨r, hr, hi⟩ := direction_two (vz q.f0.f0 q.f0.f2 - vz p.f0.f0 p.f0.f2) (vz q.f0.f1 q.f0.f2 - vz p.f0.f1 p.f0.f2) (vz q.f1.f0 q.f1.f2 - vz p.f1.f0 p.f1.f2) (vz q.f1.f1 q.f1.f2 - vz p.f1.f1 p.f1.f2) (by omega) (by omega) (by omega) (by omega) (by omega) (by omega) (by omega) (by omega) 16 0 (by omega) (by omega)
 refine ⟨r, hr, fun N hN => ?_, fun N hN => ?_⟩
 ·have s1 := spec_l01Sub_eq N 10 (vz q.f0.f0 q.f0.f2) (vz q.f0.f1 q.f0.f2) (vz p.f0.f0 p.f0.f2) (vz p.f0.f1 p.f0.f2) (by omega) (by omega) (by omega) (by omega) (by omega) (by omega) (by omega) (by omega) (by omega) (by omega)
  have s2 := spec_l01Sub_eq N 10 (vz q.f1.f0 q.f1.f2) (vz q.f1.f1 q.f1.f2) (vz p.f1.f0 p.f1.f2) (vz p.f1.f1 p.f1.f2) (by omega) (by omega) (by omega) (by omega) (by omega) (by omega) (by omega) (by omega) (by omega) (by omega)
  rw [← e1, ← e3] at s1
  rw [← e2, ← e4] at s2
  refine ⟨_, _, _, _, _, _, ?_, (hi N N (by omega) (by omega)).1⟩
  simp only [zkL.f]
  rw [s1, Option.bind_some, s2]
  rfl
 ·have s3 := zcT N 10 (vz q.f0.f0 q.f0.f2) (vz q.f0.f1 q.f0.f2) (vz p.f0.f0 p.f0.f2) (vz p.f0.f1 p.f0.f2) (by omega) (by omega) (by omega) (by omega) (by omega) (by omega) (by omega) (by omega) (by omega) (by omega)
  have s4 := zcT N 10 (vz q.f1.f0 q.f1.f2) (vz q.f1.f1 q.f1.f2) (vz p.f1.f0 p.f1.f2) (vz p.f1.f1 p.f1.f2) (by omega) (by omega) (by omega) (by omega) (by omega) (by omega) (by omega) (by omega) (by omega) (by omega)
  rw [← e1, ← e3] at s3
  rw [← e2, ← e4] at s4
  simp only [zxB.f, zdY.f]
  rw [s3, Option.bind_some, s4]
  simp only [Option.bind_some]
  exact (hi N N (by omega) (by omega)).2

theorem impl_turned_eq (d : Int) : zbC.f d = some (d % 16) := by unfold zbC.f; rw [and15]

theorem convex_loop (l : List S33) (D B : Nat → Int) (hl : l.length ≤ 16) (hn : 0 < l.length) (hI : ∀ i, i < l.length → ∀ N, 400 < N → zxB.f N (zdH l (i : Int)).f0.f0 (zdH l (i : Int)).f0.f1 (zdH l (i : Int)).f0.f2 (zdH l (i : Int)).f1.f0 (zdH l (i : Int)).f1.f1 (zdH l (i : Int)).f1.f2 (zdH l (((i + 1) % l.length : Nat) : Int)).f0.f0 (zdH l (((i + 1) % l.length : Nat) : Int)).f0.f1 (zdH l (((i + 1) % l.length : Nat) : Int)).f0.f2 (zdH l (((i + 1) % l.length : Nat) : Int)).f1.f0 (zdH l (((i + 1) % l.length : Nat) : Int)).f1.f1 (zdH l (((i + 1) % l.length : Nat) : Int)).f1.f2 = some (D i))
  (hb : ∀ i, i < l.length → -1 ≤ D i ∧ D i ≤ 15) (hb0 : -1 ≤ B 0 ∧ B 0 ≤ 15) (hB : ∀ i, B (i + 1) = D i) : ∀ (d j : Nat) (s : Int), j + d = l.length → 0 ≤ s → s ≤ 7 * j → ∀ k, 400 + d < k →
  zjY.l0 k l (l.length : Int) s (B j) l (l.length : Int) (j : Int) = some (if d = 0 then (s == 16) else (decide (0 ≤ B j) && allD D d j && tOk (fun i => (D i - B i) % 16) d j && (s + tSum (fun i => (D i - B i) % 16) d j == 16)))
 | 0, j, s, hd, h0, h1, k, hk => by
  obtain ⟨k, rfl⟩ : ∃ m, k = m + 1 := ⟨k - 1, by omega⟩
  simp only [zjY.l0]
  rw [if_neg (show ¬ (j : Int) < (l.length : Int) by omega)]
  rfl
 | d + 1, j, s, hd, h0, h1, k, hk => by
  obtain ⟨k, rfl⟩ : ∃ m, k = m + 1 := ⟨k - 1, by omega⟩
  have hj : j < l.length := by omega
  have hm : (j + 1) % l.length < l.length := Nat.mod_lt _ hn
  have a1 := hb j hj
  have a2 : -1 ≤ B j ∧ B j ≤ 15 := by
   cases j with
   | zero => exact hb0
   | succ j => rw [hB]; exact hb j (by omega)
  simp only [zjY.l0]
  rw [next_at j (by omega), if_pos (by omega), if_pos (by omega), if_pos (by omega), if_neg (by omega), if_pos (by omega), if_pos (by omega), hI j hj k (by omega), Option.bind_some, w64 (n := D j - B j) (by omega) (by omega), impl_turned_eq, Option.bind_some, if_neg (show ¬ d + 1 = 0 by omega)]
  simp only [allD, tOk, tSum]
  by_cases c1 : D j < 0
  ·rw [if_pos c1, decide_eq_false (show ¬ 0 ≤ D j by omega)]; simp
  ·rw [if_neg c1, decide_eq_true (show 0 ≤ D j by omega)]
   by_cases c2 : B j < 0
   ·rw [if_pos c2, decide_eq_false (show ¬ 0 ≤ B j by omega)]; simp
   ·rw [if_neg c2, decide_eq_true (show 0 ≤ B j by omega), impl_within_eq, Option.bind_some]
    by_cases c3 : 1 ≤ (D j - B j) % 16 ∧ (D j - B j) % 16 ≤ 7
    ·have ih := convex_loop l D B hl hn hI hb hb0 hB d (j + 1) (s + (D j - B j) % 16) (by omega) (by omega) (by omega) k (by omega)
     rw [hB] at ih
     rw [decide_eq_true c3, if_pos rfl, w64 (n := s + (D j - B j) % 16) (by omega) (by omega), zaU (by omega), ih, decide_eq_true (show 0 ≤ D j by omega)]
     cases d with
     | zero => simp [allD, tOk, tSum]
     | succ d => rw [if_neg (by omega), Int.add_assoc]; simp
    ·rw [decide_eq_false c3, if_neg (by simp)]; simp

theorem impl_Num_compare_eq (N : Nat) (a b k c d l : Int) (hN : 300 < N) (h1 : znX a b k) (h2 : znX c d l) : ziA.f N a b k c d l = some (cmpN a b k c d l) := by
 unfold ziA.f
 have a' := ok_bd (j := 10 - k.toNat) (by omega) h1.1.1 h1.1.2
 have b' := ok_bd (j := 10 - k.toNat) (by omega) h1.2.1.1 h1.2.1.2
 have c' := ok_bd (j := 10 - l.toNat) (by omega) h2.1.1 h2.1.2
 have d' := ok_bd (j := 10 - l.toNat) (by omega) h2.2.1.1 h2.2.1.2
 have := zcT N 10 (a * 2 ^ (10 - k.toNat)) (b * 2 ^ (10 - k.toNat)) (c * 2 ^ (10 - l.toNat)) (d * 2 ^ (10 - l.toNat)) (by omega) hN (by omega) (by omega) (by omega) (by omega) (by omega) (by omega) (by omega) (by omega)
 rw [← red_ok h1, ← red_ok h2] at this
 simp only [] at this
 rw [this]
 simp only [Option.bind_some]
 have bd := red_bd 10 (a * 2 ^ (10 - k.toNat) - c * 2 ^ (10 - l.toNat)) (b * 2 ^ (10 - k.toNat) - d * 2 ^ (10 - l.toNat)) (m := 4611686018427387904) (by omega) (by omega) (by omega) (by omega)
 rw [impl_Num_sign_eq _ _ _ bd.1 bd.2.1 bd.2.2.1 bd.2.2.2 N (by omega)]
 rfl

theorem zmM (N : Nat) (a b k c d l a' b' k' c' d' l' : Int) (hN : 300 < N) (h1 : znX a b k) (h2 : znX c d l) (h3 : znX a' b' k') (h4 : znX c' d' l') :
  zmC.f N a b k c d l a' b' k' c' d' l' = some (if cmpN a b k a' b' k' = 0 then cmpN c d l c' d' l' else cmpN a b k a' b' k') := by
 unfold zmC.f
 rw [impl_Num_compare_eq N a b k a' b' k' hN h1 h3, impl_Num_compare_eq N c d l c' d' l' hN h2 h4]
 simp only [Option.bind_some]
 split <;> rfl

theorem least_any (l : List S33) (hl : l.length ≤ 16) (hP : ∀ i, i < l.length → PtOk (zdH l (i : Int))) : ∀ (d j m : Nat), j + d = l.length → m < l.length → ∃ r : Nat, (r = m ∨ j ≤ r) ∧ ∀ k, 300 + d < k → ztP.l0 k l (m : Int) l (l.length : Int) (j : Int) = some (r : Int)
 | 0, j, m, hd, hm => by
  refine ⟨m, Or.inl rfl, fun k hk => ?_⟩
  obtain ⟨k, rfl⟩ : ∃ m, k = m + 1 := ⟨k - 1, by omega⟩
  simp only [ztP.l0]
  rw [if_neg (by omega)]
 | d + 1, j, m, hd, hm => by
  have hj : j < l.length := by omega
  have p1 := hP j hj
  have p2 := hP m hm
  obtain ⟨r1, a1, b1⟩ := least_any l hl hP d (j + 1) j (by omega) hj
  obtain ⟨r2, a2, b2⟩ := least_any l hl hP d (j + 1) m (by omega) hm
  by_cases c : cmpS (zdH l (j : Int)) (zdH l (m : Int)) < 0
  ·refine ⟨r1, by omega, fun k hk => ?_⟩
   obtain ⟨k, rfl⟩ : ∃ m, k = m + 1 := ⟨k - 1, by omega⟩
   simp only [ztP.l0]
   rw [if_pos (by omega), if_pos (by omega), if_pos (by omega), if_pos (by omega), if_pos (by omega), zmM _ _ _ _ _ _ _ _ _ _ _ _ _ (by omega) p1.1 p1.2 p2.1 p2.2, Option.bind_some, cmpS_of, if_pos c, zaU (by omega)]
   exact b1 k (by omega)
  ·refine ⟨r2, by omega, fun k hk => ?_⟩
   obtain ⟨k, rfl⟩ : ∃ m, k = m + 1 := ⟨k - 1, by omega⟩
   simp only [ztP.l0]
   rw [if_pos (by omega), if_pos (by omega), if_pos (by omega), if_pos (by omega), if_pos (by omega), zmM _ _ _ _ _ _ _ _ _ _ _ _ _ (by omega) p1.1 p1.2 p2.1 p2.2, Option.bind_some, cmpS_of, if_neg c, zaU (by omega)]
   exact b2 k (by omega)
theorem least_zero (l : List S33) (hl : l.length ≤ 16) (hn : 0 < l.length) (hP : ∀ i, i < l.length → PtOk (zdH l (i : Int))) : ∀ (d j : Nat), j + d = l.length → ∃ r : Nat, (r = 0 ↔ ∀ i : Nat, j ≤ i → i < l.length → cmpS (zdH l (i : Int)) (zdH l 0) ≠ -1) ∧ ∀ k, 300 + d < k → ztP.l0 k l 0 l (l.length : Int) (j : Int) = some (r : Int)
 | 0, j, hd => by
  refine ⟨0, ⟨fun _ i h1 h2 => by omega, fun _ => rfl⟩, fun k hk => ?_⟩
  obtain ⟨k, rfl⟩ : ∃ m, k = m + 1 := ⟨k - 1, by omega⟩
  simp only [ztP.l0]
  rw [if_neg (by omega)]
  rfl
 | d + 1, j, hd => by
  have hj : j < l.length := by omega
  have p1 := hP j hj
  have p2 : PtOk (zdH l 0) := hP 0 hn
  have t := cmpS_three (zdH l (j : Int)) (zdH l 0)
  by_cases c : cmpS (zdH l (j : Int)) (zdH l 0) < 0
  ·have hj0 : 0 < j := by
    by_cases e : j = 0
    ·subst e
     have := cmpS_self (zdH l 0)
     rw [show ((0 : Nat) : Int) = 0 from rfl] at c
     omega
    ·omega
   obtain ⟨r, a, b⟩ := least_any l hl hP d (j + 1) j (by omega) hj
   refine ⟨r, ⟨fun h => by omega, fun h => absurd (show cmpS (zdH l (j : Int)) (zdH l 0) = -1 by omega) (h j (Nat.le_refl j) hj)⟩, fun k hk => ?_⟩
   obtain ⟨k, rfl⟩ : ∃ m, k = m + 1 := ⟨k - 1, by omega⟩
   simp only [ztP.l0]
   rw [if_pos (by omega), if_pos (by omega), if_pos (by omega), if_pos (by omega), if_pos (by omega), zmM _ _ _ _ _ _ _ _ _ _ _ _ _ (by omega) p1.1 p1.2 p2.1 p2.2, Option.bind_some, cmpS_of, if_pos c, zaU (by omega)]
   exact b k (by omega)
  ·obtain ⟨r, a, b⟩ := least_zero l hl hn hP d (j + 1) (by omega)
   refine ⟨r, ⟨fun h i h1 h2 => ?_, fun h => a.2 fun i h1 h2 => h i (by omega) h2⟩, fun k hk => ?_⟩
   ·by_cases e : i = j
    ·subst e; omega
    ·exact a.1 h i (by omega) h2
   ·obtain ⟨k, rfl⟩ : ∃ m, k = m + 1 := ⟨k - 1, by omega⟩
    simp only [ztP.l0]
    rw [if_pos (by omega), if_pos (by omega), if_pos (by omega), if_pos (by omega), if_pos (by omega), zmM _ _ _ _ _ _ _ _ _ _ _ _ _ (by omega) p1.1 p1.2 p2.1 p2.2, Option.bind_some, cmpS_of, if_neg c, zaU (by omega)]
    exact b k (by omega)

structure Sides (l : List S33) (D : Nat → Int) : Prop where
 side : ∀ i, i < l.length → SideIs (zdH l (i : Int)) (zdH l (((i + 1) % l.length : Nat) : Int)) (D i)
 says : ∀ i, i < l.length → (D i = -1 ∨ (0 ≤ D i ∧ D i ≤ 15 ∧ cmpS (zdH l (((i + 1) % l.length : Nat) : Int)) (zdH l (i : Int)) = if 5 ≤ D i ∧ D i ≤ 12 then -1 else 1))
 own : ∀ i, i < l.length → ∀ N, 400 < N → zxB.f N (zdH l (i : Int)).f0.f0 (zdH l (i : Int)).f0.f1 (zdH l (i : Int)).f0.f2 (zdH l (i : Int)).f1.f0 (zdH l (i : Int)).f1.f1 (zdH l (i : Int)).f1.f2 (zdH l (((i + 1) % l.length : Nat) : Int)).f0.f0 (zdH l (((i + 1) % l.length : Nat) : Int)).f0.f1 (zdH l (((i + 1) % l.length : Nat) : Int)).f0.f2 (zdH l (((i + 1) % l.length : Nat) : Int)).f1.f0 (zdH l (((i + 1) % l.length : Nat) : Int)).f1.f1 (zdH l (((i + 1) % l.length : Nat) : Int)).f1.f2 = some (D i)
theorem sides_of (l : List S33) (hn : 0 < l.length) (hP : ∀ i, i < l.length → PtOk (zdH l (i : Int))) : ∃ D, Sides l D := by
 have h : ∀ i : Nat, ∃ r : Int, i < l.length → (r = -1 ∨ (0 ≤ r ∧ r ≤ 15 ∧ cmpS (zdH l (((i + 1) % l.length : Nat) : Int)) (zdH l (i : Int)) = if 5 ≤ r ∧ r ≤ 12 then -1 else 1)) ∧ SideIs (zdH l (i : Int)) (zdH l (((i + 1) % l.length : Nat) : Int)) r ∧ ∀ N, 400 < N → zxB.f N (zdH l (i : Int)).f0.f0 (zdH l (i : Int)).f0.f1 (zdH l (i : Int)).f0.f2 (zdH l (i : Int)).f1.f0 (zdH l (i : Int)).f1.f1 (zdH l (i : Int)).f1.f2 (zdH l (((i + 1) % l.length : Nat) : Int)).f0.f0 (zdH l (((i + 1) % l.length : Nat) : Int)).f0.f1 (zdH l (((i + 1) % l.length : Nat) : Int)).f0.f2 (zdH l (((i + 1) % l.length : Nat) : Int)).f1.f0 (zdH l (((i + 1) % l.length : Nat) : Int)).f1.f1 (zdH l (((i + 1) % l.length : Nat) : Int)).f1.f2 = some r := by
  intro i
  by_cases hi : i < l.length
  ·obtain ⟨r, h⟩ := dir_pts (zdH l (i : Int)) (zdH l (((i + 1) % l.length : Nat) : Int)) (hP i hi) (hP _ (Nat.mod_lt _ hn))
   exact ⟨r, fun _ => h⟩
  ·exact ⟨0, fun h => absurd h hi⟩
 obtain ⟨D, hD⟩ := Classical.axiomOfChoice h
 exact ⟨D, fun i hi => (hD i hi).2.1, fun i hi => (hD i hi).1, fun i hi => (hD i hi).2.2⟩
theorem never_again (l : List S33) (D : Nat → Int) (hS : Sides l D) (hn : 3 ≤ l.length) (hA : allD D l.length 0 = true) (hT : tOk (zlX l.length D) l.length 0 = true) (hs : tSum (zlX l.length D) l.length 0 = 16)
  (hmin : ∀ i : Nat, 0 ≤ i → i < l.length → cmpS (zdH l (i : Int)) (zdH l 0) ≠ -1) (i : Nat) (h0 : 0 < i) (h1 : i < l.length) (he : cmpS (zdH l 0) (zdH l (i : Int)) = 0) : False := by
 have A := (allD_iff D l.length 0).1 hA
 have T := (tOk_iff (zlX l.length D) l.length 0).1 hT
 have says : ∀ i, i < l.length → 0 ≤ D i ∧ D i ≤ 15 ∧ cmpS (zdH l (((i + 1) % l.length : Nat) : Int)) (zdH l (i : Int)) = if 5 ≤ D i ∧ D i ≤ 12 then -1 else 1 := by
  intro i hi
  have := A i (by omega) (by omega)
  rcases hS.says i hi with h | h
  ·omega
  ·exact h
 have he' : cmpS (zdH l (i : Int)) (zdH l 0) = 0 := by rw [cmpS_anti, he]; rfl
 -- the way on from a least corner
 have out : ∀ j, j < l.length → cmpS (zdH l (j : Int)) (zdH l 0) = 0 → D j ≤ 4 ∨ 13 ≤ D j := by
  intro j hj hz
  obtain ⟨_, _, h⟩ := says j hj
  have m := hmin ((j + 1) % l.length) (by omega) (Nat.mod_lt _ (by omega))
  rw [cmpS_anti, cmpS_same hz, ← cmpS_anti] at h
  by_cases c : 5 ≤ D j ∧ D j ≤ 12
  ·rw [if_pos c] at h; exact absurd h m
  ·omega
 -- the way to a least corner
 have inn : ∀ j, j < l.length → cmpS (zdH l (((j + 1) % l.length : Nat) : Int)) (zdH l 0) = 0 → 5 ≤ D j ∧ D j ≤ 12 := by
  intro j hj hz
  obtain ⟨_, _, h⟩ := says j hj
  have m := hmin j (by omega) hj
  rw [cmpS_same hz, cmpS_anti] at h
  by_cases c : 5 ≤ D j ∧ D j ≤ 12
  ·exact c
  ·rw [if_neg c] at h; exact absurd (show cmpS (zdH l (j : Int)) (zdH l 0) = -1 by omega) m
 have z0 : cmpS (zdH l ((0 : Nat) : Int)) (zdH l 0) = 0 := cmpS_self _
 have o0 := out 0 (by omega) z0
 have oi := out i h1 he'
 have i0 := inn (l.length - 1) (by omega) (by rw [show (l.length - 1 + 1) % l.length = 0 by rw [show l.length - 1 + 1 = l.length by omega]; exact Nat.mod_self _]; exact z0)
 have ii := inn (i - 1) (by omega) (by rw [show (i - 1 + 1) % l.length = i by rw [show i - 1 + 1 = i by omega]; exact Nat.mod_eq_of_lt h1]; exact he')
 have d0 := says 0 (by omega)
 refine one_low l.length D (zlX l.length D) (fun m => (if D 0 ≤ 4 then D 0 + 16 else D 0) + tSum (zlX l.length D) m 0) (fun i hi => ⟨(says i hi).1, (says i hi).2.1⟩) (fun i hi => T i (by omega) (by omega)) (fun m _ => ?_) ?_ (fun m hm => ?_) ?_ i0 i h0 h1 oi ii
 ·show _ + tSum (zlX l.length D) (m + 1) 0 = _ + tSum (zlX l.length D) m 0 + _
  rw [tSum_snoc, Nat.zero_add]; omega
 ·show _ + tSum (zlX l.length D) l.length 0 = _ + tSum (zlX l.length D) 0 0 + 16
  rw [hs]; simp only [tSum]; omega
 ·induction m with
  | zero =>
   show ((if D 0 ≤ 4 then D 0 + 16 else D 0) + tSum (zlX l.length D) 0 0 - D 0) % 16 = 0
   simp only [tSum]; split <;> omega
  | succ m ih =>
   have := ih (by omega)
   show ((if D 0 ≤ 4 then D 0 + 16 else D 0) + tSum (zlX l.length D) (m + 1) 0 - D (m + 1)) % 16 = 0
   have this : ((if D 0 ≤ 4 then D 0 + 16 else D 0) + tSum (zlX l.length D) m 0 - D m) % 16 = 0 := this
   rw [tSum_snoc, Nat.zero_add, show zlX l.length D m = (D (m + 1) - D m) % 16 by unfold zlX; rw [Nat.mod_eq_of_lt hm]]
   generalize (if D 0 ≤ 4 then D 0 + 16 else D 0) = q at this ⊢
   omega
 ·show 13 ≤ (if D 0 ≤ 4 then D 0 + 16 else D 0) + tSum (zlX l.length D) 0 0 ∧ (if D 0 ≤ 4 then D 0 + 16 else D 0) + tSum (zlX l.length D) 0 0 ≤ 20
  simp only [tSum]; split <;> omega
theorem polygon_both (l : List S33) : ∃ r : Bool, (r = true → 3 ≤ l.length ∧ l.length ≤ 16 ∧ (∀ i, i < l.length → PtOk (zdH l (i : Int))) ∧ ∃ D, Sides l D ∧ allD D l.length 0 = true) ∧ ∀ k, 1000 < k → zhB.f k l = some r ∧ zoR.f k l = some r := by
 by_cases hn : 3 ≤ l.length ∧ l.length ≤ 16
 ·have pre : ∀ k, 1000 < k → (zhB.f k l = zhB.l0 (k - 1) l (l.length : Int) 0) ∧ zoR.f k l = ((zmI.f l).bind fun t414 => (if t414 = true then ((zjY.f k l).bind fun t415 => (if t415 = true then ((ztP.f k l).bind fun t416 => (some (t416 == 0))) else (some false))) else (some false))) := by
   intro k hk
   obtain ⟨k, rfl⟩ : ∃ m, k = m + 1 := ⟨k - 1, by omega⟩
   constructor
   ·unfold zhB.f
    rw [if_neg (by omega), decide_eq_false (by omega)]
    simp only [zhB.j0]
    rw [if_neg (by simp)]; rfl
   ·unfold zoR.f zkY.f
    rw [Option.bind_some, impl_within_eq, decide_eq_true (by omega), Option.bind_some, if_pos rfl]
  by_cases hP : ∀ i, i < l.length → PtOk (zdH l (i : Int))
  ·have hv : l.all (fun p => decide (PtOk p)) = true := by
    rw [List.all_eq_true]
    intro p hp
    obtain ⟨i, hi, rfl⟩ := List.getElem_of_mem hp
    have := hP i hi
    rw [ip_rd l i hi] at this
    exact decide_eq_true this
   obtain ⟨D, hS⟩ := sides_of l (by omega) hP
   have hb : ∀ i, i < l.length → -1 ≤ D i ∧ D i ≤ 15 := by
    intro i hi
    rcases hS.says i hi with h | h <;> omega
   obtain ⟨lr, lz, lk⟩ := least_zero l hn.2 (by omega) hP l.length 0 (by omega)
   have hA := allD_iff D l.length 0
   -- the program's turns are the reference's, one on
   have sh1 : tOk (fun i => (D i - (fun i => if i = 0 then D (l.length - 1) else D (i - 1)) i) % 16) l.length 0 = tOk (zlX l.length D) l.length 0 := by
    rw [Bool.eq_iff_iff, tOk_iff, tOk_iff]
    constructor
    ·intro h i h1 h2
     by_cases e : i + 1 = l.length
     ·have := h 0 (by omega) (by omega)
      simp only [if_pos] at this
      unfold zlX
      rw [e, Nat.mod_self, show i = l.length - 1 by omega]; exact this
     ·have := h (i + 1) (by omega) (by omega)
      simp only [if_neg (show ¬ i + 1 = 0 by omega), Nat.add_sub_cancel] at this
      unfold zlX
      rw [Nat.mod_eq_of_lt (by omega)]; exact this
    ·intro h i h1 h2
     by_cases e : i = 0
     ·subst e
      have := h (l.length - 1) (by omega) (by omega)
      unfold zlX at this
      rw [show l.length - 1 + 1 = l.length by omega, Nat.mod_self] at this
      simp only [if_pos]; exact this
     ·have := h (i - 1) (by omega) (by omega)
      unfold zlX at this
      rw [show i - 1 + 1 = i by omega, Nat.mod_eq_of_lt (by omega)] at this
      simp only [if_neg e]; exact this
   have sh2 : tSum (fun i => (D i - (fun i => if i = 0 then D (l.length - 1) else D (i - 1)) i) % 16) l.length 0 = tSum (zlX l.length D) l.length 0 := by
    obtain ⟨m, hm⟩ : ∃ m, l.length = m + 1 := ⟨l.length - 1, by omega⟩
    rw [hm, tSum_snoc (zlX (m + 1) D) m 0]
    simp only [tSum]
    rw [tSum_shift (zlX (m + 1) D) _ m 0 (fun i h1 h2 => by simp only [if_neg (show ¬ i + 1 = 0 by omega), Nat.add_sub_cancel]; unfold zlX; rw [Nat.mod_eq_of_lt (by omega)])]
    simp only [if_pos, Nat.add_sub_cancel, Nat.zero_add]
    unfold zlX
    rw [Nat.mod_self]; omega
   have conv : ∀ k, 900 < k → zjY.f k l = some (allD D l.length 0 && tOk (zlX l.length D) l.length 0 && (tSum (zlX l.length D) l.length 0 == 16)) := by
    intro k hk
    unfold zjY.f
    have ew : wrap64 ((l.length : Int) - 1) = ((l.length - 1 : Nat) : Int) := by rw [w64 (by omega) (by omega)]; omega
    have el := hS.own (l.length - 1) (by omega) k (by omega)
    rw [show (l.length - 1 + 1) % l.length = 0 by rw [show l.length - 1 + 1 = l.length by omega]; exact Nat.mod_self _, show ((0 : Nat) : Int) = 0 from rfl] at el
    rw [if_neg (by omega), ew, if_pos (by omega), if_pos (by omega), if_pos (by omega), el, Option.bind_some]
    have cl := convex_loop l D (fun i => if i = 0 then D (l.length - 1) else D (i - 1)) hn.2 (by omega) hS.own hb (by simp only [if_pos]; exact hb _ (by omega)) (fun i => by simp) l.length 0 0 (by omega) (by omega) (by omega) k (by omega)
    rw [sh1, sh2] at cl
    simp only [if_pos] at cl
    rw [show ((0 : Nat) : Int) = 0 from rfl] at cl
    rw [cl, if_neg (by omega), Int.zero_add]
    by_cases ha : allD D l.length 0 = true
    ·rw [decide_eq_true (hA.1 ha (l.length - 1) (by omega) (by omega)), Bool.true_and]
    ·rw [Bool.not_eq_true] at ha; rw [ha]; simp
   have least : ∀ k, 900 < k → ztP.f k l = some (lr : Int) := by
    intro k hk
    unfold ztP.f
    exact lk k (by omega)
   by_cases hc : ∀ i, 0 ≤ i → i < l.length → cornerOk l i
   ·refine ⟨allD D l.length 0 && tOk (zlX l.length D) l.length 0 && (tSum (zlX l.length D) l.length 0 == 16), fun hr => ⟨hn.1, hn.2, hP, D, hS, by simp at hr; exact hr.1.1⟩, fun k hk => ?_⟩
    obtain ⟨e1, e2⟩ := pre k hk
    rw [e1, e2]
    constructor
    ·obtain ⟨K, rfl⟩ : ∃ K, k = (l.length + 1 + K) + 1 := ⟨k - l.length - 2, by omega⟩
     rw [show l.length + 1 + K + 1 - 1 = l.length + 1 + K by omega]
     have cg := corners_good l hn.2 (hP 0 (by omega)) l.length 0 (by omega) hc K (by omega)
     rw [show ((0 : Nat) : Int) = 0 from rfl] at cg
     rw [cg, spec_l03Wide_eq l (by omega) K (by omega), Option.bind_some]
     have sl := sides_loop l D (by omega) (by omega) hS.side l.length 0 [] (by omega) rfl K (by omega)
     rw [show ((0 : Nat) : Int) = 0 from rfl] at sl
     unfold zlQ.f
     rw [sl, Option.bind_some]
     by_cases ha : allD D l.length 0 = true
     ·rw [if_pos ha]
      simp only [if_true]
      have tl := turns_loop l.length D (by omega) hn.2 (fun i hi => ⟨hA.1 ha i (by omega) (by omega), (hb i hi).2⟩) l.length 0 0 (by omega) (by omega) (by omega) K (by omega)
      rw [show ((0 : Nat) : Int) = 0 from rfl] at tl
      rw [tl, ha, Bool.true_and, Int.zero_add]
     ·rw [if_neg ha]
      rw [Bool.not_eq_true] at ha
      rw [ha]; simp
    ·have lz0 : lr = 0 := lz.2 fun i _ h2 => by
      by_cases e : i = 0
      ·subst e; rw [show ((0 : Nat) : Int) = 0 from rfl, cmpS_self]; omega
      ·have := (hc i (by omega) h2).2 (by omega)
       rw [cmpS_anti, this]; omega
     rw [impl_areValid_eq, hv, Option.bind_some, if_pos rfl, conv k (by omega), Option.bind_some, least k (by omega), lz0]
     cases (allD D l.length 0 && tOk (zlX l.length D) l.length 0 && (tSum (zlX l.length D) l.length 0 == 16)) <;> rfl
   ·refine ⟨false, (fun hr => by cases hr), fun k hk => ?_⟩
    have hc' : ∃ i, 0 ≤ i ∧ i < l.length ∧ ¬ cornerOk l i := by
     apply Classical.byContradiction
     intro hx
     exact hc fun i h1 h2 => Classical.byContradiction fun h3 => hx ⟨i, h1, h2, h3⟩
    obtain ⟨e1, e2⟩ := pre k hk
    rw [e1, e2]
    constructor
    ·have := corners_bad l hn.2 l.length 0 (by omega) (fun h => by omega) hc' (k - 1) (by omega)
     exact this
    ·rw [impl_areValid_eq, hv, Option.bind_some, if_pos rfl, conv k (by omega), Option.bind_some]
     by_cases hx : (allD D l.length 0 && tOk (zlX l.length D) l.length 0 && (tSum (zlX l.length D) l.length 0 == 16)) = true
     ·rw [if_pos hx, least k (by omega), Option.bind_some]
      simp only [Bool.and_eq_true, beq_iff_eq] at hx
      by_cases hr : lr = 0
      ·exfalso
       obtain ⟨i, h1, h2, h3⟩ := hc'
       have hmin := lz.1 hr
       have hi0 : 0 < i := by
        by_cases e : i = 0
        ·exact absurd ⟨hP i h2, fun h => by omega⟩ h3
        ·omega
       have h4 : cmpS (zdH l 0) (zdH l (i : Int)) ≠ -1 := fun e => h3 ⟨hP i h2, fun _ => e⟩
       have h5 := hmin i (by omega) h2
       have h6 := cmpS_anti (zdH l 0) (zdH l (i : Int))
       have h7 := cmpS_three (zdH l 0) (zdH l (i : Int))
       exact never_again l D hS hn.1 hx.1.1 hx.1.2 hx.2 hmin i hi0 h2 (by omega)
      ·congr 1
       simp; omega
     ·rw [if_neg hx]
  ·refine ⟨false, (fun hr => by cases hr), fun k hk => ?_⟩
   obtain ⟨e1, e2⟩ := pre k hk
   have hx : ∃ i, i < l.length ∧ ¬ PtOk (zdH l (i : Int)) := by
    apply Classical.byContradiction
    intro hx
    exact hP fun i h2 => Classical.byContradiction fun h3 => hx ⟨i, h2, h3⟩
   obtain ⟨i, h1, h2⟩ := hx
   rw [e1, e2]
   constructor
   ·exact corners_bad l hn.2 l.length 0 (by omega) (fun h => by omega) ⟨i, by omega, h1, fun h => h2 h.1⟩ (k - 1) (by omega)
   ·have : l.all (fun p => decide (PtOk p)) = false := by
     rw [Bool.eq_false_iff]
     intro h
     rw [ip_rd l i h1] at h2
     exact h2 (of_decide_eq_true (List.all_eq_true.1 h _ (List.getElem_mem h1)))
    rw [impl_areValid_eq, this, Option.bind_some, if_neg (by simp)]
 ·refine ⟨false, (fun hr => by cases hr), fun k hk => ?_⟩
  obtain ⟨k, rfl⟩ : ∃ m, k = m + 1 := ⟨k - 1, by omega⟩
  constructor
  ·unfold zhB.f
   simp only [zhB.j0]
   by_cases c : (l.length : Int) < 3
   ·rw [if_pos c, if_pos trivial]
   ·rw [if_neg c, if_pos (by rw [decide_eq_true_eq]; omega)]
  ·unfold zoR.f zkY.f
   rw [Option.bind_some, impl_within_eq, decide_eq_false (by omega), Option.bind_some, if_neg (by simp)]

theorem laws_eqNum_eq (a b k c d l : Int) : zaT.f a b k c d l = some (decide (a = c ∧ b = d ∧ k = l)) := by
 unfold zaT.f
 by_cases h : a = c <;> by_cases h1 : b = d <;> by_cases h2 : k = l <;> simp [h, h1, h2]

theorem laws_eqPoint_eq (x y : S33) : zkR.f x.f0.f0 x.f0.f1 x.f0.f2 x.f1.f0 x.f1.f1 x.f1.f2 y.f0.f0 y.f0.f1 y.f0.f2 y.f1.f0 y.f1.f1 y.f1.f2 = some (decide ((x.f0.f0 = y.f0.f0 ∧ x.f0.f1 = y.f0.f1 ∧ x.f0.f2 = y.f0.f2) ∧ (x.f1.f0 = y.f1.f0 ∧ x.f1.f1 = y.f1.f1 ∧ x.f1.f2 = y.f1.f2))) := by
 unfold zkR.f
 simp only [laws_eqNum_eq, Option.bind_some]
 exact dec2 _ _
theorem laws_eqPointS_l0 (a : List S33) (hl : a.length ≤ 1048576) : ∀ (d k j : Nat), j + d = a.length → d < k → zcH.l0 k a a (j : Int) = some true
 | 0, k, j, hd, hk => by
  obtain ⟨k, rfl⟩ : ∃ m, k = m + 1 := ⟨k - 1, by omega⟩
  simp only [zcH.l0]
  rw [if_neg (by omega)]
 | d + 1, k, j, hd, hk => by
  obtain ⟨k, rfl⟩ : ∃ m, k = m + 1 := ⟨k - 1, by omega⟩
  simp only [zcH.l0]
  rw [if_pos (by omega), if_pos (by omega), if_pos (by omega), laws_eqPoint_eq, decide_eq_true ⟨⟨rfl, rfl, rfl⟩, ⟨rfl, rfl, rfl⟩⟩, Option.bind_some, if_pos rfl, zaU (by omega)]
  exact laws_eqPointS_l0 a hl d k (j + 1) (by omega) (by omega)
theorem laws_eqPointS_self (a : List S33) (hl : a.length ≤ 1048576) (k : Nat) (hk : a.length < k) : zcH.f k a a = some true := by
 unfold zcH.f
 rw [if_pos rfl]
 exact laws_eqPointS_l0 a hl a.length k 0 (by omega) hk

def mkP (a : Int) : S33 := ⟨⟨a, a + 1, a + 2⟩, ⟨a + 3, a + 4, a + 5⟩⟩
def zfM (a : Int) : Nat → List S33
 | 0 => []
 | n + 1 => mkP a :: zfM (a + 6) n
theorem zwJ : ∀ (n : Nat) (a : Int), (zfM a n).length = n
 | 0, _ => rfl
 | n + 1, a => by simp [zfM, zwJ n]
theorem marksP_get : ∀ (n j : Nat) (a : Int) (h : j < (zfM a n).length), (zfM a n)[j] = mkP (a + 6 * j)
 | 0, j, a, h => by simp [zfM] at h
 | n + 1, 0, a, h => by simp [zfM]
 | n + 1, j + 1, a, h => by
  have := marksP_get n j (a + 6) (by simpa [zfM] using h)
  simp only [zfM, List.getElem_cons_succ]
  rw [this]
  congr 1
  omega
theorem marksP_snoc (n : Nat) (a : Int) : zfM a (n + 1) = zfM a n ++ [mkP (a + 6 * n)] := by
 refine List.ext_getElem (by simp [zwJ]) (fun i h1 h2 => ?_)
 rw [zwJ] at h1
 rw [marksP_get]
 by_cases hi : i < n
 ·rw [List.getElem_append_left (by rw [zwJ]; exact hi), marksP_get]
 ·have : i = n := by omega
  subst this
  rw [List.getElem_append_right (by rw [zwJ]; omega)]
  simp [zwJ]
theorem rdT_set (l : List S33) (j : Nat) (v : S33) (h : j < l.length) : zdH (l.set j v) (j : Int) = v := by
 unfold zdH
 rw [Int.toNat_natCast, List.getD_eq_getElem?_getD, List.getElem?_set_self h]
 rfl
theorem laws_markPointS_l0 (l : List S33) (hl : l.length ≤ 1048576) : ∀ (d k j : Nat) (o : List S33), j + d = l.length → d < k → o.length = l.length → o.take j = zfM 1 j →
  zeY.l0 k o (1 + 6 * j : Int) (j : Int) = some ((1 + 6 * l.length : Int), zfM 1 l.length)
 | 0, k, j, o, hd, hk, ho, ht => by
  obtain ⟨k, rfl⟩ : ∃ m, k = m + 1 := ⟨k - 1, by omega⟩
  simp only [zeY.l0]
  rw [if_neg (by omega)]
  obtain rfl : j = l.length := by omega
  rw [List.take_of_length_le (by omega)] at ht
  rw [ht]
 | d + 1, k, j, o, hd, hk, ho, ht => by
  obtain ⟨k, rfl⟩ : ∃ m, k = m + 1 := ⟨k - 1, by omega⟩
  simp only [zeY.l0]
  rw [if_pos (by omega), if_pos (by omega)]
  have hj : j < o.length := by omega
  have e1 := w64 (n := 1 + 6 * (j : Int) + 1) (by omega) (by omega)
  have e2 := w64 (n := 1 + 6 * (j : Int) + 1 + 1) (by omega) (by omega)
  have e3 := w64 (n := 1 + 6 * (j : Int) + 1 + 1 + 1) (by omega) (by omega)
  have e4 := w64 (n := 1 + 6 * (j : Int) + 1 + 1 + 1 + 1) (by omega) (by omega)
  have e5 := w64 (n := 1 + 6 * (j : Int) + 1 + 1 + 1 + 1 + 1) (by omega) (by omega)
  have e6 := w64 (n := 1 + 6 * (j : Int) + 1 + 1 + 1 + 1 + 1 + 1) (by omega) (by omega)
  simp only [Option.bind_some, Int.toNat_natCast, e1, e2, e3, e4, e5, e6, rdT_set _ j _ hj, List.set_set]
  rw [zaU (by omega)]
  have := laws_markPointS_l0 l hl d k (j + 1) (o.set j (mkP (1 + 6 * j))) (by omega) (by omega) (by simpa using ho) (by
   rw [List.take_add_one, List.take_set_of_le (Nat.le_refl j), ht, List.getElem?_set_self (by omega), marksP_snoc]
   rfl)
  rw [← this]
  congr 1
theorem laws_markPointS_eq (l : List S33) (hl : l.length ≤ 1048576) (k : Nat) (hk : l.length < k) : zeY.f k l 1 = some ((1 + 6 * l.length : Int), zfM 1 l.length) := by
 unfold zeY.f
 have := laws_markPointS_l0 l hl l.length k 0 l (by omega) hk rfl (by simp [zfM])
 simpa using this

theorem rdT_pt (l : List S33) (j : Nat) (h : j < l.length) : zdH l (j : Int) = l[j] := by
 unfold zdH
 rw [Int.toNat_natCast, List.getD_eq_getElem?_getD, List.getElem?_eq_getElem h]
 rfl
theorem laws_heldPointS_l0 (n : Nat) (hn : n ≤ 1048576) : ∀ (d k j : Nat), j + d = n → d < k →
  zsO.l0 k (zfM 1 n) (1 + 6 * j : Int) (j : Int) = some (1 + 6 * n : Int)
 | 0, k, j, hd, hk => by
  obtain ⟨k, rfl⟩ : ∃ m, k = m + 1 := ⟨k - 1, by omega⟩
  simp only [zsO.l0]
  rw [if_neg (by rw [zwJ]; omega)]
  obtain rfl : j = n := by omega
  rfl
 | d + 1, k, j, hd, hk => by
  obtain ⟨k, rfl⟩ : ∃ m, k = m + 1 := ⟨k - 1, by omega⟩
  have hj : j < (zfM 1 n).length := by rw [zwJ]; omega
  have e1 := w64 (n := 1 + 6 * (j : Int) + 1) (by omega) (by omega)
  have e2 := w64 (n := 1 + 6 * (j : Int) + 1 + 1) (by omega) (by omega)
  have e3 := w64 (n := 1 + 6 * (j : Int) + 1 + 1 + 1) (by omega) (by omega)
  have e4 := w64 (n := 1 + 6 * (j : Int) + 1 + 1 + 1 + 1) (by omega) (by omega)
  have e5 := w64 (n := 1 + 6 * (j : Int) + 1 + 1 + 1 + 1 + 1) (by omega) (by omega)
  have e6 := w64 (n := 1 + 6 * (j : Int) + 1 + 1 + 1 + 1 + 1 + 1) (by omega) (by omega)
  simp only [zsO.l0]
  rw [if_pos (by omega), if_pos (by omega), rdT_pt _ j hj, marksP_get, e1, e2, e3, e4, e5, e6]
  rw [if_pos (show (mkP (1 + 6 * (j : Int))).f0.f0 = 1 + 6 * (j : Int) from rfl), if_pos (show (mkP (1 + 6 * (j : Int))).f0.f1 = 1 + 6 * (j : Int) + 1 from rfl),
   if_pos (show (mkP (1 + 6 * (j : Int))).f0.f2 = 1 + 6 * (j : Int) + 1 + 1 by show 1 + 6 * (j : Int) + 2 = _; omega), if_pos (show (mkP (1 + 6 * (j : Int))).f1.f0 = 1 + 6 * (j : Int) + 1 + 1 + 1 by show 1 + 6 * (j : Int) + 3 = _; omega),
   if_pos (show (mkP (1 + 6 * (j : Int))).f1.f1 = 1 + 6 * (j : Int) + 1 + 1 + 1 + 1 by show 1 + 6 * (j : Int) + 4 = _; omega), if_pos (show (mkP (1 + 6 * (j : Int))).f1.f2 = 1 + 6 * (j : Int) + 1 + 1 + 1 + 1 + 1 by show 1 + 6 * (j : Int) + 5 = _; omega), zaU (by omega)]
  rw [← laws_heldPointS_l0 n hn d k (j + 1) (by omega) (by omega)]
  congr 1
theorem laws_heldPointS_eq (n : Nat) (hn : n ≤ 1048576) (k : Nat) (hk : n < k) : zsO.f k (zfM 1 n) 1 = some (1 + 6 * n : Int) := by
 unfold zsO.f
 have := laws_heldPointS_l0 n hn n k 0 (by omega) hk
 simpa using this

def ptW (t : List UInt8) : S33 := ⟨⟨(readP t).1, (readP t).2.1, (readP t).2.2.1⟩, ⟨(readP t).2.2.2.1, (readP t).2.2.2.2.1, (readP t).2.2.2.2.2.1⟩⟩
def okW (t : List UInt8) : Bool := (readP t).2.2.2.2.2.2
noncomputable def polyB (l : List S33) : Bool := Classical.choose (polygon_both l)
theorem polyB_len {l : List S33} (h : polyB l = true) : l.length ≤ 16 := ((Classical.choose_spec (polygon_both l)).1 h).2.1
theorem polyB_spec (l : List S33) (k : Nat) (hk : 1000 < k) : zhB.f k l = some (polyB l) := ((Classical.choose_spec (polygon_both l)).2 k hk).1
theorem polyB_impl (l : List S33) (k : Nat) (hk : 1000 < k) : zoR.f k l = some (polyB l) := ((Classical.choose_spec (polygon_both l)).2 k hk).2
noncomputable def finP (l : List S33) : List S33 × Bool := if polyB l = true then (l, true) else ([], false)
theorem rd_words (W : List (List UInt8)) (j : Nat) (h : j < W.length) : zzV ByteArray.empty (W.map sb) (j : Int) = sb W[j] := by
 unfold zzV
 rw [Int.toNat_natCast, List.getD_eq_getElem?_getD, List.getElem?_map, List.getElem?_eq_getElem h]
 rfl
theorem take_drop (W : List (List UInt8)) (j d : Nat) (h : j < W.length) : (W.drop j).take (d + 1) = W[j] :: (W.drop (j + 1)).take d := by
 rw [List.drop_eq_getElem_cons h, List.take_succ_cons]
theorem specRP_l0 (W : List (List UInt8)) (hW : ∀ t ∈ W, t.length ≤ 1048576) (hn : W.length ≤ 1048577) : ∀ (d j k : Nat) (out : List S33), j + d = min W.length 17 → out.length = j → 2100000 + 2 * d < k →
  zqN.l0 k out (W.map sb) (j : Int) = some (if ((W.drop j).take d).all okW = true then finP (out ++ ((W.drop j).take d).map ptW) else ([], false))
 | 0, j, k, out, hd, ho, hk => by
  obtain ⟨k, rfl⟩ : ∃ m, k = m + 2 := ⟨k - 2, by omega⟩
  have hj1 : zqN.j1 (k + 1) out (W.map sb) (j : Int) false = some (finP out) := by
   simp only [zqN.j1]
   rw [if_neg (by simp), polyB_spec out k (by omega), Option.bind_some]
   unfold finP
   cases polyB out <;> rfl
  simp only [zqN.l0, List.length_map]
  rw [List.take_zero, List.all_nil, if_pos rfl, List.map_nil, List.append_nil]
  by_cases hc : (j : Int) < (W.length : Int)
  ·rw [if_pos hc, decide_eq_false (by omega), hj1]
  ·rw [if_neg hc, hj1]
 | d + 1, j, k, out, hd, ho, hk => by
  obtain ⟨k, rfl⟩ : ∃ m, k = m + 2 := ⟨k - 2, by omega⟩
  have hj : j < W.length := by omega
  have hw := hW _ (List.getElem_mem hj)
  simp only [zqN.l0, List.length_map]
  rw [if_pos (by omega), decide_eq_true (by omega)]
  simp only [zqN.j1, List.length_map]
  rw [if_pos trivial, if_pos (by omega), if_pos (by omega), rd_words W j hj, spec_ReadPoint_eq _ k hw (by omega), Option.bind_some, take_drop W j d hj, List.all_cons]
  by_cases h : okW W[j] = true
  ·rw [if_pos (show (readP W[j]).2.2.2.2.2.2 = true from h), if_pos (by omega), zaU (by omega)]
   have ih := specRP_l0 W hW hn d (j + 1) k (out ++ [ptW W[j]]) (by omega) (by simp; omega) (by omega)
   rw [h, Bool.true_and, List.map_cons]
   rw [List.append_assoc] at ih
   exact ih
  ·rw [if_neg (show ¬ (readP W[j]).2.2.2.2.2.2 = true from h), if_neg (by simp [h])]
theorem implRP_l0 (W : List (List UInt8)) (hW : ∀ t ∈ W, t.length ≤ 1048576) (hn : W.length ≤ 1048577) : ∀ (d j k : Nat) (out : List S33), j + d = W.length → out.length = j → 2100000 + 2 * d < k →
  zqF.l0 k out (W.map sb) (W.length : Int) (j : Int) = some (if (W.drop j).all okW = true then finP (out ++ (W.drop j).map ptW) else ([], false))
 | 0, j, k, out, hd, ho, hk => by
  obtain ⟨k, rfl⟩ : ∃ m, k = m + 1 := ⟨k - 1, by omega⟩
  simp only [zqF.l0]
  rw [if_neg (by omega), polyB_impl out k (by omega), Option.bind_some, List.drop_eq_nil_of_le (by omega)]
  simp only [List.all_nil, if_true, List.map_nil, List.append_nil]
  unfold finP
  cases polyB out <;> rfl
 | d + 1, j, k, out, hd, ho, hk => by
  obtain ⟨k, rfl⟩ : ∃ m, k = m + 1 := ⟨k - 1, by omega⟩
  have hj : j < W.length := by omega
  have hw := hW _ (List.getElem_mem hj)
  simp only [zqF.l0, List.length_map]
  rw [if_pos (by omega), if_pos (by omega), if_pos (by omega), rd_words W j hj, impl_ReadPoint_eq _ k hw (by omega), Option.bind_some, List.drop_eq_getElem_cons hj, List.all_cons]
  by_cases h : okW W[j] = true
  ·rw [if_pos (show (readP W[j]).2.2.2.2.2.2 = true from h), if_pos (by omega), zaU (by omega)]
   have ih := implRP_l0 W hW hn d (j + 1) k (out ++ [ptW W[j]]) (by omega) (by simp; omega) (by omega)
   rw [h, Bool.true_and, List.map_cons]
   rw [List.append_assoc] at ih
   exact ih
  ·rw [if_neg (show ¬ (readP W[j]).2.2.2.2.2.2 = true from h), if_neg (by simp [h])]
noncomputable def rpV (s : List UInt8) : List S33 × Bool := if (spl 32 [] s).all okW = true then finP ((spl 32 [] s).map ptW) else ([], false)
theorem spl_small (c : UInt8) : ∀ (l cur : List UInt8), (∀ t ∈ spl c cur l, t.length ≤ cur.length + l.length) ∧ (spl c cur l).length ≤ l.length + 1
 | [], cur => by simp [spl]
 | b :: l, cur => by
  simp only [spl]
  split
  ·have := spl_small c l []
   refine ⟨fun t ht => ?_, by simp only [List.length_cons]; omega⟩
   rcases List.mem_cons.1 ht with rfl | ht
   ·omega
   ·have := this.1 t ht
    simp only [List.length_nil, List.length_cons] at this ⊢
    omega
  ·have := spl_small c l (cur ++ [b])
   refine ⟨fun t ht => ?_, by simp only [List.length_cons]; omega⟩
   have := this.1 t ht
   simp only [List.length_append, List.length_cons, List.length_nil] at this ⊢
   omega
theorem finP_long (l : List S33) (h : 16 < l.length) : finP l = ([], false) := by
 unfold finP
 rw [if_neg (fun c => by have := polyB_len c; omega)]
theorem rp_cap (W : List (List UInt8)) : (if (W.take 17).all okW = true then finP ((W.take 17).map ptW) else ([], false)) = (if W.all okW = true then finP (W.map ptW) else ([], false)) := by
 by_cases hn : W.length ≤ 17
 ·rw [List.take_of_length_le hn]
 ·have h1 : finP ((W.take 17).map ptW) = ([], false) := finP_long _ (by rw [List.length_map, List.length_take]; omega)
  have h2 : finP (W.map ptW) = ([], false) := finP_long _ (by rw [List.length_map]; omega)
  rw [h1, h2, ite_self, ite_self]
theorem spec_ReadPolygon_eq (s : List UInt8) (hs : s.length ≤ 1048576) (k : Nat) (hk : 2200000 < k) : zqN.f k (sb s) = some (rpV s) := by
 obtain ⟨h1, h2⟩ := spl_small 32 s []
 have hW : ∀ t ∈ spl 32 [] s, t.length ≤ 1048576 := fun t ht => by have := h1 t ht; simp only [List.length_nil] at this; omega
 unfold zqN.f
 rw [show (32 : Int) = (((32 : UInt8).toNat : Nat) : Int) from rfl, spec_l02Split_eq s 32 k hs (by omega), Option.bind_some]
 have h := specRP_l0 (spl 32 [] s) hW (by omega) (min (spl 32 [] s).length 17) 0 k [] (by omega) rfl (by omega)
 rw [show ((0 : Nat) : Int) = 0 from rfl] at h
 rw [h, List.drop_zero, List.nil_append]
 have e : (spl 32 [] s).take (min (spl 32 [] s).length 17) = (spl 32 [] s).take 17 := by
  rw [Nat.min_comm, ← List.take_take]
  rw [List.take_of_length_le (Nat.le_refl _)]
 rw [e, rp_cap]
 rfl
theorem impl_ReadPolygon_eq (s : List UInt8) (hs : s.length ≤ 1048576) (k : Nat) (hk : 4400000 < k) : zqF.f k (sb s) = some (rpV s) := by
 obtain ⟨h1, h2⟩ := spl_small 32 s []
 have hW : ∀ t ∈ spl 32 [] s, t.length ≤ 1048576 := fun t ht => by have := h1 t ht; simp only [List.length_nil] at this; omega
 unfold zqF.f
 rw [strings_Split_eq s hs, Option.bind_some, List.length_map]
 have h := implRP_l0 (spl 32 [] s) hW (by omega) (spl 32 [] s).length 0 k [] (by omega) rfl (by omega)
 rw [show ((0 : Nat) : Int) = 0 from rfl] at h
 rw [h, List.drop_zero, List.nil_append]
 rfl
theorem rpV_len (s : List UInt8) : (rpV s).1.length ≤ 16 := by
 unfold rpV finP
 split
 ·split
  ·exact polyB_len (by assumption)
  ·simp
 ·simp
theorem FnExactReadPolygon : laws_FnExactReadPolygon.Pure := by
 intro a0 _
 obtain ⟨s, rfl⟩ : ∃ s, a0 = sb s := ⟨_, sb_of a0⟩
 refine ⟨5000000, ?_⟩
 obtain ⟨K, hK⟩ : ∃ K : Nat, K = 5000000 := ⟨_, rfl⟩
 rw [← hK]
 unfold laws_FnExactReadPolygon.f
 rw [zjA]
 by_cases h : (s.length : Int) > 1048576
 ·rw [if_pos h]
 ·have hl := rpV_len s
  rw [if_neg h, spec_ReadPolygon_eq s (by omega) K (by omega), Option.bind_some, impl_ReadPolygon_eq s (by omega) K (by omega), Option.bind_some, laws_eqPointS_self _ (by omega) K (by omega), Option.bind_some, if_pos rfl, bne_self_eq_false]
  obtain ⟨K, rfl⟩ : ∃ m, K = m + 2 := ⟨K - 2, by omega⟩
  have hh : zsO.f (K + 1) (zfM 1 (rpV s).1.length) 1 = some (1 + 6 * ((rpV s).1.length : Int)) := laws_heldPointS_eq _ (by omega) _ (by omega)
  have hh2 : zsO.f K (zfM 1 (rpV s).1.length) 1 = some (1 + 6 * ((rpV s).1.length : Int)) := laws_heldPointS_eq _ (by omega) _ (by omega)
  simp only [laws_FnExactReadPolygon.j0, laws_FnExactReadPolygon.j1]
  rw [if_neg (by simp), laws_markPointS_eq _ (by omega) (K + 1) (by omega), Option.bind_some, hh, Option.bind_some, if_neg (by omega), if_pos rfl, impl_ReadPolygon_eq s (by omega) (K + 1) (by omega), Option.bind_some, laws_eqPointS_self _ (by omega) (K + 1) (by omega), Option.bind_some, if_pos rfl, bne_self_eq_false, if_neg (by simp), hh2, Option.bind_some, if_neg (by omega), if_pos rfl]

end Go.Proofs.YtehghobmmpihfaaGreatDoor.Pure
