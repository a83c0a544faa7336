/- What is proved: the program's ReadMotion answers what the reference's answers, at every text. Conditions: none. -/
import Derived.Test.YtbkcmdccomngnaaDoorV4PFnExactReadMotionx
import Derived.Test.YtbkcmdccomngnaaDoorV4Math
import Derived.Test.YtbkcmdccomngnaaDoorV4Txt
import Derived.Test.YtbkcmdccomngnaaDoorV4Parse
namespace Go.Proofs.YtbkcmdccomngnaaDoor.Pure
open Go.RowKit Go.Proofs.YtbkcmdccomngnaaDoor.PFnExactReadMotion Go.Proofs.YtbkcmdccomngnaaDoorW.PrintWords Go.Proofs.YtbkcmdccomngnaaDoorW.PrintLast Go.Proofs.YtbkcmdccomngnaaDoorW.PrintMore Go.Proofs.YtbkcmdccomngnaaDoor.Math

theorem spec_l01Digit_isD (b : UInt8) : zsZ.f (b.toNat : Int) = some (isD b) := by
 unfold zsZ.f isD
 by_cases h1 : 48 ≤ b.toNat
 ·rw [if_pos (by omega)]
  congr 1
  by_cases h2 : b.toNat ≤ 57
  ·rw [decide_eq_true (by omega), decide_eq_true ⟨h1, h2⟩]
  ·rw [decide_eq_false (by omega), decide_eq_false (by omega)]
 ·rw [if_neg (by omega), decide_eq_false (by omega)]
theorem l01Int_loop (neg : Bool) : ∀ (suf pre : List UInt8) (acc : Int) (k : Nat), pre.length + suf.length ≤ 7 → 0 ≤ acc → acc < 10 ^ pre.length → suf.length < k →
  zlS.l0 k (sb (pre ++ suf)) neg acc (pre.length : Int) = some (if suf.all isD = true then (if neg = true then -(val acc suf) else val acc suf, true) else (0, false))
 | [], pre, acc, k, h, h0, h1, hk => by
  obtain ⟨k, rfl⟩ : ∃ m, k = m + 1 := ⟨k - 1, by omega⟩
  have hp := p10le pre.length (by simp at h; omega)
  have hl : (pre ++ [] : List UInt8).length = pre.length := by simp
  have hw : wrap64 (-acc) = -acc := w64 (by omega) (by omega)
  simp only [zlS.l0]
  rw [if_neg (by rw [zjA, hl]; omega), hw]
  cases neg <;> simp [val]
 | c :: suf, pre, acc, k, h, h0, h1, hk => by
  obtain ⟨k, rfl⟩ : ∃ m, k = m + 1 := ⟨k - 1, by omega⟩
  have hlen : (c :: suf).length = suf.length + 1 := rfl
  have hp := p10le (pre.length + 1) (by omega)
  have hp0 := p10le pre.length (by omega)
  have hl : pre.length < (pre ++ c :: suf).length := by simp
  have hg : (pre ++ c :: suf).getD pre.length 0 = c := by simp [List.getD_eq_getElem?_getD]
  simp only [zlS.l0]
  rw [if_pos (by rw [zjA]; omega), if_pos (by omega), bt_sb hl, hg, spec_l01Digit_isD, Option.bind_some]
  by_cases hd : isD c = true
  ·have hd' : 48 ≤ c.toNat ∧ c.toNat ≤ 57 := of_decide_eq_true hd
   rw [if_pos hd, w64 (n := 10 * acc) (by omega) (by omega), show ((c.toNat : Int) - 48) % 256 = (c.toNat : Int) - 48 by omega, w64 (n := 10 * acc + ((c.toNat : Int) - 48)) (by omega) (by omega), succ64 (by omega)]
   have ih := l01Int_loop neg suf (pre ++ [c]) (10 * acc + ((c.toNat : Int) - 48)) k (by simp only [List.length_append, List.length_singleton]; omega) (by omega) (by
    rw [List.length_append, List.length_singleton, Int.pow_succ]; omega) (by omega)
   rw [List.append_assoc, List.singleton_append, List.length_append, List.length_singleton] at ih
   rw [ih, List.all_cons, hd, Bool.true_and, val_cons]
  ·have hd' : isD c = false := by simpa using hd
   rw [if_neg hd, List.all_cons, hd', Bool.false_and]
   rfl
theorem l01Int_j2 (t : List UInt8) (neg : Bool) (k : Nat) (hl : t.length ≤ 1048576) (hk : 12 < k) :
  zlS.j2 k (sb t) neg = some (if t.length < 1 ∨ 7 < t.length then (0, false) else if t.all isD = true then (if neg = true then -(val 0 t) else val 0 t, true) else (0, false)) := by
 obtain ⟨k, rfl⟩ : ∃ m, k = m + 2 := ⟨k - 2, by omega⟩
 simp only [zlS.j2, zlS.j3]
 rw [zjA]
 by_cases h1 : t.length < 1
 ·rw [if_pos (by omega), if_pos trivial, if_pos (Or.inl h1)]
 ·rw [if_neg (by omega)]
  by_cases h7 : 7 < t.length
  ·rw [if_pos (decide_eq_true (by omega)), if_pos (Or.inr h7)]
  ·rw [if_neg (by rw [decide_eq_false (by omega)]; simp), if_neg (by omega)]
   have := l01Int_loop neg t [] 0 k (by simp; omega) (Int.le_refl _) (by decide) (by omega)
   simpa using this
theorem zjO (l : List UInt8) (k : Nat) (hl : l.length ≤ 1048576) (hk : 20 < k) : zlS.f k (sb l) = some (l01 l) := by
 obtain ⟨k, rfl⟩ : ∃ m, k = m + 2 := ⟨k - 2, by omega⟩
 unfold zlS.f
 rw [zuS]
 cases l with
 | nil =>
  rw [if_pos rfl]
  simp only [zlS.j0, zlS.j1]
  rw [zuS, if_pos rfl, if_neg (by simp), l01Int_j2 [] false k (by simp) (by omega)]
  rfl
 | cons c r =>
  have hg : bt (sb (c :: r)) 0 = (c.toNat : Int) := bt_sb (l := c :: r) (j := 0) (by simp)
  have h0 : (0 : Int) < ((sb (c :: r)).size : Int) := by rw [zjA]; simp only [List.length_cons]; omega
  have hx : (sb (c :: r)).extract 1 (sb (c :: r)).size = sb r := by rw [zsR, zjA]; simp
  have hr : r.length ≤ 1048576 := by simp only [List.length_cons] at hl; omega
  rw [if_neg (by simp), if_pos h0, hg]
  simp only [zlS.j0, zlS.j1]
  rw [zuS, if_neg (by simp), if_pos h0, hg, hx]
  unfold l01
  simp only [List.head?_cons, List.tail_cons, Option.some.injEq]
  have h1 : (1 : Int) ≤ ((sb (c :: r)).size : Int) := by omega
  by_cases h45 : c = 45
  ·subst h45
   have e : (((45 : UInt8).toNat : Int) == 45) = true := rfl
   rw [if_pos (by decide), if_pos trivial, if_pos h1, l01Int_j2 r _ k hr (by omega), e]
   simp
  ·have hn : ¬ (c.toNat : Int) = 45 := fun h => h45 (by rw [← UInt8.toNat_inj]; show c.toNat = 45; omega)
   have hb : ((c.toNat : Int) == 45) = false := by simpa using hn
   rw [if_neg hn, hb]
   by_cases h43 : c = 43
   ·subst h43
    rw [if_pos (by decide), if_pos h1, l01Int_j2 r _ k hr (by omega)]
    simp
   ·have hn3 : ¬ (c.toNat : Int) = 43 := fun h => h43 (by rw [← UInt8.toNat_inj]; show c.toNat = 43; omega)
    have hb3 : ((c.toNat : Int) == 43) = false := by simpa using hn3
    rw [hb3, if_neg (by simp), l01Int_j2 (c :: r) _ k hl (by omega)]
    simp [h45, h43]

theorem l01Parts_j2 (l : List UInt8) (a : Nat) (k : Nat) (hl : l.length ≤ 1048576) (h1 : 1 ≤ l.length) (ha : a ≤ l.length - 1) (hk : 30 < k) :
  zqO.j2 k (sb l) (l.length : Int) (a : Int) = some (pr2 l a) := by
 obtain ⟨k, rfl⟩ : ∃ m, k = m + 1 := ⟨k - 1, by omega⟩
 have e1 : wrap64 ((l.length : Int) - 1) = ((l.length - 1 : Nat) : Int) := pred64 (by omega) h1
 have x1 : (sb l).extract 0 (l.length - 1) = sb (l.take (l.length - 1)) := by rw [zsR]; rfl
 have x2 : (sb l).extract 0 a = sb (l.take a) := by rw [zsR]; rfl
 have x3 : (sb l).extract a (l.length - 1) = sb ((l.take (l.length - 1)).drop a) := zsR _ _ _
 have l1 : (l.take (l.length - 1)).length ≤ 1048576 := by rw [List.length_take]; omega
 have l2 : (l.take a).length ≤ 1048576 := by rw [List.length_take]; omega
 have l3 : ((l.take (l.length - 1)).drop a).length ≤ 1048576 := by rw [List.length_drop, List.length_take]; omega
 simp only [zqO.j2, e1, Int.toNat_natCast, zjA]
 unfold pr2
 by_cases h0 : a = 0
 ·rw [if_pos (by omega), if_pos (by omega), if_pos (by omega), x1, zjO _ k l1 (by omega), if_pos h0]
  rfl
 ·rw [if_neg (by omega), if_pos (by omega), if_pos (by omega), x2, zjO _ k l2 (by omega), if_neg h0]
  simp only [Option.bind_some]
  rw [if_pos (by omega), if_pos (by omega), x3, zjO _ k l3 (by omega)]
  simp only [Option.bind_some]
  by_cases h : (l01 (l.take a)).2 = true
  ·rw [if_pos h, if_pos h]
  ·rw [if_neg h, if_neg h]
theorem l01Parts_loop (l : List UInt8) (hl : l.length ≤ 1048576) (h2 : 2 ≤ l.length) : ∀ (i k : Nat), i ≤ l.length - 2 → i + 40 < k → zqO.l0 k (sb l) (l.length : Int) (i : Int) = some (pr2 l (spn l i))
 | 0, k, hi, hk => by
  obtain ⟨k, rfl⟩ : ∃ m, k = m + 1 := ⟨k - 1, by omega⟩
  simp only [zqO.l0]
  rw [if_neg (by omega), l01Parts_j2 l 0 k hl (by omega) (by omega) (by omega)]
  rfl
 | i + 1, k, hi, hk => by
  obtain ⟨k, rfl⟩ : ∃ m, k = m + 1 := ⟨k - 1, by omega⟩
  have hj : i + 1 < l.length := by omega
  have ih := l01Parts_loop l hl h2 i k (by omega) (by omega)
  have j2 := l01Parts_j2 l (i + 1) k hl (by omega) (by omega) (by omega)
  have hs := isS_iff (l.getD (i + 1) 0)
  simp only [zqO.l0]
  rw [if_pos (by omega), if_pos (by omega), if_pos (by rw [zjA]; omega), bt_sb hj, j2, pred64 (j := i + 1) (by omega) (by omega), show i + 1 - 1 = i by omega, ih]
  simp only [spn]
  by_cases h43 : (l.getD (i + 1) 0).toNat = 43
  ·rw [if_pos (by omega), if_pos (hs.2 (Or.inl h43))]
  ·rw [if_neg (by omega)]
   by_cases h45 : (l.getD (i + 1) 0).toNat = 45
   ·rw [if_pos (by omega), if_pos (hs.2 (Or.inr h45))]
   ·rw [if_neg (by omega), if_neg fun h => by rcases hs.1 h with h | h <;> contradiction]
theorem spec_l01Parts_eq (l : List UInt8) (k : Nat) (hl : l.length ≤ 1048576) (hk : l.length + 60 < k) : zqO.f k (sb l) = some (prt l) := by
 obtain ⟨k, rfl⟩ : ∃ m, k = m + 1 := ⟨k - 1, by omega⟩
 unfold zqO.f
 simp only [zjA]
 by_cases h0 : l.length = 0
 ·obtain rfl := List.eq_nil_of_length_eq_zero h0
  rw [if_pos (by simp)]
  simp only [zqO.j0]
  rw [if_pos trivial, zjO [] k (by simp) (by omega)]
  rfl
 ·have e1 : wrap64 ((l.length : Int) - 1) = ((l.length - 1 : Nat) : Int) := pred64 (by omega) (by omega)
  rw [if_neg (by omega), e1, if_pos (by omega), if_pos (by omega), bt_sb (by omega)]
  simp only [zqO.j0]
  unfold prt
  by_cases h : l.getD (l.length - 1) 0 = 114
  ·have hb : (((l.getD (l.length - 1) 0).toNat : Int) != 114) = false := by rw [h]; rfl
   rw [hb, if_neg (by simp), if_pos h]
   by_cases h1 : l.length = 1
   ·obtain ⟨k, rfl⟩ : ∃ m, k = m + 1 := ⟨k - 1, by omega⟩
    have e2 : wrap64 ((l.length : Int) - 2) = -1 := by rw [w64 (by omega) (by omega)]; omega
    rw [e2]
    simp only [zqO.l0]
    rw [if_neg (by decide)]
    obtain ⟨k, rfl⟩ : ∃ m, k = m + 1 := ⟨k - 1, by omega⟩
    have x1 : (sb l).extract 0 (l.length - 1) = sb (l.take (l.length - 1)) := by rw [zsR]; rfl
    simp only [zqO.j2, e1, Int.toNat_natCast, zjA]
    rw [if_pos (by decide), if_pos (by omega), if_pos (by omega), x1, zjO _ k (by rw [List.length_take]; omega) (by omega), show l.length - 2 = 0 by omega]
    rfl
   ·have e2 : wrap64 ((l.length : Int) - 2) = ((l.length - 2 : Nat) : Int) := by rw [w64 (by omega) (by omega)]; omega
    rw [e2, l01Parts_loop l hl (by omega) (l.length - 2) k (Nat.le_refl _) (by omega)]
  ·have hb : (((l.getD (l.length - 1) 0).toNat : Int) != 114) = true := bne_iff_ne.2 fun hh => h (by rw [← UInt8.toNat_inj]; show (l.getD (l.length - 1) 0).toNat = 114; omega)
   rw [hb, if_pos rfl, if_neg h, zjO l k hl (by omega)]
   rfl

theorem spec_l00In_eq (a b c : Int) : ziE.f a b c = some (decide (b ≤ a ∧ a ≤ c)) := by
 unfold ziE.f
 by_cases h : b ≤ a <;> simp [h]

theorem spec_l01Ok_eq (a b k : Int) : zeG.f a b k = some (decide (znX a b k)) := by
 unfold zeG.f znX
 simp only [spec_l00In_eq, Option.bind_some]
 by_cases h1 : -131072 ≤ a ∧ a ≤ 131072
 ·by_cases h2 : -131072 ≤ b ∧ b ≤ 131072
  ·by_cases h3 : 0 ≤ k ∧ k ≤ 10
   ·simp only [h1, h2, h3, and_self, decide_true, if_true, true_and]
    by_cases h4 : k = 0
    ·simp [h4]
    ·by_cases h5 : Int.tmod a 2 = 0
     ·have := (tmod2 a).1 h5
      by_cases h6 : Int.tmod b 2 = 0
      ·have := (tmod2 b).1 h6
       simp [h4, h5, h6]; omega
      ·have h7 : b % 2 = 1 := by have : ¬ b % 2 = 0 := fun h => h6 ((tmod2 b).2 h); omega
       simp [h4, h5, h6, h7]
     ·have h7 : a % 2 = 1 := by have : ¬ a % 2 = 0 := fun h => h5 ((tmod2 a).2 h); omega
      simp [h4, h5, h7]
   ·simp [h1, h2, h3]
  ·simp [h1, h2]
 ·simp [h1]

theorem p10_9 : (10 : Nat) ^ 9 = 1000000000 := by decide
theorem spec_l01Dec_pos : ∀ (m : Nat) (n : Int) (k : Nat), 0 ≤ n → n.toNat < 10 ^ m → n < 1000000000 → 2 * m + 1 < k → zlV.f k n = some (sb (Lib.itoa n))
 | 0, n, k, h0, h1, h2, hk => by
  obtain ⟨k, rfl⟩ : ∃ j, k = j + 2 := ⟨k - 2, by omega⟩
  have : n = 0 := by simp at h1; omega
  subst this
  simp only [zlV.f, zlV.j0]
  rw [if_neg (by omega), if_neg (by simp), if_neg (by omega), if_pos (by omega), w64 (n := 48 + 0) (by omega) (by omega), strOf_one _ (by omega) (by omega), dec_small (by omega) (by omega)]
  rfl
 | m + 1, n, k, h0, h1, h2, hk => by
  obtain ⟨k, rfl⟩ : ∃ j, k = j + 2 := ⟨k - 2, by omega⟩
  simp only [zlV.f, zlV.j0]
  rw [if_neg (by omega), if_neg (by simp), if_neg (by omega)]
  by_cases hn : n < 10
  ·rw [if_pos hn, w64 (n := 48 + n) (by omega) (by omega), show (48 + n) % 256 = 48 + n by omega, strOf_one _ (by omega) (by omega), dec_small h0 hn, show (48 + n).toNat = 48 + n.toNat by omega]
  ·rw [if_neg hn, Int.tdiv_eq_ediv_of_nonneg h0, Int.tmod_eq_emod_of_nonneg h0, w64 (n := n / 10) (by omega) (by omega), w64 (n := 48 + n % 10) (by omega) (by omega), show (48 + n % 10) % 256 = 48 + n % 10 by omega,
    spec_l01Dec_pos m (n / 10) k (by omega) (by rw [Nat.pow_succ] at h1; omega) (by omega) (by omega)]
   simp only [Option.bind_some]
   have hl := zoT (n := n / 10) (by omega)
   rw [strOf_one _ (by omega) (by omega), zjA, zjA, if_pos (by simp; omega), zsH, dec_step (n := n) (by omega), show (48 + n % 10).toNat = 48 + (n % 10).toNat by omega]
theorem spec_l01Dec_neg : ∀ (m : Nat) (n : Int) (k : Nat), n < 0 → n.natAbs < 10 ^ m → -1000000000 < n → 2 * m + 22 < k → zlV.f k n = some (sb (Lib.itoa n))
 | 0, n, k, h0, h1, h2, hk => by simp at h1; omega
 | m + 1, n, k, h0, h1, h2, hk => by
  obtain ⟨k, rfl⟩ : ∃ j, k = j + 2 := ⟨k - 2, by omega⟩
  simp only [zlV.f, zlV.j0]
  rw [if_pos (by omega)]
  have h9 := p10_9
  by_cases h10 : n > -10
  ·rw [if_pos (by simpa using h10), w64 (n := -n) (by omega) (by omega), spec_l01Dec_pos 9 (-n) k (by omega) (by omega) (by omega) (by omega)]
   have hl := zoT (n := -n) (by omega)
   simp only [Option.bind_some]
   rw [zjA, if_pos (by omega), sb_one, zsH, dec_neg (n := n) (by omega)]
   rfl
  ·have e1 : Int.tdiv n 10 = -((-n) / 10) := by
    have := Int.neg_tdiv (-n) 10
    rw [Int.neg_neg] at this
    rw [this, Int.tdiv_eq_ediv_of_nonneg (show 0 ≤ -n by omega)]
   have e2 : Int.tmod n 10 = -((-n) % 10) := by
    have := Int.neg_tmod (-n) 10
    rw [Int.neg_neg] at this
    rw [this, Int.tmod_eq_emod_of_nonneg (show 0 ≤ -n by omega)]
   rw [if_neg (by simpa using h10), if_pos (by omega), e1, e2, Int.neg_neg, w64 (n := -(-n / 10)) (by omega) (by omega), w64 (n := -n % 10) (by omega) (by omega),
    spec_l01Dec_neg m (-(-n / 10)) k (by omega) (by rw [Nat.pow_succ] at h1; omega) (by omega) (by omega), spec_l01Dec_pos 9 (-n % 10) k (by omega) (by omega) (by omega) (by omega)]
   simp only [Option.bind_some]
   have hl := zoT (n := -(-n / 10)) (by omega)
   have hl2 := zoT (n := -n % 10) (by omega)
   rw [zjA, zjA, if_pos (by omega), zsH, dec_neg (n := n) (by omega), dec_neg (n := -(-n / 10)) (by omega), Int.neg_neg, dec_step (n := -n) (by omega), dec_small (n := -n % 10) (by omega) (by omega)]
   rfl
theorem spec_l01Dec_eq (n : Int) (k : Nat) (h0 : -1000000000 < n) (h1 : n < 1000000000) (hk : 60 < k) : zlV.f k n = some (sb (Lib.itoa n)) := by
 have h9 := p10_9
 by_cases hn : 0 ≤ n
 ·exact spec_l01Dec_pos 9 n k hn (by omega) h1 (by omega)
 ·exact spec_l01Dec_neg 9 n k (by omega) (by omega) h0 (by omega)

theorem spec_l01Text_eq (a b c : Int) (k : Nat) (h : znX a b c) (hk : 70 < k) : zwU.f k a b c = some (sb (zuQ a b c)) := by
 obtain ⟨la, lb, lc⟩ := itoa_numTxt_len h
 obtain ⟨ha, hb, hc, _⟩ := h
 have hs := shl_bd hc.1 hc.2
 have hw : IntKind.u64.wrap c = c := wu64 (by omega) (by omega)
 have j0 : ∀ (x : List UInt8) (k : Nat), x.length ≤ 50 → 65 < k → zwU.j0 k (sb x) a b c = some (sb (if c = 0 then x else if a = 0 ∨ b = 0 then x ++ (47 :: Lib.itoa (shl .i64 1 c)) else 40 :: (x ++ (41 :: 47 :: Lib.itoa (shl .i64 1 c))))) := by
  intro x k hx hk
  obtain ⟨k, rfl⟩ : ∃ j, k = j + 1 := ⟨k - 1, by omega⟩
  simp only [zwU.j0, hw, sb_one, zsH, zjA]
  rw [spec_l01Dec_eq _ k (by omega) (by omega) (by omega)]
  simp only [Option.bind_some, zsH, zjA, List.length_append, List.length_cons, List.length_nil]
  by_cases h0 : c = 0
  ·rw [if_pos h0, if_pos h0]
  ·rw [if_neg h0, if_neg h0]
   by_cases h1 : a = 0
   ·rw [if_pos h1, if_pos (by omega), if_pos (by omega), if_pos (by omega), if_pos (Or.inl h1)]
    simp [List.append_assoc]
   ·rw [if_neg h1]
    by_cases h2 : b = 0
    ·rw [if_pos h2, if_pos (by omega), if_pos (by omega), if_pos (by omega), if_pos (Or.inr h2)]
     simp [List.append_assoc]
    ·rw [if_neg h2, if_pos (by omega), if_pos (by omega), if_pos (by omega), if_pos (by omega), if_pos (by omega), if_neg (by omega)]
     simp [List.append_assoc]
 unfold zwU.f zuQ
 rw [spec_l01Dec_eq a k (by omega) (by omega) (by omega), spec_l01Dec_eq b k (by omega) (by omega) (by omega)]
 simp only [Option.bind_some, sb_one, zsH, zjA, List.length_append, List.length_cons, List.length_nil]
 by_cases h1 : b = 0
 ·rw [if_pos h1, j0 _ k (by omega) (by omega)]
  simp [h1]
 ·rw [if_neg h1]
  by_cases h2 : a = 0
  ·rw [if_pos h2, if_pos (by omega), j0 _ k (by simp; omega) (by omega)]
   simp [h1, h2]
  ·rw [if_neg h2]
   by_cases h3 : b > 0
   ·rw [if_pos h3, if_pos (by omega), if_pos (by omega), if_pos (by omega), j0 _ k (by simp; omega) (by omega)]
    simp [h1, h2, h3, List.append_assoc]
   ·rw [if_neg h3, if_pos (by omega), if_pos (by omega), j0 _ k (by simp; omega) (by omega)]
    simp [h1, h2, h3, List.append_assoc]

theorem spec_NumText_eqP (a b c : Int) (k : Nat) (hk : 100 < k) : znQ.f k a b c = some (sb (if znX a b c then zuQ a b c else [])) := by
 unfold znQ.f
 rw [spec_l01Ok_eq, Option.bind_some]
 by_cases h : znX a b c
 ·rw [if_pos (decide_eq_true h), if_pos h, spec_l01Text_eq a b c k h (by omega)]; rfl
 ·rw [if_neg (by simpa using h), if_neg h]; rfl
def finN (s t : List UInt8) (K : Int) : Int × Int × Int × Bool :=
 if (prt (unp t)).2.2 = true ∧ (if znX (prt (unp t)).1 (prt (unp t)).2.1 K then zuQ (prt (unp t)).1 (prt (unp t)).2.1 K else []) = s then ((prt (unp t)).1, (prt (unp t)).2.1, K, true) else (0, 0, 0, false)
theorem ReadNum_j4 (s t : List UInt8) (A B K : Int) (k : Nat) (ht : t.length ≤ 1048576) (hk : t.length + 120 < k) :
  zhO.j4 k (sb s) (sb t) A B K = some (if (prt t).2.2 = true ∧ (if znX (prt t).1 (prt t).2.1 K then zuQ (prt t).1 (prt t).2.1 K else []) = s then ((prt t).1, (prt t).2.1, K, true) else (0, 0, 0, false)) := by
 obtain ⟨k, rfl⟩ : ∃ m, k = m + 1 := ⟨k - 1, by omega⟩
 simp only [zhO.j4]
 rw [spec_l01Parts_eq t k ht (by omega)]
 simp only [Option.bind_some]
 by_cases h : (prt t).2.2 = true
 ·rw [if_pos h, spec_NumText_eqP _ _ _ k (by omega)]
  simp only [Option.bind_some, zuS, h, true_and]
  generalize (if znX (prt t).1 (prt t).2.1 K then zuQ (prt t).1 (prt t).2.1 K else []) = m
  by_cases hm : m = s
  ·rw [if_pos hm, if_pos hm]
  ·rw [if_neg hm, if_neg hm]
 ·rw [if_neg h, if_neg fun hh => h hh.1]
theorem ReadNum_j2 (s t : List UInt8) (A B K : Int) (k : Nat) (ht : t.length ≤ 1048576) (hk : t.length + 130 < k) :
  zhO.j2 k (sb s) (sb t) A B K = some (finN s t K) := by
 obtain ⟨k, rfl⟩ : ∃ m, k = m + 2 := ⟨k - 2, by omega⟩
 simp only [zhO.j2, zhO.j3, zjA]
 unfold finN
 by_cases h2 : 2 < t.length
 ·have hb : bt (sb t) 0 = ((t.getD 0 0).toNat : Int) := bt_sb (l := t) (j := 0) (by omega)
  rw [if_pos (by omega), if_pos (by omega), hb]
  by_cases h40 : t.getD 0 0 = 40
  ·have e : unp t = (t.take (t.length - 1)).drop 1 := by unfold unp; rw [if_pos ⟨h2, h40⟩]
   have hc : (((t.getD 0 0).toNat : Int) == 40) = true := by rw [h40]; rfl
   rw [hc, if_pos rfl, pred64 (by omega) (by omega), if_pos (by omega), if_pos (by omega), Int.toNat_natCast, zsR, e,
    ReadNum_j4 s _ A B K k (by rw [List.length_drop, List.length_take]; omega) (by rw [List.length_drop, List.length_take]; omega)]
  ·have e : unp t = t := by unfold unp; rw [if_neg fun h => h40 h.2]
   have hc : (((t.getD 0 0).toNat : Int) == 40) = false := beq_eq_false_iff_ne.2 fun hh => h40 (by rw [← UInt8.toNat_inj]; show (t.getD 0 0).toNat = 40; omega)
   rw [hc, if_neg (by simp), e, ReadNum_j4 s t A B K k ht (by omega)]
 ·have e : unp t = t := by unfold unp; rw [if_neg fun h => h2 h.1]
  rw [if_neg (by omega), if_neg (by simp), e, ReadNum_j4 s t A B K k ht (by omega)]
theorem ReadNum_l1 (s : List UInt8) (i : Nat) (n A B : Int) (hi : i ≤ s.length) (hs : s.length ≤ 1048576) : ∀ (f c k : Nat), c + f = 10 → s.length + 150 + f < k →
  zhO.l1 k (sb s) (i : Int) n A B (c : Int) = some (finN s (s.take i) (kOf n f c : Int))
 | 0, c, k, hc, hk => by
  obtain ⟨k, rfl⟩ : ∃ m, k = m + 1 := ⟨k - 1, by omega⟩
  simp only [zhO.l1, zjA, Int.toNat_natCast, kOf]
  rw [if_neg (by omega), if_pos (by omega), if_pos (by omega), zsR, List.drop_zero, ReadNum_j2 s _ A B _ k (by rw [List.length_take]; omega) (by rw [List.length_take]; omega)]
 | f + 1, c, k, hc, hk => by
  obtain ⟨k, rfl⟩ : ∃ m, k = m + 1 := ⟨k - 1, by omega⟩
  have ih := ReadNum_l1 s i n A B hi hs f (c + 1) k (by omega) (by omega)
  simp only [zhO.l1, zjA, Int.toNat_natCast, kOf]
  rw [if_pos (by omega), wu64 (by omega) (by omega), if_pos (by omega)]
  by_cases h : shl .i64 1 (c : Int) < n
  ·rw [if_pos h, if_pos h, succ64 (by omega), ih]
  ·rw [if_neg h, if_neg h, if_pos (by omega), if_pos (by omega), zsR, List.drop_zero, ReadNum_j2 s _ A B _ k (by rw [List.length_take]; omega) (by rw [List.length_take]; omega)]
theorem ReadNum_no (s t : List UInt8) (hs : s.length ≤ 1048576) (ht : t.length ≤ 1048576) : ∀ (d j k : Nat), j + d = s.length → (∀ x ∈ s.drop j, x ≠ 47) → t.length + 140 + d < k → zhO.l0 k (sb s) (sb t) (j : Int) 0 0 0 = some (finN s t 0)
 | 0, j, k, hj, hn, hk => by
  obtain ⟨k, rfl⟩ : ∃ m, k = m + 1 := ⟨k - 1, by omega⟩
  simp only [zhO.l0, zjA]
  rw [if_neg (by omega), ReadNum_j2 s t 0 0 0 k ht (by omega)]
 | d + 1, j, k, hj, hn, hk => by
  obtain ⟨k, rfl⟩ : ∃ m, k = m + 1 := ⟨k - 1, by omega⟩
  have hlt : j < s.length := by omega
  have he : s.drop j = s.getD j 0 :: s.drop (j + 1) := by
   rw [List.drop_eq_getElem_cons hlt, List.getD_eq_getElem?_getD, List.getElem?_eq_getElem hlt, Option.getD_some]
  have ih := ReadNum_no s t hs ht d (j + 1) k (by omega) (fun x hx => hn x (by rw [he]; exact List.mem_cons_of_mem _ hx)) (by omega)
  have h47 : s.getD j 0 ≠ 47 := hn _ (by rw [he]; exact List.mem_cons_self)
  simp only [zhO.l0, zjA]
  rw [if_pos (by omega), if_pos (by omega), bt_sb hlt, if_neg fun hh => h47 (by rw [← UInt8.toNat_inj]; show (s.getD j 0).toNat = 47; omega), succ64 (by omega), ih]
theorem ReadNum_yes (p q t : List UInt8) (hs : (p ++ 47 :: q).length ≤ 1048576) : ∀ (d j k : Nat), j + d = p.length → (∀ x ∈ p.drop j, x ≠ 47) → (p ++ 47 :: q).length + 200 + d < k →
  zhO.l0 k (sb (p ++ 47 :: q)) (sb t) (j : Int) 0 0 0 = some (finN (p ++ 47 :: q) p (kOf (l01 q).1 10 0 : Int))
 | 0, j, k, hj, hn, hk => by
  obtain ⟨k, rfl⟩ : ∃ m, k = m + 1 := ⟨k - 1, by omega⟩
  have hlen : (p ++ 47 :: q).length = p.length + 1 + q.length := by simp only [List.length_append, List.length_cons]; omega
  obtain rfl : j = p.length := by omega
  have hg : (p ++ 47 :: q).getD p.length 0 = 47 := by simp [List.getD_eq_getElem?_getD]
  simp only [zhO.l0, zjA]
  rw [if_pos (by omega), if_pos (by omega), bt_sb (by omega), hg, if_pos (by rfl), succ64 (by omega), if_pos (by omega), if_pos (by omega), Int.toNat_natCast, zsR, List.take_length,
   show (p ++ 47 :: q).drop (p.length + 1) = q by rw [show p ++ 47 :: q = (p ++ [47]) ++ q by simp, show p.length + 1 = (p ++ [47]).length by simp, List.drop_left], zjO q k (by omega) (by omega)]
  simp only [Option.bind_some]
  have := ReadNum_l1 (p ++ 47 :: q) p.length (l01 q).1 0 0 (by omega) hs 10 0 k (by omega) (by omega)
  rw [List.take_left] at this
  exact this
 | d + 1, j, k, hj, hn, hk => by
  obtain ⟨k, rfl⟩ : ∃ m, k = m + 1 := ⟨k - 1, by omega⟩
  have hlen : (p ++ 47 :: q).length = p.length + 1 + q.length := by simp only [List.length_append, List.length_cons]; omega
  have hlt : j < p.length := by omega
  have he : p.drop j = p.getD j 0 :: p.drop (j + 1) := by
   rw [List.drop_eq_getElem_cons hlt, List.getD_eq_getElem?_getD, List.getElem?_eq_getElem hlt, Option.getD_some]
  have ih := ReadNum_yes p q t hs d (j + 1) k (by omega) (fun x hx => hn x (by rw [he]; exact List.mem_cons_of_mem _ hx)) (by omega)
  have hg : (p ++ 47 :: q).getD j 0 = p.getD j 0 := by simp only [List.getD_eq_getElem?_getD]; rw [List.getElem?_append_left hlt]
  have h47 : p.getD j 0 ≠ 47 := hn _ (by rw [he]; exact List.mem_cons_self)
  simp only [zhO.l0, zjA]
  rw [if_pos (by omega), if_pos (by omega), bt_sb (by omega), hg, if_neg fun hh => h47 (by rw [← UInt8.toNat_inj]; show (p.getD j 0).toNat = 47; omega), succ64 (by omega), ih]
theorem spz_cut (s : List UInt8) : finN s (Lib.cut s [47]).1 (if (Lib.cut s [47]).2.2 = true then (kOf (l01 (Lib.cut s [47]).2.1).1 10 0 : Int) else 0) = zoA s := by
 rcases readN_or s with ⟨a, b, c, h1, h2, h3⟩ | ⟨h1, h2⟩
 ·have hz := spz_num h1
  rw [← h2] at hz
  unfold spz at hz
  have e1 := congrArg Prod.fst hz
  have e2 := congrArg Prod.snd hz
  dsimp only at e1 e2
  rw [h3]
  unfold finN
  rw [e1, e2]
  simp only [if_pos h1, h2, true_and, if_true]
 ·rw [h1]
  generalize (if (Lib.cut s [47]).2.2 = true then (kOf (l01 (Lib.cut s [47]).2.1).1 10 0 : Int) else 0) = K
  unfold finN
  rw [if_neg]
  rintro ⟨ho, hh⟩
  split at hh
  ·rename_i hn
   exact h2 ⟨_, _, _, hn, hh.symm⟩
  ·rw [← hh] at ho
   revert ho
   decide
theorem spec_ReadNum_eq (s : List UInt8) (k : Nat) (hs : s.length ≤ 1048576) (hk : 2 * s.length + 400 < k) : zhO.f k (sb s) = some (zoA s) := by
 unfold zhO.f
 rw [← spz_cut s]
 by_cases h : (47 : UInt8) ∈ s
 ·obtain ⟨p, q, rfl, hp⟩ := List.eq_append_cons_of_mem h
  rw [cut_at hp]
  have := ReadNum_yes p q (p ++ 47 :: q) hs p.length 0 k (by omega) (by rw [List.drop_zero]; rintro x hx rfl; exact hp hx) (by
   have : p.length ≤ (p ++ 47 :: q).length := by simp
   omega)
  simpa using this
 ·rw [cut_no h]
  have := ReadNum_no s s hs hs s.length 0 k (by omega) (by rw [List.drop_zero]; rintro x hx rfl; exact h hx) (by omega)
  simpa using this

theorem lia_sg (b : UInt8) : zwV b = isS b := rfl
theorem lia_scan (l : List UInt8) : ∀ i, zhK l i = scn l i
 | 0 => rfl
 | i + 1 => by simp only [zhK, scn, lia_scan l i, lia_sg]
theorem lia_back_bd (l : List UInt8) : ∀ f i, i ≤ l.length → -1 ≤ zrT l f i ∧ zrT l f i ≤ (i : Int)
 | 0, i, _ => by simp only [zrT]; omega
 | f + 1, i, hi => by
  simp only [zrT]
  split
  ·omega
  ·split
   ·omega
   ·have := lia_back_bd l f (i - (Lib.decodeLastL (l.take i)).2) (by omega)
    omega
theorem lia_back (l : List UInt8) (ha : ∀ b ∈ l, b.toNat < 128) : ∀ f i, i ≤ l.length → i < f → zrT l f i = scn l i
 | 0, i, _, h => by omega
 | f + 1, 0, _, _ => by simp [zrT, scn]
 | f + 1, i + 1, hi, hf => by
  have hlt : i < l.length := by omega
  have hne : l.take (i + 1) ≠ [] := fun h => by have := congrArg List.length h; rw [List.length_take, List.length_nil] at this; omega
  have hlen : (l.take (i + 1)).length = i + 1 := by rw [List.length_take]; omega
  have hg : (l.take (i + 1)).getD ((l.take (i + 1)).length - 1) 0 = l.getD i 0 := by
   rw [hlen, Nat.add_sub_cancel]
   simp only [List.getD_eq_getElem?_getD]
   rw [List.getElem?_take_of_lt (by omega)]
  have h128 : (l.getD i 0).toNat < 128 := by
   rw [List.getD_eq_getElem?_getD, List.getElem?_eq_getElem hlt, Option.getD_some]
   exact ha _ (List.getElem_mem hlt)
  have hd : Lib.decodeLastL (l.take (i + 1)) = ((l.getD i 0).toNat, 1) := by
   unfold Lib.decodeLastL
   rw [if_neg hne, hg, if_pos h128]
  simp only [zrT, hd, scn]
  rw [if_neg (by omega), Nat.add_sub_cancel, lia_back l ha f i (by omega) (by omega)]
  have hs := isS_iff (l.getD i 0)
  by_cases h : isS (l.getD i 0) = true
  ·rw [if_pos (hs.1 h), if_pos h]
  ·rw [if_neg fun hh => h (hs.2 hh), if_neg h]
theorem strings_LastIndexAny_tot (l : List UInt8) (hl : l.length ≤ 1048576) : ∃ r, zmH.f (sb l) (⟨#[43, 45]⟩ : ByteArray) = some r ∧ -1 ≤ r ∧ r ≤ (l.length : Int) ∧ ((∀ b ∈ l, b.toNat < 128) → r = scn l l.length) := by
 unfold zmH.f
 rw [if_pos ⟨rfl, by rw [zjA]; exact hl⟩]
 refine ⟨_, rfl, ?_⟩
 simp only [zjA, sb_data, lia_scan, lia_sg]
 by_cases h1 : l.length = 1
 ·rw [if_pos h1]
  refine ⟨by split <;> omega, by split <;> omega, fun _ => ?_⟩
  rw [h1]
  rfl
 ·rw [if_neg h1]
  by_cases h8 : 8 < l.length
  ·rw [if_pos h8]
   have := scn_bd l l.length
   exact ⟨by omega, by omega, fun _ => rfl⟩
  ·rw [if_neg h8]
   have := lia_back_bd l (l.length + 1) l.length (Nat.le_refl _)
   exact ⟨this.1, this.2, fun ha => lia_back l ha _ _ (Nat.le_refl _) (by omega)⟩

theorem impl_within_eq (a b c : Int) : zrP.f a b c = some (decide (b ≤ a ∧ a ≤ c)) := by
 unfold zrP.f
 by_cases h : b ≤ a <;> simp [h]

theorem impl_ValidNum_eq (a b k : Int) : zdR.f a b k = some (decide (znX a b k)) := by
 unfold zdR.f znX
 simp only [impl_within_eq, Option.bind_some, and1]
 by_cases h1 : -131072 ≤ a ∧ a ≤ 131072
 ·by_cases h2 : -131072 ≤ b ∧ b ≤ 131072
  ·by_cases h3 : 0 ≤ k ∧ k ≤ 10
   ·simp only [h1, h2, h3, and_self, decide_true, if_true, true_and]
    by_cases h4 : k = 0
    ·simp [h4]
    ·by_cases h5 : a % 2 = 1
     ·simp [h4, h5]
     ·by_cases h6 : b % 2 = 1 <;> simp [h4, h5, h6]
   ·simp [h1, h2, h3]
  ·simp [h1, h2]
 ·simp [h1]

theorem impl_abs_eq (a : Int) (h0 : -9223372036854775807 ≤ a) (h1 : a ≤ 9223372036854775807) : impl_abs.f a = some (if a < 0 then -a else a) := by
 unfold impl_abs.f
 rw [w64 (by omega) (by omega)]
 congr 1
 unfold mx
 split <;> split <;> omega

theorem zlN (n : Int) (h0 : -9223372036854775808 ≤ n) (h1 : n ≤ 9223372036854775807) : zcM.f n = some (sb (Lib.itoa n)) := by
 unfold zcM.f strconv_FormatInt.f
 rw [if_pos rfl, if_pos ⟨h0, h1⟩]
 rfl

theorem impl_numText_eq (a b c : Int) (k : Nat) (h : znX a b c) (hk : 3 < k) : zjG.f k a b c = some (sb (zuQ a b c)) := by
 obtain ⟨la, lb, lc⟩ := itoa_numTxt_len h
 obtain ⟨ha, hb, hc, _⟩ := h
 have hs := shl_bd hc.1 hc.2
 obtain ⟨k, rfl⟩ : ∃ j, k = j + 2 := ⟨k - 2, by omega⟩
 have dc := zlN (shl .i64 1 c) (by omega) (by omega)
 have db := zlN b (by omega) (by omega)
 have j1 : ∀ (s : UInt8) (y : List UInt8), y.length ≤ 19 → (Lib.itoa (if b < 0 then -b else b)).length ≤ 19 → zjG.j1 (k + 1) (sb y) (sb [s]) a b c = some (sb (if c = 0 then y ++ (s :: (Lib.itoa (if b < 0 then -b else b) ++ [114])) else 40 :: (y ++ (s :: (Lib.itoa (if b < 0 then -b else b) ++ [114])) ++ (41 :: 47 :: Lib.itoa (shl .i64 1 c))))) := by
  intro s y hy hl
  simp only [zjG.j1]
  rw [impl_abs_eq b (by omega) (by omega)]
  simp only [Option.bind_some]
  rw [zlN _ (by split <;> omega) (by split <;> omega), dc]
  simp only [Option.bind_some, sb_one, zsH, zjA, List.length_append, List.length_cons, List.length_nil]
  rw [if_pos (by omega), if_pos (by omega), if_pos (by omega)]
  by_cases h0 : c = 0
  ·rw [if_pos h0, if_pos h0]; simp
  ·rw [if_neg h0, if_neg h0, if_pos (by omega), if_pos (by omega), if_pos (by omega), if_pos (by omega), if_pos (by omega)]
   simp [List.append_assoc]
 unfold zjG.f
 rw [zlN a (by omega) (by omega)]
 simp only [Option.bind_some, zjG.j0]
 by_cases h1 : b = 0
 ·have e : (b != 0) = false := by simp [h1]
  rw [e, dc]
  simp only [Bool.false_eq_true, if_false, Option.bind_some, sb_one, zsH, zjA, List.length_append, List.length_cons, List.length_nil, ite_self]
  rw [if_pos h1]
  unfold zuQ
  by_cases h0 : c = 0
  ·rw [if_pos h0]; simp [h0, h1]
  ·rw [if_neg h0, if_pos (by omega), if_pos (by omega), if_pos (by omega)]; simp [h0, h1]
 ·have e : (b != 0) = true := by simp [h1]
  rw [e, db, dc]
  simp only [if_true, Bool.false_eq_true, if_false, Option.bind_some, sb_one, zsH, zjA, List.length_append, List.length_cons, List.length_nil]
  by_cases h2 : a = 0
  ·rw [if_pos h2, if_pos (by omega)]
   unfold zuQ
   by_cases h0 : c = 0
   ·rw [if_pos h0]; simp [h0, h1, h2]
   ·rw [if_neg h0, if_pos (by omega), if_pos (by omega), if_pos (by omega)]; simp [h0, h1, h2, List.append_assoc]
  ·rw [if_neg h2, if_neg h1]
   unfold zuQ
   by_cases h3 : b < 0
   ·have hl : (Lib.itoa (-b)).length ≤ 19 := zoT (by omega)
    rw [if_pos h3, j1 45 _ la (by rw [if_pos h3]; exact hl), if_pos h3]
    have e3 := dec_neg h3
    have h4 : ¬ b > 0 := by omega
    by_cases h0 : c = 0 <;> simp [h0, h1, h2, h4, e3, List.append_assoc]
   ·rw [if_neg h3, j1 43 _ la (by rw [if_neg h3]; exact lb), if_neg h3]
    have h4 : b > 0 := by omega
    by_cases h0 : c = 0 <;> simp [h0, h1, h2, h4, List.append_assoc]

theorem parse_bd (l : List UInt8) (v : Int) (h : Lib.parseIntB 64 l = .ok v) : -9223372036854775808 ≤ v ∧ v ≤ 9223372036854775807 := by
 cases l with
 | nil => simp [Lib.parseIntB] at h
 | cons c r =>
  simp only [Lib.parseIntB] at h
  split at h
  ·cases h
  ·cases h
  ·rename_i u _
   split at h
   ·cases h
   ·split at h
    ·cases h
    ·rename_i h1 h2
     injection h with h
     have e : (2 : Nat) ^ (64 - 1) = 9223372036854775808 := rfl
     rw [e] at h1 h2
     by_cases hc : c.toNat = 45
     ·rw [if_pos hc] at h; omega
     ·rw [if_neg hc] at h; omega
theorem intSat_bd (l : List UInt8) : -9223372036854775808 ≤ Lib.intSat 64 l ∧ Lib.intSat 64 l ≤ 9223372036854775807 := by
 unfold Lib.intSat
 split <;> decide
theorem zyG (l : List UInt8) (hl : l.length ≤ 281474976710656) : ∃ v b, zkI.f (sb l) = some (v, b) ∧ -9223372036854775808 ≤ v ∧ v ≤ 9223372036854775807 ∧ (b = true → l = Lib.itoa v) := by
 unfold zkI.f
 rw [zjA, if_pos hl, sb_data, zuS]
 cases hp : Lib.parseIntB 64 l with
 | ok v =>
  have hb := parse_bd l v hp
  refine ⟨v, _, by dsimp only; rw [if_pos hb], hb.1, hb.2, fun h => (eq_of_beq h).symm⟩
 | range => exact ⟨_, false, rfl, (intSat_bd l).1, (intSat_bd l).2, fun h => by cases h⟩
 | _ => exact ⟨0, false, rfl, by omega, by omega, fun h => by cases h⟩
theorem zaS (n : Int) (h0 : -9223372036854775808 ≤ n) (h1 : n ≤ 9223372036854775807) (hl : (Lib.itoa n).length ≤ 281474976710656) : zkI.f (sb (Lib.itoa n)) = some (n, true) := by
 unfold zkI.f
 rw [zjA, if_pos hl, sb_data, zuS, parse_itoa n h0 h1]
 dsimp only
 rw [if_pos ⟨h0, h1⟩]
 simp
def tp (c : UInt8) (l : List UInt8) : List UInt8 := if l.head? = some c then l.tail else l
def ts (c : UInt8) (l : List UInt8) : List UInt8 := if l.getLast? = some c then l.dropLast else l
theorem tp_len (c : UInt8) (l : List UInt8) : (tp c l).length ≤ l.length := by unfold tp; split <;> simp
theorem ts_len (c : UInt8) (l : List UInt8) : (ts c l).length ≤ l.length := by unfold ts; split <;> simp
theorem hasPre (l : List UInt8) (c : UInt8) : stringslite_HasPrefix.f (sb l) (sb [c]) = some (decide (l.head? = some c)) := by
 unfold stringslite_HasPrefix.f
 simp only [zjA, zsR, zuS, List.length_singleton]
 cases l with
 | nil => rw [if_neg (by simp)]; rfl
 | cons x r =>
  rw [if_pos (by simp only [List.length_cons]; omega), if_pos (by omega), if_pos (by simp only [List.length_cons]; omega)]
  simp only [Int.toNat_natCast, List.drop_zero, List.head?_cons, Option.some.injEq]
  show ([x] == [c]) = _
  by_cases h : x = c
  ·subst h; simp
  ·rw [decide_eq_false h]; simpa using h
theorem hasSuf (l : List UInt8) (c : UInt8) (hl : l.length ≤ 1048576) : stringslite_HasSuffix.f (sb l) (sb [c]) = some (decide (l.getLast? = some c)) := by
 unfold stringslite_HasSuffix.f
 simp only [zjA, zsR, zuS, List.length_singleton]
 rcases List.eq_nil_or_concat l with rfl | ⟨r, x, rfl⟩
 ·rw [if_neg (by simp)]; rfl
 ·simp only [List.concat_eq_append] at *
  have e : (r ++ [x]).length = r.length + 1 := by simp
  have ew : wrap64 (((r ++ [x]).length : Int) - ((1 : Nat) : Int)) = ((r.length : Nat) : Int) := by rw [w64 (by omega) (by omega), e]; omega
  rw [if_pos (by omega), ew, if_pos (by omega), if_pos (by omega)]
  simp only [Int.toNat_natCast, List.take_length, List.drop_left, List.getLast?_append, List.getLast?_singleton, Option.some_or, Option.some.injEq]
  congr 1
  by_cases h : x = c
  ·subst h; simp
  ·rw [decide_eq_false h]; simpa using h
theorem trimPre (l : List UInt8) (c : UInt8) : zjE.f (sb l) (sb [c]) = some (sb (tp c l)) := by
 unfold zjE.f stringslite_TrimPrefix.f tp
 rw [hasPre]
 simp only [Option.bind_some, zjA, zsR, List.length_singleton]
 by_cases h : l.head? = some c
 ·have hl : 1 ≤ l.length := by cases l with | nil => simp at h | cons _ _ => simp
  rw [if_pos (decide_eq_true h), if_pos (by omega), if_pos (by omega), if_pos h]
  simp
 ·rw [if_neg (by simpa using h), if_neg h]
  rfl
theorem cutSuf (l : List UInt8) (c : UInt8) (hl : l.length ≤ 1048576) : stringslite_CutSuffix.f (sb l) (sb [c]) = some (sb (ts c l), decide (l.getLast? = some c)) := by
 unfold stringslite_CutSuffix.f ts
 rw [hasSuf l c hl]
 simp only [Option.bind_some, zjA, zsR, List.length_singleton]
 by_cases h : l.getLast? = some c
 ·have h1 : 1 ≤ l.length := by cases l with | nil => simp at h | cons _ _ => simp
  have ew : wrap64 ((l.length : Int) - ((1 : Nat) : Int)) = ((l.length - 1 : Nat) : Int) := by rw [w64 (by omega) (by omega)]; omega
  rw [if_pos (decide_eq_true h), ew, if_pos (by omega), if_pos (by omega), if_pos h, decide_eq_true h]
  simp [List.dropLast_eq_take]
 ·rw [if_neg (by simpa using h), if_neg h, decide_eq_false h]
theorem trimSuf (l : List UInt8) (c : UInt8) (hl : l.length ≤ 1048576) : ziM.f (sb l) (sb [c]) = some (sb (ts c l)) := by
 unfold ziM.f stringslite_TrimSuffix.f ts
 rw [hasSuf l c hl]
 simp only [Option.bind_some, zjA, zsR, List.length_singleton]
 by_cases h : l.getLast? = some c
 ·have h1 : 1 ≤ l.length := by cases l with | nil => simp at h | cons _ _ => simp
  have ew : wrap64 ((l.length : Int) - ((1 : Nat) : Int)) = ((l.length - 1 : Nat) : Int) := by rw [w64 (by omega) (by omega)]; omega
  rw [if_pos (decide_eq_true h), ew, if_pos (by omega), if_pos (by omega), if_pos h]
  simp [List.dropLast_eq_take]
 ·rw [if_neg (by simpa using h), if_neg h]
  rfl
theorem sCut (l : List UInt8) (c : UInt8) (hl : l.length ≤ 1048576) : strings_Cut.f (sb l) (sb [c]) = some (sb (Lib.cut l [c]).1, sb (Lib.cut l [c]).2.1, (Lib.cut l [c]).2.2) := by
 unfold strings_Cut.f
 rw [zjA, if_pos (by omega), sb_data, sb_data]
 rfl
theorem okB_128 {b : UInt8} (h : okB b) : b.toNat < 128 := by
 rcases h with h | rfl | rfl | rfl
 ·omega
 all_goals decide
theorem impl_readParts_tot (l : List UInt8) (hl : l.length ≤ 1048576) : ∃ a b, zsS.f (sb l) = some (a, b) ∧ (∀ x y : Int, x.natAbs < 10000000 → y.natAbs < 10000000 → l = bodyT x y → a = x ∧ b = y) := by
 unfold zsS.f zlW.f
 rw [show (⟨#[114]⟩ : ByteArray) = sb [114] from rfl, show (⟨#[43]⟩ : ByteArray) = sb [43] from rfl, cutSuf l 114 hl]
 simp only [Option.bind_some]
 by_cases h : l.getLast? = some 114
 ·have et : ts 114 l = l.dropLast := by unfold ts; rw [if_pos h]
  have hlen : (ts 114 l).length ≤ 1048576 := Nat.le_trans (ts_len _ _) hl
  obtain ⟨r, e, r1, r2, r3⟩ := strings_LastIndexAny_tot (ts 114 l) hlen
  rw [if_pos (decide_eq_true h), e]
  simp only [Option.bind_some]
  by_cases hr : r ≤ 0
  ·obtain ⟨v, b, e2, v1, v2, _⟩ := zyG (ts 114 l) (by omega)
   rw [if_pos hr, e2]
   refine ⟨0, v, rfl, ?_⟩
   intro x y hx hy hxy
   rcases body_forms x y with ⟨rfl, c, q, e4, _, e5⟩ | ⟨_, rfl, c, q, e4, e5, hq⟩ | ⟨_, _, p, c, q, hp, e4, hc, hq, e5, h6⟩
   ·exfalso
    apply e5
    rw [hxy, e4] at h
    rw [List.getLast?_eq_getElem?] at h
    simp only [List.length_cons, Nat.add_sub_cancel] at h
    rw [List.getD_eq_getElem?_getD, h]
    rfl
   ·have e6 : ts 114 l = Lib.itoa y := by rw [et, hxy, e5, e4, show c :: (q ++ [114]) = (c :: q) ++ [114] by simp, List.dropLast_concat]
    have hi := zaS y (by omega) (by omega) (by rw [← e6]; omega)
    rw [← e6, e2] at hi
    simp only [Option.some.injEq, Prod.mk.injEq] at hi
    exact ⟨rfl, hi.1⟩
   ·exfalso
    have e6 : ts 114 l = p ++ c :: q := by rw [et, hxy, e5, show p ++ (c :: (q ++ [114])) = (p ++ c :: q) ++ [114] by simp, List.dropLast_concat]
    have h128 : ∀ b ∈ ts 114 l, b.toNat < 128 := fun b hb => okB_128 (body_okB x y b (by rw [e5, show p ++ (c :: (q ++ [114])) = (p ++ c :: q) ++ [114] by simp, ← e6]; exact List.mem_append_left _ hb))
    have := r3 h128
    have hs := scn_app p c q hc hq q.length (Nat.le_refl _)
    rw [e6, show (p ++ c :: q).length = p.length + 1 + q.length by simp only [List.length_append, List.length_cons]; omega, hs] at this
    have : p.length ≠ 0 := by simpa using hp
    omega
  ·obtain ⟨n, rfl⟩ : ∃ n : Nat, r = (n : Int) := ⟨r.toNat, by omega⟩
   obtain ⟨v, b, e2, v1, v2, _⟩ := zyG ((ts 114 l).take n) (by rw [List.length_take]; omega)
   have hd : ((ts 114 l).drop n).length ≤ 1048576 := by rw [List.length_drop]; omega
   obtain ⟨v', b', e3, v1', v2', _⟩ := zyG (tp 43 ((ts 114 l).drop n)) (by have := tp_len 43 ((ts 114 l).drop n); omega)
   rw [if_neg hr, if_pos (by omega), zjA, if_pos (by omega)]
   simp only [Int.toNat_natCast, zsR, List.take_length, List.drop_zero]
   rw [e2]
   simp only [Option.bind_some]
   rw [trimPre]
   simp only [Option.bind_some]
   rw [e3]
   refine ⟨v, v', rfl, ?_⟩
   intro x y hx hy hxy
   rcases body_forms x y with ⟨rfl, c, q, e4, _, e5⟩ | ⟨_, rfl, c, q, e4, e5, hq⟩ | ⟨_, _, p, c, q, hp, e4, hc, hq, e5, h6⟩
   ·exfalso
    apply e5
    rw [hxy, e4] at h
    rw [List.getLast?_eq_getElem?] at h
    simp only [List.length_cons, Nat.add_sub_cancel] at h
    rw [List.getD_eq_getElem?_getD, h]
    rfl
   ·exfalso
    have e6 : ts 114 l = c :: q := by rw [et, hxy, e5, show c :: (q ++ [114]) = (c :: q) ++ [114] by simp, List.dropLast_concat]
    have h128 : ∀ b ∈ ts 114 l, b.toNat < 128 := fun b hb => okB_128 (body_okB 0 y b (by rw [e5, show c :: (q ++ [114]) = (c :: q) ++ [114] by simp, ← e6]; exact List.mem_append_left _ hb))
    have := r3 h128
    have hs := scn_low c q hq q.length (Nat.le_refl _)
    rw [e6, show (c :: q).length = 1 + q.length by simp only [List.length_cons]; omega] at this
    omega
   ·have e6 : ts 114 l = p ++ c :: q := by rw [et, hxy, e5, show p ++ (c :: (q ++ [114])) = (p ++ c :: q) ++ [114] by simp, List.dropLast_concat]
    have h128 : ∀ b ∈ ts 114 l, b.toNat < 128 := fun b hb => okB_128 (body_okB x y b (by rw [e5, show p ++ (c :: (q ++ [114])) = (p ++ c :: q) ++ [114] by simp, ← e6]; exact List.mem_append_left _ hb))
    have hn := r3 h128
    have hs := scn_app p c q hc hq q.length (Nat.le_refl _)
    rw [e6, show (p ++ c :: q).length = p.length + 1 + q.length by simp only [List.length_append, List.length_cons]; omega, hs] at hn
    obtain rfl : n = p.length := by omega
    have hlp : (ts 114 l).length = p.length + 1 + q.length := by rw [e6]; simp only [List.length_append, List.length_cons]; omega
    rw [e6, List.take_left, e4] at e2
    rw [e6, List.drop_left] at e3
    have hix := zaS x (by omega) (by omega) (by rw [← e4]; omega)
    rw [hix] at e2
    simp only [Option.some.injEq, Prod.mk.injEq] at e2
    refine ⟨e2.1.symm, ?_⟩
    rcases h6 with ⟨h0, rfl, hq6⟩ | ⟨h0, rfl, hq6⟩
    ·have ht : tp 43 (43 :: q) = q := by unfold tp; rw [if_pos (by simp)]; rfl
     rw [ht, hq6] at e3
     have hiy := zaS y (by omega) (by omega) (by rw [← hq6]; omega)
     rw [hiy] at e3
     simp only [Option.some.injEq, Prod.mk.injEq] at e3
     exact e3.1.symm
    ·have ht : tp 43 (45 :: q) = 45 :: q := by unfold tp; rw [if_neg (by simp)]
     rw [ht, hq6] at e3
     have hiy := zaS y (by omega) (by omega) (by rw [← hq6, List.length_cons]; omega)
     rw [hiy] at e3
     simp only [Option.some.injEq, Prod.mk.injEq] at e3
     exact e3.1.symm
 ·obtain ⟨v, b, e2, v1, v2, _⟩ := zyG l (by omega)
  rw [if_neg (by simpa using h), e2]
  refine ⟨v, 0, rfl, ?_⟩
  intro x y hx hy hxy
  have hlast : ∀ m : List UInt8, l = m ++ [114] → False := fun m hm => h (by rw [hm]; simp)
  rcases body_forms x y with ⟨rfl, c, q, e4, e4', e5⟩ | ⟨_, rfl, c, q, e4, e5, hq⟩ | ⟨_, _, p, c, q, hp, e4, hc, hq, e5, h6⟩
  ·rw [hxy, e4'] at e2
   have hi := zaS x (by omega) (by omega) (by rw [← e4', ← hxy]; omega)
   rw [hi] at e2
   simp only [Option.some.injEq, Prod.mk.injEq] at e2
   exact ⟨e2.1.symm, rfl⟩
  ·exact (hlast (c :: q) (by rw [hxy, e5]; simp)).elim
  ·exact (hlast (p ++ c :: q) (by rw [hxy, e5]; simp)).elim
def unq (t : List UInt8) : List UInt8 := ts 41 (tp 40 t)
theorem unq_body (a b : Int) : unq (bodyT a b) = bodyT a b := by
 have h1 : tp 40 (bodyT a b) = bodyT a b := by
  unfold tp
  rw [if_neg fun h => ?_]
  exact (okB_ne (body_okB a b _ (List.mem_of_mem_head? h))).2.1 rfl
 unfold unq
 rw [h1]
 unfold ts
 rw [if_neg fun h => ?_]
 exact (okB_ne (body_okB a b _ (List.mem_of_getLast? h))).2.2 rfl
theorem unq_par (l : List UInt8) : unq (40 :: (l ++ [41])) = l := by
 have h1 : tp 40 (40 :: (l ++ [41])) = l ++ [41] := by unfold tp; rw [if_pos (by simp)]; rfl
 unfold unq
 rw [h1]
 unfold ts
 rw [if_pos (by simp), List.dropLast_concat]
theorem len64_shl {k : Int} (h0 : 0 ≤ k) (h1 : k ≤ 10) : ((Lib.bitLen (IntKind.u64.wrap (shl .i64 1 k)).toNat : Nat) : Int) = k + 1 := by
 have : k = 0 ∨ k = 1 ∨ k = 2 ∨ k = 3 ∨ k = 4 ∨ k = 5 ∨ k = 6 ∨ k = 7 ∨ k = 8 ∨ k = 9 ∨ k = 10 := by omega
 rcases this with rfl | rfl | rfl | rfl | rfl | rfl | rfl | rfl | rfl | rfl | rfl <;> decide
theorem u64_bd (v : Int) : 0 ≤ IntKind.u64.wrap v ∧ IntKind.u64.wrap v ≤ 18446744073709551615 := by
 have e : IntKind.u64.wrap v = v % 18446744073709551616 := by
  simp [IntKind.wrap, IntKind.signed, IntKind.bits]
 rw [e]; omega
theorem impl_ReadNum_j0 (s t : List UInt8) (A B K : Int) (k : Nat) (ht : t.length ≤ 1048576) (hk : 100 < k) :
  ∃ a b, zaB.j0 k (sb s) (sb t) A B K = some (if znX a b K ∧ zuQ a b K = s then (a, b, K, true) else (0, 0, 0, false)) ∧ (∀ x y : Int, x.natAbs < 10000000 → y.natAbs < 10000000 → unq t = bodyT x y → a = x ∧ b = y) := by
 obtain ⟨k, rfl⟩ : ∃ m, k = m + 1 := ⟨k - 1, by omega⟩
 have h1 := tp_len 40 t
 have h2 := ts_len 41 (tp 40 t)
 obtain ⟨a, b, e, h⟩ := impl_readParts_tot (unq t) (by unfold unq; omega)
 refine ⟨a, b, ?_, h⟩
 simp only [zaB.j0]
 rw [show (⟨#[40]⟩ : ByteArray) = sb [40] from rfl, show (⟨#[41]⟩ : ByteArray) = sb [41] from rfl, trimPre]
 simp only [Option.bind_some]
 rw [trimSuf _ 41 (by omega)]
 simp only [Option.bind_some]
 rw [show sb (ts 41 (tp 40 t)) = sb (unq t) from rfl, e]
 simp only [Option.bind_some]
 rw [impl_ValidNum_eq]
 simp only [Option.bind_some]
 by_cases hn : znX a b K
 ·rw [if_pos (decide_eq_true hn), impl_numText_eq a b K k hn (by omega)]
  simp only [Option.bind_some, zuS, hn, true_and]
  by_cases hs : zuQ a b K = s
  ·rw [if_pos hs, if_pos hs]
  ·rw [if_neg hs, if_neg hs]
 ·rw [if_neg (by simpa using hn), if_neg fun hh => hn hh.1]
theorem impl_ReadNum_eq (s : List UInt8) (k : Nat) (hs : s.length ≤ 1048576) (hk : 100 < k) : zaB.f k (sb s) = some (zoA s) := by
 unfold zaB.f
 obtain ⟨c1, c2⟩ := cut_len s 47
 rw [show (⟨#[47]⟩ : ByteArray) = sb [47] from rfl, sCut s 47 hs]
 simp only [Option.bind_some]
 by_cases hf : (Lib.cut s [47]).2.2 = true
 ·rw [if_pos hf]
  obtain ⟨v, b, e, v1, v2, _⟩ := zyG (Lib.cut s [47]).2.1 (by omega)
  rw [e]
  simp only [Option.bind_some]
  unfold bits_Len64.f
  rw [if_pos (u64_bd v)]
  simp only [Option.bind_some]
  obtain ⟨a, b, e2, h⟩ := impl_ReadNum_j0 s (Lib.cut s [47]).1 0 0 (wrap64 ((Lib.bitLen (IntKind.u64.wrap v).toNat : Int) - 1)) k (by omega) hk
  rw [e2]
  congr 1
  refine readN_of s a b _ ?_
  intro x y z hz hxy
  obtain ⟨zx, zy, zk, _⟩ := id hz
  rw [hxy, num_cut] at h hf e
  by_cases h0 : z = 0
  ·rw [if_pos h0] at hf; cases hf
  ·rw [if_neg h0] at h e
   dsimp only at h e
   have hi := zaS (shl .i64 1 z) (by have := shl_bd zk.1 zk.2; omega) (by have := shl_bd zk.1 zk.2; omega) (by have := zoT (n := shl .i64 1 z) (by have := shl_bd zk.1 zk.2; omega); omega)
   rw [hi] at e
   simp only [Option.some.injEq, Prod.mk.injEq] at e
   have hK : wrap64 ((Lib.bitLen (IntKind.u64.wrap v).toNat : Int) - 1) = z := by
    rw [← e.1, len64_shl zk.1 zk.2, w64 (by omega) (by omega)]; omega
   have hab := h x y (by omega) (by omega) (by
    by_cases hc : x = 0 ∨ y = 0
    ·rw [if_pos hc]; exact unq_body x y
    ·rw [if_neg hc]; exact unq_par _)
   exact ⟨hab.1, hab.2, hK⟩
 ·rw [if_neg hf]
  obtain ⟨a, b, e2, h⟩ := impl_ReadNum_j0 s (Lib.cut s [47]).1 0 0 0 k (by omega) hk
  rw [e2]
  congr 1
  refine readN_of s a b _ ?_
  intro x y z hz hxy
  obtain ⟨zx, zy, zk, _⟩ := id hz
  rw [hxy, num_cut] at h hf
  by_cases h0 : z = 0
  ·rw [if_pos h0] at h
   have hab := h x y (by omega) (by omega) (unq_body x y)
   exact ⟨hab.1, hab.2, h0.symm⟩
  ·rw [if_neg h0] at hf
   exact absurd rfl hf

theorem num_mem {a b k : Int} {x : UInt8} (h : x ∈ zuQ a b k) : x ≠ 44 ∧ x ≠ 32 ∧ x ≠ 64 := by
 have hB : ∀ y, okB y → y ≠ 44 ∧ y ≠ 32 ∧ y ≠ 64 := by
  intro y hy
  rcases hy with hy | rfl | rfl | rfl
  ·refine ⟨?_, ?_, ?_⟩ <;> rintro rfl <;> revert hy <;> decide
  all_goals decide
 have hI : ∀ (n : Int) (y : UInt8), y ∈ Lib.itoa n → y ≠ 44 ∧ y ≠ 32 ∧ y ≠ 64 := fun n y hy => hB y ((itoa_okB n y hy).elim (fun h => Or.inl h) (fun h => Or.inr (Or.inr (Or.inl h))))
 rw [numTxt_body] at h
 split at h
 ·exact hB x (body_okB a b x h)
 ·split at h
  ·rcases List.mem_append.1 h with h | h
   ·exact hB x (body_okB a b x h)
   ·rcases List.mem_cons.1 h with rfl | h
    ·decide
    ·exact hI _ x h
  ·rcases List.mem_cons.1 h with rfl | h
   ·decide
   ·rcases List.mem_append.1 h with h | h
    ·exact hB x (body_okB a b x h)
    ·rcases List.mem_cons.1 h with rfl | h
     ·decide
     ·rcases List.mem_cons.1 h with rfl | h
      ·decide
      ·exact hI _ x h
theorem num_ne (a b k : Int) : zuQ a b k ≠ [] := by
 rw [numTxt_body]
 have := body_ne a b
 split
 ·exact this
 ·split <;> simp
theorem readN_ok {s : List UInt8} (h : (zoA s).2.2.2 = true) : znX (zoA s).1 (zoA s).2.1 (zoA s).2.2.1 ∧ s = zuQ (zoA s).1 (zoA s).2.1 (zoA s).2.2.1 := by
 rcases readN_or s with ⟨a, b, k, h1, h2, h3⟩ | h2
 ·rw [h3]; exact ⟨h1, h2⟩
 ·rw [h2.1] at h; cases h
def readP (s : List UInt8) : Int × Int × Int × Int × Int × Int × Bool :=
 if s.head? = some 40 ∧ (tp 40 s).getLast? = some 41 ∧ (Lib.cut (ts 41 (tp 40 s)) [44]).2.2 = true ∧ (zoA (Lib.cut (ts 41 (tp 40 s)) [44]).1).2.2.2 = true ∧ (zoA (Lib.cut (ts 41 (tp 40 s)) [44]).2.1).2.2.2 = true then
  ((zoA (Lib.cut (ts 41 (tp 40 s)) [44]).1).1, (zoA (Lib.cut (ts 41 (tp 40 s)) [44]).1).2.1, (zoA (Lib.cut (ts 41 (tp 40 s)) [44]).1).2.2.1, (zoA (Lib.cut (ts 41 (tp 40 s)) [44]).2.1).1, (zoA (Lib.cut (ts 41 (tp 40 s)) [44]).2.1).2.1, (zoA (Lib.cut (ts 41 (tp 40 s)) [44]).2.1).2.2.1, true)
 else (0, 0, 0, 0, 0, 0, false)
theorem readP_pnt {a b c d e f : Int} (h : znX a b c) (h2 : znX d e f) : readP (zsM a b c d e f) = (a, b, c, d, e, f, true) := by
 have e1 : tp 40 (zsM a b c d e f) = (zuQ a b c ++ 44 :: zuQ d e f) ++ [41] := by
  unfold tp zsM
  rw [if_pos (by simp)]
  simp
 have e2 : ts 41 (tp 40 (zsM a b c d e f)) = zuQ a b c ++ 44 :: zuQ d e f := by
  rw [e1]; unfold ts
  rw [if_pos List.getLast?_concat, List.dropLast_concat]
 have e3 : Lib.cut (zuQ a b c ++ 44 :: zuQ d e f) [44] = (zuQ a b c, zuQ d e f, true) := cut_at fun hm => (num_mem hm).1 rfl
 unfold readP
 rw [e2, e3]
 dsimp only
 rw [readN_num h, readN_num h2, e1, if_pos ⟨by simp [zsM], List.getLast?_concat, rfl, rfl, rfl⟩]
theorem readP_or (s : List UInt8) : (∃ a b c d e f, znX a b c ∧ znX d e f ∧ s = zsM a b c d e f ∧ readP s = (a, b, c, d, e, f, true)) ∨ (readP s = (0, 0, 0, 0, 0, 0, false) ∧ ¬ ∃ a b c d e f, znX a b c ∧ znX d e f ∧ s = zsM a b c d e f) := by
 by_cases h : ∃ a b c d e f, znX a b c ∧ znX d e f ∧ s = zsM a b c d e f
 ·obtain ⟨a, b, c, d, e, f, h1, h2, h3⟩ := h
  exact Or.inl ⟨a, b, c, d, e, f, h1, h2, h3, by rw [h3]; exact readP_pnt h1 h2⟩
 ·refine Or.inr ⟨?_, h⟩
  unfold readP
  rw [if_neg]
  rintro ⟨h1, h2, h3, h4, h5⟩
  apply h
  obtain ⟨n1, m1⟩ := readN_ok h4
  obtain ⟨n2, m2⟩ := readN_ok h5
  refine ⟨_, _, _, _, _, _, n1, n2, ?_⟩
  have s1 : s = 40 :: tp 40 s := by
   unfold tp; rw [if_pos h1]
   cases s with
   | nil => simp at h1
   | cons x r => simp at h1; rw [h1]; rfl
  have s2 : tp 40 s = ts 41 (tp 40 s) ++ [41] := by
   unfold ts; rw [if_pos h2]
   generalize tp 40 s = t at h2
   rcases List.eq_nil_or_concat t with rfl | ⟨r, x, rfl⟩
   ·simp at h2
   ·simp at h2; subst h2; simp
  have s3 : ts 41 (tp 40 s) = (Lib.cut (ts 41 (tp 40 s)) [44]).1 ++ 44 :: (Lib.cut (ts 41 (tp 40 s)) [44]).2.1 := by
   generalize ts 41 (tp 40 s) = t at h3
   by_cases hm : (44 : UInt8) ∈ t
   ·obtain ⟨p, q, rfl, hp⟩ := List.eq_append_cons_of_mem hm
    rw [cut_at hp]
   ·rw [cut_no hm] at h3; cases h3
  unfold zsM
  rw [← m1, ← m2]
  conv => lhs; rw [s1, s2, s3]
  simp
theorem impl_ReadPoint_eq (s : List UInt8) (k : Nat) (hs : s.length ≤ 1048576) (hk : 100 < k) : zkJ.f k (sb s) = some (readP s) := by
 have h1 := tp_len 40 s
 have h2 := ts_len 41 (tp 40 s)
 obtain ⟨c1, c2⟩ := cut_len (ts 41 (tp 40 s)) 44
 have hp : zvO.f (sb s) (⟨#[40]⟩ : ByteArray) = some (sb (tp 40 s), decide (s.head? = some 40)) := by
  unfold zvO.f stringslite_CutPrefix.f tp
  rw [show (⟨#[40]⟩ : ByteArray) = sb [40] from rfl, hasPre]
  simp only [Option.bind_some, zjA, zsR, List.length_singleton]
  by_cases h : s.head? = some 40
  ·have hl : 1 ≤ s.length := by cases s with | nil => simp at h | cons _ _ => simp
   rw [if_pos (decide_eq_true h), if_pos (by omega), if_pos (by omega), if_pos h, decide_eq_true h]
   simp
  ·rw [if_neg (by simpa using h), if_neg h, decide_eq_false h]
   rfl
 unfold zkJ.f zlW.f
 rw [hp]
 simp only [Option.bind_some]
 rw [show (⟨#[41]⟩ : ByteArray) = sb [41] from rfl, show (⟨#[44]⟩ : ByteArray) = sb [44] from rfl, cutSuf _ 41 (by omega)]
 simp only [Option.bind_some]
 rw [sCut _ 44 (by omega)]
 simp only [Option.bind_some]
 rw [impl_ReadNum_eq _ k (by omega) hk, impl_ReadNum_eq _ k (by omega) hk]
 simp only [Option.bind_some, decide_eq_true_eq]
 unfold readP
 by_cases a1 : s.head? = some 40
 ·by_cases a2 : (tp 40 s).getLast? = some 41
  ·by_cases a3 : (Lib.cut (ts 41 (tp 40 s)) [44]).2.2 = true
   ·by_cases a4 : (zoA (Lib.cut (ts 41 (tp 40 s)) [44]).1).2.2.2 = true
    ·by_cases a5 : (zoA (Lib.cut (ts 41 (tp 40 s)) [44]).2.1).2.2.2 = true
     ·rw [if_pos a1, if_pos a2, if_pos a3, if_pos a4, if_pos a5, if_pos ⟨a1, a2, a3, a4, a5⟩]
     ·rw [if_pos a1, if_pos a2, if_pos a3, if_pos a4, if_neg a5, if_neg fun h => a5 h.2.2.2.2]
    ·rw [if_pos a1, if_pos a2, if_pos a3, if_neg a4, if_neg fun h => a4 h.2.2.2.1]
   ·rw [if_pos a1, if_pos a2, if_neg a3, if_neg fun h => a3 h.2.2.1]
  ·rw [if_pos a1, if_neg a2, if_neg fun h => a2 h.2.1]
 ·rw [if_neg a1, if_neg fun h => a1 h.1]

def spl (c : UInt8) : List UInt8 → List UInt8 → List (List UInt8)
 | cur, [] => [cur]
 | cur, b :: l => if b = c then cur :: spl c [] l else spl c (cur ++ [b]) l
theorem spl_no (c : UInt8) : ∀ (l cur : List UInt8), c ∉ l → spl c cur l = [cur ++ l]
 | [], cur, _ => by simp [spl]
 | b :: l, cur, h => by
  simp only [List.mem_cons, not_or] at h
  simp only [spl]
  rw [if_neg (Ne.symm h.1), spl_no c l _ h.2]
  simp
theorem spl_app (c : UInt8) (q : List UInt8) : ∀ (p cur : List UInt8), c ∉ p → spl c cur (p ++ c :: q) = (cur ++ p) :: spl c [] q
 | [], cur, _ => by simp [spl]
 | b :: l, cur, h => by
  simp only [List.mem_cons, not_or] at h
  simp only [List.cons_append, spl]
  rw [if_neg (Ne.symm h.1), spl_app c q l _ h.2]
  simp
theorem spl_pos (c : UInt8) : ∀ (l cur : List UInt8), 1 ≤ (spl c cur l).length
 | [], cur => by simp [spl]
 | b :: l, cur => by
  simp only [spl]
  split
  ·simp
  ·exact spl_pos c l _
theorem spl_two {c : UInt8} {s : List UInt8} (h : (spl c [] s).length = 2) : ∃ p q, s = p ++ c :: q ∧ c ∉ p ∧ c ∉ q ∧ spl c [] s = [p, q] := by
 by_cases hm : c ∈ s
 ·obtain ⟨p, q, rfl, hp⟩ := List.eq_append_cons_of_mem hm
  have e := spl_app c q p [] hp
  rw [e] at h
  by_cases hq : c ∈ q
  ·obtain ⟨p2, q2, rfl, hp2⟩ := List.eq_append_cons_of_mem hq
   rw [spl_app c q2 p2 [] hp2] at h
   have := spl_pos c q2 []
   simp only [List.length_cons] at h
   omega
  ·exact ⟨p, q, rfl, hp, hq, by rw [e, spl_no c q [] hq]; simp⟩
 ·rw [spl_no c s [] hm] at h; simp at h
theorem split_loop (s : List UInt8) (c : UInt8) (hs : s.length ≤ 1048576) : ∀ (l cur done : List UInt8) (acc : List ByteArray) (k : Nat), s = done ++ cur ++ l → acc.length ≤ done.length → l.length < k →
  zjY.l0 k (sb s) (c.toNat : Int) acc (done.length : Int) ((done.length + cur.length : Nat) : Int) = some (acc ++ (spl c cur l).map sb)
 | [], cur, done, acc, k, h, ha, hk => by
  obtain ⟨k, rfl⟩ : ∃ m, k = m + 1 := ⟨k - 1, by omega⟩
  have hl : s.length = done.length + cur.length := by rw [h]; simp
  simp only [zjY.l0, zjA, Int.toNat_natCast, zsR, List.take_length]
  rw [if_neg (by omega), if_pos (by omega), if_pos (by omega), if_pos (by omega), h]
  simp [spl]
 | b :: l, cur, done, acc, k, h, ha, hk => by
  obtain ⟨k, rfl⟩ : ∃ m, k = m + 1 := ⟨k - 1, by omega⟩
  have hll : (b :: l).length = l.length + 1 := rfl
  have hl : s.length = done.length + cur.length + (l.length + 1) := by rw [h]; simp; omega
  have hg : s.getD (done.length + cur.length) 0 = b := by
   rw [h, List.getD_eq_getElem?_getD, List.getElem?_append_right (by simp)]
   simp
  simp only [zjY.l0, zjA]
  rw [if_pos (by omega), if_pos (by omega), bt_sb (by omega), hg]
  by_cases hb : b = c
  ·subst hb
   rw [if_pos rfl, if_pos (by omega), if_pos (by omega), if_pos (by omega), if_pos (by omega), Int.toNat_natCast, Int.toNat_natCast, zsR, succ64 (by omega)]
   have hx : (s.take (done.length + cur.length)).drop done.length = cur := by
    rw [h, show done ++ cur ++ b :: l = (done ++ cur) ++ b :: l from rfl, show done.length + cur.length = (done ++ cur).length by simp, List.take_left, List.drop_left]
   have ih := split_loop s b hs l [] (done ++ cur ++ [b]) (acc ++ [sb cur]) k (by rw [h]; simp) (by simp; omega) (by omega)
   rw [hx]
   simp only [List.length_append, List.length_singleton, List.length_nil, Nat.add_zero] at ih
   rw [ih]
   simp [spl]
  ·have hn : ¬ (b.toNat : Int) = (c.toNat : Int) := fun hh => hb (by rw [← UInt8.toNat_inj]; omega)
   rw [if_neg hn, succ64 (by omega)]
   have ih := split_loop s c hs l (cur ++ [b]) done acc k (by rw [h]; simp) ha (by omega)
   simp only [List.length_append, List.length_singleton] at ih
   rw [show done.length + cur.length + 1 = done.length + (cur.length + 1) by omega, ih]
   simp only [spl]
   rw [if_neg hb]
theorem spec_l02Split_eq (s : List UInt8) (c : UInt8) (k : Nat) (hs : s.length ≤ 1048576) (hk : s.length < k) : zjY.f k (sb s) (c.toNat : Int) = some ((spl c [] s).map sb) := by
 have := split_loop s c hs s [] [] [] k rfl (by simp) hk
 unfold zjY.f
 simpa using this
theorem spl_pnt (a b c d e f : Int) : spl 44 [] (zsM a b c d e f) = [40 :: zuQ a b c, zuQ d e f ++ [41]] := by
 have h1 : (44 : UInt8) ∉ (40 :: zuQ a b c) := by
  intro hm
  rcases List.mem_cons.1 hm with hm | hm
  ·exact absurd hm (by decide)
  ·exact (num_mem hm).1 rfl
 have h2 : (44 : UInt8) ∉ (zuQ d e f ++ [41]) := by
  intro hm
  rcases List.mem_append.1 hm with hm | hm
  ·exact (num_mem hm).1 rfl
  ·exact absurd (List.mem_singleton.1 hm) (by decide)
 rw [show zsM a b c d e f = (40 :: zuQ a b c) ++ 44 :: (zuQ d e f ++ [41]) from rfl, spl_app 44 _ _ [] h1, spl_no 44 _ [] h2]
 rfl
theorem getD_end (m : List UInt8) (x : UInt8) : (m ++ [x]).getD ((m ++ [x]).length - 1) 0 = x := by simp [List.getD_eq_getElem?_getD]
theorem pnt_len {a b c d e f : Int} : 5 ≤ (zsM a b c d e f).length := by
 have h1 : 1 ≤ (zuQ a b c).length := by have := num_ne a b c; cases h : zuQ a b c with | nil => exact absurd h this | cons _ _ => simp
 have h2 : 1 ≤ (zuQ d e f).length := by have := num_ne d e f; cases h : zuQ d e f with | nil => exact absurd h this | cons _ _ => simp
 simp only [zsM, List.length_cons, List.length_append, List.length_nil]
 omega
theorem ReadPoint_j0t (l : List ByteArray) (k : Nat) (hk : 0 < k) : zkO.j0 k l true = some (0, 0, 0, 0, 0, 0, false) := by
 obtain ⟨k, rfl⟩ : ∃ m, k = m + 1 := ⟨k - 1, by omega⟩
 simp only [zkO.j0]
 rw [if_pos trivial]
theorem spec_ReadPoint_eq (s : List UInt8) (k : Nat) (hs : s.length ≤ 1048576) (hk : 2 * s.length + 410 < k) : zkO.f k (sb s) = some (readP s) := by
 unfold zkO.f
 rw [show (44 : Int) = (((44 : UInt8).toNat : Nat) : Int) from rfl, spec_l02Split_eq s 44 k hs (by omega)]
 simp only [Option.bind_some, zjA, List.length_map]
 have zero : (¬ ∃ a b c d e f, znX a b c ∧ znX d e f ∧ s = zsM a b c d e f) → readP s = (0, 0, 0, 0, 0, 0, false) := fun h => by
  rcases readP_or s with ⟨a, b, c, d, e, f, h1, h2, h3, _⟩ | h2
  ·exact absurd ⟨a, b, c, d, e, f, h1, h2, h3⟩ h
  ·exact h2.1
 by_cases h2 : (spl 44 [] s).length = 2
 ·rw [if_pos (by omega)]
  obtain ⟨p, q, hsp, hp, hq, e⟩ := spl_two h2
  rw [e]
  by_cases h5 : s.length < 5
  ·rw [if_pos (by omega), ReadPoint_j0t _ k (by omega), zero]
   rintro ⟨a, b, c, d, e, f, _, _, h⟩
   have := pnt_len (a := a) (b := b) (c := c) (d := d) (e := e) (f := f)
   rw [← h] at this; omega
  ·have hb0 : bt (sb s) 0 = ((s.getD 0 0).toNat : Int) := bt_sb (l := s) (j := 0) (by omega)
   rw [if_neg (by omega), if_pos (by omega), hb0]
   by_cases h40 : s.getD 0 0 = 40
   ·rw [if_pos (by rw [h40]; rfl), pred64 (by omega) (by omega), if_pos (by omega), if_pos (by omega), bt_sb (by omega)]
    by_cases h41 : s.getD (s.length - 1) 0 = 41
    ·have hc : (((s.getD (s.length - 1) 0).toNat : Int) != 41) = false := by rw [h41]; rfl
     rw [hc]
     obtain ⟨k, rfl⟩ : ∃ m, k = m + 1 := ⟨k - 1, by omega⟩
     have hsl : s.length = p.length + 1 + q.length := by rw [hsp]; simp only [List.length_append, List.length_cons]; omega
     -- p begins with '(', q ends with ')'
     obtain ⟨p', rfl⟩ : ∃ p', p = 40 :: p' := by
      cases p with
      | nil => rw [hsp] at h40; have h40 : (44 : UInt8) = 40 := h40; exact absurd h40 (by decide)
      | cons x r => rw [hsp] at h40; exact ⟨r, by have h40 : x = 40 := h40; rw [h40]⟩
     obtain ⟨q', rfl⟩ : ∃ q', q = q' ++ [41] := by
      rcases List.eq_nil_or_concat q with rfl | ⟨r, x, rfl⟩
      ·rw [hsp] at h41
       rw [getD_end] at h41
       exact absurd h41 (by decide)
      ·refine ⟨r, ?_⟩
       have hx : s.getD (s.length - 1) 0 = x := by
        rw [hsp, show 40 :: p' ++ 44 :: (r.concat x) = (40 :: p' ++ 44 :: r) ++ [x] by simp]
        exact getD_end _ _
       rw [hx] at h41
       rw [h41]; simp
     simp only [List.length_cons, List.length_append, List.length_nil] at hsl
     have x1 : (sb (40 :: p')).extract 1 (40 :: p').length = sb p' := by rw [zsR]; simp
     have x2 : (sb (q' ++ [41])).extract 0 q'.length = sb q' := by rw [zsR]; simp
     have ew : wrap64 (((q' ++ [41]).length : Int) - 1) = ((q'.length : Nat) : Int) := by rw [pred64 (by simp; omega) (by simp)]; simp
     have r0 : zzV ByteArray.empty (List.map sb [40 :: p', q' ++ [41]]) 0 = sb (40 :: p') := rfl
     have r1 : zzV ByteArray.empty (List.map sb [40 :: p', q' ++ [41]]) 1 = sb (q' ++ [41]) := rfl
     simp only [zkO.j0, r0, r1, zjA, x1, ew, Int.toNat_natCast, x2]
     rw [if_neg (by simp), if_pos (by simp), if_pos (by simp only [List.length_cons]; omega), spec_ReadNum_eq p' k (by omega) (by omega)]
     simp only [Option.bind_some]
     rw [if_pos (by simp), if_pos (by omega), if_pos (by simp only [List.length_append, List.length_singleton]; omega), spec_ReadNum_eq q' k (by omega) (by omega)]
     simp only [Option.bind_some]
     have hs2 : s = 40 :: (p' ++ (44 :: (q' ++ [41]))) := hsp
     rcases readN_or p' with ⟨a, b, c, n1, m1, o1⟩ | ⟨o1, n1⟩
     ·rcases readN_or q' with ⟨d, e, f, n2, m2, o2⟩ | ⟨o2, n2⟩
      ·rw [o1, o2, hs2, m1, m2, show (40 :: (zuQ a b c ++ (44 :: (zuQ d e f ++ [41])))) = zsM a b c d e f from rfl, readP_pnt n1 n2]
       rfl
      ·rw [o1, o2, zero]
       ·rfl
       ·rintro ⟨a', b', c', d', e', f', g1, g2, g3⟩
        have hu : spl 44 [] s = [40 :: zuQ a' b' c', zuQ d' e' f' ++ [41]] := by rw [g3]; exact spl_pnt _ _ _ _ _ _
        rw [‹spl 44 [] s = [40 :: p', q' ++ [41]]›] at hu
        simp only [List.cons.injEq, and_true, true_and] at hu
        exact n2 ⟨d', e', f', g2, List.append_cancel_right hu.2⟩
     ·have hz : (if (zoA p').2.2.2 = true then (if (zoA q').2.2.2 = true then some ((zoA p').1, (zoA p').2.1, (zoA p').2.2.1, (zoA q').1, (zoA q').2.1, (zoA q').2.2.1, true) else some (0, 0, 0, 0, 0, 0, false)) else some ((0, 0, 0, 0, 0, 0, false) : Int × Int × Int × Int × Int × Int × Bool)) = some (0, 0, 0, 0, 0, 0, false) := by rw [o1]; rfl
      rw [hz, zero]
      rintro ⟨a', b', c', d', e', f', g1, g2, g3⟩
      have hu : spl 44 [] s = [40 :: zuQ a' b' c', zuQ d' e' f' ++ [41]] := by rw [g3]; exact spl_pnt _ _ _ _ _ _
      rw [‹spl 44 [] s = [40 :: p', q' ++ [41]]›] at hu
      simp only [List.cons.injEq, and_true, true_and] at hu
      exact n1 ⟨a', b', c', g1, hu.1⟩
    ·have hc : (((s.getD (s.length - 1) 0).toNat : Int) != 41) = true := bne_iff_ne.2 fun hh => h41 (by rw [← UInt8.toNat_inj]; show (s.getD (s.length - 1) 0).toNat = 41; omega)
     rw [hc, ReadPoint_j0t _ k (by omega), zero]
     rintro ⟨a', b', c', d', e', f', g1, g2, g3⟩
     apply h41
     rw [g3, show zsM a' b' c' d' e' f' = (40 :: (zuQ a' b' c' ++ (44 :: zuQ d' e' f'))) ++ [41] by simp [zsM]]
     exact getD_end _ _
   ·have hn : ¬ ((s.getD 0 0).toNat : Int) = 40 := fun hh => h40 (by rw [← UInt8.toNat_inj]; show (s.getD 0 0).toNat = 40; omega)
    rw [if_neg hn, ReadPoint_j0t _ k (by omega), zero]
    rintro ⟨a', b', c', d', e', f', g1, g2, g3⟩
    apply h40
    rw [g3]; rfl
 ·rw [if_neg (by omega), ReadPoint_j0t _ k (by omega), zero]
  rintro ⟨a', b', c', d', e', f', g1, g2, g3⟩
  apply h2
  rw [g3, spl_pnt]
  rfl

theorem impl_ValidMotion_eq (t : Int) (f : Bool) (a b k c d l : Int) : zyY.f t f a b k c d l = some (decide ((0 ≤ t ∧ t ≤ 7) ∧ znX a b k ∧ znX c d l)) := by
 unfold zyY.f
 simp only [impl_within_eq, impl_ValidNum_eq, Option.bind_some]
 by_cases h : 0 ≤ t ∧ t ≤ 7 <;> by_cases h1 : znX a b k <;> simp [h, h1]

theorem impl_pointText_eq (a b c d e f : Int) (k : Nat) (h : znX a b c) (h2 : znX d e f) (hk : 70 < k) : zvK.f k a b c d e f = some (sb (zsM a b c d e f)) := by
 have hl := numTxt_len h
 have hl2 := numTxt_len h2
 unfold zvK.f zsM
 rw [impl_numText_eq a b c k h (by omega), impl_numText_eq d e f k h2 (by omega)]
 simp only [Option.bind_some, sb_one, zsH, zjA, List.length_append, List.length_cons, List.length_nil]
 rw [if_pos (by omega), if_pos (by omega), if_pos (by omega), if_pos (by omega)]
 simp [List.append_assoc]

theorem impl_motionText_eq (t : Int) (f : Bool) (a b c d e g : Int) (k : Nat) (ht : 0 ≤ t ∧ t ≤ 7) (h : znX a b c) (h2 : znX d e g) (hk : 70 < k) : znH.f k t f a b c d e g = some (sb ((if f = true then 102 else 114) :: (Lib.itoa t ++ (32 :: zsM a b c d e g)))) := by
 have hl := pntTxt_len h h2
 have hl2 := zoT (n := t) (by omega)
 unfold znH.f
 simp only [zxY.f, Option.bind_some]
 rw [zlN t (by omega) (by omega), impl_pointText_eq a b c d e g k h h2 (by omega)]
 simp only [Option.bind_some, sb_one, zsH, zjA, List.length_append, List.length_cons, List.length_nil]
 cases f with
 | true =>
  rw [if_pos rfl, if_pos (by omega), if_pos (by omega), if_pos (by omega)]
  simp [List.append_assoc]
 | false =>
  rw [if_neg (by simp), if_pos (by omega), if_pos (by omega), if_pos (by omega)]
  simp [List.append_assoc]

theorem laws_eqNum_eq (a b k c d l : Int) : zaT.f a b k c d l = some (decide (a = c ∧ b = d ∧ k = l)) := by
 unfold zaT.f
 by_cases h : a = c <;> by_cases h1 : b = d <;> by_cases h2 : k = l <;> simp [h, h1, h2]

def readM (s : List UInt8) : Int × Bool × Int × Int × Int × Int × Int × Int × Bool :=
 if (s.getD 0 0 = 114 ∨ s.getD 0 0 = 102) ∧ (48 ≤ (s.getD 1 0).toNat ∧ (s.getD 1 0).toNat ≤ 55) ∧ s.getD 2 0 = 32 ∧ (readP (s.drop 3)).2.2.2.2.2.2 = true then
  (((s.getD 1 0).toNat : Int) - 48, decide (s.getD 0 0 = 102), (readP (s.drop 3)).1, (readP (s.drop 3)).2.1, (readP (s.drop 3)).2.2.1, (readP (s.drop 3)).2.2.2.1, (readP (s.drop 3)).2.2.2.2.1, (readP (s.drop 3)).2.2.2.2.2.1, true)
 else (0, false, 0, 0, 0, 0, 0, 0, false)
theorem readP_nil : readP [] = (0, 0, 0, 0, 0, 0, false) := by
 rcases readP_or [] with ⟨a, b, c, d, e, f, _, _, h, _⟩ | h
 ·exact absurd h (by simp [zsM])
 ·exact h.1
theorem itoa_d {d : Int} (h0 : 0 ≤ d) (h1 : d ≤ 7) : Lib.itoa d = [UInt8.ofNat (48 + d.toNat)] := dec_small h0 (by omega)
theorem u8eq {x y : UInt8} : x = y ↔ (x.toNat : Int) = (y.toNat : Int) := by
 rw [← UInt8.toNat_inj]; omega
theorem Motion_j0t (s h : List UInt8) (a b c d e f : Int) (k : Nat) (hk : 0 < k) : zaF.j0 k (sb s) (sb h) true a b c d e f = some (0, false, 0, 0, 0, 0, 0, 0, false) := by
 obtain ⟨k, rfl⟩ : ∃ m, k = m + 1 := ⟨k - 1, by omega⟩
 simp only [zaF.j0]
 rw [if_pos trivial]
theorem impl_ReadMotion_eq (s : List UInt8) (k : Nat) (hs : s.length ≤ 1048576) (hk : 200 < k) : zaF.f k (sb s) = some (readM s) := by
 unfold zaF.f
 rw [show (⟨#[32]⟩ : ByteArray) = sb [32] from rfl, sCut s 32 hs]
 simp only [Option.bind_some]
 by_cases hm : (32 : UInt8) ∈ s
 ·obtain ⟨p, q, rfl, hp⟩ := List.eq_append_cons_of_mem hm
  have hl : (p ++ 32 :: q).length = p.length + 1 + q.length := by simp only [List.length_append, List.length_cons]; omega
  rw [cut_at hp]
  dsimp only
  rw [impl_ReadPoint_eq q k (by omega) (by omega)]
  simp only [Option.bind_some, zjA]
  rcases readP_or q with ⟨a, b, c, d, e, f, n1, n2, m1, o1⟩ | ⟨o1, n1⟩
  ·rw [o1]
   dsimp only
   rw [if_pos rfl]
   match p, hp with
   | [x, y], hp =>
    have hb : ((([x, y] : List UInt8).length : Int) != 2) = false := rfl
    have x0 : bt (sb [x, y]) 0 = (x.toNat : Int) := bt_sb (l := [x, y]) (j := 0) (by simp)
    have x1 : bt (sb [x, y]) 1 = (y.toNat : Int) := bt_sb (l := [x, y]) (j := 1) (by simp)
    have hx : x.toNat < 256 := UInt8.toNat_lt _
    have hy : y.toNat < 256 := UInt8.toNat_lt _
    obtain ⟨k, rfl⟩ : ∃ m, k = m + 1 := ⟨k - 1, by omega⟩
    rw [hb]
    simp only [zaF.j0, x0, x1, zjA]
    rw [if_neg (by simp), if_pos (by simp), if_pos (by simp), w64 (n := (y.toNat : Int)) (by omega) (by omega), w64 (by omega) (by omega), impl_ValidMotion_eq]
    simp only [Option.bind_some]
    have hrm : readM ([x, y] ++ 32 :: q) = if (x = 114 ∨ x = 102) ∧ (48 ≤ y.toNat ∧ y.toNat ≤ 55) then ((y.toNat : Int) - 48, decide (x = 102), a, b, c, d, e, f, true) else (0, false, 0, 0, 0, 0, 0, 0, false) := by
     unfold readM
     have e3 : ([x, y] ++ 32 :: q : List UInt8).drop 3 = q := rfl
     have e0 : ([x, y] ++ 32 :: q : List UInt8).getD 0 0 = x := rfl
     have e1 : ([x, y] ++ 32 :: q : List UInt8).getD 1 0 = y := rfl
     have e2 : ([x, y] ++ 32 :: q : List UInt8).getD 2 0 = 32 := rfl
     rw [e3, e0, e1, e2, o1]
     simp
    rw [hrm]
    by_cases hy7 : 48 ≤ y.toNat ∧ y.toNat ≤ 55
    ·rw [if_pos (decide_eq_true ⟨by omega, n1, n2⟩), impl_motionText_eq _ _ a b c d e f k (by omega) n1 n2 (by omega)]
     simp only [Option.bind_some, zuS]
     have hit : Lib.itoa ((y.toNat : Int) - 48) = [y] := by
      rw [itoa_d (by omega) (by omega)]
      congr 1
      rw [← UInt8.toNat_inj, u8n (by omega)]; omega
     rw [hit, ← m1]
     by_cases h102 : x = 102
     ·subst h102
      have hc : ((((102 : UInt8).toNat : Nat) : Int) == 102) = true := rfl
      rw [hc, if_pos rfl, if_pos (by rfl), if_pos ⟨Or.inr rfl, hy7⟩]
      rfl
     ·have hc : ((x.toNat : Int) == 102) = false := beq_eq_false_iff_ne.2 fun hh => h102 (u8eq.2 hh)
      rw [hc]
      simp only [Bool.false_eq_true, if_false]
      by_cases h114 : x = 114
      ·subst h114
       rw [if_pos (by rfl), if_pos ⟨Or.inl rfl, hy7⟩]
       rfl
      ·rw [if_neg (show ¬ (114 :: ([y] ++ 32 :: q) = [x, y] ++ 32 :: q) from fun hh => h114 (List.cons.inj hh).1.symm), if_neg fun hh => hh.1.elim h114 h102]
    ·rw [if_neg (by simp only [decide_eq_true_eq]; rintro ⟨⟨h1, h2⟩, _⟩; exact hy7 (by omega)), if_neg fun hh => hy7 hh.2]
   | [], hp =>
    rw [show ((([] : List UInt8).length : Int) != 2) = true from rfl, Motion_j0t _ _ _ _ _ _ _ _ _ (by omega)]
    unfold readM
    rw [if_neg]
    rintro ⟨h, _⟩
    rcases h with h | h
    ·exact absurd (show (32 : UInt8) = 114 from h) (by decide)
    ·exact absurd (show (32 : UInt8) = 102 from h) (by decide)
   | [x], hp =>
    rw [show ((([x] : List UInt8).length : Int) != 2) = true from rfl, Motion_j0t _ _ _ _ _ _ _ _ _ (by omega)]
    unfold readM
    rw [if_neg]
    rintro ⟨_, h, _⟩
    have h : 48 ≤ (32 : UInt8).toNat ∧ (32 : UInt8).toNat ≤ 55 := h
    exact absurd h (by decide)
   | x :: y :: z :: r, hp =>
    rw [show (((x :: y :: z :: r : List UInt8).length : Int) != 2) = true from bne_iff_ne.2 (by simp only [List.length_cons]; omega), Motion_j0t _ _ _ _ _ _ _ _ _ (by omega)]
    unfold readM
    rw [if_neg]
    rintro ⟨_, _, h, _⟩
    have h : z = 32 := h
    subst h
    simp at hp
  ·rw [o1]
   dsimp only
   rw [if_neg (by simp), Motion_j0t _ _ _ _ _ _ _ _ _ (by omega)]
   unfold readM
   rw [if_neg]
   rintro ⟨h1, h2, h3, h4⟩
   match p, hp with
   | [], hp =>
    rcases h1 with h | h
    ·exact absurd (show (32 : UInt8) = 114 from h) (by decide)
    ·exact absurd (show (32 : UInt8) = 102 from h) (by decide)
   | [x], hp =>
    have h : 48 ≤ (32 : UInt8).toNat ∧ (32 : UInt8).toNat ≤ 55 := h2
    exact absurd h (by decide)
   | [x, y], hp =>
    have e3 : ([x, y] ++ 32 :: q : List UInt8).drop 3 = q := rfl
    rw [e3, o1] at h4
    cases h4
   | x :: y :: z :: r, hp =>
    have h : z = 32 := h3
    subst h
    simp at hp
 ·rw [cut_no hm]
  dsimp only
  rw [show (sb [] : ByteArray) = sb [] from rfl, impl_ReadPoint_eq [] k (by simp) (by omega), readP_nil]
  simp only [Option.bind_some]
  rw [if_neg (by simp), Motion_j0t _ _ _ _ _ _ _ _ _ (by omega)]
  unfold readM
  rw [if_neg]
  rintro ⟨_, _, h, _⟩
  apply hm
  match s, h with
  | [], h => exact absurd h (by decide)
  | [x], h => exact absurd h (by simp)
  | [x, y], h => exact absurd h (by simp)
  | x :: y :: z :: r, h => have h : z = 32 := h; rw [h]; simp
theorem spec_ReadMotion_eq (s : List UInt8) (k : Nat) (hs : s.length ≤ 1048576) (hk : 2 * s.length + 430 < k) : zmL.f k (sb s) = some (readM s) := by
 have j0t : ∀ k, 0 < k → zmL.j0 k (sb s) true = some (0, false, 0, 0, 0, 0, 0, 0, false) := fun k hk => by
  obtain ⟨k, rfl⟩ : ∃ m, k = m + 1 := ⟨k - 1, by omega⟩
  simp only [zmL.j0]
  rw [if_pos trivial]
 unfold zmL.f
 simp only [zjA]
 by_cases h4 : s.length < 4
 ·rw [if_pos (by omega), j0t k (by omega)]
  unfold readM
  rw [if_neg]
  rintro ⟨_, _, _, h⟩
  rw [List.drop_eq_nil_of_le (by omega), readP_nil] at h
  cases h
 ·have hb0 : bt (sb s) 0 = ((s.getD 0 0).toNat : Int) := bt_sb (l := s) (j := 0) (by omega)
  have hb1 : bt (sb s) 1 = ((s.getD 1 0).toNat : Int) := bt_sb (l := s) (j := 1) (by omega)
  have hb2 : bt (sb s) 2 = ((s.getD 2 0).toNat : Int) := bt_sb (l := s) (j := 2) (by omega)
  have h256 : (s.getD 1 0).toNat < 256 := UInt8.toNat_lt _
  have hx : (sb s).extract 3 s.length = sb (s.drop 3) := by rw [zsR]; simp
  have j0f : (s.getD 0 0 = 114 ∨ s.getD 0 0 = 102) → (48 ≤ (s.getD 1 0).toNat ∧ (s.getD 1 0).toNat ≤ 55) → zmL.j0 k (sb s) (((s.getD 2 0).toNat : Int) != 32) = some (readM s) := by
   intro g0 g1
   by_cases g2 : s.getD 2 0 = 32
   ·have hc : (((s.getD 2 0).toNat : Int) != 32) = false := by rw [g2]; rfl
    obtain ⟨k, rfl⟩ : ∃ m, k = m + 1 := ⟨k - 1, by omega⟩
    rw [hc]
    simp only [zmL.j0, zjA, hx]
    rw [if_neg (by simp), if_pos (by omega), spec_ReadPoint_eq _ k (by rw [List.length_drop]; omega) (by rw [List.length_drop]; omega)]
    simp only [Option.bind_some]
    unfold readM
    by_cases ho : (readP (s.drop 3)).2.2.2.2.2.2 = true
    ·rw [if_pos ho, if_pos (by omega), if_pos (by omega), hb0, hb1, if_pos ⟨g0, g1, g2, ho⟩, show (((s.getD 1 0).toNat : Int) - 48) % 256 = ((s.getD 1 0).toNat : Int) - 48 by omega]
     have hc : (((s.getD 0 0).toNat : Int) == 102) = decide (s.getD 0 0 = 102) := by
      by_cases h : s.getD 0 0 = 102
      ·rw [h]; rfl
      ·rw [decide_eq_false h]; exact beq_eq_false_iff_ne.2 fun hh => h (u8eq.2 hh)
     rw [hc]
    ·rw [if_neg ho, if_neg fun h => ho h.2.2.2]
   ·have hc : (((s.getD 2 0).toNat : Int) != 32) = true := bne_iff_ne.2 fun hh => g2 (u8eq.2 hh)
    rw [hc, j0t k (by omega)]
    unfold readM
    rw [if_neg fun h => g2 h.2.2.1]
  have inner : (s.getD 0 0 = 114 ∨ s.getD 0 0 = 102) → (if (1 : Int) < (s.length : Int) then (if ((s.getD 1 0).toNat : Int) < 48 then zmL.j0 k (sb s) true else (if ((s.getD 1 0).toNat : Int) > 55 then zmL.j0 k (sb s) true else (if (2 : Int) < (s.length : Int) then zmL.j0 k (sb s) (((s.getD 2 0).toNat : Int) != 32) else none))) else none) = some (readM s) := by
   intro g0
   rw [if_pos (by omega)]
   by_cases g1 : 48 ≤ (s.getD 1 0).toNat ∧ (s.getD 1 0).toNat ≤ 55
   ·rw [if_neg (by omega), if_neg (by omega), if_pos (by omega), j0f g0 g1]
   ·have hz : readM s = (0, false, 0, 0, 0, 0, 0, 0, false) := by unfold readM; rw [if_neg fun h => g1 h.2.1]
    by_cases g3 : ((s.getD 1 0).toNat : Int) < 48
    ·rw [if_pos g3, j0t k (by omega), hz]
    ·rw [if_neg g3, if_pos (by omega), j0t k (by omega), hz]
  rw [if_neg (by omega), if_pos (by omega), hb0, hb1, hb2]
  by_cases g0 : s.getD 0 0 = 114
  ·rw [if_pos (by rw [g0]; rfl)]
   exact inner (Or.inl g0)
  ·rw [if_neg (show ¬ ((s.getD 0 0).toNat : Int) = 114 from fun hh => g0 (u8eq.2 hh))]
   by_cases g0' : s.getD 0 0 = 102
   ·rw [if_pos (by rw [g0']; rfl)]
    exact inner (Or.inr g0')
   ·rw [if_neg (show ¬ ((s.getD 0 0).toNat : Int) = 102 from fun hh => g0' (u8eq.2 hh)), j0t k (by omega)]
    unfold readM
    rw [if_neg fun h => h.1.elim g0 g0']
theorem FnExactReadMotion : laws_FnExactReadMotion.Pure := by
 intro a0 _
 obtain ⟨s, rfl⟩ : ∃ s, a0 = sb s := ⟨_, sb_of a0⟩
 refine ⟨2 * s.length + 431, ?_⟩
 unfold laws_FnExactReadMotion.f
 rw [zjA]
 by_cases h : (s.length : Int) > 1048576
 ·rw [if_pos h]
 ·rw [if_neg h, spec_ReadMotion_eq s _ (by omega) (by omega)]
  simp only [Option.bind_some]
  rw [impl_ReadMotion_eq s _ (by omega) (by omega)]
  simp only [Option.bind_some, zmO.f, laws_eqNum_eq]
  simp

end Go.Proofs.YtbkcmdccomngnaaDoor.Pure
