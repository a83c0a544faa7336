/- Plain lemmas of this session: numerals and sums read back: what strconv.ParseInt, strings.Cut and the reference's loops give at a number's text. Conditions: none. -/
import Derived.Lib.ParseIntB
import Derived.Lib.IndexMore
import Derived.Test.YtehghobmmpihfaaGreatDoorV1Txt
namespace Go.Proofs.YtehghobmmpihfaaGreatDoor.Math
open Go.RowKit Go.Proofs.YtehghobmmpihfaaGreatDoorW.PrintWords Go.Proofs.YtehghobmmpihfaaGreatDoorW.PrintMore

theorem u8n {n : Nat} (h : n < 256) : (UInt8.ofNat n).toNat = n := by
  simp; omega
theorem dd_digit : ∀ (u : Nat), ∀ b ∈ Lib.decDigits u, 48 ≤ b.toNat ∧ b.toNat ≤ 57 := by
  intro u
  induction u using Nat.strongRecOn with
  | _ u ih =>
    intro b hb
    rw [Lib.decDigits] at hb
    by_cases h : u < 10
    · rw [dif_pos h] at hb
      obtain rfl := List.mem_singleton.1 hb
      rw [u8n (by omega)]; omega
    · rw [dif_neg h] at hb
      rcases List.mem_append.1 hb with hb | hb
      · exact ih _ (by omega) b hb
      · obtain rfl := List.mem_singleton.1 hb
        rw [u8n (by omega)]; omega
theorem dd_ne (u : Nat) : Lib.decDigits u ≠ [] := by
  rw [Lib.decDigits]; split <;> simp
theorem dd_pos (u : Nat) : 1 ≤ (Lib.decDigits u).length := by
  have := dd_ne u
  cases h : Lib.decDigits u with
  | nil => exact absurd h this
  | cons _ _ => simp
theorem pm_step (M acc : Nat) (c : UInt8) (r : List UInt8) (hM : M < 18446744073709551616) (h0 : 48 ≤ c.toNat) (h1 : c.toNat ≤ 57) (h : acc * 10 + (c.toNat - 48) ≤ M) :
    Lib.parseUintM M acc (c :: r) = Lib.parseUintM M (acc * 10 + (c.toNat - 48)) r := by
  rw [Lib.parseUintM, if_pos ⟨h0, h1⟩, if_neg (by omega), if_neg (by omega)]
theorem pm_dd (M : Nat) (hM : M < 18446744073709551616) : ∀ (u : Nat) (r : List UInt8), u ≤ M → Lib.parseUintM M 0 (Lib.decDigits u ++ r) = Lib.parseUintM M u r := by
  intro u
  induction u using Nat.strongRecOn with
  | _ u ih =>
    intro r hu
    rw [Lib.decDigits]
    by_cases h : u < 10
    · rw [dif_pos h, List.singleton_append, pm_step M 0 _ r hM (by rw [u8n (by omega)]; omega) (by rw [u8n (by omega)]; omega) (by rw [u8n (by omega)]; omega), u8n (by omega)]
      congr 1; omega
    · rw [dif_neg h, List.append_assoc, ih (u / 10) (by omega) _ (by omega), List.singleton_append, pm_step M _ _ r hM (by rw [u8n (by omega)]; omega) (by rw [u8n (by omega)]; omega) (by rw [u8n (by omega)]; omega), u8n (by omega)]
      congr 1; omega
theorem pu_dd (u : Nat) (h : u < 18446744073709551616) : Lib.parseUintB 64 (Lib.decDigits u) = .ok u := by
  unfold Lib.parseUintB
  rw [if_neg (dd_ne u)]
  have := pm_dd (2 ^ 64 - 1) (by decide) u [] (by omega)
  rw [List.append_nil] at this
  rw [this, Lib.parseUintM]
theorem dd_head (u : Nat) : ∃ c r, Lib.decDigits u = c :: r ∧ 48 ≤ c.toNat ∧ c.toNat ≤ 57 := by
  cases h : Lib.decDigits u with
  | nil => exact absurd h (dd_ne u)
  | cons c r =>
    have := dd_digit u c (by rw [h]; exact List.mem_cons_self)
    exact ⟨c, r, rfl, this.1, this.2⟩
theorem parse_itoa (n : Int) (h0 : -9223372036854775808 ≤ n) (h1 : n ≤ 9223372036854775807) : Lib.parseIntB 64 (Lib.itoa n) = .ok n := by
  unfold Lib.itoa
  by_cases hn : n < 0
  · rw [if_pos hn]
    simp only [Lib.parseIntB]
    rw [if_pos (Or.inr (by decide)), pu_dd _ (by omega)]
    dsimp only
    have e : (45 : UInt8).toNat = 45 := rfl
    rw [if_neg (by rw [e]; simp), if_neg (by rw [e]; omega), if_pos e]
    congr 1; omega
  · rw [if_neg hn]
    obtain ⟨c, r, hc, c0, c1⟩ := dd_head n.toNat
    have hp := pu_dd n.toNat (by omega)
    rw [hc] at hp ⊢
    simp only [Lib.parseIntB]
    rw [if_neg (by omega), hp]
    dsimp only
    rw [if_neg (by omega), if_neg (by omega), if_neg (by omega)]
    congr 1; omega
def isD (b : UInt8) : Bool := decide (48 ≤ b.toNat ∧ b.toNat ≤ 57)
def isS (b : UInt8) : Bool := b == 43 || b == 45
theorem isS_iff (b : UInt8) : isS b = true ↔ (b.toNat = 43 ∨ b.toNat = 45) := by
  unfold isS
  simp only [Bool.or_eq_true, beq_iff_eq, ← UInt8.toNat_inj]
  rfl
theorem isS_D {b : UInt8} (h : 48 ≤ b.toNat ∧ b.toNat ≤ 57) : isS b = false := by
  cases hs : isS b with
  | false => rfl
  | true => have := (isS_iff b).1 hs; omega
def val (a : Int) (l : List UInt8) : Int := l.foldl (fun a c => 10 * a + ((c.toNat : Int) - 48)) a
theorem val_cons (a : Int) (c : UInt8) (l : List UInt8) : val a (c :: l) = val (10 * a + ((c.toNat : Int) - 48)) l := rfl
theorem val_append (a : Int) (l m : List UInt8) : val a (l ++ m) = val (val a l) m := List.foldl_append
theorem val_dd : ∀ u : Nat, val 0 (Lib.decDigits u) = (u : Int) := by
  intro u
  induction u using Nat.strongRecOn with
  | _ u ih =>
    rw [Lib.decDigits]
    by_cases h : u < 10
    · rw [dif_pos h]
      show 10 * (0 : Int) + (((UInt8.ofNat (48 + u)).toNat : Int) - 48) = u
      rw [u8n (by omega)]; omega
    · rw [dif_neg h, val_append, ih (u / 10) (by omega)]
      show 10 * ((u / 10 : Nat) : Int) + (((UInt8.ofNat (48 + u % 10)).toNat : Int) - 48) = u
      rw [u8n (by omega)]; omega
theorem nD7 : ∀ (m u : Nat), u < 10 ^ m → 1 ≤ m → Lib.nDigits u ≤ m := by
  intro m
  induction m with
  | zero => intro u _ h; omega
  | succ m ih =>
    intro u hu _
    by_cases h10 : u < 10
    · rw [Lib.nDigits_small h10]; omega
    · rw [Lib.nDigits_big h10]
      have h2 : u / 10 < 10 ^ m := by rw [Nat.pow_succ] at hu; omega
      by_cases hm : 1 ≤ m
      · have := ih (u / 10) h2 hm; omega
      · obtain rfl : m = 0 := by omega
        simp at h2; omega
theorem dd_len7 {u : Nat} (h : u < 10000000) : (Lib.decDigits u).length ≤ 7 := by
  rw [Lib.decDigits_length]; exact nD7 7 u (by simpa using h) (by omega)
def l01 (l : List UInt8) : Int × Bool :=
  if (if l.head? = some 45 ∨ l.head? = some 43 then l.tail else l).length < 1 ∨ 7 < (if l.head? = some 45 ∨ l.head? = some 43 then l.tail else l).length then (0, false)
  else if (if l.head? = some 45 ∨ l.head? = some 43 then l.tail else l).all isD = true then (if l.head? = some 45 then -(val 0 (if l.head? = some 45 ∨ l.head? = some 43 then l.tail else l)) else val 0 (if l.head? = some 45 ∨ l.head? = some 43 then l.tail else l), true) else (0, false)
theorem dd_all (u : Nat) : (Lib.decDigits u).all isD = true := List.all_eq_true.2 fun b hb => decide_eq_true (dd_digit u b hb)
theorem l01_plain {l : List UInt8} (h0 : ¬ (l.head? = some 45 ∨ l.head? = some 43)) (h1 : 1 ≤ l.length) (h7 : l.length ≤ 7) (hd : l.all isD = true) : l01 l = (val 0 l, true) := by
  unfold l01
  rw [if_neg h0, if_neg (by omega), if_pos hd, if_neg (fun h => h0 (Or.inl h))]
theorem l01_sign {c : UInt8} {l : List UInt8} (h0 : c = 45 ∨ c = 43) (h1 : 1 ≤ l.length) (h7 : l.length ≤ 7) (hd : l.all isD = true) : l01 (c :: l) = (if c = 45 then -(val 0 l) else val 0 l, true) := by
  unfold l01
  have h : (c :: l).head? = some 45 ∨ (c :: l).head? = some 43 := by simpa using h0
  rw [if_pos h, List.tail_cons, if_neg (by omega), if_pos hd]
  simp
theorem l01_itoa {n : Int} (h : n.natAbs < 10000000) : l01 (Lib.itoa n) = (n, true) := by
  unfold Lib.itoa
  by_cases hn : n < 0
  · rw [if_pos hn, l01_sign (Or.inl rfl) (dd_pos _) (dd_len7 h) (dd_all _), if_pos rfl, val_dd]
    congr 1; omega
  · rw [if_neg hn]
    obtain ⟨c, r, hc, c0, c1⟩ := dd_head n.toNat
    rw [l01_plain _ (dd_pos _) (dd_len7 (by omega)) (dd_all _), val_dd]
    · congr 1; omega
    · rw [hc]
      simp only [List.head?_cons, Option.some.injEq]
      rintro (rfl | rfl)
      · exact absurd c0 (by decide)
      · exact absurd c0 (by decide)
theorem l01_plus {n : Int} (h : n.natAbs < 10000000) (h0 : 0 < n) : l01 (43 :: Lib.itoa n) = (n, true) := by
  unfold Lib.itoa
  rw [if_neg (by omega), l01_sign (Or.inr rfl) (dd_pos _) (dd_len7 (by omega)) (dd_all _), if_neg (by decide), val_dd]
  congr 1; omega
theorem itoa_form (n : Int) : ∃ c q, Lib.itoa n = c :: q ∧ (c = 45 ∨ (48 ≤ c.toNat ∧ c.toNat ≤ 57)) ∧ (∀ b ∈ q, 48 ≤ b.toNat ∧ b.toNat ≤ 57) ∧ (c = 45 ↔ n < 0) ∧ (c = 45 → q ≠ []) := by
  unfold Lib.itoa
  by_cases hn : n < 0
  · rw [if_pos hn]
    exact ⟨45, _, rfl, Or.inl rfl, dd_digit _, by simp [hn], fun _ => dd_ne _⟩
  · rw [if_neg hn]
    obtain ⟨c, r, hc, c0, c1⟩ := dd_head n.toNat
    have hd := dd_digit n.toNat
    rw [hc] at hd
    have hne : c ≠ 45 := by rintro rfl; exact absurd c0 (by decide)
    exact ⟨c, r, hc, Or.inr ⟨c0, c1⟩, fun b hb => hd b (List.mem_cons_of_mem _ hb), by simp [hn, hne], fun h => absurd h hne⟩
def scn (l : List UInt8) : Nat → Int
  | 0 => -1
  | i + 1 => if isS (l.getD i 0) = true then (i : Int) else scn l i
theorem scn_bd (l : List UInt8) : ∀ i, -1 ≤ scn l i ∧ scn l i < (i : Int) ∨ (i = 0 ∧ scn l i = -1)
  | 0 => Or.inr ⟨rfl, rfl⟩
  | i + 1 => by
    left
    simp only [scn]
    split
    · omega
    · rcases scn_bd l i with h | ⟨rfl, h⟩ <;> omega
theorem scn_app (p : List UInt8) (c : UInt8) (q : List UInt8) (hc : isS c = true) (hq : ∀ b ∈ q, isS b = false) : ∀ j, j ≤ q.length → scn (p ++ c :: q) (p.length + 1 + j) = (p.length : Int)
  | 0, _ => by
    simp only [scn]
    rw [show (p ++ c :: q).getD p.length 0 = c by simp [List.getD_eq_getElem?_getD], if_pos hc]
  | j + 1, h => by
    show (if isS ((p ++ c :: q).getD (p.length + 1 + j) 0) = true then ((p.length + 1 + j : Nat) : Int) else scn (p ++ c :: q) (p.length + 1 + j)) = _
    have : (p ++ c :: q).getD (p.length + 1 + j) 0 = q.getD j 0 := by
      simp only [List.getD_eq_getElem?_getD]
      rw [List.getElem?_append_right (by omega), show p.length + 1 + j - p.length = j + 1 by omega, List.getElem?_cons_succ]
    rw [this, if_neg, scn_app p c q hc hq j (by omega)]
    have hj : j < q.length := by omega
    rw [List.getD_eq_getElem?_getD, List.getElem?_eq_getElem hj, Option.getD_some, hq _ (List.getElem_mem hj)]
    simp
theorem scn_low (x : UInt8) (q : List UInt8) (hq : ∀ b ∈ q, isS b = false) : ∀ j, j ≤ q.length → scn (x :: q) (1 + j) ≤ 0
  | 0, _ => by
    show (if isS ((x :: q).getD 0 0) = true then ((0 : Nat) : Int) else -1) ≤ 0
    split <;> decide
  | j + 1, h => by
    show (if isS ((x :: q).getD (1 + j) 0) = true then ((1 + j : Nat) : Int) else scn (x :: q) (1 + j)) ≤ 0
    have : (x :: q).getD (1 + j) 0 = q.getD j 0 := by
      simp only [List.getD_eq_getElem?_getD]
      rw [show 1 + j = j + 1 by omega, List.getElem?_cons_succ]
    rw [this, if_neg]
    · exact scn_low x q hq j (by omega)
    · have hj : j < q.length := by omega
      rw [List.getD_eq_getElem?_getD, List.getElem?_eq_getElem hj, Option.getD_some, hq _ (List.getElem_mem hj)]
      simp
def spn (l : List UInt8) : Nat → Nat
  | 0 => 0
  | i + 1 => if isS (l.getD (i + 1) 0) = true then i + 1 else spn l i
theorem spn_scn (l : List UInt8) : ∀ i, (spn l i : Int) = if 0 < scn l (i + 1) then scn l (i + 1) else 0
  | 0 => by
    show (0 : Int) = if 0 < (if isS (l.getD 0 0) = true then ((0 : Nat) : Int) else -1) then _ else 0
    split
    · rw [if_neg (by omega)]
    · rw [if_neg (by omega)]
  | i + 1 => by
    have ih := spn_scn l i
    show ((if isS (l.getD (i + 1) 0) = true then i + 1 else spn l i : Nat) : Int) = if 0 < (if isS (l.getD (i + 1) 0) = true then ((i + 1 : Nat) : Int) else scn l (i + 1)) then (if isS (l.getD (i + 1) 0) = true then ((i + 1 : Nat) : Int) else scn l (i + 1)) else 0
    by_cases h : isS (l.getD (i + 1) 0) = true
    · rw [if_pos h, if_pos h, if_pos (by omega)]
    · rw [if_neg h, if_neg h]; exact ih
theorem idx_one (x : UInt8) : ∀ l : List UInt8, Lib.index l [x] = if x ∈ l then ((l.idxOf x : Nat) : Int) else -1
  | [] => by simp [Lib.index]
  | b :: l => by
    have ih := idx_one x l
    unfold Lib.index
    by_cases h : b = x
    · subst h; simp
    · have hp : ([x] : List UInt8).isPrefixOf (b :: l) = false := by simp [List.isPrefixOf, Ne.symm h]
      rw [hp, ih, List.idxOf_cons]
      have hb : (b == x) = false := by simpa using h
      rw [hb]
      by_cases hm : x ∈ l
      · have : x ∈ b :: l := List.mem_cons_of_mem _ hm
        rw [if_pos hm, if_pos this]
        have : ((l.idxOf x : Nat) : Int) ≠ -1 := by omega
        simp [this]
      · have : ¬ x ∈ b :: l := by simp [hm, Ne.symm h]
        rw [if_neg hm, if_neg this]
        simp
theorem cut_at {p q : List UInt8} {x : UInt8} (h : x ∉ p) : Lib.cut (p ++ x :: q) [x] = (p, q, true) := by
  have hi : Lib.index (p ++ x :: q) [x] = (p.length : Int) := by
    rw [idx_one, if_pos (by simp), List.idxOf_append, if_neg h]
    simp
  unfold Lib.cut
  rw [hi, if_pos (by omega)]
  simp
theorem cut_no {l : List UInt8} {x : UInt8} (h : x ∉ l) : Lib.cut l [x] = (l, [], false) := by
  unfold Lib.cut
  rw [idx_one, if_neg h]
  simp
theorem cut_len (l : List UInt8) (x : UInt8) : (Lib.cut l [x]).1.length ≤ l.length ∧ (Lib.cut l [x]).2.1.length ≤ l.length := by
  unfold Lib.cut
  split
  · simp only [List.length_take, List.length_drop]; omega
  · simp
def pr2 (l : List UInt8) (a : Nat) : Int × Int × Bool :=
  if a = 0 then (0, (l01 (l.take (l.length - 1))).1, (l01 (l.take (l.length - 1))).2)
  else ((l01 (l.take a)).1, (l01 ((l.take (l.length - 1)).drop a)).1, if (l01 (l.take a)).2 = true then (l01 ((l.take (l.length - 1)).drop a)).2 else false)
def prt (l : List UInt8) : Int × Int × Bool :=
  if l.getD (l.length - 1) 0 = 114 then pr2 l (spn l (l.length - 2)) else ((l01 l).1, 0, (l01 l).2)
def bodyT (a b : Int) : List UInt8 := if b = 0 then Lib.itoa a else if a = 0 then Lib.itoa b ++ [114] else if b > 0 then Lib.itoa a ++ (43 :: (Lib.itoa b ++ [114])) else Lib.itoa a ++ (Lib.itoa b ++ [114])
theorem numTxt_body (a b k : Int) : zuQ a b k = if k = 0 then bodyT a b else if a = 0 ∨ b = 0 then bodyT a b ++ (47 :: Lib.itoa (shl .i64 1 k)) else 40 :: (bodyT a b ++ (41 :: 47 :: Lib.itoa (shl .i64 1 k))) := rfl
def okB (b : UInt8) : Prop := (48 ≤ b.toNat ∧ b.toNat ≤ 57) ∨ b = 43 ∨ b = 45 ∨ b = 114
theorem itoa_okB (n : Int) : ∀ b ∈ Lib.itoa n, (48 ≤ b.toNat ∧ b.toNat ≤ 57) ∨ b = 45 := by
  obtain ⟨c, q, h, h1, h2, _⟩ := itoa_form n
  rw [h]
  intro b hb
  rcases List.mem_cons.1 hb with rfl | hb
  · rcases h1 with h1 | h1
    · exact Or.inr h1
    · exact Or.inl h1
  · exact Or.inl (h2 b hb)
theorem body_okB (a b : Int) : ∀ x ∈ bodyT a b, okB x := by
  intro x hx
  have ha : x ∈ Lib.itoa a → okB x := fun h => by rcases itoa_okB a x h with h | h; · exact Or.inl h
                                                  · exact Or.inr (Or.inr (Or.inl h))
  have hb : x ∈ Lib.itoa b → okB x := fun h => by rcases itoa_okB b x h with h | h; · exact Or.inl h
                                                  · exact Or.inr (Or.inr (Or.inl h))
  unfold bodyT at hx
  split at hx
  · exact ha hx
  · split at hx
    · simp only [List.mem_append, List.mem_singleton] at hx
      rcases hx with h | h
      · exact hb h
      · exact Or.inr (Or.inr (Or.inr h))
    · split at hx
      · simp only [List.mem_append, List.mem_cons, List.not_mem_nil, or_false] at hx
        rcases hx with h | h | h | h
        · exact ha h
        · exact Or.inr (Or.inl h)
        · exact hb h
        · exact Or.inr (Or.inr (Or.inr h))
      · simp only [List.mem_append, List.mem_cons, List.not_mem_nil, or_false] at hx
        rcases hx with h | h | h
        · exact ha h
        · exact hb h
        · exact Or.inr (Or.inr (Or.inr h))
theorem okB_ne {x : UInt8} (h : okB x) : x ≠ 47 ∧ x ≠ 40 ∧ x ≠ 41 := by
  rcases h with h | rfl | rfl | rfl
  · refine ⟨?_, ?_, ?_⟩ <;> rintro rfl <;> revert h <;> decide
  all_goals decide
theorem body_ne (a b : Int) : bodyT a b ≠ [] := by
  obtain ⟨c, q, h, _⟩ := itoa_form a
  obtain ⟨c2, q2, h2, _⟩ := itoa_form b
  unfold bodyT
  rw [h, h2]
  repeat' split
  all_goals simp
theorem body_forms (a b : Int) : (b = 0 ∧ ∃ c q, bodyT a b = c :: q ∧ bodyT a b = Lib.itoa a ∧ (c :: q).getD q.length 0 ≠ 114) ∨
    (b ≠ 0 ∧ a = 0 ∧ ∃ x q, Lib.itoa b = x :: q ∧ bodyT a b = x :: (q ++ [114]) ∧ ∀ y ∈ q, isS y = false) ∨
    (b ≠ 0 ∧ a ≠ 0 ∧ ∃ p c q, p ≠ [] ∧ p = Lib.itoa a ∧ isS c = true ∧ (∀ y ∈ q, isS y = false) ∧ bodyT a b = p ++ (c :: (q ++ [114])) ∧ ((0 < b ∧ c = 43 ∧ q = Lib.itoa b) ∨ (b < 0 ∧ c = 45 ∧ c :: q = Lib.itoa b))) := by
  obtain ⟨c, q, h, hc, hq, hn, hne⟩ := itoa_form a
  obtain ⟨c2, q2, h2, hc2, hq2, hn2, _⟩ := itoa_form b
  unfold bodyT
  by_cases hb : b = 0
  · left
    refine ⟨hb, c, q, by rw [if_pos hb, h], by rw [if_pos hb], ?_⟩
    rcases List.eq_nil_or_concat q with rfl | ⟨q, y, rfl⟩
    · show c ≠ 114
      rcases hc with rfl | hc
      · decide
      · rintro rfl; revert hc; decide
    · have : (c :: (q ++ [y])).getD (q ++ [y]).length 0 = y := by simp [List.getD_eq_getElem?_getD]
      simp only [List.concat_eq_append] at *
      rw [this]
      have := hq y (by simp)
      rintro rfl; revert this; decide
  · right
    by_cases ha : a = 0
    · left
      refine ⟨hb, ha, c2, q2, h2, ?_, fun y hy => isS_D (hq2 y hy)⟩
      rw [if_neg hb, if_pos ha, h2]; rfl
    · right
      refine ⟨hb, ha, ?_⟩
      rw [if_neg hb, if_neg ha]
      by_cases hp : b > 0
      · have hc45 : c2 ≠ 45 := fun e => by have := hn2.1 e; omega
        have hd : 48 ≤ c2.toNat ∧ c2.toNat ≤ 57 := hc2.resolve_left hc45
        refine ⟨Lib.itoa a, 43, Lib.itoa b, by rw [h]; simp, rfl, by decide, ?_, by rw [if_pos hp], Or.inl ⟨hp, rfl, rfl⟩⟩
        rw [h2]
        intro y hy
        rcases List.mem_cons.1 hy with rfl | hy
        · exact isS_D hd
        · exact isS_D (hq2 y hy)
      · have hc45 : c2 = 45 := hn2.2 (by omega)
        subst hc45
        exact ⟨Lib.itoa a, 45, q2, by rw [h]; simp, rfl, by decide, fun y hy => isS_D (hq2 y hy), by rw [if_neg hp, h2]; rfl, Or.inr ⟨by omega, rfl, h2.symm⟩⟩
theorem spn_app {p q : List UInt8} {c : UInt8} (hp : p ≠ []) (hc : isS c = true) (hq : ∀ y ∈ q, isS y = false) : spn (p ++ (c :: (q ++ [114]))) ((p ++ (c :: (q ++ [114]))).length - 2) = p.length := by
  have hl : 1 ≤ p.length := by cases p with | nil => exact absurd rfl hp | cons _ _ => simp
  have h := spn_scn (p ++ (c :: (q ++ [114]))) ((p ++ (c :: (q ++ [114]))).length - 2)
  have e : (p ++ (c :: (q ++ [114]))).length - 2 + 1 = p.length + 1 + q.length := by simp only [List.length_append, List.length_cons, List.length_nil]; omega
  have hq' : ∀ b ∈ (q ++ [114] : List UInt8), isS b = false := by
    intro b hb
    rcases List.mem_append.1 hb with hb | hb
    · exact hq b hb
    · obtain rfl := List.mem_singleton.1 hb; decide
  rw [e, scn_app p c (q ++ [114]) hc hq' q.length (by simp)] at h
  rw [if_pos (by omega)] at h
  omega
theorem spn_low {x : UInt8} {q : List UInt8} (hq : ∀ y ∈ q, isS y = false) : spn (x :: (q ++ [114])) ((x :: (q ++ [114])).length - 2) = 0 := by
  have h := spn_scn (x :: (q ++ [114])) ((x :: (q ++ [114])).length - 2)
  have e : (x :: (q ++ [114])).length - 2 + 1 = 1 + q.length := by simp only [List.length_append, List.length_cons, List.length_nil]; omega
  have hq' : ∀ b ∈ (q ++ [114] : List UInt8), isS b = false := by
    intro b hb
    rcases List.mem_append.1 hb with hb | hb
    · exact hq b hb
    · obtain rfl := List.mem_singleton.1 hb; decide
  have := scn_low x (q ++ [114]) hq' q.length (by simp)
  rw [e, if_neg (by omega)] at h
  omega
theorem prt_body {a b : Int} (ha : a.natAbs < 10000000) (hb : b.natAbs < 10000000) : prt (bodyT a b) = (a, b, true) := by
  rcases body_forms a b with ⟨rfl, c, q, e, e2, h⟩ | ⟨_, rfl, x, q, e, e2, hq⟩ | ⟨_, _, p, c, q, hp, e, hc, hq, e2, h⟩
  · unfold prt
    rw [if_neg (by rw [e]; simpa using h), e2, l01_itoa ha]
  · unfold prt
    rw [e2, if_pos (by simp [List.getD_eq_getElem?_getD]), spn_low hq]
    unfold pr2
    rw [if_pos rfl, show (x :: (q ++ [114])).take ((x :: (q ++ [114])).length - 1) = Lib.itoa b by rw [e]; simp, l01_itoa hb]
  · have hl : p.length ≠ 0 := by simpa using hp
    unfold prt
    rw [e2, if_pos (by simp [List.getD_eq_getElem?_getD]), spn_app hp hc hq]
    unfold pr2
    rw [if_neg hl, show (p ++ (c :: (q ++ [114]))).take p.length = p by simp,
      show ((p ++ (c :: (q ++ [114]))).take ((p ++ (c :: (q ++ [114]))).length - 1)).drop p.length = c :: q by
        rw [show (p ++ (c :: (q ++ [114]))).length - 1 = (p ++ (c :: q)).length by simp only [List.length_append, List.length_cons, List.length_nil]; omega,
          show p ++ (c :: (q ++ [114])) = (p ++ (c :: q)) ++ [114] by simp, List.take_left, List.drop_left], e, l01_itoa ha]
    rcases h with ⟨h0, rfl, rfl⟩ | ⟨h0, rfl, h⟩
    · rw [l01_plus hb h0]; rfl
    · rw [h, l01_itoa hb]; rfl
def kOf (n : Int) : Nat → Nat → Nat
  | 0, c => c
  | f + 1, c => if shl .i64 1 (c : Int) < n then kOf n f (c + 1) else c
theorem kOf_shl {k : Int} (h0 : 0 ≤ k) (h1 : k ≤ 10) : (kOf (shl .i64 1 k) 10 0 : Int) = k := by
  have : k = 0 ∨ k = 1 ∨ k = 2 ∨ k = 3 ∨ k = 4 ∨ k = 5 ∨ k = 6 ∨ k = 7 ∨ k = 8 ∨ k = 9 ∨ k = 10 := by omega
  rcases this with rfl | rfl | rfl | rfl | rfl | rfl | rfl | rfl | rfl | rfl | rfl <;> decide
def unp (t : List UInt8) : List UInt8 := if 2 < t.length ∧ t.getD 0 0 = 40 then (t.take (t.length - 1)).drop 1 else t
def spz (s : List UInt8) : (Int × Int × Bool) × Int := (prt (unp (Lib.cut s [47]).1), if (Lib.cut s [47]).2.2 = true then (kOf (l01 (Lib.cut s [47]).2.1).1 10 0 : Int) else 0)
theorem unp_body (a b : Int) : unp (bodyT a b) = bodyT a b := by
  unfold unp
  rw [if_neg]
  rintro ⟨_, h⟩
  cases e : bodyT a b with
  | nil => exact body_ne a b e
  | cons c q =>
    rw [e] at h
    have h : c = 40 := h
    exact (okB_ne (body_okB a b c (by rw [e]; exact List.mem_cons_self))).2.1 h
theorem unp_par {l : List UInt8} (h : l ≠ []) : unp (40 :: (l ++ [41])) = l := by
  have hl : 1 ≤ l.length := by cases l with | nil => exact absurd rfl h | cons _ _ => simp
  unfold unp
  rw [if_pos ⟨by simp only [List.length_cons, List.length_append, List.length_nil]; omega, rfl⟩]
  simp
theorem body_47 (a b : Int) : (47 : UInt8) ∉ bodyT a b := fun h => (okB_ne (body_okB a b _ h)).1 rfl
theorem shl_abs {k : Int} (h0 : 0 ≤ k) (h1 : k ≤ 10) : (shl .i64 1 k).natAbs < 10000000 := by have := shl_bd h0 h1; omega
theorem num_cut (a b k : Int) : Lib.cut (zuQ a b k) [47] = if k = 0 then (bodyT a b, [], false) else (if a = 0 ∨ b = 0 then bodyT a b else 40 :: (bodyT a b ++ [41]), Lib.itoa (shl .i64 1 k), true) := by
  rw [numTxt_body]
  have h47 := body_47 a b
  by_cases hk : k = 0
  · rw [if_pos hk, if_pos hk]; exact cut_no h47
  · rw [if_neg hk, if_neg hk]
    by_cases h : a = 0 ∨ b = 0
    · rw [if_pos h, if_pos h]; exact cut_at h47
    · rw [if_neg h, if_neg h, show 40 :: (bodyT a b ++ (41 :: 47 :: Lib.itoa (shl .i64 1 k))) = (40 :: (bodyT a b ++ [41])) ++ 47 :: Lib.itoa (shl .i64 1 k) by simp]
      exact cut_at (by simp [h47])
theorem spz_num {a b k : Int} (h : znX a b k) : spz (zuQ a b k) = ((a, b, true), k) := by
  obtain ⟨ha, hb, hk, _⟩ := h
  have hp := prt_body (a := a) (b := b) (by omega) (by omega)
  unfold spz
  rw [num_cut]
  by_cases h0 : k = 0
  · rw [if_pos h0]
    simp only [unp_body, hp, h0, Bool.false_eq_true, if_false]
  · rw [if_neg h0]
    simp only [if_true]
    rw [l01_itoa (shl_abs hk.1 hk.2)]
    dsimp only
    rw [kOf_shl hk.1 hk.2]
    by_cases h : a = 0 ∨ b = 0
    · rw [if_pos h, unp_body, hp]
    · rw [if_neg h, unp_par (body_ne a b), hp]
def zoA (s : List UInt8) : Int × Int × Int × Bool := if znX (spz s).1.1 (spz s).1.2.1 (spz s).2 ∧ zuQ (spz s).1.1 (spz s).1.2.1 (spz s).2 = s then ((spz s).1.1, (spz s).1.2.1, (spz s).2, true) else (0, 0, 0, false)
theorem readN_num {a b k : Int} (h : znX a b k) : zoA (zuQ a b k) = (a, b, k, true) := by
  unfold zoA
  rw [spz_num h, if_pos ⟨h, rfl⟩]
theorem readN_or (s : List UInt8) : (∃ a b k, znX a b k ∧ s = zuQ a b k ∧ zoA s = (a, b, k, true)) ∨ (zoA s = (0, 0, 0, false) ∧ ¬ ∃ a b k, znX a b k ∧ s = zuQ a b k) := by
  by_cases h : ∃ a b k, znX a b k ∧ s = zuQ a b k
  · obtain ⟨a, b, k, h1, h2⟩ := h
    exact Or.inl ⟨a, b, k, h1, h2, by rw [h2]; exact readN_num h1⟩
  · refine Or.inr ⟨?_, h⟩
    unfold zoA
    rw [if_neg fun hh => h ⟨_, _, _, hh.1, hh.2.symm⟩]
theorem readN_of (s : List UInt8) (x y z : Int) (h : ∀ a b k, znX a b k → s = zuQ a b k → x = a ∧ y = b ∧ z = k) : (if znX x y z ∧ zuQ x y z = s then (x, y, z, true) else (0, 0, 0, false)) = zoA s := by
  rcases readN_or s with ⟨a, b, k, h1, h2, h3⟩ | ⟨h1, h2⟩
  · obtain ⟨rfl, rfl, rfl⟩ := h a b k h1 h2
    rw [h3, if_pos ⟨h1, h2.symm⟩]
  · rw [h1, if_neg fun hh => h2 ⟨_, _, _, hh.1, hh.2.symm⟩]
theorem sb_data (l : List UInt8) : (sb l).data.toList = l := by simp [sb]
theorem sb_toList (l : List UInt8) : (sb l).toList = l := by rw [Lib.toList_data, sb_data]
theorem zsR (l : List UInt8) (a b : Nat) : (sb l).extract a b = sb ((l.take b).drop a) := by
  apply sb_ext
  rw [ByteArray.data_extract]
  simp only [sb, List.extract_toArray]
  rw [List.extract_eq_take_drop, List.drop_take]
theorem bt_sb {l : List UInt8} {j : Nat} (h : j < l.length) : bt (sb l) (j : Int) = ((l.getD j 0).toNat : Int) := by
  unfold bt
  rw [dif_pos (by rw [zjA]; omega)]
  simp only [Int.toNat_natCast]
  show ((l.toArray[j]).toNat : Int) = _
  simp [List.getD_eq_getElem?_getD, h]
theorem p10le : ∀ n : Nat, n ≤ 7 → (10 : Int) ^ n ≤ 10000000 := by
  intro n h
  have : n = 0 ∨ n = 1 ∨ n = 2 ∨ n = 3 ∨ n = 4 ∨ n = 5 ∨ n = 6 ∨ n = 7 := by omega
  rcases this with rfl | rfl | rfl | rfl | rfl | rfl | rfl | rfl <;> decide
end Go.Proofs.YtehghobmmpihfaaGreatDoor.Math
