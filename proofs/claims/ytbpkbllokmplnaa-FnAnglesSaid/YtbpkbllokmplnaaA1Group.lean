/- Plain lemmas of this session: how often a rotation of a list or of its mirror image comes up among all of them; directions and sectors. Conditions: none. -/
import Derived.Test.YtbpkbllokmplnaaA1Orbit
namespace Go.Proofs.Ytbpkbllokmplnaa.Math
open Go.RowKit Go.Proofs.YtbpkbllokmplnaaW.PrintWords Go.Proofs.YtbpkbllokmplnaaW.PrintMore

theorem rot_rot_lo (l : List Int) (i j : Nat) (h : i + j ≤ l.length) : rot (rot l i) j = rot l (i + j) := by
  obtain ⟨a, b, e, ha, hr⟩ := zhT l i (by omega)
  have hn : l.length = a.length + b.length := by rw [e, List.length_append]
  obtain ⟨c, d, e2, hc2, _⟩ := zhT b j (by omega)
  have h1 := rot_of (b ++ a) c (d ++ a) (by rw [e2, List.append_assoc])
  have h2 := rot_of l (a ++ c) d (by rw [e, e2, List.append_assoc])
  rw [hc2] at h1
  rw [List.length_append, ha, hc2] at h2
  rw [hr, h1, h2, List.append_assoc]
theorem rot_rot_hi (l : List Int) (i j : Nat) (hi : i ≤ l.length) (hj : j ≤ l.length) (h : l.length ≤ i + j) : rot (rot l i) j = rot l (i + j - l.length) := by
  obtain ⟨a, b, e, ha, hr⟩ := zhT l i hi
  have hn : l.length = a.length + b.length := by rw [e, List.length_append]
  obtain ⟨c, d, e2, hc2, _⟩ := zhT a (j - b.length) (by omega)
  have h1 := rot_of (b ++ a) (b ++ c) d (by rw [e2, List.append_assoc])
  have h2 := rot_of l c (d ++ b) (by rw [e, e2, List.append_assoc])
  rw [List.length_append, hc2, show b.length + (j - b.length) = j by omega] at h1
  rw [hc2, show j - b.length = i + j - l.length by omega] at h2
  rw [hr, h1, h2, List.append_assoc]
theorem rot_inj {x y : List Int} {k : Nat} (hl : x.length = y.length) (hk : k ≤ x.length) (h : rot x k = rot y k) : x = y := by
  have h1 := rot_back x k hk
  have h2 := rot_back y k (by omega)
  rw [h, hl] at h1
  exact h1.symm.trans h2
theorem rot_eq_lo (a b : List Int) (i j : Nat) (hab : b.length = a.length) (hi : i ≤ a.length) (hj : j ≤ i) : rot a j = rot b i ↔ rot a (j + (a.length - i)) = b := by
  have e := rot_rot_lo a j (a.length - i) (by omega)
  constructor
  · intro h; rw [← e, h, ← hab, rot_back b i (by omega)]
  · intro h
    refine rot_inj (k := a.length - i) (by rw [zfX a j (by omega), zfX b i (by omega), hab]) (by rw [zfX a j (by omega)]; omega) ?_
    rw [e, h, ← hab, rot_back b i (by omega)]
theorem rot_eq_hi (a b : List Int) (i j : Nat) (hab : b.length = a.length) (hj : j ≤ a.length) (hi : i ≤ j) : rot a j = rot b i ↔ rot a (j - i) = b := by
  have e := rot_rot_hi a j (a.length - i) hj (by omega) (by omega)
  rw [show j + (a.length - i) - a.length = j - i by omega] at e
  constructor
  · intro h; rw [← e, h, ← hab, rot_back b i (by omega)]
  · intro h
    refine rot_inj (k := a.length - i) (by rw [zfX a j (by omega), zfX b i (by omega), hab]) (by rw [zfX a j (by omega)]; omega) ?_
    rw [e, h, ← hab, rot_back b i (by omega)]
def cntP (g : Nat → Prop) [DecidablePred g] : Nat → Nat → Nat
  | _, 0 => 0
  | a, d + 1 => (if g a then 1 else 0) + cntP g (a + 1) d
theorem cntP_add (g : Nat → Prop) [DecidablePred g] : ∀ (d e a : Nat), cntP g a (d + e) = cntP g a d + cntP g (a + d) e
  | 0, e, a => by simp [cntP]
  | d + 1, e, a => by
    rw [show d + 1 + e = (d + e) + 1 by omega, cntP, cntP, cntP_add g d e (a + 1), show a + 1 + d = a + (d + 1) by omega]
    omega
theorem cntP_shift (g h : Nat → Prop) [DecidablePred g] [DecidablePred h] : ∀ (d a b : Nat), (∀ k, k < d → (g (a + k) ↔ h (b + k))) → cntP g a d = cntP h b d
  | 0, _, _, _ => rfl
  | d + 1, a, b, hh => by
    have h0 := hh 0 (by omega)
    rw [Nat.add_zero, Nat.add_zero] at h0
    rw [cntP, cntP, cntP_shift g h d (a + 1) (b + 1) (fun k hk => by
      have := hh (k + 1) (by omega)
      rw [show a + (k + 1) = a + 1 + k by omega, show b + (k + 1) = b + 1 + k by omega] at this
      exact this)]
    by_cases c : g a
    · rw [if_pos c, if_pos (h0.1 c)]
    · rw [if_neg c, if_neg (fun e => c (h0.2 e))]
theorem cntP_last (g : Nat → Prop) [DecidablePred g] (d a : Nat) : cntP g a (d + 1) = cntP g a d + (if g (a + d) then 1 else 0) := by
  rw [cntP_add g d 1 a]
  simp [cntP]
theorem cntP_reflect (g h : Nat → Prop) [DecidablePred g] [DecidablePred h] : ∀ (d a b : Nat), (∀ k, k < d → (g (a + k) ↔ h (b + (d - 1 - k)))) → cntP g a d = cntP h b d
  | 0, _, _, _ => rfl
  | d + 1, a, b, hh => by
    have h0 := hh 0 (by omega)
    rw [Nat.add_zero, show d + 1 - 1 - 0 = d by omega] at h0
    rw [cntP, cntP_last, cntP_reflect g h d (a + 1) b (fun k hk => by
      have := hh (k + 1) (by omega)
      rw [show a + (k + 1) = a + 1 + k by omega, show d + 1 - 1 - (k + 1) = d - 1 - k by omega] at this
      exact this)]
    by_cases c : g a
    · rw [if_pos c, if_pos (h0.1 c)]; omega
    · rw [if_neg c, if_neg (fun e => c (h0.2 e))]; omega
theorem cntP_rot (a b : List Int) (i : Nat) (hab : b.length = a.length) (hi : i ≤ a.length) : cntP (fun j => rot a j = rot b i) 0 a.length = cntP (fun j => rot a j = b) 0 a.length := by
  have e1 := cntP_add (fun j => rot a j = rot b i) i (a.length - i) 0
  have e2 := cntP_add (fun j => rot a j = b) (a.length - i) i 0
  rw [show i + (a.length - i) = a.length by omega, Nat.zero_add] at e1
  rw [show a.length - i + i = a.length by omega, Nat.zero_add] at e2
  rw [e1, e2, cntP_shift (fun j => rot a j = rot b i) (fun j => rot a j = b) i 0 (a.length - i) (fun k hk => by
      rw [Nat.zero_add, show a.length - i + k = k + (a.length - i) by omega]
      exact rot_eq_lo a b i k hab hi (by omega)),
    cntP_shift (fun j => rot a j = rot b i) (fun j => rot a j = b) (a.length - i) i 0 (fun k hk => by
      rw [Nat.zero_add, rot_eq_hi a b i (i + k) hab (by omega) (by omega), show i + k - i = k by omega])]
  omega
theorem rot_rev_eq (a b : List Int) (j : Nat) (hj : j ≤ a.length) : rot a j = b ↔ rot a.reverse (a.length - j) = b.reverse := by
  rw [← rot_reverse a j hj]
  exact ⟨fun h => by rw [h], fun h => List.reverse_inj.1 h⟩
theorem cntP_rev (a b : List Int) (h0 : 0 < a.length) : cntP (fun j => rot a j = b) 0 a.length = cntP (fun j => rot a.reverse j = b.reverse) 0 a.length := by
  have e1 := cntP_add (fun j => rot a j = b) 1 (a.length - 1) 0
  have e2 := cntP_add (fun j => rot a.reverse j = b.reverse) 1 (a.length - 1) 0
  rw [show 1 + (a.length - 1) = a.length by omega, Nat.zero_add] at e1 e2
  rw [e1, e2]
  have f1 : cntP (fun j => rot a j = b) 0 1 = cntP (fun j => rot a.reverse j = b.reverse) 0 1 := cntP_shift _ _ 1 0 0 (fun k hk => by
    obtain rfl : k = 0 := by omega
    rw [rot_zero, rot_zero]
    exact ⟨fun h => by rw [h], fun h => List.reverse_inj.1 h⟩)
  have f2 : cntP (fun j => rot a j = b) 1 (a.length - 1) = cntP (fun j => rot a.reverse j = b.reverse) 1 (a.length - 1) := cntP_reflect _ _ _ 1 1 (fun k hk => by
    rw [rot_rev_eq a b (1 + k) (by omega), show a.length - (1 + k) = 1 + (a.length - 1 - 1 - k) by omega])
  rw [f1, f2]
def orbE (l : List Int) : Nat → Nat → List (List Int)
  | 0, _ => []
  | d + 1, j => rot l j :: rot l.reverse j :: orbE l d (j + 1)
theorem orbE_length (l : List Int) : ∀ d j, (orbE l d j).length = 2 * d
  | 0, _ => rfl
  | d + 1, j => by rw [orbE, List.length_cons, List.length_cons, orbE_length l d]; omega
theorem orbE_count (l x : List Int) : ∀ d j, (orbE l d j).count x = cntP (fun i => rot l i = x) j d + cntP (fun i => rot l.reverse i = x) j d
  | 0, _ => rfl
  | d + 1, j => by
    rw [orbE, List.count_cons, List.count_cons, orbE_count l x d (j + 1), cntP, cntP]
    by_cases h1 : rot l j = x <;> by_cases h2 : rot l.reverse j = x <;> simp [h1, h2] <;> omega
theorem orbE_mem (l x : List Int) : ∀ d j, j + d ≤ l.length → x ∈ orbE l d j → Orb l x
  | 0, _, _, h => by simp [orbE] at h
  | d + 1, j, hd, h => by
    rw [orbE, List.mem_cons, List.mem_cons] at h
    rcases h with rfl | rfl | h
    · exact ⟨j, by omega, Or.inl rfl⟩
    · exact ⟨j, by omega, Or.inr rfl⟩
    · exact orbE_mem l x d (j + 1) (by omega) h
theorem orbE_has (l : List Int) (i : Nat) : ∀ d j, j ≤ i → i < j + d → rot l i ∈ orbE l d j ∧ rot l.reverse i ∈ orbE l d j
  | 0, j, h1, h2 => by omega
  | d + 1, j, h1, h2 => by
    rw [orbE]
    by_cases e : i = j
    · subst e; simp
    · have := orbE_has l i d (j + 1) (by omega) (by omega)
      exact ⟨List.mem_cons_of_mem _ (List.mem_cons_of_mem _ this.1), List.mem_cons_of_mem _ (List.mem_cons_of_mem _ this.2)⟩
theorem orbE_same (l x : List Int) (h : Orb l x) : (orbE l l.length 0).count x = (orbE l l.length 0).count l := by
  have lr := List.length_reverse (as := l)
  rw [orbE_count, orbE_count]
  obtain ⟨i, hi, rfl | rfl⟩ := h
  · have e1 := cntP_rot l l i rfl (by omega)
    have e2 := cntP_rot l.reverse l i lr.symm (by omega)
    rw [lr] at e2
    rw [e1, e2]
  · have e1 := cntP_rot l l.reverse i lr (by omega)
    have e2 := cntP_rot l.reverse l.reverse i rfl (by omega)
    rw [lr] at e2
    have e3 := cntP_rev l l.reverse (by omega)
    have e4 := cntP_rev l.reverse l.reverse (by omega)
    rw [List.reverse_reverse] at e3 e4
    rw [lr] at e4
    rw [e1, e2, e3, e4]
    omega
def addR : List (List Int) → List (List Int) → List (List Int)
  | rows, [] => rows
  | rows, x :: xs => addR (if x ∈ rows then rows else rows ++ [x]) xs
theorem addR_mem : ∀ (E rows : List (List Int)) (y : List Int), y ∈ addR rows E ↔ y ∈ rows ∨ y ∈ E
  | [], rows, y => by simp [addR]
  | x :: xs, rows, y => by
    rw [addR, addR_mem xs _ y, List.mem_cons]
    by_cases h : x ∈ rows
    · rw [if_pos h]
      constructor
      · rintro (h1 | h1)
        · exact Or.inl h1
        · exact Or.inr (Or.inr h1)
      · rintro (h1 | rfl | h1)
        · exact Or.inl h1
        · exact Or.inl h
        · exact Or.inr h1
    · rw [if_neg h, List.mem_append, List.mem_singleton, or_assoc]
theorem addR_nodup : ∀ (E rows : List (List Int)), rows.Nodup → (addR rows E).Nodup
  | [], _, h => h
  | x :: xs, rows, h => by
    rw [addR]
    refine addR_nodup xs _ ?_
    by_cases c : x ∈ rows
    · rw [if_pos c]; exact h
    · rw [if_neg c, List.nodup_append]
      refine ⟨h, by simp, fun a ha b hb e => ?_⟩
      rw [List.mem_singleton] at hb
      subst hb; subst e
      exact c ha
theorem count_filter_ne (x : List Int) : ∀ E : List (List Int), E.length = E.count x + (E.filter (fun y => decide (y ≠ x))).length
  | [] => rfl
  | y :: ys => by
    have ih := count_filter_ne x ys
    rw [List.count_cons, List.length_cons]
    by_cases h : y = x
    · subst h
      rw [List.filter_cons_of_neg (by simp)]
      simp only [beq_self_eq_true, if_true]
      omega
    · rw [List.filter_cons_of_pos (by simpa using h), List.length_cons]
      simp only [beq_eq_false_iff_ne.2 h, Bool.false_eq_true, if_false]
      omega
theorem rows_times (m : Nat) : ∀ (rows E : List (List Int)), rows.Nodup → (∀ y ∈ E, y ∈ rows) → (∀ y ∈ rows, E.count y = m) → rows.length * m = E.length
  | [], E, _, h1, _ => by
    cases E with
    | nil => simp
    | cons y ys => exact absurd (h1 y List.mem_cons_self) (by simp)
  | x :: xs, E, hn, h1, h2 => by
    rw [List.nodup_cons] at hn
    have e := count_filter_ne x E
    have ih := rows_times m xs (E.filter (fun y => decide (y ≠ x))) hn.2 (fun y hy => by
        have := List.mem_filter.1 hy
        have h3 := h1 y this.1
        rcases List.mem_cons.1 h3 with rfl | h3
        · simp at this
        · exact h3)
      (fun y hy => by
        have hne : y ≠ x := fun e => hn.1 (e ▸ hy)
        rw [List.count_filter (by simpa using hne)]
        exact h2 y (List.mem_cons_of_mem _ hy))
    rw [e, ← ih, h2 x List.mem_cons_self, List.length_cons, Nat.add_mul]
    omega
def symm (l : List Int) : Nat → Nat → Int → Int → Int × Int
  | 0, _, a, b => (a, b)
  | d + 1, j, a, b => symm l d (j + 1) (if rot l j = l then a + 1 else a) (if rot l.reverse j = l then b + 1 else b)
theorem symm_cnt (l : List Int) : ∀ (d j : Nat) (a b : Int), symm l d j a b = (a + (cntP (fun i => rot l i = l) j d : Nat), b + (cntP (fun i => rot l.reverse i = l) j d : Nat))
  | 0, j, a, b => by simp [symm, cntP]
  | d + 1, j, a, b => by
    rw [symm, symm_cnt l d (j + 1), cntP, cntP]
    by_cases h1 : rot l j = l <;> by_cases h2 : rot l.reverse j = l <;> simp [h1, h2] <;> omega
theorem orbit_times (l : List Int) (_h0 : 0 < l.length) : ((symm l l.length 0 0 0).1 + (symm l l.length 0 0 0).2) * ((addR [] (orbE l l.length 0)).length : Nat) = 2 * (l.length : Int) := by
  have h := rows_times ((orbE l l.length 0).count l) (addR [] (orbE l l.length 0)) (orbE l l.length 0) (addR_nodup _ _ List.nodup_nil) (fun y hy => (addR_mem _ _ _).2 (Or.inr hy)) (fun y hy => by
    rcases (addR_mem _ _ _).1 hy with c | c
    · cases c
    · exact orbE_same l y (orbE_mem l y _ _ (by omega) c))
  rw [orbE_length, orbE_count] at h
  rw [symm_cnt]
  simp only [Int.zero_add]
  rw [Int.mul_comm]
  have e : (((addR [] (orbE l l.length 0)).length * (cntP (fun i => rot l i = l) 0 l.length + cntP (fun i => rot l.reverse i = l) 0 l.length) : Nat) : Int) = ((2 * l.length : Nat) : Int) := by rw [h]
  rw [Int.natCast_mul, Int.natCast_add, Int.natCast_mul] at e
  exact e
theorem symm_small (l : List Int) : 0 ≤ (symm l l.length 0 0 0).1 ∧ (symm l l.length 0 0 0).1 ≤ l.length ∧ 0 ≤ (symm l l.length 0 0 0).2 ∧ (symm l l.length 0 0 0).2 ≤ l.length := by
  have hc : ∀ (g : Nat → Prop) [DecidablePred g] (d a : Nat), cntP g a d ≤ d := by
    intro g _ d
    induction d with
    | zero => intro a; simp [cntP]
    | succ d ih =>
      intro a
      rw [cntP]
      have := ih (a + 1)
      split <;> omega
  rw [symm_cnt]
  have h1 := hc (fun i => rot l i = l) l.length 0
  have h2 := hc (fun i => rot l.reverse i = l) l.length 0
  simp only [Int.zero_add]
  omega
def sumsF : Int → List Int → List Int
  | _, [] => []
  | f, x :: xs => f :: sumsF (f + x) xs
theorem sum_nonneg : ∀ xs : List Int, (∀ x ∈ xs, 1 ≤ x) → 0 ≤ xs.sum
  | [], _ => by simp
  | x :: xs, h => by
    have := sum_nonneg xs (fun y hy => h y (List.mem_cons_of_mem _ hy))
    have := h x List.mem_cons_self
    rw [List.sum_cons]; omega
theorem dirsF_sums : ∀ (l : List Int) (f : Int) (o : List Int), (∀ x ∈ l, 1 ≤ x) → f + l.sum ≤ 16 → dirsF f o l = (o ++ sumsF f l, true)
  | [], f, o, _, _ => by simp [dirsF, sumsF]
  | x :: xs, f, o, h, hs => by
    have h1 := h x List.mem_cons_self
    have h2 := sum_nonneg xs (fun y hy => h y (List.mem_cons_of_mem _ hy))
    rw [List.sum_cons] at hs
    rw [dirsF, if_neg (by omega), dirsF_sums xs (f + x) (o ++ [f]) (fun y hy => h y (List.mem_cons_of_mem _ hy)) (by omega), sumsF, List.append_assoc]
    rfl
theorem sumsF_length : ∀ (l : List Int) (f : Int), (sumsF f l).length = l.length
  | [], _ => rfl
  | x :: xs, f => by rw [sumsF, List.length_cons, List.length_cons, sumsF_length xs]
theorem sumsF_rises : ∀ (l : List Int) (f : Int) (p : Option Int), (∀ x ∈ l, 1 ≤ x) → 0 ≤ f → f + l.sum ≤ 16 → (∀ q, p = some q → q < f) → rises 0 15 p (sumsF f l) = true
  | [], _, _, _, _, _, _ => rfl
  | x :: xs, f, p, h, h0, hs, hp => by
    have h1 := h x List.mem_cons_self
    have h2 := sum_nonneg xs (fun y hy => h y (List.mem_cons_of_mem _ hy))
    rw [List.sum_cons] at hs
    rw [sumsF]
    simp only [rises]
    rw [sumsF_rises xs (f + x) (some f) (fun y hy => h y (List.mem_cons_of_mem _ hy)) (by omega) (by omega) (fun q hq => by injection hq with hq; omega), Bool.and_true, decide_eq_true (by omega), Bool.true_and]
    cases p with
    | none => rfl
    | some q => exact decide_eq_true (hp q rfl)
theorem gaps_sums : ∀ (l : List Int) (f : Int), f + l.sum = 16 → gaps 0 (sumsF f l) = l
  | [], _, _ => rfl
  | [x], f, h => by
    rw [List.sum_singleton] at h
    simp only [sumsF, gaps]
    rw [show 0 + 16 - f = x by omega]
  | x :: y :: r, f, h => by
    rw [List.sum_cons] at h
    have ih := gaps_sums (y :: r) (f + x) (by omega)
    rw [sumsF]
    simp only [sumsF] at ih ⊢
    rw [gaps, ih, show f + x - f = x by omega]
theorem lexlt_lexLt : ∀ a b : List Int, a.length = b.length → lexlt a b = zlU a b
  | [], [], _ => by simp [lexlt, zlU]
  | [], _ :: _, h => by simp at h
  | _ :: _, [], h => by simp at h
  | x :: xs, y :: ys, h => by
    rw [List.length_cons, List.length_cons] at h
    simp only [lexlt, zlU]
    rw [lexlt_lexLt xs ys (by omega)]
end Go.Proofs.Ytbpkbllokmplnaa.Math
