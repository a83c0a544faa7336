/- Plain lemmas of this session on least rotations and on the two growths of lists. Conditions: none. -/
import Derived.Test.YtbpkbllokmplnaaS1Math
import Derived.Test.YtbpkbllokmplnaaS1Lex
import Derived.Test.YtbpkbllokmplnaaS1Secs
namespace Go.Proofs.Ytbpkbllokmplnaa.Math
open Go.RowKit Go.Proofs.YtbpkbllokmplnaaW.PrintWords Go.Proofs.YtbpkbllokmplnaaW.PrintMore

theorem lexLt_trans : ∀ a b c : List Int, zlU a b = true → zlU b c = true → zlU a c = true
  | [], [], _, h, _ => by simp [zlU] at h
  | [], _ :: _, [], _, h => by simp [zlU] at h
  | [], _ :: _, _ :: _, _, _ => by simp [zlU]
  | _ :: _, [], _, h, _ => by simp [zlU] at h
  | _ :: _, _ :: _, [], _, h => by simp [zlU] at h
  | x :: xs, y :: ys, z :: zs, h1, h2 => by
    simp only [zlU] at h1 h2 ⊢
    by_cases e1 : x = y
    · subst e1
      rw [if_pos rfl] at h1
      by_cases e2 : x = z
      · subst e2
        rw [if_pos rfl] at h2 ⊢
        exact lexLt_trans xs ys zs h1 h2
      · rw [if_neg e2] at h2 ⊢
        exact h2
    · rw [if_neg e1] at h1
      have h1 := of_decide_eq_true h1
      by_cases e2 : y = z
      · subst e2
        rw [if_neg e1]
        exact decide_eq_true h1
      · rw [if_neg e2] at h2
        have h2 := of_decide_eq_true h2
        rw [if_neg (by omega)]
        exact decide_eq_true (by omega)
theorem lexLt_asymm (a b : List Int) (h : zlU a b = true) : zlU b a = false := by
  cases c : zlU b a with
  | false => rfl
  | true => have := lexLt_trans a b a h c; rw [lexLt_self] at this; cases this
theorem lexLt_total (a b : List Int) (h1 : zlU a b = false) (h2 : zlU b a = false) : a = b := by
  have := lexLt_same a b
  rw [h1, h2] at this
  exact of_decide_eq_true this.symm
theorem lexLe_trans (a b c : List Int) (h1 : zlU b a = false) (h2 : zlU c b = false) : zlU c a = false := by
  cases h : zlU c a with
  | false => rfl
  | true =>
    by_cases e : b = c
    · subst e; rw [h] at h1; cases h1
    · have hbc : zlU b c = true := by
        cases g : zlU b c with
        | true => rfl
        | false => exact absurd (lexLt_total b c g h2) e
      rw [lexLt_trans b c a hbc h] at h1
      cases h1
theorem lesser_le_right (a b : List Int) : zlU b (lesser a b) = false := by
  unfold lesser
  split
  · exact lexLt_asymm _ _ (by assumption)
  · exact lexLt_self b
theorem lesser_le_left (a b : List Int) : zlU a (lesser a b) = false := by
  unfold lesser
  split
  · exact lexLt_self a
  · rename_i h; cases c : zlU a b with
    | false => rfl
    | true => exact absurd c h
theorem least_le_best (l : List Int) : ∀ (d j : Nat) (b c : List Int), zlU c b = false → zlU c (least l d j b) = false
  | 0, _, _, _, h => h
  | d + 1, j, _, c, h => least_le_best l d (j + 1) _ c (lexLe_trans _ _ c (lesser_le_right _ _) (lexLe_trans _ _ c (lesser_le_right _ _) h))
theorem least_le_rot (l : List Int) : ∀ (d j : Nat) (b : List Int) (i : Nat), j ≤ i → i < j + d → zlU (rot l i) (least l d j b) = false
  | 0, j, _, i, h1, h2 => by omega
  | d + 1, j, b, i, h1, h2 => by
    by_cases e : i = j
    · subst e
      exact least_le_best l d (i + 1) _ _ (lexLe_trans _ _ _ (lesser_le_right _ _) (lesser_le_left _ _))
    · exact least_le_rot l d (j + 1) _ i (by omega) (by omega)
theorem least_le_mirror (l : List Int) : ∀ (d j : Nat) (b : List Int) (i : Nat), j ≤ i → i < j + d → zlU (rot l.reverse i) (least l d j b) = false
  | 0, j, _, i, h1, h2 => by omega
  | d + 1, j, b, i, h1, h2 => by
    by_cases e : i = j
    · subst e
      exact least_le_best l d (i + 1) _ _ (lesser_le_left _ _)
    · exact least_le_mirror l d (j + 1) _ i (by omega) (by omega)
theorem least_head (l : List Int) (h : least l l.length 0 l = l) (x : Int) (hx : x ∈ l) : l.getD 0 1 ≤ x := by
  obtain ⟨i, hi, rfl⟩ := List.getElem_of_mem hx
  have h1 := least_le_rot l l.length 0 l i (by omega) (by omega)
  rw [h] at h1
  cases l with
  | nil => simp at hi
  | cons y ys =>
    unfold rot at h1
    rw [List.drop_eq_getElem_cons hi, List.cons_append] at h1
    simp only [zlU] at h1
    simp only [List.getD_cons_zero]
    by_cases e : (y :: ys)[i] = y
    · omega
    · rw [if_neg e] at h1
      have := of_decide_eq_false h1
      omega

def rng : Int → Nat → List Int
  | _, 0 => []
  | a, d + 1 => a :: rng (a + 1) d
theorem mem_rng : ∀ (d : Nat) (a x : Int), x ∈ rng a d ↔ a ≤ x ∧ x < a + d
  | 0, a, x => by simp only [rng, List.not_mem_nil, false_iff]; omega
  | d + 1, a, x => by simp only [rng, List.mem_cons, mem_rng d (a + 1) x]; omega
theorem rng_add : ∀ (d e : Nat) (a : Int), rng a (d + e) = rng a d ++ rng (a + d) e
  | 0, e, a => by simp [rng]
  | d + 1, e, a => by
    rw [show d + 1 + e = (d + e) + 1 by omega]
    simp only [rng, List.cons_append]
    rw [rng_add d e (a + 1), show a + 1 + (d : Int) = a + ((d + 1 : Nat) : Int) by omega]
theorem flatMap_nil' {α β : Type} (F : α → List β) : ∀ (l : List α), (∀ x ∈ l, F x = []) → l.flatMap F = []
  | [], _ => rfl
  | x :: xs, h => by rw [List.flatMap_cons, h x List.mem_cons_self, flatMap_nil' F xs (fun y hy => h y (List.mem_cons_of_mem _ hy))]; rfl
theorem flatMap_congr' {α β : Type} (F G : α → List β) : ∀ (l : List α), (∀ x ∈ l, F x = G x) → l.flatMap F = l.flatMap G
  | [], _ => rfl
  | x :: xs, h => by rw [List.flatMap_cons, List.flatMap_cons, h x List.mem_cons_self, flatMap_congr' F G xs (fun y hy => h y (List.mem_cons_of_mem _ hy))]
theorem flatMap_within {β : Type} (F G : Int → List β) (a b : Int) (d e : Nat) (hab : a ≤ b) (hin : 0 < e → b + e ≤ a + d) (h1 : ∀ x, a ≤ x → x < a + d → (x < b ∨ b + e ≤ x) → F x = []) (h2 : ∀ x, b ≤ x → x < b + e → F x = G x) :
    (rng a d).flatMap F = (rng b e).flatMap G := by
  by_cases he : e = 0
  · subst he
    rw [flatMap_nil' F _ (fun x hx => ?_)]
    · rfl
    · have := (mem_rng d a x).1 hx
      exact h1 x this.1 this.2 (by omega)
  · have hin := hin (by omega)
    obtain ⟨p, hp⟩ : ∃ p : Nat, b = a + p := ⟨(b - a).toNat, by omega⟩
    obtain ⟨q, hq⟩ : ∃ q : Nat, d = p + (e + q) := ⟨d - (p + e), by omega⟩
    subst hq
    rw [rng_add, rng_add, List.flatMap_append, List.flatMap_append, ← hp]
    rw [flatMap_nil' F (rng a p) (fun x hx => ?_), flatMap_nil' F (rng (b + e) q) (fun x hx => ?_), flatMap_congr' F G (rng b e) (fun x hx => ?_)]
    · simp
    · have := (mem_rng e b x).1 hx
      exact h2 x this.1 this.2
    · have := (mem_rng q (b + e) x).1 hx
      exact h1 x (by omega) (by omega) (by omega)
    · have := (mem_rng p a x).1 hx
      exact h1 x (by omega) (by omega) (by omega)
theorem filter_flatMap' {α β : Type} (p : β → Bool) (F : α → List β) : ∀ (l : List α), (l.flatMap F).filter p = l.flatMap (fun x => (F x).filter p)
  | [] => rfl
  | x :: xs => by rw [List.flatMap_cons, List.flatMap_cons, List.filter_append, filter_flatMap' p F xs]

def ztQ : Nat → List Int → Int → List (List Int)
  | 0, pre, left => [pre ++ [left]]
  | m + 1, pre, left => (rng 1 (left - (m + 1 : Nat)).toNat).flatMap fun x => ztQ m (pre ++ [x]) (left - x)
def growP : Nat → List Int → Int → List (List Int)
  | 0, l, _ => [l]
  | n + 1, l, left => (rng (l.getD 0 1) (left - n * l.getD 0 1 - l.getD 0 1 + 1).toNat).flatMap fun x => growP n (l ++ [x]) (left - x)
def goodB (l : List Int) : Bool := decide (alt l = 0) && decide (least l l.length 0 l = l)
def goodS (l : List Int) : Bool := decide (SecOk l ∧ l.length % 2 = 0 ∧ alt l = 0) && decide (least l l.length 0 l = l)
theorem goodS_le {l : List Int} (h : goodS l = true) (x : Int) (hx : x ∈ l) : l.getD 0 1 ≤ x := by
  unfold goodS at h
  rw [Bool.and_eq_true] at h
  exact least_head l (of_decide_eq_true h.2) x hx
theorem goodS_sum {l : List Int} (h : goodS l = true) : l.sum = 16 := by
  unfold goodS at h
  rw [Bool.and_eq_true] at h
  exact (of_decide_eq_true h.1).1.2.2
theorem compsP_mem : ∀ (m : Nat) (pre : List Int) (left : Int) (l : List Int), (m : Int) + 1 ≤ left → l ∈ ztQ m pre left → ∃ t : List Int, l = pre ++ t ∧ t.length = m + 1 ∧ t.sum = left ∧ ∀ x ∈ t, 1 ≤ x
  | 0, pre, left, l, h, hl => by
    simp only [ztQ, List.mem_singleton] at hl
    exact ⟨[left], hl, rfl, by simp, fun x hx => by rw [List.mem_singleton] at hx; omega⟩
  | m + 1, pre, left, l, h, hl => by
    simp only [ztQ, List.mem_flatMap] at hl
    obtain ⟨x, hx, hl⟩ := hl
    have hx := (mem_rng _ _ _).1 hx
    obtain ⟨t, e, h1, h2, h3⟩ := compsP_mem m (pre ++ [x]) (left - x) l (by omega) hl
    refine ⟨x :: t, by rw [e]; simp, by rw [List.length_cons]; omega, by rw [List.sum_cons]; omega, fun y hy => ?_⟩
    rcases List.mem_cons.1 hy with rfl | hy
    · omega
    · exact h3 y hy
theorem sum_ge : ∀ (t : List Int) (low : Int), (∀ x ∈ t, low ≤ x) → low * (t.length : Int) ≤ t.sum
  | [], low, _ => by simp
  | x :: xs, low, h => by
    have h1 := h x List.mem_cons_self
    have h2 := sum_ge xs low (fun y hy => h y (List.mem_cons_of_mem _ hy))
    rw [List.sum_cons, List.length_cons, show ((xs.length + 1 : Nat) : Int) = (xs.length : Int) + 1 by omega, Int.mul_add]
    omega
theorem good_pre (m : Nat) (pre : List Int) (left : Int) (l : List Int) (h : (m : Int) + 1 ≤ left) (hl : l ∈ ztQ m pre left) (hg : goodS l = true) (hp : pre ≠ []) :
    (∀ x ∈ pre, pre.getD 0 1 ≤ x) ∧ (pre.getD 0 1) * ((m + 1 : Nat) : Int) ≤ left := by
  obtain ⟨t, rfl, h1, h2, h3⟩ := compsP_mem m pre left l h hl
  have e : (pre ++ t).getD 0 1 = pre.getD 0 1 := by
    cases pre with
    | nil => exact absurd rfl hp
    | cons a as => rfl
  refine ⟨fun x hx => ?_, ?_⟩
  · have := goodS_le hg x (List.mem_append_left _ hx); rw [e] at this; exact this
  · rw [← h1, ← h2]
    refine sum_ge t _ (fun x hx => ?_)
    have := goodS_le hg x (List.mem_append_right _ hx); rw [e] at this; exact this
theorem filter_none {α : Type} (p : α → Bool) (l : List α) (h : ∀ x ∈ l, p x = true → False) : l.filter p = [] := by
  rw [List.filter_eq_nil_iff]
  exact fun x hx c => h x hx c
theorem comps_grow : ∀ (m : Nat) (pre : List Int) (left : Int), (m : Int) + 1 ≤ left → (∀ x ∈ pre, 1 ≤ x) → pre.sum + left = 16 →
    (ztQ m pre left).filter goodS = (growP (m + 1) pre left).filter goodS
  | 0, pre, left, h, hp, hs => by
    rw [growP, filter_flatMap']
    rw [show ztQ 0 pre left = [pre ++ [left]] from rfl]
    have hlow : 1 ≤ pre.getD 0 1 := by
      cases pre with
      | nil => simp
      | cons a as => exact hp a List.mem_cons_self
    by_cases hle : pre.getD 0 1 ≤ left
    · have e : (left - (0 : Nat) * pre.getD 0 1 - pre.getD 0 1 + 1).toNat = (left - pre.getD 0 1).toNat + 1 := by rw [Int.natCast_zero, Int.zero_mul]; omega
      rw [e, rng_add, List.flatMap_append, flatMap_nil' _ (rng _ _) (fun x hx => ?_)]
      · simp only [rng, List.flatMap_cons, List.flatMap_nil, List.append_nil, List.nil_append]
        rw [show pre.getD 0 1 + ((left - pre.getD 0 1).toNat : Int) = left by omega]
        rfl
      · have hx := (mem_rng _ _ _).1 hx
        refine filter_none _ _ (fun y hy hg => ?_)
        simp only [growP, List.mem_singleton] at hy
        subst hy
        have := goodS_sum hg
        rw [List.sum_append, List.sum_singleton] at this
        omega
    · have e : (left - (0 : Nat) * pre.getD 0 1 - pre.getD 0 1 + 1).toNat = 0 := by rw [Int.natCast_zero, Int.zero_mul]; omega
      rw [e]
      refine filter_none _ _ (fun y hy hg => ?_)
      by_cases hn : pre = []
      · subst hn
        simp at hle
        omega
      · have := (good_pre 0 pre left y h hy hg hn).2
        rw [show ((0 + 1 : Nat) : Int) = 1 from rfl, Int.mul_one] at this
        omega
  | m + 1, pre, left, h, hp, hs => by
    have hlow : 1 ≤ pre.getD 0 1 := by
      cases pre with
      | nil => simp
      | cons a as => exact hp a List.mem_cons_self
    have hmul : ((m + 1 : Nat) : Int) ≤ ((m + 1 : Nat) : Int) * pre.getD 0 1 := by
      have := Int.mul_le_mul_of_nonneg_left hlow (by omega : (0 : Int) ≤ ((m + 1 : Nat) : Int))
      rw [Int.mul_one] at this
      exact this
    rw [ztQ, growP, filter_flatMap', filter_flatMap']
    obtain ⟨P, hP⟩ : ∃ P, P = ((m + 1 : Nat) : Int) * pre.getD 0 1 := ⟨_, rfl⟩
    rw [← hP] at hmul ⊢
    refine flatMap_within _ _ 1 (pre.getD 0 1) _ _ hlow (fun _ => by omega) (fun x h1 h2 h3 => ?_) (fun x h1 h2 => ?_)
    · refine filter_none _ _ (fun y hy hg => ?_)
      have hq : (m : Int) + 1 ≤ left - x := by omega
      by_cases hn : pre = []
      · subst hn
        simp only [List.getD_nil] at h3 hP
        omega
      · have hgp := good_pre m (pre ++ [x]) (left - x) y hq hy hg (by simp)
        have e : (pre ++ [x]).getD 0 1 = pre.getD 0 1 := by
          cases pre with
          | nil => exact absurd rfl hn
          | cons a as => rfl
        rw [e] at hgp
        have g1 := hgp.1 x (by simp)
        have g2 := hgp.2
        rw [Int.mul_comm, ← hP] at g2
        omega
    · exact comps_grow m (pre ++ [x]) (left - x) (by omega) (fun y hy => by rcases List.mem_append.1 hy with hy | hy; exact hp y hy; rw [List.mem_singleton] at hy; omega) (by rw [List.sum_append, List.sum_singleton]; omega)
theorem comps_ok (n : Nat) (h0 : 1 ≤ n) (hn : n ≤ 16) (l : List Int) (hl : l ∈ ztQ (n - 1) [] 16) : SecOk l ∧ l.length = n := by
  obtain ⟨t, e, h1, h2, h3⟩ := compsP_mem (n - 1) [] 16 l (by omega) hl
  rw [List.nil_append] at e
  subst e
  refine ⟨⟨by omega, fun x hx => ⟨h3 x hx, ?_⟩, h2⟩, by omega⟩
  obtain ⟨s, t2, rfl⟩ := List.append_of_mem hx
  have g1 := sum_ge s 1 (fun y hy => h3 y (by simp [hy]))
  have g2 := sum_ge t2 1 (fun y hy => h3 y (by simp [hy]))
  rw [List.sum_append, List.sum_cons] at h2
  omega
theorem comps_both (n : Nat) (h0 : 2 ≤ n) (hn : n ≤ 16) (he : n % 2 = 0) : (ztQ (n - 1) [] 16).filter goodB = (growP n [] 16).filter goodS := by
  have := comps_grow (n - 1) [] 16 (by omega) (fun x hx => by simp at hx) (by simp)
  rw [show n - 1 + 1 = n by omega] at this
  rw [← this]
  refine List.filter_congr (fun l hl => ?_)
  obtain ⟨h1, h2⟩ := comps_ok n (by omega) hn l hl
  unfold goodB goodS
  rw [show decide (SecOk l ∧ l.length % 2 = 0 ∧ alt l = 0) = decide (alt l = 0) by rw [decide_eq_decide]; exact ⟨fun h => h.2.2, fun h => ⟨h1, by omega, h⟩⟩]
theorem pow_step (n : Nat) : 2 ^ (n + 1) = 2 ^ n + 2 ^ n := by rw [Nat.pow_succ]; omega
theorem flatMap_len {β : Type} (F : Int → List β) (left : Int) : ∀ (d : Nat) (a : Int), a + d ≤ left + 1 → (∀ x, a ≤ x → x < a + d → (F x).length ≤ 2 ^ (left - x).toNat) → ((rng a d).flatMap F).length ≤ 2 ^ (left - a + 1).toNat
  | 0, _, _, _ => by simp [rng]
  | d + 1, a, h, hF => by
    have h1 := hF a (by omega) (by omega)
    have h2 := flatMap_len F left d (a + 1) (by omega) (fun x g1 g2 => hF x (by omega) (by omega))
    rw [rng, List.flatMap_cons, List.length_append, show (left - a + 1).toNat = (left - a).toNat + 1 by omega, pow_step]
    rw [show (left - (a + 1) + 1).toNat = (left - a).toNat by omega] at h2
    omega
theorem compsP_len : ∀ (m : Nat) (pre : List Int) (left : Int), (m : Int) + 1 ≤ left → (ztQ m pre left).length ≤ 2 ^ left.toNat
  | 0, pre, left, _ => by have := Nat.pow_pos (n := left.toNat) (show 0 < 2 by omega); simp only [ztQ, List.length_singleton]; omega
  | m + 1, pre, left, h => by
    rw [ztQ]
    have := flatMap_len (fun x => ztQ m (pre ++ [x]) (left - x)) left (left - (m + 1 : Nat)).toNat 1 (by omega) (fun x h1 h2 => compsP_len m (pre ++ [x]) (left - x) (by omega))
    rw [show (left - 1 + 1).toNat = left.toNat by omega] at this
    exact this
theorem low_ge {l : List Int} (h : ∀ x ∈ l, 1 ≤ x) : 1 ≤ l.getD 0 1 := by
  cases l with
  | nil => simp
  | cons a as => exact h a List.mem_cons_self
theorem growP_len : ∀ (n : Nat) (l : List Int) (left : Int), 0 ≤ left → (∀ x ∈ l, 1 ≤ x) → (growP n l left).length ≤ 2 ^ left.toNat
  | 0, l, left, _, _ => by have := Nat.pow_pos (n := left.toNat) (show 0 < 2 by omega); simp only [growP, List.length_singleton]; omega
  | n + 1, l, left, h, hl => by
    rw [growP]
    have h1 := low_ge hl
    have h2 : 0 ≤ (n : Int) * l.getD 0 1 := Int.mul_nonneg (by omega) (by omega)
    obtain ⟨P, hP⟩ : ∃ P, P = (n : Int) * l.getD 0 1 := ⟨_, rfl⟩
    obtain ⟨L, hL⟩ : ∃ L, L = l.getD 0 1 := ⟨_, rfl⟩
    rw [← hP] at h2 ⊢
    rw [← hL] at h1 ⊢
    have hd : (left - P - L + 1).toNat = 0 ∨ ((left - P - L + 1).toNat : Int) = left - P - L + 1 := by omega
    by_cases h0 : (left - P - L + 1).toNat = 0
    · rw [h0]; simp [rng]
    · have g := flatMap_len (fun x => growP n (l ++ [x]) (left - x)) left (left - P - L + 1).toNat L (by omega) (fun x g1 g2 => growP_len n (l ++ [x]) (left - x) (by omega) (fun y hy => by rcases List.mem_append.1 hy with hy | hy; exact hl y hy; rw [List.mem_singleton] at hy; omega))
      have := Nat.pow_le_pow_right (show 0 < 2 by omega) (show (left - L + 1).toNat ≤ left.toNat by omega)
      omega
def loopK (f : Int → List (List Int) → Option (List (List Int))) : Nat → Int → List (List Int) → Option (List (List Int))
  | 0, _, rows => some rows
  | d + 1, x, rows => (f x rows).bind fun rows => loopK f d (x + 1) rows
theorem loopK_eq (f : Int → List (List Int) → Option (List (List Int))) (F : Int → List (List Int)) (p : List Int → Bool) (left : Int) (B : Nat) : ∀ (d : Nat) (a : Int) (rows : List (List Int)), a + d ≤ left + 1 → rows.length + 2 ^ (left - a + 1).toNat ≤ B →
    (∀ x, a ≤ x → x < a + d → (F x).length ≤ 2 ^ (left - x).toNat) → (∀ x rows, a ≤ x → x < a + d → rows.length + 2 ^ (left - x).toNat ≤ B → f x rows = some (rows ++ (F x).filter p)) →
    loopK f d a rows = some (rows ++ ((rng a d).flatMap F).filter p)
  | 0, _, rows, _, _, _, _ => by simp [loopK, rng]
  | d + 1, a, rows, h, hB, hF, hf => by
    rw [show (left - a + 1).toNat = (left - a).toNat + 1 by omega, pow_step] at hB
    have h1 := hF a (by omega) (by omega)
    have h2 := List.length_filter_le p (F a)
    rw [loopK, hf a rows (by omega) (by omega) (by omega), Option.bind_some, loopK_eq f F p left B d (a + 1) _ (by omega) (by rw [List.length_append, show (left - (a + 1) + 1).toNat = (left - a).toNat by omega]; omega) (fun x g1 g2 => hF x (by omega) (by omega)) (fun x rows g1 g2 => hf x rows (by omega) (by omega))]
    rw [rng, List.flatMap_cons, List.filter_append, List.append_assoc]
def kawV (n : Int) : List (List Int) × Int := if 2 ≤ n ∧ n ≤ 16 ∧ n % 2 = 0 then ((growP n.toNat [] 16).filter goodS, 0) else ([], 2)
theorem kawV_small (n : Int) : (kawV n).1.length ≤ 65536 ∧ ∀ x ∈ (kawV n).1, x.length ≤ 16 := by
  unfold kawV
  split
  · rename_i h
    refine ⟨?_, fun x hx => ?_⟩
    · have h1 := growP_len n.toNat [] 16 (by omega) (fun x hx => by simp at hx)
      have h2 := List.length_filter_le goodS (growP n.toNat [] 16)
      have c : 2 ^ (16 : Int).toNat = 65536 := by decide
      simp only
      omega
    · have := (List.mem_filter.1 hx).2
      unfold goodS at this
      rw [Bool.and_eq_true] at this
      exact (of_decide_eq_true this.1).1.1
  · exact ⟨by simp, fun x hx => by simp at hx⟩
end Go.Proofs.Ytbpkbllokmplnaa.Math
