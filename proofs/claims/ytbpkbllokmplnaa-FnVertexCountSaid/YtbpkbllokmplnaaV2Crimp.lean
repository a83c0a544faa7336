/- Plain lemmas of this session on crimps of cones. Conditions: none. -/
import Derived.Test.YtbpkbllokmplnaaV2Around
namespace Go.Proofs.Ytbpkbllokmplnaa.Math
open Go.RowKit Go.Proofs.YtbpkbllokmplnaaW.PrintWords Go.Proofs.YtbpkbllokmplnaaW.PrintMore

/-- The kinds of a cone: mountains (2) and valleys (3). -/
def znN (q : List Int) : Prop := ∀ x ∈ q, x = 2 ∨ x = 3
instance (q : List Int) : Decidable (znN q) := by unfold znN; infer_instance
/-- The number of mountains less that of all others. -/
def tal : List Int → Int
  | [] => 0
  | x :: xs => (if x = 2 then 1 else -1) + tal xs
theorem tal_bd : ∀ l : List Int, -(l.length : Int) ≤ tal l ∧ tal l ≤ l.length
  | [] => by simp [tal]
  | x :: xs => by
    have := tal_bd xs
    simp only [tal, List.length_cons]
    split <;> omega
/-- How often a number stands in a list. -/
def cnt (y : Int) : List Int → Int
  | [] => 0
  | x :: xs => (if x = y then 1 else 0) + cnt y xs
theorem cnt_bd (y : Int) : ∀ l : List Int, 0 ≤ cnt y l ∧ cnt y l ≤ l.length
  | [] => by simp [cnt]
  | x :: xs => by
    have := cnt_bd y xs
    simp only [cnt, List.length_cons]
    split <;> omega
theorem cnt_tal : ∀ {l : List Int}, znN l → cnt 2 l - cnt 3 l = tal l
  | [], _ => rfl
  | x :: xs, h => by
    have h1 := h x List.mem_cons_self
    have h2 := cnt_tal (l := xs) (fun y hy => h y (List.mem_cons_of_mem _ hy))
    simp only [cnt, tal]
    rcases h1 with rfl | rfl
    · simp; omega
    · simp; omega
/-- The zyR of a run of c sectors, in a rotated list of kinds. -/
def zlR (c : Nat) (Q : List Int) : List Int := (Q.take (c + 2)).drop 1
/-- A crimp, in lists that are rotated such that the run begins at place 1. -/
def zuU (c : Nat) (L Q : List Int) : List Int × List Int × Int :=
  if c % 2 = 1 then (if tal (zlR c Q) = 0 then ((rd L 0 - rd L 1 + rd L ((c + 1 : Nat) : Int)) :: L.drop (c + 2), rd Q 0 :: Q.drop (c + 2), 0) else ([], [], 8))
  else (if tal (zlR c Q) = 1 ∨ tal (zlR c Q) = -1 then (rd L 0 :: L.drop (c + 1), rd Q 0 :: (if tal (zlR c Q) < 0 then 3 else 2) :: Q.drop (c + 2), 0) else ([], [], 8))
/-- A crimp: a smaller cone and its kinds, or an error. -/
def zdQ (l q : List Int) : List Int × List Int × Int :=
  match zpQ l l.length 0 with
  | none => ([], [], 6)
  | some i => zuU (zfG l i).toNat (rot l ((i + l.length - 1) % l.length)) (rot q ((i + l.length - 1) % l.length))
/-- What is known of the run that a crimp takes, in rotated lists. -/
structure RunR (c : Nat) (L : List Int) : Prop where
  one : 1 ≤ c
  two : c + 2 ≤ L.length
  len : L.length ≤ 16
  even : L.length % 2 = 0
  big : ∀ x ∈ L, 1 ≤ x ∧ x ≤ 16
  sum : L.sum ≤ 16
  alt : alt L = 0
  eq : ∀ j, 1 ≤ j → j ≤ c → rd L (j : Int) = rd L 1
  hd : rd L 0 > rd L 1
  tl : rd L ((c + 1 : Nat) : Int) > rd L 1
theorem rd_eq (l : List Int) {j : Nat} (h : j < l.length) : rd l (j : Int) = l[j] := rd_nat l j h
/-- A list in front, a run, and the rest. -/
theorem split_run {c : Nat} {L : List Int} (h2 : c + 1 ≤ L.length) (he : ∀ j, 1 ≤ j → j ≤ c → rd L (j : Int) = rd L 1) : L = rd L 0 :: (List.replicate c (rd L 1) ++ L.drop (c + 1)) := by
  apply List.ext_getElem
  · simp; omega
  · intro j h3 h4
    cases j with
    | zero => rw [List.getElem_cons_zero]; exact (rd_eq L h3).symm
    | succ j =>
      rw [List.getElem_cons_succ]
      by_cases hj : j < c
      · rw [List.getElem_append_left (by simpa using hj), List.getElem_replicate, ← he (j + 1) (by omega) (by omega), rd_eq L h3]
      · rw [List.getElem_append_right (by simp; omega), List.getElem_drop]
        congr 1
        simp; omega
/-- The run isn't all but one sector of a cone. -/
theorem run_short {c : Nat} {L : List Int} (_ : 1 ≤ c) (hn : L.length = c + 1) (hev : L.length % 2 = 0) (ha : alt L = 0) (he : ∀ j, 1 ≤ j → j ≤ c → rd L (j : Int) = rd L 1) (hd : rd L 0 > rd L 1) : False := by
  have hs := split_run (by omega) he
  rw [List.drop_eq_nil_of_le (by omega), List.append_nil] at hs
  rw [hs, alt, alt_replicate, if_neg (by omega)] at ha
  omega
theorem runR_of {l : List Int} (h : zzZ l) {i : Nat} (hi : i < l.length) (hr : zfG l i > 0) : RunR (zfG l i).toNat (rot l ((i + l.length - 1) % l.length)) := by
  obtain ⟨h1, h2, h3, h4, h5, h6⟩ := h
  obtain ⟨c, e, c1, c2, c3, c4, c5⟩ := runVal_props l i hi h1 hr
  have hb : (i + l.length - 1) % l.length < l.length := Nat.mod_lt _ (by omega)
  have hlen := zfX l ((i + l.length - 1) % l.length) (by omega)
  have hat : ∀ t, t < l.length → rd (rot l ((i + l.length - 1) % l.length)) (t : Int) = at' l (i + l.length - 1 + t) := fun t ht => by
    rw [rd_rot l _ t hb ht]; exact at'_congr l (add_mod_l _ _ _)
  have hat1 : ∀ t, t + 1 < l.length → rd (rot l ((i + l.length - 1) % l.length)) ((t + 1 : Nat) : Int) = at' l (i + t) := fun t ht => by
    rw [hat _ ht]; exact at'_congr l (by rw [show i + l.length - 1 + (t + 1) = i + t + l.length by omega, Nat.add_mod_right])
  have e0 : rd (rot l ((i + l.length - 1) % l.length)) 0 = at' l (i + l.length - 1) := hat 0 (by omega)
  have e1 : rd (rot l ((i + l.length - 1) % l.length)) 1 = at' l i := hat1 0 (by omega)
  have heq : ∀ j, 1 ≤ j → j ≤ c → j < l.length → rd (rot l ((i + l.length - 1) % l.length)) (j : Int) = rd (rot l ((i + l.length - 1) % l.length)) 1 := fun j hj1 hj2 hj3 => by
    obtain ⟨j, rfl⟩ : ∃ m, j = m + 1 := ⟨j - 1, by omega⟩
    rw [hat1 j hj3, e1]; exact c3 j (by omega)
  have ha := alt_rot h6 h3 _ (Nat.le_of_lt hb)
  have htwo : c + 2 ≤ l.length := by
    rcases Nat.lt_or_ge (c + 1) l.length with q | q
    · omega
    · exfalso
      exact run_short (L := rot l ((i + l.length - 1) % l.length)) c1 (by omega) (by omega) ha (fun j a b => heq j a b (by omega)) (by rw [e0, e1]; exact c5)
  rw [e, Int.toNat_natCast]
  exact ⟨c1, by omega, by omega, by omega, fun x hx => h4 x (mem_rot hx), by rw [sum_rot]; exact h5, ha, fun j a b => heq j a b (by omega), by rw [e0, e1]; exact c5, by rw [hat1 c (by omega), e1]; exact c4⟩
end Go.Proofs.Ytbpkbllokmplnaa.Math
