/- A general aid, by this session: what a value that came in and reads as data of a type holds, as one of the print's kinds (Kd). Conditions: none. -/
import Derived.Test.YtbpkbllokmplnaaA1WMore
import Derived.Deep.Slices
import Derived.DataReads
import Derived.DataShut
namespace Go.Proofs.Ytbpkbllokmplnaa.Open
open Go.Proofs.YtbpkbllokmplnaaW.PrintWords Go.ChangeShapes Go.WideShapes Go.Deep

structure Opens {α : Type} (P : Program) (t : TypeId) (d : Kd α) (ok : α → Prop) : Prop where
  sz : d.sz = P.cellsOf t
  op : ∀ {H : Type} {enc : TypeId × Value → H} {W : World} {fuel : Nat} {cs : List Value} {x : DataW H × List MemPlace},
    DataW.trod enc P W 0 (fun _ => true) true fuel t cs = some x → ∃ y, d.K W y cs ∧ ok y

theorem opens_int {P : Program} {t : TypeId} {k : IntKind} (h : P.underlying t = some (.int k)) (hc : P.cellsOf t = 1) : Opens P t (Kd.int k) (fun n => (Lit.int k n).wf = true) :=
  ⟨hc.symm, fun hf => by
    obtain ⟨n, rfl, _, hw⟩ := DataW.trod_int h hf
    exact ⟨n, rfl, hw⟩⟩
theorem choose_list {β : Type} (Q : Nat → β → Prop) : ∀ n, (∀ i, i < n → ∃ y, Q i y) → ∃ l : List β, l.length = n ∧ ∀ i y, l[i]? = some y → Q i y
  | 0, _ => ⟨[], rfl, fun i y h => by simp at h⟩
  | n + 1, h => by
    obtain ⟨l, hl, hq⟩ := choose_list Q n (fun i hi => h i (by omega))
    obtain ⟨y, hy⟩ := h n (by omega)
    refine ⟨l ++ [y], by simp [hl], fun i z hz => ?_⟩
    by_cases hi : i < n
    · rw [List.getElem?_append_left (by omega)] at hz
      exact hq i z hz
    · have hi2 : i = n := by
        have := (List.getElem?_eq_some_iff.1 hz).1
        simp at this
        omega
      subst hi2
      rw [List.getElem?_append_right (by omega)] at hz
      simp [hl] at hz
      subst hz
      exact hy

theorem opens_slice {α : Type} {P : Program} {t e : TypeId} {d : Kd α} {ok : α → Prop} (h : P.underlying t = some (.slice e)) (hc : P.cellsOf t = 1) (o : Opens P e d ok) :
    Opens P t (Kd.slice e d) (fun xs => xs.length ≤ maxLen ∧ ∀ x ∈ xs, ok x) :=
  ⟨hc.symm, fun {H enc W fuel cs x} hf => by
    rcases open_slice h hf with ⟨rfl, _⟩ | ⟨a, len, cap, m, n, D, Pl, rfl, _, hl, hm, he, _, hi⟩
    · exact ⟨[], ⟨none, 0, rfl, Nat.le_refl _, rfl, by simp, fun hn => absurd hn (Nat.lt_irrefl 0)⟩, by simp, by simp⟩
    · have he2 : m = cap := by simpa using he
      obtain ⟨l, hlen, hq⟩ := choose_list (fun i y => ok y ∧ ∃ c, c.length = d.sz ∧ d.K W y c ∧ ∀ j u, c[j]? = some u → W.cell? (a.add (i * d.sz + j)) = some u) len (fun i hi' => by
        obtain ⟨cs', hcs, ht⟩ := hi i (by rw [he2]; omega)
        obtain ⟨y, hy, hok⟩ := o.op ht
        obtain ⟨_, hcl, hce⟩ := World.cells?_some hcs
        refine ⟨y, hok, cs', d.K_len hy, hy, fun j u hj => ?_⟩
        have hj' : j < P.cellsOf e := by
          have := (List.getElem?_eq_some_iff.1 hj).1
          omega
        have := hce j hj'
        rw [hj, Go.Deep.add_add] at this
        rw [o.sz]
        exact this)
      refine ⟨l, ⟨some a, cap, by rw [hlen], by omega, ?_⟩, by omega, fun y hy => ?_⟩
      · rw [hlen]
        refine ⟨hlen, ?_, fun _ => ⟨a, rfl, fun j p hj => (hq j p hj).2⟩⟩
        unfold maxLen at hm
        omega
      · obtain ⟨i, hi⟩ := List.getElem?_of_mem hy
        exact (hq i y hi).1⟩

structure Line {α : Type} (P : Program) (fs : List Field) (b : Nat) (d : Kd α) (ok : α → Prop) : Prop where
  op : ∀ {H : Type} {enc : TypeId × Value → H} {W : World} {fuel : Nat} {cs : List Value}, cs.length = d.sz →
    (∀ f ∈ fs, ∃ x, DataW.trod enc P W 0 (fun _ => true) true fuel f.type ((cs.drop (f.offset - b)).take (P.cellsOf f.type)) = some x) → (∀ f ∈ fs, b ≤ f.offset) → ∃ y, d.K W y cs ∧ ok y
theorem open_row {α : Type} {P : Program} {t e : TypeId} {d : Kd α} {ok : List α → Prop} (h : P.underlying t = some (.slice e)) (o : Opens P t (Kd.slice e d) ok)
    {H : Type} {enc : TypeId × Value → H} {W : World} {r : Reach} {base : Nat} {v : Value} {x : DataW H} {ps : List MemPlace} (hv : Value.okWide P W r base t v) (ht : DataW.Trod enc P W 0 (fun _ => true) true t v x ps) :
    ∃ (l : List α) (A : Option Addr) (c : Nat), v = .slice A l.length c ∧ l.length ≤ c ∧ d.C W A l.length l ∧ ok l := by
  obtain ⟨A, len, cap, rfl⟩ := okWide_slice h hv
  obtain ⟨fuel, hf⟩ := ht
  obtain ⟨y, ⟨A', c, hy, hc, hC⟩, hok⟩ := o.op hf
  have : (Value.slice A len cap) = .slice A' y.length c := by simpa [Value.cells] using hy
  exact ⟨y, A', c, this, hc, hC, hok⟩
end Go.Proofs.Ytbpkbllokmplnaa.Open
