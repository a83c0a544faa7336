/- A general aid, by this session: what a value that came in and reads as data of a type holds, as one of the print's kinds (Kd). Conditions: none. -/
import Derived.Test.YtbnfbflfhpniaaaDoorV1WMore
import Derived.Deep.Slices
import Derived.DataReads
import Derived.DataShut
namespace Go.Proofs.YtbnfbflfhpniaaaDoor.Open
open Go.Proofs.YtbnfbflfhpniaaaDoorW.PrintWords Go.ChangeShapes Go.WideShapes Go.Deep

structure Opens {α : Type} (P : Program) (t : TypeId) (d : Kd α) (ok : α → Prop) : Prop where
  sz : d.sz = P.cellsOf t
  op : ∀ {H : Type} {enc : TypeId × Value → H} {W : World} {fuel : Nat} {cs : List Value} {x : DataW H × List MemPlace},
    DataW.trod enc P W 0 (fun _ => true) true fuel t cs = some x → ∃ y, d.K W y cs ∧ ok y

theorem opens_int {P : Program} {t : TypeId} {k : IntKind} (h : P.underlying t = some (.int k)) (hc : P.cellsOf t = 1) : Opens P t (Kd.int k) (fun n => (Lit.int k n).wf = true) :=
  ⟨hc.symm, fun hf => by
    obtain ⟨n, rfl, _, hw⟩ := DataW.trod_int h hf
    exact ⟨n, rfl, hw⟩⟩
theorem choose_list {β : Type} (Q : Nat → β → Prop) : ∀ n, (∀ i, i < n → ∃ y, Q i y) → ∃ l : List β, l.length = n ∧ ∀ i y, l[i]? = some y → Q i y
  | 0, _ => ⟨[], rfl, fun i y h => by simp at h⟩
  | n + 1, h => by
    obtain ⟨l, hl, hq⟩ := choose_list Q n (fun i hi => h i (by omega))
    obtain ⟨y, hy⟩ := h n (by omega)
    refine ⟨l ++ [y], by simp [hl], fun i z hz => ?_⟩
    by_cases hi : i < n
    · rw [List.getElem?_append_left (by omega)] at hz
      exact hq i z hz
    · have hi2 : i = n := by
        have := (List.getElem?_eq_some_iff.1 hz).1
        simp at this
        omega
      subst hi2
      rw [List.getElem?_append_right (by omega)] at hz
      simp [hl] at hz
      subst hz
      exact hy

theorem opens_slice {α : Type} {P : Program} {t e : TypeId} {d : Kd α} {ok : α → Prop} (h : P.underlying t = some (.slice e)) (hc : P.cellsOf t = 1) (o : Opens P e d ok) :
    Opens P t (Kd.slice e d) (fun xs => xs.length ≤ maxLen ∧ ∀ x ∈ xs, ok x) :=
  ⟨hc.symm, fun {H enc W fuel cs x} hf => by
    rcases open_slice h hf with ⟨rfl, _⟩ | ⟨a, len, cap, m, n, D, Pl, rfl, _, hl, hm, he, _, hi⟩
    · exact ⟨[], ⟨none, 0, rfl, Nat.le_refl _, rfl, by simp, fun hn => absurd hn (Nat.lt_irrefl 0)⟩, by simp, by simp⟩
    · have he2 : m = cap := by simpa using he
      obtain ⟨l, hlen, hq⟩ := choose_list (fun i y => ok y ∧ ∃ c, c.length = d.sz ∧ d.K W y c ∧ ∀ j u, c[j]? = some u → W.cell? (a.add (i * d.sz + j)) = some u) len (fun i hi' => by
        obtain ⟨cs', hcs, ht⟩ := hi i (by rw [he2]; omega)
        obtain ⟨y, hy, hok⟩ := o.op ht
        obtain ⟨_, hcl, hce⟩ := World.cells?_some hcs
        refine ⟨y, hok, cs', d.K_len hy, hy, fun j u hj => ?_⟩
        have hj' : j < P.cellsOf e := by
          have := (List.getElem?_eq_some_iff.1 hj).1
          omega
        have := hce j hj'
        rw [hj, Go.Deep.add_add] at this
        rw [o.sz]
        exact this)
      refine ⟨l, ⟨some a, cap, by rw [hlen], by omega, ?_⟩, by omega, fun y hy => ?_⟩
      · rw [hlen]
        refine ⟨hlen, ?_, fun _ => ⟨a, rfl, fun j p hj => (hq j p hj).2⟩⟩
        unfold maxLen at hm
        omega
      · obtain ⟨i, hi⟩ := List.getElem?_of_mem hy
        exact (hq i y hi).1⟩

theorem opens_iso {α β : Type} {P : Program} {t : TypeId} {d : Kd α} {ok : α → Prop} (f : β → α) (g : α → β) (hg : ∀ x, f (g x) = x) (o : Opens P t d ok) : Opens P t (Kd.iso d f) (fun y => ok (f y)) :=
  ⟨o.sz, fun hf => by
    obtain ⟨y, hy, hok⟩ := o.op hf
    exact ⟨g y, by show d.K _ (f (g y)) _; rw [hg]; exact hy, by rw [hg]; exact hok⟩⟩

structure Line {α : Type} (P : Program) (fs : List Field) (b : Nat) (d : Kd α) (ok : α → Prop) : Prop where
  op : ∀ {H : Type} {enc : TypeId × Value → H} {W : World} {fuel : Nat} {cs : List Value}, cs.length = d.sz →
    (∀ f ∈ fs, ∃ x, DataW.trod enc P W 0 (fun _ => true) true fuel f.type ((cs.drop (f.offset - b)).take (P.cellsOf f.type)) = some x) → (∀ f ∈ fs, b ≤ f.offset) → ∃ y, d.K W y cs ∧ ok y
theorem line_one {α : Type} {P : Program} {f : Field} {d : Kd α} {ok : α → Prop} (o : Opens P f.type d ok) : Line P [f] f.offset d ok :=
  ⟨fun hl h _ => by
    obtain ⟨x, hx⟩ := h f (by simp)
    rw [Nat.sub_self, List.drop_zero, List.take_of_length_le (by rw [hl, o.sz]; exact Nat.le_refl _)] at hx
    exact o.op hx⟩
theorem line_cons {α β : Type} {P : Program} {f : Field} {fs : List Field} {b : Nat} {d : Kd α} {d2 : Kd β} {ok : α → Prop} {ok2 : β → Prop} (o : Opens P f.type d ok) (hb : b = f.offset + d.sz) (l : Line P fs b d2 ok2) (hbs : ∀ g ∈ fs, b ≤ g.offset) :
    Line P (f :: fs) f.offset (Kd.pair d d2) (fun x => ok x.1 ∧ ok2 x.2) :=
  ⟨fun {H enc W fuel cs} hl h _ => by
    have hl' : cs.length = d.sz + d2.sz := hl
    obtain ⟨x, hx⟩ := h f (by simp)
    rw [Nat.sub_self, List.drop_zero, ← o.sz] at hx
    obtain ⟨y, hy, hok⟩ := o.op hx
    obtain ⟨z, hz, hok2⟩ := l.op (cs := cs.drop d.sz) (enc := enc) (W := W) (fuel := fuel) (by rw [List.length_drop]; omega) (fun g hg => by
      obtain ⟨x, hx⟩ := h g (List.mem_cons_of_mem _ hg)
      refine ⟨x, ?_⟩
      have := hbs g hg
      rw [List.drop_drop, show d.sz + (g.offset - b) = g.offset - f.offset by omega]
      exact hx) hbs
    exact ⟨(y, z), ⟨cs.take d.sz, cs.drop d.sz, (List.take_append_drop _ _).symm, hy, hz⟩, hok, hok2⟩⟩
theorem opens_struct {α : Type} {P : Program} {t : TypeId} {fs : Array Field} {d : Kd α} {ok : α → Prop} (h : P.underlying t = some (.struct fs)) (hc : P.cellsOf t = d.sz) (l : Line P fs.toList 0 d ok) : Opens P t d ok :=
  ⟨hc.symm, fun {H enc W fuel cs x} hf => by
    obtain ⟨xs, n, _, _, hl, hlen, hi⟩ := DataW.trod_struct h hf
    refine l.op (enc := enc) (fuel := n) (by rw [hl, hc]) (fun f hf => ?_) (fun _ _ => Nat.zero_le _)
    obtain ⟨i, hi'⟩ := List.getElem?_of_mem hf
    have h1 := hi i f (by rw [← hi', Array.getElem?_toList])
    have : i < xs.length := by
      have := (List.getElem?_eq_some_iff.1 hi').1
      rw [Array.length_toList] at this
      omega
    exact ⟨xs[i], by rw [Nat.sub_zero, h1, List.getElem?_eq_getElem this]⟩⟩

theorem open_row {α : Type} {P : Program} {t e : TypeId} {d : Kd α} {ok : List α → Prop} (h : P.underlying t = some (.slice e)) (o : Opens P t (Kd.slice e d) ok)
    {H : Type} {enc : TypeId × Value → H} {W : World} {r : Reach} {base : Nat} {v : Value} {x : DataW H} {ps : List MemPlace} (hv : Value.okWide P W r base t v) (ht : DataW.Trod enc P W 0 (fun _ => true) true t v x ps) :
    ∃ (l : List α) (A : Option Addr) (c : Nat), v = .slice A l.length c ∧ l.length ≤ c ∧ d.C W A l.length l ∧ ok l := by
  obtain ⟨A, len, cap, rfl⟩ := okWide_slice h hv
  obtain ⟨fuel, hf⟩ := ht
  obtain ⟨y, ⟨A', c, hy, hc, hC⟩, hok⟩ := o.op hf
  have : (Value.slice A len cap) = .slice A' y.length c := by simpa [Value.cells] using hy
  exact ⟨y, A', c, this, hc, hC, hok⟩
end Go.Proofs.YtbnfbflfhpniaaaDoor.Open
