/- A general aid, by this session: cells that read as a datum of numbers alone are the datum's numbers. Conditions: none. -/
import Derived.OpenShut
import Derived.ChangeArms
namespace Go.Proofs.YtehghobmmpihfaaGreatDoor.Flat
open Go.ChangeShapes Go.WideShapes

def flat1 {H : Type} : DataW H → List Value
  | .lit (.int k n) => [.int k n]
  | _ => []
def flatUp {H : Type} (F : DataW H → List Value) : DataW H → List Value
  | .agg ps => ps.flatMap F
  | _ => []
structure Flat (P : Program) (t : TypeId) (s : Nat) (F : {H : Type} → DataW H → List Value) : Prop where
  size : P.cellsOf t = s
  op : ∀ {H : Type} {enc : TypeId × Value → H} {W : World} {base : Nat} {spare : Nat → Bool} {held : Bool} {fuel : Nat} {cs : List Value} {x : DataW H × List MemPlace}, DataW.trod enc P W base spare held fuel t cs = some x → cs = F x.1 ∧ cs.length = s

theorem flat_int {P : Program} {t : TypeId} {k : IntKind} (h : P.underlying t = some (.int k)) (hc : P.cellsOf t = 1) : Flat P t 1 flat1 :=
  ⟨hc, fun hf => by
    obtain ⟨n, rfl, rfl, _⟩ := DataW.trod_int h hf
    exact ⟨rfl, rfl⟩⟩
theorem chunks (s : Nat) : ∀ (l : List (List Value)) (cs : List Value), cs.length = l.length * s → (∀ (i : Nat) (c : List Value), l[i]? = some c → (cs.drop (i * s)).take s = c) → cs = l.flatten
  | [], cs, hl, _ => by
    simp at hl
    subst hl; rfl
  | c :: l, cs, hl, h => by
    have h0 := h 0 c rfl
    rw [Nat.zero_mul, List.drop_zero] at h0
    have := chunks s l (cs.drop s) (by rw [List.length_drop, hl, List.length_cons, Nat.succ_mul]; omega) (fun i d hd => by
      have := h (i + 1) d (by simpa using hd)
      rw [Nat.succ_mul, Nat.add_comm] at this
      rw [List.drop_drop]; exact this)
    rw [List.flatten_cons, ← this, ← h0, List.take_append_drop]
theorem flat_struct {P : Program} {t : TypeId} {fs : Array Field} {s : Nat} {F : {H : Type} → DataW H → List Value} (h : P.underlying t = some (.struct fs)) (hc : P.cellsOf t = fs.size * s)
    (hf : ∀ (i : Nat) (f : Field), fs[i]? = some f → f.offset = i * s ∧ Flat P f.type s F) : Flat P t (fs.size * s) (flatUp F) :=
  ⟨hc, fun {H enc W base spare held fuel cs x} ht => by
    obtain ⟨xs, n, rfl, rfl, hl, hlen, hi⟩ := DataW.trod_struct h ht
    have key := chunks s (xs.map fun x => F x.1) cs (by rw [hl, hc, List.length_map, hlen]) (fun i c hci => by
      rw [List.getElem?_map, Option.map_eq_some_iff] at hci
      obtain ⟨y, hy, rfl⟩ := hci
      have hlt : i < fs.size := by have := (List.getElem?_eq_some_iff.1 hy).1; omega
      obtain ⟨ho, o⟩ := hf i fs[i] (Array.getElem?_eq_getElem hlt)
      have ht := hi i fs[i] (Array.getElem?_eq_getElem hlt)
      rw [hy, ho, o.size] at ht
      exact (o.op ht).1)
    refine ⟨?_, by rw [hl, hc]⟩
    rw [key]
    simp [flatUp, List.flatMap_def, Function.comp_def]⟩
theorem flat_array {P : Program} {t e : TypeId} {n s : Nat} {F : {H : Type} → DataW H → List Value} (h : P.underlying t = some (.array n e)) (hc : P.cellsOf t = n * s) (o : Flat P e s F) : Flat P t (n * s) (flatUp F) :=
  ⟨hc, fun {H enc W base spare held fuel cs x} ht => by
    obtain ⟨xs, m, rfl, rfl, hl, hlen, hi⟩ := DataW.trod_array h ht
    have key := chunks s (xs.map fun x => F x.1) cs (by rw [hl, hc, List.length_map, hlen]) (fun i c hci => by
      rw [List.getElem?_map, Option.map_eq_some_iff] at hci
      obtain ⟨y, hy, rfl⟩ := hci
      have hlt : i < n := by have := (List.getElem?_eq_some_iff.1 hy).1; omega
      have ht := hi i hlt
      rw [hy, o.size] at ht
      exact (o.op ht).1)
    refine ⟨?_, by rw [hl, hc]⟩
    rw [key]
    simp [flatUp, List.flatMap_def, Function.comp_def]⟩
theorem flat_fields (fs : Array Field) (s e : Nat) (h : fs.toList.zipIdx.all (fun x => x.1.offset == x.2 * s && x.1.type == e) = true) (i : Nat) (f : Field) (hf : fs[i]? = some f) : f.offset = i * s ∧ f.type = e := by
  have hm : (f, i) ∈ fs.toList.zipIdx := List.mem_zipIdx_iff_getElem?.2 (by simpa using hf)
  have := List.all_eq_true.1 h _ hm
  simpa using this
theorem flat_struct2 {P : Program} {t e : TypeId} {fs : Array Field} {s : Nat} {F : {H : Type} → DataW H → List Value} (h : P.underlying t = some (.struct fs)) (o : Flat P e s F) (hc : P.cellsOf t = fs.size * s)
    (ha : fs.toList.zipIdx.all (fun x => x.1.offset == x.2 * s && x.1.type == e) = true) : Flat P t (fs.size * s) (flatUp F) :=
  flat_struct h hc (fun i f hf => by
    obtain ⟨a, b⟩ := flat_fields fs s e ha i f hf
    exact ⟨a, b ▸ o⟩)
end Go.Proofs.YtehghobmmpihfaaGreatDoor.Flat
