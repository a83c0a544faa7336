-- PRINTED BY print.sh 35421559b90ae4d0a3588c463048766b98c2df88dd9212a6774a882060cdf62d: not written by this session
import Derived.Test.YtehghobmmpihfaaGreatDoorV1WFoot
/-! ### 45. What a call keeps: all but the blocks of S (the rows that it was given to write) and what is new since -/
namespace Go.Proofs.YtehghobmmpihfaaGreatDoorW.PrintWords
open Go.RowKit
def zoW (w W : World) (S : Nat → Prop) : Prop := w.heap.size ≤ W.heap.size ∧ ∀ i, i < w.heap.size → ¬ S i → W.heap[i]? = w.heap[i]?
section
variable {w W W2 : World} {S S2 S' : Nat → Prop}
theorem zoW.refl (w : World) (S : Nat → Prop) : zoW w w S := ⟨Nat.le_refl _, fun _ _ _ => rfl⟩
theorem zoW.of_below (h : Below w.heap.size w W) (S : Nat → Prop) : zoW w W S := ⟨h.size, fun i hi _ => h.block i hi⟩
theorem zoW.mono (h : zoW w W S) (hs : ∀ k, S k → S' k) : zoW w W S' := ⟨h.1, fun i hi hn => h.2 i hi (fun hk => hn (hs i hk))⟩
theorem zoW.then_ (h : zoW w W S) (k : zoW W W2 S2) (hs : ∀ k, S2 k → S k ∨ w.heap.size ≤ k) : zoW w W2 S :=
  ⟨Nat.le_trans h.1 k.1, fun i hi hn => (k.2 i (Nat.lt_of_lt_of_le hi h.1) (fun h2 => (hs i h2).elim hn (fun h3 => by omega))).trans (h.2 i hi hn)⟩
theorem zoW.of_grown {row : Option Nat} (hg : W.grownBy W2 row) (h : zoW w W S) (hr : ∀ k, row = some k → S k ∨ w.heap.size ≤ k) : zoW w W2 S :=
  h.then_ (S2 := fun k => row = some k) ⟨hg.size, fun i hi hn => hg.block i hi (fun he => hn he.symm)⟩ hr
theorem zoW.below (h : zoW w W S) (hb : Below W.heap.size W W2) : zoW w W2 S := h.then_ (zoW.of_below hb (fun _ => False)) (fun _ hk => hk.elim)
theorem zoW.alloc (h : zoW w W S) (o : Obj) : zoW w (W.alloc o) S := h.below (znU (Below.refl _ _) o)
theorem zoW.drew (h : zoW w W S) : zoW w W.drew S := h
theorem zoW.drewN (h : zoW w W S) (m : Nat) : zoW w (W.drewN m) S := h
theorem zoW.setCell (h : zoW w W S) {p : Addr} (hp : S p.block ∨ w.heap.size ≤ p.block) (u : Value) : zoW w (W.setCell p u) S :=
  h.then_ (S2 := fun k => k = p.block) ⟨by simp [World.setCell], fun i _ hn => Below.heap_setCell W p u i hn⟩ (fun k hk => by rw [hk]; exact hp)
end
namespace Kd
section
variable {α : Type} {d : Kd α} {e base n c : Nat} {ok oki S S2 : Nat → Prop} {w w0 W W1 W2 : World} {v : Value} {A : Option Addr} {xs : List α} {i : Int} {cs : List Value}
theorem R_kept (h : d.R e W base ok v xs) (hk : zoW W W2 S) (hne : ∀ k, ok k → ¬ S k) : d.R e W2 base ok v xs := R_step h (fun k ho hlt => hk.2 k hlt (hne k ho))
end
end Kd
end Go.Proofs.YtehghobmmpihfaaGreatDoorW.PrintWords
