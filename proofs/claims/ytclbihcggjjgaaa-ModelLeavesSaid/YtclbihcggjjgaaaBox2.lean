/- Boxes beside rows of the call's own. -/
import Derived.Test.YtclbihcggjjgaaaBox
namespace Go.Proofs.Ytclbihcggjjgaaa
open Go.RowKit

theorem own_block {w : World} {base e n : Nat} {size : Nat} {v : Value} {xs : List Value} (h : w.ownsRow base e size v n xs) {k : Nat} (hk : v.ownBlock = some k) : base ≤ k := by
  rcases h.2 with ⟨rfl, _⟩ | ⟨g, cap, cur, rfl, hb, _⟩
  · simp [Value.ownBlock] at hk
  · simp [Value.ownBlock] at hk; omega
theorem own_lt {w : World} {base e n : Nat} {size : Nat} {v : Value} {xs : List Value} (h : w.ownsRow base e size v n xs) {k : Nat} (hk : v.ownBlock = some k) : k < w.heap.size := by
  rcases h.2 with ⟨rfl, _⟩ | ⟨g, cap, cur, rfl, hb, hg, _⟩
  · simp [Value.ownBlock] at hk
  · simp [Value.ownBlock] at hk
    subst hk
    exact (Array.getElem?_eq_some_iff.1 hg).1
theorem own_ne {w : World} {base e n : Nat} {size : Nat} {v : Value} {xs : List Value} (h : w.ownsRow base e size v n xs) {g : Nat} (hg : g < base) : v.ownBlock ≠ some g := fun e => by
  have := own_block h e
  omega
theorem own_base {w : World} {base base' e n : Nat} {size : Nat} {v : Value} {xs : List Value} (h : w.ownsRow base e size v n xs) (hb : base' ≤ base) : w.ownsRow base' e size v n xs := by
  refine ⟨h.1, ?_⟩
  rcases h.2 with h2 | ⟨g, cap, cur, hv, hg, hr⟩
  · exact .inl h2
  · exact .inr ⟨g, cap, cur, hv, by omega, hr⟩
/-- what is owned is owned behind a call -/
theorem own_next {w w' : World} {base e n : Nat} {size : Nat} {v : Value} {xs : List Value} (h : w.ownsRow base e size v n xs) (hb : Below w.heap.size w w') : w'.ownsRow base e size v n xs := by
  refine ⟨h.1, ?_⟩
  rcases h.2 with h2 | ⟨g, cap, cur, hv, hg, hr, hrest⟩
  · exact .inl h2
  · exact .inr ⟨g, cap, cur, hv, hg, by rw [hb.block g (Array.getElem?_eq_some_iff.1 hr).1]; exact hr, hrest⟩
theorem BoxOf.grown {w w' : World} {g : Nat} {cs : Array Value} {t : TypeId} {row : Option Nat} (h : BoxOf w g cs t) (hg : w.grownBy w' row) (hr : row ≠ some g) : BoxOf w' g cs t := by
  have hl := h.lt
  unfold BoxOf at *
  rw [hg.block g hl (fun e => hr e.symm)]; exact h
theorem rd_one (w : World) (v : Value) (t : TypeId) : Rd (w.alloc (.cells #[v] t)) (some ⟨w.heap.size, 0, none⟩) [v] := .inr ⟨w.heap.size, 0, rfl, fun o ho => by
  have h0 : o = 0 := by simpa using ho
  subst h0
  rw [World.cell?_alloc_mark]
  rfl⟩
end Go.Proofs.Ytclbihcggjjgaaa
