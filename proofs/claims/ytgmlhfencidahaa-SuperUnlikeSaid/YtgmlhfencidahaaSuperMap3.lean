/- How many entries are still to come. -/
import Derived.Test.YtgmlhfencidahaaSuperMap
namespace Go.Proofs.Ytgmlhfencidahaa
open Go Go.RowKit
set_option linter.unusedSimpArgs false
set_option linter.unusedVariables false

def leftN (L : Nat → Bool) : Nat := (if L 0 then 1 else 0) + (if L 1 then 1 else 0) + (if L 2 then 1 else 0)
theorem RR.left {w : World} {m r g : Nat} {L : Nat → Bool} (h : RR w m r g L) : w.rangeLeft m r = leftN L := by
  obtain ⟨a, b, c, seen, c0, hp, hm, hr, hc, ha, hb, hc'⟩ := h
  have h1 : w.rangeLeft m r = (if L a then 1 else 0) + (if L b then 1 else 0) + (if L c then 1 else 0) := by
    simp only [World.rangeLeft, hm, hr, leftOf]
    rw [ha, hb, hc']
    rw [← Array.length_toList, Array.toList_filter]
    show (List.filter _ [ent g a 0, ent g b 1, ent g c 2]).length = _
    simp only [List.filter_cons, List.filter_nil, ent]
    cases seen.contains 0 <;> cases seen.contains 1 <;> cases seen.contains 2 <;> rfl
  rw [h1]
  obtain ⟨⟨h0, h2, h3⟩, hab, hac, hbc⟩ := hp
  unfold leftN
  have : (a = 0 ∨ a = 1 ∨ a = 2) ∧ (b = 0 ∨ b = 1 ∨ b = 2) ∧ (c = 0 ∨ c = 1 ∨ c = 2) := by omega
  obtain ⟨ea | ea | ea, eb | eb | eb, ec | ec | ec⟩ := this <;> subst ea eb ec <;> first | exact absurd rfl hab | exact absurd rfl hac | exact absurd rfl hbc | omega
theorem leftN_less {L : Nat → Bool} {f : Nat} (hf : f < 3) (h : L f = true) : leftN (fun z => L z && z != f) < leftN L := by
  unfold leftN
  have : f = 0 ∨ f = 1 ∨ f = 2 := by omega
  rcases this with rfl | rfl | rfl <;> simp [h] <;> omega
def fv (b : Bool) (x : Nat) : Int := if b then 0 else (x : Int)
end Go.Proofs.Ytgmlhfencidahaa
