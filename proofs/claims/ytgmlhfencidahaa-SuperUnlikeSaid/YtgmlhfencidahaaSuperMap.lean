/- A map of a struct's first three cells' addresses, ranged over. -/
import Derived.Test.YtgmlhfencidahaaBox
import Derived.Maps.RangeWalk
namespace Go.Proofs.Ytgmlhfencidahaa
open Go Go.RowKit
set_option linter.unusedSimpArgs false
set_option linter.unusedVariables false

def ent (g f s : Nat) : MapEntry := { key := .pointer (some ⟨g, f, none⟩), val := .int .i64 (4 * (f : Int) + 1), born := s }
def Perm3 (a b c : Nat) : Prop := (a < 3 ∧ b < 3 ∧ c < 3) ∧ a ≠ b ∧ a ≠ c ∧ b ≠ c
/-- the map, filled in whatever order -/
def MapIs (w : World) (m g : Nat) : Prop := ∃ a b c, Perm3 a b c ∧ w.heap[m]? = some (.map #[ent g a 0, ent g b 1, ent g c 2] 3)
/-- ranged over: L: which are still to come -/
def RR (w : World) (m r g : Nat) (L : Nat → Bool) : Prop := ∃ a b c seen c0, Perm3 a b c ∧ w.heap[m]? = some (.map #[ent g a 0, ent g b 1, ent g c 2] 3) ∧
  w.heap[r]? = some (.mapIter (some m) 3 seen c0) ∧ 3 ≤ c0 ∧ L a = !seen.contains 0 ∧ L b = !seen.contains 1 ∧ L c = !seen.contains 2
theorem heap_lt {w : World} {m : Nat} {o : Obj} (h : w.heap[m]? = some o) : m < w.heap.size := (Array.getElem?_eq_some_iff.1 h).1
theorem MapIs.next {w w' : World} {m g : Nat} (h : MapIs w m g) (b : Below w.heap.size w w') : MapIs w' m g := by
  obtain ⟨x, y, z, hp, hm⟩ := h
  exact ⟨x, y, z, hp, by rw [b.block m (heap_lt hm)]; exact hm⟩
theorem RR.next' {w w' : World} {m r g : Nat} {L : Nat → Bool} (h : RR w m r g L) (b : Below w.heap.size w w') : RR w' m r g L := by
  obtain ⟨x, y, z, seen, c0, hp, hm, hr, rest⟩ := h
  exact ⟨x, y, z, seen, c0, hp, by rw [b.block m (heap_lt hm)]; exact hm, by rw [b.block r (heap_lt hr)]; exact hr, rest⟩
theorem RR.cell {w : World} {m r g k : Nat} {L : Nat → Bool} (h : RR w m r g L) (hm' : m ≠ k) (hr' : r ≠ k) (i : Nat) (v : Value) : RR (w.setCell ⟨k, i, none⟩ v) m r g L := by
  obtain ⟨x, y, z, seen, c0, hp, hm, hr, rest⟩ := h
  exact ⟨x, y, z, seen, c0, hp, by rw [Below.heap_setCell _ _ _ _ hm']; exact hm, by rw [Below.heap_setCell _ _ _ _ hr']; exact hr, rest⟩

section
variable {P : Program} {w : World} {m r g : Nat} {L : Nat → Bool}
theorem seen_step {L : Nat → Bool} {seen : Array Nat} {f a s t : Nat} (h : L a = !seen.contains s) (hst : f = a ↔ t = s) : (L a && a != f) = !(seen.push t).contains s := by
  rw [h, Array.contains_push]
  by_cases e : f = a
  · have e2 := hst.1 e
    subst e e2
    simp
  · have e2 : ¬ t = s := fun x => e (hst.2 x)
    have e3 : (a != f) = true := by simpa using fun x => e x.symm
    have e4 : (s == t) = false := by simpa using fun x : s = t => e2 x.symm
    rw [e3, e4]
    simp
theorem setBlock_self {w : World} {r : Nat} (h : r < w.heap.size) (o : Obj) : (ChangeMaps.setBlock w r o).heap[r]? = some o := by
  simp [ChangeMaps.setBlock, h]
theorem setBlock_other {w : World} {r k : Nat} (h : r ≠ k) (o : Obj) : (ChangeMaps.setBlock w r o).heap[k]? = w.heap[k]? := by
  simp [ChangeMaps.setBlock, Array.getElem?_setIfInBounds, h]
theorem RR.step (h : RR w m r g L) (ty : TypeId) :
    ((∀ f, f < 3 → L f = false) ∧ (Instr.next (.pointer (some ⟨r, 0, none⟩)) false ty).run P w = .ok (.tuple #[.bool false]) w) ∨
    ∃ f w', f < 3 ∧ L f = true ∧ (Instr.next (.pointer (some ⟨r, 0, none⟩)) false ty).run P w = .ok (.tuple #[.bool true, .pointer (some ⟨g, f, none⟩), .int .i64 (4 * (f : Int) + 1)]) w' ∧
      RR w' m r g (fun z => L z && z != f) ∧ w.grownBy w' (some r) ∧ w'.heap.size = w.heap.size ∧ (Instr.entry (.pointer (some ⟨r, 0, none⟩))).run P w' = .ok (.tuple #[.pointer (some ⟨g, f, none⟩), .int .i64 (4 * (f : Int) + 1)]) w' := by
  obtain ⟨a, b, c, seen, c0, hp, hm, hr, hc, ha, hb, hc'⟩ := h
  have hne : r ≠ m := fun e => by rw [e, hm] at hr; cases hr
  rcases run_next_at (P := P) w ty r m 3 c0 seen _ 3 hr hm (by simp [ent]) hc with ⟨h0, hrun⟩ | ⟨e, he, w1, hal, hrun⟩
  · refine .inl ⟨?_, hrun⟩
    have hall : ∀ x ∈ #[ent g a 0, ent g b 1, ent g c 2], seen.contains x.born = true := by
      intro x hx
      have h1 := Array.eq_empty_of_size_eq_zero h0
      unfold leftOf at h1
      have h2 := (Array.filter_eq_empty_iff.1 h1) x hx
      simpa using h2
    have q0 := hall (ent g a 0) (by simp)
    have q1 := hall (ent g b 1) (by simp)
    have q2 := hall (ent g c 2) (by simp)
    have r0 : L a = false := by rw [ha]; show (!seen.contains 0) = false; rw [show seen.contains 0 = true from q0]; rfl
    have r1 : L b = false := by rw [hb]; show (!seen.contains 1) = false; rw [show seen.contains 1 = true from q1]; rfl
    have r2 : L c = false := by rw [hc']; show (!seen.contains 2) = false; rw [show seen.contains 2 = true from q2]; rfl
    intro f hf
    have : f = a ∨ f = b ∨ f = c := by unfold Perm3 at hp; omega
    rcases this with rfl | rfl | rfl <;> assumption
  · have hl : e ∈ #[ent g a 0, ent g b 1, ent g c 2] ∧ (!seen.contains e.born) = true := by
      unfold leftOf at he
      simpa using he
    obtain ⟨he1, he2⟩ := hl
    have hrl := heap_lt hr
    have hw1 : w1.heap = w.heap := by rcases hal with rfl | rfl <;> rfl
    have hgr : w.grownBy (ChangeMaps.setBlock w1 r (.mapIter (some m) 3 (seen.push e.born) 3)) (some r) :=
      ⟨by rcases hal with rfl | rfl <;> rfl, by rcases hal with rfl | rfl <;> rfl, by rcases hal with rfl | rfl <;> rfl, by simp [ChangeMaps.setBlock, hw1], fun k hk hkr => by
        rw [setBlock_other (fun e => hkr (by rw [e])), hw1]⟩
    have hsz : (ChangeMaps.setBlock w1 r (.mapIter (some m) 3 (seen.push e.born) 3)).heap.size = w.heap.size := by simp [ChangeMaps.setBlock, hw1]
    have hr2 : (ChangeMaps.setBlock w1 r (.mapIter (some m) 3 (seen.push e.born) 3)).heap[r]? = _ := setBlock_self (by rw [hw1]; exact hrl) _
    have hm2 : (ChangeMaps.setBlock w1 r (.mapIter (some m) 3 (seen.push e.born) 3)).heap[m]? = some (.map #[ent g a 0, ent g b 1, ent g c 2] 3) := (setBlock_other hne _).trans (by rw [hw1]; exact hm)
    have hen := run_entry_at (P := P) _ r m 3 seen _ 3 e hr2 hm2 (by simpa using he1) (by simp [ent])
    obtain ⟨hp1, hab, hac, hbc⟩ := hp
    right
    have : e = ent g a 0 ∨ e = ent g b 1 ∨ e = ent g c 2 := by simpa using he1
    rcases this with rfl | rfl | rfl
    · exact ⟨a, _, hp1.1, by rw [ha]; exact he2, hrun, ⟨a, b, c, _, 3, ⟨hp1, hab, hac, hbc⟩, hm2, hr2, Nat.le_refl _, seen_step ha (by simp [ent]), seen_step hb (by simp [ent, hab]), seen_step hc' (by simp [ent, hac])⟩, hgr, hsz, hen⟩
    · exact ⟨b, _, hp1.2.1, by rw [hb]; exact he2, hrun, ⟨a, b, c, _, 3, ⟨hp1, hab, hac, hbc⟩, hm2, hr2, Nat.le_refl _, seen_step ha (by simp [ent, Ne.symm hab]), seen_step hb (by simp [ent]), seen_step hc' (by simp [ent, hbc])⟩, hgr, hsz, hen⟩
    · exact ⟨c, _, hp1.2.2, by rw [hc']; exact he2, hrun, ⟨a, b, c, _, 3, ⟨hp1, hab, hac, hbc⟩, hm2, hr2, Nat.le_refl _, seen_step ha (by simp [ent, Ne.symm hac]), seen_step hb (by simp [ent, Ne.symm hbc]), seen_step hc' (by simp [ent])⟩, hgr, hsz, hen⟩
theorem MapIs.range {t k e : TypeId} (h : MapIs w m g) (ht : P.underlying t = some (.map k e)) :
    ∃ w', (Instr.range t (.map (some m))).run P w = .ok (.pointer (some ⟨w.heap.size, 0, none⟩)) w' ∧ RR w' m w.heap.size g (fun _ => true) ∧ Below w.heap.size w w' ∧ w'.heap.size = w.heap.size + 1 := by
  obtain ⟨a, b, c, hp, hm⟩ := h
  refine ⟨_, run_range_map w t k e m _ 3 ht hm, ⟨a, b, c, #[], 3, hp, ?_, heap_alloc_new _ _, Nat.le_refl _, by simp, by simp, by simp⟩, Ext.alloc (Below.refl _ _) _, by simp⟩
  rw [(Ext.alloc (Below.refl w.heap.size w) (.mapIter (some m) 3 #[] 3)).block m (heap_lt hm)]
  exact hm
end

section
variable {P : Program} (w : World) {ops : Array Oper} {rest : List Oper} {o : Oper} {a : Act} {Q : Exit → Act → World → Prop}
theorem wpList_range_three (hg : o.guard = none) (x : Operand) (t : TypeId) (hop : o.op = Op.range t x) (k e : TypeId) (ht : P.underlying t = some (.map k e)) (m g : Nat)
    (hm : a.eval x = .map (some m)) (h : MapIs w m g)
    (hK : ∀ w', RR w' m w.heap.size g (fun _ => true) → Below w.heap.size w w' → w'.heap.size = w.heap.size + 1 → wpList P ops Q rest (a.put o.dst (.pointer (some ⟨w.heap.size, 0, none⟩))) w') :
    wpList P ops Q (o :: rest) a w := by
  refine wpList_plain hg fun K' hK' => ?_
  obtain ⟨w', hrun, r1, r2, r3⟩ := h.range ht
  unfold Oper.wp
  simp [execOp, hop, hm, hrun, Result.andThen]
  exact hK' _ _ (hK w' r1 r2 r3)
theorem wpList_next_three (hg : o.guard = none) (it : Operand) (hop : o.op = Op.next it false) (m r g : Nat) (L : Nat → Bool) (hit : a.eval it = .pointer (some ⟨r, 0, none⟩)) (h : RR w m r g L)
    (hDone : (∀ f, f < 3 → L f = false) → wpList P ops Q rest (a.put o.dst (.tuple #[.bool false])) w)
    (hMore : ∀ (f : Nat) (w' : World), f < 3 → L f = true → RR w' m r g (fun z => L z && z != f) → w.grownBy w' (some r) → w'.heap.size = w.heap.size →
      (Instr.entry (.pointer (some ⟨r, 0, none⟩))).run P w' = .ok (.tuple #[.pointer (some ⟨g, f, none⟩), .int .i64 (4 * (f : Int) + 1)]) w' →
      wpList P ops Q rest (a.put o.dst (.tuple #[.bool true, .pointer (some ⟨g, f, none⟩), .int .i64 (4 * (f : Int) + 1)])) w') :
    wpList P ops Q (o :: rest) a w := by
  refine wpList_plain hg fun K' hK' => ?_
  unfold Oper.wp
  rcases RR.step (P := P) h o.type with ⟨h0, hrun⟩ | ⟨f, w', hf, hL, hrun, hrr, hgr, hsz, hen⟩
  · simp [execOp, hop, hit, hrun, Result.andThen]
    exact hK' _ _ (hDone h0)
  · simp [execOp, hop, hit, hrun, Result.andThen]
    exact hK' _ _ (hMore f w' hf hL hrr hgr hsz hen)
end
end Go.Proofs.Ytgmlhfencidahaa
