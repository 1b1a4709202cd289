/- Boxes: blocks of the call's own, known whole. -/
import Derived.Test.YtclbihcggjjgaaaLib
import Derived.Deep.RegionHeld3
import Derived.IntWalk
import Derived.Laws.ResultCell
import Derived.Laws.Rows
import Derived.Laws.CopyOwn
import Derived.Great.BuildSlice
import Derived.BigQuiet
namespace Go.Proofs.Ytclbihcggjjgaaa
open Go.RowKit

theorem i64_fit {n : Int} (h : -1000000000 ≤ n ∧ n ≤ 1000000000) : IntKind.i64.wrap n = n := IntWalk.i64_in _ (by omega)
theorem ret_int {k : IntKind} {a b : Int} (h : a = b) : Ending.returned (.int k a) = .returned (.int k b) := by rw [h]
theorem below_drewN' {B : Nat} {w w' : World} (h : Below B w w') (q : Nat) : Below B w (w'.drewN q) := ⟨h.os, h.tape, h.output, h.size, h.block⟩

theorem results_row2 {P : Program} {fn : Func} {p u : Tmp} {ty : TypeId} (h : fn.results = #[.cell p ty, .tmp u]) (tmps : Array Value) (w : World) (g : Nat) (t : TypeId) (cs : Array Value) (fr : Nat × Nat) (d : TypeDesc)
    (hp : tmps.getD p undef = .pointer (some ⟨g, 0, none⟩)) (hg : w.heap[g]? = some (.cells cs t fr))
    (hu : P.underlying ty = some d) (hd : (match d with | .struct _ | .array _ _ => true | _ => false) = true) (hi : (P.info? ty).map (·.size) = some cs.size) :
    (results fn tmps).run P w = .ok (.tuple #[.agg cs, tmps.getD u undef]) w := by
  rw [results_cell_tmp h, hp]
  simp [asAddr, run_loadVar_row w g t ty cs fr d hg hu hd hi, Result.andThen]

/-- A block of cells, whole. -/
def BoxOf (w : World) (g : Nat) (cs : Array Value) (t : TypeId) : Prop := w.heap[g]? = some (.cells cs t (0, 0))
theorem BoxOf.lt {w : World} {g : Nat} {cs : Array Value} {t : TypeId} (h : BoxOf w g cs t) : g < w.heap.size := by
  unfold BoxOf at h
  rcases Nat.lt_or_ge g w.heap.size with h1 | h1
  · exact h1
  · rw [Array.getElem?_eq_none h1] at h; cases h
theorem BoxOf.cell {w : World} {g : Nat} {cs : Array Value} {t : TypeId} (h : BoxOf w g cs t) : ∀ o, w.cell? ⟨g, o, none⟩ = cs.toList[o]? := fun o => by
  rw [cell_of_row w g o cs t (0, 0) h, Array.getElem?_toList]
theorem BoxOf.free {w : World} {g : Nat} {cs : Array Value} {t : TypeId} (h : BoxOf w g cs t) : ∀ o, w.frozen? ⟨g, o, none⟩ = false := fun o => by
  unfold BoxOf at h
  simp [World.frozen?, h]
theorem BoxOf.next {w w' : World} {g : Nat} {cs : Array Value} {t : TypeId} (h : BoxOf w g cs t) (hb : Below w.heap.size w w') : BoxOf w' g cs t := by
  have hg := h.lt
  unfold BoxOf at *
  rw [hb.block g hg]; exact h
theorem BoxOf.new (w : World) (cs : Array Value) (t : TypeId) : BoxOf (w.alloc (.cells cs t)) w.heap.size cs t := heap_alloc_new _ _
theorem BoxOf.new' (w : World) (g : Nat) (cs : Array Value) (t : TypeId) (hg : g = w.heap.size) : BoxOf (w.alloc (.cells cs t)) g cs t := hg ▸ heap_alloc_new _ _
theorem BoxOf.alloc {w : World} {g : Nat} {cs : Array Value} {t : TypeId} (h : BoxOf w g cs t) (o : Obj) : BoxOf (w.alloc o) g cs t := h.next (Ext.alloc (Below.refl _ _) o)
theorem BoxOf.drew {w : World} {g : Nat} {cs : Array Value} {t : TypeId} (h : BoxOf w g cs t) : BoxOf w.drew g cs t := h
theorem BoxOf.drewN {w : World} {g : Nat} {cs : Array Value} {t : TypeId} (h : BoxOf w g cs t) (q : Nat) : BoxOf (w.drewN q) g cs t := h
theorem BoxOf.set {w : World} {g : Nat} {cs : Array Value} {t : TypeId} (h : BoxOf w g cs t) (ds : Array Value) : BoxOf (w.setRow g ds) g ds t := setRow_heap w _ _ _ _ _ h
theorem BoxOf.other {w : World} {g k : Nat} {cs : Array Value} {t : TypeId} (h : BoxOf w g cs t) (hk : g ≠ k) (ds : Array Value) : BoxOf (w.setRow k ds) g cs t := by
  unfold BoxOf at *
  rw [setRow_other w k g ds hk]; exact h
theorem Ext.setRow {a b : World} (h : Below a.heap.size a b) {g : Nat} (hg : a.heap.size ≤ g) (cs : Array Value) : Below a.heap.size a (b.setRow g cs) := below_setRow h hg cs
theorem setRow_size (w : World) (g : Nat) (cs : Array Value) : (w.setRow g cs).heap.size = w.heap.size := by simp [World.setRow]
end Go.Proofs.Ytclbihcggjjgaaa
