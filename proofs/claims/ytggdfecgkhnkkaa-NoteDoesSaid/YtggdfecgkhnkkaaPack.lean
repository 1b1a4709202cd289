/- Layer 2 (pack): a block of 128 bytes in a box; whole, fits, Put, Take: what they compute. -/
import Derived.Test.YtggdfecgkhnkkaaRows
import Derived.Test.YtggdfecgkhnkkaaData
import Derived.Laws.CopyOwn
import Derived.Laws.ResultCell
namespace Go.Proofs.Ytggdfecgkhnkkaa
open Go.RowKit

def zeros : List UInt8 := List.replicate 128 0
def rowV (l : List UInt8) : Array Value := (l.map byteV).toArray
def wholeL (l : List UInt8) : List UInt8 := if l = [] then zeros else l
def Box (w : World) (g : Nat) (l : List UInt8) : Prop := w.heap[g]? = some (.cells (rowV l) 71 (0, 0)) ∧ l.length = 128
theorem zeros_len : zeros.length = 128 := by simp [zeros]
theorem rowV_size (l : List UInt8) : (rowV l).size = l.length := by simp [rowV]
theorem rowV_toList (l : List UInt8) : (rowV l).toList = l.map byteV := by simp [rowV]
theorem rowV_one (l : List UInt8) : (rowV l).all (·.oneCell') = true := by
  simp only [rowV, List.all_toArray, List.all_eq_true]
  exact fun v hv => byteV_one l v hv
theorem wholeL_len {l : List UInt8} {n : Nat} (hl : l.length = n) (hn : n = 0 ∨ n = 128) : (wholeL l).length = 128 := by
  unfold wholeL
  split
  · exact zeros_len
  · rename_i h
    rcases hn with rfl | rfl
    · exact absurd (List.eq_nil_of_length_eq_zero hl) h
    · exact hl
theorem Box.own {w : World} {g : Nat} {l : List UInt8} (h : Box w g l) : w.ownsRow g 71 1 (.slice (some ⟨g, 0, none⟩) 128 128) 128 (l.map byteV) :=
  ⟨by simp [h.2], .inr ⟨g, 128, rowV l, rfl, Nat.le_refl _, h.1, Nat.le_refl _, by decide, by simp [rowV_size, h.2], by rw [rowV_toList, List.take_of_length_le (by simp [h.2])]⟩⟩
theorem Box.lt {w : World} {g : Nat} {l : List UInt8} (h : Box w g l) : g < w.heap.size := (Array.getElem?_eq_some_iff.1 h.1).1
theorem Box.bs {w : World} {g : Nat} {l : List UInt8} (h : Box w g l) : Bs w (some ⟨g, 0, none⟩) 128 l := Bs.of_ownS h.own
theorem Box.below {w w' : World} {B g : Nat} {l : List UInt8} (h : Box w g l) (hb : Below B w w') (hg : g < B) : Box w' g l := ⟨by rw [hb.block g hg]; exact h.1, h.2⟩
theorem box_alloc (w : World) (l : List UInt8) (hl : l.length = 128) : Box (w.alloc (.cells (rowV l) 71)) w.heap.size l := ⟨heap_alloc_new _ _, hl⟩
theorem Box.size {w : World} {g : Nat} {l : List UInt8} (h : Box w g l) : (Try.prog.info? 71).map (·.size) = some (rowV l).size := by rw [rowV_size, h.2]; kernel_rfl

theorem results_rowtmp {P : Program} {fn : Func} {p u : Tmp} {ty : TypeId} (h : fn.results = #[.cell p ty, .tmp u]) (tmps : Array Value) (w : World) (g : Nat) (t : TypeId) (cs : Array Value) (fr : Nat × Nat) (d : TypeDesc)
    (hp : tmps.getD p undef = .pointer (some ⟨g, 0, none⟩)) (hg : w.heap[g]? = some (.cells cs t fr))
    (hu : P.underlying ty = some d) (hd : (match d with | .struct _ | .array _ _ => true | _ => false) = true) (hi : (P.info? ty).map (·.size) = some cs.size) :
    (results fn tmps).run P w = .ok (.tuple #[.agg cs, tmps.getD u undef]) w := by
  rw [results_cell_tmp h, hp]
  simp [asAddr, run_loadVar_row w g t ty cs fr d hg hu hd hi, Result.andThen]

theorem whole_bad (A : Option Addr) (n c : Nat) (h0 : n ≠ 0) (h1 : n ≠ 128) (w : World) :
    Calls Try.prog 35 #[.slice A n c] w fun e w' => e = .returned (.tuple #[.agg (rowV zeros), .int .i64 3]) ∧ Below w.heap.size w w' := by
  have B0 := box_alloc w zeros zeros_len
  have hx0 : ((n : Int) != 0) = true := by simp; omega
  have hx1 : ((n : Int) != 128) = true := by simp; omega
  go_enter Try.func35, Try.ntmps35
  go_wp2_with (first
   | (refine Great.wpList_allocTo rfl (some 2) rfl (.pointer (some ⟨w.heap.size, 0, none⟩)) (.cells (rowV zeros) 71) (by kernel_rfl) ?_)
   | (refine wpList_load_row rfl 71 (.tmp 2) rfl w.heap.size rfl 71 (rowV zeros) (0, 0) _ B0.1 Try.underlying71 rfl B0.size ?_)
   | (refine wpList_store_row rfl 71 (.tmp 2) (.tmp 12) rfl w.heap.size (rowV zeros) rfl rfl 71 _ B0.1 B0.size rfl (rowV_one _) ?_; rw [setRow_alloc]))
  exact bodyPost_ret (v := .tuple #[.agg (rowV zeros), .int .i64 3]) (Eq.trans (results_rowtmp (P := Try.prog) (fn := Try.f35) (p := 2) (u := 3) (ty := 71) rfl _ _ w.heap.size 71 (rowV zeros) (0, 0) _ rfl B0.1 Try.underlying71 rfl B0.size) rfl) rfl ⟨rfl, Below.alloc (Below.refl _ _) (Nat.le_refl _) _⟩

theorem splice_whole (bs : List UInt8) (h : bs.length = 0 ∨ bs.length = 128) : (splice (rowV zeros).toList 0 (bs.map byteV)).toArray = rowV (wholeL bs) := by
  rw [rowV_toList]
  unfold splice wholeL rowV
  rcases h with h | h
  · have : bs = [] := List.eq_nil_of_length_eq_zero h
    subst this
    simp
  · have hne : bs ≠ [] := by rintro rfl; simp at h
    have : (List.map byteV zeros).length = 128 := by rw [List.length_map, zeros_len]
    simp [hne, h, List.drop_of_length_le (Nat.le_of_eq this)]

set_option maxRecDepth 100000 in
theorem whole_ok (A : Option Addr) (n c : Nat) (bs : List UInt8) (hn : n = 0 ∨ n = 128) (w : World) (hb : Bs w A n bs) :
    Calls Try.prog 35 #[.slice A n c] w fun e w' => e = .returned (.tuple #[.agg (rowV (wholeL bs)), .int .i64 0]) ∧ Below w.heap.size w w' := by
  have B0 := box_alloc w zeros zeros_len
  have hlen := wholeL_len hb.1 hn
  have hsp := splice_whole bs (by rw [hb.1]; exact hn)
  have hb1 := hb.alloc (.cells (rowV zeros) 71)
  have hcopy : 0 < (bs.map byteV).length → (some (⟨w.heap.size, 0, none⟩ : Addr) = some ⟨w.heap.size, 0, none⟩) ∧ ∃ ad, A = some ad ∧ ∀ j v, (bs.map byteV)[j]? = some v → (w.alloc (.cells (rowV zeros) 71)).cell? (ad.add j) = some v := by
    intro hp
    refine ⟨rfl, ?_⟩
    rcases hb1.2 with h | ⟨b, off, hA, hc⟩
    · rw [h] at hp; simp at hp
    · refine ⟨_, hA, fun j v hv => ?_⟩
      rw [add_plain, hc j (List.getElem?_eq_some_iff.1 hv).1, hv]
  have hmin : (bs.map byteV).length = Nat.min n 128 := by rw [List.length_map, hb.1]; rcases hn with rfl | rfl <;> rfl
  have hfit : 0 + (bs.map byteV).length ≤ (rowV zeros).toList.length := by rw [rowV_toList, List.length_map, List.length_map, hb.1, zeros_len]; omega
  have hg0 : (w.alloc (.cells (rowV zeros) 71)).heap[w.heap.size]? = some (.cells (rowV zeros).toList.toArray 71 (0, 0)) := by
    rw [Array.toArray_toList]
    exact B0.1
  have HC := Lib.hid hcopy
  have HB := Lib.hid hb
  have HSP := Lib.hid hsp
  have HL := Lib.hid hlen
  clear hcopy hb hb1 hsp hlen
  rcases hn with rfl | rfl
  all_goals
    go_enter Try.func35, Try.ntmps35
    go_wp2_with (first
     | (refine Great.wpList_allocTo rfl (some 2) rfl (.pointer (some ⟨w.heap.size, 0, none⟩)) (.cells (rowV zeros) 71) (by kernel_rfl) ?_)
     | (refine wpList_copy_splice rfl (.tmp 13) (.tmp 14) _ _ rfl 5 Try.underlying32 (by kernel_rfl) _ _ _ _ _ _ rfl rfl w.heap.size 0 (rowV zeros).toList 71 hg0 (bs.map byteV) hmin HC.out hfit (byteV_one _) w.heap.size w (Below.alloc (Below.refl _ _) (Nat.le_refl _) _) (Nat.le_refl _) ?_; intro w2 hw2 b2; have HB2 : Hid (Box w2 w.heap.size (wholeL bs)) := Lib.hid ⟨by rw [← HSP.out]; exact hw2.out, HL.out⟩; clear hw2)
     | (refine wpList_load_row rfl 71 (.tmp 2) rfl w.heap.size rfl 71 (rowV (wholeL bs)) (0, 0) _ HB2.out.1 Try.underlying71 rfl HB2.out.size ?_)
     | (refine wpList_store_row rfl 71 (.tmp 2) (.tmp 16) rfl w.heap.size (rowV (wholeL bs)) rfl rfl 71 _ HB2.out.1 HB2.out.size rfl (rowV_one _) ?_))
    have hrow : (w2.setRow w.heap.size (rowV (wholeL bs))).heap[w.heap.size]? = some (.cells (rowV (wholeL bs)) 71 (0, 0)) := setRow_heap w2 _ _ _ _ _ HB2.out.1
    exact bodyPost_ret (v := .tuple #[.agg (rowV (wholeL bs)), .int .i64 0]) (Eq.trans (results_rowtmp (P := Try.prog) (fn := Try.f35) (p := 2) (u := 3) (ty := 71) rfl _ _ w.heap.size 71 (rowV (wholeL bs)) (0, 0) _ rfl hrow Try.underlying71 rfl HB2.out.size) rfl) rfl ⟨rfl, below_setRow b2 (Nat.le_refl _) _⟩
end Go.Proofs.Ytggdfecgkhnkkaa
