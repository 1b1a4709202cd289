/- The references' blocks: bytes and noughts, four bytes of a number, a block with its sum. -/
import Derived.Test.YtclbihcggjjgaaaSeal
import Derived.Test.YtclbihcggjjgaaaBox2
import Derived.Test.YtclbihcggjjgaaaPackRef
import Derived.Test.YtclbihcggjjgaaaPolyRef
namespace Go.Proofs.Ytclbihcggjjgaaa
open Go Go.RowKit
set_option linter.unusedSimpArgs false
set_option linter.unusedVariables false

theorem zeros_getD (i : Nat) : zeros.getD i 0 = 0 := by
  have h := pad_getD [] i
  rw [pad_nil] at h
  rw [h]; rfl
theorem ztake_getD (l : List UInt8) (j i : Nat) : (pad (l.take j)).getD i 0 = if i < j then l.getD i 0 else 0 := by
  rw [pad_getD]
  simp only [List.getD_eq_getElem?_getD, List.getElem?_take]
  split <;> rfl
theorem pad_step (l : List UInt8) (hl : l.length ≤ 128) (j : Nat) (hj : j < l.length) : (pad (l.take j)).set j (l.getD j 0) = pad (l.take (j + 1)) := by
  apply ext_getD
  · rw [List.length_set, pad_len (by simp; omega), pad_len (by simp; omega)]
  · intro i
    rw [set_getD _ _ _ _ (by rw [pad_len (by simp; omega)]; omega), ztake_getD, ztake_getD]
    by_cases h : i = j
    · subst h; rw [if_pos rfl, if_pos (by omega)]
    · rw [if_neg h]
      by_cases h2 : i < j
      · rw [if_pos h2, if_pos (by omega)]
      · rw [if_neg h2, if_neg (by omega)]

set_option maxRecDepth 100000 in
/-- Whole of at most 128 bytes -/
theorem rwhole_pad (A : Option Addr) (n c : Nat) (bs : List UInt8) (hn : n ≤ 128) (w : World) (hb : Bs w A n bs) :
    Calls Try.prog 72 #[.slice A n c] w fun e w' => ∃ g, e = .returned (.slice (some ⟨g, 0, none⟩) 128 128) ∧ w.heap.size ≤ g ∧ Own w' w.heap.size g (pad bs) ∧ Below w.heap.size w w' := by
  by_cases hz : n = 0
  · subst hz
    have : bs = [] := List.eq_nil_of_length_eq_zero hb.1
    subst this
    exact rwhole_nil A c w
  obtain ⟨i0, hi, hz0, hz1, hz2⟩ := info_b
  obtain ⟨b, off, rfl, hblt, hc⟩ := hb.addr (by omega)
  have hl := hb.1
  clear hb
  have HC := Lib.hid hc
  clear hc
  go_enter Try.func72, Try.ntmps72
  go_wp2_with (first
    | (refine wpList_make_full w rfl (.const (.int .i64 128)) (.const (.int .i64 128)) 29 rfl w.heap.size 5 i0 (.int .u8 0) 1 Try.underlying29 hi hz0 hz1 .i64 .i64 128 128 128 rfl rfl rfl rfl (by rw [hz2]; omega) (by unfold maxLen; omega) (Nat.le_refl _) ?_; intro w2 own2 g2; rw [made_zeros] at own2; have b2 := Ext.grown (Below.refl _ _) g2 (by simp)))
  have HO : Hid (Own w2 w.heap.size w.heap.size zeros) := Lib.hid own2
  clear own2 g2
  go_loopw [4] (fun i wr => ∃ j : Nat, j ≤ n ∧ i = .int .i64 j ∧ Own wr w.heap.size w.heap.size (pad (bs.take j)) ∧ Below w.heap.size w wr) (fun i _ => n - (intOf i).toNat)
  case atStart => exact ⟨0, Nat.zero_le _, rfl, HO.out, b2⟩
  case round =>
    obtain ⟨j, hj, rfl, own, bw⟩ := hrel
    by_cases hlt : j < n
    · have h1 : wr.cell? ⟨b, off + j, none⟩ = some (.int .u8 ((bs.getD j 0).toNat : Int)) := by
        rw [bw.cell (p := ⟨b, off + j, none⟩) hblt, HC.out j (by omega)]
        simp [show j < bs.length by omega]
      have h2 := own.cell j (by omega)
      have h3 := World.ownsRow.frozenAt own j
      have hnx := own.set j (bs.getD j 0)
      rw [pad_step bs (by omega) j (by omega)] at hnx
      have HN := Lib.hid hnx
      have HC2 := HC
      clear HC hnx
      clear own
      have hj128 : j < 128 := by omega
      generalize ((pad (bs.take j)).getD j 0).toNat = y at h2
      generalize bs.getD j 0 = z at h1 HN ⊢
      go_wp2
      exact ⟨⟨j + 1, by omega, by go_num, HN.out, bw.setCell (Nat.le_refl _) _⟩, by simp [intOf]; omega⟩
    · have hj' : j = n := by omega
      have ht : bs.take j = bs := by rw [hj', ← hl]; exact List.take_length
      rw [ht] at own
      clear ht
      go_wp2
      go_ret
      exact ⟨_, rfl, Nat.le_refl _, own, bw⟩

/-- Four -/
theorem four_cells (x : Nat) (hx : x < 4294967296) : #[Value.int .u8 ((x : Int) % 256), .int .u8 ((x : Int) / 256 % 256), .int .u8 ((x : Int) / 65536 % 256), .int .u8 ((x : Int) / 16777216)].toList.take 4 = (le 4 x).map byteV := by
  have h0 : (x : Int) % 256 = ((UInt8.ofNat (x / 256 ^ 0)).toNat : Int) := by simp
  have h1 : (x : Int) / 256 % 256 = ((UInt8.ofNat (x / 256 ^ 1)).toNat : Int) := by simp
  have h2 : (x : Int) / 65536 % 256 = ((UInt8.ofNat (x / 256 ^ 2)).toNat : Int) := by simp
  have h3 : (x : Int) / 16777216 = ((UInt8.ofNat (x / 256 ^ 3)).toNat : Int) := by simp; omega
  rw [h0, h1, h2, h3]
  rfl
theorem Bs.first' {w : World} {A : Option Addr} {n : Nat} {bs : List UInt8} (h : Bs w A n bs) (k : Nat) (hk : k ≤ n) : Bs w A k (bs.take k) := by
  refine ⟨by rw [List.length_take, h.1]; omega, ?_⟩
  rcases h.2 with h2 | ⟨b, off, hA, hc⟩
  · left
    have : bs = [] := by simpa using h2
    subst this
    simp
  · refine .inr ⟨b, off, hA, fun j hj => ?_⟩
    have hj' : j < k ∧ j < bs.length := Nat.lt_min.1 (by simpa using hj)
    rw [hc j (by simpa using hj'.2)]
    simp [List.getElem?_take, hj'.1]

/-! ### appends of bytes -/
theorem BoxOf.below {w w' : World} {B g : Nat} {cs : Array Value} {t : TypeId} (h : BoxOf w g cs t) (hb : Below B w w') (hg : g < B) : BoxOf w' g cs t := by
  unfold BoxOf at *
  rw [hb.block g hg]; exact h
def OB (w : World) (base : Nat) (v : Value) (n : Nat) (bs : List UInt8) : Prop := w.ownsRow base 5 1 v n (bs.map byteV)
theorem OB.next {w w' : World} {base : Nat} {v : Value} {n : Nat} {bs : List UInt8} (h : OB w base v n bs) (hb : Below w.heap.size w w') : OB w' base v n bs := own_next h hb
theorem OB.bs {w : World} {base : Nat} {v : Value} {n : Nat} {bs : List UInt8} (h : OB w base v n bs) : ∃ A c, v = .slice A n c ∧ Bs w A n bs := by
  obtain ⟨A, c, rfl, _, hb⟩ := Bs.of_own h
  exact ⟨A, c, rfl, hb⟩
theorem OB.lit (w : World) (g : Nat) (hg : g = w.heap.size) (b : UInt8) (v : Int) (hv : v = (b.toNat : Int)) : OB (w.alloc (.cells #[.int .u8 v] 5)) g (.slice (some ⟨g, 0, none⟩) 1 1) 1 [b] := by
  subst hg hv
  exact ⟨rfl, .inr ⟨w.heap.size, 1, #[byteV b], rfl, Nat.le_refl _, heap_alloc_new _ _, Nat.le_refl _, by decide, rfl, rfl⟩⟩
theorem OB.nil (w : World) (base : Nat) : OB w base (.slice none 0 0) 0 [] := ⟨rfl, .inl ⟨rfl, rfl⟩⟩
theorem wpList_append_bytes {ops : Array Oper} {rest : List Oper} {o : Oper} {a : Act} {Q : Exit → Act → World → Prop} {w : World} (hgd : o.guard = none) (s x : Operand)
    (ho : o.op = .call { callee := .builtin .append, args := #[s, x], argTypes := #[29, 29] })
    (base : Nat) (v : Value) (n : Nat) (bs : List UInt8) (hs : a.eval s = v) (hown : OB w base v n bs)
    (A : Option Addr) (m c : Nat) (ds : List UInt8) (hx : a.eval x = .slice A m c) (hr : Bs w A m ds) (h63 : n + m ≤ 1000000) (hbase : base ≤ w.heap.size)
    (h : ∀ v' w', OB w' base v' (n + m) (bs ++ ds) → Below base w w' → wpList Try.prog ops Q rest (a.put o.dst v') w') : wpList Try.prog ops Q (o :: rest) a w := by
  obtain ⟨i0, hi, hz0, hz1, hz2⟩ := info_b
  refine wpList_append_rd w hgd s x 29 ho base 5 i0 (.int .u8 0) 1 1 Try.underlying29 hi hz0 hz1 hz2 rfl (by decide) v n _ hs hown A m c _ hx (by rw [List.length_map, hr.1, Nat.mul_one]) hr.2 (byteV_one _) (by unfold maxLen; omega) (by omega) hbase ?_
  intro v' w' h2 h3 _
  refine h v' w' ?_ (Below.grown (Below.refl _ _) h3 hbase (fun k hk => own_block hown hk))
  unfold OB
  rw [List.map_append]
  exact h2
theorem cell_other (w : World) (k : Nat) (cs : Array Value) {p : Addr} (h : p.block ≠ k) : (w.setRow k cs).cell? p = w.cell? p := World.cell?_of_block (setRow_other w k p.block cs h)
theorem Bs.other {w : World} {g k n : Nat} {bs : List UInt8} (h : Bs w (some ⟨g, 0, none⟩) n bs) (hk : g ≠ k) (cs : Array Value) : Bs (w.setRow k cs) (some ⟨g, 0, none⟩) n bs := by
  refine ⟨h.1, ?_⟩
  rcases h.2 with h2 | ⟨b, off, hA, hc⟩
  · exact .inl h2
  · injection hA with hA
    injection hA with e1 e2
    subst e1 e2
    exact .inr ⟨g, 0, rfl, fun j hj => by rw [cell_other w k cs (by exact hk)]; exact hc j hj⟩
theorem BoxOf.out {w : World} {g : Nat} {cs : Array Value} {t : TypeId} (h : BoxOf w g cs t) (o : Nat) (v : Value) (hv : cs.toList[o]? = some v) : w.cell? ⟨g, o, none⟩ = some v := (h.cell o).trans hv
end Go.Proofs.Ytclbihcggjjgaaa
