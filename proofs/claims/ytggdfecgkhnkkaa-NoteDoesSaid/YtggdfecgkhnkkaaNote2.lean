/- Layer 11 (note): numbers are put one behind the other; the places of records. -/
import Derived.Test.YtggdfecgkhnkkaaRowsL
import Derived.Test.YtggdfecgkhnkkaaRef09
import Derived.RangeFuncNested
import Derived.RangeFuncBound
import Derived.RangeFuncCalls
import Derived.RangeFuncLeaves
import Derived.Shelf.Abstract
import Derived.Shelf.RegionOpen
import Derived.OwnWalkIn
import Derived.TacticsInMore
import Derived.LoopNIn
import Derived.LoopIn
import Derived.IntWalk
namespace Go.Proofs.Ytggdfecgkhnkkaa
open Go Go.RowKit Go.Shelf
set_option linter.unusedSimpArgs false
set_option linter.unusedVariables false

/-- a slice reads as numbers -/
def Is (w : World) (A : Option Addr) (k : Nat) (xs : List Nat) : Prop := xs.length = k ∧ Rd w A (xs.map fun (x : Nat) => Value.int .i64 (x : Int))
theorem Is.below {w w' : World} {A : Option Addr} {k : Nat} {xs : List Nat} (h : Is w A k xs) (hb : Below w.heap.size w w') : Is w' A k xs := ⟨h.1, h.2.below hb⟩
theorem Is.cells {w : World} {A : Option Addr} {k : Nat} {xs : List Nat} (h : Is w A k xs) (hk : 0 < k) : ∃ b off, A = some ⟨b, off, none⟩ ∧ ∀ j (hj : j < xs.length), w.cell? ⟨b, off + j, none⟩ = some (.int .i64 (xs[j] : Int)) := by
  rcases h.2 with h2 | ⟨b, off, hA, hc⟩
  · exfalso
    have h3 : xs = [] := by simpa using h2
    subst h3
    have := h.1
    simp at this
    omega
  · refine ⟨b, off, hA, fun j hj => ?_⟩
    rw [hc j (by simpa using hj)]
    simp [hj]
/-- rows of one size, one behind the other -/
def rowsAt (p z : Nat) : List Nat → List NRow
  | [] => []
  | x :: xs => (x, p, z) :: rowsAt (p + z) z xs
theorem rowsAt_len (z : Nat) (xs : List Nat) : ∀ p, (rowsAt p z xs).length = xs.length := by
  induction xs with
  | nil => intro p; rfl
  | cons x xs ih => intro p; simp [rowsAt, ih]
theorem rowsAt_get (z : Nat) (xs : List Nat) : ∀ p k (h : k < (rowsAt p z xs).length) (h' : k < xs.length), (rowsAt p z xs)[k] = (xs[k], p + k * z, z) := by
  induction xs with
  | nil => intro p k h h'; simp at h'
  | cons x xs ih =>
    intro p k h h'
    rcases k with _ | k
    · simp [rowsAt]
    · simp only [rowsAt, List.getElem_cons_succ]
      rw [ih (p + z) k (by simpa [rowsAt] using h) (by simpa using h')]
      have : p + z + k * z = p + (k + 1) * z := by rw [Nat.add_mul]; omega
      rw [this]
def putAll (bs : List UInt8) (rows : List NRow) : List UInt8 := rows.foldl putR bs
theorem putAll_succ (bs : List UInt8) (rows : List NRow) (k : Nat) (h : k < rows.length) : putAll bs (rows.take (k + 1)) = putR (putAll bs (rows.take k)) rows[k] := by
  unfold putAll; rw [List.take_succ_eq_append_getElem h, List.foldl_append]; rfl
theorem putAll_append (bs : List UInt8) (a b : List NRow) : putAll bs (a ++ b) = putAll (putAll bs a) b := by simp [putAll]
theorem putAll_nil (rows : List NRow) : putAll [] rows = putsL rows := rfl

set_option maxRecDepth 100000 in
set_option maxHeartbeats 1000000 in
theorem nput_ok (A : Option Addr) (n c : Nat) (bs : List UInt8) (hn : n = 0 ∨ n = 128) (p z : Nat) (P : Option Addr) (k cap : Nat) (xs : List Nat) (hk : 0 < k) (hz : 1 ≤ z ∧ z ≤ 4) (hp : p + z * k ≤ 128) (hx : ∀ x ∈ xs, x < 256 ^ z) (w : World) (hb : Bs w A n bs) (hi : Is w P k xs) :
    Calls Try.prog 21 #[.slice A n c, .int .i64 (p : Int), .int .i64 (z : Int), .slice P k cap] w fun e w' => ∃ g, e = .returned (.slice (some ⟨g, 0, none⟩) 128 128) ∧ w.heap.size ≤ g ∧ Box w' g (putAll bs (rowsAt p z xs)) ∧ Below w.heap.size w w' := by
  have hxl := hi.1
  obtain ⟨b, off, rfl, hc⟩ := hi.cells hk
  have HC := Lib.hid hc
  have HX := Lib.hid hx
  have HP := Lib.hid hp
  obtain ⟨hz1, hz2⟩ := hz
  have hk128 : k ≤ 128 := by
    have h1 : k ≤ z * k := Nat.le_mul_of_pos_left k hz1
    exact Nat.le_trans h1 (Nat.le_trans (Nat.le_add_left _ _) hp)
  clear hc hx hi hp
  go_enter Try.func21, Try.ntmps21
  go_wp2
  go_loopw [0, 13] (fun v i wr => ∃ (j : Nat) (A' : Option Addr) (n' q' : Nat), j ≤ k ∧ i = .int .i64 j ∧ v = .slice A' n' q' ∧ Bs wr A' n' (putAll bs ((rowsAt p z xs).take j)) ∧ (n' = 0 ∨ n' = 128) ∧ (0 < j → n' = 128 ∧ q' = 128 ∧ ∃ g, A' = some ⟨g, 0, none⟩ ∧ w.heap.size ≤ g ∧ Box wr g (putAll bs ((rowsAt p z xs).take j))) ∧ Below w.heap.size w wr) (fun _ i _ => k - (intOf i).toNat)
  case atStart => exact ⟨0, A, n, c, by omega, rfl, rfl, hb, hn, by omega, Below.refl _ _⟩
  case round =>
    obtain ⟨j, A', n', q', hj, rfl, rfl, hbj, hnj, hpos, bw⟩ := hrel
    by_cases hlt : j < k
    · have hjl : j < (rowsAt p z xs).length := by rw [rowsAt_len]; omega
      have hjx : j < xs.length := by omega
      have hsucc := putAll_succ bs (rowsAt p z xs) j hjl
      rw [rowsAt_get z xs p j hjl hjx] at hsucc
      unfold putR at hsucc
      dsimp only at hsucc
      have q0 := HC.out j hjx
      have q0' := (bw.cell (p := _) (block_lt_of_cell q0)).trans q0
      have hx8 := HX.out _ (List.getElem_mem hjx)
      have hjz : j * z + z ≤ z * k := by
        have h1 : (j + 1) * z ≤ k * z := Nat.mul_le_mul_right z hlt
        rw [Nat.add_mul, Nat.one_mul, Nat.mul_comm k z] at h1
        exact h1
      have hcast : (j : Int) * (z : Int) = ((j * z : Nat) : Int) := by simp
      have hsum : p + j * z + z ≤ 128 := Nat.le_trans (by rw [Nat.add_assoc]; exact Nat.add_le_add_left hjz p) HP.out
      have hpm' : p + j * z ≤ 128 := Nat.le_trans (Nat.le_add_right _ _) hsum
      have hm' : j * z ≤ 128 := Nat.le_trans (Nat.le_add_left _ _) hpm'
      clear q0 hpos
      generalize xs[j] = x at *
      generalize hm : j * z = m at *
      have hw1 : wrap64 ((j : Int) * (z : Int)) = (m : Int) := by rw [hcast]; exact IntWalk.wrap64_in _ (by omega)
      have hw3 : (p : Int) + (m : Int) = ((p + m : Nat) : Int) := by omega
      have HS := Lib.hid hsucc
      have X8 := Lib.hid hx8
      have HBJ := Lib.hid hbj
      have HNJ := Lib.hid hnj
      have HM := Lib.hid hsum
      clear hsum
      have HW3 := Lib.hid hw3
      clear hsucc hx8 hbj hnj hcast hjz hm hw3
      go_wp2_with fail
      rw [HW3.out]
      refine (put_ok A' n' q' _ HNJ.out (p + m) z x ⟨hz1, hz2⟩ HM.out X8.out _ HBJ.out).mono ?_
      rintro e w3 ⟨g3, rfl, hg3, HB3, b3⟩
      have hbx := Lib.hid HB3
      have hbs3 := Lib.hid HB3.bs
      have hsz := bw.size
      have bt := Ext.trans bw b3
      clear HB3 b3
      go_wp2
      go_roundw
      case rel => exact ⟨j + 1, some ⟨g3, 0, none⟩, 128, 128, by omega, by go_num, rfl, by rw [HS.out]; exact hbs3.out, .inr rfl, fun _ => ⟨rfl, rfl, g3, rfl, by omega, by rw [HS.out]; exact hbx.out⟩, bt⟩
      case measure => simp [intOf]; omega
    · have hjk : j = k := by omega
      obtain ⟨rfl, rfl, g, rfl, hg, hB⟩ := hpos (by omega)
      have htk : (rowsAt p z xs).take j = rowsAt p z xs := by
        rw [hjk, ← hxl, ← rowsAt_len z xs p]; exact List.take_length
      rw [htk] at hB
      have HBX := Lib.hid hB
      clear htk hB hbj hjk
      go_wp2
      go_ret
      exact ⟨g, rfl, hg, HBX.out, bw⟩
end Go.Proofs.Ytggdfecgkhnkkaa
