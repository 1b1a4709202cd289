/- Layer 10 (super): as the document says: the statement, whatever comes in. -/
import Derived.Test.YtgmlhfencidahaaSuperDoes
namespace Go.Proofs.Ytgmlhfencidahaa
open Go Go.RowKit
set_option linter.unusedSimpArgs false
set_option linter.unusedVariables false

theorem read_yes {n : Nat} {bs : List UInt8} (hn : n = 0 ∨ n = 128) {i1 i2 i3 i4 : Nat} (hr : ReadIs bs i1 i2 i3 i4) (A : Option Addr) (q : Nat) (W : World) (hb : Bs W A n bs) :
    Calls Try.prog 13 #[.slice A n q] W fun e w' => e = .returned (.tuple #[.agg #[.int .u32 (i1 : Int), .int .u32 (i2 : Int), .int .u32 (i3 : Int), .int .i64 (i4 : Int)], .int .i64 0]) ∧ Below W.heap.size W w' := by
  rcases read_block A n q bs hn W hb with ⟨j1, j2, j3, j4, h, hc⟩ | ⟨hno, _⟩
  · obtain ⟨rfl, rfl, rfl, rfl⟩ := read_one h hr
    exact hc
  · exact absurd hr (hno _ _ _ _)
theorem rsread_yes {n : Nat} {bs : List UInt8} (hn : n = 0 ∨ n = 128) {i1 i2 i3 i4 : Nat} (hr : ReadIs bs i1 i2 i3 i4) (A : Option Addr) (q : Nat) (W : World) (hb : Bs W A n bs) :
    Calls Try.prog 15 #[.slice A n q] W fun e w' => e = .returned (.tuple #[.agg #[.int .u32 (i1 : Int), .int .u32 (i2 : Int), .int .u32 (i3 : Int), .int .i64 (i4 : Int)], .int .i64 0]) ∧ Below W.heap.size W w' := by
  rcases rsread_block A n q bs hn W hb with ⟨j1, j2, j3, j4, h, hc⟩ | ⟨hno, _⟩
  · obtain ⟨rfl, rfl, rfl, rfl⟩ := read_one h hr
    exact hc
  · exact absurd hr (hno _ _ _ _)
theorem read_no {n : Nat} {bs : List UInt8} (hn : n = 0 ∨ n = 128) (hr : ∀ i1 i2 i3 i4, ¬ ReadIs bs i1 i2 i3 i4) (A : Option Addr) (q : Nat) (W : World) (hb : Bs W A n bs) :
    Calls Try.prog 13 #[.slice A n q] W fun e w' => e = .returned (.tuple #[.agg #[.int .u32 ((0 : Nat) : Int), .int .u32 ((0 : Nat) : Int), .int .u32 ((0 : Nat) : Int), .int .i64 ((0 : Nat) : Int)], .int .i64 90]) ∧ Below W.heap.size W w' := by
  rcases read_block A n q bs hn W hb with ⟨j1, j2, j3, j4, h, hc⟩ | ⟨_, hc⟩
  · exact absurd h (hr _ _ _ _)
  · exact hc
theorem rsread_no {n : Nat} {bs : List UInt8} (hn : n = 0 ∨ n = 128) (hr : ∀ i1 i2 i3 i4, ¬ ReadIs bs i1 i2 i3 i4) (A : Option Addr) (q : Nat) (W : World) (hb : Bs W A n bs) :
    Calls Try.prog 15 #[.slice A n q] W fun e w' => e = .returned (.tuple #[.agg #[.int .u32 ((0 : Nat) : Int), .int .u32 ((0 : Nat) : Int), .int .u32 ((0 : Nat) : Int), .int .i64 ((0 : Nat) : Int)], .int .i64 90]) ∧ Below W.heap.size W w' := by
  rcases rsread_block A n q bs hn W hb with ⟨j1, j2, j3, j4, h, hc⟩ | ⟨_, hc⟩
  · exact absurd h (hr _ _ _ _)
  · exact hc

theorem does_all (id age sq : Nat) (t : Int) (hi : id < 4294967296) (ha : age < 4294967296) (hs : sq < 4294967296) (A : Option Addr) (n q : Nat) (bs : List UInt8) (w : World) (hb : Bs w A n bs) : Calls Try.prog 5 #[.agg #[.int .u32 (id : Int), .int .u32 (age : Int), .int .u32 (sq : Int), .int .i64 t], .slice A n q] w fun e w' => e = .returned (.bool true) ∧ Below w.heap.size w w' := by
  by_cases hl : n ≤ 1000
  · have core : ∀ (ws : List UInt8) (E : Int)
        (h1 : ∀ W, Calls Try.prog 10 #[.agg #[.int .u32 (id : Int), .int .u32 (age : Int), .int .u32 (sq : Int), .int .i64 t]] W fun e w' => ∃ P k c, e = .returned (.tuple #[.slice P k c, .int .i64 E]) ∧ Bs w' P k ws ∧ Below W.heap.size W w')
        (h2 : ∀ W, Calls Try.prog 14 #[.agg #[.int .u32 (id : Int), .int .u32 (age : Int), .int .u32 (sq : Int), .int .i64 t]] W fun e w' => ∃ P k c, e = .returned (.tuple #[.slice P k c, .int .i64 E]) ∧ Bs w' P k ws ∧ Below W.heap.size W w')
        (h5 : ∀ W, Calls Try.prog 11 #[.agg #[.int .u32 (id : Int), .int .u32 (age : Int), .int .u32 (sq : Int), .int .i64 t]] W fun e w' => e = .returned (.int .i64 E) ∧ Below W.heap.size W w')
        (h6 : ∀ W, Calls Try.prog 16 #[.agg #[.int .u32 (id : Int), .int .u32 (age : Int), .int .u32 (sq : Int), .int .i64 t]] W fun e w' => e = .returned (.int .i64 E) ∧ Below W.heap.size W w'), Calls Try.prog 5 #[.agg #[.int .u32 (id : Int), .int .u32 (age : Int), .int .u32 (sq : Int), .int .i64 t], .slice A n q] w fun e w' => e = .returned (.bool true) ∧ Below w.heap.size w w' := by
      intro ws E h1 h2 h5 h6
      by_cases hn : n = 0 ∨ n = 128
      · by_cases hr : ∃ i1 i2 i3 i4, ReadIs bs i1 i2 i3 i4
        · obtain ⟨i1, i2, i3, i4, hr⟩ := hr
          exact does_core id age sq t A n q bs hl ws E i1 i2 i3 i4 0 h1 h2 (read_yes hn hr) (rsread_yes hn hr) h5 h6 w hb
        · have hr' : ∀ i1 i2 i3 i4, ¬ ReadIs bs i1 i2 i3 i4 := fun i1 i2 i3 i4 h => hr ⟨i1, i2, i3, i4, h⟩
          exact does_core id age sq t A n q bs hl ws E 0 0 0 0 90 h1 h2 (read_no hn hr') (rsread_no hn hr') h5 h6 w hb
      · exact does_core id age sq t A n q bs hl ws E 0 0 0 0 3 h1 h2 (fun A q W _ => read_text A n q (by omega) (by omega) W) (fun A q W _ => rsread_text A n q (by omega) (by omega) W) h5 h6 w hb
    by_cases hok : SupOk age sq t
    · obtain ⟨t, rfl⟩ : ∃ n : Nat, t = (n : Int) := ⟨t.toNat, by have := hok.2.2.1; omega⟩
      exact core _ 0 (fun W => (pwrite_ok id age sq t hi ha hs hok W).mono fun e w' ⟨g, he, _, hB, hbl⟩ => ⟨_, _, _, he, hB.bs, hbl⟩) (fun W => (rswrite_ok id age sq t hi ha hs hok W).mono fun e w' ⟨A, c, he, hB, hbl⟩ => ⟨_, _, _, he, hB, hbl⟩)
        (pcheck_ok id age sq t ha hs hok) (rscheck_ok id age sq t hok)
    · exact core [] 8 (fun W => (pwrite_bad id age sq t ha hs hok W).mono fun e w' ⟨he, hbl⟩ => ⟨_, _, _, he, Bs.nil _ _, hbl⟩) (fun W => (rswrite_bad id age sq t hok W).mono fun e w' ⟨he, hbl⟩ => ⟨_, _, _, he, Bs.nil _ _, hbl⟩)
        (pcheck_bad id age sq t ha hs hok) (rscheck_bad id age sq t hok)
  · exact does_long id age sq t A n q (by omega) w

theorem superDoes_walk (w : World) (cs : List Value) (y : (Ty.st (.prod .u32 (.prod .u32 (.prod .u32 (.prod .int .unit))))).T) (h0 : Reads w (Ty.st (.prod .u32 (.prod .u32 (.prod .u32 (.prod .int .unit))))) y cs) (v1 : Value) (bs : (Ty.sl .byte).T) (h1 : Reads w (.sl .byte) bs [v1]) :
    Calls Try.prog 5 #[.agg cs.toArray, v1] w fun e w' => e = .returned (.bool true) ∧ Below w.heap.size w w' := by
  obtain ⟨id, age, sq, t, hv, hi, ha, hs, _⟩ := sup_open h0
  obtain ⟨A, q, rfl, _, _, hb⟩ := one_bytes h1
  rw [hv]
  exact does_all id age sq t hi ha hs A _ q bs w hb
end Go.Proofs.Ytgmlhfencidahaa
