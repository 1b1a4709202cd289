/- Layer 10 (super): Read, whatever comes in. -/
import Derived.Test.YtgmlhfencidahaaSuperRead2
namespace Go.Proofs.Ytgmlhfencidahaa
open Go Go.RowKit
set_option linter.unusedSimpArgs false
set_option linter.unusedVariables false

/-- a super's four numbers, as values -/
def supV (id age sq tl : Nat) : Array Value := #[.int .u32 (id : Int), .int .u32 (age : Int), .int .u32 (sq : Int), .int .i64 (tl : Int)]
/-- are these bytes a super's block, and of which? -/
def ReadIs (bs : List UInt8) (id age sq tl : Nat) : Prop :=
  (id = takeN (wholeL bs) 1 4 ∧ age = takeN (wholeL bs) 5 4 ∧ sq = takeN (wholeL bs) 9 4 ∧ tl = takeN (wholeL bs) 13 1) ∧ SupOk age sq (tl : Int) ∧ supBlock id age sq tl = bs
theorem read_block (A : Option Addr) (n q : Nat) (bs : List UInt8) (hn : n = 0 ∨ n = 128) (w : World) (hb : Bs w A n bs) :
    (∃ id age sq tl, ReadIs bs id age sq tl ∧ Calls Try.prog 13 #[.slice A n q] w fun e w' => e = .returned (.tuple #[.agg (supV id age sq tl), .int .i64 0]) ∧ Below w.heap.size w w') ∨
    ((∀ id age sq tl, ¬ ReadIs bs id age sq tl) ∧ Calls Try.prog 13 #[.slice A n q] w fun e w' => e = .returned (.tuple #[.agg #[.int .u32 0, .int .u32 0, .int .u32 0, .int .i64 0], .int .i64 90]) ∧ Below w.heap.size w w') := by
  have b1 : takeN (wholeL bs) 1 4 < 4294967296 := takeN_lt _ 1 4
  have b2 : takeN (wholeL bs) 5 4 < 4294967296 := takeN_lt _ 5 4
  have b3 : takeN (wholeL bs) 9 4 < 4294967296 := takeN_lt _ 9 4
  have k1 := fun W hW => take_ok A n q bs hn 1 4 (by decide) (by decide) W hW
  have k2 := fun W hW => take_ok A n q bs hn 5 4 (by decide) (by decide) W hW
  have k3 := fun W hW => take_ok A n q bs hn 9 4 (by decide) (by decide) W hW
  have k4 := fun W hW => take_ok A n q bs hn 13 1 (by decide) (by decide) W hW
  generalize hid : takeN (wholeL bs) 1 4 = id at *
  generalize hage : takeN (wholeL bs) 5 4 = age at *
  generalize hsq : takeN (wholeL bs) 9 4 = sq at *
  generalize htl : takeN (wholeL bs) 13 1 = tl at *
  by_cases hok : SupOk age sq (tl : Int)
  · have k5 : ∀ W, Calls Try.prog 10 #[.agg #[.int .u32 (id : Int), .int .u32 (age : Int), .int .u32 (sq : Int), .int .i64 (tl : Int)]] W fun e w' => ∃ P k c, e = .returned (.tuple #[.slice P k c, .int .i64 0]) ∧ Bs w' P k (supBlock id age sq tl) ∧ Below W.heap.size W w' := fun W =>
      (pwrite_ok id age sq tl b1 b2 b3 hok W).mono fun e w' ⟨g, he, _, hB, hbl⟩ => ⟨_, _, _, he, hB.bs, hbl⟩
    by_cases hbs : supBlock id age sq tl = bs
    · exact .inl ⟨id, age, sq, tl, ⟨⟨hid.symm, hage.symm, hsq.symm, htl.symm⟩, hok, hbs⟩, read_core A n q bs id age sq tl b1 b2 b3 k1 k2 k3 k4 _ _ k5 _ _ (.inr (.inr ⟨rfl, hbs, rfl, rfl⟩)) w hb⟩
    · refine .inr ⟨?_, read_core A n q bs id age sq tl b1 b2 b3 k1 k2 k3 k4 _ _ k5 _ _ (.inr (.inl ⟨rfl, hbs, rfl, rfl⟩)) w hb⟩
      rintro i1 i2 i3 i4 ⟨⟨rfl, rfl, rfl, rfl⟩, _, h⟩
      exact hbs (by rw [← hid, ← hage, ← hsq, ← htl]; exact h)
  · have k5 : ∀ W, Calls Try.prog 10 #[.agg #[.int .u32 (id : Int), .int .u32 (age : Int), .int .u32 (sq : Int), .int .i64 (tl : Int)]] W fun e w' => ∃ P k c, e = .returned (.tuple #[.slice P k c, .int .i64 8]) ∧ Bs w' P k [] ∧ Below W.heap.size W w' := fun W =>
      (pwrite_bad id age sq tl b2 b3 hok W).mono fun e w' ⟨he, hbl⟩ => ⟨_, _, _, he, Bs.nil _ _, hbl⟩
    refine .inr ⟨?_, read_core A n q bs id age sq tl b1 b2 b3 k1 k2 k3 k4 _ _ k5 _ _ (.inl ⟨rfl, rfl, rfl⟩) w hb⟩
    rintro i1 i2 i3 i4 ⟨⟨rfl, rfl, rfl, rfl⟩, h, _⟩
    exact hok (by rw [← hage, ← hsq, ← htl]; exact h)
end Go.Proofs.Ytgmlhfencidahaa
