/- A super's block, as plain bytes. -/
import Derived.Test.YtgmlhfencidahaaSuperRead3
namespace Go.Proofs.Ytgmlhfencidahaa
open Go Go.RowKit
set_option linter.unusedSimpArgs false
set_option linter.unusedVariables false

theorem supRaw_len (id age sq t : Nat) : (supRaw id age sq t).length = 14 := by simp [supRaw, le_len]
theorem supPad_len (id age sq t : Nat) : (pad (supRaw id age sq t)).length = 128 := pad_len (by rw [supRaw_len]; decide)
theorem supBlock_len (id age sq t : Nat) : (supBlock id age sq t).length = 128 := by unfold supBlock; rw [sealL_len, supPad_len]
theorem sup_take (id age sq t p k : Nat) (h : p + k ≤ 124) : takeN (wholeL (supBlock id age sq t)) p k = takeN (supRaw id age sq t) p k := by
  rw [wholeL_full (supBlock_len id age sq t)]
  unfold supBlock
  rw [sealL_take _ (supPad_len id age sq t) p k h, takeN_pad]
theorem sup_id (id age sq t : Nat) (h : id < 4294967296) : takeN (supRaw id age sq t) 1 4 = id := by
  have := takeN_in (le 1 83) (le 4 age ++ le 4 sq ++ le 1 t) 4 id h
  rw [le_len] at this
  refine Eq.trans ?_ this
  congr 1
theorem sup_age (id age sq t : Nat) (h : age < 4294967296) : takeN (supRaw id age sq t) 5 4 = age := by
  have := takeN_in (le 1 83 ++ le 4 id) (le 4 sq ++ le 1 t) 4 age h
  rw [show (le 1 83 ++ le 4 id).length = 5 by simp [le_len]] at this
  refine Eq.trans ?_ this
  congr 1
theorem sup_sq (id age sq t : Nat) (h : sq < 4294967296) : takeN (supRaw id age sq t) 9 4 = sq := by
  have := takeN_in (le 1 83 ++ le 4 id ++ le 4 age) (le 1 t) 4 sq h
  rw [show (le 1 83 ++ le 4 id ++ le 4 age).length = 9 by simp [le_len]] at this
  refine Eq.trans ?_ this
  congr 1
theorem sup_tl (id age sq t : Nat) (h : t < 256) : takeN (supRaw id age sq t) 13 1 = t := by
  have := takeN_in (le 1 83 ++ le 4 id ++ le 4 age ++ le 4 sq) [] 1 t h
  rw [show (le 1 83 ++ le 4 id ++ le 4 age ++ le 4 sq).length = 13 by simp [le_len]] at this
  refine Eq.trans ?_ this
  congr 1
/-- what is written is read -/
theorem read_own (id age sq t : Nat) (hi : id < 4294967296) (ha : age < 4294967296) (hs : sq < 4294967296) (hok : SupOk age sq (t : Int)) : ReadIs (supBlock id age sq t) id age sq t := by
  have ht : t < 256 := by have := hok.2.2.2; omega
  refine ⟨⟨?_, ?_, ?_, ?_⟩, hok, rfl⟩
  · rw [sup_take _ _ _ _ _ _ (by decide), sup_id _ _ _ _ hi]
  · rw [sup_take _ _ _ _ _ _ (by decide), sup_age _ _ _ _ ha]
  · rw [sup_take _ _ _ _ _ _ (by decide), sup_sq _ _ _ _ hs]
  · rw [sup_take _ _ _ _ _ _ (by decide), sup_tl _ _ _ _ ht]
/-- what is read is sealed -/
theorem read_sealed {bs : List UInt8} {id age sq t : Nat} (h : ReadIs bs id age sq t) : Sealed bs := by
  obtain ⟨_, _, rfl⟩ := h
  exact sealL_sealed _ (supPad_len id age sq t)
theorem read_len {bs : List UInt8} {id age sq t : Nat} (h : ReadIs bs id age sq t) : bs.length = 128 := by
  obtain ⟨_, _, rfl⟩ := h
  exact supBlock_len id age sq t
theorem read_one {bs : List UInt8} {id age sq t id' age' sq' t' : Nat} (h : ReadIs bs id age sq t) (h' : ReadIs bs id' age' sq' t') : id = id' ∧ age = age' ∧ sq = sq' ∧ t = t' := by
  obtain ⟨⟨a1, a2, a3, a4⟩, _, _⟩ := h
  obtain ⟨⟨b1, b2, b3, b4⟩, _, _⟩ := h'
  exact ⟨a1.trans b1.symm, a2.trans b2.symm, a3.trans b3.symm, a4.trans b4.symm⟩
theorem sup_read_own (A : Option Addr) (n q : Nat) (id age sq t : Nat) (hi : id < 4294967296) (ha : age < 4294967296) (hs : sq < 4294967296) (hok : SupOk age sq (t : Int)) (w : World) (hb : Bs w A n (supBlock id age sq t)) :
    Calls Try.prog 13 #[.slice A n q] w fun e w' => e = .returned (.tuple #[.agg (supV id age sq t), .int .i64 0]) ∧ Below w.heap.size w w' := by
  have hn : n = 128 := by rw [← hb.1]; exact supBlock_len id age sq t
  rcases read_block A n q _ (.inr hn) w hb with ⟨i, a, s, u, hr, hc⟩ | ⟨hno, _⟩
  · obtain ⟨rfl, rfl, rfl, rfl⟩ := read_one hr (read_own id age sq t hi ha hs hok)
    exact hc
  · exact absurd (read_own id age sq t hi ha hs hok) (hno _ _ _ _)
end Go.Proofs.Ytgmlhfencidahaa
