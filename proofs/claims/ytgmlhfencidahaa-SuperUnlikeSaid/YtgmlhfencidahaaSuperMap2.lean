/- Entries laid into a map of addresses. -/
import Derived.Test.YtgmlhfencidahaaSuperMap
import Derived.Test.YtgmlhfencidahaaSuper3
namespace Go.Proofs.Ytgmlhfencidahaa
open Go Go.RowKit
set_option linter.unusedSimpArgs false
set_option linter.unusedVariables false

theorem equal_ptr (w : World) (g f f' : Nat) (h : f ≠ f') : (Op.equal 54 (.pointer (some ⟨g, f, none⟩)) (.pointer (some ⟨g, f', none⟩))).run Try.prog w = .ok false w := by
  have hs : (sizeOf 22).run Try.prog w = .ok 1 w := by rfl
  have hu := run_underlying Try.underlying54 w
  have hq : ((⟨g, f, none⟩ : Addr) == ⟨g, f', none⟩) = false := by simp [h]
  show (Op.equalIn (9999 + 1) 54 (.pointer (some ⟨g, f, none⟩)) (.pointer (some ⟨g, f', none⟩))).run Try.prog w = .ok false w
  generalize (9999 : Nat) = d
  rw [Op.equalIn]
  simp [hu, hs, sameAddr, Result.andThen, h]
theorem find_asking (w : World) (g f : Nat) : ∀ (es : List MapEntry) (i : Nat), (∀ e ∈ es, ∃ f', f ≠ f' ∧ e.key = .pointer (some ⟨g, f', none⟩)) → (Instr.findAsking 54 (.pointer (some ⟨g, f, none⟩)) es i).run Try.prog w = .ok none w
  | [], _, _ => rfl
  | e :: es, i, h => by
    obtain ⟨f', hf, hk⟩ := h e (by simp)
    simp only [Instr.findAsking, Sem.run_bind, hk, equal_ptr w g f f' hf, Result.andThen]
    exact find_asking w g f es (i + 1) (fun x hx => h x (by simp [hx]))
theorem find_key (w : World) (g f : Nat) (es : List MapEntry) (h : ∀ e ∈ es, ∃ f', f ≠ f' ∧ e.key = .pointer (some ⟨g, f', none⟩)) : (Instr.findKey 54 (.pointer (some ⟨g, f, none⟩)) es).run Try.prog w = .ok none w := by
  have hu := run_underlying Try.underlying54 w
  simp only [Instr.findKey, Sem.run_bind, hu, Result.andThen]
  cases es with
  | nil => rfl
  | cons e es =>
    obtain ⟨f', hf, hk⟩ := h e (by simp)
    have : Instr.findNow (.pointer 22) (.pointer (some ⟨g, f, none⟩)) (e :: es) 0 = none := by simp [Instr.findNow, Instr.sameNow, hk]
    rw [this]
    exact find_asking w g f (e :: es) 0 h
theorem run_put (w : World) (m g f c : Nat) (es : Array MapEntry) (v : Value) (hm : w.heap[m]? = some (.map es c)) (h : ∀ e ∈ es.toList, ∃ f', f ≠ f' ∧ e.key = .pointer (some ⟨g, f', none⟩)) :
    (Instr.mapUpdate 55 (.map (some m)) (.pointer (some ⟨g, f, none⟩)) v).run Try.prog w = .ok () (ChangeMaps.setBlock w m (.map (es.push { key := .pointer (some ⟨g, f, none⟩), val := v, born := c }) (c + 1))) := by
  have hu := run_underlying Try.underlying55 w
  have hu2 := run_underlying Try.underlying54 w
  have hck : (Instr.checkKey false 10000 54 (.pointer (some ⟨g, f, none⟩))).run Try.prog w = .ok () w := by
    show (Instr.checkKey false (9999 + 1) 54 (.pointer (some ⟨g, f, none⟩))).run Try.prog w = .ok () w
    generalize (9999 : Nat) = d
    rw [Instr.checkKey]
    simp [hu2, Result.andThen]
  have hf := find_key w g f es.toList h
  simp [Instr.mapUpdate, hu, getObj, hm, Result.andThen, hck, hf, setObj, Sem.run_bind, Sem.run, ChangeMaps.setBlock]
end Go.Proofs.Ytgmlhfencidahaa
