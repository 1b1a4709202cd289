/- FlightOrder: for every input the call returns true, and each argument reads afterwards as it read before. No condition but the form's own. -/
import Derived.Test.YthapabjlhooglaaZFlightOrder9
import Derived.Test.YthapabjlhooglaaRows
import Derived.SizedLaws
import Derived.WalkKit
import Derived.ProofKit
import Derived.OpenShut
import Derived.ShutString
import Derived.ChangeOld
import Derived.Below
namespace Go.Proofs.Ythapabjlhooglaa.flightOrder
open Go.ChangeShapes Go.WideShapes Go.ChangeAt Go.RowKit
set_option linter.unusedVariables false

theorem own : ownKnob Try.prog.godebug = none := by kernel_rfl
theorem laidOut : laidOutB Try.prog = true := by kernel_rfl

set_option maxRecDepth 100000 in
theorem lifted (os : Os) (started : os.Started) (H : Type) (enc : TypeId × Value → H) :
    ReturnsInHanded {} Try.checked os 7 .any (Rows.flightOrderSpec.pre6 enc Try.prog Try.f7 Rows.flightOrderRow.domain false) (Rows.flightOrderSpec.post enc Try.prog Try.f7 false true false false) := by
  refine returnsInHanded_of_change_sized (C := Try.checked) own started (by kernel_rfl) Try.func7
    (ChangeSpec.witness6 (enc := enc) (C := Try.checked) false ⟨#[], #[.agg #[.int .u32 0, .int .i64 0, .int .i64 0, .int .i64 0, .int .i64 0, .int .i64 0], .slice none 0 0], []⟩ 8 (by kernel_rfl) (by kernel_rfl) (by kernel_rfl) (by kernel_rfl)) ?_
  intro W base args ds gs before hval0 hW hcnd hwt _
  have hval : ∀ (j : Nat) t v, Try.f7.params[j]? = some t → args[j]? = some v → Value.okWide Try.prog W .any base t v := hval0
  have hW' := hW
  obtain ⟨p, q, hA0, hV, rfl, hfz, hnd⟩ := hW
  have hA : DataW.TrodAll enc Try.prog W 0 (fun _ => true) true Try.f7.params.toList args.toList ds p := hA0
  rw [Try.params7] at hA hval
  obtain ⟨v0, vs0, d0, ds0, p0, q0, hargs, rfl, rfl, h0, r0⟩ := trodAll_cons hA
  obtain ⟨v1, vs1, d1, ds1, p1, q1, rfl, rfl, rfl, h1, r1⟩ := trodAll_cons r0
  obtain ⟨rfl, rfl, rfl⟩ := trodAll_nil r1
  obtain rfl : args = #[v0, v1] := by cases args; simp_all
  obtain ⟨rfl, rfl⟩ := trodVars_none hV
  have lt0 : ∀ x ∈ p0, x.block < W.heap.size := by obtain ⟨m, hm⟩ := h0; exact DataW.trod_lt m _ _ _ hm
  have wt0 : ∀ n ∈ d0.weights Try.prog 24, n ≤ reachBytes := fun n hn => by have h9 := List.all_eq_true.1 hwt n (DataW.weights_mem_each (j := 0) (t := 24) (d := d0) (by rw [Try.params7]; rfl) rfl n hn); simpa using h9
  obtain ⟨x0, e0⟩ := open_deep (t := (.st (.prod .u32 (.prod .int (.prod .int (.prod .int (.prod .int (.prod .int .unit)))))))) rfl (by kernel_rfl) (by kernel_rfl) h0 wt0
  have va0 := val_agg (by kernel_rfl) (hval 0 24 v0 rfl rfl)
  have lt1 : ∀ x ∈ p1, x.block < W.heap.size := by obtain ⟨m, hm⟩ := h1; exact DataW.trod_lt m _ _ _ hm
  have wt1 : ∀ n ∈ d1.weights Try.prog 75, n ≤ reachBytes := fun n hn => by have h9 := List.all_eq_true.1 hwt n (DataW.weights_mem_each (j := 1) (t := 75) (d := d1) (by rw [Try.params7]; rfl) rfl n hn); simpa using h9
  obtain ⟨x1, e1⟩ := open_deep (t := (.sl (.st (.prod .byte (.prod (.st (.prod .byte (.prod .int (.prod .int (.prod (.sl .byte) .unit))))) (.prod (.st (.prod .int (.prod .int (.prod .byte (.prod .u32 (.prod (.sl .byte) .unit)))))) (.prod (.sl .int) (.prod (.st (.prod .u32 (.prod .u32 (.prod .int (.prod .int (.prod (.sl (.st (.prod .u32 (.prod .int (.prod .int (.prod .bool (.prod .bool (.prod .bool .unit)))))))) .unit)))))) (.prod .bool (.prod .bool .unit)))))))))) rfl (by kernel_rfl) (by kernel_rfl) h1 wt1
  have e1' := rdin_single e1 (cells_plain (by kernel_rfl) (hval 1 75 v1 rfl rfl))
  clear hA0 hval0
  have hwalk := flightorder_walk W v0.cells.toList x0 e0 v1 x1 e1'
  rw [← va0] at hwalk
  refine hwalk.mono fun e W' ⟨he, bel⟩ => ?_
  subst he
  exact ⟨_, rfl, _, _, _, [], _, [], hW', trodAll_mk1 (shut_bool Try.underlying4 _), (trodAll_cons_mk (Below.trod laidOut (by kernel_rfl) (of_decide_eq_true (by kernel_rfl)) h0 bel lt0) (trodAll_cons_mk (Below.trod laidOut (by kernel_rfl) (of_decide_eq_true (by kernel_rfl)) h1 bel lt1) trodAll_mk0)), rfl, bel.frame _, fun h => by cases h⟩

theorem over : Rows.flightOrderRow.holds Try.pinned (OpenSpec.ofChange Rows.flightOrderSpec) :=
  OpenClaim.holds_of_wide 7 Try.f7 rfl rfl rfl rfl rfl rfl rfl ⟨rfl, rfl, rfl, rfl, rfl⟩ rfl rfl rfl rfl rfl (by kernel_rfl) Try.func7 (by kernel_rfl)
    (of_decide_eq_true (by kernel_rfl)) (by unfold Func.isWrapper; first | (rw [if_pos (by decide +kernel)]; kernel_rfl) | (rw [if_neg (by decide +kernel)]; exact ⟨rfl, rfl⟩))
    (fun os started H enc _ => lifted os started H enc)

/-- The statement. -/
theorem proved : Rows.FlightOrderSaid := over
#print axioms proved
end Go.Proofs.Ythapabjlhooglaa.flightOrder
