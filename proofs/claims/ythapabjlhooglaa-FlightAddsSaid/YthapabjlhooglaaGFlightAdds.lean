/- FlightAdds: for every input the call returns true, and each argument reads afterwards as it read before. No condition but the form's own. -/
import Derived.Test.YthapabjlhooglaaZFlightAdds8
import Derived.Test.YthapabjlhooglaaRows
import Derived.SizedLaws
import Derived.WalkKit
import Derived.ProofKit
import Derived.OpenShut
import Derived.ShutString
import Derived.ChangeOld
import Derived.Below
namespace Go.Proofs.Ythapabjlhooglaa.flightAdds
open Go.ChangeShapes Go.WideShapes Go.ChangeAt Go.RowKit
set_option linter.unusedVariables false

theorem own : ownKnob Try.prog.godebug = none := by kernel_rfl
theorem laidOut : laidOutB Try.prog = true := by kernel_rfl

set_option maxRecDepth 100000 in
theorem lifted (os : Os) (started : os.Started) (H : Type) (enc : TypeId × Value → H) :
    ReturnsInHanded {} Try.checked os 3 .any (Rows.flightAddsSpec.pre6 enc Try.prog Try.f3 Rows.flightAddsRow.domain false) (Rows.flightAddsSpec.post enc Try.prog Try.f3 false true false false) := by
  refine returnsInHanded_of_change_sized (C := Try.checked) own started (by kernel_rfl) Try.func3
    (ChangeSpec.witness6 (enc := enc) (C := Try.checked) false ⟨#[], #[.agg #[.int .u32 0, .int .i64 0, .int .i64 0, .int .i64 0, .int .i64 0, .int .i64 0], .slice none 0 0, .slice none 0 0, .int .i64 0, .agg #[.int .u8 0, .int .i64 0, .int .i64 0, .slice none 0 0], .agg #[.int .i64 0, .int .i64 0, .int .u8 0, .int .u32 0, .slice none 0 0]], []⟩ 8 (by kernel_rfl) (by kernel_rfl) (by kernel_rfl) (by kernel_rfl)) ?_
  intro W base args ds gs before hval0 hW hcnd hwt _
  have hval : ∀ (j : Nat) t v, Try.f3.params[j]? = some t → args[j]? = some v → Value.okWide Try.prog W .any base t v := hval0
  have hW' := hW
  obtain ⟨p, q, hA0, hV, rfl, hfz, hnd⟩ := hW
  have hA : DataW.TrodAll enc Try.prog W 0 (fun _ => true) true Try.f3.params.toList args.toList ds p := hA0
  rw [Try.params3] at hA hval
  obtain ⟨v0, vs0, d0, ds0, p0, q0, hargs, rfl, rfl, h0, r0⟩ := trodAll_cons hA
  obtain ⟨v1, vs1, d1, ds1, p1, q1, rfl, rfl, rfl, h1, r1⟩ := trodAll_cons r0
  obtain ⟨v2, vs2, d2, ds2, p2, q2, rfl, rfl, rfl, h2, r2⟩ := trodAll_cons r1
  obtain ⟨v3, vs3, d3, ds3, p3, q3, rfl, rfl, rfl, h3, r3⟩ := trodAll_cons r2
  obtain ⟨v4, vs4, d4, ds4, p4, q4, rfl, rfl, rfl, h4, r4⟩ := trodAll_cons r3
  obtain ⟨v5, vs5, d5, ds5, p5, q5, rfl, rfl, rfl, h5, r5⟩ := trodAll_cons r4
  obtain ⟨rfl, rfl, rfl⟩ := trodAll_nil r5
  obtain rfl : args = #[v0, v1, v2, v3, v4, v5] := by cases args; simp_all
  obtain ⟨rfl, rfl⟩ := trodVars_none hV
  have lt0 : ∀ x ∈ p0, x.block < W.heap.size := by obtain ⟨m, hm⟩ := h0; exact DataW.trod_lt m _ _ _ hm
  have wt0 : ∀ n ∈ d0.weights Try.prog 24, n ≤ reachBytes := fun n hn => by have h9 := List.all_eq_true.1 hwt n (DataW.weights_mem_each (j := 0) (t := 24) (d := d0) (by rw [Try.params3]; rfl) rfl n hn); simpa using h9
  obtain ⟨x0, e0⟩ := open_deep (t := (.st (.prod .u32 (.prod .int (.prod .int (.prod .int (.prod .int (.prod .int .unit)))))))) rfl (by kernel_rfl) (by kernel_rfl) h0 wt0
  have va0 := val_agg (by kernel_rfl) (hval 0 24 v0 rfl rfl)
  have lt1 : ∀ x ∈ p1, x.block < W.heap.size := by obtain ⟨m, hm⟩ := h1; exact DataW.trod_lt m _ _ _ hm
  have wt1 : ∀ n ∈ d1.weights Try.prog 25, n ≤ reachBytes := fun n hn => by have h9 := List.all_eq_true.1 hwt n (DataW.weights_mem_each (j := 1) (t := 25) (d := d1) (by rw [Try.params3]; rfl) rfl n hn); simpa using h9
  obtain ⟨x1, e1⟩ := open_deep (t := (.sl (.st (.prod .int (.prod (.st (.prod .byte (.prod .int (.prod .int (.prod (.sl .byte) .unit))))) (.prod (.sl .byte) (.prod (.sl .u32) (.prod (.sl (.sl .byte)) .unit)))))))) rfl (by kernel_rfl) (by kernel_rfl) h1 wt1
  have e1' := rdin_single e1 (cells_plain (by kernel_rfl) (hval 1 25 v1 rfl rfl))
  have lt2 : ∀ x ∈ p2, x.block < W.heap.size := by obtain ⟨m, hm⟩ := h2; exact DataW.trod_lt m _ _ _ hm
  have wt2 : ∀ n ∈ d2.weights Try.prog 25, n ≤ reachBytes := fun n hn => by have h9 := List.all_eq_true.1 hwt n (DataW.weights_mem_each (j := 2) (t := 25) (d := d2) (by rw [Try.params3]; rfl) rfl n hn); simpa using h9
  obtain ⟨x2, e2⟩ := open_deep (t := (.sl (.st (.prod .int (.prod (.st (.prod .byte (.prod .int (.prod .int (.prod (.sl .byte) .unit))))) (.prod (.sl .byte) (.prod (.sl .u32) (.prod (.sl (.sl .byte)) .unit)))))))) rfl (by kernel_rfl) (by kernel_rfl) h2 wt2
  have e2' := rdin_single e2 (cells_plain (by kernel_rfl) (hval 2 25 v2 rfl rfl))
  have lt3 : ∀ x ∈ p3, x.block < W.heap.size := by obtain ⟨m, hm⟩ := h3; exact DataW.trod_lt m _ _ _ hm
  have wt3 : ∀ n ∈ d3.weights Try.prog 3, n ≤ reachBytes := fun n hn => by have h9 := List.all_eq_true.1 hwt n (DataW.weights_mem_each (j := 3) (t := 3) (d := d3) (by rw [Try.params3]; rfl) rfl n hn); simpa using h9
  obtain ⟨x3, e3⟩ := open_deep (t := .int) rfl (by kernel_rfl) (by kernel_rfl) h3 wt3
  have e3' := rdin_single e3 (cells_plain (by kernel_rfl) (hval 3 3 v3 rfl rfl))
  have lt4 : ∀ x ∈ p4, x.block < W.heap.size := by obtain ⟨m, hm⟩ := h4; exact DataW.trod_lt m _ _ _ hm
  have wt4 : ∀ n ∈ d4.weights Try.prog 28, n ≤ reachBytes := fun n hn => by have h9 := List.all_eq_true.1 hwt n (DataW.weights_mem_each (j := 4) (t := 28) (d := d4) (by rw [Try.params3]; rfl) rfl n hn); simpa using h9
  obtain ⟨x4, e4⟩ := open_deep (t := (.st (.prod .byte (.prod .int (.prod .int (.prod (.sl .byte) .unit)))))) rfl (by kernel_rfl) (by kernel_rfl) h4 wt4
  have va4 := val_agg (by kernel_rfl) (hval 4 28 v4 rfl rfl)
  have lt5 : ∀ x ∈ p5, x.block < W.heap.size := by obtain ⟨m, hm⟩ := h5; exact DataW.trod_lt m _ _ _ hm
  have wt5 : ∀ n ∈ d5.weights Try.prog 30, n ≤ reachBytes := fun n hn => by have h9 := List.all_eq_true.1 hwt n (DataW.weights_mem_each (j := 5) (t := 30) (d := d5) (by rw [Try.params3]; rfl) rfl n hn); simpa using h9
  obtain ⟨x5, e5⟩ := open_deep (t := (.st (.prod .int (.prod .int (.prod .byte (.prod .u32 (.prod (.sl .byte) .unit))))))) rfl (by kernel_rfl) (by kernel_rfl) h5 wt5
  have va5 := val_agg (by kernel_rfl) (hval 5 30 v5 rfl rfl)
  clear hA0 hval0
  have hwalk := flightadds_walk W v0.cells.toList x0 e0 v1 x1 e1' v2 x2 e2' v3 x3 e3' v4.cells.toList x4 e4 v5.cells.toList x5 e5
  rw [← va0] at hwalk
  rw [← va4] at hwalk
  rw [← va5] at hwalk
  refine hwalk.mono fun e W' ⟨he, bel⟩ => ?_
  subst he
  exact ⟨_, rfl, _, _, _, [], _, [], hW', trodAll_mk1 (shut_bool Try.underlying4 _), (trodAll_cons_mk (Below.trod laidOut (by kernel_rfl) (of_decide_eq_true (by kernel_rfl)) h0 bel lt0) (trodAll_cons_mk (Below.trod laidOut (by kernel_rfl) (of_decide_eq_true (by kernel_rfl)) h1 bel lt1) (trodAll_cons_mk (Below.trod laidOut (by kernel_rfl) (of_decide_eq_true (by kernel_rfl)) h2 bel lt2) (trodAll_cons_mk (Below.trod laidOut (by kernel_rfl) (of_decide_eq_true (by kernel_rfl)) h3 bel lt3) (trodAll_cons_mk (Below.trod laidOut (by kernel_rfl) (of_decide_eq_true (by kernel_rfl)) h4 bel lt4) (trodAll_cons_mk (Below.trod laidOut (by kernel_rfl) (of_decide_eq_true (by kernel_rfl)) h5 bel lt5) trodAll_mk0)))))), rfl, bel.frame _, fun h => by cases h⟩

theorem over : Rows.flightAddsRow.holds Try.pinned (OpenSpec.ofChange Rows.flightAddsSpec) :=
  OpenClaim.holds_of_wide 3 Try.f3 rfl rfl rfl rfl rfl rfl rfl ⟨rfl, rfl, rfl, rfl, rfl⟩ rfl rfl rfl rfl rfl (by kernel_rfl) Try.func3 (by kernel_rfl)
    (of_decide_eq_true (by kernel_rfl)) (by unfold Func.isWrapper; first | (rw [if_pos (by decide +kernel)]; kernel_rfl) | (rw [if_neg (by decide +kernel)]; exact ⟨rfl, rfl⟩))
    (fun os started H enc _ => lifted os started H enc)

/-- The statement. -/
theorem proved : Rows.FlightAddsSaid := over
#print axioms proved
end Go.Proofs.Ythapabjlhooglaa.flightAdds
