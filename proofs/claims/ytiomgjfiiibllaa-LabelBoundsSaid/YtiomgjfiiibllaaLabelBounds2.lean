/- Layer 9 (label): what is refused: the statement, whatever comes in. -/
import Derived.Test.YtiomgjfiiibllaaLabelBounds
namespace Go.Proofs.Ytiomgjfiiibllaa
open Go Go.RowKit
set_option linter.unusedSimpArgs false
set_option linter.unusedVariables false

theorem lbounds_all (id ev : Nat) (m c r l me lost dn a1 a2 a3 : Int) (op : Bool) (w : World) : Calls Try.prog 9 #[.agg #[.int .u32 (id : Int), .int .u32 (ev : Int), .int .i64 m, .int .i64 c, .int .i64 r, .int .i64 l, .int .i64 me, .int .i64 lost, .int .i64 dn, .bool op], .int .i64 a1, .int .i64 a2, .int .i64 a3] w fun e w' => e = .returned (.bool true) ∧ Below w.heap.size w w' := by
  by_cases hok : (Lab.mk id ev m c r l 0 (-1) 0 op).Ok
  · have hk := hok
    obtain ⟨hc, k1, k2, k3, k4, k5, k6, k7, k8⟩ := hk
    have hcr := Cfg.cr hc
    have hb := Cfg.bounds hc
    unfold Lab.cfg at hcr hb
    dsimp only at *
    have e1 : ∀ a : Int, (Lab.mk id ev m c r l a (-1) 0 op).Ok ↔ 0 ≤ a ∧ a < m := by
      intro a
      constructor
      · rintro ⟨_, _, h2, h3, _⟩; exact ⟨h2, h3⟩
      · rintro ⟨h2, h3⟩; exact ⟨hc, k1, h2, h3, k4, k5, k6, by show (-1 : Int) < m; omega, k8⟩
    have e2 : ∀ a : Int, (Lab.mk id ev m c r l 0 a 0 op).Ok ↔ -1 ≤ a ∧ a < m := by
      intro a
      constructor
      · rintro ⟨_, _, _, _, _, _, h2, h3, _⟩; exact ⟨h2, h3⟩
      · rintro ⟨h2, h3⟩; exact ⟨hc, k1, k2, k3, k4, k5, h2, h3, fun _ => rfl⟩
    have e3 : ∀ a : Int, (Lab.mk id ev m c r l 0 0 a op).Ok ↔ 0 ≤ a ∧ a ≤ c * r := by
      intro a
      constructor
      · rintro ⟨_, _, _, _, h2, h3, _⟩; exact ⟨h2, h3⟩
      · rintro ⟨h2, h3⟩; exact ⟨hc, k1, k2, k3, h2, h3, by show (-1 : Int) ≤ 0; omega, by show (0 : Int) < m; omega, fun h => absurd h (by show ¬ (0 : Int) = -1; omega)⟩
    have pick : ∀ (x : Lab), ∃ (z : Int) (b : Bool), (∀ W, Calls Try.prog 12 #[.agg x.cells] W fun e w' => e = .returned (.int .i64 z) ∧ Below W.heap.size W w') ∧ (z == 0) = b ∧ (b = true ↔ x.Ok) := by
      intro x
      by_cases h : x.Ok
      · exact ⟨0, true, lcheck_ok x h, rfl, by simp [h]⟩
      · exact ⟨8, false, lcheck_bad x h, rfl, by simp [h]⟩
    obtain ⟨cx, bx, p1, p2, p3⟩ := pick (Lab.mk id ev m c r l a1 (-1) 0 op)
    obtain ⟨cy, by', q1, q2, q3⟩ := pick (Lab.mk id ev m c r l 0 a2 0 op)
    obtain ⟨cz, bz, r1, r2, r3⟩ := pick (Lab.mk id ev m c r l 0 0 a3 op)
    have p4 := p3.trans (e1 a1)
    have q4 := q3.trans (e2 a2)
    have r4 := r3.trans (e3 a3)
    have three : ∀ (p q : Prop) [Decidable p] [Decidable q] (b : Bool), (b = true ↔ p ∧ q) → (decide p = true ∧ decide q = true ∧ b = true) ∨ (decide p = false ∧ b = false) ∨ (decide p = true ∧ decide q = false ∧ b = false) := by
      intro p q _ _ b h
      by_cases hp : p <;> by_cases hq : q <;> cases b <;> simp_all
    have p0 := lcheck_ok _ hok
    unfold Lab.cells at p0 p1 q1 r1
    dsimp only at p0 p1 q1 r1
    have hw : IntKind.i64.wrap (c * r) = c * r := i64_fit (by omega)
    have s1 := three _ _ _ p4
    have s2 := three _ _ _ q4
    have s3 := three _ _ _ r4
    exact lbounds_ok id ev m c r l me lost dn a1 a2 a3 op cx cy cz bx by' bz p0 p1 q1 r1 p2 q2 r2 s1 s2 s3 hw w
  · have p0 := lcheck_bad _ hok
    unfold Lab.cells at p0
    dsimp only at p0
    exact lbounds_bad id ev m c r l me lost dn a1 a2 a3 op p0 w

theorem labelBounds_walk (w : World) (cs : List Value) (x : (Ty.st (.prod .u32 (.prod .u32 (.prod .int (.prod .int (.prod .int (.prod .int (.prod .int (.prod .int (.prod .int (.prod .bool .unit))))))))))).T) (h0 : Reads w (Ty.st (.prod .u32 (.prod .u32 (.prod .int (.prod .int (.prod .int (.prod .int (.prod .int (.prod .int (.prod .int (.prod .bool .unit))))))))))) x cs) (v1 : Value) (a1 : Ty.int.T) (h1 : Reads w .int a1 [v1]) (v2 : Value) (a2 : Ty.int.T) (h2 : Reads w .int a2 [v2]) (v3 : Value) (a3 : Ty.int.T) (h3 : Reads w .int a3 [v3]) :
    Calls Try.prog 9 #[.agg cs.toArray, v1, v2, v3] w fun e w' => e = .returned (.bool true) ∧ Below w.heap.size w w' := by
  obtain ⟨x, hx, _, _⟩ := lab_open h0
  obtain ⟨rfl, _⟩ := one_int h1
  obtain ⟨rfl, _⟩ := one_int h2
  obtain ⟨rfl, _⟩ := one_int h3
  rw [hx]
  exact lbounds_all x.id x.ev x.m x.c x.r x.l x.me x.lost x.dn a1 a2 a3 x.op w
end Go.Proofs.Ytiomgjfiiibllaa
