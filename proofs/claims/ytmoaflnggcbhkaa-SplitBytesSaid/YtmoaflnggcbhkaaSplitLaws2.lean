/- Layer 8 (split): what each kind may be: the statement. -/
import Derived.Test.YtmoaflnggcbhkaaSplitLaws
import Derived.Test.YtmoaflnggcbhkaaData
namespace Go.Proofs.Ytmoaflnggcbhkaa
open Go.RowKit
set_option linter.unusedSimpArgs false
set_option linter.unusedVariables false

theorem cfg_open {w : World} {cs : List Value} {y : (Ty.st (.prod .u32 (.prod .int (.prod .int (.prod .int (.prod .int (.prod .int .unit))))))).T} (h : Reads w (Ty.st (.prod .u32 (.prod .int (.prod .int (.prod .int (.prod .int (.prod .int .unit))))))) y cs) :
    ∃ x : Cfg, Value.agg cs.toArray = x.val ∧ x.id < 2 ^ 32 ∧ IsInt x.m ∧ IsInt x.c ∧ IsInt x.r ∧ IsInt x.l ∧ IsInt x.h := by
  obtain ⟨id, m, c, r, l, h', u⟩ := y
  obtain ⟨c0, d0, rfl, r0, h⟩ := reads_prod.1 (reads_st.1 h)
  obtain ⟨c1, d1, rfl, r1, h⟩ := reads_prod.1 h
  obtain ⟨c2, d2, rfl, r2, h⟩ := reads_prod.1 h
  obtain ⟨c3, d3, rfl, r3, h⟩ := reads_prod.1 h
  obtain ⟨c4, d4, rfl, r4, h⟩ := reads_prod.1 h
  obtain ⟨c5, d5, rfl, r5, h⟩ := reads_prod.1 h
  obtain rfl := reads_unit.1 h
  obtain ⟨rfl, i0⟩ := reads_u32.1 r0
  obtain ⟨rfl, i1⟩ := reads_int.1 r1
  obtain ⟨rfl, i2⟩ := reads_int.1 r2
  obtain ⟨rfl, i3⟩ := reads_int.1 r3
  obtain ⟨rfl, i4⟩ := reads_int.1 r4
  obtain ⟨rfl, i5⟩ := reads_int.1 r5
  exact ⟨⟨id, m, c, r, l, h'⟩, rfl, i0, i1, i2, i3, i4, i5⟩

theorem n8 : ((8 : Int) != 0) = true := by decide
theorem n2 : ((2 : Int) != 0) = true := by decide

theorem kinds_all (x : Cfg) (k a y : Int) (w : World) : Calls Try.prog 3 #[x.val, .int .u8 k, .int .i64 a, .int .i64 y] w fun e w' => e = .returned (.bool true) ∧ Below w.heap.size w w' := by
  by_cases hy : 0 ≤ y ∧ y ≤ 8
  · by_cases hx : x.Ok
    · have hcr := Cfg.crm hx
      have hok := fun (hp : Placed (x.c * x.r * (x.m - 1)) k a y) (A : Option Addr) (n q : Nat) (hn : (n : Int) = kWant k y) W => scheck_ok x hx k a y A n q hp hn W
      have hno := fun (hp : ¬ Placed (x.c * x.r * (x.m - 1)) k a y) (A : Option Addr) (n q : Nat) (_ : (n : Int) = kWant k y) W => scheck_arg x hx k a y A n q hp W
      by_cases hk : 1 ≤ k ∧ k ≤ 6
      · by_cases h46 : k = 4 ∨ k = 6
        · have hm : kMost k = 0 := kMost_0 (by omega)
          have hi : kIs k = true := decide_eq_true hk
          have hpl : Placed (x.c * x.r * (x.m - 1)) k a y ↔ (a = 0 ∧ y = 0) := by
            unfold Placed; rw [hm, hi]; simp
          have e1 : ∀ v : Int, v ≠ 0 → (v == 0) = false := fun v h => beq_eq_false_iff_ne.2 h
          have e2 : ∀ v : Int, v = 0 → (v == 0) = true := fun v h => beq_iff_eq.2 h
          rcases h46 with h4 | h6
          · have g4 : (k == 4) = true := beq_iff_eq.2 h4
            rcases (show a < 0 ∨ (0 ≤ a ∧ y < 1 ∧ a ≠ 0) ∨ (0 ≤ a ∧ y < 1 ∧ a = 0) ∨ (0 ≤ a ∧ 1 ≤ y ∧ a ≠ 0) ∨ (0 ≤ a ∧ 1 ≤ y ∧ a = 0) by omega) with h | ⟨h1, h2, h3⟩ | ⟨h1, h2, h3⟩ | ⟨h1, h2, h3⟩ | ⟨h1, h2, h3⟩
            · exact kinds_w41 x hx k a y 2 hy (hno (fun hp => by have := hpl.1 hp; omega)) hk g4 h (e1 a (by omega)) rfl w
            · exact kinds_w42 x hx k a y 2 hy (hno (fun hp => by have := hpl.1 hp; omega)) hk g4 h1 h2 (e1 a h3) rfl w
            · exact kinds_w43 x hx k a y 0 hy (hok (hpl.2 (by omega))) hk g4 h1 h2 (e2 a h3) (e2 y (by omega)) rfl w
            · exact kinds_w44 x hx k a y 2 hy (hno (fun hp => by have := hpl.1 hp; omega)) hk g4 h1 h2 (by omega) (e1 a h3) rfl w
            · exact kinds_w45 x hx k a y 2 hy (hno (fun hp => by have := hpl.1 hp; omega)) hk g4 h1 h2 (by omega) (e2 a h3) (e1 y (by omega)) rfl w
          · have g4 : (k == 4) = false := beq_eq_false_iff_ne.2 (by omega)
            have g6 : (k == 6) = true := beq_iff_eq.2 h6
            rcases (show a < 0 ∨ (0 ≤ a ∧ y < 1 ∧ a ≠ 0) ∨ (0 ≤ a ∧ y < 1 ∧ a = 0) ∨ (0 ≤ a ∧ 1 ≤ y ∧ a ≠ 0) ∨ (0 ≤ a ∧ 1 ≤ y ∧ a = 0) by omega) with h | ⟨h1, h2, h3⟩ | ⟨h1, h2, h3⟩ | ⟨h1, h2, h3⟩ | ⟨h1, h2, h3⟩
            · exact kinds_w61 x hx k a y 2 hy (hno (fun hp => by have := hpl.1 hp; omega)) hk g4 g6 h (e1 a (by omega)) rfl w
            · exact kinds_w62 x hx k a y 2 hy (hno (fun hp => by have := hpl.1 hp; omega)) hk g4 g6 h1 h2 (e1 a h3) rfl w
            · exact kinds_w63 x hx k a y 0 hy (hok (hpl.2 (by omega))) hk g4 g6 h1 h2 (e2 a h3) (e2 y (by omega)) rfl w
            · exact kinds_w64 x hx k a y 2 hy (hno (fun hp => by have := hpl.1 hp; omega)) hk g4 g6 h1 h2 (by omega) (e1 a h3) rfl w
            · exact kinds_w65 x hx k a y 2 hy (hno (fun hp => by have := hpl.1 hp; omega)) hk g4 g6 h1 h2 (by omega) (e2 a h3) (e1 y (by omega)) rfl w
        · have hm : kMost k = 8 := kMost_8 (by omega)
          have g4 : (k == 4) = false := beq_eq_false_iff_ne.2 (by omega)
          have g6 : (k == 6) = false := beq_eq_false_iff_ne.2 (by omega)
          have hpl : Placed (x.c * x.r * (x.m - 1)) k a y ↔ (1 ≤ y ∧ y ≤ 8 ∧ 0 ≤ a ∧ a ≤ x.c * x.r * (x.m - 1) - y) := by
            unfold Placed; rw [hm]; simp
          rcases (show a < 0 ∨ (0 ≤ a ∧ y < 1) ∨ (0 ≤ a ∧ 1 ≤ y ∧ a ≤ x.c * x.r * (x.m - 1) - y) ∨ (0 ≤ a ∧ 1 ≤ y ∧ x.c * x.r * (x.m - 1) - y < a) by omega) with h | ⟨h1, h2⟩ | ⟨h1, h2, h3⟩ | ⟨h1, h2, h3⟩
          · exact kinds_d1 x hx k a y 2 hy (hno (fun hp => by have := hpl.1 hp; omega)) hk g4 g6 h rfl w
          · exact kinds_d2 x hx k a y 2 hy (hno (fun hp => by have := hpl.1 hp; omega)) hk g4 g6 h1 h2 rfl w
          · exact kinds_d3 x hx k a y 0 hy (hok (hpl.2 (by omega))) hk g4 g6 h1 h2 h3 rfl w
          · exact kinds_d4 x hx k a y 2 hy (hno (fun hp => by have := hpl.1 hp; omega)) hk g4 g6 h1 h2 h3 rfl w
      · have hm : kMost k = 0 := kMost_0 (by omega)
        have hi : kIs k = false := decide_eq_false hk
        have hpl : ¬ Placed (x.c * x.r * (x.m - 1)) k a y := by
          unfold Placed; rw [hm, hi]; simp
        exact kinds_none x hx k a y 2 hy (hno hpl) (by omega) rfl w
    · exact kinds_bad x hx k a y hy w
  · have hy' : y < 0 ∨ (0 ≤ y ∧ 8 < y) := by omega
    by_cases hx : x.Ok
    · refine kinds_far x _ _ 2 k a y n2 hy' (blocks_ok x hx) (fun W => scheck_arg x hx k a y none 0 0 (fun hp => ?_) W) w
      unfold Placed at hp
      omega
    · exact kinds_far x _ _ 8 k a y n8 hy' (blocks_bad x hx) (fun W => scheck_bad x hx k a y none 0 0 W) w

theorem splitKinds_walk (w : World) (cs : List Value) (y : (Ty.st (.prod .u32 (.prod .int (.prod .int (.prod .int (.prod .int (.prod .int .unit))))))).T) (h0 : Reads w (Ty.st (.prod .u32 (.prod .int (.prod .int (.prod .int (.prod .int (.prod .int .unit))))))) y cs) (v1 : Value) (b : Ty.byte.T) (h1 : Reads w .byte b [v1]) (v2 : Value) (s : Ty.int.T) (h2 : Reads w .int s [v2]) (v3 : Value) (o : Ty.int.T) (h3 : Reads w .int o [v3]) :
    Calls Try.prog 3 #[.agg cs.toArray, v1, v2, v3] w fun e w' => e = .returned (.bool true) ∧ Below w.heap.size w w' := by
  obtain ⟨x, hx, _⟩ := cfg_open h0
  rw [hx]
  obtain rfl := one_byte h1
  obtain ⟨rfl, _⟩ := one_int h2
  obtain ⟨rfl, _⟩ := one_int h3
  exact kinds_all x _ _ _ w
end Go.Proofs.Ytmoaflnggcbhkaa
