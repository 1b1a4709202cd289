/- Layer 9 (label): what is written is read, what is read is written: the statement. -/
import Derived.Test.YtiomgjfiiibllaaLabelLaws
namespace Go.Proofs.Ytiomgjfiiibllaa
open Go Go.RowKit
set_option linter.unusedSimpArgs false
set_option linter.unusedVariables false

set_option maxRecDepth 100000 in
theorem lback_long (id ev : Nat) (m c r l me lost dn : Int) (op : Bool) (A : Option Addr) (n q : Nat) (hn : 1000 < n) (w : World) : Calls Try.prog 6 #[.agg #[.int .u32 (id : Int), .int .u32 (ev : Int), .int .i64 m, .int .i64 c, .int .i64 r, .int .i64 l, .int .i64 me, .int .i64 lost, .int .i64 dn, .bool op], .slice A n q] w fun e w' => e = .returned (.bool true) ∧ Below w.heap.size w w' := by
  have hi1 : decide (1000 < (n : Int)) = true := decide_eq_true (by omega)
  go_enter Try.func6, Try.ntmps6
  go_wp2_with fail
  have t0 := Ext.alloc (Below.refl w.heap.size w) (.cells #[.int .u32 (id : Int), .int .u32 (ev : Int), .int .i64 m, .int .i64 c, .int .i64 r, .int .i64 l, .int .i64 me, .int .i64 lost, .int .i64 dn, .bool op] 24)
  refine (lalive_any _).mono ?_
  rintro e w1 ⟨rfl, b1⟩
  have t1 := Ext.trans t0 b1
  clear t0 b1
  go_wp2
  go_ret
  exact ⟨rfl, t1⟩

/-- what is read of some bytes: none, or a label, which is written as just these -/
def LBack (A : Option Addr) (n q : Nat) (bs : List UInt8) : Prop :=
  (∃ C : Int, (C != 0) = true ∧ ∀ W, Bs W A n bs → Calls Try.prog 15 #[.slice A n q] W fun e w' => e = .returned (.tuple #[.agg #[.int .u32 0, .int .u32 0, .int .i64 0, .int .i64 0, .int .i64 0, .int .i64 0, .int .i64 0, .int .i64 0, .int .i64 0, .bool false], .int .i64 C]) ∧ Below W.heap.size W w') ∨
  ∃ (id' ev' : Nat) (m' c' r' l' me' lost' dn' : Int) (op' : Bool), (∀ W, Bs W A n bs → Calls Try.prog 15 #[.slice A n q] W fun e w' => e = .returned (.tuple #[.agg #[.int .u32 (id' : Int), .int .u32 (ev' : Int), .int .i64 m', .int .i64 c', .int .i64 r', .int .i64 l', .int .i64 me', .int .i64 lost', .int .i64 dn', .bool op'], .int .i64 0]) ∧ Below W.heap.size W w') ∧
    ∀ W, Calls Try.prog 10 #[.agg #[.int .u32 (id' : Int), .int .u32 (ev' : Int), .int .i64 m', .int .i64 c', .int .i64 r', .int .i64 l', .int .i64 me', .int .i64 lost', .int .i64 dn', .bool op']] W fun e w' => ∃ P k c, e = .returned (.tuple #[.slice P k c, .int .i64 0]) ∧ Bs w' P k bs ∧ Below W.heap.size W w'

set_option maxRecDepth 100000 in
set_option maxHeartbeats 2000000 in
theorem lback_bad (id ev : Nat) (m c r l me lost dn : Int) (op : Bool) (A : Option Addr) (n q : Nat) (bs : List UInt8) (hn : n ≤ 1000)
    (h1 : ∀ W, Calls Try.prog 10 #[.agg #[.int .u32 (id : Int), .int .u32 (ev : Int), .int .i64 m, .int .i64 c, .int .i64 r, .int .i64 l, .int .i64 me, .int .i64 lost, .int .i64 dn, .bool op]] W fun e w' => ∃ P k c, e = .returned (.tuple #[.slice P k c, .int .i64 8]) ∧ Bs w' P k [] ∧ Below W.heap.size W w')
    (hr : LBack A n q bs) (w : World) (hb : Bs w A n bs) : Calls Try.prog 6 #[.agg #[.int .u32 (id : Int), .int .u32 (ev : Int), .int .i64 m, .int .i64 c, .int .i64 r, .int .i64 l, .int .i64 me, .int .i64 lost, .int .i64 dn, .bool op], .slice A n q] w fun e w' => e = .returned (.bool true) ∧ Below w.heap.size w w' := by
  have HW := Lib.hid h1
  have HR : Hid ((∃ C : Int, (C != 0) = true ∧ _) ∨ _) := Lib.hid hr
  clear h1 hr
  have hi1 : decide (1000 < (n : Int)) = false := decide_eq_false (by omega)
  have hi2 : decide (1000 < n) = false := decide_eq_false (by omega)
  go_enter Try.func6, Try.ntmps6
  go_wp2_with fail
  have A0 := BoxOf.new w #[.int .u32 (id : Int), .int .u32 (ev : Int), .int .i64 m, .int .i64 c, .int .i64 r, .int .i64 l, .int .i64 me, .int .i64 lost, .int .i64 dn, .bool op] 24
  have t0 := Ext.alloc (Below.refl w.heap.size w) (.cells #[.int .u32 (id : Int), .int .u32 (ev : Int), .int .i64 m, .int .i64 c, .int .i64 r, .int .i64 l, .int .i64 me, .int .i64 lost, .int .i64 dn, .bool op] 24)
  refine (lalive_any _).mono ?_
  rintro e w1 ⟨rfl, b1⟩
  have A1 := A0.next b1
  have t1 := Ext.trans t0 b1
  have x1 := A1.cell
  clear A0 t0 b1
  go_wp2_with fail
  refine (HW.out _).mono ?_
  rintro e w2 ⟨P, k, ca, rfl, hp, b2⟩
  have A2 := A1.next b2
  have t2 := Ext.trans t1 b2
  have x2 := A2.cell
  clear A1 t1 b2 x1
  have hk : k = 0 := by have := hp.1; simpa using this.symm
  subst hk
  have t4 := t2
  clear t2 A2 x2 hp
  go_wp2_with fail
  rcases HR.out with hz | ⟨id', ev', m', c', r', l', me', lost', dn', op', C1, C2⟩
  · obtain ⟨C, hC, hcall⟩ := hz
    refine (hcall _ (hb.below t4)).mono ?_
    rintro e w5 ⟨rfl, b5⟩
    have Z5 := BoxOf.new w5 #[.int .u32 0, .int .u32 0, .int .i64 0, .int .i64 0, .int .i64 0, .int .i64 0, .int .i64 0, .int .i64 0, .int .i64 0, .bool false] 24
    have z5 := Z5.cell
    have t5 := Ext.alloc (Ext.trans t4 b5) (.cells #[.int .u32 0, .int .u32 0, .int .i64 0, .int .i64 0, .int .i64 0, .int .i64 0, .int .i64 0, .int .i64 0, .int .i64 0, .bool false] 24)
    clear t4 b5 hcall Z5 HR
    go_wp2
    go_ret
    exact ⟨rfl, t5⟩
  · refine (C1 _ (hb.below t4)).mono ?_
    rintro e w5 ⟨rfl, b5⟩
    have Z5 := BoxOf.new w5 #[.int .u32 (id' : Int), .int .u32 (ev' : Int), .int .i64 m', .int .i64 c', .int .i64 r', .int .i64 l', .int .i64 me', .int .i64 lost', .int .i64 dn', .bool op'] 24
    have z5 := Z5.cell
    have t5 := Ext.alloc (Ext.trans t4 b5) (.cells #[.int .u32 (id' : Int), .int .u32 (ev' : Int), .int .i64 m', .int .i64 c', .int .i64 r', .int .i64 l', .int .i64 me', .int .i64 lost', .int .i64 dn', .bool op'] 24)
    have HC2 := Lib.hid C2
    clear t4 b5 Z5 HR C1 C2
    go_wp2_with fail
    refine (HC2.out _).mono ?_
    rintro e w6 ⟨P6, k6, c6, rfl, hp6, b6⟩
    have t6 := Ext.trans t5 b6
    have s1 := run_string_bs (P := Try.prog) c6 25 9 5 Try.underlying25 Try.underlying5 Try.underlying9 hp6
    have s2 := run_string_bs (P := Try.prog) q 25 9 5 Try.underlying25 Try.underlying5 Try.underlying9 (hb.below t6)
    clear t5 b6 hp6 z5
    go_wp2
    go_ret
    exact ⟨rfl, t6⟩

set_option maxRecDepth 100000 in
set_option maxHeartbeats 2000000 in
theorem lback_ok (id ev : Nat) (m c r l me lost dn : Int) (op : Bool) (A : Option Addr) (n q : Nat) (bs : List UInt8) (hn : n ≤ 1000) (ws : List UInt8) (hws : ws.length = 128)
    (h1 : ∀ W, Calls Try.prog 10 #[.agg #[.int .u32 (id : Int), .int .u32 (ev : Int), .int .i64 m, .int .i64 c, .int .i64 r, .int .i64 l, .int .i64 me, .int .i64 lost, .int .i64 dn, .bool op]] W fun e w' => ∃ P k c, e = .returned (.tuple #[.slice P k c, .int .i64 0]) ∧ Bs w' P k ws ∧ Below W.heap.size W w')
    (h2 : ∀ A n q W, Bs W A n ws → Calls Try.prog 15 #[.slice A n q] W fun e w' => e = .returned (.tuple #[.agg #[.int .u32 (id : Int), .int .u32 (ev : Int), .int .i64 m, .int .i64 c, .int .i64 r, .int .i64 l, .int .i64 me, .int .i64 lost, .int .i64 dn, .bool op], .int .i64 0]) ∧ Below W.heap.size W w')
    (hr : LBack A n q bs) (w : World) (hb : Bs w A n bs) : Calls Try.prog 6 #[.agg #[.int .u32 (id : Int), .int .u32 (ev : Int), .int .i64 m, .int .i64 c, .int .i64 r, .int .i64 l, .int .i64 me, .int .i64 lost, .int .i64 dn, .bool op], .slice A n q] w fun e w' => e = .returned (.bool true) ∧ Below w.heap.size w w' := by
  have HW := Lib.hid h1
  have HO := Lib.hid h2
  have HR : Hid ((∃ C : Int, (C != 0) = true ∧ _) ∨ _) := Lib.hid hr
  clear h1 h2 hr
  have hi1 : decide (1000 < (n : Int)) = false := decide_eq_false (by omega)
  have hi2 : decide (1000 < n) = false := decide_eq_false (by omega)
  go_enter Try.func6, Try.ntmps6
  go_wp2_with fail
  have A0 := BoxOf.new w #[.int .u32 (id : Int), .int .u32 (ev : Int), .int .i64 m, .int .i64 c, .int .i64 r, .int .i64 l, .int .i64 me, .int .i64 lost, .int .i64 dn, .bool op] 24
  have t0 := Ext.alloc (Below.refl w.heap.size w) (.cells #[.int .u32 (id : Int), .int .u32 (ev : Int), .int .i64 m, .int .i64 c, .int .i64 r, .int .i64 l, .int .i64 me, .int .i64 lost, .int .i64 dn, .bool op] 24)
  refine (lalive_any _).mono ?_
  rintro e w1 ⟨rfl, b1⟩
  have A1 := A0.next b1
  have t1 := Ext.trans t0 b1
  have x1 := A1.cell
  clear A0 t0 b1
  go_wp2_with fail
  refine (HW.out _).mono ?_
  rintro e w2 ⟨P, k, ca, rfl, hp, b2⟩
  have A2 := A1.next b2
  have t2 := Ext.trans t1 b2
  have x2 := A2.cell
  clear A1 t1 b2 x1
  have hk : k = 128 := by rw [← hp.1]; exact hws
  subst hk
  go_wp2_with fail
  refine (HO.out _ _ _ _ hp).mono ?_
  rintro e w3 ⟨rfl, b3⟩
  have A3 := (A2.next b3).alloc (.cells #[.int .u32 (id : Int), .int .u32 (ev : Int), .int .i64 m, .int .i64 c, .int .i64 r, .int .i64 l, .int .i64 me, .int .i64 lost, .int .i64 dn, .bool op] 24)
  have D3 := BoxOf.new w3 #[.int .u32 (id : Int), .int .u32 (ev : Int), .int .i64 m, .int .i64 c, .int .i64 r, .int .i64 l, .int .i64 me, .int .i64 lost, .int .i64 dn, .bool op] 24
  have t4 := Ext.alloc (Ext.trans t2 b3) (.cells #[.int .u32 (id : Int), .int .u32 (ev : Int), .int .i64 m, .int .i64 c, .int .i64 r, .int .i64 l, .int .i64 me, .int .i64 lost, .int .i64 dn, .bool op] 24)
  have y3 := A3.cell
  have z3 := D3.cell
  clear A2 t2 b3 hp x2
  go_wp2_with fail
  clear A3 D3 y3 z3
  generalize w3.alloc (.cells #[.int .u32 (id : Int), .int .u32 (ev : Int), .int .i64 m, .int .i64 c, .int .i64 r, .int .i64 l, .int .i64 me, .int .i64 lost, .int .i64 dn, .bool op] 24) = w4 at t4 ⊢
  rcases HR.out with hz | ⟨id', ev', m', c', r', l', me', lost', dn', op', C1, C2⟩
  · obtain ⟨C, hC, hcall⟩ := hz
    refine (hcall _ (hb.below t4)).mono ?_
    rintro e w5 ⟨rfl, b5⟩
    have Z5 := BoxOf.new w5 #[.int .u32 0, .int .u32 0, .int .i64 0, .int .i64 0, .int .i64 0, .int .i64 0, .int .i64 0, .int .i64 0, .int .i64 0, .bool false] 24
    have z5 := Z5.cell
    have t5 := Ext.alloc (Ext.trans t4 b5) (.cells #[.int .u32 0, .int .u32 0, .int .i64 0, .int .i64 0, .int .i64 0, .int .i64 0, .int .i64 0, .int .i64 0, .int .i64 0, .bool false] 24)
    clear t4 b5 hcall Z5 HR
    go_wp2
    go_ret
    exact ⟨rfl, t5⟩
  · refine (C1 _ (hb.below t4)).mono ?_
    rintro e w5 ⟨rfl, b5⟩
    have Z5 := BoxOf.new w5 #[.int .u32 (id' : Int), .int .u32 (ev' : Int), .int .i64 m', .int .i64 c', .int .i64 r', .int .i64 l', .int .i64 me', .int .i64 lost', .int .i64 dn', .bool op'] 24
    have z5 := Z5.cell
    have t5 := Ext.alloc (Ext.trans t4 b5) (.cells #[.int .u32 (id' : Int), .int .u32 (ev' : Int), .int .i64 m', .int .i64 c', .int .i64 r', .int .i64 l', .int .i64 me', .int .i64 lost', .int .i64 dn', .bool op'] 24)
    have HC2 := Lib.hid C2
    clear t4 b5 Z5 HR C1 C2
    go_wp2_with fail
    refine (HC2.out _).mono ?_
    rintro e w6 ⟨P6, k6, c6, rfl, hp6, b6⟩
    have t6 := Ext.trans t5 b6
    have s1 := run_string_bs (P := Try.prog) c6 25 9 5 Try.underlying25 Try.underlying5 Try.underlying9 hp6
    have s2 := run_string_bs (P := Try.prog) q 25 9 5 Try.underlying25 Try.underlying5 Try.underlying9 (hb.below t6)
    clear t5 b6 hp6 z5
    go_wp2
    go_ret
    exact ⟨rfl, t6⟩

theorem lback_any (A : Option Addr) (n q : Nat) (bs : List UInt8) (hlen : bs.length = n) : LBack A n q bs := by
  by_cases hn : n = 0 ∨ n = 128
  · by_cases hr : ∃ id ev m c r l me lo dn op, LabIs bs id ev m c r l me lo dn op
    · obtain ⟨id, ev, m, c, r, l, me, lo, dn, op, h⟩ := hr
      refine .inr ⟨id, ev, m, c, r, l, me, lostI lo, dn, op, fun W hb => lread_yes h A q W hb, fun W => ?_⟩
      refine (lwrite_ok id ev m c r l me lo dn op (lab_id h) h.ok W).mono ?_
      rintro e w' ⟨g, he, _, hB, hbl⟩
      rw [h.bs] at hB
      exact ⟨_, _, _, he, hB.bs, hbl⟩
    · exact .inl ⟨90, rfl, fun W hb => lread_no hn (fun i1 i2 i3 i4 i5 i6 i7 i8 i9 i10 h => hr ⟨i1, i2, i3, i4, i5, i6, i7, i8, i9, i10, h⟩) A q W hb⟩
  · exact .inl ⟨3, rfl, fun W _ => lread_text A n q (by omega) (by omega) W⟩

theorem lback_all (x : Lab) (hx : x.id < 4294967296) (A : Option Addr) (n q : Nat) (bs : List UInt8) (w : World) (hb : Bs w A n bs) :
    Calls Try.prog 6 #[.agg x.cells, .slice A n q] w fun e w' => e = .returned (.bool true) ∧ Below w.heap.size w w' := by
  by_cases hl : n ≤ 1000
  · by_cases h1 : x.Ok
    · obtain ⟨id, ev, m, c, r, l, me, lo, dn, op, rfl, _, _⟩ := lab_nat x h1
      exact lback_ok id ev m c r l me (lostI lo) dn op A n q bs hl (labBlock id ev m c r l me lo dn op) (labBlock_len _ _ _ _ _ _ _ _ _ _)
        (fun W => (lwrite_ok id ev m c r l me lo dn op hx h1 W).mono fun e w' ⟨g, he, _, hB, hbl⟩ => ⟨_, _, _, he, hB.bs, hbl⟩) (fun A n q W hW => lread_own A n q id ev m c r l me lo dn op hx h1 W hW) (lback_any A n q bs hb.1) w hb
    · exact lback_bad x.id x.ev x.m x.c x.r x.l x.me x.lost x.dn x.op A n q bs hl (fun W => (lwrite_bad x h1 W).mono fun e w' ⟨he, hbl⟩ => ⟨_, _, _, he, Bs.nil _ _, hbl⟩) (lback_any A n q bs hb.1) w hb
  · exact lback_long x.id x.ev x.m x.c x.r x.l x.me x.lost x.dn x.op A n q (by omega) w

theorem labelBack_walk (w : World) (cs : List Value) (x : (Ty.st (.prod .u32 (.prod .u32 (.prod .int (.prod .int (.prod .int (.prod .int (.prod .int (.prod .int (.prod .int (.prod .bool .unit))))))))))).T) (h0 : Reads w (Ty.st (.prod .u32 (.prod .u32 (.prod .int (.prod .int (.prod .int (.prod .int (.prod .int (.prod .int (.prod .int (.prod .bool .unit))))))))))) x cs) (v1 : Value) (bs : (Ty.sl .byte).T) (h1 : Reads w (.sl .byte) bs [v1]) :
    Calls Try.prog 6 #[.agg cs.toArray, v1] w fun e w' => e = .returned (.bool true) ∧ Below w.heap.size w w' := by
  obtain ⟨x, hx, i1, _⟩ := lab_open h0
  obtain ⟨A, q, rfl, _, _, hb⟩ := one_bytes h1
  rw [hx]
  exact lback_all x i1 A _ q bs w hb
end Go.Proofs.Ytiomgjfiiibllaa
