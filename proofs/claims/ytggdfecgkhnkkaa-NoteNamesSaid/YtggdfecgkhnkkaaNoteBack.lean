/- Layer 11 (note): what is written is read, what is read is written: the statement. -/
import Derived.Test.YtggdfecgkhnkkaaNoteUnlike
namespace Go.Proofs.Ytggdfecgkhnkkaa
open Go Go.RowKit
set_option linter.unusedSimpArgs false
set_option linter.unusedVariables false

theorem nsame_zero (w : World) : Calls Try.prog 12 #[.agg #[.int .u32 0, .int .u32 0, .int .u32 0, .int .i64 0, .slice none 0 0], .agg #[.int .u32 0, .int .u32 0, .int .u32 0, .int .i64 0, .slice none 0 0]] w fun e w' => e = .returned (.bool true) ∧ Below w.heap.size w w' :=
  nsame_any 0 0 0 0 none 0 0 [] 0 0 0 0 none 0 0 [] true (by simp) (by decide) w ⟨rfl, .inl rfl⟩ ⟨rfl, .inl rfl⟩

set_option maxRecDepth 100000 in
theorem nback_long (id age sq : Nat) (st : Int) (B : Option Addr) (m k : Nat) (A : Option Addr) (n q : Nat) (hl : 1000 < m ∨ (m ≤ 1000 ∧ 1000 < n)) (w : World) : Calls Try.prog 8 #[.agg #[.int .u32 (id : Int), .int .u32 (age : Int), .int .u32 (sq : Int), .int .i64 st, .slice B m k], .slice A n q] w fun e w' => e = .returned (.bool true) ∧ Below w.heap.size w w' := by
  go_enter Try.func8, Try.ntmps8
  go_wp2_with fail
  have N0 := BoxOf.new w #[.int .u32 (id : Int), .int .u32 (age : Int), .int .u32 (sq : Int), .int .i64 st, .slice B m k] 25
  have t0 := Ext.alloc (Below.refl w.heap.size w) (.cells #[.int .u32 (id : Int), .int .u32 (age : Int), .int .u32 (sq : Int), .int .i64 st, .slice B m k] 25)
  refine (nalive_any _).mono ?_
  rintro e w1 ⟨rfl, b1⟩
  have N1 := N0.next b1
  have t1 := Ext.trans t0 b1
  have x1 := N1.cell
  clear N0 t0 b1
  rcases hl with h | ⟨h, h'⟩
  · have d1 : decide ((1000 : Int) < (m : Int)) = true := decide_eq_true (by omega)
    have d2 : (1000 : Int) < (m : Int) := by omega
    go_wp2
    go_ret
    exact ⟨rfl, t1⟩
  · have d1 : decide ((1000 : Int) < (m : Int)) = false := decide_eq_false (by omega)
    have d2 : ¬ (1000 : Int) < (m : Int) := by omega
    have d3 : decide ((1000 : Int) < (n : Int)) = true := decide_eq_true (by omega)
    have d4 : (1000 : Int) < (n : Int) := by omega
    go_wp2
    go_ret
    exact ⟨rfl, t1⟩

/-- what is read of some bytes: none, or a note, which is written as just these -/
def NBack (A : Option Addr) (n q : Nat) (bs : List UInt8) : Prop :=
  (∃ C : Int, (C != 0) = true ∧ ∀ W, Bs W A n bs → Calls Try.prog 13 #[.slice A n q] W fun e w' => e = .returned (.tuple #[.agg #[.int .u32 0, .int .u32 0, .int .u32 0, .int .i64 0, .slice none 0 0], .int .i64 C]) ∧ Below W.heap.size W w') ∨
  ∃ (id' age' sq' st' : Nat) (rs' : List NRec), 1 ≤ rs'.length ∧ rs'.length ≤ 16 ∧ (∀ W, Bs W A n bs → Calls Try.prog 13 #[.slice A n q] W fun e w' => (∃ A' c', e = .returned (.tuple #[.agg #[.int .u32 (id' : Int), .int .u32 (age' : Int), .int .u32 (sq' : Int), .int .i64 (st' : Int), .slice A' rs'.length c'], .int .i64 0]) ∧ Rs w' A' rs'.length rs') ∧ Below W.heap.size W w') ∧
    ∀ W A' c', Rs W A' rs'.length rs' → Calls Try.prog 11 #[.agg #[.int .u32 (id' : Int), .int .u32 (age' : Int), .int .u32 (sq' : Int), .int .i64 (st' : Int), .slice A' rs'.length c']] W fun e w' => ∃ P k c, e = .returned (.tuple #[.slice P k c, .int .i64 0]) ∧ Bs w' P k bs ∧ Below W.heap.size W w'

set_option maxRecDepth 100000 in
set_option maxHeartbeats 2000000 in
theorem nback_bad (id age sq : Nat) (st : Int) (B : Option Addr) (m k : Nat) (rs : List NRec) (A : Option Addr) (n q : Nat) (bs : List UInt8) (hm : m ≤ 1000) (hn : n ≤ 1000)
    (h1 : ∀ W, Rs W B m rs → Calls Try.prog 11 #[.agg #[.int .u32 (id : Int), .int .u32 (age : Int), .int .u32 (sq : Int), .int .i64 st, .slice B m k]] W fun e w' => e = .returned (.tuple #[.slice none 0 0, .int .i64 8]) ∧ Below W.heap.size W w')
    (hr : NBack A n q bs) (w : World) (hR : Rs w B m rs) (hb : Bs w A n bs) : Calls Try.prog 8 #[.agg #[.int .u32 (id : Int), .int .u32 (age : Int), .int .u32 (sq : Int), .int .i64 st, .slice B m k], .slice A n q] w fun e w' => e = .returned (.bool true) ∧ Below w.heap.size w w' := by
  have HW := Lib.hid h1
  have HR : Hid ((∃ C : Int, (C != 0) = true ∧ _) ∨ _) := Lib.hid hr
  clear h1 hr
  go_enter Try.func8, Try.ntmps8
  go_wp2_with fail
  have N0 := BoxOf.new w #[.int .u32 (id : Int), .int .u32 (age : Int), .int .u32 (sq : Int), .int .i64 st, .slice B m k] 25
  have t0 := Ext.alloc (Below.refl w.heap.size w) (.cells #[.int .u32 (id : Int), .int .u32 (age : Int), .int .u32 (sq : Int), .int .i64 st, .slice B m k] 25)
  refine (nalive_any _).mono ?_
  rintro e w1 ⟨rfl, b1⟩
  have N1 := N0.next b1
  have t1 := Ext.trans t0 b1
  have x1 := N1.cell
  clear N0 t0 b1
  have d1 : decide ((1000 : Int) < (m : Int)) = false := decide_eq_false (by omega)
  have d2 : ¬ (1000 : Int) < (m : Int) := by omega
  have d3 : decide ((1000 : Int) < (n : Int)) = false := decide_eq_false (by omega)
  have d4 : ¬ (1000 : Int) < (n : Int) := by omega
  go_wp2_with fail
  refine (HW.out _ (hR.below t1)).mono ?_
  rintro e w2 ⟨rfl, b2⟩
  have t4 := Ext.trans t1 b2
  clear t1 N1 x1 b2 d1 d2 d3 d4
  go_wp2_with fail
  rcases HR.out with hz | ⟨id', age', sq', st', rs', l1, l2, C1, C2⟩
  · obtain ⟨C, hC, hcall⟩ := hz
    refine (hcall _ (hb.below t4)).mono ?_
    rintro e w5 ⟨rfl, b5⟩
    have Z5 := BoxOf.new w5 #[.int .u32 0, .int .u32 0, .int .u32 0, .int .i64 0, .slice none 0 0] 25
    have z5 := Z5.cell
    have t5 := Ext.alloc (Ext.trans t4 b5) (.cells #[.int .u32 0, .int .u32 0, .int .u32 0, .int .i64 0, .slice none 0 0] 25)
    clear t4 b5 hcall Z5 HR
    go_wp2_with fail
    refine (nsame_zero _).mono ?_
    rintro e w6 ⟨rfl, b6⟩
    have t6 := Ext.trans t5 b6
    clear t5 b6 z5
    go_wp2
    go_ret
    exact ⟨rfl, t6⟩
  · have f1 : decide ((1 : Int) ≤ (rs'.length : Int)) = true := decide_eq_true (by omega)
    have f2 : decide ((rs'.length : Int) ≤ 16) = true := decide_eq_true (by omega)
    have f3 : decide (1 ≤ rs'.length) = true := decide_eq_true (by omega)
    have f4 : decide (rs'.length ≤ 16) = true := decide_eq_true (by omega)
    refine (C1 _ (hb.below t4)).mono ?_
    rintro e w5 ⟨⟨A', c', rfl, R5⟩, b5⟩
    have R6 := R5.alloc (.cells #[.int .u32 (id' : Int), .int .u32 (age' : Int), .int .u32 (sq' : Int), .int .i64 (st' : Int), .slice A' rs'.length c'] 25)
    have Z5 := BoxOf.new w5 #[.int .u32 (id' : Int), .int .u32 (age' : Int), .int .u32 (sq' : Int), .int .i64 (st' : Int), .slice A' rs'.length c'] 25
    have z5 := Z5.cell
    have t5 := Ext.alloc (Ext.trans t4 b5) (.cells #[.int .u32 (id' : Int), .int .u32 (age' : Int), .int .u32 (sq' : Int), .int .i64 (st' : Int), .slice A' rs'.length c'] 25)
    have HC2 := Lib.hid C2
    clear t4 b5 HR C1 C2 R5
    generalize hLL : rs'.length = LL at *
    go_wp2_with fail
    refine (HC2.out _ _ _ R6).mono ?_
    rintro e w6 ⟨P6, k6, c6, rfl, hp6, b6⟩
    have t6 := Ext.trans t5 b6
    have z6 := (Z5.next b6).cell
    have s1 := run_string_bs (P := Try.prog) c6 32 9 5 Try.underlying32 Try.underlying5 Try.underlying9 hp6
    have s2 := run_string_bs (P := Try.prog) q 32 9 5 Try.underlying32 Try.underlying5 Try.underlying9 (hb.below t6)
    clear t5 b6 hp6 z5 Z5 R6
    go_wp2
    go_ret
    exact ⟨rfl, t6⟩

set_option maxRecDepth 100000 in
set_option maxHeartbeats 2000000 in
theorem nback_ok (id age sq s : Nat) (B : Option Addr) (k : Nat) (rs : List NRec) (A : Option Addr) (n q : Nat) (bs : List UInt8) (hm : rs.length ≤ 1000) (hn : n ≤ 1000) (ws : List UInt8) (hws : ws.length = 128)
    (h1 : ∀ W, Rs W B rs.length rs → Calls Try.prog 11 #[.agg #[.int .u32 (id : Int), .int .u32 (age : Int), .int .u32 (sq : Int), .int .i64 (s : Int), .slice B rs.length k]] W fun e w' => ∃ P k c, e = .returned (.tuple #[.slice P k c, .int .i64 0]) ∧ Bs w' P k ws ∧ Below W.heap.size W w')
    (h2 : ∀ A n q W, Bs W A n ws → Calls Try.prog 13 #[.slice A n q] W fun e w' => (∃ A' c', e = .returned (.tuple #[.agg #[.int .u32 (id : Int), .int .u32 (age : Int), .int .u32 (sq : Int), .int .i64 (s : Int), .slice A' rs.length c'], .int .i64 0]) ∧ Rs w' A' rs.length rs) ∧ Below W.heap.size W w')
    (hr : NBack A n q bs) (w : World) (hR : Rs w B rs.length rs) (hb : Bs w A n bs) : Calls Try.prog 8 #[.agg #[.int .u32 (id : Int), .int .u32 (age : Int), .int .u32 (sq : Int), .int .i64 (s : Int), .slice B rs.length k], .slice A n q] w fun e w' => e = .returned (.bool true) ∧ Below w.heap.size w w' := by
  have HW := Lib.hid h1
  have HO := Lib.hid h2
  have HR : Hid ((∃ C : Int, (C != 0) = true ∧ _) ∨ _) := Lib.hid hr
  have HSM := Lib.hid (fun A' c' W hX hY => nsame_any id age sq (s : Int) A' rs.length c' rs id age sq (s : Int) B rs.length k rs true (by simp) (by omega) W hX hY)
  clear h1 h2 hr
  generalize hL0 : rs.length = L0 at *
  clear hL0
  go_enter Try.func8, Try.ntmps8
  go_wp2_with fail
  have N0 := BoxOf.new w #[.int .u32 (id : Int), .int .u32 (age : Int), .int .u32 (sq : Int), .int .i64 (s : Int), .slice B L0 k] 25
  have t0 := Ext.alloc (Below.refl w.heap.size w) (.cells #[.int .u32 (id : Int), .int .u32 (age : Int), .int .u32 (sq : Int), .int .i64 (s : Int), .slice B L0 k] 25)
  refine (nalive_any _).mono ?_
  rintro e w1 ⟨rfl, b1⟩
  have N1 := N0.next b1
  have t1 := Ext.trans t0 b1
  have x1 := N1.cell
  clear N0 t0 b1
  have d1 : decide ((1000 : Int) < (L0 : Int)) = false := decide_eq_false (by omega)
  have d2 : ¬ (1000 : Int) < (L0 : Int) := by omega
  have d3 : decide ((1000 : Int) < (n : Int)) = false := decide_eq_false (by omega)
  have d4 : ¬ (1000 : Int) < (n : Int) := by omega
  go_wp2_with fail
  refine (HW.out _ (hR.below t1)).mono ?_
  rintro e w2 ⟨P, kk, ca, rfl, hp, b2⟩
  have N2 := N1.next b2
  have t2 := Ext.trans t1 b2
  clear t1 N1 x1 b2 d1 d2 d3 d4
  obtain rfl : kk = 128 := by rw [← hp.1]; exact hws
  go_wp2_with fail
  refine (HO.out _ _ _ _ hp).mono ?_
  rintro e w3 ⟨⟨A', c', rfl, R3⟩, b3⟩
  have R4 := R3.alloc (.cells #[.int .u32 (id : Int), .int .u32 (age : Int), .int .u32 (sq : Int), .int .i64 (s : Int), .slice A' L0 c'] 25)
  have N3 := (N2.next b3).alloc (.cells #[.int .u32 (id : Int), .int .u32 (age : Int), .int .u32 (sq : Int), .int .i64 (s : Int), .slice A' L0 c'] 25)
  have D3 := BoxOf.new w3 #[.int .u32 (id : Int), .int .u32 (age : Int), .int .u32 (sq : Int), .int .i64 (s : Int), .slice A' L0 c'] 25
  have t3 := Ext.alloc (Ext.trans t2 b3) (.cells #[.int .u32 (id : Int), .int .u32 (age : Int), .int .u32 (sq : Int), .int .i64 (s : Int), .slice A' L0 c'] 25)
  have y3 := N3.cell
  have z3 := D3.cell
  clear N2 t2 b3 hp R3
  go_wp2_with fail
  refine (HSM.out _ _ _ R4 (hR.below t3)).mono ?_
  rintro e w4 ⟨rfl, b4⟩
  have t4 := Ext.trans t3 b4
  clear N3 D3 y3 z3 t3 b4 R4
  go_wp2_with fail
  rcases HR.out with hz | ⟨id', age', sq', st', rs', l1, l2, C1, C2⟩
  · obtain ⟨C, hC, hcall⟩ := hz
    refine (hcall _ (hb.below t4)).mono ?_
    rintro e w5 ⟨rfl, b5⟩
    have Z5 := BoxOf.new w5 #[.int .u32 0, .int .u32 0, .int .u32 0, .int .i64 0, .slice none 0 0] 25
    have z5 := Z5.cell
    have t5 := Ext.alloc (Ext.trans t4 b5) (.cells #[.int .u32 0, .int .u32 0, .int .u32 0, .int .i64 0, .slice none 0 0] 25)
    clear t4 b5 hcall Z5 HR
    go_wp2_with fail
    refine (nsame_zero _).mono ?_
    rintro e w6 ⟨rfl, b6⟩
    have t6 := Ext.trans t5 b6
    clear t5 b6 z5
    go_wp2
    go_ret
    exact ⟨rfl, t6⟩
  · have f1 : decide ((1 : Int) ≤ (rs'.length : Int)) = true := decide_eq_true (by omega)
    have f2 : decide ((rs'.length : Int) ≤ 16) = true := decide_eq_true (by omega)
    have f3 : decide (1 ≤ rs'.length) = true := decide_eq_true (by omega)
    have f4 : decide (rs'.length ≤ 16) = true := decide_eq_true (by omega)
    refine (C1 _ (hb.below t4)).mono ?_
    rintro e w5 ⟨⟨A', c', rfl, R5⟩, b5⟩
    have R6 := R5.alloc (.cells #[.int .u32 (id' : Int), .int .u32 (age' : Int), .int .u32 (sq' : Int), .int .i64 (st' : Int), .slice A' rs'.length c'] 25)
    have Z5 := BoxOf.new w5 #[.int .u32 (id' : Int), .int .u32 (age' : Int), .int .u32 (sq' : Int), .int .i64 (st' : Int), .slice A' rs'.length c'] 25
    have z5 := Z5.cell
    have t5 := Ext.alloc (Ext.trans t4 b5) (.cells #[.int .u32 (id' : Int), .int .u32 (age' : Int), .int .u32 (sq' : Int), .int .i64 (st' : Int), .slice A' rs'.length c'] 25)
    have HC2 := Lib.hid C2
    clear t4 b5 HR C1 C2 R5
    generalize hLL : rs'.length = LL at *
    go_wp2_with fail
    refine (HC2.out _ _ _ R6).mono ?_
    rintro e w6 ⟨P6, k6, c6, rfl, hp6, b6⟩
    have t6 := Ext.trans t5 b6
    have z6 := (Z5.next b6).cell
    have s1 := run_string_bs (P := Try.prog) c6 32 9 5 Try.underlying32 Try.underlying5 Try.underlying9 hp6
    have s2 := run_string_bs (P := Try.prog) q 32 9 5 Try.underlying32 Try.underlying5 Try.underlying9 (hb.below t6)
    clear t5 b6 hp6 z5 Z5 R6
    go_wp2
    go_ret
    exact ⟨rfl, t6⟩

theorem nback_any (A : Option Addr) (n q : Nat) (bs : List UInt8) (hlen : bs.length = n) : NBack A n q bs := by
  by_cases hn : n = 0 ∨ n = 128
  · by_cases hr : ∃ id age sq st rs, NoteIs bs id age sq st rs
    · obtain ⟨id, age, sq, st, rs, h⟩ := hr
      obtain ⟨h1, h2, h3, h4, h5, h6, h7⟩ := h.bounds
      refine .inr ⟨id, age, sq, st, rs, h5, h6, fun W hb => nread_yes h A q W hb, fun W A' c' hR => ?_⟩
      refine (nwrite_any id age sq st rs _ h1 h4 h.ok A' c' W hR).mono ?_
      rintro e w' ⟨g, he, hB, hbl⟩
      rw [h.bs] at hB
      exact ⟨_, _, _, he, hB.bs, hbl⟩
    · exact .inl ⟨90, rfl, fun W hb => nread_no hn (fun i1 i2 i3 i4 i5 h => hr ⟨i1, i2, i3, i4, i5, h⟩) A q W hb⟩
  · exact .inl ⟨3, rfl, fun W _ => nread_text A n q (by omega) (by omega) W⟩

theorem nback_all (id age sq : Nat) (st : Int) (B : Option Addr) (m k : Nat) (rs : List NRec) (b1 : id < 4294967296) (hb : ∀ r ∈ rs, r.sl < 256 ∧ r.su < 4294967296) (A : Option Addr) (n q : Nat) (bs : List UInt8) (w : World) (hR : Rs w B m rs) (hbs : Bs w A n bs) : Calls Try.prog 8 #[.agg #[.int .u32 (id : Int), .int .u32 (age : Int), .int .u32 (sq : Int), .int .i64 st, .slice B m k], .slice A n q] w fun e w' => e = .returned (.bool true) ∧ Below w.heap.size w w' := by
  by_cases hm : 1000 < m
  · exact nback_long id age sq st B m k A _ q (.inl hm) w
  by_cases hn : 1000 < n
  · exact nback_long id age sq st B m k A _ q (.inr ⟨by omega, hn⟩) w
  cases hB : noteB age sq st rs with
  | true =>
    have hp := noteB_parts hB
    obtain ⟨s, rfl⟩ : ∃ s : Nat, st = (s : Int) := ⟨st.toNat, by omega⟩
    have hl := hR.1
    subst hl
    exact nback_ok id age sq s B k rs A _ q bs (by omega) (by omega) _ (note_len b1 hb hB).1
      (fun W h => (nwrite_any id age sq s rs _ b1 hb hB B k W h).mono fun e w' ⟨g, he, hB, hbl⟩ => ⟨_, _, _, he, hB.bs, hbl⟩)
      (fun A n q W hW => nread_yes (note_own b1 hb hB) A q W hW) (nback_any A _ q bs hbs.1) w hR hbs
  | false =>
    exact nback_bad id age sq st B m k rs A _ q bs (by omega) (by omega) (fun W h => nwrite_bad id age sq st B m k rs (by omega) (fun r h => (hb r h).1) hB W h) (nback_any A _ q bs hbs.1) w hR hbs

theorem noteBack_walk (w : World) (cs : List Value) (y : (Ty.st (.prod .u32 (.prod .u32 (.prod .u32 (.prod .int (.prod (.sl (Ty.st (.prod .byte (.prod .bool (.prod .u32 .unit))))) .unit)))))).T) (h0 : Reads w (Ty.st (.prod .u32 (.prod .u32 (.prod .u32 (.prod .int (.prod (.sl (Ty.st (.prod .byte (.prod .bool (.prod .u32 .unit))))) .unit)))))) y cs) (v1 : Value) (bs : (Ty.sl .byte).T) (h1 : Reads w (.sl .byte) bs [v1]) :
    Calls Try.prog 8 #[.agg cs.toArray, v1] w fun e w' => e = .returned (.bool true) ∧ Below w.heap.size w w' := by
  obtain ⟨id, age, sq, st, B, m, k, rs, hx, b1, b2, b3, _, _, _, hR, hb⟩ := note_open h0
  obtain ⟨A, q, rfl, _, _, hbs⟩ := one_bytes h1
  rw [hx]
  exact nback_all id age sq st B m k rs b1 hb A _ q bs w hR hbs
end Go.Proofs.Ytggdfecgkhnkkaa
