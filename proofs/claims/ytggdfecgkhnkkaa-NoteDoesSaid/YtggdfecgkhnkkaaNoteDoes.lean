/- Layer 11 (note): notes are checked, compared, written and read as the document says: the statement. -/
import Derived.Test.YtggdfecgkhnkkaaNoteRef3
import Derived.Test.YtggdfecgkhnkkaaNoteUnlike
namespace Go.Proofs.Ytggdfecgkhnkkaa
open Go Go.RowKit
set_option linter.unusedSimpArgs false
set_option linter.unusedVariables false

set_option maxRecDepth 100000 in
theorem ndoes_long (id age sq : Nat) (st : Int) (A : Option Addr) (n q : Nat) (id' age' sq' : Nat) (st' : Int) (B : Option Addr) (m k : Nat) (D : Option Addr) (l d : Nat) (h : 1000 < n ∨ (n ≤ 1000 ∧ 1000 < m) ∨ (n ≤ 1000 ∧ m ≤ 1000 ∧ 1000 < l)) (w : World) : Calls Try.prog 7 #[.agg #[.int .u32 (id : Int), .int .u32 (age : Int), .int .u32 (sq : Int), .int .i64 st, .slice A n q], .agg #[.int .u32 (id' : Int), .int .u32 (age' : Int), .int .u32 (sq' : Int), .int .i64 st', .slice B m k], .slice D l d] w fun e w' => e = .returned (.bool true) ∧ Below w.heap.size w w' := by
  go_enter Try.func7, Try.ntmps7
  go_upto_region 1 with fail
  have N0 := BoxOf.alloc (BoxOf.new w #[.int .u32 (id : Int), .int .u32 (age : Int), .int .u32 (sq : Int), .int .i64 st, .slice A n q] 25) (.cells #[.int .u32 (id' : Int), .int .u32 (age' : Int), .int .u32 (sq' : Int), .int .i64 st', .slice B m k] 25)
  have M0 := BoxOf.new' (w.alloc (.cells #[.int .u32 (id : Int), .int .u32 (age : Int), .int .u32 (sq : Int), .int .i64 st, .slice A n q] 25)) (w.heap.size + 1) #[.int .u32 (id' : Int), .int .u32 (age' : Int), .int .u32 (sq' : Int), .int .i64 st', .slice B m k] 25 (by simp)
  have t0 := Ext.alloc (Ext.alloc (Below.refl w.heap.size w) (.cells #[.int .u32 (id : Int), .int .u32 (age : Int), .int .u32 (sq : Int), .int .i64 st, .slice A n q] 25)) (.cells #[.int .u32 (id' : Int), .int .u32 (age' : Int), .int .u32 (sq' : Int), .int .i64 st', .slice B m k] 25)
  have x0 := N0.cell
  have y0 := M0.cell
  rcases h with h | ⟨h, h'⟩ | ⟨h, h', h''⟩
  · have d1 : decide ((1000 : Int) < (n : Int)) = true := decide_eq_true (by omega)
    have d2 : (1000 : Int) < (n : Int) := by omega
    go_wp2
    go_ret
    exact ⟨rfl, t0⟩
  · have d1 : decide ((1000 : Int) < (n : Int)) = false := decide_eq_false (by omega)
    have d2 : ¬ (1000 : Int) < (n : Int) := by omega
    have d3 : decide ((1000 : Int) < (m : Int)) = true := decide_eq_true (by omega)
    have d4 : (1000 : Int) < (m : Int) := by omega
    go_wp2
    go_ret
    exact ⟨rfl, t0⟩
  · have d1 : decide ((1000 : Int) < (n : Int)) = false := decide_eq_false (by omega)
    have d2 : ¬ (1000 : Int) < (n : Int) := by omega
    have d3 : decide ((1000 : Int) < (m : Int)) = false := decide_eq_false (by omega)
    have d4 : ¬ (1000 : Int) < (m : Int) := by omega
    have d5 : decide ((1000 : Int) < (l : Int)) = true := decide_eq_true (by omega)
    have d6 : (1000 : Int) < (l : Int) := by omega
    go_wp2
    go_ret
    exact ⟨rfl, t0⟩

set_option maxRecDepth 100000 in
set_option maxHeartbeats 4000000 in
theorem ndoes_core (id age sq : Nat) (st : Int) (A : Option Addr) (n q : Nat) (rs : List NRec) (id' age' sq' : Nat) (st' : Int) (B : Option Addr) (m k : Nat) (ss : List NRec) (D : Option Addr) (l d : Nat) (bs : List UInt8) (hn : n ≤ 1000) (hm : m ≤ 1000) (hl : l ≤ 1000)
    (E C : Int) (ws : List UInt8) (S : Bool) (ri ra rq : Nat) (rt : Int) (L : Nat) (rr : List NRec)
    (h1 : ∀ A q W, Rs W A n rs → Calls Try.prog 11 #[.agg #[.int .u32 (id : Int), .int .u32 (age : Int), .int .u32 (sq : Int), .int .i64 st, .slice A n q]] W fun e w' => ∃ P k c, e = .returned (.tuple #[.slice P k c, .int .i64 E]) ∧ Bs w' P k ws ∧ Below W.heap.size W w')
    (h2 : ∀ A q W, Rs W A n rs → Calls Try.prog 17 #[.agg #[.int .u32 (id : Int), .int .u32 (age : Int), .int .u32 (sq : Int), .int .i64 st, .slice A n q]] W fun e w' => ∃ P k c, e = .returned (.tuple #[.slice P k c, .int .i64 E]) ∧ Bs w' P k ws ∧ Below W.heap.size W w')
    (h3 : ∀ A q W, Bs W A l bs → Calls Try.prog 13 #[.slice A l q] W fun e w' => (∃ A' c', e = .returned (.tuple #[.agg #[.int .u32 (ri : Int), .int .u32 (ra : Int), .int .u32 (rq : Int), .int .i64 rt, .slice A' L c'], .int .i64 C]) ∧ Rs w' A' L rr) ∧ Below W.heap.size W w')
    (h4 : ∀ A q W, Bs W A l bs → Calls Try.prog 18 #[.slice A l q] W fun e w' => (∃ A' c', e = .returned (.tuple #[.agg #[.int .u32 (ri : Int), .int .u32 (ra : Int), .int .u32 (rq : Int), .int .i64 rt, .slice A' L c'], .int .i64 C]) ∧ Rs w' A' L rr) ∧ Below W.heap.size W w')
    (h5 : ∀ A q W, Rs W A n rs → Calls Try.prog 10 #[.agg #[.int .u32 (id : Int), .int .u32 (age : Int), .int .u32 (sq : Int), .int .i64 st, .slice A n q]] W fun e w' => e = .returned (.int .i64 E) ∧ Below W.heap.size W w')
    (h6 : ∀ A q W, Rs W A n rs → Calls Try.prog 20 #[.agg #[.int .u32 (id : Int), .int .u32 (age : Int), .int .u32 (sq : Int), .int .i64 st, .slice A n q]] W fun e w' => e = .returned (.int .i64 E) ∧ Below W.heap.size W w')
    (h7 : ∀ A' c' A'' c'' W, Rs W A' L rr → Rs W A'' L rr → Calls Try.prog 19 #[.agg #[.int .u32 (ri : Int), .int .u32 (ra : Int), .int .u32 (rq : Int), .int .i64 rt, .slice A' L c'], .agg #[.int .u32 (ri : Int), .int .u32 (ra : Int), .int .u32 (rq : Int), .int .i64 rt, .slice A'' L c'']] W fun e w' => e = .returned (.bool true) ∧ Below W.heap.size W w')
    (h8 : ∀ A q W, Rs W A n rs → Rs W B m ss → Calls Try.prog 12 #[.agg #[.int .u32 (id : Int), .int .u32 (age : Int), .int .u32 (sq : Int), .int .i64 st, .slice A n q], .agg #[.int .u32 (id' : Int), .int .u32 (age' : Int), .int .u32 (sq' : Int), .int .i64 st', .slice B m k]] W fun e w' => e = .returned (.bool S) ∧ Below W.heap.size W w')
    (h9 : ∀ A q W, Rs W A n rs → Rs W B m ss → Calls Try.prog 19 #[.agg #[.int .u32 (id : Int), .int .u32 (age : Int), .int .u32 (sq : Int), .int .i64 st, .slice A n q], .agg #[.int .u32 (id' : Int), .int .u32 (age' : Int), .int .u32 (sq' : Int), .int .i64 st', .slice B m k]] W fun e w' => e = .returned (.bool S) ∧ Below W.heap.size W w')
    (h10 : ∀ A' q' A q W, Rs W A' n rs → Rs W A n rs → Calls Try.prog 19 #[.agg #[.int .u32 (id : Int), .int .u32 (age : Int), .int .u32 (sq : Int), .int .i64 st, .slice A' n q'], .agg #[.int .u32 (id : Int), .int .u32 (age : Int), .int .u32 (sq : Int), .int .i64 st, .slice A n q]] W fun e w' => e = .returned (.bool true) ∧ Below W.heap.size W w')
    (w : World) (hx : Rs w A n rs) (hy : Rs w B m ss) (hb : Bs w D l bs) : Calls Try.prog 7 #[.agg #[.int .u32 (id : Int), .int .u32 (age : Int), .int .u32 (sq : Int), .int .i64 st, .slice A n q], .agg #[.int .u32 (id' : Int), .int .u32 (age' : Int), .int .u32 (sq' : Int), .int .i64 st', .slice B m k], .slice D l d] w fun e w' => e = .returned (.bool true) ∧ Below w.heap.size w w' := by
  have H1 := Lib.hid h1
  have H2 := Lib.hid h2
  have H3 := Lib.hid h3
  have H4 := Lib.hid h4
  have H5 := Lib.hid h5
  have H6 := Lib.hid h6
  have H7 := Lib.hid h7
  have H8 := Lib.hid h8
  have H9 := Lib.hid h9
  have H10 := Lib.hid h10
  have HT := Lib.hid (fun W hW => rntwin_any id age sq st A n q rs hn W hW)
  have Rn0 := (hx.alloc (.cells #[.int .u32 (id : Int), .int .u32 (age : Int), .int .u32 (sq : Int), .int .i64 st, .slice A n q] 25)).alloc (.cells #[.int .u32 (id' : Int), .int .u32 (age' : Int), .int .u32 (sq' : Int), .int .i64 st', .slice B m k] 25)
  have Ro0 := (hy.alloc (.cells #[.int .u32 (id : Int), .int .u32 (age : Int), .int .u32 (sq : Int), .int .i64 st, .slice A n q] 25)).alloc (.cells #[.int .u32 (id' : Int), .int .u32 (age' : Int), .int .u32 (sq' : Int), .int .i64 st', .slice B m k] 25)
  have Bb0 := (hb.alloc (.cells #[.int .u32 (id : Int), .int .u32 (age : Int), .int .u32 (sq : Int), .int .i64 st, .slice A n q] 25)).alloc (.cells #[.int .u32 (id' : Int), .int .u32 (age' : Int), .int .u32 (sq' : Int), .int .i64 st', .slice B m k] 25)
  clear h1 h2 h3 h4 h5 h6 h7 h8 h9 h10 hx hy hb
  go_enter Try.func7, Try.ntmps7
  go_upto_region 1 with fail
  have N0 := BoxOf.alloc (BoxOf.new w #[.int .u32 (id : Int), .int .u32 (age : Int), .int .u32 (sq : Int), .int .i64 st, .slice A n q] 25) (.cells #[.int .u32 (id' : Int), .int .u32 (age' : Int), .int .u32 (sq' : Int), .int .i64 st', .slice B m k] 25)
  have M0 := BoxOf.new' (w.alloc (.cells #[.int .u32 (id : Int), .int .u32 (age : Int), .int .u32 (sq : Int), .int .i64 st, .slice A n q] 25)) (w.heap.size + 1) #[.int .u32 (id' : Int), .int .u32 (age' : Int), .int .u32 (sq' : Int), .int .i64 st', .slice B m k] 25 (by simp)
  have t0 := Ext.alloc (Ext.alloc (Below.refl w.heap.size w) (.cells #[.int .u32 (id : Int), .int .u32 (age : Int), .int .u32 (sq : Int), .int .i64 st, .slice A n q] 25)) (.cells #[.int .u32 (id' : Int), .int .u32 (age' : Int), .int .u32 (sq' : Int), .int .i64 st', .slice B m k] 25)
  have x0 := N0.cell
  have y0 := M0.cell
  have d1 : decide ((1000 : Int) < (n : Int)) = false := decide_eq_false (by omega)
  have d2 : ¬ (1000 : Int) < (n : Int) := by omega
  have d3 : decide ((1000 : Int) < (m : Int)) = false := decide_eq_false (by omega)
  have d4 : ¬ (1000 : Int) < (m : Int) := by omega
  have d5 : decide ((1000 : Int) < (l : Int)) = false := decide_eq_false (by omega)
  have d6 : ¬ (1000 : Int) < (l : Int) := by omega
  have HLL := Lib.hid hl
  clear hn hm hl
  generalize (w.alloc (.cells #[.int .u32 (id : Int), .int .u32 (age : Int), .int .u32 (sq : Int), .int .i64 st, .slice A n q] 25)).alloc (.cells #[.int .u32 (id' : Int), .int .u32 (age' : Int), .int .u32 (sq' : Int), .int .i64 st', .slice B m k] 25) = W0 at *
  go_wp2_with fail
  clear d1 d2 d3 d4 d5 d6
  refine (HT.out _ Rn0).mono ?_
  rintro e w1 ⟨A1, c1, rfl, Rw1, b1⟩
  obtain ⟨g7, hg7⟩ : ∃ z : Nat, z = w1.heap.size := ⟨_, rfl⟩
  have T1 := BoxOf.new' w1 g7 #[.int .u32 (id : Int), .int .u32 (age : Int), .int .u32 (sq : Int), .int .i64 st, .slice A1 n c1] 25 hg7
  have b2 := Ext.alloc b1 (.cells #[.int .u32 (id : Int), .int .u32 (age : Int), .int .u32 (sq : Int), .int .i64 st, .slice A1 n c1] 25)
  have N1 := N0.next b2
  have M1 := M0.next b2
  have t1 := Ext.trans t0 b2
  have Rn1 := Rn0.below b2
  have Ro1 := Ro0.below b2
  have Bb1 := Bb0.below b2
  have Rw2 := Rw1.alloc (.cells #[.int .u32 (id : Int), .int .u32 (age : Int), .int .u32 (sq : Int), .int .i64 st, .slice A1 n c1] 25)
  have l7 : w.heap.size + 1 < g7 := by rw [hg7]; exact Nat.lt_of_lt_of_le M0.lt b1.size
  clear N0 M0 t0 Rn0 Ro0 Bb0 b2 b1 x0 y0 Rw1
  go_upto_region 4 with fail
  rw [← hg7]
  clear hg7
  generalize w1.alloc (.cells #[.int .u32 (id : Int), .int .u32 (age : Int), .int .u32 (sq : Int), .int .i64 st, .slice A1 n c1] 25) = W1 at *
  have l11 := HLL.out
  go_wp2_with (at_builtin; refine wpList_append_bytes rfl (.const (.slice none 0 0)) (.tmp 34) rfl W1.heap.size _ 0 [] rfl (OB.nil _ _) D l d bs rfl Bb1 (by omega) (Nat.le_refl _) ?_; intro v2 w2 own2 b2; rw [Nat.zero_add, List.nil_append] at own2; obtain ⟨P2, c2, rfl, Br2⟩ := own2.bs; have N2 := N1.next b2; have M2 := M1.next b2; have T2 := T1.next b2; have t2 := Ext.trans t1 b2; have Rn2 := Rn1.below b2; have Ro2 := Ro1.below b2; have Bb2 := Bb1.below b2; have Rw3 := Rw2.below b2; have x2 := N2.cell; have y2 := M2.cell; have z2 := T2.cell; clear own2 b2 N1 M1 T1 t1 Rn1 Ro1 Bb1 Rw2)
  refine (H1.out _ _ _ Rw3).mono ?_
  rintro e w3 ⟨P3, k3, c3, rfl, B3, b3⟩
  have N3 := N2.next b3
  have M3 := M2.next b3
  have T3 := T2.next b3
  have t3 := Ext.trans t2 b3
  have Rn3 := Rn2.below b3
  have Ro3 := Ro2.below b3
  have Bb3 := Bb2.below b3
  have Rw4 := Rw3.below b3
  have Br3 := Br2.below b3
  have x3 := N3.cell
  have y3 := M3.cell
  have z3 := T3.cell
  clear b3 N2 M2 T2 t2 Rn2 Ro2 Bb2 Rw3 Br2 x2 y2 z2
  go_wp2_with fail
  refine (H2.out _ _ _ Rn3).mono ?_
  rintro e w4 ⟨P4, k4, c4, rfl, B4, b4⟩
  have N4 := N3.next b4
  have M4 := M3.next b4
  have T4 := T3.next b4
  have t4 := Ext.trans t3 b4
  have Rn4 := Rn3.below b4
  have Ro4 := Ro3.below b4
  have Bb4 := Bb3.below b4
  have Rw5 := Rw4.below b4
  have Br4 := Br3.below b4
  have B3 := B3.below b4
  clear b4 N3 M3 T3 t3 Rn3 Ro3 Bb3 Rw4 Br3 x3 y3 z3
  go_wp2_with fail
  refine (H3.out _ _ _ Br4).mono ?_
  rintro e w5 ⟨⟨A5, c5, rfl, Rr5⟩, b5⟩
  obtain ⟨g13, hg13⟩ : ∃ z : Nat, z = w5.heap.size := ⟨_, rfl⟩
  have U5 := BoxOf.new' w5 g13 #[.int .u32 (ri : Int), .int .u32 (ra : Int), .int .u32 (rq : Int), .int .i64 rt, .slice A5 L c5] 25 hg13
  have b6 := Ext.alloc b5 (.cells #[.int .u32 (ri : Int), .int .u32 (ra : Int), .int .u32 (rq : Int), .int .i64 rt, .slice A5 L c5] 25)
  have Rr6 := Rr5.alloc (.cells #[.int .u32 (ri : Int), .int .u32 (ra : Int), .int .u32 (rq : Int), .int .i64 rt, .slice A5 L c5] 25)
  have N5 := N4.next b6
  have M5 := M4.next b6
  have T5 := T4.next b6
  have t5 := Ext.trans t4 b6
  have Rn5 := Rn4.below b6
  have Ro5 := Ro4.below b6
  have Bb5 := Bb4.below b6
  have Rw6 := Rw5.below b6
  have Br5 := Br4.below b6
  have B3 := B3.below b6
  have B4 := B4.below b6
  clear b5 b6 N4 M4 T4 t4 Rn4 Ro4 Bb4 Rw5 Br4 Rr5
  go_upto_region 8 with fail
  rw [← hg13]
  clear hg13
  generalize w5.alloc (.cells #[.int .u32 (ri : Int), .int .u32 (ra : Int), .int .u32 (rq : Int), .int .i64 rt, .slice A5 L c5] 25) = W5 at *
  go_wp2_with fail
  refine (H4.out _ _ _ Bb5).mono ?_
  rintro e w6 ⟨⟨A6, c6, rfl, Rt6⟩, b6⟩
  obtain ⟨g15, hg15⟩ : ∃ z : Nat, z = w6.heap.size := ⟨_, rfl⟩
  have V6 := BoxOf.new' w6 g15 #[.int .u32 (ri : Int), .int .u32 (ra : Int), .int .u32 (rq : Int), .int .i64 rt, .slice A6 L c6] 25 hg15
  have b7 := Ext.alloc b6 (.cells #[.int .u32 (ri : Int), .int .u32 (ra : Int), .int .u32 (rq : Int), .int .i64 rt, .slice A6 L c6] 25)
  have Rt7 := Rt6.alloc (.cells #[.int .u32 (ri : Int), .int .u32 (ra : Int), .int .u32 (rq : Int), .int .i64 rt, .slice A6 L c6] 25)
  have Rr7 := Rr6.below b7
  have U6 := U5.next b7
  have N6 := N5.next b7
  have M6 := M5.next b7
  have T6 := T5.next b7
  have t6 := Ext.trans t5 b7
  have Rn6 := Rn5.below b7
  have Ro6 := Ro5.below b7
  have Bb6 := Bb5.below b7
  have Rw7 := Rw6.below b7
  have Br6 := Br5.below b7
  have B3 := B3.below b7
  have B4 := B4.below b7
  clear b6 b7 N5 M5 T5 U5 t5 Rn5 Ro5 Bb5 Rw6 Br5 Rt6 Rr6
  go_upto_region 9 with fail
  rw [← hg15]
  clear hg15
  generalize w6.alloc (.cells #[.int .u32 (ri : Int), .int .u32 (ra : Int), .int .u32 (rq : Int), .int .i64 rt, .slice A6 L c6] 25) = W6 at *
  refine wp_region_held_drew (S := fun w' => (BoxOf w' w.heap.size #[.int .u32 (id : Int), .int .u32 (age : Int), .int .u32 (sq : Int), .int .i64 st, .slice A n q] 25 ∧ BoxOf w' (w.heap.size + 1) #[.int .u32 (id' : Int), .int .u32 (age' : Int), .int .u32 (sq' : Int), .int .i64 st', .slice B m k] 25 ∧ BoxOf w' g7 #[.int .u32 (id : Int), .int .u32 (age : Int), .int .u32 (sq : Int), .int .i64 st, .slice A1 n c1] 25 ∧ BoxOf w' g13 #[.int .u32 (ri : Int), .int .u32 (ra : Int), .int .u32 (rq : Int), .int .i64 rt, .slice A5 L c5] 25 ∧ BoxOf w' g15 #[.int .u32 (ri : Int), .int .u32 (ra : Int), .int .u32 (rq : Int), .int .i64 rt, .slice A6 L c6] 25 ∧ Bs w' P3 k3 ws ∧ Bs w' P4 k4 ws ∧ Bs w' P2 l bs ∧ Bs w' D l bs) ∧
    (∀ o, w'.cell? ⟨w.heap.size, o, none⟩ = (#[.int .u32 (id : Int), .int .u32 (age : Int), .int .u32 (sq : Int), .int .i64 st, .slice A n q] : Array Value).toList[o]?) ∧ (∀ o, w'.cell? ⟨w.heap.size + 1, o, none⟩ = (#[.int .u32 (id' : Int), .int .u32 (age' : Int), .int .u32 (sq' : Int), .int .i64 st', .slice B m k] : Array Value).toList[o]?) ∧ (∀ o, w'.cell? ⟨g7, o, none⟩ = (#[.int .u32 (id : Int), .int .u32 (age : Int), .int .u32 (sq : Int), .int .i64 st, .slice A1 n c1] : Array Value).toList[o]?) ∧ (∀ o, w'.cell? ⟨g13, o, none⟩ = (#[.int .u32 (ri : Int), .int .u32 (ra : Int), .int .u32 (rq : Int), .int .i64 rt, .slice A5 L c5] : Array Value).toList[o]?) ∧ (∀ o, w'.cell? ⟨g15, o, none⟩ = (#[.int .u32 (ri : Int), .int .u32 (ra : Int), .int .u32 (rq : Int), .int .i64 rt, .slice A6 L c6] : Array Value).toList[o]?)) (by kernel_rfl)
    ⟨⟨N6.drew, M6.drew, T6.drew, U6.drew, V6.drew, B3, B4, Br6, Bb6⟩, N6.drew.cell, M6.drew.cell, T6.drew.cell, U6.drew.cell, V6.drew.cell⟩ (fun hS => ?_)
  have Rn : Rs W6.drew A n rs := Rn6
  have Ro : Rs W6.drew B m ss := Ro6
  have Rw : Rs W6.drew A1 n rs := Rw7
  have Rr : Rs W6.drew A5 L rr := Rr7
  have Rt : Rs W6.drew A6 L rr := Rt7
  have t := Ext.drew t6
  clear N6 M6 T6 U6 V6 B3 B4 Br6 Bb6 Rn6 Ro6 Rw7 Rr7 Rt7 t6 l7 l11 HLL
  generalize W6.drew = v at *
  refine wpAnyH_take (i := 0) (oi := _) (v := ?_) rfl (by kernel_rfl) (by kernel_rfl) (by kernel_rfl) (fun _ _ _ h => h) (Or.inl ⟨by rfl, ?_⟩) hS ?_
  rotate_left
  · (intro w hSw; (try dsimp only at hSw); go_simp; (try with_reducible rfl))
  rotate_left
  simp only [Act.put, List.getElem_toArray, List.getElem_cons_zero, List.getElem_cons_succ, List.setIfInBounds_toArray, List.set_cons_zero, List.set_cons_succ]
  refine wpAnyH_take (i := 1) (oi := _) (v := ?_) rfl (by kernel_rfl) (by kernel_rfl) (by kernel_rfl) (fun _ _ _ h => h) (Or.inl ⟨by rfl, ?_⟩) hS ?_
  rotate_left
  · (intro w hSw; have sq := run_string_bs (P := Try.prog) c3 32 9 5 Try.underlying32 Try.underlying5 Try.underlying9 hSw.1.2.2.2.2.2.1; (try dsimp only at hSw); go_simp; (try with_reducible rfl))
  rotate_left
  simp only [Act.put, List.getElem_toArray, List.getElem_cons_zero, List.getElem_cons_succ, List.setIfInBounds_toArray, List.set_cons_zero, List.set_cons_succ]
  refine wpAnyH_take (i := 2) (oi := _) (v := ?_) rfl (by kernel_rfl) (by kernel_rfl) (by kernel_rfl) (fun _ _ _ h => h) (Or.inl ⟨by rfl, ?_⟩) hS ?_
  rotate_left
  · (intro w hSw; (try dsimp only at hSw); go_simp; (try with_reducible rfl))
  rotate_left
  simp only [Act.put, List.getElem_toArray, List.getElem_cons_zero, List.getElem_cons_succ, List.setIfInBounds_toArray, List.set_cons_zero, List.set_cons_succ]
  refine wpAnyH_take (i := 3) (oi := _) (v := ?_) rfl (by kernel_rfl) (by kernel_rfl) (by kernel_rfl) (fun _ _ _ h => h) (Or.inl ⟨by rfl, ?_⟩) hS ?_
  rotate_left
  · (intro w hSw; have sq := run_string_bs (P := Try.prog) c4 32 9 5 Try.underlying32 Try.underlying5 Try.underlying9 hSw.1.2.2.2.2.2.2.1; (try dsimp only at hSw); go_simp; (try with_reducible rfl))
  rotate_left
  simp only [Act.put, List.getElem_toArray, List.getElem_cons_zero, List.getElem_cons_succ, List.setIfInBounds_toArray, List.set_cons_zero, List.set_cons_succ]
  refine wpAnyH_take (i := 4) (oi := _) (v := ?_) rfl (by kernel_rfl) (by kernel_rfl) (by kernel_rfl) (fun _ _ _ h => h) (Or.inl ⟨by rfl, ?_⟩) hS ?_
  rotate_left
  · (intro w hSw; (try dsimp only at hSw); go_simp; (try with_reducible rfl))
  rotate_left
  simp only [Act.put, List.getElem_toArray, List.getElem_cons_zero, List.getElem_cons_succ, List.setIfInBounds_toArray, List.set_cons_zero, List.set_cons_succ]
  refine wpAnyH_take (i := 5) (oi := _) (v := ?_) rfl (by kernel_rfl) (by kernel_rfl) (by kernel_rfl) (fun _ _ _ h => h) (Or.inl ⟨by rfl, ?_⟩) hS ?_
  rotate_left
  · (intro w hSw; (try dsimp only at hSw); go_simp; (try with_reducible rfl))
  rotate_left
  simp only [Act.put, List.getElem_toArray, List.getElem_cons_zero, List.getElem_cons_succ, List.setIfInBounds_toArray, List.set_cons_zero, List.set_cons_succ]
  refine wpAnyH_take (i := 6) (oi := _) (v := ?_) rfl (by kernel_rfl) (by kernel_rfl) (by kernel_rfl) (fun _ _ _ h => h) (Or.inl ⟨by rfl, ?_⟩) hS ?_
  rotate_left
  · (intro w hSw; (try dsimp only at hSw); go_simp; (try with_reducible rfl))
  rotate_left
  simp only [Act.put, List.getElem_toArray, List.getElem_cons_zero, List.getElem_cons_succ, List.setIfInBounds_toArray, List.set_cons_zero, List.set_cons_succ]
  refine wpAnyH_take (i := 7) (oi := _) (v := ?_) rfl (by kernel_rfl) (by kernel_rfl) (by kernel_rfl) (fun _ _ _ h => h) (Or.inl ⟨by rfl, ?_⟩) hS ?_
  rotate_left
  · (intro w hSw; (try dsimp only at hSw); go_simp; (try with_reducible rfl))
  rotate_left
  simp only [Act.put, List.getElem_toArray, List.getElem_cons_zero, List.getElem_cons_succ, List.setIfInBounds_toArray, List.set_cons_zero, List.set_cons_succ]
  refine wpAnyH_take (i := 8) (oi := _) (v := ?_) rfl (by kernel_rfl) (by kernel_rfl) (by kernel_rfl) (fun _ _ _ h => h) (Or.inl ⟨by rfl, ?_⟩) hS ?_
  rotate_left
  · (intro w hSw; (try dsimp only at hSw); go_simp; (try with_reducible rfl))
  rotate_left
  simp only [Act.put, List.getElem_toArray, List.getElem_cons_zero, List.getElem_cons_succ, List.setIfInBounds_toArray, List.set_cons_zero, List.set_cons_succ]
  refine wpAnyH_take (i := 9) (oi := _) (v := ?_) rfl (by kernel_rfl) (by kernel_rfl) (by kernel_rfl) (fun _ _ _ h => h) (Or.inl ⟨by rfl, ?_⟩) hS ?_
  rotate_left
  · (intro w hSw; (try dsimp only at hSw); go_simp; (try with_reducible rfl))
  rotate_left
  simp only [Act.put, List.getElem_toArray, List.getElem_cons_zero, List.getElem_cons_succ, List.setIfInBounds_toArray, List.set_cons_zero, List.set_cons_succ]
  refine wpAnyH_take (i := 10) (oi := _) (v := ?_) rfl (by kernel_rfl) (by kernel_rfl) (by kernel_rfl) (fun _ _ _ h => h) (Or.inl ⟨by rfl, ?_⟩) hS ?_
  rotate_left
  · (intro w hSw; (try dsimp only at hSw); go_simp; (try with_reducible rfl))
  rotate_left
  simp only [Act.put, List.getElem_toArray, List.getElem_cons_zero, List.getElem_cons_succ, List.setIfInBounds_toArray, List.set_cons_zero, List.set_cons_succ]
  refine wpAnyH_take (i := 11) (oi := _) (v := ?_) rfl (by kernel_rfl) (by kernel_rfl) (by kernel_rfl) (fun _ _ _ h => h) (Or.inl ⟨by rfl, ?_⟩) hS ?_
  rotate_left
  · (intro w hSw; (try dsimp only at hSw); go_simp; (try with_reducible rfl))
  rotate_left
  simp only [Act.put, List.getElem_toArray, List.getElem_cons_zero, List.getElem_cons_succ, List.setIfInBounds_toArray, List.set_cons_zero, List.set_cons_succ]
  refine wpAnyH_take (i := 12) (oi := _) (v := ?_) rfl (by kernel_rfl) (by kernel_rfl) (by kernel_rfl) (fun _ _ _ h => h) (Or.inl ⟨by rfl, ?_⟩) hS ?_
  rotate_left
  · (intro w hSw; (try dsimp only at hSw); go_simp; (try with_reducible rfl))
  rotate_left
  simp only [Act.put, List.getElem_toArray, List.getElem_cons_zero, List.getElem_cons_succ, List.setIfInBounds_toArray, List.set_cons_zero, List.set_cons_succ]
  refine wpAnyH_ready (rs := [13]) (by kernel_rfl) (by simp) ?_
  refine AllReadyH.cons rfl (fun K hK => ?_) AllReadyH.nil
  rw [if_pos (by rfl)]
  go_simp
  refine (H7.out _ _ _ _ _ Rr Rt).mono ?_
  rintro e v1 ⟨rfl, b⟩
  have Q := hS.1
  refine hK.out _ _ ⟨⟨Q.1.next b, Q.2.1.next b, Q.2.2.1.next b, Q.2.2.2.1.next b, Q.2.2.2.2.1.next b, Q.2.2.2.2.2.1.below b, Q.2.2.2.2.2.2.1.below b, Q.2.2.2.2.2.2.2.1.below b, Q.2.2.2.2.2.2.2.2.below b⟩, (Q.1.next b).cell, (Q.2.1.next b).cell, (Q.2.2.1.next b).cell, (Q.2.2.2.1.next b).cell, (Q.2.2.2.2.1.next b).cell⟩ (fun hS' => ?_)
  have Rn' := Rn.below b
  have Ro' := Ro.below b
  have Rw' := Rw.below b
  have Rr' := Rr.below b
  have Rt' := Rt.below b
  have t' := Ext.trans t b
  clear hK K hS Q Rn Ro Rw Rr Rt t b
  have hS := hS'
  have Rn := Rn'
  have Ro := Ro'
  have Rw := Rw'
  have Rr := Rr'
  have Rt := Rt'
  have t := t'
  clear hS' Rn' Ro' Rw' Rr' Rt' t'
  try simp only [Act.put, List.getElem_toArray, List.getElem_cons_zero, List.getElem_cons_succ, List.setIfInBounds_toArray, List.set_cons_zero, List.set_cons_succ]
  refine wpAnyH_take (i := 14) (oi := _) (v := ?_) rfl (by kernel_rfl) (by kernel_rfl) (by kernel_rfl) (fun _ _ _ h => h) (Or.inl ⟨by rfl, ?_⟩) hS ?_
  rotate_left
  · (intro w hSw; (try dsimp only at hSw); go_simp; (try with_reducible rfl))
  rotate_left
  simp only [Act.put, List.getElem_toArray, List.getElem_cons_zero, List.getElem_cons_succ, List.setIfInBounds_toArray, List.set_cons_zero, List.set_cons_succ]
  refine wpAnyH_take (i := 15) (oi := _) (v := ?_) rfl (by kernel_rfl) (by kernel_rfl) (by kernel_rfl) (fun _ _ _ h => h) (Or.inl ⟨by rfl, ?_⟩) hS ?_
  rotate_left
  · (intro w hSw; (try dsimp only at hSw); go_simp; (try with_reducible rfl))
  rotate_left
  simp only [Act.put, List.getElem_toArray, List.getElem_cons_zero, List.getElem_cons_succ, List.setIfInBounds_toArray, List.set_cons_zero, List.set_cons_succ]
  refine wpAnyH_take (i := 16) (oi := _) (v := ?_) rfl (by kernel_rfl) (by kernel_rfl) (by kernel_rfl) (fun _ _ _ h => h) (Or.inl ⟨by rfl, ?_⟩) hS ?_
  rotate_left
  · (intro w hSw; (try dsimp only at hSw); go_simp; (try with_reducible rfl))
  rotate_left
  simp only [Act.put, List.getElem_toArray, List.getElem_cons_zero, List.getElem_cons_succ, List.setIfInBounds_toArray, List.set_cons_zero, List.set_cons_succ]
  refine wpAnyH_take (i := 17) (oi := _) (v := ?_) rfl (by kernel_rfl) (by kernel_rfl) (by kernel_rfl) (fun _ _ _ h => h) (Or.inl ⟨by rfl, ?_⟩) hS ?_
  rotate_left
  · (intro w hSw; (try dsimp only at hSw); go_simp; (try with_reducible rfl))
  rotate_left
  simp only [Act.put, List.getElem_toArray, List.getElem_cons_zero, List.getElem_cons_succ, List.setIfInBounds_toArray, List.set_cons_zero, List.set_cons_succ]
  refine wpAnyH_take (i := 18) (oi := _) (v := ?_) rfl (by kernel_rfl) (by kernel_rfl) (by kernel_rfl) (fun _ _ _ h => h) (Or.inl ⟨by rfl, ?_⟩) hS ?_
  rotate_left
  · (intro w hSw; (try dsimp only at hSw); go_simp; (try with_reducible rfl))
  rotate_left
  simp only [Act.put, List.getElem_toArray, List.getElem_cons_zero, List.getElem_cons_succ, List.setIfInBounds_toArray, List.set_cons_zero, List.set_cons_succ]
  refine wpAnyH_take (i := 19) (oi := _) (v := ?_) rfl (by kernel_rfl) (by kernel_rfl) (by kernel_rfl) (fun _ _ _ h => h) (Or.inl ⟨by rfl, ?_⟩) hS ?_
  rotate_left
  · (intro w hSw; (try dsimp only at hSw); go_simp; (try with_reducible rfl))
  rotate_left
  simp only [Act.put, List.getElem_toArray, List.getElem_cons_zero, List.getElem_cons_succ, List.setIfInBounds_toArray, List.set_cons_zero, List.set_cons_succ]
  refine wpAnyH_take (i := 20) (oi := _) (v := ?_) rfl (by kernel_rfl) (by kernel_rfl) (by kernel_rfl) (fun _ _ _ h => h) (Or.inl ⟨by rfl, ?_⟩) hS ?_
  rotate_left
  · (intro w hSw; (try dsimp only at hSw); go_simp; (try with_reducible rfl))
  rotate_left
  simp only [Act.put, List.getElem_toArray, List.getElem_cons_zero, List.getElem_cons_succ, List.setIfInBounds_toArray, List.set_cons_zero, List.set_cons_succ]
  refine wpAnyH_take (i := 21) (oi := _) (v := ?_) rfl (by kernel_rfl) (by kernel_rfl) (by kernel_rfl) (fun _ _ _ h => h) (Or.inl ⟨by rfl, ?_⟩) hS ?_
  rotate_left
  · (intro w hSw; (try dsimp only at hSw); go_simp; (try with_reducible rfl))
  rotate_left
  simp only [Act.put, List.getElem_toArray, List.getElem_cons_zero, List.getElem_cons_succ, List.setIfInBounds_toArray, List.set_cons_zero, List.set_cons_succ]
  refine wpAnyH_take (i := 23) (oi := _) (v := ?_) rfl (by kernel_rfl) (by kernel_rfl) (by kernel_rfl) (fun _ _ _ h => h) (Or.inl ⟨by rfl, ?_⟩) hS ?_
  rotate_left
  · (intro w hSw; (try dsimp only at hSw); go_simp; (try with_reducible rfl))
  rotate_left
  simp only [Act.put, List.getElem_toArray, List.getElem_cons_zero, List.getElem_cons_succ, List.setIfInBounds_toArray, List.set_cons_zero, List.set_cons_succ]
  refine wpAnyH_ready (rs := [22]) (by kernel_rfl) (by simp) ?_
  refine AllReadyH.cons rfl (fun K hK => ?_) AllReadyH.nil
  rw [if_pos (by rfl)]
  go_simp
  refine (H5.out _ _ _ Rw).mono ?_
  rintro e v2 ⟨rfl, b⟩
  have Q := hS.1
  refine hK.out _ _ ⟨⟨Q.1.next b, Q.2.1.next b, Q.2.2.1.next b, Q.2.2.2.1.next b, Q.2.2.2.2.1.next b, Q.2.2.2.2.2.1.below b, Q.2.2.2.2.2.2.1.below b, Q.2.2.2.2.2.2.2.1.below b, Q.2.2.2.2.2.2.2.2.below b⟩, (Q.1.next b).cell, (Q.2.1.next b).cell, (Q.2.2.1.next b).cell, (Q.2.2.2.1.next b).cell, (Q.2.2.2.2.1.next b).cell⟩ (fun hS' => ?_)
  have Rn' := Rn.below b
  have Ro' := Ro.below b
  have Rw' := Rw.below b
  have Rr' := Rr.below b
  have Rt' := Rt.below b
  have t' := Ext.trans t b
  clear hK K hS Q Rn Ro Rw Rr Rt t b
  have hS := hS'
  have Rn := Rn'
  have Ro := Ro'
  have Rw := Rw'
  have Rr := Rr'
  have Rt := Rt'
  have t := t'
  clear hS' Rn' Ro' Rw' Rr' Rt' t'
  try simp only [Act.put, List.getElem_toArray, List.getElem_cons_zero, List.getElem_cons_succ, List.setIfInBounds_toArray, List.set_cons_zero, List.set_cons_succ]
  refine wpAnyH_ready (rs := [24]) (by kernel_rfl) (by simp) ?_
  refine AllReadyH.cons rfl (fun K hK => ?_) AllReadyH.nil
  rw [if_pos (by rfl)]
  go_simp
  refine (H6.out _ _ _ Rn).mono ?_
  rintro e v3 ⟨rfl, b⟩
  have Q := hS.1
  refine hK.out _ _ ⟨⟨Q.1.next b, Q.2.1.next b, Q.2.2.1.next b, Q.2.2.2.1.next b, Q.2.2.2.2.1.next b, Q.2.2.2.2.2.1.below b, Q.2.2.2.2.2.2.1.below b, Q.2.2.2.2.2.2.2.1.below b, Q.2.2.2.2.2.2.2.2.below b⟩, (Q.1.next b).cell, (Q.2.1.next b).cell, (Q.2.2.1.next b).cell, (Q.2.2.2.1.next b).cell, (Q.2.2.2.2.1.next b).cell⟩ (fun hS' => ?_)
  have Rn' := Rn.below b
  have Ro' := Ro.below b
  have Rw' := Rw.below b
  have Rr' := Rr.below b
  have Rt' := Rt.below b
  have t' := Ext.trans t b
  clear hK K hS Q Rn Ro Rw Rr Rt t b
  have hS := hS'
  have Rn := Rn'
  have Ro := Ro'
  have Rw := Rw'
  have Rr := Rr'
  have Rt := Rt'
  have t := t'
  clear hS' Rn' Ro' Rw' Rr' Rt' t'
  try simp only [Act.put, List.getElem_toArray, List.getElem_cons_zero, List.getElem_cons_succ, List.setIfInBounds_toArray, List.set_cons_zero, List.set_cons_succ]
  refine wpAnyH_take (i := 25) (oi := _) (v := ?_) rfl (by kernel_rfl) (by kernel_rfl) (by kernel_rfl) (fun _ _ _ h => h) (Or.inl ⟨by rfl, ?_⟩) hS ?_
  rotate_left
  · (intro w hSw; (try dsimp only at hSw); go_simp; (try with_reducible rfl))
  rotate_left
  simp only [Act.put, List.getElem_toArray, List.getElem_cons_zero, List.getElem_cons_succ, List.setIfInBounds_toArray, List.set_cons_zero, List.set_cons_succ]
  refine wpAnyH_take (i := 26) (oi := _) (v := ?_) rfl (by kernel_rfl) (by kernel_rfl) (by kernel_rfl) (fun _ _ _ h => h) (Or.inl ⟨by rfl, ?_⟩) hS ?_
  rotate_left
  · (intro w hSw; (try dsimp only at hSw); go_simp; (try with_reducible rfl))
  rotate_left
  simp only [Act.put, List.getElem_toArray, List.getElem_cons_zero, List.getElem_cons_succ, List.setIfInBounds_toArray, List.set_cons_zero, List.set_cons_succ]
  refine wpAnyH_take (i := 27) (oi := _) (v := ?_) rfl (by kernel_rfl) (by kernel_rfl) (by kernel_rfl) (fun _ _ _ h => h) (Or.inl ⟨by rfl, ?_⟩) hS ?_
  rotate_left
  · (intro w hSw; (try dsimp only at hSw); go_simp; (try with_reducible rfl))
  rotate_left
  simp only [Act.put, List.getElem_toArray, List.getElem_cons_zero, List.getElem_cons_succ, List.setIfInBounds_toArray, List.set_cons_zero, List.set_cons_succ]
  refine wpAnyH_take (i := 28) (oi := _) (v := ?_) rfl (by kernel_rfl) (by kernel_rfl) (by kernel_rfl) (fun _ _ _ h => h) (Or.inl ⟨by rfl, ?_⟩) hS ?_
  rotate_left
  · (intro w hSw; (try dsimp only at hSw); go_simp; (try with_reducible rfl))
  rotate_left
  simp only [Act.put, List.getElem_toArray, List.getElem_cons_zero, List.getElem_cons_succ, List.setIfInBounds_toArray, List.set_cons_zero, List.set_cons_succ]
  refine wpAnyH_take (i := 29) (oi := _) (v := ?_) rfl (by kernel_rfl) (by kernel_rfl) (by kernel_rfl) (fun _ _ _ h => h) (Or.inl ⟨by rfl, ?_⟩) hS ?_
  rotate_left
  · (intro w hSw; (try dsimp only at hSw); go_simp; (try with_reducible rfl))
  rotate_left
  simp only [Act.put, List.getElem_toArray, List.getElem_cons_zero, List.getElem_cons_succ, List.setIfInBounds_toArray, List.set_cons_zero, List.set_cons_succ]
  refine wpAnyH_take (i := 31) (oi := _) (v := ?_) rfl (by kernel_rfl) (by kernel_rfl) (by kernel_rfl) (fun _ _ _ h => h) (Or.inl ⟨by rfl, ?_⟩) hS ?_
  rotate_left
  · (intro w hSw; (try dsimp only at hSw); go_simp; (try with_reducible rfl))
  rotate_left
  simp only [Act.put, List.getElem_toArray, List.getElem_cons_zero, List.getElem_cons_succ, List.setIfInBounds_toArray, List.set_cons_zero, List.set_cons_succ]
  refine wpAnyH_take (i := 32) (oi := _) (v := ?_) rfl (by kernel_rfl) (by kernel_rfl) (by kernel_rfl) (fun _ _ _ h => h) (Or.inl ⟨by rfl, ?_⟩) hS ?_
  rotate_left
  · (intro w hSw; (try dsimp only at hSw); go_simp; (try with_reducible rfl))
  rotate_left
  simp only [Act.put, List.getElem_toArray, List.getElem_cons_zero, List.getElem_cons_succ, List.setIfInBounds_toArray, List.set_cons_zero, List.set_cons_succ]
  refine wpAnyH_ready (rs := [30]) (by kernel_rfl) (by simp) ?_
  refine AllReadyH.cons rfl (fun K hK => ?_) AllReadyH.nil
  rw [if_pos (by rfl)]
  go_simp
  refine (H8.out _ _ _ Rw Ro).mono ?_
  rintro e v4 ⟨rfl, b⟩
  have Q := hS.1
  refine hK.out _ _ ⟨⟨Q.1.next b, Q.2.1.next b, Q.2.2.1.next b, Q.2.2.2.1.next b, Q.2.2.2.2.1.next b, Q.2.2.2.2.2.1.below b, Q.2.2.2.2.2.2.1.below b, Q.2.2.2.2.2.2.2.1.below b, Q.2.2.2.2.2.2.2.2.below b⟩, (Q.1.next b).cell, (Q.2.1.next b).cell, (Q.2.2.1.next b).cell, (Q.2.2.2.1.next b).cell, (Q.2.2.2.2.1.next b).cell⟩ (fun hS' => ?_)
  have Rn' := Rn.below b
  have Ro' := Ro.below b
  have Rw' := Rw.below b
  have Rr' := Rr.below b
  have Rt' := Rt.below b
  have t' := Ext.trans t b
  clear hK K hS Q Rn Ro Rw Rr Rt t b
  have hS := hS'
  have Rn := Rn'
  have Ro := Ro'
  have Rw := Rw'
  have Rr := Rr'
  have Rt := Rt'
  have t := t'
  clear hS' Rn' Ro' Rw' Rr' Rt' t'
  try simp only [Act.put, List.getElem_toArray, List.getElem_cons_zero, List.getElem_cons_succ, List.setIfInBounds_toArray, List.set_cons_zero, List.set_cons_succ]
  refine wpAnyH_ready (rs := [33]) (by kernel_rfl) (by simp) ?_
  refine AllReadyH.cons rfl (fun K hK => ?_) AllReadyH.nil
  rw [if_pos (by rfl)]
  go_simp
  refine (H9.out _ _ _ Rn Ro).mono ?_
  rintro e v5 ⟨rfl, b⟩
  have Q := hS.1
  refine hK.out _ _ ⟨⟨Q.1.next b, Q.2.1.next b, Q.2.2.1.next b, Q.2.2.2.1.next b, Q.2.2.2.2.1.next b, Q.2.2.2.2.2.1.below b, Q.2.2.2.2.2.2.1.below b, Q.2.2.2.2.2.2.2.1.below b, Q.2.2.2.2.2.2.2.2.below b⟩, (Q.1.next b).cell, (Q.2.1.next b).cell, (Q.2.2.1.next b).cell, (Q.2.2.2.1.next b).cell, (Q.2.2.2.2.1.next b).cell⟩ (fun hS' => ?_)
  have Rn' := Rn.below b
  have Ro' := Ro.below b
  have Rw' := Rw.below b
  have Rr' := Rr.below b
  have Rt' := Rt.below b
  have t' := Ext.trans t b
  clear hK K hS Q Rn Ro Rw Rr Rt t b
  have hS := hS'
  have Rn := Rn'
  have Ro := Ro'
  have Rw := Rw'
  have Rr := Rr'
  have Rt := Rt'
  have t := t'
  clear hS' Rn' Ro' Rw' Rr' Rt' t'
  try simp only [Act.put, List.getElem_toArray, List.getElem_cons_zero, List.getElem_cons_succ, List.setIfInBounds_toArray, List.set_cons_zero, List.set_cons_succ]
  refine wpAnyH_take (i := 34) (oi := _) (v := ?_) rfl (by kernel_rfl) (by kernel_rfl) (by kernel_rfl) (fun _ _ _ h => h) (Or.inl ⟨by rfl, ?_⟩) hS ?_
  rotate_left
  · (intro w hSw; (try dsimp only at hSw); go_simp; (try with_reducible rfl))
  rotate_left
  simp only [Act.put, List.getElem_toArray, List.getElem_cons_zero, List.getElem_cons_succ, List.setIfInBounds_toArray, List.set_cons_zero, List.set_cons_succ]
  refine wpAnyH_take (i := 35) (oi := _) (v := ?_) rfl (by kernel_rfl) (by kernel_rfl) (by kernel_rfl) (fun _ _ _ h => h) (Or.inl ⟨by rfl, ?_⟩) hS ?_
  rotate_left
  · (intro w hSw; (try dsimp only at hSw); go_simp; (try with_reducible rfl))
  rotate_left
  simp only [Act.put, List.getElem_toArray, List.getElem_cons_zero, List.getElem_cons_succ, List.setIfInBounds_toArray, List.set_cons_zero, List.set_cons_succ]
  refine wpAnyH_take (i := 36) (oi := _) (v := ?_) rfl (by kernel_rfl) (by kernel_rfl) (by kernel_rfl) (fun _ _ _ h => h) (Or.inl ⟨by rfl, ?_⟩) hS ?_
  rotate_left
  · (intro w hSw; (try dsimp only at hSw); go_simp; (try with_reducible rfl))
  rotate_left
  simp only [Act.put, List.getElem_toArray, List.getElem_cons_zero, List.getElem_cons_succ, List.setIfInBounds_toArray, List.set_cons_zero, List.set_cons_succ]
  refine wpAnyH_take (i := 37) (oi := _) (v := ?_) rfl (by kernel_rfl) (by kernel_rfl) (by kernel_rfl) (fun _ _ _ h => h) (Or.inl ⟨by rfl, ?_⟩) hS ?_
  rotate_left
  · (intro w hSw; (try dsimp only at hSw); go_simp; (try with_reducible rfl))
  rotate_left
  simp only [Act.put, List.getElem_toArray, List.getElem_cons_zero, List.getElem_cons_succ, List.setIfInBounds_toArray, List.set_cons_zero, List.set_cons_succ]
  refine wpAnyH_take (i := 38) (oi := _) (v := ?_) rfl (by kernel_rfl) (by kernel_rfl) (by kernel_rfl) (fun _ _ _ h => h) (Or.inl ⟨by rfl, ?_⟩) hS ?_
  rotate_left
  · (intro w hSw; (try dsimp only at hSw); go_simp; (try with_reducible rfl))
  rotate_left
  simp only [Act.put, List.getElem_toArray, List.getElem_cons_zero, List.getElem_cons_succ, List.setIfInBounds_toArray, List.set_cons_zero, List.set_cons_succ]
  refine wpAnyH_ready (rs := [39]) (by kernel_rfl) (by simp) ?_
  refine AllReadyH.cons rfl (fun K hK => ?_) AllReadyH.nil
  rw [if_pos (by rfl)]
  go_simp
  refine (H10.out _ _ _ _ _ Rw Rn).mono ?_
  rintro e v6 ⟨rfl, b⟩
  have Q := hS.1
  refine hK.out _ _ ⟨⟨Q.1.next b, Q.2.1.next b, Q.2.2.1.next b, Q.2.2.2.1.next b, Q.2.2.2.2.1.next b, Q.2.2.2.2.2.1.below b, Q.2.2.2.2.2.2.1.below b, Q.2.2.2.2.2.2.2.1.below b, Q.2.2.2.2.2.2.2.2.below b⟩, (Q.1.next b).cell, (Q.2.1.next b).cell, (Q.2.2.1.next b).cell, (Q.2.2.2.1.next b).cell, (Q.2.2.2.2.1.next b).cell⟩ (fun hS' => ?_)
  have Rn' := Rn.below b
  have Ro' := Ro.below b
  have Rw' := Rw.below b
  have Rr' := Rr.below b
  have Rt' := Rt.below b
  have t' := Ext.trans t b
  clear hK K hS Q Rn Ro Rw Rr Rt t b
  have hS := hS'
  have Rn := Rn'
  have Ro := Ro'
  have Rw := Rw'
  have Rr := Rr'
  have Rt := Rt'
  have t := t'
  clear hS' Rn' Ro' Rw' Rr' Rt' t'
  try simp only [Act.put, List.getElem_toArray, List.getElem_cons_zero, List.getElem_cons_succ, List.setIfInBounds_toArray, List.set_cons_zero, List.set_cons_succ]
  refine wpAnyH_take (i := 40) (oi := _) (v := ?_) rfl (by kernel_rfl) (by kernel_rfl) (by kernel_rfl) (fun _ _ _ h => h) (Or.inl ⟨by rfl, ?_⟩) hS ?_
  rotate_left
  · (intro w hSw; (try dsimp only at hSw); go_simp; (try with_reducible rfl))
  rotate_left
  simp only [Act.put, List.getElem_toArray, List.getElem_cons_zero, List.getElem_cons_succ, List.setIfInBounds_toArray, List.set_cons_zero, List.set_cons_succ]
  refine wpAnyH_take (i := 41) (oi := _) (v := ?_) rfl (by kernel_rfl) (by kernel_rfl) (by kernel_rfl) (fun _ _ _ h => h) (Or.inl ⟨by rfl, ?_⟩) hS ?_
  rotate_left
  · (intro w hSw; (try dsimp only at hSw); go_simp; (try with_reducible rfl))
  rotate_left
  simp only [Act.put, List.getElem_toArray, List.getElem_cons_zero, List.getElem_cons_succ, List.setIfInBounds_toArray, List.set_cons_zero, List.set_cons_succ]
  refine wpAnyH_take (i := 42) (oi := _) (v := ?_) rfl (by kernel_rfl) (by kernel_rfl) (by kernel_rfl) (fun _ _ _ h => h) (Or.inl ⟨by rfl, ?_⟩) hS ?_
  rotate_left
  · (intro w hSw; (try dsimp only at hSw); go_simp; (try with_reducible rfl))
  rotate_left
  simp only [Act.put, List.getElem_toArray, List.getElem_cons_zero, List.getElem_cons_succ, List.setIfInBounds_toArray, List.set_cons_zero, List.set_cons_succ]
  refine wpAnyH_take (i := 43) (oi := _) (v := ?_) rfl (by kernel_rfl) (by kernel_rfl) (by kernel_rfl) (fun _ _ _ h => h) (Or.inl ⟨by rfl, ?_⟩) hS ?_
  rotate_left
  · (intro w hSw; have sq := run_string_bs (P := Try.prog) c2 32 9 5 Try.underlying32 Try.underlying5 Try.underlying9 hSw.1.2.2.2.2.2.2.2.1; (try dsimp only at hSw); go_simp; (try with_reducible rfl))
  rotate_left
  simp only [Act.put, List.getElem_toArray, List.getElem_cons_zero, List.getElem_cons_succ, List.setIfInBounds_toArray, List.set_cons_zero, List.set_cons_succ]
  refine wpAnyH_take (i := 44) (oi := _) (v := ?_) rfl (by kernel_rfl) (by kernel_rfl) (by kernel_rfl) (fun _ _ _ h => h) (Or.inl ⟨by rfl, ?_⟩) hS ?_
  rotate_left
  · (intro w hSw; (try dsimp only at hSw); go_simp; (try with_reducible rfl))
  rotate_left
  simp only [Act.put, List.getElem_toArray, List.getElem_cons_zero, List.getElem_cons_succ, List.setIfInBounds_toArray, List.set_cons_zero, List.set_cons_succ]
  refine wpAnyH_take (i := 45) (oi := _) (v := ?_) rfl (by kernel_rfl) (by kernel_rfl) (by kernel_rfl) (fun _ _ _ h => h) (Or.inl ⟨by rfl, ?_⟩) hS ?_
  rotate_left
  · (intro w hSw; have sq := run_string_bs (P := Try.prog) d 32 9 5 Try.underlying32 Try.underlying5 Try.underlying9 hSw.1.2.2.2.2.2.2.2.2; (try dsimp only at hSw); go_simp; (try with_reducible rfl))
  rotate_left
  simp only [Act.put, List.getElem_toArray, List.getElem_cons_zero, List.getElem_cons_succ, List.setIfInBounds_toArray, List.set_cons_zero, List.set_cons_succ]
  refine wpAnyH_take (i := 46) (oi := _) (v := ?_) rfl (by kernel_rfl) (by kernel_rfl) (by kernel_rfl) (fun _ _ _ h => h) (Or.inl ⟨by rfl, ?_⟩) hS ?_
  rotate_left
  · (intro w hSw; (try dsimp only at hSw); go_simp; (try with_reducible rfl))
  rotate_left
  simp only [Act.put, List.getElem_toArray, List.getElem_cons_zero, List.getElem_cons_succ, List.setIfInBounds_toArray, List.set_cons_zero, List.set_cons_succ]
  refine wpAnyH_take (i := 47) (oi := _) (v := ?_) rfl (by kernel_rfl) (by kernel_rfl) (by kernel_rfl) (fun _ _ _ h => h) (Or.inl ⟨by rfl, ?_⟩) hS ?_
  rotate_left
  · (intro w hSw; (try dsimp only at hSw); go_simp; (try with_reducible rfl))
  rotate_left
  simp only [Act.put, List.getElem_toArray, List.getElem_cons_zero, List.getElem_cons_succ, List.setIfInBounds_toArray, List.set_cons_zero, List.set_cons_succ]
  refine wpAnyH_take (i := 48) (oi := _) (v := ?_) rfl (by kernel_rfl) (by kernel_rfl) (by kernel_rfl) (fun _ _ _ h => h) (Or.inl ⟨by rfl, ?_⟩) hS ?_
  rotate_left
  · (intro w hSw; (try dsimp only at hSw); go_simp; (try with_reducible rfl))
  rotate_left
  simp only [Act.put, List.getElem_toArray, List.getElem_cons_zero, List.getElem_cons_succ, List.setIfInBounds_toArray, List.set_cons_zero, List.set_cons_succ]
  refine wpAnyH_done (by kernel_rfl) ?_ _
  clear hS
  go_wp2
  go_ret
  exact ⟨rfl, t⟩

/-- what is read, program and reference -/
theorem nreads_all (bs : List UInt8) (l : Nat) (hl : bs.length = l) : ∃ (C : Int) (ri ra rq : Nat) (rt : Int) (L : Nat) (rr : List NRec), L ≤ 1000 ∧
    (∀ A q W, Bs W A l bs → Calls Try.prog 13 #[.slice A l q] W fun e w' => (∃ A' c', e = .returned (.tuple #[.agg #[.int .u32 (ri : Int), .int .u32 (ra : Int), .int .u32 (rq : Int), .int .i64 rt, .slice A' L c'], .int .i64 C]) ∧ Rs w' A' L rr) ∧ Below W.heap.size W w') ∧
    (∀ A q W, Bs W A l bs → Calls Try.prog 18 #[.slice A l q] W fun e w' => (∃ A' c', e = .returned (.tuple #[.agg #[.int .u32 (ri : Int), .int .u32 (ra : Int), .int .u32 (rq : Int), .int .i64 rt, .slice A' L c'], .int .i64 C]) ∧ Rs w' A' L rr) ∧ Below W.heap.size W w') := by
  have z : ∀ w', Rs w' none 0 [] := fun w' => ⟨rfl, .inl rfl⟩
  by_cases hn : l = 0 ∨ l = 128
  · by_cases hr : ∃ id age sq st rs, NoteIs bs id age sq st rs
    · obtain ⟨id, age, sq, st, rs, h⟩ := hr
      obtain ⟨h1, h2, h3, h4, h5, h6, h7⟩ := h.bounds
      exact ⟨0, id, age, sq, st, rs.length, rs, by omega, fun A q W hW => nread_yes h A q W hW, fun A q W hW => rnread_yes h A q W hW⟩
    · have hno : ∀ id age sq st rs, ¬ NoteIs bs id age sq st rs := fun i1 i2 i3 i4 i5 h => hr ⟨i1, i2, i3, i4, i5, h⟩
      exact ⟨90, 0, 0, 0, 0, 0, [], by omega, fun A q W hW => (nread_no hn hno A q W hW).mono fun e w' ⟨he, hb⟩ => ⟨⟨none, 0, he, z w'⟩, hb⟩, fun A q W hW => (rnread_no hn hno A q W hW).mono fun e w' ⟨he, hb⟩ => ⟨⟨none, 0, he, z w'⟩, hb⟩⟩
  · exact ⟨3, 0, 0, 0, 0, 0, [], by omega, fun A q W _ => (nread_text A l q (by omega) (by omega) W).mono fun e w' ⟨he, hb⟩ => ⟨⟨none, 0, he, z w'⟩, hb⟩, fun A q W _ => (rnread_text A l q (by omega) (by omega) W).mono fun e w' ⟨he, hb⟩ => ⟨⟨none, 0, he, z w'⟩, hb⟩⟩

theorem ndoes_all (id age sq : Nat) (st : Int) (A : Option Addr) (n q : Nat) (rs : List NRec) (id' age' sq' : Nat) (st' : Int) (B : Option Addr) (m k : Nat) (ss : List NRec) (b1 : id < 4294967296) (hb : ∀ r ∈ rs, r.sl < 256 ∧ r.su < 4294967296) (D : Option Addr) (l d : Nat) (bs : List UInt8) (w : World) (hx : Rs w A n rs) (hy : Rs w B m ss) (hd : Bs w D l bs) : Calls Try.prog 7 #[.agg #[.int .u32 (id : Int), .int .u32 (age : Int), .int .u32 (sq : Int), .int .i64 st, .slice A n q], .agg #[.int .u32 (id' : Int), .int .u32 (age' : Int), .int .u32 (sq' : Int), .int .i64 st', .slice B m k], .slice D l d] w fun e w' => e = .returned (.bool true) ∧ Below w.heap.size w w' := by
  by_cases h1 : 1000 < n
  · exact ndoes_long id age sq st A n q id' age' sq' st' B m k D l d (.inl h1) w
  by_cases h2 : 1000 < m
  · exact ndoes_long id age sq st A n q id' age' sq' st' B m k D l d (.inr (.inl ⟨by omega, h2⟩)) w
  by_cases h3 : 1000 < l
  · exact ndoes_long id age sq st A n q id' age' sq' st' B m k D l d (.inr (.inr ⟨by omega, by omega, h3⟩)) w
  obtain ⟨C, ri, ra, rq, rt, L, rr, hL, r1, r2⟩ := nreads_all bs l hd.1
  have h8 : ∀ r ∈ rs, r.sl < 256 := fun r h => (hb r h).1
  obtain ⟨S, hS⟩ : ∃ S : Bool, S = true ↔ id = id' ∧ age = age' ∧ sq = sq' ∧ st = st' ∧ rs = ss := by
    by_cases h : id = id' ∧ age = age' ∧ sq = sq' ∧ st = st' ∧ rs = ss
    · exact ⟨true, by simp [h]⟩
    · exact ⟨false, by simp [h]⟩
  have core := fun E ws h1 h2 h5 h6 => ndoes_core id age sq st A n q rs id' age' sq' st' B m k ss D l d bs (by omega) (by omega) (by omega) E C ws S ri ra rq rt L rr h1 h2 r1 r2 h5 h6
    (fun A' c' A'' c'' W hX hY => rnsame_any ri ra rq rt A' L c' rr ri ra rq rt A'' L c'' rr true (by simp) (by omega) W hX hY)
    (fun A q W hX hY => nsame_any id age sq st A n q rs id' age' sq' st' B m k ss S hS (by omega) W hX hY)
    (fun A q W hX hY => rnsame_any id age sq st A n q rs id' age' sq' st' B m k ss S hS (by omega) W hX hY)
    (fun A' q' A q W hX hY => rnsame_any id age sq st A' n q' rs id age sq st A n q rs true (by simp) (by omega) W hX hY) w hx hy hd
  cases hB : noteB age sq st rs with
  | true =>
    have hp := noteB_parts hB
    obtain ⟨s, rfl⟩ : ∃ s : Nat, st = (s : Int) := ⟨st.toNat, by omega⟩
    exact core 0 _ (fun A q W h => (nwrite_any id age sq s rs n b1 hb hB A q W h).mono fun e w' ⟨g, he, hB, hbl⟩ => ⟨_, _, _, he, hB.bs, hbl⟩)
      (fun A q W h => (rnwrite_ok id age sq s A n q rs b1 hb hB W h).mono fun e w' ⟨P, c, he, hB, hbl⟩ => ⟨_, _, _, he, hB, hbl⟩)
      (fun A q W h => ncheck_any id age sq s A n q rs (by omega) h8 0 (by rw [hB]; rfl) W h) (fun A q W h => rncheck_any id age sq s A n q rs (by omega) h8 0 (by rw [hB]; rfl) W h)
  | false =>
    exact core 8 [] (fun A q W h => (nwrite_bad id age sq st A n q rs (by omega) h8 hB W h).mono fun e w' ⟨he, hbl⟩ => ⟨_, _, _, he, Bs.nil _ _, hbl⟩)
      (fun A q W h => (rnwrite_bad id age sq st A n q rs (by omega) h8 hB W h).mono fun e w' ⟨he, hbl⟩ => ⟨_, _, _, he, Bs.nil _ _, hbl⟩)
      (fun A q W h => ncheck_any id age sq st A n q rs (by omega) h8 8 (by rw [hB]; rfl) W h) (fun A q W h => rncheck_any id age sq st A n q rs (by omega) h8 8 (by rw [hB]; rfl) W h)

theorem noteDoes_walk (w : World) (cs : List Value) (y : (Ty.st (.prod .u32 (.prod .u32 (.prod .u32 (.prod .int (.prod (.sl (Ty.st (.prod .byte (.prod .bool (.prod .u32 .unit))))) .unit)))))).T) (h0 : Reads w (Ty.st (.prod .u32 (.prod .u32 (.prod .u32 (.prod .int (.prod (.sl (Ty.st (.prod .byte (.prod .bool (.prod .u32 .unit))))) .unit)))))) y cs) (ds : List Value) (z : (Ty.st (.prod .u32 (.prod .u32 (.prod .u32 (.prod .int (.prod (.sl (Ty.st (.prod .byte (.prod .bool (.prod .u32 .unit))))) .unit)))))).T) (h1 : Reads w (Ty.st (.prod .u32 (.prod .u32 (.prod .u32 (.prod .int (.prod (.sl (Ty.st (.prod .byte (.prod .bool (.prod .u32 .unit))))) .unit)))))) z ds) (v2 : Value) (bs : (Ty.sl .byte).T) (h2 : Reads w (.sl .byte) bs [v2]) :
    Calls Try.prog 7 #[.agg cs.toArray, .agg ds.toArray, v2] w fun e w' => e = .returned (.bool true) ∧ Below w.heap.size w w' := by
  obtain ⟨id, age, sq, st, A, n, q, rs, hx, b1, b2, b3, _, _, _, hR, hb⟩ := note_open h0
  obtain ⟨id', age', sq', st', B, m, k, ss, hx', b1', b2', b3', _, _, _, hR', hb'⟩ := note_open h1
  obtain ⟨D, d, rfl, _, _, hbs⟩ := one_bytes h2
  rw [hx, hx']
  exact ndoes_all id age sq st A n q rs id' age' sq' st' B m k ss b1 hb D _ d bs w hR hR' hbs
end Go.Proofs.Ytggdfecgkhnkkaa
