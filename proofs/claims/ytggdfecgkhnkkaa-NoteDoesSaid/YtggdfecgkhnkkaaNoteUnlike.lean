/- Layer 11 (note): unlike notes have unlike blocks: the statement. -/
import Derived.Test.YtggdfecgkhnkkaaNoteSame
import Derived.Test.YtggdfecgkhnkkaaNotePlain2
namespace Go.Proofs.Ytggdfecgkhnkkaa
open Go Go.RowKit
set_option linter.unusedSimpArgs false
set_option linter.unusedVariables false

set_option maxRecDepth 100000 in
set_option maxHeartbeats 1000000 in
theorem unlike_long (id age sq : Nat) (st : Int) (A : Option Addr) (n q : Nat) (rs : List NRec) (id' age' sq' : Nat) (st' : Int) (B : Option Addr) (m k : Nat) (ss : List NRec) (hl : 1000 < n ∨ (n ≤ 1000 ∧ 1000 < m)) (w : World) (hx : Rs w A n rs) (hy : Rs w B m ss) : Calls Try.prog 4 #[.agg #[.int .u32 (id : Int), .int .u32 (age : Int), .int .u32 (sq : Int), .int .i64 st, .slice A n q], .agg #[.int .u32 (id' : Int), .int .u32 (age' : Int), .int .u32 (sq' : Int), .int .i64 st', .slice B m k]] w fun e w' => e = .returned (.bool true) ∧ Below w.heap.size w w' := by
  go_enter Try.func4, Try.ntmps4
  go_wp2_with fail
  have A0 := BoxOf.alloc (BoxOf.new w #[.int .u32 (id : Int), .int .u32 (age : Int), .int .u32 (sq : Int), .int .i64 st, .slice A n q] 25) (.cells #[.int .u32 (id' : Int), .int .u32 (age' : Int), .int .u32 (sq' : Int), .int .i64 st', .slice B m k] 25)
  have B0 := BoxOf.new' (w.alloc (.cells #[.int .u32 (id : Int), .int .u32 (age : Int), .int .u32 (sq : Int), .int .i64 st, .slice A n q] 25)) (w.heap.size + 1) #[.int .u32 (id' : Int), .int .u32 (age' : Int), .int .u32 (sq' : Int), .int .i64 st', .slice B m k] 25 (by simp)
  have t0 := Ext.alloc (Ext.alloc (Below.refl w.heap.size w) (.cells #[.int .u32 (id : Int), .int .u32 (age : Int), .int .u32 (sq : Int), .int .i64 st, .slice A n q] 25)) (.cells #[.int .u32 (id' : Int), .int .u32 (age' : Int), .int .u32 (sq' : Int), .int .i64 st', .slice B m k] 25)
  have X0 := (hx.alloc (.cells #[.int .u32 (id : Int), .int .u32 (age : Int), .int .u32 (sq : Int), .int .i64 st, .slice A n q] 25)).alloc (.cells #[.int .u32 (id' : Int), .int .u32 (age' : Int), .int .u32 (sq' : Int), .int .i64 st', .slice B m k] 25)
  have Y0 := (hy.alloc (.cells #[.int .u32 (id : Int), .int .u32 (age : Int), .int .u32 (sq : Int), .int .i64 st, .slice A n q] 25)).alloc (.cells #[.int .u32 (id' : Int), .int .u32 (age' : Int), .int .u32 (sq' : Int), .int .i64 st', .slice B m k] 25)
  clear hx hy
  refine (nalive_any _).mono ?_
  rintro e w1 ⟨rfl, b1⟩
  have A1 := A0.next b1
  have B1 := B0.next b1
  have X1 := X0.below b1
  have Y1 := Y0.below b1
  have t1 := Ext.trans t0 b1
  have x1 := A1.cell
  have y1 := B1.cell
  clear A0 B0 X0 Y0 t0 b1
  rcases hl with h | ⟨h, h'⟩
  · have d1 : decide ((1000 : Int) < (n : Int)) = true := decide_eq_true (by omega)
    have d2 : (1000 : Int) < (n : Int) := by omega
    go_wp2
    go_ret
    exact ⟨rfl, t1⟩
  · have d1 : decide ((1000 : Int) < (n : Int)) = false := decide_eq_false (by omega)
    have d2 : ¬ (1000 : Int) < (n : Int) := by omega
    have d3 : decide ((1000 : Int) < (m : Int)) = true := decide_eq_true (by omega)
    have d4 : (1000 : Int) < (m : Int) := by omega
    go_wp2
    go_ret
    exact ⟨rfl, t1⟩

def mBool (s : Value) (n : Nat) : Nat := match s with | .bool true => n | _ => 0
def recsB (xs ys : List NRec) : Bool := (xs.length == ys.length) && (List.zipWith recB xs ys).all id
theorem recsB_iff {xs ys : List NRec} : recsB xs ys = true ↔ xs = ys := by
  unfold recsB
  rw [Bool.and_eq_true, beq_iff_eq]
  constructor
  · rintro ⟨h1, h2⟩
    refine recs_ext h1 fun j h3 h4 => ?_
    rw [List.all_eq_true] at h2
    have := h2 (recB xs[j] ys[j]) (by
      rw [List.mem_iff_getElem]
      exact ⟨j, by simp; omega, by simp⟩)
    simpa using this
  · rintro rfl
    refine ⟨rfl, ?_⟩
    rw [List.all_eq_true]
    intro b hb
    rw [List.mem_iff_getElem] at hb
    obtain ⟨j, hj, rfl⟩ := hb
    simp only [List.getElem_zipWith, id]
    exact recB_iff.2 rfl
theorem nwrite_all (id age sq : Nat) (st : Int) (A : Option Addr) (n q : Nat) (rs : List NRec) (hn : n ≤ 1000) (hi : id < 4294967296) (hb : ∀ r ∈ rs, r.sl < 256 ∧ r.su < 4294967296) :
    ∃ (E : Int) (ws : List UInt8), (∀ W, Rs W A n rs → Calls Try.prog 11 #[.agg #[.int .u32 (id : Int), .int .u32 (age : Int), .int .u32 (sq : Int), .int .i64 st, .slice A n q]] W fun e w' => ∃ P k c, e = Ending.returned (.tuple #[.slice P k c, .int .i64 E]) ∧ Bs w' P k ws ∧ Below W.heap.size W w') ∧ ((E != 0) = true ∨ (E = 0 ∧ ∃ s : Nat, st = (s : Int) ∧ noteB age sq (s : Int) rs = true ∧ ws = noteBlock id age sq s rs)) := by
  cases hB : noteB age sq st rs with
  | true =>
    have hp := noteB_parts hB
    obtain ⟨s, rfl⟩ : ∃ s : Nat, st = (s : Int) := ⟨st.toNat, by omega⟩
    exact ⟨0, _, fun W h => (nwrite_any id age sq s rs n hi hb hB A q W h).mono fun e w' ⟨g, he, hB, hbl⟩ => ⟨_, _, _, he, hB.bs, hbl⟩, .inr ⟨rfl, s, rfl, hB, rfl⟩⟩
  | false => exact ⟨8, [], fun W h => (nwrite_bad id age sq st A n q rs hn (fun r h => (hb r h).1) hB W h).mono fun e w' ⟨he, hbl⟩ => ⟨_, _, _, he, Bs.nil _ _, hbl⟩, .inl rfl⟩

def UnE (E1 E2 : Int) (ws vs : List UInt8) (S : Bool) : Prop := (E1 != 0) = true ∨ (E1 = 0 ∧ (E2 != 0) = true) ∨ (E1 = 0 ∧ E2 = 0 ∧ ((ws == vs) == S) = true)
set_option maxRecDepth 100000 in
set_option maxHeartbeats 4000000 in
theorem unlike_diff (id age sq : Nat) (st : Int) (A : Option Addr) (n q : Nat) (rs : List NRec) (id' age' sq' : Nat) (st' : Int) (B : Option Addr) (m k : Nat) (ss : List NRec) (hn : n ≤ 1000) (hm : m ≤ 1000)
    (hd : (((id : Int) == (id' : Int)) = false) ∨ (((id : Int) == (id' : Int)) = true ∧ ((age : Int) == (age' : Int)) = false) ∨ (((id : Int) == (id' : Int)) = true ∧ ((age : Int) == (age' : Int)) = true ∧ ((sq : Int) == (sq' : Int)) = false) ∨ (((id : Int) == (id' : Int)) = true ∧ ((age : Int) == (age' : Int)) = true ∧ ((sq : Int) == (sq' : Int)) = true ∧ (st == st') = false) ∨ (((id : Int) == (id' : Int)) = true ∧ ((age : Int) == (age' : Int)) = true ∧ ((sq : Int) == (sq' : Int)) = true ∧ (st == st') = true ∧ ((n : Int) == (m : Int)) = false))
    (E1 E2 : Int) (ws vs : List UInt8) (h1 : ∀ W, Rs W A n rs → Calls Try.prog 11 #[.agg #[.int .u32 (id : Int), .int .u32 (age : Int), .int .u32 (sq : Int), .int .i64 st, .slice A n q]] W fun e w' => ∃ P k c, e = Ending.returned (.tuple #[.slice P k c, .int .i64 E1]) ∧ Bs w' P k ws ∧ Below W.heap.size W w') (h2 : ∀ W, Rs W B m ss → Calls Try.prog 11 #[.agg #[.int .u32 (id' : Int), .int .u32 (age' : Int), .int .u32 (sq' : Int), .int .i64 st', .slice B m k]] W fun e w' => ∃ P k c, e = Ending.returned (.tuple #[.slice P k c, .int .i64 E2]) ∧ Bs w' P k vs ∧ Below W.heap.size W w') (hE : UnE E1 E2 ws vs false)
    (w : World) (hx : Rs w A n rs) (hy : Rs w B m ss) : Calls Try.prog 4 #[.agg #[.int .u32 (id : Int), .int .u32 (age : Int), .int .u32 (sq : Int), .int .i64 st, .slice A n q], .agg #[.int .u32 (id' : Int), .int .u32 (age' : Int), .int .u32 (sq' : Int), .int .i64 st', .slice B m k]] w fun e w' => e = .returned (.bool true) ∧ Below w.heap.size w w' := by
  have HW1 := Lib.hid h1
  have HW2 := Lib.hid h2
  have HE : Hid ((E1 != 0) = true ∨ (E1 = 0 ∧ (E2 != 0) = true) ∨ (E1 = 0 ∧ E2 = 0 ∧ ((ws == vs) == false) = true)) := hE
  have hne : ¬ (id = id' ∧ age = age' ∧ sq = sq' ∧ st = st' ∧ rs = ss) := by
    rintro ⟨rfl, rfl, rfl, rfl, rfl⟩
    have h1 := hx.1
    have h2 := hy.1
    simp at hd
    omega
  have HS1 := Lib.hid (fun W hX hY => nsame_any id age sq st A n q rs id' age' sq' st' B m k ss false (by simp; intro a b c d e; exact hne ⟨a, b, c, d, e⟩) (by omega) W hX hY)
  have HS2 := Lib.hid (fun W hX hY => nsame_any id' age' sq' st' B m k ss id age sq st A n q rs false (by simp; intro a b c d e; exact hne ⟨a.symm, b.symm, c.symm, d.symm, e.symm⟩) (by omega) W hY hX)
  have HS3 := Lib.hid (fun W hX => nsame_any id age sq st A n q rs id age sq st A n q rs true (by simp) (by omega) W hX hX)
  have HD := Lib.hid hd
  clear h1 h2 hE hne hd
  go_enter Try.func4, Try.ntmps4
  go_wp2_with fail
  have A0 := BoxOf.alloc (BoxOf.new w #[.int .u32 (id : Int), .int .u32 (age : Int), .int .u32 (sq : Int), .int .i64 st, .slice A n q] 25) (.cells #[.int .u32 (id' : Int), .int .u32 (age' : Int), .int .u32 (sq' : Int), .int .i64 st', .slice B m k] 25)
  have B0 := BoxOf.new' (w.alloc (.cells #[.int .u32 (id : Int), .int .u32 (age : Int), .int .u32 (sq : Int), .int .i64 st, .slice A n q] 25)) (w.heap.size + 1) #[.int .u32 (id' : Int), .int .u32 (age' : Int), .int .u32 (sq' : Int), .int .i64 st', .slice B m k] 25 (by simp)
  have t0 := Ext.alloc (Ext.alloc (Below.refl w.heap.size w) (.cells #[.int .u32 (id : Int), .int .u32 (age : Int), .int .u32 (sq : Int), .int .i64 st, .slice A n q] 25)) (.cells #[.int .u32 (id' : Int), .int .u32 (age' : Int), .int .u32 (sq' : Int), .int .i64 st', .slice B m k] 25)
  have X0 := (hx.alloc (.cells #[.int .u32 (id : Int), .int .u32 (age : Int), .int .u32 (sq : Int), .int .i64 st, .slice A n q] 25)).alloc (.cells #[.int .u32 (id' : Int), .int .u32 (age' : Int), .int .u32 (sq' : Int), .int .i64 st', .slice B m k] 25)
  have Y0 := (hy.alloc (.cells #[.int .u32 (id : Int), .int .u32 (age : Int), .int .u32 (sq : Int), .int .i64 st, .slice A n q] 25)).alloc (.cells #[.int .u32 (id' : Int), .int .u32 (age' : Int), .int .u32 (sq' : Int), .int .i64 st', .slice B m k] 25)
  clear hx hy
  refine (nalive_any _).mono ?_
  rintro e w1 ⟨rfl, b1⟩
  have A1 := A0.next b1
  have B1 := B0.next b1
  have X1 := X0.below b1
  have Y1 := Y0.below b1
  have t1 := Ext.trans t0 b1
  have x1 := A1.cell
  have y1 := B1.cell
  clear A0 B0 X0 Y0 t0 b1
  have d1 : decide ((1000 : Int) < (n : Int)) = false := decide_eq_false (by omega)
  have d2 : ¬ (1000 : Int) < (n : Int) := by omega
  have d3 : decide ((1000 : Int) < (m : Int)) = false := decide_eq_false (by omega)
  have d4 : ¬ (1000 : Int) < (m : Int) := by omega
  go_wp2_with fail
  refine (HW1.out _ X1).mono ?_
  rintro e w2 ⟨P1, k1, c1, rfl, p1, b2⟩
  have A2 := A1.next b2
  have B2 := B1.next b2
  have X2 := X1.below b2
  have Y2 := Y1.below b2
  have t2 := Ext.trans t1 b2
  have x2 := A2.cell
  have y2 := B2.cell
  clear A1 B1 X1 Y1 t1 b2 x1 y1
  go_wp2_with fail
  refine (HW2.out _ Y2).mono ?_
  rintro e w3 ⟨P2, k2, c2, rfl, p2, b3⟩
  have A3 := A2.next b3
  have B3 := B2.next b3
  have X3 := X2.below b3
  have Y3 := Y2.below b3
  have p1 := p1.below b3
  have t3 := Ext.trans t2 b3
  have x3 := A3.cell
  have y3 := B3.cell
  clear A2 B2 X2 Y2 t2 b3 x2 y2
  clear d1 d2 d3 d4
  have hnn : ∃ nn : Int, nn = (n : Int) := ⟨_, rfl⟩
  go_upto_region 6 with fail
  go_cut [10] from 34 to 68 (fun s wx => s = .bool false ∧ wx = w3)
  case first =>
    rcases HD.out with e1 | ⟨e1, e2⟩ | ⟨e1, e2, e3⟩ | ⟨e1, e2, e3, e4⟩ | ⟨e1, e2, e3, e4, e5⟩
    all_goals
      clear HD HE
      go_wp2_with fail
      go_meet
      exact ⟨rfl, rfl⟩
  case rest =>
    obtain ⟨rfl, rfl⟩ := hcut
    clear HD
    go_wp2_with fail
    go_loopw [10, 11] (fun s i wr => s = .bool false ∧ i = .int .i64 0 ∧ wr = wc) (fun _ _ _ => 0)
    case atStart => exact ⟨rfl, rfl, rfl⟩
    case round =>
      obtain ⟨rfl, rfl, rfl⟩ := hrel
      have hz : (0 : Int) < (n : Int) ∨ ¬ (0 : Int) < (n : Int) := by omega
      rcases hz with hz | hz
      · clear hnn
        go_wp2_with fail
        refine (HS1.out _ X3 Y3).mono ?_
        rintro e w4 ⟨rfl, b4⟩
        have A4 := A3.next b4
        have B4 := B3.next b4
        have X4 := X3.below b4
        have Y4 := Y3.below b4
        have p1 := p1.below b4
        have p2 := p2.below b4
        have t4 := Ext.trans t3 b4
        have x4 := A4.cell
        have y4 := B4.cell
        clear A3 B3 X3 Y3 t3 b4 x3 y3
        go_wp2_with fail
        refine (HS2.out _ X4 Y4).mono ?_
        rintro e w5 ⟨rfl, b5⟩
        have A5 := A4.next b5
        have X5 := X4.below b5
        have p1 := p1.below b5
        have p2 := p2.below b5
        have t5 := Ext.trans t4 b5
        have x5 := A5.cell
        clear A4 B4 X4 Y4 t4 b5 x4 y4
        go_wp2_with fail
        refine (HS3.out _ X5).mono ?_
        rintro e w6 ⟨rfl, b6⟩
        have p1 := p1.below b6
        have p2 := p2.below b6
        have t6 := Ext.trans t5 b6
        clear A5 X5 t5 b6 x5
        have s1 := run_string_bs (P := Try.prog) c1 32 9 5 Try.underlying32 Try.underlying5 Try.underlying9 p1
        have s2 := run_string_bs (P := Try.prog) c2 32 9 5 Try.underlying32 Try.underlying5 Try.underlying9 p2
        clear p1 p2
        rcases HE.out with h1 | ⟨rfl, h2⟩ | ⟨rfl, rfl, h3⟩
        · clear HE
          go_wp2
          go_ret
          exact ⟨rfl, t6⟩
        · clear HE
          go_wp2
          go_ret
          exact ⟨rfl, t6⟩
        · clear HE
          go_wp2
          go_ret
          exact ⟨rfl, t6⟩
      · clear hnn
        go_wp2_with fail
        refine (HS1.out _ X3 Y3).mono ?_
        rintro e w4 ⟨rfl, b4⟩
        have A4 := A3.next b4
        have B4 := B3.next b4
        have X4 := X3.below b4
        have Y4 := Y3.below b4
        have p1 := p1.below b4
        have p2 := p2.below b4
        have t4 := Ext.trans t3 b4
        have x4 := A4.cell
        have y4 := B4.cell
        clear A3 B3 X3 Y3 t3 b4 x3 y3
        go_wp2_with fail
        refine (HS2.out _ X4 Y4).mono ?_
        rintro e w5 ⟨rfl, b5⟩
        have A5 := A4.next b5
        have X5 := X4.below b5
        have p1 := p1.below b5
        have p2 := p2.below b5
        have t5 := Ext.trans t4 b5
        have x5 := A5.cell
        clear A4 B4 X4 Y4 t4 b5 x4 y4
        go_wp2_with fail
        refine (HS3.out _ X5).mono ?_
        rintro e w6 ⟨rfl, b6⟩
        have p1 := p1.below b6
        have p2 := p2.below b6
        have t6 := Ext.trans t5 b6
        clear A5 X5 t5 b6 x5
        have s1 := run_string_bs (P := Try.prog) c1 32 9 5 Try.underlying32 Try.underlying5 Try.underlying9 p1
        have s2 := run_string_bs (P := Try.prog) c2 32 9 5 Try.underlying32 Try.underlying5 Try.underlying9 p2
        clear p1 p2
        rcases HE.out with h1 | ⟨rfl, h2⟩ | ⟨rfl, rfl, h3⟩
        · clear HE
          go_wp2
          go_ret
          exact ⟨rfl, t6⟩
        · clear HE
          go_wp2
          go_ret
          exact ⟨rfl, t6⟩
        · clear HE
          go_wp2
          go_ret
          exact ⟨rfl, t6⟩

set_option maxRecDepth 100000 in
set_option maxHeartbeats 4000000 in
theorem unlike_same (id age sq : Nat) (st : Int) (A : Option Addr) (n q : Nat) (rs : List NRec) (B : Option Addr) (k : Nat) (ss : List NRec) (hn : n ≤ 1000)
    (E1 E2 : Int) (ws vs : List UInt8) (S : Bool) (hS : S = true ↔ rs = ss) (h1 : ∀ W, Rs W A n rs → Calls Try.prog 11 #[.agg #[.int .u32 (id : Int), .int .u32 (age : Int), .int .u32 (sq : Int), .int .i64 st, .slice A n q]] W fun e w' => ∃ P k c, e = Ending.returned (.tuple #[.slice P k c, .int .i64 E1]) ∧ Bs w' P k ws ∧ Below W.heap.size W w') (h2 : ∀ W, Rs W B n ss → Calls Try.prog 11 #[.agg #[.int .u32 (id : Int), .int .u32 (age : Int), .int .u32 (sq : Int), .int .i64 st, .slice B n k]] W fun e w' => ∃ P k c, e = Ending.returned (.tuple #[.slice P k c, .int .i64 E2]) ∧ Bs w' P k vs ∧ Below W.heap.size W w') (hE : UnE E1 E2 ws vs S)
    (w : World) (hx : Rs w A n rs) (hy : Rs w B n ss) : Calls Try.prog 4 #[.agg #[.int .u32 (id : Int), .int .u32 (age : Int), .int .u32 (sq : Int), .int .i64 st, .slice A n q], .agg #[.int .u32 (id : Int), .int .u32 (age : Int), .int .u32 (sq : Int), .int .i64 st, .slice B n k]] w fun e w' => e = .returned (.bool true) ∧ Below w.heap.size w w' := by
  have HW1 := Lib.hid h1
  have HW2 := Lib.hid h2
  have HE : Hid ((E1 != 0) = true ∨ (E1 = 0 ∧ (E2 != 0) = true) ∨ (E1 = 0 ∧ E2 = 0 ∧ ((ws == vs) == S) = true)) := hE
  have HS1 := Lib.hid (fun W hX hY => nsame_any id age sq st A n q rs id age sq st B n k ss S (by simp [hS]) (by omega) W hX hY)
  have HS2 := Lib.hid (fun W hX hY => nsame_any id age sq st B n k ss id age sq st A n q rs S (by simp [hS]; exact ⟨Eq.symm, Eq.symm⟩) (by omega) W hY hX)
  have HS3 := Lib.hid (fun W hX => nsame_any id age sq st A n q rs id age sq st A n q rs true (by simp) (by omega) W hX hX)
  have HSS := Lib.hid hS
  have hxl := hx.1
  have hyl := hy.1
  clear h1 h2 hE hS
  go_enter Try.func4, Try.ntmps4
  go_wp2_with fail
  have A0 := BoxOf.alloc (BoxOf.new w #[.int .u32 (id : Int), .int .u32 (age : Int), .int .u32 (sq : Int), .int .i64 st, .slice A n q] 25) (.cells #[.int .u32 (id : Int), .int .u32 (age : Int), .int .u32 (sq : Int), .int .i64 st, .slice B n k] 25)
  have B0 := BoxOf.new' (w.alloc (.cells #[.int .u32 (id : Int), .int .u32 (age : Int), .int .u32 (sq : Int), .int .i64 st, .slice A n q] 25)) (w.heap.size + 1) #[.int .u32 (id : Int), .int .u32 (age : Int), .int .u32 (sq : Int), .int .i64 st, .slice B n k] 25 (by simp)
  have t0 := Ext.alloc (Ext.alloc (Below.refl w.heap.size w) (.cells #[.int .u32 (id : Int), .int .u32 (age : Int), .int .u32 (sq : Int), .int .i64 st, .slice A n q] 25)) (.cells #[.int .u32 (id : Int), .int .u32 (age : Int), .int .u32 (sq : Int), .int .i64 st, .slice B n k] 25)
  have X0 := (hx.alloc (.cells #[.int .u32 (id : Int), .int .u32 (age : Int), .int .u32 (sq : Int), .int .i64 st, .slice A n q] 25)).alloc (.cells #[.int .u32 (id : Int), .int .u32 (age : Int), .int .u32 (sq : Int), .int .i64 st, .slice B n k] 25)
  have Y0 := (hy.alloc (.cells #[.int .u32 (id : Int), .int .u32 (age : Int), .int .u32 (sq : Int), .int .i64 st, .slice A n q] 25)).alloc (.cells #[.int .u32 (id : Int), .int .u32 (age : Int), .int .u32 (sq : Int), .int .i64 st, .slice B n k] 25)
  clear hx hy
  refine (nalive_any _).mono ?_
  rintro e w1 ⟨rfl, b1⟩
  have A1 := A0.next b1
  have B1 := B0.next b1
  have X1 := X0.below b1
  have Y1 := Y0.below b1
  have t1 := Ext.trans t0 b1
  have x1 := A1.cell
  have y1 := B1.cell
  clear A0 B0 X0 Y0 t0 b1
  have d1 : decide ((1000 : Int) < (n : Int)) = false := decide_eq_false (by omega)
  have d2 : ¬ (1000 : Int) < (n : Int) := by omega
  go_wp2_with fail
  refine (HW1.out _ X1).mono ?_
  rintro e w2 ⟨P1, k1, c1, rfl, p1, b2⟩
  have A2 := A1.next b2
  have B2 := B1.next b2
  have X2 := X1.below b2
  have Y2 := Y1.below b2
  have t2 := Ext.trans t1 b2
  have x2 := A2.cell
  have y2 := B2.cell
  clear A1 B1 X1 Y1 t1 b2 x1 y1
  go_wp2_with fail
  refine (HW2.out _ Y2).mono ?_
  rintro e w3 ⟨P2, k2, c2, rfl, p2, b3⟩
  have A3 := A2.next b3
  have B3 := B2.next b3
  have X3 := X2.below b3
  have Y3 := Y2.below b3
  have p1 := p1.below b3
  have t3 := Ext.trans t2 b3
  have x3 := A3.cell
  have y3 := B3.cell
  clear A2 B2 X2 Y2 t2 b3 x2 y2
  clear d1 d2
  go_upto_region 6 with fail
  go_cut [10] from 34 to 68 (fun s wx => s = .bool true ∧ wx = w3)
  case first =>
    have e1 : ((id : Int) == (id : Int)) = true := by simp
    have e2 : ((age : Int) == (age : Int)) = true := by simp
    have e3 : ((sq : Int) == (sq : Int)) = true := by simp
    have e4 : (st == st) = true := by simp
    have e5 : ((n : Int) == (n : Int)) = true := by simp
    clear HE
    go_wp2_with fail
    go_meet
    exact ⟨rfl, rfl⟩
  case rest =>
    obtain ⟨rfl, rfl⟩ := hcut
    go_wp2_with fail
    go_loopw [10, 11] (fun s i wr => ∃ (j : Nat) (b : Bool), s = .bool b ∧ i = .int .i64 j ∧ j ≤ n ∧ (b = true → ∀ t (h1 : t < rs.length) (h2 : t < ss.length), t < j → recB rs[t] ss[t] = true) ∧ (b = false → S = false) ∧ Below wc.heap.size wc wr) (fun s i _ => mBool s (n + 1 - (intOf i).toNat))
    case atStart => exact ⟨0, true, rfl, rfl, by omega, fun _ t _ _ h => by omega, fun h => (by cases h), Below.refl _ _⟩
    case round =>
      obtain ⟨j, bo, rfl, rfl, hj, hall, hno, bw⟩ := hrel
      have A3 := A3.next bw
      have B3 := B3.next bw
      have X3 := X3.below bw
      have Y3 := Y3.below bw
      have p1 := p1.below bw
      have p2 := p2.below bw
      have t3 := Ext.trans t3 bw
      have x3 := A3.cell
      have y3 := B3.cell
      cases bo with
      | false =>
        have hSf := hno rfl
        subst hSf
        clear hno hall
        have hz : (j : Int) < (n : Int) ∨ ¬ (j : Int) < (n : Int) := by omega
        rcases hz with hz | hz
        · go_wp2_with fail
          refine (HS1.out _ X3 Y3).mono ?_
          rintro e w4 ⟨rfl, b4⟩
          have A4 := A3.next b4
          have B4 := B3.next b4
          have X4 := X3.below b4
          have Y4 := Y3.below b4
          have p1 := p1.below b4
          have p2 := p2.below b4
          have t4 := Ext.trans t3 b4
          have x4 := A4.cell
          have y4 := B4.cell
          clear A3 B3 X3 Y3 t3 b4 x3 y3
          go_wp2_with fail
          refine (HS2.out _ X4 Y4).mono ?_
          rintro e w5 ⟨rfl, b5⟩
          have A5 := A4.next b5
          have X5 := X4.below b5
          have p1 := p1.below b5
          have p2 := p2.below b5
          have t5 := Ext.trans t4 b5
          have x5 := A5.cell
          clear A4 B4 X4 Y4 t4 b5 x4 y4
          go_wp2_with fail
          refine (HS3.out _ X5).mono ?_
          rintro e w6 ⟨rfl, b6⟩
          have p1 := p1.below b6
          have p2 := p2.below b6
          have t6 := Ext.trans t5 b6
          clear A5 X5 t5 b6 x5
          have s1 := run_string_bs (P := Try.prog) c1 32 9 5 Try.underlying32 Try.underlying5 Try.underlying9 p1
          have s2 := run_string_bs (P := Try.prog) c2 32 9 5 Try.underlying32 Try.underlying5 Try.underlying9 p2
          clear p1 p2
          rcases HE.out with h1 | ⟨rfl, h2⟩ | ⟨rfl, rfl, h3⟩
          · clear HE
            go_wp2
            go_ret
            exact ⟨rfl, t6⟩
          · clear HE
            go_wp2
            go_ret
            exact ⟨rfl, t6⟩
          · clear HE
            go_wp2
            go_ret
            exact ⟨rfl, t6⟩
        · go_wp2_with fail
          refine (HS1.out _ X3 Y3).mono ?_
          rintro e w4 ⟨rfl, b4⟩
          have A4 := A3.next b4
          have B4 := B3.next b4
          have X4 := X3.below b4
          have Y4 := Y3.below b4
          have p1 := p1.below b4
          have p2 := p2.below b4
          have t4 := Ext.trans t3 b4
          have x4 := A4.cell
          have y4 := B4.cell
          clear A3 B3 X3 Y3 t3 b4 x3 y3
          go_wp2_with fail
          refine (HS2.out _ X4 Y4).mono ?_
          rintro e w5 ⟨rfl, b5⟩
          have A5 := A4.next b5
          have X5 := X4.below b5
          have p1 := p1.below b5
          have p2 := p2.below b5
          have t5 := Ext.trans t4 b5
          have x5 := A5.cell
          clear A4 B4 X4 Y4 t4 b5 x4 y4
          go_wp2_with fail
          refine (HS3.out _ X5).mono ?_
          rintro e w6 ⟨rfl, b6⟩
          have p1 := p1.below b6
          have p2 := p2.below b6
          have t6 := Ext.trans t5 b6
          clear A5 X5 t5 b6 x5
          have s1 := run_string_bs (P := Try.prog) c1 32 9 5 Try.underlying32 Try.underlying5 Try.underlying9 p1
          have s2 := run_string_bs (P := Try.prog) c2 32 9 5 Try.underlying32 Try.underlying5 Try.underlying9 p2
          clear p1 p2
          rcases HE.out with h1 | ⟨rfl, h2⟩ | ⟨rfl, rfl, h3⟩
          · clear HE
            go_wp2
            go_ret
            exact ⟨rfl, t6⟩
          · clear HE
            go_wp2
            go_ret
            exact ⟨rfl, t6⟩
          · clear HE
            go_wp2
            go_ret
            exact ⟨rfl, t6⟩
      | true =>
        by_cases hlt : j < n
        · obtain ⟨b, off, rfl, hc⟩ := X3.cells (by omega)
          obtain ⟨b2, off2, rfl, hc2⟩ := Y3.cells (by omega)
          have hjx : j < rs.length := by omega
          have hjy : j < ss.length := by omega
          obtain ⟨q0, q1, q2⟩ := hc j hjx
          obtain ⟨r0, r1, r2⟩ := hc2 j hjy
          have hwj : wrap64 ((j : Int) + 1) = ((j + 1 : Nat) : Int) := by rw [IntWalk.wrap64_in _ (by omega)]; omega
          have HALL := Lib.hid hall
          have HNO := Lib.hid hno
          have HB : Hid (∃ b, recB rs[j] ss[j] = b) := ⟨_, rfl⟩
          obtain ⟨bb, hbb⟩ := HB.out
          have HBB := Lib.hid hbb
          clear HB hbb hall hno hc hc2 p1 p2 HE HW1 HW2 HS1 HS2 HS3
          cases bb with
          | false =>
            have hne : S = false := by
              cases hEv : S
              · rfl
              · exfalso
                have h := HSS.out.1 hEv
                have h2 := HBB.out
                subst h
                rw [recB_iff.2 rfl] at h2
                cases h2
            have HNE := Lib.hid hne
            have hbx := HBB.out
            unfold recB at hbx
            have HBX := Lib.hid hbx
            clear hne hbx HBB HNO HALL
            generalize rs[j].sl = s1 at *
            generalize rs[j].ba = b1 at *
            generalize rs[j].su = u1 at *
            generalize ss[j].sl = s2 at *
            generalize ss[j].ba = b2' at *
            generalize ss[j].su = u2 at *
            have hcas : (¬ (s1 : Int) = (s2 : Int)) ∨ ((s1 : Int) = (s2 : Int) ∧ ¬ b1 = b2') ∨ ((s1 : Int) = (s2 : Int) ∧ b1 = b2' ∧ ¬ (u1 : Int) = (u2 : Int)) := by
              have h := HBX.out
              by_cases e1 : s1 = s2
              · by_cases e2 : b1 = b2'
                · refine .inr (.inr ⟨by omega, e2, fun e3 => ?_⟩)
                  rw [e1, e2, show u1 = u2 by omega] at h
                  simp at h
                · exact .inr (.inl ⟨by omega, e2⟩)
              · exact .inl (by omega)
            have HCA := Lib.hid hcas
            clear hcas HBX
            rcases HCA.out with e1 | ⟨e1, e2⟩ | ⟨e1, e2, e3⟩
            all_goals
              clear HCA
              go_wp2
              go_region
              go_wp2
              go_roundw
              case rel => exact ⟨j + 1, false, rfl, by go_num, by omega, fun h => (by cases h), fun _ => HNE.out, Ext.drew bw⟩
              case measure => simp [intOf, mBool]; omega
          | true =>
            have hpx := recB_iff.1 HBB.out
            have HPX := Lib.hid hpx
            clear HBB hpx
            rw [HPX.out] at q0 q1 q2
            generalize ss[j].sl = s2 at *
            generalize ss[j].ba = b2' at *
            generalize ss[j].su = u2 at *
            go_wp2
            go_region
            go_wp2
            go_roundw
            case rel => exact ⟨j + 1, true, rfl, by go_num, by omega, fun _ t h1 h2 ht => by
              by_cases e : t = j
              · subst e; exact recB_iff.2 HPX.out
              · exact HALL.out trivial t h1 h2 (by omega), fun h => (by cases h), Ext.drew bw⟩
            case measure => simp [intOf, mBool]; omega
        · have hSt : S = true := HSS.out.2 (recs_ext (by omega) fun t h1 h2 => hall rfl t h1 h2 (by omega))
          subst hSt
          clear hno hall
          go_wp2_with fail
          refine (HS1.out _ X3 Y3).mono ?_
          rintro e w4 ⟨rfl, b4⟩
          have A4 := A3.next b4
          have B4 := B3.next b4
          have X4 := X3.below b4
          have Y4 := Y3.below b4
          have p1 := p1.below b4
          have p2 := p2.below b4
          have t4 := Ext.trans t3 b4
          have x4 := A4.cell
          have y4 := B4.cell
          clear A3 B3 X3 Y3 t3 b4 x3 y3
          go_wp2_with fail
          refine (HS2.out _ X4 Y4).mono ?_
          rintro e w5 ⟨rfl, b5⟩
          have A5 := A4.next b5
          have X5 := X4.below b5
          have p1 := p1.below b5
          have p2 := p2.below b5
          have t5 := Ext.trans t4 b5
          have x5 := A5.cell
          clear A4 B4 X4 Y4 t4 b5 x4 y4
          go_wp2_with fail
          refine (HS3.out _ X5).mono ?_
          rintro e w6 ⟨rfl, b6⟩
          have p1 := p1.below b6
          have p2 := p2.below b6
          have t6 := Ext.trans t5 b6
          clear A5 X5 t5 b6 x5
          have s1 := run_string_bs (P := Try.prog) c1 32 9 5 Try.underlying32 Try.underlying5 Try.underlying9 p1
          have s2 := run_string_bs (P := Try.prog) c2 32 9 5 Try.underlying32 Try.underlying5 Try.underlying9 p2
          clear p1 p2
          rcases HE.out with h1 | ⟨rfl, h2⟩ | ⟨rfl, rfl, h3⟩
          · clear HE
            go_wp2
            go_ret
            exact ⟨rfl, t6⟩
          · clear HE
            go_wp2
            go_ret
            exact ⟨rfl, t6⟩
          · clear HE
            go_wp2
            go_ret
            exact ⟨rfl, t6⟩

theorem noteUnlike_walk (w : World) (cs : List Value) (y : (Ty.st (.prod .u32 (.prod .u32 (.prod .u32 (.prod .int (.prod (.sl (Ty.st (.prod .byte (.prod .bool (.prod .u32 .unit))))) .unit)))))).T) (h0 : Reads w (Ty.st (.prod .u32 (.prod .u32 (.prod .u32 (.prod .int (.prod (.sl (Ty.st (.prod .byte (.prod .bool (.prod .u32 .unit))))) .unit)))))) y cs) (ds : List Value) (z : (Ty.st (.prod .u32 (.prod .u32 (.prod .u32 (.prod .int (.prod (.sl (Ty.st (.prod .byte (.prod .bool (.prod .u32 .unit))))) .unit)))))).T) (h1 : Reads w (Ty.st (.prod .u32 (.prod .u32 (.prod .u32 (.prod .int (.prod (.sl (Ty.st (.prod .byte (.prod .bool (.prod .u32 .unit))))) .unit)))))) z ds) :
    Calls Try.prog 4 #[.agg cs.toArray, .agg ds.toArray] w fun e w' => e = .returned (.bool true) ∧ Below w.heap.size w w' := by
  obtain ⟨id, age, sq, st, A, n, q, rs, hx, b1, b2, b3, _, _, _, hR, hb⟩ := note_open h0
  obtain ⟨id', age', sq', st', B, m, k, ss, hx', b1', b2', b3', _, _, _, hR', hb'⟩ := note_open h1
  rw [hx, hx']
  by_cases hn : 1000 < n
  · exact unlike_long id age sq st A n q rs id' age' sq' st' B m k ss (.inl hn) w hR hR'
  by_cases hm : 1000 < m
  · exact unlike_long id age sq st A n q rs id' age' sq' st' B m k ss (.inr ⟨by omega, hm⟩) w hR hR'
  have hw1 := nwrite_all id age sq st A n q rs (by omega) b1 hb
  have hw2 := nwrite_all id' age' sq' st' B m k ss (by omega) b1' hb'
  obtain ⟨E1, ws, hc1, hp1⟩ := hw1
  obtain ⟨E2, vs, hc2, hp2⟩ := hw2
  have hE : ∀ S, (S = true ↔ id = id' ∧ age = age' ∧ sq = sq' ∧ st = st' ∧ rs = ss) → UnE E1 E2 ws vs S := by
    intro S hS
    rcases hp1 with h | ⟨rfl, s, rfl, hok, rfl⟩
    · exact .inl h
    rcases hp2 with h | ⟨rfl, s', rfl, hok', rfl⟩
    · exact .inr (.inl ⟨rfl, h⟩)
    refine .inr (.inr ⟨rfl, rfl, ?_⟩)
    rw [beq_iff_eq, Bool.eq_iff_iff, hS, beq_iff_eq]
    constructor
    · intro h
      have i1 := note_own b1 hb hok
      have i2 := note_own b1' hb' hok'
      rw [h] at i1
      obtain ⟨h1, h2, h3, h4, h5⟩ := note_one i1 i2
      exact ⟨h1, h2, h3, by omega, h5⟩
    · rintro ⟨rfl, rfl, rfl, h4, rfl⟩
      rw [show s = s' by omega]
  by_cases hall : (id : Int) = (id' : Int) ∧ (age : Int) = (age' : Int) ∧ (sq : Int) = (sq' : Int) ∧ st = st' ∧ (n : Int) = (m : Int)
  · obtain ⟨h1, h2, h3, rfl, h5⟩ := hall
    obtain rfl : id = id' := by omega
    obtain rfl : age = age' := by omega
    obtain rfl : sq = sq' := by omega
    obtain rfl : n = m := by omega
    exact unlike_same id age sq st A n q rs B k ss (by omega) E1 E2 ws vs (recsB rs ss) recsB_iff hc1 hc2 (hE _ (by simp [recsB_iff])) w hR hR'
  · refine unlike_diff id age sq st A n q rs id' age' sq' st' B m k ss (by omega) (by omega) ?_ E1 E2 ws vs hc1 hc2 (hE false ?_) w hR hR'
    · simp only [beq_iff_eq, beq_eq_false_iff_ne]
      omega
    · simp
      intro h1 h2 h3 h4 h5
      have l1 := hR.1
      have l2 := hR'.1
      subst h1 h2 h3 h4 h5
      exact hall ⟨rfl, rfl, rfl, rfl, by omega⟩
end Go.Proofs.Ytggdfecgkhnkkaa
