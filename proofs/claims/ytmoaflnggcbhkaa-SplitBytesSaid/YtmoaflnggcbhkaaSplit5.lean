/- Layer 8 (split): whether two requests touch. -/
import Derived.Test.YtmoaflnggcbhkaaSplit3
import Derived.Maps.OwnOps
import Derived.Maps.Views
namespace Go.Proofs.Ytmoaflnggcbhkaa
open Go.RowKit Go.Maps
set_option linter.unusedSimpArgs false
set_option linter.unusedVariables false

theorem lawI : Keyed Try.prog 3 := int_keyed Try.underlying3
theorem zeroI (w : World) : (zeroValue 3).run Try.prog w = .ok (.int .i64 0) w := by kernel_rfl

/-- the map behind k rounds -/
def mapB (a mark : Int) : Nat → DataW Unit
  | 0 => .map []
  | k + 1 => (mapB a mark k).put (.int .i64 (a + (k : Int))) (.lit (.int .i64 mark))
theorem mapB_is (a mark : Int) (k : Nat) : IsMap (mapB a mark k) := by
  induction k with
  | zero => exact isMap_empty
  | succ k ih => exact ih.put _ _
theorem mapB_at (a mark n : Int) (k : Nat) : (mapB a mark k).atKey (.int .i64 n) (.lit (.int .i64 0)) = .lit (.int .i64 (if a ≤ n ∧ n < a + (k : Int) then mark else 0)) := by
  induction k with
  | zero => rw [if_neg (by omega)]; rfl
  | succ k ih =>
    unfold mapB
    by_cases h : n = a + (k : Int)
    · subst h
      rw [atKey_put_same (k := .int .i64 (a + (k : Int))) (mapB_is a mark k) (show True from trivial), if_pos (by omega)]
    · rw [atKey_put_other (by simp; exact h), ih]
      congr 3
      exact propext (by omega)

theorem mapB_hit {a mark n c : Int} {k : Nat} (hat : (mapB a mark k).atKey (.int .i64 n) (.lit (.int .i64 0)) = .lit (.int .i64 c)) (h : a ≤ n ∧ n < a + (k : Int)) : c = mark := by
  rw [mapB_at, if_pos h] at hat
  simpa using hat.symm
theorem mapB_miss {a mark n c : Int} {k : Nat} (hat : (mapB a mark k).atKey (.int .i64 n) (.lit (.int .i64 0)) = .lit (.int .i64 c)) (h : ¬ (a ≤ n ∧ n < a + (k : Int))) : c = 0 := by
  rw [mapB_at, if_neg h] at hat
  simpa using hat.symm
theorem ret_bool2 {a b : Bool} (h : a = b) (n : Int) : Ending.returned (.tuple #[.bool a, .int .i64 n]) = .returned (.tuple #[.bool b, .int .i64 n]) := by rw [h]

set_option maxRecDepth 100000 in
theorem touch_err1 (x : Cfg) (k1 a1 y1 k2 a2 y2 : Int) (A1 A2 : Option Addr) (n1 q1 n2 q2 : Nat) (E : Int) (hE : (E != 0) = true) (H1 : ∀ W, Calls Try.prog 14 #[x.val, .agg #[.int .u8 k1, .int .i64 a1, .int .i64 y1, .slice A1 n1 q1]] W fun e w' => e = .returned (.tuple #[.slice none 0 0, .int .i64 E]) ∧ Below W.heap.size W w') (w : World) :
    Calls Try.prog 15 #[x.val, .agg #[.int .u8 k1, .int .i64 a1, .int .i64 y1, .slice A1 n1 q1], .agg #[.int .u8 k2, .int .i64 a2, .int .i64 y2, .slice A2 n2 q2]] w fun e w' => e = .returned (.tuple #[.bool false, .int .i64 E]) ∧ Below w.heap.size w w' := by
  have HB1 := Lib.hid H1
  clear H1
  obtain ⟨id, m, c, r, l, h⟩ := x
  unfold Cfg.val at *
  dsimp only at *
  go_enter Try.func15, Try.ntmps15
  go_wp2_with fail
  have C0 := BoxOf.alloc (BoxOf.alloc (BoxOf.new w #[.int .u32 (id : Int), .int .i64 m, .int .i64 c, .int .i64 r, .int .i64 l, .int .i64 h] 24) (.cells #[.int .u8 k1, .int .i64 a1, .int .i64 y1, .slice A1 n1 q1] 32)) (.cells #[.int .u8 k2, .int .i64 a2, .int .i64 y2, .slice A2 n2 q2] 32)
  have A0 := BoxOf.alloc (BoxOf.new' (w.alloc (.cells #[.int .u32 (id : Int), .int .i64 m, .int .i64 c, .int .i64 r, .int .i64 l, .int .i64 h] 24)) (w.heap.size + 1) #[.int .u8 k1, .int .i64 a1, .int .i64 y1, .slice A1 n1 q1] 32 (by simp)) (.cells #[.int .u8 k2, .int .i64 a2, .int .i64 y2, .slice A2 n2 q2] 32)
  have D0 := BoxOf.new' ((w.alloc (.cells #[.int .u32 (id : Int), .int .i64 m, .int .i64 c, .int .i64 r, .int .i64 l, .int .i64 h] 24)).alloc (.cells #[.int .u8 k1, .int .i64 a1, .int .i64 y1, .slice A1 n1 q1] 32)) (w.heap.size + 2) #[.int .u8 k2, .int .i64 a2, .int .i64 y2, .slice A2 n2 q2] 32 (by simp)
  have t0 := Ext.alloc (Ext.alloc (Ext.alloc (Below.refl w.heap.size w) (.cells #[.int .u32 (id : Int), .int .i64 m, .int .i64 c, .int .i64 r, .int .i64 l, .int .i64 h] 24)) (.cells #[.int .u8 k1, .int .i64 a1, .int .i64 y1, .slice A1 n1 q1] 32)) (.cells #[.int .u8 k2, .int .i64 a2, .int .i64 y2, .slice A2 n2 q2] 32)
  refine (HB1.out _).mono ?_
  rintro e w1 ⟨rfl, b1⟩
  have t1 := Ext.trans t0 b1
  go_wp2
  go_ret2
  exact ⟨rfl, t1⟩

set_option maxRecDepth 100000 in
theorem touch_err2 (x : Cfg) (k1 a1 y1 k2 a2 y2 : Int) (A1 A2 : Option Addr) (n1 q1 n2 q2 : Nat) (E : Int) (hE : (E != 0) = true) (H1 : ∀ W, Calls Try.prog 14 #[x.val, .agg #[.int .u8 k1, .int .i64 a1, .int .i64 y1, .slice A1 n1 q1]] W fun e w' => ∃ v, e = .returned (.tuple #[v, .int .i64 0]) ∧ w'.ownsRow (W.heap.size + 2) 3 1 v y1.toNat (seqI a1 y1.toNat) ∧ Below W.heap.size W w')
    (H2 : ∀ W, Calls Try.prog 14 #[x.val, .agg #[.int .u8 k2, .int .i64 a2, .int .i64 y2, .slice A2 n2 q2]] W fun e w' => e = .returned (.tuple #[.slice none 0 0, .int .i64 E]) ∧ Below W.heap.size W w') (w : World) :
    Calls Try.prog 15 #[x.val, .agg #[.int .u8 k1, .int .i64 a1, .int .i64 y1, .slice A1 n1 q1], .agg #[.int .u8 k2, .int .i64 a2, .int .i64 y2, .slice A2 n2 q2]] w fun e w' => e = .returned (.tuple #[.bool false, .int .i64 E]) ∧ Below w.heap.size w w' := by
  have HB1 := Lib.hid H1
  have HB2 := Lib.hid H2
  clear H1 H2
  obtain ⟨id, m, c, r, l, h⟩ := x
  unfold Cfg.val at *
  dsimp only at *
  go_enter Try.func15, Try.ntmps15
  go_wp2_with fail
  have C0 := BoxOf.alloc (BoxOf.alloc (BoxOf.new w #[.int .u32 (id : Int), .int .i64 m, .int .i64 c, .int .i64 r, .int .i64 l, .int .i64 h] 24) (.cells #[.int .u8 k1, .int .i64 a1, .int .i64 y1, .slice A1 n1 q1] 32)) (.cells #[.int .u8 k2, .int .i64 a2, .int .i64 y2, .slice A2 n2 q2] 32)
  have A0 := BoxOf.alloc (BoxOf.new' (w.alloc (.cells #[.int .u32 (id : Int), .int .i64 m, .int .i64 c, .int .i64 r, .int .i64 l, .int .i64 h] 24)) (w.heap.size + 1) #[.int .u8 k1, .int .i64 a1, .int .i64 y1, .slice A1 n1 q1] 32 (by simp)) (.cells #[.int .u8 k2, .int .i64 a2, .int .i64 y2, .slice A2 n2 q2] 32)
  have D0 := BoxOf.new' ((w.alloc (.cells #[.int .u32 (id : Int), .int .i64 m, .int .i64 c, .int .i64 r, .int .i64 l, .int .i64 h] 24)).alloc (.cells #[.int .u8 k1, .int .i64 a1, .int .i64 y1, .slice A1 n1 q1] 32)) (w.heap.size + 2) #[.int .u8 k2, .int .i64 a2, .int .i64 y2, .slice A2 n2 q2] 32 (by simp)
  have t0 := Ext.alloc (Ext.alloc (Ext.alloc (Below.refl w.heap.size w) (.cells #[.int .u32 (id : Int), .int .i64 m, .int .i64 c, .int .i64 r, .int .i64 l, .int .i64 h] 24)) (.cells #[.int .u8 k1, .int .i64 a1, .int .i64 y1, .slice A1 n1 q1] 32)) (.cells #[.int .u8 k2, .int .i64 a2, .int .i64 y2, .slice A2 n2 q2] 32)
  refine (HB1.out _).mono ?_
  rintro e w1 ⟨v1, rfl, _, b1⟩
  have C1 := C0.next b1
  have A1 := A0.next b1
  have D1 := D0.next b1
  have t1 := Ext.trans t0 b1
  have x1 := C1.cell
  have y1 := A1.cell
  have z1 := D1.cell
  clear C0 A0 D0 t0
  clear b1
  go_wp2_with fail
  refine (HB2.out _).mono ?_
  rintro e w2 ⟨rfl, b2⟩
  have t2 := Ext.trans t1 b2
  go_wp2
  go_ret2
  exact ⟨rfl, t2⟩

def touchB (k1 a1 y1 k2 a2 y2 : Int) : Bool := (kWrites k1 || kWrites k2) && decide (0 < y1 ∧ 0 < y2 ∧ a1 < a2 + y2 ∧ a2 < a1 + y1)

theorem rd_seq {w : World} {A : Option Addr} {a : Int} {n : Nat} (h : Rd w A (seqI a n)) : n = 0 ∨ ∃ b off, A = some ⟨b, off, none⟩ ∧ ∀ j, j < n → w.cell? ⟨b, off + j, none⟩ = some (.int .i64 (a + (j : Int))) := by
  rcases h with h | ⟨b, off, hA, hc⟩
  · left
    have := congrArg List.length h
    rwa [seqI_len] at this
  · refine .inr ⟨b, off, hA, fun j hj => ?_⟩
    rw [hc j (by rw [seqI_len]; exact hj)]
    simp [seqI, hj]

set_option maxRecDepth 100000 in
set_option maxHeartbeats 4000000 in
theorem touch_ok (x : Cfg) (k1 a1 : Int) (y1 : Nat) (k2 a2 : Int) (y2 : Nat) (A1 A2 : Option Addr) (n1 q1 n2 q2 : Nat) (hy1 : y1 ≤ 8) (hy2 : y2 ≤ 8) (ha1 : 0 ≤ a1 ∧ a1 ≤ 1000) (ha2 : 0 ≤ a2 ∧ a2 ≤ 1000)
    (H1 : ∀ W, Calls Try.prog 14 #[x.val, .agg #[.int .u8 k1, .int .i64 a1, .int .i64 y1, .slice A1 n1 q1]] W fun e w' => ∃ v, e = .returned (.tuple #[v, .int .i64 0]) ∧ w'.ownsRow (W.heap.size + 2) 3 1 v y1 (seqI a1 y1) ∧ Below W.heap.size W w')
    (H2 : ∀ W, Calls Try.prog 14 #[x.val, .agg #[.int .u8 k2, .int .i64 a2, .int .i64 y2, .slice A2 n2 q2]] W fun e w' => ∃ v, e = .returned (.tuple #[v, .int .i64 0]) ∧ w'.ownsRow (W.heap.size + 2) 3 1 v y2 (seqI a2 y2) ∧ Below W.heap.size W w') (w : World) :
    Calls Try.prog 15 #[x.val, .agg #[.int .u8 k1, .int .i64 a1, .int .i64 y1, .slice A1 n1 q1], .agg #[.int .u8 k2, .int .i64 a2, .int .i64 y2, .slice A2 n2 q2]] w fun e w' => e = .returned (.tuple #[.bool (touchB k1 a1 y1 k2 a2 y2), .int .i64 0]) ∧ Below w.heap.size w w' := by
  have HB1 := Lib.hid H1
  have HB2 := Lib.hid H2
  clear H1 H2
  have HO1 := Lib.hid (of_any k1)
  have HO2 := Lib.hid (of_any k2)
  have hmm := @run_makeMap Try.prog
  obtain ⟨id, m, c, r, l, h⟩ := x
  unfold Cfg.val at *
  dsimp only at *
  have htb : touchB k1 a1 y1 k2 a2 y2 = ((kWrites k1 || kWrites k2) && decide (0 < (y1 : Int) ∧ 0 < (y2 : Int) ∧ a1 < a2 + (y2 : Int) ∧ a2 < a1 + (y1 : Int))) := rfl
  have HTB := Lib.hid htb
  clear htb
  generalize touchB k1 a1 y1 k2 a2 y2 = tb at *
  generalize kMost k1 = mo1 at *
  generalize kMost k2 = mo2 at *
  generalize kBytes k1 = by1 at *
  generalize kBytes k2 = by2 at *
  generalize kIs k1 = is1 at *
  generalize kIs k2 = is2 at *
  generalize kWrites k1 = wr1 at *
  generalize kWrites k2 = wr2 at *
  cases wr1 <;> cases wr2
  · simp only [Bool.or_false, Bool.false_or, Bool.or_true, Bool.true_or, Bool.false_and, Bool.true_and] at HTB
    go_enter Try.func15, Try.ntmps15
    go_wp2_with fail
    have C0 := BoxOf.alloc (BoxOf.alloc (BoxOf.new w #[.int .u32 (id : Int), .int .i64 m, .int .i64 c, .int .i64 r, .int .i64 l, .int .i64 h] 24) (.cells #[.int .u8 k1, .int .i64 a1, .int .i64 y1, .slice A1 n1 q1] 32)) (.cells #[.int .u8 k2, .int .i64 a2, .int .i64 y2, .slice A2 n2 q2] 32)
    have A0 := BoxOf.alloc (BoxOf.new' (w.alloc (.cells #[.int .u32 (id : Int), .int .i64 m, .int .i64 c, .int .i64 r, .int .i64 l, .int .i64 h] 24)) (w.heap.size + 1) #[.int .u8 k1, .int .i64 a1, .int .i64 y1, .slice A1 n1 q1] 32 (by simp)) (.cells #[.int .u8 k2, .int .i64 a2, .int .i64 y2, .slice A2 n2 q2] 32)
    have D0 := BoxOf.new' ((w.alloc (.cells #[.int .u32 (id : Int), .int .i64 m, .int .i64 c, .int .i64 r, .int .i64 l, .int .i64 h] 24)).alloc (.cells #[.int .u8 k1, .int .i64 a1, .int .i64 y1, .slice A1 n1 q1] 32)) (w.heap.size + 2) #[.int .u8 k2, .int .i64 a2, .int .i64 y2, .slice A2 n2 q2] 32 (by simp)
    have t0 := Ext.alloc (Ext.alloc (Ext.alloc (Below.refl w.heap.size w) (.cells #[.int .u32 (id : Int), .int .i64 m, .int .i64 c, .int .i64 r, .int .i64 l, .int .i64 h] 24)) (.cells #[.int .u8 k1, .int .i64 a1, .int .i64 y1, .slice A1 n1 q1] 32)) (.cells #[.int .u8 k2, .int .i64 a2, .int .i64 y2, .slice A2 n2 q2] 32)
    refine (HB1.out _).mono ?_
    rintro e w1 ⟨v1, rfl, o1, b1⟩
    obtain ⟨P1, c1, rfl, _, r1⟩ := own_rd o1
    have C1 := C0.next b1
    have A1 := A0.next b1
    have D1 := D0.next b1
    have t1 := Ext.trans t0 b1
    have x1 := C1.cell
    have y1 := A1.cell
    have z1 := D1.cell
    clear C0 A0 D0 t0
    clear b1 o1
    go_wp2_with fail
    refine (HB2.out _).mono ?_
    rintro e w2 ⟨v2, rfl, o2, b2⟩
    obtain ⟨P2, c2, rfl, _, r2⟩ := own_rd o2
    have r1 := r1.below b2
    have C2 := C1.next b2
    have A2 := A1.next b2
    have D2 := D1.next b2
    have t2 := Ext.trans t1 b2
    have x2 := C2.cell
    have y2 := A2.cell
    have z2 := D2.cell
    clear C1 A1 D1 t1
    clear b2 o2 x1 y1 z1
    go_wp2_with fail
    refine (HO1.out _).mono ?_
    rintro e w3 ⟨rfl, b3⟩
    have r1 := r1.below b3
    have r2 := r2.below b3
    have C3 := C2.next b3
    have A3 := A2.next b3
    have D3 := D2.next b3
    have t3 := Ext.trans t2 b3
    have x3 := C3.cell
    have y3 := A3.cell
    have z3 := D3.cell
    clear C2 A2 D2 t2
    have l3 := D3.lt
    clear b3 x2 y2 z2
    go_wp2_with fail
    refine (HO2.out _).mono ?_
    rintro e w4 ⟨rfl, b4⟩
    have r1 := (r1.alloc _).below b4
    have r2 := (r2.alloc _).below b4
    have F4 := (BoxOf.new w3 #[.int .i64 mo1, .bool by1, .bool false] 53).next b4
    have t4 := Ext.trans (Ext.alloc t3 (.cells #[.int .i64 mo1, .bool by1, .bool false] 53)) b4
    have f4 := F4.cell
    have l4 := F4.lt
    have s4 := t4.size
    clear b4 x3 y3 z3 A3 C3 D3 t3 l3 F4
    go_wp2
    have m6 := World.ownsMap_made (w4.alloc (.cells #[.int .i64 mo2, .bool by2, .bool false] 53)) Try.prog 3 (plainElem (H := Unit) Try.prog 3)
    rw [show (w4.alloc (.cells #[.int .i64 mo2, .bool by2, .bool false] 53)).heap.size = w4.heap.size + 1 by simp] at m6
    have t6 := Ext.alloc (Ext.alloc t4 (.cells #[.int .i64 mo2, .bool by2, .bool false] 53)) (.map #[] 0)
    have h6 : ((w4.alloc (.cells #[.int .i64 mo2, .bool by2, .bool false] 53)).alloc (.map #[] 0)).heap.size = w4.heap.size + 2 := by simp
    have UB6 := Ext.alloc (Ext.alloc (Below.refl w4.heap.size w4) (.cells #[.int .i64 mo2, .bool by2, .bool false] 53)) (.map #[] 0)
    generalize (w4.alloc (.cells #[.int .i64 mo2, .bool by2, .bool false] 53)).alloc (.map #[] 0) = w6 at m6 t6 h6 UB6 ⊢
    have r1 := rd_seq r1
    have r2 := rd_seq r2
    clear f4 l4 t4
    have hb1 : IsInt (a1 + 8) ∧ 0 ≤ a1 := ⟨⟨by omega, by omega⟩, by omega⟩
    have hb2 : IsInt (a2 + 8) ∧ 0 ≤ a2 := ⟨⟨by omega, by omega⟩, by omega⟩
    obtain ⟨ha1, ha1'⟩ := ha1
    obtain ⟨ha2, ha2'⟩ := ha2
    have r1 : y1 ≤ 0 ∨ _ := r1.imp (fun h => Nat.le_of_eq h) (fun h => h)
    have r2 : y2 ≤ 0 ∨ _ := r2.imp (fun h => Nat.le_of_eq h) (fun h => h)
    rcases r1 with hz1 | ⟨bb1, oo1, rfl, hc1⟩ <;> rcases r2 with hz2 | ⟨bb2, oo2, rfl, hc2⟩
    · go_loopw [18, 60] (fun _ i wr => ∃ j : Nat, j ≤ y1 ∧ i = .int .i64 j ∧ wr.ownsMap Try.prog 3 (plainElem (H := Unit) Try.prog 3) (w4.heap.size + 1) j (mapB a1 1 j) ∧ Below (w4.heap.size + 1) w6 wr) (fun _ i _ => y1 - (intOf i).toNat)
      case atStart => exact ⟨0, Nat.zero_le _, rfl, m6, Below.refl _ _⟩
      case round =>
        obtain ⟨j, hj, rfl, hown, bj⟩ := hrel
        by_cases hlt : j < y1
        · exact absurd hlt (by omega)
        · have hjy : j = y1 := by omega
          have HJY := Lib.hid hjy
          clear hjy
          go_wp2
          go_loop [20, 70] (fun _ i => ∃ p : Nat, p ≤ y2 ∧ i = .int .i64 p ∧ (∀ q : Nat, q < p → ¬ ((1 : Int) = 2 ∧ a1 ≤ a2 + (q : Int) ∧ a2 + (q : Int) < a1 + (y1 : Nat)))) (fun _ i => y2 - (intOf i).toNat)
          case atStart => exact ⟨0, Nat.zero_le _, rfl, fun q hq => by omega⟩
          case round =>
            obtain ⟨p, hp, rfl, hno⟩ := hrel
            have HNO := Lib.hid hno
            clear hno
            by_cases hlt : p < y2
            · exact absurd hlt (by omega)
            · have hpe : p = y2 := by omega
              have HPE := Lib.hid hpe
              have t7 := t6.trans (bj.mono (show w.heap.size ≤ w4.heap.size + 1 by omega))
              clear hpe
              go_wp2
              go_ret2
              refine ⟨ret_bool2 (a := false) (HTB.out.trans ?_).symm 0, t7⟩
              first
                | rfl
                | exact decide_eq_false (fun h => by
                    have e1 := HPE.out
                    by_cases hle : a1 ≤ a2
                    · exact HNO.out 0 (by omega) ⟨by simp, by omega, by omega⟩
                    · exact HNO.out (a1 - a2).toNat (by omega) ⟨by simp, by omega, by omega⟩)
    · go_loopw [18, 60] (fun _ i wr => ∃ j : Nat, j ≤ y1 ∧ i = .int .i64 j ∧ wr.ownsMap Try.prog 3 (plainElem (H := Unit) Try.prog 3) (w4.heap.size + 1) j (mapB a1 1 j) ∧ Below (w4.heap.size + 1) w6 wr) (fun _ i _ => y1 - (intOf i).toNat)
      case atStart => exact ⟨0, Nat.zero_le _, rfl, m6, Below.refl _ _⟩
      case round =>
        obtain ⟨j, hj, rfl, hown, bj⟩ := hrel
        by_cases hlt : j < y1
        · exact absurd hlt (by omega)
        · have hjy : j = y1 := by omega
          have HJY := Lib.hid hjy
          clear hjy
          go_wp2
          go_loop [20, 70] (fun _ i => ∃ p : Nat, p ≤ y2 ∧ i = .int .i64 p ∧ (∀ q : Nat, q < p → ¬ ((1 : Int) = 2 ∧ a1 ≤ a2 + (q : Int) ∧ a2 + (q : Int) < a1 + (y1 : Nat)))) (fun _ i => y2 - (intOf i).toNat)
          case atStart => exact ⟨0, Nat.zero_le _, rfl, fun q hq => by omega⟩
          case round =>
            obtain ⟨p, hp, rfl, hno⟩ := hrel
            have HNO := Lib.hid hno
            clear hno
            by_cases hlt : p < y2
            · have hcc := hc2 p hlt
              have hl2 : bb2 < w4.heap.size := block_lt_of_cell hcc
              have q2 := (bj.cell (p := ⟨bb2, oo2 + p, none⟩) (by show bb2 < w4.heap.size + 1; omega)).trans ((UB6.cell (p := ⟨bb2, oo2 + p, none⟩) hl2).trans hcc)
              have hkey : keyOf Try.prog 3 (.int .i64 (a2 + (p : Int))) = some (.int .i64 (a2 + (p : Int))) := keyOf_int_mk Try.underlying3 (WalkArith.wf_i64 (by omega))
              have HK := Lib.hid hkey
              have HM := Lib.hid hown
              have t7 := t6.trans (bj.mono (show w.heap.size ≤ w4.heap.size + 1 by omega))
              clear hkey hown hcc
              by_cases hit : a1 ≤ a2 + (p : Int) ∧ a2 + (p : Int) < a1 + (j : Int)
              · have HIT := Lib.hid hit
                clear hit
                go_wp2_with (at_lookup; go_loud (refine wpList_lookup_own_int _ rfl _ _ 56 rfl 3 3 .i64 lawI Try.underlying56 Try.underlying3 (zeroI _) (w4.heap.size + 1) j _ rfl HM.out _ _ rfl HK.out ?_; intro c hat hwc; have hcv := mapB_hit hat HIT.out; subst hcv; clear hat hwc))
                first
                  | (go_ret2
                     exact ⟨ret_bool2 (a := true) (HTB.out.trans (decide_eq_true (by have := HIT.out; have := HJY.out; omega))).symm 0, t7⟩)
                  | (go_round
                     case rel => exact ⟨p + 1, by omega, by go_num, fun q hq h => by
                       rcases (show q < p ∨ q = p by omega) with hq2 | hq2
                       · exact HNO.out q hq2 ⟨by first | trivial | rfl | exact h.1 | exact h.1.elim, h.2⟩
                       · omega⟩
                     case measure => simp [intOf]; omega)
              · have HIT := Lib.hid hit
                clear hit
                go_wp2_with (at_lookup; go_loud (refine wpList_lookup_own_int _ rfl _ _ 56 rfl 3 3 .i64 lawI Try.underlying56 Try.underlying3 (zeroI _) (w4.heap.size + 1) j _ rfl HM.out _ _ rfl HK.out ?_; intro c hat hwc; have hcv := mapB_miss hat HIT.out; subst hcv; clear hat hwc))
                go_round
                case rel => exact ⟨p + 1, by omega, by go_num, fun q hq h => by
                  rcases (show q < p ∨ q = p by omega) with hq2 | hq2
                  · exact HNO.out q hq2 ⟨by first | trivial | rfl | exact h.1 | exact h.1.elim, h.2⟩
                  · subst hq2
                    have := HIT.out
                    have := HJY.out
                    omega⟩
                case measure => simp [intOf]; omega
            · have hpe : p = y2 := by omega
              have HPE := Lib.hid hpe
              have t7 := t6.trans (bj.mono (show w.heap.size ≤ w4.heap.size + 1 by omega))
              clear hpe
              go_wp2
              go_ret2
              refine ⟨ret_bool2 (a := false) (HTB.out.trans ?_).symm 0, t7⟩
              first
                | rfl
                | exact decide_eq_false (fun h => by
                    have e1 := HPE.out
                    by_cases hle : a1 ≤ a2
                    · exact HNO.out 0 (by omega) ⟨by simp, by omega, by omega⟩
                    · exact HNO.out (a1 - a2).toNat (by omega) ⟨by simp, by omega, by omega⟩)
    · go_loopw [18, 60] (fun _ i wr => ∃ j : Nat, j ≤ y1 ∧ i = .int .i64 j ∧ wr.ownsMap Try.prog 3 (plainElem (H := Unit) Try.prog 3) (w4.heap.size + 1) j (mapB a1 1 j) ∧ Below (w4.heap.size + 1) w6 wr) (fun _ i _ => y1 - (intOf i).toNat)
      case atStart => exact ⟨0, Nat.zero_le _, rfl, m6, Below.refl _ _⟩
      case round =>
        obtain ⟨j, hj, rfl, hown, bj⟩ := hrel
        by_cases hlt : j < y1
        · have hcc := hc1 j hlt
          have hl1 : bb1 < w4.heap.size := block_lt_of_cell hcc
          have q1 := (bj.cell (p := ⟨bb1, oo1 + j, none⟩) (by show bb1 < w4.heap.size + 1; omega)).trans ((UB6.cell (p := ⟨bb1, oo1 + j, none⟩) hl1).trans hcc)
          have hkey : keyOf Try.prog 3 (.int .i64 (a1 + (j : Int))) = some (.int .i64 (a1 + (j : Int))) := keyOf_int_mk Try.underlying3 (WalkArith.wf_i64 (by omega))
          have HK := Lib.hid hkey
          have HM := Lib.hid hown
          have HJ := Lib.hid bj
          clear hkey hown bj hcc
          go_wp2_with (at_mapUpdate; refine wpList_mapUpdate_own _ rfl _ _ _ 56 rfl 3 3 lawI Try.underlying56 _ (w4.heap.size + 1) j _ rfl HM.out (by unfold maxLen; omega) _ _ _ rfl rfl HK.out _ [] (plainElem_int Try.underlying3 (by decide)) ?_; intro w7 hown7 hg7)
          go_roundw
          case rel => exact ⟨j + 1, by omega, by go_num, hown7, Below.grown HJ.out hg7 (by have := HJ.out.size; omega) (fun k hk => by cases hk; exact Nat.le_refl _)⟩
          case measure => simp [intOf]; omega
        · have hjy : j = y1 := by omega
          have HJY := Lib.hid hjy
          clear hjy
          go_wp2
          go_loop [20, 70] (fun _ i => ∃ p : Nat, p ≤ y2 ∧ i = .int .i64 p ∧ (∀ q : Nat, q < p → ¬ ((1 : Int) = 2 ∧ a1 ≤ a2 + (q : Int) ∧ a2 + (q : Int) < a1 + (y1 : Nat)))) (fun _ i => y2 - (intOf i).toNat)
          case atStart => exact ⟨0, Nat.zero_le _, rfl, fun q hq => by omega⟩
          case round =>
            obtain ⟨p, hp, rfl, hno⟩ := hrel
            have HNO := Lib.hid hno
            clear hno
            by_cases hlt : p < y2
            · exact absurd hlt (by omega)
            · have hpe : p = y2 := by omega
              have HPE := Lib.hid hpe
              have t7 := t6.trans (bj.mono (show w.heap.size ≤ w4.heap.size + 1 by omega))
              clear hpe
              go_wp2
              go_ret2
              refine ⟨ret_bool2 (a := false) (HTB.out.trans ?_).symm 0, t7⟩
              first
                | rfl
                | exact decide_eq_false (fun h => by
                    have e1 := HPE.out
                    by_cases hle : a1 ≤ a2
                    · exact HNO.out 0 (by omega) ⟨by simp, by omega, by omega⟩
                    · exact HNO.out (a1 - a2).toNat (by omega) ⟨by simp, by omega, by omega⟩)
    · go_loopw [18, 60] (fun _ i wr => ∃ j : Nat, j ≤ y1 ∧ i = .int .i64 j ∧ wr.ownsMap Try.prog 3 (plainElem (H := Unit) Try.prog 3) (w4.heap.size + 1) j (mapB a1 1 j) ∧ Below (w4.heap.size + 1) w6 wr) (fun _ i _ => y1 - (intOf i).toNat)
      case atStart => exact ⟨0, Nat.zero_le _, rfl, m6, Below.refl _ _⟩
      case round =>
        obtain ⟨j, hj, rfl, hown, bj⟩ := hrel
        by_cases hlt : j < y1
        · have hcc := hc1 j hlt
          have hl1 : bb1 < w4.heap.size := block_lt_of_cell hcc
          have q1 := (bj.cell (p := ⟨bb1, oo1 + j, none⟩) (by show bb1 < w4.heap.size + 1; omega)).trans ((UB6.cell (p := ⟨bb1, oo1 + j, none⟩) hl1).trans hcc)
          have hkey : keyOf Try.prog 3 (.int .i64 (a1 + (j : Int))) = some (.int .i64 (a1 + (j : Int))) := keyOf_int_mk Try.underlying3 (WalkArith.wf_i64 (by omega))
          have HK := Lib.hid hkey
          have HM := Lib.hid hown
          have HJ := Lib.hid bj
          clear hkey hown bj hcc
          go_wp2_with (at_mapUpdate; refine wpList_mapUpdate_own _ rfl _ _ _ 56 rfl 3 3 lawI Try.underlying56 _ (w4.heap.size + 1) j _ rfl HM.out (by unfold maxLen; omega) _ _ _ rfl rfl HK.out _ [] (plainElem_int Try.underlying3 (by decide)) ?_; intro w7 hown7 hg7)
          go_roundw
          case rel => exact ⟨j + 1, by omega, by go_num, hown7, Below.grown HJ.out hg7 (by have := HJ.out.size; omega) (fun k hk => by cases hk; exact Nat.le_refl _)⟩
          case measure => simp [intOf]; omega
        · have hjy : j = y1 := by omega
          have HJY := Lib.hid hjy
          clear hjy
          go_wp2
          go_loop [20, 70] (fun _ i => ∃ p : Nat, p ≤ y2 ∧ i = .int .i64 p ∧ (∀ q : Nat, q < p → ¬ ((1 : Int) = 2 ∧ a1 ≤ a2 + (q : Int) ∧ a2 + (q : Int) < a1 + (y1 : Nat)))) (fun _ i => y2 - (intOf i).toNat)
          case atStart => exact ⟨0, Nat.zero_le _, rfl, fun q hq => by omega⟩
          case round =>
            obtain ⟨p, hp, rfl, hno⟩ := hrel
            have HNO := Lib.hid hno
            clear hno
            by_cases hlt : p < y2
            · have hcc := hc2 p hlt
              have hl2 : bb2 < w4.heap.size := block_lt_of_cell hcc
              have q2 := (bj.cell (p := ⟨bb2, oo2 + p, none⟩) (by show bb2 < w4.heap.size + 1; omega)).trans ((UB6.cell (p := ⟨bb2, oo2 + p, none⟩) hl2).trans hcc)
              have hkey : keyOf Try.prog 3 (.int .i64 (a2 + (p : Int))) = some (.int .i64 (a2 + (p : Int))) := keyOf_int_mk Try.underlying3 (WalkArith.wf_i64 (by omega))
              have HK := Lib.hid hkey
              have HM := Lib.hid hown
              have t7 := t6.trans (bj.mono (show w.heap.size ≤ w4.heap.size + 1 by omega))
              clear hkey hown hcc
              by_cases hit : a1 ≤ a2 + (p : Int) ∧ a2 + (p : Int) < a1 + (j : Int)
              · have HIT := Lib.hid hit
                clear hit
                go_wp2_with (at_lookup; go_loud (refine wpList_lookup_own_int _ rfl _ _ 56 rfl 3 3 .i64 lawI Try.underlying56 Try.underlying3 (zeroI _) (w4.heap.size + 1) j _ rfl HM.out _ _ rfl HK.out ?_; intro c hat hwc; have hcv := mapB_hit hat HIT.out; subst hcv; clear hat hwc))
                first
                  | (go_ret2
                     exact ⟨ret_bool2 (a := true) (HTB.out.trans (decide_eq_true (by have := HIT.out; have := HJY.out; omega))).symm 0, t7⟩)
                  | (go_round
                     case rel => exact ⟨p + 1, by omega, by go_num, fun q hq h => by
                       rcases (show q < p ∨ q = p by omega) with hq2 | hq2
                       · exact HNO.out q hq2 ⟨by first | trivial | rfl | exact h.1 | exact h.1.elim, h.2⟩
                       · omega⟩
                     case measure => simp [intOf]; omega)
              · have HIT := Lib.hid hit
                clear hit
                go_wp2_with (at_lookup; go_loud (refine wpList_lookup_own_int _ rfl _ _ 56 rfl 3 3 .i64 lawI Try.underlying56 Try.underlying3 (zeroI _) (w4.heap.size + 1) j _ rfl HM.out _ _ rfl HK.out ?_; intro c hat hwc; have hcv := mapB_miss hat HIT.out; subst hcv; clear hat hwc))
                go_round
                case rel => exact ⟨p + 1, by omega, by go_num, fun q hq h => by
                  rcases (show q < p ∨ q = p by omega) with hq2 | hq2
                  · exact HNO.out q hq2 ⟨by first | trivial | rfl | exact h.1 | exact h.1.elim, h.2⟩
                  · subst hq2
                    have := HIT.out
                    have := HJY.out
                    omega⟩
                case measure => simp [intOf]; omega
            · have hpe : p = y2 := by omega
              have HPE := Lib.hid hpe
              have t7 := t6.trans (bj.mono (show w.heap.size ≤ w4.heap.size + 1 by omega))
              clear hpe
              go_wp2
              go_ret2
              refine ⟨ret_bool2 (a := false) (HTB.out.trans ?_).symm 0, t7⟩
              first
                | rfl
                | exact decide_eq_false (fun h => by
                    have e1 := HPE.out
                    by_cases hle : a1 ≤ a2
                    · exact HNO.out 0 (by omega) ⟨by simp, by omega, by omega⟩
                    · exact HNO.out (a1 - a2).toNat (by omega) ⟨by simp, by omega, by omega⟩)
  · simp only [Bool.or_false, Bool.false_or, Bool.or_true, Bool.true_or, Bool.false_and, Bool.true_and] at HTB
    go_enter Try.func15, Try.ntmps15
    go_wp2_with fail
    have C0 := BoxOf.alloc (BoxOf.alloc (BoxOf.new w #[.int .u32 (id : Int), .int .i64 m, .int .i64 c, .int .i64 r, .int .i64 l, .int .i64 h] 24) (.cells #[.int .u8 k1, .int .i64 a1, .int .i64 y1, .slice A1 n1 q1] 32)) (.cells #[.int .u8 k2, .int .i64 a2, .int .i64 y2, .slice A2 n2 q2] 32)
    have A0 := BoxOf.alloc (BoxOf.new' (w.alloc (.cells #[.int .u32 (id : Int), .int .i64 m, .int .i64 c, .int .i64 r, .int .i64 l, .int .i64 h] 24)) (w.heap.size + 1) #[.int .u8 k1, .int .i64 a1, .int .i64 y1, .slice A1 n1 q1] 32 (by simp)) (.cells #[.int .u8 k2, .int .i64 a2, .int .i64 y2, .slice A2 n2 q2] 32)
    have D0 := BoxOf.new' ((w.alloc (.cells #[.int .u32 (id : Int), .int .i64 m, .int .i64 c, .int .i64 r, .int .i64 l, .int .i64 h] 24)).alloc (.cells #[.int .u8 k1, .int .i64 a1, .int .i64 y1, .slice A1 n1 q1] 32)) (w.heap.size + 2) #[.int .u8 k2, .int .i64 a2, .int .i64 y2, .slice A2 n2 q2] 32 (by simp)
    have t0 := Ext.alloc (Ext.alloc (Ext.alloc (Below.refl w.heap.size w) (.cells #[.int .u32 (id : Int), .int .i64 m, .int .i64 c, .int .i64 r, .int .i64 l, .int .i64 h] 24)) (.cells #[.int .u8 k1, .int .i64 a1, .int .i64 y1, .slice A1 n1 q1] 32)) (.cells #[.int .u8 k2, .int .i64 a2, .int .i64 y2, .slice A2 n2 q2] 32)
    refine (HB1.out _).mono ?_
    rintro e w1 ⟨v1, rfl, o1, b1⟩
    obtain ⟨P1, c1, rfl, _, r1⟩ := own_rd o1
    have C1 := C0.next b1
    have A1 := A0.next b1
    have D1 := D0.next b1
    have t1 := Ext.trans t0 b1
    have x1 := C1.cell
    have y1 := A1.cell
    have z1 := D1.cell
    clear C0 A0 D0 t0
    clear b1 o1
    go_wp2_with fail
    refine (HB2.out _).mono ?_
    rintro e w2 ⟨v2, rfl, o2, b2⟩
    obtain ⟨P2, c2, rfl, _, r2⟩ := own_rd o2
    have r1 := r1.below b2
    have C2 := C1.next b2
    have A2 := A1.next b2
    have D2 := D1.next b2
    have t2 := Ext.trans t1 b2
    have x2 := C2.cell
    have y2 := A2.cell
    have z2 := D2.cell
    clear C1 A1 D1 t1
    clear b2 o2 x1 y1 z1
    go_wp2_with fail
    refine (HO1.out _).mono ?_
    rintro e w3 ⟨rfl, b3⟩
    have r1 := r1.below b3
    have r2 := r2.below b3
    have C3 := C2.next b3
    have A3 := A2.next b3
    have D3 := D2.next b3
    have t3 := Ext.trans t2 b3
    have x3 := C3.cell
    have y3 := A3.cell
    have z3 := D3.cell
    clear C2 A2 D2 t2
    have l3 := D3.lt
    clear b3 x2 y2 z2
    go_wp2_with fail
    refine (HO2.out _).mono ?_
    rintro e w4 ⟨rfl, b4⟩
    have r1 := (r1.alloc _).below b4
    have r2 := (r2.alloc _).below b4
    have F4 := (BoxOf.new w3 #[.int .i64 mo1, .bool by1, .bool false] 53).next b4
    have t4 := Ext.trans (Ext.alloc t3 (.cells #[.int .i64 mo1, .bool by1, .bool false] 53)) b4
    have f4 := F4.cell
    have l4 := F4.lt
    have s4 := t4.size
    clear b4 x3 y3 z3 A3 C3 D3 t3 l3 F4
    go_wp2
    have m6 := World.ownsMap_made (w4.alloc (.cells #[.int .i64 mo2, .bool by2, .bool true] 53)) Try.prog 3 (plainElem (H := Unit) Try.prog 3)
    rw [show (w4.alloc (.cells #[.int .i64 mo2, .bool by2, .bool true] 53)).heap.size = w4.heap.size + 1 by simp] at m6
    have t6 := Ext.alloc (Ext.alloc t4 (.cells #[.int .i64 mo2, .bool by2, .bool true] 53)) (.map #[] 0)
    have h6 : ((w4.alloc (.cells #[.int .i64 mo2, .bool by2, .bool true] 53)).alloc (.map #[] 0)).heap.size = w4.heap.size + 2 := by simp
    have UB6 := Ext.alloc (Ext.alloc (Below.refl w4.heap.size w4) (.cells #[.int .i64 mo2, .bool by2, .bool true] 53)) (.map #[] 0)
    generalize (w4.alloc (.cells #[.int .i64 mo2, .bool by2, .bool true] 53)).alloc (.map #[] 0) = w6 at m6 t6 h6 UB6 ⊢
    have r1 := rd_seq r1
    have r2 := rd_seq r2
    clear f4 l4 t4
    have hb1 : IsInt (a1 + 8) ∧ 0 ≤ a1 := ⟨⟨by omega, by omega⟩, by omega⟩
    have hb2 : IsInt (a2 + 8) ∧ 0 ≤ a2 := ⟨⟨by omega, by omega⟩, by omega⟩
    obtain ⟨ha1, ha1'⟩ := ha1
    obtain ⟨ha2, ha2'⟩ := ha2
    have r1 : y1 ≤ 0 ∨ _ := r1.imp (fun h => Nat.le_of_eq h) (fun h => h)
    have r2 : y2 ≤ 0 ∨ _ := r2.imp (fun h => Nat.le_of_eq h) (fun h => h)
    rcases r1 with hz1 | ⟨bb1, oo1, rfl, hc1⟩ <;> rcases r2 with hz2 | ⟨bb2, oo2, rfl, hc2⟩
    · go_loopw [18, 60] (fun _ i wr => ∃ j : Nat, j ≤ y1 ∧ i = .int .i64 j ∧ wr.ownsMap Try.prog 3 (plainElem (H := Unit) Try.prog 3) (w4.heap.size + 1) j (mapB a1 2 j) ∧ Below (w4.heap.size + 1) w6 wr) (fun _ i _ => y1 - (intOf i).toNat)
      case atStart => exact ⟨0, Nat.zero_le _, rfl, m6, Below.refl _ _⟩
      case round =>
        obtain ⟨j, hj, rfl, hown, bj⟩ := hrel
        by_cases hlt : j < y1
        · exact absurd hlt (by omega)
        · have hjy : j = y1 := by omega
          have HJY := Lib.hid hjy
          clear hjy
          go_wp2
          go_loop [20, 70] (fun _ i => ∃ p : Nat, p ≤ y2 ∧ i = .int .i64 p ∧ (∀ q : Nat, q < p → ¬ ((2 : Int) = 2 ∧ a1 ≤ a2 + (q : Int) ∧ a2 + (q : Int) < a1 + (y1 : Nat)))) (fun _ i => y2 - (intOf i).toNat)
          case atStart => exact ⟨0, Nat.zero_le _, rfl, fun q hq => by omega⟩
          case round =>
            obtain ⟨p, hp, rfl, hno⟩ := hrel
            have HNO := Lib.hid hno
            clear hno
            by_cases hlt : p < y2
            · exact absurd hlt (by omega)
            · have hpe : p = y2 := by omega
              have HPE := Lib.hid hpe
              have t7 := t6.trans (bj.mono (show w.heap.size ≤ w4.heap.size + 1 by omega))
              clear hpe
              go_wp2
              go_ret2
              refine ⟨ret_bool2 (a := false) (HTB.out.trans ?_).symm 0, t7⟩
              first
                | rfl
                | exact decide_eq_false (fun h => by
                    have e1 := HPE.out
                    by_cases hle : a1 ≤ a2
                    · exact HNO.out 0 (by omega) ⟨by simp, by omega, by omega⟩
                    · exact HNO.out (a1 - a2).toNat (by omega) ⟨by simp, by omega, by omega⟩)
    · go_loopw [18, 60] (fun _ i wr => ∃ j : Nat, j ≤ y1 ∧ i = .int .i64 j ∧ wr.ownsMap Try.prog 3 (plainElem (H := Unit) Try.prog 3) (w4.heap.size + 1) j (mapB a1 2 j) ∧ Below (w4.heap.size + 1) w6 wr) (fun _ i _ => y1 - (intOf i).toNat)
      case atStart => exact ⟨0, Nat.zero_le _, rfl, m6, Below.refl _ _⟩
      case round =>
        obtain ⟨j, hj, rfl, hown, bj⟩ := hrel
        by_cases hlt : j < y1
        · exact absurd hlt (by omega)
        · have hjy : j = y1 := by omega
          have HJY := Lib.hid hjy
          clear hjy
          go_wp2
          go_loop [20, 70] (fun _ i => ∃ p : Nat, p ≤ y2 ∧ i = .int .i64 p ∧ (∀ q : Nat, q < p → ¬ ((2 : Int) = 2 ∧ a1 ≤ a2 + (q : Int) ∧ a2 + (q : Int) < a1 + (y1 : Nat)))) (fun _ i => y2 - (intOf i).toNat)
          case atStart => exact ⟨0, Nat.zero_le _, rfl, fun q hq => by omega⟩
          case round =>
            obtain ⟨p, hp, rfl, hno⟩ := hrel
            have HNO := Lib.hid hno
            clear hno
            by_cases hlt : p < y2
            · have hcc := hc2 p hlt
              have hl2 : bb2 < w4.heap.size := block_lt_of_cell hcc
              have q2 := (bj.cell (p := ⟨bb2, oo2 + p, none⟩) (by show bb2 < w4.heap.size + 1; omega)).trans ((UB6.cell (p := ⟨bb2, oo2 + p, none⟩) hl2).trans hcc)
              have hkey : keyOf Try.prog 3 (.int .i64 (a2 + (p : Int))) = some (.int .i64 (a2 + (p : Int))) := keyOf_int_mk Try.underlying3 (WalkArith.wf_i64 (by omega))
              have HK := Lib.hid hkey
              have HM := Lib.hid hown
              have t7 := t6.trans (bj.mono (show w.heap.size ≤ w4.heap.size + 1 by omega))
              clear hkey hown hcc
              by_cases hit : a1 ≤ a2 + (p : Int) ∧ a2 + (p : Int) < a1 + (j : Int)
              · have HIT := Lib.hid hit
                clear hit
                go_wp2_with (at_lookup; go_loud (refine wpList_lookup_own_int _ rfl _ _ 56 rfl 3 3 .i64 lawI Try.underlying56 Try.underlying3 (zeroI _) (w4.heap.size + 1) j _ rfl HM.out _ _ rfl HK.out ?_; intro c hat hwc; have hcv := mapB_hit hat HIT.out; subst hcv; clear hat hwc))
                first
                  | (go_ret2
                     exact ⟨ret_bool2 (a := true) (HTB.out.trans (decide_eq_true (by have := HIT.out; have := HJY.out; omega))).symm 0, t7⟩)
                  | (go_round
                     case rel => exact ⟨p + 1, by omega, by go_num, fun q hq h => by
                       rcases (show q < p ∨ q = p by omega) with hq2 | hq2
                       · exact HNO.out q hq2 ⟨by first | trivial | rfl | exact h.1 | exact h.1.elim, h.2⟩
                       · omega⟩
                     case measure => simp [intOf]; omega)
              · have HIT := Lib.hid hit
                clear hit
                go_wp2_with (at_lookup; go_loud (refine wpList_lookup_own_int _ rfl _ _ 56 rfl 3 3 .i64 lawI Try.underlying56 Try.underlying3 (zeroI _) (w4.heap.size + 1) j _ rfl HM.out _ _ rfl HK.out ?_; intro c hat hwc; have hcv := mapB_miss hat HIT.out; subst hcv; clear hat hwc))
                go_round
                case rel => exact ⟨p + 1, by omega, by go_num, fun q hq h => by
                  rcases (show q < p ∨ q = p by omega) with hq2 | hq2
                  · exact HNO.out q hq2 ⟨by first | trivial | rfl | exact h.1 | exact h.1.elim, h.2⟩
                  · subst hq2
                    have := HIT.out
                    have := HJY.out
                    omega⟩
                case measure => simp [intOf]; omega
            · have hpe : p = y2 := by omega
              have HPE := Lib.hid hpe
              have t7 := t6.trans (bj.mono (show w.heap.size ≤ w4.heap.size + 1 by omega))
              clear hpe
              go_wp2
              go_ret2
              refine ⟨ret_bool2 (a := false) (HTB.out.trans ?_).symm 0, t7⟩
              first
                | rfl
                | exact decide_eq_false (fun h => by
                    have e1 := HPE.out
                    by_cases hle : a1 ≤ a2
                    · exact HNO.out 0 (by omega) ⟨by simp, by omega, by omega⟩
                    · exact HNO.out (a1 - a2).toNat (by omega) ⟨by simp, by omega, by omega⟩)
    · go_loopw [18, 60] (fun _ i wr => ∃ j : Nat, j ≤ y1 ∧ i = .int .i64 j ∧ wr.ownsMap Try.prog 3 (plainElem (H := Unit) Try.prog 3) (w4.heap.size + 1) j (mapB a1 2 j) ∧ Below (w4.heap.size + 1) w6 wr) (fun _ i _ => y1 - (intOf i).toNat)
      case atStart => exact ⟨0, Nat.zero_le _, rfl, m6, Below.refl _ _⟩
      case round =>
        obtain ⟨j, hj, rfl, hown, bj⟩ := hrel
        by_cases hlt : j < y1
        · have hcc := hc1 j hlt
          have hl1 : bb1 < w4.heap.size := block_lt_of_cell hcc
          have q1 := (bj.cell (p := ⟨bb1, oo1 + j, none⟩) (by show bb1 < w4.heap.size + 1; omega)).trans ((UB6.cell (p := ⟨bb1, oo1 + j, none⟩) hl1).trans hcc)
          have hkey : keyOf Try.prog 3 (.int .i64 (a1 + (j : Int))) = some (.int .i64 (a1 + (j : Int))) := keyOf_int_mk Try.underlying3 (WalkArith.wf_i64 (by omega))
          have HK := Lib.hid hkey
          have HM := Lib.hid hown
          have HJ := Lib.hid bj
          clear hkey hown bj hcc
          go_wp2_with (at_mapUpdate; refine wpList_mapUpdate_own _ rfl _ _ _ 56 rfl 3 3 lawI Try.underlying56 _ (w4.heap.size + 1) j _ rfl HM.out (by unfold maxLen; omega) _ _ _ rfl rfl HK.out _ [] (plainElem_int Try.underlying3 (by decide)) ?_; intro w7 hown7 hg7)
          go_roundw
          case rel => exact ⟨j + 1, by omega, by go_num, hown7, Below.grown HJ.out hg7 (by have := HJ.out.size; omega) (fun k hk => by cases hk; exact Nat.le_refl _)⟩
          case measure => simp [intOf]; omega
        · have hjy : j = y1 := by omega
          have HJY := Lib.hid hjy
          clear hjy
          go_wp2
          go_loop [20, 70] (fun _ i => ∃ p : Nat, p ≤ y2 ∧ i = .int .i64 p ∧ (∀ q : Nat, q < p → ¬ ((2 : Int) = 2 ∧ a1 ≤ a2 + (q : Int) ∧ a2 + (q : Int) < a1 + (y1 : Nat)))) (fun _ i => y2 - (intOf i).toNat)
          case atStart => exact ⟨0, Nat.zero_le _, rfl, fun q hq => by omega⟩
          case round =>
            obtain ⟨p, hp, rfl, hno⟩ := hrel
            have HNO := Lib.hid hno
            clear hno
            by_cases hlt : p < y2
            · exact absurd hlt (by omega)
            · have hpe : p = y2 := by omega
              have HPE := Lib.hid hpe
              have t7 := t6.trans (bj.mono (show w.heap.size ≤ w4.heap.size + 1 by omega))
              clear hpe
              go_wp2
              go_ret2
              refine ⟨ret_bool2 (a := false) (HTB.out.trans ?_).symm 0, t7⟩
              first
                | rfl
                | exact decide_eq_false (fun h => by
                    have e1 := HPE.out
                    by_cases hle : a1 ≤ a2
                    · exact HNO.out 0 (by omega) ⟨by simp, by omega, by omega⟩
                    · exact HNO.out (a1 - a2).toNat (by omega) ⟨by simp, by omega, by omega⟩)
    · go_loopw [18, 60] (fun _ i wr => ∃ j : Nat, j ≤ y1 ∧ i = .int .i64 j ∧ wr.ownsMap Try.prog 3 (plainElem (H := Unit) Try.prog 3) (w4.heap.size + 1) j (mapB a1 2 j) ∧ Below (w4.heap.size + 1) w6 wr) (fun _ i _ => y1 - (intOf i).toNat)
      case atStart => exact ⟨0, Nat.zero_le _, rfl, m6, Below.refl _ _⟩
      case round =>
        obtain ⟨j, hj, rfl, hown, bj⟩ := hrel
        by_cases hlt : j < y1
        · have hcc := hc1 j hlt
          have hl1 : bb1 < w4.heap.size := block_lt_of_cell hcc
          have q1 := (bj.cell (p := ⟨bb1, oo1 + j, none⟩) (by show bb1 < w4.heap.size + 1; omega)).trans ((UB6.cell (p := ⟨bb1, oo1 + j, none⟩) hl1).trans hcc)
          have hkey : keyOf Try.prog 3 (.int .i64 (a1 + (j : Int))) = some (.int .i64 (a1 + (j : Int))) := keyOf_int_mk Try.underlying3 (WalkArith.wf_i64 (by omega))
          have HK := Lib.hid hkey
          have HM := Lib.hid hown
          have HJ := Lib.hid bj
          clear hkey hown bj hcc
          go_wp2_with (at_mapUpdate; refine wpList_mapUpdate_own _ rfl _ _ _ 56 rfl 3 3 lawI Try.underlying56 _ (w4.heap.size + 1) j _ rfl HM.out (by unfold maxLen; omega) _ _ _ rfl rfl HK.out _ [] (plainElem_int Try.underlying3 (by decide)) ?_; intro w7 hown7 hg7)
          go_roundw
          case rel => exact ⟨j + 1, by omega, by go_num, hown7, Below.grown HJ.out hg7 (by have := HJ.out.size; omega) (fun k hk => by cases hk; exact Nat.le_refl _)⟩
          case measure => simp [intOf]; omega
        · have hjy : j = y1 := by omega
          have HJY := Lib.hid hjy
          clear hjy
          go_wp2
          go_loop [20, 70] (fun _ i => ∃ p : Nat, p ≤ y2 ∧ i = .int .i64 p ∧ (∀ q : Nat, q < p → ¬ ((2 : Int) = 2 ∧ a1 ≤ a2 + (q : Int) ∧ a2 + (q : Int) < a1 + (y1 : Nat)))) (fun _ i => y2 - (intOf i).toNat)
          case atStart => exact ⟨0, Nat.zero_le _, rfl, fun q hq => by omega⟩
          case round =>
            obtain ⟨p, hp, rfl, hno⟩ := hrel
            have HNO := Lib.hid hno
            clear hno
            by_cases hlt : p < y2
            · have hcc := hc2 p hlt
              have hl2 : bb2 < w4.heap.size := block_lt_of_cell hcc
              have q2 := (bj.cell (p := ⟨bb2, oo2 + p, none⟩) (by show bb2 < w4.heap.size + 1; omega)).trans ((UB6.cell (p := ⟨bb2, oo2 + p, none⟩) hl2).trans hcc)
              have hkey : keyOf Try.prog 3 (.int .i64 (a2 + (p : Int))) = some (.int .i64 (a2 + (p : Int))) := keyOf_int_mk Try.underlying3 (WalkArith.wf_i64 (by omega))
              have HK := Lib.hid hkey
              have HM := Lib.hid hown
              have t7 := t6.trans (bj.mono (show w.heap.size ≤ w4.heap.size + 1 by omega))
              clear hkey hown hcc
              by_cases hit : a1 ≤ a2 + (p : Int) ∧ a2 + (p : Int) < a1 + (j : Int)
              · have HIT := Lib.hid hit
                clear hit
                go_wp2_with (at_lookup; go_loud (refine wpList_lookup_own_int _ rfl _ _ 56 rfl 3 3 .i64 lawI Try.underlying56 Try.underlying3 (zeroI _) (w4.heap.size + 1) j _ rfl HM.out _ _ rfl HK.out ?_; intro c hat hwc; have hcv := mapB_hit hat HIT.out; subst hcv; clear hat hwc))
                first
                  | (go_ret2
                     exact ⟨ret_bool2 (a := true) (HTB.out.trans (decide_eq_true (by have := HIT.out; have := HJY.out; omega))).symm 0, t7⟩)
                  | (go_round
                     case rel => exact ⟨p + 1, by omega, by go_num, fun q hq h => by
                       rcases (show q < p ∨ q = p by omega) with hq2 | hq2
                       · exact HNO.out q hq2 ⟨by first | trivial | rfl | exact h.1 | exact h.1.elim, h.2⟩
                       · omega⟩
                     case measure => simp [intOf]; omega)
              · have HIT := Lib.hid hit
                clear hit
                go_wp2_with (at_lookup; go_loud (refine wpList_lookup_own_int _ rfl _ _ 56 rfl 3 3 .i64 lawI Try.underlying56 Try.underlying3 (zeroI _) (w4.heap.size + 1) j _ rfl HM.out _ _ rfl HK.out ?_; intro c hat hwc; have hcv := mapB_miss hat HIT.out; subst hcv; clear hat hwc))
                go_round
                case rel => exact ⟨p + 1, by omega, by go_num, fun q hq h => by
                  rcases (show q < p ∨ q = p by omega) with hq2 | hq2
                  · exact HNO.out q hq2 ⟨by first | trivial | rfl | exact h.1 | exact h.1.elim, h.2⟩
                  · subst hq2
                    have := HIT.out
                    have := HJY.out
                    omega⟩
                case measure => simp [intOf]; omega
            · have hpe : p = y2 := by omega
              have HPE := Lib.hid hpe
              have t7 := t6.trans (bj.mono (show w.heap.size ≤ w4.heap.size + 1 by omega))
              clear hpe
              go_wp2
              go_ret2
              refine ⟨ret_bool2 (a := false) (HTB.out.trans ?_).symm 0, t7⟩
              first
                | rfl
                | exact decide_eq_false (fun h => by
                    have e1 := HPE.out
                    by_cases hle : a1 ≤ a2
                    · exact HNO.out 0 (by omega) ⟨by simp, by omega, by omega⟩
                    · exact HNO.out (a1 - a2).toNat (by omega) ⟨by simp, by omega, by omega⟩)
  · simp only [Bool.or_false, Bool.false_or, Bool.or_true, Bool.true_or, Bool.false_and, Bool.true_and] at HTB
    go_enter Try.func15, Try.ntmps15
    go_wp2_with fail
    have C0 := BoxOf.alloc (BoxOf.alloc (BoxOf.new w #[.int .u32 (id : Int), .int .i64 m, .int .i64 c, .int .i64 r, .int .i64 l, .int .i64 h] 24) (.cells #[.int .u8 k1, .int .i64 a1, .int .i64 y1, .slice A1 n1 q1] 32)) (.cells #[.int .u8 k2, .int .i64 a2, .int .i64 y2, .slice A2 n2 q2] 32)
    have A0 := BoxOf.alloc (BoxOf.new' (w.alloc (.cells #[.int .u32 (id : Int), .int .i64 m, .int .i64 c, .int .i64 r, .int .i64 l, .int .i64 h] 24)) (w.heap.size + 1) #[.int .u8 k1, .int .i64 a1, .int .i64 y1, .slice A1 n1 q1] 32 (by simp)) (.cells #[.int .u8 k2, .int .i64 a2, .int .i64 y2, .slice A2 n2 q2] 32)
    have D0 := BoxOf.new' ((w.alloc (.cells #[.int .u32 (id : Int), .int .i64 m, .int .i64 c, .int .i64 r, .int .i64 l, .int .i64 h] 24)).alloc (.cells #[.int .u8 k1, .int .i64 a1, .int .i64 y1, .slice A1 n1 q1] 32)) (w.heap.size + 2) #[.int .u8 k2, .int .i64 a2, .int .i64 y2, .slice A2 n2 q2] 32 (by simp)
    have t0 := Ext.alloc (Ext.alloc (Ext.alloc (Below.refl w.heap.size w) (.cells #[.int .u32 (id : Int), .int .i64 m, .int .i64 c, .int .i64 r, .int .i64 l, .int .i64 h] 24)) (.cells #[.int .u8 k1, .int .i64 a1, .int .i64 y1, .slice A1 n1 q1] 32)) (.cells #[.int .u8 k2, .int .i64 a2, .int .i64 y2, .slice A2 n2 q2] 32)
    refine (HB1.out _).mono ?_
    rintro e w1 ⟨v1, rfl, o1, b1⟩
    obtain ⟨P1, c1, rfl, _, r1⟩ := own_rd o1
    have C1 := C0.next b1
    have A1 := A0.next b1
    have D1 := D0.next b1
    have t1 := Ext.trans t0 b1
    have x1 := C1.cell
    have y1 := A1.cell
    have z1 := D1.cell
    clear C0 A0 D0 t0
    clear b1 o1
    go_wp2_with fail
    refine (HB2.out _).mono ?_
    rintro e w2 ⟨v2, rfl, o2, b2⟩
    obtain ⟨P2, c2, rfl, _, r2⟩ := own_rd o2
    have r1 := r1.below b2
    have C2 := C1.next b2
    have A2 := A1.next b2
    have D2 := D1.next b2
    have t2 := Ext.trans t1 b2
    have x2 := C2.cell
    have y2 := A2.cell
    have z2 := D2.cell
    clear C1 A1 D1 t1
    clear b2 o2 x1 y1 z1
    go_wp2_with fail
    refine (HO1.out _).mono ?_
    rintro e w3 ⟨rfl, b3⟩
    have r1 := r1.below b3
    have r2 := r2.below b3
    have C3 := C2.next b3
    have A3 := A2.next b3
    have D3 := D2.next b3
    have t3 := Ext.trans t2 b3
    have x3 := C3.cell
    have y3 := A3.cell
    have z3 := D3.cell
    clear C2 A2 D2 t2
    have l3 := D3.lt
    clear b3 x2 y2 z2
    go_wp2_with fail
    refine (HO2.out _).mono ?_
    rintro e w4 ⟨rfl, b4⟩
    have r1 := (r1.alloc _).below b4
    have r2 := (r2.alloc _).below b4
    have F4 := (BoxOf.new w3 #[.int .i64 mo1, .bool by1, .bool true] 53).next b4
    have t4 := Ext.trans (Ext.alloc t3 (.cells #[.int .i64 mo1, .bool by1, .bool true] 53)) b4
    have f4 := F4.cell
    have l4 := F4.lt
    have s4 := t4.size
    clear b4 x3 y3 z3 A3 C3 D3 t3 l3 F4
    go_wp2
    have m6 := World.ownsMap_made (w4.alloc (.cells #[.int .i64 mo2, .bool by2, .bool false] 53)) Try.prog 3 (plainElem (H := Unit) Try.prog 3)
    rw [show (w4.alloc (.cells #[.int .i64 mo2, .bool by2, .bool false] 53)).heap.size = w4.heap.size + 1 by simp] at m6
    have t6 := Ext.alloc (Ext.alloc t4 (.cells #[.int .i64 mo2, .bool by2, .bool false] 53)) (.map #[] 0)
    have h6 : ((w4.alloc (.cells #[.int .i64 mo2, .bool by2, .bool false] 53)).alloc (.map #[] 0)).heap.size = w4.heap.size + 2 := by simp
    have UB6 := Ext.alloc (Ext.alloc (Below.refl w4.heap.size w4) (.cells #[.int .i64 mo2, .bool by2, .bool false] 53)) (.map #[] 0)
    generalize (w4.alloc (.cells #[.int .i64 mo2, .bool by2, .bool false] 53)).alloc (.map #[] 0) = w6 at m6 t6 h6 UB6 ⊢
    have r1 := rd_seq r1
    have r2 := rd_seq r2
    clear f4 l4 t4
    have hb1 : IsInt (a1 + 8) ∧ 0 ≤ a1 := ⟨⟨by omega, by omega⟩, by omega⟩
    have hb2 : IsInt (a2 + 8) ∧ 0 ≤ a2 := ⟨⟨by omega, by omega⟩, by omega⟩
    obtain ⟨ha1, ha1'⟩ := ha1
    obtain ⟨ha2, ha2'⟩ := ha2
    have r1 : y1 ≤ 0 ∨ _ := r1.imp (fun h => Nat.le_of_eq h) (fun h => h)
    have r2 : y2 ≤ 0 ∨ _ := r2.imp (fun h => Nat.le_of_eq h) (fun h => h)
    rcases r1 with hz1 | ⟨bb1, oo1, rfl, hc1⟩ <;> rcases r2 with hz2 | ⟨bb2, oo2, rfl, hc2⟩
    · go_loopw [18, 60] (fun _ i wr => ∃ j : Nat, j ≤ y1 ∧ i = .int .i64 j ∧ wr.ownsMap Try.prog 3 (plainElem (H := Unit) Try.prog 3) (w4.heap.size + 1) j (mapB a1 2 j) ∧ Below (w4.heap.size + 1) w6 wr) (fun _ i _ => y1 - (intOf i).toNat)
      case atStart => exact ⟨0, Nat.zero_le _, rfl, m6, Below.refl _ _⟩
      case round =>
        obtain ⟨j, hj, rfl, hown, bj⟩ := hrel
        by_cases hlt : j < y1
        · exact absurd hlt (by omega)
        · have hjy : j = y1 := by omega
          have HJY := Lib.hid hjy
          clear hjy
          go_wp2
          go_loop [20, 70] (fun _ i => ∃ p : Nat, p ≤ y2 ∧ i = .int .i64 p ∧ (∀ q : Nat, q < p → ¬ ((2 : Int) = 2 ∧ a1 ≤ a2 + (q : Int) ∧ a2 + (q : Int) < a1 + (y1 : Nat)))) (fun _ i => y2 - (intOf i).toNat)
          case atStart => exact ⟨0, Nat.zero_le _, rfl, fun q hq => by omega⟩
          case round =>
            obtain ⟨p, hp, rfl, hno⟩ := hrel
            have HNO := Lib.hid hno
            clear hno
            by_cases hlt : p < y2
            · exact absurd hlt (by omega)
            · have hpe : p = y2 := by omega
              have HPE := Lib.hid hpe
              have t7 := t6.trans (bj.mono (show w.heap.size ≤ w4.heap.size + 1 by omega))
              clear hpe
              go_wp2
              go_ret2
              refine ⟨ret_bool2 (a := false) (HTB.out.trans ?_).symm 0, t7⟩
              first
                | rfl
                | exact decide_eq_false (fun h => by
                    have e1 := HPE.out
                    by_cases hle : a1 ≤ a2
                    · exact HNO.out 0 (by omega) ⟨by simp, by omega, by omega⟩
                    · exact HNO.out (a1 - a2).toNat (by omega) ⟨by simp, by omega, by omega⟩)
    · go_loopw [18, 60] (fun _ i wr => ∃ j : Nat, j ≤ y1 ∧ i = .int .i64 j ∧ wr.ownsMap Try.prog 3 (plainElem (H := Unit) Try.prog 3) (w4.heap.size + 1) j (mapB a1 2 j) ∧ Below (w4.heap.size + 1) w6 wr) (fun _ i _ => y1 - (intOf i).toNat)
      case atStart => exact ⟨0, Nat.zero_le _, rfl, m6, Below.refl _ _⟩
      case round =>
        obtain ⟨j, hj, rfl, hown, bj⟩ := hrel
        by_cases hlt : j < y1
        · exact absurd hlt (by omega)
        · have hjy : j = y1 := by omega
          have HJY := Lib.hid hjy
          clear hjy
          go_wp2
          go_loop [20, 70] (fun _ i => ∃ p : Nat, p ≤ y2 ∧ i = .int .i64 p ∧ (∀ q : Nat, q < p → ¬ ((2 : Int) = 2 ∧ a1 ≤ a2 + (q : Int) ∧ a2 + (q : Int) < a1 + (y1 : Nat)))) (fun _ i => y2 - (intOf i).toNat)
          case atStart => exact ⟨0, Nat.zero_le _, rfl, fun q hq => by omega⟩
          case round =>
            obtain ⟨p, hp, rfl, hno⟩ := hrel
            have HNO := Lib.hid hno
            clear hno
            by_cases hlt : p < y2
            · have hcc := hc2 p hlt
              have hl2 : bb2 < w4.heap.size := block_lt_of_cell hcc
              have q2 := (bj.cell (p := ⟨bb2, oo2 + p, none⟩) (by show bb2 < w4.heap.size + 1; omega)).trans ((UB6.cell (p := ⟨bb2, oo2 + p, none⟩) hl2).trans hcc)
              have hkey : keyOf Try.prog 3 (.int .i64 (a2 + (p : Int))) = some (.int .i64 (a2 + (p : Int))) := keyOf_int_mk Try.underlying3 (WalkArith.wf_i64 (by omega))
              have HK := Lib.hid hkey
              have HM := Lib.hid hown
              have t7 := t6.trans (bj.mono (show w.heap.size ≤ w4.heap.size + 1 by omega))
              clear hkey hown hcc
              by_cases hit : a1 ≤ a2 + (p : Int) ∧ a2 + (p : Int) < a1 + (j : Int)
              · have HIT := Lib.hid hit
                clear hit
                go_wp2_with (at_lookup; go_loud (refine wpList_lookup_own_int _ rfl _ _ 56 rfl 3 3 .i64 lawI Try.underlying56 Try.underlying3 (zeroI _) (w4.heap.size + 1) j _ rfl HM.out _ _ rfl HK.out ?_; intro c hat hwc; have hcv := mapB_hit hat HIT.out; subst hcv; clear hat hwc))
                first
                  | (go_ret2
                     exact ⟨ret_bool2 (a := true) (HTB.out.trans (decide_eq_true (by have := HIT.out; have := HJY.out; omega))).symm 0, t7⟩)
                  | (go_round
                     case rel => exact ⟨p + 1, by omega, by go_num, fun q hq h => by
                       rcases (show q < p ∨ q = p by omega) with hq2 | hq2
                       · exact HNO.out q hq2 ⟨by first | trivial | rfl | exact h.1 | exact h.1.elim, h.2⟩
                       · omega⟩
                     case measure => simp [intOf]; omega)
              · have HIT := Lib.hid hit
                clear hit
                go_wp2_with (at_lookup; go_loud (refine wpList_lookup_own_int _ rfl _ _ 56 rfl 3 3 .i64 lawI Try.underlying56 Try.underlying3 (zeroI _) (w4.heap.size + 1) j _ rfl HM.out _ _ rfl HK.out ?_; intro c hat hwc; have hcv := mapB_miss hat HIT.out; subst hcv; clear hat hwc))
                go_round
                case rel => exact ⟨p + 1, by omega, by go_num, fun q hq h => by
                  rcases (show q < p ∨ q = p by omega) with hq2 | hq2
                  · exact HNO.out q hq2 ⟨by first | trivial | rfl | exact h.1 | exact h.1.elim, h.2⟩
                  · subst hq2
                    have := HIT.out
                    have := HJY.out
                    omega⟩
                case measure => simp [intOf]; omega
            · have hpe : p = y2 := by omega
              have HPE := Lib.hid hpe
              have t7 := t6.trans (bj.mono (show w.heap.size ≤ w4.heap.size + 1 by omega))
              clear hpe
              go_wp2
              go_ret2
              refine ⟨ret_bool2 (a := false) (HTB.out.trans ?_).symm 0, t7⟩
              first
                | rfl
                | exact decide_eq_false (fun h => by
                    have e1 := HPE.out
                    by_cases hle : a1 ≤ a2
                    · exact HNO.out 0 (by omega) ⟨by simp, by omega, by omega⟩
                    · exact HNO.out (a1 - a2).toNat (by omega) ⟨by simp, by omega, by omega⟩)
    · go_loopw [18, 60] (fun _ i wr => ∃ j : Nat, j ≤ y1 ∧ i = .int .i64 j ∧ wr.ownsMap Try.prog 3 (plainElem (H := Unit) Try.prog 3) (w4.heap.size + 1) j (mapB a1 2 j) ∧ Below (w4.heap.size + 1) w6 wr) (fun _ i _ => y1 - (intOf i).toNat)
      case atStart => exact ⟨0, Nat.zero_le _, rfl, m6, Below.refl _ _⟩
      case round =>
        obtain ⟨j, hj, rfl, hown, bj⟩ := hrel
        by_cases hlt : j < y1
        · have hcc := hc1 j hlt
          have hl1 : bb1 < w4.heap.size := block_lt_of_cell hcc
          have q1 := (bj.cell (p := ⟨bb1, oo1 + j, none⟩) (by show bb1 < w4.heap.size + 1; omega)).trans ((UB6.cell (p := ⟨bb1, oo1 + j, none⟩) hl1).trans hcc)
          have hkey : keyOf Try.prog 3 (.int .i64 (a1 + (j : Int))) = some (.int .i64 (a1 + (j : Int))) := keyOf_int_mk Try.underlying3 (WalkArith.wf_i64 (by omega))
          have HK := Lib.hid hkey
          have HM := Lib.hid hown
          have HJ := Lib.hid bj
          clear hkey hown bj hcc
          go_wp2_with (at_mapUpdate; refine wpList_mapUpdate_own _ rfl _ _ _ 56 rfl 3 3 lawI Try.underlying56 _ (w4.heap.size + 1) j _ rfl HM.out (by unfold maxLen; omega) _ _ _ rfl rfl HK.out _ [] (plainElem_int Try.underlying3 (by decide)) ?_; intro w7 hown7 hg7)
          go_roundw
          case rel => exact ⟨j + 1, by omega, by go_num, hown7, Below.grown HJ.out hg7 (by have := HJ.out.size; omega) (fun k hk => by cases hk; exact Nat.le_refl _)⟩
          case measure => simp [intOf]; omega
        · have hjy : j = y1 := by omega
          have HJY := Lib.hid hjy
          clear hjy
          go_wp2
          go_loop [20, 70] (fun _ i => ∃ p : Nat, p ≤ y2 ∧ i = .int .i64 p ∧ (∀ q : Nat, q < p → ¬ ((2 : Int) = 2 ∧ a1 ≤ a2 + (q : Int) ∧ a2 + (q : Int) < a1 + (y1 : Nat)))) (fun _ i => y2 - (intOf i).toNat)
          case atStart => exact ⟨0, Nat.zero_le _, rfl, fun q hq => by omega⟩
          case round =>
            obtain ⟨p, hp, rfl, hno⟩ := hrel
            have HNO := Lib.hid hno
            clear hno
            by_cases hlt : p < y2
            · exact absurd hlt (by omega)
            · have hpe : p = y2 := by omega
              have HPE := Lib.hid hpe
              have t7 := t6.trans (bj.mono (show w.heap.size ≤ w4.heap.size + 1 by omega))
              clear hpe
              go_wp2
              go_ret2
              refine ⟨ret_bool2 (a := false) (HTB.out.trans ?_).symm 0, t7⟩
              first
                | rfl
                | exact decide_eq_false (fun h => by
                    have e1 := HPE.out
                    by_cases hle : a1 ≤ a2
                    · exact HNO.out 0 (by omega) ⟨by simp, by omega, by omega⟩
                    · exact HNO.out (a1 - a2).toNat (by omega) ⟨by simp, by omega, by omega⟩)
    · go_loopw [18, 60] (fun _ i wr => ∃ j : Nat, j ≤ y1 ∧ i = .int .i64 j ∧ wr.ownsMap Try.prog 3 (plainElem (H := Unit) Try.prog 3) (w4.heap.size + 1) j (mapB a1 2 j) ∧ Below (w4.heap.size + 1) w6 wr) (fun _ i _ => y1 - (intOf i).toNat)
      case atStart => exact ⟨0, Nat.zero_le _, rfl, m6, Below.refl _ _⟩
      case round =>
        obtain ⟨j, hj, rfl, hown, bj⟩ := hrel
        by_cases hlt : j < y1
        · have hcc := hc1 j hlt
          have hl1 : bb1 < w4.heap.size := block_lt_of_cell hcc
          have q1 := (bj.cell (p := ⟨bb1, oo1 + j, none⟩) (by show bb1 < w4.heap.size + 1; omega)).trans ((UB6.cell (p := ⟨bb1, oo1 + j, none⟩) hl1).trans hcc)
          have hkey : keyOf Try.prog 3 (.int .i64 (a1 + (j : Int))) = some (.int .i64 (a1 + (j : Int))) := keyOf_int_mk Try.underlying3 (WalkArith.wf_i64 (by omega))
          have HK := Lib.hid hkey
          have HM := Lib.hid hown
          have HJ := Lib.hid bj
          clear hkey hown bj hcc
          go_wp2_with (at_mapUpdate; refine wpList_mapUpdate_own _ rfl _ _ _ 56 rfl 3 3 lawI Try.underlying56 _ (w4.heap.size + 1) j _ rfl HM.out (by unfold maxLen; omega) _ _ _ rfl rfl HK.out _ [] (plainElem_int Try.underlying3 (by decide)) ?_; intro w7 hown7 hg7)
          go_roundw
          case rel => exact ⟨j + 1, by omega, by go_num, hown7, Below.grown HJ.out hg7 (by have := HJ.out.size; omega) (fun k hk => by cases hk; exact Nat.le_refl _)⟩
          case measure => simp [intOf]; omega
        · have hjy : j = y1 := by omega
          have HJY := Lib.hid hjy
          clear hjy
          go_wp2
          go_loop [20, 70] (fun _ i => ∃ p : Nat, p ≤ y2 ∧ i = .int .i64 p ∧ (∀ q : Nat, q < p → ¬ ((2 : Int) = 2 ∧ a1 ≤ a2 + (q : Int) ∧ a2 + (q : Int) < a1 + (y1 : Nat)))) (fun _ i => y2 - (intOf i).toNat)
          case atStart => exact ⟨0, Nat.zero_le _, rfl, fun q hq => by omega⟩
          case round =>
            obtain ⟨p, hp, rfl, hno⟩ := hrel
            have HNO := Lib.hid hno
            clear hno
            by_cases hlt : p < y2
            · have hcc := hc2 p hlt
              have hl2 : bb2 < w4.heap.size := block_lt_of_cell hcc
              have q2 := (bj.cell (p := ⟨bb2, oo2 + p, none⟩) (by show bb2 < w4.heap.size + 1; omega)).trans ((UB6.cell (p := ⟨bb2, oo2 + p, none⟩) hl2).trans hcc)
              have hkey : keyOf Try.prog 3 (.int .i64 (a2 + (p : Int))) = some (.int .i64 (a2 + (p : Int))) := keyOf_int_mk Try.underlying3 (WalkArith.wf_i64 (by omega))
              have HK := Lib.hid hkey
              have HM := Lib.hid hown
              have t7 := t6.trans (bj.mono (show w.heap.size ≤ w4.heap.size + 1 by omega))
              clear hkey hown hcc
              by_cases hit : a1 ≤ a2 + (p : Int) ∧ a2 + (p : Int) < a1 + (j : Int)
              · have HIT := Lib.hid hit
                clear hit
                go_wp2_with (at_lookup; go_loud (refine wpList_lookup_own_int _ rfl _ _ 56 rfl 3 3 .i64 lawI Try.underlying56 Try.underlying3 (zeroI _) (w4.heap.size + 1) j _ rfl HM.out _ _ rfl HK.out ?_; intro c hat hwc; have hcv := mapB_hit hat HIT.out; subst hcv; clear hat hwc))
                first
                  | (go_ret2
                     exact ⟨ret_bool2 (a := true) (HTB.out.trans (decide_eq_true (by have := HIT.out; have := HJY.out; omega))).symm 0, t7⟩)
                  | (go_round
                     case rel => exact ⟨p + 1, by omega, by go_num, fun q hq h => by
                       rcases (show q < p ∨ q = p by omega) with hq2 | hq2
                       · exact HNO.out q hq2 ⟨by first | trivial | rfl | exact h.1 | exact h.1.elim, h.2⟩
                       · omega⟩
                     case measure => simp [intOf]; omega)
              · have HIT := Lib.hid hit
                clear hit
                go_wp2_with (at_lookup; go_loud (refine wpList_lookup_own_int _ rfl _ _ 56 rfl 3 3 .i64 lawI Try.underlying56 Try.underlying3 (zeroI _) (w4.heap.size + 1) j _ rfl HM.out _ _ rfl HK.out ?_; intro c hat hwc; have hcv := mapB_miss hat HIT.out; subst hcv; clear hat hwc))
                go_round
                case rel => exact ⟨p + 1, by omega, by go_num, fun q hq h => by
                  rcases (show q < p ∨ q = p by omega) with hq2 | hq2
                  · exact HNO.out q hq2 ⟨by first | trivial | rfl | exact h.1 | exact h.1.elim, h.2⟩
                  · subst hq2
                    have := HIT.out
                    have := HJY.out
                    omega⟩
                case measure => simp [intOf]; omega
            · have hpe : p = y2 := by omega
              have HPE := Lib.hid hpe
              have t7 := t6.trans (bj.mono (show w.heap.size ≤ w4.heap.size + 1 by omega))
              clear hpe
              go_wp2
              go_ret2
              refine ⟨ret_bool2 (a := false) (HTB.out.trans ?_).symm 0, t7⟩
              first
                | rfl
                | exact decide_eq_false (fun h => by
                    have e1 := HPE.out
                    by_cases hle : a1 ≤ a2
                    · exact HNO.out 0 (by omega) ⟨by simp, by omega, by omega⟩
                    · exact HNO.out (a1 - a2).toNat (by omega) ⟨by simp, by omega, by omega⟩)
  · simp only [Bool.or_false, Bool.false_or, Bool.or_true, Bool.true_or, Bool.false_and, Bool.true_and] at HTB
    go_enter Try.func15, Try.ntmps15
    go_wp2_with fail
    have C0 := BoxOf.alloc (BoxOf.alloc (BoxOf.new w #[.int .u32 (id : Int), .int .i64 m, .int .i64 c, .int .i64 r, .int .i64 l, .int .i64 h] 24) (.cells #[.int .u8 k1, .int .i64 a1, .int .i64 y1, .slice A1 n1 q1] 32)) (.cells #[.int .u8 k2, .int .i64 a2, .int .i64 y2, .slice A2 n2 q2] 32)
    have A0 := BoxOf.alloc (BoxOf.new' (w.alloc (.cells #[.int .u32 (id : Int), .int .i64 m, .int .i64 c, .int .i64 r, .int .i64 l, .int .i64 h] 24)) (w.heap.size + 1) #[.int .u8 k1, .int .i64 a1, .int .i64 y1, .slice A1 n1 q1] 32 (by simp)) (.cells #[.int .u8 k2, .int .i64 a2, .int .i64 y2, .slice A2 n2 q2] 32)
    have D0 := BoxOf.new' ((w.alloc (.cells #[.int .u32 (id : Int), .int .i64 m, .int .i64 c, .int .i64 r, .int .i64 l, .int .i64 h] 24)).alloc (.cells #[.int .u8 k1, .int .i64 a1, .int .i64 y1, .slice A1 n1 q1] 32)) (w.heap.size + 2) #[.int .u8 k2, .int .i64 a2, .int .i64 y2, .slice A2 n2 q2] 32 (by simp)
    have t0 := Ext.alloc (Ext.alloc (Ext.alloc (Below.refl w.heap.size w) (.cells #[.int .u32 (id : Int), .int .i64 m, .int .i64 c, .int .i64 r, .int .i64 l, .int .i64 h] 24)) (.cells #[.int .u8 k1, .int .i64 a1, .int .i64 y1, .slice A1 n1 q1] 32)) (.cells #[.int .u8 k2, .int .i64 a2, .int .i64 y2, .slice A2 n2 q2] 32)
    refine (HB1.out _).mono ?_
    rintro e w1 ⟨v1, rfl, o1, b1⟩
    obtain ⟨P1, c1, rfl, _, r1⟩ := own_rd o1
    have C1 := C0.next b1
    have A1 := A0.next b1
    have D1 := D0.next b1
    have t1 := Ext.trans t0 b1
    have x1 := C1.cell
    have y1 := A1.cell
    have z1 := D1.cell
    clear C0 A0 D0 t0
    clear b1 o1
    go_wp2_with fail
    refine (HB2.out _).mono ?_
    rintro e w2 ⟨v2, rfl, o2, b2⟩
    obtain ⟨P2, c2, rfl, _, r2⟩ := own_rd o2
    have r1 := r1.below b2
    have C2 := C1.next b2
    have A2 := A1.next b2
    have D2 := D1.next b2
    have t2 := Ext.trans t1 b2
    have x2 := C2.cell
    have y2 := A2.cell
    have z2 := D2.cell
    clear C1 A1 D1 t1
    clear b2 o2 x1 y1 z1
    go_wp2_with fail
    refine (HO1.out _).mono ?_
    rintro e w3 ⟨rfl, b3⟩
    have r1 := r1.below b3
    have r2 := r2.below b3
    have C3 := C2.next b3
    have A3 := A2.next b3
    have D3 := D2.next b3
    have t3 := Ext.trans t2 b3
    have x3 := C3.cell
    have y3 := A3.cell
    have z3 := D3.cell
    clear C2 A2 D2 t2
    have l3 := D3.lt
    clear b3 x2 y2 z2
    go_wp2_with fail
    refine (HO2.out _).mono ?_
    rintro e w4 ⟨rfl, b4⟩
    have r1 := (r1.alloc _).below b4
    have r2 := (r2.alloc _).below b4
    have F4 := (BoxOf.new w3 #[.int .i64 mo1, .bool by1, .bool true] 53).next b4
    have t4 := Ext.trans (Ext.alloc t3 (.cells #[.int .i64 mo1, .bool by1, .bool true] 53)) b4
    have f4 := F4.cell
    have l4 := F4.lt
    have s4 := t4.size
    clear b4 x3 y3 z3 A3 C3 D3 t3 l3 F4
    go_wp2
    have m6 := World.ownsMap_made (w4.alloc (.cells #[.int .i64 mo2, .bool by2, .bool true] 53)) Try.prog 3 (plainElem (H := Unit) Try.prog 3)
    rw [show (w4.alloc (.cells #[.int .i64 mo2, .bool by2, .bool true] 53)).heap.size = w4.heap.size + 1 by simp] at m6
    have t6 := Ext.alloc (Ext.alloc t4 (.cells #[.int .i64 mo2, .bool by2, .bool true] 53)) (.map #[] 0)
    have h6 : ((w4.alloc (.cells #[.int .i64 mo2, .bool by2, .bool true] 53)).alloc (.map #[] 0)).heap.size = w4.heap.size + 2 := by simp
    have UB6 := Ext.alloc (Ext.alloc (Below.refl w4.heap.size w4) (.cells #[.int .i64 mo2, .bool by2, .bool true] 53)) (.map #[] 0)
    generalize (w4.alloc (.cells #[.int .i64 mo2, .bool by2, .bool true] 53)).alloc (.map #[] 0) = w6 at m6 t6 h6 UB6 ⊢
    have r1 := rd_seq r1
    have r2 := rd_seq r2
    clear f4 l4 t4
    have hb1 : IsInt (a1 + 8) ∧ 0 ≤ a1 := ⟨⟨by omega, by omega⟩, by omega⟩
    have hb2 : IsInt (a2 + 8) ∧ 0 ≤ a2 := ⟨⟨by omega, by omega⟩, by omega⟩
    obtain ⟨ha1, ha1'⟩ := ha1
    obtain ⟨ha2, ha2'⟩ := ha2
    have r1 : y1 ≤ 0 ∨ _ := r1.imp (fun h => Nat.le_of_eq h) (fun h => h)
    have r2 : y2 ≤ 0 ∨ _ := r2.imp (fun h => Nat.le_of_eq h) (fun h => h)
    rcases r1 with hz1 | ⟨bb1, oo1, rfl, hc1⟩ <;> rcases r2 with hz2 | ⟨bb2, oo2, rfl, hc2⟩
    · go_loopw [18, 60] (fun _ i wr => ∃ j : Nat, j ≤ y1 ∧ i = .int .i64 j ∧ wr.ownsMap Try.prog 3 (plainElem (H := Unit) Try.prog 3) (w4.heap.size + 1) j (mapB a1 2 j) ∧ Below (w4.heap.size + 1) w6 wr) (fun _ i _ => y1 - (intOf i).toNat)
      case atStart => exact ⟨0, Nat.zero_le _, rfl, m6, Below.refl _ _⟩
      case round =>
        obtain ⟨j, hj, rfl, hown, bj⟩ := hrel
        by_cases hlt : j < y1
        · exact absurd hlt (by omega)
        · have hjy : j = y1 := by omega
          have HJY := Lib.hid hjy
          clear hjy
          go_wp2
          go_loop [20, 70] (fun _ i => ∃ p : Nat, p ≤ y2 ∧ i = .int .i64 p ∧ (∀ q : Nat, q < p → ¬ ((2 : Int) = 2 ∧ a1 ≤ a2 + (q : Int) ∧ a2 + (q : Int) < a1 + (y1 : Nat)))) (fun _ i => y2 - (intOf i).toNat)
          case atStart => exact ⟨0, Nat.zero_le _, rfl, fun q hq => by omega⟩
          case round =>
            obtain ⟨p, hp, rfl, hno⟩ := hrel
            have HNO := Lib.hid hno
            clear hno
            by_cases hlt : p < y2
            · exact absurd hlt (by omega)
            · have hpe : p = y2 := by omega
              have HPE := Lib.hid hpe
              have t7 := t6.trans (bj.mono (show w.heap.size ≤ w4.heap.size + 1 by omega))
              clear hpe
              go_wp2
              go_ret2
              refine ⟨ret_bool2 (a := false) (HTB.out.trans ?_).symm 0, t7⟩
              first
                | rfl
                | exact decide_eq_false (fun h => by
                    have e1 := HPE.out
                    by_cases hle : a1 ≤ a2
                    · exact HNO.out 0 (by omega) ⟨by simp, by omega, by omega⟩
                    · exact HNO.out (a1 - a2).toNat (by omega) ⟨by simp, by omega, by omega⟩)
    · go_loopw [18, 60] (fun _ i wr => ∃ j : Nat, j ≤ y1 ∧ i = .int .i64 j ∧ wr.ownsMap Try.prog 3 (plainElem (H := Unit) Try.prog 3) (w4.heap.size + 1) j (mapB a1 2 j) ∧ Below (w4.heap.size + 1) w6 wr) (fun _ i _ => y1 - (intOf i).toNat)
      case atStart => exact ⟨0, Nat.zero_le _, rfl, m6, Below.refl _ _⟩
      case round =>
        obtain ⟨j, hj, rfl, hown, bj⟩ := hrel
        by_cases hlt : j < y1
        · exact absurd hlt (by omega)
        · have hjy : j = y1 := by omega
          have HJY := Lib.hid hjy
          clear hjy
          go_wp2
          go_loop [20, 70] (fun _ i => ∃ p : Nat, p ≤ y2 ∧ i = .int .i64 p ∧ (∀ q : Nat, q < p → ¬ ((2 : Int) = 2 ∧ a1 ≤ a2 + (q : Int) ∧ a2 + (q : Int) < a1 + (y1 : Nat)))) (fun _ i => y2 - (intOf i).toNat)
          case atStart => exact ⟨0, Nat.zero_le _, rfl, fun q hq => by omega⟩
          case round =>
            obtain ⟨p, hp, rfl, hno⟩ := hrel
            have HNO := Lib.hid hno
            clear hno
            by_cases hlt : p < y2
            · have hcc := hc2 p hlt
              have hl2 : bb2 < w4.heap.size := block_lt_of_cell hcc
              have q2 := (bj.cell (p := ⟨bb2, oo2 + p, none⟩) (by show bb2 < w4.heap.size + 1; omega)).trans ((UB6.cell (p := ⟨bb2, oo2 + p, none⟩) hl2).trans hcc)
              have hkey : keyOf Try.prog 3 (.int .i64 (a2 + (p : Int))) = some (.int .i64 (a2 + (p : Int))) := keyOf_int_mk Try.underlying3 (WalkArith.wf_i64 (by omega))
              have HK := Lib.hid hkey
              have HM := Lib.hid hown
              have t7 := t6.trans (bj.mono (show w.heap.size ≤ w4.heap.size + 1 by omega))
              clear hkey hown hcc
              by_cases hit : a1 ≤ a2 + (p : Int) ∧ a2 + (p : Int) < a1 + (j : Int)
              · have HIT := Lib.hid hit
                clear hit
                go_wp2_with (at_lookup; go_loud (refine wpList_lookup_own_int _ rfl _ _ 56 rfl 3 3 .i64 lawI Try.underlying56 Try.underlying3 (zeroI _) (w4.heap.size + 1) j _ rfl HM.out _ _ rfl HK.out ?_; intro c hat hwc; have hcv := mapB_hit hat HIT.out; subst hcv; clear hat hwc))
                first
                  | (go_ret2
                     exact ⟨ret_bool2 (a := true) (HTB.out.trans (decide_eq_true (by have := HIT.out; have := HJY.out; omega))).symm 0, t7⟩)
                  | (go_round
                     case rel => exact ⟨p + 1, by omega, by go_num, fun q hq h => by
                       rcases (show q < p ∨ q = p by omega) with hq2 | hq2
                       · exact HNO.out q hq2 ⟨by first | trivial | rfl | exact h.1 | exact h.1.elim, h.2⟩
                       · omega⟩
                     case measure => simp [intOf]; omega)
              · have HIT := Lib.hid hit
                clear hit
                go_wp2_with (at_lookup; go_loud (refine wpList_lookup_own_int _ rfl _ _ 56 rfl 3 3 .i64 lawI Try.underlying56 Try.underlying3 (zeroI _) (w4.heap.size + 1) j _ rfl HM.out _ _ rfl HK.out ?_; intro c hat hwc; have hcv := mapB_miss hat HIT.out; subst hcv; clear hat hwc))
                go_round
                case rel => exact ⟨p + 1, by omega, by go_num, fun q hq h => by
                  rcases (show q < p ∨ q = p by omega) with hq2 | hq2
                  · exact HNO.out q hq2 ⟨by first | trivial | rfl | exact h.1 | exact h.1.elim, h.2⟩
                  · subst hq2
                    have := HIT.out
                    have := HJY.out
                    omega⟩
                case measure => simp [intOf]; omega
            · have hpe : p = y2 := by omega
              have HPE := Lib.hid hpe
              have t7 := t6.trans (bj.mono (show w.heap.size ≤ w4.heap.size + 1 by omega))
              clear hpe
              go_wp2
              go_ret2
              refine ⟨ret_bool2 (a := false) (HTB.out.trans ?_).symm 0, t7⟩
              first
                | rfl
                | exact decide_eq_false (fun h => by
                    have e1 := HPE.out
                    by_cases hle : a1 ≤ a2
                    · exact HNO.out 0 (by omega) ⟨by simp, by omega, by omega⟩
                    · exact HNO.out (a1 - a2).toNat (by omega) ⟨by simp, by omega, by omega⟩)
    · go_loopw [18, 60] (fun _ i wr => ∃ j : Nat, j ≤ y1 ∧ i = .int .i64 j ∧ wr.ownsMap Try.prog 3 (plainElem (H := Unit) Try.prog 3) (w4.heap.size + 1) j (mapB a1 2 j) ∧ Below (w4.heap.size + 1) w6 wr) (fun _ i _ => y1 - (intOf i).toNat)
      case atStart => exact ⟨0, Nat.zero_le _, rfl, m6, Below.refl _ _⟩
      case round =>
        obtain ⟨j, hj, rfl, hown, bj⟩ := hrel
        by_cases hlt : j < y1
        · have hcc := hc1 j hlt
          have hl1 : bb1 < w4.heap.size := block_lt_of_cell hcc
          have q1 := (bj.cell (p := ⟨bb1, oo1 + j, none⟩) (by show bb1 < w4.heap.size + 1; omega)).trans ((UB6.cell (p := ⟨bb1, oo1 + j, none⟩) hl1).trans hcc)
          have hkey : keyOf Try.prog 3 (.int .i64 (a1 + (j : Int))) = some (.int .i64 (a1 + (j : Int))) := keyOf_int_mk Try.underlying3 (WalkArith.wf_i64 (by omega))
          have HK := Lib.hid hkey
          have HM := Lib.hid hown
          have HJ := Lib.hid bj
          clear hkey hown bj hcc
          go_wp2_with (at_mapUpdate; refine wpList_mapUpdate_own _ rfl _ _ _ 56 rfl 3 3 lawI Try.underlying56 _ (w4.heap.size + 1) j _ rfl HM.out (by unfold maxLen; omega) _ _ _ rfl rfl HK.out _ [] (plainElem_int Try.underlying3 (by decide)) ?_; intro w7 hown7 hg7)
          go_roundw
          case rel => exact ⟨j + 1, by omega, by go_num, hown7, Below.grown HJ.out hg7 (by have := HJ.out.size; omega) (fun k hk => by cases hk; exact Nat.le_refl _)⟩
          case measure => simp [intOf]; omega
        · have hjy : j = y1 := by omega
          have HJY := Lib.hid hjy
          clear hjy
          go_wp2
          go_loop [20, 70] (fun _ i => ∃ p : Nat, p ≤ y2 ∧ i = .int .i64 p ∧ (∀ q : Nat, q < p → ¬ ((2 : Int) = 2 ∧ a1 ≤ a2 + (q : Int) ∧ a2 + (q : Int) < a1 + (y1 : Nat)))) (fun _ i => y2 - (intOf i).toNat)
          case atStart => exact ⟨0, Nat.zero_le _, rfl, fun q hq => by omega⟩
          case round =>
            obtain ⟨p, hp, rfl, hno⟩ := hrel
            have HNO := Lib.hid hno
            clear hno
            by_cases hlt : p < y2
            · exact absurd hlt (by omega)
            · have hpe : p = y2 := by omega
              have HPE := Lib.hid hpe
              have t7 := t6.trans (bj.mono (show w.heap.size ≤ w4.heap.size + 1 by omega))
              clear hpe
              go_wp2
              go_ret2
              refine ⟨ret_bool2 (a := false) (HTB.out.trans ?_).symm 0, t7⟩
              first
                | rfl
                | exact decide_eq_false (fun h => by
                    have e1 := HPE.out
                    by_cases hle : a1 ≤ a2
                    · exact HNO.out 0 (by omega) ⟨by simp, by omega, by omega⟩
                    · exact HNO.out (a1 - a2).toNat (by omega) ⟨by simp, by omega, by omega⟩)
    · go_loopw [18, 60] (fun _ i wr => ∃ j : Nat, j ≤ y1 ∧ i = .int .i64 j ∧ wr.ownsMap Try.prog 3 (plainElem (H := Unit) Try.prog 3) (w4.heap.size + 1) j (mapB a1 2 j) ∧ Below (w4.heap.size + 1) w6 wr) (fun _ i _ => y1 - (intOf i).toNat)
      case atStart => exact ⟨0, Nat.zero_le _, rfl, m6, Below.refl _ _⟩
      case round =>
        obtain ⟨j, hj, rfl, hown, bj⟩ := hrel
        by_cases hlt : j < y1
        · have hcc := hc1 j hlt
          have hl1 : bb1 < w4.heap.size := block_lt_of_cell hcc
          have q1 := (bj.cell (p := ⟨bb1, oo1 + j, none⟩) (by show bb1 < w4.heap.size + 1; omega)).trans ((UB6.cell (p := ⟨bb1, oo1 + j, none⟩) hl1).trans hcc)
          have hkey : keyOf Try.prog 3 (.int .i64 (a1 + (j : Int))) = some (.int .i64 (a1 + (j : Int))) := keyOf_int_mk Try.underlying3 (WalkArith.wf_i64 (by omega))
          have HK := Lib.hid hkey
          have HM := Lib.hid hown
          have HJ := Lib.hid bj
          clear hkey hown bj hcc
          go_wp2_with (at_mapUpdate; refine wpList_mapUpdate_own _ rfl _ _ _ 56 rfl 3 3 lawI Try.underlying56 _ (w4.heap.size + 1) j _ rfl HM.out (by unfold maxLen; omega) _ _ _ rfl rfl HK.out _ [] (plainElem_int Try.underlying3 (by decide)) ?_; intro w7 hown7 hg7)
          go_roundw
          case rel => exact ⟨j + 1, by omega, by go_num, hown7, Below.grown HJ.out hg7 (by have := HJ.out.size; omega) (fun k hk => by cases hk; exact Nat.le_refl _)⟩
          case measure => simp [intOf]; omega
        · have hjy : j = y1 := by omega
          have HJY := Lib.hid hjy
          clear hjy
          go_wp2
          go_loop [20, 70] (fun _ i => ∃ p : Nat, p ≤ y2 ∧ i = .int .i64 p ∧ (∀ q : Nat, q < p → ¬ ((2 : Int) = 2 ∧ a1 ≤ a2 + (q : Int) ∧ a2 + (q : Int) < a1 + (y1 : Nat)))) (fun _ i => y2 - (intOf i).toNat)
          case atStart => exact ⟨0, Nat.zero_le _, rfl, fun q hq => by omega⟩
          case round =>
            obtain ⟨p, hp, rfl, hno⟩ := hrel
            have HNO := Lib.hid hno
            clear hno
            by_cases hlt : p < y2
            · have hcc := hc2 p hlt
              have hl2 : bb2 < w4.heap.size := block_lt_of_cell hcc
              have q2 := (bj.cell (p := ⟨bb2, oo2 + p, none⟩) (by show bb2 < w4.heap.size + 1; omega)).trans ((UB6.cell (p := ⟨bb2, oo2 + p, none⟩) hl2).trans hcc)
              have hkey : keyOf Try.prog 3 (.int .i64 (a2 + (p : Int))) = some (.int .i64 (a2 + (p : Int))) := keyOf_int_mk Try.underlying3 (WalkArith.wf_i64 (by omega))
              have HK := Lib.hid hkey
              have HM := Lib.hid hown
              have t7 := t6.trans (bj.mono (show w.heap.size ≤ w4.heap.size + 1 by omega))
              clear hkey hown hcc
              by_cases hit : a1 ≤ a2 + (p : Int) ∧ a2 + (p : Int) < a1 + (j : Int)
              · have HIT := Lib.hid hit
                clear hit
                go_wp2_with (at_lookup; go_loud (refine wpList_lookup_own_int _ rfl _ _ 56 rfl 3 3 .i64 lawI Try.underlying56 Try.underlying3 (zeroI _) (w4.heap.size + 1) j _ rfl HM.out _ _ rfl HK.out ?_; intro c hat hwc; have hcv := mapB_hit hat HIT.out; subst hcv; clear hat hwc))
                first
                  | (go_ret2
                     exact ⟨ret_bool2 (a := true) (HTB.out.trans (decide_eq_true (by have := HIT.out; have := HJY.out; omega))).symm 0, t7⟩)
                  | (go_round
                     case rel => exact ⟨p + 1, by omega, by go_num, fun q hq h => by
                       rcases (show q < p ∨ q = p by omega) with hq2 | hq2
                       · exact HNO.out q hq2 ⟨by first | trivial | rfl | exact h.1 | exact h.1.elim, h.2⟩
                       · omega⟩
                     case measure => simp [intOf]; omega)
              · have HIT := Lib.hid hit
                clear hit
                go_wp2_with (at_lookup; go_loud (refine wpList_lookup_own_int _ rfl _ _ 56 rfl 3 3 .i64 lawI Try.underlying56 Try.underlying3 (zeroI _) (w4.heap.size + 1) j _ rfl HM.out _ _ rfl HK.out ?_; intro c hat hwc; have hcv := mapB_miss hat HIT.out; subst hcv; clear hat hwc))
                go_round
                case rel => exact ⟨p + 1, by omega, by go_num, fun q hq h => by
                  rcases (show q < p ∨ q = p by omega) with hq2 | hq2
                  · exact HNO.out q hq2 ⟨by first | trivial | rfl | exact h.1 | exact h.1.elim, h.2⟩
                  · subst hq2
                    have := HIT.out
                    have := HJY.out
                    omega⟩
                case measure => simp [intOf]; omega
            · have hpe : p = y2 := by omega
              have HPE := Lib.hid hpe
              have t7 := t6.trans (bj.mono (show w.heap.size ≤ w4.heap.size + 1 by omega))
              clear hpe
              go_wp2
              go_ret2
              refine ⟨ret_bool2 (a := false) (HTB.out.trans ?_).symm 0, t7⟩
              first
                | rfl
                | exact decide_eq_false (fun h => by
                    have e1 := HPE.out
                    by_cases hle : a1 ≤ a2
                    · exact HNO.out 0 (by omega) ⟨by simp, by omega, by omega⟩
                    · exact HNO.out (a1 - a2).toNat (by omega) ⟨by simp, by omega, by omega⟩)
end Go.Proofs.Ytmoaflnggcbhkaa
