/- Layer 8 (split): the document's answers: blocks, and who touches. -/
import Derived.Test.YtmoaflnggcbhkaaSplitRef2
namespace Go.Proofs.Ytmoaflnggcbhkaa
open Go.RowKit
set_option linter.unusedSimpArgs false
set_option linter.unusedVariables false

set_option maxRecDepth 100000 in
theorem rblk_err (x : Cfg) (k a y : Int) (A : Option Addr) (n q : Nat) (E : Int) (hE : (E != 0) = true) (HC : ∀ W, Calls Try.prog 19 #[x.val, .agg #[.int .u8 k, .int .i64 a, .int .i64 y, .slice A n q]] W fun e w' => e = .returned (.int .i64 E) ∧ Below W.heap.size W w') (w : World) :
    Calls Try.prog 17 #[x.val, .agg #[.int .u8 k, .int .i64 a, .int .i64 y, .slice A n q]] w fun e w' => e = .returned (.tuple #[.slice none 0 0, .int .i64 E]) ∧ Below w.heap.size w w' := by
  have HC' := Lib.hid HC
  clear HC
  obtain ⟨id, m, c, r, l, h⟩ := x
  unfold Cfg.val at *
  dsimp only at *
  go_enter Try.func17, Try.ntmps17
  go_wp2_with fail
  have A0 := BoxOf.new' (w.alloc (.cells #[.int .u32 (id : Int), .int .i64 m, .int .i64 c, .int .i64 r, .int .i64 l, .int .i64 h] 24)) (w.heap.size + 1) #[.int .u8 k, .int .i64 a, .int .i64 y, .slice A n q] 32 (by simp)
  have C0 := BoxOf.alloc (BoxOf.new w #[.int .u32 (id : Int), .int .i64 m, .int .i64 c, .int .i64 r, .int .i64 l, .int .i64 h] 24) (.cells #[.int .u8 k, .int .i64 a, .int .i64 y, .slice A n q] 32)
  have t0 := Ext.alloc (Ext.alloc (Below.refl w.heap.size w) (.cells #[.int .u32 (id : Int), .int .i64 m, .int .i64 c, .int .i64 r, .int .i64 l, .int .i64 h] 24)) (.cells #[.int .u8 k, .int .i64 a, .int .i64 y, .slice A n q] 32)
  refine (HC'.out _).mono ?_
  rintro e w1 ⟨rfl, b1⟩
  have t1 := Ext.trans t0 b1
  go_wp2
  go_ret2
  exact ⟨rfl, t1⟩

set_option maxRecDepth 100000 in
theorem rblk_ok (x : Cfg) (k a y : Int) (A : Option Addr) (n q : Nat) (hy : 0 ≤ y ∧ y ≤ 8) (ha : 0 ≤ a ∧ a ≤ 1000) (HC : ∀ W, Calls Try.prog 19 #[x.val, .agg #[.int .u8 k, .int .i64 a, .int .i64 y, .slice A n q]] W fun e w' => e = .returned (.int .i64 0) ∧ Below W.heap.size W w') (w : World) :
    Calls Try.prog 17 #[x.val, .agg #[.int .u8 k, .int .i64 a, .int .i64 y, .slice A n q]] w fun e w' => ∃ v, e = .returned (.tuple #[v, .int .i64 0]) ∧ w'.ownsRow (w.heap.size + 2) 3 1 v y.toNat (seqI a y.toNat) ∧ Below w.heap.size w w' := by
  have HC' := Lib.hid HC
  clear HC
  obtain ⟨i0, hi, hz0, hz1, hz2⟩ := info_int
  obtain ⟨id, m, c, r, l, h⟩ := x
  unfold Cfg.val at *
  dsimp only at *
  obtain ⟨hy1, hy2⟩ := hy
  obtain ⟨ha1, ha2⟩ := ha
  go_enter Try.func17, Try.ntmps17
  go_wp2_with fail
  have A0 := BoxOf.new' (w.alloc (.cells #[.int .u32 (id : Int), .int .i64 m, .int .i64 c, .int .i64 r, .int .i64 l, .int .i64 h] 24)) (w.heap.size + 1) #[.int .u8 k, .int .i64 a, .int .i64 y, .slice A n q] 32 (by simp)
  have C0 := BoxOf.alloc (BoxOf.new w #[.int .u32 (id : Int), .int .i64 m, .int .i64 c, .int .i64 r, .int .i64 l, .int .i64 h] 24) (.cells #[.int .u8 k, .int .i64 a, .int .i64 y, .slice A n q] 32)
  have t0 := Ext.alloc (Ext.alloc (Below.refl w.heap.size w) (.cells #[.int .u32 (id : Int), .int .i64 m, .int .i64 c, .int .i64 r, .int .i64 l, .int .i64 h] 24)) (.cells #[.int .u8 k, .int .i64 a, .int .i64 y, .slice A n q] 32)
  refine (HC'.out _).mono ?_
  rintro e w1 ⟨rfl, b1⟩
  have A1 := A0.next b1
  have t1 := Ext.trans t0 b1
  have x1 := A1.cell
  clear A0 C0 t0 b1
  go_wp2
  go_loopw [7, 8] (fun v i wr => ∃ j : Nat, (j : Int) ≤ y ∧ i = .int .i64 (a + (j : Int)) ∧ wr.ownsRow (w.heap.size + 2) 3 1 v j (seqI a j) ∧ Below w.heap.size w wr ∧ BoxOf wr (w.heap.size + 1) #[.int .u8 k, .int .i64 a, .int .i64 y, .slice A n q] 32) (fun _ i _ => (a + y - intOf i).toNat)
  case atStart => exact ⟨0, by omega, by simp, ⟨rfl, .inl ⟨rfl, rfl⟩⟩, t1, A1⟩
  case round =>
    obtain ⟨j, hj, rfl, hown, bj, Aj⟩ := hrel
    have xj := Aj.cell
    have HA := Lib.hid Aj
    clear Aj
    by_cases hlt : a + (j : Int) < a + y
    · have HR := Lib.hid (rd_one wr (.int .i64 (a + (j : Int))) 3)
      have HO := Lib.hid (hown.alloc (.cells #[.int .i64 (a + (j : Int))] 3))
      have HS := Lib.hid (seqI_succ a j)
      have HS2 : Hid (w.heap.size + 2 ≤ wr.heap.size) := HA.out.lt
      have l2 := HA.out.lt
      clear hown
      go_wp2_with (at_builtin; refine wpList_append_rd _ rfl (.tmp 26) (.tmp 28) _ rfl (w.heap.size + 2) 3 i0 (.int .i64 0) 1 8 Try.underlying37 hi hz0 hz1 hz2 rfl (by decide) u7 j (seqI a j) rfl HO.out (some ⟨wr.heap.size, 0, none⟩) 1 1 [.int .i64 (a + (j : Int))] rfl rfl HR.out (by simp [Value.oneCell']) (by unfold maxLen; omega) (by omega) (by have := HS2.out; simp; omega) ?_; intro v' w2 hown2 hgrow2 _)
      go_roundw
      case rel =>
        refine ⟨j + 1, by omega, by go_num, by rw [HS.out]; exact hown2, ?_, (HA.out.alloc _).grown hgrow2 (own_ne HO.out (by omega))⟩
        exact Below.grown (Ext.alloc bj _) hgrow2 (by simp; omega) (fun k hk => by have := own_block HO.out hk; omega)
      case measure => simp [intOf]; omega
    · have hjy : j = y.toNat := by omega
      go_wp2
      go_ret2
      exact ⟨_, rfl, by rw [← hjy]; exact hown, bj⟩

def meetB (k1 a1 y1 k2 a2 y2 : Int) : Bool := (kWrites k1 || kWrites k2) && (decide (a1 < a2 + y2) && decide (a2 < a1 + y1))
theorem meet_touch {k1 a1 y1 k2 a2 y2 : Int} (h1 : 0 ≤ a1 ∧ (1 ≤ y1 ∨ (a1 = 0 ∧ y1 = 0))) (h2 : 0 ≤ a2 ∧ (1 ≤ y2 ∨ (a2 = 0 ∧ y2 = 0))) : meetB k1 a1 y1 k2 a2 y2 = touchB k1 a1 y1 k2 a2 y2 := by
  unfold meetB touchB
  congr 1
  rw [Bool.eq_iff_iff]
  simp only [Bool.and_eq_true, decide_eq_true_eq]
  omega

set_option maxRecDepth 100000 in
theorem rmeet_any (k1 a1 y1 k2 a2 y2 : Int) (A1 A2 : Option Addr) (n1 q1 n2 q2 : Nat) (hy1 : 0 ≤ y1 ∧ y1 ≤ 8) (hy2 : 0 ≤ y2 ∧ y2 ≤ 8) (ha1 : 0 ≤ a1 ∧ a1 ≤ 1000) (ha2 : 0 ≤ a2 ∧ a2 ≤ 1000) (w : World) :
    Calls Try.prog 24 #[.agg #[.int .u8 k1, .int .i64 a1, .int .i64 y1, .slice A1 n1 q1], .agg #[.int .u8 k2, .int .i64 a2, .int .i64 y2, .slice A2 n2 q2]] w fun e w' => e = .returned (.bool (meetB k1 a1 y1 k2 a2 y2)) ∧ Below w.heap.size w w' := by
  have H1 := Lib.hid (rwrites_any k1)
  have H2 := Lib.hid (rwrites_any k2)
  obtain ⟨hy11, hy12⟩ := hy1
  obtain ⟨hy21, hy22⟩ := hy2
  obtain ⟨ha11, ha12⟩ := ha1
  obtain ⟨ha21, ha22⟩ := ha2
  unfold meetB
  have t0 := Ext.alloc (Ext.alloc (Below.refl w.heap.size w) (.cells #[.int .u8 k1, .int .i64 a1, .int .i64 y1, .slice A1 n1 q1] 32)) (.cells #[.int .u8 k2, .int .i64 a2, .int .i64 y2, .slice A2 n2 q2] 32)
  generalize kWrites k1 = w1 at *
  generalize kWrites k2 = w2 at *
  cases hd : decide (a1 < a2 + y2) <;> cases w1
  · cases w2
    all_goals
      go_enter Try.func24, Try.ntmps24
      go_wp2_with fail
      refine (H1.out _).mono ?_
      rintro e w1 ⟨rfl, rfl⟩
      go_wp2_with fail
      refine (H2.out _).mono ?_
      rintro e w1 ⟨rfl, rfl⟩
      go_wp2
      go_ret
      exact ⟨rfl, t0⟩
  · go_enter Try.func24, Try.ntmps24
    go_wp2_with fail
    refine (H1.out _).mono ?_
    rintro e w1 ⟨rfl, rfl⟩
    go_wp2
    go_ret
    exact ⟨rfl, t0⟩
  · cases w2
    all_goals
      go_enter Try.func24, Try.ntmps24
      go_wp2_with fail
      refine (H1.out _).mono ?_
      rintro e w1 ⟨rfl, rfl⟩
      go_wp2_with fail
      refine (H2.out _).mono ?_
      rintro e w1 ⟨rfl, rfl⟩
      go_wp2
      go_ret
      exact ⟨rfl, t0⟩
  · go_enter Try.func24, Try.ntmps24
    go_wp2_with fail
    refine (H1.out _).mono ?_
    rintro e w1 ⟨rfl, rfl⟩
    go_wp2
    go_ret
    exact ⟨rfl, t0⟩
end Go.Proofs.Ytmoaflnggcbhkaa
