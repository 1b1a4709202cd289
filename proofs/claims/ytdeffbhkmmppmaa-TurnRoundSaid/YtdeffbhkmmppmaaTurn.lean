/- Layer 7 (turn): rows, where blocks stand: what its functions compute. -/
import Derived.Test.YtdeffbhkmmppmaaShapeRef
import Derived.BigQuiet
namespace Go.Proofs.Ytdeffbhkmmppmaa
open Go.RowKit

theorem below_drewN {B : Nat} {w w' : World} (h : Below B w w') (q : Nat) : Below B w (w'.drewN q) := ⟨h.os, h.tape, h.output, h.size, h.block⟩
theorem divide_any (n m : Int) (hn : 0 ≤ n) (hm : 0 < m) (_hb : n ≤ 1000000) (_hc : m ≤ 1000000) (w : World) :
    Calls Try.prog 23 #[.int .i64 n, .int .i64 m] w fun e w' => e = .returned (.tuple #[.int .i64 (n / m), .int .i64 (n % m)]) ∧ Below w.heap.size w w' := by
  have h0 : ¬ m = 0 := by omega
  have h1 : (m == 0) = false := by simp; omega
  go_enter Try.func23, Try.ntmps23
  go_wp2_with fail
  go_quiet (fail)
  go_wp2
  go_ret2
  exact ⟨rfl, below_drewN (Below.refl _ _) _⟩

def rowVal (x : Cfg) (n : Int) : Value := .agg #[.int .u32 (x.id : Int), .int .i64 x.m, .int .i64 x.c, .int .i64 x.r, .int .i64 x.l, .int .i64 x.h, .int .i64 n]
set_option maxRecDepth 100000 in
theorem parity_any (x : Cfg) (n : Int) (hm : 3 ≤ x.m ∧ x.m ≤ 16) (hn : 0 ≤ n ∧ n ≤ 1000) (w : World) :
    Calls Try.prog 27 #[rowVal x n] w fun e w' => e = .returned (.int .i64 (x.m - 1 - n % x.m)) ∧ Below w.heap.size w w' := by
  obtain ⟨id, m, c, r, l, h⟩ := x
  unfold rowVal
  dsimp only at *
  obtain ⟨h1, h2⟩ := hm
  obtain ⟨h3, h4⟩ := hn
  have h5 : 0 ≤ n % m := Int.emod_nonneg _ (by omega)
  have h6 : n % m < m := Int.emod_lt_of_pos _ (by omega)
  go_enter Try.func27, Try.ntmps27
  go_wp2_with fail
  refine (divide_any n m h3 (by omega) (by omega) (by omega) _).mono ?_
  rintro e w1 ⟨rfl, b1⟩
  have x0 := box_next (box_new w #[.int .u32 (id : Int), .int .i64 m, .int .i64 c, .int .i64 r, .int .i64 l, .int .i64 h, .int .i64 n] 48) (lt_new _ _) b1
  have bt := Ext.trans (Ext.alloc (Below.refl _ _) _) b1
  clear b1
  generalize hk : n % m = k at h5 h6
  have HK := Lib.hid hk
  clear hk
  go_wp2
  go_ret
  exact ⟨by rw [HK.out]; rfl, bt⟩

end Go.Proofs.Ytdeffbhkmmppmaa
