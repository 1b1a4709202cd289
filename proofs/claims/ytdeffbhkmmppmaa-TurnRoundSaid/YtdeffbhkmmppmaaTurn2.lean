/- Layer 7 (turn): member, slot and row: what they compute. -/
import Derived.Test.YtdeffbhkmmppmaaTurn
import Derived.Test.YtdeffbhkmmppmaaBox
namespace Go.Proofs.Ytdeffbhkmmppmaa
open Go.RowKit

set_option maxRecDepth 100000 in
theorem member_row (x : Cfg) (n s : Int) (hm : 3 ≤ x.m ∧ x.m ≤ 16) (hn : 0 ≤ n ∧ n ≤ 1000) (hs : 0 ≤ s ∧ s ≤ 1000) (w : World) :
    Calls Try.prog 24 #[rowVal x n, .int .i64 s] w fun e w' => e = .returned (.int .i64 ((x.m - 1 - n % x.m + 1 + s) % x.m)) ∧ Below w.heap.size w w' := by
  have hp := fun W => parity_any x n hm hn W
  obtain ⟨id, m, c, r, l, h⟩ := x
  unfold rowVal at *
  dsimp only at *
  have HP := Lib.hid hp
  obtain ⟨h1, h2⟩ := hm
  obtain ⟨h3, h4⟩ := hn
  obtain ⟨h7, h8⟩ := hs
  have h5 : 0 ≤ n % m := Int.emod_nonneg _ (by omega)
  have h6 : n % m < m := Int.emod_lt_of_pos _ (by omega)
  clear hp
  generalize n % m = k at h5 h6 HP ⊢
  have e1 : 0 ≤ m - 1 - k + 1 + s := by omega
  have e2 : m - 1 - k + 1 + s ≤ 1000000 := by omega
  have e3 : 0 < m := by omega
  have e4 : m ≤ 1000000 := by omega
  have HD := Lib.hid (fun W => divide_any (m - 1 - k + 1 + s) m e1 e3 e2 e4 W)
  go_enter Try.func24, Try.ntmps24
  go_wp2_with fail
  have x0 := box_new w #[.int .u32 (id : Int), .int .i64 m, .int .i64 c, .int .i64 r, .int .i64 l, .int .i64 h, .int .i64 n] 48
  have b0 := Ext.alloc (Below.refl w.heap.size w) (.cells #[.int .u32 (id : Int), .int .i64 m, .int .i64 c, .int .i64 r, .int .i64 l, .int .i64 h, .int .i64 n] 48)
  have l0 := lt_new w (.cells #[.int .u32 (id : Int), .int .i64 m, .int .i64 c, .int .i64 r, .int .i64 l, .int .i64 h, .int .i64 n] 48)
  generalize w.alloc (.cells #[.int .u32 (id : Int), .int .i64 m, .int .i64 c, .int .i64 r, .int .i64 l, .int .i64 h, .int .i64 n] 48) = w0 at x0 b0 l0 ⊢
  have q1 : IntKind.i64.wrap (m - 1 - k + 1) = m - 1 - k + 1 := i64_fit (by omega)
  have q2 : IntKind.i64.wrap (m - 1 - k + 1 + s) = m - 1 - k + 1 + s := i64_fit (by omega)
  go_region_held3 (fun w' => Below w.heap.size w w' ∧ w.heap.size < w'.heap.size ∧ ∀ o, w'.cell? ⟨w.heap.size, o, none⟩ = #[.int .u32 (id : Int), .int .i64 m, .int .i64 c, .int .i64 r, .int .i64 l, .int .i64 h, .int .i64 n].toList[o]?)
    (first | exact ⟨Ext.drew b0, l0, x0⟩ | exact ⟨Ext.trans (And.left (by assumption)) k3, lt_next (And.left (And.right (by assumption))) k3, box_next (And.right (And.right (by assumption))) (And.left (And.right (by assumption))) k3⟩ | assumption)
    (first | (go_at_call 27; refine (HP.out _).mono ?_; rintro e w3 ⟨rfl, k3⟩) | (go_at_call 23; refine (HD.out _).mono ?_; rintro e w3 ⟨rfl, k3⟩))
  rename_i hH
  have hB := hH.1
  clear hH q1 q2 x0
  go_wp2
  go_ret
  exact ⟨rfl, hB⟩

set_option maxRecDepth 100000 in
theorem slot_row (x : Cfg) (n s : Int) (hm : 3 ≤ x.m ∧ x.m ≤ 16) (hn : 0 ≤ n ∧ n ≤ 1000) (hs : 0 ≤ s ∧ s ≤ 1000) (w : World) :
    Calls Try.prog 28 #[rowVal x n, .int .i64 s] w fun e w' => e = .returned (.int .i64 ((s + x.m - (x.m - 1 - n % x.m) - 1) % x.m)) ∧ Below w.heap.size w w' := by
  have hp := fun W => parity_any x n hm hn W
  obtain ⟨id, m, c, r, l, h⟩ := x
  unfold rowVal at *
  dsimp only at *
  have HP := Lib.hid hp
  obtain ⟨h1, h2⟩ := hm
  obtain ⟨h3, h4⟩ := hn
  obtain ⟨h7, h8⟩ := hs
  have h5 : 0 ≤ n % m := Int.emod_nonneg _ (by omega)
  have h6 : n % m < m := Int.emod_lt_of_pos _ (by omega)
  clear hp
  generalize n % m = k at h5 h6 HP ⊢
  have e1 : 0 ≤ s + m - (m - 1 - k) - 1 := by omega
  have e2 : s + m - (m - 1 - k) - 1 ≤ 1000000 := by omega
  have e3 : 0 < m := by omega
  have e4 : m ≤ 1000000 := by omega
  have HD := Lib.hid (fun W => divide_any (s + m - (m - 1 - k) - 1) m e1 e3 e2 e4 W)
  go_enter Try.func28, Try.ntmps28
  go_wp2_with fail
  have x0 := box_new w #[.int .u32 (id : Int), .int .i64 m, .int .i64 c, .int .i64 r, .int .i64 l, .int .i64 h, .int .i64 n] 48
  have b0 := Ext.alloc (Below.refl w.heap.size w) (.cells #[.int .u32 (id : Int), .int .i64 m, .int .i64 c, .int .i64 r, .int .i64 l, .int .i64 h, .int .i64 n] 48)
  have l0 := lt_new w (.cells #[.int .u32 (id : Int), .int .i64 m, .int .i64 c, .int .i64 r, .int .i64 l, .int .i64 h, .int .i64 n] 48)
  generalize w.alloc (.cells #[.int .u32 (id : Int), .int .i64 m, .int .i64 c, .int .i64 r, .int .i64 l, .int .i64 h, .int .i64 n] 48) = w0 at x0 b0 l0 ⊢
  have q1 : IntKind.i64.wrap (s + m) = s + m := i64_fit (by omega)
  have q2 : IntKind.i64.wrap (s + m - (m - 1 - k)) = s + m - (m - 1 - k) := i64_fit (by omega)
  have q3 : IntKind.i64.wrap (s + m - (m - 1 - k) - 1) = s + m - (m - 1 - k) - 1 := i64_fit (by omega)
  go_region_held3 (fun w' => Below w.heap.size w w' ∧ w.heap.size < w'.heap.size ∧ ∀ o, w'.cell? ⟨w.heap.size, o, none⟩ = #[.int .u32 (id : Int), .int .i64 m, .int .i64 c, .int .i64 r, .int .i64 l, .int .i64 h, .int .i64 n].toList[o]?)
    (first | exact ⟨Ext.drew b0, l0, x0⟩ | exact ⟨Ext.trans (And.left (by assumption)) k3, lt_next (And.left (And.right (by assumption))) k3, box_next (And.right (And.right (by assumption))) (And.left (And.right (by assumption))) k3⟩ | assumption)
    (first | (go_at_call 27; refine (HP.out _).mono ?_; rintro e w3 ⟨rfl, k3⟩) | (go_at_call 23; refine (HD.out _).mono ?_; rintro e w3 ⟨rfl, k3⟩))
  rename_i hH
  have hB := hH.1
  clear hH q1 q2 q3 x0
  go_wp2
  go_ret
  exact ⟨rfl, hB⟩

end Go.Proofs.Ytdeffbhkmmppmaa
