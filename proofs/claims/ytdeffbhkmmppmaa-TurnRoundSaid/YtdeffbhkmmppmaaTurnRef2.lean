/- Layer 7 (turn): the document's answers: block, parity, member, slot. -/
import Derived.Test.YtdeffbhkmmppmaaTurnRef
namespace Go.Proofs.Ytdeffbhkmmppmaa
open Go.RowKit
set_option linter.unusedSimpArgs false

theorem wrap64_wrap (n : Int) : wrap64 n = IntKind.i64.wrap n := by rw [IntKind.wrap_i64]; unfold wrap64; rfl

set_option maxRecDepth 100000 in
theorem rstripes_any (x : Cfg) (w : World) : Calls Try.prog 31 #[x.val] w fun e w' => e = .returned (.int .i64 (IntKind.i64.wrap (x.c * x.r))) ∧ Below w.heap.size w w' := by
  obtain ⟨id, m, c, r, l, h⟩ := x
  unfold Cfg.val at *
  dsimp only at *
  go_enter Try.func31, Try.ntmps31
  go_wp2
  go_ret
  exact ⟨ret_int (wrap64_wrap _), Ext.alloc (Below.refl _ _) _⟩

set_option maxRecDepth 100000 in
theorem rblocks_any (x : Cfg) (w : World) : Calls Try.prog 30 #[x.val] w fun e w' => e = .returned (.int .i64 (IntKind.i64.wrap (IntKind.i64.wrap (x.c * x.r) * IntKind.i64.wrap (x.m - 1)))) ∧ Below w.heap.size w w' := by
  have HS := Lib.hid (rstripes_any x)
  obtain ⟨id, m, c, r, l, h⟩ := x
  unfold Cfg.val at *
  dsimp only at *
  go_enter Try.func30, Try.ntmps30
  go_wp2_with fail
  have x0 := box_new w #[.int .u32 (id : Int), .int .i64 m, .int .i64 c, .int .i64 r, .int .i64 l, .int .i64 h] 24
  have b0 := Ext.alloc (Below.refl w.heap.size w) (.cells #[.int .u32 (id : Int), .int .i64 m, .int .i64 c, .int .i64 r, .int .i64 l, .int .i64 h] 24)
  have l0 := lt_new w (.cells #[.int .u32 (id : Int), .int .i64 m, .int .i64 c, .int .i64 r, .int .i64 l, .int .i64 h] 24)
  generalize w.alloc (.cells #[.int .u32 (id : Int), .int .i64 m, .int .i64 c, .int .i64 r, .int .i64 l, .int .i64 h] 24) = w0 at x0 b0 l0 ⊢
  go_region_held3 (fun w' => Below w.heap.size w w' ∧ w.heap.size < w'.heap.size ∧ ∀ o, w'.cell? ⟨w.heap.size, o, none⟩ = #[.int .u32 (id : Int), .int .i64 m, .int .i64 c, .int .i64 r, .int .i64 l, .int .i64 h].toList[o]?)
    (first | exact ⟨Ext.drew b0, l0, x0⟩ | exact ⟨Ext.trans (And.left (by assumption)) k3, lt_next (And.left (And.right (by assumption))) k3, box_next (And.right (And.right (by assumption))) (And.left (And.right (by assumption))) k3⟩ | assumption)
    ((go_at_call 31; refine (HS.out _).mono ?_; rintro e w3 ⟨rfl, k3⟩))
  rename_i hH
  obtain ⟨bH, lH, xH⟩ := hH
  clear b0 l0 x0
  go_wp2
  go_ret
  exact ⟨rfl, bH⟩

set_option maxRecDepth 100000 in
theorem rblock_err (x : Cfg) (s o n E : Int) (hE : (E != 0) = true) (HS : ∀ W, Calls Try.prog 31 #[x.val] W fun e w' => e = .returned (.int .i64 n) ∧ Below W.heap.size W w')
    (HA : ∀ W, Calls Try.prog 29 #[x.val, .int .i64 s, .int .i64 n, .int .i64 o, .int .i64 (IntKind.i64.wrap (x.m - 1))] W fun e w' => e = .returned (.int .i64 E) ∧ Below W.heap.size W w') (w : World) :
    Calls Try.prog 17 #[x.val, .int .i64 s, .int .i64 o] w fun e w' => e = .returned (.tuple #[.int .i64 0, .int .i64 E]) ∧ Below w.heap.size w w' := by
  have HS' := Lib.hid HS
  have HA' := Lib.hid HA
  clear HS HA
  obtain ⟨id, m, c, r, l, h⟩ := x
  unfold Cfg.val at *
  dsimp only at *
  go_enter Try.func17, Try.ntmps17
  go_wp2_with fail
  have x0 := box_new w #[.int .u32 (id : Int), .int .i64 m, .int .i64 c, .int .i64 r, .int .i64 l, .int .i64 h] 24
  have b0 := Ext.alloc (Below.refl w.heap.size w) (.cells #[.int .u32 (id : Int), .int .i64 m, .int .i64 c, .int .i64 r, .int .i64 l, .int .i64 h] 24)
  have l0 := lt_new w (.cells #[.int .u32 (id : Int), .int .i64 m, .int .i64 c, .int .i64 r, .int .i64 l, .int .i64 h] 24)
  generalize w.alloc (.cells #[.int .u32 (id : Int), .int .i64 m, .int .i64 c, .int .i64 r, .int .i64 l, .int .i64 h] 24) = w0 at x0 b0 l0 ⊢
  go_region_held3 (fun w' => Below w.heap.size w w' ∧ w.heap.size < w'.heap.size ∧ ∀ o, w'.cell? ⟨w.heap.size, o, none⟩ = #[.int .u32 (id : Int), .int .i64 m, .int .i64 c, .int .i64 r, .int .i64 l, .int .i64 h].toList[o]?)
    (first | exact ⟨Ext.drew b0, l0, x0⟩ | exact ⟨Ext.trans (And.left (by assumption)) k3, lt_next (And.left (And.right (by assumption))) k3, box_next (And.right (And.right (by assumption))) (And.left (And.right (by assumption))) k3⟩ | assumption)
    (first | (go_at_call 31; refine (HS'.out _).mono ?_; rintro e w3 ⟨rfl, k3⟩) | (go_at_call 29; refine (HA'.out _).mono ?_; rintro e w3 ⟨rfl, k3⟩))
  rename_i hH
  obtain ⟨bH, lH, xH⟩ := hH
  clear b0 l0 x0
  go_wp2
  go_ret2
  exact ⟨rfl, bH⟩
set_option maxRecDepth 100000 in
theorem rmember_err (x : Cfg) (s o n E : Int) (hE : (E != 0) = true) (HS : ∀ W, Calls Try.prog 31 #[x.val] W fun e w' => e = .returned (.int .i64 n) ∧ Below W.heap.size W w')
    (HA : ∀ W, Calls Try.prog 29 #[x.val, .int .i64 s, .int .i64 n, .int .i64 o, .int .i64 (x.m)] W fun e w' => e = .returned (.int .i64 E) ∧ Below W.heap.size W w') (w : World) :
    Calls Try.prog 19 #[x.val, .int .i64 s, .int .i64 o] w fun e w' => e = .returned (.tuple #[.int .i64 0, .int .i64 E]) ∧ Below w.heap.size w w' := by
  have HS' := Lib.hid HS
  have HA' := Lib.hid HA
  clear HS HA
  obtain ⟨id, m, c, r, l, h⟩ := x
  unfold Cfg.val at *
  dsimp only at *
  go_enter Try.func19, Try.ntmps19
  go_wp2_with fail
  have x0 := box_new w #[.int .u32 (id : Int), .int .i64 m, .int .i64 c, .int .i64 r, .int .i64 l, .int .i64 h] 24
  have b0 := Ext.alloc (Below.refl w.heap.size w) (.cells #[.int .u32 (id : Int), .int .i64 m, .int .i64 c, .int .i64 r, .int .i64 l, .int .i64 h] 24)
  have l0 := lt_new w (.cells #[.int .u32 (id : Int), .int .i64 m, .int .i64 c, .int .i64 r, .int .i64 l, .int .i64 h] 24)
  generalize w.alloc (.cells #[.int .u32 (id : Int), .int .i64 m, .int .i64 c, .int .i64 r, .int .i64 l, .int .i64 h] 24) = w0 at x0 b0 l0 ⊢
  go_region_held3 (fun w' => Below w.heap.size w w' ∧ w.heap.size < w'.heap.size ∧ ∀ o, w'.cell? ⟨w.heap.size, o, none⟩ = #[.int .u32 (id : Int), .int .i64 m, .int .i64 c, .int .i64 r, .int .i64 l, .int .i64 h].toList[o]?)
    (first | exact ⟨Ext.drew b0, l0, x0⟩ | exact ⟨Ext.trans (And.left (by assumption)) k3, lt_next (And.left (And.right (by assumption))) k3, box_next (And.right (And.right (by assumption))) (And.left (And.right (by assumption))) k3⟩ | assumption)
    (first | (go_at_call 31; refine (HS'.out _).mono ?_; rintro e w3 ⟨rfl, k3⟩) | (go_at_call 29; refine (HA'.out _).mono ?_; rintro e w3 ⟨rfl, k3⟩))
  rename_i hH
  obtain ⟨bH, lH, xH⟩ := hH
  clear b0 l0 x0
  go_wp2
  go_ret2
  exact ⟨rfl, bH⟩
set_option maxRecDepth 100000 in
theorem rslot_err (x : Cfg) (s o n E : Int) (hE : (E != 0) = true) (HS : ∀ W, Calls Try.prog 31 #[x.val] W fun e w' => e = .returned (.int .i64 n) ∧ Below W.heap.size W w')
    (HA : ∀ W, Calls Try.prog 29 #[x.val, .int .i64 s, .int .i64 n, .int .i64 o, .int .i64 (x.m)] W fun e w' => e = .returned (.int .i64 E) ∧ Below W.heap.size W w') (w : World) :
    Calls Try.prog 20 #[x.val, .int .i64 s, .int .i64 o] w fun e w' => e = .returned (.tuple #[.int .i64 0, .int .i64 E]) ∧ Below w.heap.size w w' := by
  have HS' := Lib.hid HS
  have HA' := Lib.hid HA
  clear HS HA
  obtain ⟨id, m, c, r, l, h⟩ := x
  unfold Cfg.val at *
  dsimp only at *
  go_enter Try.func20, Try.ntmps20
  go_wp2_with fail
  have x0 := box_new w #[.int .u32 (id : Int), .int .i64 m, .int .i64 c, .int .i64 r, .int .i64 l, .int .i64 h] 24
  have b0 := Ext.alloc (Below.refl w.heap.size w) (.cells #[.int .u32 (id : Int), .int .i64 m, .int .i64 c, .int .i64 r, .int .i64 l, .int .i64 h] 24)
  have l0 := lt_new w (.cells #[.int .u32 (id : Int), .int .i64 m, .int .i64 c, .int .i64 r, .int .i64 l, .int .i64 h] 24)
  generalize w.alloc (.cells #[.int .u32 (id : Int), .int .i64 m, .int .i64 c, .int .i64 r, .int .i64 l, .int .i64 h] 24) = w0 at x0 b0 l0 ⊢
  go_region_held3 (fun w' => Below w.heap.size w w' ∧ w.heap.size < w'.heap.size ∧ ∀ o, w'.cell? ⟨w.heap.size, o, none⟩ = #[.int .u32 (id : Int), .int .i64 m, .int .i64 c, .int .i64 r, .int .i64 l, .int .i64 h].toList[o]?)
    (first | exact ⟨Ext.drew b0, l0, x0⟩ | exact ⟨Ext.trans (And.left (by assumption)) k3, lt_next (And.left (And.right (by assumption))) k3, box_next (And.right (And.right (by assumption))) (And.left (And.right (by assumption))) k3⟩ | assumption)
    (first | (go_at_call 31; refine (HS'.out _).mono ?_; rintro e w3 ⟨rfl, k3⟩) | (go_at_call 29; refine (HA'.out _).mono ?_; rintro e w3 ⟨rfl, k3⟩))
  rename_i hH
  obtain ⟨bH, lH, xH⟩ := hH
  clear b0 l0 x0
  go_wp2
  go_ret2
  exact ⟨rfl, bH⟩

set_option maxRecDepth 100000 in
theorem rparity_err (x : Cfg) (s n E : Int) (hE : (E != 0) = true) (HS : ∀ W, Calls Try.prog 31 #[x.val] W fun e w' => e = .returned (.int .i64 n) ∧ Below W.heap.size W w')
    (HA : ∀ W, Calls Try.prog 29 #[x.val, .int .i64 s, .int .i64 n, .int .i64 0, .int .i64 1] W fun e w' => e = .returned (.int .i64 E) ∧ Below W.heap.size W w') (w : World) :
    Calls Try.prog 18 #[x.val, .int .i64 s] w fun e w' => e = .returned (.tuple #[.int .i64 0, .int .i64 E]) ∧ Below w.heap.size w w' := by
  have HS' := Lib.hid HS
  have HA' := Lib.hid HA
  clear HS HA
  obtain ⟨id, m, c, r, l, h⟩ := x
  unfold Cfg.val at *
  dsimp only at *
  go_enter Try.func18, Try.ntmps18
  go_wp2_with fail
  have x0 := box_new w #[.int .u32 (id : Int), .int .i64 m, .int .i64 c, .int .i64 r, .int .i64 l, .int .i64 h] 24
  have b0 := Ext.alloc (Below.refl w.heap.size w) (.cells #[.int .u32 (id : Int), .int .i64 m, .int .i64 c, .int .i64 r, .int .i64 l, .int .i64 h] 24)
  have l0 := lt_new w (.cells #[.int .u32 (id : Int), .int .i64 m, .int .i64 c, .int .i64 r, .int .i64 l, .int .i64 h] 24)
  generalize w.alloc (.cells #[.int .u32 (id : Int), .int .i64 m, .int .i64 c, .int .i64 r, .int .i64 l, .int .i64 h] 24) = w0 at x0 b0 l0 ⊢
  go_region_held3 (fun w' => Below w.heap.size w w' ∧ w.heap.size < w'.heap.size ∧ ∀ o, w'.cell? ⟨w.heap.size, o, none⟩ = #[.int .u32 (id : Int), .int .i64 m, .int .i64 c, .int .i64 r, .int .i64 l, .int .i64 h].toList[o]?)
    (first | exact ⟨Ext.drew b0, l0, x0⟩ | exact ⟨Ext.trans (And.left (by assumption)) k3, lt_next (And.left (And.right (by assumption))) k3, box_next (And.right (And.right (by assumption))) (And.left (And.right (by assumption))) k3⟩ | assumption)
    (first | (go_at_call 31; refine (HS'.out _).mono ?_; rintro e w3 ⟨rfl, k3⟩) | (go_at_call 29; refine (HA'.out _).mono ?_; rintro e w3 ⟨rfl, k3⟩))
  rename_i hH
  obtain ⟨bH, lH, xH⟩ := hH
  clear b0 l0 x0
  go_wp2
  go_ret2
  exact ⟨rfl, bH⟩

set_option maxRecDepth 100000 in
theorem rblock_ok (x : Cfg) (hx : x.Ok) (s o : Int) (h1 : 0 ≤ s ∧ s < x.c * x.r) (h2 : 0 ≤ o ∧ o < x.m - 1) (v : Int)
    (HV : ∀ W, Calls Try.prog 32 #[x.val, .int .i64 s, .int .i64 o] W fun e w' => e = .returned (.int .i64 v) ∧ Below W.heap.size W w') (w : World) :
    Calls Try.prog 17 #[x.val, .int .i64 s, .int .i64 o] w fun e w' => e = .returned (.tuple #[.int .i64 v, .int .i64 0]) ∧ Below w.heap.size w w' := by
  have HS' := Lib.hid (rstripes_ok x hx)
  have HA' := Lib.hid (asked_ok x hx s (x.c * x.r) o (x.m - 1) h1 h2)
  have HV' := Lib.hid HV
  obtain ⟨hm1, hm2, hc1, hc2, hr1, hr2⟩ := Cfg.four hx
  clear HV h1 h2 hx
  obtain ⟨id, m, c, r, l, h⟩ := x
  unfold Cfg.val at *
  dsimp only at *
  generalize c * r = n at *
  have q4 : IntKind.i64.wrap (m - 1) = m - 1 := i64_fit (by omega)
  go_enter Try.func17, Try.ntmps17
  go_wp2_with fail
  have x0 := box_new w #[.int .u32 (id : Int), .int .i64 m, .int .i64 c, .int .i64 r, .int .i64 l, .int .i64 h] 24
  have b0 := Ext.alloc (Below.refl w.heap.size w) (.cells #[.int .u32 (id : Int), .int .i64 m, .int .i64 c, .int .i64 r, .int .i64 l, .int .i64 h] 24)
  have l0 := lt_new w (.cells #[.int .u32 (id : Int), .int .i64 m, .int .i64 c, .int .i64 r, .int .i64 l, .int .i64 h] 24)
  generalize w.alloc (.cells #[.int .u32 (id : Int), .int .i64 m, .int .i64 c, .int .i64 r, .int .i64 l, .int .i64 h] 24) = w0 at x0 b0 l0 ⊢
  go_region_held3 (fun w' => Below w.heap.size w w' ∧ w.heap.size < w'.heap.size ∧ ∀ o, w'.cell? ⟨w.heap.size, o, none⟩ = #[.int .u32 (id : Int), .int .i64 m, .int .i64 c, .int .i64 r, .int .i64 l, .int .i64 h].toList[o]?)
    (first | exact ⟨Ext.drew b0, l0, x0⟩ | exact ⟨Ext.trans (And.left (by assumption)) k3, lt_next (And.left (And.right (by assumption))) k3, box_next (And.right (And.right (by assumption))) (And.left (And.right (by assumption))) k3⟩ | assumption)
    (first | (go_at_call 31; refine (HS'.out _).mono ?_; rintro e w3 ⟨rfl, k3⟩) | (go_at_call 29; refine (HA'.out _).mono ?_; rintro e w3 ⟨rfl, k3⟩))
  rename_i hH
  obtain ⟨bH, lH, xH⟩ := hH
  clear b0 l0 x0
  clear q4
  go_wp2_with fail
  refine (HV'.out _).mono ?_
  rintro e w4 ⟨rfl, b4⟩
  go_wp2
  go_ret2
  exact ⟨rfl, Ext.trans bH b4⟩
set_option maxRecDepth 100000 in
theorem rmember_ok (x : Cfg) (hx : x.Ok) (s o : Int) (h1 : 0 ≤ s ∧ s < x.c * x.r) (h2 : 0 ≤ o ∧ o < x.m) (v : Int)
    (HV : ∀ W, Calls Try.prog 33 #[x.val, .int .i64 s, .int .i64 o] W fun e w' => e = .returned (.int .i64 v) ∧ Below W.heap.size W w') (w : World) :
    Calls Try.prog 19 #[x.val, .int .i64 s, .int .i64 o] w fun e w' => e = .returned (.tuple #[.int .i64 v, .int .i64 0]) ∧ Below w.heap.size w w' := by
  have HS' := Lib.hid (rstripes_ok x hx)
  have HA' := Lib.hid (asked_ok x hx s (x.c * x.r) o (x.m) h1 h2)
  have HV' := Lib.hid HV
  obtain ⟨hm1, hm2, hc1, hc2, hr1, hr2⟩ := Cfg.four hx
  clear HV h1 h2 hx
  obtain ⟨id, m, c, r, l, h⟩ := x
  unfold Cfg.val at *
  dsimp only at *
  generalize c * r = n at *
  have q4 : IntKind.i64.wrap (m - 1) = m - 1 := i64_fit (by omega)
  go_enter Try.func19, Try.ntmps19
  go_wp2_with fail
  have x0 := box_new w #[.int .u32 (id : Int), .int .i64 m, .int .i64 c, .int .i64 r, .int .i64 l, .int .i64 h] 24
  have b0 := Ext.alloc (Below.refl w.heap.size w) (.cells #[.int .u32 (id : Int), .int .i64 m, .int .i64 c, .int .i64 r, .int .i64 l, .int .i64 h] 24)
  have l0 := lt_new w (.cells #[.int .u32 (id : Int), .int .i64 m, .int .i64 c, .int .i64 r, .int .i64 l, .int .i64 h] 24)
  generalize w.alloc (.cells #[.int .u32 (id : Int), .int .i64 m, .int .i64 c, .int .i64 r, .int .i64 l, .int .i64 h] 24) = w0 at x0 b0 l0 ⊢
  go_region_held3 (fun w' => Below w.heap.size w w' ∧ w.heap.size < w'.heap.size ∧ ∀ o, w'.cell? ⟨w.heap.size, o, none⟩ = #[.int .u32 (id : Int), .int .i64 m, .int .i64 c, .int .i64 r, .int .i64 l, .int .i64 h].toList[o]?)
    (first | exact ⟨Ext.drew b0, l0, x0⟩ | exact ⟨Ext.trans (And.left (by assumption)) k3, lt_next (And.left (And.right (by assumption))) k3, box_next (And.right (And.right (by assumption))) (And.left (And.right (by assumption))) k3⟩ | assumption)
    (first | (go_at_call 31; refine (HS'.out _).mono ?_; rintro e w3 ⟨rfl, k3⟩) | (go_at_call 29; refine (HA'.out _).mono ?_; rintro e w3 ⟨rfl, k3⟩))
  rename_i hH
  obtain ⟨bH, lH, xH⟩ := hH
  clear b0 l0 x0
  clear q4
  go_wp2_with fail
  refine (HV'.out _).mono ?_
  rintro e w4 ⟨rfl, b4⟩
  go_wp2
  go_ret2
  exact ⟨rfl, Ext.trans bH b4⟩
set_option maxRecDepth 100000 in
theorem rslot_ok (x : Cfg) (hx : x.Ok) (s o : Int) (h1 : 0 ≤ s ∧ s < x.c * x.r) (h2 : 0 ≤ o ∧ o < x.m) (v : Int)
    (HV : ∀ W, Calls Try.prog 34 #[x.val, .int .i64 s, .int .i64 o] W fun e w' => e = .returned (.int .i64 v) ∧ Below W.heap.size W w') (w : World) :
    Calls Try.prog 20 #[x.val, .int .i64 s, .int .i64 o] w fun e w' => e = .returned (.tuple #[.int .i64 v, .int .i64 0]) ∧ Below w.heap.size w w' := by
  have HS' := Lib.hid (rstripes_ok x hx)
  have HA' := Lib.hid (asked_ok x hx s (x.c * x.r) o (x.m) h1 h2)
  have HV' := Lib.hid HV
  obtain ⟨hm1, hm2, hc1, hc2, hr1, hr2⟩ := Cfg.four hx
  clear HV h1 h2 hx
  obtain ⟨id, m, c, r, l, h⟩ := x
  unfold Cfg.val at *
  dsimp only at *
  generalize c * r = n at *
  have q4 : IntKind.i64.wrap (m - 1) = m - 1 := i64_fit (by omega)
  go_enter Try.func20, Try.ntmps20
  go_wp2_with fail
  have x0 := box_new w #[.int .u32 (id : Int), .int .i64 m, .int .i64 c, .int .i64 r, .int .i64 l, .int .i64 h] 24
  have b0 := Ext.alloc (Below.refl w.heap.size w) (.cells #[.int .u32 (id : Int), .int .i64 m, .int .i64 c, .int .i64 r, .int .i64 l, .int .i64 h] 24)
  have l0 := lt_new w (.cells #[.int .u32 (id : Int), .int .i64 m, .int .i64 c, .int .i64 r, .int .i64 l, .int .i64 h] 24)
  generalize w.alloc (.cells #[.int .u32 (id : Int), .int .i64 m, .int .i64 c, .int .i64 r, .int .i64 l, .int .i64 h] 24) = w0 at x0 b0 l0 ⊢
  go_region_held3 (fun w' => Below w.heap.size w w' ∧ w.heap.size < w'.heap.size ∧ ∀ o, w'.cell? ⟨w.heap.size, o, none⟩ = #[.int .u32 (id : Int), .int .i64 m, .int .i64 c, .int .i64 r, .int .i64 l, .int .i64 h].toList[o]?)
    (first | exact ⟨Ext.drew b0, l0, x0⟩ | exact ⟨Ext.trans (And.left (by assumption)) k3, lt_next (And.left (And.right (by assumption))) k3, box_next (And.right (And.right (by assumption))) (And.left (And.right (by assumption))) k3⟩ | assumption)
    (first | (go_at_call 31; refine (HS'.out _).mono ?_; rintro e w3 ⟨rfl, k3⟩) | (go_at_call 29; refine (HA'.out _).mono ?_; rintro e w3 ⟨rfl, k3⟩))
  rename_i hH
  obtain ⟨bH, lH, xH⟩ := hH
  clear b0 l0 x0
  clear q4
  go_wp2_with fail
  refine (HV'.out _).mono ?_
  rintro e w4 ⟨rfl, b4⟩
  go_wp2
  go_ret2
  exact ⟨rfl, Ext.trans bH b4⟩

set_option maxRecDepth 100000 in
theorem rparity_ok (x : Cfg) (hx : x.Ok) (s : Int) (h1 : 0 ≤ s ∧ s < x.c * x.r) (w : World) :
    Calls Try.prog 18 #[x.val, .int .i64 s] w fun e w' => e = .returned (.tuple #[.int .i64 (x.m - 1 - s / x.c % x.m), .int .i64 0]) ∧ Below w.heap.size w w' := by
  have HS' := Lib.hid (rstripes_ok x hx)
  have HA' := Lib.hid (asked_ok x hx s (x.c * x.r) 0 1 h1 (by omega))
  have HV' := Lib.hid (on_par x hx s h1)
  obtain ⟨hm1, hm2, hc1, hc2, hr1, hr2⟩ := Cfg.four hx
  clear h1 hx
  obtain ⟨id, m, c, r, l, h⟩ := x
  unfold Cfg.val at *
  dsimp only at *
  generalize c * r = n at *
  generalize hv : m - 1 - s / c % m = v at *
  go_enter Try.func18, Try.ntmps18
  go_wp2_with fail
  have x0 := box_new w #[.int .u32 (id : Int), .int .i64 m, .int .i64 c, .int .i64 r, .int .i64 l, .int .i64 h] 24
  have b0 := Ext.alloc (Below.refl w.heap.size w) (.cells #[.int .u32 (id : Int), .int .i64 m, .int .i64 c, .int .i64 r, .int .i64 l, .int .i64 h] 24)
  have l0 := lt_new w (.cells #[.int .u32 (id : Int), .int .i64 m, .int .i64 c, .int .i64 r, .int .i64 l, .int .i64 h] 24)
  generalize w.alloc (.cells #[.int .u32 (id : Int), .int .i64 m, .int .i64 c, .int .i64 r, .int .i64 l, .int .i64 h] 24) = w0 at x0 b0 l0 ⊢
  go_region_held3 (fun w' => Below w.heap.size w w' ∧ w.heap.size < w'.heap.size ∧ ∀ o, w'.cell? ⟨w.heap.size, o, none⟩ = #[.int .u32 (id : Int), .int .i64 m, .int .i64 c, .int .i64 r, .int .i64 l, .int .i64 h].toList[o]?)
    (first | exact ⟨Ext.drew b0, l0, x0⟩ | exact ⟨Ext.trans (And.left (by assumption)) k3, lt_next (And.left (And.right (by assumption))) k3, box_next (And.right (And.right (by assumption))) (And.left (And.right (by assumption))) k3⟩ | assumption)
    (first | (go_at_call 31; refine (HS'.out _).mono ?_; rintro e w3 ⟨rfl, k3⟩) | (go_at_call 29; refine (HA'.out _).mono ?_; rintro e w3 ⟨rfl, k3⟩))
  rename_i hH
  obtain ⟨bH, lH, xH⟩ := hH
  clear b0 l0 x0
  clear hv
  go_wp2_with fail
  refine (HV'.out _).mono ?_
  rintro e w4 ⟨rfl, b4⟩
  go_wp2
  go_ret2
  exact ⟨rfl, Ext.trans bH b4⟩

set_option maxRecDepth 100000 in
theorem in_ok (x : Cfg) (hx : x.Ok) (s o : Int) (h1 : 0 ≤ s ∧ s < x.c * x.r) (h2 : 0 ≤ o ∧ o < x.m) (w : World) :
    Calls Try.prog 34 #[x.val, .int .i64 s, .int .i64 o] w fun e w' => e = .returned (.int .i64 ((o + x.m - (x.m - 1 - s / x.c % x.m) - 1) % x.m)) ∧ Below w.heap.size w w' := by
  obtain ⟨hm1, hm2, hc1, hc2, hr1, hr2⟩ := Cfg.four hx
  obtain ⟨hk0, hk1⟩ := row_lt hc1 h1
  have HL := Lib.hid (fun k hk W => on_low x hx s k h1 hk W)
  have HE := Lib.hid (fun k hk => slot_on (m := x.m) (row := s / x.c) (k := k) (o := o) ⟨hm1, hm2⟩ ⟨hk0, by omega⟩ hk h2)
  have hv0 : 0 ≤ (o + x.m - (x.m - 1 - s / x.c % x.m) - 1) % x.m := Int.emod_nonneg _ (by omega)
  have hv1 : (o + x.m - (x.m - 1 - s / x.c % x.m) - 1) % x.m < x.m := Int.emod_lt_of_pos _ (by omega)
  obtain ⟨id, m, c, r, l, h⟩ := x
  unfold Cfg.val at *
  dsimp only at *
  clear hx h1 h2
  generalize (o + m - (m - 1 - s / c % m) - 1) % m = v at *
  go_enter Try.func34, Try.ntmps34
  go_wp2
  have A0 := Lib.hid (BoxOf.new w #[.int .u32 (id : Int), .int .i64 m, .int .i64 c, .int .i64 r, .int .i64 l, .int .i64 h] 24)
  have b0 := Ext.alloc (Below.refl w.heap.size w) (.cells #[.int .u32 (id : Int), .int .i64 m, .int .i64 c, .int .i64 r, .int .i64 l, .int .i64 h] 24)
  generalize w.alloc (.cells #[.int .u32 (id : Int), .int .i64 m, .int .i64 c, .int .i64 r, .int .i64 l, .int .i64 h] 24) = w0 at A0 b0 ⊢
  go_loopw [7] (fun i wr => ∃ k : Nat, (k : Int) ≤ v ∧ i = .int .i64 k ∧ Below w.heap.size w wr ∧ BoxOf wr w.heap.size #[.int .u32 (id : Int), .int .i64 m, .int .i64 c, .int .i64 r, .int .i64 l, .int .i64 h] 24) (fun i _ => m.toNat - (intOf i).toNat)
  case atStart => exact ⟨0, by omega, rfl, b0, A0.out⟩
  case round =>
    obtain ⟨k, hk, rfl, bk, Ak⟩ := hrel
    have xk := Ak.cell
    have HA := Lib.hid Ak
    clear Ak
    by_cases hlt : (k : Int) < m - 1
    · have HLk := Lib.hid (HL.out k ⟨by omega, hlt⟩)
      have hee := HE.out k ⟨by omega, hlt⟩
      generalize (s / c * (m - 1) + (k : Int)) % m = t at *
      by_cases hkv : (k : Int) = v
      · have ht0 : (t == o) = true := beq_iff_eq.2 (hee.2 hkv)
        have HT := Lib.hid ht0
        clear ht0
        have HKV := Lib.hid hkv
        clear hee hkv
        go_wp2_with fail
        refine (HLk.out _).mono ?_
        rintro e w1 ⟨rfl, b1⟩
        have ht := HT.out
        go_wp2
        go_ret
        exact ⟨ret_int HKV.out, Ext.trans bk b1⟩
      · have ht0 : (t == o) = false := beq_eq_false_iff_ne.2 (fun e => hkv (hee.1 e))
        have HT := Lib.hid ht0
        clear ht0
        have hkv' : (k : Int) + 1 ≤ v := by omega
        clear hee hkv
        go_wp2_with fail
        refine (HLk.out _).mono ?_
        rintro e w1 ⟨rfl, b1⟩
        have ht := HT.out
        have A1 := Lib.hid (HA.out.next b1)
        have bt := Ext.trans bk b1
        clear HA bk b1 xk
        go_wp2
        go_roundw
        case rel => exact ⟨k + 1, by omega, by go_num, bt, A1.out⟩
        case measure => simp [intOf]; omega
    · have hkv : m - 1 = v := by omega
      have HKV := Lib.hid hkv
      clear hkv
      go_wp2
      go_ret
      exact ⟨ret_int HKV.out, bk⟩
end Go.Proofs.Ytdeffbhkmmppmaa
