/- Layer 7 (turn): the chapter's examples. -/
import Derived.Test.YtdeffbhkmmppmaaTurnLaws
import Derived.Test.YtdeffbhkmmppmaaTurnPlain2
namespace Go.Proofs.Ytdeffbhkmmppmaa
open Go.RowKit
set_option linter.unusedSimpArgs false

def smallC : Cfg := ⟨0, 3, 2, 3, 12, 2⟩
theorem smallC_ok : smallC.Ok := by decide
def smallV : Array Value := #[.int .u32 0, .int .i64 3, .int .i64 2, .int .i64 3, .int .i64 12, .int .i64 2]

theorem small_any (w : World) : Calls Try.prog 13 #[] w fun e w' => e = .returned (.agg #[.int .u32 0, .int .i64 3, .int .i64 2, .int .i64 3, .int .i64 12, .int .i64 2]) ∧ Below w.heap.size w w' := by
  go_enter Try.func13, Try.ntmps13
  go_wp2
  exact bodyPost_ret (v := .agg smallV) (results_cell_row rfl _ _ w.heap.size 24 smallV (0, 0) _ rfl (heap_alloc_new _ _) Try.underlying24 rfl (by kernel_rfl)) rfl ⟨rfl, Ext.alloc (Below.refl _ _) _⟩

def spotT (b : Int) : Int × Int × Int := (b / 2 / 2 * 2 + b % 2, b / 2 % 2, (2 - b / 2 / 2 % 3 + 1 + b / 2 % 2) % 3)
theorem spot_small (b : Int) (hb : 0 ≤ b ∧ b < 12) (s k v : Int) (he : spotT b = (s, k, v)) (w : World) :
    Calls Try.prog 9 #[.agg #[.int .u32 0, .int .i64 3, .int .i64 2, .int .i64 3, .int .i64 12, .int .i64 2], .int .i64 b] w fun e w' => e = .returned (.tuple #[.agg #[.int .i64 (s), .int .i64 (k), .int .i64 (v)], .int .i64 0]) ∧ Below w.heap.size w w' := by
  have h := spot_ok smallC smallC_ok b hb w
  unfold spotT at he
  simp only [Prod.mk.injEq] at he
  obtain ⟨rfl, rfl, rfl⟩ := he
  exact h
theorem par_small (s v : Int) (hs : 0 ≤ s ∧ s < 6) (he : 2 - s / 2 % 3 = v) (w : World) :
    Calls Try.prog 11 #[.agg #[.int .u32 0, .int .i64 3, .int .i64 2, .int .i64 3, .int .i64 12, .int .i64 2], .int .i64 s] w fun e w' => e = .returned (.tuple #[.int .i64 v, .int .i64 0]) ∧ Below w.heap.size w w' := by
  have h := parity_ok smallC smallC_ok s hs w
  subst he
  exact h

theorem lspot_any (b s k v : Int) (hb : 0 ≤ b ∧ b < 12) (he : spotT b = (s, k, v)) (w : World) :
    Calls Try.prog 21 #[.int .i64 b, .int .i64 s, .int .i64 k, .int .i64 v] w fun e w' => e = .returned (.bool true) ∧ Below w.heap.size w w' := by
  have HS := Lib.hid (spot_small b hb s k v he)
  clear hb he
  go_enter Try.func21, Try.ntmps21
  go_wp2_with fail
  refine (small_any _).mono ?_
  rintro e w1 ⟨rfl, b1⟩
  go_wp2_with fail
  refine (HS.out _).mono ?_
  rintro e w2 ⟨rfl, b2⟩
  go_wp2
  go_ret
  exact ⟨rfl, Ext.alloc (Ext.trans b1 b2) _⟩
theorem lparity_any (s v : Int) (hs : 0 ≤ s ∧ s < 6) (he : 2 - s / 2 % 3 = v) (w : World) :
    Calls Try.prog 22 #[.int .i64 s, .int .i64 v] w fun e w' => e = .returned (.bool true) ∧ Below w.heap.size w w' := by
  have HS := Lib.hid (par_small s v hs he)
  clear hs he
  go_enter Try.func22, Try.ntmps22
  go_wp2_with fail
  refine (small_any _).mono ?_
  rintro e w1 ⟨rfl, b1⟩
  go_wp2_with fail
  refine (HS.out _).mono ?_
  rintro e w2 ⟨rfl, b2⟩
  go_wp2
  go_ret
  exact ⟨rfl, Ext.trans b1 b2⟩

theorem talive_any (w : World) : Calls Try.prog 8 #[] w fun e w' => e = .returned (.bool true) ∧ Below w.heap.size w w' := by
  go_enter Try.func8, Try.ntmps8
  go_wp2_with fail
  refine (lspot_any 0 0 0 0 (by decide) (by decide) _).mono ?_
  rintro e w1 ⟨rfl, b1⟩
  go_wp2_with fail
  refine (lspot_any 1 1 0 0 (by decide) (by decide) _).mono ?_
  rintro e w2 ⟨rfl, b2⟩
  go_wp2_with fail
  refine (lspot_any 2 0 1 1 (by decide) (by decide) _).mono ?_
  rintro e w3 ⟨rfl, b3⟩
  go_wp2_with fail
  refine (lspot_any 4 2 0 2 (by decide) (by decide) _).mono ?_
  rintro e w4 ⟨rfl, b4⟩
  go_wp2_with fail
  refine (lspot_any 11 5 1 2 (by decide) (by decide) _).mono ?_
  rintro e w5 ⟨rfl, b5⟩
  go_wp2_with fail
  refine (lparity_any 0 2 (by decide) (by decide) _).mono ?_
  rintro e w6 ⟨rfl, b6⟩
  go_wp2_with fail
  refine (lparity_any 1 2 (by decide) (by decide) _).mono ?_
  rintro e w7 ⟨rfl, b7⟩
  go_wp2_with fail
  refine (lparity_any 2 1 (by decide) (by decide) _).mono ?_
  rintro e w8 ⟨rfl, b8⟩
  go_wp2_with fail
  refine (lparity_any 4 0 (by decide) (by decide) _).mono ?_
  rintro e w9 ⟨rfl, b9⟩
  go_wp2
  go_ret
  exact ⟨rfl, Ext.trans (Ext.trans (Ext.trans (Ext.trans (Ext.trans (Ext.trans (Ext.trans (Ext.trans b1 b2) b3) b4) b5) b6) b7) b8) b9⟩

theorem zeroC_bad : ¬ (Cfg.mk 0 0 0 0 0 0).Ok := by decide
set_option maxRecDepth 100000 in
theorem turnNames_walk (w : World) : Calls Try.prog 5 #[] w fun e w' => e = .returned (.bool true) ∧ Below w.heap.size w w' := by
  have g1 := Lib.hid (block_ok smallC smallC_ok 2 1 (by decide) (by decide))
  have g2 := Lib.hid (member_ok smallC smallC_ok 2 2 (by decide) (by decide))
  have g3 := Lib.hid (slot_ok smallC smallC_ok 2 0 (by decide) (by decide))
  have g4 := Lib.hid (spot_arg smallC smallC_ok 12 (by decide))
  have g5 := Lib.hid (block_arg smallC smallC_ok 0 2 (by unfold Off; decide))
  have g6 := Lib.hid (member_err smallC 0 3 2 n2 (at_arg smallC smallC_ok 0 3 3 (by unfold Off; decide)))
  have g7 := Lib.hid (slot_err smallC 0 3 2 n2 (at_arg smallC smallC_ok 0 3 3 (by unfold Off; decide)))
  have g8 := Lib.hid (spot_bad (Cfg.mk 0 0 0 0 0 0) zeroC_bad 0)
  have t0 := Below.refl w.heap.size w
  go_enter Try.func5, Try.ntmps5
  go_wp2_with fail
  refine (small_any _).mono ?_
  rintro e w1 ⟨rfl, b1⟩
  have t1 := Ext.trans t0 b1
  clear t0 b1
  go_wp2_with fail
  refine (g1.out _).mono ?_
  rintro e w1' ⟨rfl, b1⟩
  have t1' := Ext.trans t1 b1
  clear t1 b1
  go_wp2_with fail
  refine (small_any _).mono ?_
  rintro e w2 ⟨rfl, b2⟩
  have t2 := Ext.trans t1' b2
  clear t1' b2
  go_wp2_with fail
  refine (g2.out _).mono ?_
  rintro e w2' ⟨rfl, b2⟩
  have t2' := Ext.trans t2 b2
  clear t2 b2
  go_wp2_with fail
  refine (small_any _).mono ?_
  rintro e w3 ⟨rfl, b3⟩
  have t3 := Ext.trans t2' b3
  clear t2' b3
  go_wp2_with fail
  refine (g3.out _).mono ?_
  rintro e w3' ⟨rfl, b3⟩
  have t3' := Ext.trans t3 b3
  clear t3 b3
  go_wp2_with fail
  refine (small_any _).mono ?_
  rintro e w4 ⟨rfl, b4⟩
  have t4 := Ext.trans t3' b4
  clear t3' b4
  go_wp2_with fail
  refine (g4.out _).mono ?_
  rintro e w4' ⟨rfl, b4⟩
  have t4' := Ext.trans t4 b4
  clear t4 b4
  have t4a := Ext.alloc t4' (.cells #[.int .i64 (0), .int .i64 (0), .int .i64 (0)] 27)
  go_wp2_with fail
  refine (small_any _).mono ?_
  rintro e w5 ⟨rfl, b5⟩
  have t5 := Ext.trans t4a b5
  clear t4a b5
  go_wp2_with fail
  refine (g5.out _).mono ?_
  rintro e w5' ⟨rfl, b5⟩
  have t5' := Ext.trans t5 b5
  clear t5 b5
  go_wp2_with fail
  refine (small_any _).mono ?_
  rintro e w6 ⟨rfl, b6⟩
  have t6 := Ext.trans t5' b6
  clear t5' b6
  go_wp2_with fail
  refine (g6.out _).mono ?_
  rintro e w6' ⟨rfl, b6⟩
  have t6' := Ext.trans t6 b6
  clear t6 b6
  go_wp2_with fail
  refine (small_any _).mono ?_
  rintro e w7 ⟨rfl, b7⟩
  have t7 := Ext.trans t6' b7
  clear t6' b7
  go_wp2_with fail
  refine (g7.out _).mono ?_
  rintro e w7' ⟨rfl, b7⟩
  have t7' := Ext.trans t7 b7
  clear t7 b7
  go_wp2_with fail
  refine (g8.out _).mono ?_
  rintro e w8 ⟨rfl, b8⟩
  have t8 := Ext.alloc (Ext.trans t7' b8) (.cells #[.int .i64 (0), .int .i64 (0), .int .i64 (0)] 27)
  clear t7' b8
  go_wp2_with fail
  refine (talive_any _).mono ?_
  rintro e w9 ⟨rfl, b9⟩
  have t9 := Ext.trans t8 b9
  clear t8 b9
  go_wp2
  go_ret
  exact ⟨rfl, t9⟩
end Go.Proofs.Ytdeffbhkmmppmaa
