/- Layer 9 (label): the chapter's examples: the statement. -/
import Derived.Test.YtiomgjfiiibllaaLabelLaws
namespace Go.Proofs.Ytiomgjfiiibllaa
open Go Go.RowKit
set_option linter.unusedSimpArgs false
set_option linter.unusedVariables false

theorem lone_take : (labBlock 7 2 3 1 1 12 1 255 0 true).take 17 = [76, 7, 0, 0, 0, 2, 0, 0, 0, 3, 1, 1, 12, 1, 255, 0, 1] := by
  unfold labBlock rowsBlock
  rw [take_ext _ _ 17 (sealL_len _) fun i hi => sealL_getD _ (pad_len (by decide)) i (by omega)]
  decide

set_option maxRecDepth 100000 in
set_option maxHeartbeats 2000000 in
theorem labelNames_walk (w : World) : Calls Try.prog 4 #[] w fun e w' => e = .returned (.bool true) ∧ Below w.heap.size w w' := by
  have HW := Lib.hid one_write
  have HN := Lib.hid lread_nil
  have HT := Lib.hid (fun A q => lread_text A 127 q (by decide) (by decide))
  have HX := Lib.hid (lcheck_bad ⟨7, 2, 3, 1, 1, 12, 3, -1, 0, true⟩ (by decide))
  have HY := Lib.hid (lcheck_bad ⟨7, 2, 3, 1, 1, 12, 1, -1, 1, true⟩ (by decide))
  have HZ := Lib.hid (lcheck_ok ⟨7, 2, 3, 1, 1, 12, 1, 1, 1, true⟩ (by decide))
  unfold Lab.cells at HX HY HZ
  dsimp only at HX HY HZ
  go_enter Try.func4, Try.ntmps4
  go_wp2_with fail
  refine (one_any _).mono ?_
  rintro e w1 ⟨rfl, b1⟩
  go_wp2_with fail
  refine (HW.out _).mono ?_
  rintro e w2 ⟨g, rfl, _, hB, b2⟩
  have t2 := Ext.trans b1 b2
  have hp2 := hB.bs
  clear b1 b2 hB
  go_wp2_with fail
  refine (HN.out _).mono ?_
  rintro e w3 ⟨rfl, b3⟩
  have t3 := Ext.alloc (Ext.trans t2 b3) (.cells #[.int .u32 0, .int .u32 0, .int .i64 0, .int .i64 0, .int .i64 0, .int .i64 0, .int .i64 0, .int .i64 0, .int .i64 0, .bool false] 24)
  have hp3 := (hp2.below b3).alloc (.cells #[.int .u32 0, .int .u32 0, .int .i64 0, .int .i64 0, .int .i64 0, .int .i64 0, .int .i64 0, .int .i64 0, .int .i64 0, .bool false] 24)
  clear t2 b3 hp2
  go_wp2_with fail
  generalize w3.alloc (.cells #[.int .u32 0, .int .u32 0, .int .i64 0, .int .i64 0, .int .i64 0, .int .i64 0, .int .i64 0, .int .i64 0, .int .i64 0, .bool false] 24) = v3 at *
  refine (HT.out _ _ _).mono ?_
  rintro e w4 ⟨rfl, b4⟩
  have t4 := Ext.alloc (Ext.trans t3 b4) (.cells #[.int .u32 0, .int .u32 0, .int .i64 0, .int .i64 0, .int .i64 0, .int .i64 0, .int .i64 0, .int .i64 0, .int .i64 0, .bool false] 24)
  have hp4 := (hp3.below b4).alloc (.cells #[.int .u32 0, .int .u32 0, .int .i64 0, .int .i64 0, .int .i64 0, .int .i64 0, .int .i64 0, .int .i64 0, .int .i64 0, .bool false] 24)
  clear t3 b4 hp3
  go_wp2_with fail
  generalize w4.alloc (.cells #[.int .u32 0, .int .u32 0, .int .i64 0, .int .i64 0, .int .i64 0, .int .i64 0, .int .i64 0, .int .i64 0, .int .i64 0, .bool false] 24) = v4 at *
  refine (one_any _).mono ?_
  rintro e w5 ⟨rfl, b5⟩
  go_wp2_with fail
  refine (one_any _).mono ?_
  rintro e w6 ⟨rfl, b6⟩
  go_wp2_with fail
  refine (one_any _).mono ?_
  rintro e w7 ⟨rfl, b7⟩
  have t7 := Ext.trans (Ext.trans (Ext.trans t4 b5) b6) b7
  have hp7 := ((hp4.below b5).below b6).below b7
  clear t4 b5 b6 b7 hp4
  go_upto_region 10 with fail
  obtain ⟨g8, hg8⟩ : ∃ g : Nat, g = w7.heap.size := ⟨_, rfl⟩
  have X8 := ((BoxOf.new' w7 g8 #[.int .u32 7, .int .u32 2, .int .i64 3, .int .i64 1, .int .i64 1, .int .i64 12, .int .i64 3, .int .i64 (-1), .int .i64 0, .bool true] 24 hg8).alloc (.cells #[.int .u32 7, .int .u32 2, .int .i64 3, .int .i64 1, .int .i64 1, .int .i64 12, .int .i64 1, .int .i64 (-1), .int .i64 1, .bool true] 24)).alloc (.cells #[.int .u32 7, .int .u32 2, .int .i64 3, .int .i64 1, .int .i64 1, .int .i64 12, .int .i64 1, .int .i64 1, .int .i64 1, .bool true] 24)
  have Y8 := (BoxOf.new' (w7.alloc (.cells #[.int .u32 7, .int .u32 2, .int .i64 3, .int .i64 1, .int .i64 1, .int .i64 12, .int .i64 3, .int .i64 (-1), .int .i64 0, .bool true] 24)) (g8 + 1) #[.int .u32 7, .int .u32 2, .int .i64 3, .int .i64 1, .int .i64 1, .int .i64 12, .int .i64 1, .int .i64 (-1), .int .i64 1, .bool true] 24 (by simp [hg8])).alloc (.cells #[.int .u32 7, .int .u32 2, .int .i64 3, .int .i64 1, .int .i64 1, .int .i64 12, .int .i64 1, .int .i64 1, .int .i64 1, .bool true] 24)
  have Z8 := BoxOf.new' ((w7.alloc (.cells #[.int .u32 7, .int .u32 2, .int .i64 3, .int .i64 1, .int .i64 1, .int .i64 12, .int .i64 3, .int .i64 (-1), .int .i64 0, .bool true] 24)).alloc (.cells #[.int .u32 7, .int .u32 2, .int .i64 3, .int .i64 1, .int .i64 1, .int .i64 12, .int .i64 1, .int .i64 (-1), .int .i64 1, .bool true] 24)) (g8 + 1 + 1) #[.int .u32 7, .int .u32 2, .int .i64 3, .int .i64 1, .int .i64 1, .int .i64 12, .int .i64 1, .int .i64 1, .int .i64 1, .bool true] 24 (by simp [hg8])
  have t8 := Ext.alloc (Ext.alloc (Ext.alloc t7 (.cells #[.int .u32 7, .int .u32 2, .int .i64 3, .int .i64 1, .int .i64 1, .int .i64 12, .int .i64 3, .int .i64 (-1), .int .i64 0, .bool true] 24)) (.cells #[.int .u32 7, .int .u32 2, .int .i64 3, .int .i64 1, .int .i64 1, .int .i64 12, .int .i64 1, .int .i64 (-1), .int .i64 1, .bool true] 24)) (.cells #[.int .u32 7, .int .u32 2, .int .i64 3, .int .i64 1, .int .i64 1, .int .i64 12, .int .i64 1, .int .i64 1, .int .i64 1, .bool true] 24)
  have hp8 := ((hp7.alloc (.cells #[.int .u32 7, .int .u32 2, .int .i64 3, .int .i64 1, .int .i64 1, .int .i64 12, .int .i64 3, .int .i64 (-1), .int .i64 0, .bool true] 24)).alloc (.cells #[.int .u32 7, .int .u32 2, .int .i64 3, .int .i64 1, .int .i64 1, .int .i64 12, .int .i64 1, .int .i64 (-1), .int .i64 1, .bool true] 24)).alloc (.cells #[.int .u32 7, .int .u32 2, .int .i64 3, .int .i64 1, .int .i64 1, .int .i64 12, .int .i64 1, .int .i64 1, .int .i64 1, .bool true] 24)
  rw [← hg8]
  clear t7 hp7 hg8
  generalize ((w7.alloc (.cells #[.int .u32 7, .int .u32 2, .int .i64 3, .int .i64 1, .int .i64 1, .int .i64 12, .int .i64 3, .int .i64 (-1), .int .i64 0, .bool true] 24)).alloc (.cells #[.int .u32 7, .int .u32 2, .int .i64 3, .int .i64 1, .int .i64 1, .int .i64 12, .int .i64 1, .int .i64 (-1), .int .i64 1, .bool true] 24)).alloc (.cells #[.int .u32 7, .int .u32 2, .int .i64 3, .int .i64 1, .int .i64 1, .int .i64 12, .int .i64 1, .int .i64 1, .int .i64 1, .bool true] 24) = v8 at *
  go_wp2_with fail
  refine (lalive_any _).mono ?_
  rintro e w9 ⟨rfl, b9⟩
  have X9 := X8.next b9
  have Y9 := Y8.next b9
  have Z9 := Z8.next b9
  have t9 := Ext.trans t8 b9
  have hp9 := hp8.below b9
  have x9 := X9.cell
  have sq := run_string_bs (P := Try.prog) 128 25 9 5 Try.underlying25 Try.underlying5 Try.underlying9 (hp9.first' 17 (by decide))
  rw [lone_take] at sq
  clear X8 Y8 Z8 t8 hp8 b9
  go_wp2_with fail
  refine (HX.out _).mono ?_
  rintro e w10 ⟨rfl, b10⟩
  have Y10 := Y9.next b10
  have Z10 := Z9.next b10
  have t10 := Ext.trans t9 b10
  have y10 := Y10.cell
  clear X9 Y9 Z9 t9 hp9 x9 sq b10
  go_wp2_with fail
  refine (HY.out _).mono ?_
  rintro e w11 ⟨rfl, b11⟩
  have Z11 := Z10.next b11
  have t11 := Ext.trans t10 b11
  have z11 := Z11.cell
  clear Y10 Z10 t10 y10 b11
  go_wp2_with fail
  refine (HZ.out _).mono ?_
  rintro e w12 ⟨rfl, b12⟩
  have t12 := Ext.trans t11 b12
  go_wp2
  go_ret
  exact ⟨rfl, t12⟩
end Go.Proofs.Ytiomgjfiiibllaa
