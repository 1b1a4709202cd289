/- Layer 10 (super): the reference's block. -/
import Derived.Test.YtgmlhfencidahaaSuperRef
namespace Go.Proofs.Ytgmlhfencidahaa
open Go Go.RowKit
set_option linter.unusedSimpArgs false
set_option linter.unusedVariables false

set_option maxRecDepth 100000 in
theorem rsblock_any (id age sq t : Nat) (hi : id < 4294967296) (ha : age < 4294967296) (hs : sq < 4294967296) (ht : t < 256) (w : World) :
    Calls Try.prog 24 #[.agg #[.int .u32 (id : Int), .int .u32 (age : Int), .int .u32 (sq : Int), .int .i64 (t : Int)]] w fun e w' => ∃ A c, e = .returned (.slice A 128 c) ∧ Bs w' A 128 (supBlock id age sq t) ∧ Below w.heap.size w w' := by
  have F1 := Lib.hid (four_any id hi)
  have F2 := Lib.hid (four_any age ha)
  have F3 := Lib.hid (four_any sq hs)
  have ht8 : (t : Int) = (((UInt8.ofNat t).toNat : Nat) : Int) := by simp; omega
  have HT := Lib.hid ht8
  clear ht8
  go_enter Try.func24, Try.ntmps24
  go_wp2_with fail
  have A0 := BoxOf.alloc (BoxOf.new w #[.int .u32 (id : Int), .int .u32 (age : Int), .int .u32 (sq : Int), .int .i64 (t : Int)] 24) (.cells #[.int .u8 83] 5)
  have O0 := OB.lit (w.alloc (.cells #[.int .u32 (id : Int), .int .u32 (age : Int), .int .u32 (sq : Int), .int .i64 (t : Int)] 24)) (w.heap.size + 1) (by simp) 83 83 rfl
  have t0 := Ext.alloc (Ext.alloc (Below.refl w.heap.size w) (.cells #[.int .u32 (id : Int), .int .u32 (age : Int), .int .u32 (sq : Int), .int .i64 (t : Int)] 24)) (.cells #[.int .u8 83] 5)
  generalize (w.alloc (.cells #[.int .u32 (id : Int), .int .u32 (age : Int), .int .u32 (sq : Int), .int .i64 (t : Int)] 24)).alloc (.cells #[.int .u8 83] 5) = W at *
  refine (F1.out _).mono ?_
  rintro e w1 ⟨P1, rfl, hb1, b1⟩
  have A1 := A0.next b1
  have O1 := Lib.hid (O0.next b1)
  have t1 := Ext.trans t0 b1
  clear A0 O0 t0 b1
  go_wp2_with (at_builtin; refine wpList_append_bytes rfl (.tmp 4) (.tmp 7) rfl (w.heap.size + 1) _ 1 _ rfl O1.out _ 4 _ _ rfl hb1 (by omega) (by have := A1.lt; omega) ?_; intro v2 w2 own2 g2; have A2 := A1.below g2 (by omega); have t2 := t1.trans (g2.mono (by omega)); have x2 := A2.cell; have O2 := Lib.hid own2; clear own2 g2 A1 t1 O1)
  refine (F2.out _).mono ?_
  rintro e w3 ⟨P2, rfl, hb2, b1⟩
  have A3 := A2.next b1
  have O3 := Lib.hid (O2.out.next b1)
  have t3 := Ext.trans t2 b1
  clear A2 O2 t2 b1 x2
  go_wp2_with (at_builtin; refine wpList_append_bytes rfl (.tmp 9) (.tmp 12) rfl (w.heap.size + 1) _ 5 _ rfl O3.out _ 4 _ _ rfl hb2 (by omega) (by have := A3.lt; omega) ?_; intro v4 w4 own4 g4; have A4 := A3.below g4 (by omega); have t4 := t3.trans (g4.mono (by omega)); have x4 := A4.cell; have O4 := Lib.hid own4; clear own4 g4 A3 t3 O3)
  refine (F3.out _).mono ?_
  rintro e w5 ⟨P3, rfl, hb3, b1⟩
  have A5 := A4.next b1
  have O5 := Lib.hid (O4.out.next b1)
  have t5 := Ext.trans t4 b1
  clear A4 O4 t4 b1 x4
  go_wp2_with (first
    | (at_builtin; refine wpList_append_bytes rfl (.tmp 14) (.tmp 17) rfl (w.heap.size + 1) _ 9 _ rfl O5.out _ 4 _ _ rfl hb3 (by omega) (by have := A5.lt; omega) ?_; intro v6 w6 own6 g6; have A6 := A5.below g6 (by omega); have t6 := t5.trans (g6.mono (by omega)); have x6 := A6.cell; have O6 := Lib.hid (own6.next (Ext.alloc (Below.refl w6.heap.size w6) (.cells #[.int .u8 (t : Int)] 5))); have t7 := Ext.alloc t6 (.cells #[.int .u8 (t : Int)] 5); have B6 := Lib.hid (Bs.new w6 #[.int .u8 (t : Int)] 5 (0, 0) 1 [UInt8.ofNat t] rfl (by rw [HT.out]; rfl)); have hle6 := A6.lt; clear own6 g6 A5 t5 O5 A6 t6)
    | (at_builtin; refine wpList_append_bytes rfl (.tmp 19) (.tmp 23) rfl (w.heap.size + 1) _ 13 _ rfl O6.out _ 1 _ _ rfl B6.out (by omega) (by simp; omega) ?_; intro v8 w8 own8 g8; have t8 := t7.trans (g8.mono (by omega)); obtain ⟨P8, c8, rfl, hb8⟩ := own8.bs; clear own8 g8 t7 O6 B6 x6))
  refine (rsealed_any P8 14 c8 _ (by omega) w8 hb8).mono ?_
  rintro e w9 ⟨g9, rfl, hb9, b9⟩
  have hraw : ([83] ++ le 4 id ++ le 4 age ++ le 4 sq ++ [UInt8.ofNat t] : List UInt8) = supRaw id age sq t := by simp [supRaw, le]
  rw [hraw] at hb9
  go_wp2
  go_ret
  exact ⟨_, _, rfl, hb9, Ext.trans t8 b9⟩
end Go.Proofs.Ytgmlhfencidahaa
