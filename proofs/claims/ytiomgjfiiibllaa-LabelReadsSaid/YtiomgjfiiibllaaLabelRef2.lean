/- Layer 9 (label): the reference's block. -/
import Derived.Test.YtiomgjfiiibllaaLabelRef
import Derived.Test.YtiomgjfiiibllaaLabelPlain
import Derived.Deep.DeepCutAuto
namespace Go.Proofs.Ytiomgjfiiibllaa
open Go Go.RowKit
set_option linter.unusedSimpArgs false
set_option linter.unusedVariables false

theorem byte_cast {x : Nat} (h : x < 256) : (x : Int) = (((UInt8.ofNat x).toNat : Nat) : Int) := by simp; omega
theorem eight_cells (m c r l me lo dn o : Nat) (h1 : m < 256) (h2 : c < 256) (h3 : r < 256) (h4 : l < 256) (h5 : me < 256) (h6 : lo < 256) (h7 : dn < 256) (h8 : o < 256) :
    (#[.int .u8 (m : Int), .int .u8 (c : Int), .int .u8 (r : Int), .int .u8 (l : Int), .int .u8 (me : Int), .int .u8 (lo : Int), .int .u8 (dn : Int), .int .u8 (o : Int)] : Array Value).toList.take 8 =
      ([UInt8.ofNat m, UInt8.ofNat c, UInt8.ofNat r, UInt8.ofNat l, UInt8.ofNat me, UInt8.ofNat lo, UInt8.ofNat dn, UInt8.ofNat o]).map byteV := by
  rw [byte_cast h1, byte_cast h2, byte_cast h3, byte_cast h4, byte_cast h5, byte_cast h6, byte_cast h7, byte_cast h8]
  simp [byteV]

theorem rlcheck_ok (x : Lab) (hx : x.Ok) (w : World) : Calls Try.prog 13 #[.agg x.cells] w fun e w' => e = .returned (.int .i64 0) ∧ Below w.heap.size w w' := by
  have HM := Lib.hid (rlmay_ok x hx)
  clear hx
  unfold Lab.cells at *
  go_enter Try.func13, Try.ntmps13
  go_wp2_with fail
  have t0 := Ext.alloc (Below.refl w.heap.size w) (.cells #[.int .u32 (x.id : Int), .int .u32 (x.ev : Int), .int .i64 x.m, .int .i64 x.c, .int .i64 x.r, .int .i64 x.l, .int .i64 x.me, .int .i64 x.lost, .int .i64 x.dn, .bool x.op] 24)
  refine (HM.out _).mono ?_
  rintro e w1 ⟨rfl, b1⟩
  go_wp2
  go_ret
  exact ⟨rfl, Ext.trans t0 b1⟩
theorem rlcheck_bad (x : Lab) (hx : ¬ x.Ok) (w : World) : Calls Try.prog 13 #[.agg x.cells] w fun e w' => e = .returned (.int .i64 8) ∧ Below w.heap.size w w' := by
  have HM := Lib.hid (rlmay_bad x hx)
  clear hx
  unfold Lab.cells at *
  go_enter Try.func13, Try.ntmps13
  go_wp2_with fail
  have t0 := Ext.alloc (Below.refl w.heap.size w) (.cells #[.int .u32 (x.id : Int), .int .u32 (x.ev : Int), .int .i64 x.m, .int .i64 x.c, .int .i64 x.r, .int .i64 x.l, .int .i64 x.me, .int .i64 x.lost, .int .i64 x.dn, .bool x.op] 24)
  refine (HM.out _).mono ?_
  rintro e w1 ⟨rfl, b1⟩
  go_wp2
  go_ret
  exact ⟨rfl, Ext.trans t0 b1⟩
theorem rlwrite_bad (x : Lab) (hx : ¬ x.Ok) (w : World) : Calls Try.prog 11 #[.agg x.cells] w fun e w' => e = .returned (.tuple #[.slice none 0 0, .int .i64 8]) ∧ Below w.heap.size w w' := by
  have HM := Lib.hid (rlmay_bad x hx)
  clear hx
  unfold Lab.cells at *
  go_enter Try.func11, Try.ntmps11
  go_wp2_with fail
  have t0 := Ext.alloc (Below.refl w.heap.size w) (.cells #[.int .u32 (x.id : Int), .int .u32 (x.ev : Int), .int .i64 x.m, .int .i64 x.c, .int .i64 x.r, .int .i64 x.l, .int .i64 x.me, .int .i64 x.lost, .int .i64 x.dn, .bool x.op] 24)
  refine (HM.out _).mono ?_
  rintro e w1 ⟨rfl, b1⟩
  go_wp2
  go_ret2
  exact ⟨rfl, Ext.trans t0 b1⟩

set_option maxRecDepth 100000 in
set_option maxHeartbeats 2000000 in
theorem rlblock_any (id ev m c r l me lo dn : Nat) (op : Bool) (hi : id < 4294967296) (he : ev < 4294967296) (h1 : m < 256) (h2 : c < 256) (h3 : r < 256) (h4 : l < 256) (h5 : me < 256) (h6 : lo < 256) (h7 : dn < 256) (w : World) :
    Calls Try.prog 22 #[.agg #[.int .u32 (id : Int), .int .u32 (ev : Int), .int .i64 (m : Int), .int .i64 (c : Int), .int .i64 (r : Int), .int .i64 (l : Int), .int .i64 (me : Int), .int .i64 (lostI lo), .int .i64 (dn : Int), .bool op]] w fun e w' => ∃ A q, e = .returned (.slice A 128 q) ∧ Bs w' A 128 (labBlock id ev m c r l me lo dn op) ∧ Below w.heap.size w w' := by
  have F1 := Lib.hid (four_any id hi)
  have F2 := Lib.hid (four_any ev he)
  have h8 : opN op < 256 := by unfold opN; split <;> decide
  have H8 := Lib.hid (eight_cells m c r l me lo dn (opN op) h1 h2 h3 h4 h5 h6 h7 h8)
  have hlo : (lostI lo < 0 ∧ (lo : Int) = 255) ∨ (0 ≤ lostI lo ∧ lostI lo = (lo : Int)) := by
    unfold lostI
    split
    · exact .inl ⟨by omega, by omega⟩
    · exact .inr ⟨by omega, rfl⟩
  have HLO := Lib.hid hlo
  clear hlo
  go_enter Try.func22, Try.ntmps22
  generalize lostI lo = z at *
  go_wp2_with fail
  have A0 := BoxOf.alloc (BoxOf.new w #[.int .u32 (id : Int), .int .u32 (ev : Int), .int .i64 (m : Int), .int .i64 (c : Int), .int .i64 (r : Int), .int .i64 (l : Int), .int .i64 (me : Int), .int .i64 z, .int .i64 (dn : Int), .bool op] 24) (.cells #[.int .u8 76] 5)
  have O0 := OB.lit (w.alloc (.cells #[.int .u32 (id : Int), .int .u32 (ev : Int), .int .i64 (m : Int), .int .i64 (c : Int), .int .i64 (r : Int), .int .i64 (l : Int), .int .i64 (me : Int), .int .i64 z, .int .i64 (dn : Int), .bool op] 24)) (w.heap.size + 1) (by simp) 76 76 rfl
  have t0 := Ext.alloc (Ext.alloc (Below.refl w.heap.size w) (.cells #[.int .u32 (id : Int), .int .u32 (ev : Int), .int .i64 (m : Int), .int .i64 (c : Int), .int .i64 (r : Int), .int .i64 (l : Int), .int .i64 (me : Int), .int .i64 z, .int .i64 (dn : Int), .bool op] 24)) (.cells #[.int .u8 76] 5)
  generalize (w.alloc (.cells #[.int .u32 (id : Int), .int .u32 (ev : Int), .int .i64 (m : Int), .int .i64 (c : Int), .int .i64 (r : Int), .int .i64 (l : Int), .int .i64 (me : Int), .int .i64 z, .int .i64 (dn : Int), .bool op] 24)).alloc (.cells #[.int .u8 76] 5) = W at *
  refine (F1.out _).mono ?_
  rintro e w1 ⟨P1, rfl, hb1, b1⟩
  have A1 := A0.next b1
  have O1 := Lib.hid (O0.next b1)
  have t1 := Ext.trans t0 b1
  clear A0 O0 t0 b1
  go_wp2_with (at_builtin; refine wpList_append_bytes rfl (.tmp 7) (.tmp 10) rfl (w.heap.size + 1) _ 1 _ rfl O1.out _ 4 _ _ rfl hb1 (by omega) (by have := A1.lt; omega) ?_; intro v2 w2 own2 g2; have A2 := A1.below g2 (by omega); have t2 := t1.trans (g2.mono (by omega)); have x2 := A2.cell; have O2 := Lib.hid own2; clear own2 g2 A1 t1 O1)
  refine (F2.out _).mono ?_
  rintro e w3 ⟨P2, rfl, hb2, b1⟩
  have A3 := A2.next b1
  have O3 := Lib.hid (O2.out.next b1)
  have t3 := Ext.trans t2 b1
  clear A2 O2 t2 b1 x2
  go_upto_if 19 with (at_builtin; refine wpList_append_bytes rfl (.tmp 12) (.tmp 15) rfl (w.heap.size + 1) _ 5 _ rfl O3.out _ 4 _ _ rfl hb2 (by omega) (by have := A3.lt; omega) ?_; intro v4 w4 own4 g4; have A4 := A3.below g4 (by omega); have t4 := t3.trans (g4.mono (by omega)); have x4 := A4.cell; have O4 := Lib.hid own4; clear own4 g4 A3 t3 O3)
  go_cut [4] (fun s4 wx => s4 = .int .i64 (lo : Int) ∧ wx = w4)
  case first =>
    rcases HLO.out with ⟨k1, k2⟩ | ⟨k1, k2⟩
    all_goals
      have H2 := Lib.hid k2
      clear k2
      go_wp2_with fail
      go_meet
      exact ⟨by rw [H2.out], rfl⟩
  case rest =>
    obtain ⟨rfl, rfl⟩ := hcut
    go_upto_if 23 with fail
    go_cut [5] (fun s5 wx => s5 = .int .i64 (opN op : Int) ∧ wx = wc)
    case first =>
      cases op
      · go_wp2_with fail
        go_meet
        exact ⟨rfl, rfl⟩
      · go_wp2_with fail
        go_meet
        exact ⟨rfl, rfl⟩
    case rest =>
      obtain ⟨rfl, rfl⟩ := hcut
      have O5 := Lib.hid (O4.out.next (Ext.alloc (Below.refl wc.heap.size wc) (.cells #[.int .u8 (m : Int), .int .u8 (c : Int), .int .u8 (r : Int), .int .u8 (l : Int), .int .u8 (me : Int), .int .u8 (lo : Int), .int .u8 (dn : Int), .int .u8 (opN op : Int)] 5)))
      have t5 := Ext.alloc t4 (.cells #[.int .u8 (m : Int), .int .u8 (c : Int), .int .u8 (r : Int), .int .u8 (l : Int), .int .u8 (me : Int), .int .u8 (lo : Int), .int .u8 (dn : Int), .int .u8 (opN op : Int)] 5)
      have B5 := Lib.hid (Bs.new wc #[.int .u8 (m : Int), .int .u8 (c : Int), .int .u8 (r : Int), .int .u8 (l : Int), .int .u8 (me : Int), .int .u8 (lo : Int), .int .u8 (dn : Int), .int .u8 (opN op : Int)] 5 (0, 0) 8 _ rfl H8.out)
      have l5 := A4.lt
      clear O4 t4 A4
      go_wp2_with (at_builtin; refine wpList_append_bytes rfl (.tmp 24) (.tmp 47) rfl (w.heap.size + 1) _ 9 _ rfl O5.out _ 8 _ _ rfl B5.out (by omega) (by simp; omega) ?_; intro v6 w6 own6 g6; have t6 := t5.trans (g6.mono (by omega)); obtain ⟨P6, c6, rfl, hb6⟩ := own6.bs; clear own6 g6 t5 O5 B5 x4)
      refine (rsealed_any P6 17 c6 _ (by omega) w6 hb6).mono ?_
      rintro e w7 ⟨g7, rfl, hb7, b7⟩
      have hraw : ([76] ++ le 4 id ++ le 4 ev ++ [UInt8.ofNat m, UInt8.ofNat c, UInt8.ofNat r, UInt8.ofNat l, UInt8.ofNat me, UInt8.ofNat lo, UInt8.ofNat dn, UInt8.ofNat (opN op)] : List UInt8) = bytesL (labRows id ev m c r l me lo dn op) := by simp [le, bytesL, labRows]
      rw [hraw] at hb7
      have HB7 : Hid (Bs w7 (some ⟨g7, 0, none⟩) 128 (labBlock id ev m c r l me lo dn op)) := hb7
      clear hb7
      go_wp2
      go_ret
      exact ⟨_, _, rfl, HB7.out, Ext.trans t6 b7⟩
end Go.Proofs.Ytiomgjfiiibllaa
