/- Layer 9 (label): Write. -/
import Derived.Test.YtgmlhfencidahaaLabel
import Derived.Test.YtgmlhfencidahaaLabel2
import Derived.Test.YtgmlhfencidahaaRowsL
namespace Go.Proofs.Ytgmlhfencidahaa
open Go Go.RowKit
set_option linter.unusedSimpArgs false
set_option linter.unusedVariables false

def lab (id ev m c r l me lo dn : Nat) (op : Bool) : Lab := ⟨id, ev, m, c, r, l, me, lostI lo, dn, op⟩
def labBlock (id ev m c r l me lo dn : Nat) (op : Bool) : List UInt8 := rowsBlock (labRows id ev m c r l me lo dn op)
theorem lab_cells (id ev m c r l me lo dn : Nat) (op : Bool) : (lab id ev m c r l me lo dn op).cells = #[.int .u32 (id : Int), .int .u32 (ev : Int), .int .i64 (m : Int), .int .i64 (c : Int), .int .i64 (r : Int), .int .i64 (l : Int), .int .i64 (me : Int), .int .i64 (lostI lo), .int .i64 (dn : Int), .bool op] := rfl
theorem lab_small {id ev m c r l me lo dn : Nat} {op : Bool} (h : (lab id ev m c r l me lo dn op).Ok) : m < 256 ∧ c < 256 ∧ r < 256 ∧ l < 256 ∧ me < 256 ∧ lo < 256 ∧ dn < 256 ∧ ev ≤ 2147483648 := by
  obtain ⟨hc, h1, h2, h3, h4, h5, h6, h7, h8⟩ := h
  have h9 := Cfg.cr hc
  have h10 := Cfg.bounds hc
  unfold lab Lab.cfg at *
  dsimp only at *
  unfold lostI at *
  generalize (c : Int) * (r : Int) = s at *
  split at h7 <;> omega
theorem lab_consec {id ev m c r l me lo dn : Nat} {op : Bool} (hi : id < 4294967296) (h : (lab id ev m c r l me lo dn op).Ok) : Consec 0 (labRows id ev m c r l me lo dn op) := by
  obtain ⟨h1, h2, h3, h4, h5, h6, h7, h8⟩ := lab_small h
  have h9 : opN op < 256 := by unfold opN; split <;> decide
  refine ⟨rfl, by simp, by simp, by show 76 < 256 ^ 1; decide, rfl, by simp, by simp, by show id < 256 ^ 4; omega, rfl, by simp, by simp, by show ev < 256 ^ 4; omega, rfl, by simp, by simp, by show m < 256 ^ 1; omega, rfl, by simp, by simp, by show c < 256 ^ 1; omega,
    rfl, by simp, by simp, by show r < 256 ^ 1; omega, rfl, by simp, by simp, by show l < 256 ^ 1; omega, rfl, by simp, by simp, by show me < 256 ^ 1; omega, rfl, by simp, by simp, by show lo < 256 ^ 1; omega, rfl, by simp, by simp, by show dn < 256 ^ 1; omega, rfl, by simp, by simp, by show opN op < 256 ^ 1; omega, trivial⟩
theorem labRows_len (id ev m c r l me lo dn : Nat) (op : Bool) : (labRows id ev m c r l me lo dn op).length = 11 := rfl
theorem labRows_size (id ev m c r l me lo dn : Nat) (op : Bool) : sizeL (labRows id ev m c r l me lo dn op) = 17 := rfl

theorem lcheck_bad (x : Lab) (hx : ¬ x.Ok) (w : World) : Calls Try.prog 30 #[.agg x.cells] w fun e w' => e = .returned (.int .i64 8) ∧ Below w.heap.size w w' := by
  by_cases hc : x.cfg.Ok
  · exact lcheck_rest x hc (fun h => hx ⟨hc, h⟩) w
  · exact lcheck_unfit x hc w

theorem lwrite_bad (x : Lab) (hx : ¬ x.Ok) (w : World) : Calls Try.prog 18 #[.agg x.cells] w fun e w' => e = .returned (.tuple #[.slice none 0 0, .int .i64 8]) ∧ Below w.heap.size w w' := by
  have HC := Lib.hid (lcheck_bad x hx)
  clear hx
  have hx : x.cells = #[.int .u32 (x.id : Int), .int .u32 (x.ev : Int), .int .i64 x.m, .int .i64 x.c, .int .i64 x.r, .int .i64 x.l, .int .i64 x.me, .int .i64 x.lost, .int .i64 x.dn, .bool x.op] := rfl
  generalize x.cells = C at *
  subst hx
  go_enter Try.func18, Try.ntmps18
  go_wp2_with fail
  have t0 := Ext.alloc (Below.refl w.heap.size w) (.cells #[.int .u32 (x.id : Int), .int .u32 (x.ev : Int), .int .i64 x.m, .int .i64 x.c, .int .i64 x.r, .int .i64 x.l, .int .i64 x.me, .int .i64 x.lost, .int .i64 x.dn, .bool x.op] 44)
  refine (HC.out _).mono ?_
  rintro e w1 ⟨rfl, b1⟩
  have t1 := Ext.trans t0 b1
  go_wp2
  go_ret2
  exact ⟨rfl, t1⟩

set_option maxRecDepth 100000 in
set_option maxHeartbeats 1000000 in
theorem lwrite_ok (id ev m c r l me lo dn : Nat) (op : Bool) (hi : id < 4294967296) (hok : (lab id ev m c r l me lo dn op).Ok) (w : World) :
    Calls Try.prog 18 #[.agg #[.int .u32 (id : Int), .int .u32 (ev : Int), .int .i64 (m : Int), .int .i64 (c : Int), .int .i64 (r : Int), .int .i64 (l : Int), .int .i64 (me : Int), .int .i64 (lostI lo), .int .i64 (dn : Int), .bool op]] w fun e w' => ∃ g, e = .returned (.tuple #[.slice (some ⟨g, 0, none⟩) 128 128, .int .i64 0]) ∧ w.heap.size ≤ g ∧ Box w' g (labBlock id ev m c r l me lo dn op) ∧ Below w.heap.size w w' := by
  have HC := lcheck_ok _ hok
  rw [lab_cells] at HC
  have HCK := Lib.hid HC
  clear HC
  have HF := Lib.hid (fields_any id ev m c r l me lo dn op hi (by have := (lab_small hok).2.2.2.2.2.2.2; omega))
  have hcon := lab_consec hi hok
  have hfit := consec_fits _ _ hcon
  have hend := consec_end _ _ hcon
  have hpad : putsL (labRows id ev m c r l me lo dn op) = pad (bytesL (labRows id ev m c r l me lo dn op)) := putsL_pad _ _ hcon (by rw [← labRows, labRows_size]; decide)
  have hsz := labRows_size id ev m c r l me lo dn op
  have hln := labRows_len id ev m c r l me lo dn op
  have hblk : labBlock id ev m c r l me lo dn op = sealL (putsL (labRows id ev m c r l me lo dn op)) := by rw [hpad]; rfl
  rw [hblk]
  rw [hsz] at hend
  clear hcon hok hsz hpad hblk
  generalize labRows id ev m c r l me lo dn op = rows at *
  generalize hLd : putsL rows = L
  have HLD := Lib.hid hLd
  clear hLd
  go_enter Try.func18, Try.ntmps18
  go_wp2_with fail
  have A0 := BoxOf.new w #[.int .u32 (id : Int), .int .u32 (ev : Int), .int .i64 (m : Int), .int .i64 (c : Int), .int .i64 (r : Int), .int .i64 (l : Int), .int .i64 (me : Int), .int .i64 (lostI lo), .int .i64 (dn : Int), .bool op] 44
  have t0 := Ext.alloc (Below.refl w.heap.size w) (.cells #[.int .u32 (id : Int), .int .u32 (ev : Int), .int .i64 (m : Int), .int .i64 (c : Int), .int .i64 (r : Int), .int .i64 (l : Int), .int .i64 (me : Int), .int .i64 (lostI lo), .int .i64 (dn : Int), .bool op] 44)
  refine (HCK.out _).mono ?_
  rintro e w1 ⟨rfl, b1⟩
  have A1 := A0.next b1
  have t1 := Ext.trans t0 b1
  have x1 := A1.cell
  clear A0 t0 b1
  go_wp2_with fail
  refine (HF.out _).mono ?_
  rintro e w2 ⟨g, q, rfl, hc2, b2⟩
  have t2 := Ext.trans t1 b2
  have HC2 := Lib.hid hc2
  clear hc2 A1 t1 x1 b2
  have HFIT := Lib.hid hfit
  have HEND := Lib.hid hend
  clear hfit hend
  go_wp2
  go_loopw [2, 3, 15] (fun b e i wr => ∃ (k : Nat) (A : Option Addr) (n q : Nat), k ≤ 11 ∧ i = .int .i64 k ∧ e = .int .i64 0 ∧ b = .slice A n q ∧ Bs wr A n (putsL (rows.take k)) ∧ (n = 0 ∨ n = 128) ∧ (0 < k → n = 128 ∧ q = 128 ∧ ∃ g, A = some ⟨g, 0, none⟩) ∧ Below w.heap.size w wr ∧ Below w2.heap.size w2 wr) (fun _ _ i _ => 11 - (intOf i).toNat)
  case atStart => exact ⟨0, none, 0, 0, by omega, rfl, rfl, rfl, Bs.nil _ _, .inl rfl, by omega, t2, Below.refl _ _⟩
  case round =>
    obtain ⟨k, A, n, q2, hk, rfl, rfl, rfl, hb, hn, hpos, bw, bw2⟩ := hrel
    by_cases hlt : k < 11
    · have hkl : k < rows.length := by rw [hln]; exact hlt
      have hsucc := putsL_succ rows k hkl
      unfold putR at hsucc
      obtain ⟨q0, q1, q3⟩ := HC2.out k hkl
      have q0' := (bw2.cell (p := _) (block_lt_of_cell q0)).trans q0
      have q1' := (bw2.cell (p := _) (block_lt_of_cell q1)).trans q1
      have q3' := (bw2.cell (p := _) (block_lt_of_cell q3)).trans q3
      have f1 := HFIT.out _ (List.getElem_mem hkl)
      have f2 := HEND.out _ (List.getElem_mem hkl)
      obtain ⟨f11, f12, f13⟩ := f1
      clear q0 q1 q3 hpos
      generalize rows[k] = ro at *
      generalize ro.1 = x at *
      generalize ro.2.1 = p at *
      generalize ro.2.2 = z at *
      have HS := Lib.hid hsucc
      have F13 := Lib.hid f13
      have F2 := Lib.hid f2
      have HN := Lib.hid hn
      have HBB := Lib.hid (hb.alloc (.cells #[.int .i64 (x : Int), .int .i64 (p : Int), .int .i64 (z : Int)] 66))
      have T1 := Ext.alloc bw (.cells #[.int .i64 (x : Int), .int .i64 (p : Int), .int .i64 (z : Int)] 66)
      have T2 := Ext.alloc bw2 (.cells #[.int .i64 (x : Int), .int .i64 (p : Int), .int .i64 (z : Int)] 66)
      clear hsucc f13 f2 hn hb
      go_wp2_with fail
      refine (put_ok A n q2 _ HN.out p z x ⟨f11, f12⟩ (by have := F2.out; omega) F13.out _ HBB.out).mono ?_
      rintro e w3 ⟨g3, rfl, hg3, HB3, b3⟩
      have hb3 := HB3.bs
      clear HB3
      go_wp2
      go_roundw
      case rel => exact ⟨k + 1, some ⟨g3, 0, none⟩, 128, 128, by omega, by go_num, rfl, rfl, by rw [HS.out]; exact hb3, .inr rfl, fun _ => ⟨rfl, rfl, g3, rfl⟩, Ext.trans T1 b3, Ext.trans T2 b3⟩
      case measure => simp [intOf]; omega
    · have hk' : k = 11 := by omega
      obtain ⟨rfl, rfl, g', rfl⟩ := hpos (by omega)
      have htk : rows.take k = rows := by rw [hk', ← hln]; exact List.take_length
      rw [htk, HLD.out] at hb
      have hL : L.length = 128 := hb.1
      have hsum : Crc.sum (L.take 124) < 256 ^ 4 := Crc.sum_lt _
      have HSM := Lib.hid hsum
      have q1 : IntKind.i64.wrap ((Crc.sum (L.take 124) : Nat) : Int) = ((Crc.sum (L.take 124) : Nat) : Int) := IntWalk.i64_in _ (by have := Crc.sum_lt (L.take 124); omega)
      have Q1 := Lib.hid q1
      have HK := Lib.hid hk'
      clear q1 hsum htk hn hk'
      go_wp2_with fail
      refine (sum_any _ 124 _ (L.take 124) _ (hb.first' 124 (by omega)) (by omega)).mono ?_
      rintro e w4 ⟨rfl, b4⟩
      have hb4 := hb.below b4
      have t4 := Ext.trans bw b4
      have q1 := Q1.out
      clear hb b4
      go_wp2_with fail
      clear q1
      refine (put_ok (some ⟨g', 0, none⟩) 128 128 L (.inr rfl) 124 4 (Crc.sum (L.take 124)) (by omega) (by omega) HSM.out _ hb4).mono ?_
      rintro e w5 ⟨g5, rfl, hg5, HB5, b5⟩
      rw [wholeL_full hL] at HB5
      have HB6 : Box w5 g5 (sealL L) := by unfold sealL; exact HB5
      have HB7 := Lib.hid HB6
      clear HB5 HB6
      have hsz := t4.size
      go_wp2
      go_ret2
      exact ⟨g5, rfl, by omega, HB7.out, Ext.trans t4 b5⟩
end Go.Proofs.Ytgmlhfencidahaa
