/- The statements of layer 1 (poly) that write: PolyTurns, PolyThree: their walks. -/
import Derived.Test.YtnlabkkodilppaaPolyLaws
import Derived.Test.YtnlabkkodilppaaTurned
namespace Go.Proofs.Ytnlabkkodilppaa
open Go.RowKit

def four (y0 y1 y2 y3 : UInt8) : Value := .agg #[.int .u8 y0.toNat, .int .u8 y1.toNat, .int .u8 y2.toNat, .int .u8 y3.toNat]
set_option maxRecDepth 100000 in
theorem eq_nought4 (y0 y1 y2 y3 : UInt8) (w : World) : (Op.equalIn 10000 29 (.agg #[.int .u8 y0.toNat, .int .u8 y1.toNat, .int .u8 y2.toNat, .int .u8 y3.toNat]) (.agg #[.int .u8 0, .int .u8 0, .int .u8 0, .int .u8 0])).run Try.prog w =
    .ok (decide (y0 = 0 ∧ y1 = 0 ∧ y2 = 0 ∧ y3 = 0)) w := by
  obtain ⟨i0, hi, _, hz1, _⟩ := info_parts info_u8
  have h := run_eq_arr4 w 9998 29 5 i0 .u8 (y0.toNat : Int) y1.toNat y2.toNat y3.toNat 0 0 0 0 Try.underlying29 Try.underlying5 hi hz1
  simp only [Nat.reduceAdd] at h
  rw [h]
  congr 1
  have e : ∀ y : UInt8, ((y.toNat : Int) == 0) = decide (y = 0) := by
    intro y
    rw [Bool.eq_iff_iff]
    simp only [beq_iff_eq, decide_eq_true_eq]
    rw [← UInt8.toNat_inj]
    simp
  simp only [e, Bool.decide_and]

set_option maxRecDepth 100000 in
theorem polyTurns_walk' (w : World) (A : Option Addr) (n c : Nat) (bs : List UInt8) (hb : Bs w A n bs) (a : Int) (y0 y1 y2 y3 : UInt8) :
    Calls Try.prog 6 #[.slice A n c, .int .i64 a, .agg #[.int .u8 y0.toNat, .int .u8 y1.toNat, .int .u8 y2.toNat, .int .u8 y3.toNat]] w fun e w' => e = .returned (.bool true) ∧ Below w.heap.size w w' := by
  obtain ⟨i0, hi, hz0, hz1, hz2⟩ := info_parts info_u8
  by_cases hbad : 10000 < n ∨ a < 0 ∨ (n : Int) - 4 < a ∨ (y0 = 0 ∧ y1 = 0 ∧ y2 = 0 ∧ y3 = 0)
  · have HB := Lib.hid hbad
    clear hbad
    go_enter Try.func6, Try.ntmps6
    go_wp2_with fail
    refine (palive_any _).mono ?_
    rintro e w1 ⟨rfl, b1⟩
    have c0 : w1.cell? ⟨w.heap.size, 0, none⟩ = some (.int .u8 y0.toNat) := (b1.cell (p := ⟨w.heap.size, 0, none⟩) (by simp)).trans (by simp)
    have c1 : w1.cell? ⟨w.heap.size, 1, none⟩ = some (.int .u8 y1.toNat) := (b1.cell (p := ⟨w.heap.size, 1, none⟩) (by simp)).trans (by simp)
    have c2 : w1.cell? ⟨w.heap.size, 2, none⟩ = some (.int .u8 y2.toNat) := (b1.cell (p := ⟨w.heap.size, 2, none⟩) (by simp)).trans (by simp)
    have c3 : w1.cell? ⟨w.heap.size, 3, none⟩ = some (.int .u8 y3.toNat) := (b1.cell (p := ⟨w.heap.size, 3, none⟩) (by simp)).trans (by simp)
    have heq := eq_nought4 y0 y1 y2 y3 w1
    have hfin : Below w.heap.size w w1 := Ext.trans (Ext.alloc (Below.refl _ _) _) b1
    by_cases hy : y0 = 0 ∧ y1 = 0 ∧ y2 = 0 ∧ y3 = 0
    · rw [decide_eq_true hy] at heq
      clear hy HB
      go_wp2
      all_goals (go_ret; exact ⟨rfl, hfin⟩)
    · rcases HB.out with h | h | h | h
      · clear HB; go_wp2; all_goals (go_ret; exact ⟨rfl, hfin⟩)
      · clear HB; go_wp2; all_goals (go_ret; exact ⟨rfl, hfin⟩)
      · clear HB; go_wp2; all_goals (go_ret; exact ⟨rfl, hfin⟩)
      · exact absurd h hy
  · have hy : ¬ (y0 = 0 ∧ y1 = 0 ∧ y2 = 0 ∧ y3 = 0) := fun h => hbad (.inr (.inr (.inr h)))
    have hle : n ≤ 10000 := by omega
    have ha0 : 0 ≤ a := by omega
    have ha4 : a ≤ (n : Int) - 4 := by omega
    clear hbad
    obtain ⟨p, rfl⟩ := Int.eq_ofNat_of_zero_le ha0
    have hp4 : p + 4 ≤ n := by omega
    have hsum := turned_sum bs [y0, y1, y2, y3] p (by rw [hb.1]; exact hp4) y0 y1 y2 y3 rfl hy
    have hne : (((Crc.sum (turned bs [y0, y1, y2, y3] p 4) : Nat) : Int) != ((Crc.sum bs : Nat) : Int)) = true := by
      rw [bne_iff_ne]
      omega
    clear hsum
    go_enter Try.func6, Try.ntmps6
    go_wp2_with fail
    refine (palive_any _).mono ?_
    rintro e w1 ⟨rfl, b1⟩
    have c0 : w1.cell? ⟨w.heap.size, 0, none⟩ = some (.int .u8 y0.toNat) := (b1.cell (p := ⟨w.heap.size, 0, none⟩) (by simp)).trans (by simp)
    have c1 : w1.cell? ⟨w.heap.size, 1, none⟩ = some (.int .u8 y1.toNat) := (b1.cell (p := ⟨w.heap.size, 1, none⟩) (by simp)).trans (by simp)
    have c2 : w1.cell? ⟨w.heap.size, 2, none⟩ = some (.int .u8 y2.toNat) := (b1.cell (p := ⟨w.heap.size, 2, none⟩) (by simp)).trans (by simp)
    have c3 : w1.cell? ⟨w.heap.size, 3, none⟩ = some (.int .u8 y3.toNat) := (b1.cell (p := ⟨w.heap.size, 3, none⟩) (by simp)).trans (by simp)
    have heq := eq_nought4 y0 y1 y2 y3 w1
    rw [decide_eq_false hy] at heq
    have hfin : Below w.heap.size w w1 := Ext.trans (Ext.alloc (Below.refl _ _) _) b1
    have hb1 := hb.below hfin
    have hz := b1.size
    simp at hz
    go_wp2_with (first
      | (at_builtin; refine wpList_append_rd _ rfl (.const (.slice none 0 0)) (.tmp 31) _ rfl (w.heap.size + 1) 5 i0 _ 1 1 Try.underlying26 hi hz0 hz1 hz2 rfl (by omega) (.slice none 0 0) 0 [] rfl (World.ownsRow_nil _ _ _ _) A n c (bs.map byteV) rfl (by simpa using hb1.1) hb1.2 (byteV_one _) (by unfold maxLen; omega) (by omega) (by omega) ?_; intro v1 w2 own1 g1 at1; simp only [Nat.zero_add, List.nil_append] at own1))
    have hn0 : 0 < n := by omega
    obtain ⟨g, cap, hv, hgb, hglt⟩ := own1.form hn0
    subst hv
    have b2 : Below (w.heap.size + 1) w1 w2 := Below.grown (Below.refl _ _) g1 (by omega) (by simp [Value.ownBlock])
    clear heq g1 at1
    have d0 := (b2.cell (p := ⟨w.heap.size, 0, none⟩) (by simp)).trans c0
    have d1 := (b2.cell (p := ⟨w.heap.size, 1, none⟩) (by simp)).trans c1
    have d2 := (b2.cell (p := ⟨w.heap.size, 2, none⟩) (by simp)).trans c2
    have d3 := (b2.cell (p := ⟨w.heap.size, 3, none⟩) (by simp)).trans c3
    have hys : ∀ k, k < 4 → w2.cell? ⟨w.heap.size, k, none⟩ = some (.int .u8 (([y0, y1, y2, y3].getD k 0).toNat : Int)) := by
      intro k hk
      rcases k with _ | _ | _ | _ | k
      · exact d0
      · exact d1
      · exact d2
      · exact d3
      · omega
    have b2' : Below w.heap.size w w2 := hfin.trans (b2.mono (by omega))
    clear c0 c1 c2 c3 d0 d1 d2 d3 b2 b1
    have HY := Lib.hid hys
    clear hys hne
    go_loopw [9] (fun i wr => ∃ k : Nat, k ≤ 4 ∧ i = .int .i64 k ∧ wr.ownsRow (w.heap.size + 1) 5 1 (.slice (some ⟨g, 0, none⟩) n cap) n ((turned bs [y0, y1, y2, y3] p k).map byteV) ∧ Below (w.heap.size + 1) w2 wr) (fun i _ => 4 - (intOf i).toNat)
    case atStart => exact ⟨0, by omega, rfl, own1, Below.refl _ _⟩
    case round =>
      obtain ⟨k, hk, rfl, own, bw⟩ := hrel
      by_cases hk4 : k < 4
      · have hlen : (turned bs [y0, y1, y2, y3] p k).length = n := by rw [turned_length, hb.1]
        have cy := (bw.cell (p := ⟨w.heap.size, k, none⟩) (by simp)).trans (HY.out k hk4)
        have cz : wr.cell? ⟨g, p + k, none⟩ = some (.int .u8 (((turned bs [y0, y1, y2, y3] p k).getD (p + k) 0).toNat : Int)) := by
          rw [own.cellAt (p + k) (by omega)]
          simp [byteV, show p + k < (turned bs [y0, y1, y2, y3] p k).length by omega]
        have fz := own.frozenAt (p + k)
        have hx := u8_xor_b ((turned bs [y0, y1, y2, y3] p k).getD (p + k) 0) ([y0, y1, y2, y3].getD k 0)
        have st := own.stored (p + k) (byteV ((turned bs [y0, y1, y2, y3] p k).getD (p + k) 0 ^^^ [y0, y1, y2, y3].getD k 0))
        rw [← List.map_set] at st
        have OWN : Hid ((wr.setCell ⟨g, p + k, none⟩ (byteV ((turned bs [y0, y1, y2, y3] p k).getD (p + k) 0 ^^^ [y0, y1, y2, y3].getD k 0))).ownsRow (w.heap.size + 1) 5 1 (.slice (some ⟨g, 0, none⟩) n cap) n ((turned bs [y0, y1, y2, y3] p (k + 1)).map byteV)) := st.1
        clear st own own1
        generalize (turned bs [y0, y1, y2, y3] p k).getD (p + k) 0 = b at cz hx OWN
        generalize [y0, y1, y2, y3].getD k 0 = y at cy hx OWN
        generalize b ^^^ y = z at hx OWN
        have hwn : w.heap.size < wr.heap.size := by have := bw.size; omega
        go_wp2
        go_region
        go_wp2
        go_roundw
        case rel => exact ⟨k + 1, by omega, by go_num, OWN.out.drew, (bw.setCell (by simpa using hgb) _).drew⟩
        case measure => simp [intOf]; omega
      · have hk' : k = 4 := by omega
        have H := Lib.hid hk'
        have bt : Below w.heap.size w wr := b2'.trans (bw.mono (by omega))
        have hbr := hb.below bt
        rw [hk'] at own
        have hd := Bs.of_ownS own
        have hsum := turned_sum bs [y0, y1, y2, y3] p (by rw [hb.1]; exact hp4) y0 y1 y2 y3 rfl hy
        have hne : (((Crc.sum (turned bs [y0, y1, y2, y3] p 4) : Nat) : Int) != ((Crc.sum bs : Nat) : Int)) = true := by
          rw [bne_iff_ne]
          omega
        clear hk' own own1 hsum hy
        go_wp2_with fail
        refine (sum_any _ _ _ _ _ hd (by omega)).mono ?_
        rintro e w4 ⟨rfl, b4⟩
        go_wp2_with fail
        refine (sum_any _ _ _ bs _ (hbr.below b4) (by omega)).mono ?_
        rintro e w5 ⟨rfl, b5⟩
        go_wp2
        go_ret
        exact ⟨rfl, Ext.trans (Ext.trans bt b4) b5⟩

theorem arr4_open {w : World} {cs : List Value} {xs : List UInt8} (h : Reads w (.arr 4 .byte) xs cs) : ∃ y0 y1 y2 y3 : UInt8, xs = [y0, y1, y2, y3] ∧ cs.toArray = #[.int .u8 y0.toNat, .int .u8 y1.toNat, .int .u8 y2.toNat, .int .u8 y3.toNat] := by
  obtain ⟨hl, hc, hr⟩ := reads_arr.1 h
  match xs, hl with
  | [y0, y1, y2, y3], _ =>
    match cs, hc with
    | [c0, c1, c2, c3], _ =>
      have h0 : _ = [byteV y0] := reads_byte.1 (hr 0 (show 0 < 4 by decide))
      have h1 : _ = [byteV y1] := reads_byte.1 (hr 1 (show 1 < 4 by decide))
      have h2 : _ = [byteV y2] := reads_byte.1 (hr 2 (show 2 < 4 by decide))
      have h3 : _ = [byteV y3] := reads_byte.1 (hr 3 (show 3 < 4 by decide))
      simp [Ty.size, byteV] at h0 h1 h2 h3
      refine ⟨y0, y1, y2, y3, rfl, ?_⟩
      rw [h0, h1, h2, h3]

theorem polyTurns_walk (w : World) (v0 : Value) (bs : (Ty.sl .byte).T) (h0 : Reads w (.sl .byte) bs [v0]) (v1 : Value) (a : Ty.int.T) (h1 : Reads w .int a [v1]) (cs : List Value) (ys : (Ty.arr 4 .byte).T) (h2 : Reads w (.arr 4 .byte) ys cs) :
    Calls Try.prog 6 #[v0, v1, .agg cs.toArray] w fun e w' => e = .returned (.bool true) ∧ Below w.heap.size w w' := by
  obtain ⟨A, c, rfl, _, _, hb⟩ := one_bytes h0
  obtain ⟨rfl, _⟩ := one_int h1
  obtain ⟨y0, y1, y2, y3, _, hc⟩ := arr4_open h2
  rw [hc]
  exact polyTurns_walk' w A _ c bs hb a y0 y1 y2 y3

/-! ### three texts -/
def xor3 (xs ys zs : List UInt8) (k : Nat) : List UInt8 := (List.zipWith (· ^^^ ·) (List.zipWith (· ^^^ ·) xs ys) zs).take k
end Go.Proofs.Ytnlabkkodilppaa
