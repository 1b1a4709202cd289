/- The statement PackBack of layer 2 (pack): its walk. -/
import Derived.Test.YthacmidffcmneaaPackLaws2
import Derived.BigQuiet
namespace Go.Proofs.Ythacmidffcmneaa
open Go.RowKit

/-- a block's byte, none being one of noughts -/
theorem at_any (A : Option Addr) (n c : Nat) (bs : List UInt8) (i v : Nat) (w : World) (hb : Bs w A n bs) (hv : (bs.getD i 0).toNat = v) :
    Calls Try.prog 14 #[.slice A n c, .int .i64 i] w fun e w' => e = .returned (.int .u8 v) ∧ w = w' := by
  by_cases h : i < n
  · obtain ⟨b, off, rfl, _, hc⟩ := hb.addr (by omega)
    have hc := hc i (by rw [hb.1]; exact h)
    have e : (bs.getD i 0).toNat = (bs[i]'(by rw [hb.1]; exact h)).toNat := by simp [show i < bs.length by rw [hb.1]; exact h]
    rw [← e, hv] at hc
    clear e hv hb
    go_enter Try.func14, Try.ntmps14
    go_wp2
    go_ret
    exact ⟨rfl, rfl⟩
  · have e : v = 0 := by
      rw [← hv, List.getD_eq_getElem?_getD, List.getElem?_eq_none (by rw [hb.1]; omega)]
      rfl
    subst e
    clear hb hv
    go_enter Try.func14, Try.ntmps14
    go_wp2
    go_ret
    exact ⟨rfl, rfl⟩

theorem at_same (A : Option Addr) (n c : Nat) (bs : List UInt8) (i v : Nat) (w : World) (hb : Bs w A n bs) (hv : (bs.getD i 0).toNat = v) :
    Calls Try.prog 14 #[.slice A n c, .int .i64 i] w fun e w' => e = .returned (.int .u8 v) ∧ w' = w :=
  (at_any A n c bs i v w hb hv).mono fun _ _ h => ⟨h.1, h.2.symm⟩
theorem back_many (w : World) (A : Option Addr) (n c : Nat) (p k x : Int) (hn : 1000 < n) :
    Calls Try.prog 5 #[.slice A n c, .int .i64 p, .int .i64 k, .int .i64 x] w fun e w' => e = .returned (.bool true) ∧ Below w.heap.size w w' := by
  go_enter Try.func5, Try.ntmps5
  go_wp2_with fail
  refine (kalive_any _).mono ?_
  rintro e w1 ⟨rfl, b1⟩
  go_wp2
  go_ret
  exact ⟨rfl, b1⟩
theorem back_text (w : World) (A : Option Addr) (n c : Nat) (p k x : Int) (h0 : n ≠ 0) (h1 : n ≠ 128) (hn : n ≤ 1000) :
    Calls Try.prog 5 #[.slice A n c, .int .i64 p, .int .i64 k, .int .i64 x] w fun e w' => e = .returned (.bool true) ∧ Below w.heap.size w w' := by
  go_enter Try.func5, Try.ntmps5
  go_wp2_with fail
  refine (kalive_any _).mono ?_
  rintro e w1 ⟨rfl, b1⟩
  go_wp2_with fail
  refine (put_text _ _ _ _ _ _ h0 h1 _).mono ?_
  rintro e w2 ⟨rfl, b2⟩
  go_wp2
  go_ret
  exact ⟨rfl, Ext.trans b1 b2⟩
theorem back_arg (w : World) (A : Option Addr) (n c : Nat) (bs : List UInt8) (hn : n = 0 ∨ n = 128) (p k x : Int) (hr : Refused p k x) (hb : Bs w A n bs) :
    Calls Try.prog 5 #[.slice A n c, .int .i64 p, .int .i64 k, .int .i64 x] w fun e w' => e = .returned (.bool true) ∧ Below w.heap.size w w' := by
  have HR := Lib.hid hr
  have HN := Lib.hid hn
  have hle : n ≤ 128 := by omega
  clear hr hn
  go_enter Try.func5, Try.ntmps5
  go_wp2_with fail
  refine (kalive_any _).mono ?_
  rintro e w1 ⟨rfl, b1⟩
  go_wp2_with fail
  refine (put_arg _ _ _ bs HN.out _ _ _ HR.out _ (hb.below b1)).mono ?_
  rintro e w2 ⟨rfl, b2⟩
  go_wp2
  go_ret
  exact ⟨rfl, Ext.trans b1 b2⟩

theorem Box.cell {w : World} {g : Nat} {l : List UInt8} (h : Box w g l) (j : Nat) (hj : j < 128) (v : Nat) (hv : (l.getD j 0).toNat = v) : w.cell? ⟨g, j, none⟩ = some (.int .u8 (v : Int)) := by
  rw [h.own.cellAt j hj, ← hv]
  simp [byteV, show j < l.length by rw [h.2]; exact hj]

theorem below_drewN {B : Nat} {w w' : World} (h : Below B w w') (q : Nat) : Below B w (w'.drewN q) := ⟨h.os, h.tape, h.output, h.size, h.block⟩

set_option maxRecDepth 100000 in
set_option maxHeartbeats 1000000 in
theorem back_ok (w : World) (A : Option Addr) (n c : Nat) (bs : List UInt8) (hn : n = 0 ∨ n = 128) (p k x : Nat) (hk : 1 ≤ k ∧ k ≤ 4) (hp : p + k ≤ 128) (hx : x < 256 ^ k) (hb : Bs w A n bs) :
    Calls Try.prog 5 #[.slice A n c, .int .i64 p, .int .i64 k, .int .i64 x] w fun e w' => e = .returned (.bool true) ∧ Below w.heap.size w w' := by
  have hlen := wholeL_len hb.1 hn
  have HX := Lib.hid hx
  have HN := Lib.hid hn
  have hle : n ≤ 128 := by omega
  clear hn hx
  go_enter Try.func5, Try.ntmps5
  go_wp2_with fail
  refine (kalive_any _).mono ?_
  rintro e w1 ⟨rfl, b1⟩
  go_wp2_with fail
  refine (put_ok _ _ _ bs HN.out p k x hk hp HX.out _ (hb.below b1)).mono ?_
  rintro e w2 ⟨g, rfl, hg, bx, b2⟩
  have htk : takeN (wholeL (putL (wholeL bs) p k x)) p k = x := by
    rw [wholeL_full (by rw [putL_len]; exact hlen), takeN_put _ _ _ _ (by omega) HX.out]
  have hglt := bx.lt
  have hbs2 := bx.bs
  have HTK := Lib.hid htk
  clear htk
  go_wp2_with fail
  refine (take_ok (some ⟨g, 0, none⟩) 128 128 _ (.inr rfl) p k hk hp _ hbs2).mono ?_
  rintro e w3 ⟨he, b3⟩
  rw [HTK.out] at he
  subst he
  have BX := Lib.hid (bx.below b3 hglt)
  have bt := Ext.trans (Ext.trans b1 b2) b3
  have BT := Lib.hid bt
  have HB := Lib.hid (hb.below bt)
  have hglt3 := Nat.lt_of_lt_of_le hglt b3.size
  clear hb hbs2 bx bt b1 b2 b3 hglt hg HTK
  go_wp2_with fail
  go_loopw [14] (fun i wr => ∃ j : Nat, j ≤ 128 ∧ i = .int .i64 j ∧ Below w3.heap.size w3 wr) (fun i _ => 128 - (intOf i).toNat)
  case atStart => exact ⟨0, by omega, rfl, Below.refl _ _⟩
  case round =>
    obtain ⟨j, hj, rfl, bw⟩ := hrel
    by_cases hlt : j < 128
    · have hbr : Bs wr A n bs := HB.out.below bw
      have BW := Lib.hid bw
      have hv1 : ∃ v, ((putL (wholeL bs) p k x).getD j 0).toNat = v := ⟨_, rfl⟩
      have hv2 : ∃ u, (bs.getD j 0).toNat = u := ⟨_, rfl⟩
      obtain ⟨v, hv⟩ := hv1
      obtain ⟨u, hu⟩ := hv2
      have hcell := (BX.out.below bw hglt3).cell j hlt v hv
      have hdrb : ∀ (X : World) (q : Nat), Bs X A n bs → Bs (X.drewN q) A n bs := fun X q h => h
      have HDB := Lib.hid hdrb
      have i1 : (0 : Int) ≤ (j : Int) := by omega
      have i2 : (j : Int) < 128 := by omega
      have hout : (¬ j < p ∧ ¬ p + k ≤ j ∧ decide (j < p) = false ∧ decide (p + k ≤ j) = false ∧ ((p : Int) + (k : Int) ≤ (j : Int)) = False) ∨ (j < p ∧ decide (j < p) = true ∧ v = u) ∨ (¬ j < p ∧ p + k ≤ j ∧ decide (j < p) = false ∧ decide (p + k ≤ j) = true ∧ ((p : Int) + (k : Int) ≤ (j : Int)) = True ∧ v = u) := by
        simp only [decide_eq_true_eq, decide_eq_false_iff_not, eq_iff_iff, iff_false, iff_true]
        by_cases h1 : p ≤ j ∧ j < p + k
        · exact .inl (by omega)
        · have : v = u := by
            rw [← hv, ← hu, getD_putL _ _ _ _ (by omega), if_neg h1, getD_whole]
          omega
      have hwr : IntKind.i64.wrap ((p : Int) + (k : Int)) = (p : Int) + (k : Int) := by
        simp [IntKind.wrap, IntKind.bits, IntKind.signed]
        omega
      have hng : w.heap.size ≤ w3.heap.size := BT.out.size
      clear hdrb bw hv
      rcases hout with ⟨h1, h2, d1, d2, d3⟩ | ⟨h1, d1, rfl⟩ | ⟨h1, h2, d1, d2, d3, rfl⟩
      all_goals
        go_wp2
        go_quiet (first | (go_at_call 14; refine Calls.quiet_of_same (at_same _ _ _ bs j _ _ (HDB.out _ _ hbr) hu)))
        go_wp2
        exact ⟨⟨j + 1, by omega, by go_num, below_drewN BW.out _⟩, by simp [intOf]; omega⟩
    · have hj' : j = 128 := by omega
      subst hj'
      have bt2 := Ext.trans BT.out bw
      have hbr : Bs wr A n bs := HB.out.below bw
      have bxr := BX.out.below bw hglt3
      have hgr := Nat.lt_of_lt_of_le hglt3 bw.size
      have BT2 := Lib.hid bt2
      clear bt2 bw
      go_wp2_with fail
      refine (take_ok A n c bs HN.out p k hk hp _ hbr).mono ?_
      rintro e w4 ⟨rfl, b4⟩
      have hbr4 := hbr.below b4
      have bx4 := bxr.below b4 hgr
      have htlt := takeN_lt (wholeL bs) p k
      have hpt : putL (wholeL (putL (wholeL bs) p k x)) p k (takeN (wholeL bs) p k) = wholeL bs := by
        rw [wholeL_full (by rw [putL_len]; exact hlen)]
        exact put_take (wholeL bs) p k x (by omega)
      have HT := Lib.hid hpt
      have HTL := Lib.hid htlt
      clear hbr bxr hpt htlt
      generalize takeN (wholeL bs) p k = was at HT HTL ⊢
      go_wp2_with fail
      refine (put_ok (some ⟨g, 0, none⟩) 128 128 _ (.inr rfl) p k was hk hp HTL.out _ bx4.bs).mono ?_
      rintro e w5 ⟨g5, rfl, hg5, bx5, b5⟩
      rw [HT.out] at bx5
      have lt5 := bx5.lt
      have BX5 := Lib.hid bx5
      have HB5 := Lib.hid (hbr4.below b5)
      have BT5 := Lib.hid (Ext.trans (Ext.trans BT2.out b4) b5)
      clear bx5 bx4 hbr4 b4 b5 hg5 hgr HT HTL BT2 HB BX BT
      go_wp2_with fail
      go_loopw [19] (fun i wr => ∃ j : Nat, j ≤ 128 ∧ i = .int .i64 j ∧ Below w5.heap.size w5 wr) (fun i _ => 128 - (intOf i).toNat)
      case atStart => exact ⟨0, by omega, rfl, Below.refl _ _⟩
      case round =>
        obtain ⟨j, hj, rfl, bw⟩ := hrel
        by_cases hlt : j < 128
        · have hbr : Bs wr A n bs := HB5.out.below bw
          have BW := Lib.hid bw
          have hv2 : ∃ u, (bs.getD j 0).toNat = u := ⟨_, rfl⟩
          obtain ⟨u, hu⟩ := hv2
          have hcell := (BX5.out.below bw lt5).cell j hlt u (by rw [getD_whole, hu])
          have hdrb : ∀ (X : World) (q : Nat), Bs X A n bs → Bs (X.drewN q) A n bs := fun X q h => h
          have HDB := Lib.hid hdrb
          have i1 : (0 : Int) ≤ (j : Int) := by omega
          have i2 : (j : Int) < 128 := by omega
          clear hdrb bw
          go_wp2
          go_quiet (first | (go_at_call 14; refine Calls.quiet_of_same (at_same _ _ _ bs j _ _ (HDB.out _ _ hbr) hu)))
          go_wp2
          exact ⟨⟨j + 1, by omega, by go_num, below_drewN BW.out _⟩, by simp [intOf]; omega⟩
        · have hj' : j = 128 := by omega
          subst hj'
          go_wp2
          go_ret
          exact ⟨rfl, Ext.trans BT5.out bw⟩

theorem packBack_walk' (w : World) (A : Option Addr) (n c : Nat) (bs : List UInt8) (hb : Bs w A n bs) (p k x : Int) :
    Calls Try.prog 5 #[.slice A n c, .int .i64 p, .int .i64 k, .int .i64 x] w fun e w' => e = .returned (.bool true) ∧ Below w.heap.size w w' := by
  by_cases hn : n = 0 ∨ n = 128
  · rcases refused_or p k x with hr | ⟨q, m, y, rfl, rfl, rfl, hk, hp, hy⟩
    · exact back_arg w A n c bs hn p k x hr hb
    · exact back_ok w A n c bs hn q m y hk hp hy hb
  · by_cases hm : n ≤ 1000
    · exact back_text w A n c p k x (by omega) (by omega) hm
    · exact back_many w A n c p k x (by omega)
theorem packBack_walk (w : World) (v0 : Value) (bs : (Ty.sl .byte).T) (h0 : Reads w (.sl .byte) bs [v0]) (v1 : Value) (p : Ty.int.T) (h1 : Reads w .int p [v1]) (v2 : Value) (k : Ty.int.T) (h2 : Reads w .int k [v2]) (v3 : Value) (x : Ty.int.T) (h3 : Reads w .int x [v3]) :
    Calls Try.prog 5 #[v0, v1, v2, v3] w fun e w' => e = .returned (.bool true) ∧ Below w.heap.size w w' := by
  obtain ⟨A, c, rfl, _, _, hb⟩ := one_bytes h0
  obtain ⟨rfl, _⟩ := one_int h1
  obtain ⟨rfl, _⟩ := one_int h2
  obtain ⟨rfl, _⟩ := one_int h3
  exact packBack_walk' w A _ c bs hb p k x
end Go.Proofs.Ythacmidffcmneaa
