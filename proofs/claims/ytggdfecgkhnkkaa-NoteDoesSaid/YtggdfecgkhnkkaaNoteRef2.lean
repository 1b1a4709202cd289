/- Layer 11 (note): the reference's block, and its Same. -/
import Derived.Test.YtggdfecgkhnkkaaNoteRef
namespace Go.Proofs.Ytggdfecgkhnkkaa
open Go Go.RowKit
set_option linter.unusedSimpArgs false
set_option linter.unusedVariables false

theorem nbyte_cast {x : Nat} (h : x < 256) : (x : Int) = (((UInt8.ofNat x).toNat : Nat) : Int) := by simp; omega
theorem two_cells (a b : Nat) (h1 : a < 256) (h2 : b < 256) : (#[.int .u8 (a : Int), .int .u8 (b : Int)] : Array Value).toList.take 2 = ([UInt8.ofNat a, UInt8.ofNat b]).map byteV := by
  rw [nbyte_cast h1, nbyte_cast h2]
  simp [byteV]
theorem recsRows_snoc (rs : List NRec) (r : NRec) : ∀ k, recsRows k (rs ++ [r]) = recsRows k rs ++ recRows (k + rs.length) r := by
  induction rs with
  | nil => intro k; show recRows k r ++ [] = [] ++ recRows (k + 0) r; simp
  | cons x rs ih =>
    intro k
    show recRows k x ++ recsRows (k + 1) (rs ++ [r]) = (recRows k x ++ recsRows (k + 1) rs) ++ recRows (k + (rs.length + 1)) r
    rw [ih, List.append_assoc, show k + 1 + rs.length = k + (rs.length + 1) by omega]
def rawB (id age sq st n : Nat) (rs : List NRec) : List UInt8 := bytesL (hdRows id age sq st n) ++ bytesL (recsRows 0 rs)
theorem rawB_succ (id age sq st n : Nat) (rs : List NRec) (k : Nat) (hk : k < rs.length) : rawB id age sq st n (rs.take k) ++ ([UInt8.ofNat rs[k].sl, UInt8.ofNat (bareN rs[k].ba)] ++ le 4 rs[k].su) = rawB id age sq st n (rs.take (k + 1)) := by
  unfold rawB
  have e : bytesL (recRows k rs[k]) = [UInt8.ofNat rs[k].sl, UInt8.ofNat (bareN rs[k].ba)] ++ le 4 rs[k].su := by simp [recRows, bytesL, le]
  rw [List.take_succ_eq_append_getElem hk, recsRows_snoc, bytesL_append, List.length_take, show 0 + min k rs.length = k by omega, e, List.append_assoc]

set_option maxRecDepth 100000 in
set_option maxHeartbeats 4000000 in
theorem rnblock_any (id age sq st : Nat) (A : Option Addr) (n q : Nat) (rs : List NRec) (hi : id < 4294967296) (ha : age < 4294967296) (hs : sq < 4294967296) (ht : st < 256) (hn : n ≤ 16) (h8 : ∀ r ∈ rs, r.sl < 256 ∧ r.su < 4294967296) (w : World) (hr : Rs w A n rs) :
    Calls Try.prog 28 #[.agg #[.int .u32 (id : Int), .int .u32 (age : Int), .int .u32 (sq : Int), .int .i64 (st : Int), .slice A n q]] w fun e w' => ∃ P q, e = .returned (.slice P 128 q) ∧ Bs w' P 128 (noteBlock id age sq st rs) ∧ Below w.heap.size w w' := by
  have hlen := hr.1
  have F1 := Lib.hid (four_any id hi)
  have F2 := Lib.hid (four_any age ha)
  have F3 := Lib.hid (four_any sq hs)
  have H5 := Lib.hid (two_cells st n ht (by omega))
  have HR := Lib.hid hr
  have HB := Lib.hid h8
  have HBL : Hid (noteBlock id age sq st rs = sealL (pad (rawB id age sq st n rs))) := by
    show _ = _
    rw [noteBlock_rows (noteRows_consec hi ha hs ht (by omega) h8) (by omega)]
    unfold rowsBlock rawB
    rw [noteRows_eq, bytesL_append, hlen]
  have q1 : IntKind.u8.wrap (st : Int) = (st : Int) := IntWalk.u8_in _ (by omega)
  have q2 : IntKind.u8.wrap (n : Int) = (n : Int) := IntWalk.u8_in _ (by omega)
  clear hr h8 hi ha hs
  go_enter Try.func28, Try.ntmps28
  go_wp2_with fail
  have A0 := BoxOf.alloc (BoxOf.new w #[.int .u32 (id : Int), .int .u32 (age : Int), .int .u32 (sq : Int), .int .i64 (st : Int), .slice A n q] 25) (.cells #[.int .u8 78] 5)
  have O0 := OB.lit (w.alloc (.cells #[.int .u32 (id : Int), .int .u32 (age : Int), .int .u32 (sq : Int), .int .i64 (st : Int), .slice A n q] 25)) (w.heap.size + 1) (by simp) 78 78 rfl
  have t0 := Ext.alloc (Ext.alloc (Below.refl w.heap.size w) (.cells #[.int .u32 (id : Int), .int .u32 (age : Int), .int .u32 (sq : Int), .int .i64 (st : Int), .slice A n q] 25)) (.cells #[.int .u8 78] 5)
  generalize (w.alloc (.cells #[.int .u32 (id : Int), .int .u32 (age : Int), .int .u32 (sq : Int), .int .i64 (st : Int), .slice A n q] 25)).alloc (.cells #[.int .u8 78] 5) = W at *
  refine (F1.out _).mono ?_
  rintro e w1 ⟨P1, rfl, hb1, b1⟩
  have A1 := A0.next b1
  have O1 := Lib.hid (O0.next b1)
  have t1 := Ext.trans t0 b1
  have x1 := A1.cell
  clear A0 O0 t0 b1
  go_wp2_with (at_builtin; refine wpList_append_bytes rfl (.tmp 6) (.tmp 9) rfl (w.heap.size + 1) _ 1 _ rfl O1.out _ 4 _ _ rfl hb1 (by omega) (by have := A1.lt; omega) ?_; intro v2 w2 own2 g2; have A2 := A1.below g2 (by omega); have t2 := t1.trans (g2.mono (by omega)); have x2 := A2.cell; have O2 := Lib.hid own2; clear own2 g2 A1 t1 O1)
  refine (F2.out _).mono ?_
  rintro e w3 ⟨P2, rfl, hb2, b1⟩
  have A3 := A2.next b1
  have O3 := Lib.hid (O2.out.next b1)
  have t3 := Ext.trans t2 b1
  clear A2 O2 t2 b1 x2
  go_wp2_with (at_builtin; refine wpList_append_bytes rfl (.tmp 11) (.tmp 14) rfl (w.heap.size + 1) _ 5 _ rfl O3.out _ 4 _ _ rfl hb2 (by omega) (by have := A3.lt; omega) ?_; intro v4 w4 own4 g4; have A4 := A3.below g4 (by omega); have t4 := t3.trans (g4.mono (by omega)); have x4 := A4.cell; have O4 := Lib.hid own4; clear own4 g4 A3 t3 O3)
  refine (F3.out _).mono ?_
  rintro e w5 ⟨P3, rfl, hb3, b1⟩
  have A5 := A4.next b1
  have O5 := Lib.hid (O4.out.next b1)
  have t5 := Ext.trans t4 b1
  clear A4 O4 t4 b1 x4
  have x5 := A5.cell
  go_upto_region 4 with (at_builtin; refine wpList_append_bytes rfl (.tmp 16) (.tmp 19) rfl (w.heap.size + 1) _ 9 _ rfl O5.out _ 4 _ _ rfl hb3 (by omega) (by have := A5.lt; omega) ?_; intro v6 w6 own6 g6; have A6 := A5.below g6 (by omega); have t6 := t5.trans (g6.mono (by omega)); have x6 := A6.cell; have O6 := Lib.hid own6; clear own6 g6 A5 t5 O5)
  have O7 := Lib.hid (O6.out.next (Ext.alloc (Below.refl w6.heap.size w6) (.cells #[.int .u8 (st : Int), .int .u8 (n : Int)] 5)))
  have A7 := A6.alloc (.cells #[.int .u8 (st : Int), .int .u8 (n : Int)] 5)
  have t7 := Ext.alloc t6 (.cells #[.int .u8 (st : Int), .int .u8 (n : Int)] 5)
  have B7 := Lib.hid (Bs.new w6 #[.int .u8 (st : Int), .int .u8 (n : Int)] 5 (0, 0) 2 [UInt8.ofNat st, UInt8.ofNat n] rfl H5.out)
  have l7 := A6.lt
  clear O6 t6 A6
  go_wp2_with (at_builtin; refine wpList_append_bytes rfl (.tmp 21) (.tmp 29) rfl (w.heap.size + 1) _ 13 _ rfl O7.out _ 2 _ _ rfl B7.out (by omega) (by simp; omega) ?_; intro v8 w8 own8 g8; have A8 := A7.below g8 (by omega); have t8 := t7.trans (g8.mono (by omega)); have x8 := A8.cell; have O8 := Lib.hid own8; clear own8 g8 A7 t7 O7 B7 x6)
  have hraw : ([78] ++ le 4 id ++ le 4 age ++ le 4 sq ++ [UInt8.ofNat st, UInt8.ofNat n] : List UInt8) = rawB id age sq st n (rs.take 0) := by simp [rawB, hdRows, bytesL, le, recsRows]
  have HRAW := Lib.hid hraw
  clear hraw
  go_loopw [3, 4] (fun v i wr => ∃ k : Nat, k ≤ n ∧ i = .int .i64 k ∧ OB wr (w.heap.size + 1) v (15 + 6 * k) (rawB id age sq st n (rs.take k)) ∧ Below w.heap.size w wr ∧ BoxOf wr w.heap.size #[.int .u32 (id : Int), .int .u32 (age : Int), .int .u32 (sq : Int), .int .i64 (st : Int), .slice A n q] 25) (fun _ i _ => n - (intOf i).toNat)
  case atStart => exact ⟨0, by omega, rfl, by rw [← HRAW.out]; exact O8.out, t8, A8⟩
  case round =>
    obtain ⟨k, hk, rfl, Ok, bw, Ak⟩ := hrel
    clear O8 t8 A8 x8
    by_cases hlt : k < n
    · obtain ⟨b, off, rfl, hc⟩ := (HR.out.below bw).cells (by omega)
      have hkl : k < rs.length := by omega
      obtain ⟨r0, r1, r2⟩ := hc k hkl
      have hrb := HB.out rs[k] (List.getElem_mem _)
      have HST := Lib.hid (rawB_succ id age sq st n rs k hkl)
      have HCC : Hid (∀ V, Below w.heap.size w V → V.cell? ⟨b, off + k * 3, none⟩ = some (.int .u8 (rs[k].sl : Int)) ∧ V.cell? ⟨b, off + k * 3 + 1, none⟩ = some (.bool rs[k].ba) ∧ V.cell? ⟨b, off + k * 3 + 2, none⟩ = some (.int .u32 (rs[k].su : Int))) := fun V hV => by
        obtain ⟨b', off', hA, h⟩ := (HR.out.below hV).cells (by omega)
        injection hA with hA
        injection hA with e1 e2
        subst e1 e2
        exact h k hkl
      clear hc
      generalize rs[k].sl = sl at *
      generalize rs[k].ba = ba at *
      generalize rs[k].su = su at *
      have F4 := Lib.hid (four_any su hrb.2)
      cases ba
      · have H2 := Lib.hid (two_cells sl 0 hrb.1 (by decide))
        clear hrb
        have HST : Hid (rawB id age sq st n (rs.take k) ++ ([UInt8.ofNat sl, UInt8.ofNat 0] ++ le 4 su) = rawB id age sq st n (rs.take (k + 1))) := HST
        have O6 := Lib.hid (Ok.next (Ext.alloc (Below.refl wr.heap.size wr) (.cells #[.int .u8 (sl : Int), .int .u8 0] 5)))
        have A6 := Ak.alloc (.cells #[.int .u8 (sl : Int), .int .u8 0] 5)
        have t6 := Ext.alloc bw (.cells #[.int .u8 (sl : Int), .int .u8 0] 5)
        have B6 := Lib.hid (Bs.new wr #[.int .u8 (sl : Int), .int .u8 0] 5 (0, 0) 2 [UInt8.ofNat sl, UInt8.ofNat 0] rfl H2.out)
        have l6 := Ak.lt
        have xk := Ak.cell
        clear Ok Ak bw
        go_wp2_with (at_builtin; refine wpList_append_bytes rfl (.tmp 44) (.tmp 52) rfl (w.heap.size + 1) _ (15 + 6 * k) _ rfl O6.out _ 2 _ _ rfl B6.out (by omega) (by simp; omega) ?_; intro v7 w7 own7 g7; have A7 := A6.below g7 (by omega); have t7 := t6.trans (g7.mono (by omega)); have x7 := A7.cell; obtain ⟨s0, s1, s2⟩ := HCC.out w7 t7; have O7 := Lib.hid own7; clear own7 g7 A6 t6 O6 B6 xk)
        refine (F4.out _).mono ?_
        rintro e w8 ⟨P4, rfl, hb4, b8⟩
        have A8 := A7.next b8
        have O8 := Lib.hid (O7.out.next b8)
        have t8 := Ext.trans t7 b8
        have l8 := A8.lt
        clear A7 O7 t7 b8 x7 s0 s1 s2
        go_wp2_with (at_builtin; refine wpList_append_bytes rfl (.tmp 54) (.tmp 61) rfl (w.heap.size + 1) _ (15 + 6 * k + 2) _ rfl O8.out _ 4 _ _ rfl hb4 (by omega) (by omega) ?_; intro v9 w9 own9 g9; have A9 := A8.below g9 (by omega); have t9 := t8.trans (g9.mono (by omega)); have O9 := Lib.hid own9; clear own9 g9 A8 t8 O8 hb4)
        go_roundw
        case rel => exact ⟨k + 1, by omega, by go_num, by have h := O9.out; rw [List.append_assoc, HST.out] at h; rw [show 15 + 6 * (k + 1) = 15 + 6 * k + 2 + 4 by omega]; exact h, t9, A9⟩
        case measure => simp [intOf]; omega
      · have H2 := Lib.hid (two_cells sl 1 hrb.1 (by decide))
        clear hrb
        have HST : Hid (rawB id age sq st n (rs.take k) ++ ([UInt8.ofNat sl, UInt8.ofNat 1] ++ le 4 su) = rawB id age sq st n (rs.take (k + 1))) := HST
        have O6 := Lib.hid (Ok.next (Ext.alloc (Below.refl wr.heap.size wr) (.cells #[.int .u8 (sl : Int), .int .u8 1] 5)))
        have A6 := Ak.alloc (.cells #[.int .u8 (sl : Int), .int .u8 1] 5)
        have t6 := Ext.alloc bw (.cells #[.int .u8 (sl : Int), .int .u8 1] 5)
        have B6 := Lib.hid (Bs.new wr #[.int .u8 (sl : Int), .int .u8 1] 5 (0, 0) 2 [UInt8.ofNat sl, UInt8.ofNat 1] rfl H2.out)
        have l6 := Ak.lt
        have xk := Ak.cell
        clear Ok Ak bw
        go_wp2_with (at_builtin; refine wpList_append_bytes rfl (.tmp 44) (.tmp 52) rfl (w.heap.size + 1) _ (15 + 6 * k) _ rfl O6.out _ 2 _ _ rfl B6.out (by omega) (by simp; omega) ?_; intro v7 w7 own7 g7; have A7 := A6.below g7 (by omega); have t7 := t6.trans (g7.mono (by omega)); have x7 := A7.cell; obtain ⟨s0, s1, s2⟩ := HCC.out w7 t7; have O7 := Lib.hid own7; clear own7 g7 A6 t6 O6 B6 xk)
        refine (F4.out _).mono ?_
        rintro e w8 ⟨P4, rfl, hb4, b8⟩
        have A8 := A7.next b8
        have O8 := Lib.hid (O7.out.next b8)
        have t8 := Ext.trans t7 b8
        have l8 := A8.lt
        clear A7 O7 t7 b8 x7 s0 s1 s2
        go_wp2_with (at_builtin; refine wpList_append_bytes rfl (.tmp 54) (.tmp 61) rfl (w.heap.size + 1) _ (15 + 6 * k + 2) _ rfl O8.out _ 4 _ _ rfl hb4 (by omega) (by omega) ?_; intro v9 w9 own9 g9; have A9 := A8.below g9 (by omega); have t9 := t8.trans (g9.mono (by omega)); have O9 := Lib.hid own9; clear own9 g9 A8 t8 O8 hb4)
        go_roundw
        case rel => exact ⟨k + 1, by omega, by go_num, by have h := O9.out; rw [List.append_assoc, HST.out] at h; rw [show 15 + 6 * (k + 1) = 15 + 6 * k + 2 + 4 by omega]; exact h, t9, A9⟩
        case measure => simp [intOf]; omega
    · have hkn : k = n := by omega
      subst hkn
      rw [← hlen, List.take_length] at Ok
      obtain ⟨P, c, rfl, hb⟩ := Ok.bs
      rw [hlen] at hb
      have HBB := Lib.hid hb
      have xk := Ak.cell
      clear Ok hb HR
      go_wp2_with fail
      refine (rsealed_any P (15 + 6 * k) c _ (by omega) _ HBB.out).mono ?_
      rintro e w9 ⟨g9, rfl, hb9, b9⟩
      have hb10 : Bs w9 (some ⟨g9, 0, none⟩) 128 (noteBlock id age sq st rs) := by rw [HBL.out]; exact hb9
      have H10 := Lib.hid hb10
      clear hb9 hb10
      go_wp2
      go_ret
      exact ⟨_, _, rfl, H10.out, Ext.trans bw b9⟩

set_option maxRecDepth 100000 in
theorem rnwrite_bad (id age sq : Nat) (st : Int) (A : Option Addr) (n q : Nat) (rs : List NRec) (hn : n ≤ 1000) (h8 : ∀ r ∈ rs, r.sl < 256) (hb : noteB age sq st rs = false) (w : World) (hr : Rs w A n rs) :
    Calls Try.prog 17 #[.agg #[.int .u32 (id : Int), .int .u32 (age : Int), .int .u32 (sq : Int), .int .i64 st, .slice A n q]] w fun e w' => e = .returned (.tuple #[.slice none 0 0, .int .i64 8]) ∧ Below w.heap.size w w' := by
  have HM := Lib.hid (fun W h => rnmay_any id age sq st A n q rs hn h8 W h)
  rw [hb] at HM
  have hr0 := hr.alloc (.cells #[.int .u32 (id : Int), .int .u32 (age : Int), .int .u32 (sq : Int), .int .i64 st, .slice A n q] 25)
  have t0 := Ext.alloc (Below.refl w.heap.size w) (.cells #[.int .u32 (id : Int), .int .u32 (age : Int), .int .u32 (sq : Int), .int .i64 st, .slice A n q] 25)
  clear h8 hb
  go_enter Try.func17, Try.ntmps17
  go_wp2_with fail
  refine (HM.out _ hr0).mono ?_
  rintro e w1 ⟨rfl, b1⟩
  have t1 := Ext.trans t0 b1
  go_wp2
  go_ret2
  exact ⟨rfl, t1⟩
set_option maxRecDepth 100000 in
theorem rnwrite_ok (id age sq st : Nat) (A : Option Addr) (n q : Nat) (rs : List NRec) (hi : id < 4294967296) (h8 : ∀ r ∈ rs, r.sl < 256 ∧ r.su < 4294967296) (hb : noteB age sq (st : Int) rs = true) (w : World) (hr : Rs w A n rs) :
    Calls Try.prog 17 #[.agg #[.int .u32 (id : Int), .int .u32 (age : Int), .int .u32 (sq : Int), .int .i64 (st : Int), .slice A n q]] w fun e w' => ∃ P q, e = .returned (.tuple #[.slice P 128 q, .int .i64 0]) ∧ Bs w' P 128 (noteBlock id age sq st rs) ∧ Below w.heap.size w w' := by
  have hp := noteB_parts hb
  have hlen := hr.1
  have HM := Lib.hid (fun W h => rnmay_any id age sq (st : Int) A n q rs (by omega) (fun r h => (h8 r h).1) W h)
  have HB := Lib.hid (fun W h => rnblock_any id age sq st A n q rs hi hp.2.2.2.2.1 hp.2.2.2.2.2 (by omega) (by omega) h8 W h)
  rw [hb] at HM
  have hr0 := hr.alloc (.cells #[.int .u32 (id : Int), .int .u32 (age : Int), .int .u32 (sq : Int), .int .i64 (st : Int), .slice A n q] 25)
  have t0 := Ext.alloc (Below.refl w.heap.size w) (.cells #[.int .u32 (id : Int), .int .u32 (age : Int), .int .u32 (sq : Int), .int .i64 (st : Int), .slice A n q] 25)
  have A0 := BoxOf.new w #[.int .u32 (id : Int), .int .u32 (age : Int), .int .u32 (sq : Int), .int .i64 (st : Int), .slice A n q] 25
  clear h8 hb hp
  go_enter Try.func17, Try.ntmps17
  go_wp2_with fail
  refine (HM.out _ hr0).mono ?_
  rintro e w1 ⟨rfl, b1⟩
  have t1 := Ext.trans t0 b1
  have A1 := A0.next b1
  have x1 := A1.cell
  have hr1 := hr0.below b1
  clear t0 A0 hr0 b1
  go_wp2_with fail
  refine (HB.out _ hr1).mono ?_
  rintro e w2 ⟨P, c, rfl, hb2, b2⟩
  have t2 := Ext.trans t1 b2
  have HB2 := Lib.hid hb2
  clear A1 x1 hb2
  go_wp2
  go_ret2
  exact ⟨P, c, rfl, HB2.out, t2⟩

set_option maxRecDepth 100000 in
set_option maxHeartbeats 2000000 in
theorem rnsame_any (id age sq : Nat) (st : Int) (A : Option Addr) (n q : Nat) (rs : List NRec) (id' age' sq' : Nat) (st' : Int) (B : Option Addr) (m k : Nat) (ss : List NRec) (E : Bool) (hE : E = true ↔ id = id' ∧ age = age' ∧ sq = sq' ∧ st = st' ∧ rs = ss) (hn6 : n ≤ 1000000) (w : World) (hx : Rs w A n rs) (hy : Rs w B m ss) :
    Calls Try.prog 19 #[.agg #[.int .u32 (id : Int), .int .u32 (age : Int), .int .u32 (sq : Int), .int .i64 st, .slice A n q], .agg #[.int .u32 (id' : Int), .int .u32 (age' : Int), .int .u32 (sq' : Int), .int .i64 st', .slice B m k]] w fun e w' => e = .returned (.bool E) ∧ Below w.heap.size w w' := by
  have hxl := hx.1
  have hyl := hy.1
  have hcas : (E = false ∧ ((((id : Int) != (id' : Int)) = true) ∨ (((id : Int) != (id' : Int)) = false ∧ ((age : Int) != (age' : Int)) = true) ∨ (((id : Int) != (id' : Int)) = false ∧ ((age : Int) != (age' : Int)) = false ∧ ((sq : Int) != (sq' : Int)) = true) ∨ (((id : Int) != (id' : Int)) = false ∧ ((age : Int) != (age' : Int)) = false ∧ ((sq : Int) != (sq' : Int)) = false ∧ (st != st') = true) ∨ (((id : Int) != (id' : Int)) = false ∧ ((age : Int) != (age' : Int)) = false ∧ ((sq : Int) != (sq' : Int)) = false ∧ (st != st') = false ∧ ((n : Int) != (m : Int)) = true))) ∨
      (((id : Int) != (id' : Int)) = false ∧ ((age : Int) != (age' : Int)) = false ∧ ((sq : Int) != (sq' : Int)) = false ∧ (st != st') = false ∧ ((n : Int) != (m : Int)) = false ∧ n = m ∧ (E = true ↔ rs = ss)) := by
    simp only [bne_iff_ne, bne_eq_false_iff_eq, ne_eq]
    by_cases h1 : (id : Int) = (id' : Int) ∧ (age : Int) = (age' : Int) ∧ (sq : Int) = (sq' : Int) ∧ st = st' ∧ (n : Int) = (m : Int)
    · refine .inr ⟨h1.1, h1.2.1, h1.2.2.1, h1.2.2.2.1, h1.2.2.2.2, by omega, ?_⟩
      rw [hE]
      constructor
      · exact fun h => h.2.2.2.2
      · exact fun h => ⟨by omega, by omega, by omega, h1.2.2.2.1, h⟩
    · refine .inl ⟨?_, by omega⟩
      cases E
      · rfl
      · exfalso
        obtain ⟨a, b, c, d, e⟩ := hE.1 rfl
        subst e
        exact h1 ⟨by omega, by omega, by omega, d, by omega⟩
  have HCA := Lib.hid hcas
  clear hcas hE
  go_enter Try.func19, Try.ntmps19
  go_upto_region 1 with fail
  have A0 := BoxOf.alloc (BoxOf.new w #[.int .u32 (id : Int), .int .u32 (age : Int), .int .u32 (sq : Int), .int .i64 st, .slice A n q] 25) (.cells #[.int .u32 (id' : Int), .int .u32 (age' : Int), .int .u32 (sq' : Int), .int .i64 st', .slice B m k] 25)
  have B0 := BoxOf.new' (w.alloc (.cells #[.int .u32 (id : Int), .int .u32 (age : Int), .int .u32 (sq : Int), .int .i64 st, .slice A n q] 25)) (w.heap.size + 1) #[.int .u32 (id' : Int), .int .u32 (age' : Int), .int .u32 (sq' : Int), .int .i64 st', .slice B m k] 25 (by simp)
  have t0 := Ext.alloc (Ext.alloc (Below.refl w.heap.size w) (.cells #[.int .u32 (id : Int), .int .u32 (age : Int), .int .u32 (sq : Int), .int .i64 st, .slice A n q] 25)) (.cells #[.int .u32 (id' : Int), .int .u32 (age' : Int), .int .u32 (sq' : Int), .int .i64 st', .slice B m k] 25)
  have X0 := (hx.alloc (.cells #[.int .u32 (id : Int), .int .u32 (age : Int), .int .u32 (sq : Int), .int .i64 st, .slice A n q] 25)).alloc (.cells #[.int .u32 (id' : Int), .int .u32 (age' : Int), .int .u32 (sq' : Int), .int .i64 st', .slice B m k] 25)
  have Y0 := (hy.alloc (.cells #[.int .u32 (id : Int), .int .u32 (age : Int), .int .u32 (sq : Int), .int .i64 st, .slice A n q] 25)).alloc (.cells #[.int .u32 (id' : Int), .int .u32 (age' : Int), .int .u32 (sq' : Int), .int .i64 st', .slice B m k] 25)
  clear hx hy
  generalize (w.alloc (.cells #[.int .u32 (id : Int), .int .u32 (age : Int), .int .u32 (sq : Int), .int .i64 st, .slice A n q] 25)).alloc (.cells #[.int .u32 (id' : Int), .int .u32 (age' : Int), .int .u32 (sq' : Int), .int .i64 st', .slice B m k] 25) = w0 at *
  have xA := A0.cell
  have xB := B0.cell
  rcases HCA.out with ⟨rfl, h⟩ | ⟨e1, e2, e3, e4, e5, hnm, hE⟩
  · rcases h with e1 | ⟨e1, e2⟩ | ⟨e1, e2, e3⟩ | ⟨e1, e2, e3, e4⟩ | ⟨e1, e2, e3, e4, e5⟩
    all_goals
      clear HCA
      go_wp2
      go_ret
      exact ⟨rfl, t0⟩
  · subst hnm
    clear HCA
    have HE := Lib.hid hE
    clear hE
    go_wp2
    clear e1 e2 e3 e4 e5
    go_loopw [5] (fun i wr => ∃ j : Nat, j ≤ n ∧ i = .int .i64 j ∧ Below w0.heap.size w0 wr ∧ ∀ t (h1 : t < rs.length) (h2 : t < ss.length), t < j → recB rs[t] ss[t] = true) (fun i _ => n - (intOf i).toNat)
    case atStart => exact ⟨0, by omega, rfl, Below.refl _ _, fun t _ _ h => by omega⟩
    case round =>
      obtain ⟨j, hj, rfl, bw, hall⟩ := hrel
      have A1 := A0.next bw
      have B1 := B0.next bw
      have xA := A1.cell
      have xB := B1.cell
      have t1 := Ext.trans t0 bw
      by_cases hlt : j < n
      · obtain ⟨b, off, rfl, hc⟩ := (X0.below bw).cells (by omega)
        obtain ⟨b2, off2, rfl, hc2⟩ := (Y0.below bw).cells (by omega)
        obtain ⟨q0, q1, q2⟩ := hc j (by omega)
        obtain ⟨p0, p1, p2⟩ := hc2 j (by omega)
        have hwj : wrap64 ((j : Int) + 1) = ((j + 1 : Nat) : Int) := by rw [IntWalk.wrap64_in _ (by omega)]; omega
        have hjx : j < rs.length := by omega
        have hjy : j < ss.length := by omega
        have HALL := Lib.hid hall
        clear A0 B0
        cases hB : recB rs[j] ss[j] with
        | false =>
          have hne : E = false := by
            cases hEv : E
            · rfl
            · exfalso
              have := (HE.out.1 hEv)
              subst this
              rw [recB_iff.2 rfl] at hB
              cases hB
          subst hne
          unfold recB at hB
          have HB := Lib.hid hB
          clear hB hall hc hc2 HE X0 Y0
          generalize rs[j].sl = s1 at *
          generalize rs[j].ba = b1 at *
          generalize rs[j].su = u1 at *
          generalize ss[j].sl = s2 at *
          generalize ss[j].ba = b2' at *
          generalize ss[j].su = u2 at *
          have hcas : (¬ (s1 : Int) = (s2 : Int)) ∨ ((s1 : Int) = (s2 : Int) ∧ ¬ b1 = b2') ∨ ((s1 : Int) = (s2 : Int) ∧ b1 = b2' ∧ ¬ (u1 : Int) = (u2 : Int)) := by
            have h := HB.out
            by_cases e1 : s1 = s2
            · by_cases e2 : b1 = b2'
              · refine .inr (.inr ⟨by omega, e2, fun e3 => ?_⟩)
                rw [e1, e2, show u1 = u2 by omega] at h
                simp at h
              · exact .inr (.inl ⟨by omega, e2⟩)
            · exact .inl (by omega)
          have HCA := Lib.hid hcas
          clear hcas
          rcases HCA.out with e1 | ⟨e1, e2⟩ | ⟨e1, e2, e3⟩
          all_goals
            clear HB HALL HCA
            go_wp2
            go_region
            go_wp2
            go_ret
            exact ⟨rfl, Ext.drew t1⟩
        | true =>
          have hpx := recB_iff.1 hB
          have HB := Lib.hid hpx
          clear hB hall hc hc2 HE X0 Y0
          rw [HB.out] at q0 q1 q2
          generalize ss[j].sl = s2 at *
          generalize ss[j].ba = b2' at *
          generalize ss[j].su = u2 at *
          go_wp2
          go_region
          go_wp2
          go_roundw
          case rel => exact ⟨j + 1, by omega, by go_num, Ext.drew bw, fun t h1 h2 ht => by
            by_cases e : t = j
            · subst e; exact recB_iff.2 HB.out
            · exact HALL.out t h1 h2 (by omega)⟩
          case measure => simp [intOf]; omega
      · have hEt : E = true := HE.out.2 (recs_ext (by omega) fun t h1 h2 => hall t h1 h2 (by omega))
        subst hEt
        clear hall A0 B0
        go_wp2
        go_ret
        exact ⟨rfl, t1⟩
end Go.Proofs.Ytggdfecgkhnkkaa
