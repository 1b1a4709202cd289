/- Layer 30 (model): the program: copies of bytes; what a request writes. -/
import Derived.Test.YtclbihcggjjgaaaModel7
import Derived.Test.YtclbihcggjjgaaaRef09
namespace Go.Proofs.Ytclbihcggjjgaaa
open Go Go.RowKit
set_option linter.unusedSimpArgs false
set_option linter.unusedVariables false

theorem flat_ones (bs : List UInt8) : (bs.map fun b => [byteV b]).flatten = bs.map byteV := by
  induction bs with
  | nil => rfl
  | cons a l ih => rw [List.map_cons, List.flatten_cons, ih]; rfl
theorem OwnL.of_bytes {w : World} {base : Nat} {tid : TypeId} {v : Value} {bs : List UInt8} (h : w.ownsRow base tid 1 v bs.length (bs.map byteV)) : OwnL w base tid .byte v bs := by
  refine ⟨bs.map fun b => [byteV b], List.length_map _, fun i h h' => ?_, ?_⟩
  · rw [List.getElem_map]
    exact rdin_byte.2 rfl
  · rw [flat_ones]
    exact h
theorem OwnL.bytes_rdin {w : World} {base : Nat} {tid : TypeId} {v : Value} {bs : List UInt8} (h : OwnL w base tid .byte v bs) (hz : bs.length ≤ 140737488355328) : RdIn w (NewB base w) (.sl .byte) bs [v] :=
  OwnL.rdin h (by show bs.length * 1 ≤ _; omega)
theorem rdin_nilb {w : World} {S : Nat → Prop} {c : Nat} (hc : c ≤ maxLen) (A : Option Addr) : RdIn w S (.sl .byte) [] [.slice A 0 c] := rdin_sl.2 ⟨A, c, rfl, by simp, hc, by simp, .inl rfl⟩
theorem rdin_bmax {w : World} {S : Nat → Prop} {bs : List UInt8} {v : Value} (h : RdIn w S (.sl .byte) bs [v]) : bs.length ≤ 140737488355328 := by
  obtain ⟨_, _, _, _, _, h1, _⟩ := rdin_sl.1 h
  have h2 : bs.length * 1 ≤ 140737488355328 := h1
  omega
theorem eqn_none (w : World) (n c : Nat) : (binOp .eql 29 (.slice none n c) (.slice none 0 0)).run Try.prog w = .ok (.bool true) w := by kernel_rfl
theorem eqn_some (w : World) (a : Addr) (n c : Nat) : (binOp .eql 29 (.slice (some a) n c) (.slice none 0 0)).run Try.prog w = .ok (.bool false) w := by kernel_rfl
set_option maxRecDepth 100000 in
set_option maxHeartbeats 1000000 in
theorem clone_any (S : Nat → Prop) (bs : List UInt8) (A : Option Addr) (c : Nat) (w : World) (h : RdIn w S (.sl .byte) bs [.slice A bs.length c]) :
    Calls Try.prog 44 #[.slice A bs.length c] w fun e w' => (∃ v, e = .returned v ∧ RdIn w' (NewB w.heap.size w') (.sl .byte) bs [v]) ∧ Below w.heap.size w w' := by
  obtain ⟨i0, hi, hz0, hz1, hz2⟩ := minfo_u8
  have hbs := h.bytes_bs
  have hbm := rdin_bmax h
  have HM := Lib.hid (And.intro (byte_max h) hbm)
  cases A with
  | none =>
    have hb0 : bs = [] := by
      rcases hbs.2 with h0 | ⟨b, off, e, _⟩
      · simpa using h0
      · cases e
    subst hb0
    have HE := fun (w : World) (c : Nat) => eqn_none w 0 c
    clear h hbs hbm
    go_enter Try.func44, Try.ntmps44
    go_wp2
    go_ret
    exact ⟨⟨_, rfl, rdin_nilb (by unfold maxLen; omega) _⟩, Below.refl _ _⟩
  | some a =>
    have t0 := Ext.alloc (Below.refl w.heap.size w) (.cells #[] 5)
    have hrd : Rd (w.alloc (.cells #[] 5)) (some a) (bs.map byteV) := (hbs.alloc _).2
    have own0 : (w.alloc (.cells #[] 5)).ownsRow w.heap.size 5 1 (.slice (some ⟨w.heap.size, 0, none⟩) 0 0) 0 [] := ⟨rfl, .inr ⟨w.heap.size, 0, #[], rfl, Nat.le_refl _, heap_alloc_new _ _, Nat.le_refl _, by unfold maxLen; omega, rfl, rfl⟩⟩
    have HE := fun (w : World) (n c : Nat) => eqn_some w a n c
    clear h hbs hbm
    go_enter Try.func44, Try.ntmps44
    go_upto_region 3 with fail
    go_wp2_with (at_builtin; (refine wpList_append_rd _ rfl (.tmp 5) (.tmp 6) 29 rfl w.heap.size 5 i0 _ 1 1 Try.underlying29 hi hz0 hz1 hz2 rfl (by decide) _ 0 [] rfl own0 (some a) bs.length c (bs.map byteV) rfl (by simp) hrd (by intro u hu; rw [List.mem_map] at hu; obtain ⟨y, _, rfl⟩ := hu; rfl) (by have := HM.out.1; omega) (by have := HM.out.2; omega) (by simp) ?_); intro v1 w1 h2 h3 h4)
    have O1 : OwnL w1 w.heap.size 5 .byte v1 bs := OwnL.of_bytes (by rw [Nat.zero_add, List.nil_append] at h2; exact h2)
    have b1 := Below.grown t0 h3 (by simp) (fun k e => by cases e; exact Nat.le_refl _)
    go_ret
    exact ⟨⟨_, rfl, O1.bytes_rdin HM.out.2⟩, b1⟩

/-! ### what a request writes -/
def part128 (bs : List UInt8) (i : Nat) : List UInt8 := (bs.drop (i * 128)).take 128
theorem part128_len {bs : List UInt8} {i : Nat} (h : i * 128 + 128 ≤ bs.length) : (part128 bs i).length = 128 := by
  unfold part128
  rw [List.length_take, List.length_drop]; omega
theorem part128_get {bs : List UInt8} {i : Nat} (h : i * 128 + 128 ≤ bs.length) {q : Nat} (hq : q < (part128 bs i).length) : (part128 bs i)[q] = bs[i * 128 + q]'(by rw [part128_len h] at hq; omega) := by
  simp only [part128, List.getElem_take, List.getElem_drop]
def blk (k : Int) (bs : List UInt8) (i : Nat) : List UInt8 := if kBytes k then part128 bs i else zeros
theorem RdIn.part {w : World} {S : Nat → Prop} {bs : List UInt8} {b off c : Nat} (h : RdIn w S (.sl .byte) bs [.slice (some ⟨b, off, none⟩) bs.length c]) {i : Nat} (hi : i * 128 + 128 ≤ bs.length) :
    RdIn w S (.sl .byte) (part128 bs i) [.slice (some ⟨b, off + i * 128, none⟩) (part128 bs i).length (c - i * 128)] := by
  obtain ⟨A', c', e, hn, hm, hz, hh⟩ := rdin_sl.1 h
  have e' := (List.cons.inj e).1
  injection e' with e1 e2 e3
  subst e3
  have hl := part128_len hi
  have hn' : bs.length ≤ c := hn
  have hz' : bs.length * 1 ≤ 140737488355328 := hz
  refine rdin_sl.2 ⟨_, _, rfl, ?_, ?_, ?_, ?_⟩
  · show (part128 bs i).length ≤ _; omega
  · omega
  · show (part128 bs i).length * 1 ≤ _; omega
  · rcases hh with hh | ⟨b', off', e5, hS, hc⟩
    · exfalso
      have : bs = [] := hh
      rw [this] at hi
      simp at hi
    · rw [← e1] at e5
      injection e5 with e5
      injection e5 with e51 e52
      subst e51 e52
      refine .inr ⟨b, off + i * 128, rfl, hS, fun q hq => ?_⟩
      have hq' : q < (part128 bs i).length := hq
      obtain ⟨es, h1, h2⟩ := hc (i * 128 + q) (show i * 128 + q < bs.length by omega)
      refine ⟨es, fun j hj => ?_, ?_⟩
      · have h3 := h1 j hj
        have hj0 : j = 0 := by have : j < 1 := hj; omega
        subst hj0
        have e7 : off + (i * 128 + q) * Ty.size .byte + 0 = off + i * 128 + q * Ty.size .byte + 0 := by show off + (i * 128 + q) * 1 + 0 = off + i * 128 + q * 1 + 0; omega
        rw [e7] at h3
        exact h3
      · have e9 := rdin_byte.1 h2
        refine rdin_byte.2 ?_
        rw [e9]
        exact congrArg (fun z => [byteV z]) (part128_get hi hq').symm
/-- what 'writes' answers -/
def WrIs (base : Nat) (k : Int) (bs : List UInt8) (i : Nat) (e : Ending) (w : World) : Prop := ∃ D n q, e = .returned (.tuple #[.slice D n q, .bool (kWrites k)]) ∧ (kWrites k = true → RdIn w (NewB base w) (.sl .byte) (blk k bs i) [.slice D n q])
theorem bytesV {w : World} {S : Nat → Prop} {bs : List UInt8} {v : Value} (h : RdIn w S (.sl .byte) bs [v]) : ∃ A c, v = .slice A bs.length c := by
  obtain ⟨A, c, e, _⟩ := h.bytes
  exact ⟨A, c, e⟩
set_option maxRecDepth 100000 in
set_option maxHeartbeats 1000000 in
theorem swrites_any (S : Nat → Prop) (k a y : Int) (bs : List UInt8) (A : Option Addr) (c : Nat) (i : Nat) (w : World) (h : RdIn w S (.sl .byte) bs [.slice A bs.length c]) (hb : kBytes k = true → i * 128 + 128 ≤ bs.length) (hi : i < 1000) :
    Calls Try.prog 69 #[.agg #[.int .u8 k, .int .i64 a, .int .i64 y, .slice A bs.length c], .int .i64 (i : Int)] w fun e w' => WrIs w.heap.size k bs i e w' ∧ Below w.heap.size w w' := by
  by_cases h23 : k = 2 ∨ k = 3
  · have hkb : kBytes k = true := decide_eq_true h23
    have hkw : kWrites k = true := decide_eq_true (by omega)
    have hbl := hb hkb
    obtain ⟨b, off, hA⟩ : ∃ b off, A = some ⟨b, off, none⟩ := by
      rcases h.bytes_bs.2 with h0 | ⟨b, off, e, _⟩
      · have : bs = [] := by simpa using h0
        rw [this] at hbl
        simp at hbl
      · exact ⟨b, off, e⟩
    subst hA
    have hcl : bs.length ≤ c := by obtain ⟨_, c', e, hn, _⟩ := rdin_sl.1 h; injection e with e _; injection e with _ _ e3; rw [e3]; exact hn
    have hp := h.part hbl
    have hblk : Hid (blk k bs i = part128 bs i) := by show _ = _; unfold blk; rw [if_pos hkb]
    have hl := part128_len hbl
    generalize part128 bs i = ds at *
    have hw1 : wrap64 ((i : Int) * 128) = ((i * 128 : Nat) : Int) := by rw [IntWalk.wrap64_in _ (by omega)]; omega
    have hw2 : wrap64 ((i : Int) + 1) = ((i + 1 : Nat) : Int) := by rw [IntWalk.wrap64_in _ (by omega)]; omega
    have hw3 : wrap64 (((i + 1 : Nat) : Int) * 128) = ((i * 128 + 128 : Nat) : Int) := by rw [IntWalk.wrap64_in _ (by omega)]; omega
    have HC : Hid (∀ w', Below w.heap.size w w' → Calls Try.prog 44 #[.slice (some ⟨b, off + i * 128, none⟩) ((i + 1) * 128 - i * 128) (c - i * 128)] w' fun e w'' => (∃ v, e = .returned v ∧ RdIn w'' (NewB w'.heap.size w'') (.sl .byte) ds [v]) ∧ Below w'.heap.size w' w'') := fun w' bb => by
      have h9 := clone_any S ds _ _ w' (hp.below bb)
      rw [show (i + 1) * 128 - i * 128 = ds.length by omega]
      exact h9
    have HW := Lib.hid hkw
    clear h hb hkb hkw hp
    have t0 := Ext.alloc (Below.refl w.heap.size w) (.cells #[.int .u8 k, .int .i64 a, .int .i64 y, .slice (some ⟨b, off, none⟩) bs.length c] 58)
    have P0 := BoxOf.new w #[.int .u8 k, .int .i64 a, .int .i64 y, .slice (some ⟨b, off, none⟩) bs.length c] 58
    rcases Bool.eq_false_or_eq_true (k == 2) with e2 | e2
    · clear h23
      go_enter Try.func69, Try.ntmps69
      go_upto_region 1 with fail
      generalize w.alloc (.cells #[.int .u8 k, .int .i64 a, .int .i64 y, .slice (some ⟨b, off, none⟩) bs.length c] 58) = W at *
      have x0 := P0.cell
      go_wp2_with fail
      refine (HC.out _ t0).mono ?_
      rintro e w1 ⟨⟨v, rfl, r1⟩, b1⟩
      have b2 := Ext.trans t0 b1
      have hbw := t0.size
      obtain ⟨D, q, rfl⟩ := bytesV r1
      rw [hl] at r1
      have R1 := Lib.hid r1
      clear r1
      go_wp2
      go_ret2
      exact ⟨⟨D, _, q, by rw [HW.out]; try rfl, fun _ => by rw [hblk.out]; exact R1.out.mono fun b hb => ⟨Nat.le_trans hbw hb.1, hb.2⟩⟩, b2⟩
    · have e3 : (k == 3) = true := by have : k ≠ 2 := by simpa using e2
                                      simp; omega
      clear h23
      go_enter Try.func69, Try.ntmps69
      go_upto_region 1 with fail
      generalize w.alloc (.cells #[.int .u8 k, .int .i64 a, .int .i64 y, .slice (some ⟨b, off, none⟩) bs.length c] 58) = W at *
      have x0 := P0.cell
      go_wp2_with fail
      refine (HC.out _ t0).mono ?_
      rintro e w1 ⟨⟨v, rfl, r1⟩, b1⟩
      have b2 := Ext.trans t0 b1
      have hbw := t0.size
      obtain ⟨D, q, rfl⟩ := bytesV r1
      rw [hl] at r1
      have R1 := Lib.hid r1
      clear r1
      go_wp2
      go_ret2
      exact ⟨⟨D, _, q, by rw [HW.out]; try rfl, fun _ => by rw [hblk.out]; exact R1.out.mono fun b hb => ⟨Nat.le_trans hbw hb.1, hb.2⟩⟩, b2⟩
  · have hkb : kBytes k = false := decide_eq_false h23
    have hblk : Hid (blk k bs i = zeros) := by show _ = _; unfold blk; rw [hkb]; rfl
    have e2 : (k == 2) = false := by simp; omega
    have e3 : (k == 3) = false := by simp; omega
    clear h hb hkb
    rcases Bool.eq_false_or_eq_true (k == 5) with e5 | e5
    · obtain ⟨i0, hi0, hz0, hz1, hz2⟩ := minfo_u8
      have HW : Hid (kWrites k = true) := decide_eq_true (by have : k = 5 := by simpa using e5
                                                             omega)
      clear h23
      have t0 := Ext.alloc (Below.refl w.heap.size w) (.cells #[.int .u8 k, .int .i64 a, .int .i64 y, .slice A bs.length c] 58)
      have P0 := BoxOf.new w #[.int .u8 k, .int .i64 a, .int .i64 y, .slice A bs.length c] 58
      go_enter Try.func69, Try.ntmps69
      go_upto_region 1 with fail
      generalize w.alloc (.cells #[.int .u8 k, .int .i64 a, .int .i64 y, .slice A bs.length c] 58) = W at *
      have x0 := P0.cell
      go_wp2_with (refine wpList_make_full W rfl (.const (.int .i64 128)) (.const (.int .i64 128)) 29 rfl W.heap.size 5 i0 (.int .u8 0) 1 Try.underlying29 hi0 hz0 hz1 .i64 .i64 128 128 128 rfl rfl rfl rfl (by rw [hz2]; omega) (by unfold maxLen; omega) (Nat.le_refl _) ?_; intro w2 own2 g2; rw [made_zeros] at own2; have b2 := Ext.grown (Below.refl _ _) g2 (by simp))
      go_ret2
      have hbw := t0.size
      have RO := (OwnL.of_bytes (bs := zeros) (by rw [zeros_len]; exact own2)).bytes_rdin (by rw [zeros_len]; decide)
      exact ⟨⟨_, 128, _, by rw [HW.out]; try rfl, fun _ => by rw [hblk.out]; exact RO.mono fun b hb => ⟨Nat.le_trans hbw hb.1, hb.2⟩⟩, Ext.trans t0 b2⟩
    · have HW : Hid (kWrites k = false) := decide_eq_false (by have : k ≠ 5 := by simpa using e5
                                                               omega)
      clear h23
      have t0 := Ext.alloc (Below.refl w.heap.size w) (.cells #[.int .u8 k, .int .i64 a, .int .i64 y, .slice A bs.length c] 58)
      have P0 := BoxOf.new w #[.int .u8 k, .int .i64 a, .int .i64 y, .slice A bs.length c] 58
      go_enter Try.func69, Try.ntmps69
      go_upto_region 1 with fail
      generalize w.alloc (.cells #[.int .u8 k, .int .i64 a, .int .i64 y, .slice A bs.length c] 58) = W at *
      have x0 := P0.cell
      go_wp2
      go_ret2
      exact ⟨⟨none, 0, 0, by rw [HW.out]; try rfl, fun h => by rw [HW.out] at h; cases h⟩, t0⟩
end Go.Proofs.Ytclbihcggjjgaaa
