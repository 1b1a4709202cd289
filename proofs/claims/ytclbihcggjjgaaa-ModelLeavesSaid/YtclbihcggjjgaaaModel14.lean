/- Layer 30 (model): what a crash may leave in a block: the program's answer and the reference's. -/
import Derived.Test.YtclbihcggjjgaaaModel13
namespace Go.Proofs.Ytclbihcggjjgaaa
open Go Go.RowKit
set_option linter.unusedSimpArgs false
set_option linter.unusedVariables false

theorem PlainOk.short {x : Cfg} {ys : List (List (List UInt8))} {gs : List GoTy.T} (h : PlainOk x ys gs) : ys.length ≤ 1000 := by
  have h1 := Cfg.crm h.cfg
  have h2 := h.len
  omega
theorem PlainOk.fit {x : Cfg} {ys : List (List (List UInt8))} {gs : List GoTy.T} (h : PlainOk x ys gs) : ∀ i (hi : i < gs.length), AskFit gs[i] := fun i hi => AskFit.of (h.goes i hi).1
/-- what May answers -/
def MayRel (x : Cfg) (ys : List (List (List UInt8))) (gs : List GoTy.T) (n : Int) (bs : List UInt8) (b : Bool) (v : Int) : Prop :=
  (¬ PlainOk x ys gs ∧ b = false ∧ v = 8) ∨ (PlainOk x ys gs ∧ ¬ (0 ≤ n ∧ n < (ys.length : Int)) ∧ b = false ∧ v = 2) ∨
  (PlainOk x ys gs ∧ (0 ≤ n ∧ n < (ys.length : Int)) ∧ ¬ bs.length = 128 ∧ b = false ∧ v = 3) ∨ (PlainOk x ys gs ∧ (0 ≤ n ∧ n < (ys.length : Int)) ∧ bs.length = 128 ∧ (b = true ↔ LeftP ys gs n.toNat bs) ∧ v = 0)
theorem MayRel.one {x : Cfg} {ys : List (List (List UInt8))} {gs : List GoTy.T} {n : Int} {bs : List UInt8} {b b' : Bool} {v v' : Int} (h : MayRel x ys gs n bs b v) (h' : MayRel x ys gs n bs b' v') : b = b' ∧ v = v' := by
  rcases h with ⟨h1, rfl, rfl⟩ | ⟨h1, h2, rfl, rfl⟩ | ⟨h1, h2, h3, rfl, rfl⟩ | ⟨h1, h2, h3, h4, rfl⟩ <;> rcases h' with ⟨k1, rfl, rfl⟩ | ⟨k1, k2, rfl, rfl⟩ | ⟨k1, k2, k3, rfl, rfl⟩ | ⟨k1, k2, k3, k4, rfl⟩ <;> first | exact ⟨rfl, rfl⟩ | exact absurd h1 k1 | exact absurd k1 h1 | exact absurd h2 k2 | exact absurd k2 h2 | exact absurd h3 k3 | exact absurd k3 h3 | exact ⟨Bool.eq_iff_iff.2 (h4.trans k4.symm), rfl⟩
def MayIs (x : Cfg) (ys : List (List (List UInt8))) (gs : List GoTy.T) (n : Int) (bs : List UInt8) (e : Ending) : Prop := ∃ (b : Bool) (v : Int), e = .returned (.tuple #[.bool b, .int .i64 v]) ∧ MayRel x ys gs n bs b v

theorem YesNo.or {P : Prop} {e : Ending} (h : YesNo P e) : (P ∧ e = .returned (.bool true)) ∨ (¬ P ∧ e = .returned (.bool false)) := by
  obtain ⟨b, rfl, hb⟩ := h
  cases b with
  | true => exact .inl ⟨hb.1 rfl, rfl⟩
  | false => exact .inr ⟨fun h => absurd (hb.2 h) (by decide), rfl⟩
set_option maxRecDepth 100000 in
set_option maxHeartbeats 1000000 in
theorem smay_any (S : Nat → Prop) (x : Cfg) (ys : List (List (List UInt8))) (gs : List GoTy.T) (A : Option Addr) (ca : Nat) (B : Option Addr) (cb : Nat) (n : Int) (D : Option Addr) (dc : Nat) (bs : List UInt8) (w : World) (hy : RdIn w S (.sl (.sl (.sl .byte))) ys [.slice A ys.length ca]) (hg : RdIn w S (.sl GoTy) gs [.slice B gs.length cb]) (hd : Bs w D bs.length bs) :
    Calls Try.prog 11 #[x.val, .agg #[.slice A ys.length ca, .slice B gs.length cb], .int .i64 n, .slice D bs.length dc] w fun e w' => MayIs x ys gs n bs e ∧ Below w.heap.size w w' := by
  have HPC : Hid (∀ w', Below w.heap.size w w' → Calls Try.prog 18 #[x.val, .agg #[.slice A ys.length ca, .slice B gs.length cb]] w' fun e w'' => OkBad (PlainOk x ys gs) e ∧ Below w'.heap.size w' w'') := fun w' bb => spcheck_any S x ys gs A ca B cb w' (hy.below bb) (hg.below bb)
  have HLF : Hid (PlainOk x ys gs → ∀ (k : Nat) (hk : k < ys.length), ∀ w', Below w.heap.size w w' → Calls Try.prog 39 #[.agg #[.slice A ys.length ca, .slice B gs.length cb], .int .i64 (k : Int), .slice D bs.length dc] w' fun e w'' => YesNo (LeftP ys gs k bs) e ∧ Below w'.heap.size w' w'') := fun hp k hk w' bb => sleft_any S ys gs A ca B cb k hk hp.short hp.fit D bs.length dc bs w' (hy.below bb) (hg.below bb) (hd.below bb)
  clear hy hg hd
  obtain ⟨id, m, c, r, l, h⟩ := x
  unfold Cfg.val at *
  dsimp only at *
  have C0 := BoxOf.alloc (BoxOf.new w #[.int .u32 (id : Int), .int .i64 m, .int .i64 c, .int .i64 r, .int .i64 l, .int .i64 h] 24) (.cells #[.slice A ys.length ca, .slice B gs.length cb] 28)
  have P0 := BoxOf.new' (w.alloc (.cells #[.int .u32 (id : Int), .int .i64 m, .int .i64 c, .int .i64 r, .int .i64 l, .int .i64 h] 24)) (w.heap.size + 1) #[.slice A ys.length ca, .slice B gs.length cb] 28 (by simp)
  have t0 := Ext.alloc (Ext.alloc (Below.refl w.heap.size w) (.cells #[.int .u32 (id : Int), .int .i64 m, .int .i64 c, .int .i64 r, .int .i64 l, .int .i64 h] 24)) (.cells #[.slice A ys.length ca, .slice B gs.length cb] 28)
  go_enter Try.func11, Try.ntmps11
  go_upto_region 1 with fail
  generalize (w.alloc (.cells #[.int .u32 (id : Int), .int .i64 m, .int .i64 c, .int .i64 r, .int .i64 l, .int .i64 h] 24)).alloc (.cells #[.slice A ys.length ca, .slice B gs.length cb] 28) = W at *
  have x0 := C0.cell
  have y0 := P0.cell
  go_wp2_with fail
  refine (HPC.out _ t0).mono ?_
  rintro e w1 ⟨h1, b1⟩
  have P1 := P0.next b1
  have t1 := Ext.trans t0 b1
  have x1 := P1.cell
  clear x0 y0 C0
  rcases h1 with ⟨hok, rfl⟩ | ⟨hno, rfl⟩
  · have HOK := Lib.hid hok
    clear hok
    rcases Bool.eq_false_or_eq_true (decide (n < 0)) with e1 | e1
    · go_wp2
      go_ret2
      exact ⟨⟨_, _, rfl, .inr (.inl ⟨HOK.out, by have := of_decide_eq_true e1; omega, rfl, rfl⟩)⟩, t1⟩
    · rcases Bool.eq_false_or_eq_true (decide ((ys.length : Int) ≤ n)) with e2 | e2
      · go_wp2
        go_ret2
        exact ⟨⟨_, _, rfl, .inr (.inl ⟨HOK.out, by have := of_decide_eq_true e2; omega, rfl, rfl⟩)⟩, t1⟩
      · have hn : 0 ≤ n ∧ n < (ys.length : Int) := by have := of_decide_eq_false e1; have := of_decide_eq_false e2; omega
        have HN := Lib.hid hn
        rcases Bool.eq_false_or_eq_true ((bs.length : Int) != 128) with e3 | e3
        · clear hn
          go_wp2
          go_ret2
          exact ⟨⟨_, _, rfl, .inr (.inr (.inl ⟨HOK.out, HN.out, by intro h9; rw [h9] at e3; simp at e3, rfl, rfl⟩))⟩, t1⟩
        · obtain ⟨k, hk⟩ : ∃ k : Nat, n = (k : Int) := ⟨n.toNat, by omega⟩
          subst hk
          have HL := Lib.hid (HLF.out HOK.out k (by omega) w1 t1)
          have HB : Hid (bs.length = 128) := by have h9 : (bs.length : Int) = 128 := (by simpa using e3)
                                                show _ = _
                                                omega
          have e2n : decide (ys.length ≤ k) = false := decide_eq_false (by omega)
          clear hn HLF
          go_wp2_with fail
          refine HL.out.mono ?_
          rintro e w2 ⟨⟨b, rfl, hb⟩, b2⟩
          have t2 := Ext.trans t1 b2
          have HBB := Lib.hid hb
          clear hb x1
          go_wp2
          go_ret2
          exact ⟨⟨_, _, rfl, .inr (.inr (.inr ⟨HOK.out, HN.out, HB.out, HBB.out, rfl⟩))⟩, t2⟩
  · have HNO := Lib.hid hno
    clear hno HLF
    go_wp2
    go_ret2
    exact ⟨⟨_, _, rfl, .inl ⟨HNO.out, rfl, rfl⟩⟩, t1⟩
set_option maxRecDepth 100000 in
set_option maxHeartbeats 1000000 in
theorem rmayp_any (S : Nat → Prop) (x : Cfg) (ys : List (List (List UInt8))) (gs : List GoTy.T) (A : Option Addr) (ca : Nat) (B : Option Addr) (cb : Nat) (n : Int) (D : Option Addr) (dc : Nat) (bs : List UInt8) (w : World) (hy : RdIn w S (.sl (.sl (.sl .byte))) ys [.slice A ys.length ca]) (hg : RdIn w S (.sl GoTy) gs [.slice B gs.length cb]) (hd : Bs w D bs.length bs) :
    Calls Try.prog 12 #[x.val, .agg #[.slice A ys.length ca, .slice B gs.length cb], .int .i64 n, .slice D bs.length dc] w fun e w' => MayIs x ys gs n bs e ∧ Below w.heap.size w w' := by
  have HPC : Hid (∀ w', Below w.heap.size w w' → Calls Try.prog 40 #[x.val, .agg #[.slice A ys.length ca, .slice B gs.length cb]] w' fun e w'' => YesNo (PlainOk x ys gs) e ∧ Below w'.heap.size w' w'') := fun w' bb => rpmay_any S x ys gs A ca B cb w' (hy.below bb) (hg.below bb)
  have HLF : Hid (PlainOk x ys gs → ∀ (k : Nat) (hk : k < ys.length), ∀ w', Below w.heap.size w w' → Calls Try.prog 41 #[.agg #[.slice A ys.length ca, .slice B gs.length cb], .int .i64 (k : Int), .slice D bs.length dc] w' fun e w'' => YesNo (LeftP ys gs k bs) e ∧ Below w'.heap.size w' w'') := fun hp k hk w' bb => rleft_any S ys gs A ca B cb k hk hp.short hp.fit D bs.length dc bs w' (hy.below bb) (hg.below bb) (hd.below bb)
  clear hy hg hd
  obtain ⟨id, m, c, r, l, h⟩ := x
  unfold Cfg.val at *
  dsimp only at *
  have C0 := BoxOf.alloc (BoxOf.new w #[.int .u32 (id : Int), .int .i64 m, .int .i64 c, .int .i64 r, .int .i64 l, .int .i64 h] 24) (.cells #[.slice A ys.length ca, .slice B gs.length cb] 28)
  have P0 := BoxOf.new' (w.alloc (.cells #[.int .u32 (id : Int), .int .i64 m, .int .i64 c, .int .i64 r, .int .i64 l, .int .i64 h] 24)) (w.heap.size + 1) #[.slice A ys.length ca, .slice B gs.length cb] 28 (by simp)
  have t0 := Ext.alloc (Ext.alloc (Below.refl w.heap.size w) (.cells #[.int .u32 (id : Int), .int .i64 m, .int .i64 c, .int .i64 r, .int .i64 l, .int .i64 h] 24)) (.cells #[.slice A ys.length ca, .slice B gs.length cb] 28)
  go_enter Try.func12, Try.ntmps12
  go_upto_region 1 with fail
  generalize (w.alloc (.cells #[.int .u32 (id : Int), .int .i64 m, .int .i64 c, .int .i64 r, .int .i64 l, .int .i64 h] 24)).alloc (.cells #[.slice A ys.length ca, .slice B gs.length cb] 28) = W at *
  have x0 := C0.cell
  have y0 := P0.cell
  go_wp2_with fail
  refine (HPC.out _ t0).mono ?_
  rintro e w1 ⟨h1, b1⟩
  have P1 := P0.next b1
  have t1 := Ext.trans t0 b1
  have x1 := P1.cell
  clear x0 y0 C0
  rcases h1.or with ⟨hok, rfl⟩ | ⟨hno, rfl⟩
  · have HOK := Lib.hid hok
    clear hok
    rcases Bool.eq_false_or_eq_true (decide (n < 0)) with e1 | e1
    · go_wp2
      go_ret2
      exact ⟨⟨_, _, rfl, .inr (.inl ⟨HOK.out, by have := of_decide_eq_true e1; omega, rfl, rfl⟩)⟩, t1⟩
    · rcases Bool.eq_false_or_eq_true (decide ((ys.length : Int) ≤ n)) with e2 | e2
      · go_wp2
        go_ret2
        exact ⟨⟨_, _, rfl, .inr (.inl ⟨HOK.out, by have := of_decide_eq_true e2; omega, rfl, rfl⟩)⟩, t1⟩
      · have hn : 0 ≤ n ∧ n < (ys.length : Int) := by have := of_decide_eq_false e1; have := of_decide_eq_false e2; omega
        have HN := Lib.hid hn
        rcases Bool.eq_false_or_eq_true ((bs.length : Int) != 128) with e3 | e3
        · clear hn
          go_wp2
          go_ret2
          exact ⟨⟨_, _, rfl, .inr (.inr (.inl ⟨HOK.out, HN.out, by intro h9; rw [h9] at e3; simp at e3, rfl, rfl⟩))⟩, t1⟩
        · obtain ⟨k, hk⟩ : ∃ k : Nat, n = (k : Int) := ⟨n.toNat, by omega⟩
          subst hk
          have HL := Lib.hid (HLF.out HOK.out k (by omega) w1 t1)
          have HB : Hid (bs.length = 128) := by have h9 : (bs.length : Int) = 128 := (by simpa using e3)
                                                show _ = _
                                                omega
          have e2n : decide (ys.length ≤ k) = false := decide_eq_false (by omega)
          clear hn HLF
          go_wp2_with fail
          refine HL.out.mono ?_
          rintro e w2 ⟨⟨b, rfl, hb⟩, b2⟩
          have t2 := Ext.trans t1 b2
          have HBB := Lib.hid hb
          clear hb x1
          go_wp2
          go_ret2
          exact ⟨⟨_, _, rfl, .inr (.inr (.inr ⟨HOK.out, HN.out, HB.out, HBB.out, rfl⟩))⟩, t2⟩
  · have HNO := Lib.hid hno
    clear hno HLF
    go_wp2
    go_ret2
    exact ⟨⟨_, _, rfl, .inl ⟨HNO.out, rfl, rfl⟩⟩, t1⟩
end Go.Proofs.Ytclbihcggjjgaaa
