/- Layer 8 (split): the document's Touch, and the twins. -/
import Derived.Test.YtmoaflnggcbhkaaSplitRef3
import Derived.Test.YtmoaflnggcbhkaaSplit6
import Derived.Test.YtmoaflnggcbhkaaSplit4
namespace Go.Proofs.Ytmoaflnggcbhkaa
open Go.RowKit
set_option linter.unusedSimpArgs false
set_option linter.unusedVariables false

set_option maxRecDepth 100000 in
theorem rtouch_1 (x : Cfg) (k1 a1 y1 k2 a2 y2 : Int) (A1 A2 : Option Addr) (n1 q1 n2 q2 : Nat) (E : Int) (hE : (E != 0) = true) (hE2 : (E == 0) = false) (HC1 : ∀ W, Calls Try.prog 19 #[x.val, .agg #[.int .u8 k1, .int .i64 a1, .int .i64 y1, .slice A1 n1 q1]] W fun e w' => e = .returned (.int .i64 E) ∧ Below W.heap.size W w') (w : World) :
    Calls Try.prog 18 #[x.val, .agg #[.int .u8 k1, .int .i64 a1, .int .i64 y1, .slice A1 n1 q1], .agg #[.int .u8 k2, .int .i64 a2, .int .i64 y2, .slice A2 n2 q2]] w fun e w' => e = .returned (.tuple #[.bool false, .int .i64 E]) ∧ Below w.heap.size w w' := by
  have K1 := Lib.hid HC1
  clear HC1
  obtain ⟨id, m, c, r, l, h⟩ := x
  unfold Cfg.val at *
  dsimp only at *
  go_enter Try.func18, Try.ntmps18
  go_wp2_with fail
  have C0 := BoxOf.alloc (BoxOf.alloc (BoxOf.new w #[.int .u32 (id : Int), .int .i64 m, .int .i64 c, .int .i64 r, .int .i64 l, .int .i64 h] 24) (.cells #[.int .u8 k1, .int .i64 a1, .int .i64 y1, .slice A1 n1 q1] 32)) (.cells #[.int .u8 k2, .int .i64 a2, .int .i64 y2, .slice A2 n2 q2] 32)
  have A0 := BoxOf.alloc (BoxOf.new' (w.alloc (.cells #[.int .u32 (id : Int), .int .i64 m, .int .i64 c, .int .i64 r, .int .i64 l, .int .i64 h] 24)) (w.heap.size + 1) #[.int .u8 k1, .int .i64 a1, .int .i64 y1, .slice A1 n1 q1] 32 (by simp)) (.cells #[.int .u8 k2, .int .i64 a2, .int .i64 y2, .slice A2 n2 q2] 32)
  have D0 := BoxOf.new' ((w.alloc (.cells #[.int .u32 (id : Int), .int .i64 m, .int .i64 c, .int .i64 r, .int .i64 l, .int .i64 h] 24)).alloc (.cells #[.int .u8 k1, .int .i64 a1, .int .i64 y1, .slice A1 n1 q1] 32)) (w.heap.size + 2) #[.int .u8 k2, .int .i64 a2, .int .i64 y2, .slice A2 n2 q2] 32 (by simp)
  have t0 := Ext.alloc (Ext.alloc (Ext.alloc (Below.refl w.heap.size w) (.cells #[.int .u32 (id : Int), .int .i64 m, .int .i64 c, .int .i64 r, .int .i64 l, .int .i64 h] 24)) (.cells #[.int .u8 k1, .int .i64 a1, .int .i64 y1, .slice A1 n1 q1] 32)) (.cells #[.int .u8 k2, .int .i64 a2, .int .i64 y2, .slice A2 n2 q2] 32)
  have x0 := C0.cell
  go_wp2_with fail
  refine (K1.out _).mono ?_
  rintro e w1 ⟨rfl, b1⟩
  have C1 := C0.next b1
  have A1 := A0.next b1
  have D1 := D0.next b1
  have t1 := Ext.trans t0 b1
  clear x0
  have x1 := C1.cell
  have y1 := A1.cell
  have z1 := D1.cell
  clear C0 A0 D0 t0 b1
  try clear y0 z0
  clear x1 y1 z1 C1 A1 D1
  go_wp2
  go_ret2
  exact ⟨rfl, t1⟩

set_option maxRecDepth 100000 in
theorem rtouch_2 (x : Cfg) (k1 a1 y1 k2 a2 y2 : Int) (A1 A2 : Option Addr) (n1 q1 n2 q2 : Nat) (E : Int) (hE : (E != 0) = true) (hE2 : (E == 0) = false) (HC1 : ∀ W, Calls Try.prog 19 #[x.val, .agg #[.int .u8 k1, .int .i64 a1, .int .i64 y1, .slice A1 n1 q1]] W fun e w' => e = .returned (.int .i64 0) ∧ Below W.heap.size W w') (HC2 : ∀ W, Calls Try.prog 19 #[x.val, .agg #[.int .u8 k2, .int .i64 a2, .int .i64 y2, .slice A2 n2 q2]] W fun e w' => e = .returned (.int .i64 E) ∧ Below W.heap.size W w') (w : World) :
    Calls Try.prog 18 #[x.val, .agg #[.int .u8 k1, .int .i64 a1, .int .i64 y1, .slice A1 n1 q1], .agg #[.int .u8 k2, .int .i64 a2, .int .i64 y2, .slice A2 n2 q2]] w fun e w' => e = .returned (.tuple #[.bool false, .int .i64 E]) ∧ Below w.heap.size w w' := by
  have K1 := Lib.hid HC1
  have K2 := Lib.hid HC2
  clear HC1 HC2
  obtain ⟨id, m, c, r, l, h⟩ := x
  unfold Cfg.val at *
  dsimp only at *
  go_enter Try.func18, Try.ntmps18
  go_wp2_with fail
  have C0 := BoxOf.alloc (BoxOf.alloc (BoxOf.new w #[.int .u32 (id : Int), .int .i64 m, .int .i64 c, .int .i64 r, .int .i64 l, .int .i64 h] 24) (.cells #[.int .u8 k1, .int .i64 a1, .int .i64 y1, .slice A1 n1 q1] 32)) (.cells #[.int .u8 k2, .int .i64 a2, .int .i64 y2, .slice A2 n2 q2] 32)
  have A0 := BoxOf.alloc (BoxOf.new' (w.alloc (.cells #[.int .u32 (id : Int), .int .i64 m, .int .i64 c, .int .i64 r, .int .i64 l, .int .i64 h] 24)) (w.heap.size + 1) #[.int .u8 k1, .int .i64 a1, .int .i64 y1, .slice A1 n1 q1] 32 (by simp)) (.cells #[.int .u8 k2, .int .i64 a2, .int .i64 y2, .slice A2 n2 q2] 32)
  have D0 := BoxOf.new' ((w.alloc (.cells #[.int .u32 (id : Int), .int .i64 m, .int .i64 c, .int .i64 r, .int .i64 l, .int .i64 h] 24)).alloc (.cells #[.int .u8 k1, .int .i64 a1, .int .i64 y1, .slice A1 n1 q1] 32)) (w.heap.size + 2) #[.int .u8 k2, .int .i64 a2, .int .i64 y2, .slice A2 n2 q2] 32 (by simp)
  have t0 := Ext.alloc (Ext.alloc (Ext.alloc (Below.refl w.heap.size w) (.cells #[.int .u32 (id : Int), .int .i64 m, .int .i64 c, .int .i64 r, .int .i64 l, .int .i64 h] 24)) (.cells #[.int .u8 k1, .int .i64 a1, .int .i64 y1, .slice A1 n1 q1] 32)) (.cells #[.int .u8 k2, .int .i64 a2, .int .i64 y2, .slice A2 n2 q2] 32)
  have x0 := C0.cell
  go_wp2_with fail
  refine (K1.out _).mono ?_
  rintro e w1 ⟨rfl, b1⟩
  have C1 := C0.next b1
  have A1 := A0.next b1
  have D1 := D0.next b1
  have t1 := Ext.trans t0 b1
  clear x0
  have x1 := C1.cell
  have y1 := A1.cell
  have z1 := D1.cell
  clear C0 A0 D0 t0 b1
  try clear y0 z0
  go_wp2_with fail
  refine (K2.out _).mono ?_
  rintro e w2 ⟨rfl, b2⟩
  have C2 := C1.next b2
  have A2 := A1.next b2
  have D2 := D1.next b2
  have t2 := Ext.trans t1 b2
  clear x1
  have x2 := C2.cell
  have y2 := A2.cell
  have z2 := D2.cell
  clear C1 A1 D1 t1 b2
  try clear y1 z1
  go_wp2
  go_ret2
  exact ⟨rfl, t2⟩

set_option maxRecDepth 100000 in
theorem rtouch_ok (x : Cfg) (k1 a1 y1 k2 a2 y2 : Int) (A1 A2 : Option Addr) (n1 q1 n2 q2 : Nat) (HC1 : ∀ W, Calls Try.prog 19 #[x.val, .agg #[.int .u8 k1, .int .i64 a1, .int .i64 y1, .slice A1 n1 q1]] W fun e w' => e = .returned (.int .i64 0) ∧ Below W.heap.size W w') (HC2 : ∀ W, Calls Try.prog 19 #[x.val, .agg #[.int .u8 k2, .int .i64 a2, .int .i64 y2, .slice A2 n2 q2]] W fun e w' => e = .returned (.int .i64 0) ∧ Below W.heap.size W w') (hy1 : 0 ≤ y1 ∧ y1 ≤ 8) (hy2 : 0 ≤ y2 ∧ y2 ≤ 8) (ha1 : 0 ≤ a1 ∧ a1 ≤ 1000) (ha2 : 0 ≤ a2 ∧ a2 ≤ 1000) (w : World) :
    Calls Try.prog 18 #[x.val, .agg #[.int .u8 k1, .int .i64 a1, .int .i64 y1, .slice A1 n1 q1], .agg #[.int .u8 k2, .int .i64 a2, .int .i64 y2, .slice A2 n2 q2]] w fun e w' => e = .returned (.tuple #[.bool (meetB k1 a1 y1 k2 a2 y2), .int .i64 0]) ∧ Below w.heap.size w w' := by
  have K1 := Lib.hid HC1
  have K2 := Lib.hid HC2
  have K3 := Lib.hid (rmeet_any k1 a1 y1 k2 a2 y2 A1 A2 n1 q1 n2 q2 hy1 hy2 ha1 ha2)
  clear HC1 HC2
  obtain ⟨id, m, c, r, l, h⟩ := x
  unfold Cfg.val at *
  dsimp only at *
  go_enter Try.func18, Try.ntmps18
  go_wp2_with fail
  have C0 := BoxOf.alloc (BoxOf.alloc (BoxOf.new w #[.int .u32 (id : Int), .int .i64 m, .int .i64 c, .int .i64 r, .int .i64 l, .int .i64 h] 24) (.cells #[.int .u8 k1, .int .i64 a1, .int .i64 y1, .slice A1 n1 q1] 32)) (.cells #[.int .u8 k2, .int .i64 a2, .int .i64 y2, .slice A2 n2 q2] 32)
  have A0 := BoxOf.alloc (BoxOf.new' (w.alloc (.cells #[.int .u32 (id : Int), .int .i64 m, .int .i64 c, .int .i64 r, .int .i64 l, .int .i64 h] 24)) (w.heap.size + 1) #[.int .u8 k1, .int .i64 a1, .int .i64 y1, .slice A1 n1 q1] 32 (by simp)) (.cells #[.int .u8 k2, .int .i64 a2, .int .i64 y2, .slice A2 n2 q2] 32)
  have D0 := BoxOf.new' ((w.alloc (.cells #[.int .u32 (id : Int), .int .i64 m, .int .i64 c, .int .i64 r, .int .i64 l, .int .i64 h] 24)).alloc (.cells #[.int .u8 k1, .int .i64 a1, .int .i64 y1, .slice A1 n1 q1] 32)) (w.heap.size + 2) #[.int .u8 k2, .int .i64 a2, .int .i64 y2, .slice A2 n2 q2] 32 (by simp)
  have t0 := Ext.alloc (Ext.alloc (Ext.alloc (Below.refl w.heap.size w) (.cells #[.int .u32 (id : Int), .int .i64 m, .int .i64 c, .int .i64 r, .int .i64 l, .int .i64 h] 24)) (.cells #[.int .u8 k1, .int .i64 a1, .int .i64 y1, .slice A1 n1 q1] 32)) (.cells #[.int .u8 k2, .int .i64 a2, .int .i64 y2, .slice A2 n2 q2] 32)
  have x0 := C0.cell
  go_wp2_with fail
  refine (K1.out _).mono ?_
  rintro e w1 ⟨rfl, b1⟩
  have C1 := C0.next b1
  have A1 := A0.next b1
  have D1 := D0.next b1
  have t1 := Ext.trans t0 b1
  clear x0
  have x1 := C1.cell
  have y1 := A1.cell
  have z1 := D1.cell
  clear C0 A0 D0 t0 b1
  try clear y0 z0
  go_wp2_with fail
  refine (K2.out _).mono ?_
  rintro e w2 ⟨rfl, b2⟩
  have C2 := C1.next b2
  have A2 := A1.next b2
  have D2 := D1.next b2
  have t2 := Ext.trans t1 b2
  clear x1
  have x2 := C2.cell
  have y2 := A2.cell
  have z2 := D2.cell
  clear C1 A1 D1 t1 b2
  try clear y1 z1
  go_wp2_with fail
  refine (K3.out _).mono ?_
  rintro e w3 ⟨rfl, b3⟩
  have C3 := C2.next b3
  have A3 := A2.next b3
  have D3 := D2.next b3
  have t3 := Ext.trans t2 b3
  clear x2
  have x3 := C3.cell
  have y3 := A3.cell
  have z3 := D3.cell
  clear C2 A2 D2 t2 b3
  try clear y2 z2
  go_wp2
  go_ret2
  exact ⟨rfl, t3⟩

theorem askCode_ne' (x : Cfg) (k a y : Int) (n : Nat) (h : askCode x k a y n ≠ 0) : (askCode x k a y n == 0) = false := by simpa using h
/-- the two answers about two requests -/
def tchB (x : Cfg) (k1 a1 y1 k2 a2 y2 : Int) (n1 n2 : Nat) : Bool := if askCode x k1 a1 y1 n1 = 0 then (if askCode x k2 a2 y2 n2 = 0 then touchB k1 a1 y1 k2 a2 y2 else false) else false
def tchE (x : Cfg) (k1 a1 y1 k2 a2 y2 : Int) (n1 n2 : Nat) : Int := if askCode x k1 a1 y1 n1 = 0 then askCode x k2 a2 y2 n2 else askCode x k1 a1 y1 n1
theorem rtouch_any (x : Cfg) (k1 a1 y1 k2 a2 y2 : Int) (A1 A2 : Option Addr) (n1 q1 n2 q2 : Nat) (w : World) :
    Calls Try.prog 18 #[x.val, .agg #[.int .u8 k1, .int .i64 a1, .int .i64 y1, .slice A1 n1 q1], .agg #[.int .u8 k2, .int .i64 a2, .int .i64 y2, .slice A2 n2 q2]] w fun e w' => e = .returned (.tuple #[.bool (tchB x k1 a1 y1 k2 a2 y2 n1 n2), .int .i64 (tchE x k1 a1 y1 k2 a2 y2 n1 n2)]) ∧ Below w.heap.size w w' := by
  have c1 := rcheck_all x k1 a1 y1 A1 n1 q1
  have c2 := rcheck_all x k2 a2 y2 A2 n2 q2
  unfold tchB tchE
  by_cases e1 : askCode x k1 a1 y1 n1 = 0
  · rw [if_pos e1, if_pos e1]
    obtain ⟨_, p1, _, u1, v1, s1⟩ := askCode_0 e1
    rw [e1] at c1
    by_cases e2 : askCode x k2 a2 y2 n2 = 0
    · rw [if_pos e2, e2]
      rw [e2] at c2
      obtain ⟨_, p2, _, u2, v2, s2⟩ := askCode_0 e2
      have h1 : 0 ≤ a1 ∧ (1 ≤ y1 ∨ (a1 = 0 ∧ y1 = 0)) := by unfold Placed at p1; omega
      have h2 : 0 ≤ a2 ∧ (1 ≤ y2 ∨ (a2 = 0 ∧ y2 = 0)) := by unfold Placed at p2; omega
      rw [← meet_touch h1 h2]
      exact rtouch_ok x k1 a1 y1 k2 a2 y2 A1 A2 n1 q1 n2 q2 c1 c2 u1 u2 v1 v2 w
    · rw [if_neg e2]
      exact rtouch_2 x k1 a1 y1 k2 a2 y2 A1 A2 n1 q1 n2 q2 _ (askCode_ne _ _ _ _ _ e2) (askCode_ne' _ _ _ _ _ e2) c1 c2 w
  · rw [if_neg e1, if_neg e1]
    exact rtouch_1 x k1 a1 y1 k2 a2 y2 A1 A2 n1 q1 n2 q2 _ (askCode_ne _ _ _ _ _ e1) (askCode_ne' _ _ _ _ _ e1) c1 w
theorem stouch_any (x : Cfg) (k1 a1 y1 k2 a2 y2 : Int) (A1 A2 : Option Addr) (n1 q1 n2 q2 : Nat) (w : World) :
    Calls Try.prog 15 #[x.val, .agg #[.int .u8 k1, .int .i64 a1, .int .i64 y1, .slice A1 n1 q1], .agg #[.int .u8 k2, .int .i64 a2, .int .i64 y2, .slice A2 n2 q2]] w fun e w' => e = .returned (.tuple #[.bool (tchB x k1 a1 y1 k2 a2 y2 n1 n2), .int .i64 (tchE x k1 a1 y1 k2 a2 y2 n1 n2)]) ∧ Below w.heap.size w w' := by
  unfold tchB tchE
  by_cases e1 : askCode x k1 a1 y1 n1 = 0
  · rw [if_pos e1, if_pos e1]
    by_cases e2 : askCode x k2 a2 y2 n2 = 0
    · rw [if_pos e2, e2]
      exact touch_all x k1 a1 y1 k2 a2 y2 A1 A2 n1 q1 n2 q2 e1 e2 w
    · rw [if_neg e2]
      exact touch_no2 x k1 a1 y1 k2 a2 y2 A1 A2 n1 q1 n2 q2 e1 e2 w
  · rw [if_neg e1, if_neg e1]
    exact touch_no1 x k1 a1 y1 k2 a2 y2 A1 A2 n1 q1 n2 q2 e1 w

theorem own_block_same {w w' : World} {base e size n : Nat} {v : Value} {xs : List Value} (h : w.ownsRow base e size v n xs) (hk : ∀ k, v.ownBlock = some k → w'.heap[k]? = w.heap[k]?) : w'.ownsRow base e size v n xs := by
  refine ⟨h.1, ?_⟩
  rcases h.2 with h2 | ⟨g, cap, cur, hv, hg, hr, hrest⟩
  · exact .inl h2
  · exact .inr ⟨g, cap, cur, hv, hg, by rw [hk g (by rw [hv]; rfl)]; exact hr, hrest⟩
theorem own_setRow {w : World} {base e size n : Nat} {v : Value} {xs : List Value} (h : w.ownsRow base e size v n xs) {g : Nat} (hg : v.ownBlock ≠ some g) (cs : Array Value) : (w.setRow g cs).ownsRow base e size v n xs :=
  own_block_same h fun k hk => setRow_other w g k cs (fun e => hg (by rw [hk, e]))
theorem own_setCell {w : World} {base e size n : Nat} {v : Value} {xs : List Value} (h : w.ownsRow base e size v n xs) {g : Nat} (hg : v.ownBlock ≠ some g) (i : Nat) (c : Value) : (w.setCell ⟨g, i, none⟩ c).ownsRow base e size v n xs :=
  own_block_same h fun k hk => Below.heap_setCell _ _ _ _ (fun e => hg (by rw [hk, e]))

/-- the twin: the same words, the bytes in new memory -/
theorem twin_any (k a y : Int) (A : Option Addr) (n q : Nat) (bs : List UInt8) (hn : n ≤ 5000) (w : World) (hb : Bs w A n bs) :
    Calls Try.prog 16 #[.agg #[.int .u8 k, .int .i64 a, .int .i64 y, .slice A n q]] w fun e w' => ∃ (A' : Option Addr) (q' : Nat), e = .returned (.agg #[.int .u8 k, .int .i64 a, .int .i64 y, .slice A' n q']) ∧ w'.ownsRow w.heap.size 5 1 (.slice A' n q') n (bs.map byteV) ∧ Below w.heap.size w w' := by
  obtain ⟨i0, hi, hz0, hz1, hz2⟩ := info_u8
  go_enter Try.func16, Try.ntmps16
  have B0 := BoxOf.alloc (BoxOf.new w #[.int .u8 k, .int .i64 a, .int .i64 y, .slice A n q] 32) (.cells #[.int .u8 0, .int .i64 0, .int .i64 0, .slice none 0 0] 32)
  have D0 := BoxOf.new' (w.alloc (.cells #[.int .u8 k, .int .i64 a, .int .i64 y, .slice A n q] 32)) (w.heap.size + 1) #[.int .u8 0, .int .i64 0, .int .i64 0, .slice none 0 0] 32 (by simp)
  have t0 := Ext.alloc (Ext.alloc (Below.refl w.heap.size w) (.cells #[.int .u8 k, .int .i64 a, .int .i64 y, .slice A n q] 32)) (.cells #[.int .u8 0, .int .i64 0, .int .i64 0, .slice none 0 0] 32)
  have hb0 := hb.below t0
  have B1 := Lib.hid B0
  have D1 := Lib.hid D0
  clear B0 D0 hb
  go_wp2_with (first
    | (at_builtin; refine wpList_append_rd _ rfl (.const (.slice none 0 0)) (.tmp 4) _ rfl (w.heap.size + 2) 5 i0 _ 1 1 Try.underlying30 hi hz0 hz1 hz2 rfl (by omega) (.slice none 0 0) 0 [] rfl (World.ownsRow_nil _ _ _ _) A n q (bs.map byteV) rfl (by simpa using hb0.1) hb0.2 (byteV_one _) (by unfold maxLen; omega) (by omega) (by simp) ?_; intro v1 w2 own1 g1 at1; simp only [Nat.zero_add, List.nil_append] at own1; obtain ⟨A1, c1, rfl, _, ho2⟩ := Bs.of_own own1; have B2 := B1.out.grown g1 (by simp [Value.ownBlock]); have x2 := B2.cell; have f2 := B2.free; have B3 := Lib.hid B2; have D3 := Lib.hid (D1.out.grown g1 (by simp [Value.ownBlock])); have t2 := Below.grown t0 g1 (by simp; omega) (by simp [Value.ownBlock]); have l2 := B2.lt; have O2 := Lib.hid own1; clear own1 g1 B2 B1 D1 at1)
    | (refine wpList_store_rowTo rfl 32 (.tmp 2) (.tmp 7) rfl rfl (w.heap.size + 1) #[.int .u8 k, .int .i64 a, .int .i64 y, .slice A1 n c1] rfl rfl 32 #[.int .u8 0, .int .i64 0, .int .i64 0, .slice none 0 0] (D3.out.setOther (by omega) _ _) (by kernel_rfl) rfl (by kernel_rfl) ?_))
  exact bodyPost_ret (v := .agg #[.int .u8 k, .int .i64 a, .int .i64 y, .slice A1 n c1]) (results_cell_row rfl _ _ (w.heap.size + 1) 32 #[.int .u8 k, .int .i64 a, .int .i64 y, .slice A1 n c1] (0, 0) _ rfl ((D3.out.setOther (by omega) _ _).set _) Try.underlying32 rfl (by kernel_rfl)) rfl
    ⟨A1, c1, rfl, own_base (own_setRow (own_setCell O2.out (own_ne O2.out (by omega)) _ _) (own_ne O2.out (by omega)) _) (by omega), Ext.setRow (Below.setCell (p := ⟨w.heap.size, 3, none⟩) t2 (Nat.le_refl _) _) (Nat.le_succ _) _⟩

theorem same_any (k a y : Int) (A1 A2 : Option Addr) (n q1 q2 : Nat) (bs : List UInt8) (w : World) (h1 : Bs w A1 n bs) (h2 : Bs w A2 n bs) :
    Calls Try.prog 20 #[.agg #[.int .u8 k, .int .i64 a, .int .i64 y, .slice A1 n q1], .agg #[.int .u8 k, .int .i64 a, .int .i64 y, .slice A2 n q2]] w fun e w' => e = .returned (.bool true) ∧ Below w.heap.size w w' := by
  go_enter Try.func20, Try.ntmps20
  have t0 := Ext.alloc (Ext.alloc (Below.refl w.heap.size w) (.cells #[.int .u8 k, .int .i64 a, .int .i64 y, .slice A1 n q1] 32)) (.cells #[.int .u8 k, .int .i64 a, .int .i64 y, .slice A2 n q2] 32)
  have s1 := run_string_bs (P := Try.prog) q1 30 9 5 Try.underlying30 Try.underlying5 Try.underlying9 (h1.below t0)
  have s2 := run_string_bs (P := Try.prog) q2 30 9 5 Try.underlying30 Try.underlying5 Try.underlying9 (h2.below t0)
  clear h1 h2
  go_wp2
  go_ret
  exact ⟨rfl, t0⟩
end Go.Proofs.Ytmoaflnggcbhkaa
