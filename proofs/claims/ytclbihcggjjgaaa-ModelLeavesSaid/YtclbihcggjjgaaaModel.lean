/- Layer 30 (model): plain arrays as data; a request in new memory. -/
import Derived.Test.YtclbihcggjjgaaaRows
import Derived.Test.YtclbihcggjjgaaaDeep3
import Derived.Laws.CopyOwn
import Derived.Laws.ResultCell
import Derived.BigQuiet
import Derived.Deep.QuietTactic
import Derived.Great.Walk
import Derived.Test.YtclbihcggjjgaaaBox
import Derived.Deep.DeepCutAuto
namespace Go.Proofs.Ytclbihcggjjgaaa
open Go Go.RowKit
set_option linter.unusedSimpArgs false
set_option linter.unusedVariables false

abbrev AskTy : Ty := .st (.prod .byte (.prod .int (.prod .int (.prod (.sl .byte) .unit))))
abbrev GoTy : Ty := .st (.prod .int (.prod (.st (.prod .byte (.prod .int (.prod .int (.prod (.sl .byte) .unit))))) (.prod (.sl .int) .unit)))
abbrev PlTy : Ty := .st (.prod (.sl (.sl (.sl .byte))) (.prod (.sl (.st (.prod .int (.prod (.st (.prod .byte (.prod .int (.prod .int (.prod (.sl .byte) .unit))))) (.prod (.sl .int) .unit))))) .unit))
section
variable {w : World} {S : Nat → Prop}
theorem ask_view {a : AskTy.T} {cs : List Value} (h : RdIn w S AskTy a cs) : ∃ (ki : UInt8) (at' many : Int) (bs : List UInt8) (v : Value), a = (ki, at', many, bs, ()) ∧ cs = [.int .u8 (ki.toNat : Int), .int .i64 at', .int .i64 many, v] ∧ IsInt at' ∧ IsInt many ∧ RdIn w S (.sl .byte) bs [v] := by
  obtain ⟨ki, at', many, bs, u⟩ := a
  obtain ⟨c0, d0, rfl, r0, h⟩ := rdin_prod.1 (rdin_st.1 h)
  obtain ⟨c1, d1, rfl, r1, h⟩ := rdin_prod.1 h
  obtain ⟨c2, d2, rfl, r2, h⟩ := rdin_prod.1 h
  obtain ⟨c3, d3, rfl, r3, h⟩ := rdin_prod.1 h
  obtain rfl := rdin_unit.1 h
  obtain rfl := rdin_byte.1 r0
  obtain ⟨rfl, i1⟩ := rdin_int.1 r1
  obtain ⟨rfl, i2⟩ := rdin_int.1 r2
  obtain ⟨A, c, e, _⟩ := rdin_sl.1 r3
  subst e
  exact ⟨ki, at', many, bs, _, rfl, rfl, i1, i2, r3⟩
theorem ask_mk {ki : UInt8} {at' many : Int} {bs : List UInt8} {v : Value} (h1 : IsInt at') (h2 : IsInt many) (h : RdIn w S (.sl .byte) bs [v]) : RdIn w S AskTy (ki, at', many, bs, ()) [.int .u8 (ki.toNat : Int), .int .i64 at', .int .i64 many, v] :=
  rdin_st.2 (rdin_prod.2 ⟨[_], [_, _, _], rfl, rdin_byte.2 rfl, rdin_prod.2 ⟨[_], [_, _], rfl, rdin_int.2 ⟨rfl, h1⟩, rdin_prod.2 ⟨[_], [_], rfl, rdin_int.2 ⟨rfl, h2⟩, rdin_prod.2 ⟨[_], [], rfl, h, rdin_unit.2 rfl⟩⟩⟩⟩)
theorem going_view {g : GoTy.T} {cs : List Value} (h : RdIn w S GoTy g cs) : ∃ (nu : Int) (ki : UInt8) (at' many : Int) (bs : List UInt8) (v : Value) (ms : List Int) (u : Value), g = (nu, (ki, at', many, bs, ()), ms, ()) ∧ cs = [.int .i64 nu, .int .u8 (ki.toNat : Int), .int .i64 at', .int .i64 many, v, u] ∧ IsInt nu ∧ IsInt at' ∧ IsInt many ∧ RdIn w S (.sl .byte) bs [v] ∧ RdIn w S (.sl .int) ms [u] := by
  obtain ⟨nu, a, ms, x⟩ := g
  obtain ⟨c0, d0, rfl, r0, h⟩ := rdin_prod.1 (rdin_st.1 h)
  obtain ⟨c1, d1, rfl, r1, h⟩ := rdin_prod.1 h
  obtain ⟨c2, d2, rfl, r2, h⟩ := rdin_prod.1 h
  obtain rfl := rdin_unit.1 h
  obtain ⟨rfl, i0⟩ := rdin_int.1 r0
  obtain ⟨ki, at', many, bs, v, rfl, rfl, i1, i2, r3⟩ := ask_view r1
  obtain ⟨A, c, e, _⟩ := rdin_sl.1 r2
  subst e
  exact ⟨nu, ki, at', many, bs, v, ms, _, rfl, rfl, i0, i1, i2, r3, r2⟩
theorem going_mk {nu : Int} {ki : UInt8} {at' many : Int} {bs : List UInt8} {v : Value} {ms : List Int} {u : Value} (h0 : IsInt nu) (h1 : IsInt at') (h2 : IsInt many) (h : RdIn w S (.sl .byte) bs [v]) (h3 : RdIn w S (.sl .int) ms [u]) : RdIn w S GoTy (nu, (ki, at', many, bs, ()), ms, ()) [.int .i64 nu, .int .u8 (ki.toNat : Int), .int .i64 at', .int .i64 many, v, u] :=
  rdin_st.2 (rdin_prod.2 ⟨[_], [_, _, _, _, _], rfl, rdin_int.2 ⟨rfl, h0⟩, rdin_prod.2 ⟨[_, _, _, _], [_], rfl, ask_mk h1 h2 h, rdin_prod.2 ⟨[_], [], rfl, h3, rdin_unit.2 rfl⟩⟩⟩)
theorem plain_view {p : PlTy.T} {cs : List Value} (h : RdIn w S PlTy p cs) : ∃ (ys : List (List (List UInt8))) (gs : List GoTy.T) (v u : Value), p = (ys, gs, ()) ∧ cs = [v, u] ∧ RdIn w S (.sl (.sl (.sl .byte))) ys [v] ∧ RdIn w S (.sl GoTy) gs [u] := by
  obtain ⟨ys, gs, x⟩ := p
  obtain ⟨c0, d0, rfl, r0, h⟩ := rdin_prod.1 (rdin_st.1 h)
  obtain ⟨c1, d1, rfl, r1, h⟩ := rdin_prod.1 h
  obtain rfl := rdin_unit.1 h
  obtain ⟨A, c, e, _⟩ := rdin_sl.1 r0
  obtain ⟨B, d, e', _⟩ := rdin_sl.1 r1
  subst e e'
  exact ⟨ys, gs, _, _, rfl, rfl, r0, r1⟩
theorem plain_mk {ys : List (List (List UInt8))} {gs : List GoTy.T} {v u : Value} (h0 : RdIn w S (.sl (.sl (.sl .byte))) ys [v]) (h1 : RdIn w S (.sl GoTy) gs [u]) : RdIn w S PlTy (ys, gs, ()) [v, u] :=
  rdin_st.2 (rdin_prod.2 ⟨[_], [_], rfl, h0, rdin_prod.2 ⟨[_], [], rfl, h1, rdin_unit.2 rfl⟩⟩)
/-- a list, and its rows -/
theorem list_view {e : Ty} {xs : List e.T} {v : Value} (h : RdIn w S (.sl e) xs [v]) : ∃ A c, v = .slice A xs.length c ∧ xs.length ≤ c ∧ c ≤ maxLen ∧ xs.length * e.bytes ≤ 140737488355328 ∧ (0 < xs.length → ∃ b off, A = some ⟨b, off, none⟩ ∧ S b ∧ ∀ i (hi : i < xs.length), ∃ es : List Value, (∀ j, j < e.size → w.cell? ⟨b, off + i * e.size + j, none⟩ = es[j]?) ∧ RdIn w S e xs[i] es) := by
  obtain ⟨A, c, h1, hn, hm, hz, hx⟩ := rdin_sl.1 h
  refine ⟨A, c, (List.cons.inj h1).1, hn, hm, hz, fun h0 => ?_⟩
  rcases hx with hx | ⟨b, off, hA, hb, hx⟩
  · rw [hx] at h0; exact absurd h0 (by simp)
  · exact ⟨b, off, hA, hb, hx⟩
/-- a list of lists, and its rows -/
theorem lists_view {e : Ty} {xs : List (List e.T)} {v : Value} (h : RdIn w S (.sl (.sl e)) xs [v]) : ∃ A c, v = .slice A xs.length c ∧ xs.length ≤ c ∧ c ≤ maxLen ∧ xs.length * 24 ≤ 140737488355328 ∧ (0 < xs.length → ∃ b off, A = some ⟨b, off, none⟩ ∧ S b ∧ ∀ i (hi : i < xs.length), ∃ A' c', w.cell? ⟨b, off + i, none⟩ = some (.slice A' xs[i].length c') ∧ RdIn w S (.sl e) xs[i] [.slice A' xs[i].length c']) := by
  obtain ⟨A, c, h1, hn, hm, hz, hx⟩ := list_view h
  refine ⟨A, c, h1, hn, hm, hz, fun h0 => ?_⟩
  obtain ⟨b, off, hA, hb, hx⟩ := hx h0
  refine ⟨b, off, hA, hb, fun i hi => ?_⟩
  obtain ⟨es, hc, hr⟩ := hx i hi
  have h2 := hc 0 (show 0 < 1 by decide)
  obtain ⟨A', c', rfl, _⟩ := rdin_sl.1 hr
  refine ⟨A', c', ?_, hr⟩
  have h3 : off + i * Ty.size (.sl e) + 0 = off + i := by show off + i * 1 + 0 = off + i; omega
  rw [h3] at h2
  exact h2
end
theorem mbox_self {w : World} {g : Nat} {cs : Array Value} {t : TypeId} (h : BoxOf w g cs t) (i : Nat) (v : Value) : BoxOf (w.setCell ⟨g, i, none⟩ v) g (cs.setIfInBounds i v) t := by
  unfold BoxOf at *
  simp [World.setCell, Array.getElem?_modify, h]
theorem mbox_else {w : World} {g k : Nat} {cs : Array Value} {t : TypeId} (h : BoxOf w g cs t) (hk : g ≠ k) (i : Nat) (v : Value) : BoxOf (w.setCell ⟨k, i, none⟩ v) g cs t := by
  unfold BoxOf at *
  rw [Below.heap_setCell _ _ _ _ hk]; exact h
theorem RdIn.setElse {w : World} {S : Nat → Prop} {t : Ty} {x : t.T} {cs : List Value} (h : RdIn w S t x cs) {k : Nat} (hS : ∀ b, S b → b ≠ k) (i : Nat) (v : Value) : RdIn (w.setCell ⟨k, i, none⟩ v) S t x cs :=
  h.apart (g := k) hS fun p hp _ => World.cell?_of_block (Below.heap_setCell _ _ _ _ hp)
theorem msize (w : World) (a : Addr) (v : Value) : (w.setCell a v).heap.size = w.heap.size := by simp [World.setCell]
theorem OwnL.setElse {w : World} {base : Nat} {tid : TypeId} {e : Ty} {v : Value} {xs : List e.T} (h : OwnL w base tid e v xs) {k : Nat} (hk : k < base) (i : Nat) (u : Value) : OwnL (w.setCell ⟨k, i, none⟩ u) base tid e v xs := by
  obtain ⟨ess, hl, hr, ho⟩ := h
  refine ⟨ess, hl, fun j h h' => ((hr j h h').setElse (k := k) (fun b hb => by have := hb.1; omega) i u).mono fun b hb => ⟨hb.1, by rw [msize]; exact hb.2.1, hb.2.2.1, hb.2.2.2.set _ _⟩, ho.1, ?_⟩
  rcases ho.2 with h2 | ⟨g, cap, cur, hv, hb, hg, hr⟩
  · exact .inl h2
  · exact .inr ⟨g, cap, cur, hv, hb, by rw [Below.heap_setCell _ _ _ _ (show g ≠ k by omega)]; exact hg, hr⟩
theorem OwnL.slice {w : World} {base : Nat} {tid : TypeId} {e : Ty} {v : Value} {xs : List e.T} (h : OwnL w base tid e v xs) : ∃ A c, v = .slice A xs.length c := by
  obtain ⟨ess, hl, hr, ho⟩ := h
  rcases ho.2 with ⟨rfl, h0⟩ | ⟨g, cap, cur, rfl, _⟩
  · exact ⟨none, 0, by rw [h0]⟩
  · exact ⟨_, _, rfl⟩
theorem minfo_u8 : ∃ i, Try.prog.info? 5 = some i ∧ i.zero = some (.int .u8 0) ∧ i.size = 1 ∧ i.bytes = 1 := info_parts (by kernel_rfl)
theorem minfo_int : ∃ i, Try.prog.info? 3 = some i ∧ i.zero = some (.int .i64 0) ∧ i.size = 1 ∧ i.bytes = 8 := info_parts (by kernel_rfl)
theorem minfo_bytes : ∃ i, Try.prog.info? 29 = some i ∧ i.zero = some (.slice none 0 0) ∧ i.size = 1 ∧ i.bytes = 24 := info_parts (by kernel_rfl)
theorem minfo_lists : ∃ i, Try.prog.info? 30 = some i ∧ i.zero = some (.slice none 0 0) ∧ i.size = 1 ∧ i.bytes = 24 := info_parts (by kernel_rfl)
theorem minfo_going : ∃ i, Try.prog.info? 64 = some i ∧ i.zero = some (.agg #[.int .i64 0, .int .u8 0, .int .i64 0, .int .i64 0, .slice none 0 0, .slice none 0 0]) ∧ i.size = 6 ∧ i.bytes = 80 := info_parts (by kernel_rfl)

set_option maxRecDepth 100000 in
set_option maxHeartbeats 1000000 in
/-- a request in new memory -/
theorem rasktwin_any (S : Nat → Prop) (ki : UInt8) (at' many : Int) (bs : List UInt8) (A : Option Addr) (c : Nat) (w : World) (h : RdIn w S (.sl .byte) bs [.slice A bs.length c]) :
    Calls Try.prog 28 #[.agg #[.int .u8 (ki.toNat : Int), .int .i64 at', .int .i64 many, .slice A bs.length c]] w fun e w' => ∃ A' c', e = .returned (.agg #[.int .u8 (ki.toNat : Int), .int .i64 at', .int .i64 many, .slice A' bs.length c']) ∧ RdIn w' (NewB w.heap.size w') (.sl .byte) bs [.slice A' bs.length c'] ∧ Below w.heap.size w w' := by
  obtain ⟨i0, hi, hz0, hz1, hz2⟩ := minfo_u8
  have P0 := BoxOf.alloc (BoxOf.new w #[.int .u8 (ki.toNat : Int), .int .i64 at', .int .i64 many, .slice A bs.length c] 58) (.cells #[.int .u8 0, .int .i64 0, .int .i64 0, .slice none 0 0] 58)
  have Z0 := BoxOf.new' (w.alloc (.cells #[.int .u8 (ki.toNat : Int), .int .i64 at', .int .i64 many, .slice A bs.length c] 58)) (w.heap.size + 1) #[.int .u8 0, .int .i64 0, .int .i64 0, .slice none 0 0] 58 (by simp)
  have t0 := Ext.alloc (Ext.alloc (Below.refl w.heap.size w) (.cells #[.int .u8 (ki.toNat : Int), .int .i64 at', .int .i64 many, .slice A bs.length c] 58)) (.cells #[.int .u8 0, .int .i64 0, .int .i64 0, .slice none 0 0] 58)
  have h0 := h.below t0
  clear h
  go_enter Try.func28, Try.ntmps28
  go_upto_region 1 with fail
  generalize (w.alloc (.cells #[.int .u8 (ki.toNat : Int), .int .i64 at', .int .i64 many, .slice A bs.length c] 58)).alloc (.cells #[.int .u8 0, .int .i64 0, .int .i64 0, .slice none 0 0] 58) = W at *
  have x0 := P0.cell
  have f0 := P0.free
  go_wp2_with (at_builtin; refine wpList_copyL rfl (.const (.slice none 0 0)) (.tmp 4) 29 rfl 5 i0 _ .byte rfl Try.underlying29 hi hz0 hz1 hz2 rfl rfl S bs A bs.length c rfl h0 ?_; intro v1 w1 r1 b1; obtain ⟨A', c', rfl, _⟩ := r1.bytes; have P1 := P0.next b1; have Z1 := Z0.next b1; have t1 := Ext.trans t0 b1; have x1 := P1.cell; have f1 := P1.free; have z1 := Z1.cell; have g1 := Z1.free; have lz := Z0.lt; clear b1 x0 f0 h0)
  have Z2 := mbox_self (mbox_self (mbox_self (mbox_self (mbox_else Z1 (show w.heap.size + 1 ≠ w.heap.size by omega) 3 (.slice A' bs.length c')) 0 (.int .u8 (ki.toNat : Int))) 1 (.int .i64 at')) 2 (.int .i64 many)) 3 (.slice A' bs.length c')
  have t2 := Below.setCell (p := ⟨w.heap.size + 1, 3, none⟩) (Below.setCell (p := ⟨w.heap.size + 1, 2, none⟩) (Below.setCell (p := ⟨w.heap.size + 1, 1, none⟩) (Below.setCell (p := ⟨w.heap.size + 1, 0, none⟩) (Below.setCell (p := ⟨w.heap.size, 3, none⟩) t1 (Nat.le_refl _) (.slice A' bs.length c')) (show w.heap.size ≤ w.heap.size + 1 by omega) (.int .u8 (ki.toNat : Int))) (show w.heap.size ≤ w.heap.size + 1 by omega) (.int .i64 at')) (show w.heap.size ≤ w.heap.size + 1 by omega) (.int .i64 many)) (show w.heap.size ≤ w.heap.size + 1 by omega) (.slice A' bs.length c')
  have r2 := ((((r1.setElse (k := w.heap.size) (fun b hb => by have := hb.1; omega) 3 (.slice A' bs.length c')).setElse (k := w.heap.size + 1) (fun b hb => by have := hb.1; omega) 0 (.int .u8 (ki.toNat : Int))).setElse (k := w.heap.size + 1) (fun b hb => by have := hb.1; omega) 1 (.int .i64 at')).setElse (k := w.heap.size + 1) (fun b hb => by have := hb.1; omega) 2 (.int .i64 many)).setElse (k := w.heap.size + 1) (fun b hb => by have := hb.1; omega) 3 (.slice A' bs.length c')
  have hsz : w.heap.size ≤ W.heap.size := t0.size
  refine bodyPost_ret (v := .agg #[.int .u8 (ki.toNat : Int), .int .i64 at', .int .i64 many, .slice A' bs.length c']) (results_cell_row rfl _ _ (w.heap.size + 1) 58 #[.int .u8 (ki.toNat : Int), .int .i64 at', .int .i64 many, .slice A' bs.length c'] (0, 0) _ rfl Z2 Try.underlying58 rfl (by kernel_rfl)) rfl ⟨A', c', rfl, r2.mono fun b hb => ⟨by have := hb.1; omega, by simp only [msize]; exact hb.2.1, ((((hb.2.2.set _ _).set _ _).set _ _).set _ _).set _ _⟩, t2⟩
end Go.Proofs.Ytclbihcggjjgaaa
