/- What this claim needs of my texts, merged (part 5). -/
import Derived.Test.YtclbihcggjjgaaaZModelNames4
/- Layer 30 (model): ModelNames: limits, errors, the chapter's examples. -/
namespace Go.Proofs.Ytclbihcggjjgaaa
open Go Go.RowKit
set_option linter.unusedSimpArgs false
set_option linter.unusedVariables false
set_option linter.unusedSectionVars false

/-! ### the example, plainly -/
theorem part_full (x : UInt8) : part128 (fullL x) 0 = fullL x := by
  unfold part128
  rw [Nat.zero_mul, List.drop_zero, List.take_of_length_le (by rw [fullL_len]; exact Nat.le_refl _)]
theorem blk_full (x : UInt8) : blk 2 (fullL x) 0 = fullL x := by
  unfold blk
  rw [if_pos (by decide), part_full]
theorem end_write (r0 : List (List UInt8)) (rs : Ys) (gs : List GoTy.T) (x : UInt8) (hl : r0.length ≤ 500) : endS 2 (fullL x) 0 1 (r0 :: rs, gs) = some (((r0 ++ [fullL x]) :: rs, gs), []) := by
  show stepS 2 (fullL x) 0 0 ((r0 :: rs, gs), []) = _
  have e : putS 2 (0 + 0) (blk 2 (fullL x) 0) (r0 :: rs, gs) = ((r0 ++ [fullL x]) :: rs, gs) := by rw [blk_full]; rfl
  unfold stepS
  rw [if_pos (by decide)]
  simp only [e]
  rw [if_neg]
  show ¬ 512 < (r0 ++ [fullL x]).length
  rw [List.length_append, List.length_singleton]
  omega
def exRow : Ys := [[zeros], [zeros], [zeros]]
def exG2 : GoTy.T := newGo 2 4 0 0 [] ([zeros, fullL 1] :: exRow)
def exG3 : GoTy.T := newGo 3 2 0 1 (fullL 2) ([zeros, fullL 1] :: exRow)
def exG4 : GoTy.T := newGo 4 1 0 1 [] ([fullL 1, fullL 2] :: exRow)
theorem ex_1 : endAll (nulls 4) [begGo] 0 = some (([zeros, fullL 1] :: exRow, []), []) := end_write [zeros] exRow [] 1 (by simp)
theorem ex_3 : endAll ([zeros, fullL 1] :: exRow) [exG2, exG3] 1 = some (([zeros, fullL 1, fullL 2] :: exRow, [exG2]), []) := end_write [zeros, fullL 1] exRow [exG2] 2 (by simp)
theorem ex_2 : endAll ([zeros, fullL 1, fullL 2] :: exRow) [exG2] 0 = some (([fullL 1, fullL 2] :: exRow, []), []) := rfl
theorem ex_4 : endAll ([fullL 1, fullL 2] :: exRow) [exG4] 0 = some (([fullL 1, fullL 2] :: exRow, []), fullL 2) := by
  show (endS 1 [] 0 1 ([fullL 1, fullL 2] :: exRow, [])) = _
  rw [endS_read (by decide)]
  rfl
theorem ex_p1 : PlainOk cfgTwo ([zeros, fullL 1] :: exRow) [] := (endAll_ok two_plain1 (j := 0) (by decide) ex_1).1
theorem ex_p2 : PlainOk cfgTwo ([zeros, fullL 1] :: exRow) [exG2] := ex_p1.begin (number := 2) (ki := 4) (a := 0) (y := 0) (bs := []) (by decide) ⟨by decide, fun ⟨i, hi, _⟩ => by simp at hi⟩ (by simp)
theorem ex_p3 : PlainOk cfgTwo ([zeros, fullL 1] :: exRow) [exG2, exG3] := ex_p2.begin (number := 3) (ki := 2) (a := 0) (y := 1) (bs := fullL 2) (by rw [fullL_len]; decide) ⟨by decide, fun ⟨i, hi, h⟩ => by
  have : i = 0 := by simpa using hi
  subst this
  have h' : numB 3 exG2 = true := h
  revert h'
  decide⟩ (by simp)
theorem ex_p4 : PlainOk cfgTwo ([zeros, fullL 1, fullL 2] :: exRow) [exG2] := (endAll_ok ex_p3 (j := 1) (by decide) ex_3).1
theorem ex_p5 : PlainOk cfgTwo ([fullL 1, fullL 2] :: exRow) [] := (endAll_ok ex_p4 (j := 0) (by decide) ex_2).1
theorem ex_p6 : PlainOk cfgTwo ([fullL 1, fullL 2] :: exRow) [exG4] := ex_p5.begin (number := 4) (ki := 1) (a := 0) (y := 1) (bs := []) (by decide) ⟨by decide, fun ⟨i, hi, _⟩ => by simp at hi⟩ (by simp)

/-! ### the calls of the example -/
section
variable (S : Nat → Prop) {ys : Ys} {gs : List GoTy.T} {n m : Nat} (hp : PlainOk cfgTwo ys gs) (hl : ys.length = n) (hm : gs.length = m) (A : Option Addr) (c : Nat) (B : Option Addr) (d : Nat) (w : World) (hy : RdIn w S (.sl (.sl (.sl .byte))) ys [.slice A n c]) (hg : RdIn w S (.sl GoTy) gs [.slice B m d])
include hp hl hm hy hg
theorem two_end {n' m' L : Nat} {j : Nat} (hj : j < gs.length) {number many : Int} (hn : nuOf gs[j] = number) {zs : Ys} {hs : List GoTy.T} {dat : List UInt8} (ht : endAll ys gs j = some ((zs, hs), dat)) (hz : zs.length = n') (hh : hs.length = m') (hL : dat.length = L) (hmany : manyOf gs[j] = many) :
    Calls Try.prog 23 #[cfgTwo.val, .agg #[.slice A n c, .slice B m d], .int .i64 number] w fun e w' => ∃ A' c' B' d' D q, e = .returned (.tuple #[.agg #[.slice A' n' c', .slice B' m' d'], .agg #[.int .i64 number, .int .i64 0, .slice D L q, .int .i64 many], .int .i64 0]) ∧
      (RdIn w' (NewB w.heap.size w') (.sl (.sl (.sl .byte))) zs [.slice A' n' c'] ∧ RdIn w' (NewB w.heap.size w') (.sl GoTy) hs [.slice B' m' d'] ∧ RdIn w' (NewB w.heap.size w') (.sl .byte) dat [.slice D L q]) ∧ Below w.heap.size w w' := by
  subst hl hm
  refine (send0_any S cfgTwo ys gs A c B d number w hy hg).mono ?_
  rintro e w' ⟨⟨v, zs', hs', rn, dat', many', A', c', B', d', D, q, rfl, hr, r1, r2, r3⟩, b⟩
  obtain ⟨rfl, rfl, rfl, rfl, rfl, rfl⟩ := hr.zero hp hj hn ht
  subst hz hh hL hmany
  exact ⟨A', c', B', d', D, q, rfl, ⟨r1, r2, r3⟩, b⟩
theorem two_end_none {number : Int} (hn : ∀ j (hj : j < gs.length), ¬ nuOf gs[j] = number) :
    Calls Try.prog 23 #[cfgTwo.val, .agg #[.slice A n c, .slice B m d], .int .i64 number] w fun e w' => ∃ A' c' B' d' D q, e = .returned (.tuple #[.agg #[.slice A' 0 c', .slice B' 0 d'], .agg #[.int .i64 0, .int .i64 0, .slice D 0 q, .int .i64 0], .int .i64 6]) ∧ Below w.heap.size w w' := by
  subst hl hm
  refine (send0_any S cfgTwo ys gs A c B d number w hy hg).mono ?_
  rintro e w' ⟨⟨v, zs', hs', rn, dat', many', A', c', B', d', D, q, rfl, hr, r1, r2, r3⟩, b⟩
  have h2 : EndRel cfgTwo ys gs number 6 [] [] 0 [] 0 := .inr (.inl ⟨hp, hn, rfl, rfl, rfl, rfl, rfl, rfl⟩)
  obtain ⟨rfl, rfl, rfl, rfl, rfl, rfl⟩ := hr.one h2
  exact ⟨A', c', B', d', D, q, rfl, b⟩
theorem two_begin {number : Int} (hi : IsInt number) {ki : UInt8} {a y : Int} {bs : List UInt8} {L : Nat} (hL : bs.length = L) (D : Option Addr) (q : Nat) (hd : RdIn w S (.sl .byte) bs [.slice D L q]) (hc : askCode cfgTwo ((ki.toNat : Nat) : Int) a y bs.length = 0) (hn : 1 ≤ number ∧ ¬ SomeIs (numB number) gs) (h8 : ¬ gs.length = 8) {kv : Int} (hk : ((ki.toNat : Nat) : Int) = kv) :
    Calls Try.prog 24 #[cfgTwo.val, .agg #[.slice A n c, .slice B m d], .int .i64 number, .agg #[.int .u8 kv, .int .i64 a, .int .i64 y, .slice D L q]] w fun e w' => ∃ A' c' B' d', e = .returned (.tuple #[.agg #[.slice A' n c', .slice B' (m + 1) d'], .int .i64 0]) ∧
      (RdIn w' (NewB w.heap.size w') (.sl (.sl (.sl .byte))) ys [.slice A' n c'] ∧ RdIn w' (NewB w.heap.size w') (.sl GoTy) (gs ++ [newGo number ki a y bs ys]) [.slice B' (m + 1) d']) ∧ Below w.heap.size w w' := by
  subst hl hm hL hk
  refine (sbegin_any S cfgTwo ys gs A c B d number hi ki a y D q bs w hy hg hd).mono ?_
  rintro e w' ⟨⟨v, zs, hs, A', c', B', d', rfl, hr, r1, r2⟩, b⟩
  obtain ⟨rfl, rfl, rfl⟩ := hr.zero hp hc hn h8
  have e1 : (gs ++ [newGo number ki a y bs zs]).length = gs.length + 1 := by rw [List.length_append, List.length_singleton]
  rw [e1] at r2
  exact ⟨A', c', B', d', by rw [e1], ⟨r1, r2⟩, b⟩
theorem two_begin_arg {number : Int} (hi : IsInt number) {ki : UInt8} {a y : Int} {bs : List UInt8} {L : Nat} (hL : bs.length = L) (D : Option Addr) (q : Nat) (hd : RdIn w S (.sl .byte) bs [.slice D L q]) (hc : askCode cfgTwo ((ki.toNat : Nat) : Int) a y bs.length = 0) (hn : ¬ (1 ≤ number ∧ ¬ SomeIs (numB number) gs)) {kv : Int} (hk : ((ki.toNat : Nat) : Int) = kv) :
    Calls Try.prog 24 #[cfgTwo.val, .agg #[.slice A n c, .slice B m d], .int .i64 number, .agg #[.int .u8 kv, .int .i64 a, .int .i64 y, .slice D L q]] w fun e w' => ∃ A' c' B' d', e = .returned (.tuple #[.agg #[.slice A' 0 c', .slice B' 0 d'], .int .i64 2]) ∧ Below w.heap.size w w' := by
  subst hl hm hL hk
  refine (sbegin_any S cfgTwo ys gs A c B d number hi ki a y D q bs w hy hg hd).mono ?_
  rintro e w' ⟨⟨v, zs, hs, A', c', B', d', rfl, hr, r1, r2⟩, b⟩
  have h2 : BegRel cfgTwo ys gs number ki a y bs 2 [] [] := .inr (.inr (.inl ⟨hp, hc, hn, rfl, rfl, rfl⟩))
  obtain ⟨rfl, rfl, rfl⟩ := hr.one h2
  exact ⟨A', c', B', d', rfl, b⟩
theorem two_may {k : Int} {bs : List UInt8} {L : Nat} (hL : bs.length = L) (D : Option Addr) (q : Nat) (hd : Bs w D L bs) {b : Bool} {v : Int} (hr : MayRel cfgTwo ys gs k bs b v) :
    Calls Try.prog 11 #[cfgTwo.val, .agg #[.slice A n c, .slice B m d], .int .i64 k, .slice D L q] w fun e w' => e = .returned (.tuple #[.bool b, .int .i64 v]) ∧ Below w.heap.size w w' := by
  subst hl hm hL
  refine (smay_any S cfgTwo ys gs A c B d k D q bs w hy hg hd).mono ?_
  rintro e w' ⟨⟨b', v', rfl, hr'⟩, bl⟩
  obtain ⟨rfl, rfl⟩ := hr.one hr'
  exact ⟨rfl, bl⟩
theorem two_law {x : UInt8} {xv : Int} (hx : ((x.toNat : Nat) : Int) = xv) {b : Bool} (hb : b = true ↔ LeftP ys gs 0 (fullL x)) :
    Calls Try.prog 27 #[.agg #[.slice A n c, .slice B m d], .int .u8 xv] w fun e w' => e = .returned (.bool b) ∧ Below w.heap.size w w' := by
  subst hl hm hx
  refine (maylaw_any S ys gs hp A c B d x w hy hg).mono ?_
  rintro e w' ⟨⟨b', rfl, hb'⟩, bl⟩
  have : b' = b := by
    have h := hb'.trans hb.symm
    cases b <;> cases b' <;> simp_all
  subst this
  exact ⟨rfl, bl⟩
end
theorem ex_law0 : ¬ LeftP ([fullL 1, fullL 2] :: exRow) [exG4] 0 (fullL 0) := by
  rw [leftP_row (by simp [exRow])]
  decide
theorem ex_law1 : LeftP ([fullL 1, fullL 2] :: exRow) [exG4] 0 (fullL 1) := by
  rw [leftP_row (by simp [exRow])]
  exact .inl (List.mem_cons_self ..)
theorem ex_law2 : LeftP ([fullL 1, fullL 2] :: exRow) [exG4] 0 (fullL 2) := by
  rw [leftP_row (by simp [exRow])]
  exact .inl (List.mem_cons_of_mem _ (List.mem_cons_self ..))

/-! ### the state of the example -/
def put6 (w : World) (g k : Nat) (u v r0 r1 r2 r3 : Value) : World := (((((w.setCell ⟨g, 0, none⟩ u).setCell ⟨g, 1, none⟩ v).setCell ⟨k, 0, none⟩ r0).setCell ⟨k, 1, none⟩ r1).setCell ⟨k, 2, none⟩ r2).setCell ⟨k, 3, none⟩ r3
theorem put6_heap {w : World} {g k b : Nat} (hg : b ≠ g) (hk : b ≠ k) (u v r0 r1 r2 r3 : Value) : (put6 w g k u v r0 r1 r2 r3).heap[b]? = w.heap[b]? := by
  unfold put6
  rw [Below.heap_setCell _ _ _ _ hk, Below.heap_setCell _ _ _ _ hk, Below.heap_setCell _ _ _ _ hk, Below.heap_setCell _ _ _ _ hk, Below.heap_setCell _ _ _ _ hg, Below.heap_setCell _ _ _ _ hg]
theorem put6_g {w : World} {g k : Nat} {a b : Value} {t : TypeId} (h : BoxOf w g #[a, b] t) (hk : g ≠ k) (u v r0 r1 r2 r3 : Value) : BoxOf (put6 w g k u v r0 r1 r2 r3) g #[u, v] t :=
  mbox_else (mbox_else (mbox_else (mbox_else (mbox_self (mbox_self h 0 u) 1 v) hk 0 r0) hk 1 r1) hk 2 r2) hk 3 r3
theorem put6_else {w : World} {g k b : Nat} {cs : Array Value} {t : TypeId} (h : BoxOf w b cs t) (hg : b ≠ g) (hk : b ≠ k) (u v r0 r1 r2 r3 : Value) : BoxOf (put6 w g k u v r0 r1 r2 r3) b cs t := by
  unfold BoxOf at *
  rw [put6_heap hg hk]
  exact h
theorem put6_below {B g k : Nat} {W w : World} (h : Below B W w) (hg : B ≤ g) (hk : B ≤ k) (u v r0 r1 r2 r3 : Value) : Below B W (put6 w g k u v r0 r1 r2 r3) :=
  Below.setCell (Below.setCell (Below.setCell (Below.setCell (Below.setCell (Below.setCell h hg u) hg v) hk r0) hk r1) hk r2) hk r3
structure NS (w : World) (gc gp : Nat) (ys : Ys) (gs : List GoTy.T) (n m : Nat) (A : Option Addr) (c : Nat) (B : Option Addr) (d : Nat) (wk : World) : Prop where
  lo : w.heap.size ≤ gc ∧ gc < gp
  cfg : BoxOf wk gc #[.int .u32 0, .int .i64 3, .int .i64 1, .int .i64 2, .int .i64 12, .int .i64 2] 24
  pl : BoxOf wk gp #[.slice A n c, .slice B m d] 28
  bel : Below w.heap.size w wk
  ry : RdIn wk (fun b => b ≠ gp) (.sl (.sl (.sl .byte))) ys [.slice A n c]
  rg : RdIn wk (fun b => b ≠ gp) (.sl GoTy) gs [.slice B m d]
section
variable {w : World} {gc gp : Nat} {ys : Ys} {gs : List GoTy.T} {n m : Nat} {A : Option Addr} {c : Nat} {B : Option Addr} {d : Nat} {wk : World}
end
def ExN (w : World) (gc gp : Nat) (ys : Ys) (gs : List GoTy.T) (n m : Nat) (wk : World) : Prop := ∃ A c B d, NS w gc gp ys gs n m A c B d wk
section
variable {w : World} {gc gp : Nat} {ys : Ys} {gs : List GoTy.T} {n m : Nat} {A : Option Addr} {c : Nat} {B : Option Addr} {d : Nat} {wk : World}
theorem NS.next (h : NS w gc gp ys gs n m A c B d wk) {wk' : World} (hb : Below wk.heap.size wk wk') : NS w gc gp ys gs n m A c B d wk' :=
  ⟨h.lo, h.cfg.next hb, h.pl.next hb, Ext.trans h.bel hb, h.ry.below hb, h.rg.below hb⟩
theorem NS.endp (h : NS w gc gp ys gs n m A c B d wk) {w6 : World} (hb : Below wk.heap.size wk w6) {zs : Ys} {hs : List GoTy.T} {n' m' : Nat} {A' : Option Addr} {c' : Nat} {B' : Option Addr} {d' : Nat} (rz : RdIn w6 (NewB wk.heap.size w6) (.sl (.sl (.sl .byte))) zs [.slice A' n' c']) (rh : RdIn w6 (NewB wk.heap.size w6) (.sl GoTy) hs [.slice B' m' d']) (r0 r1 r2 r3 : Value) :
    NS w gc gp zs hs n' m' A' c' B' d' (put6 (w6.alloc (.cells #[.int .i64 0, .int .i64 0, .slice none 0 0, .int .i64 0] 53)) gp w6.heap.size (.slice A' n' c') (.slice B' m' d') r0 r1 r2 r3) := by
  have hp6 := (h.pl.next hb)
  have hl := hp6.lt
  have hlk := h.pl.lt
  have ba := Ext.alloc (Below.refl w6.heap.size w6) (.cells #[.int .i64 0, .int .i64 0, .slice none 0 0, .int .i64 0] 53)
  have hlo := h.lo
  have hws := (Ext.trans h.bel hb).size
  have hfr : ∀ b, NewB wk.heap.size w6 b → (put6 (w6.alloc (.cells #[.int .i64 0, .int .i64 0, .slice none 0 0, .int .i64 0] 53)) gp w6.heap.size (.slice A' n' c') (.slice B' m' d') r0 r1 r2 r3).heap[b]? = w6.heap[b]? := fun b hB => by
    rw [put6_heap (by have := hB.1; omega) (by have := hB.2.1; omega)]
    exact ba.block b hB.2.1
  exact ⟨h.lo, put6_else ((h.cfg.next hb).next ba) (by omega) (by omega) _ _ _ _ _ _, put6_g (hp6.next ba) (by omega) _ _ _ _ _ _, put6_below (Ext.trans (Ext.trans h.bel hb) ba) (by omega) hws _ _ _ _ _ _, (rz.frame hfr).mono fun b hB => by have := hB.1; show b ≠ gp; omega, (rh.frame hfr).mono fun b hB => by have := hB.1; show b ≠ gp; omega⟩
theorem NS.begp (h : NS w gc gp ys gs n m A c B d wk) {w6 : World} (hb : Below wk.heap.size wk w6) {zs : Ys} {hs : List GoTy.T} {n' m' : Nat} {A' : Option Addr} {c' : Nat} {B' : Option Addr} {d' : Nat} {q : Nat} (hq : wk.heap.size ≤ q) (rz : RdIn w6 (NewB q w6) (.sl (.sl (.sl .byte))) zs [.slice A' n' c']) (rh : RdIn w6 (NewB q w6) (.sl GoTy) hs [.slice B' m' d']) :
    NS w gc gp zs hs n' m' A' c' B' d' ((w6.setCell ⟨gp, 0, none⟩ (.slice A' n' c')).setCell ⟨gp, 1, none⟩ (.slice B' m' d')) := by
  have hp6 := (h.pl.next hb)
  have hlk := h.pl.lt
  have hlo := h.lo
  have hfr : ∀ b, NewB q w6 b → ((w6.setCell ⟨gp, 0, none⟩ (.slice A' n' c')).setCell ⟨gp, 1, none⟩ (.slice B' m' d')).heap[b]? = w6.heap[b]? := fun b hB => by
    rw [Below.heap_setCell _ _ _ _ (show b ≠ gp by have := hB.1; omega), Below.heap_setCell _ _ _ _ (show b ≠ gp by have := hB.1; omega)]
  exact ⟨h.lo, mbox_else (mbox_else (h.cfg.next hb) (by omega) 0 _) (by omega) 1 _, mbox_self (mbox_self hp6 0 _) 1 _, Below.setCell (Below.setCell (Ext.trans h.bel hb) (show w.heap.size ≤ gp by omega) _) (show w.heap.size ≤ gp by omega) _, (rz.frame hfr).mono fun b hB => by have := hB.1; show b ≠ gp; omega, (rh.frame hfr).mono fun b hB => by have := hB.1; show b ≠ gp; omega⟩
end

set_option maxRecDepth 100000 in
set_option maxHeartbeats 80000000 in
theorem modelnames_walk (w : World) : Calls Try.prog 5 #[] w fun e w' => e = .returned (.bool true) ∧ Below w.heap.size w w' := by
  go_enter Try.func5, Try.ntmps5
  go_wp2_with fail
  refine (alive30_any _).mono ?_
  rintro e w1 ⟨rfl, t1⟩
  go_wp2_with fail
  refine (two_any _).mono ?_
  rintro e w2 ⟨rfl, b2⟩
  rw [show cfgTwo.val = Value.agg #[.int .u32 0, .int .i64 3, .int .i64 1, .int .i64 2, .int .i64 12, .int .i64 2] from rfl]
  have t2 := Ext.trans t1 b2
  have C3 : BoxOf (w2.alloc (.cells #[.int .u32 0, .int .i64 3, .int .i64 1, .int .i64 2, .int .i64 12, .int .i64 2] 24)) w2.heap.size #[.int .u32 0, .int .i64 3, .int .i64 1, .int .i64 2, .int .i64 12, .int .i64 2] 24 := BoxOf.new w2 _ _
  have t3 := Ext.alloc t2 (.cells #[.int .u32 0, .int .i64 3, .int .i64 1, .int .i64 2, .int .i64 12, .int .i64 2] 24)
  have hwc := t2.size
  go_upto_region 4 with fail
  obtain ⟨gc, hgc⟩ : ∃ z : Nat, z = w2.heap.size := ⟨_, rfl⟩
  rw [← hgc] at C3 hwc ⊢
  have HGC := Lib.hid hwc
  clear hgc hwc t2 b2 t1
  generalize w2.alloc (.cells #[.int .u32 0, .int .i64 3, .int .i64 1, .int .i64 2, .int .i64 12, .int .i64 2] 24) = w3 at *
  go_wp2_with fail
  refine (begun_any _).mono ?_
  rintro e w4 ⟨⟨A4, c4, B4, d4, rfl, ry4, rg4⟩, b4⟩
  have C4 := C3.next b4
  have t4 := Ext.trans t3 b4
  have b5 := Ext.alloc (Below.refl w4.heap.size w4) (.cells #[.slice A4 4 c4, .slice B4 1 d4] 28)
  have P5 := BoxOf.new w4 #[.slice A4 4 c4, .slice B4 1 d4] 28
  have C5 := C4.next b5
  have t5 := Ext.trans t4 b5
  have HY5 := Lib.hid (ry4.below b5)
  have HG5 := Lib.hid (rg4.below b5)
  have hl5 := C4.lt
  clear ry4 rg4 C3 C4 t3 t4 b4 b5
  go_upto_region 5 with fail
  obtain ⟨gp, hgp⟩ : ∃ z : Nat, z = w4.heap.size := ⟨_, rfl⟩
  rw [← hgp] at P5 hl5 ⊢
  have hw45 : w4.heap.size < (w4.alloc (.cells #[.slice A4 4 c4, .slice B4 1 d4] 28)).heap.size := lt_new _ _
  have N5 : NS w gc gp (nulls 4) [begGo] 4 1 A4 c4 B4 d4 (w4.alloc (.cells #[.slice A4 4 c4, .slice B4 1 d4] 28)) :=
    ⟨⟨HGC.out, hl5⟩, C5, P5, t5, HY5.out.mono (fun b hb => by have := hb.2.1; show b ≠ gp; omega), HG5.out.mono (fun b hb => by have := hb.2.1; show b ≠ gp; omega)⟩
  clear hgp hl5 C5 P5 t5 HY5 HG5 hw45
  generalize w4.alloc (.cells #[.slice A4 4 c4, .slice B4 1 d4] 28) = w5 at *
  --WALK
  have cc := N5.cfg.cell
  have pp := N5.pl.cell
  have HE := Lib.hid (two_end _ two_plain1 (n := 4) (m := 1) rfl rfl A4 c4 B4 d4 w5 N5.ry N5.rg (n' := 4) (m' := 0) (L := 0) (j := 0) (by decide) (number := 1) (many := 1) rfl ex_1 rfl rfl rfl rfl)
  go_wp2_with fail
  refine HE.out.mono ?_
  rintro e v ⟨A6, c6, B6, d6, D6, q6, rfl, ⟨ry, rg, rd⟩, b⟩
  clear cc pp HE
  have N6 := N5.endp b ry rg (.int .i64 1) (.int .i64 0) (.slice D6 0 q6) (.int .i64 1)
  have P7 := (N5.pl.next b).alloc (.cells #[.int .i64 0, .int .i64 0, .slice none 0 0, .int .i64 0] 53)
  have R7 := BoxOf.new v #[.int .i64 0, .int .i64 0, .slice none 0 0, .int .i64 0] 53
  have p7 := P7.cell
  have pf7 := P7.free
  have r7 := R7.cell
  have rf7 := R7.free
  have hl7 := (N5.pl.next b).lt
  have hne7 : ¬ gp = v.heap.size := by omega
  have hne7' : ¬ v.heap.size = gp := by omega
  clear hl7
  have HN := Lib.hid N6
  clear N6
  go_upto_region 6 with fail
  have N6 := HN.out
  clear HN
  clear P7 R7 p7 pf7 r7 rf7 hne7 hne7' ry rg rd b N5
  unfold put6 at N6
  generalize ((((((v.alloc (.cells #[.int .i64 0, .int .i64 0, .slice none 0 0, .int .i64 0] 53)).setCell ⟨gp, 0, none⟩ (.slice A6 4 c6)).setCell ⟨gp, 1, none⟩ (.slice B6 0 d6)).setCell ⟨v.heap.size, 0, none⟩ (.int .i64 1)).setCell ⟨v.heap.size, 1, none⟩ (.int .i64 0)).setCell ⟨v.heap.size, 2, none⟩ (.slice D6 0 q6)).setCell ⟨v.heap.size, 3, none⟩ (.int .i64 1) = w6 at *
  have cc := N6.cfg.cell
  have pp := N6.pl.cell
  have HE := Lib.hid (two_begin _ ex_p1 (n := 4) (m := 0) rfl rfl A6 c6 B6 d6 w6 N6.ry N6.rg (number := 2) (by decide) (ki := 4) (a := 0) (y := 0) (bs := []) (L := 0) rfl none 0 (rdin_nilb (by unfold maxLen; omega) _) (by decide) ⟨by decide, fun ⟨i, hi, _⟩ => by simp at hi⟩ (by decide) (kv := 4) rfl)
  go_wp2_with fail
  refine HE.out.mono ?_
  rintro e v ⟨A7, c7, B7, d7, rfl, ⟨ry, rg⟩, b⟩
  clear cc pp HE
  have N7 := N6.begp b (Nat.le_refl _) ry rg
  have p7 := (N6.pl.next b).cell
  have pf7 := (N6.pl.next b).free
  go_upto_region 7 with fail
  clear p7 pf7 ry rg b N6
  generalize (v.setCell ⟨gp, 0, none⟩ (.slice A7 4 c7)).setCell ⟨gp, 1, none⟩ (.slice B7 (0 + 1) d7) = w7 at *
  go_cut [7] (fun s7 wx => s7 = .int .i64 0 ∧ ExN w gc gp ([zeros, fullL 1] :: exRow) [exG2, exG3] 4 2 wx)
  case first =>
    as_aux_lemma =>
    have ccd := N7.cfg.drew.cell
    refine wp_region_held_drew (S := fun w' => ∀ p, w'.cell? ⟨gc, p, none⟩ = (#[.int .u32 0, .int .i64 3, .int .i64 1, .int .i64 2, .int .i64 12, .int .i64 2] : Array Value).toList[p]?) (by kernel_rfl) ccd (fun hS => ?_)
    have Nd := N7.next (Ext.drew (Below.refl w7.heap.size w7))
    clear ccd N7
    generalize w7.drew = wd at *
    refine wpAnyH_take (i := 0) (oi := _) (v := ?_) rfl (by kernel_rfl) (by kernel_rfl) (by kernel_rfl) (fun _ _ _ h => h) (Or.inl ⟨by rfl, ?_⟩) hS ?_
    rotate_left
    · (intro w hSw; (try dsimp only at hSw); go_simp; (try with_reducible rfl))
    rotate_left
    simp only [Act.put, List.getElem_toArray, List.getElem_cons_zero, List.getElem_cons_succ, List.setIfInBounds_toArray, List.set_cons_zero, List.set_cons_succ]
    refine wpAnyH_ready (rs := [1, 2]) (by kernel_rfl) (by simp) ?_
    refine AllReadyH.cons rfl (fun K hK => ?_) (AllReadyH.cons rfl (fun K hK => ?_) AllReadyH.nil)
    · rw [if_pos (by rfl)]
      have pq := (Nd).pl.cell
      go_simp
      refine hK.out _ _ (Nd).cfg.cell (fun hS' => ?_)
      clear pq hK K hS
      have hS := hS'
      clear hS'
      try simp only [Act.put, List.getElem_toArray, List.getElem_cons_zero, List.getElem_cons_succ, List.setIfInBounds_toArray, List.set_cons_zero, List.set_cons_succ]
      refine wpAnyH_ready (rs := [2]) (by kernel_rfl) (by simp) ?_
      refine AllReadyH.cons rfl (fun K hK => ?_) AllReadyH.nil
      rw [if_pos (by rfl)]
      go_simp
      have h0 := write_any 2 wd
      have e0 : ((((2) : UInt8).toNat : Nat) : Int) = 2 := rfl
      rw [e0] at h0
      refine h0.mono ?_
      rintro e vv ⟨⟨gw, rfl, RW⟩, bw⟩
      have NV := (Nd).next bw
      refine hK.out _ _ NV.cfg.cell (fun hS' => ?_)
      clear hK K hS h0 e0 bw
      have hS := hS'
      clear hS'
      try simp only [Act.put, List.getElem_toArray, List.getElem_cons_zero, List.getElem_cons_succ, List.setIfInBounds_toArray, List.set_cons_zero, List.set_cons_succ]
      refine wpAnyH_ready (rs := [3]) (by kernel_rfl) (by simp) ?_
      refine AllReadyH.cons rfl (fun K hK => ?_) AllReadyH.nil
      rw [if_pos (by rfl)]
      go_simp
      refine (two_begin (fun _ => True) ex_p2 (n := 4) (m := 1) rfl rfl A7 c7 B7 d7 vv NV.ry.tt NV.rg.tt (number := 3) (by decide) (ki := 2) (a := 0) (y := 1) (bs := fullL 2) (L := 128) (fullL_len 2) (some ⟨gw, 0, none⟩) 128 RW.tt (by rw [fullL_len]; decide) ⟨by decide, fun ⟨i, hi, h⟩ => by
        have : i = 0 := by simpa using hi
        subst this
        have h' : numB 3 exG2 = true := h
        revert h'
        decide⟩ (by decide) (kv := 2) rfl).mono ?_
      rintro e v8 ⟨A8, c8, B8, d8, rfl, ⟨ry, rg⟩, b8⟩
      have N8 := NV.begp b8 (Nat.le_refl _) ry rg
      have C8' := (NV.cfg.next b8)
      refine hK.out _ _ C8'.cell (fun hS' => ?_)
      clear hK K hS
      have hS := hS'
      clear hS'
      try simp only [Act.put, List.getElem_toArray, List.getElem_cons_zero, List.getElem_cons_succ, List.setIfInBounds_toArray, List.set_cons_zero, List.set_cons_succ]
      refine wpAnyH_take (i := 4) (oi := _) (v := ?_) rfl (by kernel_rfl) (by kernel_rfl) (by kernel_rfl) (fun _ _ _ h => h) (Or.inl ⟨by rfl, ?_⟩) hS ?_
      rotate_left
      · (intro w hSw; (try dsimp only at hSw); go_simp; (try with_reducible rfl))
      rotate_left
      simp only [Act.put, List.getElem_toArray, List.getElem_cons_zero, List.getElem_cons_succ, List.setIfInBounds_toArray, List.set_cons_zero, List.set_cons_succ]
      refine wpAnyH_take (i := 5) (oi := _) (v := ?_) rfl (by kernel_rfl) (by kernel_rfl) (by kernel_rfl) (fun _ _ _ h => h) (Or.inl ⟨by rfl, ?_⟩) hS ?_
      rotate_left
      · (intro w hSw; (try dsimp only at hSw); go_simp; (try with_reducible rfl))
      rotate_left
      simp only [Act.put, List.getElem_toArray, List.getElem_cons_zero, List.getElem_cons_succ, List.setIfInBounds_toArray, List.set_cons_zero, List.set_cons_succ]
      refine wpAnyH_take (i := 6) (oi := _) (v := ?_) rfl (by kernel_rfl) (by kernel_rfl) (by kernel_rfl) (fun _ _ _ h => h) (Or.inl ⟨by rfl, ?_⟩) hS ?_
      rotate_left
      · (intro w hSw; (try dsimp only at hSw); go_simp; (try with_reducible rfl))
      rotate_left
      simp only [Act.put, List.getElem_toArray, List.getElem_cons_zero, List.getElem_cons_succ, List.setIfInBounds_toArray, List.set_cons_zero, List.set_cons_succ]
      refine wpAnyH_ready (rs := [7]) (by kernel_rfl) (by simp) ?_
      refine AllReadyH.cons rfl (fun K hK => ?_) AllReadyH.nil
      rw [if_pos (by rfl)]
      have p8 := (NV.pl.next b8).cell
      have pf8 := (NV.pl.next b8).free
      go_simp
      refine hK.out _ _ N8.cfg.cell (fun hS' => ?_)
      clear hK K hS
      have hS := hS'
      clear hS'
      try simp only [Act.put, List.getElem_toArray, List.getElem_cons_zero, List.getElem_cons_succ, List.setIfInBounds_toArray, List.set_cons_zero, List.set_cons_succ]
      refine wpAnyH_take (i := 8) (oi := _) (v := ?_) rfl (by kernel_rfl) (by kernel_rfl) (by kernel_rfl) (fun _ _ _ h => h) (Or.inl ⟨by rfl, ?_⟩) hS ?_
      rotate_left
      · (intro w hSw; (try dsimp only at hSw); go_simp; (try with_reducible rfl))
      rotate_left
      simp only [Act.put, List.getElem_toArray, List.getElem_cons_zero, List.getElem_cons_succ, List.setIfInBounds_toArray, List.set_cons_zero, List.set_cons_succ]
      refine wpAnyH_done (by kernel_rfl) ?_ _
      clear hS p8 pf8 C8' ry rg b8 NV RW
      go_wp2_with fail
      go_meet
      exact ⟨rfl, _, _, _, _, N8⟩
    · rw [if_pos (by rfl)]
      go_simp
      have h0 := write_any 2 wd
      have e0 : ((((2) : UInt8).toNat : Nat) : Int) = 2 := rfl
      rw [e0] at h0
      refine h0.mono ?_
      rintro e vv ⟨⟨gw, rfl, RW⟩, bw⟩
      have NV := (Nd).next bw
      refine hK.out _ _ NV.cfg.cell (fun hS' => ?_)
      clear hK K hS h0 e0 bw
      have hS := hS'
      clear hS'
      try simp only [Act.put, List.getElem_toArray, List.getElem_cons_zero, List.getElem_cons_succ, List.setIfInBounds_toArray, List.set_cons_zero, List.set_cons_succ]
      refine wpAnyH_ready (rs := [1]) (by kernel_rfl) (by simp) ?_
      refine AllReadyH.cons rfl (fun K hK => ?_) AllReadyH.nil
      rw [if_pos (by rfl)]
      have pq := (NV).pl.cell
      go_simp
      refine hK.out _ _ (NV).cfg.cell (fun hS' => ?_)
      clear pq hK K hS
      have hS := hS'
      clear hS'
      try simp only [Act.put, List.getElem_toArray, List.getElem_cons_zero, List.getElem_cons_succ, List.setIfInBounds_toArray, List.set_cons_zero, List.set_cons_succ]
      refine wpAnyH_ready (rs := [3]) (by kernel_rfl) (by simp) ?_
      refine AllReadyH.cons rfl (fun K hK => ?_) AllReadyH.nil
      rw [if_pos (by rfl)]
      go_simp
      refine (two_begin (fun _ => True) ex_p2 (n := 4) (m := 1) rfl rfl A7 c7 B7 d7 vv NV.ry.tt NV.rg.tt (number := 3) (by decide) (ki := 2) (a := 0) (y := 1) (bs := fullL 2) (L := 128) (fullL_len 2) (some ⟨gw, 0, none⟩) 128 RW.tt (by rw [fullL_len]; decide) ⟨by decide, fun ⟨i, hi, h⟩ => by
        have : i = 0 := by simpa using hi
        subst this
        have h' : numB 3 exG2 = true := h
        revert h'
        decide⟩ (by decide) (kv := 2) rfl).mono ?_
      rintro e v8 ⟨A8, c8, B8, d8, rfl, ⟨ry, rg⟩, b8⟩
      have N8 := NV.begp b8 (Nat.le_refl _) ry rg
      have C8' := (NV.cfg.next b8)
      refine hK.out _ _ C8'.cell (fun hS' => ?_)
      clear hK K hS
      have hS := hS'
      clear hS'
      try simp only [Act.put, List.getElem_toArray, List.getElem_cons_zero, List.getElem_cons_succ, List.setIfInBounds_toArray, List.set_cons_zero, List.set_cons_succ]
      refine wpAnyH_take (i := 4) (oi := _) (v := ?_) rfl (by kernel_rfl) (by kernel_rfl) (by kernel_rfl) (fun _ _ _ h => h) (Or.inl ⟨by rfl, ?_⟩) hS ?_
      rotate_left
      · (intro w hSw; (try dsimp only at hSw); go_simp; (try with_reducible rfl))
      rotate_left
      simp only [Act.put, List.getElem_toArray, List.getElem_cons_zero, List.getElem_cons_succ, List.setIfInBounds_toArray, List.set_cons_zero, List.set_cons_succ]
      refine wpAnyH_take (i := 5) (oi := _) (v := ?_) rfl (by kernel_rfl) (by kernel_rfl) (by kernel_rfl) (fun _ _ _ h => h) (Or.inl ⟨by rfl, ?_⟩) hS ?_
      rotate_left
      · (intro w hSw; (try dsimp only at hSw); go_simp; (try with_reducible rfl))
      rotate_left
      simp only [Act.put, List.getElem_toArray, List.getElem_cons_zero, List.getElem_cons_succ, List.setIfInBounds_toArray, List.set_cons_zero, List.set_cons_succ]
      refine wpAnyH_take (i := 6) (oi := _) (v := ?_) rfl (by kernel_rfl) (by kernel_rfl) (by kernel_rfl) (fun _ _ _ h => h) (Or.inl ⟨by rfl, ?_⟩) hS ?_
      rotate_left
      · (intro w hSw; (try dsimp only at hSw); go_simp; (try with_reducible rfl))
      rotate_left
      simp only [Act.put, List.getElem_toArray, List.getElem_cons_zero, List.getElem_cons_succ, List.setIfInBounds_toArray, List.set_cons_zero, List.set_cons_succ]
      refine wpAnyH_ready (rs := [7]) (by kernel_rfl) (by simp) ?_
      refine AllReadyH.cons rfl (fun K hK => ?_) AllReadyH.nil
      rw [if_pos (by rfl)]
      have p8 := (NV.pl.next b8).cell
      have pf8 := (NV.pl.next b8).free
      go_simp
      refine hK.out _ _ N8.cfg.cell (fun hS' => ?_)
      clear hK K hS
      have hS := hS'
      clear hS'
      try simp only [Act.put, List.getElem_toArray, List.getElem_cons_zero, List.getElem_cons_succ, List.setIfInBounds_toArray, List.set_cons_zero, List.set_cons_succ]
      refine wpAnyH_take (i := 8) (oi := _) (v := ?_) rfl (by kernel_rfl) (by kernel_rfl) (by kernel_rfl) (fun _ _ _ h => h) (Or.inl ⟨by rfl, ?_⟩) hS ?_
      rotate_left
      · (intro w hSw; (try dsimp only at hSw); go_simp; (try with_reducible rfl))
      rotate_left
      simp only [Act.put, List.getElem_toArray, List.getElem_cons_zero, List.getElem_cons_succ, List.setIfInBounds_toArray, List.set_cons_zero, List.set_cons_succ]
      refine wpAnyH_done (by kernel_rfl) ?_ _
      clear hS p8 pf8 C8' ry rg b8 NV RW
      go_wp2_with fail
      go_meet
      exact ⟨rfl, _, _, _, _, N8⟩
  case rest =>
    obtain ⟨rfl, A8, c8, B8, d8, N8⟩ := hcut
    clear N7
    generalize wc = w8 at *
    have cc := N8.cfg.cell
    have pp := N8.pl.cell
    have HE := Lib.hid (two_end _ ex_p3 (n := 4) (m := 2) rfl rfl A8 c8 B8 d8 w8 N8.ry N8.rg (n' := 4) (m' := 1) (L := 0) (j := 1) (by decide) (number := 3) (many := 1) rfl ex_3 rfl rfl rfl rfl)
    go_wp2_with fail
    refine HE.out.mono ?_
    rintro e v ⟨A9, c9, B9, d9, D9, q9, rfl, ⟨ry, rg, rd⟩, b⟩
    clear cc pp HE
    have N9 := N8.endp b ry rg (.int .i64 3) (.int .i64 0) (.slice D9 0 q9) (.int .i64 1)
    have P7 := (N8.pl.next b).alloc (.cells #[.int .i64 0, .int .i64 0, .slice none 0 0, .int .i64 0] 53)
    have R7 := BoxOf.new v #[.int .i64 0, .int .i64 0, .slice none 0 0, .int .i64 0] 53
    have p7 := P7.cell
    have pf7 := P7.free
    have r7 := R7.cell
    have rf7 := R7.free
    have hl7 := (N8.pl.next b).lt
    have hne7 : ¬ gp = v.heap.size := by omega
    have hne7' : ¬ v.heap.size = gp := by omega
    clear hl7
    have HN := Lib.hid N9
    clear N9
    go_upto_region 9 with fail
    have N9 := HN.out
    clear HN
    clear P7 R7 p7 pf7 r7 rf7 hne7 hne7' ry rg rd b N8
    unfold put6 at N9
    generalize ((((((v.alloc (.cells #[.int .i64 0, .int .i64 0, .slice none 0 0, .int .i64 0] 53)).setCell ⟨gp, 0, none⟩ (.slice A9 4 c9)).setCell ⟨gp, 1, none⟩ (.slice B9 1 d9)).setCell ⟨v.heap.size, 0, none⟩ (.int .i64 3)).setCell ⟨v.heap.size, 1, none⟩ (.int .i64 0)).setCell ⟨v.heap.size, 2, none⟩ (.slice D9 0 q9)).setCell ⟨v.heap.size, 3, none⟩ (.int .i64 1) = w9 at *
    have cc := N9.cfg.cell
    have pp := N9.pl.cell
    have HE := Lib.hid (two_end _ ex_p4 (n := 4) (m := 1) rfl rfl A9 c9 B9 d9 w9 N9.ry N9.rg (n' := 4) (m' := 0) (L := 0) (j := 0) (by decide) (number := 2) (many := 0) rfl ex_2 rfl rfl rfl rfl)
    go_wp2_with fail
    refine HE.out.mono ?_
    rintro e v ⟨A10, c10, B10, d10, D10, q10, rfl, ⟨ry, rg, rd⟩, b⟩
    clear cc pp HE
    have N10 := N9.endp b ry rg (.int .i64 2) (.int .i64 0) (.slice D10 0 q10) (.int .i64 0)
    have P7 := (N9.pl.next b).alloc (.cells #[.int .i64 0, .int .i64 0, .slice none 0 0, .int .i64 0] 53)
    have R7 := BoxOf.new v #[.int .i64 0, .int .i64 0, .slice none 0 0, .int .i64 0] 53
    have p7 := P7.cell
    have pf7 := P7.free
    have r7 := R7.cell
    have rf7 := R7.free
    have hl7 := (N9.pl.next b).lt
    have hne7 : ¬ gp = v.heap.size := by omega
    have hne7' : ¬ v.heap.size = gp := by omega
    clear hl7
    have HN := Lib.hid N10
    clear N10
    go_upto_region 10 with fail
    have N10 := HN.out
    clear HN
    clear P7 R7 p7 pf7 r7 rf7 hne7 hne7' ry rg rd b N9
    unfold put6 at N10
    generalize ((((((v.alloc (.cells #[.int .i64 0, .int .i64 0, .slice none 0 0, .int .i64 0] 53)).setCell ⟨gp, 0, none⟩ (.slice A10 4 c10)).setCell ⟨gp, 1, none⟩ (.slice B10 0 d10)).setCell ⟨v.heap.size, 0, none⟩ (.int .i64 2)).setCell ⟨v.heap.size, 1, none⟩ (.int .i64 0)).setCell ⟨v.heap.size, 2, none⟩ (.slice D10 0 q10)).setCell ⟨v.heap.size, 3, none⟩ (.int .i64 0) = w10 at *
    have cc := N10.cfg.cell
    have pp := N10.pl.cell
    have HE := Lib.hid (two_begin _ ex_p5 (n := 4) (m := 0) rfl rfl A10 c10 B10 d10 w10 N10.ry N10.rg (number := 4) (by decide) (ki := 1) (a := 0) (y := 1) (bs := []) (L := 0) rfl none 0 (rdin_nilb (by unfold maxLen; omega) _) (by decide) ⟨by decide, fun ⟨i, hi, _⟩ => by simp at hi⟩ (by decide) (kv := 1) rfl)
    go_wp2_with fail
    refine HE.out.mono ?_
    rintro e v ⟨A11, c11, B11, d11, rfl, ⟨ry, rg⟩, b⟩
    clear cc pp HE
    have N11 := N10.begp b (Nat.le_refl _) ry rg
    have p7 := (N10.pl.next b).cell
    have pf7 := (N10.pl.next b).free
    go_upto_region 11 with fail
    clear p7 pf7 ry rg b N10
    generalize (v.setCell ⟨gp, 0, none⟩ (.slice A11 4 c11)).setCell ⟨gp, 1, none⟩ (.slice B11 (0 + 1) d11) = w11 at *
    have cc := N11.cfg.cell
    have pp := N11.pl.cell
    have HE := Lib.hid (two_end _ ex_p6 (n := 4) (m := 1) rfl rfl A11 c11 B11 d11 w11 N11.ry N11.rg (n' := 4) (m' := 0) (L := 128) (j := 0) (by decide) (number := 4) (many := 1) rfl ex_4 rfl rfl (fullL_len 2) rfl)
    go_wp2_with fail
    refine HE.out.mono ?_
    rintro e v ⟨A12, c12, B12, d12, D12, q12, rfl, ⟨ry, rg, rd⟩, b⟩
    clear cc pp HE
    have NV := N11.next b
    have Q1 := BoxOf.alloc (BoxOf.new v #[.slice none 0 0, .slice none 0 0] 28) (.cells #[.int .i64 0, .int .i64 0, .slice none 0 0, .int .i64 0] 53)
    have R1 := BoxOf.new' (v.alloc (.cells #[.slice none 0 0, .slice none 0 0] 28)) (v.heap.size + 1) #[.int .i64 0, .int .i64 0, .slice none 0 0, .int .i64 0] 53 (by simp)
    have bq := Ext.alloc (Ext.alloc (Below.refl v.heap.size v) (.cells #[.slice none 0 0, .slice none 0 0] 28)) (.cells #[.int .i64 0, .int .i64 0, .slice none 0 0, .int .i64 0] 53)
    have hq1 := Q1.cell
    have hq2 := Q1.free
    have hr1 := R1.cell
    have hr2 := R1.free
    clear Q1 R1 bq
    go_upto_region 12 with fail
    have Q1 := BoxOf.alloc (BoxOf.new v #[.slice A12 4 c12, .slice B12 0 d12] 28) (.cells #[.int .i64 4, .int .i64 0, .slice D12 128 q12, .int .i64 1] 53)
    have R1 := BoxOf.new' (v.alloc (.cells #[.slice A12 4 c12, .slice B12 0 d12] 28)) (v.heap.size + 1) #[.int .i64 4, .int .i64 0, .slice D12 128 q12, .int .i64 1] 53 (by simp)
    have bq := Ext.alloc (Ext.alloc (Below.refl v.heap.size v) (.cells #[.slice A12 4 c12, .slice B12 0 d12] 28)) (.cells #[.int .i64 4, .int .i64 0, .slice D12 128 q12, .int .i64 1] 53)
    have N12 := NV.next bq
    have RY := ry.below bq
    have RG := rg.below bq
    have RD := Lib.hid (rd.below bq)
    clear hq1 hq2 hr1 hr2 bq NV ry rg rd b N11
    obtain ⟨gq, hgq⟩ : ∃ z : Nat, z = v.heap.size := ⟨_, rfl⟩
    rw [← hgq] at Q1 R1 ⊢
    clear hgq
    generalize (v.alloc (.cells #[.slice A12 4 c12, .slice B12 0 d12] 28)).alloc (.cells #[.int .i64 4, .int .i64 0, .slice D12 128 q12, .int .i64 1] 53) = w12 at *
    have cc := N12.cfg.cell
    have pp := Q1.cell
    have HE := Lib.hid (two_end_none _ ex_p5 (n := 4) (m := 0) rfl rfl A12 c12 B12 d12 w12 RY RG (number := 4) (fun j hj => by simp at hj))
    have HR := Lib.hid R1
    clear Q1 RY RG R1
    go_wp2_with fail
    refine HE.out.mono ?_
    rintro e v2 ⟨A13, c13, B13, d13, D13, q13, rfl, b2⟩
    clear cc pp HE
    go_upto_region 13 with fail
    have bq := Ext.alloc (Ext.alloc b2 (.cells #[.slice A13 0 c13, .slice B13 0 d13] 28)) (.cells #[.int .i64 0, .int .i64 0, .slice D13 0 q13, .int .i64 0] 53)
    have N13 := N12.next bq
    have R13 := HR.out.next bq
    have RD13 := Lib.hid (RD.out.below bq)
    clear bq b2 N12 HR RD
    generalize (v2.alloc (.cells #[.slice A13 0 c13, .slice B13 0 d13] 28)).alloc (.cells #[.int .i64 0, .int .i64 0, .slice D13 0 q13, .int .i64 0] 53) = w13 at *
    go_cut [20] (fun s20 wx => s20 = .int .i64 2 ∧ Below w13.heap.size w13 wx)
    case first =>
      as_aux_lemma =>
      have ccd := N13.cfg.drew.cell
      have ppd := N13.pl.drew.cell
      have HS : Hid (∀ w', Below w13.heap.size w13 w' → ((∀ p, w'.cell? ⟨gc, p, none⟩ = (#[.int .u32 0, .int .i64 3, .int .i64 1, .int .i64 2, .int .i64 12, .int .i64 2] : Array Value).toList[p]?) ∧ ∀ p, w'.cell? ⟨gp, p, none⟩ = (#[.slice A11 4 c11, .slice B11 (0 + 1) d11] : Array Value).toList[p]?)) := fun w' bb => ⟨(N13.next bb).cfg.cell, (N13.next bb).pl.cell⟩
      refine wp_region_held_drew (S := fun w' => (∀ p, w'.cell? ⟨gc, p, none⟩ = (#[.int .u32 0, .int .i64 3, .int .i64 1, .int .i64 2, .int .i64 12, .int .i64 2] : Array Value).toList[p]?) ∧ ∀ p, w'.cell? ⟨gp, p, none⟩ = (#[.slice A11 4 c11, .slice B11 (0 + 1) d11] : Array Value).toList[p]?) (by kernel_rfl) ⟨ccd, ppd⟩ (fun hS => ?_)
      have bv := Ext.drew (Below.refl w13.heap.size w13)
      clear ccd ppd
      generalize w13.drew = vv at *
      refine wpAnyH_take (i := 0) (oi := _) (v := ?_) rfl (by kernel_rfl) (by kernel_rfl) (by kernel_rfl) (fun _ _ _ h => h) (Or.inl ⟨by rfl, ?_⟩) hS ?_
      rotate_left
      · (intro w hSw; (try dsimp only at hSw); go_simp; (try with_reducible rfl))
      rotate_left
      simp only [Act.put, List.getElem_toArray, List.getElem_cons_zero, List.getElem_cons_succ, List.setIfInBounds_toArray, List.set_cons_zero, List.set_cons_succ]
      refine wpAnyH_take (i := 1) (oi := _) (v := ?_) rfl (by kernel_rfl) (by kernel_rfl) (by kernel_rfl) (fun _ _ _ h => h) (Or.inl ⟨by rfl, ?_⟩) hS ?_
      rotate_left
      · (intro w hSw; (try dsimp only at hSw); go_simp; (try with_reducible rfl))
      rotate_left
      simp only [Act.put, List.getElem_toArray, List.getElem_cons_zero, List.getElem_cons_succ, List.setIfInBounds_toArray, List.set_cons_zero, List.set_cons_succ]
      refine wpAnyH_ready (rs := [2, 7]) (by kernel_rfl) (by simp) ?_
      refine AllReadyH.cons rfl (fun K hK => ?_) (AllReadyH.cons rfl (fun K hK => ?_) AllReadyH.nil)
      · rw [if_pos (by rfl)]
        go_simp
        have h0 := write_any 1 vv
        have e0 : (((1 : UInt8).toNat : Nat) : Int) = 1 := rfl
        rw [e0] at h0
        refine h0.mono ?_
        rintro e vv ⟨⟨gw, rfl, RW⟩, bw⟩
        have bv := Ext.trans bv bw
        skip
        refine hK.out _ _ (HS.out _ bv) (fun hS' => ?_)
        clear hK K hS
        have hS := hS'
        clear hS'
        try simp only [Act.put, List.getElem_toArray, List.getElem_cons_zero, List.getElem_cons_succ, List.setIfInBounds_toArray, List.set_cons_zero, List.set_cons_succ]
        refine wpAnyH_ready (rs := [3, 7]) (by kernel_rfl) (by simp) ?_
        refine AllReadyH.cons rfl (fun K hK => ?_) (AllReadyH.cons rfl (fun K hK => ?_) AllReadyH.nil)
        · rw [if_pos (by rfl)]
          go_simp
          refine (two_begin_arg (fun _ => True) ex_p6 (n := 4) (m := 0 + 1) rfl rfl A11 c11 B11 d11 vv (N13.next bv).ry.tt (N13.next bv).rg.tt (number := 4) (by decide) (ki := 2) (a := 0) (y := 1) (bs := fullL 1) (L := 128) (fullL_len 1) (some ⟨gw, 0, none⟩) 128 RW.tt (by rw [fullL_len]; decide) (fun h => h.2 ⟨0, by decide, by decide⟩) (kv := 2) rfl).mono ?_
          rintro e vv ⟨AB, cB, BB, dB, rfl, bw⟩
          have bv := Ext.trans bv bw
          skip
          refine hK.out _ _ (HS.out _ bv) (fun hS' => ?_)
          clear hK K hS
          have hS := hS'
          clear hS'
          try simp only [Act.put, List.getElem_toArray, List.getElem_cons_zero, List.getElem_cons_succ, List.setIfInBounds_toArray, List.set_cons_zero, List.set_cons_succ]
          refine wpAnyH_take (i := 4) (oi := _) (v := ?_) rfl (by kernel_rfl) (by kernel_rfl) (by kernel_rfl) (fun _ _ _ h => h) (Or.inl ⟨by rfl, ?_⟩) hS ?_
          rotate_left
          · (intro w hSw; (try dsimp only at hSw); go_simp; (try with_reducible rfl))
          rotate_left
          simp only [Act.put, List.getElem_toArray, List.getElem_cons_zero, List.getElem_cons_succ, List.setIfInBounds_toArray, List.set_cons_zero, List.set_cons_succ]
          refine wpAnyH_take (i := 5) (oi := _) (v := ?_) rfl (by kernel_rfl) (by kernel_rfl) (by kernel_rfl) (fun _ _ _ h => h) (Or.inl ⟨by rfl, ?_⟩) hS ?_
          rotate_left
          · (intro w hSw; (try dsimp only at hSw); go_simp; (try with_reducible rfl))
          rotate_left
          simp only [Act.put, List.getElem_toArray, List.getElem_cons_zero, List.getElem_cons_succ, List.setIfInBounds_toArray, List.set_cons_zero, List.set_cons_succ]
          refine wpAnyH_take (i := 6) (oi := _) (v := ?_) rfl (by kernel_rfl) (by kernel_rfl) (by kernel_rfl) (fun _ _ _ h => h) (Or.inl ⟨by rfl, ?_⟩) hS ?_
          rotate_left
          · (intro w hSw; (try dsimp only at hSw); go_simp; (try with_reducible rfl))
          rotate_left
          simp only [Act.put, List.getElem_toArray, List.getElem_cons_zero, List.getElem_cons_succ, List.setIfInBounds_toArray, List.set_cons_zero, List.set_cons_succ]
          refine wpAnyH_ready (rs := [7]) (by kernel_rfl) (by simp) ?_
          refine AllReadyH.cons rfl (fun K hK => ?_) AllReadyH.nil
          rw [if_pos (by rfl)]
          go_simp
          have ba := Ext.alloc (Below.refl vv.heap.size vv) (.cells #[.slice none 0 0, .slice none 0 0] 28)
          have GA := BoxOf.new vv #[.slice none 0 0, .slice none 0 0] 28
          have hgs := bv.size
          have bv := Ext.trans bv ba
          skip
          refine hK.out _ _ (HS.out _ bv) (fun hS' => ?_)
          clear hK K hS
          have hS := hS'
          clear hS'
          try simp only [Act.put, List.getElem_toArray, List.getElem_cons_zero, List.getElem_cons_succ, List.setIfInBounds_toArray, List.set_cons_zero, List.set_cons_succ]
          clear ba
          obtain ⟨ga, hga⟩ : ∃ z : Nat, z = vv.heap.size := ⟨_, rfl⟩
          rw [← hga] at GA hgs ⊢
          clear hga
          generalize vv.alloc (.cells #[.slice none 0 0, .slice none 0 0] 28) = vv at *
          refine wpAnyH_ready (rs := [8]) (by kernel_rfl) (by simp) ?_
          refine AllReadyH.cons rfl (fun K hK => ?_) AllReadyH.nil
          rw [if_pos (by rfl)]
          have gaf := GA.free
          have gac := GA.cell
          go_simp
          have bv := Below.setCell (p := ⟨ga, 1, none⟩) (Below.setCell (p := ⟨ga, 0, none⟩) bv hgs (.slice AB 0 cB)) hgs (.slice BB 0 dB)
          refine hK.out _ _ (HS.out _ bv) (fun hS' => ?_)
          clear hK K hS
          have hS := hS'
          clear hS'
          try simp only [Act.put, List.getElem_toArray, List.getElem_cons_zero, List.getElem_cons_succ, List.setIfInBounds_toArray, List.set_cons_zero, List.set_cons_succ]
          refine wpAnyH_take (i := 9) (oi := _) (v := ?_) rfl (by kernel_rfl) (by kernel_rfl) (by kernel_rfl) (fun _ _ _ h => h) (Or.inl ⟨by rfl, ?_⟩) hS ?_
          rotate_left
          · (intro w hSw; (try dsimp only at hSw); go_simp; (try with_reducible rfl))
          rotate_left
          simp only [Act.put, List.getElem_toArray, List.getElem_cons_zero, List.getElem_cons_succ, List.setIfInBounds_toArray, List.set_cons_zero, List.set_cons_succ]
          refine wpAnyH_done (by kernel_rfl) ?_ _
          have HBV := Lib.hid bv
          clear hS bv gaf gac
          go_wp2_with fail
          go_meet
          exact ⟨rfl, HBV.out⟩
        · rw [if_pos (by rfl)]
          go_simp
          have ba := Ext.alloc (Below.refl vv.heap.size vv) (.cells #[.slice none 0 0, .slice none 0 0] 28)
          have GA := BoxOf.new vv #[.slice none 0 0, .slice none 0 0] 28
          have hgs := bv.size
          have bv := Ext.trans bv ba
          have RW := RW.below ba
          refine hK.out _ _ (HS.out _ bv) (fun hS' => ?_)
          clear hK K hS
          have hS := hS'
          clear hS'
          try simp only [Act.put, List.getElem_toArray, List.getElem_cons_zero, List.getElem_cons_succ, List.setIfInBounds_toArray, List.set_cons_zero, List.set_cons_succ]
          clear ba
          obtain ⟨ga, hga⟩ : ∃ z : Nat, z = vv.heap.size := ⟨_, rfl⟩
          rw [← hga] at GA hgs ⊢
          clear hga
          generalize vv.alloc (.cells #[.slice none 0 0, .slice none 0 0] 28) = vv at *
          refine wpAnyH_ready (rs := [3]) (by kernel_rfl) (by simp) ?_
          refine AllReadyH.cons rfl (fun K hK => ?_) AllReadyH.nil
          rw [if_pos (by rfl)]
          go_simp
          refine (two_begin_arg (fun _ => True) ex_p6 (n := 4) (m := 0 + 1) rfl rfl A11 c11 B11 d11 vv (N13.next bv).ry.tt (N13.next bv).rg.tt (number := 4) (by decide) (ki := 2) (a := 0) (y := 1) (bs := fullL 1) (L := 128) (fullL_len 1) (some ⟨gw, 0, none⟩) 128 RW.tt (by rw [fullL_len]; decide) (fun h => h.2 ⟨0, by decide, by decide⟩) (kv := 2) rfl).mono ?_
          rintro e vv ⟨AB, cB, BB, dB, rfl, bw⟩
          have bv := Ext.trans bv bw
          have GA := GA.next bw
          refine hK.out _ _ (HS.out _ bv) (fun hS' => ?_)
          clear hK K hS
          have hS := hS'
          clear hS'
          try simp only [Act.put, List.getElem_toArray, List.getElem_cons_zero, List.getElem_cons_succ, List.setIfInBounds_toArray, List.set_cons_zero, List.set_cons_succ]
          refine wpAnyH_take (i := 4) (oi := _) (v := ?_) rfl (by kernel_rfl) (by kernel_rfl) (by kernel_rfl) (fun _ _ _ h => h) (Or.inl ⟨by rfl, ?_⟩) hS ?_
          rotate_left
          · (intro w hSw; (try dsimp only at hSw); go_simp; (try with_reducible rfl))
          rotate_left
          simp only [Act.put, List.getElem_toArray, List.getElem_cons_zero, List.getElem_cons_succ, List.setIfInBounds_toArray, List.set_cons_zero, List.set_cons_succ]
          refine wpAnyH_take (i := 5) (oi := _) (v := ?_) rfl (by kernel_rfl) (by kernel_rfl) (by kernel_rfl) (fun _ _ _ h => h) (Or.inl ⟨by rfl, ?_⟩) hS ?_
          rotate_left
          · (intro w hSw; (try dsimp only at hSw); go_simp; (try with_reducible rfl))
          rotate_left
          simp only [Act.put, List.getElem_toArray, List.getElem_cons_zero, List.getElem_cons_succ, List.setIfInBounds_toArray, List.set_cons_zero, List.set_cons_succ]
          refine wpAnyH_take (i := 6) (oi := _) (v := ?_) rfl (by kernel_rfl) (by kernel_rfl) (by kernel_rfl) (fun _ _ _ h => h) (Or.inl ⟨by rfl, ?_⟩) hS ?_
          rotate_left
          · (intro w hSw; (try dsimp only at hSw); go_simp; (try with_reducible rfl))
          rotate_left
          simp only [Act.put, List.getElem_toArray, List.getElem_cons_zero, List.getElem_cons_succ, List.setIfInBounds_toArray, List.set_cons_zero, List.set_cons_succ]
          refine wpAnyH_ready (rs := [8]) (by kernel_rfl) (by simp) ?_
          refine AllReadyH.cons rfl (fun K hK => ?_) AllReadyH.nil
          rw [if_pos (by rfl)]
          have gaf := GA.free
          have gac := GA.cell
          go_simp
          have bv := Below.setCell (p := ⟨ga, 1, none⟩) (Below.setCell (p := ⟨ga, 0, none⟩) bv hgs (.slice AB 0 cB)) hgs (.slice BB 0 dB)
          refine hK.out _ _ (HS.out _ bv) (fun hS' => ?_)
          clear hK K hS
          have hS := hS'
          clear hS'
          try simp only [Act.put, List.getElem_toArray, List.getElem_cons_zero, List.getElem_cons_succ, List.setIfInBounds_toArray, List.set_cons_zero, List.set_cons_succ]
          refine wpAnyH_take (i := 9) (oi := _) (v := ?_) rfl (by kernel_rfl) (by kernel_rfl) (by kernel_rfl) (fun _ _ _ h => h) (Or.inl ⟨by rfl, ?_⟩) hS ?_
          rotate_left
          · (intro w hSw; (try dsimp only at hSw); go_simp; (try with_reducible rfl))
          rotate_left
          simp only [Act.put, List.getElem_toArray, List.getElem_cons_zero, List.getElem_cons_succ, List.setIfInBounds_toArray, List.set_cons_zero, List.set_cons_succ]
          refine wpAnyH_done (by kernel_rfl) ?_ _
          have HBV := Lib.hid bv
          clear hS bv gaf gac
          go_wp2_with fail
          go_meet
          exact ⟨rfl, HBV.out⟩
      · rw [if_pos (by rfl)]
        go_simp
        have ba := Ext.alloc (Below.refl vv.heap.size vv) (.cells #[.slice none 0 0, .slice none 0 0] 28)
        have GA := BoxOf.new vv #[.slice none 0 0, .slice none 0 0] 28
        have hgs := bv.size
        have bv := Ext.trans bv ba
        skip
        refine hK.out _ _ (HS.out _ bv) (fun hS' => ?_)
        clear hK K hS
        have hS := hS'
        clear hS'
        try simp only [Act.put, List.getElem_toArray, List.getElem_cons_zero, List.getElem_cons_succ, List.setIfInBounds_toArray, List.set_cons_zero, List.set_cons_succ]
        clear ba
        obtain ⟨ga, hga⟩ : ∃ z : Nat, z = vv.heap.size := ⟨_, rfl⟩
        rw [← hga] at GA hgs ⊢
        clear hga
        generalize vv.alloc (.cells #[.slice none 0 0, .slice none 0 0] 28) = vv at *
        refine wpAnyH_ready (rs := [2]) (by kernel_rfl) (by simp) ?_
        refine AllReadyH.cons rfl (fun K hK => ?_) AllReadyH.nil
        rw [if_pos (by rfl)]
        go_simp
        have h0 := write_any 1 vv
        have e0 : (((1 : UInt8).toNat : Nat) : Int) = 1 := rfl
        rw [e0] at h0
        refine h0.mono ?_
        rintro e vv ⟨⟨gw, rfl, RW⟩, bw⟩
        have bv := Ext.trans bv bw
        have GA := GA.next bw
        refine hK.out _ _ (HS.out _ bv) (fun hS' => ?_)
        clear hK K hS
        have hS := hS'
        clear hS'
        try simp only [Act.put, List.getElem_toArray, List.getElem_cons_zero, List.getElem_cons_succ, List.setIfInBounds_toArray, List.set_cons_zero, List.set_cons_succ]
        refine wpAnyH_ready (rs := [3]) (by kernel_rfl) (by simp) ?_
        refine AllReadyH.cons rfl (fun K hK => ?_) AllReadyH.nil
        rw [if_pos (by rfl)]
        go_simp
        refine (two_begin_arg (fun _ => True) ex_p6 (n := 4) (m := 0 + 1) rfl rfl A11 c11 B11 d11 vv (N13.next bv).ry.tt (N13.next bv).rg.tt (number := 4) (by decide) (ki := 2) (a := 0) (y := 1) (bs := fullL 1) (L := 128) (fullL_len 1) (some ⟨gw, 0, none⟩) 128 RW.tt (by rw [fullL_len]; decide) (fun h => h.2 ⟨0, by decide, by decide⟩) (kv := 2) rfl).mono ?_
        rintro e vv ⟨AB, cB, BB, dB, rfl, bw⟩
        have bv := Ext.trans bv bw
        have GA := GA.next bw
        refine hK.out _ _ (HS.out _ bv) (fun hS' => ?_)
        clear hK K hS
        have hS := hS'
        clear hS'
        try simp only [Act.put, List.getElem_toArray, List.getElem_cons_zero, List.getElem_cons_succ, List.setIfInBounds_toArray, List.set_cons_zero, List.set_cons_succ]
        refine wpAnyH_take (i := 4) (oi := _) (v := ?_) rfl (by kernel_rfl) (by kernel_rfl) (by kernel_rfl) (fun _ _ _ h => h) (Or.inl ⟨by rfl, ?_⟩) hS ?_
        rotate_left
        · (intro w hSw; (try dsimp only at hSw); go_simp; (try with_reducible rfl))
        rotate_left
        simp only [Act.put, List.getElem_toArray, List.getElem_cons_zero, List.getElem_cons_succ, List.setIfInBounds_toArray, List.set_cons_zero, List.set_cons_succ]
        refine wpAnyH_take (i := 5) (oi := _) (v := ?_) rfl (by kernel_rfl) (by kernel_rfl) (by kernel_rfl) (fun _ _ _ h => h) (Or.inl ⟨by rfl, ?_⟩) hS ?_
        rotate_left
        · (intro w hSw; (try dsimp only at hSw); go_simp; (try with_reducible rfl))
        rotate_left
        simp only [Act.put, List.getElem_toArray, List.getElem_cons_zero, List.getElem_cons_succ, List.setIfInBounds_toArray, List.set_cons_zero, List.set_cons_succ]
        refine wpAnyH_take (i := 6) (oi := _) (v := ?_) rfl (by kernel_rfl) (by kernel_rfl) (by kernel_rfl) (fun _ _ _ h => h) (Or.inl ⟨by rfl, ?_⟩) hS ?_
        rotate_left
        · (intro w hSw; (try dsimp only at hSw); go_simp; (try with_reducible rfl))
        rotate_left
        simp only [Act.put, List.getElem_toArray, List.getElem_cons_zero, List.getElem_cons_succ, List.setIfInBounds_toArray, List.set_cons_zero, List.set_cons_succ]
        refine wpAnyH_ready (rs := [8]) (by kernel_rfl) (by simp) ?_
        refine AllReadyH.cons rfl (fun K hK => ?_) AllReadyH.nil
        rw [if_pos (by rfl)]
        have gaf := GA.free
        have gac := GA.cell
        go_simp
        have bv := Below.setCell (p := ⟨ga, 1, none⟩) (Below.setCell (p := ⟨ga, 0, none⟩) bv hgs (.slice AB 0 cB)) hgs (.slice BB 0 dB)
        refine hK.out _ _ (HS.out _ bv) (fun hS' => ?_)
        clear hK K hS
        have hS := hS'
        clear hS'
        try simp only [Act.put, List.getElem_toArray, List.getElem_cons_zero, List.getElem_cons_succ, List.setIfInBounds_toArray, List.set_cons_zero, List.set_cons_succ]
        refine wpAnyH_take (i := 9) (oi := _) (v := ?_) rfl (by kernel_rfl) (by kernel_rfl) (by kernel_rfl) (fun _ _ _ h => h) (Or.inl ⟨by rfl, ?_⟩) hS ?_
        rotate_left
        · (intro w hSw; (try dsimp only at hSw); go_simp; (try with_reducible rfl))
        rotate_left
        simp only [Act.put, List.getElem_toArray, List.getElem_cons_zero, List.getElem_cons_succ, List.setIfInBounds_toArray, List.set_cons_zero, List.set_cons_succ]
        refine wpAnyH_done (by kernel_rfl) ?_ _
        have HBV := Lib.hid bv
        clear hS bv gaf gac
        go_wp2_with fail
        go_meet
        exact ⟨rfl, HBV.out⟩
    case rest =>
      obtain ⟨rfl, b14⟩ := hcut
      have N14 := N13.next b14
      have R14 := R13.next b14
      have RD14 := Lib.hid (RD13.out.below b14)
      clear b14 N13 R13 RD13
      generalize wc = w14 at *
      go_upto_region 14 with fail
      have ccd := N14.cfg.drew.cell
      have ppd := N14.pl.drew.cell
      have HS : Hid (∀ w', Below w14.heap.size w14 w' → ((∀ p, w'.cell? ⟨gc, p, none⟩ = (#[.int .u32 0, .int .i64 3, .int .i64 1, .int .i64 2, .int .i64 12, .int .i64 2] : Array Value).toList[p]?) ∧ ∀ p, w'.cell? ⟨gp, p, none⟩ = (#[.slice A11 4 c11, .slice B11 (0 + 1) d11] : Array Value).toList[p]?)) := fun w' bb => ⟨(N14.next bb).cfg.cell, (N14.next bb).pl.cell⟩
      refine wp_region_held_drew (S := fun w' => (∀ p, w'.cell? ⟨gc, p, none⟩ = (#[.int .u32 0, .int .i64 3, .int .i64 1, .int .i64 2, .int .i64 12, .int .i64 2] : Array Value).toList[p]?) ∧ ∀ p, w'.cell? ⟨gp, p, none⟩ = (#[.slice A11 4 c11, .slice B11 (0 + 1) d11] : Array Value).toList[p]?) (by kernel_rfl) ⟨ccd, ppd⟩ (fun hS => ?_)
      have bv := Ext.drew (Below.refl w14.heap.size w14)
      clear ccd ppd
      generalize w14.drew = vv at *
      refine wpAnyH_take (i := 0) (oi := _) (v := ?_) rfl (by kernel_rfl) (by kernel_rfl) (by kernel_rfl) (fun _ _ _ h => h) (Or.inl ⟨by rfl, ?_⟩) hS ?_
      rotate_left
      · (intro w hSw; (try dsimp only at hSw); go_simp; (try with_reducible rfl))
      rotate_left
      simp only [Act.put, List.getElem_toArray, List.getElem_cons_zero, List.getElem_cons_succ, List.setIfInBounds_toArray, List.set_cons_zero, List.set_cons_succ]
      refine wpAnyH_take (i := 1) (oi := _) (v := ?_) rfl (by kernel_rfl) (by kernel_rfl) (by kernel_rfl) (fun _ _ _ h => h) (Or.inl ⟨by rfl, ?_⟩) hS ?_
      rotate_left
      · (intro w hSw; (try dsimp only at hSw); go_simp; (try with_reducible rfl))
      rotate_left
      simp only [Act.put, List.getElem_toArray, List.getElem_cons_zero, List.getElem_cons_succ, List.setIfInBounds_toArray, List.set_cons_zero, List.set_cons_succ]
      refine wpAnyH_ready (rs := [2]) (by kernel_rfl) (by simp) ?_
      refine AllReadyH.cons rfl (fun K hK => ?_) AllReadyH.nil
      rw [if_pos (by rfl)]
      go_simp
      have h0 := full_any 0 vv
      have e0 : (((0 : UInt8).toNat : Nat) : Int) = 0 := rfl
      rw [e0] at h0
      refine h0.mono ?_
      rintro e vv ⟨⟨gw, rfl, RW⟩, bw⟩
      have bv := Ext.trans bv bw
      refine hK.out _ _ (HS.out _ bv) (fun hS' => ?_)
      clear hK K hS h0 e0 bw
      have hS := hS'
      clear hS'
      try simp only [Act.put, List.getElem_toArray, List.getElem_cons_zero, List.getElem_cons_succ, List.setIfInBounds_toArray, List.set_cons_zero, List.set_cons_succ]
      refine wpAnyH_ready (rs := [3]) (by kernel_rfl) (by simp) ?_
      refine AllReadyH.cons rfl (fun K hK => ?_) AllReadyH.nil
      rw [if_pos (by rfl)]
      go_simp
      refine (two_may (fun _ => True) ex_p6 (n := 4) (m := 0 + 1) rfl rfl A11 c11 B11 d11 vv (N14.next bv).ry.tt (N14.next bv).rg.tt (k := 4) (bs := fullL 0) (L := 128) (fullL_len 0) (some ⟨gw, 0, none⟩) 128 RW.bytes_bs (b := false) (v := 2) (.inr (.inl ⟨ex_p6, by decide, rfl, rfl⟩))).mono ?_
      rintro e vv ⟨rfl, bw⟩
      have bv := Ext.trans bv bw
      refine hK.out _ _ (HS.out _ bv) (fun hS' => ?_)
      clear hK K hS bw
      have hS := hS'
      clear hS'
      try simp only [Act.put, List.getElem_toArray, List.getElem_cons_zero, List.getElem_cons_succ, List.setIfInBounds_toArray, List.set_cons_zero, List.set_cons_succ]
      refine wpAnyH_take (i := 4) (oi := _) (v := ?_) rfl (by kernel_rfl) (by kernel_rfl) (by kernel_rfl) (fun _ _ _ h => h) (Or.inl ⟨by rfl, ?_⟩) hS ?_
      rotate_left
      · (intro w hSw; (try dsimp only at hSw); go_simp; (try with_reducible rfl))
      rotate_left
      simp only [Act.put, List.getElem_toArray, List.getElem_cons_zero, List.getElem_cons_succ, List.setIfInBounds_toArray, List.set_cons_zero, List.set_cons_succ]
      refine wpAnyH_take (i := 5) (oi := _) (v := ?_) rfl (by kernel_rfl) (by kernel_rfl) (by kernel_rfl) (fun _ _ _ h => h) (Or.inl ⟨by rfl, ?_⟩) hS ?_
      rotate_left
      · (intro w hSw; (try dsimp only at hSw); go_simp; (try with_reducible rfl))
      rotate_left
      simp only [Act.put, List.getElem_toArray, List.getElem_cons_zero, List.getElem_cons_succ, List.setIfInBounds_toArray, List.set_cons_zero, List.set_cons_succ]
      refine wpAnyH_take (i := 6) (oi := _) (v := ?_) rfl (by kernel_rfl) (by kernel_rfl) (by kernel_rfl) (fun _ _ _ h => h) (Or.inl ⟨by rfl, ?_⟩) hS ?_
      rotate_left
      · (intro w hSw; (try dsimp only at hSw); go_simp; (try with_reducible rfl))
      rotate_left
      simp only [Act.put, List.getElem_toArray, List.getElem_cons_zero, List.getElem_cons_succ, List.setIfInBounds_toArray, List.set_cons_zero, List.set_cons_succ]
      refine wpAnyH_take (i := 7) (oi := _) (v := ?_) rfl (by kernel_rfl) (by kernel_rfl) (by kernel_rfl) (fun _ _ _ h => h) (Or.inl ⟨by rfl, ?_⟩) hS ?_
      rotate_left
      · (intro w hSw; (try dsimp only at hSw); go_simp; (try with_reducible rfl))
      rotate_left
      simp only [Act.put, List.getElem_toArray, List.getElem_cons_zero, List.getElem_cons_succ, List.setIfInBounds_toArray, List.set_cons_zero, List.set_cons_succ]
      refine wpAnyH_take (i := 8) (oi := _) (v := ?_) rfl (by kernel_rfl) (by kernel_rfl) (by kernel_rfl) (fun _ _ _ h => h) (Or.inl ⟨by rfl, ?_⟩) hS ?_
      rotate_left
      · (intro w hSw; (try dsimp only at hSw); go_simp; (try with_reducible rfl))
      rotate_left
      simp only [Act.put, List.getElem_toArray, List.getElem_cons_zero, List.getElem_cons_succ, List.setIfInBounds_toArray, List.set_cons_zero, List.set_cons_succ]
      refine wpAnyH_done (by kernel_rfl) ?_ _
      have N15 := N14.next bv
      have R15 := R14.next bv
      have RD15 := Lib.hid (RD14.out.below bv)
      clear hS bv N14 R14 RD14 HS RW
      generalize vv = w15 at *
      have cc := N15.cfg.cell
      have pp := N15.pl.cell
      have HE := Lib.hid (two_may _ ex_p6 (n := 4) (m := 0 + 1) rfl rfl A11 c11 B11 d11 w15 N15.ry N15.rg (k := 0) (bs := []) (L := 0) rfl none 0 (Bs.nil _ _) (b := false) (v := 3) (.inr (.inr (.inl ⟨ex_p6, by decide, by decide, rfl, rfl⟩))))
      go_wp2_with fail
      refine HE.out.mono ?_
      rintro e w16 ⟨rfl, b16⟩
      have N16 := N15.next b16
      have R16 := R15.next b16
      have RD16 := Lib.hid (RD15.out.below b16)
      clear cc pp HE b16 N15 R15 RD15
      go_upto_region 16 with fail
      obtain ⟨f2, hf2⟩ : ∃ z, z = fullL 2 := ⟨_, rfl⟩
      have HF2 := Lib.hid hf2
      have HBS : Hid (∀ w', Below w16.heap.size w16 w' → Bs w' D12 128 f2) := fun w' bb => by rw [hf2]; exact RD16.out.bytes_bs.below bb
      have HS : Hid (∀ w', Below w16.heap.size w16 w' → (Below w16.heap.size w16 w' ∧ (∀ p, w'.cell? ⟨gc, p, none⟩ = (#[.int .u32 0, .int .i64 3, .int .i64 1, .int .i64 2, .int .i64 12, .int .i64 2] : Array Value).toList[p]?) ∧ (∀ p, w'.cell? ⟨gp, p, none⟩ = (#[.slice A11 4 c11, .slice B11 (0 + 1) d11] : Array Value).toList[p]?) ∧ (∀ p, w'.cell? ⟨gq + 1, p, none⟩ = (#[.int .i64 4, .int .i64 0, .slice D12 128 q12, .int .i64 1] : Array Value).toList[p]?))) := fun w' bb => ⟨bb, (N16.next bb).cfg.cell, (N16.next bb).pl.cell, (R16.next bb).cell⟩
      as_aux_lemma =>
      dsimp only [List.append]
      have HN16 := Lib.hid N16
      have HSD := HS.out _ (Ext.drew (Below.refl w16.heap.size w16))
      refine wp_region_held_drew (S := fun w' => Below w16.heap.size w16 w' ∧ (∀ p, w'.cell? ⟨gc, p, none⟩ = (#[.int .u32 0, .int .i64 3, .int .i64 1, .int .i64 2, .int .i64 12, .int .i64 2] : Array Value).toList[p]?) ∧ (∀ p, w'.cell? ⟨gp, p, none⟩ = (#[.slice A11 4 c11, .slice B11 (0 + 1) d11] : Array Value).toList[p]?) ∧ (∀ p, w'.cell? ⟨gq + 1, p, none⟩ = (#[.int .i64 4, .int .i64 0, .slice D12 128 q12, .int .i64 1] : Array Value).toList[p]?)) (by kernel_rfl) HSD (fun hS => ?_)
      clear hf2 RD16 R16 N16 HSD
      refine wpAnyH_take (i := 0) (oi := _) (v := ?_) rfl (by kernel_rfl) (by kernel_rfl) (by kernel_rfl) (fun _ _ _ h => h) (Or.inl ⟨by rfl, ?_⟩) hS ?_
      rotate_left
      · (intro w hSw; (try dsimp only at hSw); go_simp; (try with_reducible rfl))
      rotate_left
      simp only [Act.put, List.getElem_toArray, List.getElem_cons_zero, List.getElem_cons_succ, List.setIfInBounds_toArray, List.set_cons_zero, List.set_cons_succ]
      refine wpAnyH_take (i := 1) (oi := _) (v := ?_) rfl (by kernel_rfl) (by kernel_rfl) (by kernel_rfl) (fun _ _ _ h => h) (Or.inl ⟨by rfl, ?_⟩) hS ?_
      rotate_left
      · (intro w hSw; (try dsimp only at hSw); go_simp; (try with_reducible rfl))
      rotate_left
      simp only [Act.put, List.getElem_toArray, List.getElem_cons_zero, List.getElem_cons_succ, List.setIfInBounds_toArray, List.set_cons_zero, List.set_cons_succ]
      refine wpAnyH_take (i := 2) (oi := _) (v := ?_) rfl (by kernel_rfl) (by kernel_rfl) (by kernel_rfl) (fun _ _ _ h => h) (Or.inl ⟨by rfl, ?_⟩) hS ?_
      rotate_left
      · (intro w hSw; (try dsimp only at hSw); go_simp; (try with_reducible rfl))
      rotate_left
      simp only [Act.put, List.getElem_toArray, List.getElem_cons_zero, List.getElem_cons_succ, List.setIfInBounds_toArray, List.set_cons_zero, List.set_cons_succ]
      refine wpAnyH_take (i := 3) (oi := _) (v := ?_) rfl (by kernel_rfl) (by kernel_rfl) (by kernel_rfl) (fun _ _ _ h => h) (Or.inl ⟨by rfl, ?_⟩) hS ?_
      rotate_left
      · (intro w hSw; (try dsimp only at hSw); go_simp; (try with_reducible rfl))
      rotate_left
      simp only [Act.put, List.getElem_toArray, List.getElem_cons_zero, List.getElem_cons_succ, List.setIfInBounds_toArray, List.set_cons_zero, List.set_cons_succ]
      refine wpAnyH_take (i := 4) (oi := _) (v := ?_) rfl (by kernel_rfl) (by kernel_rfl) (by kernel_rfl) (fun _ _ _ h => h) (Or.inl ⟨by rfl, ?_⟩) hS ?_
      rotate_left
      · (intro w hSw; (try dsimp only at hSw); go_simp; (try with_reducible rfl))
      rotate_left
      simp only [Act.put, List.getElem_toArray, List.getElem_cons_zero, List.getElem_cons_succ, List.setIfInBounds_toArray, List.set_cons_zero, List.set_cons_succ]
      refine wpAnyH_take (i := 5) (oi := _) (v := ?_) rfl (by kernel_rfl) (by kernel_rfl) (by kernel_rfl) (fun _ _ _ h => h) (Or.inl ⟨by rfl, ?_⟩) hS ?_
      rotate_left
      · (intro w hSw; (try dsimp only at hSw); go_simp; (try with_reducible rfl))
      rotate_left
      simp only [Act.put, List.getElem_toArray, List.getElem_cons_zero, List.getElem_cons_succ, List.setIfInBounds_toArray, List.set_cons_zero, List.set_cons_succ]
      refine wpAnyH_take (i := 6) (oi := _) (v := ?_) rfl (by kernel_rfl) (by kernel_rfl) (by kernel_rfl) (fun _ _ _ h => h) (Or.inl ⟨by rfl, ?_⟩) hS ?_
      rotate_left
      · (intro w hSw; (try dsimp only at hSw); go_simp; (try with_reducible rfl))
      rotate_left
      simp only [Act.put, List.getElem_toArray, List.getElem_cons_zero, List.getElem_cons_succ, List.setIfInBounds_toArray, List.set_cons_zero, List.set_cons_succ]
      refine wpAnyH_take (i := 7) (oi := _) (v := ?_) rfl (by kernel_rfl) (by kernel_rfl) (by kernel_rfl) (fun _ _ _ h => h) (Or.inl ⟨by rfl, ?_⟩) hS ?_
      rotate_left
      · (intro w hSw; (try dsimp only at hSw); go_simp; (try with_reducible rfl))
      rotate_left
      simp only [Act.put, List.getElem_toArray, List.getElem_cons_zero, List.getElem_cons_succ, List.setIfInBounds_toArray, List.set_cons_zero, List.set_cons_succ]
      refine wpAnyH_take (i := 8) (oi := _) (v := ?_) rfl (by kernel_rfl) (by kernel_rfl) (by kernel_rfl) (fun _ _ _ h => h) (Or.inl ⟨by rfl, ?_⟩) hS ?_
      rotate_left
      · (intro w hSw; (try dsimp only at hSw); go_simp; (try with_reducible rfl))
      rotate_left
      simp only [Act.put, List.getElem_toArray, List.getElem_cons_zero, List.getElem_cons_succ, List.setIfInBounds_toArray, List.set_cons_zero, List.set_cons_succ]
      refine wpAnyH_take (i := 9) (oi := _) (v := ?_) rfl (by kernel_rfl) (by kernel_rfl) (by kernel_rfl) (fun _ _ _ h => h) (Or.inl ⟨by rfl, ?_⟩) hS ?_
      rotate_left
      · (intro w hSw; (try dsimp only at hSw); go_simp; (try with_reducible rfl))
      rotate_left
      simp only [Act.put, List.getElem_toArray, List.getElem_cons_zero, List.getElem_cons_succ, List.setIfInBounds_toArray, List.set_cons_zero, List.set_cons_succ]
      refine wpAnyH_take (i := 10) (oi := _) (v := ?_) rfl (by kernel_rfl) (by kernel_rfl) (by kernel_rfl) (fun _ _ _ h => h) (Or.inl ⟨by rfl, ?_⟩) hS ?_
      rotate_left
      · (intro w hSw; (try dsimp only at hSw); go_simp; (try with_reducible rfl))
      rotate_left
      simp only [Act.put, List.getElem_toArray, List.getElem_cons_zero, List.getElem_cons_succ, List.setIfInBounds_toArray, List.set_cons_zero, List.set_cons_succ]
      refine wpAnyH_take (i := 11) (oi := _) (v := ?_) rfl (by kernel_rfl) (by kernel_rfl) (by kernel_rfl) (fun _ _ _ h => h) (Or.inl ⟨by rfl, ?_⟩) hS ?_
      rotate_left
      · (intro w hSw; (try dsimp only at hSw); go_simp; (try with_reducible rfl))
      rotate_left
      simp only [Act.put, List.getElem_toArray, List.getElem_cons_zero, List.getElem_cons_succ, List.setIfInBounds_toArray, List.set_cons_zero, List.set_cons_succ]
      refine wpAnyH_take (i := 12) (oi := _) (v := ?_) rfl (by kernel_rfl) (by kernel_rfl) (by kernel_rfl) (fun _ _ _ h => h) (Or.inl ⟨by rfl, ?_⟩) hS ?_
      rotate_left
      · (intro w hSw; (try dsimp only at hSw); go_simp; (try with_reducible rfl))
      rotate_left
      simp only [Act.put, List.getElem_toArray, List.getElem_cons_zero, List.getElem_cons_succ, List.setIfInBounds_toArray, List.set_cons_zero, List.set_cons_succ]
      refine wpAnyH_take (i := 13) (oi := _) (v := ?_) rfl (by kernel_rfl) (by kernel_rfl) (by kernel_rfl) (fun _ _ _ h => h) (Or.inl ⟨by rfl, ?_⟩) hS ?_
      rotate_left
      · (intro w hSw; (try dsimp only at hSw); go_simp; (try with_reducible rfl))
      rotate_left
      simp only [Act.put, List.getElem_toArray, List.getElem_cons_zero, List.getElem_cons_succ, List.setIfInBounds_toArray, List.set_cons_zero, List.set_cons_succ]
      refine wpAnyH_take (i := 14) (oi := _) (v := ?_) rfl (by kernel_rfl) (by kernel_rfl) (by kernel_rfl) (fun _ _ _ h => h) (Or.inl ⟨by rfl, ?_⟩) hS ?_
      rotate_left
      · (intro w hSw; (try dsimp only at hSw); go_simp; (try with_reducible rfl))
      rotate_left
      simp only [Act.put, List.getElem_toArray, List.getElem_cons_zero, List.getElem_cons_succ, List.setIfInBounds_toArray, List.set_cons_zero, List.set_cons_succ]
      refine wpAnyH_take (i := 15) (oi := _) (v := ?_) rfl (by kernel_rfl) (by kernel_rfl) (by kernel_rfl) (fun _ _ _ h => h) (Or.inl ⟨by rfl, ?_⟩) hS ?_
      rotate_left
      · (intro w hSw; (try dsimp only at hSw); go_simp; (try with_reducible rfl))
      rotate_left
      simp only [Act.put, List.getElem_toArray, List.getElem_cons_zero, List.getElem_cons_succ, List.setIfInBounds_toArray, List.set_cons_zero, List.set_cons_succ]
      refine wpAnyH_take (i := 16) (oi := _) (v := ?_) rfl (by kernel_rfl) (by kernel_rfl) (by kernel_rfl) (fun _ _ _ h => h) (Or.inl ⟨by rfl, ?_⟩) hS ?_
      rotate_left
      · (intro w hSw; (try dsimp only at hSw); go_simp; (try with_reducible rfl))
      rotate_left
      simp only [Act.put, List.getElem_toArray, List.getElem_cons_zero, List.getElem_cons_succ, List.setIfInBounds_toArray, List.set_cons_zero, List.set_cons_succ]
      refine wpAnyH_take (i := 17) (oi := _) (v := ?_) rfl (by kernel_rfl) (by kernel_rfl) (by kernel_rfl) (fun _ _ _ h => h) (Or.inl ⟨by rfl, ?_⟩) hS ?_
      rotate_left
      · (intro w hSw; (try dsimp only at hSw); go_simp; (try with_reducible rfl))
      rotate_left
      simp only [Act.put, List.getElem_toArray, List.getElem_cons_zero, List.getElem_cons_succ, List.setIfInBounds_toArray, List.set_cons_zero, List.set_cons_succ]
      refine wpAnyH_take (i := 18) (oi := _) (v := ?_) rfl (by kernel_rfl) (by kernel_rfl) (by kernel_rfl) (fun _ _ _ h => h) (Or.inl ⟨by rfl, ?_⟩) hS ?_
      rotate_left
      · (intro w hSw; (try dsimp only at hSw); go_simp; (try with_reducible rfl))
      rotate_left
      simp only [Act.put, List.getElem_toArray, List.getElem_cons_zero, List.getElem_cons_succ, List.setIfInBounds_toArray, List.set_cons_zero, List.set_cons_succ]
      refine wpAnyH_take (i := 19) (oi := _) (v := ?_) rfl (by kernel_rfl) (by kernel_rfl) (by kernel_rfl) (fun _ _ _ h => h) (Or.inl ⟨by rfl, ?_⟩) hS ?_
      rotate_left
      · (intro w hSw; (try dsimp only at hSw); go_simp; (try with_reducible rfl))
      rotate_left
      simp only [Act.put, List.getElem_toArray, List.getElem_cons_zero, List.getElem_cons_succ, List.setIfInBounds_toArray, List.set_cons_zero, List.set_cons_succ]
      refine wpAnyH_take (i := 20) (oi := _) (v := ?_) rfl (by kernel_rfl) (by kernel_rfl) (by kernel_rfl) (fun _ _ _ h => h) (Or.inl ⟨by rfl, ?_⟩) hS ?_
      rotate_left
      · (intro w hSw; (try dsimp only at hSw); go_simp; (try with_reducible rfl))
      rotate_left
      simp only [Act.put, List.getElem_toArray, List.getElem_cons_zero, List.getElem_cons_succ, List.setIfInBounds_toArray, List.set_cons_zero, List.set_cons_succ]
      refine wpAnyH_take (i := 21) (oi := _) (v := ?_) rfl (by kernel_rfl) (by kernel_rfl) (by kernel_rfl) (fun _ _ _ h => h) (Or.inl ⟨by rfl, ?_⟩) hS ?_
      rotate_left
      · (intro w hSw; (try dsimp only at hSw); go_simp; (try with_reducible rfl))
      rotate_left
      simp only [Act.put, List.getElem_toArray, List.getElem_cons_zero, List.getElem_cons_succ, List.setIfInBounds_toArray, List.set_cons_zero, List.set_cons_succ]
      refine wpAnyH_ready (rs := [22]) (by kernel_rfl) (by simp) ?_
      refine AllReadyH.cons rfl (fun K hK => ?_) AllReadyH.nil
      rw [if_pos (by rfl)]
      go_simp
      refine (two_law (fun _ => True) ex_p6 (n := 4) (m := 0 + 1) rfl rfl A11 c11 B11 d11 _ (HN16.out.next hS.1).ry.tt (HN16.out.next hS.1).rg.tt (x := 0) (xv := 0) rfl (b := false) ⟨fun h => (by cases h), fun h => absurd h ex_law0⟩).mono ?_
      rintro e v3 ⟨rfl, k3⟩
      refine hK.out _ _ (HS.out _ (Ext.trans hS.1 k3)) (fun hS' => ?_)
      clear hK K hS k3
      have hS := hS'
      clear hS'
      try simp only [Act.put, List.getElem_toArray, List.getElem_cons_zero, List.getElem_cons_succ, List.setIfInBounds_toArray, List.set_cons_zero, List.set_cons_succ]
      refine wpAnyH_take (i := 23) (oi := _) (v := ?_) rfl (by kernel_rfl) (by kernel_rfl) (by kernel_rfl) (fun _ _ _ h => h) (Or.inl ⟨by rfl, ?_⟩) hS ?_
      rotate_left
      · (intro w hSw; (try dsimp only at hSw); go_simp; (try with_reducible rfl))
      rotate_left
      simp only [Act.put, List.getElem_toArray, List.getElem_cons_zero, List.getElem_cons_succ, List.setIfInBounds_toArray, List.set_cons_zero, List.set_cons_succ]
      refine wpAnyH_take (i := 24) (oi := _) (v := ?_) rfl (by kernel_rfl) (by kernel_rfl) (by kernel_rfl) (fun _ _ _ h => h) (Or.inl ⟨by rfl, ?_⟩) hS ?_
      rotate_left
      · (intro w hSw; (try dsimp only at hSw); go_simp; (try with_reducible rfl))
      rotate_left
      simp only [Act.put, List.getElem_toArray, List.getElem_cons_zero, List.getElem_cons_succ, List.setIfInBounds_toArray, List.set_cons_zero, List.set_cons_succ]
      refine wpAnyH_take (i := 25) (oi := _) (v := ?_) rfl (by kernel_rfl) (by kernel_rfl) (by kernel_rfl) (fun _ _ _ h => h) (Or.inl ⟨by rfl, ?_⟩) hS ?_
      rotate_left
      · (intro w hSw; (try dsimp only at hSw); go_simp; (try with_reducible rfl))
      rotate_left
      simp only [Act.put, List.getElem_toArray, List.getElem_cons_zero, List.getElem_cons_succ, List.setIfInBounds_toArray, List.set_cons_zero, List.set_cons_succ]
      refine wpAnyH_take (i := 26) (oi := _) (v := ?_) rfl (by kernel_rfl) (by kernel_rfl) (by kernel_rfl) (fun _ _ _ h => h) (Or.inl ⟨by rfl, ?_⟩) hS ?_
      rotate_left
      · (intro w hSw; (try dsimp only at hSw); go_simp; (try with_reducible rfl))
      rotate_left
      simp only [Act.put, List.getElem_toArray, List.getElem_cons_zero, List.getElem_cons_succ, List.setIfInBounds_toArray, List.set_cons_zero, List.set_cons_succ]
      refine wpAnyH_ready (rs := [27]) (by kernel_rfl) (by simp) ?_
      refine AllReadyH.cons rfl (fun K hK => ?_) AllReadyH.nil
      rw [if_pos (by rfl)]
      go_simp
      refine (two_law (fun _ => True) ex_p6 (n := 4) (m := 0 + 1) rfl rfl A11 c11 B11 d11 _ (HN16.out.next hS.1).ry.tt (HN16.out.next hS.1).rg.tt (x := 1) (xv := 1) rfl (b := true) ⟨fun _ => ex_law1, fun _ => rfl⟩).mono ?_
      rintro e v3 ⟨rfl, k3⟩
      refine hK.out _ _ (HS.out _ (Ext.trans hS.1 k3)) (fun hS' => ?_)
      clear hK K hS k3
      have hS := hS'
      clear hS'
      try simp only [Act.put, List.getElem_toArray, List.getElem_cons_zero, List.getElem_cons_succ, List.setIfInBounds_toArray, List.set_cons_zero, List.set_cons_succ]
      refine wpAnyH_take (i := 28) (oi := _) (v := ?_) rfl (by kernel_rfl) (by kernel_rfl) (by kernel_rfl) (fun _ _ _ h => h) (Or.inl ⟨by rfl, ?_⟩) hS ?_
      rotate_left
      · (intro w hSw; (try dsimp only at hSw); go_simp; (try with_reducible rfl))
      rotate_left
      simp only [Act.put, List.getElem_toArray, List.getElem_cons_zero, List.getElem_cons_succ, List.setIfInBounds_toArray, List.set_cons_zero, List.set_cons_succ]
      refine wpAnyH_take (i := 29) (oi := _) (v := ?_) rfl (by kernel_rfl) (by kernel_rfl) (by kernel_rfl) (fun _ _ _ h => h) (Or.inl ⟨by rfl, ?_⟩) hS ?_
      rotate_left
      · (intro w hSw; (try dsimp only at hSw); go_simp; (try with_reducible rfl))
      rotate_left
      simp only [Act.put, List.getElem_toArray, List.getElem_cons_zero, List.getElem_cons_succ, List.setIfInBounds_toArray, List.set_cons_zero, List.set_cons_succ]
      refine wpAnyH_take (i := 30) (oi := _) (v := ?_) rfl (by kernel_rfl) (by kernel_rfl) (by kernel_rfl) (fun _ _ _ h => h) (Or.inl ⟨by rfl, ?_⟩) hS ?_
      rotate_left
      · (intro w hSw; (try dsimp only at hSw); go_simp; (try with_reducible rfl))
      rotate_left
      simp only [Act.put, List.getElem_toArray, List.getElem_cons_zero, List.getElem_cons_succ, List.setIfInBounds_toArray, List.set_cons_zero, List.set_cons_succ]
      refine wpAnyH_ready (rs := [31]) (by kernel_rfl) (by simp) ?_
      refine AllReadyH.cons rfl (fun K hK => ?_) AllReadyH.nil
      rw [if_pos (by rfl)]
      go_simp
      refine (two_law (fun _ => True) ex_p6 (n := 4) (m := 0 + 1) rfl rfl A11 c11 B11 d11 _ (HN16.out.next hS.1).ry.tt (HN16.out.next hS.1).rg.tt (x := 2) (xv := 2) rfl (b := true) ⟨fun _ => ex_law2, fun _ => rfl⟩).mono ?_
      rintro e v3 ⟨rfl, k3⟩
      refine hK.out _ _ (HS.out _ (Ext.trans hS.1 k3)) (fun hS' => ?_)
      clear hK K hS k3
      have hS := hS'
      clear hS'
      try simp only [Act.put, List.getElem_toArray, List.getElem_cons_zero, List.getElem_cons_succ, List.setIfInBounds_toArray, List.set_cons_zero, List.set_cons_succ]
      refine wpAnyH_take (i := 32) (oi := _) (v := ?_) rfl (by kernel_rfl) (by kernel_rfl) (by kernel_rfl) (fun _ _ _ h => h) (Or.inl ⟨by rfl, ?_⟩) hS ?_
      rotate_left
      · (intro w hSw; (try dsimp only at hSw); go_simp; (try with_reducible rfl))
      rotate_left
      simp only [Act.put, List.getElem_toArray, List.getElem_cons_zero, List.getElem_cons_succ, List.setIfInBounds_toArray, List.set_cons_zero, List.set_cons_succ]
      refine wpAnyH_take (i := 33) (oi := _) (v := ?_) rfl (by kernel_rfl) (by kernel_rfl) (by kernel_rfl) (fun _ _ _ h => h) (Or.inl ⟨by rfl, ?_⟩) hS ?_
      rotate_left
      · (intro w hSw; (try dsimp only at hSw); go_simp; (try with_reducible rfl))
      rotate_left
      simp only [Act.put, List.getElem_toArray, List.getElem_cons_zero, List.getElem_cons_succ, List.setIfInBounds_toArray, List.set_cons_zero, List.set_cons_succ]
      refine wpAnyH_take (i := 34) (oi := _) (v := ?_) rfl (by kernel_rfl) (by kernel_rfl) (by kernel_rfl) (fun _ _ _ h => h) (Or.inl ⟨by rfl, ?_⟩) hS ?_
      rotate_left
      · (intro w hSw; (try dsimp only at hSw); go_simp; (try with_reducible rfl))
      rotate_left
      simp only [Act.put, List.getElem_toArray, List.getElem_cons_zero, List.getElem_cons_succ, List.setIfInBounds_toArray, List.set_cons_zero, List.set_cons_succ]
      refine wpAnyH_take (i := 35) (oi := _) (v := ?_) rfl (by kernel_rfl) (by kernel_rfl) (by kernel_rfl) (fun _ _ _ h => h) (Or.inl ⟨by rfl, ?_⟩) hS ?_
      rotate_left
      · (intro w hSw; (try dsimp only at hSw); go_simp; (try with_reducible rfl))
      rotate_left
      simp only [Act.put, List.getElem_toArray, List.getElem_cons_zero, List.getElem_cons_succ, List.setIfInBounds_toArray, List.set_cons_zero, List.set_cons_succ]
      refine wpAnyH_take (i := 36) (oi := _) (v := ?_) rfl (by kernel_rfl) (by kernel_rfl) (by kernel_rfl) (fun _ _ _ h => h) (Or.inl ⟨by rfl, ?_⟩) hS ?_
      rotate_left
      · (intro w hSw; (try dsimp only at hSw); go_simp; (try with_reducible rfl))
      rotate_left
      simp only [Act.put, List.getElem_toArray, List.getElem_cons_zero, List.getElem_cons_succ, List.setIfInBounds_toArray, List.set_cons_zero, List.set_cons_succ]
      refine wpAnyH_take (i := 37) (oi := _) (v := ?_) rfl (by kernel_rfl) (by kernel_rfl) (by kernel_rfl) (fun _ _ _ h => h) (Or.inl ⟨by rfl, ?_⟩) hS ?_
      rotate_left
      · (intro w hSw; (try dsimp only at hSw); go_simp; (try with_reducible rfl))
      rotate_left
      simp only [Act.put, List.getElem_toArray, List.getElem_cons_zero, List.getElem_cons_succ, List.setIfInBounds_toArray, List.set_cons_zero, List.set_cons_succ]
      refine wpAnyH_take (i := 38) (oi := _) (v := ?_) rfl (by kernel_rfl) (by kernel_rfl) (by kernel_rfl) (fun _ _ _ h => h) (Or.inl ⟨by rfl, ?_⟩) hS ?_
      rotate_left
      · (intro w hSw; (try dsimp only at hSw); go_simp; (try with_reducible rfl))
      rotate_left
      simp only [Act.put, List.getElem_toArray, List.getElem_cons_zero, List.getElem_cons_succ, List.setIfInBounds_toArray, List.set_cons_zero, List.set_cons_succ]
      refine wpAnyH_take (i := 39) (oi := _) (v := ?_) rfl (by kernel_rfl) (by kernel_rfl) (by kernel_rfl) (fun _ _ _ h => h) (Or.inl ⟨by rfl, ?_⟩) hS ?_
      rotate_left
      · (intro w hSw; (try dsimp only at hSw); go_simp; (try with_reducible rfl))
      rotate_left
      simp only [Act.put, List.getElem_toArray, List.getElem_cons_zero, List.getElem_cons_succ, List.setIfInBounds_toArray, List.set_cons_zero, List.set_cons_succ]
      refine wpAnyH_take (i := 40) (oi := _) (v := ?_) rfl (by kernel_rfl) (by kernel_rfl) (by kernel_rfl) (fun _ _ _ h => h) (Or.inl ⟨by rfl, ?_⟩) hS ?_
      rotate_left
      · (intro w hSw; (try dsimp only at hSw); go_simp; (try with_reducible rfl))
      rotate_left
      simp only [Act.put, List.getElem_toArray, List.getElem_cons_zero, List.getElem_cons_succ, List.setIfInBounds_toArray, List.set_cons_zero, List.set_cons_succ]
      refine wpAnyH_take (i := 41) (oi := _) (v := ?_) rfl (by kernel_rfl) (by kernel_rfl) (by kernel_rfl) (fun _ _ _ h => h) (Or.inl ⟨by rfl, ?_⟩) hS ?_
      rotate_left
      · (intro w hSw; (try dsimp only at hSw); go_simp; (try with_reducible rfl))
      rotate_left
      simp only [Act.put, List.getElem_toArray, List.getElem_cons_zero, List.getElem_cons_succ, List.setIfInBounds_toArray, List.set_cons_zero, List.set_cons_succ]
      refine wpAnyH_take (i := 42) (oi := _) (v := ?_) rfl (by kernel_rfl) (by kernel_rfl) (by kernel_rfl) (fun _ _ _ h => h) (Or.inl ⟨by rfl, ?_⟩) hS ?_
      rotate_left
      · (intro w hSw; (try dsimp only at hSw); go_simp; (try with_reducible rfl))
      rotate_left
      simp only [Act.put, List.getElem_toArray, List.getElem_cons_zero, List.getElem_cons_succ, List.setIfInBounds_toArray, List.set_cons_zero, List.set_cons_succ]
      refine wpAnyH_take (i := 43) (oi := _) (v := ?_) rfl (by kernel_rfl) (by kernel_rfl) (by kernel_rfl) (fun _ _ _ h => h) (Or.inl ⟨by rfl, ?_⟩) hS ?_
      rotate_left
      · (intro w hSw; (try dsimp only at hSw); go_simp; (try with_reducible rfl))
      rotate_left
      simp only [Act.put, List.getElem_toArray, List.getElem_cons_zero, List.getElem_cons_succ, List.setIfInBounds_toArray, List.set_cons_zero, List.set_cons_succ]
      refine wpAnyH_take (i := 44) (oi := _) (v := ?_) rfl (by kernel_rfl) (by kernel_rfl) (by kernel_rfl) (fun _ _ _ h => h) (Or.inl ⟨by rfl, ?_⟩) hS ?_
      rotate_left
      · (intro w hSw; have sq := run_string_bs (P := Try.prog) q12 29 9 5 Try.underlying29 Try.underlying5 Try.underlying9 (HBS.out _ hSw.1); (try dsimp only at hSw); go_simp; (try with_reducible rfl))
      rotate_left
      try simp only [Act.put, List.getElem_toArray, List.getElem_cons_zero, List.getElem_cons_succ, List.setIfInBounds_toArray, List.set_cons_zero, List.set_cons_succ]
      refine wpAnyH_ready (rs := [45]) (by kernel_rfl) (by simp) ?_
      refine AllReadyH.cons rfl (fun K hK => ?_) AllReadyH.nil
      rw [if_pos (by rfl)]
      go_simp
      have h0 := full_any 2 v3
      have e0 : (((2 : UInt8).toNat : Nat) : Int) = 2 := rfl
      rw [e0] at h0
      refine h0.mono ?_
      rintro e v4 ⟨⟨gw, rfl, RW⟩, k3⟩
      refine hK.out _ _ (HS.out _ (Ext.trans hS.1 k3)) (fun hS' => ?_)
      have HBW : Hid (Bs v4 (some ⟨gw, 0, none⟩) 128 f2) := by
        show Bs _ _ _ _
        rw [HF2.out]
        exact RW.bytes_bs
      clear hK K hS k3 h0 e0 RW
      have hS := hS'
      clear hS'
      try simp only [Act.put, List.getElem_toArray, List.getElem_cons_zero, List.getElem_cons_succ, List.setIfInBounds_toArray, List.set_cons_zero, List.set_cons_succ]
      refine wpAnyH_ready (rs := [46]) (by kernel_rfl) (by simp) ?_
      refine AllReadyH.cons rfl (fun K hK => ?_) AllReadyH.nil
      rw [if_pos (by rfl)]
      have sq := run_string_bs (P := Try.prog) 128 29 9 5 Try.underlying29 Try.underlying5 Try.underlying9 HBW.out
      go_simp
      refine hK.out _ _ hS (fun hS' => ?_)
      clear hK K hS sq
      have hS := hS'
      clear hS'
      try simp only [Act.put, List.getElem_toArray, List.getElem_cons_zero, List.getElem_cons_succ, List.setIfInBounds_toArray, List.set_cons_zero, List.set_cons_succ]
      refine wpAnyH_take (i := 47) (oi := _) (v := ?_) rfl (by kernel_rfl) (by kernel_rfl) (by kernel_rfl) (fun _ _ _ h => h) (Or.inl ⟨by rfl, ?_⟩) hS ?_
      rotate_left
      · (intro w hSw; (try dsimp only at hSw); go_simp; (try with_reducible rfl))
      rotate_left
      simp only [Act.put, List.getElem_toArray, List.getElem_cons_zero, List.getElem_cons_succ, List.setIfInBounds_toArray, List.set_cons_zero, List.set_cons_succ]
      refine wpAnyH_take (i := 48) (oi := _) (v := ?_) rfl (by kernel_rfl) (by kernel_rfl) (by kernel_rfl) (fun _ _ _ h => h) (Or.inl ⟨by rfl, ?_⟩) hS ?_
      rotate_left
      · (intro w hSw; (try dsimp only at hSw); go_simp; (try with_reducible rfl))
      rotate_left
      simp only [Act.put, List.getElem_toArray, List.getElem_cons_zero, List.getElem_cons_succ, List.setIfInBounds_toArray, List.set_cons_zero, List.set_cons_succ]
      refine wpAnyH_take (i := 49) (oi := _) (v := ?_) rfl (by kernel_rfl) (by kernel_rfl) (by kernel_rfl) (fun _ _ _ h => h) (Or.inl ⟨by rfl, ?_⟩) hS ?_
      rotate_left
      · (intro w hSw; (try dsimp only at hSw); go_simp; (try with_reducible rfl))
      rotate_left
      simp only [Act.put, List.getElem_toArray, List.getElem_cons_zero, List.getElem_cons_succ, List.setIfInBounds_toArray, List.set_cons_zero, List.set_cons_succ]
      refine wpAnyH_take (i := 50) (oi := _) (v := ?_) rfl (by kernel_rfl) (by kernel_rfl) (by kernel_rfl) (fun _ _ _ h => h) (Or.inl ⟨by rfl, ?_⟩) hS ?_
      rotate_left
      · (intro w hSw; (try dsimp only at hSw); go_simp; (try with_reducible rfl))
      rotate_left
      simp only [Act.put, List.getElem_toArray, List.getElem_cons_zero, List.getElem_cons_succ, List.setIfInBounds_toArray, List.set_cons_zero, List.set_cons_succ]
      refine wpAnyH_take (i := 51) (oi := _) (v := ?_) rfl (by kernel_rfl) (by kernel_rfl) (by kernel_rfl) (fun _ _ _ h => h) (Or.inl ⟨by rfl, ?_⟩) hS ?_
      rotate_left
      · (intro w hSw; (try dsimp only at hSw); go_simp; (try with_reducible rfl))
      rotate_left
      simp only [Act.put, List.getElem_toArray, List.getElem_cons_zero, List.getElem_cons_succ, List.setIfInBounds_toArray, List.set_cons_zero, List.set_cons_succ]
      refine wpAnyH_take (i := 52) (oi := _) (v := ?_) rfl (by kernel_rfl) (by kernel_rfl) (by kernel_rfl) (fun _ _ _ h => h) (Or.inl ⟨by rfl, ?_⟩) hS ?_
      rotate_left
      · (intro w hSw; (try dsimp only at hSw); go_simp; (try with_reducible rfl))
      rotate_left
      simp only [Act.put, List.getElem_toArray, List.getElem_cons_zero, List.getElem_cons_succ, List.setIfInBounds_toArray, List.set_cons_zero, List.set_cons_succ]
      refine wpAnyH_take (i := 53) (oi := _) (v := ?_) rfl (by kernel_rfl) (by kernel_rfl) (by kernel_rfl) (fun _ _ _ h => h) (Or.inl ⟨by rfl, ?_⟩) hS ?_
      rotate_left
      · (intro w hSw; (try dsimp only at hSw); go_simp; (try with_reducible rfl))
      rotate_left
      simp only [Act.put, List.getElem_toArray, List.getElem_cons_zero, List.getElem_cons_succ, List.setIfInBounds_toArray, List.set_cons_zero, List.set_cons_succ]
      refine wpAnyH_take (i := 54) (oi := _) (v := ?_) rfl (by kernel_rfl) (by kernel_rfl) (by kernel_rfl) (fun _ _ _ h => h) (Or.inl ⟨by rfl, ?_⟩) hS ?_
      rotate_left
      · (intro w hSw; (try dsimp only at hSw); go_simp; (try with_reducible rfl))
      rotate_left
      simp only [Act.put, List.getElem_toArray, List.getElem_cons_zero, List.getElem_cons_succ, List.setIfInBounds_toArray, List.set_cons_zero, List.set_cons_succ]
      refine wpAnyH_take (i := 55) (oi := _) (v := ?_) rfl (by kernel_rfl) (by kernel_rfl) (by kernel_rfl) (fun _ _ _ h => h) (Or.inl ⟨by rfl, ?_⟩) hS ?_
      rotate_left
      · (intro w hSw; (try dsimp only at hSw); go_simp; (try with_reducible rfl))
      rotate_left
      simp only [Act.put, List.getElem_toArray, List.getElem_cons_zero, List.getElem_cons_succ, List.setIfInBounds_toArray, List.set_cons_zero, List.set_cons_succ]
      refine wpAnyH_take (i := 56) (oi := _) (v := ?_) rfl (by kernel_rfl) (by kernel_rfl) (by kernel_rfl) (fun _ _ _ h => h) (Or.inl ⟨by rfl, ?_⟩) hS ?_
      rotate_left
      · (intro w hSw; (try dsimp only at hSw); go_simp; (try with_reducible rfl))
      rotate_left
      simp only [Act.put, List.getElem_toArray, List.getElem_cons_zero, List.getElem_cons_succ, List.setIfInBounds_toArray, List.set_cons_zero, List.set_cons_succ]
      refine wpAnyH_take (i := 57) (oi := _) (v := ?_) rfl (by kernel_rfl) (by kernel_rfl) (by kernel_rfl) (fun _ _ _ h => h) (Or.inl ⟨by rfl, ?_⟩) hS ?_
      rotate_left
      · (intro w hSw; (try dsimp only at hSw); go_simp; (try with_reducible rfl))
      rotate_left
      simp only [Act.put, List.getElem_toArray, List.getElem_cons_zero, List.getElem_cons_succ, List.setIfInBounds_toArray, List.set_cons_zero, List.set_cons_succ]
      refine wpAnyH_take (i := 58) (oi := _) (v := ?_) rfl (by kernel_rfl) (by kernel_rfl) (by kernel_rfl) (fun _ _ _ h => h) (Or.inl ⟨by rfl, ?_⟩) hS ?_
      rotate_left
      · (intro w hSw; (try dsimp only at hSw); go_simp; (try with_reducible rfl))
      rotate_left
      simp only [Act.put, List.getElem_toArray, List.getElem_cons_zero, List.getElem_cons_succ, List.setIfInBounds_toArray, List.set_cons_zero, List.set_cons_succ]
      refine wpAnyH_take (i := 59) (oi := _) (v := ?_) rfl (by kernel_rfl) (by kernel_rfl) (by kernel_rfl) (fun _ _ _ h => h) (Or.inl ⟨by rfl, ?_⟩) hS ?_
      rotate_left
      · (intro w hSw; (try dsimp only at hSw); go_simp; (try with_reducible rfl))
      rotate_left
      simp only [Act.put, List.getElem_toArray, List.getElem_cons_zero, List.getElem_cons_succ, List.setIfInBounds_toArray, List.set_cons_zero, List.set_cons_succ]
      refine wpAnyH_take (i := 60) (oi := _) (v := ?_) rfl (by kernel_rfl) (by kernel_rfl) (by kernel_rfl) (fun _ _ _ h => h) (Or.inl ⟨by rfl, ?_⟩) hS ?_
      rotate_left
      · (intro w hSw; (try dsimp only at hSw); go_simp; (try with_reducible rfl))
      rotate_left
      simp only [Act.put, List.getElem_toArray, List.getElem_cons_zero, List.getElem_cons_succ, List.setIfInBounds_toArray, List.set_cons_zero, List.set_cons_succ]
      refine wpAnyH_take (i := 61) (oi := _) (v := ?_) rfl (by kernel_rfl) (by kernel_rfl) (by kernel_rfl) (fun _ _ _ h => h) (Or.inl ⟨by rfl, ?_⟩) hS ?_
      rotate_left
      · (intro w hSw; (try dsimp only at hSw); go_simp; (try with_reducible rfl))
      rotate_left
      simp only [Act.put, List.getElem_toArray, List.getElem_cons_zero, List.getElem_cons_succ, List.setIfInBounds_toArray, List.set_cons_zero, List.set_cons_succ]
      refine wpAnyH_take (i := 62) (oi := _) (v := ?_) rfl (by kernel_rfl) (by kernel_rfl) (by kernel_rfl) (fun _ _ _ h => h) (Or.inl ⟨by rfl, ?_⟩) hS ?_
      rotate_left
      · (intro w hSw; (try dsimp only at hSw); go_simp; (try with_reducible rfl))
      rotate_left
      simp only [Act.put, List.getElem_toArray, List.getElem_cons_zero, List.getElem_cons_succ, List.setIfInBounds_toArray, List.set_cons_zero, List.set_cons_succ]
      refine wpAnyH_take (i := 63) (oi := _) (v := ?_) rfl (by kernel_rfl) (by kernel_rfl) (by kernel_rfl) (fun _ _ _ h => h) (Or.inl ⟨by rfl, ?_⟩) hS ?_
      rotate_left
      · (intro w hSw; (try dsimp only at hSw); go_simp; (try with_reducible rfl))
      rotate_left
      simp only [Act.put, List.getElem_toArray, List.getElem_cons_zero, List.getElem_cons_succ, List.setIfInBounds_toArray, List.set_cons_zero, List.set_cons_succ]
      refine wpAnyH_take (i := 64) (oi := _) (v := ?_) rfl (by kernel_rfl) (by kernel_rfl) (by kernel_rfl) (fun _ _ _ h => h) (Or.inl ⟨by rfl, ?_⟩) hS ?_
      rotate_left
      · (intro w hSw; (try dsimp only at hSw); go_simp; (try with_reducible rfl))
      rotate_left
      simp only [Act.put, List.getElem_toArray, List.getElem_cons_zero, List.getElem_cons_succ, List.setIfInBounds_toArray, List.set_cons_zero, List.set_cons_succ]
      refine wpAnyH_take (i := 65) (oi := _) (v := ?_) rfl (by kernel_rfl) (by kernel_rfl) (by kernel_rfl) (fun _ _ _ h => h) (Or.inl ⟨by rfl, ?_⟩) hS ?_
      rotate_left
      · (intro w hSw; (try dsimp only at hSw); go_simp; (try with_reducible rfl))
      rotate_left
      simp only [Act.put, List.getElem_toArray, List.getElem_cons_zero, List.getElem_cons_succ, List.setIfInBounds_toArray, List.set_cons_zero, List.set_cons_succ]
      refine wpAnyH_take (i := 66) (oi := _) (v := ?_) rfl (by kernel_rfl) (by kernel_rfl) (by kernel_rfl) (fun _ _ _ h => h) (Or.inl ⟨by rfl, ?_⟩) hS ?_
      rotate_left
      · (intro w hSw; (try dsimp only at hSw); go_simp; (try with_reducible rfl))
      rotate_left
      simp only [Act.put, List.getElem_toArray, List.getElem_cons_zero, List.getElem_cons_succ, List.setIfInBounds_toArray, List.set_cons_zero, List.set_cons_succ]
      refine wpAnyH_take (i := 67) (oi := _) (v := ?_) rfl (by kernel_rfl) (by kernel_rfl) (by kernel_rfl) (fun _ _ _ h => h) (Or.inl ⟨by rfl, ?_⟩) hS ?_
      rotate_left
      · (intro w hSw; (try dsimp only at hSw); go_simp; (try with_reducible rfl))
      rotate_left
      simp only [Act.put, List.getElem_toArray, List.getElem_cons_zero, List.getElem_cons_succ, List.setIfInBounds_toArray, List.set_cons_zero, List.set_cons_succ]
      refine wpAnyH_take (i := 68) (oi := _) (v := ?_) rfl (by kernel_rfl) (by kernel_rfl) (by kernel_rfl) (fun _ _ _ h => h) (Or.inl ⟨by rfl, ?_⟩) hS ?_
      rotate_left
      · (intro w hSw; (try dsimp only at hSw); go_simp; (try with_reducible rfl))
      rotate_left
      simp only [Act.put, List.getElem_toArray, List.getElem_cons_zero, List.getElem_cons_succ, List.setIfInBounds_toArray, List.set_cons_zero, List.set_cons_succ]
      refine wpAnyH_take (i := 69) (oi := _) (v := ?_) rfl (by kernel_rfl) (by kernel_rfl) (by kernel_rfl) (fun _ _ _ h => h) (Or.inl ⟨by rfl, ?_⟩) hS ?_
      rotate_left
      · (intro w hSw; (try dsimp only at hSw); go_simp; (try with_reducible rfl))
      rotate_left
      simp only [Act.put, List.getElem_toArray, List.getElem_cons_zero, List.getElem_cons_succ, List.setIfInBounds_toArray, List.set_cons_zero, List.set_cons_succ]
      refine wpAnyH_take (i := 70) (oi := _) (v := ?_) rfl (by kernel_rfl) (by kernel_rfl) (by kernel_rfl) (fun _ _ _ h => h) (Or.inl ⟨by rfl, ?_⟩) hS ?_
      rotate_left
      · (intro w hSw; (try dsimp only at hSw); go_simp; (try with_reducible rfl))
      rotate_left
      simp only [Act.put, List.getElem_toArray, List.getElem_cons_zero, List.getElem_cons_succ, List.setIfInBounds_toArray, List.set_cons_zero, List.set_cons_succ]
      refine wpAnyH_take (i := 71) (oi := _) (v := ?_) rfl (by kernel_rfl) (by kernel_rfl) (by kernel_rfl) (fun _ _ _ h => h) (Or.inl ⟨by rfl, ?_⟩) hS ?_
      rotate_left
      · (intro w hSw; (try dsimp only at hSw); go_simp; (try with_reducible rfl))
      rotate_left
      simp only [Act.put, List.getElem_toArray, List.getElem_cons_zero, List.getElem_cons_succ, List.setIfInBounds_toArray, List.set_cons_zero, List.set_cons_succ]
      refine wpAnyH_take (i := 72) (oi := _) (v := ?_) rfl (by kernel_rfl) (by kernel_rfl) (by kernel_rfl) (fun _ _ _ h => h) (Or.inl ⟨by rfl, ?_⟩) hS ?_
      rotate_left
      · (intro w hSw; (try dsimp only at hSw); go_simp; (try with_reducible rfl))
      rotate_left
      simp only [Act.put, List.getElem_toArray, List.getElem_cons_zero, List.getElem_cons_succ, List.setIfInBounds_toArray, List.set_cons_zero, List.set_cons_succ]
      refine wpAnyH_ready (rs := [73]) (by kernel_rfl) (by simp) ?_
      refine AllReadyH.cons rfl (fun K hK => ?_) AllReadyH.nil
      rw [if_pos (by rfl)]
      go_simp
      refine (spcheck_any (fun _ => True) cfgTwo [] [] none 0 none 0 _ (rdin_nil3 _ _) (rdin_nilg _ _)).mono ?_
      rintro e v3 ⟨h1, k3⟩
      have he : e = .returned (.int .i64 8) := by
        rcases h1 with h1 | h1
        · exact absurd h1.1.len (by decide)
        · exact h1.2
      subst he
      refine hK.out _ _ (HS.out _ (Ext.trans hS.1 k3)) (fun hS' => ?_)
      clear hK K hS k3 h1
      have hS := hS'
      clear hS'
      try simp only [Act.put, List.getElem_toArray, List.getElem_cons_zero, List.getElem_cons_succ, List.setIfInBounds_toArray, List.set_cons_zero, List.set_cons_succ]
      refine wpAnyH_take (i := 74) (oi := _) (v := ?_) rfl (by kernel_rfl) (by kernel_rfl) (by kernel_rfl) (fun _ _ _ h => h) (Or.inl ⟨by rfl, ?_⟩) hS ?_
      rotate_left
      · (intro w hSw; (try dsimp only at hSw); go_simp; (try with_reducible rfl))
      rotate_left
      simp only [Act.put, List.getElem_toArray, List.getElem_cons_zero, List.getElem_cons_succ, List.setIfInBounds_toArray, List.set_cons_zero, List.set_cons_succ]
      refine wpAnyH_take (i := 75) (oi := _) (v := ?_) rfl (by kernel_rfl) (by kernel_rfl) (by kernel_rfl) (fun _ _ _ h => h) (Or.inl ⟨by rfl, ?_⟩) hS ?_
      rotate_left
      · (intro w hSw; (try dsimp only at hSw); go_simp; (try with_reducible rfl))
      rotate_left
      simp only [Act.put, List.getElem_toArray, List.getElem_cons_zero, List.getElem_cons_succ, List.setIfInBounds_toArray, List.set_cons_zero, List.set_cons_succ]
      refine wpAnyH_take (i := 76) (oi := _) (v := ?_) rfl (by kernel_rfl) (by kernel_rfl) (by kernel_rfl) (fun _ _ _ h => h) (Or.inl ⟨by rfl, ?_⟩) hS ?_
      rotate_left
      · (intro w hSw; (try dsimp only at hSw); go_simp; (try with_reducible rfl))
      rotate_left
      simp only [Act.put, List.getElem_toArray, List.getElem_cons_zero, List.getElem_cons_succ, List.setIfInBounds_toArray, List.set_cons_zero, List.set_cons_succ]
      refine wpAnyH_done (by kernel_rfl) ?_ _
      have HTT := Lib.hid (Ext.trans HN16.out.bel hS.1)
      clear hS HS HBS HF2 HBW HN16
      go_wp2
      go_ret
      exact ⟨by first | rfl | simp, HTT.out⟩
end Go.Proofs.Ytclbihcggjjgaaa
