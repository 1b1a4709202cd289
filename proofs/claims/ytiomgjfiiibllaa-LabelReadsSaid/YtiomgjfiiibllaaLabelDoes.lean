/- Layer 9 (label): written and read as the document says: the statements. -/
import Derived.Test.YtiomgjfiiibllaaLabelRef3
import Derived.Test.YtiomgjfiiibllaaLabelLaws
namespace Go.Proofs.Ytiomgjfiiibllaa
open Go Go.RowKit
set_option linter.unusedSimpArgs false
set_option linter.unusedVariables false

set_option maxRecDepth 100000 in
set_option maxHeartbeats 2000000 in
theorem lwrites_core (id ev : Nat) (m c r l me lost dn : Int) (op : Bool) (ws : List UInt8) (E : Int)
    (h1 : ∀ W, Calls Try.prog 10 #[.agg #[.int .u32 (id : Int), .int .u32 (ev : Int), .int .i64 m, .int .i64 c, .int .i64 r, .int .i64 l, .int .i64 me, .int .i64 lost, .int .i64 dn, .bool op]] W fun e w' => ∃ P k c, e = .returned (.tuple #[.slice P k c, .int .i64 E]) ∧ Bs w' P k ws ∧ Below W.heap.size W w')
    (h2 : ∀ W, Calls Try.prog 11 #[.agg #[.int .u32 (id : Int), .int .u32 (ev : Int), .int .i64 m, .int .i64 c, .int .i64 r, .int .i64 l, .int .i64 me, .int .i64 lost, .int .i64 dn, .bool op]] W fun e w' => ∃ P k c, e = .returned (.tuple #[.slice P k c, .int .i64 E]) ∧ Bs w' P k ws ∧ Below W.heap.size W w')
    (h3 : ∀ W, Calls Try.prog 12 #[.agg #[.int .u32 (id : Int), .int .u32 (ev : Int), .int .i64 m, .int .i64 c, .int .i64 r, .int .i64 l, .int .i64 me, .int .i64 lost, .int .i64 dn, .bool op]] W fun e w' => e = .returned (.int .i64 E) ∧ Below W.heap.size W w')
    (h4 : ∀ W, Calls Try.prog 13 #[.agg #[.int .u32 (id : Int), .int .u32 (ev : Int), .int .i64 m, .int .i64 c, .int .i64 r, .int .i64 l, .int .i64 me, .int .i64 lost, .int .i64 dn, .bool op]] W fun e w' => e = .returned (.int .i64 E) ∧ Below W.heap.size W w') (w : World) :
    Calls Try.prog 3 #[.agg #[.int .u32 (id : Int), .int .u32 (ev : Int), .int .i64 m, .int .i64 c, .int .i64 r, .int .i64 l, .int .i64 me, .int .i64 lost, .int .i64 dn, .bool op]] w fun e w' => e = .returned (.bool true) ∧ Below w.heap.size w w' := by
  have H1 := Lib.hid h1
  have H2 := Lib.hid h2
  have H3 := Lib.hid h3
  have H4 := Lib.hid h4
  clear h1 h2 h3 h4
  go_enter Try.func3, Try.ntmps3
  go_wp2_with fail
  have A0 := BoxOf.new w #[.int .u32 (id : Int), .int .u32 (ev : Int), .int .i64 m, .int .i64 c, .int .i64 r, .int .i64 l, .int .i64 me, .int .i64 lost, .int .i64 dn, .bool op] 24
  have t0 := Ext.alloc (Below.refl w.heap.size w) (.cells #[.int .u32 (id : Int), .int .u32 (ev : Int), .int .i64 m, .int .i64 c, .int .i64 r, .int .i64 l, .int .i64 me, .int .i64 lost, .int .i64 dn, .bool op] 24)
  refine (H1.out _).mono ?_
  rintro e w1 ⟨P, k, ca, rfl, hp, b1⟩
  have A1 := A0.next b1
  have t1 := Ext.trans t0 b1
  have x1 := A1.cell
  clear A0 t0 b1
  go_wp2_with fail
  refine (H2.out _).mono ?_
  rintro e w2 ⟨P', k', cb, rfl, hp', b2⟩
  have A2 := A1.next b2
  have t2 := Ext.trans t1 b2
  have hp2 := hp.below b2
  clear A1 t1 b2 x1 hp
  go_upto_region 3 with fail
  refine wp_region_held_drew (S := fun w' => Below w.heap.size w w' ∧ Bs w' P k ws ∧ Bs w' P' k' ws ∧ BoxOf w' w.heap.size #[.int .u32 (id : Int), .int .u32 (ev : Int), .int .i64 m, .int .i64 c, .int .i64 r, .int .i64 l, .int .i64 me, .int .i64 lost, .int .i64 dn, .bool op] 24 ∧ (∀ o, w'.cell? ⟨w.heap.size, o, none⟩ = #[.int .u32 (id : Int), .int .u32 (ev : Int), .int .i64 m, .int .i64 c, .int .i64 r, .int .i64 l, .int .i64 me, .int .i64 lost, .int .i64 dn, .bool op].toList[o]?)) (by kernel_rfl) ⟨Ext.drew t2, hp2, hp', A2.drew, A2.drew.cell⟩ (fun hS => ?_)
  clear t2 A2 hp2 hp'
  refine wpAnyH_take (i := 0) (oi := _) (v := ?_) rfl (by kernel_rfl) (by kernel_rfl) (by kernel_rfl) (fun _ _ _ h => h) (Or.inl ⟨by rfl, ?_⟩) hS ?_
  rotate_left
  · (intro w hSw; (try dsimp only at hSw); go_simp; (try with_reducible rfl))
  rotate_left
  simp only [Act.put, List.getElem_toArray, List.getElem_cons_zero, List.getElem_cons_succ, List.setIfInBounds_toArray, List.set_cons_zero, List.set_cons_succ]
  refine wpAnyH_take (i := 1) (oi := _) (v := ?_) rfl (by kernel_rfl) (by kernel_rfl) (by kernel_rfl) (fun _ _ _ h => h) (Or.inl ⟨by rfl, ?_⟩) hS ?_
  rotate_left
  · (intro w hSw; have sq := run_string_bs (P := Try.prog) ca 25 9 5 Try.underlying25 Try.underlying5 Try.underlying9 hSw.2.1; (try dsimp only at hSw); go_simp; (try with_reducible rfl))
  rotate_left
  simp only [Act.put, List.getElem_toArray, List.getElem_cons_zero, List.getElem_cons_succ, List.setIfInBounds_toArray, List.set_cons_zero, List.set_cons_succ]
  refine wpAnyH_take (i := 2) (oi := _) (v := ?_) rfl (by kernel_rfl) (by kernel_rfl) (by kernel_rfl) (fun _ _ _ h => h) (Or.inl ⟨by rfl, ?_⟩) hS ?_
  rotate_left
  · (intro w hSw; (try dsimp only at hSw); go_simp; (try with_reducible rfl))
  rotate_left
  simp only [Act.put, List.getElem_toArray, List.getElem_cons_zero, List.getElem_cons_succ, List.setIfInBounds_toArray, List.set_cons_zero, List.set_cons_succ]
  refine wpAnyH_take (i := 3) (oi := _) (v := ?_) rfl (by kernel_rfl) (by kernel_rfl) (by kernel_rfl) (fun _ _ _ h => h) (Or.inl ⟨by rfl, ?_⟩) hS ?_
  rotate_left
  · (intro w hSw; have sq := run_string_bs (P := Try.prog) cb 25 9 5 Try.underlying25 Try.underlying5 Try.underlying9 hSw.2.2.1; (try dsimp only at hSw); go_simp; (try with_reducible rfl))
  rotate_left
  simp only [Act.put, List.getElem_toArray, List.getElem_cons_zero, List.getElem_cons_succ, List.setIfInBounds_toArray, List.set_cons_zero, List.set_cons_succ]
  refine wpAnyH_take (i := 4) (oi := _) (v := ?_) rfl (by kernel_rfl) (by kernel_rfl) (by kernel_rfl) (fun _ _ _ h => h) (Or.inl ⟨by rfl, ?_⟩) hS ?_
  rotate_left
  · (intro w hSw; (try dsimp only at hSw); go_simp; (try with_reducible rfl))
  rotate_left
  simp only [Act.put, List.getElem_toArray, List.getElem_cons_zero, List.getElem_cons_succ, List.setIfInBounds_toArray, List.set_cons_zero, List.set_cons_succ]
  refine wpAnyH_take (i := 5) (oi := _) (v := ?_) rfl (by kernel_rfl) (by kernel_rfl) (by kernel_rfl) (fun _ _ _ h => h) (Or.inl ⟨by rfl, ?_⟩) hS ?_
  rotate_left
  · (intro w hSw; (try dsimp only at hSw); go_simp; (try with_reducible rfl))
  rotate_left
  simp only [Act.put, List.getElem_toArray, List.getElem_cons_zero, List.getElem_cons_succ, List.setIfInBounds_toArray, List.set_cons_zero, List.set_cons_succ]
  refine wpAnyH_take (i := 6) (oi := _) (v := ?_) rfl (by kernel_rfl) (by kernel_rfl) (by kernel_rfl) (fun _ _ _ h => h) (Or.inl ⟨by rfl, ?_⟩) hS ?_
  rotate_left
  · (intro w hSw; (try dsimp only at hSw); go_simp; (try with_reducible rfl))
  rotate_left
  simp only [Act.put, List.getElem_toArray, List.getElem_cons_zero, List.getElem_cons_succ, List.setIfInBounds_toArray, List.set_cons_zero, List.set_cons_succ]
  refine wpAnyH_take (i := 7) (oi := _) (v := ?_) rfl (by kernel_rfl) (by kernel_rfl) (by kernel_rfl) (fun _ _ _ h => h) (Or.inl ⟨by rfl, ?_⟩) hS ?_
  rotate_left
  · (intro w hSw; (try dsimp only at hSw); go_simp; (try with_reducible rfl))
  rotate_left
  simp only [Act.put, List.getElem_toArray, List.getElem_cons_zero, List.getElem_cons_succ, List.setIfInBounds_toArray, List.set_cons_zero, List.set_cons_succ]
  refine wpAnyH_take (i := 8) (oi := _) (v := ?_) rfl (by kernel_rfl) (by kernel_rfl) (by kernel_rfl) (fun _ _ _ h => h) (Or.inl ⟨by rfl, ?_⟩) hS ?_
  rotate_left
  · (intro w hSw; (try dsimp only at hSw); go_simp; (try with_reducible rfl))
  rotate_left
  simp only [Act.put, List.getElem_toArray, List.getElem_cons_zero, List.getElem_cons_succ, List.setIfInBounds_toArray, List.set_cons_zero, List.set_cons_succ]
  refine wpAnyH_take (i := 9) (oi := _) (v := ?_) rfl (by kernel_rfl) (by kernel_rfl) (by kernel_rfl) (fun _ _ _ h => h) (Or.inl ⟨by rfl, ?_⟩) hS ?_
  rotate_left
  · (intro w hSw; (try dsimp only at hSw); go_simp; (try with_reducible rfl))
  rotate_left
  simp only [Act.put, List.getElem_toArray, List.getElem_cons_zero, List.getElem_cons_succ, List.setIfInBounds_toArray, List.set_cons_zero, List.set_cons_succ]
  refine wpAnyH_take (i := 10) (oi := _) (v := ?_) rfl (by kernel_rfl) (by kernel_rfl) (by kernel_rfl) (fun _ _ _ h => h) (Or.inl ⟨by rfl, ?_⟩) hS ?_
  rotate_left
  · (intro w hSw; (try dsimp only at hSw); go_simp; (try with_reducible rfl))
  rotate_left
  simp only [Act.put, List.getElem_toArray, List.getElem_cons_zero, List.getElem_cons_succ, List.setIfInBounds_toArray, List.set_cons_zero, List.set_cons_succ]
  refine wpAnyH_take (i := 11) (oi := _) (v := ?_) rfl (by kernel_rfl) (by kernel_rfl) (by kernel_rfl) (fun _ _ _ h => h) (Or.inl ⟨by rfl, ?_⟩) hS ?_
  rotate_left
  · (intro w hSw; (try dsimp only at hSw); go_simp; (try with_reducible rfl))
  rotate_left
  simp only [Act.put, List.getElem_toArray, List.getElem_cons_zero, List.getElem_cons_succ, List.setIfInBounds_toArray, List.set_cons_zero, List.set_cons_succ]
  refine wpAnyH_take (i := 13) (oi := _) (v := ?_) rfl (by kernel_rfl) (by kernel_rfl) (by kernel_rfl) (fun _ _ _ h => h) (Or.inl ⟨by rfl, ?_⟩) hS ?_
  rotate_left
  · (intro w hSw; (try dsimp only at hSw); go_simp; (try with_reducible rfl))
  rotate_left
  simp only [Act.put, List.getElem_toArray, List.getElem_cons_zero, List.getElem_cons_succ, List.setIfInBounds_toArray, List.set_cons_zero, List.set_cons_succ]
  refine wpAnyH_ready (rs := [12]) (by kernel_rfl) (by simp) ?_
  refine AllReadyH.cons rfl (fun K hK => ?_) AllReadyH.nil
  rw [if_pos (by rfl)]
  go_simp
  refine (H3.out _).mono ?_
  rintro e w12 ⟨rfl, b5⟩
  refine hK.out _ _ ⟨Ext.trans hS.1 b5, hS.2.1.below b5, hS.2.2.1.below b5, hS.2.2.2.1.next b5, (hS.2.2.2.1.next b5).cell⟩ (fun hS' => ?_)
  clear b5
  clear hK K hS
  have hS := hS'
  clear hS'
  try simp only [Act.put, List.getElem_toArray, List.getElem_cons_zero, List.getElem_cons_succ, List.setIfInBounds_toArray, List.set_cons_zero, List.set_cons_succ]
  refine wpAnyH_ready (rs := [14]) (by kernel_rfl) (by simp) ?_
  refine AllReadyH.cons rfl (fun K hK => ?_) AllReadyH.nil
  rw [if_pos (by rfl)]
  go_simp
  refine (H4.out _).mono ?_
  rintro e w14 ⟨rfl, b5⟩
  refine hK.out _ _ ⟨Ext.trans hS.1 b5, hS.2.1.below b5, hS.2.2.1.below b5, hS.2.2.2.1.next b5, (hS.2.2.2.1.next b5).cell⟩ (fun hS' => ?_)
  clear b5
  clear hK K hS
  have hS := hS'
  clear hS'
  try simp only [Act.put, List.getElem_toArray, List.getElem_cons_zero, List.getElem_cons_succ, List.setIfInBounds_toArray, List.set_cons_zero, List.set_cons_succ]
  refine wpAnyH_take (i := 15) (oi := _) (v := ?_) rfl (by kernel_rfl) (by kernel_rfl) (by kernel_rfl) (fun _ _ _ h => h) (Or.inl ⟨by rfl, ?_⟩) hS ?_
  rotate_left
  · (intro w hSw; (try dsimp only at hSw); go_simp; (try with_reducible rfl))
  rotate_left
  simp only [Act.put, List.getElem_toArray, List.getElem_cons_zero, List.getElem_cons_succ, List.setIfInBounds_toArray, List.set_cons_zero, List.set_cons_succ]
  refine wpAnyH_take (i := 16) (oi := _) (v := ?_) rfl (by kernel_rfl) (by kernel_rfl) (by kernel_rfl) (fun _ _ _ h => h) (Or.inl ⟨by rfl, ?_⟩) hS ?_
  rotate_left
  · (intro w hSw; (try dsimp only at hSw); go_simp; (try with_reducible rfl))
  rotate_left
  simp only [Act.put, List.getElem_toArray, List.getElem_cons_zero, List.getElem_cons_succ, List.setIfInBounds_toArray, List.set_cons_zero, List.set_cons_succ]
  refine wpAnyH_take (i := 17) (oi := _) (v := ?_) rfl (by kernel_rfl) (by kernel_rfl) (by kernel_rfl) (fun _ _ _ h => h) (Or.inl ⟨by rfl, ?_⟩) hS ?_
  rotate_left
  · (intro w hSw; (try dsimp only at hSw); go_simp; (try with_reducible rfl))
  rotate_left
  simp only [Act.put, List.getElem_toArray, List.getElem_cons_zero, List.getElem_cons_succ, List.setIfInBounds_toArray, List.set_cons_zero, List.set_cons_succ]
  refine wpAnyH_done (by kernel_rfl) ?_ _
  have t8 := hS.1
  clear hS
  go_wp2
  go_ret
  exact ⟨rfl, t8⟩

theorem labelWrites_walk (w : World) (cs : List Value) (x : (Ty.st (.prod .u32 (.prod .u32 (.prod .int (.prod .int (.prod .int (.prod .int (.prod .int (.prod .int (.prod .int (.prod .bool .unit))))))))))).T) (h0 : Reads w (Ty.st (.prod .u32 (.prod .u32 (.prod .int (.prod .int (.prod .int (.prod .int (.prod .int (.prod .int (.prod .int (.prod .bool .unit))))))))))) x cs) :
    Calls Try.prog 3 #[.agg cs.toArray] w fun e w' => e = .returned (.bool true) ∧ Below w.heap.size w w' := by
  obtain ⟨x, hx, i1, i2⟩ := lab_open h0
  rw [hx]
  have core := fun ws E h1 h2 h3 h4 => lwrites_core x.id x.ev x.m x.c x.r x.l x.me x.lost x.dn x.op ws E h1 h2 h3 h4 w
  by_cases hok : x.Ok
  · obtain ⟨id, ev, m, c, r, l, me, lo, dn, op, rfl, _, _⟩ := lab_nat x hok
    exact core _ 0 (fun W => (lwrite_ok id ev m c r l me lo dn op i1 hok W).mono fun e w' ⟨g, he, _, hB, hbl⟩ => ⟨_, _, _, he, hB.bs, hbl⟩)
      (fun W => (rlwrite_ok id ev m c r l me lo dn op i1 i2 hok W).mono fun e w' ⟨A, q, he, hB, hbl⟩ => ⟨_, _, _, he, hB, hbl⟩) (lcheck_ok _ hok) (rlcheck_ok _ hok)
  · exact core [] 8 (fun W => (lwrite_bad x hok W).mono fun e w' ⟨he, hbl⟩ => ⟨_, _, _, he, Bs.nil _ _, hbl⟩) (fun W => (rlwrite_bad x hok W).mono fun e w' ⟨he, hbl⟩ => ⟨_, _, _, he, Bs.nil _ _, hbl⟩) (lcheck_bad x hok) (rlcheck_bad x hok)

set_option maxRecDepth 100000 in
theorem lreads_long (A : Option Addr) (n q : Nat) (hn : 1000 < n) (w : World) : Calls Try.prog 5 #[.slice A n q] w fun e w' => e = .returned (.bool true) ∧ Below w.heap.size w w' := by
  have hi1 : decide (1000 < (n : Int)) = true := decide_eq_true (by omega)
  go_enter Try.func5, Try.ntmps5
  go_wp2
  go_ret
  exact ⟨rfl, Below.refl _ _⟩

set_option maxRecDepth 100000 in
set_option maxHeartbeats 2000000 in
theorem lreads_core (A : Option Addr) (n q : Nat) (bs : List UInt8) (hn : n ≤ 1000) (id ev : Nat) (m c r l me lost dn : Int) (op : Bool) (C : Int)
    (h3 : ∀ A q W, Bs W A n bs → Calls Try.prog 15 #[.slice A n q] W fun e w' => e = .returned (.tuple #[.agg #[.int .u32 (id : Int), .int .u32 (ev : Int), .int .i64 m, .int .i64 c, .int .i64 r, .int .i64 l, .int .i64 me, .int .i64 lost, .int .i64 dn, .bool op], .int .i64 C]) ∧ Below W.heap.size W w')
    (h4 : ∀ A q W, Bs W A n bs → Calls Try.prog 17 #[.slice A n q] W fun e w' => e = .returned (.tuple #[.agg #[.int .u32 (id : Int), .int .u32 (ev : Int), .int .i64 m, .int .i64 c, .int .i64 r, .int .i64 l, .int .i64 me, .int .i64 lost, .int .i64 dn, .bool op], .int .i64 C]) ∧ Below W.heap.size W w')
    (w : World) (hb : Bs w A n bs) : Calls Try.prog 5 #[.slice A n q] w fun e w' => e = .returned (.bool true) ∧ Below w.heap.size w w' := by
  have H3 := Lib.hid h3
  have H4 := Lib.hid h4
  have HB := Lib.hid hb
  clear h3 h4 hb
  have hi1 : decide (1000 < (n : Int)) = false := decide_eq_false (by omega)
  have hi2 : decide (1000 < n) = false := decide_eq_false (by omega)
  go_enter Try.func5, Try.ntmps5
  go_wp2_with (at_builtin; refine wpList_append_bytes rfl (.const (.slice none 0 0)) (.tmp 11) rfl w.heap.size _ 0 [] rfl (OB.nil _ _) A n q bs rfl HB.out (by omega) (Nat.le_refl _) ?_; intro v1 w1 own1 g1; have hb1 := HB.out.below g1; rw [Nat.zero_add, List.nil_append] at own1; obtain ⟨P1, c1, rfl, hw1⟩ := own1.bs; clear own1)
  refine (H3.out _ _ _ hw1).mono ?_
  rintro e w2 ⟨rfl, b2⟩
  have A2 := BoxOf.new w2 #[.int .u32 (id : Int), .int .u32 (ev : Int), .int .i64 m, .int .i64 c, .int .i64 r, .int .i64 l, .int .i64 me, .int .i64 lost, .int .i64 dn, .bool op] 24
  have t2 := Ext.alloc (Ext.trans g1 b2) (.cells #[.int .u32 (id : Int), .int .u32 (ev : Int), .int .i64 m, .int .i64 c, .int .i64 r, .int .i64 l, .int .i64 me, .int .i64 lost, .int .i64 dn, .bool op] 24)
  have hb2 := (hb1.below b2).alloc (.cells #[.int .u32 (id : Int), .int .u32 (ev : Int), .int .i64 m, .int .i64 c, .int .i64 r, .int .i64 l, .int .i64 me, .int .i64 lost, .int .i64 dn, .bool op] 24)
  have hw2 := (hw1.below b2).alloc (.cells #[.int .u32 (id : Int), .int .u32 (ev : Int), .int .i64 m, .int .i64 c, .int .i64 r, .int .i64 l, .int .i64 me, .int .i64 lost, .int .i64 dn, .bool op] 24)
  clear hb1 hw1 b2 g1
  go_wp2_with fail
  obtain ⟨gr, hgr⟩ : ∃ gr : Nat, gr = w2.heap.size := ⟨_, rfl⟩
  rw [← hgr] at A2 ⊢
  clear hgr
  generalize w2.alloc (.cells #[.int .u32 (id : Int), .int .u32 (ev : Int), .int .i64 m, .int .i64 c, .int .i64 r, .int .i64 l, .int .i64 me, .int .i64 lost, .int .i64 dn, .bool op] 24) = v2 at *
  refine (H4.out _ _ _ hb2).mono ?_
  rintro e w3 ⟨rfl, b3⟩
  have A3 := (A2.next b3).alloc (.cells #[.int .u32 (id : Int), .int .u32 (ev : Int), .int .i64 m, .int .i64 c, .int .i64 r, .int .i64 l, .int .i64 me, .int .i64 lost, .int .i64 dn, .bool op] 24)
  have U3 := BoxOf.new w3 #[.int .u32 (id : Int), .int .u32 (ev : Int), .int .i64 m, .int .i64 c, .int .i64 r, .int .i64 l, .int .i64 me, .int .i64 lost, .int .i64 dn, .bool op] 24
  have t3 := Ext.alloc (Ext.trans t2 b3) (.cells #[.int .u32 (id : Int), .int .u32 (ev : Int), .int .i64 m, .int .i64 c, .int .i64 r, .int .i64 l, .int .i64 me, .int .i64 lost, .int .i64 dn, .bool op] 24)
  have hb3 := (hb2.below b3).alloc (.cells #[.int .u32 (id : Int), .int .u32 (ev : Int), .int .i64 m, .int .i64 c, .int .i64 r, .int .i64 l, .int .i64 me, .int .i64 lost, .int .i64 dn, .bool op] 24)
  have hw3 := (hw2.below b3).alloc (.cells #[.int .u32 (id : Int), .int .u32 (ev : Int), .int .i64 m, .int .i64 c, .int .i64 r, .int .i64 l, .int .i64 me, .int .i64 lost, .int .i64 dn, .bool op] 24)
  have x3 := A3.cell
  have y3 := U3.cell
  have s1 := run_string_bs (P := Try.prog) c1 25 9 5 Try.underlying25 Try.underlying5 Try.underlying9 hw3
  have s2 := run_string_bs (P := Try.prog) q 25 9 5 Try.underlying25 Try.underlying5 Try.underlying9 hb3
  clear A2 t2 hb2 hw2 b3 A3 U3 hb3 hw3
  go_wp2
  go_ret
  exact ⟨rfl, t3⟩

theorem lreads_all (A : Option Addr) (n q : Nat) (bs : List UInt8) (w : World) (hb : Bs w A n bs) : Calls Try.prog 5 #[.slice A n q] w fun e w' => e = .returned (.bool true) ∧ Below w.heap.size w w' := by
  by_cases hl : n ≤ 1000
  · by_cases hn : n = 0 ∨ n = 128
    · by_cases hr : ∃ id ev m c r l me lo dn op, LabIs bs id ev m c r l me lo dn op
      · obtain ⟨id, ev, m, c, r, l, me, lo, dn, op, h⟩ := hr
        exact lreads_core A n q bs hl id ev m c r l me (lostI lo) dn op 0 (fun A q W hW => lread_yes h A q W hW) (fun A q W hW => rlread_yes h A q W hW) w hb
      · have hr' := fun i1 i2 i3 i4 i5 i6 i7 i8 i9 i10 h => hr ⟨i1, i2, i3, i4, i5, i6, i7, i8, i9, i10, h⟩
        exact lreads_core A n q bs hl 0 0 0 0 0 0 0 0 0 false 90 (fun A q W hW => lread_no hn hr' A q W hW) (fun A q W hW => rlread_no hn hr' A q W hW) w hb
    · exact lreads_core A n q bs hl 0 0 0 0 0 0 0 0 0 false 3 (fun A q W _ => lread_text A n q (by omega) (by omega) W) (fun A q W _ => rlread_text A n q (by omega) (by omega) W) w hb
  · exact lreads_long A n q (by omega) w

theorem labelReads_walk (w : World) (v1 : Value) (bs : (Ty.sl .byte).T) (h1 : Reads w (.sl .byte) bs [v1]) :
    Calls Try.prog 5 #[v1] w fun e w' => e = .returned (.bool true) ∧ Below w.heap.size w w' := by
  obtain ⟨A, q, rfl, _, _, hb⟩ := one_bytes h1
  exact lreads_all A _ q bs w hb
end Go.Proofs.Ytiomgjfiiibllaa
