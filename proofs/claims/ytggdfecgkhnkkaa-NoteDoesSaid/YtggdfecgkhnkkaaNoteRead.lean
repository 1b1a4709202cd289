/- Layer 11 (note): Read. -/
import Derived.Test.YtggdfecgkhnkkaaNote4
import Derived.Test.YtggdfecgkhnkkaaNoteLaws
import Derived.Test.YtggdfecgkhnkkaaNoteSlots
import Derived.RangeFuncBox
import Derived.Laws.EntriesVeiled
import Derived.Deep.DeepCutAuto
namespace Go.Proofs.Ytggdfecgkhnkkaa
open Go Go.RowKit Go.Shelf
set_option linter.unusedSimpArgs false
set_option linter.unusedVariables false
attribute [local go_sem] Oper.semAt_some

set_option maxRecDepth 100000 in
set_option maxHeartbeats 1000000 in
theorem next_any (A : Option Addr) (n q : Nat) (bs : List UInt8) (hn : n = 0 ∨ n = 128) (gr p z pn x : Nat) (zi : Int) (hz : 1 ≤ z ∧ z ≤ 4) (hp : p + z ≤ 128) (hzi : zi = (z : Int)) (hpn : pn = p + z) (hx : x = takeN (wholeL bs) p z) (w : World) (hb : Bs w A n bs) (hR : BoxOf w gr #[.slice A n q, .int .i64 (p : Int)] 61) :
    Calls Try.prog 26 #[.pointer (some ⟨gr, 0, none⟩), .int .i64 zi] w fun e w' => e = .returned (.int .i64 (x : Int)) ∧ ∃ W, Below w.heap.size w W ∧ w' = W.setCell ⟨gr, 1, none⟩ (.int .i64 (pn : Int)) := by
  subst hzi hx
  have HT := Lib.hid (fun W hW => take_ok A n q bs hn p z hz hp W hW)
  have HB := Lib.hid hb
  have hpw : IntKind.i64.wrap ((p : Int) + (z : Int)) = (pn : Int) := by rw [i64_fit (by omega)]; omega
  have hpw2 : wrap64 ((p : Int) + (z : Int)) = (pn : Int) := by rw [IntWalk.wrap64_in _ (by omega)]; omega
  clear hb hz hp hpn
  go_enter Try.func26, Try.ntmps26
  go_wp2_with fail
  have b0 := Below.refl w.heap.size w
  have x0 := hR.cell
  go_region_held3 (fun w' => Below w.heap.size w w' ∧ BoxOf w' gr #[.slice A n q, .int .i64 (p : Int)] 61 ∧ ∀ o, w'.cell? ⟨gr, o, none⟩ = #[.slice A n q, .int .i64 (p : Int)].toList[o]?)
    (first | exact ⟨Ext.drew b0, hR.drew, x0⟩ | exact ⟨Ext.trans (And.left (by assumption)) k3, BoxOf.next (And.left (And.right (by assumption))) k3, (BoxOf.next (And.left (And.right (by assumption))) k3).cell⟩ | assumption)
    ((go_at_call 25; refine (HT.out _ (HB.out.below (And.left (by assumption)))).mono ?_; rintro e w3 ⟨rfl, k3⟩))
  rename_i hH
  obtain ⟨bH, rH, xH⟩ := hH
  have fH := rH.free
  clear x0 hR b0
  go_wp2
  go_ret
  exact ⟨rfl, _, bH, rfl⟩

def rdRec (B : List UInt8) (i : Nat) : NRec := ⟨takeN B (15 + 6 * i) 1, takeN B (16 + 6 * i) 1 == 1, takeN B (17 + 6 * i) 4⟩
def rdRs (B : List UInt8) (k : Nat) : List NRec := (List.range k).map (rdRec B)
theorem rdRs_len (B : List UInt8) (k : Nat) : (rdRs B k).length = k := by simp [rdRs]
theorem rdRs_succ (B : List UInt8) (k : Nat) : rdRs B (k + 1) = rdRs B k ++ [rdRec B k] := by simp [rdRs, List.range_succ]

/-- what stands while a block is read -/
structure RdSt (w W : World) (gr gf gn : Nat) (A : Option Addr) (n q p : Nat) (N : Array Value) : Prop where
  z : BoxOf W w.heap.size #[.int .u32 0, .int .u32 0, .int .u32 0, .int .i64 0, .slice none 0 0] 25
  f : BoxOf W gf #[.func (.func 26) #[.pointer (some ⟨gr, 0, none⟩)] #[]] 58
  r : BoxOf W gr #[.slice A n q, .int .i64 (p : Int)] 61
  nt : BoxOf W gn N 25
  b : Below w.heap.size w W
section
variable {w W W' : World} {gr gf gn : Nat} {A : Option Addr} {n q p : Nat} {N : Array Value}
theorem RdSt.ext (h : RdSt w W gr gf gn A n q p N) (hb : Below W.heap.size W W') : RdSt w W' gr gf gn A n q p N := ⟨h.z.next hb, h.f.next hb, h.r.next hb, h.nt.next hb, Ext.trans h.b hb⟩
theorem RdSt.step (h : RdSt w W gr gf gn A n q p N) (h1 : w.heap.size < gr) (h2 : gr < gf) (h3 : gf < gn) (hb : Below W.heap.size W W') (pn : Nat) : RdSt w (W'.setCell ⟨gr, 1, none⟩ (.int .i64 (pn : Int))) gr gf gn A n q pn N := by
  have h' := h.ext hb
  exact ⟨nbox_else h'.z (by omega) _ _, nbox_else h'.f (by omega) _ _, nbox_field h'.r 1 _, nbox_else h'.nt (by omega) _ _, Below.setCell (p := ⟨gr, 1, none⟩) h'.b (by show w.heap.size ≤ gr; omega) _⟩
theorem RdSt.put (h : RdSt w W gr gf gn A n q p N) (h1 : w.heap.size < gr) (h2 : gr < gf) (h3 : gf < gn) (i : Nat) (v : Value) : RdSt w (W.setCell ⟨gn, i, none⟩ v) gr gf gn A n q p (N.setIfInBounds i v) :=
  ⟨nbox_else h.z (by omega) _ _, nbox_else h.f (by omega) _ _, nbox_else h.r (by omega) _ _, nbox_field h.nt i _, Below.setCell (p := ⟨gn, i, none⟩) h.b (by show w.heap.size ≤ gn; omega) _⟩
end
theorem keeps_below {W v : World} (t : Below W.heap.size W v) : KeepsOthers W v := ⟨t.size, fun k o hk _ => by rw [t.block k (Array.getElem?_eq_some_iff.1 hk).1]; exact hk⟩
theorem OwnR.grown {B base : Nat} {W W' : World} {row : Option Nat} {v : Value} {n : Nat} {rs : List NRec} (h : OwnR W base v n rs) (hg : W.grownBy W' row) (hr : ∀ r, row = some r → B ≤ r ∧ ∃ o : Obj, W.heap[r]? = some o ∧ o.isCells = false) : OwnR W' base v n rs := by
  refine World.ownsRow.kept h hg ?_
  by_cases e : v.ownBlock = row
  · cases hv : v.ownBlock with
    | none => exact .inl rfl
    | some g =>
      exfalso
      obtain ⟨_, o, ho, hc⟩ := hr g (by rw [← e, hv])
      rcases h.2 with ⟨rfl, _⟩ | ⟨g', cap, cur, rfl, _, hg', _⟩
      · cases hv
      · simp [Value.ownBlock] at hv
        subst hv
        rw [hg'] at ho
        cases ho
        simp [Obj.isCells] at hc
  · exact .inr e
theorem OwnR.apart {W : World} {base g : Nat} {v : Value} {n : Nat} {rs : List NRec} {cs : Array Value} (h : OwnR W base v n rs) (hb : BoxOf W g cs 3) : v.ownBlock ≠ some g := by
  intro e
  rcases h.2 with ⟨rfl, _⟩ | ⟨g', cap, cur, rfl, _, hg', _⟩
  · cases e
  · simp [Value.ownBlock] at e
    subst e
    have hb' : W.heap[g']? = some (.cells cs 3 (0, 0)) := hb
    rw [hg'] at hb'
    injection hb' with h1
    injection h1 with h2 h3
    exact absurd h3 (by decide)
theorem RdSt.grown {w W W' : World} {gr gf gn B : Nat} {A : Option Addr} {n q p : Nat} {N : Array Value} {row : Option Nat} (h : RdSt w W gr gf gn A n q p N) (hg : W.grownBy W' row) (hr : ∀ r, row = some r → B ≤ r ∧ ∃ o : Obj, W.heap[r]? = some o ∧ o.isCells = false) (hB : w.heap.size ≤ B) : RdSt w W' gr gf gn A n q p N :=
  ⟨own_box h.z hg hr, own_box h.f hg hr, own_box h.r hg hr, own_box h.nt hg hr, h.b.grown hg h.b.size (fun k e => by have := (hr k e).1; omega)⟩
theorem RdSt.rowed {w W W' : World} {gr gf gn : Nat} {A : Option Addr} {n q p : Nat} {N : Array Value} {row : Option Nat} (h : RdSt w W gr gf gn A n q p N) (h1 : w.heap.size < gr) (h2 : gr < gf) (h3 : gf < gn) (hg : W.grownBy W' row) (hr : ∀ r, row = some r → gn < r) : RdSt w W' gr gf gn A n q p N :=
  ⟨h.z.grown hg (fun e => by have := hr _ e; omega), h.f.grown hg (fun e => by have := hr _ e; omega), h.r.grown hg (fun e => by have := hr _ e; omega), h.nt.grown hg (fun e => by have := hr _ e; omega), h.b.grown hg h.b.size (fun k e => by have := hr k e; omega)⟩
def set5 (W : World) (g : Nat) (a b c d e : Value) : World := ((((W.setCell ⟨g, 0, none⟩ a).setCell ⟨g, 1, none⟩ b).setCell ⟨g, 2, none⟩ c).setCell ⟨g, 3, none⟩ d).setCell ⟨g, 4, none⟩ e
section
variable {W : World} {g D : Nat}
theorem nheap5 {o : Obj} (h : W.heap[D]? = some o) (hne : D ≠ g) (a b c d e : Value) : (((((W.setCell ⟨g, 0, none⟩ a).setCell ⟨g, 1, none⟩ b).setCell ⟨g, 2, none⟩ c).setCell ⟨g, 3, none⟩ d).setCell ⟨g, 4, none⟩ e).heap[D]? = some o := by
  rw [Below.heap_setCell _ _ _ _ hne, Below.heap_setCell _ _ _ _ hne, Below.heap_setCell _ _ _ _ hne, Below.heap_setCell _ _ _ _ hne, Below.heap_setCell _ _ _ _ hne]; exact h
theorem nbox5 {z0 z1 z2 z3 z4 : Value} {t : TypeId} (h : BoxOf W g #[z0, z1, z2, z3, z4] t) (a b c d e : Value) : BoxOf (((((W.setCell ⟨g, 0, none⟩ a).setCell ⟨g, 1, none⟩ b).setCell ⟨g, 2, none⟩ c).setCell ⟨g, 3, none⟩ d).setCell ⟨g, 4, none⟩ e) g #[a, b, c, d, e] t :=
  nbox_field (nbox_field (nbox_field (nbox_field (nbox_field h 0 a) 1 b) 2 c) 3 d) 4 e
theorem nbelow5 {n : Nat} {w : World} (h : Below n w W) (hg : n ≤ g) (a b c d e : Value) : Below n w (((((W.setCell ⟨g, 0, none⟩ a).setCell ⟨g, 1, none⟩ b).setCell ⟨g, 2, none⟩ c).setCell ⟨g, 3, none⟩ d).setCell ⟨g, 4, none⟩ e) :=
  Below.setCell (p := ⟨g, 4, none⟩) (Below.setCell (p := ⟨g, 3, none⟩) (Below.setCell (p := ⟨g, 2, none⟩) (Below.setCell (p := ⟨g, 1, none⟩) (Below.setCell (p := ⟨g, 0, none⟩) h hg a) hg b) hg c) hg d) hg e
theorem nown5 {base n : Nat} {v : Value} {rs : List NRec} (h : OwnR W base v n rs) (hg : g < base) (a b c d e : Value) : OwnR (((((W.setCell ⟨g, 0, none⟩ a).setCell ⟨g, 1, none⟩ b).setCell ⟨g, 2, none⟩ c).setCell ⟨g, 3, none⟩ d).setCell ⟨g, 4, none⟩ e) base v n rs :=
  OwnR.set (OwnR.set (OwnR.set (OwnR.set (OwnR.set h hg 0 a) hg 1 b) hg 2 c) hg 3 d) hg 4 e
theorem nbox_put {cs : Array Value} {t : TypeId} (h : BoxOf W g cs t) (hne : g ≠ D) (o : Obj) : BoxOf (W.putObj D o) g cs t := by
  unfold BoxOf at *
  rw [World.putObj_heap_other (by omega)]; exact h
theorem OwnR.rs' {base n c : Nat} {A : Option Addr} {rs : List NRec} (h : OwnR W base (.slice A n c) n rs) (hl : rs.length = n) : Rs W A n rs := by
  obtain ⟨A2, c2, e, h2⟩ := OwnR.rs h hl
  injection e with e1 e2 e3
  subst e1
  exact h2
end
def UPR (e : Array Value) (t : Array Value) : Array Value := (t.setIfInBounds 44 (e.getD 0 undef)).setIfInBounds 45 (e.getD 1 undef)

set_option maxRecDepth 100000 in
set_option maxHeartbeats 4000000 in
theorem nread_core (A : Option Addr) (n q : Nat) (bs : List UInt8) (hn : n = 0 ∨ n = 128) (id age sq st mm m : Nat) (rs : List NRec) (h1 : id = takeN (wholeL bs) 1 4) (h2 : age = takeN (wholeL bs) 5 4) (h3 : sq = takeN (wholeL bs) 9 4) (h4 : st = takeN (wholeL bs) 13 1) (h5 : mm = takeN (wholeL bs) 14 1) (h6 : m = min mm 17) (h7 : rs = rdRs (wholeL bs) m)
    (ws : List UInt8) (E : Int) (HWR : ∀ A' c' W, Rs W A' m rs → Calls Try.prog 11 #[.agg #[.int .u32 (id : Int), .int .u32 (age : Int), .int .u32 (sq : Int), .int .i64 (st : Int), .slice A' m c']] W fun e w' => ∃ P k c, e = .returned (.tuple #[.slice P k c, .int .i64 E]) ∧ Bs w' P k ws ∧ Below W.heap.size W w')
    (bad : Bool) (hbad : (bad = true ∧ ((E != 0) = true ∨ (E = 0 ∧ ws ≠ bs))) ∨ (bad = false ∧ E = 0 ∧ ws = bs)) (w : World) (hb : Bs w A n bs) :
    Calls Try.prog 13 #[.slice A n q] w fun e w' => ((bad = true ∧ e = .returned (.tuple #[.agg #[.int .u32 0, .int .u32 0, .int .u32 0, .int .i64 0, .slice none 0 0], .int .i64 90])) ∨ (bad = false ∧ ∃ A' c', e = .returned (.tuple #[.agg #[.int .u32 (id : Int), .int .u32 (age : Int), .int .u32 (sq : Int), .int .i64 (st : Int), .slice A' m c'], .int .i64 0]) ∧ Rs w' A' m rs)) ∧ Below w.heap.size w w' := by
  have hmf : ∀ (fn : Fn) (first cap : Array Value) (w : World), (Instr.makeFunc fn first cap).run Try.prog w = .ok (.func fn first cap) w := fun _ _ _ _ => rfl
  have HN := Lib.hid (fun gr => next_any A n q bs hn gr)
  have H0 := Lib.hid (fun W hW => take_ok A n q bs hn 0 1 (by decide) (by decide) W hW)
  have HB := Lib.hid hb
  have l1 : id < 4294967296 := by rw [h1]; exact takeN_lt _ 1 4
  have l2 : age < 4294967296 := by rw [h2]; exact takeN_lt _ 5 4
  have l3 : sq < 4294967296 := by rw [h3]; exact takeN_lt _ 9 4
  have G1 := Lib.hid h1
  have G2 := Lib.hid h2
  have G3 := Lib.hid h3
  have G4 := Lib.hid h4
  have G5 := Lib.hid h5
  have G6 := Lib.hid h6
  have G7 := Lib.hid h7
  have HW := Lib.hid HWR
  have HBAD := Lib.hid hbad
  have W1 : IntKind.u32.wrap (id : Int) = id := IntWalk.u32_in _ (by omega)
  have W2 : IntKind.u32.wrap (age : Int) = age := IntWalk.u32_in _ (by omega)
  have W3 : IntKind.u32.wrap (sq : Int) = sq := IntWalk.u32_in _ (by omega)
  have hm17 : m ≤ 17 := by rw [h6]; omega
  clear h1 h2 h3 h4 h5 h6 h7 hb HWR hbad l1 l2 l3 hn
  refine (callsIn_wide (n := 3)).1 ?_
  refine callsIn_of_wp_marks Try.func13 rfl trivial ?_ rfl
  simp only [Try.ntmps13, List.size_toArray, List.length_cons, List.length_nil, Nat.reduceAdd, Nat.reduceSub, Array.replicate_succ, Array.replicate_zero, List.push_toArray, List.append_toArray, List.nil_append, List.cons_append]
  have Z0 := BoxOf.new w #[.int .u32 0, .int .u32 0, .int .u32 0, .int .i64 0, .slice none 0 0] 25
  have t0 := Ext.alloc (Below.refl w.heap.size w) (.cells #[.int .u32 0, .int .u32 0, .int .u32 0, .int .i64 0, .slice none 0 0] 25)
  gi_wp2_with fail
  refine ⟨trivial, (callsIn_wide.2 (H0.out _ (HB.out.below t0))).mono ?_⟩
  rintro e w1 ⟨rfl, b1⟩
  have Z1 := Z0.next b1
  have t1 := Ext.trans t0 b1
  clear Z0 t0 b1
  obtain ⟨gr, hgr⟩ : ∃ z : Nat, z = w1.heap.size := ⟨_, rfl⟩
  have l1 : w.heap.size < gr := by rw [hgr]; exact Z1.lt
  have Z2 := (Z1.alloc (.cells #[.slice A n q, .int .i64 (1 : Int)] 61)).alloc (.cells #[.nilFunc] 58)
  have R2 := BoxOf.alloc (BoxOf.new' w1 gr #[.slice A n q, .int .i64 (1 : Int)] 61 hgr) (.cells #[.nilFunc] 58)
  have F2 := BoxOf.new' (w1.alloc (.cells #[.slice A n q, .int .i64 (1 : Int)] 61)) (gr + 1) #[.nilFunc] 58 (by simp [hgr])
  have t2 := Ext.alloc (Ext.alloc t1 (.cells #[.slice A n q, .int .i64 (1 : Int)] 61)) (.cells #[.nilFunc] 58)
  have f2 := F2.free
  have x2 := F2.cell
  rw [hgr] at f2 x2
  gi_wp2_with fail
  rw [← hgr]
  have S : RdSt w _ gr (gr + 1) (gr + 1 + 1) A n q 1 #[.int .u32 (0 : Int), .int .u32 (0 : Int), .int .u32 (0 : Int), .int .i64 (0 : Int), .slice none 0 0] :=
    ⟨((Z1.alloc (.cells #[.slice A n q, .int .i64 (1 : Int)] 61)).alloc (.cells #[.func (.func 26) #[.pointer (some ⟨gr, 0, none⟩)] #[]] 58)).alloc (.cells #[.int .u32 0, .int .u32 0, .int .u32 0, .int .i64 0, .slice none 0 0] 25),
      BoxOf.alloc (BoxOf.new' (w1.alloc (.cells #[.slice A n q, .int .i64 (1 : Int)] 61)) (gr + 1) #[.func (.func 26) #[.pointer (some ⟨gr, 0, none⟩)] #[]] 58 (by simp [hgr])) (.cells #[.int .u32 0, .int .u32 0, .int .u32 0, .int .i64 0, .slice none 0 0] 25),
      (BoxOf.alloc (BoxOf.new' w1 gr #[.slice A n q, .int .i64 (1 : Int)] 61 hgr) (.cells #[.func (.func 26) #[.pointer (some ⟨gr, 0, none⟩)] #[]] 58)).alloc (.cells #[.int .u32 0, .int .u32 0, .int .u32 0, .int .i64 0, .slice none 0 0] 25),
      BoxOf.new' ((w1.alloc (.cells #[.slice A n q, .int .i64 (1 : Int)] 61)).alloc (.cells #[.func (.func 26) #[.pointer (some ⟨gr, 0, none⟩)] #[]] 58)) (gr + 1 + 1) #[.int .u32 0, .int .u32 0, .int .u32 0, .int .i64 0, .slice none 0 0] 25 (by simp [hgr]),
      Ext.alloc (Ext.alloc (Ext.alloc t1 (.cells #[.slice A n q, .int .i64 (1 : Int)] 61)) (.cells #[.func (.func 26) #[.pointer (some ⟨gr, 0, none⟩)] #[]] 58)) (.cells #[.int .u32 0, .int .u32 0, .int .u32 0, .int .i64 0, .slice none 0 0] 25)⟩
  clear Z2 R2 F2 t2 f2 x2 hgr Z1 t1
  generalize ((w1.alloc (.cells #[.slice A n q, .int .i64 (1 : Int)] 61)).alloc (.cells #[.func (.func 26) #[.pointer (some ⟨gr, 0, none⟩)] #[]] 58)).alloc (.cells #[.int .u32 0, .int .u32 0, .int .u32 0, .int .i64 0, .slice none 0 0] 25) = V at *
  refine ⟨trivial, (callsIn_wide.2 (HN.out gr 1 4 5 id 4 (by decide) (by decide) rfl rfl G1.out _ (HB.out.below S.b) S.r)).mono ?_⟩
  rintro e v ⟨rfl, W, b, rfl⟩
  have S' := S.step l1 (by omega) (by omega) b 5
  clear S
  have S := S'
  clear S'
  generalize W.setCell ⟨gr, 1, none⟩ (.int .i64 ((5 : Nat) : Int)) = V at *
  clear b
  have fN := S.nt.free
  have yN := S.nt.cell
  have S' : RdSt w _ gr (gr + 1) (gr + 1 + 1) A n q 5 #[.int .u32 (id : Int), .int .u32 (0 : Int), .int .u32 (0 : Int), .int .i64 (0 : Int), .slice none 0 0] := S.put l1 (by omega) (by omega) 0 (.int .u32 (id : Int))
  have xF := S'.f.cell
  gi_wp2_with fail
  clear fN yN xF S
  have S := S'
  clear S'
  generalize V.setCell ⟨gr + 1 + 1, 0, none⟩ (.int .u32 (id : Int)) = V at *
  refine ⟨trivial, (callsIn_wide.2 (HN.out gr 5 4 9 age 4 (by decide) (by decide) rfl rfl G2.out _ (HB.out.below S.b) S.r)).mono ?_⟩
  rintro e v ⟨rfl, W, b, rfl⟩
  have S' := S.step l1 (by omega) (by omega) b 9
  clear S
  have S := S'
  clear S'
  generalize W.setCell ⟨gr, 1, none⟩ (.int .i64 ((9 : Nat) : Int)) = V at *
  clear b
  have fN := S.nt.free
  have yN := S.nt.cell
  have S' : RdSt w _ gr (gr + 1) (gr + 1 + 1) A n q 9 #[.int .u32 (id : Int), .int .u32 (age : Int), .int .u32 (0 : Int), .int .i64 (0 : Int), .slice none 0 0] := S.put l1 (by omega) (by omega) 1 (.int .u32 (age : Int))
  have xF := S'.f.cell
  gi_wp2_with fail
  clear fN yN xF S
  have S := S'
  clear S'
  generalize V.setCell ⟨gr + 1 + 1, 1, none⟩ (.int .u32 (age : Int)) = V at *
  refine ⟨trivial, (callsIn_wide.2 (HN.out gr 9 4 13 sq 4 (by decide) (by decide) rfl rfl G3.out _ (HB.out.below S.b) S.r)).mono ?_⟩
  rintro e v ⟨rfl, W, b, rfl⟩
  have S' := S.step l1 (by omega) (by omega) b 13
  clear S
  have S := S'
  clear S'
  generalize W.setCell ⟨gr, 1, none⟩ (.int .i64 ((13 : Nat) : Int)) = V at *
  clear b
  have fN := S.nt.free
  have yN := S.nt.cell
  have S' : RdSt w _ gr (gr + 1) (gr + 1 + 1) A n q 13 #[.int .u32 (id : Int), .int .u32 (age : Int), .int .u32 (sq : Int), .int .i64 (0 : Int), .slice none 0 0] := S.put l1 (by omega) (by omega) 2 (.int .u32 (sq : Int))
  have xF := S'.f.cell
  gi_wp2_with fail
  clear fN yN xF S
  have S := S'
  clear S'
  generalize V.setCell ⟨gr + 1 + 1, 2, none⟩ (.int .u32 (sq : Int)) = V at *
  refine ⟨trivial, (callsIn_wide.2 (HN.out gr 13 1 14 st 1 (by decide) (by decide) rfl rfl G4.out _ (HB.out.below S.b) S.r)).mono ?_⟩
  rintro e v ⟨rfl, W, b, rfl⟩
  have S' := S.step l1 (by omega) (by omega) b 14
  clear S
  have S := S'
  clear S'
  generalize W.setCell ⟨gr, 1, none⟩ (.int .i64 ((14 : Nat) : Int)) = V at *
  clear b
  have fN := S.nt.free
  have yN := S.nt.cell
  have S' : RdSt w _ gr (gr + 1) (gr + 1 + 1) A n q 14 #[.int .u32 (id : Int), .int .u32 (age : Int), .int .u32 (sq : Int), .int .i64 (st : Int), .slice none 0 0] := S.put l1 (by omega) (by omega) 3 (.int .i64 (st : Int))
  have xF := S'.f.cell
  gi_wp2_with fail
  clear fN yN xF S
  have S := S'
  clear S'
  generalize V.setCell ⟨gr + 1 + 1, 3, none⟩ (.int .i64 (st : Int)) = V at *
  refine ⟨trivial, (callsIn_wide.2 (HN.out gr 14 1 15 mm 1 (by decide) (by decide) rfl rfl G5.out _ (HB.out.below S.b) S.r)).mono ?_⟩
  rintro e v ⟨rfl, W, b, rfl⟩
  have S' := S.step l1 (by omega) (by omega) b 15
  clear S
  have S := S'
  clear S'
  generalize W.setCell ⟨gr, 1, none⟩ (.int .i64 ((15 : Nat) : Int)) = V at *
  clear b
  have xF := S.f.cell
  gi_wp2_with fail
  clear xF
  rw [show min ((mm : Nat) : Int) 17 = (m : Int) by rw [G6.out]; omega]
  refine ⟨trivial, (places_in Fence.wide 2 trivial rfl m V).mono ?_⟩
  rintro e w7 ⟨rfl, rfl⟩
  gi_wp2_with fail
  obtain ⟨gx, hgx⟩ : ∃ gx : Nat, gx = V.heap.size := ⟨_, rfl⟩
  have X7 := BoxOf.new' V gx #[.int .i64 (m : Int)] 3 hgx
  have lgx : gr + 1 + 1 < gx := by rw [hgx]; exact S.nt.lt
  have S' := S.ext (Ext.alloc (Below.refl V.heap.size V) (.cells #[.int .i64 (m : Int)] 3))
  rw [← hgx]
  clear S hgx
  have S := S'
  clear S'
  generalize V.alloc (.cells #[.int .i64 (m : Int)] 3) = V7 at *
  have hgx7 : gx < V7.heap.size := X7.lt
  have lV7 := S.b.size
  refine places_loop (m := m) (gx := gx) UPR rfl (places_stops Fence.wide (3 - 1) trivial rfl (by decide) gx m (by omega) V7 hgx7 ((BoxOf.cell X7 0).trans rfl)) rfl
    (fun pre W => (∃ v, RdSt w W gr (gr + 1) (gr + 1 + 1) A n q (15 + 6 * pre.length) #[.int .u32 (id : Int), .int .u32 (age : Int), .int .u32 (sq : Int), .int .i64 (st : Int), v] ∧ OwnR W (gr + 1 + 1 + 1) v pre.length (rdRs (wholeL bs) pre.length)) ∧ BoxOf W gx #[.int .i64 (m : Int)] 3)
    (fun _ _ _ => False) ?own (fun _ _ _ _ _ hs _ _ => hs) ⟨⟨_, S, OwnR.nil _ _⟩, X7⟩ ?assign ?body ?done ?stop
  case own =>
    rintro pre W W' row ⟨⟨v, h1, h2⟩, h3⟩ hgr hr
    exact ⟨⟨v, h1.grown hgr hr lV7, h2.grown hgr hr⟩, own_box h3 hgr hr⟩
  case assign =>
    intro l x W K hK
    gi_wp2
    simpa [UPR, encP] using hK
  case stop =>
    rintro D c pre W _ _ h _
    exact h.elim
  case body =>
    rintro l pre x W ⟨⟨v, S1, O⟩, hX⟩ hlt
    clear S
    simp only [UPR, encP, List.setIfInBounds_toArray, List.set_cons_zero, List.set_cons_succ, Array.getD_eq_getD_getElem?, List.getElem?_toArray, List.getElem?_cons_zero, List.getElem?_cons_succ, Option.getD_some]
    have hpl : (pre ++ [x]).length = pre.length + 1 := by simp
    have HPL := Lib.hid hpl
    clear hpl
    generalize hk : pre.length = k at *
    obtain ⟨sl, hsl⟩ : ∃ z, z = takeN (wholeL bs) (15 + 6 * k) 1 := ⟨_, rfl⟩
    obtain ⟨bb, hbb⟩ : ∃ z, z = takeN (wholeL bs) (15 + 6 * k + 1) 1 := ⟨_, rfl⟩
    obtain ⟨su, hsu⟩ : ∃ z, z = takeN (wholeL bs) (15 + 6 * k + 1 + 1) 4 := ⟨_, rfl⟩
    obtain ⟨ba, hba⟩ : ∃ z, z = ((bb : Int) == 1) := ⟨_, rfl⟩
    have hrec : rdRec (wholeL bs) k = ⟨sl, ba, su⟩ := by
      unfold rdRec
      rw [hba, hsl, hbb, hsu, show 16 + 6 * k = 15 + 6 * k + 1 by omega, show 17 + 6 * k = 15 + 6 * k + 1 + 1 by omega]
      congr 1
      rw [Bool.eq_iff_iff, beq_iff_eq, beq_iff_eq]
      omega
    have g1 : sl < 256 := by rw [hsl]; exact takeN_lt _ _ 1
    have g2 : su < 4294967296 := by rw [hsu]; exact takeN_lt _ _ 4
    have HRE := Lib.hid hrec
    have HSL := Lib.hid hsl
    have HBB := Lib.hid hbb
    have HSU := Lib.hid hsu
    have HBA := Lib.hid hba
    have q1 : IntKind.u8.wrap (sl : Int) = (sl : Int) := IntWalk.u8_in _ (by omega)
    have q2 : IntKind.u32.wrap (su : Int) = (su : Int) := IntWalk.u32_in _ (by omega)
    clear hrec hsl hbb hsu hba g1 g2
    have xF := S1.f.cell
    gi_wp2_with fail
    refine ⟨trivial, (CallsIn.inRound l (callsIn_wide.2 (HN.out gr (15 + 6 * k) 1 (15 + 6 * k + 1) sl 1 (by decide) (by omega) rfl rfl HSL.out _ (HB.out.below S1.b) S1.r))).mono ?_⟩
    rintro e v1 ⟨rfl, W1, b, rfl⟩
    have S2 := S1.step l1 (by omega) (by omega) b (15 + 6 * k + 1)
    have O2 := OwnR.set (O.next b) (show gr < gr + 1 + 1 + 1 by omega) 1 (.int .i64 ((15 + 6 * k + 1 : Nat) : Int))
    have X2 := nbox_else (hX.next b) (show gx ≠ gr by omega) 1 (.int .i64 ((15 + 6 * k + 1 : Nat) : Int))
    have K2 := (keeps_below b).trans (KeepsOthers.setCell W1 ⟨gr, 1, none⟩ (.int .i64 ((15 + 6 * k + 1 : Nat) : Int)))
    clear S1 O b xF
    generalize W1.setCell ⟨gr, 1, none⟩ (.int .i64 ((15 + 6 * k + 1 : Nat) : Int)) = V1 at *
    have xF := S2.f.cell
    gi_wp2_with fail
    refine ⟨trivial, (CallsIn.inRound l (callsIn_wide.2 (HN.out gr (15 + 6 * k + 1) 1 (15 + 6 * k + 1 + 1) bb 1 (by decide) (by omega) rfl rfl HBB.out _ (HB.out.below S2.b) S2.r))).mono ?_⟩
    rintro e v2 ⟨rfl, W2, b, rfl⟩
    have S3 := S2.step l1 (by omega) (by omega) b (15 + 6 * k + 1 + 1)
    have O3 := OwnR.set (O2.next b) (show gr < gr + 1 + 1 + 1 by omega) 1 (.int .i64 ((15 + 6 * k + 1 + 1 : Nat) : Int))
    have X3 := nbox_else (X2.next b) (show gx ≠ gr by omega) 1 (.int .i64 ((15 + 6 * k + 1 + 1 : Nat) : Int))
    have K3 := K2.trans ((keeps_below b).trans (KeepsOthers.setCell W2 ⟨gr, 1, none⟩ (.int .i64 ((15 + 6 * k + 1 + 1 : Nat) : Int))))
    clear S2 O2 X2 K2 b xF
    generalize W2.setCell ⟨gr, 1, none⟩ (.int .i64 ((15 + 6 * k + 1 + 1 : Nat) : Int)) = V2 at *
    gi_wp2_with fail
    refine region_inRound (by kernel_rfl) (by kernel_rfl) (S := fun w' => BoxOf w' (gr + 1) #[.func (.func 26) #[.pointer (some ⟨gr, 0, none⟩)] #[]] 58 ∧ ∀ o, w'.cell? ⟨gr + 1, o, none⟩ = (#[.func (.func 26) #[.pointer (some ⟨gr, 0, none⟩)] #[]] : Array Value).toList[o]?)
      ⟨S3.f.drew, S3.f.drew.cell⟩ (fun hS => ?_)
    have S4 : RdSt w V2.drew gr (gr + 1) (gr + 1 + 1) A n q _ _ := ⟨S3.z.drew, S3.f.drew, S3.r.drew, S3.nt.drew, Ext.drew S3.b⟩
    have O4 : OwnR V2.drew (gr + 1 + 1 + 1) v k (rdRs (wholeL bs) k) := O3
    have X4 := X3.drew
    have K4 := K3.trans (KeepsOthers.drew V2)
    clear S3 O3 X3 K3
    generalize V2.drew = v3 at *
    refine wpAnyH_take (i := 0) (oi := _) (v := ?_) rfl (by kernel_rfl) (by kernel_rfl) (by kernel_rfl) (fun _ _ _ h => h) (Or.inl ⟨by rfl, ?_⟩) hS ?_
    rotate_left
    · (intro w hSw; (try dsimp only at hSw); go_simp; (try with_reducible rfl))
    rotate_left
    simp only [Act.put, List.getElem_toArray, List.getElem_cons_zero, List.getElem_cons_succ, List.setIfInBounds_toArray, List.set_cons_zero, List.set_cons_succ]
    refine wpAnyH_take (i := 2) (oi := _) (v := ?_) rfl (by kernel_rfl) (by kernel_rfl) (by kernel_rfl) (fun _ _ _ h => h) (Or.inl ⟨by rfl, ?_⟩) hS ?_
    rotate_left
    · (intro w hSw; (try dsimp only at hSw); go_simp; (try with_reducible rfl))
    rotate_left
    simp only [Act.put, List.getElem_toArray, List.getElem_cons_zero, List.getElem_cons_succ, List.setIfInBounds_toArray, List.set_cons_zero, List.set_cons_succ]
    refine wpAnyH_take (i := 3) (oi := _) (v := ?_) rfl (by kernel_rfl) (by kernel_rfl) (by kernel_rfl) (fun _ _ _ h => h) (Or.inl ⟨by rfl, ?_⟩) hS ?_
    rotate_left
    · (intro w hSw; (try dsimp only at hSw); go_simp; (try with_reducible rfl))
    rotate_left
    simp only [Act.put, List.getElem_toArray, List.getElem_cons_zero, List.getElem_cons_succ, List.setIfInBounds_toArray, List.set_cons_zero, List.set_cons_succ]
    refine wpAnyH_take (i := 4) (oi := _) (v := ?_) rfl (by kernel_rfl) (by kernel_rfl) (by kernel_rfl) (fun _ _ _ h => h) (Or.inl ⟨by rfl, ?_⟩) hS ?_
    rotate_left
    · (intro w hSw; (try dsimp only at hSw); go_simp; (try with_reducible rfl))
    rotate_left
    simp only [Act.put, List.getElem_toArray, List.getElem_cons_zero, List.getElem_cons_succ, List.setIfInBounds_toArray, List.set_cons_zero, List.set_cons_succ]
    refine wpAnyH_take (i := 5) (oi := _) (v := ?_) rfl (by kernel_rfl) (by kernel_rfl) (by kernel_rfl) (fun _ _ _ h => h) (Or.inl ⟨by rfl, ?_⟩) hS ?_
    rotate_left
    · (intro w hSw; (try dsimp only at hSw); go_simp; (try with_reducible rfl))
    rotate_left
    simp only [Act.put, List.getElem_toArray, List.getElem_cons_zero, List.getElem_cons_succ, List.setIfInBounds_toArray, List.set_cons_zero, List.set_cons_succ]
    refine wpAnyH_take (i := 6) (oi := _) (v := ?_) rfl (by kernel_rfl) (by kernel_rfl) (by kernel_rfl) (fun _ _ _ h => h) (Or.inl ⟨by rfl, ?_⟩) hS ?_
    rotate_left
    · (intro w hSw; (try dsimp only at hSw); go_simp; (try with_reducible rfl))
    rotate_left
    simp only [Act.put, List.getElem_toArray, List.getElem_cons_zero, List.getElem_cons_succ, List.setIfInBounds_toArray, List.set_cons_zero, List.set_cons_succ]
    refine wpAnyH_ready (rs := [1, 7]) (by kernel_rfl) (by simp) ?_
    refine AllReadyH.cons rfl (fun K hK => ?_) (AllReadyH.cons rfl (fun K hK => ?_) AllReadyH.nil)
    · rw [if_pos (by rfl)]
      have yN := S4.nt.cell
      go_simp
      refine hK.out _ _ hS (fun hS' => ?_)
      clear yN
      clear hK K hS
      have hS := hS'
      clear hS'
      try simp only [Act.put, List.getElem_toArray, List.getElem_cons_zero, List.getElem_cons_succ, List.setIfInBounds_toArray, List.set_cons_zero, List.set_cons_succ]
      refine wpAnyH_ready (rs := [7]) (by kernel_rfl) (by simp) ?_
      refine AllReadyH.cons rfl (fun K hK => ?_) AllReadyH.nil
      rw [if_pos (by rfl)]
      go_simp
      refine (HN.out gr (15 + 6 * k + 1 + 1) 4 (15 + 6 * (k + 1)) su 4 (by decide) (by omega) rfl (by omega) HSU.out _ (HB.out.below S4.b) S4.r).mono ?_
      rintro e v4 ⟨rfl, W4, b, rfl⟩
      have S5 := S4.step l1 (by omega) (by omega) b (15 + 6 * (k + 1))
      have O5 := OwnR.set (O4.next b) (show gr < gr + 1 + 1 + 1 by omega) 1 (.int .i64 ((15 + 6 * (k + 1) : Nat) : Int))
      have X5 := nbox_else (X4.next b) (show gx ≠ gr by omega) 1 (.int .i64 ((15 + 6 * (k + 1) : Nat) : Int))
      have K5 := K4.trans ((keeps_below b).trans (KeepsOthers.setCell W4 ⟨gr, 1, none⟩ (.int .i64 ((15 + 6 * (k + 1) : Nat) : Int))))
      clear S4 O4 X4 K4 b
      have S4 := S5
      have O4 := O5
      have X4 := X5
      have K4 := K5
      clear S5 O5 X5 K5
      generalize W4.setCell ⟨gr, 1, none⟩ (.int .i64 ((15 + 6 * (k + 1) : Nat) : Int)) = V4 at *
      refine hK.out _ _ ⟨S4.f, S4.f.cell⟩ (fun hS' => ?_)
      clear hK K hS
      have hS := hS'
      clear hS'
      try simp only [Act.put, List.getElem_toArray, List.getElem_cons_zero, List.getElem_cons_succ, List.setIfInBounds_toArray, List.set_cons_zero, List.set_cons_succ]
      refine wpAnyH_take (i := 8) (oi := _) (v := ?_) rfl (by kernel_rfl) (by kernel_rfl) (by kernel_rfl) (fun _ _ _ h => h) (Or.inl ⟨by rfl, ?_⟩) hS ?_
      rotate_left
      · (intro w hSw; (try dsimp only at hSw); go_simp; (try with_reducible rfl))
      rotate_left
      simp only [Act.put, List.getElem_toArray, List.getElem_cons_zero, List.getElem_cons_succ, List.setIfInBounds_toArray, List.set_cons_zero, List.set_cons_succ]
      refine wpAnyH_take (i := 9) (oi := _) (v := ?_) rfl (by kernel_rfl) (by kernel_rfl) (by kernel_rfl) (fun _ _ _ h => h) (Or.inl ⟨by rfl, ?_⟩) hS ?_
      rotate_left
      · (intro w hSw; (try dsimp only at hSw); go_simp; (try with_reducible rfl))
      rotate_left
      simp only [Act.put, List.getElem_toArray, List.getElem_cons_zero, List.getElem_cons_succ, List.setIfInBounds_toArray, List.set_cons_zero, List.set_cons_succ]
      rw [← HBA.out]
      refine wpAnyH_ready (rs := [10]) (by kernel_rfl) (by simp) ?_
      refine AllReadyH.cons rfl (fun K hK => ?_) AllReadyH.nil
      rw [if_pos (by rfl)]
      go_simp
      obtain ⟨a10, ha10⟩ : ∃ z : Nat, z = V4.heap.size := ⟨_, rfl⟩
      have N10 := Rs.new (w := V4) a10 ha10 #[.int .u8 (sl : Int), .bool ba, .int .u32 (su : Int)] 27 1 [⟨sl, ba, su⟩] rfl rfl
      have b10 := Ext.alloc (Below.refl V4.heap.size V4) (.cells #[.int .u8 (sl : Int), .bool ba, .int .u32 (su : Int)] 27)
      have S5 := S4.ext b10
      have O5 := O4.next b10
      have X5 := X4.next b10
      have K5 := K4.trans (keeps_below b10)
      refine hK.out _ _ ⟨S5.f, S5.f.cell⟩ (fun hS' => ?_)
      rw [← ha10]
      clear hK K hS S4 O4 X4 K4 b10 ha10
      have S4 := S5
      have O4 := O5
      have X4 := X5
      have K4 := K5
      clear S5 O5 X5 K5
      have hS := hS'
      clear hS'
      try simp only [Act.put, List.getElem_toArray, List.getElem_cons_zero, List.getElem_cons_succ, List.setIfInBounds_toArray, List.set_cons_zero, List.set_cons_succ]
      generalize V4.alloc (.cells #[.int .u8 (sl : Int), .bool ba, .int .u32 (su : Int)] 27) = V5 at *
      refine wpAnyH_ready (rs := [11]) (by kernel_rfl) (by simp) ?_
      refine AllReadyH.cons rfl (fun K hK => ?_) AllReadyH.nil
      rw [if_pos (by rfl)]
      obtain ⟨i0, hi, hz0, hz1, hz2⟩ := ninfo_rec
      have hbz : gr + 1 + 1 + 1 ≤ V5.heap.size := S4.nt.lt
      refine wp_append_rd V5 (.tmp 51) (.tmp 60) 23 rfl (gr + 1 + 1 + 1) 27 i0 _ 3 8 Try.underlying23 hi hz0 hz1 hz2 rfl (by decide) v k _ rfl O4 (some ⟨a10, 0, none⟩) 1 1 (recsV [⟨sl, ba, su⟩]) rfl rfl N10.2 (recs_one _) (by unfold maxLen; omega) (by omega) hbz ?_
      intro v6 V6 O7 hg7 _
      have hrow : ∀ r, v.ownBlock = some r → gr + 1 + 1 < r := fun r e => own_block O4 e
      have S7 := S4.rowed l1 (by omega) (by omega) hg7 hrow
      have X7' := X4.grown hg7 (O4.apart X4)
      have K7 := K4.trans (KeepsOthers.of_grownBy hg7 (fun j o e ho => by
        rcases O4.2 with ⟨rfl, _⟩ | ⟨g', cap, cur, rfl, _, hg', _⟩
        · cases e
        · simp [Value.ownBlock] at e
          subst e
          rw [hg'] at ho
          cases ho
          rfl))
      have O8 : OwnR V6 (gr + 1 + 1 + 1) v6 (k + 1) (rdRs (wholeL bs) (k + 1)) := by
        rw [rdRs_succ, HRE.out]
        unfold OwnR recsV
        rw [List.flatMap_append]
        exact O7
      refine hK.out _ _ ⟨S7.f, S7.f.cell⟩ (fun hS' => ?_)
      clear hK K hS S4 O4 X4 K4 hg7 hrow O7 N10 hbz
      have hS := hS'
      clear hS'
      obtain ⟨A6, c6, rfl, _⟩ := O8.rs (rdRs_len _ _)
      try simp only [Act.put, List.getElem_toArray, List.getElem_cons_zero, List.getElem_cons_succ, List.setIfInBounds_toArray, List.set_cons_zero, List.set_cons_succ]
      refine wpAnyH_take (i := 12) (oi := _) (v := ?_) rfl (by kernel_rfl) (by kernel_rfl) (by kernel_rfl) (fun _ _ _ h => h) (Or.inl ⟨by rfl, ?_⟩) hS ?_
      rotate_left
      · (intro w hSw; (try dsimp only at hSw); go_simp; (try with_reducible rfl))
      rotate_left
      simp only [Act.put, List.getElem_toArray, List.getElem_cons_zero, List.getElem_cons_succ, List.setIfInBounds_toArray, List.set_cons_zero, List.set_cons_succ]
      refine wpAnyH_ready (rs := [13]) (by kernel_rfl) (by simp) ?_
      refine AllReadyH.cons rfl (fun K hK => ?_) AllReadyH.nil
      rw [if_pos (by rfl)]
      have fN := S7.nt.free
      have yN := S7.nt.cell
      go_simp
      clear fN yN
      have S8 : RdSt w _ gr (gr + 1) (gr + 1 + 1) A n q _ #[.int .u32 (id : Int), .int .u32 (age : Int), .int .u32 (sq : Int), .int .i64 (st : Int), .slice A6 (k + 1) c6] := S7.put l1 (by omega) (by omega) 4 (.slice A6 (k + 1) c6)
      have O9 := OwnR.set O8 (show gr + 1 + 1 < gr + 1 + 1 + 1 by omega) 4 (.slice A6 (k + 1) c6)
      have X8 := nbox_else X7' (show gx ≠ gr + 1 + 1 by omega) 4 (.slice A6 (k + 1) c6)
      have K8 := K7.trans (KeepsOthers.setCell V6 ⟨gr + 1 + 1, 4, none⟩ (.slice A6 (k + 1) c6))
      have hdoneB : KeepsOthers W (V6.setCell ⟨gr + 1 + 1, 4, none⟩ (.slice A6 (k + 1) c6)) ∧ KeepC gx W (V6.setCell ⟨gr + 1 + 1, 4, none⟩ (.slice A6 (k + 1) c6)) ∧ (∃ v, RdSt w (V6.setCell ⟨gr + 1 + 1, 4, none⟩ (.slice A6 (k + 1) c6)) gr (gr + 1) (gr + 1 + 1) A n q (15 + 6 * (pre ++ [x]).length) #[.int .u32 (id : Int), .int .u32 (age : Int), .int .u32 (sq : Int), .int .i64 (st : Int), v] ∧ OwnR (V6.setCell ⟨gr + 1 + 1, 4, none⟩ (.slice A6 (k + 1) c6)) (gr + 1 + 1 + 1) v (pre ++ [x]).length (rdRs (wholeL bs) (pre ++ [x]).length)) ∧ BoxOf (V6.setCell ⟨gr + 1 + 1, 4, none⟩ (.slice A6 (k + 1) c6)) gx #[.int .i64 (m : Int)] 3 := by
        rw [HPL.out]
        refine ⟨K8, fun u hu => ?_, ⟨_, S8, O9⟩, X8⟩
        rw [X8.cell 0, ← hX.cell 0]
        exact hu
      refine hK.out _ _ ⟨S8.f, S8.f.cell⟩ (fun hS' => ?_)
      clear hK K hS hS'
      try simp only [Act.put, List.getElem_toArray, List.getElem_cons_zero, List.getElem_cons_succ, List.setIfInBounds_toArray, List.set_cons_zero, List.set_cons_succ]
      exact wpAnyH_done (by kernel_rfl) hdoneB _
    · rw [if_pos (by rfl)]
      go_simp
      refine (HN.out gr (15 + 6 * k + 1 + 1) 4 (15 + 6 * (k + 1)) su 4 (by decide) (by omega) rfl (by omega) HSU.out _ (HB.out.below S4.b) S4.r).mono ?_
      rintro e v4 ⟨rfl, W4, b, rfl⟩
      have S5 := S4.step l1 (by omega) (by omega) b (15 + 6 * (k + 1))
      have O5 := OwnR.set (O4.next b) (show gr < gr + 1 + 1 + 1 by omega) 1 (.int .i64 ((15 + 6 * (k + 1) : Nat) : Int))
      have X5 := nbox_else (X4.next b) (show gx ≠ gr by omega) 1 (.int .i64 ((15 + 6 * (k + 1) : Nat) : Int))
      have K5 := K4.trans ((keeps_below b).trans (KeepsOthers.setCell W4 ⟨gr, 1, none⟩ (.int .i64 ((15 + 6 * (k + 1) : Nat) : Int))))
      clear S4 O4 X4 K4 b
      have S4 := S5
      have O4 := O5
      have X4 := X5
      have K4 := K5
      clear S5 O5 X5 K5
      generalize W4.setCell ⟨gr, 1, none⟩ (.int .i64 ((15 + 6 * (k + 1) : Nat) : Int)) = V4 at *
      refine hK.out _ _ ⟨S4.f, S4.f.cell⟩ (fun hS' => ?_)
      clear hK K hS
      have hS := hS'
      clear hS'
      try simp only [Act.put, List.getElem_toArray, List.getElem_cons_zero, List.getElem_cons_succ, List.setIfInBounds_toArray, List.set_cons_zero, List.set_cons_succ]
      refine wpAnyH_take (i := 8) (oi := _) (v := ?_) rfl (by kernel_rfl) (by kernel_rfl) (by kernel_rfl) (fun _ _ _ h => h) (Or.inl ⟨by rfl, ?_⟩) hS ?_
      rotate_left
      · (intro w hSw; (try dsimp only at hSw); go_simp; (try with_reducible rfl))
      rotate_left
      simp only [Act.put, List.getElem_toArray, List.getElem_cons_zero, List.getElem_cons_succ, List.setIfInBounds_toArray, List.set_cons_zero, List.set_cons_succ]
      refine wpAnyH_take (i := 9) (oi := _) (v := ?_) rfl (by kernel_rfl) (by kernel_rfl) (by kernel_rfl) (fun _ _ _ h => h) (Or.inl ⟨by rfl, ?_⟩) hS ?_
      rotate_left
      · (intro w hSw; (try dsimp only at hSw); go_simp; (try with_reducible rfl))
      rotate_left
      simp only [Act.put, List.getElem_toArray, List.getElem_cons_zero, List.getElem_cons_succ, List.setIfInBounds_toArray, List.set_cons_zero, List.set_cons_succ]
      rw [← HBA.out]
      refine wpAnyH_ready (rs := [1, 10]) (by kernel_rfl) (by simp) ?_
      refine AllReadyH.cons rfl (fun K hK => ?_) (AllReadyH.cons rfl (fun K hK => ?_) AllReadyH.nil)
      · rw [if_pos (by rfl)]
        have yN := S4.nt.cell
        go_simp
        refine hK.out _ _ hS (fun hS' => ?_)
        clear yN
        clear hK K hS
        have hS := hS'
        clear hS'
        try simp only [Act.put, List.getElem_toArray, List.getElem_cons_zero, List.getElem_cons_succ, List.setIfInBounds_toArray, List.set_cons_zero, List.set_cons_succ]
        refine wpAnyH_ready (rs := [10]) (by kernel_rfl) (by simp) ?_
        refine AllReadyH.cons rfl (fun K hK => ?_) AllReadyH.nil
        rw [if_pos (by rfl)]
        go_simp
        obtain ⟨a10, ha10⟩ : ∃ z : Nat, z = V4.heap.size := ⟨_, rfl⟩
        have N10 := Rs.new (w := V4) a10 ha10 #[.int .u8 (sl : Int), .bool ba, .int .u32 (su : Int)] 27 1 [⟨sl, ba, su⟩] rfl rfl
        have b10 := Ext.alloc (Below.refl V4.heap.size V4) (.cells #[.int .u8 (sl : Int), .bool ba, .int .u32 (su : Int)] 27)
        have S5 := S4.ext b10
        have O5 := O4.next b10
        have X5 := X4.next b10
        have K5 := K4.trans (keeps_below b10)
        refine hK.out _ _ ⟨S5.f, S5.f.cell⟩ (fun hS' => ?_)
        rw [← ha10]
        clear hK K hS S4 O4 X4 K4 b10 ha10
        have S4 := S5
        have O4 := O5
        have X4 := X5
        have K4 := K5
        clear S5 O5 X5 K5
        have hS := hS'
        clear hS'
        try simp only [Act.put, List.getElem_toArray, List.getElem_cons_zero, List.getElem_cons_succ, List.setIfInBounds_toArray, List.set_cons_zero, List.set_cons_succ]
        generalize V4.alloc (.cells #[.int .u8 (sl : Int), .bool ba, .int .u32 (su : Int)] 27) = V5 at *
        refine wpAnyH_ready (rs := [11]) (by kernel_rfl) (by simp) ?_
        refine AllReadyH.cons rfl (fun K hK => ?_) AllReadyH.nil
        rw [if_pos (by rfl)]
        obtain ⟨i0, hi, hz0, hz1, hz2⟩ := ninfo_rec
        have hbz : gr + 1 + 1 + 1 ≤ V5.heap.size := S4.nt.lt
        refine wp_append_rd V5 (.tmp 51) (.tmp 60) 23 rfl (gr + 1 + 1 + 1) 27 i0 _ 3 8 Try.underlying23 hi hz0 hz1 hz2 rfl (by decide) v k _ rfl O4 (some ⟨a10, 0, none⟩) 1 1 (recsV [⟨sl, ba, su⟩]) rfl rfl N10.2 (recs_one _) (by unfold maxLen; omega) (by omega) hbz ?_
        intro v6 V6 O7 hg7 _
        have hrow : ∀ r, v.ownBlock = some r → gr + 1 + 1 < r := fun r e => own_block O4 e
        have S7 := S4.rowed l1 (by omega) (by omega) hg7 hrow
        have X7' := X4.grown hg7 (O4.apart X4)
        have K7 := K4.trans (KeepsOthers.of_grownBy hg7 (fun j o e ho => by
          rcases O4.2 with ⟨rfl, _⟩ | ⟨g', cap, cur, rfl, _, hg', _⟩
          · cases e
          · simp [Value.ownBlock] at e
            subst e
            rw [hg'] at ho
            cases ho
            rfl))
        have O8 : OwnR V6 (gr + 1 + 1 + 1) v6 (k + 1) (rdRs (wholeL bs) (k + 1)) := by
          rw [rdRs_succ, HRE.out]
          unfold OwnR recsV
          rw [List.flatMap_append]
          exact O7
        refine hK.out _ _ ⟨S7.f, S7.f.cell⟩ (fun hS' => ?_)
        clear hK K hS S4 O4 X4 K4 hg7 hrow O7 N10 hbz
        have hS := hS'
        clear hS'
        obtain ⟨A6, c6, rfl, _⟩ := O8.rs (rdRs_len _ _)
        try simp only [Act.put, List.getElem_toArray, List.getElem_cons_zero, List.getElem_cons_succ, List.setIfInBounds_toArray, List.set_cons_zero, List.set_cons_succ]
        refine wpAnyH_take (i := 12) (oi := _) (v := ?_) rfl (by kernel_rfl) (by kernel_rfl) (by kernel_rfl) (fun _ _ _ h => h) (Or.inl ⟨by rfl, ?_⟩) hS ?_
        rotate_left
        · (intro w hSw; (try dsimp only at hSw); go_simp; (try with_reducible rfl))
        rotate_left
        simp only [Act.put, List.getElem_toArray, List.getElem_cons_zero, List.getElem_cons_succ, List.setIfInBounds_toArray, List.set_cons_zero, List.set_cons_succ]
        refine wpAnyH_ready (rs := [13]) (by kernel_rfl) (by simp) ?_
        refine AllReadyH.cons rfl (fun K hK => ?_) AllReadyH.nil
        rw [if_pos (by rfl)]
        have fN := S7.nt.free
        have yN := S7.nt.cell
        go_simp
        clear fN yN
        have S8 : RdSt w _ gr (gr + 1) (gr + 1 + 1) A n q _ #[.int .u32 (id : Int), .int .u32 (age : Int), .int .u32 (sq : Int), .int .i64 (st : Int), .slice A6 (k + 1) c6] := S7.put l1 (by omega) (by omega) 4 (.slice A6 (k + 1) c6)
        have O9 := OwnR.set O8 (show gr + 1 + 1 < gr + 1 + 1 + 1 by omega) 4 (.slice A6 (k + 1) c6)
        have X8 := nbox_else X7' (show gx ≠ gr + 1 + 1 by omega) 4 (.slice A6 (k + 1) c6)
        have K8 := K7.trans (KeepsOthers.setCell V6 ⟨gr + 1 + 1, 4, none⟩ (.slice A6 (k + 1) c6))
        have hdoneB : KeepsOthers W (V6.setCell ⟨gr + 1 + 1, 4, none⟩ (.slice A6 (k + 1) c6)) ∧ KeepC gx W (V6.setCell ⟨gr + 1 + 1, 4, none⟩ (.slice A6 (k + 1) c6)) ∧ (∃ v, RdSt w (V6.setCell ⟨gr + 1 + 1, 4, none⟩ (.slice A6 (k + 1) c6)) gr (gr + 1) (gr + 1 + 1) A n q (15 + 6 * (pre ++ [x]).length) #[.int .u32 (id : Int), .int .u32 (age : Int), .int .u32 (sq : Int), .int .i64 (st : Int), v] ∧ OwnR (V6.setCell ⟨gr + 1 + 1, 4, none⟩ (.slice A6 (k + 1) c6)) (gr + 1 + 1 + 1) v (pre ++ [x]).length (rdRs (wholeL bs) (pre ++ [x]).length)) ∧ BoxOf (V6.setCell ⟨gr + 1 + 1, 4, none⟩ (.slice A6 (k + 1) c6)) gx #[.int .i64 (m : Int)] 3 := by
          rw [HPL.out]
          refine ⟨K8, fun u hu => ?_, ⟨_, S8, O9⟩, X8⟩
          rw [X8.cell 0, ← hX.cell 0]
          exact hu
        refine hK.out _ _ ⟨S8.f, S8.f.cell⟩ (fun hS' => ?_)
        clear hK K hS hS'
        try simp only [Act.put, List.getElem_toArray, List.getElem_cons_zero, List.getElem_cons_succ, List.setIfInBounds_toArray, List.set_cons_zero, List.set_cons_succ]
        exact wpAnyH_done (by kernel_rfl) hdoneB _
      · rw [if_pos (by rfl)]
        go_simp
        obtain ⟨a10, ha10⟩ : ∃ z : Nat, z = V4.heap.size := ⟨_, rfl⟩
        have N10 := Rs.new (w := V4) a10 ha10 #[.int .u8 (sl : Int), .bool ba, .int .u32 (su : Int)] 27 1 [⟨sl, ba, su⟩] rfl rfl
        have b10 := Ext.alloc (Below.refl V4.heap.size V4) (.cells #[.int .u8 (sl : Int), .bool ba, .int .u32 (su : Int)] 27)
        have S5 := S4.ext b10
        have O5 := O4.next b10
        have X5 := X4.next b10
        have K5 := K4.trans (keeps_below b10)
        refine hK.out _ _ ⟨S5.f, S5.f.cell⟩ (fun hS' => ?_)
        rw [← ha10]
        clear hK K hS S4 O4 X4 K4 b10 ha10
        have S4 := S5
        have O4 := O5
        have X4 := X5
        have K4 := K5
        clear S5 O5 X5 K5
        have hS := hS'
        clear hS'
        try simp only [Act.put, List.getElem_toArray, List.getElem_cons_zero, List.getElem_cons_succ, List.setIfInBounds_toArray, List.set_cons_zero, List.set_cons_succ]
        generalize V4.alloc (.cells #[.int .u8 (sl : Int), .bool ba, .int .u32 (su : Int)] 27) = V5 at *
        refine wpAnyH_ready (rs := [1]) (by kernel_rfl) (by simp) ?_
        refine AllReadyH.cons rfl (fun K hK => ?_) AllReadyH.nil
        rw [if_pos (by rfl)]
        have yN := S4.nt.cell
        go_simp
        refine hK.out _ _ hS (fun hS' => ?_)
        clear yN
        clear hK K hS
        have hS := hS'
        clear hS'
        try simp only [Act.put, List.getElem_toArray, List.getElem_cons_zero, List.getElem_cons_succ, List.setIfInBounds_toArray, List.set_cons_zero, List.set_cons_succ]
        refine wpAnyH_ready (rs := [11]) (by kernel_rfl) (by simp) ?_
        refine AllReadyH.cons rfl (fun K hK => ?_) AllReadyH.nil
        rw [if_pos (by rfl)]
        obtain ⟨i0, hi, hz0, hz1, hz2⟩ := ninfo_rec
        have hbz : gr + 1 + 1 + 1 ≤ V5.heap.size := S4.nt.lt
        refine wp_append_rd V5 (.tmp 51) (.tmp 60) 23 rfl (gr + 1 + 1 + 1) 27 i0 _ 3 8 Try.underlying23 hi hz0 hz1 hz2 rfl (by decide) v k _ rfl O4 (some ⟨a10, 0, none⟩) 1 1 (recsV [⟨sl, ba, su⟩]) rfl rfl N10.2 (recs_one _) (by unfold maxLen; omega) (by omega) hbz ?_
        intro v6 V6 O7 hg7 _
        have hrow : ∀ r, v.ownBlock = some r → gr + 1 + 1 < r := fun r e => own_block O4 e
        have S7 := S4.rowed l1 (by omega) (by omega) hg7 hrow
        have X7' := X4.grown hg7 (O4.apart X4)
        have K7 := K4.trans (KeepsOthers.of_grownBy hg7 (fun j o e ho => by
          rcases O4.2 with ⟨rfl, _⟩ | ⟨g', cap, cur, rfl, _, hg', _⟩
          · cases e
          · simp [Value.ownBlock] at e
            subst e
            rw [hg'] at ho
            cases ho
            rfl))
        have O8 : OwnR V6 (gr + 1 + 1 + 1) v6 (k + 1) (rdRs (wholeL bs) (k + 1)) := by
          rw [rdRs_succ, HRE.out]
          unfold OwnR recsV
          rw [List.flatMap_append]
          exact O7
        refine hK.out _ _ ⟨S7.f, S7.f.cell⟩ (fun hS' => ?_)
        clear hK K hS S4 O4 X4 K4 hg7 hrow O7 N10 hbz
        have hS := hS'
        clear hS'
        obtain ⟨A6, c6, rfl, _⟩ := O8.rs (rdRs_len _ _)
        try simp only [Act.put, List.getElem_toArray, List.getElem_cons_zero, List.getElem_cons_succ, List.setIfInBounds_toArray, List.set_cons_zero, List.set_cons_succ]
        refine wpAnyH_take (i := 12) (oi := _) (v := ?_) rfl (by kernel_rfl) (by kernel_rfl) (by kernel_rfl) (fun _ _ _ h => h) (Or.inl ⟨by rfl, ?_⟩) hS ?_
        rotate_left
        · (intro w hSw; (try dsimp only at hSw); go_simp; (try with_reducible rfl))
        rotate_left
        simp only [Act.put, List.getElem_toArray, List.getElem_cons_zero, List.getElem_cons_succ, List.setIfInBounds_toArray, List.set_cons_zero, List.set_cons_succ]
        refine wpAnyH_ready (rs := [13]) (by kernel_rfl) (by simp) ?_
        refine AllReadyH.cons rfl (fun K hK => ?_) AllReadyH.nil
        rw [if_pos (by rfl)]
        have fN := S7.nt.free
        have yN := S7.nt.cell
        go_simp
        clear fN yN
        have S8 : RdSt w _ gr (gr + 1) (gr + 1 + 1) A n q _ #[.int .u32 (id : Int), .int .u32 (age : Int), .int .u32 (sq : Int), .int .i64 (st : Int), .slice A6 (k + 1) c6] := S7.put l1 (by omega) (by omega) 4 (.slice A6 (k + 1) c6)
        have O9 := OwnR.set O8 (show gr + 1 + 1 < gr + 1 + 1 + 1 by omega) 4 (.slice A6 (k + 1) c6)
        have X8 := nbox_else X7' (show gx ≠ gr + 1 + 1 by omega) 4 (.slice A6 (k + 1) c6)
        have K8 := K7.trans (KeepsOthers.setCell V6 ⟨gr + 1 + 1, 4, none⟩ (.slice A6 (k + 1) c6))
        have hdoneB : KeepsOthers W (V6.setCell ⟨gr + 1 + 1, 4, none⟩ (.slice A6 (k + 1) c6)) ∧ KeepC gx W (V6.setCell ⟨gr + 1 + 1, 4, none⟩ (.slice A6 (k + 1) c6)) ∧ (∃ v, RdSt w (V6.setCell ⟨gr + 1 + 1, 4, none⟩ (.slice A6 (k + 1) c6)) gr (gr + 1) (gr + 1 + 1) A n q (15 + 6 * (pre ++ [x]).length) #[.int .u32 (id : Int), .int .u32 (age : Int), .int .u32 (sq : Int), .int .i64 (st : Int), v] ∧ OwnR (V6.setCell ⟨gr + 1 + 1, 4, none⟩ (.slice A6 (k + 1) c6)) (gr + 1 + 1 + 1) v (pre ++ [x]).length (rdRs (wholeL bs) (pre ++ [x]).length)) ∧ BoxOf (V6.setCell ⟨gr + 1 + 1, 4, none⟩ (.slice A6 (k + 1) c6)) gx #[.int .i64 (m : Int)] 3 := by
          rw [HPL.out]
          refine ⟨K8, fun u hu => ?_, ⟨_, S8, O9⟩, X8⟩
          rw [X8.cell 0, ← hX.cell 0]
          exact hu
        refine hK.out _ _ ⟨S8.f, S8.f.cell⟩ (fun hS' => ?_)
        clear hK K hS hS'
        try simp only [Act.put, List.getElem_toArray, List.getElem_cons_zero, List.getElem_cons_succ, List.setIfInBounds_toArray, List.set_cons_zero, List.set_cons_succ]
        exact wpAnyH_done (by kernel_rfl) hdoneB _
  case done =>
    rintro D xs W hD rfl ⟨⟨v, S1, O⟩, hX⟩ hDW
    clear S
    have hml : (List.finRange m).length = m := by simp
    rw [hml] at S1 O
    rw [← G7.out] at O
    have hrl : rs.length = m := by rw [G7.out, rdRs_len]
    have HRL := Lib.hid hrl
    clear hrl
    obtain ⟨A', c', rfl, R⟩ := O.rs HRL.out
    have N2 := S1.nt
    have xN := N2.cell
    have Z2 := S1.z
    have t2 := S1.b
    clear S1 hX hml
    gi_wp2_with fail
    refine ⟨trivial, (callsIn_wide.2 (HW.out A' c' _ R)).mono ?_⟩
    rintro e w3 ⟨P, k, c, rfl, p3, b3⟩
    have hDlt : D < W.heap.size := (Array.getElem?_eq_some_iff.1 hDW).1
    have hD3 : w3.heap[D]? = some (.deferred (some [])) := by rw [b3.block D hDlt]; exact hDW
    have HD3 := Lib.hid hD3
    have N3 := N2.next b3
    have Z3 := Z2.next b3
    have t3 := Ext.trans t2 b3
    have O3 := O.next b3
    clear O R
    have s1 := run_string_bs (P := Try.prog) c 32 9 5 Try.underlying32 Try.underlying5 Try.underlying9 p3
    have s2 := run_string_bs (P := Try.prog) q 32 9 5 Try.underlying32 Try.underlying5 Try.underlying9 (HB.out.below t3)
    have z3 := Z3.cell
    have f3 := Z3.free
    have y3 := N3.cell
    clear N2 Z2 t2 b3 xN hD3 hDW p3
    rcases HBAD.out with ⟨rfl, h | ⟨rfl, hne⟩⟩ | ⟨rfl, rfl, rfl⟩
    · clear HBAD
      gi_wp2_with fail
      have hne : D ≠ w.heap.size := by have := lV7; omega
      have hD5 := nheap5 HD3.out hne (.int .u32 0) (.int .u32 0) (.int .u32 0) (.int .i64 0) (.slice none 0 0)
      have B5 : BoxOf _ w.heap.size #[.int .u32 0, .int .u32 0, .int .u32 0, .int .i64 0, .slice none 0 0] 25 := nbox5 Z3 (.int .u32 0) (.int .u32 0) (.int .u32 0) (.int .i64 0) (.slice none 0 0)
      have T5 := nbelow5 t3 (show w.heap.size ≤ w.heap.size by omega) (.int .u32 0) (.int .u32 0) (.int .u32 0) (.int .i64 0) (.slice none 0 0)
      have O5 := nown5 O3 (show w.heap.size < gr + 1 + 1 + 1 by omega) (.int .u32 0) (.int .u32 0) (.int .u32 0) (.int .i64 0) (.slice none 0 0)
      clear Z3 t3 O3 z3 f3 y3 N3 s1 s2
      refine ⟨by simp, .inl ⟨_, _, rfl, run_takeDeferred hD5, ?_⟩⟩
      have B6 := nbox_put B5 hne.symm (.deferred none)
      have O6 := OwnR.grown (B := D) O5 (grownBy_putObj' _ D (.deferred none)) (fun r e => by cases e; exact ⟨Nat.le_refl _, _, hD5, rfl⟩)
      have T6 := T5.grown (grownBy_putObj' _ D (.deferred none)) T5.size (fun k e => by cases e; omega)
      refine ⟨_, Eq.trans (results_row2 (P := Try.prog) (fn := Try.f13) (p := 2) (u := 3) (ty := 25) rfl _ _ w.heap.size 25 #[.int .u32 0, .int .u32 0, .int .u32 0, .int .i64 0, .slice none 0 0] (0, 0) _ rfl B6 Try.underlying25 rfl (by kernel_rfl)) rfl, ?_⟩
      exact ⟨rfl, T6⟩
    · have hs : (!ws == bs) = true := by simpa using hne
      clear HBAD
      gi_wp2_with fail
      have hne : D ≠ w.heap.size := by have := lV7; omega
      have hD5 := nheap5 HD3.out hne (.int .u32 0) (.int .u32 0) (.int .u32 0) (.int .i64 0) (.slice none 0 0)
      have B5 : BoxOf _ w.heap.size #[.int .u32 0, .int .u32 0, .int .u32 0, .int .i64 0, .slice none 0 0] 25 := nbox5 Z3 (.int .u32 0) (.int .u32 0) (.int .u32 0) (.int .i64 0) (.slice none 0 0)
      have T5 := nbelow5 t3 (show w.heap.size ≤ w.heap.size by omega) (.int .u32 0) (.int .u32 0) (.int .u32 0) (.int .i64 0) (.slice none 0 0)
      have O5 := nown5 O3 (show w.heap.size < gr + 1 + 1 + 1 by omega) (.int .u32 0) (.int .u32 0) (.int .u32 0) (.int .i64 0) (.slice none 0 0)
      clear Z3 t3 O3 z3 f3 y3 N3 s1 s2
      refine ⟨by simp, .inl ⟨_, _, rfl, run_takeDeferred hD5, ?_⟩⟩
      have B6 := nbox_put B5 hne.symm (.deferred none)
      have O6 := OwnR.grown (B := D) O5 (grownBy_putObj' _ D (.deferred none)) (fun r e => by cases e; exact ⟨Nat.le_refl _, _, hD5, rfl⟩)
      have T6 := T5.grown (grownBy_putObj' _ D (.deferred none)) T5.size (fun k e => by cases e; omega)
      refine ⟨_, Eq.trans (results_row2 (P := Try.prog) (fn := Try.f13) (p := 2) (u := 3) (ty := 25) rfl _ _ w.heap.size 25 #[.int .u32 0, .int .u32 0, .int .u32 0, .int .i64 0, .slice none 0 0] (0, 0) _ rfl B6 Try.underlying25 rfl (by kernel_rfl)) rfl, ?_⟩
      exact ⟨rfl, T6⟩
    · clear HBAD
      gi_wp2_with fail
      have hne : D ≠ w.heap.size := by have := lV7; omega
      have hD5 := nheap5 HD3.out hne (.int .u32 (id : Int)) (.int .u32 (age : Int)) (.int .u32 (sq : Int)) (.int .i64 (st : Int)) (.slice A' m c')
      have B5 : BoxOf _ w.heap.size #[.int .u32 (id : Int), .int .u32 (age : Int), .int .u32 (sq : Int), .int .i64 (st : Int), .slice A' m c'] 25 := nbox5 Z3 (.int .u32 (id : Int)) (.int .u32 (age : Int)) (.int .u32 (sq : Int)) (.int .i64 (st : Int)) (.slice A' m c')
      have T5 := nbelow5 t3 (show w.heap.size ≤ w.heap.size by omega) (.int .u32 (id : Int)) (.int .u32 (age : Int)) (.int .u32 (sq : Int)) (.int .i64 (st : Int)) (.slice A' m c')
      have O5 := nown5 O3 (show w.heap.size < gr + 1 + 1 + 1 by omega) (.int .u32 (id : Int)) (.int .u32 (age : Int)) (.int .u32 (sq : Int)) (.int .i64 (st : Int)) (.slice A' m c')
      clear Z3 t3 O3 z3 f3 y3 N3 s1 s2
      refine ⟨by simp, .inl ⟨_, _, rfl, run_takeDeferred hD5, ?_⟩⟩
      have B6 := nbox_put B5 hne.symm (.deferred none)
      have O6 := OwnR.grown (B := D) O5 (grownBy_putObj' _ D (.deferred none)) (fun r e => by cases e; exact ⟨Nat.le_refl _, _, hD5, rfl⟩)
      have T6 := T5.grown (grownBy_putObj' _ D (.deferred none)) T5.size (fun k e => by cases e; omega)
      refine ⟨_, Eq.trans (results_row2 (P := Try.prog) (fn := Try.f13) (p := 2) (u := 3) (ty := 25) rfl _ _ w.heap.size 25 #[.int .u32 (id : Int), .int .u32 (age : Int), .int .u32 (sq : Int), .int .i64 (st : Int), .slice A' m c'] (0, 0) _ rfl B6 Try.underlying25 rfl (by kernel_rfl)) rfl, ?_⟩
      exact ⟨⟨A', ⟨c', rfl⟩, O6.rs' HRL.out⟩, T6⟩

set_option maxRecDepth 100000 in
set_option maxHeartbeats 1000000 in
theorem nread_text (A : Option Addr) (n q : Nat) (h0 : n ≠ 0) (h1 : n ≠ 128) (w : World) :
    Calls Try.prog 13 #[.slice A n q] w fun e w' => e = .returned (.tuple #[.agg #[.int .u32 0, .int .u32 0, .int .u32 0, .int .i64 0, .slice none 0 0], .int .i64 3]) ∧ Below w.heap.size w w' := by
  have HT := Lib.hid (fun p k => take_text A n q p k h0 h1)
  clear h0 h1
  go_enter Try.func13, Try.ntmps13
  go_wp2_with fail
  have Z0 := BoxOf.new w #[.int .u32 0, .int .u32 0, .int .u32 0, .int .i64 0, .slice none 0 0] 25
  have t0 := Ext.alloc (Below.refl w.heap.size w) (.cells #[.int .u32 0, .int .u32 0, .int .u32 0, .int .i64 0, .slice none 0 0] 25)
  refine (HT.out _ _ _).mono ?_
  rintro e w1 ⟨rfl, b1⟩
  have Z1 := Z0.next b1
  have t1 := Ext.trans t0 b1
  have z1 := Z1.cell
  have f1 := Z1.free
  clear Z0 t0 b1
  go_wp2
  have B5 : BoxOf _ w.heap.size #[.int .u32 0, .int .u32 0, .int .u32 0, .int .i64 0, .slice none 0 0] 25 := nbox5 Z1 (.int .u32 0) (.int .u32 0) (.int .u32 0) (.int .i64 0) (.slice none 0 0)
  have T5 := nbelow5 t1 (show w.heap.size ≤ w.heap.size by omega) (.int .u32 0) (.int .u32 0) (.int .u32 0) (.int .i64 0) (.slice none 0 0)
  clear Z1 t1 z1 f1
  exact bodyPost_ret (v := .tuple #[.agg #[.int .u32 0, .int .u32 0, .int .u32 0, .int .i64 0, .slice none 0 0], .int .i64 3]) (Eq.trans (results_row2 (P := Try.prog) (fn := Try.f13) (p := 2) (u := 3) (ty := 25) rfl _ _ w.heap.size 25 #[.int .u32 0, .int .u32 0, .int .u32 0, .int .i64 0, .slice none 0 0] (0, 0) _ rfl B5 Try.underlying25 rfl (by kernel_rfl)) rfl) rfl ⟨rfl, T5⟩
end Go.Proofs.Ytggdfecgkhnkkaa
