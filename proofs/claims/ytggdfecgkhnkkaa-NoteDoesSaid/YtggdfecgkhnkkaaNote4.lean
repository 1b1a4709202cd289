/- Layer 11 (note): Write. -/
import Derived.Test.YtggdfecgkhnkkaaNote
import Derived.Test.YtggdfecgkhnkkaaNote3
import Derived.RangeFuncBox
import Derived.Deep.DeepCutAuto
namespace Go.Proofs.Ytggdfecgkhnkkaa
open Go Go.RowKit Go.Shelf
set_option linter.unusedSimpArgs false
set_option linter.unusedVariables false
attribute [local go_sem] Oper.semAt_some

theorem nwrite_bad (id age sq : Nat) (st : Int) (A : Option Addr) (n q : Nat) (rs : List NRec) (hn : n ≤ 1000) (hsl : ∀ r ∈ rs, r.sl < 256) (hb : noteB age sq st rs = false) (w : World) (hr : Rs w A n rs) :
    Calls Try.prog 11 #[.agg #[.int .u32 (id : Int), .int .u32 (age : Int), .int .u32 (sq : Int), .int .i64 st, .slice A n q]] w fun e w' => e = .returned (.tuple #[.slice none 0 0, .int .i64 8]) ∧ Below w.heap.size w w' := by
  have HC := Lib.hid (fun W hW => ncheck_any id age sq st A n q rs hn hsl 8 (by rw [hb]; rfl) W hW)
  have HR := Lib.hid (hr.alloc (.cells #[.int .u32 (id : Int), .int .u32 (age : Int), .int .u32 (sq : Int), .int .i64 st, .slice A n q] 25))
  clear hb hsl hr
  go_enter Try.func11, Try.ntmps11
  go_wp2_with fail
  have t0 := Ext.alloc (Below.refl w.heap.size w) (.cells #[.int .u32 (id : Int), .int .u32 (age : Int), .int .u32 (sq : Int), .int .i64 st, .slice A n q] 25)
  refine (HC.out _ HR.out).mono ?_
  rintro e w1 ⟨rfl, b1⟩
  have t1 := Ext.trans t0 b1
  go_wp2
  go_ret2
  exact ⟨rfl, t1⟩

def bareN (b : Bool) : Nat := if b then 1 else 0
def recAt (rs : List NRec) (x : Fin rs.length) : List NRow := [(rs[x.val].sl, 15 + 6 * x.val, 1), (bareN rs[x.val].ba, 15 + 6 * x.val + 1, 1), (rs[x.val].su, 15 + 6 * x.val + 2, 4)]
def hdRows (id age sq st n : Nat) : List NRow := [(78, 0, 1), (id, 1, 4), (age, 5, 4), (sq, 9, 4), (st, 13, 1), (n, 14, 1)]
def noteRows (id age sq st : Nat) (rs : List NRec) : List NRow := hdRows id age sq st rs.length ++ (List.finRange rs.length).flatMap (recAt rs)

theorem hdRows_put (id age sq st n : Nat) : putAll (putAll (putAll [] (rowsAt 0 1 [78])) (rowsAt 1 4 [id, age, sq])) (rowsAt 13 1 [st, n]) = putsL (hdRows id age sq st n) := by
  simp only [putAll, putsL, hdRows, rowsAt, List.foldl_cons, List.foldl_nil, Nat.reduceAdd]

theorem Is.new {w : World} (g : Nat) (hg : g = w.heap.size) (C : Array Value) (t : TypeId) (k : Nat) (xs : List Nat) (hk : xs.length = k) (hC : C.toList = xs.map fun (x : Nat) => Value.int .i64 (x : Int)) : Is (w.alloc (.cells C t)) (some ⟨g, 0, none⟩) k xs := by
  subst hg
  refine ⟨hk, .inr ⟨w.heap.size, 0, rfl, fun j hj => ?_⟩⟩
  rw [Nat.zero_add, World.cell?_alloc_mark, ← hC]
  simp

def recAt' (rs : List NRec) (n : Nat) (h : rs.length = n) (x : Fin n) : List NRow := recAt rs ⟨x.val, by rw [h]; exact x.isLt⟩
theorem keepC_b {w : World} (B : Nat) (W : World) (l : Nat) (o o' : Obj) (hl : w.heap.size ≤ l) (h : W.heap[l]? = some o) (hc : o.isCells = false) (_ : o.isWalk = false) : KeepC B W (W.putObj l o') := by
  intro v hv
  by_cases e : B = l
  · exfalso
    subst e
    have h1 : W.cell? ⟨B, 0, none⟩ = none := by
      cases o <;> simp_all [World.cell?, Obj.isCells]
    rw [h1] at hv
    cases hv
  · rw [World.cell?_of_block (w := W) (a := ⟨B, 0, none⟩) (World.putObj_heap_other (fun h => e h))]
    exact hv
theorem own_box {B g : Nat} {W W' : World} {row : Option Nat} {cs : Array Value} {t : TypeId} (h : BoxOf W g cs t) (hg : W.grownBy W' row) (hr : ∀ r, row = some r → B ≤ r ∧ ∃ o : Obj, W.heap[r]? = some o ∧ o.isCells = false) : BoxOf W' g cs t := by
  refine h.grown hg fun e => ?_
  obtain ⟨_, o, ho, hc⟩ := hr g e
  have h1 : W.heap[g]? = some (.cells cs t (0, 0)) := h
  rw [h1] at ho
  cases ho
  simp [Obj.isCells] at hc
def UPD (e : Array Value) (t : Array Value) : Array Value := (((t.setIfInBounds 41 (e.getD 0 undef)).setIfInBounds 42 (e.getD 1 undef)).setIfInBounds 6 (e.getD 0 undef)).setIfInBounds 7 (e.getD 1 undef)
theorem places_loop {m gx : Nat} {g : Operand} {ps : Array Tmp} {assign body : Code} {Q : Exit → Act → World → Prop} {a : Act} {w : World} (U : Array Value → Array Value → Array Value) (hg : a.eval g = .func (.func 33) #[] #[.pointer (some ⟨gx, 0, none⟩)])
    {S Sp : List (Fin m) → Prop} (hseq : SeqStopsK Fence.wide (3 - 1) Try.prog 33 #[.pointer (some ⟨gx, 0, none⟩)] (encP (m := m)) (KeepC gx) S Sp m w) (hps : ps.size = 2)
    (I : List (Fin m) → World → Prop) (Ix : Code → List (Fin m) → World → Prop) (hI : OwnFrom w.heap.size I) (hIx : ∀ c, OwnFrom w.heap.size (Ix c)) (h0 : I [] w)
    (hassign : ∀ (l : Nat) (x : Fin m) (W : World) (K : Act → World → Prop), K { tmps := U (encP x) a.tmps, defers := [] } W →
      assign.wpIn (Fence.wide.inRound l) (3 - 1 - 1) Try.prog (Exit.then K (fun _ _ _ => False)) { tmps := (ps.zip (encP x)).foldl (fun t (p, v) => t.setIfInBounds p v) a.tmps, defers := [] } W)
    (hbody : ∀ (l : Nat) (pre : List (Fin m)) (x : Fin m) (W : World), I pre W → pre.length < m → body.wpIn (Fence.wide.inRound l) (3 - 1 - 1) Try.prog (ownPostK (KeepC gx) I Ix (pre ++ [x]) W) { tmps := U (encP x) a.tmps, defers := [] } W)
    (hdone : ∀ (D : Nat) (xs : List (Fin m)) (W : World), w.heap.size ≤ D → S xs → I xs W → W.heap[D]? = some (.deferred (some [])) → Q .normal { a with defers := { target := .collected D, args := #[] } :: a.defers } W)
    (hstop : ∀ (D : Nat) (c : Code) (pre : List (Fin m)) (W : World), w.heap.size ≤ D → Sp pre → Ix c pre W → W.heap[D]? = some (.deferred (some [])) → c.wpIn Fence.wide 3 Try.prog Q { a with defers := { target := .collected D, args := #[] } :: a.defers } W) :
    (Code.rangeFunc g ps assign body).wpIn Fence.wide 3 Try.prog Q a w :=
  wpIn_rangeFunc_ownF rfl (by decide) hg trivial (enters_of Try.func33 (by kernel_rfl) rfl) hseq (fun h k v hv => k v (h v hv)) (keepC_b gx) (Below.refl _ _) (fun x => by rw [hps]; rfl) I Ix hI hIx h0 (fun x => { tmps := U (encP x) a.tmps, defers := [] }) hassign hbody hdone hstop
theorem nput_int (A : Option Addr) (n c : Nat) (bs : List UInt8) (hn : n = 0 ∨ n = 128) (p z : Nat) (P : Option Addr) (k cap : Nat) (xs : List Nat) (pi zi : Int) (h1 : pi = (p : Int)) (h2 : zi = (z : Int)) (hk : 0 < k) (hz : 1 ≤ z ∧ z ≤ 4) (hp : p + z * k ≤ 128) (hx : ∀ x ∈ xs, x < 256 ^ z) (w : World) (hb : Bs w A n bs) (hi : Is w P k xs) :
    Calls Try.prog 21 #[.slice A n c, .int .i64 pi, .int .i64 zi, .slice P k cap] w fun e w' => ∃ g, e = .returned (.slice (some ⟨g, 0, none⟩) 128 128) ∧ w.heap.size ≤ g ∧ Box w' g (putAll bs (rowsAt p z xs)) ∧ Below w.heap.size w w' := by
  subst h1 h2
  exact nput_ok A n c bs hn p z P k cap xs hk hz hp hx w hb hi
theorem nbox_set {w : World} {g : Nat} {a : Value} {t : TypeId} (h : BoxOf w g #[a] t) (v : Value) : BoxOf (w.setCell ⟨g, 0, none⟩ v) g #[v] t := by
  unfold BoxOf at *
  simp [World.setCell, Array.getElem?_modify, h]
theorem nbox_else {w : World} {g k : Nat} {cs : Array Value} {t : TypeId} (h : BoxOf w g cs t) (hk : g ≠ k) (i : Nat) (v : Value) : BoxOf (w.setCell ⟨k, i, none⟩ v) g cs t := by
  unfold BoxOf at *
  rw [Below.heap_setCell _ _ _ _ hk]; exact h

theorem wbody_done {W0 W v : World} {a gb gx g8 : Nat} {ca cx : Array Value} {ta tx tb : TypeId} {c c' : List UInt8} (hA : BoxOf W a ca ta) (hX : BoxOf W gx cx tx) (hbw : Below W0.heap.size W0 W) (hab : a < gb) (hgx : gb < gx) (hBg : W0.heap.size ≤ gb) {old : Value} (BBx : BoxOf v gb #[old] tb) (HBx : Box v g8 c) (lg8 : gb < g8) (t : Below W.heap.size W v) (hc : c = c') :
    KeepsOthers W (v.setCell ⟨gb, 0, none⟩ (.slice (some ⟨g8, 0, none⟩) 128 128)) ∧ KeepC gx W (v.setCell ⟨gb, 0, none⟩ (.slice (some ⟨g8, 0, none⟩) 128 128)) ∧
      (BoxOf (v.setCell ⟨gb, 0, none⟩ (.slice (some ⟨g8, 0, none⟩) 128 128)) a ca ta ∧ BoxOf (v.setCell ⟨gb, 0, none⟩ (.slice (some ⟨g8, 0, none⟩) 128 128)) gx cx tx ∧
        ∃ g, gb < g ∧ BoxOf (v.setCell ⟨gb, 0, none⟩ (.slice (some ⟨g8, 0, none⟩) 128 128)) gb #[.slice (some ⟨g, 0, none⟩) 128 128] tb ∧ Box (v.setCell ⟨gb, 0, none⟩ (.slice (some ⟨g8, 0, none⟩) 128 128)) g c') ∧ Below W0.heap.size W0 (v.setCell ⟨gb, 0, none⟩ (.slice (some ⟨g8, 0, none⟩) 128 128)) := by
  subst hc
  have hX' := nbox_else (hX.below t hX.lt) (show gx ≠ gb by omega) 0 (.slice (some ⟨g8, 0, none⟩) 128 128)
  have hA' := nbox_else (hA.below t hA.lt) (show a ≠ gb by omega) 0 (.slice (some ⟨g8, 0, none⟩) 128 128)
  refine ⟨KeepsOthers.trans (⟨t.size, fun k o hk _ => ?_⟩ : KeepsOthers W v) (KeepsOthers.setCell _ _ _), fun u hu => ?_, ⟨hA', hX', g8, lg8, nbox_set BBx _, nbox_else HBx.1 (show g8 ≠ gb by omega) 0 _, HBx.2⟩, Below.setCell (p := ⟨gb, 0, none⟩) (Ext.trans hbw t) hBg _⟩
  · rw [t.block k (Array.getElem?_eq_some_iff.1 hk).1]; exact hk
  · rw [hX'.cell 0, ← hX.cell 0]; exact hu
theorem Is.alloc {w : World} {A : Option Addr} {k : Nat} {xs : List Nat} (h : Is w A k xs) (o : Obj) : Is (w.alloc o) A k xs := h.below (Ext.alloc (Below.refl _ _) o)
theorem wrows {α : Type} {F : α → List NRow} {pre : List α} {x : α} {r1 r2 : List NRow} (c : List UInt8) (h : F x = r1 ++ r2) : putAll (putAll (putAll c (pre.flatMap F)) r1) r2 = putAll c ((pre ++ [x]).flatMap F) := by
  rw [List.flatMap_append, putAll_append, List.flatMap_cons, List.flatMap_nil, List.append_nil, h, putAll_append]
theorem notesEq (id age sq st : Nat) (rs : List NRec) (n : Nat) (h : rs.length = n) : putAll (putsL (hdRows id age sq st n)) ((List.finRange n).flatMap (recAt' rs n h)) = putsL (noteRows id age sq st rs) := by
  subst h
  unfold noteRows
  rw [← putAll_nil, ← putAll_nil, putAll_append]
  rfl
theorem only_wp {P : Program} {c : Code} {Q : Exit → Act → World → Prop} {a : Act} {w : World} (h : c.wp P (OnlyN fun a w => Q .normal a w) a w) : c.wp P Q a w :=
  Code.wp_mono (fun e a w k => by obtain ⟨rfl, h2⟩ := OnlyN.normal k; exact h2) h
theorem OnlyN.intro {R : Act → World → Prop} {a : Act} {w : World} (h : R a w) : OnlyN R .normal a w := h
theorem nrows3 (sl su k : Nat) (b : Bool) : ([(sl, 15 + 6 * k, 1), (bareN b, 15 + 6 * k + 1, 1), (su, 15 + 6 * k + 2, 4)] : List NRow) = rowsAt (15 + 6 * k) 1 [sl, bareN b] ++ rowsAt (15 + 6 * k + 2) 4 [su] := rfl

set_option maxRecDepth 100000 in
set_option maxHeartbeats 4000000 in
theorem nwrite_ok (id age sq st : Nat) (b off n q : Nat) (rs : List NRec) (hi : id < 4294967296) (ha : age < 4294967296) (hs : sq < 4294967296) (hsl : ∀ r ∈ rs, r.sl < 256) (hsu : ∀ r ∈ rs, r.su < 4294967296) (hok : noteB age sq (st : Int) rs = true) (w : World) (hr : Rs w (some ⟨b, off, none⟩) n rs) :
    Calls Try.prog 11 #[.agg #[.int .u32 (id : Int), .int .u32 (age : Int), .int .u32 (sq : Int), .int .i64 (st : Int), .slice (some ⟨b, off, none⟩) n q]] w fun e w' => ∃ g, e = .returned (.tuple #[.slice (some ⟨g, 0, none⟩) 128 128, .int .i64 0]) ∧ Box w' g (sealL (putsL (noteRows id age sq st rs))) ∧ Below w.heap.size w w' := by
  have hlen := hr.1
  have hhd : (1 ≤ n ∧ n ≤ 16) ∧ st < 64 := by
    unfold noteB hdB at hok
    rw [hlen, Bool.and_eq_true, decide_eq_true_eq] at hok
    omega
  obtain ⟨⟨hn1, hn2⟩, hst⟩ := hhd
  have HC := Lib.hid (fun W hW => ncheck_any id age sq (st : Int) (some ⟨b, off, none⟩) n q rs (by omega) hsl 0 (by rw [hok]; rfl) W hW)
  have HR := Lib.hid (hr.alloc (.cells #[.int .u32 (id : Int), .int .u32 (age : Int), .int .u32 (sq : Int), .int .i64 (st : Int), .slice (some ⟨b, off, none⟩) n q] 25))
  have W1 : Hid (wrap64 (id : Int) = id) := Lib.hid (IntWalk.wrap64_in _ (by omega))
  have W2 : Hid (wrap64 (age : Int) = age) := Lib.hid (IntWalk.wrap64_in _ (by omega))
  have W3 : Hid (wrap64 (sq : Int) = sq) := Lib.hid (IntWalk.wrap64_in _ (by omega))
  have HB1 := Lib.hid (And.intro hi (And.intro ha hs))
  have HRW := Lib.hid hr
  clear hok hr hi ha hs
  refine (callsIn_wide (n := 3)).1 ?_
  refine callsIn_of_wp_marks Try.func11 rfl trivial ?_ rfl
  simp only [Try.ntmps11, List.size_toArray, List.length_cons, List.length_nil, Nat.reduceAdd, Nat.reduceSub, Array.replicate_succ, Array.replicate_zero, List.push_toArray, List.append_toArray, List.nil_append, List.cons_append]
  have t0 := Ext.alloc (Below.refl w.heap.size w) (.cells #[.int .u32 (id : Int), .int .u32 (age : Int), .int .u32 (sq : Int), .int .i64 (st : Int), .slice (some ⟨b, off, none⟩) n q] 25)
  have A0 := BoxOf.new w #[.int .u32 (id : Int), .int .u32 (age : Int), .int .u32 (sq : Int), .int .i64 (st : Int), .slice (some ⟨b, off, none⟩) n q] 25
  gi_wp2_with fail
  refine ⟨trivial, (callsIn_wide.2 (HC.out _ HR.out)).mono ?_⟩
  rintro e w1 ⟨rfl, b1⟩
  have t1 := Ext.trans t0 b1
  have A1 := A0.next b1
  have R1 := Lib.hid (HR.out.below b1)
  clear A0 t0 b1 HR
  gi_wp2_with fail
  refine ⟨trivial, (callsIn_wide.2 (nput_int none 0 0 [] (.inl rfl) 0 1 (some ⟨w1.heap.size, 0, none⟩) 1 1 [78] 0 1 rfl rfl (by decide) (by decide) (by decide) (by decide) _ (Bs.nil _ _) (Is.new w1.heap.size rfl _ _ 1 [78] rfl rfl))).mono ?_⟩
  rintro e w2 ⟨g2, rfl, hg2, HB2, b2⟩
  have A2 := ((A1.alloc (.cells #[.int .i64 78] 3)).next b2).alloc (.cells #[.slice (some ⟨g2, 0, none⟩) 128 128] 32)
  have t2 := Ext.alloc (Ext.trans (Ext.alloc t1 (.cells #[.int .i64 78] 3)) b2) (.cells #[.slice (some ⟨g2, 0, none⟩) 128 128] 32)
  have R2 := Lib.hid (((R1.out.alloc (.cells #[.int .i64 78] 3)).below b2).alloc (.cells #[.slice (some ⟨g2, 0, none⟩) 128 128] 32))
  have B2 := BoxOf.new w2 #[.slice (some ⟨g2, 0, none⟩) 128 128] 32
  have hb2 := HB2.bs.alloc (.cells #[.slice (some ⟨g2, 0, none⟩) 128 128] 32)
  have hlt2 : g2 < w2.heap.size := HB2.lt
  have ha2 : w.heap.size < w2.heap.size := Nat.lt_of_lt_of_le A1.lt (Nat.le_trans (by simp) b2.size)
  clear A1 t1 b2 R1 HB2
  obtain ⟨gb, hgb⟩ : ∃ gb : Nat, gb = w2.heap.size := ⟨_, rfl⟩
  rw [← hgb] at B2 hlt2 ha2
  have x2 := A2.cell
  have y2 := B2.cell
  gi_wp2_with fail
  rw [W1.out, W2.out, W3.out, ← hgb]
  have z2 : (w2.alloc (.cells #[.slice (some ⟨g2, 0, none⟩) 128 128] 32)).heap.size = gb + 1 := by simp [hgb]
  generalize w2.alloc (.cells #[.slice (some ⟨g2, 0, none⟩) 128 128] 32) = V2 at *
  clear hgb hg2
  refine ⟨trivial, (callsIn_wide.2 (nput_int (some ⟨g2, 0, none⟩) 128 128 _ (.inr rfl) 1 4 (some ⟨gb + 1, 0, none⟩) 3 3 [id, age, sq] 1 4 rfl rfl (by decide) (by decide) (by decide) (by simpa using HB1.out) _ (hb2.alloc _) (Is.new (gb + 1) z2.symm _ _ 3 [id, age, sq] rfl rfl))).mono ?_⟩
  rintro e w3 ⟨g3, rfl, hg3, HB3, b3⟩
  have A3 := ((A2.alloc (.cells #[.int .i64 (id : Int), .int .i64 (age : Int), .int .i64 (sq : Int)] 3)).next b3)
  have B3 := ((B2.alloc (.cells #[.int .i64 (id : Int), .int .i64 (age : Int), .int .i64 (sq : Int)] 3)).next b3)
  have t3 := Ext.trans (Ext.alloc t2 (.cells #[.int .i64 (id : Int), .int .i64 (age : Int), .int .i64 (sq : Int)] 3)) b3
  have hgl3 : gb < g3 := Nat.lt_of_lt_of_le (show gb < _ by simp [z2]; omega) hg3
  have y3 := B3.cell
  have f3 := B3.free
  clear A2 B2 t2 b3 R2 x2 y2 hb2 hg3 z2 hlt2
  have A4 := nbox_else A3 (show w.heap.size ≠ gb by omega) 0 (.slice (some ⟨g3, 0, none⟩) 128 128)
  have B4 := nbox_set B3 (.slice (some ⟨g3, 0, none⟩) 128 128)
  have H4 : Box (w3.setCell ⟨gb, 0, none⟩ (.slice (some ⟨g3, 0, none⟩) 128 128)) g3 _ := ⟨nbox_else HB3.1 (show g3 ≠ gb by omega) 0 (.slice (some ⟨g3, 0, none⟩) 128 128), HB3.2⟩
  have t4 := Below.setCell (p := ⟨gb, 0, none⟩) t3 (show w.heap.size ≤ gb by omega) (.slice (some ⟨g3, 0, none⟩) 128 128)
  have x4 := A4.cell
  have y4 := B4.cell
  gi_wp2_with fail
  obtain ⟨gz, hgz⟩ : ∃ gz : Nat, gz = w3.heap.size := ⟨_, rfl⟩
  have z4 : gz = (w3.setCell ⟨gb, 0, none⟩ (.slice (some ⟨g3, 0, none⟩) 128 128)).heap.size := by rw [hgz]; simp [World.setCell]
  rw [← hgz]
  clear hgz
  generalize w3.setCell ⟨gb, 0, none⟩ (.slice (some ⟨g3, 0, none⟩) 128 128) = V4 at *
  clear A3 B3 t3 HB3 y3 f3
  have hb4 := H4.bs
  have hgV4 : gb < V4.heap.size := B4.lt
  refine ⟨trivial, (callsIn_wide.2 (nput_int (some ⟨g3, 0, none⟩) 128 128 _ (.inr rfl) 13 1 (some ⟨gz, 0, none⟩) 2 2 [st, n] 13 1 rfl rfl (by decide) (by decide) (by decide) (by simp; omega) _ (hb4.alloc _) (Is.new gz z4 _ _ 2 [st, n] rfl rfl))).mono ?_⟩
  rintro e w5 ⟨g5, rfl, hg5, HB5, b5⟩
  have A5 := ((A4.alloc (.cells #[.int .i64 (st : Int), .int .i64 (n : Int)] 3)).next b5)
  have B5 := ((B4.alloc (.cells #[.int .i64 (st : Int), .int .i64 (n : Int)] 3)).next b5)
  have t5 := Ext.trans (Ext.alloc t4 (.cells #[.int .i64 (st : Int), .int .i64 (n : Int)] 3)) b5
  have hgl5 : gb < g5 := Nat.lt_of_lt_of_le (show gb < _ by simp; omega) hg5
  have y5 := B5.cell
  have f5 := B5.free
  have A6 := nbox_else A5 (show w.heap.size ≠ gb by omega) 0 (.slice (some ⟨g5, 0, none⟩) 128 128)
  have B6 := nbox_set B5 (.slice (some ⟨g5, 0, none⟩) 128 128)
  have H6 : Box (w5.setCell ⟨gb, 0, none⟩ (.slice (some ⟨g5, 0, none⟩) 128 128)) g5 _ := ⟨nbox_else HB5.1 (show g5 ≠ gb by omega) 0 (.slice (some ⟨g5, 0, none⟩) 128 128), HB5.2⟩
  have t6 := Below.setCell (p := ⟨gb, 0, none⟩) t5 (show w.heap.size ≤ gb by omega) (.slice (some ⟨g5, 0, none⟩) 128 128)
  have x6 := A6.cell
  have y6 := B6.cell
  clear A4 B4 H4 t4 x4 y4 hb4 hgV4 b5 hg5 hgl3
  gi_wp2_with fail
  generalize w5.setCell ⟨gb, 0, none⟩ (.slice (some ⟨g5, 0, none⟩) 128 128) = V6 at *
  clear A5 B5 t5 HB5 y5 f5
  have hcont := hdRows_put id age sq st n
  rw [hcont] at H6
  clear hcont
  refine ⟨trivial, (places_in Fence.wide 2 trivial rfl n V6).mono ?_⟩
  rintro e w7 ⟨rfl, rfl⟩
  gi_wp2_with fail
  obtain ⟨gx, hgx⟩ : ∃ gx : Nat, gx = V6.heap.size := ⟨_, rfl⟩
  have A7 := A6.alloc (.cells #[.int .i64 (n : Int)] 3)
  have B7 := B6.alloc (.cells #[.int .i64 (n : Int)] 3)
  have X7 := BoxOf.new' V6 gx #[.int .i64 (n : Int)] 3 hgx
  have H7 : Box (V6.alloc (.cells #[.int .i64 (n : Int)] 3)) g5 _ := ⟨BoxOf.alloc H6.1 _, H6.2⟩
  have t7 := Ext.alloc t6 (.cells #[.int .i64 (n : Int)] 3)
  have lgx : gb < gx := by rw [hgx]; exact B6.lt
  have lax : w.heap.size < gx := by rw [hgx]; exact A6.lt
  have lgx5 : g5 ≠ gx := by have := H6.lt; rw [hgx]; omega
  rw [← hgx]
  clear A6 B6 H6 t6 x6 y6 hgx
  generalize V6.alloc (.cells #[.int .i64 (n : Int)] 3) = V7 at *
  have hgx7 : gx < V7.heap.size := X7.lt
  refine places_loop (m := n) (gx := gx) UPD rfl (places_stops Fence.wide (3 - 1) trivial rfl (by decide) gx n (by omega) V7 hgx7 ((BoxOf.cell X7 0).trans rfl)) rfl
    (fun pre W => (BoxOf W w.heap.size #[.int .u32 (id : Int), .int .u32 (age : Int), .int .u32 (sq : Int), .int .i64 (st : Int), .slice (some ⟨b, off, none⟩) n q] 25 ∧ BoxOf W gx #[.int .i64 (n : Int)] 3 ∧ ∃ g, gb < g ∧ BoxOf W gb #[.slice (some ⟨g, 0, none⟩) 128 128] 32 ∧ Box W g (putAll (putsL (hdRows id age sq st n)) (pre.flatMap (recAt' rs n hlen)))) ∧ Below w.heap.size w W)
    (fun _ _ _ => False) ?own (fun _ _ _ _ _ hs _ _ => hs) ⟨⟨A7, X7, g5, by omega, B7, by simpa [putAll] using H7⟩, t7⟩ ?assign ?body ?done ?stop
  case own =>
    rintro pre W W' row ⟨⟨h1, h2, g, hg, h3, h4, h5⟩, h6⟩ hgr hr
    exact ⟨⟨own_box h1 hgr hr, own_box h2 hgr hr, g, hg, own_box h3 hgr hr, own_box h4 hgr hr, h5⟩, h6.grown hgr h6.size (fun k e => by have := (hr k e).1; omega)⟩
  case assign =>
    intro l x W K hK
    gi_wp2
    simpa [UPD, encP] using hK
  case stop =>
    rintro D c pre W _ _ h _
    exact h.elim
  case body =>
    rintro l pre x W ⟨⟨hA, hX, g, hg, hB, hH⟩, hbw⟩ hlt
    simp only [UPD, encP, List.setIfInBounds_toArray, List.set_cons_zero, List.set_cons_succ, Array.getD_eq_getD_getElem?, List.getElem?_toArray, List.getElem?_cons_zero, List.getElem?_cons_succ, Option.getD_some]
    have hW := HRW.out.below hbw
    have hxl : x.val < rs.length := by rw [hlen]; exact x.isLt
    obtain ⟨b', off', hAe, hc⟩ := hW.cells (by omega)
    injection hAe with hAe
    injection hAe with e1 e2
    subst e1 e2
    obtain ⟨q0, q1, q2⟩ := hc x.val hxl
    have s8 := hsl _ (List.getElem_mem hxl)
    have s9 := hsu _ (List.getElem_mem hxl)
    have hrow : recAt' rs n hlen x = [(rs[x.val].sl, 15 + 6 * x.val, 1), (bareN rs[x.val].ba, 15 + 6 * x.val + 1, 1), (rs[x.val].su, 15 + 6 * x.val + 2, 4)] := rfl
    have hrow2 := hrow.trans (nrows3 _ _ _ _)
    have HROW := Lib.hid hrow2
    clear hrow hrow2 hc hW
    have hx16 : x.val < n := x.isLt
    generalize rs[x.val].sl = sl at *
    generalize rs[x.val].ba = ba at *
    generalize rs[x.val].su = su at *
    generalize hxk : x.val = k at *
    have xA := hA.cell
    have A1 := hA.alloc (.cells #[.int .u8 (sl : Int), .bool ba, .int .u32 (su : Int)] 27)
    have hfin := wrows (F := recAt' rs n hlen) (pre := pre) (x := x) (putsL (hdRows id age sq st n)) HROW.out
    have HFIN := Lib.hid hfin
    clear hfin
    cases ba
    · gi_wp2
      have hx2 : ∀ y ∈ [sl, bareN false], y < 256 ^ 1 := by simp [bareN]; omega
      have hx1 : ∀ y ∈ [su], y < 256 ^ 4 := by simp; omega
      have HX2 := Lib.hid hx2
      have HX1 := Lib.hid hx1
      clear hx2 hx1
      obtain ⟨gr, hgr⟩ : ∃ z : Nat, z = W.heap.size := ⟨_, rfl⟩
      have B1 := hB.alloc (.cells #[.int .u8 (sl : Int), .bool false, .int .u32 (su : Int)] 27)
      have R1 := BoxOf.new' W gr #[.int .u8 (sl : Int), .bool false, .int .u32 (su : Int)] 27 hgr
      have H1 : Box (W.alloc (.cells #[.int .u8 (sl : Int), .bool false, .int .u32 (su : Int)] 27)) g _ := ⟨BoxOf.alloc hH.1 _, hH.2⟩
      have t1 := Ext.alloc (Below.refl W.heap.size W) (.cells #[.int .u8 (sl : Int), .bool false, .int .u32 (su : Int)] 27)
      have lgr : gb < gr := by rw [hgr]; exact hB.lt
      rw [← hgr]
      generalize W.alloc (.cells #[.int .u8 (sl : Int), .bool false, .int .u32 (su : Int)] 27) = W1 at *
      have q5 : IntKind.i64.wrap (sl : Int) = (sl : Int) := i64_fit (by omega)
      have q6 : IntKind.i64.wrap (su : Int) = (su : Int) := IntWalk.i64_in _ (by omega)
      have q7 : IntKind.i64.wrap (15 + 6 * (k : Int) + 2) = 15 + 6 * (k : Int) + 2 := i64_fit (by omega)
      refine region_inRound (by kernel_rfl) (by kernel_rfl) (S := fun w' => BoxOf w' gr #[.int .u8 (sl : Int), .bool false, .int .u32 (su : Int)] 27 ∧ ∀ o, w'.cell? ⟨gr, o, none⟩ = (#[.int .u8 (sl : Int), .bool false, .int .u32 (su : Int)] : Array Value).toList[o]?) ⟨BoxOf.drew R1, (BoxOf.drew R1).cell⟩ (fun hS => ?_)
      have BBx := BoxOf.drew B1
      have HBx : Box W1.drew g _ := ⟨BoxOf.drew H1.1, H1.2⟩
      have t := Ext.drew t1
      clear B1 H1 R1 t1 hgr
      generalize W1.drew = v at *
      refine wpAnyH_take (i := 1) (oi := _) (v := ?_) rfl (by kernel_rfl) (by kernel_rfl) (by kernel_rfl) (fun _ _ _ h => h) (Or.inl ⟨by rfl, ?_⟩) hS ?_
      rotate_left
      · (intro w hSw; (try dsimp only at hSw); go_simp; (try with_reducible rfl))
      rotate_left
      simp only [Act.put, List.getElem_toArray, List.getElem_cons_zero, List.getElem_cons_succ, List.setIfInBounds_toArray, List.set_cons_zero, List.set_cons_succ]
      refine wpAnyH_take (i := 2) (oi := _) (v := ?_) rfl (by kernel_rfl) (by kernel_rfl) (by kernel_rfl) (fun _ _ _ h => h) (Or.inl ⟨by rfl, ?_⟩) hS ?_
      rotate_left
      · (intro w hSw; (try dsimp only at hSw); go_simp; (try with_reducible rfl))
      rotate_left
      simp only [Act.put, List.getElem_toArray, List.getElem_cons_zero, List.getElem_cons_succ, List.setIfInBounds_toArray, List.set_cons_zero, List.set_cons_succ]
      refine wpAnyH_take (i := 3) (oi := _) (v := ?_) rfl (by kernel_rfl) (by kernel_rfl) (by kernel_rfl) (fun _ _ _ h => h) (Or.inl ⟨by rfl, ?_⟩) hS ?_
      rotate_left
      · (intro w hSw; (try dsimp only at hSw); go_simp; (try with_reducible rfl))
      rotate_left
      simp only [Act.put, List.getElem_toArray, List.getElem_cons_zero, List.getElem_cons_succ, List.setIfInBounds_toArray, List.set_cons_zero, List.set_cons_succ]
      refine wpAnyH_take (i := 4) (oi := _) (v := ?_) rfl (by kernel_rfl) (by kernel_rfl) (by kernel_rfl) (fun _ _ _ h => h) (Or.inl ⟨by rfl, ?_⟩) hS ?_
      rotate_left
      · (intro w hSw; (try dsimp only at hSw); go_simp; (try with_reducible rfl))
      rotate_left
      simp only [Act.put, List.getElem_toArray, List.getElem_cons_zero, List.getElem_cons_succ, List.setIfInBounds_toArray, List.set_cons_zero, List.set_cons_succ]
      refine wpAnyH_take (i := 5) (oi := _) (v := ?_) rfl (by kernel_rfl) (by kernel_rfl) (by kernel_rfl) (fun _ _ _ h => h) (Or.inl ⟨by rfl, ?_⟩) hS ?_
      rotate_left
      · (intro w hSw; (try dsimp only at hSw); go_simp; (try with_reducible rfl))
      rotate_left
      simp only [Act.put, List.getElem_toArray, List.getElem_cons_zero, List.getElem_cons_succ, List.setIfInBounds_toArray, List.set_cons_zero, List.set_cons_succ]
      refine wpAnyH_take (i := 8) (oi := _) (v := ?_) rfl (by kernel_rfl) (by kernel_rfl) (by kernel_rfl) (fun _ _ _ h => h) (Or.inl ⟨by rfl, ?_⟩) hS ?_
      rotate_left
      · (intro w hSw; (try dsimp only at hSw); go_simp; (try with_reducible rfl))
      rotate_left
      simp only [Act.put, List.getElem_toArray, List.getElem_cons_zero, List.getElem_cons_succ, List.setIfInBounds_toArray, List.set_cons_zero, List.set_cons_succ]
      refine wpAnyH_take (i := 9) (oi := _) (v := ?_) rfl (by kernel_rfl) (by kernel_rfl) (by kernel_rfl) (fun _ _ _ h => h) (Or.inl ⟨by rfl, ?_⟩) hS ?_
      rotate_left
      · (intro w hSw; (try dsimp only at hSw); go_simp; (try with_reducible rfl))
      rotate_left
      simp only [Act.put, List.getElem_toArray, List.getElem_cons_zero, List.getElem_cons_succ, List.setIfInBounds_toArray, List.set_cons_zero, List.set_cons_succ]
      refine wpAnyH_take (i := 10) (oi := _) (v := ?_) rfl (by kernel_rfl) (by kernel_rfl) (by kernel_rfl) (fun _ _ _ h => h) (Or.inl ⟨by rfl, ?_⟩) hS ?_
      rotate_left
      · (intro w hSw; (try dsimp only at hSw); go_simp; (try with_reducible rfl))
      rotate_left
      simp only [Act.put, List.getElem_toArray, List.getElem_cons_zero, List.getElem_cons_succ, List.setIfInBounds_toArray, List.set_cons_zero, List.set_cons_succ]
      refine wpAnyH_take (i := 11) (oi := _) (v := ?_) rfl (by kernel_rfl) (by kernel_rfl) (by kernel_rfl) (fun _ _ _ h => h) (Or.inl ⟨by rfl, ?_⟩) hS ?_
      rotate_left
      · (intro w hSw; (try dsimp only at hSw); go_simp; (try with_reducible rfl))
      rotate_left
      simp only [Act.put, List.getElem_toArray, List.getElem_cons_zero, List.getElem_cons_succ, List.setIfInBounds_toArray, List.set_cons_zero, List.set_cons_succ]
      refine wpAnyH_take (i := 12) (oi := _) (v := ?_) rfl (by kernel_rfl) (by kernel_rfl) (by kernel_rfl) (fun _ _ _ h => h) (Or.inl ⟨by rfl, ?_⟩) hS ?_
      rotate_left
      · (intro w hSw; (try dsimp only at hSw); go_simp; (try with_reducible rfl))
      rotate_left
      simp only [Act.put, List.getElem_toArray, List.getElem_cons_zero, List.getElem_cons_succ, List.setIfInBounds_toArray, List.set_cons_zero, List.set_cons_succ]
      clear q5 q6 q7
      refine wpAnyH_ready (rs := [0, 6, 13]) (by kernel_rfl) (by simp) ?_
      refine AllReadyH.cons rfl (fun K hK => ?_) (AllReadyH.cons rfl (fun K hK => ?_) (AllReadyH.cons rfl (fun K hK => ?_) (AllReadyH.nil)))
      · rw [if_pos (by rfl)]
        have yB := BBx.cell
        go_simp
        refine hK.out _ _ hS (fun hS' => ?_)
        clear yB
        clear hK K hS
        have hS := hS'
        clear hS'
        try simp only [Act.put, List.getElem_toArray, List.getElem_cons_zero, List.getElem_cons_succ, List.setIfInBounds_toArray, List.set_cons_zero, List.set_cons_succ]
        refine wpAnyH_ready (rs := [6, 13]) (by kernel_rfl) (by simp) ?_
        refine AllReadyH.cons rfl (fun K hK => ?_) (AllReadyH.cons rfl (fun K hK => ?_) (AllReadyH.nil))
        · rw [if_pos (by rfl)]
          go_simp
          obtain ⟨a6, ha6⟩ : ∃ z : Nat, z = v.heap.size := ⟨_, rfl⟩
          have N2 := Is.new (w := v) a6 ha6 #[.int .i64 (sl : Int), .int .i64 0] 3 2 [sl, bareN false] rfl rfl
          have HBn : Box (v.alloc (.cells #[.int .i64 (sl : Int), .int .i64 0] 3)) g _ := ⟨BoxOf.alloc HBx.1 _, HBx.2⟩
          have BBn := BBx.alloc (.cells #[.int .i64 (sl : Int), .int .i64 0] 3)
          have tn := Ext.alloc t (.cells #[.int .i64 (sl : Int), .int .i64 0] 3)
          refine hK.out _ _ ⟨hS.1.alloc _, (hS.1.alloc (.cells #[.int .i64 (sl : Int), .int .i64 0] 3)).cell⟩ (fun hS' => ?_)
          rw [← ha6]
          clear ha6 HBx BBx t
          have HBx := HBn
          have BBx := BBn
          have t := tn
          have I2 := N2
          clear HBn BBn tn N2
          clear hK K hS
          have hS := hS'
          clear hS'
          try simp only [Act.put, List.getElem_toArray, List.getElem_cons_zero, List.getElem_cons_succ, List.setIfInBounds_toArray, List.set_cons_zero, List.set_cons_succ]
          generalize v.alloc (.cells #[.int .i64 (sl : Int), .int .i64 0] 3) = v1 at *
          refine wpAnyH_ready (rs := [7, 13]) (by kernel_rfl) (by simp) ?_
          refine AllReadyH.cons rfl (fun K hK => ?_) (AllReadyH.cons rfl (fun K hK => ?_) (AllReadyH.nil))
          · rw [if_pos (by rfl)]
            go_simp
            refine (nput_int (some ⟨g, 0, none⟩) 128 128 _ (.inr rfl) (15 + 6 * k) 1 (some ⟨a6, 0, none⟩) 2 2 [sl, bareN false] (15 + 6 * (k : Int)) 1 (by omega) rfl (by decide) (by decide) (by omega) HX2.out _ HBx.bs I2).mono ?_
            rintro e v2 ⟨g7, rfl, hg7, HBn, bn⟩
            have lg7 : gb < g7 := Nat.lt_of_lt_of_le BBx.lt hg7
            have BBn := BBx.next bn
            have tn := Ext.trans t bn
            refine hK.out _ _ ⟨hS.1.next bn, (hS.1.next bn).cell⟩ (fun hS' => ?_)
            clear HBx BBx t I2
            have HBx := HBn
            have BBx := BBn
            have t := tn
            clear HBn BBn tn bn hg7
            clear hK K hS
            have hS := hS'
            clear hS'
            try simp only [Act.put, List.getElem_toArray, List.getElem_cons_zero, List.getElem_cons_succ, List.setIfInBounds_toArray, List.set_cons_zero, List.set_cons_succ]
            refine wpAnyH_ready (rs := [13]) (by kernel_rfl) (by simp) ?_
            refine AllReadyH.cons rfl (fun K hK => ?_) AllReadyH.nil
            rw [if_pos (by rfl)]
            go_simp
            obtain ⟨a13, ha13⟩ : ∃ z : Nat, z = v2.heap.size := ⟨_, rfl⟩
            have N1 := Is.new (w := v2) a13 ha13 #[.int .i64 (su : Int)] 3 1 [su] rfl rfl
            have HBn : Box (v2.alloc (.cells #[.int .i64 (su : Int)] 3)) g7 _ := ⟨BoxOf.alloc HBx.1 _, HBx.2⟩
            have BBn := BBx.alloc (.cells #[.int .i64 (su : Int)] 3)
            have tn := Ext.alloc t (.cells #[.int .i64 (su : Int)] 3)
            refine hK.out _ _ ⟨hS.1.alloc _, (hS.1.alloc (.cells #[.int .i64 (su : Int)] 3)).cell⟩ (fun hS' => ?_)
            rw [← ha13]
            clear ha13 HBx BBx t
            have HBx := HBn
            have BBx := BBn
            have t := tn
            have I1 := N1
            clear HBn BBn tn N1
            clear hK K hS
            have hS := hS'
            clear hS'
            try simp only [Act.put, List.getElem_toArray, List.getElem_cons_zero, List.getElem_cons_succ, List.setIfInBounds_toArray, List.set_cons_zero, List.set_cons_succ]
            generalize v2.alloc (.cells #[.int .i64 (su : Int)] 3) = v3 at *
            refine wpAnyH_ready (rs := [14]) (by kernel_rfl) (by simp) ?_
            refine AllReadyH.cons rfl (fun K hK => ?_) AllReadyH.nil
            rw [if_pos (by rfl)]
            go_simp
            refine (nput_int (some ⟨g7, 0, none⟩) 128 128 _ (.inr rfl) (15 + 6 * k + 2) 4 (some ⟨a13, 0, none⟩) 1 1 [su] (15 + 6 * (k : Int) + 2) 4 (by omega) rfl (by decide) (by decide) (by omega) HX1.out _ HBx.bs I1).mono ?_
            rintro e v4 ⟨g8, rfl, hg8, HBn, bn⟩
            have lg8 : gb < g8 := Nat.lt_of_lt_of_le BBx.lt hg8
            have BBn := BBx.next bn
            have tn := Ext.trans t bn
            refine hK.out _ _ ⟨hS.1.next bn, (hS.1.next bn).cell⟩ (fun hS' => ?_)
            clear HBx BBx t I1
            have HBx := HBn
            have BBx := BBn
            have t := tn
            clear HBn BBn tn bn hg8
            clear hK K hS
            have hS := hS'
            clear hS'
            try simp only [Act.put, List.getElem_toArray, List.getElem_cons_zero, List.getElem_cons_succ, List.setIfInBounds_toArray, List.set_cons_zero, List.set_cons_succ]
            refine wpAnyH_ready (rs := [15]) (by kernel_rfl) (by simp) ?_
            refine AllReadyH.cons rfl (fun K hK => ?_) AllReadyH.nil
            rw [if_pos (by rfl)]
            have fB := BBx.free
            have yB := BBx.cell
            go_simp
            refine hK.out _ _ ⟨nbox_else hS.1 (show gr ≠ gb by omega) 0 _, (nbox_else hS.1 (show gr ≠ gb by omega) 0 _).cell⟩ (fun hS' => ?_)
            clear fB yB
            clear hK K hS
            have hS := hS'
            clear hS'
            try simp only [Act.put, List.getElem_toArray, List.getElem_cons_zero, List.getElem_cons_succ, List.setIfInBounds_toArray, List.set_cons_zero, List.set_cons_succ]
            refine wpAnyH_done (by kernel_rfl) ?_ _
            exact wbody_done hA hX hbw ha2 lgx (Nat.le_of_lt ha2) BBx HBx lg8 t HFIN.out
          · rw [if_pos (by rfl)]
            go_simp
            obtain ⟨a13, ha13⟩ : ∃ z : Nat, z = v1.heap.size := ⟨_, rfl⟩
            have N1 := Is.new (w := v1) a13 ha13 #[.int .i64 (su : Int)] 3 1 [su] rfl rfl
            have HBn : Box (v1.alloc (.cells #[.int .i64 (su : Int)] 3)) g _ := ⟨BoxOf.alloc HBx.1 _, HBx.2⟩
            have BBn := BBx.alloc (.cells #[.int .i64 (su : Int)] 3)
            have tn := Ext.alloc t (.cells #[.int .i64 (su : Int)] 3)
            have In := I2.alloc (.cells #[.int .i64 (su : Int)] 3)
            refine hK.out _ _ ⟨hS.1.alloc _, (hS.1.alloc (.cells #[.int .i64 (su : Int)] 3)).cell⟩ (fun hS' => ?_)
            rw [← ha13]
            clear ha13 HBx BBx t I2
            have HBx := HBn
            have BBx := BBn
            have t := tn
            have I2 := In
            have I1 := N1
            clear HBn BBn tn N1 In
            clear hK K hS
            have hS := hS'
            clear hS'
            try simp only [Act.put, List.getElem_toArray, List.getElem_cons_zero, List.getElem_cons_succ, List.setIfInBounds_toArray, List.set_cons_zero, List.set_cons_succ]
            generalize v1.alloc (.cells #[.int .i64 (su : Int)] 3) = v5 at *
            refine wpAnyH_ready (rs := [7]) (by kernel_rfl) (by simp) ?_
            refine AllReadyH.cons rfl (fun K hK => ?_) AllReadyH.nil
            rw [if_pos (by rfl)]
            go_simp
            refine (nput_int (some ⟨g, 0, none⟩) 128 128 _ (.inr rfl) (15 + 6 * k) 1 (some ⟨a6, 0, none⟩) 2 2 [sl, bareN false] (15 + 6 * (k : Int)) 1 (by omega) rfl (by decide) (by decide) (by omega) HX2.out _ HBx.bs I2).mono ?_
            rintro e v6 ⟨g7, rfl, hg7, HBn, bn⟩
            have lg7 : gb < g7 := Nat.lt_of_lt_of_le BBx.lt hg7
            have BBn := BBx.next bn
            have tn := Ext.trans t bn
            have In := I1.below bn
            refine hK.out _ _ ⟨hS.1.next bn, (hS.1.next bn).cell⟩ (fun hS' => ?_)
            clear HBx BBx t I2 I1
            have HBx := HBn
            have BBx := BBn
            have t := tn
            have I1 := In
            clear HBn BBn tn bn hg7 In
            clear hK K hS
            have hS := hS'
            clear hS'
            try simp only [Act.put, List.getElem_toArray, List.getElem_cons_zero, List.getElem_cons_succ, List.setIfInBounds_toArray, List.set_cons_zero, List.set_cons_succ]
            refine wpAnyH_ready (rs := [14]) (by kernel_rfl) (by simp) ?_
            refine AllReadyH.cons rfl (fun K hK => ?_) AllReadyH.nil
            rw [if_pos (by rfl)]
            go_simp
            refine (nput_int (some ⟨g7, 0, none⟩) 128 128 _ (.inr rfl) (15 + 6 * k + 2) 4 (some ⟨a13, 0, none⟩) 1 1 [su] (15 + 6 * (k : Int) + 2) 4 (by omega) rfl (by decide) (by decide) (by omega) HX1.out _ HBx.bs I1).mono ?_
            rintro e v7 ⟨g8, rfl, hg8, HBn, bn⟩
            have lg8 : gb < g8 := Nat.lt_of_lt_of_le BBx.lt hg8
            have BBn := BBx.next bn
            have tn := Ext.trans t bn
            refine hK.out _ _ ⟨hS.1.next bn, (hS.1.next bn).cell⟩ (fun hS' => ?_)
            clear HBx BBx t I1
            have HBx := HBn
            have BBx := BBn
            have t := tn
            clear HBn BBn tn bn hg8
            clear hK K hS
            have hS := hS'
            clear hS'
            try simp only [Act.put, List.getElem_toArray, List.getElem_cons_zero, List.getElem_cons_succ, List.setIfInBounds_toArray, List.set_cons_zero, List.set_cons_succ]
            refine wpAnyH_ready (rs := [15]) (by kernel_rfl) (by simp) ?_
            refine AllReadyH.cons rfl (fun K hK => ?_) AllReadyH.nil
            rw [if_pos (by rfl)]
            have fB := BBx.free
            have yB := BBx.cell
            go_simp
            refine hK.out _ _ ⟨nbox_else hS.1 (show gr ≠ gb by omega) 0 _, (nbox_else hS.1 (show gr ≠ gb by omega) 0 _).cell⟩ (fun hS' => ?_)
            clear fB yB
            clear hK K hS
            have hS := hS'
            clear hS'
            try simp only [Act.put, List.getElem_toArray, List.getElem_cons_zero, List.getElem_cons_succ, List.setIfInBounds_toArray, List.set_cons_zero, List.set_cons_succ]
            refine wpAnyH_done (by kernel_rfl) ?_ _
            exact wbody_done hA hX hbw ha2 lgx (Nat.le_of_lt ha2) BBx HBx lg8 t HFIN.out
        · rw [if_pos (by rfl)]
          go_simp
          obtain ⟨a13, ha13⟩ : ∃ z : Nat, z = v.heap.size := ⟨_, rfl⟩
          have N1 := Is.new (w := v) a13 ha13 #[.int .i64 (su : Int)] 3 1 [su] rfl rfl
          have HBn : Box (v.alloc (.cells #[.int .i64 (su : Int)] 3)) g _ := ⟨BoxOf.alloc HBx.1 _, HBx.2⟩
          have BBn := BBx.alloc (.cells #[.int .i64 (su : Int)] 3)
          have tn := Ext.alloc t (.cells #[.int .i64 (su : Int)] 3)
          refine hK.out _ _ ⟨hS.1.alloc _, (hS.1.alloc (.cells #[.int .i64 (su : Int)] 3)).cell⟩ (fun hS' => ?_)
          rw [← ha13]
          clear ha13 HBx BBx t
          have HBx := HBn
          have BBx := BBn
          have t := tn
          have I1 := N1
          clear HBn BBn tn N1
          clear hK K hS
          have hS := hS'
          clear hS'
          try simp only [Act.put, List.getElem_toArray, List.getElem_cons_zero, List.getElem_cons_succ, List.setIfInBounds_toArray, List.set_cons_zero, List.set_cons_succ]
          generalize v.alloc (.cells #[.int .i64 (su : Int)] 3) = v8 at *
          refine wpAnyH_ready (rs := [6]) (by kernel_rfl) (by simp) ?_
          refine AllReadyH.cons rfl (fun K hK => ?_) AllReadyH.nil
          rw [if_pos (by rfl)]
          go_simp
          obtain ⟨a6, ha6⟩ : ∃ z : Nat, z = v8.heap.size := ⟨_, rfl⟩
          have N2 := Is.new (w := v8) a6 ha6 #[.int .i64 (sl : Int), .int .i64 0] 3 2 [sl, bareN false] rfl rfl
          have HBn : Box (v8.alloc (.cells #[.int .i64 (sl : Int), .int .i64 0] 3)) g _ := ⟨BoxOf.alloc HBx.1 _, HBx.2⟩
          have BBn := BBx.alloc (.cells #[.int .i64 (sl : Int), .int .i64 0] 3)
          have tn := Ext.alloc t (.cells #[.int .i64 (sl : Int), .int .i64 0] 3)
          have In := I1.alloc (.cells #[.int .i64 (sl : Int), .int .i64 0] 3)
          refine hK.out _ _ ⟨hS.1.alloc _, (hS.1.alloc (.cells #[.int .i64 (sl : Int), .int .i64 0] 3)).cell⟩ (fun hS' => ?_)
          rw [← ha6]
          clear ha6 HBx BBx t I1
          have HBx := HBn
          have BBx := BBn
          have t := tn
          have I1 := In
          have I2 := N2
          clear HBn BBn tn N2 In
          clear hK K hS
          have hS := hS'
          clear hS'
          try simp only [Act.put, List.getElem_toArray, List.getElem_cons_zero, List.getElem_cons_succ, List.setIfInBounds_toArray, List.set_cons_zero, List.set_cons_succ]
          generalize v8.alloc (.cells #[.int .i64 (sl : Int), .int .i64 0] 3) = v9 at *
          refine wpAnyH_ready (rs := [7]) (by kernel_rfl) (by simp) ?_
          refine AllReadyH.cons rfl (fun K hK => ?_) AllReadyH.nil
          rw [if_pos (by rfl)]
          go_simp
          refine (nput_int (some ⟨g, 0, none⟩) 128 128 _ (.inr rfl) (15 + 6 * k) 1 (some ⟨a6, 0, none⟩) 2 2 [sl, bareN false] (15 + 6 * (k : Int)) 1 (by omega) rfl (by decide) (by decide) (by omega) HX2.out _ HBx.bs I2).mono ?_
          rintro e v10 ⟨g7, rfl, hg7, HBn, bn⟩
          have lg7 : gb < g7 := Nat.lt_of_lt_of_le BBx.lt hg7
          have BBn := BBx.next bn
          have tn := Ext.trans t bn
          have In := I1.below bn
          refine hK.out _ _ ⟨hS.1.next bn, (hS.1.next bn).cell⟩ (fun hS' => ?_)
          clear HBx BBx t I2 I1
          have HBx := HBn
          have BBx := BBn
          have t := tn
          have I1 := In
          clear HBn BBn tn bn hg7 In
          clear hK K hS
          have hS := hS'
          clear hS'
          try simp only [Act.put, List.getElem_toArray, List.getElem_cons_zero, List.getElem_cons_succ, List.setIfInBounds_toArray, List.set_cons_zero, List.set_cons_succ]
          refine wpAnyH_ready (rs := [14]) (by kernel_rfl) (by simp) ?_
          refine AllReadyH.cons rfl (fun K hK => ?_) AllReadyH.nil
          rw [if_pos (by rfl)]
          go_simp
          refine (nput_int (some ⟨g7, 0, none⟩) 128 128 _ (.inr rfl) (15 + 6 * k + 2) 4 (some ⟨a13, 0, none⟩) 1 1 [su] (15 + 6 * (k : Int) + 2) 4 (by omega) rfl (by decide) (by decide) (by omega) HX1.out _ HBx.bs I1).mono ?_
          rintro e v11 ⟨g8, rfl, hg8, HBn, bn⟩
          have lg8 : gb < g8 := Nat.lt_of_lt_of_le BBx.lt hg8
          have BBn := BBx.next bn
          have tn := Ext.trans t bn
          refine hK.out _ _ ⟨hS.1.next bn, (hS.1.next bn).cell⟩ (fun hS' => ?_)
          clear HBx BBx t I1
          have HBx := HBn
          have BBx := BBn
          have t := tn
          clear HBn BBn tn bn hg8
          clear hK K hS
          have hS := hS'
          clear hS'
          try simp only [Act.put, List.getElem_toArray, List.getElem_cons_zero, List.getElem_cons_succ, List.setIfInBounds_toArray, List.set_cons_zero, List.set_cons_succ]
          refine wpAnyH_ready (rs := [15]) (by kernel_rfl) (by simp) ?_
          refine AllReadyH.cons rfl (fun K hK => ?_) AllReadyH.nil
          rw [if_pos (by rfl)]
          have fB := BBx.free
          have yB := BBx.cell
          go_simp
          refine hK.out _ _ ⟨nbox_else hS.1 (show gr ≠ gb by omega) 0 _, (nbox_else hS.1 (show gr ≠ gb by omega) 0 _).cell⟩ (fun hS' => ?_)
          clear fB yB
          clear hK K hS
          have hS := hS'
          clear hS'
          try simp only [Act.put, List.getElem_toArray, List.getElem_cons_zero, List.getElem_cons_succ, List.setIfInBounds_toArray, List.set_cons_zero, List.set_cons_succ]
          refine wpAnyH_done (by kernel_rfl) ?_ _
          exact wbody_done hA hX hbw ha2 lgx (Nat.le_of_lt ha2) BBx HBx lg8 t HFIN.out
      · rw [if_pos (by rfl)]
        go_simp
        obtain ⟨a6, ha6⟩ : ∃ z : Nat, z = v.heap.size := ⟨_, rfl⟩
        have N2 := Is.new (w := v) a6 ha6 #[.int .i64 (sl : Int), .int .i64 0] 3 2 [sl, bareN false] rfl rfl
        have HBn : Box (v.alloc (.cells #[.int .i64 (sl : Int), .int .i64 0] 3)) g _ := ⟨BoxOf.alloc HBx.1 _, HBx.2⟩
        have BBn := BBx.alloc (.cells #[.int .i64 (sl : Int), .int .i64 0] 3)
        have tn := Ext.alloc t (.cells #[.int .i64 (sl : Int), .int .i64 0] 3)
        refine hK.out _ _ ⟨hS.1.alloc _, (hS.1.alloc (.cells #[.int .i64 (sl : Int), .int .i64 0] 3)).cell⟩ (fun hS' => ?_)
        rw [← ha6]
        clear ha6 HBx BBx t
        have HBx := HBn
        have BBx := BBn
        have t := tn
        have I2 := N2
        clear HBn BBn tn N2
        clear hK K hS
        have hS := hS'
        clear hS'
        try simp only [Act.put, List.getElem_toArray, List.getElem_cons_zero, List.getElem_cons_succ, List.setIfInBounds_toArray, List.set_cons_zero, List.set_cons_succ]
        generalize v.alloc (.cells #[.int .i64 (sl : Int), .int .i64 0] 3) = v12 at *
        refine wpAnyH_ready (rs := [0, 13]) (by kernel_rfl) (by simp) ?_
        refine AllReadyH.cons rfl (fun K hK => ?_) (AllReadyH.cons rfl (fun K hK => ?_) (AllReadyH.nil))
        · rw [if_pos (by rfl)]
          have yB := BBx.cell
          go_simp
          refine hK.out _ _ hS (fun hS' => ?_)
          clear yB
          clear hK K hS
          have hS := hS'
          clear hS'
          try simp only [Act.put, List.getElem_toArray, List.getElem_cons_zero, List.getElem_cons_succ, List.setIfInBounds_toArray, List.set_cons_zero, List.set_cons_succ]
          refine wpAnyH_ready (rs := [7, 13]) (by kernel_rfl) (by simp) ?_
          refine AllReadyH.cons rfl (fun K hK => ?_) (AllReadyH.cons rfl (fun K hK => ?_) (AllReadyH.nil))
          · rw [if_pos (by rfl)]
            go_simp
            refine (nput_int (some ⟨g, 0, none⟩) 128 128 _ (.inr rfl) (15 + 6 * k) 1 (some ⟨a6, 0, none⟩) 2 2 [sl, bareN false] (15 + 6 * (k : Int)) 1 (by omega) rfl (by decide) (by decide) (by omega) HX2.out _ HBx.bs I2).mono ?_
            rintro e v13 ⟨g7, rfl, hg7, HBn, bn⟩
            have lg7 : gb < g7 := Nat.lt_of_lt_of_le BBx.lt hg7
            have BBn := BBx.next bn
            have tn := Ext.trans t bn
            refine hK.out _ _ ⟨hS.1.next bn, (hS.1.next bn).cell⟩ (fun hS' => ?_)
            clear HBx BBx t I2
            have HBx := HBn
            have BBx := BBn
            have t := tn
            clear HBn BBn tn bn hg7
            clear hK K hS
            have hS := hS'
            clear hS'
            try simp only [Act.put, List.getElem_toArray, List.getElem_cons_zero, List.getElem_cons_succ, List.setIfInBounds_toArray, List.set_cons_zero, List.set_cons_succ]
            refine wpAnyH_ready (rs := [13]) (by kernel_rfl) (by simp) ?_
            refine AllReadyH.cons rfl (fun K hK => ?_) AllReadyH.nil
            rw [if_pos (by rfl)]
            go_simp
            obtain ⟨a13, ha13⟩ : ∃ z : Nat, z = v13.heap.size := ⟨_, rfl⟩
            have N1 := Is.new (w := v13) a13 ha13 #[.int .i64 (su : Int)] 3 1 [su] rfl rfl
            have HBn : Box (v13.alloc (.cells #[.int .i64 (su : Int)] 3)) g7 _ := ⟨BoxOf.alloc HBx.1 _, HBx.2⟩
            have BBn := BBx.alloc (.cells #[.int .i64 (su : Int)] 3)
            have tn := Ext.alloc t (.cells #[.int .i64 (su : Int)] 3)
            refine hK.out _ _ ⟨hS.1.alloc _, (hS.1.alloc (.cells #[.int .i64 (su : Int)] 3)).cell⟩ (fun hS' => ?_)
            rw [← ha13]
            clear ha13 HBx BBx t
            have HBx := HBn
            have BBx := BBn
            have t := tn
            have I1 := N1
            clear HBn BBn tn N1
            clear hK K hS
            have hS := hS'
            clear hS'
            try simp only [Act.put, List.getElem_toArray, List.getElem_cons_zero, List.getElem_cons_succ, List.setIfInBounds_toArray, List.set_cons_zero, List.set_cons_succ]
            generalize v13.alloc (.cells #[.int .i64 (su : Int)] 3) = v14 at *
            refine wpAnyH_ready (rs := [14]) (by kernel_rfl) (by simp) ?_
            refine AllReadyH.cons rfl (fun K hK => ?_) AllReadyH.nil
            rw [if_pos (by rfl)]
            go_simp
            refine (nput_int (some ⟨g7, 0, none⟩) 128 128 _ (.inr rfl) (15 + 6 * k + 2) 4 (some ⟨a13, 0, none⟩) 1 1 [su] (15 + 6 * (k : Int) + 2) 4 (by omega) rfl (by decide) (by decide) (by omega) HX1.out _ HBx.bs I1).mono ?_
            rintro e v15 ⟨g8, rfl, hg8, HBn, bn⟩
            have lg8 : gb < g8 := Nat.lt_of_lt_of_le BBx.lt hg8
            have BBn := BBx.next bn
            have tn := Ext.trans t bn
            refine hK.out _ _ ⟨hS.1.next bn, (hS.1.next bn).cell⟩ (fun hS' => ?_)
            clear HBx BBx t I1
            have HBx := HBn
            have BBx := BBn
            have t := tn
            clear HBn BBn tn bn hg8
            clear hK K hS
            have hS := hS'
            clear hS'
            try simp only [Act.put, List.getElem_toArray, List.getElem_cons_zero, List.getElem_cons_succ, List.setIfInBounds_toArray, List.set_cons_zero, List.set_cons_succ]
            refine wpAnyH_ready (rs := [15]) (by kernel_rfl) (by simp) ?_
            refine AllReadyH.cons rfl (fun K hK => ?_) AllReadyH.nil
            rw [if_pos (by rfl)]
            have fB := BBx.free
            have yB := BBx.cell
            go_simp
            refine hK.out _ _ ⟨nbox_else hS.1 (show gr ≠ gb by omega) 0 _, (nbox_else hS.1 (show gr ≠ gb by omega) 0 _).cell⟩ (fun hS' => ?_)
            clear fB yB
            clear hK K hS
            have hS := hS'
            clear hS'
            try simp only [Act.put, List.getElem_toArray, List.getElem_cons_zero, List.getElem_cons_succ, List.setIfInBounds_toArray, List.set_cons_zero, List.set_cons_succ]
            refine wpAnyH_done (by kernel_rfl) ?_ _
            exact wbody_done hA hX hbw ha2 lgx (Nat.le_of_lt ha2) BBx HBx lg8 t HFIN.out
          · rw [if_pos (by rfl)]
            go_simp
            obtain ⟨a13, ha13⟩ : ∃ z : Nat, z = v12.heap.size := ⟨_, rfl⟩
            have N1 := Is.new (w := v12) a13 ha13 #[.int .i64 (su : Int)] 3 1 [su] rfl rfl
            have HBn : Box (v12.alloc (.cells #[.int .i64 (su : Int)] 3)) g _ := ⟨BoxOf.alloc HBx.1 _, HBx.2⟩
            have BBn := BBx.alloc (.cells #[.int .i64 (su : Int)] 3)
            have tn := Ext.alloc t (.cells #[.int .i64 (su : Int)] 3)
            have In := I2.alloc (.cells #[.int .i64 (su : Int)] 3)
            refine hK.out _ _ ⟨hS.1.alloc _, (hS.1.alloc (.cells #[.int .i64 (su : Int)] 3)).cell⟩ (fun hS' => ?_)
            rw [← ha13]
            clear ha13 HBx BBx t I2
            have HBx := HBn
            have BBx := BBn
            have t := tn
            have I2 := In
            have I1 := N1
            clear HBn BBn tn N1 In
            clear hK K hS
            have hS := hS'
            clear hS'
            try simp only [Act.put, List.getElem_toArray, List.getElem_cons_zero, List.getElem_cons_succ, List.setIfInBounds_toArray, List.set_cons_zero, List.set_cons_succ]
            generalize v12.alloc (.cells #[.int .i64 (su : Int)] 3) = v16 at *
            refine wpAnyH_ready (rs := [7]) (by kernel_rfl) (by simp) ?_
            refine AllReadyH.cons rfl (fun K hK => ?_) AllReadyH.nil
            rw [if_pos (by rfl)]
            go_simp
            refine (nput_int (some ⟨g, 0, none⟩) 128 128 _ (.inr rfl) (15 + 6 * k) 1 (some ⟨a6, 0, none⟩) 2 2 [sl, bareN false] (15 + 6 * (k : Int)) 1 (by omega) rfl (by decide) (by decide) (by omega) HX2.out _ HBx.bs I2).mono ?_
            rintro e v17 ⟨g7, rfl, hg7, HBn, bn⟩
            have lg7 : gb < g7 := Nat.lt_of_lt_of_le BBx.lt hg7
            have BBn := BBx.next bn
            have tn := Ext.trans t bn
            have In := I1.below bn
            refine hK.out _ _ ⟨hS.1.next bn, (hS.1.next bn).cell⟩ (fun hS' => ?_)
            clear HBx BBx t I2 I1
            have HBx := HBn
            have BBx := BBn
            have t := tn
            have I1 := In
            clear HBn BBn tn bn hg7 In
            clear hK K hS
            have hS := hS'
            clear hS'
            try simp only [Act.put, List.getElem_toArray, List.getElem_cons_zero, List.getElem_cons_succ, List.setIfInBounds_toArray, List.set_cons_zero, List.set_cons_succ]
            refine wpAnyH_ready (rs := [14]) (by kernel_rfl) (by simp) ?_
            refine AllReadyH.cons rfl (fun K hK => ?_) AllReadyH.nil
            rw [if_pos (by rfl)]
            go_simp
            refine (nput_int (some ⟨g7, 0, none⟩) 128 128 _ (.inr rfl) (15 + 6 * k + 2) 4 (some ⟨a13, 0, none⟩) 1 1 [su] (15 + 6 * (k : Int) + 2) 4 (by omega) rfl (by decide) (by decide) (by omega) HX1.out _ HBx.bs I1).mono ?_
            rintro e v18 ⟨g8, rfl, hg8, HBn, bn⟩
            have lg8 : gb < g8 := Nat.lt_of_lt_of_le BBx.lt hg8
            have BBn := BBx.next bn
            have tn := Ext.trans t bn
            refine hK.out _ _ ⟨hS.1.next bn, (hS.1.next bn).cell⟩ (fun hS' => ?_)
            clear HBx BBx t I1
            have HBx := HBn
            have BBx := BBn
            have t := tn
            clear HBn BBn tn bn hg8
            clear hK K hS
            have hS := hS'
            clear hS'
            try simp only [Act.put, List.getElem_toArray, List.getElem_cons_zero, List.getElem_cons_succ, List.setIfInBounds_toArray, List.set_cons_zero, List.set_cons_succ]
            refine wpAnyH_ready (rs := [15]) (by kernel_rfl) (by simp) ?_
            refine AllReadyH.cons rfl (fun K hK => ?_) AllReadyH.nil
            rw [if_pos (by rfl)]
            have fB := BBx.free
            have yB := BBx.cell
            go_simp
            refine hK.out _ _ ⟨nbox_else hS.1 (show gr ≠ gb by omega) 0 _, (nbox_else hS.1 (show gr ≠ gb by omega) 0 _).cell⟩ (fun hS' => ?_)
            clear fB yB
            clear hK K hS
            have hS := hS'
            clear hS'
            try simp only [Act.put, List.getElem_toArray, List.getElem_cons_zero, List.getElem_cons_succ, List.setIfInBounds_toArray, List.set_cons_zero, List.set_cons_succ]
            refine wpAnyH_done (by kernel_rfl) ?_ _
            exact wbody_done hA hX hbw ha2 lgx (Nat.le_of_lt ha2) BBx HBx lg8 t HFIN.out
        · rw [if_pos (by rfl)]
          go_simp
          obtain ⟨a13, ha13⟩ : ∃ z : Nat, z = v12.heap.size := ⟨_, rfl⟩
          have N1 := Is.new (w := v12) a13 ha13 #[.int .i64 (su : Int)] 3 1 [su] rfl rfl
          have HBn : Box (v12.alloc (.cells #[.int .i64 (su : Int)] 3)) g _ := ⟨BoxOf.alloc HBx.1 _, HBx.2⟩
          have BBn := BBx.alloc (.cells #[.int .i64 (su : Int)] 3)
          have tn := Ext.alloc t (.cells #[.int .i64 (su : Int)] 3)
          have In := I2.alloc (.cells #[.int .i64 (su : Int)] 3)
          refine hK.out _ _ ⟨hS.1.alloc _, (hS.1.alloc (.cells #[.int .i64 (su : Int)] 3)).cell⟩ (fun hS' => ?_)
          rw [← ha13]
          clear ha13 HBx BBx t I2
          have HBx := HBn
          have BBx := BBn
          have t := tn
          have I2 := In
          have I1 := N1
          clear HBn BBn tn N1 In
          clear hK K hS
          have hS := hS'
          clear hS'
          try simp only [Act.put, List.getElem_toArray, List.getElem_cons_zero, List.getElem_cons_succ, List.setIfInBounds_toArray, List.set_cons_zero, List.set_cons_succ]
          generalize v12.alloc (.cells #[.int .i64 (su : Int)] 3) = v19 at *
          refine wpAnyH_ready (rs := [0]) (by kernel_rfl) (by simp) ?_
          refine AllReadyH.cons rfl (fun K hK => ?_) AllReadyH.nil
          rw [if_pos (by rfl)]
          have yB := BBx.cell
          go_simp
          refine hK.out _ _ hS (fun hS' => ?_)
          clear yB
          clear hK K hS
          have hS := hS'
          clear hS'
          try simp only [Act.put, List.getElem_toArray, List.getElem_cons_zero, List.getElem_cons_succ, List.setIfInBounds_toArray, List.set_cons_zero, List.set_cons_succ]
          refine wpAnyH_ready (rs := [7]) (by kernel_rfl) (by simp) ?_
          refine AllReadyH.cons rfl (fun K hK => ?_) AllReadyH.nil
          rw [if_pos (by rfl)]
          go_simp
          refine (nput_int (some ⟨g, 0, none⟩) 128 128 _ (.inr rfl) (15 + 6 * k) 1 (some ⟨a6, 0, none⟩) 2 2 [sl, bareN false] (15 + 6 * (k : Int)) 1 (by omega) rfl (by decide) (by decide) (by omega) HX2.out _ HBx.bs I2).mono ?_
          rintro e v20 ⟨g7, rfl, hg7, HBn, bn⟩
          have lg7 : gb < g7 := Nat.lt_of_lt_of_le BBx.lt hg7
          have BBn := BBx.next bn
          have tn := Ext.trans t bn
          have In := I1.below bn
          refine hK.out _ _ ⟨hS.1.next bn, (hS.1.next bn).cell⟩ (fun hS' => ?_)
          clear HBx BBx t I2 I1
          have HBx := HBn
          have BBx := BBn
          have t := tn
          have I1 := In
          clear HBn BBn tn bn hg7 In
          clear hK K hS
          have hS := hS'
          clear hS'
          try simp only [Act.put, List.getElem_toArray, List.getElem_cons_zero, List.getElem_cons_succ, List.setIfInBounds_toArray, List.set_cons_zero, List.set_cons_succ]
          refine wpAnyH_ready (rs := [14]) (by kernel_rfl) (by simp) ?_
          refine AllReadyH.cons rfl (fun K hK => ?_) AllReadyH.nil
          rw [if_pos (by rfl)]
          go_simp
          refine (nput_int (some ⟨g7, 0, none⟩) 128 128 _ (.inr rfl) (15 + 6 * k + 2) 4 (some ⟨a13, 0, none⟩) 1 1 [su] (15 + 6 * (k : Int) + 2) 4 (by omega) rfl (by decide) (by decide) (by omega) HX1.out _ HBx.bs I1).mono ?_
          rintro e v21 ⟨g8, rfl, hg8, HBn, bn⟩
          have lg8 : gb < g8 := Nat.lt_of_lt_of_le BBx.lt hg8
          have BBn := BBx.next bn
          have tn := Ext.trans t bn
          refine hK.out _ _ ⟨hS.1.next bn, (hS.1.next bn).cell⟩ (fun hS' => ?_)
          clear HBx BBx t I1
          have HBx := HBn
          have BBx := BBn
          have t := tn
          clear HBn BBn tn bn hg8
          clear hK K hS
          have hS := hS'
          clear hS'
          try simp only [Act.put, List.getElem_toArray, List.getElem_cons_zero, List.getElem_cons_succ, List.setIfInBounds_toArray, List.set_cons_zero, List.set_cons_succ]
          refine wpAnyH_ready (rs := [15]) (by kernel_rfl) (by simp) ?_
          refine AllReadyH.cons rfl (fun K hK => ?_) AllReadyH.nil
          rw [if_pos (by rfl)]
          have fB := BBx.free
          have yB := BBx.cell
          go_simp
          refine hK.out _ _ ⟨nbox_else hS.1 (show gr ≠ gb by omega) 0 _, (nbox_else hS.1 (show gr ≠ gb by omega) 0 _).cell⟩ (fun hS' => ?_)
          clear fB yB
          clear hK K hS
          have hS := hS'
          clear hS'
          try simp only [Act.put, List.getElem_toArray, List.getElem_cons_zero, List.getElem_cons_succ, List.setIfInBounds_toArray, List.set_cons_zero, List.set_cons_succ]
          refine wpAnyH_done (by kernel_rfl) ?_ _
          exact wbody_done hA hX hbw ha2 lgx (Nat.le_of_lt ha2) BBx HBx lg8 t HFIN.out
      · rw [if_pos (by rfl)]
        go_simp
        obtain ⟨a13, ha13⟩ : ∃ z : Nat, z = v.heap.size := ⟨_, rfl⟩
        have N1 := Is.new (w := v) a13 ha13 #[.int .i64 (su : Int)] 3 1 [su] rfl rfl
        have HBn : Box (v.alloc (.cells #[.int .i64 (su : Int)] 3)) g _ := ⟨BoxOf.alloc HBx.1 _, HBx.2⟩
        have BBn := BBx.alloc (.cells #[.int .i64 (su : Int)] 3)
        have tn := Ext.alloc t (.cells #[.int .i64 (su : Int)] 3)
        refine hK.out _ _ ⟨hS.1.alloc _, (hS.1.alloc (.cells #[.int .i64 (su : Int)] 3)).cell⟩ (fun hS' => ?_)
        rw [← ha13]
        clear ha13 HBx BBx t
        have HBx := HBn
        have BBx := BBn
        have t := tn
        have I1 := N1
        clear HBn BBn tn N1
        clear hK K hS
        have hS := hS'
        clear hS'
        try simp only [Act.put, List.getElem_toArray, List.getElem_cons_zero, List.getElem_cons_succ, List.setIfInBounds_toArray, List.set_cons_zero, List.set_cons_succ]
        generalize v.alloc (.cells #[.int .i64 (su : Int)] 3) = v22 at *
        refine wpAnyH_ready (rs := [0, 6]) (by kernel_rfl) (by simp) ?_
        refine AllReadyH.cons rfl (fun K hK => ?_) (AllReadyH.cons rfl (fun K hK => ?_) (AllReadyH.nil))
        · rw [if_pos (by rfl)]
          have yB := BBx.cell
          go_simp
          refine hK.out _ _ hS (fun hS' => ?_)
          clear yB
          clear hK K hS
          have hS := hS'
          clear hS'
          try simp only [Act.put, List.getElem_toArray, List.getElem_cons_zero, List.getElem_cons_succ, List.setIfInBounds_toArray, List.set_cons_zero, List.set_cons_succ]
          refine wpAnyH_ready (rs := [6]) (by kernel_rfl) (by simp) ?_
          refine AllReadyH.cons rfl (fun K hK => ?_) AllReadyH.nil
          rw [if_pos (by rfl)]
          go_simp
          obtain ⟨a6, ha6⟩ : ∃ z : Nat, z = v22.heap.size := ⟨_, rfl⟩
          have N2 := Is.new (w := v22) a6 ha6 #[.int .i64 (sl : Int), .int .i64 0] 3 2 [sl, bareN false] rfl rfl
          have HBn : Box (v22.alloc (.cells #[.int .i64 (sl : Int), .int .i64 0] 3)) g _ := ⟨BoxOf.alloc HBx.1 _, HBx.2⟩
          have BBn := BBx.alloc (.cells #[.int .i64 (sl : Int), .int .i64 0] 3)
          have tn := Ext.alloc t (.cells #[.int .i64 (sl : Int), .int .i64 0] 3)
          have In := I1.alloc (.cells #[.int .i64 (sl : Int), .int .i64 0] 3)
          refine hK.out _ _ ⟨hS.1.alloc _, (hS.1.alloc (.cells #[.int .i64 (sl : Int), .int .i64 0] 3)).cell⟩ (fun hS' => ?_)
          rw [← ha6]
          clear ha6 HBx BBx t I1
          have HBx := HBn
          have BBx := BBn
          have t := tn
          have I1 := In
          have I2 := N2
          clear HBn BBn tn N2 In
          clear hK K hS
          have hS := hS'
          clear hS'
          try simp only [Act.put, List.getElem_toArray, List.getElem_cons_zero, List.getElem_cons_succ, List.setIfInBounds_toArray, List.set_cons_zero, List.set_cons_succ]
          generalize v22.alloc (.cells #[.int .i64 (sl : Int), .int .i64 0] 3) = v23 at *
          refine wpAnyH_ready (rs := [7]) (by kernel_rfl) (by simp) ?_
          refine AllReadyH.cons rfl (fun K hK => ?_) AllReadyH.nil
          rw [if_pos (by rfl)]
          go_simp
          refine (nput_int (some ⟨g, 0, none⟩) 128 128 _ (.inr rfl) (15 + 6 * k) 1 (some ⟨a6, 0, none⟩) 2 2 [sl, bareN false] (15 + 6 * (k : Int)) 1 (by omega) rfl (by decide) (by decide) (by omega) HX2.out _ HBx.bs I2).mono ?_
          rintro e v24 ⟨g7, rfl, hg7, HBn, bn⟩
          have lg7 : gb < g7 := Nat.lt_of_lt_of_le BBx.lt hg7
          have BBn := BBx.next bn
          have tn := Ext.trans t bn
          have In := I1.below bn
          refine hK.out _ _ ⟨hS.1.next bn, (hS.1.next bn).cell⟩ (fun hS' => ?_)
          clear HBx BBx t I2 I1
          have HBx := HBn
          have BBx := BBn
          have t := tn
          have I1 := In
          clear HBn BBn tn bn hg7 In
          clear hK K hS
          have hS := hS'
          clear hS'
          try simp only [Act.put, List.getElem_toArray, List.getElem_cons_zero, List.getElem_cons_succ, List.setIfInBounds_toArray, List.set_cons_zero, List.set_cons_succ]
          refine wpAnyH_ready (rs := [14]) (by kernel_rfl) (by simp) ?_
          refine AllReadyH.cons rfl (fun K hK => ?_) AllReadyH.nil
          rw [if_pos (by rfl)]
          go_simp
          refine (nput_int (some ⟨g7, 0, none⟩) 128 128 _ (.inr rfl) (15 + 6 * k + 2) 4 (some ⟨a13, 0, none⟩) 1 1 [su] (15 + 6 * (k : Int) + 2) 4 (by omega) rfl (by decide) (by decide) (by omega) HX1.out _ HBx.bs I1).mono ?_
          rintro e v25 ⟨g8, rfl, hg8, HBn, bn⟩
          have lg8 : gb < g8 := Nat.lt_of_lt_of_le BBx.lt hg8
          have BBn := BBx.next bn
          have tn := Ext.trans t bn
          refine hK.out _ _ ⟨hS.1.next bn, (hS.1.next bn).cell⟩ (fun hS' => ?_)
          clear HBx BBx t I1
          have HBx := HBn
          have BBx := BBn
          have t := tn
          clear HBn BBn tn bn hg8
          clear hK K hS
          have hS := hS'
          clear hS'
          try simp only [Act.put, List.getElem_toArray, List.getElem_cons_zero, List.getElem_cons_succ, List.setIfInBounds_toArray, List.set_cons_zero, List.set_cons_succ]
          refine wpAnyH_ready (rs := [15]) (by kernel_rfl) (by simp) ?_
          refine AllReadyH.cons rfl (fun K hK => ?_) AllReadyH.nil
          rw [if_pos (by rfl)]
          have fB := BBx.free
          have yB := BBx.cell
          go_simp
          refine hK.out _ _ ⟨nbox_else hS.1 (show gr ≠ gb by omega) 0 _, (nbox_else hS.1 (show gr ≠ gb by omega) 0 _).cell⟩ (fun hS' => ?_)
          clear fB yB
          clear hK K hS
          have hS := hS'
          clear hS'
          try simp only [Act.put, List.getElem_toArray, List.getElem_cons_zero, List.getElem_cons_succ, List.setIfInBounds_toArray, List.set_cons_zero, List.set_cons_succ]
          refine wpAnyH_done (by kernel_rfl) ?_ _
          exact wbody_done hA hX hbw ha2 lgx (Nat.le_of_lt ha2) BBx HBx lg8 t HFIN.out
        · rw [if_pos (by rfl)]
          go_simp
          obtain ⟨a6, ha6⟩ : ∃ z : Nat, z = v22.heap.size := ⟨_, rfl⟩
          have N2 := Is.new (w := v22) a6 ha6 #[.int .i64 (sl : Int), .int .i64 0] 3 2 [sl, bareN false] rfl rfl
          have HBn : Box (v22.alloc (.cells #[.int .i64 (sl : Int), .int .i64 0] 3)) g _ := ⟨BoxOf.alloc HBx.1 _, HBx.2⟩
          have BBn := BBx.alloc (.cells #[.int .i64 (sl : Int), .int .i64 0] 3)
          have tn := Ext.alloc t (.cells #[.int .i64 (sl : Int), .int .i64 0] 3)
          have In := I1.alloc (.cells #[.int .i64 (sl : Int), .int .i64 0] 3)
          refine hK.out _ _ ⟨hS.1.alloc _, (hS.1.alloc (.cells #[.int .i64 (sl : Int), .int .i64 0] 3)).cell⟩ (fun hS' => ?_)
          rw [← ha6]
          clear ha6 HBx BBx t I1
          have HBx := HBn
          have BBx := BBn
          have t := tn
          have I1 := In
          have I2 := N2
          clear HBn BBn tn N2 In
          clear hK K hS
          have hS := hS'
          clear hS'
          try simp only [Act.put, List.getElem_toArray, List.getElem_cons_zero, List.getElem_cons_succ, List.setIfInBounds_toArray, List.set_cons_zero, List.set_cons_succ]
          generalize v22.alloc (.cells #[.int .i64 (sl : Int), .int .i64 0] 3) = v26 at *
          refine wpAnyH_ready (rs := [0]) (by kernel_rfl) (by simp) ?_
          refine AllReadyH.cons rfl (fun K hK => ?_) AllReadyH.nil
          rw [if_pos (by rfl)]
          have yB := BBx.cell
          go_simp
          refine hK.out _ _ hS (fun hS' => ?_)
          clear yB
          clear hK K hS
          have hS := hS'
          clear hS'
          try simp only [Act.put, List.getElem_toArray, List.getElem_cons_zero, List.getElem_cons_succ, List.setIfInBounds_toArray, List.set_cons_zero, List.set_cons_succ]
          refine wpAnyH_ready (rs := [7]) (by kernel_rfl) (by simp) ?_
          refine AllReadyH.cons rfl (fun K hK => ?_) AllReadyH.nil
          rw [if_pos (by rfl)]
          go_simp
          refine (nput_int (some ⟨g, 0, none⟩) 128 128 _ (.inr rfl) (15 + 6 * k) 1 (some ⟨a6, 0, none⟩) 2 2 [sl, bareN false] (15 + 6 * (k : Int)) 1 (by omega) rfl (by decide) (by decide) (by omega) HX2.out _ HBx.bs I2).mono ?_
          rintro e v27 ⟨g7, rfl, hg7, HBn, bn⟩
          have lg7 : gb < g7 := Nat.lt_of_lt_of_le BBx.lt hg7
          have BBn := BBx.next bn
          have tn := Ext.trans t bn
          have In := I1.below bn
          refine hK.out _ _ ⟨hS.1.next bn, (hS.1.next bn).cell⟩ (fun hS' => ?_)
          clear HBx BBx t I2 I1
          have HBx := HBn
          have BBx := BBn
          have t := tn
          have I1 := In
          clear HBn BBn tn bn hg7 In
          clear hK K hS
          have hS := hS'
          clear hS'
          try simp only [Act.put, List.getElem_toArray, List.getElem_cons_zero, List.getElem_cons_succ, List.setIfInBounds_toArray, List.set_cons_zero, List.set_cons_succ]
          refine wpAnyH_ready (rs := [14]) (by kernel_rfl) (by simp) ?_
          refine AllReadyH.cons rfl (fun K hK => ?_) AllReadyH.nil
          rw [if_pos (by rfl)]
          go_simp
          refine (nput_int (some ⟨g7, 0, none⟩) 128 128 _ (.inr rfl) (15 + 6 * k + 2) 4 (some ⟨a13, 0, none⟩) 1 1 [su] (15 + 6 * (k : Int) + 2) 4 (by omega) rfl (by decide) (by decide) (by omega) HX1.out _ HBx.bs I1).mono ?_
          rintro e v28 ⟨g8, rfl, hg8, HBn, bn⟩
          have lg8 : gb < g8 := Nat.lt_of_lt_of_le BBx.lt hg8
          have BBn := BBx.next bn
          have tn := Ext.trans t bn
          refine hK.out _ _ ⟨hS.1.next bn, (hS.1.next bn).cell⟩ (fun hS' => ?_)
          clear HBx BBx t I1
          have HBx := HBn
          have BBx := BBn
          have t := tn
          clear HBn BBn tn bn hg8
          clear hK K hS
          have hS := hS'
          clear hS'
          try simp only [Act.put, List.getElem_toArray, List.getElem_cons_zero, List.getElem_cons_succ, List.setIfInBounds_toArray, List.set_cons_zero, List.set_cons_succ]
          refine wpAnyH_ready (rs := [15]) (by kernel_rfl) (by simp) ?_
          refine AllReadyH.cons rfl (fun K hK => ?_) AllReadyH.nil
          rw [if_pos (by rfl)]
          have fB := BBx.free
          have yB := BBx.cell
          go_simp
          refine hK.out _ _ ⟨nbox_else hS.1 (show gr ≠ gb by omega) 0 _, (nbox_else hS.1 (show gr ≠ gb by omega) 0 _).cell⟩ (fun hS' => ?_)
          clear fB yB
          clear hK K hS
          have hS := hS'
          clear hS'
          try simp only [Act.put, List.getElem_toArray, List.getElem_cons_zero, List.getElem_cons_succ, List.setIfInBounds_toArray, List.set_cons_zero, List.set_cons_succ]
          refine wpAnyH_done (by kernel_rfl) ?_ _
          exact wbody_done hA hX hbw ha2 lgx (Nat.le_of_lt ha2) BBx HBx lg8 t HFIN.out
    · gi_wp2
      have hx2 : ∀ y ∈ [sl, bareN true], y < 256 ^ 1 := by simp [bareN]; omega
      have hx1 : ∀ y ∈ [su], y < 256 ^ 4 := by simp; omega
      have HX2 := Lib.hid hx2
      have HX1 := Lib.hid hx1
      clear hx2 hx1
      obtain ⟨gr, hgr⟩ : ∃ z : Nat, z = W.heap.size := ⟨_, rfl⟩
      have B1 := hB.alloc (.cells #[.int .u8 (sl : Int), .bool true, .int .u32 (su : Int)] 27)
      have R1 := BoxOf.new' W gr #[.int .u8 (sl : Int), .bool true, .int .u32 (su : Int)] 27 hgr
      have H1 : Box (W.alloc (.cells #[.int .u8 (sl : Int), .bool true, .int .u32 (su : Int)] 27)) g _ := ⟨BoxOf.alloc hH.1 _, hH.2⟩
      have t1 := Ext.alloc (Below.refl W.heap.size W) (.cells #[.int .u8 (sl : Int), .bool true, .int .u32 (su : Int)] 27)
      have lgr : gb < gr := by rw [hgr]; exact hB.lt
      rw [← hgr]
      generalize W.alloc (.cells #[.int .u8 (sl : Int), .bool true, .int .u32 (su : Int)] 27) = W1 at *
      have q5 : IntKind.i64.wrap (sl : Int) = (sl : Int) := i64_fit (by omega)
      have q6 : IntKind.i64.wrap (su : Int) = (su : Int) := IntWalk.i64_in _ (by omega)
      have q7 : IntKind.i64.wrap (15 + 6 * (k : Int) + 2) = 15 + 6 * (k : Int) + 2 := i64_fit (by omega)
      refine region_inRound (by kernel_rfl) (by kernel_rfl) (S := fun w' => BoxOf w' gr #[.int .u8 (sl : Int), .bool true, .int .u32 (su : Int)] 27 ∧ ∀ o, w'.cell? ⟨gr, o, none⟩ = (#[.int .u8 (sl : Int), .bool true, .int .u32 (su : Int)] : Array Value).toList[o]?) ⟨BoxOf.drew R1, (BoxOf.drew R1).cell⟩ (fun hS => ?_)
      have BBx := BoxOf.drew B1
      have HBx : Box W1.drew g _ := ⟨BoxOf.drew H1.1, H1.2⟩
      have t := Ext.drew t1
      clear B1 H1 R1 t1 hgr
      generalize W1.drew = v at *
      refine wpAnyH_take (i := 1) (oi := _) (v := ?_) rfl (by kernel_rfl) (by kernel_rfl) (by kernel_rfl) (fun _ _ _ h => h) (Or.inl ⟨by rfl, ?_⟩) hS ?_
      rotate_left
      · (intro w hSw; (try dsimp only at hSw); go_simp; (try with_reducible rfl))
      rotate_left
      simp only [Act.put, List.getElem_toArray, List.getElem_cons_zero, List.getElem_cons_succ, List.setIfInBounds_toArray, List.set_cons_zero, List.set_cons_succ]
      refine wpAnyH_take (i := 2) (oi := _) (v := ?_) rfl (by kernel_rfl) (by kernel_rfl) (by kernel_rfl) (fun _ _ _ h => h) (Or.inl ⟨by rfl, ?_⟩) hS ?_
      rotate_left
      · (intro w hSw; (try dsimp only at hSw); go_simp; (try with_reducible rfl))
      rotate_left
      simp only [Act.put, List.getElem_toArray, List.getElem_cons_zero, List.getElem_cons_succ, List.setIfInBounds_toArray, List.set_cons_zero, List.set_cons_succ]
      refine wpAnyH_take (i := 3) (oi := _) (v := ?_) rfl (by kernel_rfl) (by kernel_rfl) (by kernel_rfl) (fun _ _ _ h => h) (Or.inl ⟨by rfl, ?_⟩) hS ?_
      rotate_left
      · (intro w hSw; (try dsimp only at hSw); go_simp; (try with_reducible rfl))
      rotate_left
      simp only [Act.put, List.getElem_toArray, List.getElem_cons_zero, List.getElem_cons_succ, List.setIfInBounds_toArray, List.set_cons_zero, List.set_cons_succ]
      refine wpAnyH_take (i := 4) (oi := _) (v := ?_) rfl (by kernel_rfl) (by kernel_rfl) (by kernel_rfl) (fun _ _ _ h => h) (Or.inl ⟨by rfl, ?_⟩) hS ?_
      rotate_left
      · (intro w hSw; (try dsimp only at hSw); go_simp; (try with_reducible rfl))
      rotate_left
      simp only [Act.put, List.getElem_toArray, List.getElem_cons_zero, List.getElem_cons_succ, List.setIfInBounds_toArray, List.set_cons_zero, List.set_cons_succ]
      refine wpAnyH_take (i := 5) (oi := _) (v := ?_) rfl (by kernel_rfl) (by kernel_rfl) (by kernel_rfl) (fun _ _ _ h => h) (Or.inl ⟨by rfl, ?_⟩) hS ?_
      rotate_left
      · (intro w hSw; (try dsimp only at hSw); go_simp; (try with_reducible rfl))
      rotate_left
      simp only [Act.put, List.getElem_toArray, List.getElem_cons_zero, List.getElem_cons_succ, List.setIfInBounds_toArray, List.set_cons_zero, List.set_cons_succ]
      refine wpAnyH_take (i := 8) (oi := _) (v := ?_) rfl (by kernel_rfl) (by kernel_rfl) (by kernel_rfl) (fun _ _ _ h => h) (Or.inl ⟨by rfl, ?_⟩) hS ?_
      rotate_left
      · (intro w hSw; (try dsimp only at hSw); go_simp; (try with_reducible rfl))
      rotate_left
      simp only [Act.put, List.getElem_toArray, List.getElem_cons_zero, List.getElem_cons_succ, List.setIfInBounds_toArray, List.set_cons_zero, List.set_cons_succ]
      refine wpAnyH_take (i := 9) (oi := _) (v := ?_) rfl (by kernel_rfl) (by kernel_rfl) (by kernel_rfl) (fun _ _ _ h => h) (Or.inl ⟨by rfl, ?_⟩) hS ?_
      rotate_left
      · (intro w hSw; (try dsimp only at hSw); go_simp; (try with_reducible rfl))
      rotate_left
      simp only [Act.put, List.getElem_toArray, List.getElem_cons_zero, List.getElem_cons_succ, List.setIfInBounds_toArray, List.set_cons_zero, List.set_cons_succ]
      refine wpAnyH_take (i := 10) (oi := _) (v := ?_) rfl (by kernel_rfl) (by kernel_rfl) (by kernel_rfl) (fun _ _ _ h => h) (Or.inl ⟨by rfl, ?_⟩) hS ?_
      rotate_left
      · (intro w hSw; (try dsimp only at hSw); go_simp; (try with_reducible rfl))
      rotate_left
      simp only [Act.put, List.getElem_toArray, List.getElem_cons_zero, List.getElem_cons_succ, List.setIfInBounds_toArray, List.set_cons_zero, List.set_cons_succ]
      refine wpAnyH_take (i := 11) (oi := _) (v := ?_) rfl (by kernel_rfl) (by kernel_rfl) (by kernel_rfl) (fun _ _ _ h => h) (Or.inl ⟨by rfl, ?_⟩) hS ?_
      rotate_left
      · (intro w hSw; (try dsimp only at hSw); go_simp; (try with_reducible rfl))
      rotate_left
      simp only [Act.put, List.getElem_toArray, List.getElem_cons_zero, List.getElem_cons_succ, List.setIfInBounds_toArray, List.set_cons_zero, List.set_cons_succ]
      refine wpAnyH_take (i := 12) (oi := _) (v := ?_) rfl (by kernel_rfl) (by kernel_rfl) (by kernel_rfl) (fun _ _ _ h => h) (Or.inl ⟨by rfl, ?_⟩) hS ?_
      rotate_left
      · (intro w hSw; (try dsimp only at hSw); go_simp; (try with_reducible rfl))
      rotate_left
      simp only [Act.put, List.getElem_toArray, List.getElem_cons_zero, List.getElem_cons_succ, List.setIfInBounds_toArray, List.set_cons_zero, List.set_cons_succ]
      clear q5 q6 q7
      refine wpAnyH_ready (rs := [0, 6, 13]) (by kernel_rfl) (by simp) ?_
      refine AllReadyH.cons rfl (fun K hK => ?_) (AllReadyH.cons rfl (fun K hK => ?_) (AllReadyH.cons rfl (fun K hK => ?_) (AllReadyH.nil)))
      · rw [if_pos (by rfl)]
        have yB := BBx.cell
        go_simp
        refine hK.out _ _ hS (fun hS' => ?_)
        clear yB
        clear hK K hS
        have hS := hS'
        clear hS'
        try simp only [Act.put, List.getElem_toArray, List.getElem_cons_zero, List.getElem_cons_succ, List.setIfInBounds_toArray, List.set_cons_zero, List.set_cons_succ]
        refine wpAnyH_ready (rs := [6, 13]) (by kernel_rfl) (by simp) ?_
        refine AllReadyH.cons rfl (fun K hK => ?_) (AllReadyH.cons rfl (fun K hK => ?_) (AllReadyH.nil))
        · rw [if_pos (by rfl)]
          go_simp
          obtain ⟨a6, ha6⟩ : ∃ z : Nat, z = v.heap.size := ⟨_, rfl⟩
          have N2 := Is.new (w := v) a6 ha6 #[.int .i64 (sl : Int), .int .i64 1] 3 2 [sl, bareN true] rfl rfl
          have HBn : Box (v.alloc (.cells #[.int .i64 (sl : Int), .int .i64 1] 3)) g _ := ⟨BoxOf.alloc HBx.1 _, HBx.2⟩
          have BBn := BBx.alloc (.cells #[.int .i64 (sl : Int), .int .i64 1] 3)
          have tn := Ext.alloc t (.cells #[.int .i64 (sl : Int), .int .i64 1] 3)
          refine hK.out _ _ ⟨hS.1.alloc _, (hS.1.alloc (.cells #[.int .i64 (sl : Int), .int .i64 1] 3)).cell⟩ (fun hS' => ?_)
          rw [← ha6]
          clear ha6 HBx BBx t
          have HBx := HBn
          have BBx := BBn
          have t := tn
          have I2 := N2
          clear HBn BBn tn N2
          clear hK K hS
          have hS := hS'
          clear hS'
          try simp only [Act.put, List.getElem_toArray, List.getElem_cons_zero, List.getElem_cons_succ, List.setIfInBounds_toArray, List.set_cons_zero, List.set_cons_succ]
          generalize v.alloc (.cells #[.int .i64 (sl : Int), .int .i64 1] 3) = v1 at *
          refine wpAnyH_ready (rs := [7, 13]) (by kernel_rfl) (by simp) ?_
          refine AllReadyH.cons rfl (fun K hK => ?_) (AllReadyH.cons rfl (fun K hK => ?_) (AllReadyH.nil))
          · rw [if_pos (by rfl)]
            go_simp
            refine (nput_int (some ⟨g, 0, none⟩) 128 128 _ (.inr rfl) (15 + 6 * k) 1 (some ⟨a6, 0, none⟩) 2 2 [sl, bareN true] (15 + 6 * (k : Int)) 1 (by omega) rfl (by decide) (by decide) (by omega) HX2.out _ HBx.bs I2).mono ?_
            rintro e v2 ⟨g7, rfl, hg7, HBn, bn⟩
            have lg7 : gb < g7 := Nat.lt_of_lt_of_le BBx.lt hg7
            have BBn := BBx.next bn
            have tn := Ext.trans t bn
            refine hK.out _ _ ⟨hS.1.next bn, (hS.1.next bn).cell⟩ (fun hS' => ?_)
            clear HBx BBx t I2
            have HBx := HBn
            have BBx := BBn
            have t := tn
            clear HBn BBn tn bn hg7
            clear hK K hS
            have hS := hS'
            clear hS'
            try simp only [Act.put, List.getElem_toArray, List.getElem_cons_zero, List.getElem_cons_succ, List.setIfInBounds_toArray, List.set_cons_zero, List.set_cons_succ]
            refine wpAnyH_ready (rs := [13]) (by kernel_rfl) (by simp) ?_
            refine AllReadyH.cons rfl (fun K hK => ?_) AllReadyH.nil
            rw [if_pos (by rfl)]
            go_simp
            obtain ⟨a13, ha13⟩ : ∃ z : Nat, z = v2.heap.size := ⟨_, rfl⟩
            have N1 := Is.new (w := v2) a13 ha13 #[.int .i64 (su : Int)] 3 1 [su] rfl rfl
            have HBn : Box (v2.alloc (.cells #[.int .i64 (su : Int)] 3)) g7 _ := ⟨BoxOf.alloc HBx.1 _, HBx.2⟩
            have BBn := BBx.alloc (.cells #[.int .i64 (su : Int)] 3)
            have tn := Ext.alloc t (.cells #[.int .i64 (su : Int)] 3)
            refine hK.out _ _ ⟨hS.1.alloc _, (hS.1.alloc (.cells #[.int .i64 (su : Int)] 3)).cell⟩ (fun hS' => ?_)
            rw [← ha13]
            clear ha13 HBx BBx t
            have HBx := HBn
            have BBx := BBn
            have t := tn
            have I1 := N1
            clear HBn BBn tn N1
            clear hK K hS
            have hS := hS'
            clear hS'
            try simp only [Act.put, List.getElem_toArray, List.getElem_cons_zero, List.getElem_cons_succ, List.setIfInBounds_toArray, List.set_cons_zero, List.set_cons_succ]
            generalize v2.alloc (.cells #[.int .i64 (su : Int)] 3) = v3 at *
            refine wpAnyH_ready (rs := [14]) (by kernel_rfl) (by simp) ?_
            refine AllReadyH.cons rfl (fun K hK => ?_) AllReadyH.nil
            rw [if_pos (by rfl)]
            go_simp
            refine (nput_int (some ⟨g7, 0, none⟩) 128 128 _ (.inr rfl) (15 + 6 * k + 2) 4 (some ⟨a13, 0, none⟩) 1 1 [su] (15 + 6 * (k : Int) + 2) 4 (by omega) rfl (by decide) (by decide) (by omega) HX1.out _ HBx.bs I1).mono ?_
            rintro e v4 ⟨g8, rfl, hg8, HBn, bn⟩
            have lg8 : gb < g8 := Nat.lt_of_lt_of_le BBx.lt hg8
            have BBn := BBx.next bn
            have tn := Ext.trans t bn
            refine hK.out _ _ ⟨hS.1.next bn, (hS.1.next bn).cell⟩ (fun hS' => ?_)
            clear HBx BBx t I1
            have HBx := HBn
            have BBx := BBn
            have t := tn
            clear HBn BBn tn bn hg8
            clear hK K hS
            have hS := hS'
            clear hS'
            try simp only [Act.put, List.getElem_toArray, List.getElem_cons_zero, List.getElem_cons_succ, List.setIfInBounds_toArray, List.set_cons_zero, List.set_cons_succ]
            refine wpAnyH_ready (rs := [15]) (by kernel_rfl) (by simp) ?_
            refine AllReadyH.cons rfl (fun K hK => ?_) AllReadyH.nil
            rw [if_pos (by rfl)]
            have fB := BBx.free
            have yB := BBx.cell
            go_simp
            refine hK.out _ _ ⟨nbox_else hS.1 (show gr ≠ gb by omega) 0 _, (nbox_else hS.1 (show gr ≠ gb by omega) 0 _).cell⟩ (fun hS' => ?_)
            clear fB yB
            clear hK K hS
            have hS := hS'
            clear hS'
            try simp only [Act.put, List.getElem_toArray, List.getElem_cons_zero, List.getElem_cons_succ, List.setIfInBounds_toArray, List.set_cons_zero, List.set_cons_succ]
            refine wpAnyH_done (by kernel_rfl) ?_ _
            exact wbody_done hA hX hbw ha2 lgx (Nat.le_of_lt ha2) BBx HBx lg8 t HFIN.out
          · rw [if_pos (by rfl)]
            go_simp
            obtain ⟨a13, ha13⟩ : ∃ z : Nat, z = v1.heap.size := ⟨_, rfl⟩
            have N1 := Is.new (w := v1) a13 ha13 #[.int .i64 (su : Int)] 3 1 [su] rfl rfl
            have HBn : Box (v1.alloc (.cells #[.int .i64 (su : Int)] 3)) g _ := ⟨BoxOf.alloc HBx.1 _, HBx.2⟩
            have BBn := BBx.alloc (.cells #[.int .i64 (su : Int)] 3)
            have tn := Ext.alloc t (.cells #[.int .i64 (su : Int)] 3)
            have In := I2.alloc (.cells #[.int .i64 (su : Int)] 3)
            refine hK.out _ _ ⟨hS.1.alloc _, (hS.1.alloc (.cells #[.int .i64 (su : Int)] 3)).cell⟩ (fun hS' => ?_)
            rw [← ha13]
            clear ha13 HBx BBx t I2
            have HBx := HBn
            have BBx := BBn
            have t := tn
            have I2 := In
            have I1 := N1
            clear HBn BBn tn N1 In
            clear hK K hS
            have hS := hS'
            clear hS'
            try simp only [Act.put, List.getElem_toArray, List.getElem_cons_zero, List.getElem_cons_succ, List.setIfInBounds_toArray, List.set_cons_zero, List.set_cons_succ]
            generalize v1.alloc (.cells #[.int .i64 (su : Int)] 3) = v5 at *
            refine wpAnyH_ready (rs := [7]) (by kernel_rfl) (by simp) ?_
            refine AllReadyH.cons rfl (fun K hK => ?_) AllReadyH.nil
            rw [if_pos (by rfl)]
            go_simp
            refine (nput_int (some ⟨g, 0, none⟩) 128 128 _ (.inr rfl) (15 + 6 * k) 1 (some ⟨a6, 0, none⟩) 2 2 [sl, bareN true] (15 + 6 * (k : Int)) 1 (by omega) rfl (by decide) (by decide) (by omega) HX2.out _ HBx.bs I2).mono ?_
            rintro e v6 ⟨g7, rfl, hg7, HBn, bn⟩
            have lg7 : gb < g7 := Nat.lt_of_lt_of_le BBx.lt hg7
            have BBn := BBx.next bn
            have tn := Ext.trans t bn
            have In := I1.below bn
            refine hK.out _ _ ⟨hS.1.next bn, (hS.1.next bn).cell⟩ (fun hS' => ?_)
            clear HBx BBx t I2 I1
            have HBx := HBn
            have BBx := BBn
            have t := tn
            have I1 := In
            clear HBn BBn tn bn hg7 In
            clear hK K hS
            have hS := hS'
            clear hS'
            try simp only [Act.put, List.getElem_toArray, List.getElem_cons_zero, List.getElem_cons_succ, List.setIfInBounds_toArray, List.set_cons_zero, List.set_cons_succ]
            refine wpAnyH_ready (rs := [14]) (by kernel_rfl) (by simp) ?_
            refine AllReadyH.cons rfl (fun K hK => ?_) AllReadyH.nil
            rw [if_pos (by rfl)]
            go_simp
            refine (nput_int (some ⟨g7, 0, none⟩) 128 128 _ (.inr rfl) (15 + 6 * k + 2) 4 (some ⟨a13, 0, none⟩) 1 1 [su] (15 + 6 * (k : Int) + 2) 4 (by omega) rfl (by decide) (by decide) (by omega) HX1.out _ HBx.bs I1).mono ?_
            rintro e v7 ⟨g8, rfl, hg8, HBn, bn⟩
            have lg8 : gb < g8 := Nat.lt_of_lt_of_le BBx.lt hg8
            have BBn := BBx.next bn
            have tn := Ext.trans t bn
            refine hK.out _ _ ⟨hS.1.next bn, (hS.1.next bn).cell⟩ (fun hS' => ?_)
            clear HBx BBx t I1
            have HBx := HBn
            have BBx := BBn
            have t := tn
            clear HBn BBn tn bn hg8
            clear hK K hS
            have hS := hS'
            clear hS'
            try simp only [Act.put, List.getElem_toArray, List.getElem_cons_zero, List.getElem_cons_succ, List.setIfInBounds_toArray, List.set_cons_zero, List.set_cons_succ]
            refine wpAnyH_ready (rs := [15]) (by kernel_rfl) (by simp) ?_
            refine AllReadyH.cons rfl (fun K hK => ?_) AllReadyH.nil
            rw [if_pos (by rfl)]
            have fB := BBx.free
            have yB := BBx.cell
            go_simp
            refine hK.out _ _ ⟨nbox_else hS.1 (show gr ≠ gb by omega) 0 _, (nbox_else hS.1 (show gr ≠ gb by omega) 0 _).cell⟩ (fun hS' => ?_)
            clear fB yB
            clear hK K hS
            have hS := hS'
            clear hS'
            try simp only [Act.put, List.getElem_toArray, List.getElem_cons_zero, List.getElem_cons_succ, List.setIfInBounds_toArray, List.set_cons_zero, List.set_cons_succ]
            refine wpAnyH_done (by kernel_rfl) ?_ _
            exact wbody_done hA hX hbw ha2 lgx (Nat.le_of_lt ha2) BBx HBx lg8 t HFIN.out
        · rw [if_pos (by rfl)]
          go_simp
          obtain ⟨a13, ha13⟩ : ∃ z : Nat, z = v.heap.size := ⟨_, rfl⟩
          have N1 := Is.new (w := v) a13 ha13 #[.int .i64 (su : Int)] 3 1 [su] rfl rfl
          have HBn : Box (v.alloc (.cells #[.int .i64 (su : Int)] 3)) g _ := ⟨BoxOf.alloc HBx.1 _, HBx.2⟩
          have BBn := BBx.alloc (.cells #[.int .i64 (su : Int)] 3)
          have tn := Ext.alloc t (.cells #[.int .i64 (su : Int)] 3)
          refine hK.out _ _ ⟨hS.1.alloc _, (hS.1.alloc (.cells #[.int .i64 (su : Int)] 3)).cell⟩ (fun hS' => ?_)
          rw [← ha13]
          clear ha13 HBx BBx t
          have HBx := HBn
          have BBx := BBn
          have t := tn
          have I1 := N1
          clear HBn BBn tn N1
          clear hK K hS
          have hS := hS'
          clear hS'
          try simp only [Act.put, List.getElem_toArray, List.getElem_cons_zero, List.getElem_cons_succ, List.setIfInBounds_toArray, List.set_cons_zero, List.set_cons_succ]
          generalize v.alloc (.cells #[.int .i64 (su : Int)] 3) = v8 at *
          refine wpAnyH_ready (rs := [6]) (by kernel_rfl) (by simp) ?_
          refine AllReadyH.cons rfl (fun K hK => ?_) AllReadyH.nil
          rw [if_pos (by rfl)]
          go_simp
          obtain ⟨a6, ha6⟩ : ∃ z : Nat, z = v8.heap.size := ⟨_, rfl⟩
          have N2 := Is.new (w := v8) a6 ha6 #[.int .i64 (sl : Int), .int .i64 1] 3 2 [sl, bareN true] rfl rfl
          have HBn : Box (v8.alloc (.cells #[.int .i64 (sl : Int), .int .i64 1] 3)) g _ := ⟨BoxOf.alloc HBx.1 _, HBx.2⟩
          have BBn := BBx.alloc (.cells #[.int .i64 (sl : Int), .int .i64 1] 3)
          have tn := Ext.alloc t (.cells #[.int .i64 (sl : Int), .int .i64 1] 3)
          have In := I1.alloc (.cells #[.int .i64 (sl : Int), .int .i64 1] 3)
          refine hK.out _ _ ⟨hS.1.alloc _, (hS.1.alloc (.cells #[.int .i64 (sl : Int), .int .i64 1] 3)).cell⟩ (fun hS' => ?_)
          rw [← ha6]
          clear ha6 HBx BBx t I1
          have HBx := HBn
          have BBx := BBn
          have t := tn
          have I1 := In
          have I2 := N2
          clear HBn BBn tn N2 In
          clear hK K hS
          have hS := hS'
          clear hS'
          try simp only [Act.put, List.getElem_toArray, List.getElem_cons_zero, List.getElem_cons_succ, List.setIfInBounds_toArray, List.set_cons_zero, List.set_cons_succ]
          generalize v8.alloc (.cells #[.int .i64 (sl : Int), .int .i64 1] 3) = v9 at *
          refine wpAnyH_ready (rs := [7]) (by kernel_rfl) (by simp) ?_
          refine AllReadyH.cons rfl (fun K hK => ?_) AllReadyH.nil
          rw [if_pos (by rfl)]
          go_simp
          refine (nput_int (some ⟨g, 0, none⟩) 128 128 _ (.inr rfl) (15 + 6 * k) 1 (some ⟨a6, 0, none⟩) 2 2 [sl, bareN true] (15 + 6 * (k : Int)) 1 (by omega) rfl (by decide) (by decide) (by omega) HX2.out _ HBx.bs I2).mono ?_
          rintro e v10 ⟨g7, rfl, hg7, HBn, bn⟩
          have lg7 : gb < g7 := Nat.lt_of_lt_of_le BBx.lt hg7
          have BBn := BBx.next bn
          have tn := Ext.trans t bn
          have In := I1.below bn
          refine hK.out _ _ ⟨hS.1.next bn, (hS.1.next bn).cell⟩ (fun hS' => ?_)
          clear HBx BBx t I2 I1
          have HBx := HBn
          have BBx := BBn
          have t := tn
          have I1 := In
          clear HBn BBn tn bn hg7 In
          clear hK K hS
          have hS := hS'
          clear hS'
          try simp only [Act.put, List.getElem_toArray, List.getElem_cons_zero, List.getElem_cons_succ, List.setIfInBounds_toArray, List.set_cons_zero, List.set_cons_succ]
          refine wpAnyH_ready (rs := [14]) (by kernel_rfl) (by simp) ?_
          refine AllReadyH.cons rfl (fun K hK => ?_) AllReadyH.nil
          rw [if_pos (by rfl)]
          go_simp
          refine (nput_int (some ⟨g7, 0, none⟩) 128 128 _ (.inr rfl) (15 + 6 * k + 2) 4 (some ⟨a13, 0, none⟩) 1 1 [su] (15 + 6 * (k : Int) + 2) 4 (by omega) rfl (by decide) (by decide) (by omega) HX1.out _ HBx.bs I1).mono ?_
          rintro e v11 ⟨g8, rfl, hg8, HBn, bn⟩
          have lg8 : gb < g8 := Nat.lt_of_lt_of_le BBx.lt hg8
          have BBn := BBx.next bn
          have tn := Ext.trans t bn
          refine hK.out _ _ ⟨hS.1.next bn, (hS.1.next bn).cell⟩ (fun hS' => ?_)
          clear HBx BBx t I1
          have HBx := HBn
          have BBx := BBn
          have t := tn
          clear HBn BBn tn bn hg8
          clear hK K hS
          have hS := hS'
          clear hS'
          try simp only [Act.put, List.getElem_toArray, List.getElem_cons_zero, List.getElem_cons_succ, List.setIfInBounds_toArray, List.set_cons_zero, List.set_cons_succ]
          refine wpAnyH_ready (rs := [15]) (by kernel_rfl) (by simp) ?_
          refine AllReadyH.cons rfl (fun K hK => ?_) AllReadyH.nil
          rw [if_pos (by rfl)]
          have fB := BBx.free
          have yB := BBx.cell
          go_simp
          refine hK.out _ _ ⟨nbox_else hS.1 (show gr ≠ gb by omega) 0 _, (nbox_else hS.1 (show gr ≠ gb by omega) 0 _).cell⟩ (fun hS' => ?_)
          clear fB yB
          clear hK K hS
          have hS := hS'
          clear hS'
          try simp only [Act.put, List.getElem_toArray, List.getElem_cons_zero, List.getElem_cons_succ, List.setIfInBounds_toArray, List.set_cons_zero, List.set_cons_succ]
          refine wpAnyH_done (by kernel_rfl) ?_ _
          exact wbody_done hA hX hbw ha2 lgx (Nat.le_of_lt ha2) BBx HBx lg8 t HFIN.out
      · rw [if_pos (by rfl)]
        go_simp
        obtain ⟨a6, ha6⟩ : ∃ z : Nat, z = v.heap.size := ⟨_, rfl⟩
        have N2 := Is.new (w := v) a6 ha6 #[.int .i64 (sl : Int), .int .i64 1] 3 2 [sl, bareN true] rfl rfl
        have HBn : Box (v.alloc (.cells #[.int .i64 (sl : Int), .int .i64 1] 3)) g _ := ⟨BoxOf.alloc HBx.1 _, HBx.2⟩
        have BBn := BBx.alloc (.cells #[.int .i64 (sl : Int), .int .i64 1] 3)
        have tn := Ext.alloc t (.cells #[.int .i64 (sl : Int), .int .i64 1] 3)
        refine hK.out _ _ ⟨hS.1.alloc _, (hS.1.alloc (.cells #[.int .i64 (sl : Int), .int .i64 1] 3)).cell⟩ (fun hS' => ?_)
        rw [← ha6]
        clear ha6 HBx BBx t
        have HBx := HBn
        have BBx := BBn
        have t := tn
        have I2 := N2
        clear HBn BBn tn N2
        clear hK K hS
        have hS := hS'
        clear hS'
        try simp only [Act.put, List.getElem_toArray, List.getElem_cons_zero, List.getElem_cons_succ, List.setIfInBounds_toArray, List.set_cons_zero, List.set_cons_succ]
        generalize v.alloc (.cells #[.int .i64 (sl : Int), .int .i64 1] 3) = v12 at *
        refine wpAnyH_ready (rs := [0, 13]) (by kernel_rfl) (by simp) ?_
        refine AllReadyH.cons rfl (fun K hK => ?_) (AllReadyH.cons rfl (fun K hK => ?_) (AllReadyH.nil))
        · rw [if_pos (by rfl)]
          have yB := BBx.cell
          go_simp
          refine hK.out _ _ hS (fun hS' => ?_)
          clear yB
          clear hK K hS
          have hS := hS'
          clear hS'
          try simp only [Act.put, List.getElem_toArray, List.getElem_cons_zero, List.getElem_cons_succ, List.setIfInBounds_toArray, List.set_cons_zero, List.set_cons_succ]
          refine wpAnyH_ready (rs := [7, 13]) (by kernel_rfl) (by simp) ?_
          refine AllReadyH.cons rfl (fun K hK => ?_) (AllReadyH.cons rfl (fun K hK => ?_) (AllReadyH.nil))
          · rw [if_pos (by rfl)]
            go_simp
            refine (nput_int (some ⟨g, 0, none⟩) 128 128 _ (.inr rfl) (15 + 6 * k) 1 (some ⟨a6, 0, none⟩) 2 2 [sl, bareN true] (15 + 6 * (k : Int)) 1 (by omega) rfl (by decide) (by decide) (by omega) HX2.out _ HBx.bs I2).mono ?_
            rintro e v13 ⟨g7, rfl, hg7, HBn, bn⟩
            have lg7 : gb < g7 := Nat.lt_of_lt_of_le BBx.lt hg7
            have BBn := BBx.next bn
            have tn := Ext.trans t bn
            refine hK.out _ _ ⟨hS.1.next bn, (hS.1.next bn).cell⟩ (fun hS' => ?_)
            clear HBx BBx t I2
            have HBx := HBn
            have BBx := BBn
            have t := tn
            clear HBn BBn tn bn hg7
            clear hK K hS
            have hS := hS'
            clear hS'
            try simp only [Act.put, List.getElem_toArray, List.getElem_cons_zero, List.getElem_cons_succ, List.setIfInBounds_toArray, List.set_cons_zero, List.set_cons_succ]
            refine wpAnyH_ready (rs := [13]) (by kernel_rfl) (by simp) ?_
            refine AllReadyH.cons rfl (fun K hK => ?_) AllReadyH.nil
            rw [if_pos (by rfl)]
            go_simp
            obtain ⟨a13, ha13⟩ : ∃ z : Nat, z = v13.heap.size := ⟨_, rfl⟩
            have N1 := Is.new (w := v13) a13 ha13 #[.int .i64 (su : Int)] 3 1 [su] rfl rfl
            have HBn : Box (v13.alloc (.cells #[.int .i64 (su : Int)] 3)) g7 _ := ⟨BoxOf.alloc HBx.1 _, HBx.2⟩
            have BBn := BBx.alloc (.cells #[.int .i64 (su : Int)] 3)
            have tn := Ext.alloc t (.cells #[.int .i64 (su : Int)] 3)
            refine hK.out _ _ ⟨hS.1.alloc _, (hS.1.alloc (.cells #[.int .i64 (su : Int)] 3)).cell⟩ (fun hS' => ?_)
            rw [← ha13]
            clear ha13 HBx BBx t
            have HBx := HBn
            have BBx := BBn
            have t := tn
            have I1 := N1
            clear HBn BBn tn N1
            clear hK K hS
            have hS := hS'
            clear hS'
            try simp only [Act.put, List.getElem_toArray, List.getElem_cons_zero, List.getElem_cons_succ, List.setIfInBounds_toArray, List.set_cons_zero, List.set_cons_succ]
            generalize v13.alloc (.cells #[.int .i64 (su : Int)] 3) = v14 at *
            refine wpAnyH_ready (rs := [14]) (by kernel_rfl) (by simp) ?_
            refine AllReadyH.cons rfl (fun K hK => ?_) AllReadyH.nil
            rw [if_pos (by rfl)]
            go_simp
            refine (nput_int (some ⟨g7, 0, none⟩) 128 128 _ (.inr rfl) (15 + 6 * k + 2) 4 (some ⟨a13, 0, none⟩) 1 1 [su] (15 + 6 * (k : Int) + 2) 4 (by omega) rfl (by decide) (by decide) (by omega) HX1.out _ HBx.bs I1).mono ?_
            rintro e v15 ⟨g8, rfl, hg8, HBn, bn⟩
            have lg8 : gb < g8 := Nat.lt_of_lt_of_le BBx.lt hg8
            have BBn := BBx.next bn
            have tn := Ext.trans t bn
            refine hK.out _ _ ⟨hS.1.next bn, (hS.1.next bn).cell⟩ (fun hS' => ?_)
            clear HBx BBx t I1
            have HBx := HBn
            have BBx := BBn
            have t := tn
            clear HBn BBn tn bn hg8
            clear hK K hS
            have hS := hS'
            clear hS'
            try simp only [Act.put, List.getElem_toArray, List.getElem_cons_zero, List.getElem_cons_succ, List.setIfInBounds_toArray, List.set_cons_zero, List.set_cons_succ]
            refine wpAnyH_ready (rs := [15]) (by kernel_rfl) (by simp) ?_
            refine AllReadyH.cons rfl (fun K hK => ?_) AllReadyH.nil
            rw [if_pos (by rfl)]
            have fB := BBx.free
            have yB := BBx.cell
            go_simp
            refine hK.out _ _ ⟨nbox_else hS.1 (show gr ≠ gb by omega) 0 _, (nbox_else hS.1 (show gr ≠ gb by omega) 0 _).cell⟩ (fun hS' => ?_)
            clear fB yB
            clear hK K hS
            have hS := hS'
            clear hS'
            try simp only [Act.put, List.getElem_toArray, List.getElem_cons_zero, List.getElem_cons_succ, List.setIfInBounds_toArray, List.set_cons_zero, List.set_cons_succ]
            refine wpAnyH_done (by kernel_rfl) ?_ _
            exact wbody_done hA hX hbw ha2 lgx (Nat.le_of_lt ha2) BBx HBx lg8 t HFIN.out
          · rw [if_pos (by rfl)]
            go_simp
            obtain ⟨a13, ha13⟩ : ∃ z : Nat, z = v12.heap.size := ⟨_, rfl⟩
            have N1 := Is.new (w := v12) a13 ha13 #[.int .i64 (su : Int)] 3 1 [su] rfl rfl
            have HBn : Box (v12.alloc (.cells #[.int .i64 (su : Int)] 3)) g _ := ⟨BoxOf.alloc HBx.1 _, HBx.2⟩
            have BBn := BBx.alloc (.cells #[.int .i64 (su : Int)] 3)
            have tn := Ext.alloc t (.cells #[.int .i64 (su : Int)] 3)
            have In := I2.alloc (.cells #[.int .i64 (su : Int)] 3)
            refine hK.out _ _ ⟨hS.1.alloc _, (hS.1.alloc (.cells #[.int .i64 (su : Int)] 3)).cell⟩ (fun hS' => ?_)
            rw [← ha13]
            clear ha13 HBx BBx t I2
            have HBx := HBn
            have BBx := BBn
            have t := tn
            have I2 := In
            have I1 := N1
            clear HBn BBn tn N1 In
            clear hK K hS
            have hS := hS'
            clear hS'
            try simp only [Act.put, List.getElem_toArray, List.getElem_cons_zero, List.getElem_cons_succ, List.setIfInBounds_toArray, List.set_cons_zero, List.set_cons_succ]
            generalize v12.alloc (.cells #[.int .i64 (su : Int)] 3) = v16 at *
            refine wpAnyH_ready (rs := [7]) (by kernel_rfl) (by simp) ?_
            refine AllReadyH.cons rfl (fun K hK => ?_) AllReadyH.nil
            rw [if_pos (by rfl)]
            go_simp
            refine (nput_int (some ⟨g, 0, none⟩) 128 128 _ (.inr rfl) (15 + 6 * k) 1 (some ⟨a6, 0, none⟩) 2 2 [sl, bareN true] (15 + 6 * (k : Int)) 1 (by omega) rfl (by decide) (by decide) (by omega) HX2.out _ HBx.bs I2).mono ?_
            rintro e v17 ⟨g7, rfl, hg7, HBn, bn⟩
            have lg7 : gb < g7 := Nat.lt_of_lt_of_le BBx.lt hg7
            have BBn := BBx.next bn
            have tn := Ext.trans t bn
            have In := I1.below bn
            refine hK.out _ _ ⟨hS.1.next bn, (hS.1.next bn).cell⟩ (fun hS' => ?_)
            clear HBx BBx t I2 I1
            have HBx := HBn
            have BBx := BBn
            have t := tn
            have I1 := In
            clear HBn BBn tn bn hg7 In
            clear hK K hS
            have hS := hS'
            clear hS'
            try simp only [Act.put, List.getElem_toArray, List.getElem_cons_zero, List.getElem_cons_succ, List.setIfInBounds_toArray, List.set_cons_zero, List.set_cons_succ]
            refine wpAnyH_ready (rs := [14]) (by kernel_rfl) (by simp) ?_
            refine AllReadyH.cons rfl (fun K hK => ?_) AllReadyH.nil
            rw [if_pos (by rfl)]
            go_simp
            refine (nput_int (some ⟨g7, 0, none⟩) 128 128 _ (.inr rfl) (15 + 6 * k + 2) 4 (some ⟨a13, 0, none⟩) 1 1 [su] (15 + 6 * (k : Int) + 2) 4 (by omega) rfl (by decide) (by decide) (by omega) HX1.out _ HBx.bs I1).mono ?_
            rintro e v18 ⟨g8, rfl, hg8, HBn, bn⟩
            have lg8 : gb < g8 := Nat.lt_of_lt_of_le BBx.lt hg8
            have BBn := BBx.next bn
            have tn := Ext.trans t bn
            refine hK.out _ _ ⟨hS.1.next bn, (hS.1.next bn).cell⟩ (fun hS' => ?_)
            clear HBx BBx t I1
            have HBx := HBn
            have BBx := BBn
            have t := tn
            clear HBn BBn tn bn hg8
            clear hK K hS
            have hS := hS'
            clear hS'
            try simp only [Act.put, List.getElem_toArray, List.getElem_cons_zero, List.getElem_cons_succ, List.setIfInBounds_toArray, List.set_cons_zero, List.set_cons_succ]
            refine wpAnyH_ready (rs := [15]) (by kernel_rfl) (by simp) ?_
            refine AllReadyH.cons rfl (fun K hK => ?_) AllReadyH.nil
            rw [if_pos (by rfl)]
            have fB := BBx.free
            have yB := BBx.cell
            go_simp
            refine hK.out _ _ ⟨nbox_else hS.1 (show gr ≠ gb by omega) 0 _, (nbox_else hS.1 (show gr ≠ gb by omega) 0 _).cell⟩ (fun hS' => ?_)
            clear fB yB
            clear hK K hS
            have hS := hS'
            clear hS'
            try simp only [Act.put, List.getElem_toArray, List.getElem_cons_zero, List.getElem_cons_succ, List.setIfInBounds_toArray, List.set_cons_zero, List.set_cons_succ]
            refine wpAnyH_done (by kernel_rfl) ?_ _
            exact wbody_done hA hX hbw ha2 lgx (Nat.le_of_lt ha2) BBx HBx lg8 t HFIN.out
        · rw [if_pos (by rfl)]
          go_simp
          obtain ⟨a13, ha13⟩ : ∃ z : Nat, z = v12.heap.size := ⟨_, rfl⟩
          have N1 := Is.new (w := v12) a13 ha13 #[.int .i64 (su : Int)] 3 1 [su] rfl rfl
          have HBn : Box (v12.alloc (.cells #[.int .i64 (su : Int)] 3)) g _ := ⟨BoxOf.alloc HBx.1 _, HBx.2⟩
          have BBn := BBx.alloc (.cells #[.int .i64 (su : Int)] 3)
          have tn := Ext.alloc t (.cells #[.int .i64 (su : Int)] 3)
          have In := I2.alloc (.cells #[.int .i64 (su : Int)] 3)
          refine hK.out _ _ ⟨hS.1.alloc _, (hS.1.alloc (.cells #[.int .i64 (su : Int)] 3)).cell⟩ (fun hS' => ?_)
          rw [← ha13]
          clear ha13 HBx BBx t I2
          have HBx := HBn
          have BBx := BBn
          have t := tn
          have I2 := In
          have I1 := N1
          clear HBn BBn tn N1 In
          clear hK K hS
          have hS := hS'
          clear hS'
          try simp only [Act.put, List.getElem_toArray, List.getElem_cons_zero, List.getElem_cons_succ, List.setIfInBounds_toArray, List.set_cons_zero, List.set_cons_succ]
          generalize v12.alloc (.cells #[.int .i64 (su : Int)] 3) = v19 at *
          refine wpAnyH_ready (rs := [0]) (by kernel_rfl) (by simp) ?_
          refine AllReadyH.cons rfl (fun K hK => ?_) AllReadyH.nil
          rw [if_pos (by rfl)]
          have yB := BBx.cell
          go_simp
          refine hK.out _ _ hS (fun hS' => ?_)
          clear yB
          clear hK K hS
          have hS := hS'
          clear hS'
          try simp only [Act.put, List.getElem_toArray, List.getElem_cons_zero, List.getElem_cons_succ, List.setIfInBounds_toArray, List.set_cons_zero, List.set_cons_succ]
          refine wpAnyH_ready (rs := [7]) (by kernel_rfl) (by simp) ?_
          refine AllReadyH.cons rfl (fun K hK => ?_) AllReadyH.nil
          rw [if_pos (by rfl)]
          go_simp
          refine (nput_int (some ⟨g, 0, none⟩) 128 128 _ (.inr rfl) (15 + 6 * k) 1 (some ⟨a6, 0, none⟩) 2 2 [sl, bareN true] (15 + 6 * (k : Int)) 1 (by omega) rfl (by decide) (by decide) (by omega) HX2.out _ HBx.bs I2).mono ?_
          rintro e v20 ⟨g7, rfl, hg7, HBn, bn⟩
          have lg7 : gb < g7 := Nat.lt_of_lt_of_le BBx.lt hg7
          have BBn := BBx.next bn
          have tn := Ext.trans t bn
          have In := I1.below bn
          refine hK.out _ _ ⟨hS.1.next bn, (hS.1.next bn).cell⟩ (fun hS' => ?_)
          clear HBx BBx t I2 I1
          have HBx := HBn
          have BBx := BBn
          have t := tn
          have I1 := In
          clear HBn BBn tn bn hg7 In
          clear hK K hS
          have hS := hS'
          clear hS'
          try simp only [Act.put, List.getElem_toArray, List.getElem_cons_zero, List.getElem_cons_succ, List.setIfInBounds_toArray, List.set_cons_zero, List.set_cons_succ]
          refine wpAnyH_ready (rs := [14]) (by kernel_rfl) (by simp) ?_
          refine AllReadyH.cons rfl (fun K hK => ?_) AllReadyH.nil
          rw [if_pos (by rfl)]
          go_simp
          refine (nput_int (some ⟨g7, 0, none⟩) 128 128 _ (.inr rfl) (15 + 6 * k + 2) 4 (some ⟨a13, 0, none⟩) 1 1 [su] (15 + 6 * (k : Int) + 2) 4 (by omega) rfl (by decide) (by decide) (by omega) HX1.out _ HBx.bs I1).mono ?_
          rintro e v21 ⟨g8, rfl, hg8, HBn, bn⟩
          have lg8 : gb < g8 := Nat.lt_of_lt_of_le BBx.lt hg8
          have BBn := BBx.next bn
          have tn := Ext.trans t bn
          refine hK.out _ _ ⟨hS.1.next bn, (hS.1.next bn).cell⟩ (fun hS' => ?_)
          clear HBx BBx t I1
          have HBx := HBn
          have BBx := BBn
          have t := tn
          clear HBn BBn tn bn hg8
          clear hK K hS
          have hS := hS'
          clear hS'
          try simp only [Act.put, List.getElem_toArray, List.getElem_cons_zero, List.getElem_cons_succ, List.setIfInBounds_toArray, List.set_cons_zero, List.set_cons_succ]
          refine wpAnyH_ready (rs := [15]) (by kernel_rfl) (by simp) ?_
          refine AllReadyH.cons rfl (fun K hK => ?_) AllReadyH.nil
          rw [if_pos (by rfl)]
          have fB := BBx.free
          have yB := BBx.cell
          go_simp
          refine hK.out _ _ ⟨nbox_else hS.1 (show gr ≠ gb by omega) 0 _, (nbox_else hS.1 (show gr ≠ gb by omega) 0 _).cell⟩ (fun hS' => ?_)
          clear fB yB
          clear hK K hS
          have hS := hS'
          clear hS'
          try simp only [Act.put, List.getElem_toArray, List.getElem_cons_zero, List.getElem_cons_succ, List.setIfInBounds_toArray, List.set_cons_zero, List.set_cons_succ]
          refine wpAnyH_done (by kernel_rfl) ?_ _
          exact wbody_done hA hX hbw ha2 lgx (Nat.le_of_lt ha2) BBx HBx lg8 t HFIN.out
      · rw [if_pos (by rfl)]
        go_simp
        obtain ⟨a13, ha13⟩ : ∃ z : Nat, z = v.heap.size := ⟨_, rfl⟩
        have N1 := Is.new (w := v) a13 ha13 #[.int .i64 (su : Int)] 3 1 [su] rfl rfl
        have HBn : Box (v.alloc (.cells #[.int .i64 (su : Int)] 3)) g _ := ⟨BoxOf.alloc HBx.1 _, HBx.2⟩
        have BBn := BBx.alloc (.cells #[.int .i64 (su : Int)] 3)
        have tn := Ext.alloc t (.cells #[.int .i64 (su : Int)] 3)
        refine hK.out _ _ ⟨hS.1.alloc _, (hS.1.alloc (.cells #[.int .i64 (su : Int)] 3)).cell⟩ (fun hS' => ?_)
        rw [← ha13]
        clear ha13 HBx BBx t
        have HBx := HBn
        have BBx := BBn
        have t := tn
        have I1 := N1
        clear HBn BBn tn N1
        clear hK K hS
        have hS := hS'
        clear hS'
        try simp only [Act.put, List.getElem_toArray, List.getElem_cons_zero, List.getElem_cons_succ, List.setIfInBounds_toArray, List.set_cons_zero, List.set_cons_succ]
        generalize v.alloc (.cells #[.int .i64 (su : Int)] 3) = v22 at *
        refine wpAnyH_ready (rs := [0, 6]) (by kernel_rfl) (by simp) ?_
        refine AllReadyH.cons rfl (fun K hK => ?_) (AllReadyH.cons rfl (fun K hK => ?_) (AllReadyH.nil))
        · rw [if_pos (by rfl)]
          have yB := BBx.cell
          go_simp
          refine hK.out _ _ hS (fun hS' => ?_)
          clear yB
          clear hK K hS
          have hS := hS'
          clear hS'
          try simp only [Act.put, List.getElem_toArray, List.getElem_cons_zero, List.getElem_cons_succ, List.setIfInBounds_toArray, List.set_cons_zero, List.set_cons_succ]
          refine wpAnyH_ready (rs := [6]) (by kernel_rfl) (by simp) ?_
          refine AllReadyH.cons rfl (fun K hK => ?_) AllReadyH.nil
          rw [if_pos (by rfl)]
          go_simp
          obtain ⟨a6, ha6⟩ : ∃ z : Nat, z = v22.heap.size := ⟨_, rfl⟩
          have N2 := Is.new (w := v22) a6 ha6 #[.int .i64 (sl : Int), .int .i64 1] 3 2 [sl, bareN true] rfl rfl
          have HBn : Box (v22.alloc (.cells #[.int .i64 (sl : Int), .int .i64 1] 3)) g _ := ⟨BoxOf.alloc HBx.1 _, HBx.2⟩
          have BBn := BBx.alloc (.cells #[.int .i64 (sl : Int), .int .i64 1] 3)
          have tn := Ext.alloc t (.cells #[.int .i64 (sl : Int), .int .i64 1] 3)
          have In := I1.alloc (.cells #[.int .i64 (sl : Int), .int .i64 1] 3)
          refine hK.out _ _ ⟨hS.1.alloc _, (hS.1.alloc (.cells #[.int .i64 (sl : Int), .int .i64 1] 3)).cell⟩ (fun hS' => ?_)
          rw [← ha6]
          clear ha6 HBx BBx t I1
          have HBx := HBn
          have BBx := BBn
          have t := tn
          have I1 := In
          have I2 := N2
          clear HBn BBn tn N2 In
          clear hK K hS
          have hS := hS'
          clear hS'
          try simp only [Act.put, List.getElem_toArray, List.getElem_cons_zero, List.getElem_cons_succ, List.setIfInBounds_toArray, List.set_cons_zero, List.set_cons_succ]
          generalize v22.alloc (.cells #[.int .i64 (sl : Int), .int .i64 1] 3) = v23 at *
          refine wpAnyH_ready (rs := [7]) (by kernel_rfl) (by simp) ?_
          refine AllReadyH.cons rfl (fun K hK => ?_) AllReadyH.nil
          rw [if_pos (by rfl)]
          go_simp
          refine (nput_int (some ⟨g, 0, none⟩) 128 128 _ (.inr rfl) (15 + 6 * k) 1 (some ⟨a6, 0, none⟩) 2 2 [sl, bareN true] (15 + 6 * (k : Int)) 1 (by omega) rfl (by decide) (by decide) (by omega) HX2.out _ HBx.bs I2).mono ?_
          rintro e v24 ⟨g7, rfl, hg7, HBn, bn⟩
          have lg7 : gb < g7 := Nat.lt_of_lt_of_le BBx.lt hg7
          have BBn := BBx.next bn
          have tn := Ext.trans t bn
          have In := I1.below bn
          refine hK.out _ _ ⟨hS.1.next bn, (hS.1.next bn).cell⟩ (fun hS' => ?_)
          clear HBx BBx t I2 I1
          have HBx := HBn
          have BBx := BBn
          have t := tn
          have I1 := In
          clear HBn BBn tn bn hg7 In
          clear hK K hS
          have hS := hS'
          clear hS'
          try simp only [Act.put, List.getElem_toArray, List.getElem_cons_zero, List.getElem_cons_succ, List.setIfInBounds_toArray, List.set_cons_zero, List.set_cons_succ]
          refine wpAnyH_ready (rs := [14]) (by kernel_rfl) (by simp) ?_
          refine AllReadyH.cons rfl (fun K hK => ?_) AllReadyH.nil
          rw [if_pos (by rfl)]
          go_simp
          refine (nput_int (some ⟨g7, 0, none⟩) 128 128 _ (.inr rfl) (15 + 6 * k + 2) 4 (some ⟨a13, 0, none⟩) 1 1 [su] (15 + 6 * (k : Int) + 2) 4 (by omega) rfl (by decide) (by decide) (by omega) HX1.out _ HBx.bs I1).mono ?_
          rintro e v25 ⟨g8, rfl, hg8, HBn, bn⟩
          have lg8 : gb < g8 := Nat.lt_of_lt_of_le BBx.lt hg8
          have BBn := BBx.next bn
          have tn := Ext.trans t bn
          refine hK.out _ _ ⟨hS.1.next bn, (hS.1.next bn).cell⟩ (fun hS' => ?_)
          clear HBx BBx t I1
          have HBx := HBn
          have BBx := BBn
          have t := tn
          clear HBn BBn tn bn hg8
          clear hK K hS
          have hS := hS'
          clear hS'
          try simp only [Act.put, List.getElem_toArray, List.getElem_cons_zero, List.getElem_cons_succ, List.setIfInBounds_toArray, List.set_cons_zero, List.set_cons_succ]
          refine wpAnyH_ready (rs := [15]) (by kernel_rfl) (by simp) ?_
          refine AllReadyH.cons rfl (fun K hK => ?_) AllReadyH.nil
          rw [if_pos (by rfl)]
          have fB := BBx.free
          have yB := BBx.cell
          go_simp
          refine hK.out _ _ ⟨nbox_else hS.1 (show gr ≠ gb by omega) 0 _, (nbox_else hS.1 (show gr ≠ gb by omega) 0 _).cell⟩ (fun hS' => ?_)
          clear fB yB
          clear hK K hS
          have hS := hS'
          clear hS'
          try simp only [Act.put, List.getElem_toArray, List.getElem_cons_zero, List.getElem_cons_succ, List.setIfInBounds_toArray, List.set_cons_zero, List.set_cons_succ]
          refine wpAnyH_done (by kernel_rfl) ?_ _
          exact wbody_done hA hX hbw ha2 lgx (Nat.le_of_lt ha2) BBx HBx lg8 t HFIN.out
        · rw [if_pos (by rfl)]
          go_simp
          obtain ⟨a6, ha6⟩ : ∃ z : Nat, z = v22.heap.size := ⟨_, rfl⟩
          have N2 := Is.new (w := v22) a6 ha6 #[.int .i64 (sl : Int), .int .i64 1] 3 2 [sl, bareN true] rfl rfl
          have HBn : Box (v22.alloc (.cells #[.int .i64 (sl : Int), .int .i64 1] 3)) g _ := ⟨BoxOf.alloc HBx.1 _, HBx.2⟩
          have BBn := BBx.alloc (.cells #[.int .i64 (sl : Int), .int .i64 1] 3)
          have tn := Ext.alloc t (.cells #[.int .i64 (sl : Int), .int .i64 1] 3)
          have In := I1.alloc (.cells #[.int .i64 (sl : Int), .int .i64 1] 3)
          refine hK.out _ _ ⟨hS.1.alloc _, (hS.1.alloc (.cells #[.int .i64 (sl : Int), .int .i64 1] 3)).cell⟩ (fun hS' => ?_)
          rw [← ha6]
          clear ha6 HBx BBx t I1
          have HBx := HBn
          have BBx := BBn
          have t := tn
          have I1 := In
          have I2 := N2
          clear HBn BBn tn N2 In
          clear hK K hS
          have hS := hS'
          clear hS'
          try simp only [Act.put, List.getElem_toArray, List.getElem_cons_zero, List.getElem_cons_succ, List.setIfInBounds_toArray, List.set_cons_zero, List.set_cons_succ]
          generalize v22.alloc (.cells #[.int .i64 (sl : Int), .int .i64 1] 3) = v26 at *
          refine wpAnyH_ready (rs := [0]) (by kernel_rfl) (by simp) ?_
          refine AllReadyH.cons rfl (fun K hK => ?_) AllReadyH.nil
          rw [if_pos (by rfl)]
          have yB := BBx.cell
          go_simp
          refine hK.out _ _ hS (fun hS' => ?_)
          clear yB
          clear hK K hS
          have hS := hS'
          clear hS'
          try simp only [Act.put, List.getElem_toArray, List.getElem_cons_zero, List.getElem_cons_succ, List.setIfInBounds_toArray, List.set_cons_zero, List.set_cons_succ]
          refine wpAnyH_ready (rs := [7]) (by kernel_rfl) (by simp) ?_
          refine AllReadyH.cons rfl (fun K hK => ?_) AllReadyH.nil
          rw [if_pos (by rfl)]
          go_simp
          refine (nput_int (some ⟨g, 0, none⟩) 128 128 _ (.inr rfl) (15 + 6 * k) 1 (some ⟨a6, 0, none⟩) 2 2 [sl, bareN true] (15 + 6 * (k : Int)) 1 (by omega) rfl (by decide) (by decide) (by omega) HX2.out _ HBx.bs I2).mono ?_
          rintro e v27 ⟨g7, rfl, hg7, HBn, bn⟩
          have lg7 : gb < g7 := Nat.lt_of_lt_of_le BBx.lt hg7
          have BBn := BBx.next bn
          have tn := Ext.trans t bn
          have In := I1.below bn
          refine hK.out _ _ ⟨hS.1.next bn, (hS.1.next bn).cell⟩ (fun hS' => ?_)
          clear HBx BBx t I2 I1
          have HBx := HBn
          have BBx := BBn
          have t := tn
          have I1 := In
          clear HBn BBn tn bn hg7 In
          clear hK K hS
          have hS := hS'
          clear hS'
          try simp only [Act.put, List.getElem_toArray, List.getElem_cons_zero, List.getElem_cons_succ, List.setIfInBounds_toArray, List.set_cons_zero, List.set_cons_succ]
          refine wpAnyH_ready (rs := [14]) (by kernel_rfl) (by simp) ?_
          refine AllReadyH.cons rfl (fun K hK => ?_) AllReadyH.nil
          rw [if_pos (by rfl)]
          go_simp
          refine (nput_int (some ⟨g7, 0, none⟩) 128 128 _ (.inr rfl) (15 + 6 * k + 2) 4 (some ⟨a13, 0, none⟩) 1 1 [su] (15 + 6 * (k : Int) + 2) 4 (by omega) rfl (by decide) (by decide) (by omega) HX1.out _ HBx.bs I1).mono ?_
          rintro e v28 ⟨g8, rfl, hg8, HBn, bn⟩
          have lg8 : gb < g8 := Nat.lt_of_lt_of_le BBx.lt hg8
          have BBn := BBx.next bn
          have tn := Ext.trans t bn
          refine hK.out _ _ ⟨hS.1.next bn, (hS.1.next bn).cell⟩ (fun hS' => ?_)
          clear HBx BBx t I1
          have HBx := HBn
          have BBx := BBn
          have t := tn
          clear HBn BBn tn bn hg8
          clear hK K hS
          have hS := hS'
          clear hS'
          try simp only [Act.put, List.getElem_toArray, List.getElem_cons_zero, List.getElem_cons_succ, List.setIfInBounds_toArray, List.set_cons_zero, List.set_cons_succ]
          refine wpAnyH_ready (rs := [15]) (by kernel_rfl) (by simp) ?_
          refine AllReadyH.cons rfl (fun K hK => ?_) AllReadyH.nil
          rw [if_pos (by rfl)]
          have fB := BBx.free
          have yB := BBx.cell
          go_simp
          refine hK.out _ _ ⟨nbox_else hS.1 (show gr ≠ gb by omega) 0 _, (nbox_else hS.1 (show gr ≠ gb by omega) 0 _).cell⟩ (fun hS' => ?_)
          clear fB yB
          clear hK K hS
          have hS := hS'
          clear hS'
          try simp only [Act.put, List.getElem_toArray, List.getElem_cons_zero, List.getElem_cons_succ, List.setIfInBounds_toArray, List.set_cons_zero, List.set_cons_succ]
          refine wpAnyH_done (by kernel_rfl) ?_ _
          exact wbody_done hA hX hbw ha2 lgx (Nat.le_of_lt ha2) BBx HBx lg8 t HFIN.out
  case done =>
    rintro D xs W hD rfl ⟨⟨hA, hX, g, hg, hB, hH⟩, hbw⟩ hDW
    obtain ⟨L, hLdef⟩ : ∃ L, L = putsL (noteRows id age sq st rs) := ⟨_, rfl⟩
    have hH2 : Box W g L := by rw [hLdef, ← notesEq id age sq st rs n hlen]; exact hH
    have HLD := Lib.hid hLdef
    have hL : L.length = 128 := hH2.bs.1
    have hsum : Crc.sum (L.take 124) < 256 ^ 4 := Crc.sum_lt _
    have HSM := Lib.hid hsum
    have q1 : IntKind.i64.wrap ((Crc.sum (L.take 124) : Nat) : Int) = ((Crc.sum (L.take 124) : Nat) : Int) := IntWalk.i64_in _ (by have := Crc.sum_lt (L.take 124); omega)
    have HDW := Lib.hid hDW
    have hDlt : D < W.heap.size := (Array.getElem?_eq_some_iff.1 hDW).1
    clear hH hX hA hsum hLdef hDW
    gi_wp2_with fail
    refine wpIn_wide.2 (only_wp ?_)
    refine wp_region_held_drew (S := fun w' => Below W.heap.size W w' ∧ BoxOf w' gb #[.slice (some ⟨g, 0, none⟩) 128 128] 32 ∧ Box w' g L ∧ ∀ o, w'.cell? ⟨gb, o, none⟩ = (#[.slice (some ⟨g, 0, none⟩) 128 128] : Array Value).toList[o]?) (by kernel_rfl) ⟨Ext.drew (Below.refl _ _), BoxOf.drew hB, ⟨BoxOf.drew hH2.1, hH2.2⟩, (BoxOf.drew hB).cell⟩ (fun hS => ?_)
    clear hB hH2
    generalize W.drew = v at *
    refine wpAnyH_take (i := 0) (oi := _) (v := ?_) rfl (by kernel_rfl) (by kernel_rfl) (by kernel_rfl) (fun _ _ _ h => h) (Or.inl ⟨by rfl, ?_⟩) hS ?_
    rotate_left
    · (intro w hSw; (try dsimp only at hSw); go_simp; (try with_reducible rfl))
    rotate_left
    simp only [Act.put, List.getElem_toArray, List.getElem_cons_zero, List.getElem_cons_succ, List.setIfInBounds_toArray, List.set_cons_zero, List.set_cons_succ]
    refine wpAnyH_take (i := 1) (oi := _) (v := ?_) rfl (by kernel_rfl) (by kernel_rfl) (by kernel_rfl) (fun _ _ _ h => h) (Or.inl ⟨by rfl, ?_⟩) hS ?_
    rotate_left
    · (intro w hSw; (try dsimp only at hSw); go_simp; (try with_reducible rfl))
    rotate_left
    simp only [Act.put, List.getElem_toArray, List.getElem_cons_zero, List.getElem_cons_succ, List.setIfInBounds_toArray, List.set_cons_zero, List.set_cons_succ]
    refine wpAnyH_take (i := 2) (oi := _) (v := ?_) rfl (by kernel_rfl) (by kernel_rfl) (by kernel_rfl) (fun _ _ _ h => h) (Or.inl ⟨by rfl, ?_⟩) hS ?_
    rotate_left
    · (intro w hSw; (try dsimp only at hSw); go_simp; (try with_reducible rfl))
    rotate_left
    simp only [Act.put, List.getElem_toArray, List.getElem_cons_zero, List.getElem_cons_succ, List.setIfInBounds_toArray, List.set_cons_zero, List.set_cons_succ]
    refine wpAnyH_ready (rs := [3]) (by kernel_rfl) (by simp) ?_
    refine AllReadyH.cons rfl (fun K hK => ?_) AllReadyH.nil
    rw [if_pos (by rfl)]
    go_simp
    refine (sum_any _ 124 _ (L.take 124) _ (hS.2.2.1.bs.first' 124 (by omega)) (by omega)).mono ?_
    rintro e v1 ⟨rfl, b1⟩
    refine hK.out _ _ ⟨Ext.trans hS.1 b1, hS.2.1.next b1, ⟨BoxOf.next hS.2.2.1.1 b1, hS.2.2.1.2⟩, (hS.2.1.next b1).cell⟩ (fun hS' => ?_)
    clear hK K hS b1
    have hS := hS'
    clear hS'
    try simp only [Act.put, List.getElem_toArray, List.getElem_cons_zero, List.getElem_cons_succ, List.setIfInBounds_toArray, List.set_cons_zero, List.set_cons_succ]
    refine wpAnyH_take (i := 4) (oi := _) (v := ?_) rfl (by kernel_rfl) (by kernel_rfl) (by kernel_rfl) (fun _ _ _ h => h) (Or.inl ⟨by rfl, ?_⟩) hS ?_
    rotate_left
    · (intro w hSw; (try dsimp only at hSw); go_simp; (try with_reducible rfl))
    rotate_left
    simp only [Act.put, List.getElem_toArray, List.getElem_cons_zero, List.getElem_cons_succ, List.setIfInBounds_toArray, List.set_cons_zero, List.set_cons_succ]
    clear q1
    refine wpAnyH_ready (rs := [5]) (by kernel_rfl) (by simp) ?_
    refine AllReadyH.cons rfl (fun K hK => ?_) AllReadyH.nil
    rw [if_pos (by rfl)]
    go_simp
    obtain ⟨a5, ha5⟩ : ∃ z : Nat, z = v1.heap.size := ⟨_, rfl⟩
    have N5 := Is.new (w := v1) a5 ha5 #[.int .i64 (Crc.sum (L.take 124) : Int)] 3 1 [Crc.sum (L.take 124)] rfl rfl
    refine hK.out _ _ ⟨Ext.alloc hS.1 _, hS.2.1.alloc _, ⟨BoxOf.alloc hS.2.2.1.1 _, hS.2.2.1.2⟩, (hS.2.1.alloc (.cells #[.int .i64 (Crc.sum (L.take 124) : Int)] 3)).cell⟩ (fun hS' => ?_)
    rw [← ha5]
    clear hK K hS ha5
    have hS := hS'
    clear hS'
    try simp only [Act.put, List.getElem_toArray, List.getElem_cons_zero, List.getElem_cons_succ, List.setIfInBounds_toArray, List.set_cons_zero, List.set_cons_succ]
    generalize v1.alloc (.cells #[.int .i64 (Crc.sum (L.take 124) : Int)] 3) = v2 at *
    refine wpAnyH_ready (rs := [6]) (by kernel_rfl) (by simp) ?_
    refine AllReadyH.cons rfl (fun K hK => ?_) AllReadyH.nil
    rw [if_pos (by rfl)]
    go_simp
    refine (nput_int (some ⟨g, 0, none⟩) 128 128 _ (.inr rfl) 124 4 (some ⟨a5, 0, none⟩) 1 1 [Crc.sum (L.take 124)] 124 4 rfl rfl (by decide) (by decide) (by decide) (by simpa using HSM.out) _ hS.2.2.1.bs N5).mono ?_
    rintro e v3 ⟨g6, rfl, hg6, HB6, b6⟩
    have HB7 : Box v3 g6 (sealL L) := by
      have e7 : putAll L (rowsAt 124 4 [Crc.sum (L.take 124)]) = sealL L := by
        show putR L _ = _
        unfold putR sealL
        rw [wholeL_full hL]
      rw [← e7]; exact HB6
    refine hK.out _ _ ⟨Ext.trans hS.1 b6, hS.2.1.next b6, ⟨BoxOf.next hS.2.2.1.1 b6, hS.2.2.1.2⟩, (hS.2.1.next b6).cell⟩ (fun hS' => ?_)
    have hDg : D < g6 := Nat.lt_of_lt_of_le hDlt (Nat.le_trans hS.1.size hg6)
    clear hK K hS b6 hg6 HB6 N5
    have hS := hS'
    clear hS'
    try simp only [Act.put, List.getElem_toArray, List.getElem_cons_zero, List.getElem_cons_succ, List.setIfInBounds_toArray, List.set_cons_zero, List.set_cons_succ]
    refine wpAnyH_take (i := 7) (oi := _) (v := ?_) rfl (by kernel_rfl) (by kernel_rfl) (by kernel_rfl) (fun _ _ _ h => h) (Or.inl ⟨by rfl, ?_⟩) hS ?_
    rotate_left
    · (intro w hSw; (try dsimp only at hSw); go_simp; (try with_reducible rfl))
    rotate_left
    simp only [Act.put, List.getElem_toArray, List.getElem_cons_zero, List.getElem_cons_succ, List.setIfInBounds_toArray, List.set_cons_zero, List.set_cons_succ]
    refine wpAnyH_take (i := 8) (oi := _) (v := ?_) rfl (by kernel_rfl) (by kernel_rfl) (by kernel_rfl) (fun _ _ _ h => h) (Or.inl ⟨by rfl, ?_⟩) hS ?_
    rotate_left
    · (intro w hSw; (try dsimp only at hSw); go_simp; (try with_reducible rfl))
    rotate_left
    simp only [Act.put, List.getElem_toArray, List.getElem_cons_zero, List.getElem_cons_succ, List.setIfInBounds_toArray, List.set_cons_zero, List.set_cons_succ]
    refine wpAnyH_done (by kernel_rfl) ?_ _
    have hDW3 : v3.heap[D]? = some (.deferred (some [])) := by rw [hS.1.block D hDlt]; exact HDW.out
    have HD3 := Lib.hid hDW3
    have t9 := Ext.trans hbw hS.1
    clear hS hDW3
    refine OnlyN.intro ?_
    gi_wp2_with fail
    refine ⟨by simp, .inl ⟨_, _, rfl, run_takeDeferred HD3.out, ?_⟩⟩
    refine ⟨_, results_tmp2 rfl _ _ _, ⟨g6, rfl, ?_, ?_⟩⟩
    · rw [← HLD.out]
      refine ⟨?_, HB7.2⟩
      have h1 := HB7.1
      unfold BoxOf at h1
      rw [World.putObj_heap_other (by omega)]; exact h1
    · refine t9.grown (grownBy_putObj' v3 D _) ?_ ?_
      · have := (Array.getElem?_eq_some_iff.1 HD3.out).1
        have := t7.size
        omega
      · intro k e
        have := t7.size
        cases e
        omega
end Go.Proofs.Ytggdfecgkhnkkaa
