/- Layer 30 (model): the program: whether marks may be. -/
import Derived.Test.YtclbihcggjjgaaaModel10
namespace Go.Proofs.Ytclbihcggjjgaaa
open Go Go.RowKit Go.Shelf
set_option linter.unusedSimpArgs false
set_option linter.unusedVariables false
attribute [local go_sem] Oper.semAt_some

theorem results_bool {fn : Func} {p : Tmp} (h : fn.results = #[.cell p 4]) (tmps : Array Value) (w : World) (g : Nat) (v : Value)
    (hp : tmps.getD p undef = .pointer (some ⟨g, 0, none⟩)) (hg : w.cell? ⟨g, 0, none⟩ = some v) : (results fn tmps).run Try.prog w = .ok v w := by
  have hp' : tmps[p]?.getD undef = .pointer (some ⟨g, 0, none⟩) := by simpa using hp
  simp [results, h, hp', asAddr, go_sem, hg]
  try rfl
set_option maxRecDepth 100000 in
set_option maxHeartbeats 2000000 in
theorem smarks_plain (S : Nat → Prop) (ys : List (List (List UInt8))) (B : Option Addr) (d : Nat) (nu k a y : Int) (hk : ¬ k = 4) (Ab : Option Addr) (nb cb : Nat) (ms : List Int) (Am : Option Addr) (cm : Nat) (w : World) :
    Calls Try.prog 48 #[.agg #[.int .i64 nu, .int .u8 k, .int .i64 a, .int .i64 y, .slice Ab nb cb, .slice Am ms.length cm], .slice B ys.length d] w fun e w' => YesNo (MarksOk k ms ys) e ∧ Below w.heap.size w w' := by
  have hk' : (k != 4) = true := by simp [hk]
  have HK : Hid (MarksOk k ms ys ↔ ms.length = 0) := by show _ ↔ _; unfold MarksOk; rw [if_neg hk]
  clear hk
  have P0 := BoxOf.alloc (BoxOf.new w #[.int .i64 nu, .int .u8 k, .int .i64 a, .int .i64 y, .slice Ab nb cb, .slice Am ms.length cm] 64) (.cells #[.bool false] 4)
  have R0 := BoxOf.new' (w.alloc (.cells #[.int .i64 nu, .int .u8 k, .int .i64 a, .int .i64 y, .slice Ab nb cb, .slice Am ms.length cm] 64)) (w.heap.size + 1) #[.bool false] 4 (by simp)
  have t0 := Ext.alloc (Ext.alloc (Below.refl w.heap.size w) (.cells #[.int .i64 nu, .int .u8 k, .int .i64 a, .int .i64 y, .slice Ab nb cb, .slice Am ms.length cm] 64)) (.cells #[.bool false] 4)
  go_enter Try.func48, Try.ntmps48
  go_upto_region 1 with fail
  generalize (w.alloc (.cells #[.int .i64 nu, .int .u8 k, .int .i64 a, .int .i64 y, .slice Ab nb cb, .slice Am ms.length cm] 64)).alloc (.cells #[.bool false] 4) = W at *
  have x0 := P0.cell
  have f0 := R0.free
  have y0 := R0.cell
  go_wp2
  have R1 : BoxOf _ (w.heap.size + 1) #[.bool ((ms.length : Int) == 0)] 4 := mbox_self R0 0 (.bool ((ms.length : Int) == 0))
  have t1 := Below.setCell (p := ⟨w.heap.size + 1, 0, none⟩) t0 (show w.heap.size ≤ w.heap.size + 1 by omega) (.bool ((ms.length : Int) == 0))
  refine bodyPost_ret (results_bool rfl _ _ (w.heap.size + 1) (.bool ((ms.length : Int) == 0)) rfl ((R1.cell 0).trans rfl)) rfl ⟨YesNo.of (by rw [HK.out]; simp), t1⟩

def UPM (e : Array Value) (t : Array Value) : Array Value := (((t.setIfInBounds 19 (e.getD 0 undef)).setIfInBounds 20 (e.getD 1 undef)).setIfInBounds 5 (e.getD 0 undef)).setIfInBounds 6 (e.getD 1 undef)
theorem own_cells {B : Nat} {g : Nat} {W W' : World} {row : Option Nat} {cs : Array Value} {t : TypeId} (h : BoxOf W g cs t) (hg : W.grownBy W' row) (hr : ∀ r, row = some r → B ≤ r ∧ ∃ o : Obj, W.heap[r]? = some o ∧ o.isCells = false) : BoxOf W' g cs t := by
  refine h.grown hg fun e => ?_
  obtain ⟨_, o, ho, hc⟩ := hr g e
  have h1 : W.heap[g]? = some (.cells cs t (0, 0)) := h
  rw [h1] at ho
  cases ho
  simp [Obj.isCells] at hc
theorem may_vals {w : World} {S : Nat → Prop} {ys : List (List (List UInt8))} {A : Option Addr} {c : Nat} (h : RdIn w S (.sl (.sl (.sl .byte))) ys [.slice A ys.length c]) :
    ∃ vs : List Value, vs.length = ys.length ∧ ∀ i (hi : i < ys.length), (∃ A' c', vs.getD i undef = .slice A' (ys[i]).length c') ∧ ∃ b off, A = some ⟨b, off, none⟩ ∧ b < w.heap.size ∧ w.cell? ⟨b, off + i, none⟩ = some (vs.getD i undef) := by
  have each : ∀ i, i < ys.length → ∃ v : Value, (∀ hi : i < ys.length, (∃ A' c', v = .slice A' (ys[i]).length c')) ∧ ∃ b off, A = some ⟨b, off, none⟩ ∧ b < w.heap.size ∧ w.cell? ⟨b, off + i, none⟩ = some v := by
    intro i hi
    obtain ⟨b, off, A2, c2, e, q, r⟩ := may_at h hi
    exact ⟨_, fun _ => ⟨A2, c2, rfl⟩, b, off, e, block_lt_of_cell q, q⟩
  obtain ⟨l, hl, hr⟩ := choose_list (R := fun i v => (∀ hi : i < ys.length, (∃ A' c', v = .slice A' (ys[i]).length c')) ∧ ∃ b off, A = some ⟨b, off, none⟩ ∧ b < w.heap.size ∧ w.cell? ⟨b, off + i, none⟩ = some v) ys.length each
  refine ⟨l, hl, fun i hi => ?_⟩
  have e : l.getD i undef = l[i]'(by omega) := by rw [List.getD_eq_getElem?_getD, List.getElem?_eq_getElem (by omega)]; rfl
  rw [e]
  exact ⟨(hr i (by omega)).1 hi, (hr i (by omega)).2⟩

theorem both_loop {ms : List Int} {vs : List Value} {m gx gy base : Nat} {g : Operand} {ps : Array Tmp} {assign body : Code} {Q : Exit → Act → World → Prop} {a : Act} {w : World} (U : Array Value → Array Value → Array Value) (hg : a.eval g = .func (.func 87) #[] #[.pointer (some ⟨gx, 0, none⟩), .pointer (some ⟨gy, 0, none⟩)])
    {S Sp : List (Fin m) → Prop} (hseq : SeqStopsK Fence.wide (3 - 1) Try.prog 87 #[.pointer (some ⟨gx, 0, none⟩), .pointer (some ⟨gy, 0, none⟩)] (encB ms vs (m := m)) (KeepL base) S Sp m w) (hps : ps.size = 2)
    (I : List (Fin m) → World → Prop) (Ix : Code → List (Fin m) → World → Prop) (hI : OwnFrom w.heap.size I) (hIx : ∀ c, OwnFrom w.heap.size (Ix c)) (h0 : I [] w)
    (hassign : ∀ (l : Nat) (x : Fin m) (W : World) (K : Act → World → Prop), K { tmps := U (encB ms vs x) a.tmps, defers := [] } W →
      assign.wpIn (Fence.wide.inRound l) (3 - 1 - 1) Try.prog (Exit.then K (fun _ _ _ => False)) { tmps := (ps.zip (encB ms vs x)).foldl (fun t (p, v) => t.setIfInBounds p v) a.tmps, defers := [] } W)
    (hbody : ∀ (l : Nat) (pre : List (Fin m)) (x : Fin m) (W : World), I pre W → pre.length < m → body.wpIn (Fence.wide.inRound l) (3 - 1 - 1) Try.prog (ownPostK (KeepL base) I Ix (pre ++ [x]) W) { tmps := U (encB ms vs x) a.tmps, defers := [] } W)
    (hdone : ∀ (D : Nat) (xs : List (Fin m)) (W : World), w.heap.size ≤ D → S xs → I xs W → W.heap[D]? = some (.deferred (some [])) → Q .normal { a with defers := { target := .collected D, args := #[] } :: a.defers } W)
    (hstop : ∀ (D : Nat) (c : Code) (pre : List (Fin m)) (W : World), w.heap.size ≤ D → Sp pre → Ix c pre W → W.heap[D]? = some (.deferred (some [])) → c.wpIn Fence.wide 3 Try.prog Q { a with defers := { target := .collected D, args := #[] } :: a.defers } W) :
    (Code.rangeFunc g ps assign body).wpIn Fence.wide 3 Try.prog Q a w :=
  wpIn_rangeFunc_ownF rfl (by decide) hg trivial (enters_of Try.func87 (by kernel_rfl) rfl) hseq (fun h k => h.trans k) (keepL_b base) (Below.refl _ _) (fun x => by rw [hps]; rfl) I Ix hI hIx h0 (fun x => { tmps := U (encB ms vs x) a.tmps, defers := [] }) hassign hbody hdone hstop

set_option maxRecDepth 100000 in
set_option maxHeartbeats 2000000 in
theorem smarks_flush (S S' : Nat → Prop) (ys : List (List (List UInt8))) (B : Option Addr) (d : Nat) (nu k a y : Int) (hk : k = 4) (Ab : Option Addr) (nb cb : Nat) (ms : List Int) (Am : Option Addr) (cm : Nat) (w : World) (hy : RdIn w S (.sl (.sl (.sl .byte))) ys [.slice B ys.length d]) (hm : RdIn w S' (.sl .int) ms [.slice Am ms.length cm]) :
    Calls Try.prog 48 #[.agg #[.int .i64 nu, .int .u8 k, .int .i64 a, .int .i64 y, .slice Ab nb cb, .slice Am ms.length cm], .slice B ys.length d] w fun e w' => YesNo (MarksOk k ms ys) e ∧ Below w.heap.size w w' := by
  have hk' : (k != 4) = false := by simp [hk]
  have HK : Hid (MarksOk k ms ys ↔ (ms.length = ys.length ∧ ∀ i, MarkOk ms ys i)) := by show _ ↔ _; unfold MarksOk; rw [if_pos hk]
  clear hk
  obtain ⟨vs, hvl, hv⟩ := may_vals hy
  have HVL := Lib.hid hvl
  have HV := Lib.hid hv
  have HYM := Lib.hid (may_max hy)
  have HMM := Lib.hid (mark_max hm)
  have hma : Hid (∀ i, i < ms.length → ∃ b o, Am = some ⟨b, o, none⟩ ∧ b < w.heap.size ∧ w.cell? ⟨b, o + i, none⟩ = some (.int .i64 (ms.getD i 0))) := fun i hi => by
    obtain ⟨b, o, e, q, _⟩ := mark_at hm hi
    refine ⟨b, o, e, block_lt_of_cell q, ?_⟩
    rw [q, List.getD_eq_getElem?_getD, List.getElem?_eq_getElem hi]
    rfl
  clear hy hm hv
  refine (callsIn_wide (n := 3)).1 ?_
  refine callsIn_of_wp_marks Try.func48 rfl trivial ?_ rfl
  simp only [Try.ntmps48, List.size_toArray, List.length_cons, List.length_nil, Nat.reduceAdd, Nat.reduceSub, Array.replicate_succ, Array.replicate_zero, List.push_toArray, List.append_toArray, List.nil_append, List.cons_append]
  have P0 := BoxOf.alloc (BoxOf.new w #[.int .i64 nu, .int .u8 k, .int .i64 a, .int .i64 y, .slice Ab nb cb, .slice Am ms.length cm] 64) (.cells #[.bool false] 4)
  have R0 := BoxOf.new' (w.alloc (.cells #[.int .i64 nu, .int .u8 k, .int .i64 a, .int .i64 y, .slice Ab nb cb, .slice Am ms.length cm] 64)) (w.heap.size + 1) #[.bool false] 4 (by simp)
  have t0 := Ext.alloc (Ext.alloc (Below.refl w.heap.size w) (.cells #[.int .i64 nu, .int .u8 k, .int .i64 a, .int .i64 y, .slice Ab nb cb, .slice Am ms.length cm] 64)) (.cells #[.bool false] 4)
  have hbs : w.heap.size + 2 ≤ ((w.alloc (.cells #[.int .i64 nu, .int .u8 k, .int .i64 a, .int .i64 y, .slice Ab nb cb, .slice Am ms.length cm] 64)).alloc (.cells #[.bool false] 4)).heap.size := by simp
  have hsz : ((w.alloc (.cells #[.int .i64 nu, .int .u8 k, .int .i64 a, .int .i64 y, .slice Ab nb cb, .slice Am ms.length cm] 64)).alloc (.cells #[.bool false] 4)).heap.size = w.heap.size + 2 := by simp
  have HSZ := Lib.hid hsz
  clear hbs hsz
  gi_wp2_with fail
  generalize (w.alloc (.cells #[.int .i64 nu, .int .u8 k, .int .i64 a, .int .i64 y, .slice Ab nb cb, .slice Am ms.length cm] 64)).alloc (.cells #[.bool false] 4) = W at *
  refine ⟨trivial, (both_in Fence.wide 2 trivial rfl Am B ms.length cm ys.length d W).mono ?_⟩
  rintro e w7 ⟨rfl, rfl⟩
  have P1 := (P0.alloc (.cells #[.slice Am ms.length cm] 62)).alloc (.cells #[.slice B ys.length d] 25)
  have R1 := (R0.alloc (.cells #[.slice Am ms.length cm] 62)).alloc (.cells #[.slice B ys.length d] 25)
  have X1 := BoxOf.alloc (BoxOf.new W #[.slice Am ms.length cm] 62) (.cells #[.slice B ys.length d] 25)
  have Y1 := BoxOf.new' (W.alloc (.cells #[.slice Am ms.length cm] 62)) (W.heap.size + 1) #[.slice B ys.length d] 25 (by simp)
  have t1 := Ext.alloc (Ext.alloc t0 (.cells #[.slice Am ms.length cm] 62)) (.cells #[.slice B ys.length d] 25)
  rw [HSZ.out] at X1 Y1
  obtain ⟨base, hbase⟩ : ∃ z : Nat, z = w.heap.size + 4 := ⟨_, rfl⟩
  have hsz2 : ((W.alloc (.cells #[.slice Am ms.length cm] 62)).alloc (.cells #[.slice B ys.length d] 25)).heap.size = base := by simp [HSZ.out, hbase]
  rw [HSZ.out]
  generalize (W.alloc (.cells #[.slice Am ms.length cm] 62)).alloc (.cells #[.slice B ys.length d] 25) = V at *
  clear P0 R0 t0 HSZ
  obtain ⟨m, hmm⟩ : ∃ m : Nat, m = min ms.length vs.length := ⟨_, rfl⟩
  have tr : Hid (∀ (p : Addr) (v : Value), p.block < w.heap.size → w.cell? p = some v → V.cell? p = some v) := fun p v hp hv => (t1.cell hp).trans hv
  have x1 := X1.cell 0
  have y1 := Y1.cell 0
  have hV9 : base ≤ V.heap.size := by omega
  have hseq := both_stops Fence.wide (3 - 1) trivial rfl (by decide) (w.heap.size + 2) (w.heap.size + 2 + 1) base ms vs Am B cm d m (by rw [hmm]; omega) (by have := HMM.out; omega) V hV9 (by omega) (by omega) (x1.trans rfl) (y1.trans (by rw [HVL.out]; rfl))
    (fun i hi => by obtain ⟨b, o, e1, e2, e3⟩ := hma.out i hi; exact ⟨b, o, e1, by omega, tr.out _ _ e2 e3⟩)
    (fun i hi => by obtain ⟨_, b, o, e1, e2, e3⟩ := HV.out i (by have := HVL.out; omega); exact ⟨b, o, e1, by omega, tr.out _ _ e2 e3⟩)
    (fun i hi => by obtain ⟨⟨A', c', e⟩, _⟩ := HV.out i (by have := HVL.out; omega); exact ⟨A', _, c', e⟩)
  have hsz3 : w.heap.size + 4 ≤ V.heap.size := by omega
  have HSZ := Lib.hid (And.intro hbase (And.intro hsz2 hsz3))
  have HMM2 := Lib.hid hmm
  clear x1 y1 hV9 hsz2 hsz3 hbase hmm X1 Y1
  gi_wp2_with fail
  refine both_loop UPM rfl hseq rfl
    (fun pre W => BoxOf W w.heap.size #[.int .i64 nu, .int .u8 k, .int .i64 a, .int .i64 y, .slice Ab nb cb, .slice Am ms.length cm] 64 ∧ BoxOf W (w.heap.size + 1) #[.bool false] 4 ∧ Below w.heap.size w W ∧ ∀ x ∈ pre, MarkOk ms ys x.val)
    (fun c pre W => c = .ret ∧ BoxOf W (w.heap.size + 1) #[.bool false] 4 ∧ Below w.heap.size w W ∧ ¬ MarksOk k ms ys) ?own ?ownx ⟨P1, R1, t1, fun x h => by cases h⟩ ?assign ?body ?done ?stop
  case own =>
    rintro pre W W' row ⟨h1, h2, h3, h4⟩ hgr hr
    exact ⟨own_cells h1 hgr hr, own_cells h2 hgr hr, h3.grown hgr h3.size (fun k e => by have := (hr k e).1; have := HSZ.out; omega), h4⟩
  case ownx =>
    rintro c pre W W' row ⟨h1, h2, h3, h4⟩ hgr hr
    exact ⟨h1, own_cells h2 hgr hr, h3.grown hgr h3.size (fun k e => by have := (hr k e).1; have := HSZ.out; omega), h4⟩
  case assign =>
    intro l x W K hK
    gi_wp2
    simpa [UPM, encB] using hK
  case stop =>
    rintro D c pre W hD _ ⟨rfl, hR, hbw, hno⟩ hDW
    have HNO := Lib.hid hno
    clear hno
    gi_wp2
    refine ⟨by simp, .inl ⟨_, _, rfl, run_takeDeferred hDW, ?_⟩⟩
    have hg := grownBy_putObj' W D (.deferred none)
    have R2 := own_cells (B := V.heap.size) hR hg (fun r e => by cases e; exact ⟨hD, _, hDW, rfl⟩)
    have t2 := hbw.grown hg hbw.size (fun k e => by cases e; have := HSZ.out; omega)
    exact ⟨_, results_bool rfl _ _ (w.heap.size + 1) (.bool false) rfl ((R2.cell 0).trans rfl), YesNo.no HNO.out, t2⟩
  case body =>
    rintro l pre x W2 ⟨hP, hR, hbw, hall⟩ hlt
    simp only [UPM, encB, List.setIfInBounds_toArray, List.set_cons_zero, List.set_cons_succ, Array.getD_eq_getD_getElem?, List.getElem?_toArray, List.getElem?_cons_zero, List.getElem?_cons_succ, Option.getD_some]
    have hx1 : x.val < ms.length := by have := x.isLt; have := HMM2.out; omega
    have hx2 : x.val < ys.length := by have := x.isLt; have := HMM2.out; have := HVL.out; omega
    obtain ⟨⟨A', c', ev⟩, _⟩ := HV.out x.val hx2
    have em : ms.getD x.val 0 = ms[x.val] := by rw [List.getD_eq_getElem?_getD, List.getElem?_eq_getElem hx1]; rfl
    rw [ev, em]
    have HMK : Hid (MarkOk ms ys x.val ↔ (0 ≤ ms[x.val] ∧ ms[x.val] < ((ys[x.val]).length : Int))) := ⟨fun h => h hx1 hx2, fun h _ _ => h⟩
    generalize ms[x.val] = z at *
    generalize ys[x.val] = zs at *
    have HALL := Lib.hid hall
    clear hall ev em
    have fr := hR.free
    have yr := hR.cell
    rcases Bool.eq_false_or_eq_true (decide (z < 0)) with e1 | e1
    · have hno : ¬ MarksOk k ms ys := fun h => by
        have h2 := HMK.out.1 ((HK.out.1 h).2 x.val)
        have := of_decide_eq_true e1
        omega
      have HNO := Lib.hid hno
      clear hno
      gi_wp2
      exact ⟨KeepsOthers.setCell _ _ _, rfl, (show BoxOf _ _ #[.bool false] _ from mbox_self hR 0 (.bool false)), Below.setCell (p := ⟨w.heap.size + 1, 0, none⟩) hbw (Nat.le_succ _) _, HNO.out⟩
    · rcases Bool.eq_false_or_eq_true (decide ((zs.length : Int) ≤ z)) with e2 | e2
      · have hno : ¬ MarksOk k ms ys := fun h => by
          have h2 := HMK.out.1 ((HK.out.1 h).2 x.val)
          have := of_decide_eq_true e2
          omega
        have HNO := Lib.hid hno
        clear hno
        gi_wp2
        exact ⟨KeepsOthers.setCell _ _ _, rfl, (show BoxOf _ _ #[.bool false] _ from mbox_self hR 0 (.bool false)), Below.setCell (p := ⟨w.heap.size + 1, 0, none⟩) hbw (Nat.le_succ _) _, HNO.out⟩
      · have hx : Hid (MarkOk ms ys x.val) := HMK.out.2 (by have := of_decide_eq_false e1; have := of_decide_eq_false e2; omega)
        gi_wp2
        refine ⟨⟨Nat.le_refl _, fun _ _ h _ => h⟩, KeepL.refl _ _, hP, hR, hbw, fun y hy => ?_⟩
        rcases List.mem_append.1 hy with h | h
        · exact HALL.out y h
        · rw [List.mem_singleton] at h
          rw [h]
          exact hx.out
  case done =>
    rintro D xs W hD rfl ⟨hP, hR, hbw, hall⟩ hDW
    have HALL := Lib.hid hall
    have xr := hP.cell
    have fr := hR.free
    have yr := hR.cell
    have hDlt : D < W.heap.size := (Array.getElem?_eq_some_iff.1 hDW).1
    have HDW := Lib.hid hDW
    clear hall hDW
    gi_wp2_with fail
    have hne : D ≠ w.heap.size + 1 := by have := HSZ.out; omega
    have R3 : BoxOf _ (w.heap.size + 1) #[.bool ((ms.length : Int) == (ys.length : Int))] 4 := mbox_self hR 0 (.bool ((ms.length : Int) == (ys.length : Int)))
    have t3 := Below.setCell (p := ⟨w.heap.size + 1, 0, none⟩) hbw (Nat.le_succ _) (.bool ((ms.length : Int) == (ys.length : Int)))
    have hD3 := (Below.heap_setCell W ⟨w.heap.size + 1, 0, none⟩ (.bool ((ms.length : Int) == (ys.length : Int))) D hne).trans HDW.out
    refine ⟨by simp, .inl ⟨_, _, rfl, run_takeDeferred hD3, ?_⟩⟩
    have hg := grownBy_putObj' (W.setCell ⟨w.heap.size + 1, 0, none⟩ (.bool ((ms.length : Int) == (ys.length : Int)))) D (.deferred none)
    have R2 := own_cells (B := V.heap.size) R3 hg (fun r e => by cases e; exact ⟨hD, _, hD3, rfl⟩)
    have t2 := t3.grown hg t3.size (fun k e => by cases e; have := HSZ.out; omega)
    refine ⟨_, results_bool rfl _ _ (w.heap.size + 1) (.bool ((ms.length : Int) == (ys.length : Int))) rfl ((R2.cell 0).trans rfl), YesNo.of ?_, t2⟩
    rw [HK.out]
    constructor
    · intro h
      have hl : ms.length = ys.length := by simp at h; omega
      exact ⟨hl, fun i h1 h2 => HALL.out ⟨i, by have := HMM2.out; have := HVL.out; omega⟩ (by simp) h1 h2⟩
    · rintro ⟨h, _⟩
      simp [h]
theorem smarks_any (S S' : Nat → Prop) (ys : List (List (List UInt8))) (B : Option Addr) (d : Nat) (nu k a y : Int) (Ab : Option Addr) (nb cb : Nat) (ms : List Int) (Am : Option Addr) (cm : Nat) (w : World) (hy : RdIn w S (.sl (.sl (.sl .byte))) ys [.slice B ys.length d]) (hm : RdIn w S' (.sl .int) ms [.slice Am ms.length cm]) :
    Calls Try.prog 48 #[.agg #[.int .i64 nu, .int .u8 k, .int .i64 a, .int .i64 y, .slice Ab nb cb, .slice Am ms.length cm], .slice B ys.length d] w fun e w' => YesNo (MarksOk k ms ys) e ∧ Below w.heap.size w w' := by
  by_cases hk : k = 4
  · exact smarks_flush S S' ys B d nu k a y hk Ab nb cb ms Am cm w hy hm
  · exact smarks_plain S ys B d nu k a y hk Ab nb cb ms Am cm w
end Go.Proofs.Ytclbihcggjjgaaa
