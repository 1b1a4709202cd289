/- What this claim needs of my texts, merged (part 2). -/
import Derived.Test.YtclbihcggjjgaaaZModelNames1
/- Layer 30 (model): the program: whether marks may be. -/
namespace Go.Proofs.Ytclbihcggjjgaaa
open Go Go.RowKit Go.Shelf
set_option linter.unusedSimpArgs false
set_option linter.unusedVariables false
attribute [local go_sem] Oper.semAt_some

theorem results_bool {fn : Func} {p : Tmp} (h : fn.results = #[.cell p 4]) (tmps : Array Value) (w : World) (g : Nat) (v : Value)
    (hp : tmps.getD p undef = .pointer (some ⟨g, 0, none⟩)) (hg : w.cell? ⟨g, 0, none⟩ = some v) : (results fn tmps).run Try.prog w = .ok v w := by
  have hp' : tmps[p]?.getD undef = .pointer (some ⟨g, 0, none⟩) := by simpa using hp
  simp [results, h, hp', asAddr, go_sem, hg]
  try rfl
set_option maxRecDepth 100000 in
set_option maxHeartbeats 2000000 in
theorem smarks_plain (S : Nat → Prop) (ys : List (List (List UInt8))) (B : Option Addr) (d : Nat) (nu k a y : Int) (hk : ¬ k = 4) (Ab : Option Addr) (nb cb : Nat) (ms : List Int) (Am : Option Addr) (cm : Nat) (w : World) :
    Calls Try.prog 48 #[.agg #[.int .i64 nu, .int .u8 k, .int .i64 a, .int .i64 y, .slice Ab nb cb, .slice Am ms.length cm], .slice B ys.length d] w fun e w' => YesNo (MarksOk k ms ys) e ∧ Below w.heap.size w w' := by
  have hk' : (k != 4) = true := by simp [hk]
  have HK : Hid (MarksOk k ms ys ↔ ms.length = 0) := by show _ ↔ _; unfold MarksOk; rw [if_neg hk]
  clear hk
  have P0 := BoxOf.alloc (BoxOf.new w #[.int .i64 nu, .int .u8 k, .int .i64 a, .int .i64 y, .slice Ab nb cb, .slice Am ms.length cm] 64) (.cells #[.bool false] 4)
  have R0 := BoxOf.new' (w.alloc (.cells #[.int .i64 nu, .int .u8 k, .int .i64 a, .int .i64 y, .slice Ab nb cb, .slice Am ms.length cm] 64)) (w.heap.size + 1) #[.bool false] 4 (by simp)
  have t0 := Ext.alloc (Ext.alloc (Below.refl w.heap.size w) (.cells #[.int .i64 nu, .int .u8 k, .int .i64 a, .int .i64 y, .slice Ab nb cb, .slice Am ms.length cm] 64)) (.cells #[.bool false] 4)
  go_enter Try.func48, Try.ntmps48
  go_upto_region 1 with fail
  generalize (w.alloc (.cells #[.int .i64 nu, .int .u8 k, .int .i64 a, .int .i64 y, .slice Ab nb cb, .slice Am ms.length cm] 64)).alloc (.cells #[.bool false] 4) = W at *
  have x0 := P0.cell
  have f0 := R0.free
  have y0 := R0.cell
  go_wp2
  have R1 : BoxOf _ (w.heap.size + 1) #[.bool ((ms.length : Int) == 0)] 4 := mbox_self R0 0 (.bool ((ms.length : Int) == 0))
  have t1 := Below.setCell (p := ⟨w.heap.size + 1, 0, none⟩) t0 (show w.heap.size ≤ w.heap.size + 1 by omega) (.bool ((ms.length : Int) == 0))
  refine bodyPost_ret (results_bool rfl _ _ (w.heap.size + 1) (.bool ((ms.length : Int) == 0)) rfl ((R1.cell 0).trans rfl)) rfl ⟨YesNo.of (by rw [HK.out]; simp), t1⟩

def UPM (e : Array Value) (t : Array Value) : Array Value := (((t.setIfInBounds 19 (e.getD 0 undef)).setIfInBounds 20 (e.getD 1 undef)).setIfInBounds 5 (e.getD 0 undef)).setIfInBounds 6 (e.getD 1 undef)
theorem own_cells {B : Nat} {g : Nat} {W W' : World} {row : Option Nat} {cs : Array Value} {t : TypeId} (h : BoxOf W g cs t) (hg : W.grownBy W' row) (hr : ∀ r, row = some r → B ≤ r ∧ ∃ o : Obj, W.heap[r]? = some o ∧ o.isCells = false) : BoxOf W' g cs t := by
  refine h.grown hg fun e => ?_
  obtain ⟨_, o, ho, hc⟩ := hr g e
  have h1 : W.heap[g]? = some (.cells cs t (0, 0)) := h
  rw [h1] at ho
  cases ho
  simp [Obj.isCells] at hc
theorem may_vals {w : World} {S : Nat → Prop} {ys : List (List (List UInt8))} {A : Option Addr} {c : Nat} (h : RdIn w S (.sl (.sl (.sl .byte))) ys [.slice A ys.length c]) :
    ∃ vs : List Value, vs.length = ys.length ∧ ∀ i (hi : i < ys.length), (∃ A' c', vs.getD i undef = .slice A' (ys[i]).length c') ∧ ∃ b off, A = some ⟨b, off, none⟩ ∧ b < w.heap.size ∧ w.cell? ⟨b, off + i, none⟩ = some (vs.getD i undef) := by
  have each : ∀ i, i < ys.length → ∃ v : Value, (∀ hi : i < ys.length, (∃ A' c', v = .slice A' (ys[i]).length c')) ∧ ∃ b off, A = some ⟨b, off, none⟩ ∧ b < w.heap.size ∧ w.cell? ⟨b, off + i, none⟩ = some v := by
    intro i hi
    obtain ⟨b, off, A2, c2, e, q, r⟩ := may_at h hi
    exact ⟨_, fun _ => ⟨A2, c2, rfl⟩, b, off, e, block_lt_of_cell q, q⟩
  obtain ⟨l, hl, hr⟩ := choose_list (R := fun i v => (∀ hi : i < ys.length, (∃ A' c', v = .slice A' (ys[i]).length c')) ∧ ∃ b off, A = some ⟨b, off, none⟩ ∧ b < w.heap.size ∧ w.cell? ⟨b, off + i, none⟩ = some v) ys.length each
  refine ⟨l, hl, fun i hi => ?_⟩
  have e : l.getD i undef = l[i]'(by omega) := by rw [List.getD_eq_getElem?_getD, List.getElem?_eq_getElem (by omega)]; rfl
  rw [e]
  exact ⟨(hr i (by omega)).1 hi, (hr i (by omega)).2⟩

theorem both_loop {ms : List Int} {vs : List Value} {m gx gy base : Nat} {g : Operand} {ps : Array Tmp} {assign body : Code} {Q : Exit → Act → World → Prop} {a : Act} {w : World} (U : Array Value → Array Value → Array Value) (hg : a.eval g = .func (.func 87) #[] #[.pointer (some ⟨gx, 0, none⟩), .pointer (some ⟨gy, 0, none⟩)])
    {S Sp : List (Fin m) → Prop} (hseq : SeqStopsK Fence.wide (3 - 1) Try.prog 87 #[.pointer (some ⟨gx, 0, none⟩), .pointer (some ⟨gy, 0, none⟩)] (encB ms vs (m := m)) (KeepL base) S Sp m w) (hps : ps.size = 2)
    (I : List (Fin m) → World → Prop) (Ix : Code → List (Fin m) → World → Prop) (hI : OwnFrom w.heap.size I) (hIx : ∀ c, OwnFrom w.heap.size (Ix c)) (h0 : I [] w)
    (hassign : ∀ (l : Nat) (x : Fin m) (W : World) (K : Act → World → Prop), K { tmps := U (encB ms vs x) a.tmps, defers := [] } W →
      assign.wpIn (Fence.wide.inRound l) (3 - 1 - 1) Try.prog (Exit.then K (fun _ _ _ => False)) { tmps := (ps.zip (encB ms vs x)).foldl (fun t (p, v) => t.setIfInBounds p v) a.tmps, defers := [] } W)
    (hbody : ∀ (l : Nat) (pre : List (Fin m)) (x : Fin m) (W : World), I pre W → pre.length < m → body.wpIn (Fence.wide.inRound l) (3 - 1 - 1) Try.prog (ownPostK (KeepL base) I Ix (pre ++ [x]) W) { tmps := U (encB ms vs x) a.tmps, defers := [] } W)
    (hdone : ∀ (D : Nat) (xs : List (Fin m)) (W : World), w.heap.size ≤ D → S xs → I xs W → W.heap[D]? = some (.deferred (some [])) → Q .normal { a with defers := { target := .collected D, args := #[] } :: a.defers } W)
    (hstop : ∀ (D : Nat) (c : Code) (pre : List (Fin m)) (W : World), w.heap.size ≤ D → Sp pre → Ix c pre W → W.heap[D]? = some (.deferred (some [])) → c.wpIn Fence.wide 3 Try.prog Q { a with defers := { target := .collected D, args := #[] } :: a.defers } W) :
    (Code.rangeFunc g ps assign body).wpIn Fence.wide 3 Try.prog Q a w :=
  wpIn_rangeFunc_ownF rfl (by decide) hg trivial (enters_of Try.func87 (by kernel_rfl) rfl) hseq (fun h k => h.trans k) (keepL_b base) (Below.refl _ _) (fun x => by rw [hps]; rfl) I Ix hI hIx h0 (fun x => { tmps := U (encB ms vs x) a.tmps, defers := [] }) hassign hbody hdone hstop

set_option maxRecDepth 100000 in
set_option maxHeartbeats 2000000 in
theorem smarks_flush (S S' : Nat → Prop) (ys : List (List (List UInt8))) (B : Option Addr) (d : Nat) (nu k a y : Int) (hk : k = 4) (Ab : Option Addr) (nb cb : Nat) (ms : List Int) (Am : Option Addr) (cm : Nat) (w : World) (hy : RdIn w S (.sl (.sl (.sl .byte))) ys [.slice B ys.length d]) (hm : RdIn w S' (.sl .int) ms [.slice Am ms.length cm]) :
    Calls Try.prog 48 #[.agg #[.int .i64 nu, .int .u8 k, .int .i64 a, .int .i64 y, .slice Ab nb cb, .slice Am ms.length cm], .slice B ys.length d] w fun e w' => YesNo (MarksOk k ms ys) e ∧ Below w.heap.size w w' := by
  have hk' : (k != 4) = false := by simp [hk]
  have HK : Hid (MarksOk k ms ys ↔ (ms.length = ys.length ∧ ∀ i, MarkOk ms ys i)) := by show _ ↔ _; unfold MarksOk; rw [if_pos hk]
  clear hk
  obtain ⟨vs, hvl, hv⟩ := may_vals hy
  have HVL := Lib.hid hvl
  have HV := Lib.hid hv
  have HYM := Lib.hid (may_max hy)
  have HMM := Lib.hid (mark_max hm)
  have hma : Hid (∀ i, i < ms.length → ∃ b o, Am = some ⟨b, o, none⟩ ∧ b < w.heap.size ∧ w.cell? ⟨b, o + i, none⟩ = some (.int .i64 (ms.getD i 0))) := fun i hi => by
    obtain ⟨b, o, e, q, _⟩ := mark_at hm hi
    refine ⟨b, o, e, block_lt_of_cell q, ?_⟩
    rw [q, List.getD_eq_getElem?_getD, List.getElem?_eq_getElem hi]
    rfl
  clear hy hm hv
  refine (callsIn_wide (n := 3)).1 ?_
  refine callsIn_of_wp_marks Try.func48 rfl trivial ?_ rfl
  simp only [Try.ntmps48, List.size_toArray, List.length_cons, List.length_nil, Nat.reduceAdd, Nat.reduceSub, Array.replicate_succ, Array.replicate_zero, List.push_toArray, List.append_toArray, List.nil_append, List.cons_append]
  have P0 := BoxOf.alloc (BoxOf.new w #[.int .i64 nu, .int .u8 k, .int .i64 a, .int .i64 y, .slice Ab nb cb, .slice Am ms.length cm] 64) (.cells #[.bool false] 4)
  have R0 := BoxOf.new' (w.alloc (.cells #[.int .i64 nu, .int .u8 k, .int .i64 a, .int .i64 y, .slice Ab nb cb, .slice Am ms.length cm] 64)) (w.heap.size + 1) #[.bool false] 4 (by simp)
  have t0 := Ext.alloc (Ext.alloc (Below.refl w.heap.size w) (.cells #[.int .i64 nu, .int .u8 k, .int .i64 a, .int .i64 y, .slice Ab nb cb, .slice Am ms.length cm] 64)) (.cells #[.bool false] 4)
  have hbs : w.heap.size + 2 ≤ ((w.alloc (.cells #[.int .i64 nu, .int .u8 k, .int .i64 a, .int .i64 y, .slice Ab nb cb, .slice Am ms.length cm] 64)).alloc (.cells #[.bool false] 4)).heap.size := by simp
  have hsz : ((w.alloc (.cells #[.int .i64 nu, .int .u8 k, .int .i64 a, .int .i64 y, .slice Ab nb cb, .slice Am ms.length cm] 64)).alloc (.cells #[.bool false] 4)).heap.size = w.heap.size + 2 := by simp
  have HSZ := Lib.hid hsz
  clear hbs hsz
  gi_wp2_with fail
  generalize (w.alloc (.cells #[.int .i64 nu, .int .u8 k, .int .i64 a, .int .i64 y, .slice Ab nb cb, .slice Am ms.length cm] 64)).alloc (.cells #[.bool false] 4) = W at *
  refine ⟨trivial, (both_in Fence.wide 2 trivial rfl Am B ms.length cm ys.length d W).mono ?_⟩
  rintro e w7 ⟨rfl, rfl⟩
  have P1 := (P0.alloc (.cells #[.slice Am ms.length cm] 62)).alloc (.cells #[.slice B ys.length d] 25)
  have R1 := (R0.alloc (.cells #[.slice Am ms.length cm] 62)).alloc (.cells #[.slice B ys.length d] 25)
  have X1 := BoxOf.alloc (BoxOf.new W #[.slice Am ms.length cm] 62) (.cells #[.slice B ys.length d] 25)
  have Y1 := BoxOf.new' (W.alloc (.cells #[.slice Am ms.length cm] 62)) (W.heap.size + 1) #[.slice B ys.length d] 25 (by simp)
  have t1 := Ext.alloc (Ext.alloc t0 (.cells #[.slice Am ms.length cm] 62)) (.cells #[.slice B ys.length d] 25)
  rw [HSZ.out] at X1 Y1
  obtain ⟨base, hbase⟩ : ∃ z : Nat, z = w.heap.size + 4 := ⟨_, rfl⟩
  have hsz2 : ((W.alloc (.cells #[.slice Am ms.length cm] 62)).alloc (.cells #[.slice B ys.length d] 25)).heap.size = base := by simp [HSZ.out, hbase]
  rw [HSZ.out]
  generalize (W.alloc (.cells #[.slice Am ms.length cm] 62)).alloc (.cells #[.slice B ys.length d] 25) = V at *
  clear P0 R0 t0 HSZ
  obtain ⟨m, hmm⟩ : ∃ m : Nat, m = min ms.length vs.length := ⟨_, rfl⟩
  have tr : Hid (∀ (p : Addr) (v : Value), p.block < w.heap.size → w.cell? p = some v → V.cell? p = some v) := fun p v hp hv => (t1.cell hp).trans hv
  have x1 := X1.cell 0
  have y1 := Y1.cell 0
  have hV9 : base ≤ V.heap.size := by omega
  have hseq := both_stops Fence.wide (3 - 1) trivial rfl (by decide) (w.heap.size + 2) (w.heap.size + 2 + 1) base ms vs Am B cm d m (by rw [hmm]; omega) (by have := HMM.out; omega) V hV9 (by omega) (by omega) (x1.trans rfl) (y1.trans (by rw [HVL.out]; rfl))
    (fun i hi => by obtain ⟨b, o, e1, e2, e3⟩ := hma.out i hi; exact ⟨b, o, e1, by omega, tr.out _ _ e2 e3⟩)
    (fun i hi => by obtain ⟨_, b, o, e1, e2, e3⟩ := HV.out i (by have := HVL.out; omega); exact ⟨b, o, e1, by omega, tr.out _ _ e2 e3⟩)
    (fun i hi => by obtain ⟨⟨A', c', e⟩, _⟩ := HV.out i (by have := HVL.out; omega); exact ⟨A', _, c', e⟩)
  have hsz3 : w.heap.size + 4 ≤ V.heap.size := by omega
  have HSZ := Lib.hid (And.intro hbase (And.intro hsz2 hsz3))
  have HMM2 := Lib.hid hmm
  clear x1 y1 hV9 hsz2 hsz3 hbase hmm X1 Y1
  gi_wp2_with fail
  refine both_loop UPM rfl hseq rfl
    (fun pre W => BoxOf W w.heap.size #[.int .i64 nu, .int .u8 k, .int .i64 a, .int .i64 y, .slice Ab nb cb, .slice Am ms.length cm] 64 ∧ BoxOf W (w.heap.size + 1) #[.bool false] 4 ∧ Below w.heap.size w W ∧ ∀ x ∈ pre, MarkOk ms ys x.val)
    (fun c pre W => c = .ret ∧ BoxOf W (w.heap.size + 1) #[.bool false] 4 ∧ Below w.heap.size w W ∧ ¬ MarksOk k ms ys) ?own ?ownx ⟨P1, R1, t1, fun x h => by cases h⟩ ?assign ?body ?done ?stop
  case own =>
    rintro pre W W' row ⟨h1, h2, h3, h4⟩ hgr hr
    exact ⟨own_cells h1 hgr hr, own_cells h2 hgr hr, h3.grown hgr h3.size (fun k e => by have := (hr k e).1; have := HSZ.out; omega), h4⟩
  case ownx =>
    rintro c pre W W' row ⟨h1, h2, h3, h4⟩ hgr hr
    exact ⟨h1, own_cells h2 hgr hr, h3.grown hgr h3.size (fun k e => by have := (hr k e).1; have := HSZ.out; omega), h4⟩
  case assign =>
    intro l x W K hK
    gi_wp2
    simpa [UPM, encB] using hK
  case stop =>
    rintro D c pre W hD _ ⟨rfl, hR, hbw, hno⟩ hDW
    have HNO := Lib.hid hno
    clear hno
    gi_wp2
    refine ⟨by simp, .inl ⟨_, _, rfl, run_takeDeferred hDW, ?_⟩⟩
    have hg := grownBy_putObj' W D (.deferred none)
    have R2 := own_cells (B := V.heap.size) hR hg (fun r e => by cases e; exact ⟨hD, _, hDW, rfl⟩)
    have t2 := hbw.grown hg hbw.size (fun k e => by cases e; have := HSZ.out; omega)
    exact ⟨_, results_bool rfl _ _ (w.heap.size + 1) (.bool false) rfl ((R2.cell 0).trans rfl), YesNo.no HNO.out, t2⟩
  case body =>
    rintro l pre x W2 ⟨hP, hR, hbw, hall⟩ hlt
    simp only [UPM, encB, List.setIfInBounds_toArray, List.set_cons_zero, List.set_cons_succ, Array.getD_eq_getD_getElem?, List.getElem?_toArray, List.getElem?_cons_zero, List.getElem?_cons_succ, Option.getD_some]
    have hx1 : x.val < ms.length := by have := x.isLt; have := HMM2.out; omega
    have hx2 : x.val < ys.length := by have := x.isLt; have := HMM2.out; have := HVL.out; omega
    obtain ⟨⟨A', c', ev⟩, _⟩ := HV.out x.val hx2
    have em : ms.getD x.val 0 = ms[x.val] := by rw [List.getD_eq_getElem?_getD, List.getElem?_eq_getElem hx1]; rfl
    rw [ev, em]
    have HMK : Hid (MarkOk ms ys x.val ↔ (0 ≤ ms[x.val] ∧ ms[x.val] < ((ys[x.val]).length : Int))) := ⟨fun h => h hx1 hx2, fun h _ _ => h⟩
    generalize ms[x.val] = z at *
    generalize ys[x.val] = zs at *
    have HALL := Lib.hid hall
    clear hall ev em
    have fr := hR.free
    have yr := hR.cell
    rcases Bool.eq_false_or_eq_true (decide (z < 0)) with e1 | e1
    · have hno : ¬ MarksOk k ms ys := fun h => by
        have h2 := HMK.out.1 ((HK.out.1 h).2 x.val)
        have := of_decide_eq_true e1
        omega
      have HNO := Lib.hid hno
      clear hno
      gi_wp2
      exact ⟨KeepsOthers.setCell _ _ _, rfl, (show BoxOf _ _ #[.bool false] _ from mbox_self hR 0 (.bool false)), Below.setCell (p := ⟨w.heap.size + 1, 0, none⟩) hbw (Nat.le_succ _) _, HNO.out⟩
    · rcases Bool.eq_false_or_eq_true (decide ((zs.length : Int) ≤ z)) with e2 | e2
      · have hno : ¬ MarksOk k ms ys := fun h => by
          have h2 := HMK.out.1 ((HK.out.1 h).2 x.val)
          have := of_decide_eq_true e2
          omega
        have HNO := Lib.hid hno
        clear hno
        gi_wp2
        exact ⟨KeepsOthers.setCell _ _ _, rfl, (show BoxOf _ _ #[.bool false] _ from mbox_self hR 0 (.bool false)), Below.setCell (p := ⟨w.heap.size + 1, 0, none⟩) hbw (Nat.le_succ _) _, HNO.out⟩
      · have hx : Hid (MarkOk ms ys x.val) := HMK.out.2 (by have := of_decide_eq_false e1; have := of_decide_eq_false e2; omega)
        gi_wp2
        refine ⟨⟨Nat.le_refl _, fun _ _ h _ => h⟩, KeepL.refl _ _, hP, hR, hbw, fun y hy => ?_⟩
        rcases List.mem_append.1 hy with h | h
        · exact HALL.out y h
        · rw [List.mem_singleton] at h
          rw [h]
          exact hx.out
  case done =>
    rintro D xs W hD rfl ⟨hP, hR, hbw, hall⟩ hDW
    have HALL := Lib.hid hall
    have xr := hP.cell
    have fr := hR.free
    have yr := hR.cell
    have hDlt : D < W.heap.size := (Array.getElem?_eq_some_iff.1 hDW).1
    have HDW := Lib.hid hDW
    clear hall hDW
    gi_wp2_with fail
    have hne : D ≠ w.heap.size + 1 := by have := HSZ.out; omega
    have R3 : BoxOf _ (w.heap.size + 1) #[.bool ((ms.length : Int) == (ys.length : Int))] 4 := mbox_self hR 0 (.bool ((ms.length : Int) == (ys.length : Int)))
    have t3 := Below.setCell (p := ⟨w.heap.size + 1, 0, none⟩) hbw (Nat.le_succ _) (.bool ((ms.length : Int) == (ys.length : Int)))
    have hD3 := (Below.heap_setCell W ⟨w.heap.size + 1, 0, none⟩ (.bool ((ms.length : Int) == (ys.length : Int))) D hne).trans HDW.out
    refine ⟨by simp, .inl ⟨_, _, rfl, run_takeDeferred hD3, ?_⟩⟩
    have hg := grownBy_putObj' (W.setCell ⟨w.heap.size + 1, 0, none⟩ (.bool ((ms.length : Int) == (ys.length : Int)))) D (.deferred none)
    have R2 := own_cells (B := V.heap.size) R3 hg (fun r e => by cases e; exact ⟨hD, _, hD3, rfl⟩)
    have t2 := t3.grown hg t3.size (fun k e => by cases e; have := HSZ.out; omega)
    refine ⟨_, results_bool rfl _ _ (w.heap.size + 1) (.bool ((ms.length : Int) == (ys.length : Int))) rfl ((R2.cell 0).trans rfl), YesNo.of ?_, t2⟩
    rw [HK.out]
    constructor
    · intro h
      have hl : ms.length = ys.length := by simp at h; omega
      exact ⟨hl, fun i h1 h2 => HALL.out ⟨i, by have := HMM2.out; have := HVL.out; omega⟩ (by simp) h1 h2⟩
    · rintro ⟨h, _⟩
      simp [h]
theorem smarks_any (S S' : Nat → Prop) (ys : List (List (List UInt8))) (B : Option Addr) (d : Nat) (nu k a y : Int) (Ab : Option Addr) (nb cb : Nat) (ms : List Int) (Am : Option Addr) (cm : Nat) (w : World) (hy : RdIn w S (.sl (.sl (.sl .byte))) ys [.slice B ys.length d]) (hm : RdIn w S' (.sl .int) ms [.slice Am ms.length cm]) :
    Calls Try.prog 48 #[.agg #[.int .i64 nu, .int .u8 k, .int .i64 a, .int .i64 y, .slice Ab nb cb, .slice Am ms.length cm], .slice B ys.length d] w fun e w' => YesNo (MarksOk k ms ys) e ∧ Below w.heap.size w w' := by
  by_cases hk : k = 4
  · exact smarks_flush S S' ys B d nu k a y hk Ab nb cb ms Am cm w hy hm
  · exact smarks_plain S ys B d nu k a y hk Ab nb cb ms Am cm w
end Go.Proofs.Ytclbihcggjjgaaa
/- Layer 30 (model): the program: whether a plain array may be. -/
namespace Go.Proofs.Ytclbihcggjjgaaa
open Go Go.RowKit
set_option linter.unusedSimpArgs false
set_option linter.unusedVariables false

/-- 0 where it is so, 8 where it is not -/
def OkBad (P : Prop) (e : Ending) : Prop := (P ∧ e = .returned (.int .i64 0)) ∨ (¬ P ∧ e = .returned (.int .i64 8))
theorem OkBad.ok {P : Prop} (h : P) : OkBad P (.returned (.int .i64 0)) := .inl ⟨h, rfl⟩
theorem OkBad.bad {P : Prop} (h : ¬ P) : OkBad P (.returned (.int .i64 8)) := .inr ⟨h, rfl⟩
def LastIs (gs : List GoTy.T) (j : Nat) (last : Int) : Prop := 0 ≤ last ∧ (j = 0 → last = 0) ∧ (∀ (h : j - 1 < gs.length), 0 < j → last = nuOf gs[j - 1])
theorem LastIs.none (gs : List GoTy.T) : LastIs gs 0 0 := ⟨Int.le_refl 0, fun _ => rfl, fun _ h => absurd h (Nat.lt_irrefl 0)⟩
theorem LastIs.next {gs : List GoTy.T} {j : Nat} {n last : Int} (h : LastIs gs j last) (hn : last < n) (hj : ∀ h : j < gs.length, nuOf gs[j] = n) : LastIs gs (j + 1) n :=
  ⟨by have := h.1; omega, fun h => by omega, fun h0 _ => (hj h0).symm⟩
theorem LastIs.no {x : Cfg} {ys : List (List (List UInt8))} {gs : List GoTy.T} {j : Nat} {last : Int} (h : LastIs gs j last) (hj : j < gs.length) (hn : nuOf gs[j] ≤ last) : ¬ GoOk x ys gs j := by
  intro hg
  obtain ⟨h1, h2⟩ := hg hj
  by_cases h0 : 0 < j
  · have h3 := h2 (by omega) h0
    have h4 := h.2.2 (by omega) h0
    omega
  · have h3 := h.2.1 (by omega)
    have := h1.1
    omega
theorem LastIs.yes {x : Cfg} {ys : List (List (List UInt8))} {gs : List GoTy.T} {j : Nat} {last : Int} (h : LastIs gs j last) (hj : j < gs.length) (hn : last < nuOf gs[j]) (h1 : askCode x ((kiOf gs[j]).toNat : Int) (atOf gs[j]) (manyOf gs[j]) (datOf gs[j]).length = 0) (h2 : MarksOk ((kiOf gs[j]).toNat : Int) (mksOf gs[j]) ys) : GoOk x ys gs j := fun _ =>
  ⟨⟨by have := h.1; omega, h1, h2⟩, fun h3 h0 => by have := h.2.2 h3 h0; omega⟩

set_option maxRecDepth 100000 in
set_option maxHeartbeats 2000000 in
theorem spcheck_any (S : Nat → Prop) (x : Cfg) (ys : List (List (List UInt8))) (gs : List GoTy.T) (A : Option Addr) (ca : Nat) (B : Option Addr) (cb : Nat) (w : World) (hy : RdIn w S (.sl (.sl (.sl .byte))) ys [.slice A ys.length ca]) (hg : RdIn w S (.sl GoTy) gs [.slice B gs.length cb]) :
    Calls Try.prog 18 #[x.val, .agg #[.slice A ys.length ca, .slice B gs.length cb]] w fun e w' => OkBad (PlainOk x ys gs) e ∧ Below w.heap.size w w' := by
  by_cases hx : x.Ok
  · have HB := Lib.hid (blocks_ok x hx)
    have HX := Lib.hid hx
    have HC : Hid (∀ (k a y : Int) (A : Option Addr) (n q : Nat) (w : World), Calls Try.prog 47 #[x.val, .agg #[.int .u8 k, .int .i64 a, .int .i64 y, .slice A n q]] w fun e w' => e = .returned (.int .i64 (askCode x k a y n)) ∧ Below w.heap.size w w') := scheck_all x
    obtain ⟨nbk, hnb⟩ : ∃ z, z = x.c * x.r * (x.m - 1) := ⟨_, rfl⟩
    have HN := Lib.hid hnb
    rw [← hnb] at HB
    clear hnb hx
    obtain ⟨id, m, c, r, l, h⟩ := x
    unfold Cfg.val at *
    dsimp only at *
    have C0 := BoxOf.alloc (BoxOf.new w #[.int .u32 (id : Int), .int .i64 m, .int .i64 c, .int .i64 r, .int .i64 l, .int .i64 h] 24) (.cells #[.slice A ys.length ca, .slice B gs.length cb] 28)
    have P0 := BoxOf.new' (w.alloc (.cells #[.int .u32 (id : Int), .int .i64 m, .int .i64 c, .int .i64 r, .int .i64 l, .int .i64 h] 24)) (w.heap.size + 1) #[.slice A ys.length ca, .slice B gs.length cb] 28 (by simp)
    have t0 := Ext.alloc (Ext.alloc (Below.refl w.heap.size w) (.cells #[.int .u32 (id : Int), .int .i64 m, .int .i64 c, .int .i64 r, .int .i64 l, .int .i64 h] 24)) (.cells #[.slice A ys.length ca, .slice B gs.length cb] 28)
    have HY := Lib.hid (hy.below t0)
    have HG := Lib.hid (hg.below t0)
    have HYM := Lib.hid (may_max hy)
    have HGM := Lib.hid (go_max hg)
    clear hy hg
    go_enter Try.func18, Try.ntmps18
    go_upto_region 1 with fail
    generalize (w.alloc (.cells #[.int .u32 (id : Int), .int .i64 m, .int .i64 c, .int .i64 r, .int .i64 l, .int .i64 h] 24)).alloc (.cells #[.slice A ys.length ca, .slice B gs.length cb] 28) = W at *
    have x0 := C0.cell
    go_wp2_with fail
    refine (HB.out _).mono ?_
    rintro e w1 ⟨rfl, b1⟩
    have C1 := C0.next b1
    have P1 := P0.next b1
    have t1 := Ext.trans t0 b1
    have HY1 := Lib.hid (HY.out.below b1)
    have HG1 := Lib.hid (HG.out.below b1)
    clear C0 P0 x0 HY HG t0
    have x1 := P1.cell
    rcases Bool.eq_false_or_eq_true ((ys.length : Int) != nbk) with e1 | e1
    · go_wp2
      go_ret
      exact ⟨OkBad.bad fun h => by have := h.len; have := HN.out; simp_all, t1⟩
    · rcases Bool.eq_false_or_eq_true (decide ((8 : Int) < (gs.length : Int))) with e2 | e2
      · go_wp2
        go_ret
        exact ⟨OkBad.bad fun h => by have := h.few; have := of_decide_eq_true e2; omega, t1⟩
      · have HL : Hid ((ys.length : Int) = nbk) := by show _ = _; simpa using e1
        have HF : Hid (gs.length ≤ 8) := by show _ ≤ _; have := of_decide_eq_false e2; omega
        go_wp2
        clear e1 e2
        go_loopw [8, 9, 36] (fun u v i wr => ∃ (j : Nat), j ≤ ys.length ∧ i = .int .i64 j ∧ Below w1.heap.size w1 wr ∧ Hid (∀ i, i < j → ValOk ys i)) (fun _ _ i _ => ys.length - (intOf i).toNat)
        case atStart => exact ⟨0, by omega, rfl, Below.refl _ _, fun i h => absurd h (Nat.not_lt_zero _)⟩
        case round =>
          obtain ⟨j, hj, rfl, b2, HA⟩ := hrel
          have P2 := P1.next b2
          by_cases hlt : j < ys.length
          · obtain ⟨b, off, A2, c2, rfl, q2, r2⟩ := may_at (HY1.out.below b2) hlt
            have HVK : Hid (ValOk ys j ↔ RowOk ys[j]) := ⟨fun h => h hlt, fun h _ => h⟩
            generalize ys[j] = zs at *
            have HWJ := next_wrap HYM.out hlt
            have HLJ := Lib.hid hlt
            have HZM := Lib.hid (val_max r2)
            have HR := Lib.hid r2
            have HCF := Lib.hid (has_check S zs A2 c2 wr r2)
            clear r2
            go_wp2_with fail
            refine HCF.out.mono ?_
            rintro e w3 ⟨⟨odd, rfl, hodd⟩, b3⟩
            have b4 := Ext.trans b2 b3
            have t4 := Ext.trans t1 b4
            have HOD := Lib.hid hodd
            clear hodd
            rcases Bool.eq_false_or_eq_true (decide ((zs.length : Int) < 1)) with e1 | e1
            · go_wp2
              go_ret
              exact ⟨OkBad.bad fun h => by have h2 := (HVK.out.1 (h.vals j)).1; have := of_decide_eq_true e1; omega, t4⟩
            · rcases Bool.eq_false_or_eq_true (decide ((512 : Int) < (zs.length : Int))) with e2 | e2
              · go_wp2
                go_ret
                exact ⟨OkBad.bad fun h => by have h2 := (HVK.out.1 (h.vals j)).2.1; have := of_decide_eq_true e2; omega, t4⟩
              · have HZ : Hid (1 ≤ zs.length ∧ zs.length ≤ 512) := by show _ ∧ _; have := of_decide_eq_false e1; have := of_decide_eq_false e2; omega
                cases odd with
                | true =>
                  go_wp2
                  go_ret
                  refine ⟨OkBad.bad fun h => ?_, t4⟩
                  have h2 := (HVK.out.1 (h.vals j)).2.2
                  obtain ⟨i, hi, h3⟩ := HOD.out.1 (by first | rfl | trivial)
                  have h4 := h2 i hi
                  unfold odd128 at h3
                  rw [h4] at h3
                  simp at h3
                | false =>
                  have HA' : Hid (∀ i, i < j + 1 → ValOk ys i) := by
                    intro i hi
                    by_cases h : i = j
                    · subst h
                      refine HVK.out.2 ⟨HZ.out.1, HZ.out.2, fun q hq => ?_⟩
                      by_cases h5 : (zs[q]).length = 128
                      · exact h5
                      · exfalso
                        have := HOD.out.2 ⟨q, hq, by unfold odd128; simp; omega⟩
                        cases this
                    · exact HA.out i (by omega)
                  go_wp2
                  go_roundw
                  case rel => exact ⟨j + 1, HLJ.out, by first | exact round_same HWJ | go_num, b4, HA'⟩
                  case measure => first | exact round_less HWJ HLJ.out | (have h := HLJ.out; simp [intOf]; omega)
          · have HV : Hid (∀ i, ValOk ys i) := fun i => by
              by_cases h : i < j
              · exact HA.out i h
              · exact fun h' => absurd h' (by omega)
            clear hj HA x1
            have x2 := P2.cell
            go_wp2
            clear x2
            go_loopw [10, 57] (fun u i wr => ∃ (j : Nat) (last : Int), j ≤ gs.length ∧ u = .int .i64 last ∧ i = .int .i64 j ∧ Below w1.heap.size w1 wr ∧ Hid (LastIs gs j last ∧ ∀ i, i < j → GoOk ⟨id, m, c, r, l, h⟩ ys gs i)) (fun _ i _ => gs.length - (intOf i).toNat)
            case atStart => exact ⟨0, 0, by omega, rfl, rfl, b2, LastIs.none gs, fun i h => absurd h (Nat.not_lt_zero _)⟩
            case round =>
              obtain ⟨j, last, hj, rfl, rfl, b3, HA⟩ := hrel
              clear b2 P2
              have P2 := P1.next b3
              have C2 := C1.next b3
              have t3 := Ext.trans t1 b3
              by_cases hlt : j < gs.length
              · obtain ⟨b, off, Ab, cg, Am, cm, rfl, q0, q1, q2, q3, q4, q5, i0, i1, i2, rb, rm⟩ := go_at (HG1.out.below b3) hlt
                have HNO : Hid (nuOf gs[j] ≤ last → ¬ GoOk ⟨id, m, c, r, l, h⟩ ys gs j) := fun h => HA.out.1.no hlt h
                have HYES : Hid (last < nuOf gs[j] → askCode ⟨id, m, c, r, l, h⟩ ((kiOf gs[j]).toNat : Int) (atOf gs[j]) (manyOf gs[j]) (datOf gs[j]).length = 0 → MarksOk ((kiOf gs[j]).toNat : Int) (mksOf gs[j]) ys → GoOk ⟨id, m, c, r, l, h⟩ ys gs j ∧ LastIs gs (j + 1) (nuOf gs[j])) := fun h1 h2 h3 => ⟨HA.out.1.yes hlt h1 h2 h3, HA.out.1.next h1 (fun _ => rfl)⟩
                have HGK : Hid (GoOk ⟨id, m, c, r, l, h⟩ ys gs j → OneOk ⟨id, m, c, r, l, h⟩ ys gs[j]) := fun h => (h hlt).1
                generalize gs[j] = g at *
                have HWJ := next_wrap HGM.out hlt
                have HLJ := Lib.hid hlt
                have bA := Ext.alloc (Below.refl wr.heap.size wr) (.cells #[.int .i64 (nuOf g), .int .u8 ((kiOf g).toNat : Int), .int .i64 (atOf g), .int .i64 (manyOf g), .slice Ab (datOf g).length cg, .slice Am (mksOf g).length cm] 64)
                have b4 := Ext.trans b3 bA
                have t4 := Ext.trans t3 bA
                have C3 := BoxOf.alloc C2 (.cells #[.int .i64 (nuOf g), .int .u8 ((kiOf g).toNat : Int), .int .i64 (atOf g), .int .i64 (manyOf g), .slice Ab (datOf g).length cg, .slice Am (mksOf g).length cm] 64)
                have P3 := BoxOf.alloc P2 (.cells #[.int .i64 (nuOf g), .int .u8 ((kiOf g).toNat : Int), .int .i64 (atOf g), .int .i64 (manyOf g), .slice Ab (datOf g).length cg, .slice Am (mksOf g).length cm] 64)
                have GN := BoxOf.new wr #[.int .i64 (nuOf g), .int .u8 ((kiOf g).toNat : Int), .int .i64 (atOf g), .int .i64 (manyOf g), .slice Ab (datOf g).length cg, .slice Am (mksOf g).length cm] 64
                have HY2 := Lib.hid (HY1.out.below b4)
                have HRM2 := Lib.hid (rm.below bA)
                clear i0 i1 i2 rb rm bA
                go_upto_region 15 with fail
                obtain ⟨gn, hgn⟩ : ∃ z : Nat, z = wr.heap.size := ⟨_, rfl⟩
                rw [← hgn] at GN ⊢
                generalize wr.alloc (.cells #[.int .i64 (nuOf g), .int .u8 ((kiOf g).toNat : Int), .int .i64 (atOf g), .int .i64 (manyOf g), .slice Ab (datOf g).length cg, .slice Am (mksOf g).length cm] 64) = Wg at *
                have x3 := C3.cell
                have y3 := P3.cell
                have z3 := GN.cell
                clear q0 q1 q2 q3 q4 q5 hgn C2 P2 b3 t3
                rcases Bool.eq_false_or_eq_true (decide (nuOf g ≤ last)) with e1 | e1
                · go_wp2
                  go_ret
                  exact ⟨OkBad.bad fun h => HNO.out (of_decide_eq_true e1) (h.goes j), t4⟩
                · rcases Bool.eq_false_or_eq_true (askCode ⟨id, m, c, r, l, h⟩ ((kiOf g).toNat : Int) (atOf g) (manyOf g) (datOf g).length != 0) with e4 | e4
                  · go_wp2_with fail
                    refine (HC.out _ _ _ _ _ _ _).mono ?_
                    rintro e w5 ⟨rfl, b5⟩
                    have t5 := Ext.trans t4 b5
                    clear x3 y3 z3
                    go_wp2
                    go_ret
                    exact ⟨OkBad.bad fun h => by have h2 := (HGK.out (h.goes j)).2.1; rw [h2] at e4; simp at e4, t5⟩
                  · go_wp2_with fail
                    refine (HC.out _ _ _ _ _ _ _).mono ?_
                    rintro e w5 ⟨rfl, b5⟩
                    have t5 := Ext.trans t4 b5
                    have b6 := Ext.trans b4 b5
                    have y5 := (P3.next b5).cell
                    have G5 := GN.next b5
                    have z5 := G5.cell
                    have HMK := Lib.hid (smarks_any S S ys A ca (nuOf g) ((kiOf g).toNat : Int) (atOf g) (manyOf g) Ab (datOf g).length cg (mksOf g) Am cm w5 (HY2.out.below b5) (HRM2.out.below b5))
                    clear x3 y3 z3
                    go_wp2_with fail
                    refine (HMK.out).mono ?_
                    rintro e w7 ⟨⟨bm, rfl, hbm⟩, b7⟩
                    have t7 := Ext.trans t5 b7
                    have b8 := Ext.trans b6 b7
                    have z7 := (G5.next b7).cell
                    have HBM := Lib.hid hbm
                    clear hbm y5 z5
                    cases bm with
                    | false =>
                      go_wp2
                      go_ret
                      exact ⟨OkBad.bad fun h => by have h2 := HBM.out.2 (HGK.out (h.goes j)).2.2; exact absurd h2 (by decide), t7⟩
                    | true =>
                      have HA' : Hid (LastIs gs (j + 1) (nuOf g) ∧ ∀ i, i < j + 1 → GoOk ⟨id, m, c, r, l, h⟩ ys gs i) := by
                        obtain ⟨h1, h2⟩ := HYES.out (by have := of_decide_eq_false e1; omega) (by simpa using e4) (HBM.out.1 (by first | rfl | trivial))
                        refine ⟨h2, fun i hi => ?_⟩
                        by_cases h : i = j
                        · subst h; exact h1
                        · exact HA.out.2 i (by omega)
                      go_wp2
                      go_roundw
                      case rel => exact ⟨j + 1, _, HLJ.out, rfl, by first | exact round_same HWJ | go_num, b8, HA'⟩
                      case measure => first | exact round_less HWJ HLJ.out | (have h := HLJ.out; simp [intOf]; omega)
              · go_wp2
                go_ret
                exact ⟨OkBad.ok ⟨HX.out, HL.out.trans HN.out, HF.out, HV.out, fun i => by
                  by_cases h : i < j
                  · exact HA.out.2 i h
                  · exact fun h' => absurd h' (by omega)⟩, t3⟩
  · have HB := Lib.hid (blocks_bad x hx)
    have HX : Hid (¬ PlainOk x ys gs) := fun h => hx h.cfg
    clear hx
    obtain ⟨id, m, c, r, l, h⟩ := x
    unfold Cfg.val at *
    dsimp only at *
    have C0 := BoxOf.alloc (BoxOf.new w #[.int .u32 (id : Int), .int .i64 m, .int .i64 c, .int .i64 r, .int .i64 l, .int .i64 h] 24) (.cells #[.slice A ys.length ca, .slice B gs.length cb] 28)
    have t0 := Ext.alloc (Ext.alloc (Below.refl w.heap.size w) (.cells #[.int .u32 (id : Int), .int .i64 m, .int .i64 c, .int .i64 r, .int .i64 l, .int .i64 h] 24)) (.cells #[.slice A ys.length ca, .slice B gs.length cb] 28)
    clear hy hg
    go_enter Try.func18, Try.ntmps18
    go_upto_region 1 with fail
    generalize (w.alloc (.cells #[.int .u32 (id : Int), .int .i64 m, .int .i64 c, .int .i64 r, .int .i64 l, .int .i64 h] 24)).alloc (.cells #[.slice A ys.length ca, .slice B gs.length cb] 28) = W at *
    have x0 := C0.cell
    go_wp2_with fail
    refine (HB.out _).mono ?_
    rintro e w1 ⟨rfl, b1⟩
    have t1 := Ext.trans t0 b1
    clear x0 C0
    go_wp2
    go_ret
    exact ⟨OkBad.bad HX.out, t1⟩
end Go.Proofs.Ytclbihcggjjgaaa
/- Layer 30 (model): what a crash may leave in a block: the program's answer and the reference's. -/
namespace Go.Proofs.Ytclbihcggjjgaaa
open Go Go.RowKit
set_option linter.unusedSimpArgs false
set_option linter.unusedVariables false

theorem PlainOk.short {x : Cfg} {ys : List (List (List UInt8))} {gs : List GoTy.T} (h : PlainOk x ys gs) : ys.length ≤ 1000 := by
  have h1 := Cfg.crm h.cfg
  have h2 := h.len
  omega
theorem PlainOk.fit {x : Cfg} {ys : List (List (List UInt8))} {gs : List GoTy.T} (h : PlainOk x ys gs) : ∀ i (hi : i < gs.length), AskFit gs[i] := fun i hi => AskFit.of (h.goes i hi).1
/-- what May answers -/
def MayRel (x : Cfg) (ys : List (List (List UInt8))) (gs : List GoTy.T) (n : Int) (bs : List UInt8) (b : Bool) (v : Int) : Prop :=
  (¬ PlainOk x ys gs ∧ b = false ∧ v = 8) ∨ (PlainOk x ys gs ∧ ¬ (0 ≤ n ∧ n < (ys.length : Int)) ∧ b = false ∧ v = 2) ∨
  (PlainOk x ys gs ∧ (0 ≤ n ∧ n < (ys.length : Int)) ∧ ¬ bs.length = 128 ∧ b = false ∧ v = 3) ∨ (PlainOk x ys gs ∧ (0 ≤ n ∧ n < (ys.length : Int)) ∧ bs.length = 128 ∧ (b = true ↔ LeftP ys gs n.toNat bs) ∧ v = 0)
theorem MayRel.one {x : Cfg} {ys : List (List (List UInt8))} {gs : List GoTy.T} {n : Int} {bs : List UInt8} {b b' : Bool} {v v' : Int} (h : MayRel x ys gs n bs b v) (h' : MayRel x ys gs n bs b' v') : b = b' ∧ v = v' := by
  rcases h with ⟨h1, rfl, rfl⟩ | ⟨h1, h2, rfl, rfl⟩ | ⟨h1, h2, h3, rfl, rfl⟩ | ⟨h1, h2, h3, h4, rfl⟩ <;> rcases h' with ⟨k1, rfl, rfl⟩ | ⟨k1, k2, rfl, rfl⟩ | ⟨k1, k2, k3, rfl, rfl⟩ | ⟨k1, k2, k3, k4, rfl⟩ <;> first | exact ⟨rfl, rfl⟩ | exact absurd h1 k1 | exact absurd k1 h1 | exact absurd h2 k2 | exact absurd k2 h2 | exact absurd h3 k3 | exact absurd k3 h3 | exact ⟨Bool.eq_iff_iff.2 (h4.trans k4.symm), rfl⟩
def MayIs (x : Cfg) (ys : List (List (List UInt8))) (gs : List GoTy.T) (n : Int) (bs : List UInt8) (e : Ending) : Prop := ∃ (b : Bool) (v : Int), e = .returned (.tuple #[.bool b, .int .i64 v]) ∧ MayRel x ys gs n bs b v

set_option maxRecDepth 100000 in
set_option maxHeartbeats 1000000 in
theorem smay_any (S : Nat → Prop) (x : Cfg) (ys : List (List (List UInt8))) (gs : List GoTy.T) (A : Option Addr) (ca : Nat) (B : Option Addr) (cb : Nat) (n : Int) (D : Option Addr) (dc : Nat) (bs : List UInt8) (w : World) (hy : RdIn w S (.sl (.sl (.sl .byte))) ys [.slice A ys.length ca]) (hg : RdIn w S (.sl GoTy) gs [.slice B gs.length cb]) (hd : Bs w D bs.length bs) :
    Calls Try.prog 11 #[x.val, .agg #[.slice A ys.length ca, .slice B gs.length cb], .int .i64 n, .slice D bs.length dc] w fun e w' => MayIs x ys gs n bs e ∧ Below w.heap.size w w' := by
  have HPC : Hid (∀ w', Below w.heap.size w w' → Calls Try.prog 18 #[x.val, .agg #[.slice A ys.length ca, .slice B gs.length cb]] w' fun e w'' => OkBad (PlainOk x ys gs) e ∧ Below w'.heap.size w' w'') := fun w' bb => spcheck_any S x ys gs A ca B cb w' (hy.below bb) (hg.below bb)
  have HLF : Hid (PlainOk x ys gs → ∀ (k : Nat) (hk : k < ys.length), ∀ w', Below w.heap.size w w' → Calls Try.prog 39 #[.agg #[.slice A ys.length ca, .slice B gs.length cb], .int .i64 (k : Int), .slice D bs.length dc] w' fun e w'' => YesNo (LeftP ys gs k bs) e ∧ Below w'.heap.size w' w'') := fun hp k hk w' bb => sleft_any S ys gs A ca B cb k hk hp.short hp.fit D bs.length dc bs w' (hy.below bb) (hg.below bb) (hd.below bb)
  clear hy hg hd
  obtain ⟨id, m, c, r, l, h⟩ := x
  unfold Cfg.val at *
  dsimp only at *
  have C0 := BoxOf.alloc (BoxOf.new w #[.int .u32 (id : Int), .int .i64 m, .int .i64 c, .int .i64 r, .int .i64 l, .int .i64 h] 24) (.cells #[.slice A ys.length ca, .slice B gs.length cb] 28)
  have P0 := BoxOf.new' (w.alloc (.cells #[.int .u32 (id : Int), .int .i64 m, .int .i64 c, .int .i64 r, .int .i64 l, .int .i64 h] 24)) (w.heap.size + 1) #[.slice A ys.length ca, .slice B gs.length cb] 28 (by simp)
  have t0 := Ext.alloc (Ext.alloc (Below.refl w.heap.size w) (.cells #[.int .u32 (id : Int), .int .i64 m, .int .i64 c, .int .i64 r, .int .i64 l, .int .i64 h] 24)) (.cells #[.slice A ys.length ca, .slice B gs.length cb] 28)
  go_enter Try.func11, Try.ntmps11
  go_upto_region 1 with fail
  generalize (w.alloc (.cells #[.int .u32 (id : Int), .int .i64 m, .int .i64 c, .int .i64 r, .int .i64 l, .int .i64 h] 24)).alloc (.cells #[.slice A ys.length ca, .slice B gs.length cb] 28) = W at *
  have x0 := C0.cell
  have y0 := P0.cell
  go_wp2_with fail
  refine (HPC.out _ t0).mono ?_
  rintro e w1 ⟨h1, b1⟩
  have P1 := P0.next b1
  have t1 := Ext.trans t0 b1
  have x1 := P1.cell
  clear x0 y0 C0
  rcases h1 with ⟨hok, rfl⟩ | ⟨hno, rfl⟩
  · have HOK := Lib.hid hok
    clear hok
    rcases Bool.eq_false_or_eq_true (decide (n < 0)) with e1 | e1
    · go_wp2
      go_ret2
      exact ⟨⟨_, _, rfl, .inr (.inl ⟨HOK.out, by have := of_decide_eq_true e1; omega, rfl, rfl⟩)⟩, t1⟩
    · rcases Bool.eq_false_or_eq_true (decide ((ys.length : Int) ≤ n)) with e2 | e2
      · go_wp2
        go_ret2
        exact ⟨⟨_, _, rfl, .inr (.inl ⟨HOK.out, by have := of_decide_eq_true e2; omega, rfl, rfl⟩)⟩, t1⟩
      · have hn : 0 ≤ n ∧ n < (ys.length : Int) := by have := of_decide_eq_false e1; have := of_decide_eq_false e2; omega
        have HN := Lib.hid hn
        rcases Bool.eq_false_or_eq_true ((bs.length : Int) != 128) with e3 | e3
        · clear hn
          go_wp2
          go_ret2
          exact ⟨⟨_, _, rfl, .inr (.inr (.inl ⟨HOK.out, HN.out, by intro h9; rw [h9] at e3; simp at e3, rfl, rfl⟩))⟩, t1⟩
        · obtain ⟨k, hk⟩ : ∃ k : Nat, n = (k : Int) := ⟨n.toNat, by omega⟩
          subst hk
          have HL := Lib.hid (HLF.out HOK.out k (by omega) w1 t1)
          have HB : Hid (bs.length = 128) := by have h9 : (bs.length : Int) = 128 := (by simpa using e3)
                                                show _ = _
                                                omega
          have e2n : decide (ys.length ≤ k) = false := decide_eq_false (by omega)
          clear hn HLF
          go_wp2_with fail
          refine HL.out.mono ?_
          rintro e w2 ⟨⟨b, rfl, hb⟩, b2⟩
          have t2 := Ext.trans t1 b2
          have HBB := Lib.hid hb
          clear hb x1
          go_wp2
          go_ret2
          exact ⟨⟨_, _, rfl, .inr (.inr (.inr ⟨HOK.out, HN.out, HB.out, HBB.out, rfl⟩))⟩, t2⟩
  · have HNO := Lib.hid hno
    clear hno HLF
    go_wp2
    go_ret2
    exact ⟨⟨_, _, rfl, .inl ⟨HNO.out, rfl, rfl⟩⟩, t1⟩
end Go.Proofs.Ytclbihcggjjgaaa
/- Layer 30 (model): the program: a plain array behind a crash. -/
namespace Go.Proofs.Ytclbihcggjjgaaa
open Go Go.RowKit
set_option linter.unusedSimpArgs false
set_option linter.unusedVariables false

def ones (bl : List (List UInt8)) : List (List (List UInt8)) := bl.map fun b => [b]
theorem ones_len (bl : List (List UInt8)) : (ones bl).length = bl.length := List.length_map _
/-- what Crash answers -/
def CrashRel (x : Cfg) (ys : List (List (List UInt8))) (gs : List GoTy.T) (bl : List (List UInt8)) (v : Int) : Prop :=
  (¬ PlainOk x ys gs ∧ v = 8) ∨ (PlainOk x ys gs ∧ ¬ bl.length = ys.length ∧ v = 2) ∨ (PlainOk x ys gs ∧ bl.length = ys.length ∧ (∃ i, ∃ h : i < bl.length, ¬ (bl[i]).length = 128) ∧ v = 3) ∨
  (PlainOk x ys gs ∧ bl.length = ys.length ∧ (∀ i (h : i < bl.length), (bl[i]).length = 128) ∧ (∃ i, ∃ h : i < bl.length, ¬ LeftP ys gs i bl[i]) ∧ v = 8) ∨
  (PlainOk x ys gs ∧ bl.length = ys.length ∧ (∀ i (h : i < bl.length), (bl[i]).length = 128) ∧ (∀ i (h : i < bl.length), LeftP ys gs i bl[i]) ∧ v = 0)
theorem CrashRel.one {x : Cfg} {ys : List (List (List UInt8))} {gs : List GoTy.T} {bl : List (List UInt8)} {v v' : Int} (h : CrashRel x ys gs bl v) (h' : CrashRel x ys gs bl v') : v = v' := by
  rcases h with ⟨h1, rfl⟩ | ⟨h1, h2, rfl⟩ | ⟨h1, h2, ⟨i, hi, h3⟩, rfl⟩ | ⟨h1, h2, h3, ⟨i, hi, h4⟩, rfl⟩ | ⟨h1, h2, h3, h4, rfl⟩ <;> rcases h' with ⟨k1, rfl⟩ | ⟨k1, k2, rfl⟩ | ⟨k1, k2, ⟨j, hj, k3⟩, rfl⟩ | ⟨k1, k2, k3, ⟨j, hj, k4⟩, rfl⟩ | ⟨k1, k2, k3, k4, rfl⟩ <;>
    first | rfl | exact absurd h1 k1 | exact absurd k1 h1 | exact absurd h2 k2 | exact absurd k2 h2 | exact absurd (k3 i hi) h3 | exact absurd (h3 j hj) k3 | exact absurd (k4 i hi) h4 | exact absurd (h4 j hj) k4
def crashVal (v : Int) (bl : List (List UInt8)) : List (List (List UInt8)) := if v = 0 then ones bl else []
def CrashIs (base : Nat) (x : Cfg) (ys : List (List (List UInt8))) (gs : List GoTy.T) (bl : List (List UInt8)) (e : Ending) (w : World) : Prop :=
  ∃ (v : Int) (A' : Option Addr) (c' : Nat), e = .returned (.tuple #[.agg #[.slice A' (crashVal v bl).length c', .slice none 0 0], .int .i64 v]) ∧ CrashRel x ys gs bl v ∧ RdIn w (NewB base w) (.sl (.sl (.sl .byte))) (crashVal v bl) [.slice A' (crashVal v bl).length c']
theorem rdin_nil3 (w : World) (S : Nat → Prop) : RdIn w S (.sl (.sl (.sl .byte))) [] [.slice none 0 0] := rdin_sl.2 ⟨none, 0, rfl, by simp, by simp [maxLen], by simp, .inl rfl⟩
theorem CrashIs.err {base : Nat} {x : Cfg} {ys : List (List (List UInt8))} {gs : List GoTy.T} {bl : List (List UInt8)} {w : World} {v : Int} (h : CrashRel x ys gs bl v) (hv : ¬ v = 0) : CrashIs base x ys gs bl (.returned (.tuple #[.agg #[.slice none 0 0, .slice none 0 0], .int .i64 v])) w := by
  have e : crashVal v bl = [] := if_neg hv
  refine ⟨v, none, 0, ?_, h, ?_⟩
  · rw [e]; rfl
  · rw [e]; exact rdin_nil3 _ _
theorem CrashIs.ok {base : Nat} {x : Cfg} {ys : List (List (List UInt8))} {gs : List GoTy.T} {bl : List (List UInt8)} {w : World} {A' : Option Addr} {c' n : Nat} (h : CrashRel x ys gs bl 0) (hn : n = (ones bl).length) (hr : RdIn w (NewB base w) (.sl (.sl (.sl .byte))) (ones bl) [.slice A' (ones bl).length c']) : CrashIs base x ys gs bl (.returned (.tuple #[.agg #[.slice A' n c', .slice none 0 0], .int .i64 0])) w := by
  have e : crashVal 0 bl = ones bl := if_pos rfl
  exact ⟨0, A', c', by rw [e, hn], h, by rw [e]; exact hr⟩

theorem fresh_new {w : World} {base : Nat} {v : Value} (hv : ∀ r, v.ownBlock = some r → r < w.heap.size) (hb : base ≤ w.heap.size) (cs : Array Value) (t : TypeId) : Fresh (w.alloc (.cells cs t)) base v w.heap.size :=
  ⟨hb, by simp, fun e => by have := hv _ e; omega, cs, t, heap_alloc_new _ _⟩
/-- a list of one list of bytes -/
theorem one_list {w : World} {base : Nat} {v u : Value} {bs : List UInt8} (hv : ∀ r, v.ownBlock = some r → r < w.heap.size) (hb : base ≤ w.heap.size) (h : RdIn w (Fresh w base v) (.sl .byte) bs [u]) (t : TypeId) :
    RdIn (w.alloc (.cells #[u] t)) (Fresh (w.alloc (.cells #[u] t)) base v) (.sl (.sl .byte)) [bs] [.slice (some ⟨w.heap.size, 0, none⟩) 1 1] := by
  have ba := Ext.alloc (Below.refl w.heap.size w) (.cells #[u] t)
  refine rdin_sl.2 ⟨_, 1, rfl, Nat.le_refl _, by simp [maxLen], (show 1 * 24 ≤ 140737488355328 by decide), .inr ⟨w.heap.size, 0, rfl, fresh_new hv hb _ _, fun i hi => ?_⟩⟩
  have hi0 : i = 0 := by have : i < 1 := hi; omega
  subst hi0
  refine ⟨[u], fun j hj => ?_, (h.below ba).mono fun b hb => Fresh.next hb ba⟩
  have hj0 : j = 0 := by have : j < 1 := hj; omega
  subst hj0
  show (w.alloc (.cells #[u] t)).cell? ⟨w.heap.size, 0 + 0 * 1 + 0, none⟩ = _
  rw [World.cell?_alloc_mark]
  rfl

end Go.Proofs.Ytclbihcggjjgaaa
/- Layer 30 (model): the program's Twin: a plain array in new memory, all its parts apart. -/
namespace Go.Proofs.Ytclbihcggjjgaaa
open Go Go.RowKit
set_option linter.unusedSimpArgs false
set_option linter.unusedVariables false

theorem eqi_none (w : World) (n c : Nat) : (binOp .eql 62 (.slice none n c) (.slice none 0 0)).run Try.prog w = .ok (.bool true) w := by kernel_rfl
theorem eqi_some (w : World) (a : Addr) (n c : Nat) : (binOp .eql 62 (.slice (some a) n c) (.slice none 0 0)).run Try.prog w = .ok (.bool false) w := by kernel_rfl
theorem ints_rd {w : World} {S : Nat → Prop} {ms : List Int} {A : Option Addr} {n c : Nat} (h : RdIn w S (.sl .int) ms [.slice A n c]) : ms.length = n ∧ Rd w A (ms.map fun x => Value.int .i64 x) := by
  have h1 := RdIn.row (e := .int) rfl h
  exact ⟨h1.1, h1.2⟩
theorem ints_all {w : World} {S : Nat → Prop} {ms : List Int} {v : Value} (h : RdIn w S (.sl .int) ms [v]) : (∀ x ∈ ms, IsInt x) ∧ ms.length * 8 ≤ 140737488355328 := by
  obtain ⟨A, c, _, _, _, hz, hh⟩ := rdin_sl.1 h
  refine ⟨fun x hx => ?_, hz⟩
  rcases hh with h0 | ⟨b, off, _, _, hc⟩
  · have h1 : ms = [] := h0
    rw [h1] at hx; cases hx
  · obtain ⟨i, hi, rfl⟩ := List.getElem_of_mem hx
    obtain ⟨es, _, hr⟩ := hc i hi
    exact (rdin_int.1 hr).2
set_option maxRecDepth 100000 in
set_option maxHeartbeats 1000000 in
theorem clonei_any (S : Nat → Prop) (ms : List Int) (A : Option Addr) (c : Nat) (w : World) (h : RdIn w S (.sl .int) ms [.slice A ms.length c]) :
    Calls Try.prog 66 #[.slice A ms.length c] w fun e w' => (∃ v, e = .returned v ∧ MarksO w' (Iv w.heap.size w'.heap.size) 3 v ms) ∧ Below w.heap.size w w' := by
  obtain ⟨i0, hi, hz0, hz1, hz2⟩ := minfo_int
  have hrd0 := (ints_rd h).2
  have HM := Lib.hid (And.intro (mark_max h) (ints_all h).2)
  cases A with
  | none =>
    have hb0 : ms = [] := by
      rcases hrd0 with h0 | ⟨b, off, e, _⟩
      · simpa using h0
      · cases e
    subst hb0
    have HE := fun (w : World) (c : Nat) => eqi_none w 0 c
    clear h hrd0
    go_enter Try.func66, Try.ntmps66
    go_wp2
    go_ret
    exact ⟨⟨_, rfl, .inl ⟨rfl, none, 0, rfl, by unfold maxLen; omega⟩⟩, Below.refl _ _⟩
  | some a =>
    have t0 := Ext.alloc (Below.refl w.heap.size w) (.cells #[] 3)
    have hrd : Rd (w.alloc (.cells #[] 3)) (some a) (ms.map fun x => Value.int .i64 x) := (ints_rd (h.below t0)).2
    have own0 : (w.alloc (.cells #[] 3)).ownsRow w.heap.size 3 1 (.slice (some ⟨w.heap.size, 0, none⟩) 0 0) 0 [] := ⟨rfl, .inr ⟨w.heap.size, 0, #[], rfl, Nat.le_refl _, heap_alloc_new _ _, Nat.le_refl _, by unfold maxLen; omega, rfl, rfl⟩⟩
    have HE := fun (w : World) (n c : Nat) => eqi_some w a n c
    clear h hrd0
    go_enter Try.func66, Try.ntmps66
    go_upto_region 3 with fail
    go_wp2_with (at_builtin; refine wpList_append_rd _ rfl (.tmp 5) (.tmp 6) 62 rfl w.heap.size 3 i0 _ 1 8 Try.underlying62 hi hz0 hz1 hz2 rfl (by decide) _ 0 [] rfl own0 (some a) ms.length c (ms.map fun x => Value.int .i64 x) rfl (by simp) hrd (by intro u hu; rw [List.mem_map] at hu; obtain ⟨y, _, rfl⟩ := hu; rfl) (by have := HM.out.1; omega) (by have := HM.out.2; omega) (by simp) ?_; intro v1 w1 h2 h3 h4)
    rw [Nat.zero_add, List.nil_append] at h2
    have b1 := Below.grown t0 h3 (by simp) (fun k e => by cases e; exact Nat.le_refl _)
    have hm : MarksO w1 (Iv w.heap.size w1.heap.size) 3 v1 ms := by
      rcases h2.2 with ⟨rfl, h0⟩ | ⟨g, cap, cur, rfl, hg, hh, h5, h6, h7, h8⟩
      · exact .inl ⟨List.eq_nil_of_length_eq_zero h0, none, 0, rfl, by unfold maxLen; omega⟩
      · exact .inr ⟨g, cap, cur, rfl, ⟨hg, (Array.getElem?_eq_some_iff.1 hh).1⟩, hh, h5, h6, by rw [h7, Nat.mul_one], by rw [Nat.mul_one] at h8; exact h8⟩
    go_ret
    exact ⟨⟨_, rfl, hm⟩, b1⟩

theorem bytesE_new {w0 w w' : World} {bs : List UInt8} {v : Value} (h : RdIn w (NewB w0.heap.size w) (.sl .byte) bs [v]) (hb : Below w.heap.size w w') : bytesE.E w' (Iv w0.heap.size w'.heap.size) bs [v] :=
  ⟨v, rfl, (h.below hb).mono fun b hb' => ⟨⟨hb'.1, Nat.lt_of_lt_of_le hb'.2.1 hb.size⟩, hb'.2.2.below hb⟩⟩

theorem OwnE.base0 {α : Type} {n : Nat} {P : ElemP α n} {w : World} {F : Nat → Prop} {base base' : Nat} {tid : TypeId} {v : Value} {xs : List α} (h : OwnE P w F base tid v xs) (hb : base' ≤ base) : OwnE P w F base' tid v xs := by
  obtain ⟨ess, Sf, h1, h2, h3, h4, h5, h6⟩ := h
  exact ⟨ess, Sf, h1, h2, h3, h4, h5, own_base h6 hb⟩
theorem MarksO.slice {w : World} {S : Nat → Prop} {tid : TypeId} {u : Value} {ms : List Int} (h : MarksO w S tid u ms) : ∃ A c, u = .slice A ms.length c := by
  rcases h with ⟨rfl, A, c, rfl, _⟩ | ⟨g, cap, cur, rfl, _⟩
  · exact ⟨A, c, rfl⟩
  · exact ⟨_, _, rfl⟩
theorem MarksO.mono {w : World} {S S' : Nat → Prop} {tid : TypeId} {u : Value} {ms : List Int} (h : MarksO w S tid u ms) (hS : ∀ b, S b → S' b) : MarksO w S' tid u ms := by
  rcases h with h | ⟨g, cap, cur, e, hg, hr⟩
  · exact .inl h
  · exact .inr ⟨g, cap, cur, e, hS g hg, hr⟩
theorem MarksO.frame {w w' : World} {S : Nat → Prop} {tid : TypeId} {u : Value} {ms : List Int} (h : MarksO w S tid u ms) (hf : ∀ b, S b → w'.heap[b]? = w.heap[b]?) : MarksO w' S tid u ms := by
  rcases h with h | ⟨g, cap, cur, e, hg, hh, hr⟩
  · exact .inl h
  · exact .inr ⟨g, cap, cur, e, hg, by rw [hf g hg]; exact hh, hr⟩
theorem MarksO.ne {w : World} {lo hi : Nat} {tid : TypeId} {u : Value} {ms : List Int} (h : MarksO w (Iv lo hi) tid u ms) {b : Nat} (hb : b < lo) : ms = [] ∨ u.ownBlock ≠ some b := by
  rcases h with ⟨h, _⟩ | ⟨g, cap, cur, rfl, hg, _⟩
  · exact .inl h
  · refine .inr fun e => ?_
    have e' : g = b := Option.some.inj e
    have := hg.1
    omega
theorem MarksO.setLo {w : World} {lo : Nat} {tid : TypeId} {u : Value} {ms : List Int} (h : MarksO w (Iv (lo + 1) w.heap.size) tid u ms) (i : Nat) (v : Value) : MarksO (w.setCell ⟨lo, i, none⟩ v) (Iv (lo + 1) (w.setCell ⟨lo, i, none⟩ v).heap.size) tid u ms := by
  rw [msize]
  exact h.frame fun b hb => Below.heap_setCell _ _ _ _ (show b ≠ lo by have := hb.1; omega)
theorem RdIn.setLo {w : World} {lo : Nat} {Q : Nat → Prop} {t : Ty} {x : t.T} {cs : List Value} (h : RdIn w (fun b => (Iv (lo + 1) w.heap.size b ∧ Live w b) ∧ Q b) t x cs) (i : Nat) (v : Value) : RdIn (w.setCell ⟨lo, i, none⟩ v) (fun b => (Iv (lo + 1) (w.setCell ⟨lo, i, none⟩ v).heap.size b ∧ Live (w.setCell ⟨lo, i, none⟩ v) b) ∧ Q b) t x cs := by
  rw [msize]
  exact (h.frame fun b hb => Below.heap_setCell _ _ _ _ (show b ≠ lo by have := hb.1.1.1; omega)).mono fun b hb => ⟨⟨hb.1.1, hb.1.2.set _ _⟩, hb.2⟩
/-- what Twin answers: a plain array whose parts lie apart, in new memory -/
def TwinIs (lo : Nat) (ys : List (List (List UInt8))) (gs : List GoTy.T) (e : Ending) (w : World) : Prop :=
  ∃ (vy vg : Value) (m : Nat), e = .returned (.agg #[vy, vg]) ∧ lo ≤ m ∧ m ≤ w.heap.size ∧ OwnE (listE 29) w (Iv lo m) lo 30 vy ys ∧ OwnE (goE 3) w (Iv m w.heap.size) m 64 vg gs
set_option maxRecDepth 100000 in
set_option maxHeartbeats 4000000 in
theorem stwin_any (S : Nat → Prop) (ys : List (List (List UInt8))) (gs : List GoTy.T) (A : Option Addr) (c : Nat) (B : Option Addr) (d : Nat) (w : World) (hy : RdIn w S (.sl (.sl (.sl .byte))) ys [.slice A ys.length c]) (hg : RdIn w S (.sl GoTy) gs [.slice B gs.length d]) :
    Calls Try.prog 33 #[.agg #[.slice A ys.length c, .slice B gs.length d]] w fun e w' => TwinIs w.heap.size ys gs e w' ∧ Below w.heap.size w w' := by
  obtain ⟨iu, hu, hu0, hu1, hu2⟩ := minfo_u8
  obtain ⟨ib, hib, hb0, hb1, hb2⟩ := minfo_bytes
  obtain ⟨il, hil, hl0, hl1, hl2⟩ := minfo_lists
  obtain ⟨ii, hii, hi0, hi1, hi2⟩ := minfo_int
  obtain ⟨ig, hig, hg0, hg1, hg2⟩ := minfo_going
  have P0 := BoxOf.alloc (BoxOf.new w #[.slice A ys.length c, .slice B gs.length d] 28) (.cells #[.slice none 0 0, .slice none 0 0] 28)
  have Z0 := BoxOf.new' (w.alloc (.cells #[.slice A ys.length c, .slice B gs.length d] 28)) (w.heap.size + 1) #[.slice none 0 0, .slice none 0 0] 28 (by simp)
  have t0 := Ext.alloc (Ext.alloc (Below.refl w.heap.size w) (.cells #[.slice A ys.length c, .slice B gs.length d] 28)) (.cells #[.slice none 0 0, .slice none 0 0] 28)
  have HY := Lib.hid hy
  have HG := Lib.hid hg
  have HYM := Lib.hid (may_max hy)
  have HGM := Lib.hid (go_max hg)
  have hyz : Hid (ys.length * 24 ≤ 140737488355328) := by
    obtain ⟨_, _, _, _, h1, _⟩ := view3 hy
    exact h1
  have hgz : Hid (gs.length * 80 ≤ 140737488355328) := by
    obtain ⟨_, _, _, _, h1, _⟩ := viewG hg
    exact h1
  clear hy hg
  go_enter Try.func33, Try.ntmps33
  go_upto_region 1 with fail
  generalize (w.alloc (.cells #[.slice A ys.length c, .slice B gs.length d] 28)).alloc (.cells #[.slice none 0 0, .slice none 0 0] 28) = W at *
  have x0 := P0.cell
  obtain ⟨base, hbase⟩ : ∃ z : Nat, z = w.heap.size + 2 := ⟨_, rfl⟩
  have hb2' : base ≤ W.heap.size := by have := Z0.lt; omega
  have HBS := Lib.hid (And.intro hbase hb2')
  clear hbase hb2'
  go_wp2
  clear x0
  go_loopw [13] (fun i wr => ∃ (k : Nat) (v : Value), k ≤ ys.length ∧ i = .int .i64 k ∧ Below w.heap.size w wr ∧ BoxOf wr w.heap.size #[.slice A ys.length c, .slice B gs.length d] 28 ∧ BoxOf wr (w.heap.size + 1) #[v, .slice none 0 0] 28 ∧ OwnE (listE 29) wr (Iv base wr.heap.size) base 30 v (ys.take k) ∧ Hid (base ≤ wr.heap.size)) (fun i _ => ys.length - (intOf i).toNat)
  case atStart => exact ⟨0, .slice none 0 0, by omega, rfl, t0, P0, Z0, OwnE.nil _ _ _ _ _, HBS.out.2⟩
  case round =>
    obtain ⟨k, v, hk, rfl, t1, P1, Z1, O1, HB1⟩ := hrel
    clear t0 P0 Z0
    by_cases hlt : k < ys.length
    · obtain ⟨b, off, A2, c2, rfl, q2, r2⟩ := may_at (HY.out.below t1) hlt
      have hstep : ys.take (k + 1) = ys.take k ++ [ys[k]] := List.take_succ_eq_append_getElem hlt
      have HSTK := Lib.hid hstep
      generalize ys[k] = zs at *
      have HWK := next_wrap HYM.out hlt
      have HLK := Lib.hid hlt
      have HZM := Lib.hid (val_max r2)
      have hzz : Hid (zs.length * 24 ≤ 140737488355328) := by
        obtain ⟨_, _, _, _, h1, _⟩ := view2 r2
        exact h1
      have HR := Lib.hid r2
      clear r2 hstep
      obtain ⟨w0, hw0⟩ : ∃ z : World, z = wr := ⟨_, rfl⟩
      rw [← hw0] at t1 P1 Z1 O1 HB1 HR
      have bw0 : Below w0.heap.size w0 wr := by rw [hw0]; exact Below.refl _ _
      go_wp2
      clear hw0
      go_loopw [5, 19] (fun u i wq => ∃ (j : Nat), j ≤ zs.length ∧ i = .int .i64 j ∧ Below w0.heap.size w0 wq ∧ OwnE bytesE wq (Iv w0.heap.size wq.heap.size) w0.heap.size 29 u (zs.take j)) (fun _ i _ => zs.length - (intOf i).toNat)
      case atStart => exact ⟨0, by omega, rfl, bw0, OwnE.nil _ _ _ _ _⟩
      case round =>
        obtain ⟨j, hj, rfl, b2, O2⟩ := hrel
        clear bw0 q2
        by_cases hltj : j < zs.length
        · obtain ⟨b5, off5, A5, c5, rfl, q5, r5⟩ := val_at (HR.out.below b2) hltj
          have hstepj : zs.take (j + 1) = zs.take j ++ [zs[j]] := List.take_succ_eq_append_getElem hltj
          have HSTJ := Lib.hid hstepj
          generalize zs[j] = bs at *
          have HWJ := next_wrap HZM.out hltj
          have HLJ := Lib.hid hltj
          have hjl : (zs.take j).length = j := by rw [List.length_take]; omega
          have HBY : Hid ((zs.take j).length + 1 ≤ maxLen ∧ ((zs.take j).length + 1) * 24 ≤ 140737488355328) := by
            have h1 := HZM.out
            have h2 := hzz.out
            show _ ∧ _
            rw [hjl]
            omega
          have HCL := Lib.hid (clone_any S bs A5 c5 wr r5)
          clear hstepj hjl r5 hj
          go_wp2_with fail
          refine HCL.out.mono ?_
          rintro e w3 ⟨⟨vb, rfl, r6⟩, b3⟩
          obtain ⟨A6, c6, rfl⟩ := bytesV r6
          have bb := Ext.alloc (Below.refl w3.heap.size w3) (.cells #[.slice A6 bs.length c6] 29)
          have E6 := bytesE_new r6 bb
          have b4 := Ext.trans (Ext.trans b2 b3) bb
          have O3 := O2.next (fun b hb => hb.2) (Ext.trans b3 bb)
          have rd6 := rd_row w3 #[.slice A6 bs.length c6] 29
          have hlo : wr.heap.size ≤ (w3.alloc (.cells #[.slice A6 bs.length c6] 29)).heap.size := Nat.le_trans b3.size bb.size
          have hlo2 := b2.size
          clear r6 HCL q5 O2 b3 bb
          go_wp2_with (at_builtin; refine wpList_pushI rfl (.tmp 23) (.tmp 26) 30 rfl w0.heap.size wr.heap.size 29 ib _ 24 Try.underlying30 hib hb0 hb1 hb2 rfl (by decide) _ (zs.take j) rfl O3 hlo hlo2 (some ⟨w3.heap.size, 0, none⟩) 1 _ rfl rd6 bs E6 HBY.out.1 HBY.out.2 ?_; intro v7 w7 O7 g7 k7; have b7 := Below.grown b4 g7 b4.size k7; have O8 := OwnE.cast HSTJ.out.symm O7; clear O3 E6 rd6 O7 g7 k7 b4)
          go_roundw
          case rel => exact ⟨j + 1, HLJ.out, by first | exact round_same HWJ | go_num, b7, O8⟩
          case measure => first | exact round_less HWJ HLJ.out | (have h := HLJ.out; simp [intOf]; omega)
        · have hje : zs.take j = zs := List.take_of_length_le (by omega)
          rw [hje] at O2
          obtain ⟨Au, cu, rfl⟩ := O2.slice
          have P2 := P1.next b2
          have Z2 := Z1.next b2
          have t2 := Ext.trans t1 b2
          have bb := Ext.alloc (Below.refl wr.heap.size wr) (.cells #[.slice Au zs.length cu] 30)
          have P3 := P2.alloc (.cells #[.slice Au zs.length cu] 30)
          have Z3 := Z2.alloc (.cells #[.slice Au zs.length cu] 30)
          have t3 := Ext.trans t2 bb
          have O3 := O1.next (fun b hb => hb.2) (Ext.trans b2 bb)
          have E3 : (listE 29).E (wr.alloc (.cells #[.slice Au zs.length cu] 30)) (Iv w0.heap.size (wr.alloc (.cells #[.slice Au zs.length cu] 30)).heap.size) zs [.slice Au zs.length cu] := ⟨_, w0.heap.size, rfl, O2.step bb, hzz.out⟩
          have rd3 := rd_row wr #[.slice Au zs.length cu] 30
          have hlo : w0.heap.size ≤ (wr.alloc (.cells #[.slice Au zs.length cu] 30)).heap.size := Nat.le_trans b2.size bb.size
          have hlo2 := HB1.out
          have hkl : (ys.take k).length = k := by rw [List.length_take]; have := HLK.out; omega
          have HBY : Hid ((ys.take k).length + 1 ≤ maxLen ∧ ((ys.take k).length + 1) * 24 ≤ 140737488355328) := by
            have h1 := HYM.out
            have h2 := hyz.out
            have h3 := HLK.out
            show _ ∧ _
            rw [hkl]
            omega
          have HTL : Hid (∀ (A : Option Addr) (c : Nat), Value.slice A ((ys.take k) ++ [zs]).length c = Value.slice A (k + 1) c) := fun A c => by
            rw [List.length_append, hkl]
            rfl
          have z3 := Z3.cell
          have z2 := Z2.cell
          have f3 := Z3.free
          clear hkl hje b2 bb P2 Z2 O1 P1 Z1 t1 t2 O2
          go_wp2_with (at_builtin; refine wpList_pushI rfl (.tmp 30) (.tmp 32) 25 rfl base w0.heap.size 30 il _ 24 Try.underlying25 hil hl0 hl1 hl2 rfl (by decide) v (ys.take k) rfl O3 hlo hlo2 (some ⟨wr.heap.size, 0, none⟩) 1 _ rfl rd3 zs E3 HBY.out.1 HBY.out.2 ?_; intro v7 w7 O7 g7 k7; obtain ⟨A10, c10, e10⟩ := O7.slice; have e11 := e10.trans (HTL.out A10 c10); subst e11; have hb3 := HBS.out.1; have P7 := P3.grown g7 (fun e => by have := k7 _ e; omega); have Z7 := Z3.grown g7 (fun e => by have := k7 _ e; omega); have t7 := Below.grown t3 g7 t3.size (fun r e => by have := k7 r e; omega); have O8 := OwnE.cast HSTK.out.symm O7; have HN7 := Lib.hid (Nat.le_trans hlo2 (Nat.le_trans hlo g7.size)); have y7 := Z7.cell; have f7 := Z7.free; clear z3 z2 f3 P3 Z3 t3 O3 E3 rd3 g7 k7 O7 e10)
          have Z8 : BoxOf _ (w.heap.size + 1) #[.slice A10 (k + 1) c10, .slice none 0 0] 28 := mbox_self Z7 0 (.slice A10 (k + 1) c10)
          have P8 := mbox_else P7 (show w.heap.size ≠ w.heap.size + 1 by omega) 0 (.slice A10 (k + 1) c10)
          have O9 := OwnE.setElse (k := w.heap.size + 1) O8 (fun h => by have := h.1; omega) 0 (.slice A10 (k + 1) c10)
          have t8 := Below.setCell (p := ⟨w.heap.size + 1, 0, none⟩) t7 (show w.heap.size ≤ w.heap.size + 1 by omega) (.slice A10 (k + 1) c10)
          go_roundw
          case rel => exact ⟨k + 1, _, HLK.out, by first | exact round_same HWK | go_num, t8, P8, Z8, (by rw [msize]; exact O9), (show Hid (base ≤ _) from by show base ≤ _; rw [msize]; exact HN7.out)⟩
          case measure => first | exact round_less HWK HLK.out | (have h := HLK.out; simp [intOf]; omega)
    · have hke : ys.take k = ys := List.take_of_length_le (by omega)
      rw [hke] at O1
      obtain ⟨Ay, cy, rfl⟩ := O1.slice
      obtain ⟨m, hm⟩ : ∃ z : Nat, z = wr.heap.size := ⟨_, rfl⟩
      have O2 : OwnE (listE 29) wr (Iv base m) base 30 (.slice Ay ys.length cy) ys := by rw [hm]; exact O1
      have hm1 : m ≤ wr.heap.size := by omega
      have hbm : base ≤ m := by have := HB1.out; omega
      have HM := Lib.hid (And.intro hm1 hbm)
      clear hke O1 hm hm1 hbm HB1
      have x1 := P1.cell
      have wr0 := HM.out.1
      go_wp2
      clear x1 hk hlt
      go_loopw [39] (fun i wr => ∃ (j : Nat) (u : Value), j ≤ gs.length ∧ i = .int .i64 j ∧ Below w.heap.size w wr ∧ BoxOf wr w.heap.size #[.slice A ys.length c, .slice B gs.length d] 28 ∧ BoxOf wr (w.heap.size + 1) #[.slice Ay ys.length cy, u] 28 ∧ OwnE (listE 29) wr (Iv base m) base 30 (.slice Ay ys.length cy) ys ∧ OwnE (goE 3) wr (Iv m wr.heap.size) m 64 u (gs.take j) ∧ Hid (m ≤ wr.heap.size)) (fun i _ => gs.length - (intOf i).toNat)
      case atStart => exact ⟨0, .slice none 0 0, by omega, rfl, t1, P1, Z1, O2, OwnE.nil _ _ _ _ _, wr0⟩
      case round =>
        clear t1 P1 Z1 O2 wr0
        obtain ⟨j, u, hj, rfl, t1, P1, Z1, O1, G1, HN1⟩ := hrel
        have hm9 := HM.out.2
        have hb9 := HBS.out.1
        by_cases hlt : j < gs.length
        · obtain ⟨b, off, Ab, cg, Am, cm, rfl, q0, q1, q2, q3, q4, q5, i0, i1, i2, rb, rm⟩ := go_at (HG.out.below t1) hlt
          have hgm : gs[j] = (nuOf gs[j], (kiOf gs[j], atOf gs[j], manyOf gs[j], datOf gs[j], ()), mksOf gs[j], ()) := rfl
          have HGE := Lib.hid hgm
          have HST := Lib.hid (show gs.take (j + 1) = gs.take j ++ [gs[j]] from List.take_succ_eq_append_getElem hlt)
          generalize gs[j] = g at *
          have HWJ := next_wrap HGM.out hlt
          have HLJ := Lib.hid hlt
          have HI := Lib.hid (And.intro i0 (And.intro i1 i2))
          have HMA := Lib.hid (ints_all rm)
          have bA := Ext.alloc (Below.refl wr.heap.size wr) (.cells #[.int .i64 (nuOf g), .int .u8 ((kiOf g).toNat : Int), .int .i64 (atOf g), .int .i64 (manyOf g), .slice Ab (datOf g).length cg, .slice Am (mksOf g).length cm] 64)
          have hrb := rb.below bA
          have hrm := rm.below bA
          have P2 := P1.alloc (.cells #[.int .i64 (nuOf g), .int .u8 ((kiOf g).toNat : Int), .int .i64 (atOf g), .int .i64 (manyOf g), .slice Ab (datOf g).length cg, .slice Am (mksOf g).length cm] 64)
          have Z2 := Z1.alloc (.cells #[.int .i64 (nuOf g), .int .u8 ((kiOf g).toNat : Int), .int .i64 (atOf g), .int .i64 (manyOf g), .slice Ab (datOf g).length cg, .slice Am (mksOf g).length cm] 64)
          have N2 := BoxOf.new wr #[.int .i64 (nuOf g), .int .u8 ((kiOf g).toNat : Int), .int .i64 (atOf g), .int .i64 (manyOf g), .slice Ab (datOf g).length cg, .slice Am (mksOf g).length cm] 64
          have t2 := Ext.trans t1 bA
          have O2 := O1.next (fun b hb => Nat.lt_of_lt_of_le hb.2 HN1.out) bA
          have G2 := G1.next (fun b hb => hb.2) bA
          obtain ⟨lo, hlo⟩ : ∃ z : Nat, z = wr.heap.size := ⟨_, rfl⟩
          have hlo2 := bA.size
          have hlo3 := HN1.out
          clear hgm i0 i1 i2 rb rm bA P1 Z1 t1 O1 G1 hj
          go_upto_region 15 with fail
          rw [← hlo] at N2 G2 hlo2 hlo3 ⊢
          have HLO := Lib.hid (And.intro hlo2 hlo3)
          clear hlo hlo2 hlo3 q0 q1 q2 q3 q4 q5 HN1 hlt
          generalize wr.alloc (.cells #[.int .i64 (nuOf g), .int .u8 ((kiOf g).toNat : Int), .int .i64 (atOf g), .int .i64 (manyOf g), .slice Ab (datOf g).length cg, .slice Am (mksOf g).length cm] 64) = we at *
          have P5 := P2.drew
          have Z5 := Z2.drew
          have N5 := N2.drew
          have O5 := O2.next (fun b hb => by have := hb.2; have := HLO.out; omega) (Ext.drew (Below.refl we.heap.size we))
          have G5 := G2.next (fun b hb => by have := hb.2; have := HLO.out; omega) (Ext.drew (Below.refl we.heap.size we))
          have t5 := Ext.drew t2
          have n5 : lo < we.drew.heap.size := N2.lt
          have RB5 := hrb.below (Ext.drew (Below.refl we.heap.size we))
          have RM5 := hrm.below (Ext.drew (Below.refl we.heap.size we))
          have hwl : w.heap.size + 1 < lo := by have := HLO.out; omega
          have hml := HLO.out.2
          refine wp_region_held_drew (S := fun w' => BoxOf w' w.heap.size #[.slice A ys.length c, .slice (some ⟨b, off, none⟩) gs.length d] 28) (by kernel_rfl) P5 (fun hS => ?_)
          clear P2 Z2 N2 O2 G2 t2 hrb hrm
          generalize we.drew = wd at *
          refine wpAnyH_take (i := 0) (oi := _) (v := ?_) rfl (by kernel_rfl) (by kernel_rfl) (by kernel_rfl) (fun _ _ _ h => h) (Or.inl ⟨by rfl, ?_⟩) hS ?_
          rotate_left
          · (intro w hSw; (try dsimp only at hSw); go_simp; (try with_reducible rfl))
          rotate_left
          simp only [Act.put, List.getElem_toArray, List.getElem_cons_zero, List.getElem_cons_succ, List.setIfInBounds_toArray, List.set_cons_zero, List.set_cons_succ]
          refine wpAnyH_take (i := 1) (oi := _) (v := ?_) rfl (by kernel_rfl) (by kernel_rfl) (by kernel_rfl) (fun _ _ _ h => h) (Or.inl ⟨by rfl, ?_⟩) hS ?_
          rotate_left
          · (intro w hSw; (try dsimp only at hSw); go_simp; (try with_reducible rfl))
          rotate_left
          simp only [Act.put, List.getElem_toArray, List.getElem_cons_zero, List.getElem_cons_succ, List.setIfInBounds_toArray, List.set_cons_zero, List.set_cons_succ]
          refine wpAnyH_take (i := 4) (oi := _) (v := ?_) rfl (by kernel_rfl) (by kernel_rfl) (by kernel_rfl) (fun _ _ _ h => h) (Or.inl ⟨by rfl, ?_⟩) hS ?_
          rotate_left
          · (intro w hSw; (try dsimp only at hSw); go_simp; (try with_reducible rfl))
          rotate_left
          simp only [Act.put, List.getElem_toArray, List.getElem_cons_zero, List.getElem_cons_succ, List.setIfInBounds_toArray, List.set_cons_zero, List.set_cons_succ]
          refine wpAnyH_ready (rs := [2, 5]) (by kernel_rfl) (by simp) ?_
          refine AllReadyH.cons rfl (fun K hK => ?_) (AllReadyH.cons rfl (fun K hK => ?_) AllReadyH.nil)
          · rw [if_pos (by rfl)]
            have yQ := N5.cell
            go_simp
            refine hK.out _ _ P5 (fun hS' => ?_)
            clear yQ
            clear hK K hS
            have hS := hS'
            clear hS'
            try simp only [Act.put, List.getElem_toArray, List.getElem_cons_zero, List.getElem_cons_succ, List.setIfInBounds_toArray, List.set_cons_zero, List.set_cons_succ]
            refine wpAnyH_ready (rs := [3, 5]) (by kernel_rfl) (by simp) ?_
            refine AllReadyH.cons rfl (fun K hK => ?_) (AllReadyH.cons rfl (fun K hK => ?_) AllReadyH.nil)
            · rw [if_pos (by rfl)]
              go_simp
              refine (clone_any S (datOf g) Ab cg _ RB5).mono ?_
              rintro e v5 ⟨⟨vd, rfl, r6⟩, bb⟩
              obtain ⟨A6, c6, rfl⟩ := bytesV r6
              have D5 : RdIn v5 (fun b => Iv (lo + 1) v5.heap.size b ∧ Live v5 b) (.sl .byte) (datOf g) [.slice A6 (datOf g).length c6] := r6.mono fun b hb => ⟨⟨by have := hb.1; have := n5; omega, hb.2.1⟩, hb.2.2⟩
              have R9 := RM5.below bb
              clear RM5 RB5 r6
              have RM5 := R9
              clear R9
              have P9 := P5.next bb
              have Z9 := Z5.next bb
              have N9 := N5.next bb
              have O9 := O5.next (fun b hb => by have := hb.2; have := n5; omega) bb
              have G9 := G5.next (fun b hb => by have := hb.2; have := n5; omega) bb
              have t9 := Ext.trans t5 bb
              have n9 := Nat.lt_of_lt_of_le n5 bb.size
              refine hK.out _ _ P9 (fun hS' => ?_)
              clear P5 Z5 N5 O5 G5 t5 n5
              have P5 := P9
              have Z5 := Z9
              have N5 := N9
              have O5 := O9
              have G5 := G9
              have t5 := t9
              have n5 := n9
              clear P9 Z9 N9 O9 G9 t9 n9
              clear hK K hS
              have hS := hS'
              clear hS'
              try simp only [Act.put, List.getElem_toArray, List.getElem_cons_zero, List.getElem_cons_succ, List.setIfInBounds_toArray, List.set_cons_zero, List.set_cons_succ]
              clear bb
              refine wpAnyH_ready (rs := [5]) (by kernel_rfl) (by simp) ?_
              refine AllReadyH.cons rfl (fun K hK => ?_) AllReadyH.nil
              rw [if_pos (by rfl)]
              have yQ := N5.cell
              go_simp
              refine hK.out _ _ P5 (fun hS' => ?_)
              clear yQ
              clear hK K hS
              have hS := hS'
              clear hS'
              try simp only [Act.put, List.getElem_toArray, List.getElem_cons_zero, List.getElem_cons_succ, List.setIfInBounds_toArray, List.set_cons_zero, List.set_cons_succ]
              refine wpAnyH_take (i := 7) (oi := _) (v := ?_) rfl (by kernel_rfl) (by kernel_rfl) (by kernel_rfl) (fun _ _ _ h => h) (Or.inl ⟨by rfl, ?_⟩) hS ?_
              rotate_left
              · (intro w hSw; (try dsimp only at hSw); go_simp; (try with_reducible rfl))
              rotate_left
              simp only [Act.put, List.getElem_toArray, List.getElem_cons_zero, List.getElem_cons_succ, List.setIfInBounds_toArray, List.set_cons_zero, List.set_cons_succ]
              refine wpAnyH_take (i := 8) (oi := _) (v := ?_) rfl (by kernel_rfl) (by kernel_rfl) (by kernel_rfl) (fun _ _ _ h => h) (Or.inl ⟨by rfl, ?_⟩) hS ?_
              rotate_left
              · (intro w hSw; (try dsimp only at hSw); go_simp; (try with_reducible rfl))
              rotate_left
              simp only [Act.put, List.getElem_toArray, List.getElem_cons_zero, List.getElem_cons_succ, List.setIfInBounds_toArray, List.set_cons_zero, List.set_cons_succ]
              refine wpAnyH_ready (rs := [6]) (by kernel_rfl) (by simp) ?_
              refine AllReadyH.cons rfl (fun K hK => ?_) AllReadyH.nil
              rw [if_pos (by rfl)]
              go_simp
              refine (clonei_any S (mksOf g) Am cm _ RM5).mono ?_
              rintro e v6 ⟨⟨vm, rfl, m6⟩, bb⟩
              obtain ⟨A7, c7, rfl⟩ := m6.slice
              have D6 := (D5.below bb).mono (S' := fun b => (Iv (lo + 1) v6.heap.size b ∧ Live v6 b) ∧ (mksOf g = [] ∨ (Value.slice A7 (mksOf g).length c7).ownBlock ≠ some b)) (fun b hb => ⟨⟨⟨hb.1.1, Nat.lt_of_lt_of_le hb.1.2 bb.size⟩, hb.2.below bb⟩, m6.ne (by have := hb.1.2; exact this)⟩)
              have M6 : MarksO v6 (Iv (lo + 1) v6.heap.size) 3 (.slice A7 (mksOf g).length c7) (mksOf g) := m6.mono fun b hb => ⟨by have := hb.1; have := n5; omega, hb.2⟩
              clear RM5 D5 m6
              have P9 := P5.next bb
              have Z9 := Z5.next bb
              have N9 := N5.next bb
              have O9 := O5.next (fun b hb => by have := hb.2; have := n5; omega) bb
              have G9 := G5.next (fun b hb => by have := hb.2; have := n5; omega) bb
              have t9 := Ext.trans t5 bb
              have n9 := Nat.lt_of_lt_of_le n5 bb.size
              refine hK.out _ _ P9 (fun hS' => ?_)
              clear P5 Z5 N5 O5 G5 t5 n5
              have P5 := P9
              have Z5 := Z9
              have N5 := N9
              have O5 := O9
              have G5 := G9
              have t5 := t9
              have n5 := n9
              clear P9 Z9 N9 O9 G9 t9 n9
              clear hK K hS
              have hS := hS'
              clear hS'
              try simp only [Act.put, List.getElem_toArray, List.getElem_cons_zero, List.getElem_cons_succ, List.setIfInBounds_toArray, List.set_cons_zero, List.set_cons_succ]
              clear bb
              refine wpAnyH_ready (rs := [9]) (by kernel_rfl) (by simp) ?_
              refine AllReadyH.cons rfl (fun K hK => ?_) AllReadyH.nil
              rw [if_pos (by rfl)]
              have fQ := N5.free
              have yQ := N5.cell
              go_simp
              clear fQ yQ
              have N9 : BoxOf _ lo #[.int .i64 (nuOf g), .int .u8 ((kiOf g).toNat : Int), .int .i64 (atOf g), .int .i64 (manyOf g), .slice A6 (datOf g).length c6, .slice Am (mksOf g).length cm] 64 := mbox_self N5 4 (.slice A6 (datOf g).length c6)
              have P9 := mbox_else P5 (show w.heap.size ≠ lo by omega) 4 (.slice A6 (datOf g).length c6)
              have Z9 := mbox_else Z5 (show w.heap.size + 1 ≠ lo by omega) 4 (.slice A6 (datOf g).length c6)
              have O9 := OwnE.setElse (k := lo) O5 (fun h => by have := h.2; omega) 4 (.slice A6 (datOf g).length c6)
              have G9 := OwnE.setElse (k := lo) G5 (fun h => by have := h.2; omega) 4 (.slice A6 (datOf g).length c6)
              have t9 := Below.setCell (p := ⟨lo, 4, none⟩) t5 (show w.heap.size ≤ lo by omega) (.slice A6 (datOf g).length c6)
              have D9 := D6.setLo 4 (.slice A6 (datOf g).length c6)
              have M9 := M6.setLo 4 (.slice A6 (datOf g).length c6)
              refine hK.out _ _ P9 (fun hS' => ?_)
              clear P5 Z5 N5 O5 G5 t5 n5 D6 M6
              clear hK K hS
              have hS := hS'
              clear hS'
              try simp only [Act.put, List.getElem_toArray, List.getElem_cons_zero, List.getElem_cons_succ, List.setIfInBounds_toArray, List.set_cons_zero, List.set_cons_succ]
              refine wpAnyH_take (i := 10) (oi := _) (v := ?_) rfl (by kernel_rfl) (by kernel_rfl) (by kernel_rfl) (fun _ _ _ h => h) (Or.inl ⟨by rfl, ?_⟩) hS ?_
              rotate_left
              · (intro w hSw; (try dsimp only at hSw); go_simp; (try with_reducible rfl))
              rotate_left
              simp only [Act.put, List.getElem_toArray, List.getElem_cons_zero, List.getElem_cons_succ, List.setIfInBounds_toArray, List.set_cons_zero, List.set_cons_succ]
              refine wpAnyH_ready (rs := [11]) (by kernel_rfl) (by simp) ?_
              refine AllReadyH.cons rfl (fun K hK => ?_) AllReadyH.nil
              rw [if_pos (by rfl)]
              have fQ := N9.free
              have yQ := N9.cell
              go_simp
              clear fQ yQ
              have N8 : BoxOf _ lo #[.int .i64 (nuOf g), .int .u8 ((kiOf g).toNat : Int), .int .i64 (atOf g), .int .i64 (manyOf g), .slice A6 (datOf g).length c6, .slice A7 (mksOf g).length c7] 64 := mbox_self N9 5 (.slice A7 (mksOf g).length c7)
              have P8 := mbox_else P9 (show w.heap.size ≠ lo by omega) 5 (.slice A7 (mksOf g).length c7)
              have Z8 := mbox_else Z9 (show w.heap.size + 1 ≠ lo by omega) 5 (.slice A7 (mksOf g).length c7)
              have O8 := OwnE.setElse (k := lo) O9 (fun h => by have := h.2; omega) 5 (.slice A7 (mksOf g).length c7)
              have G8 := OwnE.setElse (k := lo) G9 (fun h => by have := h.2; omega) 5 (.slice A7 (mksOf g).length c7)
              have t8 := Below.setCell (p := ⟨lo, 5, none⟩) t9 (show w.heap.size ≤ lo by omega) (.slice A7 (mksOf g).length c7)
              have D8 := D9.setLo 5 (.slice A7 (mksOf g).length c7)
              have M8 := M9.setLo 5 (.slice A7 (mksOf g).length c7)
              refine hK.out _ _ P8 (fun hS' => ?_)
              clear hK K hS hS' P9 Z9 N9 O9 G9 t9 D9 M9
              try simp only [Act.put, List.getElem_toArray, List.getElem_cons_zero, List.getElem_cons_succ, List.setIfInBounds_toArray, List.set_cons_zero, List.set_cons_succ]
              generalize (v6.setCell ⟨lo, 4, none⟩ (.slice A6 (datOf g).length c6)).setCell ⟨lo, 5, none⟩ (.slice A7 (mksOf g).length c7) = v8 at *
              refine wpAnyH_done (by kernel_rfl) ?_ _
              have bb := Ext.alloc (Below.refl v8.heap.size v8) (.cells #[.int .i64 (nuOf g), .int .u8 ((kiOf g).toNat : Int), .int .i64 (atOf g), .int .i64 (manyOf g), .slice A6 (datOf g).length c6, .slice A7 (mksOf g).length c7] 64)
              have l8 := N8.lt
              have P10 := P8.next bb
              have Z10 := Z8.next bb
              have t10 := Ext.trans t8 bb
              have O10 := O8.next (fun b hb => by have := hb.2; omega) bb
              have G10 := G8.next (fun b hb => by have := hb.2; omega) bb
              have rd10 := rd_row v8 #[.int .i64 (nuOf g), .int .u8 ((kiOf g).toNat : Int), .int .i64 (atOf g), .int .i64 (manyOf g), .slice A6 (datOf g).length c6, .slice A7 (mksOf g).length c7] 64
              have E10 : (goE 3).E (v8.alloc (.cells #[.int .i64 (nuOf g), .int .u8 ((kiOf g).toNat : Int), .int .i64 (atOf g), .int .i64 (manyOf g), .slice A6 (datOf g).length c6, .slice A7 (mksOf g).length c7] 64)) (Iv lo (v8.alloc (.cells #[.int .i64 (nuOf g), .int .u8 ((kiOf g).toNat : Int), .int .i64 (atOf g), .int .i64 (manyOf g), .slice A6 (datOf g).length c6, .slice A7 (mksOf g).length c7] 64)).heap.size) g [.int .i64 (nuOf g), .int .u8 ((kiOf g).toNat : Int), .int .i64 (atOf g), .int .i64 (manyOf g), .slice A6 (datOf g).length c6, .slice A7 (mksOf g).length c7] :=
                ⟨nuOf g, kiOf g, atOf g, manyOf g, datOf g, mksOf g, _, _, HGE.out, rfl, HI.out, HMA.out.1, HMA.out.2,
                  (D8.below bb).mono (fun b hb => ⟨⟨⟨by have := hb.1.1.1; omega, Nat.lt_of_lt_of_le hb.1.1.2 bb.size⟩, hb.1.2.below bb⟩, hb.2⟩), (M8.frame fun b hb => bb.block b hb.2).mono fun b hb => ⟨by have := hb.1; omega, Nat.lt_of_lt_of_le hb.2 bb.size⟩⟩
              have hlo : lo ≤ (v8.alloc (.cells #[.int .i64 (nuOf g), .int .u8 ((kiOf g).toNat : Int), .int .i64 (atOf g), .int .i64 (manyOf g), .slice A6 (datOf g).length c6, .slice A7 (mksOf g).length c7] 64)).heap.size := Nat.le_trans (Nat.le_of_lt l8) bb.size
              have hgl : (gs.take j).length = j := by rw [List.length_take]; have := HLJ.out; omega
              have HBY : Hid ((gs.take j).length + 1 ≤ maxLen ∧ ((gs.take j).length + 1) * 80 ≤ 140737488355328) := by
                have h1 := HGM.out
                have h2 := hgz.out
                have h3 := HLJ.out
                show _ ∧ _
                rw [hgl]
                omega
              have HTL : Hid (∀ (A : Option Addr) (c : Nat), Value.slice A ((gs.take j) ++ [g]).length c = Value.slice A (j + 1) c) := fun A c => by
                rw [List.length_append, hgl]
                rfl
              have z8 := Z8.cell
              have n8 := N8.cell
              have z10 := Z10.cell
              have f10 := Z10.free
              clear hgl P8 Z8 N8 O8 G8 t8 D8 M8 bb l8
              go_wp2_with (at_builtin; refine wpList_pushI rfl (.tmp 54) (.tmp 56) 26 rfl m lo 64 ig _ 80 Try.underlying26 hig hg0 hg1 hg2 rfl (by decide) u (gs.take j) rfl G10 hlo hml (some ⟨v8.heap.size, 0, none⟩) 1 _ rfl rd10 g E10 HBY.out.1 HBY.out.2 ?_; intro vz wz Oz gz kz; obtain ⟨A10, c10, e10⟩ := Oz.slice; have e11 := e10.trans (HTL.out A10 c10); subst e11; have Pz := P10.grown gz (fun e => by have := kz _ e; omega); have Zz := Z10.grown gz (fun e => by have := kz _ e; omega); have tz := Below.grown t10 gz t10.size (fun r e => by have := kz r e; omega); have Oy := O10.frame (fun b hb => gz.block b (by have := hb.2; omega) (fun e => by have := kz _ e.symm; have := hb.2; omega)); have Oz2 := OwnE.cast HST.out.symm Oz; have HNz := Lib.hid (Nat.le_trans hml (Nat.le_trans hlo gz.size)); have yz := Zz.cell; have fz := Zz.free; clear z8 n8 z10 f10 P10 Z10 t10 O10 G10 E10 rd10 gz kz Oz e10)
              have Z12 : BoxOf _ (w.heap.size + 1) #[.slice Ay ys.length cy, .slice A10 (j + 1) c10] 28 := mbox_self Zz 1 (.slice A10 (j + 1) c10)
              have P12 := mbox_else Pz (show w.heap.size ≠ w.heap.size + 1 by omega) 1 (.slice A10 (j + 1) c10)
              have O12 := OwnE.setElse (k := w.heap.size + 1) Oy (fun h => by have := h.1; omega) 1 (.slice A10 (j + 1) c10)
              have G12 := OwnE.setElse (k := w.heap.size + 1) Oz2 (fun h => by have := h.1; omega) 1 (.slice A10 (j + 1) c10)
              have t12 := Below.setCell (p := ⟨w.heap.size + 1, 1, none⟩) tz (show w.heap.size ≤ w.heap.size + 1 by omega) (.slice A10 (j + 1) c10)
              go_roundw
              case rel => exact ⟨j + 1, _, HLJ.out, by first | exact round_same HWJ | go_num, t12, P12, Z12, O12, (by rw [msize]; exact G12), (show Hid (m ≤ _) from by show m ≤ _; rw [msize]; exact HNz.out)⟩
              case measure => first | exact round_less HWJ HLJ.out | (have h := HLJ.out; simp [intOf]; omega)
            · rw [if_pos (by rfl)]
              have yQ := N5.cell
              go_simp
              refine hK.out _ _ P5 (fun hS' => ?_)
              clear yQ
              clear hK K hS
              have hS := hS'
              clear hS'
              try simp only [Act.put, List.getElem_toArray, List.getElem_cons_zero, List.getElem_cons_succ, List.setIfInBounds_toArray, List.set_cons_zero, List.set_cons_succ]
              refine wpAnyH_ready (rs := [3]) (by kernel_rfl) (by simp) ?_
              refine AllReadyH.cons rfl (fun K hK => ?_) AllReadyH.nil
              rw [if_pos (by rfl)]
              go_simp
              refine (clone_any S (datOf g) Ab cg _ RB5).mono ?_
              rintro e v5 ⟨⟨vd, rfl, r6⟩, bb⟩
              obtain ⟨A6, c6, rfl⟩ := bytesV r6
              have D5 : RdIn v5 (fun b => Iv (lo + 1) v5.heap.size b ∧ Live v5 b) (.sl .byte) (datOf g) [.slice A6 (datOf g).length c6] := r6.mono fun b hb => ⟨⟨by have := hb.1; have := n5; omega, hb.2.1⟩, hb.2.2⟩
              have R9 := RM5.below bb
              clear RM5 RB5 r6
              have RM5 := R9
              clear R9
              have P9 := P5.next bb
              have Z9 := Z5.next bb
              have N9 := N5.next bb
              have O9 := O5.next (fun b hb => by have := hb.2; have := n5; omega) bb
              have G9 := G5.next (fun b hb => by have := hb.2; have := n5; omega) bb
              have t9 := Ext.trans t5 bb
              have n9 := Nat.lt_of_lt_of_le n5 bb.size
              refine hK.out _ _ P9 (fun hS' => ?_)
              clear P5 Z5 N5 O5 G5 t5 n5
              have P5 := P9
              have Z5 := Z9
              have N5 := N9
              have O5 := O9
              have G5 := G9
              have t5 := t9
              have n5 := n9
              clear P9 Z9 N9 O9 G9 t9 n9
              clear hK K hS
              have hS := hS'
              clear hS'
              try simp only [Act.put, List.getElem_toArray, List.getElem_cons_zero, List.getElem_cons_succ, List.setIfInBounds_toArray, List.set_cons_zero, List.set_cons_succ]
              clear bb
              refine wpAnyH_take (i := 7) (oi := _) (v := ?_) rfl (by kernel_rfl) (by kernel_rfl) (by kernel_rfl) (fun _ _ _ h => h) (Or.inl ⟨by rfl, ?_⟩) hS ?_
              rotate_left
              · (intro w hSw; (try dsimp only at hSw); go_simp; (try with_reducible rfl))
              rotate_left
              simp only [Act.put, List.getElem_toArray, List.getElem_cons_zero, List.getElem_cons_succ, List.setIfInBounds_toArray, List.set_cons_zero, List.set_cons_succ]
              refine wpAnyH_take (i := 8) (oi := _) (v := ?_) rfl (by kernel_rfl) (by kernel_rfl) (by kernel_rfl) (fun _ _ _ h => h) (Or.inl ⟨by rfl, ?_⟩) hS ?_
              rotate_left
              · (intro w hSw; (try dsimp only at hSw); go_simp; (try with_reducible rfl))
              rotate_left
              simp only [Act.put, List.getElem_toArray, List.getElem_cons_zero, List.getElem_cons_succ, List.setIfInBounds_toArray, List.set_cons_zero, List.set_cons_succ]
              refine wpAnyH_ready (rs := [6]) (by kernel_rfl) (by simp) ?_
              refine AllReadyH.cons rfl (fun K hK => ?_) AllReadyH.nil
              rw [if_pos (by rfl)]
              go_simp
              refine (clonei_any S (mksOf g) Am cm _ RM5).mono ?_
              rintro e v6 ⟨⟨vm, rfl, m6⟩, bb⟩
              obtain ⟨A7, c7, rfl⟩ := m6.slice
              have D6 := (D5.below bb).mono (S' := fun b => (Iv (lo + 1) v6.heap.size b ∧ Live v6 b) ∧ (mksOf g = [] ∨ (Value.slice A7 (mksOf g).length c7).ownBlock ≠ some b)) (fun b hb => ⟨⟨⟨hb.1.1, Nat.lt_of_lt_of_le hb.1.2 bb.size⟩, hb.2.below bb⟩, m6.ne (by have := hb.1.2; exact this)⟩)
              have M6 : MarksO v6 (Iv (lo + 1) v6.heap.size) 3 (.slice A7 (mksOf g).length c7) (mksOf g) := m6.mono fun b hb => ⟨by have := hb.1; have := n5; omega, hb.2⟩
              clear RM5 D5 m6
              have P9 := P5.next bb
              have Z9 := Z5.next bb
              have N9 := N5.next bb
              have O9 := O5.next (fun b hb => by have := hb.2; have := n5; omega) bb
              have G9 := G5.next (fun b hb => by have := hb.2; have := n5; omega) bb
              have t9 := Ext.trans t5 bb
              have n9 := Nat.lt_of_lt_of_le n5 bb.size
              refine hK.out _ _ P9 (fun hS' => ?_)
              clear P5 Z5 N5 O5 G5 t5 n5
              have P5 := P9
              have Z5 := Z9
              have N5 := N9
              have O5 := O9
              have G5 := G9
              have t5 := t9
              have n5 := n9
              clear P9 Z9 N9 O9 G9 t9 n9
              clear hK K hS
              have hS := hS'
              clear hS'
              try simp only [Act.put, List.getElem_toArray, List.getElem_cons_zero, List.getElem_cons_succ, List.setIfInBounds_toArray, List.set_cons_zero, List.set_cons_succ]
              clear bb
              refine wpAnyH_ready (rs := [9]) (by kernel_rfl) (by simp) ?_
              refine AllReadyH.cons rfl (fun K hK => ?_) AllReadyH.nil
              rw [if_pos (by rfl)]
              have fQ := N5.free
              have yQ := N5.cell
              go_simp
              clear fQ yQ
              have N9 : BoxOf _ lo #[.int .i64 (nuOf g), .int .u8 ((kiOf g).toNat : Int), .int .i64 (atOf g), .int .i64 (manyOf g), .slice A6 (datOf g).length c6, .slice Am (mksOf g).length cm] 64 := mbox_self N5 4 (.slice A6 (datOf g).length c6)
              have P9 := mbox_else P5 (show w.heap.size ≠ lo by omega) 4 (.slice A6 (datOf g).length c6)
              have Z9 := mbox_else Z5 (show w.heap.size + 1 ≠ lo by omega) 4 (.slice A6 (datOf g).length c6)
              have O9 := OwnE.setElse (k := lo) O5 (fun h => by have := h.2; omega) 4 (.slice A6 (datOf g).length c6)
              have G9 := OwnE.setElse (k := lo) G5 (fun h => by have := h.2; omega) 4 (.slice A6 (datOf g).length c6)
              have t9 := Below.setCell (p := ⟨lo, 4, none⟩) t5 (show w.heap.size ≤ lo by omega) (.slice A6 (datOf g).length c6)
              have D9 := D6.setLo 4 (.slice A6 (datOf g).length c6)
              have M9 := M6.setLo 4 (.slice A6 (datOf g).length c6)
              refine hK.out _ _ P9 (fun hS' => ?_)
              clear P5 Z5 N5 O5 G5 t5 n5 D6 M6
              clear hK K hS
              have hS := hS'
              clear hS'
              try simp only [Act.put, List.getElem_toArray, List.getElem_cons_zero, List.getElem_cons_succ, List.setIfInBounds_toArray, List.set_cons_zero, List.set_cons_succ]
              refine wpAnyH_take (i := 10) (oi := _) (v := ?_) rfl (by kernel_rfl) (by kernel_rfl) (by kernel_rfl) (fun _ _ _ h => h) (Or.inl ⟨by rfl, ?_⟩) hS ?_
              rotate_left
              · (intro w hSw; (try dsimp only at hSw); go_simp; (try with_reducible rfl))
              rotate_left
              simp only [Act.put, List.getElem_toArray, List.getElem_cons_zero, List.getElem_cons_succ, List.setIfInBounds_toArray, List.set_cons_zero, List.set_cons_succ]
              refine wpAnyH_ready (rs := [11]) (by kernel_rfl) (by simp) ?_
              refine AllReadyH.cons rfl (fun K hK => ?_) AllReadyH.nil
              rw [if_pos (by rfl)]
              have fQ := N9.free
              have yQ := N9.cell
              go_simp
              clear fQ yQ
              have N8 : BoxOf _ lo #[.int .i64 (nuOf g), .int .u8 ((kiOf g).toNat : Int), .int .i64 (atOf g), .int .i64 (manyOf g), .slice A6 (datOf g).length c6, .slice A7 (mksOf g).length c7] 64 := mbox_self N9 5 (.slice A7 (mksOf g).length c7)
              have P8 := mbox_else P9 (show w.heap.size ≠ lo by omega) 5 (.slice A7 (mksOf g).length c7)
              have Z8 := mbox_else Z9 (show w.heap.size + 1 ≠ lo by omega) 5 (.slice A7 (mksOf g).length c7)
              have O8 := OwnE.setElse (k := lo) O9 (fun h => by have := h.2; omega) 5 (.slice A7 (mksOf g).length c7)
              have G8 := OwnE.setElse (k := lo) G9 (fun h => by have := h.2; omega) 5 (.slice A7 (mksOf g).length c7)
              have t8 := Below.setCell (p := ⟨lo, 5, none⟩) t9 (show w.heap.size ≤ lo by omega) (.slice A7 (mksOf g).length c7)
              have D8 := D9.setLo 5 (.slice A7 (mksOf g).length c7)
              have M8 := M9.setLo 5 (.slice A7 (mksOf g).length c7)
              refine hK.out _ _ P8 (fun hS' => ?_)
              clear hK K hS hS' P9 Z9 N9 O9 G9 t9 D9 M9
              try simp only [Act.put, List.getElem_toArray, List.getElem_cons_zero, List.getElem_cons_succ, List.setIfInBounds_toArray, List.set_cons_zero, List.set_cons_succ]
              generalize (v6.setCell ⟨lo, 4, none⟩ (.slice A6 (datOf g).length c6)).setCell ⟨lo, 5, none⟩ (.slice A7 (mksOf g).length c7) = v8 at *
              refine wpAnyH_done (by kernel_rfl) ?_ _
              have bb := Ext.alloc (Below.refl v8.heap.size v8) (.cells #[.int .i64 (nuOf g), .int .u8 ((kiOf g).toNat : Int), .int .i64 (atOf g), .int .i64 (manyOf g), .slice A6 (datOf g).length c6, .slice A7 (mksOf g).length c7] 64)
              have l8 := N8.lt
              have P10 := P8.next bb
              have Z10 := Z8.next bb
              have t10 := Ext.trans t8 bb
              have O10 := O8.next (fun b hb => by have := hb.2; omega) bb
              have G10 := G8.next (fun b hb => by have := hb.2; omega) bb
              have rd10 := rd_row v8 #[.int .i64 (nuOf g), .int .u8 ((kiOf g).toNat : Int), .int .i64 (atOf g), .int .i64 (manyOf g), .slice A6 (datOf g).length c6, .slice A7 (mksOf g).length c7] 64
              have E10 : (goE 3).E (v8.alloc (.cells #[.int .i64 (nuOf g), .int .u8 ((kiOf g).toNat : Int), .int .i64 (atOf g), .int .i64 (manyOf g), .slice A6 (datOf g).length c6, .slice A7 (mksOf g).length c7] 64)) (Iv lo (v8.alloc (.cells #[.int .i64 (nuOf g), .int .u8 ((kiOf g).toNat : Int), .int .i64 (atOf g), .int .i64 (manyOf g), .slice A6 (datOf g).length c6, .slice A7 (mksOf g).length c7] 64)).heap.size) g [.int .i64 (nuOf g), .int .u8 ((kiOf g).toNat : Int), .int .i64 (atOf g), .int .i64 (manyOf g), .slice A6 (datOf g).length c6, .slice A7 (mksOf g).length c7] :=
                ⟨nuOf g, kiOf g, atOf g, manyOf g, datOf g, mksOf g, _, _, HGE.out, rfl, HI.out, HMA.out.1, HMA.out.2,
                  (D8.below bb).mono (fun b hb => ⟨⟨⟨by have := hb.1.1.1; omega, Nat.lt_of_lt_of_le hb.1.1.2 bb.size⟩, hb.1.2.below bb⟩, hb.2⟩), (M8.frame fun b hb => bb.block b hb.2).mono fun b hb => ⟨by have := hb.1; omega, Nat.lt_of_lt_of_le hb.2 bb.size⟩⟩
              have hlo : lo ≤ (v8.alloc (.cells #[.int .i64 (nuOf g), .int .u8 ((kiOf g).toNat : Int), .int .i64 (atOf g), .int .i64 (manyOf g), .slice A6 (datOf g).length c6, .slice A7 (mksOf g).length c7] 64)).heap.size := Nat.le_trans (Nat.le_of_lt l8) bb.size
              have hgl : (gs.take j).length = j := by rw [List.length_take]; have := HLJ.out; omega
              have HBY : Hid ((gs.take j).length + 1 ≤ maxLen ∧ ((gs.take j).length + 1) * 80 ≤ 140737488355328) := by
                have h1 := HGM.out
                have h2 := hgz.out
                have h3 := HLJ.out
                show _ ∧ _
                rw [hgl]
                omega
              have HTL : Hid (∀ (A : Option Addr) (c : Nat), Value.slice A ((gs.take j) ++ [g]).length c = Value.slice A (j + 1) c) := fun A c => by
                rw [List.length_append, hgl]
                rfl
              have z8 := Z8.cell
              have n8 := N8.cell
              have z10 := Z10.cell
              have f10 := Z10.free
              clear hgl P8 Z8 N8 O8 G8 t8 D8 M8 bb l8
              go_wp2_with (at_builtin; refine wpList_pushI rfl (.tmp 54) (.tmp 56) 26 rfl m lo 64 ig _ 80 Try.underlying26 hig hg0 hg1 hg2 rfl (by decide) u (gs.take j) rfl G10 hlo hml (some ⟨v8.heap.size, 0, none⟩) 1 _ rfl rd10 g E10 HBY.out.1 HBY.out.2 ?_; intro vz wz Oz gz kz; obtain ⟨A10, c10, e10⟩ := Oz.slice; have e11 := e10.trans (HTL.out A10 c10); subst e11; have Pz := P10.grown gz (fun e => by have := kz _ e; omega); have Zz := Z10.grown gz (fun e => by have := kz _ e; omega); have tz := Below.grown t10 gz t10.size (fun r e => by have := kz r e; omega); have Oy := O10.frame (fun b hb => gz.block b (by have := hb.2; omega) (fun e => by have := kz _ e.symm; have := hb.2; omega)); have Oz2 := OwnE.cast HST.out.symm Oz; have HNz := Lib.hid (Nat.le_trans hml (Nat.le_trans hlo gz.size)); have yz := Zz.cell; have fz := Zz.free; clear z8 n8 z10 f10 P10 Z10 t10 O10 G10 E10 rd10 gz kz Oz e10)
              have Z12 : BoxOf _ (w.heap.size + 1) #[.slice Ay ys.length cy, .slice A10 (j + 1) c10] 28 := mbox_self Zz 1 (.slice A10 (j + 1) c10)
              have P12 := mbox_else Pz (show w.heap.size ≠ w.heap.size + 1 by omega) 1 (.slice A10 (j + 1) c10)
              have O12 := OwnE.setElse (k := w.heap.size + 1) Oy (fun h => by have := h.1; omega) 1 (.slice A10 (j + 1) c10)
              have G12 := OwnE.setElse (k := w.heap.size + 1) Oz2 (fun h => by have := h.1; omega) 1 (.slice A10 (j + 1) c10)
              have t12 := Below.setCell (p := ⟨w.heap.size + 1, 1, none⟩) tz (show w.heap.size ≤ w.heap.size + 1 by omega) (.slice A10 (j + 1) c10)
              go_roundw
              case rel => exact ⟨j + 1, _, HLJ.out, by first | exact round_same HWJ | go_num, t12, P12, Z12, O12, (by rw [msize]; exact G12), (show Hid (m ≤ _) from by show m ≤ _; rw [msize]; exact HNz.out)⟩
              case measure => first | exact round_less HWJ HLJ.out | (have h := HLJ.out; simp [intOf]; omega)
          · rw [if_pos (by rfl)]
            have yQ := N5.cell
            go_simp
            refine hK.out _ _ P5 (fun hS' => ?_)
            clear yQ
            clear hK K hS
            have hS := hS'
            clear hS'
            try simp only [Act.put, List.getElem_toArray, List.getElem_cons_zero, List.getElem_cons_succ, List.setIfInBounds_toArray, List.set_cons_zero, List.set_cons_succ]
            refine wpAnyH_ready (rs := [2]) (by kernel_rfl) (by simp) ?_
            refine AllReadyH.cons rfl (fun K hK => ?_) AllReadyH.nil
            rw [if_pos (by rfl)]
            have yQ := N5.cell
            go_simp
            refine hK.out _ _ P5 (fun hS' => ?_)
            clear yQ
            clear hK K hS
            have hS := hS'
            clear hS'
            try simp only [Act.put, List.getElem_toArray, List.getElem_cons_zero, List.getElem_cons_succ, List.setIfInBounds_toArray, List.set_cons_zero, List.set_cons_succ]
            refine wpAnyH_ready (rs := [3]) (by kernel_rfl) (by simp) ?_
            refine AllReadyH.cons rfl (fun K hK => ?_) AllReadyH.nil
            rw [if_pos (by rfl)]
            go_simp
            refine (clone_any S (datOf g) Ab cg _ RB5).mono ?_
            rintro e v5 ⟨⟨vd, rfl, r6⟩, bb⟩
            obtain ⟨A6, c6, rfl⟩ := bytesV r6
            have D5 : RdIn v5 (fun b => Iv (lo + 1) v5.heap.size b ∧ Live v5 b) (.sl .byte) (datOf g) [.slice A6 (datOf g).length c6] := r6.mono fun b hb => ⟨⟨by have := hb.1; have := n5; omega, hb.2.1⟩, hb.2.2⟩
            have R9 := RM5.below bb
            clear RM5 RB5 r6
            have RM5 := R9
            clear R9
            have P9 := P5.next bb
            have Z9 := Z5.next bb
            have N9 := N5.next bb
            have O9 := O5.next (fun b hb => by have := hb.2; have := n5; omega) bb
            have G9 := G5.next (fun b hb => by have := hb.2; have := n5; omega) bb
            have t9 := Ext.trans t5 bb
            have n9 := Nat.lt_of_lt_of_le n5 bb.size
            refine hK.out _ _ P9 (fun hS' => ?_)
            clear P5 Z5 N5 O5 G5 t5 n5
            have P5 := P9
            have Z5 := Z9
            have N5 := N9
            have O5 := O9
            have G5 := G9
            have t5 := t9
            have n5 := n9
            clear P9 Z9 N9 O9 G9 t9 n9
            clear hK K hS
            have hS := hS'
            clear hS'
            try simp only [Act.put, List.getElem_toArray, List.getElem_cons_zero, List.getElem_cons_succ, List.setIfInBounds_toArray, List.set_cons_zero, List.set_cons_succ]
            clear bb
            refine wpAnyH_take (i := 7) (oi := _) (v := ?_) rfl (by kernel_rfl) (by kernel_rfl) (by kernel_rfl) (fun _ _ _ h => h) (Or.inl ⟨by rfl, ?_⟩) hS ?_
            rotate_left
            · (intro w hSw; (try dsimp only at hSw); go_simp; (try with_reducible rfl))
            rotate_left
            simp only [Act.put, List.getElem_toArray, List.getElem_cons_zero, List.getElem_cons_succ, List.setIfInBounds_toArray, List.set_cons_zero, List.set_cons_succ]
            refine wpAnyH_take (i := 8) (oi := _) (v := ?_) rfl (by kernel_rfl) (by kernel_rfl) (by kernel_rfl) (fun _ _ _ h => h) (Or.inl ⟨by rfl, ?_⟩) hS ?_
            rotate_left
            · (intro w hSw; (try dsimp only at hSw); go_simp; (try with_reducible rfl))
            rotate_left
            simp only [Act.put, List.getElem_toArray, List.getElem_cons_zero, List.getElem_cons_succ, List.setIfInBounds_toArray, List.set_cons_zero, List.set_cons_succ]
            refine wpAnyH_ready (rs := [6]) (by kernel_rfl) (by simp) ?_
            refine AllReadyH.cons rfl (fun K hK => ?_) AllReadyH.nil
            rw [if_pos (by rfl)]
            go_simp
            refine (clonei_any S (mksOf g) Am cm _ RM5).mono ?_
            rintro e v6 ⟨⟨vm, rfl, m6⟩, bb⟩
            obtain ⟨A7, c7, rfl⟩ := m6.slice
            have D6 := (D5.below bb).mono (S' := fun b => (Iv (lo + 1) v6.heap.size b ∧ Live v6 b) ∧ (mksOf g = [] ∨ (Value.slice A7 (mksOf g).length c7).ownBlock ≠ some b)) (fun b hb => ⟨⟨⟨hb.1.1, Nat.lt_of_lt_of_le hb.1.2 bb.size⟩, hb.2.below bb⟩, m6.ne (by have := hb.1.2; exact this)⟩)
            have M6 : MarksO v6 (Iv (lo + 1) v6.heap.size) 3 (.slice A7 (mksOf g).length c7) (mksOf g) := m6.mono fun b hb => ⟨by have := hb.1; have := n5; omega, hb.2⟩
            clear RM5 D5 m6
            have P9 := P5.next bb
            have Z9 := Z5.next bb
            have N9 := N5.next bb
            have O9 := O5.next (fun b hb => by have := hb.2; have := n5; omega) bb
            have G9 := G5.next (fun b hb => by have := hb.2; have := n5; omega) bb
            have t9 := Ext.trans t5 bb
            have n9 := Nat.lt_of_lt_of_le n5 bb.size
            refine hK.out _ _ P9 (fun hS' => ?_)
            clear P5 Z5 N5 O5 G5 t5 n5
            have P5 := P9
            have Z5 := Z9
            have N5 := N9
            have O5 := O9
            have G5 := G9
            have t5 := t9
            have n5 := n9
            clear P9 Z9 N9 O9 G9 t9 n9
            clear hK K hS
            have hS := hS'
            clear hS'
            try simp only [Act.put, List.getElem_toArray, List.getElem_cons_zero, List.getElem_cons_succ, List.setIfInBounds_toArray, List.set_cons_zero, List.set_cons_succ]
            clear bb
            refine wpAnyH_ready (rs := [9]) (by kernel_rfl) (by simp) ?_
            refine AllReadyH.cons rfl (fun K hK => ?_) AllReadyH.nil
            rw [if_pos (by rfl)]
            have fQ := N5.free
            have yQ := N5.cell
            go_simp
            clear fQ yQ
            have N9 : BoxOf _ lo #[.int .i64 (nuOf g), .int .u8 ((kiOf g).toNat : Int), .int .i64 (atOf g), .int .i64 (manyOf g), .slice A6 (datOf g).length c6, .slice Am (mksOf g).length cm] 64 := mbox_self N5 4 (.slice A6 (datOf g).length c6)
            have P9 := mbox_else P5 (show w.heap.size ≠ lo by omega) 4 (.slice A6 (datOf g).length c6)
            have Z9 := mbox_else Z5 (show w.heap.size + 1 ≠ lo by omega) 4 (.slice A6 (datOf g).length c6)
            have O9 := OwnE.setElse (k := lo) O5 (fun h => by have := h.2; omega) 4 (.slice A6 (datOf g).length c6)
            have G9 := OwnE.setElse (k := lo) G5 (fun h => by have := h.2; omega) 4 (.slice A6 (datOf g).length c6)
            have t9 := Below.setCell (p := ⟨lo, 4, none⟩) t5 (show w.heap.size ≤ lo by omega) (.slice A6 (datOf g).length c6)
            have D9 := D6.setLo 4 (.slice A6 (datOf g).length c6)
            have M9 := M6.setLo 4 (.slice A6 (datOf g).length c6)
            refine hK.out _ _ P9 (fun hS' => ?_)
            clear P5 Z5 N5 O5 G5 t5 n5 D6 M6
            clear hK K hS
            have hS := hS'
            clear hS'
            try simp only [Act.put, List.getElem_toArray, List.getElem_cons_zero, List.getElem_cons_succ, List.setIfInBounds_toArray, List.set_cons_zero, List.set_cons_succ]
            refine wpAnyH_take (i := 10) (oi := _) (v := ?_) rfl (by kernel_rfl) (by kernel_rfl) (by kernel_rfl) (fun _ _ _ h => h) (Or.inl ⟨by rfl, ?_⟩) hS ?_
            rotate_left
            · (intro w hSw; (try dsimp only at hSw); go_simp; (try with_reducible rfl))
            rotate_left
            simp only [Act.put, List.getElem_toArray, List.getElem_cons_zero, List.getElem_cons_succ, List.setIfInBounds_toArray, List.set_cons_zero, List.set_cons_succ]
            refine wpAnyH_ready (rs := [11]) (by kernel_rfl) (by simp) ?_
            refine AllReadyH.cons rfl (fun K hK => ?_) AllReadyH.nil
            rw [if_pos (by rfl)]
            have fQ := N9.free
            have yQ := N9.cell
            go_simp
            clear fQ yQ
            have N8 : BoxOf _ lo #[.int .i64 (nuOf g), .int .u8 ((kiOf g).toNat : Int), .int .i64 (atOf g), .int .i64 (manyOf g), .slice A6 (datOf g).length c6, .slice A7 (mksOf g).length c7] 64 := mbox_self N9 5 (.slice A7 (mksOf g).length c7)
            have P8 := mbox_else P9 (show w.heap.size ≠ lo by omega) 5 (.slice A7 (mksOf g).length c7)
            have Z8 := mbox_else Z9 (show w.heap.size + 1 ≠ lo by omega) 5 (.slice A7 (mksOf g).length c7)
            have O8 := OwnE.setElse (k := lo) O9 (fun h => by have := h.2; omega) 5 (.slice A7 (mksOf g).length c7)
            have G8 := OwnE.setElse (k := lo) G9 (fun h => by have := h.2; omega) 5 (.slice A7 (mksOf g).length c7)
            have t8 := Below.setCell (p := ⟨lo, 5, none⟩) t9 (show w.heap.size ≤ lo by omega) (.slice A7 (mksOf g).length c7)
            have D8 := D9.setLo 5 (.slice A7 (mksOf g).length c7)
            have M8 := M9.setLo 5 (.slice A7 (mksOf g).length c7)
            refine hK.out _ _ P8 (fun hS' => ?_)
            clear hK K hS hS' P9 Z9 N9 O9 G9 t9 D9 M9
            try simp only [Act.put, List.getElem_toArray, List.getElem_cons_zero, List.getElem_cons_succ, List.setIfInBounds_toArray, List.set_cons_zero, List.set_cons_succ]
            generalize (v6.setCell ⟨lo, 4, none⟩ (.slice A6 (datOf g).length c6)).setCell ⟨lo, 5, none⟩ (.slice A7 (mksOf g).length c7) = v8 at *
            refine wpAnyH_done (by kernel_rfl) ?_ _
            have bb := Ext.alloc (Below.refl v8.heap.size v8) (.cells #[.int .i64 (nuOf g), .int .u8 ((kiOf g).toNat : Int), .int .i64 (atOf g), .int .i64 (manyOf g), .slice A6 (datOf g).length c6, .slice A7 (mksOf g).length c7] 64)
            have l8 := N8.lt
            have P10 := P8.next bb
            have Z10 := Z8.next bb
            have t10 := Ext.trans t8 bb
            have O10 := O8.next (fun b hb => by have := hb.2; omega) bb
            have G10 := G8.next (fun b hb => by have := hb.2; omega) bb
            have rd10 := rd_row v8 #[.int .i64 (nuOf g), .int .u8 ((kiOf g).toNat : Int), .int .i64 (atOf g), .int .i64 (manyOf g), .slice A6 (datOf g).length c6, .slice A7 (mksOf g).length c7] 64
            have E10 : (goE 3).E (v8.alloc (.cells #[.int .i64 (nuOf g), .int .u8 ((kiOf g).toNat : Int), .int .i64 (atOf g), .int .i64 (manyOf g), .slice A6 (datOf g).length c6, .slice A7 (mksOf g).length c7] 64)) (Iv lo (v8.alloc (.cells #[.int .i64 (nuOf g), .int .u8 ((kiOf g).toNat : Int), .int .i64 (atOf g), .int .i64 (manyOf g), .slice A6 (datOf g).length c6, .slice A7 (mksOf g).length c7] 64)).heap.size) g [.int .i64 (nuOf g), .int .u8 ((kiOf g).toNat : Int), .int .i64 (atOf g), .int .i64 (manyOf g), .slice A6 (datOf g).length c6, .slice A7 (mksOf g).length c7] :=
              ⟨nuOf g, kiOf g, atOf g, manyOf g, datOf g, mksOf g, _, _, HGE.out, rfl, HI.out, HMA.out.1, HMA.out.2,
                (D8.below bb).mono (fun b hb => ⟨⟨⟨by have := hb.1.1.1; omega, Nat.lt_of_lt_of_le hb.1.1.2 bb.size⟩, hb.1.2.below bb⟩, hb.2⟩), (M8.frame fun b hb => bb.block b hb.2).mono fun b hb => ⟨by have := hb.1; omega, Nat.lt_of_lt_of_le hb.2 bb.size⟩⟩
            have hlo : lo ≤ (v8.alloc (.cells #[.int .i64 (nuOf g), .int .u8 ((kiOf g).toNat : Int), .int .i64 (atOf g), .int .i64 (manyOf g), .slice A6 (datOf g).length c6, .slice A7 (mksOf g).length c7] 64)).heap.size := Nat.le_trans (Nat.le_of_lt l8) bb.size
            have hgl : (gs.take j).length = j := by rw [List.length_take]; have := HLJ.out; omega
            have HBY : Hid ((gs.take j).length + 1 ≤ maxLen ∧ ((gs.take j).length + 1) * 80 ≤ 140737488355328) := by
              have h1 := HGM.out
              have h2 := hgz.out
              have h3 := HLJ.out
              show _ ∧ _
              rw [hgl]
              omega
            have HTL : Hid (∀ (A : Option Addr) (c : Nat), Value.slice A ((gs.take j) ++ [g]).length c = Value.slice A (j + 1) c) := fun A c => by
              rw [List.length_append, hgl]
              rfl
            have z8 := Z8.cell
            have n8 := N8.cell
            have z10 := Z10.cell
            have f10 := Z10.free
            clear hgl P8 Z8 N8 O8 G8 t8 D8 M8 bb l8
            go_wp2_with (at_builtin; refine wpList_pushI rfl (.tmp 54) (.tmp 56) 26 rfl m lo 64 ig _ 80 Try.underlying26 hig hg0 hg1 hg2 rfl (by decide) u (gs.take j) rfl G10 hlo hml (some ⟨v8.heap.size, 0, none⟩) 1 _ rfl rd10 g E10 HBY.out.1 HBY.out.2 ?_; intro vz wz Oz gz kz; obtain ⟨A10, c10, e10⟩ := Oz.slice; have e11 := e10.trans (HTL.out A10 c10); subst e11; have Pz := P10.grown gz (fun e => by have := kz _ e; omega); have Zz := Z10.grown gz (fun e => by have := kz _ e; omega); have tz := Below.grown t10 gz t10.size (fun r e => by have := kz r e; omega); have Oy := O10.frame (fun b hb => gz.block b (by have := hb.2; omega) (fun e => by have := kz _ e.symm; have := hb.2; omega)); have Oz2 := OwnE.cast HST.out.symm Oz; have HNz := Lib.hid (Nat.le_trans hml (Nat.le_trans hlo gz.size)); have yz := Zz.cell; have fz := Zz.free; clear z8 n8 z10 f10 P10 Z10 t10 O10 G10 E10 rd10 gz kz Oz e10)
            have Z12 : BoxOf _ (w.heap.size + 1) #[.slice Ay ys.length cy, .slice A10 (j + 1) c10] 28 := mbox_self Zz 1 (.slice A10 (j + 1) c10)
            have P12 := mbox_else Pz (show w.heap.size ≠ w.heap.size + 1 by omega) 1 (.slice A10 (j + 1) c10)
            have O12 := OwnE.setElse (k := w.heap.size + 1) Oy (fun h => by have := h.1; omega) 1 (.slice A10 (j + 1) c10)
            have G12 := OwnE.setElse (k := w.heap.size + 1) Oz2 (fun h => by have := h.1; omega) 1 (.slice A10 (j + 1) c10)
            have t12 := Below.setCell (p := ⟨w.heap.size + 1, 1, none⟩) tz (show w.heap.size ≤ w.heap.size + 1 by omega) (.slice A10 (j + 1) c10)
            go_roundw
            case rel => exact ⟨j + 1, _, HLJ.out, by first | exact round_same HWJ | go_num, t12, P12, Z12, O12, (by rw [msize]; exact G12), (show Hid (m ≤ _) from by show m ≤ _; rw [msize]; exact HNz.out)⟩
            case measure => first | exact round_less HWJ HLJ.out | (have h := HLJ.out; simp [intOf]; omega)
        · have hje : gs.take j = gs := List.take_of_length_le (by omega)
          rw [hje] at G1
          obtain ⟨Ag, ag, rfl⟩ := G1.slice
          have HO := Lib.hid O1
          have HGG := Lib.hid G1
          clear hje O1 G1 hj
          have z1 := Z1.cell
          have f1 := Z1.free
          go_wp2
          have B5 : BoxOf _ (w.heap.size + 1) #[.slice Ay ys.length cy, .slice Ag gs.length ag] 28 := mbox_self (mbox_self Z1 0 (.slice Ay ys.length cy)) 1 (.slice Ag gs.length ag)
          have T5 := Below.setCell (p := ⟨w.heap.size + 1, 1, none⟩) (Below.setCell (p := ⟨w.heap.size + 1, 0, none⟩) t1 (show w.heap.size ≤ w.heap.size + 1 by omega) (.slice Ay ys.length cy)) (show w.heap.size ≤ w.heap.size + 1 by omega) (.slice Ag gs.length ag)
          have O5 := OwnE.setElse (k := w.heap.size + 1) (OwnE.setElse (k := w.heap.size + 1) HO.out (fun h => by have := h.1; omega) 0 (.slice Ay ys.length cy)) (fun h => by have := h.1; omega) 1 (.slice Ag gs.length ag)
          have G5 := OwnE.setElse (k := w.heap.size + 1) (OwnE.setElse (k := w.heap.size + 1) HGG.out (fun h => by have := h.1; omega) 0 (.slice Ay ys.length cy)) (fun h => by have := h.1; omega) 1 (.slice Ag gs.length ag)
          refine bodyPost_ret (v := .agg #[.slice Ay ys.length cy, .slice Ag gs.length ag]) (results_cell_row rfl _ _ (w.heap.size + 1) 28 #[.slice Ay ys.length cy, .slice Ag gs.length ag] (0, 0) _ rfl B5 Try.underlying28 rfl (by kernel_rfl)) rfl ⟨⟨_, _, m, rfl, by omega, by simp only [msize]; exact HN1.out, OwnE.base0 (base := base) (OwnE.mono (F' := Iv w.heap.size m) O5 fun b hb => ⟨by have := hb.1; omega, hb.2⟩) (by omega), by simp only [msize]; exact G5⟩, T5⟩
end Go.Proofs.Ytclbihcggjjgaaa
/- Layer 30 (model): the statements' own config, block and request; the program's New. -/
namespace Go.Proofs.Ytclbihcggjjgaaa
open Go Go.RowKit
set_option linter.unusedSimpArgs false
set_option linter.unusedVariables false

def cfgTwo : Cfg := ⟨0, 3, 1, 2, 12, 2⟩
theorem two_any (w : World) : Calls Try.prog 21 #[] w fun e w' => e = .returned cfgTwo.val ∧ Below w.heap.size w w' := by
  go_enter Try.func21, Try.ntmps21
  go_wp2
  exact bodyPost_ret (v := cfgTwo.val) (results_cell_row rfl _ _ w.heap.size 24 #[.int .u32 0, .int .i64 3, .int .i64 1, .int .i64 2, .int .i64 12, .int .i64 2] (0, 0) _ rfl (heap_alloc_new _ _) Try.underlying24 rfl (by kernel_rfl)) rfl ⟨rfl, Ext.alloc (Below.refl _ _) _⟩
/-- j bytes x, then noughts -/
def fillX (x : UInt8) (j : Nat) : List UInt8 := List.replicate j x ++ List.replicate (128 - j) 0
theorem fillX_none (x : UInt8) : fillX x 0 = zeros := rfl
theorem fillX_set (x : UInt8) (j : Nat) (hj : j < 128) : (fillX x j).set j x = fillX x (j + 1) := by
  unfold fillX
  apply List.ext_getElem
  · simp; omega
  · intro i h1 h2
    rw [List.getElem_set]
    by_cases h : j = i
    · subst h
      simp only [if_true]
      rw [List.getElem_append_left (by simp)]
      simp
    · simp only [h, if_false]
      by_cases h3 : i < j
      · rw [List.getElem_append_left (by simpa using h3), List.getElem_append_left (by simp; omega)]
        simp
      · rw [List.getElem_append_right (by simp; omega), List.getElem_append_right (by simp; omega)]
        simp
def fullL (x : UInt8) : List UInt8 := List.replicate 128 x
theorem fillX_all (x : UInt8) : fillX x 128 = fullL x := by simp [fillX, fullL]
theorem Own.rdin {w : World} {base g : Nat} {l : List UInt8} (h : Own w base g l) (hl : l.length = 128) : RdIn w (NewB base w) (.sl .byte) l [.slice (some ⟨g, 0, none⟩) 128 128] := by
  unfold Own at h
  exact (OwnL.of_bytes (bs := l) (by rw [hl]; exact h)).bytes_rdin (by rw [hl]; decide)
theorem fullL_len (x : UInt8) : (fullL x).length = 128 := by simp [fullL]

set_option maxRecDepth 100000 in
set_option maxHeartbeats 1000000 in
theorem full_any (x : UInt8) (w : World) : Calls Try.prog 26 #[.int .u8 (x.toNat : Int)] w fun e w' => (∃ g, e = .returned (.slice (some ⟨g, 0, none⟩) 128 128) ∧ RdIn w' (NewB w.heap.size w') (.sl .byte) (fullL x) [.slice (some ⟨g, 0, none⟩) 128 128]) ∧ Below w.heap.size w w' := by
  obtain ⟨i0, hi0, hz0, hz1, hz2⟩ := minfo_u8
  go_enter Try.func26, Try.ntmps26
  go_upto_region 1 with fail
  go_wp2_with (refine wpList_make_full w rfl (.const (.int .i64 128)) (.const (.int .i64 128)) 29 rfl w.heap.size 5 i0 (.int .u8 0) 1 Try.underlying29 hi0 hz0 hz1 .i64 .i64 128 128 128 rfl rfl rfl rfl (by rw [hz2]; omega) (by unfold maxLen; omega) (Nat.le_refl _) ?_; intro w2 own2 g2; rw [made_zeros] at own2; have b2 := Ext.grown (Below.refl _ _) g2 (by simp))
  have HO : Hid (Own w2 w.heap.size w.heap.size zeros) := Lib.hid own2
  clear own2 g2
  go_loopw [4] (fun i wr => ∃ j : Nat, j ≤ 128 ∧ i = .int .i64 j ∧ Own wr w.heap.size w.heap.size (fillX x j) ∧ Below w.heap.size w wr) (fun i _ => 128 - (intOf i).toNat)
  case atStart => exact ⟨0, Nat.zero_le _, rfl, by rw [fillX_none]; exact HO.out, b2⟩
  case round =>
    obtain ⟨j, hj, rfl, own, bw⟩ := hrel
    by_cases hlt : j < 128
    · have h2 := own.cell j hlt
      have h3 := World.ownsRow.frozenAt own j
      have hnx := own.set j x
      rw [fillX_set x j hlt] at hnx
      have HN := Lib.hid hnx
      clear hnx own
      generalize ((fillX x j).getD j 0).toNat = y at h2
      generalize hxx : x.toNat = xn at *
      go_wp2
      exact ⟨⟨j + 1, by omega, by go_num, by rw [← hxx]; exact HN.out, bw.setCell (Nat.le_refl _) _⟩, by simp [intOf]; omega⟩
    · have hj' : j = 128 := by omega
      have HF := Lib.hid own
      have hx1 : fillX x j = fullL x := by rw [hj']; exact fillX_all x
      have HX := Lib.hid hx1
      clear own hx1 hj'
      go_wp2
      go_ret
      exact ⟨⟨_, rfl, Own.rdin (by rw [← HX.out]; exact HF.out) (fullL_len x)⟩, bw⟩

set_option maxRecDepth 100000 in
set_option maxHeartbeats 1000000 in
theorem write_any (x : UInt8) (w : World) : Calls Try.prog 25 #[.int .u8 (x.toNat : Int)] w fun e w' => (∃ g, e = .returned (.agg #[.int .u8 2, .int .i64 0, .int .i64 1, .slice (some ⟨g, 0, none⟩) 128 128]) ∧ RdIn w' (NewB w.heap.size w') (.sl .byte) (fullL x) [.slice (some ⟨g, 0, none⟩) 128 128]) ∧ Below w.heap.size w w' := by
  have Z0 := BoxOf.new w #[.int .u8 0, .int .i64 0, .int .i64 0, .slice none 0 0] 58
  have t0 := Ext.alloc (Below.refl w.heap.size w) (.cells #[.int .u8 0, .int .i64 0, .int .i64 0, .slice none 0 0] 58)
  have HF := Lib.hid (full_any x (w.alloc (.cells #[.int .u8 0, .int .i64 0, .int .i64 0, .slice none 0 0] 58)))
  go_enter Try.func25, Try.ntmps25
  go_upto_region 1 with fail
  generalize w.alloc (.cells #[.int .u8 0, .int .i64 0, .int .i64 0, .slice none 0 0] 58) = W at *
  go_wp2_with fail
  refine HF.out.mono ?_
  rintro e w1 ⟨⟨g, rfl, r1⟩, b1⟩
  have Z1 := Z0.next b1
  have t1 := Ext.trans t0 b1
  have f1 := Z1.free
  have z1 := Z1.cell
  have HR := Lib.hid r1
  have lw := Z0.lt
  have hsz := t0.size
  clear r1 Z0 HF
  go_wp2
  have Z2 : BoxOf _ w.heap.size #[.int .u8 2, .int .i64 0, .int .i64 1, .slice (some ⟨g, 0, none⟩) 128 128] 58 := mbox_self (mbox_self (mbox_self (mbox_self Z1 0 (.int .u8 2)) 1 (.int .i64 0)) 2 (.int .i64 1)) 3 (.slice (some ⟨g, 0, none⟩) 128 128)
  have t2 := Below.setCell (p := ⟨w.heap.size, 3, none⟩) (Below.setCell (p := ⟨w.heap.size, 2, none⟩) (Below.setCell (p := ⟨w.heap.size, 1, none⟩) (Below.setCell (p := ⟨w.heap.size, 0, none⟩) t1 (Nat.le_refl _) (.int .u8 2)) (Nat.le_refl _) (.int .i64 0)) (Nat.le_refl _) (.int .i64 1)) (Nat.le_refl _) (.slice (some ⟨g, 0, none⟩) 128 128)
  have r2 := (((HR.out.setElse (k := w.heap.size) (fun b hb => by have := hb.1; omega) 0 (.int .u8 2)).setElse (k := w.heap.size) (fun b hb => by have := hb.1; omega) 1 (.int .i64 0)).setElse (k := w.heap.size) (fun b hb => by have := hb.1; omega) 2 (.int .i64 1)).setElse (k := w.heap.size) (fun b hb => by have := hb.1; omega) 3 (.slice (some ⟨g, 0, none⟩) 128 128)
  refine bodyPost_ret (v := .agg #[.int .u8 2, .int .i64 0, .int .i64 1, .slice (some ⟨g, 0, none⟩) 128 128]) (results_cell_row rfl _ _ w.heap.size 58 #[.int .u8 2, .int .i64 0, .int .i64 1, .slice (some ⟨g, 0, none⟩) 128 128] (0, 0) _ rfl Z2 Try.underlying58 rfl (by kernel_rfl)) rfl ⟨⟨g, rfl, RdIn.mono (S' := NewB w.heap.size ((((w1.setCell ⟨w.heap.size, 0, none⟩ (.int .u8 2)).setCell ⟨w.heap.size, 1, none⟩ (.int .i64 0)).setCell ⟨w.heap.size, 2, none⟩ (.int .i64 1)).setCell ⟨w.heap.size, 3, none⟩ (.slice (some ⟨g, 0, none⟩) 128 128))) (fun b hb => ⟨by have := hb.1; omega, by simp only [msize]; exact hb.2.1, (((hb.2.2.set _ _).set _ _).set _ _).set _ _⟩) r2⟩, t2⟩

theorem wp_make_full {P : Program} (w : World) {o : Oper} {a : Act} {K : Act → World → Prop} {Q : Exit → Act → World → Prop}
    (l c : Operand) (t : TypeId) (hop : o.op = Op.makeSlice t l c)
    (base : Nat) (e : TypeId) (i : TypeInfo) (z : Value) (size : Nat) (h1 : P.underlying t = some (.slice e)) (h2 : P.info? e = some i) (h3 : i.zero = some z) (h4 : i.size = size)
    (kl kc : IntKind) (L C : Int) (n : Nat) (hl : a.eval l = .int kl L) (hc : a.eval c = .int kc C) (hL : L = (n : Int)) (hC : C = (n : Int)) (b2 : i.bytes * n ≤ 281474976710656) (b3 : n ≤ maxLen) (b4 : base ≤ w.heap.size)
    (hK : ∀ w', w'.ownsRow base e size (.slice (some ⟨w.heap.size, 0, none⟩) n n) n (madeCells z.cells (n * size)).toList → w.grownBy w' none → K (a.put o.dst (.slice (some ⟨w.heap.size, 0, none⟩) n n)) w') :
    o.wp P a w K Q := by
  obtain ⟨w', hrun, r1, r2⟩ := run_make_full (P := P) w base t e i z size h1 h2 h3 h4 kl kc n b2 b3 b4
  subst hL
  subst hC
  unfold Oper.wp
  simp [execOp, hop, hl, hc, hrun, Result.andThen]
  exact hK w' r1 r2
def nulls (n : Nat) : List (List (List UInt8)) := List.replicate n [zeros]
theorem nulls_step (n : Nat) : nulls (n + 1) = nulls n ++ [[zeros]] := List.replicate_succ'
theorem nulls_len (n : Nat) : (nulls n).length = n := List.length_replicate
/-- what New answers -/
def NewRel (x : Cfg) (v : Int) (ys : List (List (List UInt8))) : Prop := (¬ x.Ok ∧ v = 8 ∧ ys = []) ∨ (x.Ok ∧ v = 0 ∧ ys = nulls (x.c * x.r * (x.m - 1)).toNat)
theorem NewRel.one {x : Cfg} {v v' : Int} {ys zs : List (List (List UInt8))} (h : NewRel x v ys) (h' : NewRel x v' zs) : v = v' ∧ ys = zs := by
  rcases h with ⟨h1, rfl, rfl⟩ | ⟨h1, rfl, rfl⟩ <;> rcases h' with ⟨k1, rfl, rfl⟩ | ⟨k1, rfl, rfl⟩ <;> first | exact ⟨rfl, rfl⟩ | exact absurd h1 k1 | exact absurd k1 h1
def NewIs (base : Nat) (x : Cfg) (e : Ending) (w : World) : Prop :=
  ∃ (v : Int) (ys : List (List (List UInt8))) (A' : Option Addr) (c' : Nat), e = .returned (.tuple #[.agg #[.slice A' ys.length c', .slice none 0 0], .int .i64 v]) ∧ NewRel x v ys ∧ RdIn w (NewB base w) (.sl (.sl (.sl .byte))) ys [.slice A' ys.length c']

set_option maxRecDepth 100000 in
set_option maxHeartbeats 4000000 in
theorem snew_any (x : Cfg) (w : World) : Calls Try.prog 29 #[x.val] w fun e w' => NewIs w.heap.size x e w' ∧ Below w.heap.size w w' := by
  obtain ⟨il, hil, hl0, hl1, hl2⟩ := minfo_lists
  obtain ⟨iu, hu, hu0, hu1, hu2⟩ := minfo_u8
  by_cases hx : x.Ok
  · have HB := Lib.hid (blocks_ok x hx)
    have HX := Lib.hid hx
    have hcr := Cfg.crm hx
    obtain ⟨N, hN⟩ : ∃ n : Nat, x.c * x.r * (x.m - 1) = (n : Int) := ⟨(x.c * x.r * (x.m - 1)).toNat, by omega⟩
    have hN9 : N ≤ 1000 := by omega
    have HNN : Hid ((x.c * x.r * (x.m - 1)).toNat = N) := by show _ = _; omega
    rw [hN] at HB
    clear hcr hN hx
    obtain ⟨id, m, c, r, l, h⟩ := x
    unfold Cfg.val at *
    dsimp only at *
    have C0 := BoxOf.alloc (BoxOf.new w #[.int .u32 (id : Int), .int .i64 m, .int .i64 c, .int .i64 r, .int .i64 l, .int .i64 h] 24) (.cells #[.slice none 0 0, .slice none 0 0] 28)
    have Z0 := BoxOf.new' (w.alloc (.cells #[.int .u32 (id : Int), .int .i64 m, .int .i64 c, .int .i64 r, .int .i64 l, .int .i64 h] 24)) (w.heap.size + 1) #[.slice none 0 0, .slice none 0 0] 28 (by simp)
    have t0 := Ext.alloc (Ext.alloc (Below.refl w.heap.size w) (.cells #[.int .u32 (id : Int), .int .i64 m, .int .i64 c, .int .i64 r, .int .i64 l, .int .i64 h] 24)) (.cells #[.slice none 0 0, .slice none 0 0] 28)
    go_enter Try.func29, Try.ntmps29
    go_upto_region 1 with fail
    generalize (w.alloc (.cells #[.int .u32 (id : Int), .int .i64 m, .int .i64 c, .int .i64 r, .int .i64 l, .int .i64 h] 24)).alloc (.cells #[.slice none 0 0, .slice none 0 0] 28) = W at *
    have x0 := C0.cell
    go_wp2_with fail
    refine (HB.out _).mono ?_
    rintro e w1 ⟨rfl, b1⟩
    have C1 := C0.next b1
    have Z1 := Z0.next b1
    have t1 := Ext.trans t0 b1
    obtain ⟨base, hbase⟩ : ∃ z : Nat, z = w.heap.size + 2 := ⟨_, rfl⟩
    have hb2 : base ≤ w1.heap.size := by have := Z1.lt; omega
    have HBS := Lib.hid hbase
    have HB2 := Lib.hid hb2
    clear x0 C0 Z0 t0 b1 hbase hb2
    go_wp2
    go_loopw [15] (fun i wr => ∃ (j : Nat) (v : Value), j ≤ N ∧ i = .int .i64 j ∧ Below w.heap.size w wr ∧ BoxOf wr w.heap.size #[.int .u32 (id : Int), .int .i64 m, .int .i64 c, .int .i64 r, .int .i64 l, .int .i64 h] 24 ∧ BoxOf wr (w.heap.size + 1) #[v, .slice none 0 0] 28 ∧ OwnL wr base 30 (.sl (.sl .byte)) v (nulls j) ∧ Hid (base ≤ wr.heap.size)) (fun i _ => N - (intOf i).toNat)
    case atStart => exact ⟨0, .slice none 0 0, by omega, rfl, t1, C1, Z1, OwnL.nil _ _ _ _, HB2⟩
    case round =>
      obtain ⟨j, v, hj, rfl, t3, P4, Z4, O4, HB4⟩ := hrel
      clear t1 C1 Z1
      by_cases hlt : j < N
      · have HWJ := next_wrap (show N ≤ maxLen by unfold maxLen; omega) hlt
        have HLJ := Lib.hid hlt
        have HBY : Hid ((nulls j).length + 1 ≤ maxLen ∧ ((nulls j).length + 1) * 24 ≤ 140737488355328) := by
          show _ ∧ _
          rw [nulls_len]
          unfold maxLen
          omega
        have HTL : Hid (∀ (A : Option Addr) (c : Nat), Value.slice A ((nulls j) ++ [[zeros]]).length c = Value.slice A (j + 1) c) := fun A c => by
          rw [List.length_append, nulls_len]
          rfl
        go_upto_region 6 with fail
        have P5 := P4.drew
        have Z5 := Z4.drew
        have O5 := O4.next (Ext.drew (Below.refl wr.heap.size wr))
        have t5 := Ext.drew t3
        have n5 : base ≤ wr.drew.heap.size := HB4.out
        refine wp_region_held_drew (S := fun w' => BoxOf w' w.heap.size #[.int .u32 (id : Int), .int .i64 m, .int .i64 c, .int .i64 r, .int .i64 l, .int .i64 h] 24) (by kernel_rfl) P5 (fun hS => ?_)
        clear P4 Z4 O4 t3
        generalize wr.drew = wd at *
        refine wpAnyH_take (i := 0) (oi := _) (v := ?_) rfl (by kernel_rfl) (by kernel_rfl) (by kernel_rfl) (fun _ _ _ h => h) (Or.inl ⟨by rfl, ?_⟩) hS ?_
        rotate_left
        · (intro w hSw; (try dsimp only at hSw); go_simp; (try with_reducible rfl))
        rotate_left
        simp only [Act.put, List.getElem_toArray, List.getElem_cons_zero, List.getElem_cons_succ, List.setIfInBounds_toArray, List.set_cons_zero, List.set_cons_succ]
        refine wpAnyH_ready (rs := [1, 2]) (by kernel_rfl) (by simp) ?_
        refine AllReadyH.cons rfl (fun K hK => ?_) (AllReadyH.cons rfl (fun K hK => ?_) AllReadyH.nil)
        · rw [if_pos (by rfl)]
          have yQ := Z5.cell
          go_simp
          refine hK.out _ _ P5 (fun hS' => ?_)
          clear yQ hK K hS
          have hS := hS'
          clear hS'
          try simp only [Act.put, List.getElem_toArray, List.getElem_cons_zero, List.getElem_cons_succ, List.setIfInBounds_toArray, List.set_cons_zero, List.set_cons_succ]
          refine wpAnyH_ready (rs := [2]) (by kernel_rfl) (by simp) ?_
          refine AllReadyH.cons rfl (fun K hK => ?_) AllReadyH.nil
          rw [if_pos (by rfl)]
          refine wp_make_full wd (.const (.int .i64 128)) (.const (.int .i64 128)) 29 rfl wd.heap.size 5 iu (.int .u8 0) 1 Try.underlying29 hu hu0 hu1 .i64 .i64 128 128 128 rfl rfl rfl rfl (by rw [hu2]; omega) (by unfold maxLen; omega) (Nat.le_refl _) ?_
          intro v5 own5 g5
          rw [made_zeros] at own5
          have bb := Ext.grown (Below.refl _ _) g5 (by simp)
          have r6 := Own.rdin own5 (show zeros.length = 128 from rfl)
          have F6 := own_apart r6 (OwnL.lt O5) n5
          obtain ⟨g6, hg6⟩ : ∃ z : Nat, z = wd.heap.size := ⟨_, rfl⟩
          rw [← hg6] at F6
          clear r6 own5 g5
          have P9 := P5.next bb
          have Z9 := Z5.next bb
          have O9 := O5.next bb
          have t9 := Ext.trans t5 bb
          have n9 := Nat.le_trans n5 bb.size
          refine hK.out _ _ P9 (fun hS' => ?_)
          clear P5 Z5 O5 t5 n5 hK K hS
          have P5 := P9
          have Z5 := Z9
          have O5 := O9
          have t5 := t9
          have n5 := n9
          have hS := hS'
          clear hS' P9 Z9 O9 t9 n9
          try simp only [Act.put, List.getElem_toArray, List.getElem_cons_zero, List.getElem_cons_succ, List.setIfInBounds_toArray, List.set_cons_zero, List.set_cons_succ]
          clear bb
          rw [← hg6]
          clear hg6
          refine wpAnyH_ready (rs := [3]) (by kernel_rfl) (by simp) ?_
          refine AllReadyH.cons rfl (fun K hK => ?_) AllReadyH.nil
          rw [if_pos (by rfl)]
          go_simp
          have bb := Ext.alloc (Below.refl v5.heap.size v5) (.cells #[.slice (some ⟨g6, 0, none⟩) 128 128] 29)
          have F7 := one_list (OwnL.lt O5) n5 F6 29
          clear F6
          obtain ⟨g7, hg7⟩ : ∃ z : Nat, z = v5.heap.size := ⟨_, rfl⟩
          rw [← hg7] at F7
          have P9 := P5.next bb
          have Z9 := Z5.next bb
          have O9 := O5.next bb
          have t9 := Ext.trans t5 bb
          have n9 := Nat.le_trans n5 bb.size
          refine hK.out _ _ P9 (fun hS' => ?_)
          clear P5 Z5 O5 t5 n5 hK K hS
          have P5 := P9
          have Z5 := Z9
          have O5 := O9
          have t5 := t9
          have n5 := n9
          have hS := hS'
          clear hS' P9 Z9 O9 t9 n9
          try simp only [Act.put, List.getElem_toArray, List.getElem_cons_zero, List.getElem_cons_succ, List.setIfInBounds_toArray, List.set_cons_zero, List.set_cons_succ]
          clear bb
          rw [← hg7]
          clear hg7
          generalize v5.alloc (.cells #[.slice (some ⟨g6, 0, none⟩) 128 128] 29) = v7 at *
          refine wpAnyH_ready (rs := [4]) (by kernel_rfl) (by simp) ?_
          refine AllReadyH.cons rfl (fun K hK => ?_) AllReadyH.nil
          rw [if_pos (by rfl)]
          go_simp
          have bb := Ext.alloc (Below.refl v7.heap.size v7) (.cells #[.slice (some ⟨g7, 0, none⟩) 1 1] 30)
          have rd8 := rd_row v7 #[.slice (some ⟨g7, 0, none⟩) 1 1] 30
          have F8 := (F7.below bb).mono (fun b hb => Fresh.next hb bb)
          clear F7
          obtain ⟨g8, hg8⟩ : ∃ z : Nat, z = v7.heap.size := ⟨_, rfl⟩
          rw [← hg8] at rd8
          have P9 := P5.next bb
          have Z9 := Z5.next bb
          have O9 := O5.next bb
          have t9 := Ext.trans t5 bb
          have n9 := Nat.le_trans n5 bb.size
          refine hK.out _ _ P9 (fun hS' => ?_)
          clear P5 Z5 O5 t5 n5 hK K hS
          have P5 := P9
          have Z5 := Z9
          have O5 := O9
          have t5 := t9
          have n5 := n9
          have hS := hS'
          clear hS' P9 Z9 O9 t9 n9
          try simp only [Act.put, List.getElem_toArray, List.getElem_cons_zero, List.getElem_cons_succ, List.setIfInBounds_toArray, List.set_cons_zero, List.set_cons_succ]
          clear bb
          rw [← hg8]
          clear hg8
          generalize v7.alloc (.cells #[.slice (some ⟨g7, 0, none⟩) 1 1] 30) = v8 at *
          refine wpAnyH_ready (rs := [5]) (by kernel_rfl) (by simp) ?_
          refine AllReadyH.cons rfl (fun K hK => ?_) AllReadyH.nil
          rw [if_pos (by rfl)]
          refine wp_push (.tmp 18) (.tmp 21) 25 rfl base 30 il _ 24 (.sl (.sl .byte)) Try.underlying25 hil hl0 hl1 hl2 rfl (by decide) v (nulls j) rfl O5 (some ⟨g8, 0, none⟩) 1 _ rfl rd8 _ F8 HBY.out.1 HBY.out.2 n5 ?_
          intro u9 w9 O9 gr9 k9
          have hb3 := HBS.out
          have P9 := P5.grown gr9 (fun e => by have := k9 _ e; omega)
          have Z9 := Z5.grown gr9 (fun e => by have := k9 _ e; omega)
          have t9 := Below.grown t5 gr9 t5.size (fun r e => by have := k9 r e; omega)
          have n9 := Nat.le_trans n5 gr9.size
          refine hK.out _ _ P9 (fun hS' => ?_)
          clear P5 Z5 O5 t5 n5 k9 gr9 F8 rd8 hK K hS
          have hS := hS'
          clear hS'
          obtain ⟨A10, c10, e10⟩ := OwnL.slice O9
          have e11 := e10.trans (HTL.out A10 c10)
          clear e10
          subst e11
          try simp only [Act.put, List.getElem_toArray, List.getElem_cons_zero, List.getElem_cons_succ, List.setIfInBounds_toArray, List.set_cons_zero, List.set_cons_succ]
          refine wpAnyH_take (i := 6) (oi := _) (v := ?_) rfl (by kernel_rfl) (by kernel_rfl) (by kernel_rfl) (fun _ _ _ h => h) (Or.inl ⟨by rfl, ?_⟩) hS ?_
          rotate_left
          · (intro w hSw; (try dsimp only at hSw); go_simp; (try with_reducible rfl))
          rotate_left
          simp only [Act.put, List.getElem_toArray, List.getElem_cons_zero, List.getElem_cons_succ, List.setIfInBounds_toArray, List.set_cons_zero, List.set_cons_succ]
          refine wpAnyH_ready (rs := [7]) (by kernel_rfl) (by simp) ?_
          refine AllReadyH.cons rfl (fun K hK => ?_) AllReadyH.nil
          rw [if_pos (by rfl)]
          have fQ := Z9.free
          have yQ := Z9.cell
          go_simp
          clear fQ yQ
          have Z10 : BoxOf _ (w.heap.size + 1) #[.slice A10 (j + 1) c10, .slice none 0 0] 28 := mbox_self Z9 0 (.slice A10 (j + 1) c10)
          have P10 := mbox_else P9 (show w.heap.size ≠ w.heap.size + 1 by omega) 0 (.slice A10 (j + 1) c10)
          have O10 := OwnL.setElse (k := w.heap.size + 1) (OwnL.cast (nulls_step j).symm O9) (by omega) 0 (.slice A10 (j + 1) c10)
          have t10 := Below.setCell (p := ⟨w.heap.size + 1, 0, none⟩) t9 (show w.heap.size ≤ w.heap.size + 1 by omega) (.slice A10 (j + 1) c10)
          refine hK.out _ _ P10 (fun hS' => ?_)
          clear hK K hS hS' Z9 P9 O9 t9
          try simp only [Act.put, List.getElem_toArray, List.getElem_cons_zero, List.getElem_cons_succ, List.setIfInBounds_toArray, List.set_cons_zero, List.set_cons_succ]
          refine wpAnyH_done (by kernel_rfl) ?_ _
          have HN9 : Hid (base ≤ w9.heap.size) := n9
          have LJ := HLJ.out
          clear n9 hb3
          go_wp2
          go_roundw
          case rel => exact ⟨j + 1, _, LJ, by first | exact round_same HWJ | go_num, t10, P10, Z10, O10, (show Hid (base ≤ _) from by show base ≤ _; rw [msize]; exact HN9.out)⟩
          case measure => first | exact round_less HWJ LJ | (have h := LJ; simp [intOf]; omega)
        · rw [if_pos (by rfl)]
          refine wp_make_full wd (.const (.int .i64 128)) (.const (.int .i64 128)) 29 rfl wd.heap.size 5 iu (.int .u8 0) 1 Try.underlying29 hu hu0 hu1 .i64 .i64 128 128 128 rfl rfl rfl rfl (by rw [hu2]; omega) (by unfold maxLen; omega) (Nat.le_refl _) ?_
          intro v5 own5 g5
          rw [made_zeros] at own5
          have bb := Ext.grown (Below.refl _ _) g5 (by simp)
          have r6 := Own.rdin own5 (show zeros.length = 128 from rfl)
          have F6 := own_apart r6 (OwnL.lt O5) n5
          obtain ⟨g6, hg6⟩ : ∃ z : Nat, z = wd.heap.size := ⟨_, rfl⟩
          rw [← hg6] at F6
          clear r6 own5 g5
          have P9 := P5.next bb
          have Z9 := Z5.next bb
          have O9 := O5.next bb
          have t9 := Ext.trans t5 bb
          have n9 := Nat.le_trans n5 bb.size
          refine hK.out _ _ P9 (fun hS' => ?_)
          clear P5 Z5 O5 t5 n5 hK K hS
          have P5 := P9
          have Z5 := Z9
          have O5 := O9
          have t5 := t9
          have n5 := n9
          have hS := hS'
          clear hS' P9 Z9 O9 t9 n9
          try simp only [Act.put, List.getElem_toArray, List.getElem_cons_zero, List.getElem_cons_succ, List.setIfInBounds_toArray, List.set_cons_zero, List.set_cons_succ]
          clear bb
          rw [← hg6]
          clear hg6
          refine wpAnyH_ready (rs := [1, 3]) (by kernel_rfl) (by simp) ?_
          refine AllReadyH.cons rfl (fun K hK => ?_) (AllReadyH.cons rfl (fun K hK => ?_) AllReadyH.nil)
          · rw [if_pos (by rfl)]
            have yQ := Z5.cell
            go_simp
            refine hK.out _ _ P5 (fun hS' => ?_)
            clear yQ hK K hS
            have hS := hS'
            clear hS'
            try simp only [Act.put, List.getElem_toArray, List.getElem_cons_zero, List.getElem_cons_succ, List.setIfInBounds_toArray, List.set_cons_zero, List.set_cons_succ]
            refine wpAnyH_ready (rs := [3]) (by kernel_rfl) (by simp) ?_
            refine AllReadyH.cons rfl (fun K hK => ?_) AllReadyH.nil
            rw [if_pos (by rfl)]
            go_simp
            have bb := Ext.alloc (Below.refl v5.heap.size v5) (.cells #[.slice (some ⟨g6, 0, none⟩) 128 128] 29)
            have F7 := one_list (OwnL.lt O5) n5 F6 29
            clear F6
            obtain ⟨g7, hg7⟩ : ∃ z : Nat, z = v5.heap.size := ⟨_, rfl⟩
            rw [← hg7] at F7
            have P9 := P5.next bb
            have Z9 := Z5.next bb
            have O9 := O5.next bb
            have t9 := Ext.trans t5 bb
            have n9 := Nat.le_trans n5 bb.size
            refine hK.out _ _ P9 (fun hS' => ?_)
            clear P5 Z5 O5 t5 n5 hK K hS
            have P5 := P9
            have Z5 := Z9
            have O5 := O9
            have t5 := t9
            have n5 := n9
            have hS := hS'
            clear hS' P9 Z9 O9 t9 n9
            try simp only [Act.put, List.getElem_toArray, List.getElem_cons_zero, List.getElem_cons_succ, List.setIfInBounds_toArray, List.set_cons_zero, List.set_cons_succ]
            clear bb
            rw [← hg7]
            clear hg7
            generalize v5.alloc (.cells #[.slice (some ⟨g6, 0, none⟩) 128 128] 29) = v7 at *
            refine wpAnyH_ready (rs := [4]) (by kernel_rfl) (by simp) ?_
            refine AllReadyH.cons rfl (fun K hK => ?_) AllReadyH.nil
            rw [if_pos (by rfl)]
            go_simp
            have bb := Ext.alloc (Below.refl v7.heap.size v7) (.cells #[.slice (some ⟨g7, 0, none⟩) 1 1] 30)
            have rd8 := rd_row v7 #[.slice (some ⟨g7, 0, none⟩) 1 1] 30
            have F8 := (F7.below bb).mono (fun b hb => Fresh.next hb bb)
            clear F7
            obtain ⟨g8, hg8⟩ : ∃ z : Nat, z = v7.heap.size := ⟨_, rfl⟩
            rw [← hg8] at rd8
            have P9 := P5.next bb
            have Z9 := Z5.next bb
            have O9 := O5.next bb
            have t9 := Ext.trans t5 bb
            have n9 := Nat.le_trans n5 bb.size
            refine hK.out _ _ P9 (fun hS' => ?_)
            clear P5 Z5 O5 t5 n5 hK K hS
            have P5 := P9
            have Z5 := Z9
            have O5 := O9
            have t5 := t9
            have n5 := n9
            have hS := hS'
            clear hS' P9 Z9 O9 t9 n9
            try simp only [Act.put, List.getElem_toArray, List.getElem_cons_zero, List.getElem_cons_succ, List.setIfInBounds_toArray, List.set_cons_zero, List.set_cons_succ]
            clear bb
            rw [← hg8]
            clear hg8
            generalize v7.alloc (.cells #[.slice (some ⟨g7, 0, none⟩) 1 1] 30) = v8 at *
            refine wpAnyH_ready (rs := [5]) (by kernel_rfl) (by simp) ?_
            refine AllReadyH.cons rfl (fun K hK => ?_) AllReadyH.nil
            rw [if_pos (by rfl)]
            refine wp_push (.tmp 18) (.tmp 21) 25 rfl base 30 il _ 24 (.sl (.sl .byte)) Try.underlying25 hil hl0 hl1 hl2 rfl (by decide) v (nulls j) rfl O5 (some ⟨g8, 0, none⟩) 1 _ rfl rd8 _ F8 HBY.out.1 HBY.out.2 n5 ?_
            intro u9 w9 O9 gr9 k9
            have hb3 := HBS.out
            have P9 := P5.grown gr9 (fun e => by have := k9 _ e; omega)
            have Z9 := Z5.grown gr9 (fun e => by have := k9 _ e; omega)
            have t9 := Below.grown t5 gr9 t5.size (fun r e => by have := k9 r e; omega)
            have n9 := Nat.le_trans n5 gr9.size
            refine hK.out _ _ P9 (fun hS' => ?_)
            clear P5 Z5 O5 t5 n5 k9 gr9 F8 rd8 hK K hS
            have hS := hS'
            clear hS'
            obtain ⟨A10, c10, e10⟩ := OwnL.slice O9
            have e11 := e10.trans (HTL.out A10 c10)
            clear e10
            subst e11
            try simp only [Act.put, List.getElem_toArray, List.getElem_cons_zero, List.getElem_cons_succ, List.setIfInBounds_toArray, List.set_cons_zero, List.set_cons_succ]
            refine wpAnyH_take (i := 6) (oi := _) (v := ?_) rfl (by kernel_rfl) (by kernel_rfl) (by kernel_rfl) (fun _ _ _ h => h) (Or.inl ⟨by rfl, ?_⟩) hS ?_
            rotate_left
            · (intro w hSw; (try dsimp only at hSw); go_simp; (try with_reducible rfl))
            rotate_left
            simp only [Act.put, List.getElem_toArray, List.getElem_cons_zero, List.getElem_cons_succ, List.setIfInBounds_toArray, List.set_cons_zero, List.set_cons_succ]
            refine wpAnyH_ready (rs := [7]) (by kernel_rfl) (by simp) ?_
            refine AllReadyH.cons rfl (fun K hK => ?_) AllReadyH.nil
            rw [if_pos (by rfl)]
            have fQ := Z9.free
            have yQ := Z9.cell
            go_simp
            clear fQ yQ
            have Z10 : BoxOf _ (w.heap.size + 1) #[.slice A10 (j + 1) c10, .slice none 0 0] 28 := mbox_self Z9 0 (.slice A10 (j + 1) c10)
            have P10 := mbox_else P9 (show w.heap.size ≠ w.heap.size + 1 by omega) 0 (.slice A10 (j + 1) c10)
            have O10 := OwnL.setElse (k := w.heap.size + 1) (OwnL.cast (nulls_step j).symm O9) (by omega) 0 (.slice A10 (j + 1) c10)
            have t10 := Below.setCell (p := ⟨w.heap.size + 1, 0, none⟩) t9 (show w.heap.size ≤ w.heap.size + 1 by omega) (.slice A10 (j + 1) c10)
            refine hK.out _ _ P10 (fun hS' => ?_)
            clear hK K hS hS' Z9 P9 O9 t9
            try simp only [Act.put, List.getElem_toArray, List.getElem_cons_zero, List.getElem_cons_succ, List.setIfInBounds_toArray, List.set_cons_zero, List.set_cons_succ]
            refine wpAnyH_done (by kernel_rfl) ?_ _
            have HN9 : Hid (base ≤ w9.heap.size) := n9
            have LJ := HLJ.out
            clear n9 hb3
            go_wp2
            go_roundw
            case rel => exact ⟨j + 1, _, LJ, by first | exact round_same HWJ | go_num, t10, P10, Z10, O10, (show Hid (base ≤ _) from by show base ≤ _; rw [msize]; exact HN9.out)⟩
            case measure => first | exact round_less HWJ LJ | (have h := LJ; simp [intOf]; omega)
          · rw [if_pos (by rfl)]
            go_simp
            have bb := Ext.alloc (Below.refl v5.heap.size v5) (.cells #[.slice (some ⟨g6, 0, none⟩) 128 128] 29)
            have F7 := one_list (OwnL.lt O5) n5 F6 29
            clear F6
            obtain ⟨g7, hg7⟩ : ∃ z : Nat, z = v5.heap.size := ⟨_, rfl⟩
            rw [← hg7] at F7
            have P9 := P5.next bb
            have Z9 := Z5.next bb
            have O9 := O5.next bb
            have t9 := Ext.trans t5 bb
            have n9 := Nat.le_trans n5 bb.size
            refine hK.out _ _ P9 (fun hS' => ?_)
            clear P5 Z5 O5 t5 n5 hK K hS
            have P5 := P9
            have Z5 := Z9
            have O5 := O9
            have t5 := t9
            have n5 := n9
            have hS := hS'
            clear hS' P9 Z9 O9 t9 n9
            try simp only [Act.put, List.getElem_toArray, List.getElem_cons_zero, List.getElem_cons_succ, List.setIfInBounds_toArray, List.set_cons_zero, List.set_cons_succ]
            clear bb
            rw [← hg7]
            clear hg7
            generalize v5.alloc (.cells #[.slice (some ⟨g6, 0, none⟩) 128 128] 29) = v7 at *
            refine wpAnyH_ready (rs := [1, 4]) (by kernel_rfl) (by simp) ?_
            refine AllReadyH.cons rfl (fun K hK => ?_) (AllReadyH.cons rfl (fun K hK => ?_) AllReadyH.nil)
            · rw [if_pos (by rfl)]
              have yQ := Z5.cell
              go_simp
              refine hK.out _ _ P5 (fun hS' => ?_)
              clear yQ hK K hS
              have hS := hS'
              clear hS'
              try simp only [Act.put, List.getElem_toArray, List.getElem_cons_zero, List.getElem_cons_succ, List.setIfInBounds_toArray, List.set_cons_zero, List.set_cons_succ]
              refine wpAnyH_ready (rs := [4]) (by kernel_rfl) (by simp) ?_
              refine AllReadyH.cons rfl (fun K hK => ?_) AllReadyH.nil
              rw [if_pos (by rfl)]
              go_simp
              have bb := Ext.alloc (Below.refl v7.heap.size v7) (.cells #[.slice (some ⟨g7, 0, none⟩) 1 1] 30)
              have rd8 := rd_row v7 #[.slice (some ⟨g7, 0, none⟩) 1 1] 30
              have F8 := (F7.below bb).mono (fun b hb => Fresh.next hb bb)
              clear F7
              obtain ⟨g8, hg8⟩ : ∃ z : Nat, z = v7.heap.size := ⟨_, rfl⟩
              rw [← hg8] at rd8
              have P9 := P5.next bb
              have Z9 := Z5.next bb
              have O9 := O5.next bb
              have t9 := Ext.trans t5 bb
              have n9 := Nat.le_trans n5 bb.size
              refine hK.out _ _ P9 (fun hS' => ?_)
              clear P5 Z5 O5 t5 n5 hK K hS
              have P5 := P9
              have Z5 := Z9
              have O5 := O9
              have t5 := t9
              have n5 := n9
              have hS := hS'
              clear hS' P9 Z9 O9 t9 n9
              try simp only [Act.put, List.getElem_toArray, List.getElem_cons_zero, List.getElem_cons_succ, List.setIfInBounds_toArray, List.set_cons_zero, List.set_cons_succ]
              clear bb
              rw [← hg8]
              clear hg8
              generalize v7.alloc (.cells #[.slice (some ⟨g7, 0, none⟩) 1 1] 30) = v8 at *
              refine wpAnyH_ready (rs := [5]) (by kernel_rfl) (by simp) ?_
              refine AllReadyH.cons rfl (fun K hK => ?_) AllReadyH.nil
              rw [if_pos (by rfl)]
              refine wp_push (.tmp 18) (.tmp 21) 25 rfl base 30 il _ 24 (.sl (.sl .byte)) Try.underlying25 hil hl0 hl1 hl2 rfl (by decide) v (nulls j) rfl O5 (some ⟨g8, 0, none⟩) 1 _ rfl rd8 _ F8 HBY.out.1 HBY.out.2 n5 ?_
              intro u9 w9 O9 gr9 k9
              have hb3 := HBS.out
              have P9 := P5.grown gr9 (fun e => by have := k9 _ e; omega)
              have Z9 := Z5.grown gr9 (fun e => by have := k9 _ e; omega)
              have t9 := Below.grown t5 gr9 t5.size (fun r e => by have := k9 r e; omega)
              have n9 := Nat.le_trans n5 gr9.size
              refine hK.out _ _ P9 (fun hS' => ?_)
              clear P5 Z5 O5 t5 n5 k9 gr9 F8 rd8 hK K hS
              have hS := hS'
              clear hS'
              obtain ⟨A10, c10, e10⟩ := OwnL.slice O9
              have e11 := e10.trans (HTL.out A10 c10)
              clear e10
              subst e11
              try simp only [Act.put, List.getElem_toArray, List.getElem_cons_zero, List.getElem_cons_succ, List.setIfInBounds_toArray, List.set_cons_zero, List.set_cons_succ]
              refine wpAnyH_take (i := 6) (oi := _) (v := ?_) rfl (by kernel_rfl) (by kernel_rfl) (by kernel_rfl) (fun _ _ _ h => h) (Or.inl ⟨by rfl, ?_⟩) hS ?_
              rotate_left
              · (intro w hSw; (try dsimp only at hSw); go_simp; (try with_reducible rfl))
              rotate_left
              simp only [Act.put, List.getElem_toArray, List.getElem_cons_zero, List.getElem_cons_succ, List.setIfInBounds_toArray, List.set_cons_zero, List.set_cons_succ]
              refine wpAnyH_ready (rs := [7]) (by kernel_rfl) (by simp) ?_
              refine AllReadyH.cons rfl (fun K hK => ?_) AllReadyH.nil
              rw [if_pos (by rfl)]
              have fQ := Z9.free
              have yQ := Z9.cell
              go_simp
              clear fQ yQ
              have Z10 : BoxOf _ (w.heap.size + 1) #[.slice A10 (j + 1) c10, .slice none 0 0] 28 := mbox_self Z9 0 (.slice A10 (j + 1) c10)
              have P10 := mbox_else P9 (show w.heap.size ≠ w.heap.size + 1 by omega) 0 (.slice A10 (j + 1) c10)
              have O10 := OwnL.setElse (k := w.heap.size + 1) (OwnL.cast (nulls_step j).symm O9) (by omega) 0 (.slice A10 (j + 1) c10)
              have t10 := Below.setCell (p := ⟨w.heap.size + 1, 0, none⟩) t9 (show w.heap.size ≤ w.heap.size + 1 by omega) (.slice A10 (j + 1) c10)
              refine hK.out _ _ P10 (fun hS' => ?_)
              clear hK K hS hS' Z9 P9 O9 t9
              try simp only [Act.put, List.getElem_toArray, List.getElem_cons_zero, List.getElem_cons_succ, List.setIfInBounds_toArray, List.set_cons_zero, List.set_cons_succ]
              refine wpAnyH_done (by kernel_rfl) ?_ _
              have HN9 : Hid (base ≤ w9.heap.size) := n9
              have LJ := HLJ.out
              clear n9 hb3
              go_wp2
              go_roundw
              case rel => exact ⟨j + 1, _, LJ, by first | exact round_same HWJ | go_num, t10, P10, Z10, O10, (show Hid (base ≤ _) from by show base ≤ _; rw [msize]; exact HN9.out)⟩
              case measure => first | exact round_less HWJ LJ | (have h := LJ; simp [intOf]; omega)
            · rw [if_pos (by rfl)]
              go_simp
              have bb := Ext.alloc (Below.refl v7.heap.size v7) (.cells #[.slice (some ⟨g7, 0, none⟩) 1 1] 30)
              have rd8 := rd_row v7 #[.slice (some ⟨g7, 0, none⟩) 1 1] 30
              have F8 := (F7.below bb).mono (fun b hb => Fresh.next hb bb)
              clear F7
              obtain ⟨g8, hg8⟩ : ∃ z : Nat, z = v7.heap.size := ⟨_, rfl⟩
              rw [← hg8] at rd8
              have P9 := P5.next bb
              have Z9 := Z5.next bb
              have O9 := O5.next bb
              have t9 := Ext.trans t5 bb
              have n9 := Nat.le_trans n5 bb.size
              refine hK.out _ _ P9 (fun hS' => ?_)
              clear P5 Z5 O5 t5 n5 hK K hS
              have P5 := P9
              have Z5 := Z9
              have O5 := O9
              have t5 := t9
              have n5 := n9
              have hS := hS'
              clear hS' P9 Z9 O9 t9 n9
              try simp only [Act.put, List.getElem_toArray, List.getElem_cons_zero, List.getElem_cons_succ, List.setIfInBounds_toArray, List.set_cons_zero, List.set_cons_succ]
              clear bb
              rw [← hg8]
              clear hg8
              generalize v7.alloc (.cells #[.slice (some ⟨g7, 0, none⟩) 1 1] 30) = v8 at *
              refine wpAnyH_ready (rs := [1]) (by kernel_rfl) (by simp) ?_
              refine AllReadyH.cons rfl (fun K hK => ?_) AllReadyH.nil
              rw [if_pos (by rfl)]
              have yQ := Z5.cell
              go_simp
              refine hK.out _ _ P5 (fun hS' => ?_)
              clear yQ hK K hS
              have hS := hS'
              clear hS'
              try simp only [Act.put, List.getElem_toArray, List.getElem_cons_zero, List.getElem_cons_succ, List.setIfInBounds_toArray, List.set_cons_zero, List.set_cons_succ]
              refine wpAnyH_ready (rs := [5]) (by kernel_rfl) (by simp) ?_
              refine AllReadyH.cons rfl (fun K hK => ?_) AllReadyH.nil
              rw [if_pos (by rfl)]
              refine wp_push (.tmp 18) (.tmp 21) 25 rfl base 30 il _ 24 (.sl (.sl .byte)) Try.underlying25 hil hl0 hl1 hl2 rfl (by decide) v (nulls j) rfl O5 (some ⟨g8, 0, none⟩) 1 _ rfl rd8 _ F8 HBY.out.1 HBY.out.2 n5 ?_
              intro u9 w9 O9 gr9 k9
              have hb3 := HBS.out
              have P9 := P5.grown gr9 (fun e => by have := k9 _ e; omega)
              have Z9 := Z5.grown gr9 (fun e => by have := k9 _ e; omega)
              have t9 := Below.grown t5 gr9 t5.size (fun r e => by have := k9 r e; omega)
              have n9 := Nat.le_trans n5 gr9.size
              refine hK.out _ _ P9 (fun hS' => ?_)
              clear P5 Z5 O5 t5 n5 k9 gr9 F8 rd8 hK K hS
              have hS := hS'
              clear hS'
              obtain ⟨A10, c10, e10⟩ := OwnL.slice O9
              have e11 := e10.trans (HTL.out A10 c10)
              clear e10
              subst e11
              try simp only [Act.put, List.getElem_toArray, List.getElem_cons_zero, List.getElem_cons_succ, List.setIfInBounds_toArray, List.set_cons_zero, List.set_cons_succ]
              refine wpAnyH_take (i := 6) (oi := _) (v := ?_) rfl (by kernel_rfl) (by kernel_rfl) (by kernel_rfl) (fun _ _ _ h => h) (Or.inl ⟨by rfl, ?_⟩) hS ?_
              rotate_left
              · (intro w hSw; (try dsimp only at hSw); go_simp; (try with_reducible rfl))
              rotate_left
              simp only [Act.put, List.getElem_toArray, List.getElem_cons_zero, List.getElem_cons_succ, List.setIfInBounds_toArray, List.set_cons_zero, List.set_cons_succ]
              refine wpAnyH_ready (rs := [7]) (by kernel_rfl) (by simp) ?_
              refine AllReadyH.cons rfl (fun K hK => ?_) AllReadyH.nil
              rw [if_pos (by rfl)]
              have fQ := Z9.free
              have yQ := Z9.cell
              go_simp
              clear fQ yQ
              have Z10 : BoxOf _ (w.heap.size + 1) #[.slice A10 (j + 1) c10, .slice none 0 0] 28 := mbox_self Z9 0 (.slice A10 (j + 1) c10)
              have P10 := mbox_else P9 (show w.heap.size ≠ w.heap.size + 1 by omega) 0 (.slice A10 (j + 1) c10)
              have O10 := OwnL.setElse (k := w.heap.size + 1) (OwnL.cast (nulls_step j).symm O9) (by omega) 0 (.slice A10 (j + 1) c10)
              have t10 := Below.setCell (p := ⟨w.heap.size + 1, 0, none⟩) t9 (show w.heap.size ≤ w.heap.size + 1 by omega) (.slice A10 (j + 1) c10)
              refine hK.out _ _ P10 (fun hS' => ?_)
              clear hK K hS hS' Z9 P9 O9 t9
              try simp only [Act.put, List.getElem_toArray, List.getElem_cons_zero, List.getElem_cons_succ, List.setIfInBounds_toArray, List.set_cons_zero, List.set_cons_succ]
              refine wpAnyH_done (by kernel_rfl) ?_ _
              have HN9 : Hid (base ≤ w9.heap.size) := n9
              have LJ := HLJ.out
              clear n9 hb3
              go_wp2
              go_roundw
              case rel => exact ⟨j + 1, _, LJ, by first | exact round_same HWJ | go_num, t10, P10, Z10, O10, (show Hid (base ≤ _) from by show base ≤ _; rw [msize]; exact HN9.out)⟩
              case measure => first | exact round_less HWJ LJ | (have h := LJ; simp [intOf]; omega)
      · have hje : j = N := by omega
        obtain ⟨Ag, cg, rfl⟩ := OwnL.slice O4
        have Rg := OwnL.rdin O4 (show (nulls j).length * 24 ≤ 140737488355328 by rw [nulls_len]; omega)
        have HRG := Lib.hid Rg
        have HJE := Lib.hid hje
        have hb3 := HBS.out
        clear Rg O4 hje
        have z3 := Z4.cell
        have f3 := Z4.free
        go_wp2
        have B5 : BoxOf _ (w.heap.size + 1) #[.slice Ag (nulls j).length cg, .slice none 0 0] 28 := mbox_self (mbox_self Z4 0 (.slice Ag (nulls j).length cg)) 1 (.slice none 0 0)
        have T5 := Below.setCell (p := ⟨w.heap.size + 1, 1, none⟩) (Below.setCell (p := ⟨w.heap.size + 1, 0, none⟩) t3 (show w.heap.size ≤ w.heap.size + 1 by omega) (.slice Ag (nulls j).length cg)) (show w.heap.size ≤ w.heap.size + 1 by omega) (.slice none 0 0)
        have R5 := (HRG.out.setElse (k := w.heap.size + 1) (fun b hb => by have := hb.1; omega) 0 (.slice Ag (nulls j).length cg)).setElse (k := w.heap.size + 1) (fun b hb => by have := hb.1; omega) 1 (.slice none 0 0)
        have R6 := R5.mono (S' := NewB w.heap.size ((wr.setCell ⟨w.heap.size + 1, 0, none⟩ (.slice Ag (nulls j).length cg)).setCell ⟨w.heap.size + 1, 1, none⟩ (.slice none 0 0))) (fun b hb => ⟨by have := hb.1; omega, by simp only [msize]; exact hb.2.1, (hb.2.2.set _ _).set _ _⟩)
        exact bodyPost_ret (v := .tuple #[.agg #[.slice Ag (nulls j).length cg, .slice none 0 0], .int .i64 0]) (Eq.trans (results_row2 (P := Try.prog) (fn := Try.f29) (p := 2) (u := 3) (ty := 28) rfl _ _ (w.heap.size + 1) 28 #[.slice Ag (nulls j).length cg, .slice none 0 0] (0, 0) _ rfl B5 Try.underlying28 rfl (by kernel_rfl)) rfl) rfl ⟨⟨0, nulls j, Ag, cg, rfl, .inr ⟨HX.out, rfl, by rw [HNN.out, HJE.out]⟩, R6⟩, T5⟩
  · have HB := Lib.hid (blocks_bad x hx)
    have HX := Lib.hid hx
    clear hx
    obtain ⟨id, m, c, r, l, h⟩ := x
    unfold Cfg.val at *
    dsimp only at *
    have C0 := BoxOf.alloc (BoxOf.new w #[.int .u32 (id : Int), .int .i64 m, .int .i64 c, .int .i64 r, .int .i64 l, .int .i64 h] 24) (.cells #[.slice none 0 0, .slice none 0 0] 28)
    have Z0 := BoxOf.new' (w.alloc (.cells #[.int .u32 (id : Int), .int .i64 m, .int .i64 c, .int .i64 r, .int .i64 l, .int .i64 h] 24)) (w.heap.size + 1) #[.slice none 0 0, .slice none 0 0] 28 (by simp)
    have t0 := Ext.alloc (Ext.alloc (Below.refl w.heap.size w) (.cells #[.int .u32 (id : Int), .int .i64 m, .int .i64 c, .int .i64 r, .int .i64 l, .int .i64 h] 24)) (.cells #[.slice none 0 0, .slice none 0 0] 28)
    go_enter Try.func29, Try.ntmps29
    go_upto_region 1 with fail
    generalize (w.alloc (.cells #[.int .u32 (id : Int), .int .i64 m, .int .i64 c, .int .i64 r, .int .i64 l, .int .i64 h] 24)).alloc (.cells #[.slice none 0 0, .slice none 0 0] 28) = W at *
    have x0 := C0.cell
    go_wp2_with fail
    refine (HB.out _).mono ?_
    rintro e w1 ⟨rfl, b1⟩
    have Z1 := Z0.next b1
    have t1 := Ext.trans t0 b1
    have f1 := Z1.free
    have z1 := Z1.cell
    clear x0 C0 Z0 t0 b1
    go_wp2
    have B5 : BoxOf _ (w.heap.size + 1) #[.slice none 0 0, .slice none 0 0] 28 := mbox_self (mbox_self Z1 0 (.slice none 0 0)) 1 (.slice none 0 0)
    have T5 := Below.setCell (p := ⟨w.heap.size + 1, 1, none⟩) (Below.setCell (p := ⟨w.heap.size + 1, 0, none⟩) t1 (show w.heap.size ≤ w.heap.size + 1 by omega) (.slice none 0 0)) (show w.heap.size ≤ w.heap.size + 1 by omega) (.slice none 0 0)
    exact bodyPost_ret (v := .tuple #[.agg #[.slice none 0 0, .slice none 0 0], .int .i64 8]) (Eq.trans (results_row2 (P := Try.prog) (fn := Try.f29) (p := 2) (u := 3) (ty := 28) rfl _ _ (w.heap.size + 1) 28 #[.slice none 0 0, .slice none 0 0] (0, 0) _ rfl B5 Try.underlying28 rfl (by kernel_rfl)) rfl) rfl ⟨⟨8, [], none, 0, rfl, .inl ⟨HX.out, rfl, rfl⟩, rdin_nil3 _ _⟩, T5⟩
end Go.Proofs.Ytclbihcggjjgaaa
