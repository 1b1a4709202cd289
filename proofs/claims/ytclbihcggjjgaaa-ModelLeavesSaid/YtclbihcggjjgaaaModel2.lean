/- Layer 30 (model): the reference's Twin: the blocks' values in new memory. -/
import Derived.Test.YtclbihcggjjgaaaModel
namespace Go.Proofs.Ytclbihcggjjgaaa
open Go Go.RowKit
set_option linter.unusedSimpArgs false
set_option linter.unusedVariables false

theorem rd_buildOne (w : World) (v : Value) (t : TypeId) : Rd (w.alloc (.cells #[v] t)) (some ⟨w.heap.size, 0, none⟩) [v] := rd_one w v t
theorem view3 {w : World} {S : Nat → Prop} {ys : List (List (List UInt8))} {v : Value} (h : RdIn w S (.sl (.sl (.sl .byte))) ys [v]) : ∃ A c, v = .slice A ys.length c ∧ ys.length ≤ maxLen ∧ ys.length * 24 ≤ 140737488355328 ∧ (0 < ys.length → ∃ b off, A = some ⟨b, off, none⟩ ∧ S b ∧ ∀ i (hi : i < ys.length), ∃ A' c', w.cell? ⟨b, off + i, none⟩ = some (.slice A' ys[i].length c') ∧ RdIn w S (.sl (.sl .byte)) ys[i] [.slice A' ys[i].length c']) := by
  obtain ⟨A, c, h1, h2, h3, h4, h5⟩ := lists_view h
  exact ⟨A, c, h1, Nat.le_trans h2 h3, h4, h5⟩
theorem view2 {w : World} {S : Nat → Prop} {ys : List (List UInt8)} {v : Value} (h : RdIn w S (.sl (.sl .byte)) ys [v]) : ∃ A c, v = .slice A ys.length c ∧ ys.length ≤ maxLen ∧ ys.length * 24 ≤ 140737488355328 ∧ (0 < ys.length → ∃ b off, A = some ⟨b, off, none⟩ ∧ S b ∧ ∀ i (hi : i < ys.length), ∃ A' c', w.cell? ⟨b, off + i, none⟩ = some (.slice A' ys[i].length c') ∧ RdIn w S (.sl .byte) ys[i] [.slice A' ys[i].length c']) := by
  obtain ⟨A, c, h1, h2, h3, h4, h5⟩ := lists_view h
  exact ⟨A, c, h1, Nat.le_trans h2 h3, h4, h5⟩
theorem viewG {w : World} {S : Nat → Prop} {gs : List GoTy.T} {v : Value} (h : RdIn w S (.sl GoTy) gs [v]) : ∃ A c, v = .slice A gs.length c ∧ gs.length ≤ maxLen ∧ gs.length * 80 ≤ 140737488355328 ∧ (0 < gs.length → ∃ b off, A = some ⟨b, off, none⟩ ∧ S b ∧ ∀ i (hi : i < gs.length), ∃ es : List Value, (∀ j, j < 6 → w.cell? ⟨b, off + i * 6 + j, none⟩ = es[j]?) ∧ RdIn w S GoTy gs[i] es) := by
  obtain ⟨A, c, h1, h2, h3, h4, h5⟩ := list_view h
  exact ⟨A, c, h1, Nat.le_trans h2 h3, h4, h5⟩
theorem intsV {w : World} {S : Nat → Prop} {ms : List Int} {v : Value} (h : RdIn w S (.sl .int) ms [v]) : ∃ A c, v = .slice A ms.length c := by
  obtain ⟨A, c, h1, _⟩ := rdin_sl.1 h
  exact ⟨A, c, (List.cons.inj h1).1⟩
theorem rd_row (w : World) (C : Array Value) (t : TypeId) : Rd (w.alloc (.cells C t)) (some ⟨w.heap.size, 0, none⟩) C.toList := .inr ⟨w.heap.size, 0, rfl, fun o ho => by
  rw [Nat.zero_add, World.cell?_alloc_mark]
  simp⟩
theorem RdIn.grownBy {w w' : World} {S : Nat → Prop} {t : Ty} {x : t.T} {cs : List Value} {row : Option Nat} (h : RdIn w S t x cs) (hg : w.grownBy w' row) (hS : ∀ b, S b → row ≠ some b) : RdIn w' S t x cs :=
  h.keep (fun p v hs hv => ⟨hg.cell hv (fun e => hS _ hs e.symm), hs⟩) (fun _ h => h)
theorem round_same {j : Nat} (h : Hid (wrap64 ((j : Int) + 1) = ((j + 1 : Nat) : Int))) : Value.int .i64 (wrap64 ((j : Int) + 1)) = .int .i64 ((j + 1 : Nat) : Int) := congrArg (Value.int .i64) h
theorem round_less {n j : Nat} (h : Hid (wrap64 ((j : Int) + 1) = ((j + 1 : Nat) : Int))) (hl : j < n) : n - (intOf (.int .i64 (wrap64 ((j : Int) + 1)))).toNat < n - (intOf (.int .i64 (j : Int))).toNat := by
  have e : intOf (.int .i64 (wrap64 ((j : Int) + 1))) = ((j + 1 : Nat) : Int) := (congrArg (fun z => intOf (Value.int .i64 z)) h).trans rfl
  rw [e]
  show n - (((j + 1 : Nat) : Int)).toNat < n - ((j : Int)).toNat
  omega
theorem own_apart {w0 w : World} {base : Nat} {v : Value} {t : Ty} {x : t.T} {cs : List Value} (h : RdIn w (NewB w0.heap.size w) t x cs) (hv : ∀ r, v.ownBlock = some r → r < w0.heap.size) (hb : base ≤ w0.heap.size) : RdIn w (Fresh w base v) t x cs :=
  h.mono fun b hb' => ⟨by have := hb'.1; omega, hb'.2.1, fun e => by have := hv b e; have := hb'.1; omega, hb'.2.2⟩
theorem own_apart2 {w0 w : World} {base : Nat} {v : Value} {t : Ty} {x : t.T} {cs : List Value} (h : RdIn w (NewB w0.heap.size w) t x cs) (hv : ∀ r, v.ownBlock = some r → r < w0.heap.size) (hb : base ≤ w0.heap.size) (o : Obj) : RdIn (w.alloc o) (Fresh (w.alloc o) base v) t x cs :=
  ((own_apart h hv hb).below (Ext.alloc (Below.refl w.heap.size w) o)).mono fun b hb => Fresh.next hb (Ext.alloc (Below.refl w.heap.size w) o)
theorem OwnL.cast {w : World} {base : Nat} {tid : TypeId} {e : Ty} {v : Value} {xs ys : List e.T} (he : xs = ys) (h : OwnL w base tid e v xs) : OwnL w base tid e v ys := he ▸ h
theorem OwnL.lt {w : World} {base : Nat} {tid : TypeId} {e : Ty} {v : Value} {xs : List e.T} (h : OwnL w base tid e v xs) : ∀ r, v.ownBlock = some r → r < w.heap.size := by
  obtain ⟨_, _, _, ho⟩ := h
  exact fun r hr => own_lt ho hr

set_option maxRecDepth 100000 in
set_option maxHeartbeats 4000000 in
theorem rtwin_any (S : Nat → Prop) (ys : List (List (List UInt8))) (gs : List GoTy.T) (A : Option Addr) (c : Nat) (B : Option Addr) (d : Nat) (w : World) (hy : RdIn w S (.sl (.sl (.sl .byte))) ys [.slice A ys.length c]) (hg : RdIn w S (.sl GoTy) gs [.slice B gs.length d]) :
    Calls Try.prog 10 #[.agg #[.slice A ys.length c, .slice B gs.length d]] w fun e w' => ∃ A' c' B' d', e = .returned (.agg #[.slice A' ys.length c', .slice B' gs.length d']) ∧ RdIn w' (fun b => w.heap.size ≤ b ∧ b < w'.heap.size) (.sl (.sl (.sl .byte))) ys [.slice A' ys.length c'] ∧ RdIn w' (fun b => w.heap.size ≤ b ∧ b < w'.heap.size) (.sl GoTy) gs [.slice B' gs.length d'] ∧ Below w.heap.size w w' := by
  obtain ⟨iu, hu, hu0, hu1, hu2⟩ := minfo_u8
  obtain ⟨ib, hib, hb0, hb1, hb2⟩ := minfo_bytes
  obtain ⟨il, hil, hl0, hl1, hl2⟩ := minfo_lists
  obtain ⟨ii, hii, hi0, hi1, hi2⟩ := minfo_int
  obtain ⟨ig, hig, hg0, hg1, hg2⟩ := minfo_going
  have P0 := BoxOf.alloc (BoxOf.alloc (BoxOf.new w #[.slice A ys.length c, .slice B gs.length d] 28) (.cells #[.slice none 0 0, .slice none 0 0] 28)) (.cells #[.slice none 0 0, .slice none 0 0] 28)
  have Z0 := BoxOf.alloc (BoxOf.new' (w.alloc (.cells #[.slice A ys.length c, .slice B gs.length d] 28)) (w.heap.size + 1) #[.slice none 0 0, .slice none 0 0] 28 (by simp)) (.cells #[.slice none 0 0, .slice none 0 0] 28)
  have Q0 := BoxOf.new' ((w.alloc (.cells #[.slice A ys.length c, .slice B gs.length d] 28)).alloc (.cells #[.slice none 0 0, .slice none 0 0] 28)) (w.heap.size + 2) #[.slice none 0 0, .slice none 0 0] 28 (by simp)
  have t0 := Ext.alloc (Ext.alloc (Ext.alloc (Below.refl w.heap.size w) (.cells #[.slice A ys.length c, .slice B gs.length d] 28)) (.cells #[.slice none 0 0, .slice none 0 0] 28)) (.cells #[.slice none 0 0, .slice none 0 0] 28)
  have HY := Lib.hid hy
  have HG := Lib.hid hg
  have hyn : ys.length ≤ maxLen ∧ ys.length * 24 ≤ 140737488355328 := by
    obtain ⟨_, _, _, h1, h2, _⟩ := view3 hy
    exact ⟨h1, h2⟩
  obtain ⟨hym, hyz⟩ := hyn
  clear hy hg
  go_enter Try.func10, Try.ntmps10
  go_upto_region 2 with fail
  generalize ((w.alloc (.cells #[.slice A ys.length c, .slice B gs.length d] 28)).alloc (.cells #[.slice none 0 0, .slice none 0 0] 28)).alloc (.cells #[.slice none 0 0, .slice none 0 0] 28) = W at *
  go_wp2
  go_loopw [4] (fun i wr => ∃ (k : Nat) (v : Value), k ≤ ys.length ∧ i = .int .i64 k ∧ Below w.heap.size w wr ∧ BoxOf wr w.heap.size #[.slice A ys.length c, .slice B gs.length d] 28 ∧ BoxOf wr (w.heap.size + 1) #[.slice none 0 0, .slice none 0 0] 28 ∧ BoxOf wr (w.heap.size + 2) #[v, .slice none 0 0] 28 ∧ OwnL wr (w.heap.size + 3) 30 (.sl (.sl .byte)) v (ys.take k)) (fun i _ => ys.length - (intOf i).toNat)
  case atStart => exact ⟨0, .slice none 0 0, by omega, rfl, t0, P0, Z0, Q0, OwnL.nil _ _ _ _⟩
  case round =>
    obtain ⟨k, v, hk, rfl, t1, P1, Z1, Q1, O1⟩ := hrel
    clear t0 P0 Z0 Q0
    have x1 := P1.cell
    by_cases hlt : k < ys.length
    · obtain ⟨A1, c1, e1, _, _, hr1⟩ := view3 (HY.out.below t1)
      injection e1 with e11 e12 e13
      subst e11 e13
      obtain ⟨b, off, rfl, hS, hrow⟩ := hr1 (by omega)
      obtain ⟨A2, c2, q2, r2⟩ := hrow k hlt
      have hstep : ys.take (k + 1) = ys.take k ++ [ys[k]] := List.take_succ_eq_append_getElem hlt
      generalize ys[k] = zs at *
      clear hr1 hrow
      have hlz : zs.length ≤ maxLen ∧ zs.length * 24 ≤ 140737488355328 := by
        obtain ⟨_, _, _, h1, h2, _⟩ := view2 r2
        exact ⟨h1, h2⟩
      obtain ⟨hzm, hzz⟩ := hlz
      have HR2 := Lib.hid r2
      have l1 := P1.lt
      have l3 := Q1.lt
      obtain ⟨w0, hw0⟩ : ∃ z : World, z = wr := ⟨_, rfl⟩
      rw [← hw0] at P1 Z1 Q1 O1 t1 q2 HR2 l1 l3
      have HV := Lib.hid (OwnL.lt O1)
      have bw0 : Below w0.heap.size w0 wr := by rw [hw0]; exact Below.refl _ _
      clear r2
      go_wp2
      go_loopw [5, 6] (fun u i wq => ∃ (j : Nat), j ≤ zs.length ∧ i = .int .i64 j ∧ Below w0.heap.size w0 wq ∧ OwnL wq w0.heap.size 29 (.sl .byte) u (zs.take j)) (fun _ i _ => zs.length - (intOf i).toNat)
      case atStart => exact ⟨0, by omega, rfl, bw0, OwnL.nil _ _ _ _⟩
      case round =>
        obtain ⟨j, hj, rfl, bq, Oq⟩ := hrel
        clear x1 hw0 bw0
        have Pq := P1.next bq
        have xq := Pq.cell
        have q2' := (bq.cell (p := ⟨b, off + k, none⟩) (block_lt_of_cell q2)).trans q2
        by_cases hltj : j < zs.length
        · obtain ⟨A2', c2', e2, _, _, hr2⟩ := view2 (HR2.out.below bq)
          injection e2 with e21 e22 e23
          subst e21 e23
          obtain ⟨b2, off2, rfl, hS2, hrow2⟩ := hr2 (by omega)
          obtain ⟨A3, c3, q3, r3⟩ := hrow2 j hltj
          have hstepj : zs.take (j + 1) = zs.take j ++ [zs[j]] := List.take_succ_eq_append_getElem hltj
          have hjl : (zs.take j).length = j := by simp; omega
          have h63 : (zs.take j).length + 1 ≤ maxLen := by rw [hjl]; omega
          have hby : ((zs.take j).length + 1) * 24 ≤ 140737488355328 := by rw [hjl]; omega
          have HWJ : Hid (wrap64 ((j : Int) + 1) = ((j + 1 : Nat) : Int)) := by show _ = _; rw [IntWalk.wrap64_in _ (by unfold maxLen at h63; omega)]; omega
          have HSTJ := Lib.hid hstepj
          have HLTJ := Lib.hid hltj
          generalize zs[j] = bs at *
          have HBY := Lib.hid (And.intro h63 hby)
          have HOL := Lib.hid (OwnL.lt Oq)
          have hsz0 := bq.size
          have HSZ := Lib.hid hsz0
          clear hr2 hrow2 hjl hstepj h63 hby hj hk hym hyz hzm hzz l1 l3 hsz0
          go_wp2_with (first
            | (at_builtin; refine wpList_copyL rfl (.const (.slice none 0 0)) (.tmp 34) 29 rfl 5 iu _ .byte rfl Try.underlying29 hu hu0 hu1 hu2 rfl rfl S bs A3 bs.length c3 rfl r3 ?_; intro v4 w4 r4 b4; obtain ⟨A4, c4, rfl, _⟩ := r4.bytes; have a4 := Ext.alloc (Below.refl w4.heap.size w4) (.cells #[.slice A4 bs.length c4] 29); have f4 := own_apart2 r4 HOL.out HSZ.out (.cells #[.slice A4 bs.length c4] 29); have O5 := (Oq.next b4).next a4; have t5 := Ext.trans (Ext.trans bq b4) a4; have z5 := Nat.le_trans HSZ.out (Nat.le_trans b4.size a4.size); have rd5 := rd_one w4 (.slice A4 bs.length c4) 29)
            | (at_builtin; refine wpList_push rfl (.tmp 26) (.tmp 36) 30 rfl w0.heap.size 29 ib _ 24 (.sl .byte) Try.underlying30 hib hb0 hb1 hb2 rfl (by decide) _ (zs.take j) rfl O5 _ 1 _ rfl rd5 bs f4 HBY.out.1 HBY.out.2 z5 ?_; intro v6 w6 O6 g6 k6; have t6 := Below.grown t5 g6 t5.size k6; clear O5 t5 rd5 f4 z5 a4))
          go_roundw
          case rel => exact ⟨j + 1, HLTJ.out, by go_num, t6, OwnL.cast HSTJ.out.symm O6⟩
          case measure => have := HLTJ.out; simp [intOf]; omega
        · have hjl : j = zs.length := by omega
          have Oq' := OwnL.cast (e := .sl .byte) (ys := zs) (show zs.take j = zs by rw [hjl]; exact List.take_length) Oq
          obtain ⟨A5, c5, rfl⟩ := OwnL.slice Oq'
          have r5 := OwnL.rdin Oq' (by exact hzz)
          have a5 := Ext.alloc (Below.refl wr.heap.size wr) (.cells #[.slice A5 zs.length c5] 30)
          have f5 := own_apart2 r5 HV.out (show w.heap.size + 3 ≤ w0.heap.size by omega) (.cells #[.slice A5 zs.length c5] 30)
          have O5 := (O1.next bq).next a5
          have rd5 := rd_one wr (.slice A5 zs.length c5) 30
          have P5 := Pq.next a5
          have Z5 := (Z1.next bq).next a5
          have Q5 := (Q1.next bq).next a5
          have yq := (Q1.next bq).cell
          have t5 := Ext.trans (Ext.trans t1 bq) a5
          have z5 : w.heap.size + 3 ≤ (wr.alloc (.cells #[.slice A5 zs.length c5] 30)).heap.size := by have := bq.size; simp; omega
          have hkl : (ys.take k).length = k := by simp; omega
          have hby : (ys.take k).length + 1 ≤ maxLen ∧ ((ys.take k).length + 1) * 24 ≤ 140737488355328 := by rw [hkl]; omega
          have HBY := Lib.hid hby
          have HZ5 := Lib.hid z5
          have HST := Lib.hid hstep
          have HLT := Lib.hid hlt
          have HTL : Hid (∀ (A : Option Addr) (c : Nat), Value.slice A (ys.take k ++ [zs]).length c = .slice A (k + 1) c) := fun A c => by rw [List.length_append, hkl]; rfl
          clear hby z5 hkl hstep hjl hj hk hym hyz hzm hzz l1 l3 Oq Oq' r5 a5 O1 Q1 Z1 P1 t1 Pq HR2
          go_wp2_with (at_builtin; refine wpList_push rfl (.tmp 39) (.tmp 41) 25 rfl (w.heap.size + 3) 30 il _ 24 (.sl (.sl .byte)) Try.underlying25 hil hl0 hl1 hl2 rfl (by decide) _ (ys.take k) rfl O5 _ 1 _ rfl rd5 zs f5 HBY.out.1 HBY.out.2 HZ5.out ?_; intro v6 w6 O6 g6 k6; have P6 := P5.grown g6 (fun e => by have := k6 _ e; omega); have Z6 := Z5.grown g6 (fun e => by have := k6 _ e; omega); have Q6 := Q5.grown g6 (fun e => by have := k6 _ e; omega); have t6 := Below.grown t5 g6 t5.size (fun r e => by have := k6 r e; omega); obtain ⟨A6, c6, e6⟩ := OwnL.slice O6; have e7 := e6.trans (HTL.out A6 c6); clear e6; subst e7; have x6 := P6.cell; have y6 := Q6.cell; have f6 := Q6.free; clear O5 t5 rd5 f5 P5 Z5 Q5 k6 g6 yq)
          go_roundw
          case rel => exact ⟨k + 1, _, HLT.out, by go_num, Below.setCell (p := ⟨w.heap.size + 2, 0, none⟩) t6 (by show w.heap.size ≤ w.heap.size + 2; omega) _, mbox_else P6 (by omega) _ _, mbox_else Z6 (by omega) _ _, mbox_self Q6 0 _, OwnL.setElse (k := w.heap.size + 1 + 1) (OwnL.cast HST.out.symm O6) (show w.heap.size + 1 + 1 < w.heap.size + 3 by omega) _ _⟩
          case measure => have := HLT.out; simp [intOf]; omega
    · have hkl : k = ys.length := by omega
      have Oy := OwnL.cast (e := .sl (.sl .byte)) (ys := ys) (show ys.take k = ys by rw [hkl]; exact List.take_length) O1
      obtain ⟨Ay, cy, rfl⟩ := OwnL.slice Oy
      have HYZ := Lib.hid hyz
      have HKL := Lib.hid hkl
      clear O1 hkl hyz hym hk
      have HNLT := Lib.hid hlt
      have hle : ¬ (k : Int) < (ys.length : Int) := by omega
      clear hlt
      obtain ⟨wo, rfl⟩ : ∃ z : World, z = wr := ⟨_, rfl⟩
      have Ry := (OwnL.rdin Oy (by exact HYZ.out)).mono (S' := fun b => w.heap.size + 3 ≤ b ∧ b < wo.heap.size) fun b hb => ⟨hb.1, hb.2.1⟩
      have HN0 : Hid (w.heap.size + 3 ≤ wo.heap.size) := Q1.lt
      go_wp2
      go_loopw [7] (fun i wq => ∃ (j : Nat) (u : Value), j ≤ gs.length ∧ i = .int .i64 j ∧ Below w.heap.size w wq ∧ BoxOf wq w.heap.size #[.slice A ys.length c, .slice B gs.length d] 28 ∧ BoxOf wq (w.heap.size + 1) #[.slice none 0 0, .slice none 0 0] 28 ∧ BoxOf wq (w.heap.size + 2) #[.slice Ay ys.length cy, u] 28 ∧ RdIn wq (fun b => w.heap.size + 3 ≤ b ∧ b < wo.heap.size) (.sl (.sl (.sl .byte))) ys [.slice Ay ys.length cy] ∧ OwnL wq wo.heap.size 64 GoTy u (gs.take j) ∧ wo.heap.size ≤ wq.heap.size) (fun i _ => gs.length - (intOf i).toNat)
      case atStart => exact ⟨0, .slice none 0 0, by omega, rfl, t1, P1, Z1, Q1, Ry, OwnL.nil _ _ _ _, Nat.le_refl _⟩
      case round =>
        obtain ⟨j, u, hj, rfl, t2, P2, Z2, Q2, R2, O2, hN2⟩ := hrel
        clear t1 P1 Z1 Q1 x1 Ry Oy hle
        have x2 := P2.cell
        by_cases hlt : j < gs.length
        · obtain ⟨A1, c1, e1, hgm, hgz, hr1⟩ := viewG (HG.out.below t2)
          injection e1 with e11 e12 e13
          subst e11 e13
          obtain ⟨b, off, rfl, hS, hrow⟩ := hr1 (by omega)
          obtain ⟨es, q, rg⟩ := hrow j hlt
          obtain ⟨nu, ki, at', many, bs, vd, ms, vm, eg, rfl, i0, i1, i2, Rb, Rm⟩ := going_view rg
          obtain ⟨Ab, cb, rfl, _⟩ := Rb.bytes
          obtain ⟨Am, cm, rfl⟩ := intsV Rm
          have q0 : wr.cell? ⟨b, off + j * 6, none⟩ = some (.int .i64 nu) := q 0 (by decide)
          have q1 : wr.cell? ⟨b, off + j * 6 + 1, none⟩ = some (.int .u8 (ki.toNat : Int)) := q 1 (by decide)
          have q2 : wr.cell? ⟨b, off + j * 6 + 2, none⟩ = some (.int .i64 at') := q 2 (by decide)
          have q3 : wr.cell? ⟨b, off + j * 6 + 3, none⟩ = some (.int .i64 many) := q 3 (by decide)
          have q4 : wr.cell? ⟨b, off + j * 6 + 4, none⟩ = some (.slice Ab bs.length cb) := q 4 (by decide)
          have q5 : wr.cell? ⟨b, off + j * 6 + 5, none⟩ = some (.slice Am ms.length cm) := q 5 (by decide)
          have HST := Lib.hid (show gs.take (j + 1) = gs.take j ++ [gs[j]] from List.take_succ_eq_append_getElem hlt)
          have hjl : (gs.take j).length = j := by simp; omega
          have hby : (gs.take j).length + 1 ≤ maxLen ∧ ((gs.take j).length + 1) * 80 ≤ 140737488355328 := by rw [hjl]; omega
          have HWJ : Hid (wrap64 ((j : Int) + 1) = ((j + 1 : Nat) : Int)) := by show _ = _; rw [IntWalk.wrap64_in _ (by unfold maxLen at hgm; omega)]; omega
          have HBY := Lib.hid hby
          have HTL : Hid (∀ (A : Option Addr) (c : Nat) (g : GoTy.T), Value.slice A (gs.take j ++ [g]).length c = .slice A (j + 1) c) := fun A c g => by rw [List.length_append, hjl]; rfl
          have HLT := Lib.hid hlt
          have IS := Lib.hid (And.intro i0 (And.intro i1 i2))
          rw [eg] at HST
          clear hby hjl hj hgm hgz hr1 hrow q rg eg i0 i1 i2
          go_upto_region 15 with fail
          clear q0 q1 q2 q3 q4 q5 x2
          obtain ⟨g8, hg8⟩ : ∃ z : Nat, z = wr.heap.size := ⟨_, rfl⟩
          have G8 := BoxOf.new' wr g8 #[.int .i64 nu, .int .u8 (ki.toNat : Int), .int .i64 at', .int .i64 many, .slice Ab bs.length cb, .slice Am ms.length cm] 64 hg8
          have bb := Ext.drew (Ext.alloc (Below.refl wr.heap.size wr) (.cells #[.int .i64 nu, .int .u8 (ki.toNat : Int), .int .i64 at', .int .i64 many, .slice Ab bs.length cb, .slice Am ms.length cm] 64))
          have HOG : Hid (∀ r, u.ownBlock = some r → r < g8) := fun r e => by rw [hg8]; exact OwnL.lt O2 r e
          have l8 : w.heap.size + 2 < g8 := by rw [hg8]; exact Q2.lt
          have P3 := P2.next bb
          have Z3 := Z2.next bb
          have Q3 := Q2.next bb
          have R3 := R2.below bb
          have O3 := O2.next bb
          have t3 := Ext.trans t2 bb
          have n3 := Nat.le_trans hN2 bb.size
          have Rb' := Rb.below bb
          have Rm' := Rm.below bb
          rw [← hg8]
          clear P2 Z2 Q2 R2 O2 t2 hN2 bb hg8 Rb Rm
          have Rb := Rb'
          have Rm := Rm'
          clear Rb' Rm'
          generalize wr.alloc (.cells #[.int .i64 nu, .int .u8 (ki.toNat : Int), .int .i64 at', .int .i64 many, .slice Ab bs.length cb, .slice Am ms.length cm] 64) = W8 at *
          refine wp_region_held_drew (S := fun w' => BoxOf w' g8 #[.int .i64 nu, .int .u8 (ki.toNat : Int), .int .i64 at', .int .i64 many, .slice Ab bs.length cb, .slice Am ms.length cm] 64 ∧ ∀ o, w'.cell? ⟨g8, o, none⟩ = (#[.int .i64 nu, .int .u8 (ki.toNat : Int), .int .i64 at', .int .i64 many, .slice Ab bs.length cb, .slice Am ms.length cm] : Array Value).toList[o]?) (by kernel_rfl) ⟨G8.drew, G8.drew.cell⟩ (fun hS => ?_)
          clear G8
          generalize W8.drew = v at *
          refine wpAnyH_take (i := 0) (oi := _) (v := ?_) rfl (by kernel_rfl) (by kernel_rfl) (by kernel_rfl) (fun _ _ _ h => h) (Or.inl ⟨by rfl, ?_⟩) hS ?_
          rotate_left
          · (intro w hSw; (try dsimp only at hSw); go_simp; (try with_reducible rfl))
          rotate_left
          simp only [Act.put, List.getElem_toArray, List.getElem_cons_zero, List.getElem_cons_succ, List.setIfInBounds_toArray, List.set_cons_zero, List.set_cons_succ]
          refine wpAnyH_take (i := 2) (oi := _) (v := ?_) rfl (by kernel_rfl) (by kernel_rfl) (by kernel_rfl) (fun _ _ _ h => h) (Or.inl ⟨by rfl, ?_⟩) hS ?_
          rotate_left
          · (intro w hSw; (try dsimp only at hSw); go_simp; (try with_reducible rfl))
          rotate_left
          simp only [Act.put, List.getElem_toArray, List.getElem_cons_zero, List.getElem_cons_succ, List.setIfInBounds_toArray, List.set_cons_zero, List.set_cons_succ]
          refine wpAnyH_take (i := 3) (oi := _) (v := ?_) rfl (by kernel_rfl) (by kernel_rfl) (by kernel_rfl) (fun _ _ _ h => h) (Or.inl ⟨by rfl, ?_⟩) hS ?_
          rotate_left
          · (intro w hSw; (try dsimp only at hSw); go_simp; (try with_reducible rfl))
          rotate_left
          simp only [Act.put, List.getElem_toArray, List.getElem_cons_zero, List.getElem_cons_succ, List.setIfInBounds_toArray, List.set_cons_zero, List.set_cons_succ]
          refine wpAnyH_take (i := 4) (oi := _) (v := ?_) rfl (by kernel_rfl) (by kernel_rfl) (by kernel_rfl) (fun _ _ _ h => h) (Or.inl ⟨by rfl, ?_⟩) hS ?_
          rotate_left
          · (intro w hSw; (try dsimp only at hSw); go_simp; (try with_reducible rfl))
          rotate_left
          simp only [Act.put, List.getElem_toArray, List.getElem_cons_zero, List.getElem_cons_succ, List.setIfInBounds_toArray, List.set_cons_zero, List.set_cons_succ]
          refine wpAnyH_take (i := 5) (oi := _) (v := ?_) rfl (by kernel_rfl) (by kernel_rfl) (by kernel_rfl) (fun _ _ _ h => h) (Or.inl ⟨by rfl, ?_⟩) hS ?_
          rotate_left
          · (intro w hSw; (try dsimp only at hSw); go_simp; (try with_reducible rfl))
          rotate_left
          simp only [Act.put, List.getElem_toArray, List.getElem_cons_zero, List.getElem_cons_succ, List.setIfInBounds_toArray, List.set_cons_zero, List.set_cons_succ]
          refine wpAnyH_take (i := 7) (oi := _) (v := ?_) rfl (by kernel_rfl) (by kernel_rfl) (by kernel_rfl) (fun _ _ _ h => h) (Or.inl ⟨by rfl, ?_⟩) hS ?_
          rotate_left
          · (intro w hSw; (try dsimp only at hSw); go_simp; (try with_reducible rfl))
          rotate_left
          simp only [Act.put, List.getElem_toArray, List.getElem_cons_zero, List.getElem_cons_succ, List.setIfInBounds_toArray, List.set_cons_zero, List.set_cons_succ]
          refine wpAnyH_take (i := 8) (oi := _) (v := ?_) rfl (by kernel_rfl) (by kernel_rfl) (by kernel_rfl) (fun _ _ _ h => h) (Or.inl ⟨by rfl, ?_⟩) hS ?_
          rotate_left
          · (intro w hSw; (try dsimp only at hSw); go_simp; (try with_reducible rfl))
          rotate_left
          simp only [Act.put, List.getElem_toArray, List.getElem_cons_zero, List.getElem_cons_succ, List.setIfInBounds_toArray, List.set_cons_zero, List.set_cons_succ]
          refine wpAnyH_ready (rs := [1, 6]) (by kernel_rfl) (by simp) ?_
          refine AllReadyH.cons rfl (fun K hK => ?_) (AllReadyH.cons rfl (fun K hK => ?_) AllReadyH.nil)
          · rw [if_pos (by rfl)]
            have yQ := Q3.cell
            go_simp
            refine hK.out _ _ hS (fun hS' => ?_)
            clear yQ
            clear hK K hS
            have hS := hS'
            clear hS'
            try simp only [Act.put, List.getElem_toArray, List.getElem_cons_zero, List.getElem_cons_succ, List.setIfInBounds_toArray, List.set_cons_zero, List.set_cons_succ]
            refine wpAnyH_ready (rs := [6]) (by kernel_rfl) (by simp) ?_
            refine AllReadyH.cons rfl (fun K hK => ?_) AllReadyH.nil
            rw [if_pos (by rfl)]
            go_simp
            have hol := OwnL.lt O3
            refine (rasktwin_any S ki at' many bs Ab cb _ Rb).mono ?_
            rintro e v1 ⟨A6, c6, rfl, r6, bb⟩
            have F6 := own_apart r6 hol n3
            have Rm' := Rm.below bb
            clear Rm Rb r6 hol
            have Rm := Rm'
            clear Rm'
            have P4 := P3.next bb
            have Z4 := Z3.next bb
            have Q4 := Q3.next bb
            have R4 := R3.below bb
            have O4 := O3.next bb
            have t4 := Ext.trans t3 bb
            have n4 := Nat.le_trans n3 bb.size
            refine hK.out _ _ ⟨hS.1.next bb, (hS.1.next bb).cell⟩ (fun hS' => ?_)
            clear P3 Z3 Q3 R3 O3 t3 n3
            have P3 := P4
            have Z3 := Z4
            have Q3 := Q4
            have R3 := R4
            have O3 := O4
            have t3 := t4
            have n3 := n4
            clear P4 Z4 Q4 R4 O4 t4 n4
            clear bb
            clear hK K hS
            have hS := hS'
            clear hS'
            try simp only [Act.put, List.getElem_toArray, List.getElem_cons_zero, List.getElem_cons_succ, List.setIfInBounds_toArray, List.set_cons_zero, List.set_cons_succ]
            refine wpAnyH_ready (rs := [9]) (by kernel_rfl) (by simp) ?_
            refine AllReadyH.cons rfl (fun K hK => ?_) AllReadyH.nil
            rw [if_pos (by rfl)]
            have hol := OwnL.lt O3
            refine wp_copyL (.const (.slice none 0 0)) (.tmp 64) 62 rfl 3 ii _ .int rfl Try.underlying62 hii hi0 hi1 hi2 rfl rfl S ms Am ms.length cm rfl Rm ?_
            intro v2 w2 r9 bb
            obtain ⟨A9, c9, rfl⟩ := intsV r9
            have F9 := own_apart r9 hol n3
            have F6' := (F6.below bb).mono (fun b hb => Fresh.next hb bb)
            clear F6 Rm r9 hol
            have F6 := F6'
            clear F6'
            have P4 := P3.next bb
            have Z4 := Z3.next bb
            have Q4 := Q3.next bb
            have R4 := R3.below bb
            have O4 := O3.next bb
            have t4 := Ext.trans t3 bb
            have n4 := Nat.le_trans n3 bb.size
            refine hK.out _ _ ⟨hS.1.next bb, (hS.1.next bb).cell⟩ (fun hS' => ?_)
            clear P3 Z3 Q3 R3 O3 t3 n3
            have P3 := P4
            have Z3 := Z4
            have Q3 := Q4
            have R3 := R4
            have O3 := O4
            have t3 := t4
            have n3 := n4
            clear P4 Z4 Q4 R4 O4 t4 n4
            clear bb
            clear hK K hS
            have hS := hS'
            clear hS'
            try simp only [Act.put, List.getElem_toArray, List.getElem_cons_zero, List.getElem_cons_succ, List.setIfInBounds_toArray, List.set_cons_zero, List.set_cons_succ]
            refine wpAnyH_take (i := 10) (oi := _) (v := ?_) rfl (by kernel_rfl) (by kernel_rfl) (by kernel_rfl) (fun _ _ _ h => h) (Or.inl ⟨by rfl, ?_⟩) hS ?_
            rotate_left
            · (intro w hSw; (try dsimp only at hSw); go_simp; (try with_reducible rfl))
            rotate_left
            simp only [Act.put, List.getElem_toArray, List.getElem_cons_zero, List.getElem_cons_succ, List.setIfInBounds_toArray, List.set_cons_zero, List.set_cons_succ]
            refine wpAnyH_ready (rs := [11]) (by kernel_rfl) (by simp) ?_
            refine AllReadyH.cons rfl (fun K hK => ?_) AllReadyH.nil
            rw [if_pos (by rfl)]
            go_simp
            obtain ⟨a11, ha11⟩ : ∃ z : Nat, z = w2.heap.size := ⟨_, rfl⟩
            have rd11 := rd_row w2 #[.int .i64 nu, .int .u8 (ki.toNat : Int), .int .i64 at', .int .i64 many, .slice A6 bs.length c6, .slice A9 ms.length c9] 64
            have bb := Ext.alloc (Below.refl w2.heap.size w2) (.cells #[.int .i64 nu, .int .u8 (ki.toNat : Int), .int .i64 at', .int .i64 many, .slice A6 bs.length c6, .slice A9 ms.length c9] 64)
            have FG := ((going_mk (ki := ki) IS.out.1 IS.out.2.1 IS.out.2.2 F6 F9).below bb).mono (fun b hb => Fresh.next hb bb)
            clear F6 F9
            rw [← ha11] at rd11
            have P4 := P3.next bb
            have Z4 := Z3.next bb
            have Q4 := Q3.next bb
            have R4 := R3.below bb
            have O4 := O3.next bb
            have t4 := Ext.trans t3 bb
            have n4 := Nat.le_trans n3 bb.size
            refine hK.out _ _ ⟨hS.1.next bb, (hS.1.next bb).cell⟩ (fun hS' => ?_)
            clear P3 Z3 Q3 R3 O3 t3 n3
            have P3 := P4
            have Z3 := Z4
            have Q3 := Q4
            have R3 := R4
            have O3 := O4
            have t3 := t4
            have n3 := n4
            clear P4 Z4 Q4 R4 O4 t4 n4
            clear bb
            rw [← ha11]
            clear ha11
            clear hK K hS
            have hS := hS'
            clear hS'
            try simp only [Act.put, List.getElem_toArray, List.getElem_cons_zero, List.getElem_cons_succ, List.setIfInBounds_toArray, List.set_cons_zero, List.set_cons_succ]
            generalize w2.alloc (.cells #[.int .i64 nu, .int .u8 (ki.toNat : Int), .int .i64 at', .int .i64 many, .slice A6 bs.length c6, .slice A9 ms.length c9] 64) = w5 at *
            refine wpAnyH_ready (rs := [12]) (by kernel_rfl) (by simp) ?_
            refine AllReadyH.cons rfl (fun K hK => ?_) AllReadyH.nil
            rw [if_pos (by rfl)]
            refine wp_push (.tmp 57) (.tmp 67) 26 rfl wo.heap.size 64 ig _ 80 GoTy Try.underlying26 hig hg0 hg1 hg2 rfl (by decide) u (gs.take j) rfl O3 (some ⟨a11, 0, none⟩) 1 _ rfl rd11 _ FG HBY.out.1 HBY.out.2 n3 ?_
            intro v6 w6 O6 g6 k6
            have l3 := HN0.out
            have P4 := P3.grown g6 (fun e => by have := k6 _ e; omega)
            have Z4 := Z3.grown g6 (fun e => by have := k6 _ e; omega)
            have Q4 := Q3.grown g6 (fun e => by have := k6 _ e; omega)
            have R4 := R3.grownBy g6 (fun b hb e => by have := k6 _ e; omega)
            have t4 := Below.grown t3 g6 t3.size (fun r e => by have := k6 r e; omega)
            have n4 := Nat.le_trans n3 g6.size
            have G4 := hS.1.grown g6 (fun e => by have := HOG.out _ e; omega)
            refine hK.out _ _ ⟨G4, G4.cell⟩ (fun hS' => ?_)
            clear P3 Z3 Q3 R3 O3 t3 n3 k6 g6 FG rd11
            clear hK K hS
            have hS := hS'
            clear hS'
            try simp only [Act.put, List.getElem_toArray, List.getElem_cons_zero, List.getElem_cons_succ, List.setIfInBounds_toArray, List.set_cons_zero, List.set_cons_succ]
            obtain ⟨A10, c10, e10⟩ := OwnL.slice O6
            have e11 := e10.trans (HTL.out A10 c10 _)
            clear e10
            subst e11
            refine wpAnyH_take (i := 13) (oi := _) (v := ?_) rfl (by kernel_rfl) (by kernel_rfl) (by kernel_rfl) (fun _ _ _ h => h) (Or.inl ⟨by rfl, ?_⟩) hS ?_
            rotate_left
            · (intro w hSw; (try dsimp only at hSw); go_simp; (try with_reducible rfl))
            rotate_left
            simp only [Act.put, List.getElem_toArray, List.getElem_cons_zero, List.getElem_cons_succ, List.setIfInBounds_toArray, List.set_cons_zero, List.set_cons_succ]
            refine wpAnyH_ready (rs := [14]) (by kernel_rfl) (by simp) ?_
            refine AllReadyH.cons rfl (fun K hK => ?_) AllReadyH.nil
            rw [if_pos (by rfl)]
            have fQ := Q4.free
            have yQ := Q4.cell
            go_simp
            clear fQ yQ
            have Q5 : BoxOf _ (w.heap.size + 1 + 1) #[.slice Ay ys.length cy, .slice A10 (j + 1) c10] 28 := mbox_self Q4 1 (.slice A10 (j + 1) c10)
            have P5 := mbox_else P4 (show w.heap.size ≠ w.heap.size + 1 + 1 by omega) 1 (.slice A10 (j + 1) c10)
            have Z5 := mbox_else Z4 (show w.heap.size + 1 ≠ w.heap.size + 1 + 1 by omega) 1 (.slice A10 (j + 1) c10)
            have G5 := mbox_else G4 (show g8 ≠ w.heap.size + 1 + 1 by omega) 1 (.slice A10 (j + 1) c10)
            have R5 := R4.setElse (k := w.heap.size + 1 + 1) (fun b hb => by omega) 1 (.slice A10 (j + 1) c10)
            have O7 := OwnL.setElse (k := w.heap.size + 1 + 1) (OwnL.cast HST.out.symm O6) (by omega) 1 (.slice A10 (j + 1) c10)
            have t5 := Below.setCell (p := ⟨w.heap.size + 1 + 1, 1, none⟩) t4 (show w.heap.size ≤ w.heap.size + 1 + 1 by omega) (.slice A10 (j + 1) c10)
            refine hK.out _ _ ⟨G5, G5.cell⟩ (fun hS' => ?_)
            clear hK K hS hS' P4 Z4 Q4 R4 O6 t4 G4 G5
            try simp only [Act.put, List.getElem_toArray, List.getElem_cons_zero, List.getElem_cons_succ, List.setIfInBounds_toArray, List.set_cons_zero, List.set_cons_succ]
            refine wpAnyH_done (by kernel_rfl) ?_ _
            have HN4 := Lib.hid n4
            have LJ := HLT.out
            clear l3 n4 l8
            go_wp2
            go_roundw
            case rel => exact ⟨j + 1, _, LJ, round_same HWJ, t5, P5, Z5, Q5, R5, O7, by rw [msize]; exact HN4.out⟩
            case measure => exact round_less HWJ LJ
          · rw [if_pos (by rfl)]
            go_simp
            have hol := OwnL.lt O3
            refine (rasktwin_any S ki at' many bs Ab cb _ Rb).mono ?_
            rintro e v1 ⟨A6, c6, rfl, r6, bb⟩
            have F6 := own_apart r6 hol n3
            have Rm' := Rm.below bb
            clear Rm Rb r6 hol
            have Rm := Rm'
            clear Rm'
            have P4 := P3.next bb
            have Z4 := Z3.next bb
            have Q4 := Q3.next bb
            have R4 := R3.below bb
            have O4 := O3.next bb
            have t4 := Ext.trans t3 bb
            have n4 := Nat.le_trans n3 bb.size
            refine hK.out _ _ ⟨hS.1.next bb, (hS.1.next bb).cell⟩ (fun hS' => ?_)
            clear P3 Z3 Q3 R3 O3 t3 n3
            have P3 := P4
            have Z3 := Z4
            have Q3 := Q4
            have R3 := R4
            have O3 := O4
            have t3 := t4
            have n3 := n4
            clear P4 Z4 Q4 R4 O4 t4 n4
            clear bb
            clear hK K hS
            have hS := hS'
            clear hS'
            try simp only [Act.put, List.getElem_toArray, List.getElem_cons_zero, List.getElem_cons_succ, List.setIfInBounds_toArray, List.set_cons_zero, List.set_cons_succ]
            refine wpAnyH_ready (rs := [1, 9]) (by kernel_rfl) (by simp) ?_
            refine AllReadyH.cons rfl (fun K hK => ?_) (AllReadyH.cons rfl (fun K hK => ?_) AllReadyH.nil)
            · rw [if_pos (by rfl)]
              have yQ := Q3.cell
              go_simp
              refine hK.out _ _ hS (fun hS' => ?_)
              clear yQ
              clear hK K hS
              have hS := hS'
              clear hS'
              try simp only [Act.put, List.getElem_toArray, List.getElem_cons_zero, List.getElem_cons_succ, List.setIfInBounds_toArray, List.set_cons_zero, List.set_cons_succ]
              refine wpAnyH_ready (rs := [9]) (by kernel_rfl) (by simp) ?_
              refine AllReadyH.cons rfl (fun K hK => ?_) AllReadyH.nil
              rw [if_pos (by rfl)]
              have hol := OwnL.lt O3
              refine wp_copyL (.const (.slice none 0 0)) (.tmp 64) 62 rfl 3 ii _ .int rfl Try.underlying62 hii hi0 hi1 hi2 rfl rfl S ms Am ms.length cm rfl Rm ?_
              intro v2 w2 r9 bb
              obtain ⟨A9, c9, rfl⟩ := intsV r9
              have F9 := own_apart r9 hol n3
              have F6' := (F6.below bb).mono (fun b hb => Fresh.next hb bb)
              clear F6 Rm r9 hol
              have F6 := F6'
              clear F6'
              have P4 := P3.next bb
              have Z4 := Z3.next bb
              have Q4 := Q3.next bb
              have R4 := R3.below bb
              have O4 := O3.next bb
              have t4 := Ext.trans t3 bb
              have n4 := Nat.le_trans n3 bb.size
              refine hK.out _ _ ⟨hS.1.next bb, (hS.1.next bb).cell⟩ (fun hS' => ?_)
              clear P3 Z3 Q3 R3 O3 t3 n3
              have P3 := P4
              have Z3 := Z4
              have Q3 := Q4
              have R3 := R4
              have O3 := O4
              have t3 := t4
              have n3 := n4
              clear P4 Z4 Q4 R4 O4 t4 n4
              clear bb
              clear hK K hS
              have hS := hS'
              clear hS'
              try simp only [Act.put, List.getElem_toArray, List.getElem_cons_zero, List.getElem_cons_succ, List.setIfInBounds_toArray, List.set_cons_zero, List.set_cons_succ]
              refine wpAnyH_take (i := 10) (oi := _) (v := ?_) rfl (by kernel_rfl) (by kernel_rfl) (by kernel_rfl) (fun _ _ _ h => h) (Or.inl ⟨by rfl, ?_⟩) hS ?_
              rotate_left
              · (intro w hSw; (try dsimp only at hSw); go_simp; (try with_reducible rfl))
              rotate_left
              simp only [Act.put, List.getElem_toArray, List.getElem_cons_zero, List.getElem_cons_succ, List.setIfInBounds_toArray, List.set_cons_zero, List.set_cons_succ]
              refine wpAnyH_ready (rs := [11]) (by kernel_rfl) (by simp) ?_
              refine AllReadyH.cons rfl (fun K hK => ?_) AllReadyH.nil
              rw [if_pos (by rfl)]
              go_simp
              obtain ⟨a11, ha11⟩ : ∃ z : Nat, z = w2.heap.size := ⟨_, rfl⟩
              have rd11 := rd_row w2 #[.int .i64 nu, .int .u8 (ki.toNat : Int), .int .i64 at', .int .i64 many, .slice A6 bs.length c6, .slice A9 ms.length c9] 64
              have bb := Ext.alloc (Below.refl w2.heap.size w2) (.cells #[.int .i64 nu, .int .u8 (ki.toNat : Int), .int .i64 at', .int .i64 many, .slice A6 bs.length c6, .slice A9 ms.length c9] 64)
              have FG := ((going_mk (ki := ki) IS.out.1 IS.out.2.1 IS.out.2.2 F6 F9).below bb).mono (fun b hb => Fresh.next hb bb)
              clear F6 F9
              rw [← ha11] at rd11
              have P4 := P3.next bb
              have Z4 := Z3.next bb
              have Q4 := Q3.next bb
              have R4 := R3.below bb
              have O4 := O3.next bb
              have t4 := Ext.trans t3 bb
              have n4 := Nat.le_trans n3 bb.size
              refine hK.out _ _ ⟨hS.1.next bb, (hS.1.next bb).cell⟩ (fun hS' => ?_)
              clear P3 Z3 Q3 R3 O3 t3 n3
              have P3 := P4
              have Z3 := Z4
              have Q3 := Q4
              have R3 := R4
              have O3 := O4
              have t3 := t4
              have n3 := n4
              clear P4 Z4 Q4 R4 O4 t4 n4
              clear bb
              rw [← ha11]
              clear ha11
              clear hK K hS
              have hS := hS'
              clear hS'
              try simp only [Act.put, List.getElem_toArray, List.getElem_cons_zero, List.getElem_cons_succ, List.setIfInBounds_toArray, List.set_cons_zero, List.set_cons_succ]
              generalize w2.alloc (.cells #[.int .i64 nu, .int .u8 (ki.toNat : Int), .int .i64 at', .int .i64 many, .slice A6 bs.length c6, .slice A9 ms.length c9] 64) = w5 at *
              refine wpAnyH_ready (rs := [12]) (by kernel_rfl) (by simp) ?_
              refine AllReadyH.cons rfl (fun K hK => ?_) AllReadyH.nil
              rw [if_pos (by rfl)]
              refine wp_push (.tmp 57) (.tmp 67) 26 rfl wo.heap.size 64 ig _ 80 GoTy Try.underlying26 hig hg0 hg1 hg2 rfl (by decide) u (gs.take j) rfl O3 (some ⟨a11, 0, none⟩) 1 _ rfl rd11 _ FG HBY.out.1 HBY.out.2 n3 ?_
              intro v6 w6 O6 g6 k6
              have l3 := HN0.out
              have P4 := P3.grown g6 (fun e => by have := k6 _ e; omega)
              have Z4 := Z3.grown g6 (fun e => by have := k6 _ e; omega)
              have Q4 := Q3.grown g6 (fun e => by have := k6 _ e; omega)
              have R4 := R3.grownBy g6 (fun b hb e => by have := k6 _ e; omega)
              have t4 := Below.grown t3 g6 t3.size (fun r e => by have := k6 r e; omega)
              have n4 := Nat.le_trans n3 g6.size
              have G4 := hS.1.grown g6 (fun e => by have := HOG.out _ e; omega)
              refine hK.out _ _ ⟨G4, G4.cell⟩ (fun hS' => ?_)
              clear P3 Z3 Q3 R3 O3 t3 n3 k6 g6 FG rd11
              clear hK K hS
              have hS := hS'
              clear hS'
              try simp only [Act.put, List.getElem_toArray, List.getElem_cons_zero, List.getElem_cons_succ, List.setIfInBounds_toArray, List.set_cons_zero, List.set_cons_succ]
              obtain ⟨A10, c10, e10⟩ := OwnL.slice O6
              have e11 := e10.trans (HTL.out A10 c10 _)
              clear e10
              subst e11
              refine wpAnyH_take (i := 13) (oi := _) (v := ?_) rfl (by kernel_rfl) (by kernel_rfl) (by kernel_rfl) (fun _ _ _ h => h) (Or.inl ⟨by rfl, ?_⟩) hS ?_
              rotate_left
              · (intro w hSw; (try dsimp only at hSw); go_simp; (try with_reducible rfl))
              rotate_left
              simp only [Act.put, List.getElem_toArray, List.getElem_cons_zero, List.getElem_cons_succ, List.setIfInBounds_toArray, List.set_cons_zero, List.set_cons_succ]
              refine wpAnyH_ready (rs := [14]) (by kernel_rfl) (by simp) ?_
              refine AllReadyH.cons rfl (fun K hK => ?_) AllReadyH.nil
              rw [if_pos (by rfl)]
              have fQ := Q4.free
              have yQ := Q4.cell
              go_simp
              clear fQ yQ
              have Q5 : BoxOf _ (w.heap.size + 1 + 1) #[.slice Ay ys.length cy, .slice A10 (j + 1) c10] 28 := mbox_self Q4 1 (.slice A10 (j + 1) c10)
              have P5 := mbox_else P4 (show w.heap.size ≠ w.heap.size + 1 + 1 by omega) 1 (.slice A10 (j + 1) c10)
              have Z5 := mbox_else Z4 (show w.heap.size + 1 ≠ w.heap.size + 1 + 1 by omega) 1 (.slice A10 (j + 1) c10)
              have G5 := mbox_else G4 (show g8 ≠ w.heap.size + 1 + 1 by omega) 1 (.slice A10 (j + 1) c10)
              have R5 := R4.setElse (k := w.heap.size + 1 + 1) (fun b hb => by omega) 1 (.slice A10 (j + 1) c10)
              have O7 := OwnL.setElse (k := w.heap.size + 1 + 1) (OwnL.cast HST.out.symm O6) (by omega) 1 (.slice A10 (j + 1) c10)
              have t5 := Below.setCell (p := ⟨w.heap.size + 1 + 1, 1, none⟩) t4 (show w.heap.size ≤ w.heap.size + 1 + 1 by omega) (.slice A10 (j + 1) c10)
              refine hK.out _ _ ⟨G5, G5.cell⟩ (fun hS' => ?_)
              clear hK K hS hS' P4 Z4 Q4 R4 O6 t4 G4 G5
              try simp only [Act.put, List.getElem_toArray, List.getElem_cons_zero, List.getElem_cons_succ, List.setIfInBounds_toArray, List.set_cons_zero, List.set_cons_succ]
              refine wpAnyH_done (by kernel_rfl) ?_ _
              have HN4 := Lib.hid n4
              have LJ := HLT.out
              clear l3 n4 l8
              go_wp2
              go_roundw
              case rel => exact ⟨j + 1, _, LJ, round_same HWJ, t5, P5, Z5, Q5, R5, O7, by rw [msize]; exact HN4.out⟩
              case measure => exact round_less HWJ LJ
            · rw [if_pos (by rfl)]
              have hol := OwnL.lt O3
              refine wp_copyL (.const (.slice none 0 0)) (.tmp 64) 62 rfl 3 ii _ .int rfl Try.underlying62 hii hi0 hi1 hi2 rfl rfl S ms Am ms.length cm rfl Rm ?_
              intro v2 w2 r9 bb
              obtain ⟨A9, c9, rfl⟩ := intsV r9
              have F9 := own_apart r9 hol n3
              have F6' := (F6.below bb).mono (fun b hb => Fresh.next hb bb)
              clear F6 Rm r9 hol
              have F6 := F6'
              clear F6'
              have P4 := P3.next bb
              have Z4 := Z3.next bb
              have Q4 := Q3.next bb
              have R4 := R3.below bb
              have O4 := O3.next bb
              have t4 := Ext.trans t3 bb
              have n4 := Nat.le_trans n3 bb.size
              refine hK.out _ _ ⟨hS.1.next bb, (hS.1.next bb).cell⟩ (fun hS' => ?_)
              clear P3 Z3 Q3 R3 O3 t3 n3
              have P3 := P4
              have Z3 := Z4
              have Q3 := Q4
              have R3 := R4
              have O3 := O4
              have t3 := t4
              have n3 := n4
              clear P4 Z4 Q4 R4 O4 t4 n4
              clear bb
              clear hK K hS
              have hS := hS'
              clear hS'
              try simp only [Act.put, List.getElem_toArray, List.getElem_cons_zero, List.getElem_cons_succ, List.setIfInBounds_toArray, List.set_cons_zero, List.set_cons_succ]
              refine wpAnyH_take (i := 10) (oi := _) (v := ?_) rfl (by kernel_rfl) (by kernel_rfl) (by kernel_rfl) (fun _ _ _ h => h) (Or.inl ⟨by rfl, ?_⟩) hS ?_
              rotate_left
              · (intro w hSw; (try dsimp only at hSw); go_simp; (try with_reducible rfl))
              rotate_left
              simp only [Act.put, List.getElem_toArray, List.getElem_cons_zero, List.getElem_cons_succ, List.setIfInBounds_toArray, List.set_cons_zero, List.set_cons_succ]
              refine wpAnyH_ready (rs := [1, 11]) (by kernel_rfl) (by simp) ?_
              refine AllReadyH.cons rfl (fun K hK => ?_) (AllReadyH.cons rfl (fun K hK => ?_) AllReadyH.nil)
              · rw [if_pos (by rfl)]
                have yQ := Q3.cell
                go_simp
                refine hK.out _ _ hS (fun hS' => ?_)
                clear yQ
                clear hK K hS
                have hS := hS'
                clear hS'
                try simp only [Act.put, List.getElem_toArray, List.getElem_cons_zero, List.getElem_cons_succ, List.setIfInBounds_toArray, List.set_cons_zero, List.set_cons_succ]
                refine wpAnyH_ready (rs := [11]) (by kernel_rfl) (by simp) ?_
                refine AllReadyH.cons rfl (fun K hK => ?_) AllReadyH.nil
                rw [if_pos (by rfl)]
                go_simp
                obtain ⟨a11, ha11⟩ : ∃ z : Nat, z = w2.heap.size := ⟨_, rfl⟩
                have rd11 := rd_row w2 #[.int .i64 nu, .int .u8 (ki.toNat : Int), .int .i64 at', .int .i64 many, .slice A6 bs.length c6, .slice A9 ms.length c9] 64
                have bb := Ext.alloc (Below.refl w2.heap.size w2) (.cells #[.int .i64 nu, .int .u8 (ki.toNat : Int), .int .i64 at', .int .i64 many, .slice A6 bs.length c6, .slice A9 ms.length c9] 64)
                have FG := ((going_mk (ki := ki) IS.out.1 IS.out.2.1 IS.out.2.2 F6 F9).below bb).mono (fun b hb => Fresh.next hb bb)
                clear F6 F9
                rw [← ha11] at rd11
                have P4 := P3.next bb
                have Z4 := Z3.next bb
                have Q4 := Q3.next bb
                have R4 := R3.below bb
                have O4 := O3.next bb
                have t4 := Ext.trans t3 bb
                have n4 := Nat.le_trans n3 bb.size
                refine hK.out _ _ ⟨hS.1.next bb, (hS.1.next bb).cell⟩ (fun hS' => ?_)
                clear P3 Z3 Q3 R3 O3 t3 n3
                have P3 := P4
                have Z3 := Z4
                have Q3 := Q4
                have R3 := R4
                have O3 := O4
                have t3 := t4
                have n3 := n4
                clear P4 Z4 Q4 R4 O4 t4 n4
                clear bb
                rw [← ha11]
                clear ha11
                clear hK K hS
                have hS := hS'
                clear hS'
                try simp only [Act.put, List.getElem_toArray, List.getElem_cons_zero, List.getElem_cons_succ, List.setIfInBounds_toArray, List.set_cons_zero, List.set_cons_succ]
                generalize w2.alloc (.cells #[.int .i64 nu, .int .u8 (ki.toNat : Int), .int .i64 at', .int .i64 many, .slice A6 bs.length c6, .slice A9 ms.length c9] 64) = w5 at *
                refine wpAnyH_ready (rs := [12]) (by kernel_rfl) (by simp) ?_
                refine AllReadyH.cons rfl (fun K hK => ?_) AllReadyH.nil
                rw [if_pos (by rfl)]
                refine wp_push (.tmp 57) (.tmp 67) 26 rfl wo.heap.size 64 ig _ 80 GoTy Try.underlying26 hig hg0 hg1 hg2 rfl (by decide) u (gs.take j) rfl O3 (some ⟨a11, 0, none⟩) 1 _ rfl rd11 _ FG HBY.out.1 HBY.out.2 n3 ?_
                intro v6 w6 O6 g6 k6
                have l3 := HN0.out
                have P4 := P3.grown g6 (fun e => by have := k6 _ e; omega)
                have Z4 := Z3.grown g6 (fun e => by have := k6 _ e; omega)
                have Q4 := Q3.grown g6 (fun e => by have := k6 _ e; omega)
                have R4 := R3.grownBy g6 (fun b hb e => by have := k6 _ e; omega)
                have t4 := Below.grown t3 g6 t3.size (fun r e => by have := k6 r e; omega)
                have n4 := Nat.le_trans n3 g6.size
                have G4 := hS.1.grown g6 (fun e => by have := HOG.out _ e; omega)
                refine hK.out _ _ ⟨G4, G4.cell⟩ (fun hS' => ?_)
                clear P3 Z3 Q3 R3 O3 t3 n3 k6 g6 FG rd11
                clear hK K hS
                have hS := hS'
                clear hS'
                try simp only [Act.put, List.getElem_toArray, List.getElem_cons_zero, List.getElem_cons_succ, List.setIfInBounds_toArray, List.set_cons_zero, List.set_cons_succ]
                obtain ⟨A10, c10, e10⟩ := OwnL.slice O6
                have e11 := e10.trans (HTL.out A10 c10 _)
                clear e10
                subst e11
                refine wpAnyH_take (i := 13) (oi := _) (v := ?_) rfl (by kernel_rfl) (by kernel_rfl) (by kernel_rfl) (fun _ _ _ h => h) (Or.inl ⟨by rfl, ?_⟩) hS ?_
                rotate_left
                · (intro w hSw; (try dsimp only at hSw); go_simp; (try with_reducible rfl))
                rotate_left
                simp only [Act.put, List.getElem_toArray, List.getElem_cons_zero, List.getElem_cons_succ, List.setIfInBounds_toArray, List.set_cons_zero, List.set_cons_succ]
                refine wpAnyH_ready (rs := [14]) (by kernel_rfl) (by simp) ?_
                refine AllReadyH.cons rfl (fun K hK => ?_) AllReadyH.nil
                rw [if_pos (by rfl)]
                have fQ := Q4.free
                have yQ := Q4.cell
                go_simp
                clear fQ yQ
                have Q5 : BoxOf _ (w.heap.size + 1 + 1) #[.slice Ay ys.length cy, .slice A10 (j + 1) c10] 28 := mbox_self Q4 1 (.slice A10 (j + 1) c10)
                have P5 := mbox_else P4 (show w.heap.size ≠ w.heap.size + 1 + 1 by omega) 1 (.slice A10 (j + 1) c10)
                have Z5 := mbox_else Z4 (show w.heap.size + 1 ≠ w.heap.size + 1 + 1 by omega) 1 (.slice A10 (j + 1) c10)
                have G5 := mbox_else G4 (show g8 ≠ w.heap.size + 1 + 1 by omega) 1 (.slice A10 (j + 1) c10)
                have R5 := R4.setElse (k := w.heap.size + 1 + 1) (fun b hb => by omega) 1 (.slice A10 (j + 1) c10)
                have O7 := OwnL.setElse (k := w.heap.size + 1 + 1) (OwnL.cast HST.out.symm O6) (by omega) 1 (.slice A10 (j + 1) c10)
                have t5 := Below.setCell (p := ⟨w.heap.size + 1 + 1, 1, none⟩) t4 (show w.heap.size ≤ w.heap.size + 1 + 1 by omega) (.slice A10 (j + 1) c10)
                refine hK.out _ _ ⟨G5, G5.cell⟩ (fun hS' => ?_)
                clear hK K hS hS' P4 Z4 Q4 R4 O6 t4 G4 G5
                try simp only [Act.put, List.getElem_toArray, List.getElem_cons_zero, List.getElem_cons_succ, List.setIfInBounds_toArray, List.set_cons_zero, List.set_cons_succ]
                refine wpAnyH_done (by kernel_rfl) ?_ _
                have HN4 := Lib.hid n4
                have LJ := HLT.out
                clear l3 n4 l8
                go_wp2
                go_roundw
                case rel => exact ⟨j + 1, _, LJ, round_same HWJ, t5, P5, Z5, Q5, R5, O7, by rw [msize]; exact HN4.out⟩
                case measure => exact round_less HWJ LJ
              · rw [if_pos (by rfl)]
                go_simp
                obtain ⟨a11, ha11⟩ : ∃ z : Nat, z = w2.heap.size := ⟨_, rfl⟩
                have rd11 := rd_row w2 #[.int .i64 nu, .int .u8 (ki.toNat : Int), .int .i64 at', .int .i64 many, .slice A6 bs.length c6, .slice A9 ms.length c9] 64
                have bb := Ext.alloc (Below.refl w2.heap.size w2) (.cells #[.int .i64 nu, .int .u8 (ki.toNat : Int), .int .i64 at', .int .i64 many, .slice A6 bs.length c6, .slice A9 ms.length c9] 64)
                have FG := ((going_mk (ki := ki) IS.out.1 IS.out.2.1 IS.out.2.2 F6 F9).below bb).mono (fun b hb => Fresh.next hb bb)
                clear F6 F9
                rw [← ha11] at rd11
                have P4 := P3.next bb
                have Z4 := Z3.next bb
                have Q4 := Q3.next bb
                have R4 := R3.below bb
                have O4 := O3.next bb
                have t4 := Ext.trans t3 bb
                have n4 := Nat.le_trans n3 bb.size
                refine hK.out _ _ ⟨hS.1.next bb, (hS.1.next bb).cell⟩ (fun hS' => ?_)
                clear P3 Z3 Q3 R3 O3 t3 n3
                have P3 := P4
                have Z3 := Z4
                have Q3 := Q4
                have R3 := R4
                have O3 := O4
                have t3 := t4
                have n3 := n4
                clear P4 Z4 Q4 R4 O4 t4 n4
                clear bb
                rw [← ha11]
                clear ha11
                clear hK K hS
                have hS := hS'
                clear hS'
                try simp only [Act.put, List.getElem_toArray, List.getElem_cons_zero, List.getElem_cons_succ, List.setIfInBounds_toArray, List.set_cons_zero, List.set_cons_succ]
                generalize w2.alloc (.cells #[.int .i64 nu, .int .u8 (ki.toNat : Int), .int .i64 at', .int .i64 many, .slice A6 bs.length c6, .slice A9 ms.length c9] 64) = w5 at *
                refine wpAnyH_ready (rs := [1]) (by kernel_rfl) (by simp) ?_
                refine AllReadyH.cons rfl (fun K hK => ?_) AllReadyH.nil
                rw [if_pos (by rfl)]
                have yQ := Q3.cell
                go_simp
                refine hK.out _ _ hS (fun hS' => ?_)
                clear yQ
                clear hK K hS
                have hS := hS'
                clear hS'
                try simp only [Act.put, List.getElem_toArray, List.getElem_cons_zero, List.getElem_cons_succ, List.setIfInBounds_toArray, List.set_cons_zero, List.set_cons_succ]
                refine wpAnyH_ready (rs := [12]) (by kernel_rfl) (by simp) ?_
                refine AllReadyH.cons rfl (fun K hK => ?_) AllReadyH.nil
                rw [if_pos (by rfl)]
                refine wp_push (.tmp 57) (.tmp 67) 26 rfl wo.heap.size 64 ig _ 80 GoTy Try.underlying26 hig hg0 hg1 hg2 rfl (by decide) u (gs.take j) rfl O3 (some ⟨a11, 0, none⟩) 1 _ rfl rd11 _ FG HBY.out.1 HBY.out.2 n3 ?_
                intro v6 w6 O6 g6 k6
                have l3 := HN0.out
                have P4 := P3.grown g6 (fun e => by have := k6 _ e; omega)
                have Z4 := Z3.grown g6 (fun e => by have := k6 _ e; omega)
                have Q4 := Q3.grown g6 (fun e => by have := k6 _ e; omega)
                have R4 := R3.grownBy g6 (fun b hb e => by have := k6 _ e; omega)
                have t4 := Below.grown t3 g6 t3.size (fun r e => by have := k6 r e; omega)
                have n4 := Nat.le_trans n3 g6.size
                have G4 := hS.1.grown g6 (fun e => by have := HOG.out _ e; omega)
                refine hK.out _ _ ⟨G4, G4.cell⟩ (fun hS' => ?_)
                clear P3 Z3 Q3 R3 O3 t3 n3 k6 g6 FG rd11
                clear hK K hS
                have hS := hS'
                clear hS'
                try simp only [Act.put, List.getElem_toArray, List.getElem_cons_zero, List.getElem_cons_succ, List.setIfInBounds_toArray, List.set_cons_zero, List.set_cons_succ]
                obtain ⟨A10, c10, e10⟩ := OwnL.slice O6
                have e11 := e10.trans (HTL.out A10 c10 _)
                clear e10
                subst e11
                refine wpAnyH_take (i := 13) (oi := _) (v := ?_) rfl (by kernel_rfl) (by kernel_rfl) (by kernel_rfl) (fun _ _ _ h => h) (Or.inl ⟨by rfl, ?_⟩) hS ?_
                rotate_left
                · (intro w hSw; (try dsimp only at hSw); go_simp; (try with_reducible rfl))
                rotate_left
                simp only [Act.put, List.getElem_toArray, List.getElem_cons_zero, List.getElem_cons_succ, List.setIfInBounds_toArray, List.set_cons_zero, List.set_cons_succ]
                refine wpAnyH_ready (rs := [14]) (by kernel_rfl) (by simp) ?_
                refine AllReadyH.cons rfl (fun K hK => ?_) AllReadyH.nil
                rw [if_pos (by rfl)]
                have fQ := Q4.free
                have yQ := Q4.cell
                go_simp
                clear fQ yQ
                have Q5 : BoxOf _ (w.heap.size + 1 + 1) #[.slice Ay ys.length cy, .slice A10 (j + 1) c10] 28 := mbox_self Q4 1 (.slice A10 (j + 1) c10)
                have P5 := mbox_else P4 (show w.heap.size ≠ w.heap.size + 1 + 1 by omega) 1 (.slice A10 (j + 1) c10)
                have Z5 := mbox_else Z4 (show w.heap.size + 1 ≠ w.heap.size + 1 + 1 by omega) 1 (.slice A10 (j + 1) c10)
                have G5 := mbox_else G4 (show g8 ≠ w.heap.size + 1 + 1 by omega) 1 (.slice A10 (j + 1) c10)
                have R5 := R4.setElse (k := w.heap.size + 1 + 1) (fun b hb => by omega) 1 (.slice A10 (j + 1) c10)
                have O7 := OwnL.setElse (k := w.heap.size + 1 + 1) (OwnL.cast HST.out.symm O6) (by omega) 1 (.slice A10 (j + 1) c10)
                have t5 := Below.setCell (p := ⟨w.heap.size + 1 + 1, 1, none⟩) t4 (show w.heap.size ≤ w.heap.size + 1 + 1 by omega) (.slice A10 (j + 1) c10)
                refine hK.out _ _ ⟨G5, G5.cell⟩ (fun hS' => ?_)
                clear hK K hS hS' P4 Z4 Q4 R4 O6 t4 G4 G5
                try simp only [Act.put, List.getElem_toArray, List.getElem_cons_zero, List.getElem_cons_succ, List.setIfInBounds_toArray, List.set_cons_zero, List.set_cons_succ]
                refine wpAnyH_done (by kernel_rfl) ?_ _
                have HN4 := Lib.hid n4
                have LJ := HLT.out
                clear l3 n4 l8
                go_wp2
                go_roundw
                case rel => exact ⟨j + 1, _, LJ, round_same HWJ, t5, P5, Z5, Q5, R5, O7, by rw [msize]; exact HN4.out⟩
                case measure => exact round_less HWJ LJ
        · have hjg : j = gs.length := by omega
          have Og := OwnL.cast (e := GoTy) (ys := gs) (show gs.take j = gs by rw [hjg]; exact List.take_length) O2
          obtain ⟨Ag, cg, rfl⟩ := OwnL.slice Og
          have hgz : gs.length * 80 ≤ 140737488355328 := by
            obtain ⟨_, _, _, _, h, _⟩ := viewG HG.out
            exact h
          have Rg := OwnL.rdin Og (by exact hgz)
          have HGL := Lib.hid hlt
          have hle : ¬ (j : Int) < (gs.length : Int) := by omega
          have z2 := Z2.cell
          have f2 := Z2.free
          have y2 := Q2.cell
          have HN2 := Lib.hid hN2
          have HR2 := Lib.hid R2
          clear hlt hj hjg hgz O2 Og hN2 R2
          have l1 := Z2.lt
          have HL1 := Lib.hid l1
          clear l1
          go_wp2
          have B5 : BoxOf _ (w.heap.size + 1) #[.slice Ay ys.length cy, .slice Ag gs.length cg] 28 := mbox_self (mbox_self Z2 0 (.slice Ay ys.length cy)) 1 (.slice Ag gs.length cg)
          have T5 := Below.setCell (p := ⟨w.heap.size + 1, 1, none⟩) (Below.setCell (p := ⟨w.heap.size + 1, 0, none⟩) t2 (show w.heap.size ≤ w.heap.size + 1 by omega) (.slice Ay ys.length cy)) (show w.heap.size ≤ w.heap.size + 1 by omega) (.slice Ag gs.length cg)
          have R5 := (HR2.out.setElse (k := w.heap.size + 1) (fun b hb => by omega) 0 (.slice Ay ys.length cy)).setElse (k := w.heap.size + 1) (fun b hb => by omega) 1 (.slice Ag gs.length cg)
          have G5 := (Rg.setElse (k := w.heap.size + 1) (fun b hb => by have := HN0.out; have := hb.1; omega) 0 (.slice Ay ys.length cy)).setElse (k := w.heap.size + 1) (fun b hb => by have := HN0.out; have := hb.1; omega) 1 (.slice Ag gs.length cg)
          have hn0 := HN0.out
          have hn2 := HN2.out
          refine bodyPost_ret (v := .agg #[.slice Ay ys.length cy, .slice Ag gs.length cg]) (results_cell_row rfl _ _ (w.heap.size + 1) 28 #[.slice Ay ys.length cy, .slice Ag gs.length cg] (0, 0) _ rfl B5 Try.underlying28 rfl (by kernel_rfl)) rfl ⟨Ay, cy, Ag, cg, rfl, R5.mono fun b hb => ⟨by omega, by simp only [msize]; omega⟩, G5.mono fun b hb => ⟨by have := hb.1; omega, by have := hb.2.1; simp only [msize]; omega⟩, T5⟩
end Go.Proofs.Ytclbihcggjjgaaa
