/- Layer 30 (model): the statements' own 'turn': numbers are written in new memory. -/
import Derived.Test.YtclbihcggjjgaaaModel2
namespace Go.Proofs.Ytclbihcggjjgaaa
open Go Go.RowKit
set_option linter.unusedSimpArgs false
set_option linter.unusedVariables false

/-- what a call changes lies between two marks, or is new -/
structure Within (lo hi : Nat) (w w' : World) : Prop where
  below : Below lo w w'
  above : ∀ b, hi ≤ b → b < w.heap.size → w'.heap[b]? = w.heap[b]?
theorem Within.refl (lo hi : Nat) (w : World) : Within lo hi w w := ⟨Below.refl _ _, fun _ _ _ => rfl⟩
theorem Within.alloc {lo hi : Nat} {w w' : World} (h : Within lo hi w w') (hl : lo ≤ w.heap.size) (o : Obj) : Within lo hi w (w'.alloc o) :=
  ⟨h.below.alloc (Nat.le_trans hl h.below.size) o, fun b h1 h2 => (Below.heap_alloc w' o b (Nat.lt_of_lt_of_le h2 h.below.size)).trans (h.above b h1 h2)⟩
theorem Within.setCell {lo hi : Nat} {w w' : World} (h : Within lo hi w w') {p : Addr} (hp : lo ≤ p.block ∧ p.block < hi) (u : Value) : Within lo hi w (w'.setCell p u) :=
  ⟨h.below.setCell hp.1 u, fun b h1 h2 => (Below.heap_setCell w' p u b (by have := hp.2; omega)).trans (h.above b h1 h2)⟩
theorem Within.drew {lo hi : Nat} {w w' : World} (h : Within lo hi w w') : Within lo hi w w'.drew := ⟨h.below.drew, h.above⟩
theorem Within.cell {lo hi : Nat} {w w' : World} (h : Within lo hi w w') {p : Addr} (hp : p.block < lo ∨ hi ≤ p.block) (hl : p.block < w.heap.size) : w'.cell? p = w.cell? p :=
  World.cell?_of_block (w := w) (hp.elim (fun h1 => h.below.block _ h1) (fun h1 => h.above _ h1 hl))
theorem RdIn.within {lo hi : Nat} {w w' : World} (hw : Within lo hi w w') {S : Nat → Prop} {t : Ty} {x : t.T} {cs : List Value} (h : RdIn w S t x cs) (hS : ∀ b, S b → b < lo ∨ hi ≤ b) : RdIn w' S t x cs :=
  h.keep (fun p v hs hv => ⟨(hw.cell (hS _ hs) (block_lt_of_cell hv)).trans hv, hs⟩) (fun _ h => h)

def InL (w : World) (lo hi : Nat) (b : Nat) : Prop := (lo ≤ b ∧ b < hi) ∧ Live w b
def ShpL (w : World) (lo hi : Nat) (t : Ty) (cs : List Value) : Prop := ∃ x : t.T, RdIn w (InL w lo hi) t x cs
theorem ShpL.num {w : World} {lo hi : Nat} {t : Ty} {cs : List Value} (h : ShpL w lo hi t cs) {a : Addr} {k : IntKind} {n n' : Int} (hc : w.cell? a = some (.int k n)) (hk : InK k n') : ShpL (w.setCell a (.int k n')) lo hi t cs := by
  obtain ⟨x, hx⟩ := h
  obtain ⟨x', hx'⟩ := RdIn.numbers (numAt_set hc hk) t hx (Like.refl cs)
  exact ⟨x', hx'.mono fun b hb => ⟨hb.1, hb.2.set _ _⟩⟩
theorem ShpL.below {w w' : World} {lo hi : Nat} {t : Ty} {cs : List Value} (h : ShpL w lo hi t cs) (hb : Below w.heap.size w w') : ShpL w' lo hi t cs := by
  obtain ⟨x, hx⟩ := h
  exact ⟨x, (hx.below hb).mono fun b h => ⟨h.1, h.2.below hb⟩⟩
theorem ShpL.may {w : World} {lo hi : Nat} {cs : List Value} (h : ShpL w lo hi (.sl (.sl (.sl .byte))) cs) : ∃ ys : List (List (List UInt8)), RdIn w (InL w lo hi) (.sl (.sl (.sl .byte))) ys cs := h
theorem ShpL.goings {w : World} {lo hi : Nat} {cs : List Value} (h : ShpL w lo hi (.sl GoTy) cs) : ∃ gs : List GoTy.T, RdIn w (InL w lo hi) (.sl GoTy) gs cs := h
theorem shp_new {w0 w w1 : World} {t : Ty} {x : t.T} {cs : List Value} (h : RdIn w (NewB w0.heap.size w) t x cs) (hb : Below w.heap.size w w1) : ShpL w1 w0.heap.size w.heap.size t cs :=
  ⟨x, (h.below hb).mono fun b h => ⟨⟨h.1, h.2.1⟩, h.2.2.below hb⟩⟩
theorem keep_slice {w : World} {a p : Addr} {k : IntKind} {n n' : Int} {A : Option Addr} {l c : Nat} (hc : w.cell? a = some (.int k n)) (hp : w.cell? p = some (.slice A l c)) : (w.setCell a (.int k n')).cell? p = some (.slice A l c) := by
  rw [World.cell?_setCell_other (h := fun e => by subst e; rw [hc] at hp; cases hp)]
  exact hp
theorem may_row {w : World} {lo hi b off k j LY N2 c c2 : Nat} {A2 : Option Addr} (h : ShpL w lo hi (.sl (.sl (.sl .byte))) [.slice (some ⟨b, off, none⟩) LY c]) (hk : k < LY) (hq : w.cell? ⟨b, off + k, none⟩ = some (.slice A2 N2 c2)) (hj : j < N2) :
    ∃ b2 off2 A6 N3 c6, A2 = some ⟨b2, off2, none⟩ ∧ w.cell? ⟨b2, off2 + j, none⟩ = some (.slice A6 N3 c6) ∧ (0 < N3 → ∃ b3 off3 x, A6 = some ⟨b3, off3, none⟩ ∧ (lo ≤ b3 ∧ b3 < hi) ∧ Live w b3 ∧ w.cell? ⟨b3, off3, none⟩ = some (.int .u8 x)) := by
  obtain ⟨zs, hz⟩ := h.may
  obtain ⟨A3, c3, e3, _, _, hr3⟩ := view3 hz
  injection e3 with e31 e32 e33
  obtain ⟨b', off', e4, _, hrow⟩ := hr3 (by omega)
  rw [← e31] at e4
  injection e4 with e4
  injection e4 with e41 e42
  subst e41 e42
  obtain ⟨A4, c4, q4, r4⟩ := hrow k (by omega)
  rw [hq] at q4
  injection q4 with q4
  injection q4 with q41 q42 q43
  obtain ⟨A5, c5, e5, _, _, hr5⟩ := view2 r4
  injection e5 with e51 e52 e53
  obtain ⟨b2, off2, e6, _, hrow2⟩ := hr5 (by omega)
  obtain ⟨A6, c6, q6, r6⟩ := hrow2 j (by omega)
  refine ⟨b2, off2, A6, _, c6, q41.trans (e51.trans e6), q6, fun h0 => ?_⟩
  obtain ⟨A7, c7, e7, _, _, _, hh⟩ := rdin_sl.1 r6
  injection e7 with e7 _
  injection e7 with e71 e72 e73
  rcases hh with hh | ⟨b3, off3, e8, ⟨hb3, lv3⟩, hc3⟩
  · exfalso
    rw [hh] at h0
    exact absurd h0 (Nat.lt_irrefl 0)
  · obtain ⟨es, hce, hre⟩ := hc3 0 h0
    have hce0 := hce 0 (by decide)
    rw [rdin_byte.1 hre] at hce0
    exact ⟨b3, off3, _, e71.trans e8, hb3, lv3, hce0⟩
theorem going_row {w : World} {lo hi j m d : Nat} {B : Option Addr} (h : ShpL w lo hi (.sl GoTy) [.slice B m d]) (hj : j < m) :
    ∃ b off Ab Nb cb Am Nm cm, B = some ⟨b, off, none⟩ ∧ w.cell? ⟨b, off + j * 6 + 4, none⟩ = some (.slice Ab Nb cb) ∧ w.cell? ⟨b, off + j * 6 + 5, none⟩ = some (.slice Am Nm cm) ∧ Nm ≤ maxLen ∧
      (0 < Nb → ∃ b3 off3 x, Ab = some ⟨b3, off3, none⟩ ∧ (lo ≤ b3 ∧ b3 < hi) ∧ Live w b3 ∧ w.cell? ⟨b3, off3, none⟩ = some (.int .u8 x)) ∧
      (0 < Nm → ∃ b4 off4, Am = some ⟨b4, off4, none⟩ ∧ (lo ≤ b4 ∧ b4 < hi) ∧ Live w b4 ∧ ∀ q, q < Nm → ∃ x, w.cell? ⟨b4, off4 + q, none⟩ = some (.int .i64 x)) := by
  obtain ⟨gs, hg⟩ := h.goings
  obtain ⟨A1, c1, e1, _, _, hr1⟩ := viewG hg
  injection e1 with e11 e12 e13
  obtain ⟨b, off, e2, _, hrow⟩ := hr1 (by omega)
  obtain ⟨es, hc, rg⟩ := hrow j (by omega)
  obtain ⟨nu, ki, at', many, bs, vd, ms, vm, eg, rfl, i0, i1, i2, Rb, Rm⟩ := going_view rg
  obtain ⟨Ab, cb, e3, _, _, _, hb⟩ := rdin_sl.1 Rb
  obtain ⟨Am, cm, e4, h5, h6, _, hm⟩ := rdin_sl.1 Rm
  have e3' := (List.cons.inj e3).1
  have e4' := (List.cons.inj e4).1
  refine ⟨b, off, Ab, _, cb, Am, _, cm, e11.trans e2, (hc 4 (by decide)).trans (congrArg some e3'), (hc 5 (by decide)).trans (congrArg some e4'), Nat.le_trans h5 h6, fun h0 => ?_, fun h0 => ?_⟩
  · rcases hb with hb | ⟨b3, off3, e8, ⟨hb3, lv3⟩, hc3⟩
    · rw [hb] at h0; exact absurd h0 (Nat.lt_irrefl 0)
    · obtain ⟨es, hce, hre⟩ := hc3 0 h0
      have hce0 := hce 0 (by decide)
      rw [rdin_byte.1 hre] at hce0
      exact ⟨b3, off3, _, e8, hb3, lv3, hce0⟩
  · rcases hm with hm | ⟨b4, off4, e8, ⟨hb4, lv4⟩, hc4⟩
    · rw [hm] at h0; exact absurd h0 (Nat.lt_irrefl 0)
    · refine ⟨b4, off4, e8, hb4, lv4, fun q hq => ?_⟩
      obtain ⟨es, hce, hre⟩ := hc4 q hq
      have hce0 := hce 0 (by decide)
      rw [(rdin_int.1 hre).1] at hce0
      have e9 : off4 + q * Ty.size .int + 0 = off4 + q := by show off4 + q * 1 + 0 = _; omega
      rw [e9] at hce0
      exact ⟨_, hce0⟩
theorem mark_row {w : World} {lo hi b off j m d q Nm cm : Nat} {Am : Option Addr} (h : ShpL w lo hi (.sl GoTy) [.slice (some ⟨b, off, none⟩) m d]) (hj : j < m) (hc : w.cell? ⟨b, off + j * 6 + 5, none⟩ = some (.slice Am Nm cm)) (hq : q < Nm) :
    ∃ b4 off4 x, Am = some ⟨b4, off4, none⟩ ∧ (lo ≤ b4 ∧ b4 < hi) ∧ Live w b4 ∧ w.cell? ⟨b4, off4 + q, none⟩ = some (.int .i64 x) := by
  obtain ⟨b', off', Ab, Nb, cb, Am', Nm', cm', e, _, h5, _, _, h6⟩ := going_row h hj
  injection e with e
  injection e with e1 e2
  subst e1 e2
  rw [hc] at h5
  injection h5 with h5
  injection h5 with h51 h52 h53
  subst h51 h52 h53
  obtain ⟨b4, off4, e4, hb, lv, hx⟩ := h6 (by omega)
  obtain ⟨x, hx⟩ := hx q hq
  exact ⟨b4, off4, x, e4, hb, lv, hx⟩
theorem box_ne {w : World} {g b o : Nat} {A B : Option Addr} {n c m d : Nat} {t : TypeId} {k : IntKind} {x : Int} (P : BoxOf w g #[.slice A n c, .slice B m d] t) (hx : w.cell? ⟨b, o, none⟩ = some (.int k x)) : g ≠ b := by
  rintro rfl
  rw [P.cell] at hx
  rcases o with _ | _ | o
  · cases hx
  · cases hx
  · simp at hx
theorem wrap_u8 (n : Int) : InK .u8 (IntKind.u8.wrap n) := by
  show 0 ≤ IntKind.u8.wrap n ∧ IntKind.u8.wrap n < 256
  have e : IntKind.u8.wrap n = n % 256 := by simp [IntKind.wrap, IntKind.bits, IntKind.signed]
  rw [e]
  omega

set_option maxRecDepth 100000 in
set_option maxHeartbeats 2000000 in
theorem turn_any (lo hi : Nat) (A : Option Addr) (n c : Nat) (B : Option Addr) (m d : Nat) (w : World) (h1 : ShpL w lo hi (.sl (.sl (.sl .byte))) [.slice A n c]) (h2 : ShpL w lo hi (.sl GoTy) [.slice B m d]) (hlh : lo ≤ hi) (hb : hi ≤ w.heap.size) :
    Calls Try.prog 16 #[.agg #[.slice A n c, .slice B m d]] w fun e w' => (∃ v, e = .returned v) ∧ Within lo hi w w' := by
  have P0 := BoxOf.new w #[.slice A n c, .slice B m d] 28
  have t0 := Within.alloc (Within.refl lo hi w) (Nat.le_trans hlh hb) (.cells #[.slice A n c, .slice B m d] 28)
  have b0 := Ext.alloc (Below.refl w.heap.size w) (.cells #[.slice A n c, .slice B m d] 28)
  have s1 := h1.below b0
  have s2 := h2.below b0
  have HGM : Hid (m ≤ maxLen) := by
    obtain ⟨gs, hg⟩ := h2.goings
    obtain ⟨_, _, e, hm, _⟩ := viewG hg
    injection e with _ e _
    show m ≤ maxLen
    omega
  clear h1 h2 b0
  go_enter Try.func16, Try.ntmps16
  go_upto_region 1 with fail
  generalize w.alloc (.cells #[.slice A n c, .slice B m d] 28) = W at *
  go_wp2
  go_loopw [2] (fun i wr => ∃ k : Nat, k ≤ n ∧ i = .int .i64 k ∧ Within lo hi w wr ∧ BoxOf wr w.heap.size #[.slice A n c, .slice B m d] 28 ∧ ShpL wr lo hi (.sl (.sl (.sl .byte))) [.slice A n c] ∧ ShpL wr lo hi (.sl GoTy) [.slice B m d]) (fun i _ => n - (intOf i).toNat)
  case atStart => exact ⟨0, by omega, rfl, t0, P0, s1, s2⟩
  case round =>
    obtain ⟨k, hk, rfl, t1, P1, s3, s4⟩ := hrel
    clear t0 P0 s1 s2
    have x1 := P1.cell
    by_cases hlt : k < n
    · obtain ⟨ys, hy⟩ := s3.may
      obtain ⟨A1, c1, e1, hym, _, hr1⟩ := view3 hy
      injection e1 with e11 e12 e13
      subst e11 e13
      obtain ⟨b, off, rfl, hS, hrow⟩ := hr1 (by omega)
      obtain ⟨A2, c2, q2, r2⟩ := hrow k (by omega)
      clear hr1 hrow
      have s3 : ShpL wr lo hi (.sl (.sl (.sl .byte))) [.slice (some ⟨b, off, none⟩) n c] := ⟨ys, hy⟩
      have hym : n ≤ maxLen := by omega
      obtain ⟨N2, hN2⟩ : ∃ z : Nat, z = (ys[k]'(by omega)).length := ⟨_, rfl⟩
      rw [← hN2] at q2
      have hNm : N2 ≤ maxLen := by
        obtain ⟨_, _, _, h, _⟩ := view2 r2
        rw [hN2]; exact h
      have HNM := Lib.hid hNm
      have HYM := Lib.hid hym
      clear r2 hN2 hS hy hym hNm e12
      go_wp2
      go_loopw [3] (fun i wq => ∃ j : Nat, j ≤ N2 ∧ i = .int .i64 j ∧ Within lo hi w wq ∧ BoxOf wq w.heap.size #[.slice (some ⟨b, off, none⟩) n c, .slice B m d] 28 ∧ ShpL wq lo hi (.sl (.sl (.sl .byte))) [.slice (some ⟨b, off, none⟩) n c] ∧ ShpL wq lo hi (.sl GoTy) [.slice B m d] ∧ wq.cell? ⟨b, off + k, none⟩ = some (.slice A2 N2 c2)) (fun i _ => N2 - (intOf i).toNat)
      case atStart => exact ⟨0, by omega, rfl, t1, P1, s3, s4, q2⟩
      case round =>
        obtain ⟨j, hj, rfl, t2, P2, s5, s6, q3⟩ := hrel
        clear x1 P1 s3 s4 t1 q2
        have x2 := P2.cell
        by_cases hltj : j < N2
        · obtain ⟨b2, off2, A6, N3, c6, rfl, q6, hbyte⟩ := may_row s5 hlt q3 hltj
          have HLT := Lib.hid hltj
          have HWJ : Hid (wrap64 ((j : Int) + 1) = ((j + 1 : Nat) : Int)) := by show _ = _; rw [IntWalk.wrap64_in _ (by have h := HNM.out; unfold maxLen at h; omega)]; omega
          clear hj hk
          by_cases h0 : 0 < N3
          · obtain ⟨b3, off3, x, rfl, hb3, lv3, hx⟩ := hbyte h0
            have fz := lv3.free off3
            have HB3 := Lib.hid hb3
            have h0I : (0 : Int) < (N3 : Int) := by omega
            clear hbyte hb3 lv3
            have HX := Lib.hid hx
            have hk8 : InK .u8 ((x + 1) % 256) := by show (0 : Int) ≤ _ ∧ _ < (256 : Int); omega
            have s7 := (s5.num hx hk8).below (Ext.drew (Below.refl _ _))
            have s8 := (s6.num hx hk8).below (Ext.drew (Below.refl _ _))
            have P3 := BoxOf.drew (mbox_else P2 (box_ne P2 hx) off3 (.int .u8 ((x + 1) % 256)))
            have q7 := keep_slice (n' := (x + 1) % 256) hx q3
            have HQ := Lib.hid q7
            have t3 := (Within.setCell (p := ⟨b3, off3, none⟩) t2 HB3.out (.int .u8 ((x + 1) % 256))).drew
            clear hk8 q7
            go_wp2
            go_region
            go_wp2
            go_roundw
            case rel => exact ⟨j + 1, HLT.out, round_same HWJ, t3, P3, s7, s8, HQ.out⟩
            case measure => exact round_less HWJ HLT.out
          · have h0I : ¬ (0 : Int) < (N3 : Int) := by omega
            clear hbyte
            go_wp2
            go_roundw
            case rel => exact ⟨j + 1, HLT.out, round_same HWJ, t2, P2, s5, s6, q3⟩
            case measure => exact round_less HWJ HLT.out
        · have HKL := Lib.hid hlt
          have HWK : Hid (wrap64 ((k : Int) + 1) = ((k + 1 : Nat) : Int)) := by show _ = _; rw [IntWalk.wrap64_in _ (by have h := HYM.out; unfold maxLen at h; omega)]; omega
          clear hj hk
          go_wp2
          go_roundw
          case rel => exact ⟨k + 1, HKL.out, by first | exact round_same HWK | go_num, t2, P2, s5, s6⟩
          case measure => first | exact round_less HWK HKL.out | (have h := HKL.out; simp [intOf]; omega)
    · have HK := Lib.hid hk
      have hle : ¬ (k : Int) < (n : Int) := by omega
      clear hk hlt s3
      go_wp2
      clear hle
      go_loopw [4] (fun i wr => ∃ k : Nat, k ≤ m ∧ i = .int .i64 k ∧ Within lo hi w wr ∧ BoxOf wr w.heap.size #[.slice A n c, .slice B m d] 28 ∧ ShpL wr lo hi (.sl GoTy) [.slice B m d]) (fun i _ => m - (intOf i).toNat)
      case atStart => exact ⟨0, by omega, rfl, t1, P1, s4⟩
      case round =>
        obtain ⟨j, hj, rfl, t2, P2, s6⟩ := hrel
        clear t1 P1 s4 x1
        have x2 := P2.cell
        by_cases hlt : j < m
        · obtain ⟨b, off, Ab, Nb, cb, Am, Nm, cm, rfl, q4, q5, hNm, hbyte, hmark⟩ := going_row s6 hlt
          have HNM := Lib.hid hNm
          have HLT := Lib.hid hlt
          have HWJ : Hid (wrap64 ((j : Int) + 1) = ((j + 1 : Nat) : Int)) := by show _ = _; rw [IntWalk.wrap64_in _ (by have h := HGM.out; unfold maxLen at h; omega)]; omega
          clear hj hNm hmark
          by_cases h0 : 0 < Nb
          · obtain ⟨b3, off3, x, rfl, hb3, lv3, hx⟩ := hbyte h0
            have fz := lv3.free off3
            have HB3 := Lib.hid hb3
            have h0I : (0 : Int) < (Nb : Int) := by omega
            clear hbyte hb3 lv3
            have HX := Lib.hid hx
            have hk8 : InK .u8 ((x + 1) % 256) := by show (0 : Int) ≤ _ ∧ _ < (256 : Int); omega
            have s8 := (s6.num hx hk8).below (Ext.drew (Below.refl _ _))
            have P3 := BoxOf.drew (mbox_else P2 (box_ne P2 hx) off3 (.int .u8 ((x + 1) % 256)))
            have q7 := keep_slice (n' := (x + 1) % 256) hx q5
            have HQ := Lib.hid q7
            have t3 := (Within.setCell (p := ⟨b3, off3, none⟩) t2 HB3.out (.int .u8 ((x + 1) % 256))).drew
            clear hk8 q7
            go_wp2
            go_region
            go_wp2
            go_loopw [5] (fun i wq => ∃ q : Nat, q ≤ Nm ∧ i = .int .i64 q ∧ Within lo hi w wq ∧ BoxOf wq w.heap.size #[.slice A n c, .slice (some ⟨b, off, none⟩) m d] 28 ∧ ShpL wq lo hi (.sl GoTy) [.slice (some ⟨b, off, none⟩) m d] ∧ wq.cell? ⟨b, off + j * 6 + 5, none⟩ = some (.slice Am Nm cm)) (fun i _ => Nm - (intOf i).toNat)
            case atStart => exact ⟨0, by omega, rfl, t3, P3, s8, HQ.out⟩
            case round =>
              obtain ⟨q, hq, rfl, t5, P5, s9, q9⟩ := hrel
              have HQJ := HLT.out
              have x5 := P5.cell
              by_cases hltq : q < Nm
              · obtain ⟨b4, off4, x4, rfl, hb4, lv4, hx4⟩ := mark_row s9 HQJ q9 hltq
                have fz4 := lv4.free (off4 + q)
                have HX4 := Lib.hid hx4
                have hk9 : InK .i64 99 := by show IsInt 99; unfold IsInt; omega
                have s10 := s9.num hx4 hk9
                have P6 := mbox_else P5 (box_ne P5 hx4) (off4 + q) (.int .i64 99)
                have q10 := keep_slice (n' := 99) hx4 q9
                have HQ9 := Lib.hid q10
                have t6 := Within.setCell (p := ⟨b4, off4 + q, none⟩) t5 hb4 (.int .i64 99)
                have HLQ := Lib.hid hltq
                have HWQ : Hid (wrap64 ((q : Int) + 1) = ((q + 1 : Nat) : Int)) := by show _ = _; rw [IntWalk.wrap64_in _ (by have h := HNM.out; unfold maxLen at h; omega)]; omega
                clear hk9 q10 hb4 hq
                go_wp2
                go_roundw
                case rel => exact ⟨q + 1, HLQ.out, round_same HWQ, t6, P6, s10, HQ9.out⟩
                case measure => exact round_less HWQ HLQ.out
              · clear hq
                go_wp2
                go_roundw
                case rel => exact ⟨j + 1, HLT.out, by first | exact round_same HWJ | go_num, t5, P5, s9⟩
                case measure => first | exact round_less HWJ HLT.out | (have h := HLT.out; simp [intOf]; omega)
          · have h0I : ¬ (0 : Int) < (Nb : Int) := by omega
            clear hbyte
            go_wp2
            go_loopw [5] (fun i wq => ∃ q : Nat, q ≤ Nm ∧ i = .int .i64 q ∧ Within lo hi w wq ∧ BoxOf wq w.heap.size #[.slice A n c, .slice (some ⟨b, off, none⟩) m d] 28 ∧ ShpL wq lo hi (.sl GoTy) [.slice (some ⟨b, off, none⟩) m d] ∧ wq.cell? ⟨b, off + j * 6 + 5, none⟩ = some (.slice Am Nm cm)) (fun i _ => Nm - (intOf i).toNat)
            case atStart => exact ⟨0, by omega, rfl, t2, P2, s6, q5⟩
            case round =>
              obtain ⟨q, hq, rfl, t5, P5, s9, q9⟩ := hrel
              have HQJ := HLT.out
              have x5 := P5.cell
              by_cases hltq : q < Nm
              · obtain ⟨b4, off4, x4, rfl, hb4, lv4, hx4⟩ := mark_row s9 HQJ q9 hltq
                have fz4 := lv4.free (off4 + q)
                have HX4 := Lib.hid hx4
                have hk9 : InK .i64 99 := by show IsInt 99; unfold IsInt; omega
                have s10 := s9.num hx4 hk9
                have P6 := mbox_else P5 (box_ne P5 hx4) (off4 + q) (.int .i64 99)
                have q10 := keep_slice (n' := 99) hx4 q9
                have HQ9 := Lib.hid q10
                have t6 := Within.setCell (p := ⟨b4, off4 + q, none⟩) t5 hb4 (.int .i64 99)
                have HLQ := Lib.hid hltq
                have HWQ : Hid (wrap64 ((q : Int) + 1) = ((q + 1 : Nat) : Int)) := by show _ = _; rw [IntWalk.wrap64_in _ (by have h := HNM.out; unfold maxLen at h; omega)]; omega
                clear hk9 q10 hb4 hq
                go_wp2
                go_roundw
                case rel => exact ⟨q + 1, HLQ.out, round_same HWQ, t6, P6, s10, HQ9.out⟩
                case measure => exact round_less HWQ HLQ.out
              · clear hq
                go_wp2
                go_roundw
                case rel => exact ⟨j + 1, HLT.out, by first | exact round_same HWJ | go_num, t5, P5, s9⟩
                case measure => first | exact round_less HWJ HLT.out | (have h := HLT.out; simp [intOf]; omega)
        · have HJ := Lib.hid hj
          clear hj
          go_wp2
          first | (refine bodyPost_ret (results_none rfl _ _ _) rfl ?_) | (refine bodyPost_end (results_none rfl _ _ _) rfl ?_)
          exact ⟨⟨_, rfl⟩, t2⟩
end Go.Proofs.Ytclbihcggjjgaaa
