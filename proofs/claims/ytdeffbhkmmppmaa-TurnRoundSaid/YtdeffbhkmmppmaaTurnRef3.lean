/- Layer 7 (turn): the document's answers: where a block stands. -/
import Derived.Test.YtdeffbhkmmppmaaTurnRef2
namespace Go.Proofs.Ytdeffbhkmmppmaa
open Go.RowKit
set_option linter.unusedSimpArgs false

set_option maxRecDepth 100000 in
theorem rspot_err (x : Cfg) (b n E : Int) (hE : (E != 0) = true) (HS : ∀ W, Calls Try.prog 30 #[x.val] W fun e w' => e = .returned (.int .i64 n) ∧ Below W.heap.size W w')
    (HA : ∀ W, Calls Try.prog 29 #[x.val, .int .i64 b, .int .i64 n, .int .i64 0, .int .i64 1] W fun e w' => e = .returned (.int .i64 E) ∧ Below W.heap.size W w') (w : World) :
    Calls Try.prog 16 #[x.val, .int .i64 b] w fun e w' => e = .returned (.tuple #[.agg #[.int .i64 (0), .int .i64 (0), .int .i64 (0)], .int .i64 E]) ∧ Below w.heap.size w w' := by
  have HS' := Lib.hid HS
  have HA' := Lib.hid HA
  clear HS HA
  obtain ⟨id, m, c, r, l, h⟩ := x
  unfold Cfg.val at *
  dsimp only at *
  go_enter Try.func16, Try.ntmps16
  go_wp2_with fail
  have A1 := BoxOf.alloc (BoxOf.new w #[.int .u32 (id : Int), .int .i64 m, .int .i64 c, .int .i64 r, .int .i64 l, .int .i64 h] 24) (.cells #[.int .i64 (0), .int .i64 (0), .int .i64 (0)] 27)
  have B1 := BoxOf.new' (w.alloc (.cells #[.int .u32 (id : Int), .int .i64 m, .int .i64 c, .int .i64 r, .int .i64 l, .int .i64 h] 24)) (w.heap.size + 1) #[.int .i64 (0), .int .i64 (0), .int .i64 (0)] 27 (by simp)
  have b0 := Ext.alloc (Ext.alloc (Below.refl w.heap.size w) (.cells #[.int .u32 (id : Int), .int .i64 m, .int .i64 c, .int .i64 r, .int .i64 l, .int .i64 h] 24)) (.cells #[.int .i64 (0), .int .i64 (0), .int .i64 (0)] 27)
  have x0 := A1.cell
  generalize (w.alloc (.cells #[.int .u32 (id : Int), .int .i64 m, .int .i64 c, .int .i64 r, .int .i64 l, .int .i64 h] 24)).alloc (.cells #[.int .i64 (0), .int .i64 (0), .int .i64 (0)] 27) = w0 at A1 B1 b0 x0 ⊢
  go_region_held3 (fun w' => Below w.heap.size w w' ∧ BoxOf w' (w.heap.size + 1) #[.int .i64 (0), .int .i64 (0), .int .i64 (0)] 27 ∧ BoxOf w' w.heap.size #[.int .u32 (id : Int), .int .i64 m, .int .i64 c, .int .i64 r, .int .i64 l, .int .i64 h] 24 ∧ ∀ o, w'.cell? ⟨w.heap.size, o, none⟩ = #[.int .u32 (id : Int), .int .i64 m, .int .i64 c, .int .i64 r, .int .i64 l, .int .i64 h].toList[o]?)
    (first | exact ⟨Ext.drew b0, B1.drew, A1.drew, x0⟩ | exact ⟨Ext.trans (And.left (by assumption)) k3, BoxOf.next (And.left (And.right (by assumption))) k3, BoxOf.next (And.left (And.right (And.right (by assumption)))) k3, (BoxOf.next (And.left (And.right (And.right (by assumption)))) k3).cell⟩ | assumption)
    (first | (go_at_call 30; refine (HS'.out _).mono ?_; rintro e w3 ⟨rfl, k3⟩) | (go_at_call 29; refine (HA'.out _).mono ?_; rintro e w3 ⟨rfl, k3⟩))
  rename_i hH
  obtain ⟨bH, BH, AH, xH⟩ := hH
  clear b0 B1 A1 x0
  have B2 := Lib.hid BH
  clear BH AH xH
  go_wp2_with (refine wpList_store_rowTo rfl 27 (.tmp 4) (.tmp 16) rfl rfl (w.heap.size + 1) #[.int .i64 (0), .int .i64 (0), .int .i64 (0)] rfl rfl 27 #[.int .i64 (0), .int .i64 (0), .int .i64 (0)] B2.out (by kernel_rfl) rfl (by kernel_rfl) ?_)
  exact bodyPost_ret (v := .tuple #[.agg #[.int .i64 (0), .int .i64 (0), .int .i64 (0)], .int .i64 E]) (Eq.trans (results_row2 (P := Try.prog) (fn := Try.f16) (p := 4) (u := 5) (ty := 27) rfl _ _ (w.heap.size + 1) 27 #[.int .i64 (0), .int .i64 (0), .int .i64 (0)] (0, 0) _ rfl (B2.out.set _) Try.underlying27 rfl (by kernel_rfl)) rfl) rfl ⟨rfl, Ext.setRow bH (by omega) _⟩

set_option maxRecDepth 100000 in
theorem rspot_ok (x : Cfg) (hx : x.Ok) (b : Int) (h1 : 0 ≤ b ∧ b < x.c * x.r * (x.m - 1)) (w : World) :
    Calls Try.prog 16 #[x.val, .int .i64 b] w fun e w' => e = .returned (.tuple #[.agg #[.int .i64 (b / x.c / (x.m - 1) * x.c + b % x.c), .int .i64 (b / x.c % (x.m - 1)), .int .i64 ((x.m - 1 - b / x.c / (x.m - 1) % x.m + 1 + b / x.c % (x.m - 1)) % x.m)], .int .i64 0]) ∧ Below w.heap.size w w' := by
  have HS' := Lib.hid (rblocks_ok x hx)
  have HA' := Lib.hid (asked_ok x hx b (x.c * x.r * (x.m - 1)) 0 1 h1 (by omega))
  have HT' := Lib.hid (rstripes_ok x hx)
  obtain ⟨hm1, hm2, hc1, hc2, hr1, hr2⟩ := Cfg.four hx
  have hcr := Cfg.cr hx
  obtain ⟨p1, p2, p3, p4, p5⟩ := spot_in hc1 hm1 h1
  have HL := Lib.hid (fun s k hs hk W => rat_ok x hx s k hs hk W)
  have HI := Lib.hid (fun s k => at_inj (c := x.c) (m := x.m) (s := s) (k := k) (b := b) hc1 hm1)
  have hrow := row_lt hc1 p1
  have HO := Lib.hid (on_low x hx _ _ p1 p2)
  have HM : (x.m - 1 - b / x.c / (x.m - 1) % x.m + 1 + b / x.c % (x.m - 1)) % x.m = _ := member_on (m := x.m) (row := b / x.c / (x.m - 1)) ⟨hm1, hm2⟩ ⟨by rw [← p3]; exact hrow.1, by rw [← p3]; omega⟩ p2
  rw [HM]
  clear HM hrow
  rw [p3] at HO
  obtain ⟨id, m, c, r, l, h⟩ := x
  unfold Cfg.val at *
  dsimp only at *
  clear hx h1
  generalize c * r * (m - 1) = nb at *
  generalize hn : c * r = n at *
  generalize hs : b / c / (m - 1) * c + b % c = s0 at *
  generalize hk : b / c % (m - 1) = k0 at *
  generalize hv : (b / c / (m - 1) * (m - 1) + k0) % m = v at *
  clear hn hs hk hv p3 p4
  have HP := Lib.hid p5
  clear p5
  obtain ⟨p11, p12⟩ := p1
  obtain ⟨p21, p22⟩ := p2
  go_enter Try.func16, Try.ntmps16
  go_wp2_with fail
  have A1 := BoxOf.alloc (BoxOf.new w #[.int .u32 (id : Int), .int .i64 m, .int .i64 c, .int .i64 r, .int .i64 l, .int .i64 h] 24) (.cells #[.int .i64 (0), .int .i64 (0), .int .i64 (0)] 27)
  have B1 := BoxOf.new' (w.alloc (.cells #[.int .u32 (id : Int), .int .i64 m, .int .i64 c, .int .i64 r, .int .i64 l, .int .i64 h] 24)) (w.heap.size + 1) #[.int .i64 (0), .int .i64 (0), .int .i64 (0)] 27 (by simp)
  have b0 := Ext.alloc (Ext.alloc (Below.refl w.heap.size w) (.cells #[.int .u32 (id : Int), .int .i64 m, .int .i64 c, .int .i64 r, .int .i64 l, .int .i64 h] 24)) (.cells #[.int .i64 (0), .int .i64 (0), .int .i64 (0)] 27)
  have x0 := A1.cell
  generalize (w.alloc (.cells #[.int .u32 (id : Int), .int .i64 m, .int .i64 c, .int .i64 r, .int .i64 l, .int .i64 h] 24)).alloc (.cells #[.int .i64 (0), .int .i64 (0), .int .i64 (0)] 27) = w0 at A1 B1 b0 x0 ⊢
  go_region_held3 (fun w' => Below w.heap.size w w' ∧ BoxOf w' (w.heap.size + 1) #[.int .i64 (0), .int .i64 (0), .int .i64 (0)] 27 ∧ BoxOf w' w.heap.size #[.int .u32 (id : Int), .int .i64 m, .int .i64 c, .int .i64 r, .int .i64 l, .int .i64 h] 24 ∧ ∀ o, w'.cell? ⟨w.heap.size, o, none⟩ = #[.int .u32 (id : Int), .int .i64 m, .int .i64 c, .int .i64 r, .int .i64 l, .int .i64 h].toList[o]?)
    (first | exact ⟨Ext.drew b0, B1.drew, A1.drew, x0⟩ | exact ⟨Ext.trans (And.left (by assumption)) k3, BoxOf.next (And.left (And.right (by assumption))) k3, BoxOf.next (And.left (And.right (And.right (by assumption)))) k3, (BoxOf.next (And.left (And.right (And.right (by assumption)))) k3).cell⟩ | assumption)
    (first | (go_at_call 30; refine (HS'.out _).mono ?_; rintro e w3 ⟨rfl, k3⟩) | (go_at_call 29; refine (HA'.out _).mono ?_; rintro e w3 ⟨rfl, k3⟩))
  rename_i hH
  obtain ⟨bH, BH, AH, xH⟩ := hH
  clear b0 B1 A1 x0
  have B2 := Lib.hid BH
  have A2 := Lib.hid AH
  clear BH AH xH
  go_wp2
  go_loopw [7, 8] (fun i _ wr => ∃ q : Nat, (q : Int) ≤ s0 ∧ i = .int .i64 q ∧ Below w.heap.size w wr ∧ BoxOf wr (w.heap.size + 1) #[.int .i64 (0), .int .i64 (0), .int .i64 (0)] 27 ∧ BoxOf wr w.heap.size #[.int .u32 (id : Int), .int .i64 m, .int .i64 c, .int .i64 r, .int .i64 l, .int .i64 h] 24) (fun i _ _ => n.toNat - (intOf i).toNat)
  case atStart => exact ⟨0, by omega, rfl, bH, B2.out, A2.out⟩
  case round =>
    obtain ⟨q, hq, rfl, bk, Bk, Ak⟩ := hrel
    have xk := Ak.cell
    have hqn : (q : Int) < n := by omega
    have HB := Lib.hid Bk
    have HA := Lib.hid Ak
    clear Bk Ak B2 A2
    obtain ⟨wo, rfl⟩ : ∃ wo : World, wo = wr := ⟨_, rfl⟩
    go_wp2_with fail
    refine (HT'.out _).mono ?_
    rintro e w1 ⟨rfl, b1⟩
    have B1 := Lib.hid (HB.out.next b1)
    have A1 := Lib.hid (HA.out.next b1)
    have bt := Ext.trans bk b1
    clear HB HA bk b1 xk
    go_wp2
    go_loopw [8] (fun i wr => ∃ p : Nat, (p : Int) ≤ m - 1 ∧ i = .int .i64 p ∧ ((q : Int) = s0 → (p : Int) ≤ k0) ∧ Below w.heap.size w wr ∧ BoxOf wr (w.heap.size + 1) #[.int .i64 (0), .int .i64 (0), .int .i64 (0)] 27 ∧ BoxOf wr w.heap.size #[.int .u32 (id : Int), .int .i64 m, .int .i64 c, .int .i64 r, .int .i64 l, .int .i64 h] 24) (fun i _ => m.toNat - (intOf i).toNat)
    case atStart => exact ⟨0, by omega, rfl, fun _ => by omega, bt, B1.out, A1.out⟩
    case round =>
      obtain ⟨p, hp, rfl, hpk, bk, Bk, Ak⟩ := hrel
      have xk := Ak.cell
      have HB := Lib.hid Bk
      have HA := Lib.hid Ak
      have HPK := Lib.hid hpk
      clear Bk Ak B1 A1 hpk
      by_cases hlt : (p : Int) < m - 1
      · have HLk := Lib.hid (HL.out q p ⟨by omega, hqn⟩ ⟨by omega, hlt⟩)
        have hinj := fun e => HI.out q p ⟨by omega, hlt⟩ e
        by_cases hyes : (q : Int) = s0 ∧ (p : Int) = k0
        · obtain ⟨e1, e2⟩ := hyes
          subst e1
          subst e2
          have ht : (((q : Int) / c * (m - 1) + (p : Int)) * c + (q : Int) % c == b) = true := beq_iff_eq.2 HP.out
          have HTT := Lib.hid ht
          clear hinj ht
          go_wp2_with fail
          refine (HLk.out _).mono ?_
          rintro e w2 ⟨rfl, b2⟩
          have ht := HTT.out
          have B3 := HB.out.next b2
          have A3 := HA.out.next b2
          have bt3 := Ext.trans bk b2
          have x3 := A3.cell
          clear HB HA bk b2 xk
          go_wp2_with fail
          refine (HO.out _).mono ?_
          rintro e w3 ⟨rfl, b3⟩
          have B4 := Lib.hid (B3.next b3)
          have bt4 := Ext.trans bt3 b3
          clear x3 A3 B3 b3 ht
          go_wp2_with (refine wpList_store_rowTo rfl 27 (.tmp 4) (.tmp 43) rfl rfl (w.heap.size + 1) #[.int .i64 ((q : Int)), .int .i64 ((p : Int)), .int .i64 (v)] rfl rfl 27 #[.int .i64 (0), .int .i64 (0), .int .i64 (0)] B4.out (by kernel_rfl) rfl (by kernel_rfl) ?_)
          exact bodyPost_ret (v := .tuple #[.agg #[.int .i64 ((q : Int)), .int .i64 ((p : Int)), .int .i64 (v)], .int .i64 0]) (Eq.trans (results_row2 (P := Try.prog) (fn := Try.f16) (p := 4) (u := 5) (ty := 27) rfl _ _ (w.heap.size + 1) 27 #[.int .i64 ((q : Int)), .int .i64 ((p : Int)), .int .i64 (v)] (0, 0) _ rfl (B4.out.set _) Try.underlying27 rfl (by kernel_rfl)) rfl) rfl ⟨rfl, Ext.setRow bt4 (by omega) _⟩
        · have ht : (((q : Int) / c * (m - 1) + (p : Int)) * c + (q : Int) % c == b) = false := beq_eq_false_iff_ne.2 (fun e => hyes ⟨(hinj e).1.symm, (hinj e).2.symm⟩)
          have HNO := Lib.hid hyes
          have HTT := Lib.hid ht
          clear hinj hyes ht
          go_wp2_with fail
          refine (HLk.out _).mono ?_
          rintro e w2 ⟨rfl, b2⟩
          have ht := HTT.out
          have B3 := Lib.hid (HB.out.next b2)
          have A3 := Lib.hid (HA.out.next b2)
          have bt3 := Ext.trans bk b2
          clear HB HA bk b2 xk
          go_wp2
          go_roundw
          case rel => exact ⟨p + 1, by omega, by go_num, fun e => by have := HPK.out e; have := HNO.out; omega, bt3, B3.out, A3.out⟩
          case measure => simp [intOf]; omega
      · have hqs : (q : Int) ≠ s0 := fun e => by have := HPK.out e; omega
        go_wp2
        go_roundw
        case rel => exact ⟨q + 1, by omega, by go_num, bk, HB.out, HA.out⟩
        case measure => simp [intOf]; omega
end Go.Proofs.Ytdeffbhkmmppmaa
