/- What this claim needs of my texts, merged and shortened by a program (part 2). -/
import Derived.Deep.RegionHeld3
import Derived.Deep.RegionWith
import Derived.Maps.OwnOps
import Derived.Maps.Views
import Derived.Test.YtclbihcggjjgaaaZModelGoes1
namespace Go.Proofs.Ytclbihcggjjgaaa
open Go.RowKit
def inB (lo n hi : Int) : Bool:=decide (lo ≤ n ∧ n ≤ hi)
theorem inB_yes {lo n hi : Int} (h : lo ≤ n ∧ n ≤ hi) : inB lo n hi = true:=decide_eq_true h
theorem inB_no {lo n hi : Int} (h : ¬ (lo ≤ n ∧ n ≤ hi)) : inB lo n hi = false:=decide_eq_false h
theorem in_any (n lo hi : Int) (w : World) : Calls Try.prog 79 #[.int .i64 n,.int .i64 lo,.int .i64 hi] w fun e w'=>e = .returned (.bool (inB lo n hi)) ∧ w = w':=by
 by_cases h1 : lo ≤ n
 · have H : Hid (inB lo n hi = decide (n ≤ hi)):=by show _ = _;simp [inB,h1]
   go_enter Try.func79,Try.ntmps79
   go_wp2
   go_ret
   exact ⟨by rw [H.out];rfl,rfl⟩
 · have H : Hid (inB lo n hi = false):=by show _ = _;simp [inB,h1]
   have h2 : n < lo:=by omega
   clear h1
   go_enter Try.func79,Try.ntmps79
   go_wp2
   go_ret
   exact ⟨by rw [H.out];rfl,rfl⟩
theorem in_yes (n lo hi : Int) (h : lo ≤ n ∧ n ≤ hi) (w : World) : Calls Try.prog 79 #[.int .i64 n,.int .i64 lo,.int .i64 hi] w fun e w'=>e = .returned (.bool true) ∧ w = w':=by
 have:=in_any n lo hi w
 rwa [inB_yes h] at this
theorem in_no (n lo hi : Int) (h : ¬ (lo ≤ n ∧ n ≤ hi)) (w : World) : Calls Try.prog 79 #[.int .i64 n,.int .i64 lo,.int .i64 hi] w fun e w'=>e = .returned (.bool false) ∧ w = w':=by
 have:=in_any n lo hi w
 rwa [inB_no h] at this
theorem rneed_any (x : Cfg) (hm : 3 ≤ x.m ∧ x.m ≤ 16) (w : World) : Calls Try.prog 80 #[x.val] w fun e w'=>e = .returned (.int .i64 (x.m + 1)) ∧ Below w.heap.size w w':=by
 obtain ⟨h1,h2⟩:=hm
 obtain ⟨id,m,c,r,l,h⟩:=x
 unfold Cfg.val
 dsimp only at *
 go_enter Try.func80,Try.ntmps80
 go_wp2
 go_ret
 exact ⟨rfl,Ext.alloc (Below.refl _ _) _⟩
theorem may_plain (id : Nat) (m c r l h : Int) (hpl : Cfg.Plain ⟨id,m,c,r,l,h⟩) (w : World) : Calls Try.prog 62 #[(Cfg.mk id m c r l h).val] w fun e w'=>e = .returned (.bool (inB ((m + 1) * (h + 1)) l 255)) ∧ Below w.heap.size w w':=by
 have hB:=hpl
 unfold Cfg.Plain at hB
 dsimp only at hB
 obtain ⟨b1,b2,b3,b4,b5,b6,b7,b8⟩:=hB
 have hmul : (m + 1) * (h + 1) ≤ 153:=by
  have h1 : (m + 1) * (h + 1) ≤ 17 * (h + 1):=Int.mul_le_mul_of_nonneg_right (by omega) (by omega)
  omega
 have hmul0 : 0 ≤ (m + 1) * (h + 1):=Int.mul_nonneg (by omega) (by omega)
 have HN:=Lib.hid (rneed_any ⟨id,m,c,r,l,h⟩ ⟨b1,b2⟩)
 unfold Cfg.val at HN ⊢
 dsimp only at HN ⊢
 clear hpl
 go_enter Try.func62,Try.ntmps62
 go_wp2_with fail
 refine (in_yes m 3 16 ⟨b1,b2⟩ _).mono ?_
 rintro e _ ⟨rfl,rfl⟩
 go_wp2_with fail
 refine (in_yes c 1 8 ⟨b3,b4⟩ _).mono ?_
 rintro e _ ⟨rfl,rfl⟩
 go_wp2_with fail
 refine (in_yes r 1 8 ⟨b5,b6⟩ _).mono ?_
 rintro e _ ⟨rfl,rfl⟩
 go_wp2_with fail
 refine (in_yes h 2 8 ⟨b7,b8⟩ _).mono ?_
 rintro e _ ⟨rfl,rfl⟩
 have hw1 : IntKind.i64.wrap (h + 1) = h + 1:=IntWalk.i64_in _ (by omega)
 have hw2 : IntKind.i64.wrap ((m + 1) * (h + 1)) = (m + 1) * (h + 1):=IntWalk.i64_in _ (by omega)
 go_wp2_with fail
 go_region_held3 (fun w'=>Below w.heap.size w w' ∧ w.heap.size < w'.heap.size ∧ w'.cell? ⟨w.heap.size,0,none⟩ = some (.int .u32 (id : Int)) ∧ w'.cell? ⟨w.heap.size,1,none⟩ = some (.int .i64 m) ∧ w'.cell? ⟨w.heap.size,2,none⟩ = some (.int .i64 c) ∧ w'.cell? ⟨w.heap.size,3,none⟩ = some (.int .i64 r) ∧ w'.cell? ⟨w.heap.size,4,none⟩ = some (.int .i64 l) ∧ w'.cell? ⟨w.heap.size,5,none⟩ = some (.int .i64 h))
  (first | (exact ⟨((Below.refl _ _).alloc (Nat.le_refl _) _).drew,by simp,by simp,by simp,by simp,by simp,by simp,by simp⟩) | (exact ⟨Ext.trans (And.left (by assumption)) k3,Nat.lt_of_lt_of_le (And.left (And.right (by assumption))) k3.size,by simp [*],by simp [*],by simp [*],by simp [*],by simp [*],by simp [*]⟩) | assumption)
  (first | (go_at_call 80;refine (HN.out _).mono ?_;rintro e w3 ⟨rfl,k3⟩;have hcl:=fun o=>k3.cell (p:=⟨w.heap.size,o,none⟩) (And.left (And.right (by assumption)))) | (go_at_call 79;refine (in_any _ _ _ _).mono ?_;rintro e w3 ⟨rfl,rfl⟩))
 go_wp2
 go_ret
 exact ⟨rfl,And.left (by assumption)⟩
def Cfg.okB (x : Cfg) : Bool:=decide x.Ok
theorem Cfg.okB_ok {x : Cfg} (h : x.Ok) : x.okB = true:=decide_eq_true h
theorem Cfg.okB_bad {x : Cfg} (h : ¬ x.Ok) : x.okB = false:=decide_eq_false h
theorem may_unplain (id : Nat) (m c r l h : Int) (hpl : ¬ Cfg.Plain ⟨id,m,c,r,l,h⟩) (w : World) : Calls Try.prog 62 #[(Cfg.mk id m c r l h).val] w fun e w'=>e = .returned (.bool false) ∧ Below w.heap.size w w':=by
 unfold Cfg.Plain at hpl
 unfold Cfg.val
 dsimp only at hpl ⊢
 by_cases g1 : 3 ≤ m ∧ m ≤ 16
 · by_cases g2 : 1 ≤ c ∧ c ≤ 8
   · by_cases g3 : 1 ≤ r ∧ r ≤ 8
     · have g4 : ¬ (2 ≤ h ∧ h ≤ 8):=fun g4=>hpl ⟨g1.1,g1.2,g2.1,g2.2,g3.1,g3.2,g4.1,g4.2⟩
       clear hpl
       have G1:=Lib.hid g1
       have G2:=Lib.hid g2
       have G3:=Lib.hid g3
       have G4:=Lib.hid g4
       clear g1 g2 g3 g4
       go_enter Try.func62,Try.ntmps62
       go_wp2_with fail
       refine (in_yes m 3 16 G1.out _).mono ?_
       rintro e _ ⟨rfl,rfl⟩
       go_wp2_with fail
       refine (in_yes c 1 8 G2.out _).mono ?_
       rintro e _ ⟨rfl,rfl⟩
       go_wp2_with fail
       refine (in_yes r 1 8 G3.out _).mono ?_
       rintro e _ ⟨rfl,rfl⟩
       go_wp2_with fail
       refine (in_no h 2 8 G4.out _).mono ?_
       rintro e _ ⟨rfl,rfl⟩
       go_wp2
       go_ret
       exact ⟨rfl,Ext.alloc (Below.refl _ _) _⟩
     · clear hpl
       have G1:=Lib.hid g1
       have G2:=Lib.hid g2
       have G3:=Lib.hid g3
       clear g1 g2 g3
       go_enter Try.func62,Try.ntmps62
       go_wp2_with fail
       refine (in_yes m 3 16 G1.out _).mono ?_
       rintro e _ ⟨rfl,rfl⟩
       go_wp2_with fail
       refine (in_yes c 1 8 G2.out _).mono ?_
       rintro e _ ⟨rfl,rfl⟩
       go_wp2_with fail
       refine (in_no r 1 8 G3.out _).mono ?_
       rintro e _ ⟨rfl,rfl⟩
       go_wp2
       go_ret
       exact ⟨rfl,Ext.alloc (Below.refl _ _) _⟩
   · clear hpl
     have G1:=Lib.hid g1
     have G2:=Lib.hid g2
     clear g1 g2
     go_enter Try.func62,Try.ntmps62
     go_wp2_with fail
     refine (in_yes m 3 16 G1.out _).mono ?_
     rintro e _ ⟨rfl,rfl⟩
     go_wp2_with fail
     refine (in_no c 1 8 G2.out _).mono ?_
     rintro e _ ⟨rfl,rfl⟩
     go_wp2
     go_ret
     exact ⟨rfl,Ext.alloc (Below.refl _ _) _⟩
 · clear hpl
   have G1:=Lib.hid g1
   clear g1
   go_enter Try.func62,Try.ntmps62
   go_wp2_with fail
   refine (in_no m 3 16 G1.out _).mono ?_
   rintro e _ ⟨rfl,rfl⟩
   go_wp2
   go_ret
   exact ⟨rfl,Ext.alloc (Below.refl _ _) _⟩
theorem may_any (x : Cfg) (w : World) : Calls Try.prog 62 #[x.val] w fun e w'=>e = .returned (.bool x.okB) ∧ Below w.heap.size w w':=by
 by_cases hpl : x.Plain
 · refine (may_plain x.id x.m x.c x.r x.l x.h hpl w).mono ?_
   rintro e w' ⟨rfl,hb⟩
   refine ⟨?_,hb⟩
   have : inB ((x.m + 1) * (x.h + 1)) x.l 255 = x.okB:=by
    unfold inB Cfg.okB
    rw [decide_eq_decide]
    exact ⟨fun h=>⟨hpl,h⟩,fun h=>h.2⟩
   rw [this]
 · refine (may_unplain x.id x.m x.c x.r x.l x.h hpl w).mono ?_
   rintro e w' ⟨rfl,hb⟩
   rw [Cfg.okB_bad (fun h=>hpl h.1)]
   exact ⟨rfl,hb⟩
theorem may_yes (x : Cfg) (hx : x.Ok) (w : World) : Calls Try.prog 62 #[x.val] w fun e w'=>e = .returned (.bool true) ∧ Below w.heap.size w w':=by
 have:=may_any x w
 rwa [Cfg.okB_ok hx] at this
theorem may_no (x : Cfg) (hx : ¬ x.Ok) (w : World) : Calls Try.prog 62 #[x.val] w fun e w'=>e = .returned (.bool false) ∧ Below w.heap.size w w':=by
 have:=may_any x w
 rwa [Cfg.okB_bad hx] at this
theorem rstripes_ok (x : Cfg) (hx : x.Ok) (w : World) : Calls Try.prog 81 #[x.val] w fun e w'=>e = .returned (.int .i64 (x.c * x.r)) ∧ Below w.heap.size w w':=by
 obtain ⟨k1,k2⟩:=Cfg.cr hx
 obtain ⟨id,m,c,r,l,h⟩:=x
 unfold Cfg.val
 dsimp only at *
 clear hx
 go_enter Try.func81,Try.ntmps81
 go_wp2
 go_ret
 exact ⟨rfl,Ext.alloc (Below.refl _ _) _⟩
theorem rblocks_ok (x : Cfg) (hx : x.Ok) (w : World) : Calls Try.prog 63 #[x.val] w fun e w'=>e = .returned (.int .i64 (x.c * x.r * (x.m - 1))) ∧ Below w.heap.size w w':=by
 have HS:=Lib.hid (rstripes_ok x hx)
 obtain ⟨k1,k2⟩:=Cfg.cr hx
 obtain ⟨k3,k4⟩:=Cfg.crm hx
 obtain ⟨b1,b2,b3,b4,b5,b6,b7,b8,b9,b10⟩:=Cfg.bounds hx
 clear b9
 obtain ⟨id,m,c,r,l,h⟩:=x
 unfold Cfg.val at HS ⊢
 dsimp only at *
 clear hx
 go_enter Try.func63,Try.ntmps63
 have hw1 : IntKind.i64.wrap (m - 1) = m - 1:=IntWalk.i64_in _ (by omega)
 have hw2 : IntKind.i64.wrap (c * r * (m - 1)) = c * r * (m - 1):=IntWalk.i64_in _ (by omega)
 go_wp2_with fail
 go_region_held3 (fun w'=>Below w.heap.size w w' ∧ w.heap.size < w'.heap.size ∧ w'.cell? ⟨w.heap.size,0,none⟩ = some (.int .u32 (id : Int)) ∧ w'.cell? ⟨w.heap.size,1,none⟩ = some (.int .i64 m) ∧ w'.cell? ⟨w.heap.size,2,none⟩ = some (.int .i64 c) ∧ w'.cell? ⟨w.heap.size,3,none⟩ = some (.int .i64 r) ∧ w'.cell? ⟨w.heap.size,4,none⟩ = some (.int .i64 l) ∧ w'.cell? ⟨w.heap.size,5,none⟩ = some (.int .i64 h))
  (first | (exact ⟨((Below.refl _ _).alloc (Nat.le_refl _) _).drew,by simp,by simp,by simp,by simp,by simp,by simp,by simp⟩) | (exact ⟨Ext.trans (And.left (by assumption)) k3,Nat.lt_of_lt_of_le (And.left (And.right (by assumption))) k3.size,by simp [*],by simp [*],by simp [*],by simp [*],by simp [*],by simp [*]⟩) | assumption)
  (first | (go_at_call 81;refine (HS.out _).mono ?_;rintro e w3 ⟨rfl,k3⟩;have hcl:=fun o=>k3.cell (p:=⟨w.heap.size,o,none⟩) (And.left (And.right (by assumption)))))
 go_wp2
 go_ret
 exact ⟨rfl,And.left (by assumption)⟩
end Go.Proofs.Ytclbihcggjjgaaa
namespace Go.Proofs.Ytclbihcggjjgaaa
open Go.RowKit
set_option linter.unusedSimpArgs false
set_option linter.unusedVariables false
def kMost (k : Int) : Int:=if k = 1 ∨ k = 2 ∨ k = 3 ∨ k = 5 then 8 else 0
def kBytes (k : Int) : Bool:=decide (k = 2 ∨ k = 3)
def kWrites (k : Int) : Bool:=decide (k = 2 ∨ k = 3 ∨ k = 5)
def kIs (k : Int) : Bool:=decide (1 ≤ k ∧ k ≤ 6)
theorem of_1 (w : World) : Calls Try.prog 76 #[.int .u8 1] w fun e w'=>e = .returned (.tuple #[.agg #[.int .i64 8,.bool false,.bool false],.bool true]) ∧ Below w.heap.size w w':=by
 go_enter Try.func76,Try.ntmps76
 go_wp2
 exact bodyPost_ret (v:=.tuple #[.agg #[.int .i64 8,.bool false,.bool false],.bool true]) (Eq.trans (results_row2 (P:=Try.prog) (fn:=Try.f76) (p:=2) (u:=3) (ty:=120) rfl _ _ w.heap.size 120 #[.int .i64 8,.bool false,.bool false] (0,0) _ rfl (heap_alloc_new _ _) Try.underlying120 rfl (by kernel_rfl)) rfl) rfl ⟨rfl,Ext.alloc (Below.refl _ _) _⟩
theorem of_2 (w : World) : Calls Try.prog 76 #[.int .u8 2] w fun e w'=>e = .returned (.tuple #[.agg #[.int .i64 8,.bool true,.bool true],.bool true]) ∧ Below w.heap.size w w':=by
 go_enter Try.func76,Try.ntmps76
 go_wp2
 exact bodyPost_ret (v:=.tuple #[.agg #[.int .i64 8,.bool true,.bool true],.bool true]) (Eq.trans (results_row2 (P:=Try.prog) (fn:=Try.f76) (p:=2) (u:=3) (ty:=120) rfl _ _ w.heap.size 120 #[.int .i64 8,.bool true,.bool true] (0,0) _ rfl (heap_alloc_new _ _) Try.underlying120 rfl (by kernel_rfl)) rfl) rfl ⟨rfl,Ext.alloc (Below.refl _ _) _⟩
theorem of_3 (w : World) : Calls Try.prog 76 #[.int .u8 3] w fun e w'=>e = .returned (.tuple #[.agg #[.int .i64 8,.bool true,.bool true],.bool true]) ∧ Below w.heap.size w w':=by
 go_enter Try.func76,Try.ntmps76
 go_wp2
 exact bodyPost_ret (v:=.tuple #[.agg #[.int .i64 8,.bool true,.bool true],.bool true]) (Eq.trans (results_row2 (P:=Try.prog) (fn:=Try.f76) (p:=2) (u:=3) (ty:=120) rfl _ _ w.heap.size 120 #[.int .i64 8,.bool true,.bool true] (0,0) _ rfl (heap_alloc_new _ _) Try.underlying120 rfl (by kernel_rfl)) rfl) rfl ⟨rfl,Ext.alloc (Below.refl _ _) _⟩
theorem of_4 (w : World) : Calls Try.prog 76 #[.int .u8 4] w fun e w'=>e = .returned (.tuple #[.agg #[.int .i64 0,.bool false,.bool false],.bool true]) ∧ Below w.heap.size w w':=by
 go_enter Try.func76,Try.ntmps76
 go_wp2
 exact bodyPost_ret (v:=.tuple #[.agg #[.int .i64 0,.bool false,.bool false],.bool true]) (Eq.trans (results_row2 (P:=Try.prog) (fn:=Try.f76) (p:=2) (u:=3) (ty:=120) rfl _ _ w.heap.size 120 #[.int .i64 0,.bool false,.bool false] (0,0) _ rfl (heap_alloc_new _ _) Try.underlying120 rfl (by kernel_rfl)) rfl) rfl ⟨rfl,Ext.alloc (Below.refl _ _) _⟩
theorem of_5 (w : World) : Calls Try.prog 76 #[.int .u8 5] w fun e w'=>e = .returned (.tuple #[.agg #[.int .i64 8,.bool false,.bool true],.bool true]) ∧ Below w.heap.size w w':=by
 go_enter Try.func76,Try.ntmps76
 go_wp2
 exact bodyPost_ret (v:=.tuple #[.agg #[.int .i64 8,.bool false,.bool true],.bool true]) (Eq.trans (results_row2 (P:=Try.prog) (fn:=Try.f76) (p:=2) (u:=3) (ty:=120) rfl _ _ w.heap.size 120 #[.int .i64 8,.bool false,.bool true] (0,0) _ rfl (heap_alloc_new _ _) Try.underlying120 rfl (by kernel_rfl)) rfl) rfl ⟨rfl,Ext.alloc (Below.refl _ _) _⟩
theorem of_6 (w : World) : Calls Try.prog 76 #[.int .u8 6] w fun e w'=>e = .returned (.tuple #[.agg #[.int .i64 0,.bool false,.bool false],.bool true]) ∧ Below w.heap.size w w':=by
 go_enter Try.func76,Try.ntmps76
 go_wp2
 exact bodyPost_ret (v:=.tuple #[.agg #[.int .i64 0,.bool false,.bool false],.bool true]) (Eq.trans (results_row2 (P:=Try.prog) (fn:=Try.f76) (p:=2) (u:=3) (ty:=120) rfl _ _ w.heap.size 120 #[.int .i64 0,.bool false,.bool false] (0,0) _ rfl (heap_alloc_new _ _) Try.underlying120 rfl (by kernel_rfl)) rfl) rfl ⟨rfl,Ext.alloc (Below.refl _ _) _⟩
theorem of_no (k : Int) (hk : ¬ (1 ≤ k ∧ k ≤ 6)) (w : World) : Calls Try.prog 76 #[.int .u8 k] w fun e w'=>e = .returned (.tuple #[.agg #[.int .i64 0,.bool false,.bool false],.bool false]) ∧ Below w.heap.size w w':=by
 have h1 : (k == 1) = false:=by simp;omega
 have h2 : (k == 2) = false:=by simp;omega
 have h3 : (k == 3) = false:=by simp;omega
 have h4 : (k == 4) = false:=by simp;omega
 have h5 : (k == 5) = false:=by simp;omega
 have h6 : (k == 6) = false:=by simp;omega
 clear hk
 go_enter Try.func76,Try.ntmps76
 go_wp2
 exact bodyPost_ret (v:=.tuple #[.agg #[.int .i64 0,.bool false,.bool false],.bool false]) (Eq.trans (results_row2 (P:=Try.prog) (fn:=Try.f76) (p:=2) (u:=3) (ty:=120) rfl _ _ w.heap.size 120 #[.int .i64 0,.bool false,.bool false] (0,0) _ rfl (heap_alloc_new _ _) Try.underlying120 rfl (by kernel_rfl)) rfl) rfl ⟨rfl,Ext.alloc (Below.refl _ _) _⟩
theorem of_any (k : Int) (w : World) : Calls Try.prog 76 #[.int .u8 k] w fun e w'=>e = .returned (.tuple #[.agg #[.int .i64 (kMost k),.bool (kBytes k),.bool (kWrites k)],.bool (kIs k)]) ∧ Below w.heap.size w w':=by
 by_cases hk : 1 ≤ k ∧ k ≤ 6
 · rcases (show k = 1 ∨ k = 2 ∨ k = 3 ∨ k = 4 ∨ k = 5 ∨ k = 6 by omega) with rfl | rfl | rfl | rfl | rfl | rfl
   · exact of_1 w
   · exact of_2 w
   · exact of_3 w
   · exact of_4 w
   · exact of_5 w
   · exact of_6 w
 · have h:=of_no k hk w
   have e1 : kMost k = 0:=if_neg (by omega)
   have e2 : kBytes k = false:=decide_eq_false (by omega)
   have e3 : kWrites k = false:=decide_eq_false (by omega)
   have e4 : kIs k = false:=decide_eq_false hk
   rw [e1,e2,e3,e4]
   exact h
end Go.Proofs.Ytclbihcggjjgaaa
namespace Go.Proofs.Ytclbihcggjjgaaa
open Go.RowKit
set_option linter.unusedSimpArgs false
set_option linter.unusedVariables false
def Placed (nb k a y : Int) : Prop:=(kMost k = 8 ∧ 1 ≤ y ∧ y ≤ 8 ∧ 0 ≤ a ∧ a ≤ nb - y) ∨ (kIs k = true ∧ kMost k = 0 ∧ a = 0 ∧ y = 0)
theorem kMost_is {k : Int} (h : kMost k = 8) : kIs k = true:=by
 unfold kMost at h
 split at h
 · exact decide_eq_true (by omega)
 · cases h
theorem kMost_or (k : Int) : kMost k = 8 ∨ (kMost k = 0 ∧ kBytes k = false ∧ kWrites k = false):=by
 unfold kMost
 split
 · exact .inl rfl
 · exact .inr ⟨rfl,decide_eq_false (by omega),decide_eq_false (by omega)⟩
def kWant (k y : Int) : Int:=if kBytes k then y * 128 else 0
set_option maxRecDepth 100000 in
theorem scheck_bad (x : Cfg) (hx : ¬ x.Ok) (k a y : Int) (A : Option Addr) (n q : Nat) (w : World) :
 Calls Try.prog 47 #[x.val,.agg #[.int .u8 k,.int .i64 a,.int .i64 y,.slice A n q]] w fun e w'=>e = .returned (.int .i64 8) ∧ Below w.heap.size w w':=by
 have HB:=Lib.hid (blocks_bad x hx)
 obtain ⟨id,m,c,r,l,h⟩:=x
 unfold Cfg.val at *
 dsimp only at *
 all_goals
  go_enter Try.func47,Try.ntmps47
  go_wp2_with fail
  have A0:=BoxOf.new' (w.alloc (.cells #[.int .u32 (id : Int),.int .i64 m,.int .i64 c,.int .i64 r,.int .i64 l,.int .i64 h] 24)) (w.heap.size + 1) #[.int .u8 k,.int .i64 a,.int .i64 y,.slice A n q] 58 (by simp)
  have t0:=Ext.alloc (Ext.alloc (Below.refl w.heap.size w) (.cells #[.int .u32 (id : Int),.int .i64 m,.int .i64 c,.int .i64 r,.int .i64 l,.int .i64 h] 24)) (.cells #[.int .u8 k,.int .i64 a,.int .i64 y,.slice A n q] 58)
  refine (HB.out _).mono ?_
  rintro e w1 ⟨rfl,b1⟩
  have A1:=A0.next b1
  have t1:=Ext.trans t0 b1
  have x1:=A1.cell
  clear A0 t0 b1
  go_wp2
  go_ret
  exact ⟨rfl,t1⟩
set_option maxRecDepth 100000 in
set_option maxHeartbeats 1000000 in
theorem scheck_arg (x : Cfg) (hx : x.Ok) (k a y : Int) (A : Option Addr) (n q : Nat) (hp : ¬ Placed (x.c * x.r * (x.m - 1)) k a y) (w : World) :
 Calls Try.prog 47 #[x.val,.agg #[.int .u8 k,.int .i64 a,.int .i64 y,.slice A n q]] w fun e w'=>e = .returned (.int .i64 2) ∧ Below w.heap.size w w':=by
 have HB:=Lib.hid (blocks_ok x hx)
 have HO:=Lib.hid (of_any k)
 have hcr:=Cfg.crm hx
 have hor:=kMost_or k
 have his:=@kMost_is k
 unfold Placed at hp
 obtain ⟨id,m,c,r,l,h⟩:=x
 unfold Cfg.val at *
 dsimp only at *
 clear hx
 generalize c * r * (m - 1) = nb at *
 obtain ⟨hn1,hn2⟩:=hcr
 generalize kMost k = mo at *
 generalize kBytes k = by' at *
 generalize kWrites k = wr at *
 generalize kIs k = is at *
 rcases hor with rfl | ⟨rfl,rfl,rfl⟩
 · obtain rfl:=his rfl
   rcases (show a < 0 ∨ (0 ≤ a ∧ y < 1) ∨ (0 ≤ a ∧ 8 < y) ∨ ((0 ≤ a ∧ 1 ≤ y ∧ y ≤ 8) ∧ nb - y < a) by omega) with h1 | ⟨h1,h2⟩ | ⟨h1,h2⟩ | ⟨⟨h1,h2,h3⟩,h4⟩
   all_goals
    clear his hp
    go_enter Try.func47,Try.ntmps47
    go_wp2_with fail
    have A0:=BoxOf.new' (w.alloc (.cells #[.int .u32 (id : Int),.int .i64 m,.int .i64 c,.int .i64 r,.int .i64 l,.int .i64 h] 24)) (w.heap.size + 1) #[.int .u8 k,.int .i64 a,.int .i64 y,.slice A n q] 58 (by simp)
    have t0:=Ext.alloc (Ext.alloc (Below.refl w.heap.size w) (.cells #[.int .u32 (id : Int),.int .i64 m,.int .i64 c,.int .i64 r,.int .i64 l,.int .i64 h] 24)) (.cells #[.int .u8 k,.int .i64 a,.int .i64 y,.slice A n q] 58)
    refine (HB.out _).mono ?_
    rintro e w1 ⟨rfl,b1⟩
    have A1:=A0.next b1
    have t1:=Ext.trans t0 b1
    have x1:=A1.cell
    clear A0 t0 b1
    go_wp2_with fail
    refine (HO.out _).mono ?_
    rintro e w2 ⟨rfl,b2⟩
    have A2:=A1.next b2
    have t2:=Ext.alloc (Ext.trans t1 b2) (.cells #[.int .i64 8,.bool by',.bool wr] 120)
    have x2:=A2.cell
    have l2:=A2.lt
    clear x1 A1 t1 b2 A2
    go_wp2
    go_ret
    exact ⟨rfl,t2⟩
 · cases is with
   | false=>
     clear his hp
     go_enter Try.func47,Try.ntmps47
     go_wp2_with fail
     have A0:=BoxOf.new' (w.alloc (.cells #[.int .u32 (id : Int),.int .i64 m,.int .i64 c,.int .i64 r,.int .i64 l,.int .i64 h] 24)) (w.heap.size + 1) #[.int .u8 k,.int .i64 a,.int .i64 y,.slice A n q] 58 (by simp)
     have t0:=Ext.alloc (Ext.alloc (Below.refl w.heap.size w) (.cells #[.int .u32 (id : Int),.int .i64 m,.int .i64 c,.int .i64 r,.int .i64 l,.int .i64 h] 24)) (.cells #[.int .u8 k,.int .i64 a,.int .i64 y,.slice A n q] 58)
     refine (HB.out _).mono ?_
     rintro e w1 ⟨rfl,b1⟩
     have A1:=A0.next b1
     have t1:=Ext.trans t0 b1
     have x1:=A1.cell
     clear A0 t0 b1
     go_wp2_with fail
     refine (HO.out _).mono ?_
     rintro e w2 ⟨rfl,b2⟩
     have A2:=A1.next b2
     have t2:=Ext.alloc (Ext.trans t1 b2) (.cells #[.int .i64 0,.bool false,.bool false] 120)
     have x2:=A2.cell
     have l2:=A2.lt
     clear x1 A1 t1 b2 A2
     go_wp2
     go_ret
     exact ⟨rfl,t2⟩
   | true=>
     have hp' : ¬ (a = 0 ∧ y = 0):=fun h=>hp (.inr ⟨rfl,rfl,h⟩)
     rcases (show a < 0 ∨ (0 ≤ a ∧ y < 0) ∨ (0 ≤ a ∧ 0 < y) ∨ ((0 ≤ a ∧ 0 ≤ y ∧ y ≤ 0) ∧ nb < a) ∨ ((0 ≤ a ∧ 0 ≤ y ∧ y ≤ 0) ∧ a ≤ nb ∧ 0 < a) by omega) with h1 | ⟨h1,h2⟩ | ⟨h1,h2⟩ | ⟨⟨h1,h2,h3⟩,h4⟩ | ⟨⟨h1,h2,h3⟩,h4,h5⟩
     all_goals
      clear his hp hp'
      go_enter Try.func47,Try.ntmps47
      go_wp2_with fail
      have A0:=BoxOf.new' (w.alloc (.cells #[.int .u32 (id : Int),.int .i64 m,.int .i64 c,.int .i64 r,.int .i64 l,.int .i64 h] 24)) (w.heap.size + 1) #[.int .u8 k,.int .i64 a,.int .i64 y,.slice A n q] 58 (by simp)
      have t0:=Ext.alloc (Ext.alloc (Below.refl w.heap.size w) (.cells #[.int .u32 (id : Int),.int .i64 m,.int .i64 c,.int .i64 r,.int .i64 l,.int .i64 h] 24)) (.cells #[.int .u8 k,.int .i64 a,.int .i64 y,.slice A n q] 58)
      refine (HB.out _).mono ?_
      rintro e w1 ⟨rfl,b1⟩
      have A1:=A0.next b1
      have t1:=Ext.trans t0 b1
      have x1:=A1.cell
      clear A0 t0 b1
      go_wp2_with fail
      refine (HO.out _).mono ?_
      rintro e w2 ⟨rfl,b2⟩
      have A2:=A1.next b2
      have t2:=Ext.alloc (Ext.trans t1 b2) (.cells #[.int .i64 0,.bool false,.bool false] 120)
      have x2:=A2.cell
      have l2:=A2.lt
      clear x1 A1 t1 b2 A2
      go_wp2
      go_ret
      exact ⟨rfl,t2⟩
set_option maxRecDepth 100000 in
set_option maxHeartbeats 1000000 in
theorem scheck_text (x : Cfg) (hx : x.Ok) (k a y : Int) (A : Option Addr) (n q : Nat) (hp : Placed (x.c * x.r * (x.m - 1)) k a y) (hn : (n : Int) ≠ kWant k y) (w : World) :
 Calls Try.prog 47 #[x.val,.agg #[.int .u8 k,.int .i64 a,.int .i64 y,.slice A n q]] w fun e w'=>e = .returned (.int .i64 3) ∧ Below w.heap.size w w':=by
 have HB:=Lib.hid (blocks_ok x hx)
 have HO:=Lib.hid (of_any k)
 have hcr:=Cfg.crm hx
 have hor:=kMost_or k
 have his:=@kMost_is k
 unfold Placed at hp
 unfold kWant at hn
 obtain ⟨id,m,c,r,l,h⟩:=x
 unfold Cfg.val at *
 dsimp only at *
 clear hx
 generalize c * r * (m - 1) = nb at *
 obtain ⟨hn1,hn2⟩:=hcr
 generalize kMost k = mo at *
 generalize kBytes k = by' at *
 generalize kWrites k = wr at *
 generalize kIs k = is at *
 rcases hor with rfl | ⟨rfl,rfl,rfl⟩
 · obtain rfl:=his rfl
   obtain ⟨h1,h2,h3,h4⟩ : 1 ≤ y ∧ y ≤ 8 ∧ 0 ≤ a ∧ a ≤ nb - y:=by omega
   cases by' with
   | true=>
     have hne : ((n : Int) != y * 128) = true:=by simp at hn ⊢;exact hn
     clear his hp hn
     go_enter Try.func47,Try.ntmps47
     go_wp2_with fail
     have A0:=BoxOf.new' (w.alloc (.cells #[.int .u32 (id : Int),.int .i64 m,.int .i64 c,.int .i64 r,.int .i64 l,.int .i64 h] 24)) (w.heap.size + 1) #[.int .u8 k,.int .i64 a,.int .i64 y,.slice A n q] 58 (by simp)
     have t0:=Ext.alloc (Ext.alloc (Below.refl w.heap.size w) (.cells #[.int .u32 (id : Int),.int .i64 m,.int .i64 c,.int .i64 r,.int .i64 l,.int .i64 h] 24)) (.cells #[.int .u8 k,.int .i64 a,.int .i64 y,.slice A n q] 58)
     refine (HB.out _).mono ?_
     rintro e w1 ⟨rfl,b1⟩
     have A1:=A0.next b1
     have t1:=Ext.trans t0 b1
     have x1:=A1.cell
     clear A0 t0 b1
     go_wp2_with fail
     refine (HO.out _).mono ?_
     rintro e w2 ⟨rfl,b2⟩
     have A2:=A1.next b2
     have t2:=Ext.alloc (Ext.trans t1 b2) (.cells #[.int .i64 8,.bool true,.bool wr] 120)
     have x2:=A2.cell
     have l2:=A2.lt
     clear x1 A1 t1 b2 A2
     go_wp2
     go_ret
     exact ⟨rfl,t2⟩
   | false=>
     have hne : ((n : Int) != 0) = true:=by simp at hn ⊢;exact hn
     clear his hp hn
     go_enter Try.func47,Try.ntmps47
     go_wp2_with fail
     have A0:=BoxOf.new' (w.alloc (.cells #[.int .u32 (id : Int),.int .i64 m,.int .i64 c,.int .i64 r,.int .i64 l,.int .i64 h] 24)) (w.heap.size + 1) #[.int .u8 k,.int .i64 a,.int .i64 y,.slice A n q] 58 (by simp)
     have t0:=Ext.alloc (Ext.alloc (Below.refl w.heap.size w) (.cells #[.int .u32 (id : Int),.int .i64 m,.int .i64 c,.int .i64 r,.int .i64 l,.int .i64 h] 24)) (.cells #[.int .u8 k,.int .i64 a,.int .i64 y,.slice A n q] 58)
     refine (HB.out _).mono ?_
     rintro e w1 ⟨rfl,b1⟩
     have A1:=A0.next b1
     have t1:=Ext.trans t0 b1
     have x1:=A1.cell
     clear A0 t0 b1
     go_wp2_with fail
     refine (HO.out _).mono ?_
     rintro e w2 ⟨rfl,b2⟩
     have A2:=A1.next b2
     have t2:=Ext.alloc (Ext.trans t1 b2) (.cells #[.int .i64 8,.bool false,.bool wr] 120)
     have x2:=A2.cell
     have l2:=A2.lt
     clear x1 A1 t1 b2 A2
     go_wp2
     go_ret
     exact ⟨rfl,t2⟩
 · obtain ⟨rfl,ha,hy⟩ : is = true ∧ a = 0 ∧ y = 0:=hp.elim (fun h=>absurd h.1 (by decide)) (fun h=>⟨h.1,h.2.2⟩)
   obtain ⟨ha1,ha2,hy1,hy2⟩ : 0 ≤ a ∧ a ≤ 0 ∧ 0 ≤ y ∧ y ≤ 0:=by omega
   clear ha hy
   have hne : ((n : Int) != 0) = true:=by simp at hn ⊢;exact hn
   clear his hp hn
   go_enter Try.func47,Try.ntmps47
   go_wp2_with fail
   have A0:=BoxOf.new' (w.alloc (.cells #[.int .u32 (id : Int),.int .i64 m,.int .i64 c,.int .i64 r,.int .i64 l,.int .i64 h] 24)) (w.heap.size + 1) #[.int .u8 k,.int .i64 a,.int .i64 y,.slice A n q] 58 (by simp)
   have t0:=Ext.alloc (Ext.alloc (Below.refl w.heap.size w) (.cells #[.int .u32 (id : Int),.int .i64 m,.int .i64 c,.int .i64 r,.int .i64 l,.int .i64 h] 24)) (.cells #[.int .u8 k,.int .i64 a,.int .i64 y,.slice A n q] 58)
   refine (HB.out _).mono ?_
   rintro e w1 ⟨rfl,b1⟩
   have A1:=A0.next b1
   have t1:=Ext.trans t0 b1
   have x1:=A1.cell
   clear A0 t0 b1
   go_wp2_with fail
   refine (HO.out _).mono ?_
   rintro e w2 ⟨rfl,b2⟩
   have A2:=A1.next b2
   have t2:=Ext.alloc (Ext.trans t1 b2) (.cells #[.int .i64 0,.bool false,.bool false] 120)
   have x2:=A2.cell
   have l2:=A2.lt
   clear x1 A1 t1 b2 A2
   go_wp2
   go_ret
   exact ⟨rfl,t2⟩
set_option maxRecDepth 100000 in
set_option maxHeartbeats 1000000 in
theorem scheck_ok (x : Cfg) (hx : x.Ok) (k a y : Int) (A : Option Addr) (n q : Nat) (hp : Placed (x.c * x.r * (x.m - 1)) k a y) (hn : (n : Int) = kWant k y) (w : World) :
 Calls Try.prog 47 #[x.val,.agg #[.int .u8 k,.int .i64 a,.int .i64 y,.slice A n q]] w fun e w'=>e = .returned (.int .i64 0) ∧ Below w.heap.size w w':=by
 have HB:=Lib.hid (blocks_ok x hx)
 have HO:=Lib.hid (of_any k)
 have hcr:=Cfg.crm hx
 have hor:=kMost_or k
 have his:=@kMost_is k
 unfold Placed at hp
 unfold kWant at hn
 obtain ⟨id,m,c,r,l,h⟩:=x
 unfold Cfg.val at *
 dsimp only at *
 clear hx
 generalize c * r * (m - 1) = nb at *
 obtain ⟨hn1,hn2⟩:=hcr
 generalize kMost k = mo at *
 generalize kBytes k = by' at *
 generalize kWrites k = wr at *
 generalize kIs k = is at *
 rcases hor with rfl | ⟨rfl,rfl,rfl⟩
 · obtain rfl:=his rfl
   obtain ⟨h1,h2,h3,h4⟩ : 1 ≤ y ∧ y ≤ 8 ∧ 0 ≤ a ∧ a ≤ nb - y:=by omega
   cases by' with
   | true=>
     have hne : ((n : Int) != y * 128) = false:=by simp at hn ⊢;exact hn
     clear his hp hn
     go_enter Try.func47,Try.ntmps47
     go_wp2_with fail
     have A0:=BoxOf.new' (w.alloc (.cells #[.int .u32 (id : Int),.int .i64 m,.int .i64 c,.int .i64 r,.int .i64 l,.int .i64 h] 24)) (w.heap.size + 1) #[.int .u8 k,.int .i64 a,.int .i64 y,.slice A n q] 58 (by simp)
     have t0:=Ext.alloc (Ext.alloc (Below.refl w.heap.size w) (.cells #[.int .u32 (id : Int),.int .i64 m,.int .i64 c,.int .i64 r,.int .i64 l,.int .i64 h] 24)) (.cells #[.int .u8 k,.int .i64 a,.int .i64 y,.slice A n q] 58)
     refine (HB.out _).mono ?_
     rintro e w1 ⟨rfl,b1⟩
     have A1:=A0.next b1
     have t1:=Ext.trans t0 b1
     have x1:=A1.cell
     clear A0 t0 b1
     go_wp2_with fail
     refine (HO.out _).mono ?_
     rintro e w2 ⟨rfl,b2⟩
     have A2:=A1.next b2
     have t2:=Ext.alloc (Ext.trans t1 b2) (.cells #[.int .i64 8,.bool true,.bool wr] 120)
     have x2:=A2.cell
     have l2:=A2.lt
     clear x1 A1 t1 b2 A2
     go_wp2
     go_ret
     exact ⟨rfl,t2⟩
   | false=>
     have hne : ((n : Int) != 0) = false:=by simp at hn ⊢;exact hn
     clear his hp hn
     go_enter Try.func47,Try.ntmps47
     go_wp2_with fail
     have A0:=BoxOf.new' (w.alloc (.cells #[.int .u32 (id : Int),.int .i64 m,.int .i64 c,.int .i64 r,.int .i64 l,.int .i64 h] 24)) (w.heap.size + 1) #[.int .u8 k,.int .i64 a,.int .i64 y,.slice A n q] 58 (by simp)
     have t0:=Ext.alloc (Ext.alloc (Below.refl w.heap.size w) (.cells #[.int .u32 (id : Int),.int .i64 m,.int .i64 c,.int .i64 r,.int .i64 l,.int .i64 h] 24)) (.cells #[.int .u8 k,.int .i64 a,.int .i64 y,.slice A n q] 58)
     refine (HB.out _).mono ?_
     rintro e w1 ⟨rfl,b1⟩
     have A1:=A0.next b1
     have t1:=Ext.trans t0 b1
     have x1:=A1.cell
     clear A0 t0 b1
     go_wp2_with fail
     refine (HO.out _).mono ?_
     rintro e w2 ⟨rfl,b2⟩
     have A2:=A1.next b2
     have t2:=Ext.alloc (Ext.trans t1 b2) (.cells #[.int .i64 8,.bool false,.bool wr] 120)
     have x2:=A2.cell
     have l2:=A2.lt
     clear x1 A1 t1 b2 A2
     go_wp2
     go_ret
     exact ⟨rfl,t2⟩
 · obtain ⟨rfl,ha,hy⟩ : is = true ∧ a = 0 ∧ y = 0:=hp.elim (fun h=>absurd h.1 (by decide)) (fun h=>⟨h.1,h.2.2⟩)
   obtain ⟨ha1,ha2,hy1,hy2⟩ : 0 ≤ a ∧ a ≤ 0 ∧ 0 ≤ y ∧ y ≤ 0:=by omega
   clear ha hy
   have hne : ((n : Int) != 0) = false:=by simp at hn ⊢;exact hn
   clear his hp hn
   go_enter Try.func47,Try.ntmps47
   go_wp2_with fail
   have A0:=BoxOf.new' (w.alloc (.cells #[.int .u32 (id : Int),.int .i64 m,.int .i64 c,.int .i64 r,.int .i64 l,.int .i64 h] 24)) (w.heap.size + 1) #[.int .u8 k,.int .i64 a,.int .i64 y,.slice A n q] 58 (by simp)
   have t0:=Ext.alloc (Ext.alloc (Below.refl w.heap.size w) (.cells #[.int .u32 (id : Int),.int .i64 m,.int .i64 c,.int .i64 r,.int .i64 l,.int .i64 h] 24)) (.cells #[.int .u8 k,.int .i64 a,.int .i64 y,.slice A n q] 58)
   refine (HB.out _).mono ?_
   rintro e w1 ⟨rfl,b1⟩
   have A1:=A0.next b1
   have t1:=Ext.trans t0 b1
   have x1:=A1.cell
   clear A0 t0 b1
   go_wp2_with fail
   refine (HO.out _).mono ?_
   rintro e w2 ⟨rfl,b2⟩
   have A2:=A1.next b2
   have t2:=Ext.alloc (Ext.trans t1 b2) (.cells #[.int .i64 0,.bool false,.bool false] 120)
   have x2:=A2.cell
   have l2:=A2.lt
   clear x1 A1 t1 b2 A2
   go_wp2
   go_ret
   exact ⟨rfl,t2⟩
end Go.Proofs.Ytclbihcggjjgaaa
namespace Go.Proofs.Ytclbihcggjjgaaa
open Go.RowKit
set_option linter.unusedSimpArgs false
set_option linter.unusedVariables false
theorem rwrites_any (k : Int) (w : World) : Calls Try.prog 71 #[.int .u8 k] w fun e w'=>e = .returned (.bool (kWrites k)) ∧ w = w':=by
 by_cases h2 : k = 2
 · subst h2;go_enter Try.func71,Try.ntmps71;go_wp2;go_ret;exact ⟨rfl,rfl⟩
 by_cases h3 : k = 3
 · subst h3;go_enter Try.func71,Try.ntmps71;go_wp2;go_ret;exact ⟨rfl,rfl⟩
 by_cases h5 : k = 5
 · subst h5;go_enter Try.func71,Try.ntmps71;go_wp2;go_ret;exact ⟨rfl,rfl⟩
 have e : kWrites k = false:=decide_eq_false (by omega)
 have g2 : (k == 2) = false:=beq_eq_false_iff_ne.2 h2
 have g3 : (k == 3) = false:=beq_eq_false_iff_ne.2 h3
 have g5 : (k == 5) = false:=beq_eq_false_iff_ne.2 h5
 rw [e]
 clear e h2 h3 h5
 go_enter Try.func71,Try.ntmps71;go_wp2;go_ret;exact ⟨rfl,rfl⟩
theorem rbytes_any (k : Int) (w : World) : Calls Try.prog 83 #[.int .u8 k] w fun e w'=>e = .returned (.bool (kBytes k)) ∧ w = w':=by
 by_cases h2 : k = 2
 · subst h2;go_enter Try.func83,Try.ntmps83;go_wp2;go_ret;exact ⟨rfl,rfl⟩
 by_cases h3 : k = 3
 · subst h3;go_enter Try.func83,Try.ntmps83;go_wp2;go_ret;exact ⟨rfl,rfl⟩
 have e : kBytes k = false:=decide_eq_false (by omega)
 have g2 : (k == 2) = false:=beq_eq_false_iff_ne.2 h2
 have g3 : (k == 3) = false:=beq_eq_false_iff_ne.2 h3
 rw [e]
 clear e h2 h3
 go_enter Try.func83,Try.ntmps83;go_wp2;go_ret;exact ⟨rfl,rfl⟩
def kWhole (k : Int) : Bool:=decide (k = 4 ∨ k = 6)
theorem rwhole8_any (k : Int) (w : World) : Calls Try.prog 89 #[.int .u8 k] w fun e w'=>e = .returned (.bool (kWhole k)) ∧ w = w':=by
 by_cases h2 : k = 4
 · subst h2;go_enter Try.func89,Try.ntmps89;go_wp2;go_ret;exact ⟨rfl,rfl⟩
 by_cases h3 : k = 6
 · subst h3;go_enter Try.func89,Try.ntmps89;go_wp2;go_ret;exact ⟨rfl,rfl⟩
 have e : kWhole k = false:=decide_eq_false (by omega)
 have g2 : (k == 4) = false:=beq_eq_false_iff_ne.2 h2
 have g3 : (k == 6) = false:=beq_eq_false_iff_ne.2 h3
 rw [e]
 clear e h2 h3
 go_enter Try.func89,Try.ntmps89;go_wp2;go_ret;exact ⟨rfl,rfl⟩
instance (nb k a y : Int) : Decidable (Placed nb k a y):=by unfold Placed;infer_instance
theorem kMost_8 {k : Int} (h : k = 1 ∨ k = 2 ∨ k = 3 ∨ k = 5) : kMost k = 8:=if_pos h
theorem kMost_0 {k : Int} (h : ¬ (k = 1 ∨ k = 2 ∨ k = 3 ∨ k = 5)) : kMost k = 0:=if_neg h
set_option maxRecDepth 100000 in
theorem placed_out (x : Cfg) (k a y : Int) (A : Option Addr) (n q : Nat) (hk : k < 1 ∨ (1 ≤ k ∧ 6 < k)) (w : World) :
 Calls Try.prog 82 #[x.val,.agg #[.int .u8 k,.int .i64 a,.int .i64 y,.slice A n q]] w fun e w'=>e = .returned (.bool false) ∧ Below w.heap.size w w':=by
 obtain ⟨id,m,c,r,l,h⟩:=x
 unfold Cfg.val at *
 dsimp only at *
 rcases hk with hk | ⟨hk0,hk⟩
 all_goals
  go_enter Try.func82,Try.ntmps82
  go_wp2
  go_ret
  exact ⟨rfl,Ext.alloc (Ext.alloc (Below.refl _ _) _) _⟩
set_option maxRecDepth 100000 in
theorem placed_whole (x : Cfg) (k a y : Int) (A : Option Addr) (n q : Nat) (hk : k = 4 ∨ k = 6) (w : World) :
 Calls Try.prog 82 #[x.val,.agg #[.int .u8 k,.int .i64 a,.int .i64 y,.slice A n q]] w fun e w'=>e = .returned (.bool (a == 0 && y == 0)) ∧ Below w.heap.size w w':=by
 obtain ⟨id,m,c,r,l,h⟩:=x
 have hw:=rwhole8_any k
 rw [show kWhole k = true from decide_eq_true hk] at hw
 have HW:=Lib.hid hw
 clear hw
 unfold Cfg.val at *
 dsimp only at *
 have hk1 : 1 ≤ k:=by omega
 have hk2 : k ≤ 6:=by omega
 clear hk
 cases ha : (a == 0)
 all_goals
  go_enter Try.func82,Try.ntmps82
  go_wp2_with fail
  refine (HW.out _).mono ?_
  rintro e w1 ⟨rfl,rfl⟩
  go_wp2
  go_ret
  exact ⟨rfl,Ext.alloc (Ext.alloc (Below.refl _ _) _) _⟩
set_option maxRecDepth 100000 in
theorem placed_not (x : Cfg) (k a y : Int) (A : Option Addr) (n q : Nat) (hk : (1 ≤ k ∧ k ≤ 6) ∧ ¬ (k = 4 ∨ k = 6)) (hp : y < 1 ∨ (1 ≤ y ∧ 8 < y) ∨ (1 ≤ y ∧ y ≤ 8 ∧ a < 0)) (w : World) :
 Calls Try.prog 82 #[x.val,.agg #[.int .u8 k,.int .i64 a,.int .i64 y,.slice A n q]] w fun e w'=>e = .returned (.bool false) ∧ Below w.heap.size w w':=by
 obtain ⟨id,m,c,r,l,h⟩:=x
 have hw:=rwhole8_any k
 rw [show kWhole k = false from decide_eq_false hk.2] at hw
 have HW:=Lib.hid hw
 clear hw
 unfold Cfg.val at *
 dsimp only at *
 obtain ⟨⟨hk1,hk2⟩,_⟩:=hk
 rcases hp with hp | ⟨hp1,hp⟩ | ⟨hp1,hp2,hp⟩
 · have d1 : decide (1 ≤ y) = false:=decide_eq_false (by omega)
   go_enter Try.func82,Try.ntmps82
   go_wp2_with fail
   refine (HW.out _).mono ?_
   rintro e w1 ⟨rfl,rfl⟩
   go_wp2_with fail
   go_quiet (fail)
   go_wp2
   go_ret
   exact ⟨rfl,below_drewN' (Ext.alloc (Ext.alloc (Below.refl _ _) _) _) _⟩
 · have d1 : decide (1 ≤ y) = true:=decide_eq_true (by omega)
   have d2 : decide (y ≤ 8) = false:=decide_eq_false (by omega)
   go_enter Try.func82,Try.ntmps82
   go_wp2_with fail
   refine (HW.out _).mono ?_
   rintro e w1 ⟨rfl,rfl⟩
   go_wp2_with fail
   go_quiet (fail)
   go_wp2
   go_ret
   exact ⟨rfl,below_drewN' (Ext.alloc (Ext.alloc (Below.refl _ _) _) _) _⟩
 · have d1 : decide (1 ≤ y) = true:=decide_eq_true (by omega)
   have d2 : decide (y ≤ 8) = true:=decide_eq_true (by omega)
   have d3 : decide (0 ≤ a) = false:=decide_eq_false (by omega)
   go_enter Try.func82,Try.ntmps82
   go_wp2_with fail
   refine (HW.out _).mono ?_
   rintro e w1 ⟨rfl,rfl⟩
   go_wp2_with fail
   go_quiet (fail)
   go_wp2
   go_ret
   exact ⟨rfl,below_drewN' (Ext.alloc (Ext.alloc (Below.refl _ _) _) _) _⟩
set_option maxRecDepth 100000 in
theorem placed_in (x : Cfg) (hx : x.Ok) (k a y : Int) (A : Option Addr) (n q : Nat) (hk : (1 ≤ k ∧ k ≤ 6) ∧ ¬ (k = 4 ∨ k = 6)) (hp : 1 ≤ y ∧ y ≤ 8 ∧ 0 ≤ a) (v : Bool) (hv : decide (a ≤ x.c * x.r * (x.m - 1) - y) = v) (w : World) :
 Calls Try.prog 82 #[x.val,.agg #[.int .u8 k,.int .i64 a,.int .i64 y,.slice A n q]] w fun e w'=>e = .returned (.bool v) ∧ Below w.heap.size w w':=by
 have HB:=Lib.hid (rblocks_ok x hx)
 have hcr:=Cfg.crm hx
 obtain ⟨id,m,c,r,l,h⟩:=x
 have hw:=rwhole8_any k
 rw [show kWhole k = false from decide_eq_false hk.2] at hw
 have HW:=Lib.hid hw
 clear hw hx
 unfold Cfg.val at *
 dsimp only at *
 obtain ⟨⟨hk1,hk2⟩,_⟩:=hk
 obtain ⟨hp1,hp2,hp3⟩:=hp
 generalize c * r * (m - 1) = nb at *
 have d1 : decide (1 ≤ y) = true:=decide_eq_true (by omega)
 have d2 : decide (y ≤ 8) = true:=decide_eq_true (by omega)
 have d3 : decide (0 ≤ a) = true:=decide_eq_true (by omega)
 have q1 : IntKind.i64.wrap (nb - y) = nb - y:=i64_fit (by omega)
 have Q1:=Lib.hid q1
 have D1:=Lib.hid d1
 have D2:=Lib.hid d2
 have D3:=Lib.hid d3
 have HV:=Lib.hid hv
 clear q1 d1 d2 d3 hv hcr
 go_enter Try.func82,Try.ntmps82
 go_wp2_with fail
 have A0:=BoxOf.new' (w.alloc (.cells #[.int .u32 (id : Int),.int .i64 m,.int .i64 c,.int .i64 r,.int .i64 l,.int .i64 h] 24)) (w.heap.size + 1) #[.int .u8 k,.int .i64 a,.int .i64 y,.slice A n q] 58 (by simp)
 have C0:=BoxOf.alloc (BoxOf.new w #[.int .u32 (id : Int),.int .i64 m,.int .i64 c,.int .i64 r,.int .i64 l,.int .i64 h] 24) (.cells #[.int .u8 k,.int .i64 a,.int .i64 y,.slice A n q] 58)
 have t0:=Ext.alloc (Ext.alloc (Below.refl w.heap.size w) (.cells #[.int .u32 (id : Int),.int .i64 m,.int .i64 c,.int .i64 r,.int .i64 l,.int .i64 h] 24)) (.cells #[.int .u8 k,.int .i64 a,.int .i64 y,.slice A n q] 58)
 refine (HW.out _).mono ?_
 rintro e w1 ⟨rfl,rfl⟩
 go_wp2_with fail
 have x0:=A0.cell
 have y0:=C0.cell
 generalize (w.alloc (.cells #[.int .u32 (id : Int),.int .i64 m,.int .i64 c,.int .i64 r,.int .i64 l,.int .i64 h] 24)).alloc (.cells #[.int .u8 k,.int .i64 a,.int .i64 y,.slice A n q] 58) = w0 at A0 C0 t0 x0 y0 ⊢
 have q1:=Q1.out
 have d1:=D1.out
 have d2:=D2.out
 have d3:=D3.out
 have hv:=HV.out
 go_region_held3 (fun w'=>Below w.heap.size w w' ∧ BoxOf w' (w.heap.size + 1) #[.int .u8 k,.int .i64 a,.int .i64 y,.slice A n q] 58 ∧ BoxOf w' w.heap.size #[.int .u32 (id : Int),.int .i64 m,.int .i64 c,.int .i64 r,.int .i64 l,.int .i64 h] 24 ∧ (∀ o,w'.cell? ⟨w.heap.size,o,none⟩ = #[.int .u32 (id : Int),.int .i64 m,.int .i64 c,.int .i64 r,.int .i64 l,.int .i64 h].toList[o]?) ∧ ∀ o,w'.cell? ⟨w.heap.size + 1,o,none⟩ = #[.int .u8 k,.int .i64 a,.int .i64 y,.slice A n q].toList[o]?)
  (first | exact ⟨Ext.drew t0,A0.drew,C0.drew,y0,x0⟩ | exact ⟨Ext.trans (And.left (by assumption)) k3,BoxOf.next (And.left (And.right (by assumption))) k3,BoxOf.next (And.left (And.right (And.right (by assumption)))) k3,(BoxOf.next (And.left (And.right (And.right (by assumption)))) k3).cell,(BoxOf.next (And.left (And.right (by assumption))) k3).cell⟩ | assumption)
  ((go_at_call 63;refine (HB.out _).mono ?_;rintro e w3 ⟨rfl,k3⟩))
 rename_i hH
 obtain ⟨bH,_⟩:=hH
 clear q1 d1 d2 d3 hv x0 y0
 go_wp2
 go_ret
 exact ⟨rfl,bH⟩
end Go.Proofs.Ytclbihcggjjgaaa
namespace Go.Proofs.Ytclbihcggjjgaaa
open Go.RowKit
set_option linter.unusedSimpArgs false
set_option linter.unusedVariables false
def askCode (x : Cfg) (k a y : Int) (n : Nat) : Int:=if x.Ok then (if Placed (x.c * x.r * (x.m - 1)) k a y then (if (n : Int) = kWant k y then 0 else 3) else 2) else 8
theorem scheck_all (x : Cfg) (k a y : Int) (A : Option Addr) (n q : Nat) (w : World) :
 Calls Try.prog 47 #[x.val,.agg #[.int .u8 k,.int .i64 a,.int .i64 y,.slice A n q]] w fun e w'=>e = .returned (.int .i64 (askCode x k a y n)) ∧ Below w.heap.size w w':=by
 unfold askCode
 split
 · rename_i hx
   split
   · rename_i hp
     split
     · rename_i hn;exact scheck_ok x hx k a y A n q hp hn w
     · rename_i hn;exact scheck_text x hx k a y A n q hp hn w
   · rename_i hp;exact scheck_arg x hx k a y A n q hp w
 · rename_i hx;exact scheck_bad x hx k a y A n q w
theorem askCode_0 {x : Cfg} {k a y : Int} {n : Nat} (h : askCode x k a y n = 0) : x.Ok ∧ Placed (x.c * x.r * (x.m - 1)) k a y ∧ (n : Int) = kWant k y ∧ (0 ≤ y ∧ y ≤ 8) ∧ (0 ≤ a ∧ a ≤ 1000) ∧ (1 ≤ y ∨ kWrites k = false):=by
 unfold askCode at h
 split at h
 · rename_i hx
   split at h
   · rename_i hp
     split at h
     · rename_i hn
       have hcr:=Cfg.crm hx
       refine ⟨hx,hp,hn,?_,?_,?_⟩
       · unfold Placed at hp;omega
       · unfold Placed at hp;omega
       · rcases hp with h1 | h1
         · exact .inl h1.2.1
         · right
           rcases kMost_or k with h2 | h2
           · rw [h1.2.1] at h2;cases h2
           · exact h2.2.2
     · cases h
   · cases h
 · cases h
end Go.Proofs.Ytclbihcggjjgaaa
namespace Go.Proofs.Ytclbihcggjjgaaa
open Go.RowKit
set_option linter.unusedSimpArgs false
set_option linter.unusedVariables false
theorem rplaced_any (x : Cfg) (hx : x.Ok) (k a y : Int) (A : Option Addr) (n q : Nat) (w : World) :
 Calls Try.prog 82 #[x.val,.agg #[.int .u8 k,.int .i64 a,.int .i64 y,.slice A n q]] w fun e w'=>e = .returned (.bool (decide (Placed (x.c * x.r * (x.m - 1)) k a y))) ∧ Below w.heap.size w w':=by
 have hcr:=Cfg.crm hx
 by_cases hk : 1 ≤ k ∧ k ≤ 6
 · by_cases h46 : k = 4 ∨ k = 6
   · have h:=placed_whole x k a y A n q h46 w
     have hm : kMost k = 0:=kMost_0 (by omega)
     have hi : kIs k = true:=decide_eq_true hk
     have hpl : Placed (x.c * x.r * (x.m - 1)) k a y ↔ (a = 0 ∧ y = 0):=by
      unfold Placed;rw [hm,hi];simp
     have e : (a == 0 && y == 0) = decide (Placed (x.c * x.r * (x.m - 1)) k a y):=by
      rw [Bool.eq_iff_iff,decide_eq_true_iff,hpl]
      simp
     rw [← e]
     exact h
   · have hm : kMost k = 8:=kMost_8 (by omega)
     have hpl : Placed (x.c * x.r * (x.m - 1)) k a y ↔ (1 ≤ y ∧ y ≤ 8 ∧ 0 ≤ a ∧ a ≤ x.c * x.r * (x.m - 1) - y):=by
      unfold Placed;rw [hm];simp
     by_cases hp : 1 ≤ y ∧ y ≤ 8 ∧ 0 ≤ a
     · have h:=placed_in x hx k a y A n q ⟨hk,h46⟩ hp _ rfl w
       have e : decide (a ≤ x.c * x.r * (x.m - 1) - y) = decide (Placed (x.c * x.r * (x.m - 1)) k a y):=decide_eq_decide.2 (by rw [hpl];omega)
       rw [← e]
       exact h
     · rw [decide_eq_false (fun h=>hp (by have:=hpl.1 h;omega))]
       exact placed_not x k a y A n q ⟨hk,h46⟩ (by omega) w
 · have hm : kMost k = 0:=kMost_0 (by omega)
   have hi : kIs k = false:=decide_eq_false hk
   rw [decide_eq_false (by unfold Placed;rw [hm,hi];simp)]
   exact placed_out x k a y A n q (by omega) w
set_option maxRecDepth 100000 in
theorem rcheck_no (x : Cfg) (hx : ¬ x.Ok) (k a y : Int) (A : Option Addr) (n q : Nat) (w : World) :
 Calls Try.prog 64 #[x.val,.agg #[.int .u8 k,.int .i64 a,.int .i64 y,.slice A n q]] w fun e w'=>e = .returned (.int .i64 8) ∧ Below w.heap.size w w':=by
 have HM:=Lib.hid (may_no x hx)
 obtain ⟨id,m,c,r,l,h⟩:=x
 unfold Cfg.val at *
 dsimp only at *
 go_enter Try.func64,Try.ntmps64
 go_wp2_with fail
 have A0:=BoxOf.new' (w.alloc (.cells #[.int .u32 (id : Int),.int .i64 m,.int .i64 c,.int .i64 r,.int .i64 l,.int .i64 h] 24)) (w.heap.size + 1) #[.int .u8 k,.int .i64 a,.int .i64 y,.slice A n q] 58 (by simp)
 have C0:=BoxOf.alloc (BoxOf.new w #[.int .u32 (id : Int),.int .i64 m,.int .i64 c,.int .i64 r,.int .i64 l,.int .i64 h] 24) (.cells #[.int .u8 k,.int .i64 a,.int .i64 y,.slice A n q] 58)
 have t0:=Ext.alloc (Ext.alloc (Below.refl w.heap.size w) (.cells #[.int .u32 (id : Int),.int .i64 m,.int .i64 c,.int .i64 r,.int .i64 l,.int .i64 h] 24)) (.cells #[.int .u8 k,.int .i64 a,.int .i64 y,.slice A n q] 58)
 refine (HM.out _).mono ?_
 rintro e w1 ⟨rfl,b1⟩
 have t1:=Ext.trans t0 b1
 go_wp2
 go_ret
 exact ⟨rfl,t1⟩
set_option maxRecDepth 100000 in
theorem rcheck_arg (x : Cfg) (hx : x.Ok) (k a y : Int) (A : Option Addr) (n q : Nat) (hp : ¬ Placed (x.c * x.r * (x.m - 1)) k a y) (w : World) :
 Calls Try.prog 64 #[x.val,.agg #[.int .u8 k,.int .i64 a,.int .i64 y,.slice A n q]] w fun e w'=>e = .returned (.int .i64 2) ∧ Below w.heap.size w w':=by
 have HM:=Lib.hid (may_yes x hx)
 have hpl:=rplaced_any x hx k a y A n q
 rw [decide_eq_false hp] at hpl
 have HP:=Lib.hid hpl
 clear hpl hp hx
 obtain ⟨id,m,c,r,l,h⟩:=x
 unfold Cfg.val at *
 dsimp only at *
 go_enter Try.func64,Try.ntmps64
 go_wp2_with fail
 have A0:=BoxOf.new' (w.alloc (.cells #[.int .u32 (id : Int),.int .i64 m,.int .i64 c,.int .i64 r,.int .i64 l,.int .i64 h] 24)) (w.heap.size + 1) #[.int .u8 k,.int .i64 a,.int .i64 y,.slice A n q] 58 (by simp)
 have C0:=BoxOf.alloc (BoxOf.new w #[.int .u32 (id : Int),.int .i64 m,.int .i64 c,.int .i64 r,.int .i64 l,.int .i64 h] 24) (.cells #[.int .u8 k,.int .i64 a,.int .i64 y,.slice A n q] 58)
 have t0:=Ext.alloc (Ext.alloc (Below.refl w.heap.size w) (.cells #[.int .u32 (id : Int),.int .i64 m,.int .i64 c,.int .i64 r,.int .i64 l,.int .i64 h] 24)) (.cells #[.int .u8 k,.int .i64 a,.int .i64 y,.slice A n q] 58)
 refine (HM.out _).mono ?_
 rintro e w1 ⟨rfl,b1⟩
 have A1:=A0.next b1
 have C1:=C0.next b1
 have t1:=Ext.trans t0 b1
 have ya1:=A1.cell
 have xc1:=C1.cell
 clear A0 C0 t0 b1
 go_wp2_with fail
 refine (HP.out _).mono ?_
 rintro e w2 ⟨rfl,b2⟩
 have t2:=Ext.trans t1 b2
 go_wp2
 go_ret
 exact ⟨rfl,t2⟩
set_option maxRecDepth 100000 in
theorem rcheck_text (x : Cfg) (hx : x.Ok) (k a y : Int) (A : Option Addr) (n q : Nat) (hp : Placed (x.c * x.r * (x.m - 1)) k a y) (hn : (n : Int) ≠ kWant k y) (w : World) :
 Calls Try.prog 64 #[x.val,.agg #[.int .u8 k,.int .i64 a,.int .i64 y,.slice A n q]] w fun e w'=>e = .returned (.int .i64 3) ∧ Below w.heap.size w w':=by
 have HM:=Lib.hid (may_yes x hx)
 have hpl:=rplaced_any x hx k a y A n q
 rw [decide_eq_true hp] at hpl
 have HP:=Lib.hid hpl
 have HBY:=Lib.hid (rbytes_any k)
 have hcr:=Cfg.crm hx
 have hy : 0 ≤ y ∧ y ≤ 8:=by unfold Placed at hp;omega
 obtain ⟨hy1,hy2⟩:=hy
 unfold kWant at hn
 clear hpl hp hx
 obtain ⟨id,m,c,r,l,h⟩:=x
 unfold Cfg.val at *
 dsimp only at *
 generalize kBytes k = by' at *
 clear hcr
 cases by' with
 | true=>
   have hne : ((n : Int) != y * 128) = true:=by simp at hn ⊢;exact hn
   clear hn
   go_enter Try.func64,Try.ntmps64
   go_wp2_with fail
   have A0:=BoxOf.new' (w.alloc (.cells #[.int .u32 (id : Int),.int .i64 m,.int .i64 c,.int .i64 r,.int .i64 l,.int .i64 h] 24)) (w.heap.size + 1) #[.int .u8 k,.int .i64 a,.int .i64 y,.slice A n q] 58 (by simp)
   have C0:=BoxOf.alloc (BoxOf.new w #[.int .u32 (id : Int),.int .i64 m,.int .i64 c,.int .i64 r,.int .i64 l,.int .i64 h] 24) (.cells #[.int .u8 k,.int .i64 a,.int .i64 y,.slice A n q] 58)
   have t0:=Ext.alloc (Ext.alloc (Below.refl w.heap.size w) (.cells #[.int .u32 (id : Int),.int .i64 m,.int .i64 c,.int .i64 r,.int .i64 l,.int .i64 h] 24)) (.cells #[.int .u8 k,.int .i64 a,.int .i64 y,.slice A n q] 58)
   refine (HM.out _).mono ?_
   rintro e w1 ⟨rfl,b1⟩
   have A1:=A0.next b1
   have C1:=C0.next b1
   have t1:=Ext.trans t0 b1
   have ya1:=A1.cell
   have xc1:=C1.cell
   clear A0 C0 t0 b1
   go_wp2_with fail
   refine (HP.out _).mono ?_
   rintro e w2 ⟨rfl,b2⟩
   have A2:=A1.next b2
   have C2:=C1.next b2
   have t2:=Ext.trans t1 b2
   have ya2:=A2.cell
   have xc2:=C2.cell
   clear A1 C1 t1 b2
   clear xc1 ya1
   go_wp2_with fail
   refine (HBY.out _).mono ?_
   rintro e w3 ⟨rfl,rfl⟩
   skip
   go_wp2
   go_ret
   exact ⟨rfl,t2⟩
 | false=>
   have hne : ((n : Int) != 0) = true:=by simp at hn ⊢;exact hn
   clear hn
   go_enter Try.func64,Try.ntmps64
   go_wp2_with fail
   have A0:=BoxOf.new' (w.alloc (.cells #[.int .u32 (id : Int),.int .i64 m,.int .i64 c,.int .i64 r,.int .i64 l,.int .i64 h] 24)) (w.heap.size + 1) #[.int .u8 k,.int .i64 a,.int .i64 y,.slice A n q] 58 (by simp)
   have C0:=BoxOf.alloc (BoxOf.new w #[.int .u32 (id : Int),.int .i64 m,.int .i64 c,.int .i64 r,.int .i64 l,.int .i64 h] 24) (.cells #[.int .u8 k,.int .i64 a,.int .i64 y,.slice A n q] 58)
   have t0:=Ext.alloc (Ext.alloc (Below.refl w.heap.size w) (.cells #[.int .u32 (id : Int),.int .i64 m,.int .i64 c,.int .i64 r,.int .i64 l,.int .i64 h] 24)) (.cells #[.int .u8 k,.int .i64 a,.int .i64 y,.slice A n q] 58)
   refine (HM.out _).mono ?_
   rintro e w1 ⟨rfl,b1⟩
   have A1:=A0.next b1
   have C1:=C0.next b1
   have t1:=Ext.trans t0 b1
   have ya1:=A1.cell
   have xc1:=C1.cell
   clear A0 C0 t0 b1
   go_wp2_with fail
   refine (HP.out _).mono ?_
   rintro e w2 ⟨rfl,b2⟩
   have A2:=A1.next b2
   have C2:=C1.next b2
   have t2:=Ext.trans t1 b2
   have ya2:=A2.cell
   have xc2:=C2.cell
   clear A1 C1 t1 b2
   clear xc1 ya1
   go_wp2_with fail
   refine (HBY.out _).mono ?_
   rintro e w3 ⟨rfl,rfl⟩
   go_wp2_with fail
   refine (HBY.out _).mono ?_
   rintro e w3 ⟨rfl,rfl⟩
   go_wp2
   go_ret
   exact ⟨rfl,t2⟩
set_option maxRecDepth 100000 in
theorem rcheck_ok (x : Cfg) (hx : x.Ok) (k a y : Int) (A : Option Addr) (n q : Nat) (hp : Placed (x.c * x.r * (x.m - 1)) k a y) (hn : (n : Int) = kWant k y) (w : World) :
 Calls Try.prog 64 #[x.val,.agg #[.int .u8 k,.int .i64 a,.int .i64 y,.slice A n q]] w fun e w'=>e = .returned (.int .i64 0) ∧ Below w.heap.size w w':=by
 have HM:=Lib.hid (may_yes x hx)
 have hpl:=rplaced_any x hx k a y A n q
 rw [decide_eq_true hp] at hpl
 have HP:=Lib.hid hpl
 have HBY:=Lib.hid (rbytes_any k)
 have hcr:=Cfg.crm hx
 have hy : 0 ≤ y ∧ y ≤ 8:=by unfold Placed at hp;omega
 obtain ⟨hy1,hy2⟩:=hy
 unfold kWant at hn
 clear hpl hp hx
 obtain ⟨id,m,c,r,l,h⟩:=x
 unfold Cfg.val at *
 dsimp only at *
 generalize kBytes k = by' at *
 clear hcr
 cases by' with
 | true=>
   have hne : ((n : Int) != y * 128) = false:=by simp at hn ⊢;exact hn
   clear hn
   go_enter Try.func64,Try.ntmps64
   go_wp2_with fail
   have A0:=BoxOf.new' (w.alloc (.cells #[.int .u32 (id : Int),.int .i64 m,.int .i64 c,.int .i64 r,.int .i64 l,.int .i64 h] 24)) (w.heap.size + 1) #[.int .u8 k,.int .i64 a,.int .i64 y,.slice A n q] 58 (by simp)
   have C0:=BoxOf.alloc (BoxOf.new w #[.int .u32 (id : Int),.int .i64 m,.int .i64 c,.int .i64 r,.int .i64 l,.int .i64 h] 24) (.cells #[.int .u8 k,.int .i64 a,.int .i64 y,.slice A n q] 58)
   have t0:=Ext.alloc (Ext.alloc (Below.refl w.heap.size w) (.cells #[.int .u32 (id : Int),.int .i64 m,.int .i64 c,.int .i64 r,.int .i64 l,.int .i64 h] 24)) (.cells #[.int .u8 k,.int .i64 a,.int .i64 y,.slice A n q] 58)
   refine (HM.out _).mono ?_
   rintro e w1 ⟨rfl,b1⟩
   have A1:=A0.next b1
   have C1:=C0.next b1
   have t1:=Ext.trans t0 b1
   have ya1:=A1.cell
   have xc1:=C1.cell
   clear A0 C0 t0 b1
   go_wp2_with fail
   refine (HP.out _).mono ?_
   rintro e w2 ⟨rfl,b2⟩
   have A2:=A1.next b2
   have C2:=C1.next b2
   have t2:=Ext.trans t1 b2
   have ya2:=A2.cell
   have xc2:=C2.cell
   clear A1 C1 t1 b2
   clear xc1 ya1
   go_wp2_with fail
   refine (HBY.out _).mono ?_
   rintro e w3 ⟨rfl,rfl⟩
   (go_wp2_with fail;refine (HBY.out _).mono ?_;rintro e w3 ⟨rfl,rfl⟩)
   go_wp2
   go_ret
   exact ⟨rfl,t2⟩
 | false=>
   have hne : ((n : Int) != 0) = false:=by simp at hn ⊢;exact hn
   clear hn
   go_enter Try.func64,Try.ntmps64
   go_wp2_with fail
   have A0:=BoxOf.new' (w.alloc (.cells #[.int .u32 (id : Int),.int .i64 m,.int .i64 c,.int .i64 r,.int .i64 l,.int .i64 h] 24)) (w.heap.size + 1) #[.int .u8 k,.int .i64 a,.int .i64 y,.slice A n q] 58 (by simp)
   have C0:=BoxOf.alloc (BoxOf.new w #[.int .u32 (id : Int),.int .i64 m,.int .i64 c,.int .i64 r,.int .i64 l,.int .i64 h] 24) (.cells #[.int .u8 k,.int .i64 a,.int .i64 y,.slice A n q] 58)
   have t0:=Ext.alloc (Ext.alloc (Below.refl w.heap.size w) (.cells #[.int .u32 (id : Int),.int .i64 m,.int .i64 c,.int .i64 r,.int .i64 l,.int .i64 h] 24)) (.cells #[.int .u8 k,.int .i64 a,.int .i64 y,.slice A n q] 58)
   refine (HM.out _).mono ?_
   rintro e w1 ⟨rfl,b1⟩
   have A1:=A0.next b1
   have C1:=C0.next b1
   have t1:=Ext.trans t0 b1
   have ya1:=A1.cell
   have xc1:=C1.cell
   clear A0 C0 t0 b1
   go_wp2_with fail
   refine (HP.out _).mono ?_
   rintro e w2 ⟨rfl,b2⟩
   have A2:=A1.next b2
   have C2:=C1.next b2
   have t2:=Ext.trans t1 b2
   have ya2:=A2.cell
   have xc2:=C2.cell
   clear A1 C1 t1 b2
   clear xc1 ya1
   go_wp2_with fail
   refine (HBY.out _).mono ?_
   rintro e w3 ⟨rfl,rfl⟩
   go_wp2_with fail
   refine (HBY.out _).mono ?_
   rintro e w3 ⟨rfl,rfl⟩
   go_wp2
   go_ret
   exact ⟨rfl,t2⟩
theorem rcheck_all (x : Cfg) (k a y : Int) (A : Option Addr) (n q : Nat) (w : World) :
 Calls Try.prog 64 #[x.val,.agg #[.int .u8 k,.int .i64 a,.int .i64 y,.slice A n q]] w fun e w'=>e = .returned (.int .i64 (askCode x k a y n)) ∧ Below w.heap.size w w':=by
 unfold askCode
 split
 · rename_i hx
   split
   · rename_i hp
     split
     · rename_i hn;exact rcheck_ok x hx k a y A n q hp hn w
     · rename_i hn;exact rcheck_text x hx k a y A n q hp hn w
   · rename_i hp;exact rcheck_arg x hx k a y A n q hp w
 · rename_i hx;exact rcheck_no x hx k a y A n q w
end Go.Proofs.Ytclbihcggjjgaaa
namespace Go.Proofs.Ytclbihcggjjgaaa
open Go Go.RowKit
set_option linter.unusedSimpArgs false
set_option linter.unusedVariables false
def MarkOk (ms : List Int) (ys : List (List (List UInt8))) (i : Nat) : Prop:=∀ (h : i < ms.length) (h' : i < ys.length),0 ≤ ms[i] ∧ ms[i] < ((ys[i]).length : Int)
def MarksOk (k : Int) (ms : List Int) (ys : List (List (List UInt8))) : Prop:=if k = 4 then ms.length = ys.length ∧ ∀ i,MarkOk ms ys i else ms.length = 0
def YesNo (P : Prop) (e : Ending) : Prop:=∃ b,e = .returned (.bool b) ∧ (b = true ↔ P)
theorem YesNo.yes {P : Prop} (h : P) : YesNo P (.returned (.bool true)):=⟨true,rfl,by simp [h]⟩
theorem YesNo.no {P : Prop} (h : ¬ P) : YesNo P (.returned (.bool false)):=⟨false,rfl,by simp [h]⟩
theorem YesNo.of {P : Prop} {b : Bool} (h : b = true ↔ P) : YesNo P (.returned (.bool b)):=⟨b,rfl,h⟩
set_option maxRecDepth 100000 in
set_option maxHeartbeats 2000000 in
theorem rmarks_any (S S' : Nat → Prop) (ys : List (List (List UInt8))) (A : Option Addr) (c : Nat) (B : Option Addr) (m d : Nat) (nu k a y : Int) (Ab : Option Addr) (nb cb : Nat) (ms : List Int) (Am : Option Addr) (cm : Nat) (w : World) (hy : RdIn w S (.sl (.sl (.sl .byte))) ys [.slice A ys.length c]) (hm : RdIn w S' (.sl .int) ms [.slice Am ms.length cm]) :
 Calls Try.prog 70 #[.agg #[.slice A ys.length c,.slice B m d],.agg #[.int .i64 nu,.int .u8 k,.int .i64 a,.int .i64 y,.slice Ab nb cb,.slice Am ms.length cm]] w fun e w'=>YesNo (MarksOk k ms ys) e ∧ Below w.heap.size w w':=by
 have P0:=BoxOf.alloc (BoxOf.new w #[.slice A ys.length c,.slice B m d] 28) (.cells #[.int .i64 nu,.int .u8 k,.int .i64 a,.int .i64 y,.slice Ab nb cb,.slice Am ms.length cm] 64)
 have G0:=BoxOf.new' (w.alloc (.cells #[.slice A ys.length c,.slice B m d] 28)) (w.heap.size + 1) #[.int .i64 nu,.int .u8 k,.int .i64 a,.int .i64 y,.slice Ab nb cb,.slice Am ms.length cm] 64 (by simp)
 have t0:=Ext.alloc (Ext.alloc (Below.refl w.heap.size w) (.cells #[.slice A ys.length c,.slice B m d] 28)) (.cells #[.int .i64 nu,.int .u8 k,.int .i64 a,.int .i64 y,.slice Ab nb cb,.slice Am ms.length cm] 64)
 have HY:=Lib.hid (hy.below t0)
 have HM:=Lib.hid (hm.below t0)
 have HYM:=Lib.hid (may_max hy)
 have HMM:=Lib.hid (mark_max hm)
 clear hy hm
 go_enter Try.func70,Try.ntmps70
 go_upto_region 1 with fail
 generalize (w.alloc (.cells #[.slice A ys.length c,.slice B m d] 28)).alloc (.cells #[.int .i64 nu,.int .u8 k,.int .i64 a,.int .i64 y,.slice Ab nb cb,.slice Am ms.length cm] 64) = W at *
 have x0:=P0.cell
 have y0:=G0.cell
 by_cases hk : k = 4
 · have hk' : (k != 4) = false:=by simp [hk]
   have HK : Hid (MarksOk k ms ys ↔ (ms.length = ys.length ∧ ∀ i,MarkOk ms ys i)):=by show _ ↔ _;unfold MarksOk;rw [if_pos hk]
   clear hk
   by_cases hl : ms.length = ys.length
   · have hl' : ((ms.length : Int) != (ys.length : Int)) = false:=by simp [hl]
     have HL:=Lib.hid hl
     clear hl
     go_wp2
     clear hl' hk'
     go_loopw [5] (fun i wr=>∃ (j : Nat),j ≤ ms.length ∧ i = .int .i64 j ∧ Below W.heap.size W wr ∧ Hid (∀ i,i < j → MarkOk ms ys i)) (fun i _=>ms.length - (intOf i).toNat)
     case atStart=>exact ⟨0,by omega,rfl,Below.refl _ _,fun i h=>absurd h (Nat.not_lt_zero _)⟩
     case round=>
      obtain ⟨j,hj,rfl,b1,HA⟩:=hrel
      clear x0 y0
      have P1:=P0.next b1
      have G1:=G0.next b1
      have x1:=P1.cell
      have y1:=G1.cell
      by_cases hlt : j < ms.length
      · have hlt2 : j < ys.length:=by have:=HL.out;omega
        obtain ⟨b4,off4,rfl,q4,i4⟩:=mark_at (HM.out.below b1) hlt
        obtain ⟨b,off,A2,c2,rfl,q2,r2⟩:=may_at (HY.out.below b1) hlt2
        have HMK : Hid (MarkOk ms ys j ↔ (0 ≤ ms[j] ∧ ms[j] < ((ys[j]).length : Int))):=⟨fun h=>h hlt hlt2,fun h _ _=>h⟩
        generalize ms[j] = z at *
        generalize ys[j] = zs at *
        have HWJ:=next_wrap HMM.out hlt
        have HLJ:=Lib.hid hlt
        have HLY:=Lib.hid hlt2
        clear r2 i4
        have b3:=Ext.trans t0 b1
        rcases Bool.eq_false_or_eq_true (decide (z < 0)) with e1 | e1
        · have hno : ¬ MarksOk k ms ys:=fun h=>by
           have h2:=HMK.out.1 ((HK.out.1 h).2 j)
           have:=of_decide_eq_true e1
           omega
          have HNO:=Lib.hid hno
          clear hno
          go_wp2
          go_quiet (fail)
          go_wp2
          go_ret
          exact ⟨YesNo.no HNO.out,below_drewN' b3 _⟩
        · rcases Bool.eq_false_or_eq_true (decide ((zs.length : Int) ≤ z)) with e2 | e2
          · have hno : ¬ MarksOk k ms ys:=fun h=>by
               have h2:=HMK.out.1 ((HK.out.1 h).2 j)
               have:=of_decide_eq_true e2
               omega
            have HNO:=Lib.hid hno
            clear hno
            go_wp2
            go_quiet (fail)
            go_wp2
            go_ret
            exact ⟨YesNo.no HNO.out,below_drewN' b3 _⟩
          · have HA' : Hid (∀ i,i < j + 1 → MarkOk ms ys i):=by
               intro i hi
               by_cases h : i = j
               · subst h
                 refine HMK.out.2 ⟨?_,?_⟩
                 · have:=of_decide_eq_false e1;omega
                 · have:=of_decide_eq_false e2;omega
               · exact HA.out i (by omega)
            go_wp2
            go_quiet (fail)
            go_wp2
            go_roundw
            case rel=>exact ⟨j + 1,HLJ.out,by first | exact round_same HWJ | go_num,below_drewN' b1 _,HA'⟩
            case measure=>first | exact round_less HWJ HLJ.out | (have h:=HLJ.out;simp [intOf];omega)
      · have b3:=Ext.trans t0 b1
        go_wp2
        go_ret
        exact ⟨YesNo.yes (HK.out.2 ⟨HL.out,fun i=>by by_cases h : i < j;exact HA.out i h;exact fun h'=>absurd h' (by omega)⟩),b3⟩
   · have hl' : ((ms.length : Int) != (ys.length : Int)) = true:=by simp;omega
     have HL:=Lib.hid hl
     clear hl
     go_wp2
     go_ret
     exact ⟨YesNo.no fun h=>HL.out (HK.out.1 h).1,t0⟩
 · have hk' : (k != 4) = true:=by simp [hk]
   have HK : Hid (MarksOk k ms ys ↔ ms.length = 0):=by show _ ↔ _;unfold MarksOk;rw [if_neg hk]
   clear hk
   go_wp2
   go_ret
   exact ⟨YesNo.of (by rw [HK.out];simp),t0⟩
end Go.Proofs.Ytclbihcggjjgaaa
