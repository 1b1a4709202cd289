/- What this claim needs of my texts, merged and shortened by a program (part 2). -/
import Derived.Maps.OwnOps
import Derived.Maps.Views
import Derived.Laws.EntriesVeiled
import Derived.BigQuiet
import Derived.Test.YthapabjlhooglaaRows
import Derived.Laws.CopyOwn
import Derived.Laws.ResultCell
import Derived.OrdersIn
import Derived.LoopIn
import Derived.OrdersHeld
import Derived.Deep.RegionHeld3
import Derived.Shelf.RegionOpen
import Derived.RangeFuncCalls
import Derived.RangeFuncBox
import Derived.RangeFuncNested
import Derived.RangeFuncBound
import Derived.RangeFuncLeaves
import Derived.Test.YthapabjlhooglaaZFlightOrder1
namespace Go.Proofs.Ythapabjlhooglaa
open Go.RowKit Go.Maps
set_option linter.unusedSimpArgs false
set_option linter.unusedVariables false
theorem lawI : Keyed Try.prog 3:=int_keyed Try.underlying3
theorem zeroI (w : World) : (zeroValue 3).run Try.prog w = .ok (.int .i64 0) w:=by kernel_rfl
def mapB (a mark : Int) : Nat → DataW Unit
 | 0=>.map []
 | k + 1=>(mapB a mark k).put (.int .i64 (a + (k : Int))) (.lit (.int .i64 mark))
theorem mapB_is (a mark : Int) (k : Nat) : IsMap (mapB a mark k):=by
 induction k with
 | zero=>exact isMap_empty
 | succ k ih=>exact ih.put _ _
theorem mapB_at (a mark n : Int) (k : Nat) : (mapB a mark k).atKey (.int .i64 n) (.lit (.int .i64 0)) = .lit (.int .i64 (if a ≤ n ∧ n < a + (k : Int) then mark else 0)):=by
 induction k with
 | zero=>rw [if_neg (by omega)];rfl
 | succ k ih=>
   unfold mapB
   by_cases h : n = a + (k : Int)
   · subst h
     rw [atKey_put_same (k:=.int .i64 (a + (k : Int))) (mapB_is a mark k) (show True from trivial),if_pos (by omega)]
   · rw [atKey_put_other (by simp;exact h),ih]
     congr 3
     exact propext (by omega)
theorem mapB_hit {a mark n c : Int} {k : Nat} (hat : (mapB a mark k).atKey (.int .i64 n) (.lit (.int .i64 0)) = .lit (.int .i64 c)) (h : a ≤ n ∧ n < a + (k : Int)) : c = mark:=by
 rw [mapB_at,if_pos h] at hat
 simpa using hat.symm
theorem mapB_miss {a mark n c : Int} {k : Nat} (hat : (mapB a mark k).atKey (.int .i64 n) (.lit (.int .i64 0)) = .lit (.int .i64 c)) (h : ¬ (a ≤ n ∧ n < a + (k : Int))) : c = 0:=by
 rw [mapB_at,if_neg h] at hat
 simpa using hat.symm
theorem ret_bool2 {a b : Bool} (h : a = b) (n : Int) : Ending.returned (.tuple #[.bool a,.int .i64 n]) = .returned (.tuple #[.bool b,.int .i64 n]):=by rw [h]
def touchB (k1 a1 y1 k2 a2 y2 : Int) : Bool:=(kWrites k1 || kWrites k2) && decide (0 < y1 ∧ 0 < y2 ∧ a1 < a2 + y2 ∧ a2 < a1 + y1)
theorem rd_seq {w : World} {A : Option Addr} {a : Int} {n : Nat} (h : Rd w A (seqI a n)) : n = 0 ∨ ∃ b off,A = some ⟨b,off,none⟩ ∧ ∀ j,j < n → w.cell? ⟨b,off + j,none⟩ = some (.int .i64 (a + (j : Int))):=by
 rcases h with h | ⟨b,off,hA,hc⟩
 · left
   have:=congrArg List.length h
   rwa [seqI_len] at this
 · refine .inr ⟨b,off,hA,fun j hj=>?_⟩
   rw [hc j (by rw [seqI_len];exact hj)]
   simp [seqI,hj]
set_option maxRecDepth 100000 in
set_option maxHeartbeats 4000000 in
theorem touch_ok (x : Cfg) (k1 a1 : Int) (y1 : Nat) (k2 a2 : Int) (y2 : Nat) (A1 A2 : Option Addr) (n1 q1 n2 q2 : Nat) (hy1 : y1 ≤ 8) (hy2 : y2 ≤ 8) (ha1 : 0 ≤ a1 ∧ a1 ≤ 1000) (ha2 : 0 ≤ a2 ∧ a2 ≤ 1000)
 (H1 : ∀ W,Calls Try.prog 35 #[x.val,.agg #[.int .u8 k1,.int .i64 a1,.int .i64 y1,.slice A1 n1 q1]] W fun e w'=>∃ v,e = .returned (.tuple #[v,.int .i64 0]) ∧ w'.ownsRow (W.heap.size + 2) 3 1 v y1 (seqI a1 y1) ∧ Below W.heap.size W w')
 (H2 : ∀ W,Calls Try.prog 35 #[x.val,.agg #[.int .u8 k2,.int .i64 a2,.int .i64 y2,.slice A2 n2 q2]] W fun e w'=>∃ v,e = .returned (.tuple #[v,.int .i64 0]) ∧ w'.ownsRow (W.heap.size + 2) 3 1 v y2 (seqI a2 y2) ∧ Below W.heap.size W w') (w : World) :
 Calls Try.prog 29 #[x.val,.agg #[.int .u8 k1,.int .i64 a1,.int .i64 y1,.slice A1 n1 q1],.agg #[.int .u8 k2,.int .i64 a2,.int .i64 y2,.slice A2 n2 q2]] w fun e w'=>e = .returned (.tuple #[.bool (touchB k1 a1 y1 k2 a2 y2),.int .i64 0]) ∧ Below w.heap.size w w':=by
 have HB1:=Lib.hid H1
 have HB2:=Lib.hid H2
 clear H1 H2
 have HO1:=Lib.hid (of_any k1)
 have HO2:=Lib.hid (of_any k2)
 have hmm:=@run_makeMap Try.prog
 obtain ⟨id,m,c,r,l,h⟩:=x
 unfold Cfg.val at *
 dsimp only at *
 have htb : touchB k1 a1 y1 k2 a2 y2 = ((kWrites k1 || kWrites k2) && decide (0 < (y1 : Int) ∧ 0 < (y2 : Int) ∧ a1 < a2 + (y2 : Int) ∧ a2 < a1 + (y1 : Int))):=rfl
 have HTB:=Lib.hid htb
 clear htb
 generalize touchB k1 a1 y1 k2 a2 y2 = tb at *
 generalize kMost k1 = mo1 at *
 generalize kMost k2 = mo2 at *
 generalize kBytes k1 = by1 at *
 generalize kBytes k2 = by2 at *
 generalize kIs k1 = is1 at *
 generalize kIs k2 = is2 at *
 generalize kWrites k1 = wr1 at *
 generalize kWrites k2 = wr2 at *
 cases wr1 <;> cases wr2
 · simp only [Bool.or_false,Bool.false_or,Bool.or_true,Bool.true_or,Bool.false_and,Bool.true_and] at HTB
   go_enter Try.func29,Try.ntmps29
   go_wp2_with fail
   have C0:=BoxOf.alloc (BoxOf.alloc (BoxOf.new w #[.int .u32 (id : Int),.int .i64 m,.int .i64 c,.int .i64 r,.int .i64 l,.int .i64 h] 24) (.cells #[.int .u8 k1,.int .i64 a1,.int .i64 y1,.slice A1 n1 q1] 28)) (.cells #[.int .u8 k2,.int .i64 a2,.int .i64 y2,.slice A2 n2 q2] 28)
   have A0:=BoxOf.alloc (BoxOf.new' (w.alloc (.cells #[.int .u32 (id : Int),.int .i64 m,.int .i64 c,.int .i64 r,.int .i64 l,.int .i64 h] 24)) (w.heap.size + 1) #[.int .u8 k1,.int .i64 a1,.int .i64 y1,.slice A1 n1 q1] 28 (by simp)) (.cells #[.int .u8 k2,.int .i64 a2,.int .i64 y2,.slice A2 n2 q2] 28)
   have D0:=BoxOf.new' ((w.alloc (.cells #[.int .u32 (id : Int),.int .i64 m,.int .i64 c,.int .i64 r,.int .i64 l,.int .i64 h] 24)).alloc (.cells #[.int .u8 k1,.int .i64 a1,.int .i64 y1,.slice A1 n1 q1] 28)) (w.heap.size + 2) #[.int .u8 k2,.int .i64 a2,.int .i64 y2,.slice A2 n2 q2] 28 (by simp)
   have t0:=Ext.alloc (Ext.alloc (Ext.alloc (Below.refl w.heap.size w) (.cells #[.int .u32 (id : Int),.int .i64 m,.int .i64 c,.int .i64 r,.int .i64 l,.int .i64 h] 24)) (.cells #[.int .u8 k1,.int .i64 a1,.int .i64 y1,.slice A1 n1 q1] 28)) (.cells #[.int .u8 k2,.int .i64 a2,.int .i64 y2,.slice A2 n2 q2] 28)
   refine (HB1.out _).mono ?_
   rintro e w1 ⟨v1,rfl,o1,b1⟩
   obtain ⟨P1,c1,rfl,_,r1⟩:=own_rd o1
   have C1:=C0.next b1
   have A1:=A0.next b1
   have D1:=D0.next b1
   have t1:=Ext.trans t0 b1
   have x1:=C1.cell
   have y1:=A1.cell
   have z1:=D1.cell
   clear C0 A0 D0 t0
   clear b1 o1
   go_wp2_with fail
   refine (HB2.out _).mono ?_
   rintro e w2 ⟨v2,rfl,o2,b2⟩
   obtain ⟨P2,c2,rfl,_,r2⟩:=own_rd o2
   have r1:=r1.below b2
   have C2:=C1.next b2
   have A2:=A1.next b2
   have D2:=D1.next b2
   have t2:=Ext.trans t1 b2
   have x2:=C2.cell
   have y2:=A2.cell
   have z2:=D2.cell
   clear C1 A1 D1 t1
   clear b2 o2 x1 y1 z1
   go_wp2_with fail
   refine (HO1.out _).mono ?_
   rintro e w3 ⟨rfl,b3⟩
   have r1:=r1.below b3
   have r2:=r2.below b3
   have C3:=C2.next b3
   have A3:=A2.next b3
   have D3:=D2.next b3
   have t3:=Ext.trans t2 b3
   have x3:=C3.cell
   have y3:=A3.cell
   have z3:=D3.cell
   clear C2 A2 D2 t2
   have l3:=D3.lt
   clear b3 x2 y2 z2
   go_wp2_with fail
   refine (HO2.out _).mono ?_
   rintro e w4 ⟨rfl,b4⟩
   have r1:=(r1.alloc _).below b4
   have r2:=(r2.alloc _).below b4
   have F4:=(BoxOf.new w3 #[.int .i64 mo1,.bool by1,.bool false] 114).next b4
   have t4:=Ext.trans (Ext.alloc t3 (.cells #[.int .i64 mo1,.bool by1,.bool false] 114)) b4
   have f4:=F4.cell
   have l4:=F4.lt
   have s4:=t4.size
   clear b4 x3 y3 z3 A3 C3 D3 t3 l3 F4
   go_wp2
   have m6:=World.ownsMap_made (w4.alloc (.cells #[.int .i64 mo2,.bool by2,.bool false] 114)) Try.prog 3 (plainElem (H:=Unit) Try.prog 3)
   rw [show (w4.alloc (.cells #[.int .i64 mo2,.bool by2,.bool false] 114)).heap.size = w4.heap.size + 1 by simp] at m6
   have t6:=Ext.alloc (Ext.alloc t4 (.cells #[.int .i64 mo2,.bool by2,.bool false] 114)) (.map #[] 0)
   have h6 : ((w4.alloc (.cells #[.int .i64 mo2,.bool by2,.bool false] 114)).alloc (.map #[] 0)).heap.size = w4.heap.size + 2:=by simp
   have UB6:=Ext.alloc (Ext.alloc (Below.refl w4.heap.size w4) (.cells #[.int .i64 mo2,.bool by2,.bool false] 114)) (.map #[] 0)
   generalize (w4.alloc (.cells #[.int .i64 mo2,.bool by2,.bool false] 114)).alloc (.map #[] 0) = w6 at m6 t6 h6 UB6 ⊢
   have r1:=rd_seq r1
   have r2:=rd_seq r2
   clear f4 l4 t4
   have hb1 : IsInt (a1 + 8) ∧ 0 ≤ a1:=⟨⟨by omega,by omega⟩,by omega⟩
   have hb2 : IsInt (a2 + 8) ∧ 0 ≤ a2:=⟨⟨by omega,by omega⟩,by omega⟩
   obtain ⟨ha1,ha1'⟩:=ha1
   obtain ⟨ha2,ha2'⟩:=ha2
   have r1 : y1 ≤ 0 ∨ _:=r1.imp (fun h=>Nat.le_of_eq h) (fun h=>h)
   have r2 : y2 ≤ 0 ∨ _:=r2.imp (fun h=>Nat.le_of_eq h) (fun h=>h)
   rcases r1 with hz1 | ⟨bb1,oo1,rfl,hc1⟩ <;> rcases r2 with hz2 | ⟨bb2,oo2,rfl,hc2⟩
   · go_loopw [18,60] (fun _ i wr=>∃ j : Nat,j ≤ y1 ∧ i = .int .i64 j ∧ wr.ownsMap Try.prog 3 (plainElem (H:=Unit) Try.prog 3) (w4.heap.size + 1) j (mapB a1 1 j) ∧ Below (w4.heap.size + 1) w6 wr) (fun _ i _=>y1 - (intOf i).toNat)
     case atStart=>exact ⟨0,Nat.zero_le _,rfl,m6,Below.refl _ _⟩
     case round=>
      obtain ⟨j,hj,rfl,hown,bj⟩:=hrel
      by_cases hlt : j < y1
      · exact absurd hlt (by omega)
      · have hjy : j = y1:=by omega
        have HJY:=Lib.hid hjy
        clear hjy
        go_wp2
        go_loop [20,70] (fun _ i=>∃ p : Nat,p ≤ y2 ∧ i = .int .i64 p ∧ (∀ q : Nat,q < p → ¬ ((1 : Int) = 2 ∧ a1 ≤ a2 + (q : Int) ∧ a2 + (q : Int) < a1 + (y1 : Nat)))) (fun _ i=>y2 - (intOf i).toNat)
        case atStart=>exact ⟨0,Nat.zero_le _,rfl,fun q hq=>by omega⟩
        case round=>
         obtain ⟨p,hp,rfl,hno⟩:=hrel
         have HNO:=Lib.hid hno
         clear hno
         by_cases hlt : p < y2
         · exact absurd hlt (by omega)
         · have hpe : p = y2:=by omega
           have HPE:=Lib.hid hpe
           have t7:=t6.trans (bj.mono (show w.heap.size ≤ w4.heap.size + 1 by omega))
           clear hpe
           go_wp2
           go_ret2
           refine ⟨ret_bool2 (a:=false) (HTB.out.trans ?_).symm 0,t7⟩
           first
            | rfl
            | exact decide_eq_false (fun h=>by
                   have e1:=HPE.out
                   by_cases hle : a1 ≤ a2
                   · exact HNO.out 0 (by omega) ⟨by simp,by omega,by omega⟩
                   · exact HNO.out (a1 - a2).toNat (by omega) ⟨by simp,by omega,by omega⟩)
   · go_loopw [18,60] (fun _ i wr=>∃ j : Nat,j ≤ y1 ∧ i = .int .i64 j ∧ wr.ownsMap Try.prog 3 (plainElem (H:=Unit) Try.prog 3) (w4.heap.size + 1) j (mapB a1 1 j) ∧ Below (w4.heap.size + 1) w6 wr) (fun _ i _=>y1 - (intOf i).toNat)
     case atStart=>exact ⟨0,Nat.zero_le _,rfl,m6,Below.refl _ _⟩
     case round=>
      obtain ⟨j,hj,rfl,hown,bj⟩:=hrel
      by_cases hlt : j < y1
      · exact absurd hlt (by omega)
      · have hjy : j = y1:=by omega
        have HJY:=Lib.hid hjy
        clear hjy
        go_wp2
        go_loop [20,70] (fun _ i=>∃ p : Nat,p ≤ y2 ∧ i = .int .i64 p ∧ (∀ q : Nat,q < p → ¬ ((1 : Int) = 2 ∧ a1 ≤ a2 + (q : Int) ∧ a2 + (q : Int) < a1 + (y1 : Nat)))) (fun _ i=>y2 - (intOf i).toNat)
        case atStart=>exact ⟨0,Nat.zero_le _,rfl,fun q hq=>by omega⟩
        case round=>
         obtain ⟨p,hp,rfl,hno⟩:=hrel
         have HNO:=Lib.hid hno
         clear hno
         by_cases hlt : p < y2
         · have hcc:=hc2 p hlt
           have hl2 : bb2 < w4.heap.size:=block_lt_of_cell hcc
           have q2:=(bj.cell (p:=⟨bb2,oo2 + p,none⟩) (by show bb2 < w4.heap.size + 1;omega)).trans ((UB6.cell (p:=⟨bb2,oo2 + p,none⟩) hl2).trans hcc)
           have hkey : keyOf Try.prog 3 (.int .i64 (a2 + (p : Int))) = some (.int .i64 (a2 + (p : Int))):=keyOf_int_mk Try.underlying3 (WalkArith.wf_i64 (by omega))
           have HK:=Lib.hid hkey
           have HM:=Lib.hid hown
           have t7:=t6.trans (bj.mono (show w.heap.size ≤ w4.heap.size + 1 by omega))
           clear hkey hown hcc
           by_cases hit : a1 ≤ a2 + (p : Int) ∧ a2 + (p : Int) < a1 + (j : Int)
           · have HIT:=Lib.hid hit
             clear hit
             go_wp2_with (at_lookup;go_loud (refine wpList_lookup_own_int _ rfl _ _ 117 rfl 3 3 .i64 lawI Try.underlying117 Try.underlying3 (zeroI _) (w4.heap.size + 1) j _ rfl HM.out _ _ rfl HK.out ?_;intro c hat hwc;have hcv:=mapB_hit hat HIT.out;subst hcv;clear hat hwc))
             first
                  | (go_ret2
                     exact ⟨ret_bool2 (a:=true) (HTB.out.trans (decide_eq_true (by have:=HIT.out;have:=HJY.out;omega))).symm 0,t7⟩)
                  | (go_round
                     case rel=>exact ⟨p + 1,by omega,by go_num,fun q hq h=>by
                      rcases (show q < p ∨ q = p by omega) with hq2 | hq2
                      · exact HNO.out q hq2 ⟨by first | trivial | rfl | exact h.1 | exact h.1.elim,h.2⟩
                      · omega⟩
                     case measure=>simp [intOf];omega)
           · have HIT:=Lib.hid hit
             clear hit
             go_wp2_with (at_lookup;go_loud (refine wpList_lookup_own_int _ rfl _ _ 117 rfl 3 3 .i64 lawI Try.underlying117 Try.underlying3 (zeroI _) (w4.heap.size + 1) j _ rfl HM.out _ _ rfl HK.out ?_;intro c hat hwc;have hcv:=mapB_miss hat HIT.out;subst hcv;clear hat hwc))
             go_round
             case rel=>exact ⟨p + 1,by omega,by go_num,fun q hq h=>by
                  rcases (show q < p ∨ q = p by omega) with hq2 | hq2
                  · exact HNO.out q hq2 ⟨by first | trivial | rfl | exact h.1 | exact h.1.elim,h.2⟩
                  · subst hq2
                    have:=HIT.out
                    have:=HJY.out
                    omega⟩
             case measure=>simp [intOf];omega
         · have hpe : p = y2:=by omega
           have HPE:=Lib.hid hpe
           have t7:=t6.trans (bj.mono (show w.heap.size ≤ w4.heap.size + 1 by omega))
           clear hpe
           go_wp2
           go_ret2
           refine ⟨ret_bool2 (a:=false) (HTB.out.trans ?_).symm 0,t7⟩
           first
            | rfl
            | exact decide_eq_false (fun h=>by
                   have e1:=HPE.out
                   by_cases hle : a1 ≤ a2
                   · exact HNO.out 0 (by omega) ⟨by simp,by omega,by omega⟩
                   · exact HNO.out (a1 - a2).toNat (by omega) ⟨by simp,by omega,by omega⟩)
   · go_loopw [18,60] (fun _ i wr=>∃ j : Nat,j ≤ y1 ∧ i = .int .i64 j ∧ wr.ownsMap Try.prog 3 (plainElem (H:=Unit) Try.prog 3) (w4.heap.size + 1) j (mapB a1 1 j) ∧ Below (w4.heap.size + 1) w6 wr) (fun _ i _=>y1 - (intOf i).toNat)
     case atStart=>exact ⟨0,Nat.zero_le _,rfl,m6,Below.refl _ _⟩
     case round=>
      obtain ⟨j,hj,rfl,hown,bj⟩:=hrel
      by_cases hlt : j < y1
      · have hcc:=hc1 j hlt
        have hl1 : bb1 < w4.heap.size:=block_lt_of_cell hcc
        have q1:=(bj.cell (p:=⟨bb1,oo1 + j,none⟩) (by show bb1 < w4.heap.size + 1;omega)).trans ((UB6.cell (p:=⟨bb1,oo1 + j,none⟩) hl1).trans hcc)
        have hkey : keyOf Try.prog 3 (.int .i64 (a1 + (j : Int))) = some (.int .i64 (a1 + (j : Int))):=keyOf_int_mk Try.underlying3 (WalkArith.wf_i64 (by omega))
        have HK:=Lib.hid hkey
        have HM:=Lib.hid hown
        have HJ:=Lib.hid bj
        clear hkey hown bj hcc
        go_wp2_with (at_mapUpdate;refine wpList_mapUpdate_own _ rfl _ _ _ 117 rfl 3 3 lawI Try.underlying117 _ (w4.heap.size + 1) j _ rfl HM.out (by unfold maxLen;omega) _ _ _ rfl rfl HK.out _ [] (plainElem_int Try.underlying3 (by decide)) ?_;intro w7 hown7 hg7)
        go_roundw
        case rel=>exact ⟨j + 1,by omega,by go_num,hown7,Below.grown HJ.out hg7 (by have:=HJ.out.size;omega) (fun k hk=>by cases hk;exact Nat.le_refl _)⟩
        case measure=>simp [intOf];omega
      · have hjy : j = y1:=by omega
        have HJY:=Lib.hid hjy
        clear hjy
        go_wp2
        go_loop [20,70] (fun _ i=>∃ p : Nat,p ≤ y2 ∧ i = .int .i64 p ∧ (∀ q : Nat,q < p → ¬ ((1 : Int) = 2 ∧ a1 ≤ a2 + (q : Int) ∧ a2 + (q : Int) < a1 + (y1 : Nat)))) (fun _ i=>y2 - (intOf i).toNat)
        case atStart=>exact ⟨0,Nat.zero_le _,rfl,fun q hq=>by omega⟩
        case round=>
         obtain ⟨p,hp,rfl,hno⟩:=hrel
         have HNO:=Lib.hid hno
         clear hno
         by_cases hlt : p < y2
         · exact absurd hlt (by omega)
         · have hpe : p = y2:=by omega
           have HPE:=Lib.hid hpe
           have t7:=t6.trans (bj.mono (show w.heap.size ≤ w4.heap.size + 1 by omega))
           clear hpe
           go_wp2
           go_ret2
           refine ⟨ret_bool2 (a:=false) (HTB.out.trans ?_).symm 0,t7⟩
           first
            | rfl
            | exact decide_eq_false (fun h=>by
                   have e1:=HPE.out
                   by_cases hle : a1 ≤ a2
                   · exact HNO.out 0 (by omega) ⟨by simp,by omega,by omega⟩
                   · exact HNO.out (a1 - a2).toNat (by omega) ⟨by simp,by omega,by omega⟩)
   · go_loopw [18,60] (fun _ i wr=>∃ j : Nat,j ≤ y1 ∧ i = .int .i64 j ∧ wr.ownsMap Try.prog 3 (plainElem (H:=Unit) Try.prog 3) (w4.heap.size + 1) j (mapB a1 1 j) ∧ Below (w4.heap.size + 1) w6 wr) (fun _ i _=>y1 - (intOf i).toNat)
     case atStart=>exact ⟨0,Nat.zero_le _,rfl,m6,Below.refl _ _⟩
     case round=>
      obtain ⟨j,hj,rfl,hown,bj⟩:=hrel
      by_cases hlt : j < y1
      · have hcc:=hc1 j hlt
        have hl1 : bb1 < w4.heap.size:=block_lt_of_cell hcc
        have q1:=(bj.cell (p:=⟨bb1,oo1 + j,none⟩) (by show bb1 < w4.heap.size + 1;omega)).trans ((UB6.cell (p:=⟨bb1,oo1 + j,none⟩) hl1).trans hcc)
        have hkey : keyOf Try.prog 3 (.int .i64 (a1 + (j : Int))) = some (.int .i64 (a1 + (j : Int))):=keyOf_int_mk Try.underlying3 (WalkArith.wf_i64 (by omega))
        have HK:=Lib.hid hkey
        have HM:=Lib.hid hown
        have HJ:=Lib.hid bj
        clear hkey hown bj hcc
        go_wp2_with (at_mapUpdate;refine wpList_mapUpdate_own _ rfl _ _ _ 117 rfl 3 3 lawI Try.underlying117 _ (w4.heap.size + 1) j _ rfl HM.out (by unfold maxLen;omega) _ _ _ rfl rfl HK.out _ [] (plainElem_int Try.underlying3 (by decide)) ?_;intro w7 hown7 hg7)
        go_roundw
        case rel=>exact ⟨j + 1,by omega,by go_num,hown7,Below.grown HJ.out hg7 (by have:=HJ.out.size;omega) (fun k hk=>by cases hk;exact Nat.le_refl _)⟩
        case measure=>simp [intOf];omega
      · have hjy : j = y1:=by omega
        have HJY:=Lib.hid hjy
        clear hjy
        go_wp2
        go_loop [20,70] (fun _ i=>∃ p : Nat,p ≤ y2 ∧ i = .int .i64 p ∧ (∀ q : Nat,q < p → ¬ ((1 : Int) = 2 ∧ a1 ≤ a2 + (q : Int) ∧ a2 + (q : Int) < a1 + (y1 : Nat)))) (fun _ i=>y2 - (intOf i).toNat)
        case atStart=>exact ⟨0,Nat.zero_le _,rfl,fun q hq=>by omega⟩
        case round=>
         obtain ⟨p,hp,rfl,hno⟩:=hrel
         have HNO:=Lib.hid hno
         clear hno
         by_cases hlt : p < y2
         · have hcc:=hc2 p hlt
           have hl2 : bb2 < w4.heap.size:=block_lt_of_cell hcc
           have q2:=(bj.cell (p:=⟨bb2,oo2 + p,none⟩) (by show bb2 < w4.heap.size + 1;omega)).trans ((UB6.cell (p:=⟨bb2,oo2 + p,none⟩) hl2).trans hcc)
           have hkey : keyOf Try.prog 3 (.int .i64 (a2 + (p : Int))) = some (.int .i64 (a2 + (p : Int))):=keyOf_int_mk Try.underlying3 (WalkArith.wf_i64 (by omega))
           have HK:=Lib.hid hkey
           have HM:=Lib.hid hown
           have t7:=t6.trans (bj.mono (show w.heap.size ≤ w4.heap.size + 1 by omega))
           clear hkey hown hcc
           by_cases hit : a1 ≤ a2 + (p : Int) ∧ a2 + (p : Int) < a1 + (j : Int)
           · have HIT:=Lib.hid hit
             clear hit
             go_wp2_with (at_lookup;go_loud (refine wpList_lookup_own_int _ rfl _ _ 117 rfl 3 3 .i64 lawI Try.underlying117 Try.underlying3 (zeroI _) (w4.heap.size + 1) j _ rfl HM.out _ _ rfl HK.out ?_;intro c hat hwc;have hcv:=mapB_hit hat HIT.out;subst hcv;clear hat hwc))
             first
                  | (go_ret2
                     exact ⟨ret_bool2 (a:=true) (HTB.out.trans (decide_eq_true (by have:=HIT.out;have:=HJY.out;omega))).symm 0,t7⟩)
                  | (go_round
                     case rel=>exact ⟨p + 1,by omega,by go_num,fun q hq h=>by
                      rcases (show q < p ∨ q = p by omega) with hq2 | hq2
                      · exact HNO.out q hq2 ⟨by first | trivial | rfl | exact h.1 | exact h.1.elim,h.2⟩
                      · omega⟩
                     case measure=>simp [intOf];omega)
           · have HIT:=Lib.hid hit
             clear hit
             go_wp2_with (at_lookup;go_loud (refine wpList_lookup_own_int _ rfl _ _ 117 rfl 3 3 .i64 lawI Try.underlying117 Try.underlying3 (zeroI _) (w4.heap.size + 1) j _ rfl HM.out _ _ rfl HK.out ?_;intro c hat hwc;have hcv:=mapB_miss hat HIT.out;subst hcv;clear hat hwc))
             go_round
             case rel=>exact ⟨p + 1,by omega,by go_num,fun q hq h=>by
                  rcases (show q < p ∨ q = p by omega) with hq2 | hq2
                  · exact HNO.out q hq2 ⟨by first | trivial | rfl | exact h.1 | exact h.1.elim,h.2⟩
                  · subst hq2
                    have:=HIT.out
                    have:=HJY.out
                    omega⟩
             case measure=>simp [intOf];omega
         · have hpe : p = y2:=by omega
           have HPE:=Lib.hid hpe
           have t7:=t6.trans (bj.mono (show w.heap.size ≤ w4.heap.size + 1 by omega))
           clear hpe
           go_wp2
           go_ret2
           refine ⟨ret_bool2 (a:=false) (HTB.out.trans ?_).symm 0,t7⟩
           first
            | rfl
            | exact decide_eq_false (fun h=>by
                   have e1:=HPE.out
                   by_cases hle : a1 ≤ a2
                   · exact HNO.out 0 (by omega) ⟨by simp,by omega,by omega⟩
                   · exact HNO.out (a1 - a2).toNat (by omega) ⟨by simp,by omega,by omega⟩)
 · simp only [Bool.or_false,Bool.false_or,Bool.or_true,Bool.true_or,Bool.false_and,Bool.true_and] at HTB
   go_enter Try.func29,Try.ntmps29
   go_wp2_with fail
   have C0:=BoxOf.alloc (BoxOf.alloc (BoxOf.new w #[.int .u32 (id : Int),.int .i64 m,.int .i64 c,.int .i64 r,.int .i64 l,.int .i64 h] 24) (.cells #[.int .u8 k1,.int .i64 a1,.int .i64 y1,.slice A1 n1 q1] 28)) (.cells #[.int .u8 k2,.int .i64 a2,.int .i64 y2,.slice A2 n2 q2] 28)
   have A0:=BoxOf.alloc (BoxOf.new' (w.alloc (.cells #[.int .u32 (id : Int),.int .i64 m,.int .i64 c,.int .i64 r,.int .i64 l,.int .i64 h] 24)) (w.heap.size + 1) #[.int .u8 k1,.int .i64 a1,.int .i64 y1,.slice A1 n1 q1] 28 (by simp)) (.cells #[.int .u8 k2,.int .i64 a2,.int .i64 y2,.slice A2 n2 q2] 28)
   have D0:=BoxOf.new' ((w.alloc (.cells #[.int .u32 (id : Int),.int .i64 m,.int .i64 c,.int .i64 r,.int .i64 l,.int .i64 h] 24)).alloc (.cells #[.int .u8 k1,.int .i64 a1,.int .i64 y1,.slice A1 n1 q1] 28)) (w.heap.size + 2) #[.int .u8 k2,.int .i64 a2,.int .i64 y2,.slice A2 n2 q2] 28 (by simp)
   have t0:=Ext.alloc (Ext.alloc (Ext.alloc (Below.refl w.heap.size w) (.cells #[.int .u32 (id : Int),.int .i64 m,.int .i64 c,.int .i64 r,.int .i64 l,.int .i64 h] 24)) (.cells #[.int .u8 k1,.int .i64 a1,.int .i64 y1,.slice A1 n1 q1] 28)) (.cells #[.int .u8 k2,.int .i64 a2,.int .i64 y2,.slice A2 n2 q2] 28)
   refine (HB1.out _).mono ?_
   rintro e w1 ⟨v1,rfl,o1,b1⟩
   obtain ⟨P1,c1,rfl,_,r1⟩:=own_rd o1
   have C1:=C0.next b1
   have A1:=A0.next b1
   have D1:=D0.next b1
   have t1:=Ext.trans t0 b1
   have x1:=C1.cell
   have y1:=A1.cell
   have z1:=D1.cell
   clear C0 A0 D0 t0
   clear b1 o1
   go_wp2_with fail
   refine (HB2.out _).mono ?_
   rintro e w2 ⟨v2,rfl,o2,b2⟩
   obtain ⟨P2,c2,rfl,_,r2⟩:=own_rd o2
   have r1:=r1.below b2
   have C2:=C1.next b2
   have A2:=A1.next b2
   have D2:=D1.next b2
   have t2:=Ext.trans t1 b2
   have x2:=C2.cell
   have y2:=A2.cell
   have z2:=D2.cell
   clear C1 A1 D1 t1
   clear b2 o2 x1 y1 z1
   go_wp2_with fail
   refine (HO1.out _).mono ?_
   rintro e w3 ⟨rfl,b3⟩
   have r1:=r1.below b3
   have r2:=r2.below b3
   have C3:=C2.next b3
   have A3:=A2.next b3
   have D3:=D2.next b3
   have t3:=Ext.trans t2 b3
   have x3:=C3.cell
   have y3:=A3.cell
   have z3:=D3.cell
   clear C2 A2 D2 t2
   have l3:=D3.lt
   clear b3 x2 y2 z2
   go_wp2_with fail
   refine (HO2.out _).mono ?_
   rintro e w4 ⟨rfl,b4⟩
   have r1:=(r1.alloc _).below b4
   have r2:=(r2.alloc _).below b4
   have F4:=(BoxOf.new w3 #[.int .i64 mo1,.bool by1,.bool false] 114).next b4
   have t4:=Ext.trans (Ext.alloc t3 (.cells #[.int .i64 mo1,.bool by1,.bool false] 114)) b4
   have f4:=F4.cell
   have l4:=F4.lt
   have s4:=t4.size
   clear b4 x3 y3 z3 A3 C3 D3 t3 l3 F4
   go_wp2
   have m6:=World.ownsMap_made (w4.alloc (.cells #[.int .i64 mo2,.bool by2,.bool true] 114)) Try.prog 3 (plainElem (H:=Unit) Try.prog 3)
   rw [show (w4.alloc (.cells #[.int .i64 mo2,.bool by2,.bool true] 114)).heap.size = w4.heap.size + 1 by simp] at m6
   have t6:=Ext.alloc (Ext.alloc t4 (.cells #[.int .i64 mo2,.bool by2,.bool true] 114)) (.map #[] 0)
   have h6 : ((w4.alloc (.cells #[.int .i64 mo2,.bool by2,.bool true] 114)).alloc (.map #[] 0)).heap.size = w4.heap.size + 2:=by simp
   have UB6:=Ext.alloc (Ext.alloc (Below.refl w4.heap.size w4) (.cells #[.int .i64 mo2,.bool by2,.bool true] 114)) (.map #[] 0)
   generalize (w4.alloc (.cells #[.int .i64 mo2,.bool by2,.bool true] 114)).alloc (.map #[] 0) = w6 at m6 t6 h6 UB6 ⊢
   have r1:=rd_seq r1
   have r2:=rd_seq r2
   clear f4 l4 t4
   have hb1 : IsInt (a1 + 8) ∧ 0 ≤ a1:=⟨⟨by omega,by omega⟩,by omega⟩
   have hb2 : IsInt (a2 + 8) ∧ 0 ≤ a2:=⟨⟨by omega,by omega⟩,by omega⟩
   obtain ⟨ha1,ha1'⟩:=ha1
   obtain ⟨ha2,ha2'⟩:=ha2
   have r1 : y1 ≤ 0 ∨ _:=r1.imp (fun h=>Nat.le_of_eq h) (fun h=>h)
   have r2 : y2 ≤ 0 ∨ _:=r2.imp (fun h=>Nat.le_of_eq h) (fun h=>h)
   rcases r1 with hz1 | ⟨bb1,oo1,rfl,hc1⟩ <;> rcases r2 with hz2 | ⟨bb2,oo2,rfl,hc2⟩
   · go_loopw [18,60] (fun _ i wr=>∃ j : Nat,j ≤ y1 ∧ i = .int .i64 j ∧ wr.ownsMap Try.prog 3 (plainElem (H:=Unit) Try.prog 3) (w4.heap.size + 1) j (mapB a1 2 j) ∧ Below (w4.heap.size + 1) w6 wr) (fun _ i _=>y1 - (intOf i).toNat)
     case atStart=>exact ⟨0,Nat.zero_le _,rfl,m6,Below.refl _ _⟩
     case round=>
      obtain ⟨j,hj,rfl,hown,bj⟩:=hrel
      by_cases hlt : j < y1
      · exact absurd hlt (by omega)
      · have hjy : j = y1:=by omega
        have HJY:=Lib.hid hjy
        clear hjy
        go_wp2
        go_loop [20,70] (fun _ i=>∃ p : Nat,p ≤ y2 ∧ i = .int .i64 p ∧ (∀ q : Nat,q < p → ¬ ((2 : Int) = 2 ∧ a1 ≤ a2 + (q : Int) ∧ a2 + (q : Int) < a1 + (y1 : Nat)))) (fun _ i=>y2 - (intOf i).toNat)
        case atStart=>exact ⟨0,Nat.zero_le _,rfl,fun q hq=>by omega⟩
        case round=>
         obtain ⟨p,hp,rfl,hno⟩:=hrel
         have HNO:=Lib.hid hno
         clear hno
         by_cases hlt : p < y2
         · exact absurd hlt (by omega)
         · have hpe : p = y2:=by omega
           have HPE:=Lib.hid hpe
           have t7:=t6.trans (bj.mono (show w.heap.size ≤ w4.heap.size + 1 by omega))
           clear hpe
           go_wp2
           go_ret2
           refine ⟨ret_bool2 (a:=false) (HTB.out.trans ?_).symm 0,t7⟩
           first
            | rfl
            | exact decide_eq_false (fun h=>by
                   have e1:=HPE.out
                   by_cases hle : a1 ≤ a2
                   · exact HNO.out 0 (by omega) ⟨by simp,by omega,by omega⟩
                   · exact HNO.out (a1 - a2).toNat (by omega) ⟨by simp,by omega,by omega⟩)
   · go_loopw [18,60] (fun _ i wr=>∃ j : Nat,j ≤ y1 ∧ i = .int .i64 j ∧ wr.ownsMap Try.prog 3 (plainElem (H:=Unit) Try.prog 3) (w4.heap.size + 1) j (mapB a1 2 j) ∧ Below (w4.heap.size + 1) w6 wr) (fun _ i _=>y1 - (intOf i).toNat)
     case atStart=>exact ⟨0,Nat.zero_le _,rfl,m6,Below.refl _ _⟩
     case round=>
      obtain ⟨j,hj,rfl,hown,bj⟩:=hrel
      by_cases hlt : j < y1
      · exact absurd hlt (by omega)
      · have hjy : j = y1:=by omega
        have HJY:=Lib.hid hjy
        clear hjy
        go_wp2
        go_loop [20,70] (fun _ i=>∃ p : Nat,p ≤ y2 ∧ i = .int .i64 p ∧ (∀ q : Nat,q < p → ¬ ((2 : Int) = 2 ∧ a1 ≤ a2 + (q : Int) ∧ a2 + (q : Int) < a1 + (y1 : Nat)))) (fun _ i=>y2 - (intOf i).toNat)
        case atStart=>exact ⟨0,Nat.zero_le _,rfl,fun q hq=>by omega⟩
        case round=>
         obtain ⟨p,hp,rfl,hno⟩:=hrel
         have HNO:=Lib.hid hno
         clear hno
         by_cases hlt : p < y2
         · have hcc:=hc2 p hlt
           have hl2 : bb2 < w4.heap.size:=block_lt_of_cell hcc
           have q2:=(bj.cell (p:=⟨bb2,oo2 + p,none⟩) (by show bb2 < w4.heap.size + 1;omega)).trans ((UB6.cell (p:=⟨bb2,oo2 + p,none⟩) hl2).trans hcc)
           have hkey : keyOf Try.prog 3 (.int .i64 (a2 + (p : Int))) = some (.int .i64 (a2 + (p : Int))):=keyOf_int_mk Try.underlying3 (WalkArith.wf_i64 (by omega))
           have HK:=Lib.hid hkey
           have HM:=Lib.hid hown
           have t7:=t6.trans (bj.mono (show w.heap.size ≤ w4.heap.size + 1 by omega))
           clear hkey hown hcc
           by_cases hit : a1 ≤ a2 + (p : Int) ∧ a2 + (p : Int) < a1 + (j : Int)
           · have HIT:=Lib.hid hit
             clear hit
             go_wp2_with (at_lookup;go_loud (refine wpList_lookup_own_int _ rfl _ _ 117 rfl 3 3 .i64 lawI Try.underlying117 Try.underlying3 (zeroI _) (w4.heap.size + 1) j _ rfl HM.out _ _ rfl HK.out ?_;intro c hat hwc;have hcv:=mapB_hit hat HIT.out;subst hcv;clear hat hwc))
             first
                  | (go_ret2
                     exact ⟨ret_bool2 (a:=true) (HTB.out.trans (decide_eq_true (by have:=HIT.out;have:=HJY.out;omega))).symm 0,t7⟩)
                  | (go_round
                     case rel=>exact ⟨p + 1,by omega,by go_num,fun q hq h=>by
                      rcases (show q < p ∨ q = p by omega) with hq2 | hq2
                      · exact HNO.out q hq2 ⟨by first | trivial | rfl | exact h.1 | exact h.1.elim,h.2⟩
                      · omega⟩
                     case measure=>simp [intOf];omega)
           · have HIT:=Lib.hid hit
             clear hit
             go_wp2_with (at_lookup;go_loud (refine wpList_lookup_own_int _ rfl _ _ 117 rfl 3 3 .i64 lawI Try.underlying117 Try.underlying3 (zeroI _) (w4.heap.size + 1) j _ rfl HM.out _ _ rfl HK.out ?_;intro c hat hwc;have hcv:=mapB_miss hat HIT.out;subst hcv;clear hat hwc))
             go_round
             case rel=>exact ⟨p + 1,by omega,by go_num,fun q hq h=>by
                  rcases (show q < p ∨ q = p by omega) with hq2 | hq2
                  · exact HNO.out q hq2 ⟨by first | trivial | rfl | exact h.1 | exact h.1.elim,h.2⟩
                  · subst hq2
                    have:=HIT.out
                    have:=HJY.out
                    omega⟩
             case measure=>simp [intOf];omega
         · have hpe : p = y2:=by omega
           have HPE:=Lib.hid hpe
           have t7:=t6.trans (bj.mono (show w.heap.size ≤ w4.heap.size + 1 by omega))
           clear hpe
           go_wp2
           go_ret2
           refine ⟨ret_bool2 (a:=false) (HTB.out.trans ?_).symm 0,t7⟩
           first
            | rfl
            | exact decide_eq_false (fun h=>by
                   have e1:=HPE.out
                   by_cases hle : a1 ≤ a2
                   · exact HNO.out 0 (by omega) ⟨by simp,by omega,by omega⟩
                   · exact HNO.out (a1 - a2).toNat (by omega) ⟨by simp,by omega,by omega⟩)
   · go_loopw [18,60] (fun _ i wr=>∃ j : Nat,j ≤ y1 ∧ i = .int .i64 j ∧ wr.ownsMap Try.prog 3 (plainElem (H:=Unit) Try.prog 3) (w4.heap.size + 1) j (mapB a1 2 j) ∧ Below (w4.heap.size + 1) w6 wr) (fun _ i _=>y1 - (intOf i).toNat)
     case atStart=>exact ⟨0,Nat.zero_le _,rfl,m6,Below.refl _ _⟩
     case round=>
      obtain ⟨j,hj,rfl,hown,bj⟩:=hrel
      by_cases hlt : j < y1
      · have hcc:=hc1 j hlt
        have hl1 : bb1 < w4.heap.size:=block_lt_of_cell hcc
        have q1:=(bj.cell (p:=⟨bb1,oo1 + j,none⟩) (by show bb1 < w4.heap.size + 1;omega)).trans ((UB6.cell (p:=⟨bb1,oo1 + j,none⟩) hl1).trans hcc)
        have hkey : keyOf Try.prog 3 (.int .i64 (a1 + (j : Int))) = some (.int .i64 (a1 + (j : Int))):=keyOf_int_mk Try.underlying3 (WalkArith.wf_i64 (by omega))
        have HK:=Lib.hid hkey
        have HM:=Lib.hid hown
        have HJ:=Lib.hid bj
        clear hkey hown bj hcc
        go_wp2_with (at_mapUpdate;refine wpList_mapUpdate_own _ rfl _ _ _ 117 rfl 3 3 lawI Try.underlying117 _ (w4.heap.size + 1) j _ rfl HM.out (by unfold maxLen;omega) _ _ _ rfl rfl HK.out _ [] (plainElem_int Try.underlying3 (by decide)) ?_;intro w7 hown7 hg7)
        go_roundw
        case rel=>exact ⟨j + 1,by omega,by go_num,hown7,Below.grown HJ.out hg7 (by have:=HJ.out.size;omega) (fun k hk=>by cases hk;exact Nat.le_refl _)⟩
        case measure=>simp [intOf];omega
      · have hjy : j = y1:=by omega
        have HJY:=Lib.hid hjy
        clear hjy
        go_wp2
        go_loop [20,70] (fun _ i=>∃ p : Nat,p ≤ y2 ∧ i = .int .i64 p ∧ (∀ q : Nat,q < p → ¬ ((2 : Int) = 2 ∧ a1 ≤ a2 + (q : Int) ∧ a2 + (q : Int) < a1 + (y1 : Nat)))) (fun _ i=>y2 - (intOf i).toNat)
        case atStart=>exact ⟨0,Nat.zero_le _,rfl,fun q hq=>by omega⟩
        case round=>
         obtain ⟨p,hp,rfl,hno⟩:=hrel
         have HNO:=Lib.hid hno
         clear hno
         by_cases hlt : p < y2
         · exact absurd hlt (by omega)
         · have hpe : p = y2:=by omega
           have HPE:=Lib.hid hpe
           have t7:=t6.trans (bj.mono (show w.heap.size ≤ w4.heap.size + 1 by omega))
           clear hpe
           go_wp2
           go_ret2
           refine ⟨ret_bool2 (a:=false) (HTB.out.trans ?_).symm 0,t7⟩
           first
            | rfl
            | exact decide_eq_false (fun h=>by
                   have e1:=HPE.out
                   by_cases hle : a1 ≤ a2
                   · exact HNO.out 0 (by omega) ⟨by simp,by omega,by omega⟩
                   · exact HNO.out (a1 - a2).toNat (by omega) ⟨by simp,by omega,by omega⟩)
   · go_loopw [18,60] (fun _ i wr=>∃ j : Nat,j ≤ y1 ∧ i = .int .i64 j ∧ wr.ownsMap Try.prog 3 (plainElem (H:=Unit) Try.prog 3) (w4.heap.size + 1) j (mapB a1 2 j) ∧ Below (w4.heap.size + 1) w6 wr) (fun _ i _=>y1 - (intOf i).toNat)
     case atStart=>exact ⟨0,Nat.zero_le _,rfl,m6,Below.refl _ _⟩
     case round=>
      obtain ⟨j,hj,rfl,hown,bj⟩:=hrel
      by_cases hlt : j < y1
      · have hcc:=hc1 j hlt
        have hl1 : bb1 < w4.heap.size:=block_lt_of_cell hcc
        have q1:=(bj.cell (p:=⟨bb1,oo1 + j,none⟩) (by show bb1 < w4.heap.size + 1;omega)).trans ((UB6.cell (p:=⟨bb1,oo1 + j,none⟩) hl1).trans hcc)
        have hkey : keyOf Try.prog 3 (.int .i64 (a1 + (j : Int))) = some (.int .i64 (a1 + (j : Int))):=keyOf_int_mk Try.underlying3 (WalkArith.wf_i64 (by omega))
        have HK:=Lib.hid hkey
        have HM:=Lib.hid hown
        have HJ:=Lib.hid bj
        clear hkey hown bj hcc
        go_wp2_with (at_mapUpdate;refine wpList_mapUpdate_own _ rfl _ _ _ 117 rfl 3 3 lawI Try.underlying117 _ (w4.heap.size + 1) j _ rfl HM.out (by unfold maxLen;omega) _ _ _ rfl rfl HK.out _ [] (plainElem_int Try.underlying3 (by decide)) ?_;intro w7 hown7 hg7)
        go_roundw
        case rel=>exact ⟨j + 1,by omega,by go_num,hown7,Below.grown HJ.out hg7 (by have:=HJ.out.size;omega) (fun k hk=>by cases hk;exact Nat.le_refl _)⟩
        case measure=>simp [intOf];omega
      · have hjy : j = y1:=by omega
        have HJY:=Lib.hid hjy
        clear hjy
        go_wp2
        go_loop [20,70] (fun _ i=>∃ p : Nat,p ≤ y2 ∧ i = .int .i64 p ∧ (∀ q : Nat,q < p → ¬ ((2 : Int) = 2 ∧ a1 ≤ a2 + (q : Int) ∧ a2 + (q : Int) < a1 + (y1 : Nat)))) (fun _ i=>y2 - (intOf i).toNat)
        case atStart=>exact ⟨0,Nat.zero_le _,rfl,fun q hq=>by omega⟩
        case round=>
         obtain ⟨p,hp,rfl,hno⟩:=hrel
         have HNO:=Lib.hid hno
         clear hno
         by_cases hlt : p < y2
         · have hcc:=hc2 p hlt
           have hl2 : bb2 < w4.heap.size:=block_lt_of_cell hcc
           have q2:=(bj.cell (p:=⟨bb2,oo2 + p,none⟩) (by show bb2 < w4.heap.size + 1;omega)).trans ((UB6.cell (p:=⟨bb2,oo2 + p,none⟩) hl2).trans hcc)
           have hkey : keyOf Try.prog 3 (.int .i64 (a2 + (p : Int))) = some (.int .i64 (a2 + (p : Int))):=keyOf_int_mk Try.underlying3 (WalkArith.wf_i64 (by omega))
           have HK:=Lib.hid hkey
           have HM:=Lib.hid hown
           have t7:=t6.trans (bj.mono (show w.heap.size ≤ w4.heap.size + 1 by omega))
           clear hkey hown hcc
           by_cases hit : a1 ≤ a2 + (p : Int) ∧ a2 + (p : Int) < a1 + (j : Int)
           · have HIT:=Lib.hid hit
             clear hit
             go_wp2_with (at_lookup;go_loud (refine wpList_lookup_own_int _ rfl _ _ 117 rfl 3 3 .i64 lawI Try.underlying117 Try.underlying3 (zeroI _) (w4.heap.size + 1) j _ rfl HM.out _ _ rfl HK.out ?_;intro c hat hwc;have hcv:=mapB_hit hat HIT.out;subst hcv;clear hat hwc))
             first
                  | (go_ret2
                     exact ⟨ret_bool2 (a:=true) (HTB.out.trans (decide_eq_true (by have:=HIT.out;have:=HJY.out;omega))).symm 0,t7⟩)
                  | (go_round
                     case rel=>exact ⟨p + 1,by omega,by go_num,fun q hq h=>by
                      rcases (show q < p ∨ q = p by omega) with hq2 | hq2
                      · exact HNO.out q hq2 ⟨by first | trivial | rfl | exact h.1 | exact h.1.elim,h.2⟩
                      · omega⟩
                     case measure=>simp [intOf];omega)
           · have HIT:=Lib.hid hit
             clear hit
             go_wp2_with (at_lookup;go_loud (refine wpList_lookup_own_int _ rfl _ _ 117 rfl 3 3 .i64 lawI Try.underlying117 Try.underlying3 (zeroI _) (w4.heap.size + 1) j _ rfl HM.out _ _ rfl HK.out ?_;intro c hat hwc;have hcv:=mapB_miss hat HIT.out;subst hcv;clear hat hwc))
             go_round
             case rel=>exact ⟨p + 1,by omega,by go_num,fun q hq h=>by
                  rcases (show q < p ∨ q = p by omega) with hq2 | hq2
                  · exact HNO.out q hq2 ⟨by first | trivial | rfl | exact h.1 | exact h.1.elim,h.2⟩
                  · subst hq2
                    have:=HIT.out
                    have:=HJY.out
                    omega⟩
             case measure=>simp [intOf];omega
         · have hpe : p = y2:=by omega
           have HPE:=Lib.hid hpe
           have t7:=t6.trans (bj.mono (show w.heap.size ≤ w4.heap.size + 1 by omega))
           clear hpe
           go_wp2
           go_ret2
           refine ⟨ret_bool2 (a:=false) (HTB.out.trans ?_).symm 0,t7⟩
           first
            | rfl
            | exact decide_eq_false (fun h=>by
                   have e1:=HPE.out
                   by_cases hle : a1 ≤ a2
                   · exact HNO.out 0 (by omega) ⟨by simp,by omega,by omega⟩
                   · exact HNO.out (a1 - a2).toNat (by omega) ⟨by simp,by omega,by omega⟩)
 · simp only [Bool.or_false,Bool.false_or,Bool.or_true,Bool.true_or,Bool.false_and,Bool.true_and] at HTB
   go_enter Try.func29,Try.ntmps29
   go_wp2_with fail
   have C0:=BoxOf.alloc (BoxOf.alloc (BoxOf.new w #[.int .u32 (id : Int),.int .i64 m,.int .i64 c,.int .i64 r,.int .i64 l,.int .i64 h] 24) (.cells #[.int .u8 k1,.int .i64 a1,.int .i64 y1,.slice A1 n1 q1] 28)) (.cells #[.int .u8 k2,.int .i64 a2,.int .i64 y2,.slice A2 n2 q2] 28)
   have A0:=BoxOf.alloc (BoxOf.new' (w.alloc (.cells #[.int .u32 (id : Int),.int .i64 m,.int .i64 c,.int .i64 r,.int .i64 l,.int .i64 h] 24)) (w.heap.size + 1) #[.int .u8 k1,.int .i64 a1,.int .i64 y1,.slice A1 n1 q1] 28 (by simp)) (.cells #[.int .u8 k2,.int .i64 a2,.int .i64 y2,.slice A2 n2 q2] 28)
   have D0:=BoxOf.new' ((w.alloc (.cells #[.int .u32 (id : Int),.int .i64 m,.int .i64 c,.int .i64 r,.int .i64 l,.int .i64 h] 24)).alloc (.cells #[.int .u8 k1,.int .i64 a1,.int .i64 y1,.slice A1 n1 q1] 28)) (w.heap.size + 2) #[.int .u8 k2,.int .i64 a2,.int .i64 y2,.slice A2 n2 q2] 28 (by simp)
   have t0:=Ext.alloc (Ext.alloc (Ext.alloc (Below.refl w.heap.size w) (.cells #[.int .u32 (id : Int),.int .i64 m,.int .i64 c,.int .i64 r,.int .i64 l,.int .i64 h] 24)) (.cells #[.int .u8 k1,.int .i64 a1,.int .i64 y1,.slice A1 n1 q1] 28)) (.cells #[.int .u8 k2,.int .i64 a2,.int .i64 y2,.slice A2 n2 q2] 28)
   refine (HB1.out _).mono ?_
   rintro e w1 ⟨v1,rfl,o1,b1⟩
   obtain ⟨P1,c1,rfl,_,r1⟩:=own_rd o1
   have C1:=C0.next b1
   have A1:=A0.next b1
   have D1:=D0.next b1
   have t1:=Ext.trans t0 b1
   have x1:=C1.cell
   have y1:=A1.cell
   have z1:=D1.cell
   clear C0 A0 D0 t0
   clear b1 o1
   go_wp2_with fail
   refine (HB2.out _).mono ?_
   rintro e w2 ⟨v2,rfl,o2,b2⟩
   obtain ⟨P2,c2,rfl,_,r2⟩:=own_rd o2
   have r1:=r1.below b2
   have C2:=C1.next b2
   have A2:=A1.next b2
   have D2:=D1.next b2
   have t2:=Ext.trans t1 b2
   have x2:=C2.cell
   have y2:=A2.cell
   have z2:=D2.cell
   clear C1 A1 D1 t1
   clear b2 o2 x1 y1 z1
   go_wp2_with fail
   refine (HO1.out _).mono ?_
   rintro e w3 ⟨rfl,b3⟩
   have r1:=r1.below b3
   have r2:=r2.below b3
   have C3:=C2.next b3
   have A3:=A2.next b3
   have D3:=D2.next b3
   have t3:=Ext.trans t2 b3
   have x3:=C3.cell
   have y3:=A3.cell
   have z3:=D3.cell
   clear C2 A2 D2 t2
   have l3:=D3.lt
   clear b3 x2 y2 z2
   go_wp2_with fail
   refine (HO2.out _).mono ?_
   rintro e w4 ⟨rfl,b4⟩
   have r1:=(r1.alloc _).below b4
   have r2:=(r2.alloc _).below b4
   have F4:=(BoxOf.new w3 #[.int .i64 mo1,.bool by1,.bool true] 114).next b4
   have t4:=Ext.trans (Ext.alloc t3 (.cells #[.int .i64 mo1,.bool by1,.bool true] 114)) b4
   have f4:=F4.cell
   have l4:=F4.lt
   have s4:=t4.size
   clear b4 x3 y3 z3 A3 C3 D3 t3 l3 F4
   go_wp2
   have m6:=World.ownsMap_made (w4.alloc (.cells #[.int .i64 mo2,.bool by2,.bool false] 114)) Try.prog 3 (plainElem (H:=Unit) Try.prog 3)
   rw [show (w4.alloc (.cells #[.int .i64 mo2,.bool by2,.bool false] 114)).heap.size = w4.heap.size + 1 by simp] at m6
   have t6:=Ext.alloc (Ext.alloc t4 (.cells #[.int .i64 mo2,.bool by2,.bool false] 114)) (.map #[] 0)
   have h6 : ((w4.alloc (.cells #[.int .i64 mo2,.bool by2,.bool false] 114)).alloc (.map #[] 0)).heap.size = w4.heap.size + 2:=by simp
   have UB6:=Ext.alloc (Ext.alloc (Below.refl w4.heap.size w4) (.cells #[.int .i64 mo2,.bool by2,.bool false] 114)) (.map #[] 0)
   generalize (w4.alloc (.cells #[.int .i64 mo2,.bool by2,.bool false] 114)).alloc (.map #[] 0) = w6 at m6 t6 h6 UB6 ⊢
   have r1:=rd_seq r1
   have r2:=rd_seq r2
   clear f4 l4 t4
   have hb1 : IsInt (a1 + 8) ∧ 0 ≤ a1:=⟨⟨by omega,by omega⟩,by omega⟩
   have hb2 : IsInt (a2 + 8) ∧ 0 ≤ a2:=⟨⟨by omega,by omega⟩,by omega⟩
   obtain ⟨ha1,ha1'⟩:=ha1
   obtain ⟨ha2,ha2'⟩:=ha2
   have r1 : y1 ≤ 0 ∨ _:=r1.imp (fun h=>Nat.le_of_eq h) (fun h=>h)
   have r2 : y2 ≤ 0 ∨ _:=r2.imp (fun h=>Nat.le_of_eq h) (fun h=>h)
   rcases r1 with hz1 | ⟨bb1,oo1,rfl,hc1⟩ <;> rcases r2 with hz2 | ⟨bb2,oo2,rfl,hc2⟩
   · go_loopw [18,60] (fun _ i wr=>∃ j : Nat,j ≤ y1 ∧ i = .int .i64 j ∧ wr.ownsMap Try.prog 3 (plainElem (H:=Unit) Try.prog 3) (w4.heap.size + 1) j (mapB a1 2 j) ∧ Below (w4.heap.size + 1) w6 wr) (fun _ i _=>y1 - (intOf i).toNat)
     case atStart=>exact ⟨0,Nat.zero_le _,rfl,m6,Below.refl _ _⟩
     case round=>
      obtain ⟨j,hj,rfl,hown,bj⟩:=hrel
      by_cases hlt : j < y1
      · exact absurd hlt (by omega)
      · have hjy : j = y1:=by omega
        have HJY:=Lib.hid hjy
        clear hjy
        go_wp2
        go_loop [20,70] (fun _ i=>∃ p : Nat,p ≤ y2 ∧ i = .int .i64 p ∧ (∀ q : Nat,q < p → ¬ ((2 : Int) = 2 ∧ a1 ≤ a2 + (q : Int) ∧ a2 + (q : Int) < a1 + (y1 : Nat)))) (fun _ i=>y2 - (intOf i).toNat)
        case atStart=>exact ⟨0,Nat.zero_le _,rfl,fun q hq=>by omega⟩
        case round=>
         obtain ⟨p,hp,rfl,hno⟩:=hrel
         have HNO:=Lib.hid hno
         clear hno
         by_cases hlt : p < y2
         · exact absurd hlt (by omega)
         · have hpe : p = y2:=by omega
           have HPE:=Lib.hid hpe
           have t7:=t6.trans (bj.mono (show w.heap.size ≤ w4.heap.size + 1 by omega))
           clear hpe
           go_wp2
           go_ret2
           refine ⟨ret_bool2 (a:=false) (HTB.out.trans ?_).symm 0,t7⟩
           first
            | rfl
            | exact decide_eq_false (fun h=>by
                   have e1:=HPE.out
                   by_cases hle : a1 ≤ a2
                   · exact HNO.out 0 (by omega) ⟨by simp,by omega,by omega⟩
                   · exact HNO.out (a1 - a2).toNat (by omega) ⟨by simp,by omega,by omega⟩)
   · go_loopw [18,60] (fun _ i wr=>∃ j : Nat,j ≤ y1 ∧ i = .int .i64 j ∧ wr.ownsMap Try.prog 3 (plainElem (H:=Unit) Try.prog 3) (w4.heap.size + 1) j (mapB a1 2 j) ∧ Below (w4.heap.size + 1) w6 wr) (fun _ i _=>y1 - (intOf i).toNat)
     case atStart=>exact ⟨0,Nat.zero_le _,rfl,m6,Below.refl _ _⟩
     case round=>
      obtain ⟨j,hj,rfl,hown,bj⟩:=hrel
      by_cases hlt : j < y1
      · exact absurd hlt (by omega)
      · have hjy : j = y1:=by omega
        have HJY:=Lib.hid hjy
        clear hjy
        go_wp2
        go_loop [20,70] (fun _ i=>∃ p : Nat,p ≤ y2 ∧ i = .int .i64 p ∧ (∀ q : Nat,q < p → ¬ ((2 : Int) = 2 ∧ a1 ≤ a2 + (q : Int) ∧ a2 + (q : Int) < a1 + (y1 : Nat)))) (fun _ i=>y2 - (intOf i).toNat)
        case atStart=>exact ⟨0,Nat.zero_le _,rfl,fun q hq=>by omega⟩
        case round=>
         obtain ⟨p,hp,rfl,hno⟩:=hrel
         have HNO:=Lib.hid hno
         clear hno
         by_cases hlt : p < y2
         · have hcc:=hc2 p hlt
           have hl2 : bb2 < w4.heap.size:=block_lt_of_cell hcc
           have q2:=(bj.cell (p:=⟨bb2,oo2 + p,none⟩) (by show bb2 < w4.heap.size + 1;omega)).trans ((UB6.cell (p:=⟨bb2,oo2 + p,none⟩) hl2).trans hcc)
           have hkey : keyOf Try.prog 3 (.int .i64 (a2 + (p : Int))) = some (.int .i64 (a2 + (p : Int))):=keyOf_int_mk Try.underlying3 (WalkArith.wf_i64 (by omega))
           have HK:=Lib.hid hkey
           have HM:=Lib.hid hown
           have t7:=t6.trans (bj.mono (show w.heap.size ≤ w4.heap.size + 1 by omega))
           clear hkey hown hcc
           by_cases hit : a1 ≤ a2 + (p : Int) ∧ a2 + (p : Int) < a1 + (j : Int)
           · have HIT:=Lib.hid hit
             clear hit
             go_wp2_with (at_lookup;go_loud (refine wpList_lookup_own_int _ rfl _ _ 117 rfl 3 3 .i64 lawI Try.underlying117 Try.underlying3 (zeroI _) (w4.heap.size + 1) j _ rfl HM.out _ _ rfl HK.out ?_;intro c hat hwc;have hcv:=mapB_hit hat HIT.out;subst hcv;clear hat hwc))
             first
                  | (go_ret2
                     exact ⟨ret_bool2 (a:=true) (HTB.out.trans (decide_eq_true (by have:=HIT.out;have:=HJY.out;omega))).symm 0,t7⟩)
                  | (go_round
                     case rel=>exact ⟨p + 1,by omega,by go_num,fun q hq h=>by
                      rcases (show q < p ∨ q = p by omega) with hq2 | hq2
                      · exact HNO.out q hq2 ⟨by first | trivial | rfl | exact h.1 | exact h.1.elim,h.2⟩
                      · omega⟩
                     case measure=>simp [intOf];omega)
           · have HIT:=Lib.hid hit
             clear hit
             go_wp2_with (at_lookup;go_loud (refine wpList_lookup_own_int _ rfl _ _ 117 rfl 3 3 .i64 lawI Try.underlying117 Try.underlying3 (zeroI _) (w4.heap.size + 1) j _ rfl HM.out _ _ rfl HK.out ?_;intro c hat hwc;have hcv:=mapB_miss hat HIT.out;subst hcv;clear hat hwc))
             go_round
             case rel=>exact ⟨p + 1,by omega,by go_num,fun q hq h=>by
                  rcases (show q < p ∨ q = p by omega) with hq2 | hq2
                  · exact HNO.out q hq2 ⟨by first | trivial | rfl | exact h.1 | exact h.1.elim,h.2⟩
                  · subst hq2
                    have:=HIT.out
                    have:=HJY.out
                    omega⟩
             case measure=>simp [intOf];omega
         · have hpe : p = y2:=by omega
           have HPE:=Lib.hid hpe
           have t7:=t6.trans (bj.mono (show w.heap.size ≤ w4.heap.size + 1 by omega))
           clear hpe
           go_wp2
           go_ret2
           refine ⟨ret_bool2 (a:=false) (HTB.out.trans ?_).symm 0,t7⟩
           first
            | rfl
            | exact decide_eq_false (fun h=>by
                   have e1:=HPE.out
                   by_cases hle : a1 ≤ a2
                   · exact HNO.out 0 (by omega) ⟨by simp,by omega,by omega⟩
                   · exact HNO.out (a1 - a2).toNat (by omega) ⟨by simp,by omega,by omega⟩)
   · go_loopw [18,60] (fun _ i wr=>∃ j : Nat,j ≤ y1 ∧ i = .int .i64 j ∧ wr.ownsMap Try.prog 3 (plainElem (H:=Unit) Try.prog 3) (w4.heap.size + 1) j (mapB a1 2 j) ∧ Below (w4.heap.size + 1) w6 wr) (fun _ i _=>y1 - (intOf i).toNat)
     case atStart=>exact ⟨0,Nat.zero_le _,rfl,m6,Below.refl _ _⟩
     case round=>
      obtain ⟨j,hj,rfl,hown,bj⟩:=hrel
      by_cases hlt : j < y1
      · have hcc:=hc1 j hlt
        have hl1 : bb1 < w4.heap.size:=block_lt_of_cell hcc
        have q1:=(bj.cell (p:=⟨bb1,oo1 + j,none⟩) (by show bb1 < w4.heap.size + 1;omega)).trans ((UB6.cell (p:=⟨bb1,oo1 + j,none⟩) hl1).trans hcc)
        have hkey : keyOf Try.prog 3 (.int .i64 (a1 + (j : Int))) = some (.int .i64 (a1 + (j : Int))):=keyOf_int_mk Try.underlying3 (WalkArith.wf_i64 (by omega))
        have HK:=Lib.hid hkey
        have HM:=Lib.hid hown
        have HJ:=Lib.hid bj
        clear hkey hown bj hcc
        go_wp2_with (at_mapUpdate;refine wpList_mapUpdate_own _ rfl _ _ _ 117 rfl 3 3 lawI Try.underlying117 _ (w4.heap.size + 1) j _ rfl HM.out (by unfold maxLen;omega) _ _ _ rfl rfl HK.out _ [] (plainElem_int Try.underlying3 (by decide)) ?_;intro w7 hown7 hg7)
        go_roundw
        case rel=>exact ⟨j + 1,by omega,by go_num,hown7,Below.grown HJ.out hg7 (by have:=HJ.out.size;omega) (fun k hk=>by cases hk;exact Nat.le_refl _)⟩
        case measure=>simp [intOf];omega
      · have hjy : j = y1:=by omega
        have HJY:=Lib.hid hjy
        clear hjy
        go_wp2
        go_loop [20,70] (fun _ i=>∃ p : Nat,p ≤ y2 ∧ i = .int .i64 p ∧ (∀ q : Nat,q < p → ¬ ((2 : Int) = 2 ∧ a1 ≤ a2 + (q : Int) ∧ a2 + (q : Int) < a1 + (y1 : Nat)))) (fun _ i=>y2 - (intOf i).toNat)
        case atStart=>exact ⟨0,Nat.zero_le _,rfl,fun q hq=>by omega⟩
        case round=>
         obtain ⟨p,hp,rfl,hno⟩:=hrel
         have HNO:=Lib.hid hno
         clear hno
         by_cases hlt : p < y2
         · exact absurd hlt (by omega)
         · have hpe : p = y2:=by omega
           have HPE:=Lib.hid hpe
           have t7:=t6.trans (bj.mono (show w.heap.size ≤ w4.heap.size + 1 by omega))
           clear hpe
           go_wp2
           go_ret2
           refine ⟨ret_bool2 (a:=false) (HTB.out.trans ?_).symm 0,t7⟩
           first
            | rfl
            | exact decide_eq_false (fun h=>by
                   have e1:=HPE.out
                   by_cases hle : a1 ≤ a2
                   · exact HNO.out 0 (by omega) ⟨by simp,by omega,by omega⟩
                   · exact HNO.out (a1 - a2).toNat (by omega) ⟨by simp,by omega,by omega⟩)
   · go_loopw [18,60] (fun _ i wr=>∃ j : Nat,j ≤ y1 ∧ i = .int .i64 j ∧ wr.ownsMap Try.prog 3 (plainElem (H:=Unit) Try.prog 3) (w4.heap.size + 1) j (mapB a1 2 j) ∧ Below (w4.heap.size + 1) w6 wr) (fun _ i _=>y1 - (intOf i).toNat)
     case atStart=>exact ⟨0,Nat.zero_le _,rfl,m6,Below.refl _ _⟩
     case round=>
      obtain ⟨j,hj,rfl,hown,bj⟩:=hrel
      by_cases hlt : j < y1
      · have hcc:=hc1 j hlt
        have hl1 : bb1 < w4.heap.size:=block_lt_of_cell hcc
        have q1:=(bj.cell (p:=⟨bb1,oo1 + j,none⟩) (by show bb1 < w4.heap.size + 1;omega)).trans ((UB6.cell (p:=⟨bb1,oo1 + j,none⟩) hl1).trans hcc)
        have hkey : keyOf Try.prog 3 (.int .i64 (a1 + (j : Int))) = some (.int .i64 (a1 + (j : Int))):=keyOf_int_mk Try.underlying3 (WalkArith.wf_i64 (by omega))
        have HK:=Lib.hid hkey
        have HM:=Lib.hid hown
        have HJ:=Lib.hid bj
        clear hkey hown bj hcc
        go_wp2_with (at_mapUpdate;refine wpList_mapUpdate_own _ rfl _ _ _ 117 rfl 3 3 lawI Try.underlying117 _ (w4.heap.size + 1) j _ rfl HM.out (by unfold maxLen;omega) _ _ _ rfl rfl HK.out _ [] (plainElem_int Try.underlying3 (by decide)) ?_;intro w7 hown7 hg7)
        go_roundw
        case rel=>exact ⟨j + 1,by omega,by go_num,hown7,Below.grown HJ.out hg7 (by have:=HJ.out.size;omega) (fun k hk=>by cases hk;exact Nat.le_refl _)⟩
        case measure=>simp [intOf];omega
      · have hjy : j = y1:=by omega
        have HJY:=Lib.hid hjy
        clear hjy
        go_wp2
        go_loop [20,70] (fun _ i=>∃ p : Nat,p ≤ y2 ∧ i = .int .i64 p ∧ (∀ q : Nat,q < p → ¬ ((2 : Int) = 2 ∧ a1 ≤ a2 + (q : Int) ∧ a2 + (q : Int) < a1 + (y1 : Nat)))) (fun _ i=>y2 - (intOf i).toNat)
        case atStart=>exact ⟨0,Nat.zero_le _,rfl,fun q hq=>by omega⟩
        case round=>
         obtain ⟨p,hp,rfl,hno⟩:=hrel
         have HNO:=Lib.hid hno
         clear hno
         by_cases hlt : p < y2
         · have hcc:=hc2 p hlt
           have hl2 : bb2 < w4.heap.size:=block_lt_of_cell hcc
           have q2:=(bj.cell (p:=⟨bb2,oo2 + p,none⟩) (by show bb2 < w4.heap.size + 1;omega)).trans ((UB6.cell (p:=⟨bb2,oo2 + p,none⟩) hl2).trans hcc)
           have hkey : keyOf Try.prog 3 (.int .i64 (a2 + (p : Int))) = some (.int .i64 (a2 + (p : Int))):=keyOf_int_mk Try.underlying3 (WalkArith.wf_i64 (by omega))
           have HK:=Lib.hid hkey
           have HM:=Lib.hid hown
           have t7:=t6.trans (bj.mono (show w.heap.size ≤ w4.heap.size + 1 by omega))
           clear hkey hown hcc
           by_cases hit : a1 ≤ a2 + (p : Int) ∧ a2 + (p : Int) < a1 + (j : Int)
           · have HIT:=Lib.hid hit
             clear hit
             go_wp2_with (at_lookup;go_loud (refine wpList_lookup_own_int _ rfl _ _ 117 rfl 3 3 .i64 lawI Try.underlying117 Try.underlying3 (zeroI _) (w4.heap.size + 1) j _ rfl HM.out _ _ rfl HK.out ?_;intro c hat hwc;have hcv:=mapB_hit hat HIT.out;subst hcv;clear hat hwc))
             first
                  | (go_ret2
                     exact ⟨ret_bool2 (a:=true) (HTB.out.trans (decide_eq_true (by have:=HIT.out;have:=HJY.out;omega))).symm 0,t7⟩)
                  | (go_round
                     case rel=>exact ⟨p + 1,by omega,by go_num,fun q hq h=>by
                      rcases (show q < p ∨ q = p by omega) with hq2 | hq2
                      · exact HNO.out q hq2 ⟨by first | trivial | rfl | exact h.1 | exact h.1.elim,h.2⟩
                      · omega⟩
                     case measure=>simp [intOf];omega)
           · have HIT:=Lib.hid hit
             clear hit
             go_wp2_with (at_lookup;go_loud (refine wpList_lookup_own_int _ rfl _ _ 117 rfl 3 3 .i64 lawI Try.underlying117 Try.underlying3 (zeroI _) (w4.heap.size + 1) j _ rfl HM.out _ _ rfl HK.out ?_;intro c hat hwc;have hcv:=mapB_miss hat HIT.out;subst hcv;clear hat hwc))
             go_round
             case rel=>exact ⟨p + 1,by omega,by go_num,fun q hq h=>by
                  rcases (show q < p ∨ q = p by omega) with hq2 | hq2
                  · exact HNO.out q hq2 ⟨by first | trivial | rfl | exact h.1 | exact h.1.elim,h.2⟩
                  · subst hq2
                    have:=HIT.out
                    have:=HJY.out
                    omega⟩
             case measure=>simp [intOf];omega
         · have hpe : p = y2:=by omega
           have HPE:=Lib.hid hpe
           have t7:=t6.trans (bj.mono (show w.heap.size ≤ w4.heap.size + 1 by omega))
           clear hpe
           go_wp2
           go_ret2
           refine ⟨ret_bool2 (a:=false) (HTB.out.trans ?_).symm 0,t7⟩
           first
            | rfl
            | exact decide_eq_false (fun h=>by
                   have e1:=HPE.out
                   by_cases hle : a1 ≤ a2
                   · exact HNO.out 0 (by omega) ⟨by simp,by omega,by omega⟩
                   · exact HNO.out (a1 - a2).toNat (by omega) ⟨by simp,by omega,by omega⟩)
 · simp only [Bool.or_false,Bool.false_or,Bool.or_true,Bool.true_or,Bool.false_and,Bool.true_and] at HTB
   go_enter Try.func29,Try.ntmps29
   go_wp2_with fail
   have C0:=BoxOf.alloc (BoxOf.alloc (BoxOf.new w #[.int .u32 (id : Int),.int .i64 m,.int .i64 c,.int .i64 r,.int .i64 l,.int .i64 h] 24) (.cells #[.int .u8 k1,.int .i64 a1,.int .i64 y1,.slice A1 n1 q1] 28)) (.cells #[.int .u8 k2,.int .i64 a2,.int .i64 y2,.slice A2 n2 q2] 28)
   have A0:=BoxOf.alloc (BoxOf.new' (w.alloc (.cells #[.int .u32 (id : Int),.int .i64 m,.int .i64 c,.int .i64 r,.int .i64 l,.int .i64 h] 24)) (w.heap.size + 1) #[.int .u8 k1,.int .i64 a1,.int .i64 y1,.slice A1 n1 q1] 28 (by simp)) (.cells #[.int .u8 k2,.int .i64 a2,.int .i64 y2,.slice A2 n2 q2] 28)
   have D0:=BoxOf.new' ((w.alloc (.cells #[.int .u32 (id : Int),.int .i64 m,.int .i64 c,.int .i64 r,.int .i64 l,.int .i64 h] 24)).alloc (.cells #[.int .u8 k1,.int .i64 a1,.int .i64 y1,.slice A1 n1 q1] 28)) (w.heap.size + 2) #[.int .u8 k2,.int .i64 a2,.int .i64 y2,.slice A2 n2 q2] 28 (by simp)
   have t0:=Ext.alloc (Ext.alloc (Ext.alloc (Below.refl w.heap.size w) (.cells #[.int .u32 (id : Int),.int .i64 m,.int .i64 c,.int .i64 r,.int .i64 l,.int .i64 h] 24)) (.cells #[.int .u8 k1,.int .i64 a1,.int .i64 y1,.slice A1 n1 q1] 28)) (.cells #[.int .u8 k2,.int .i64 a2,.int .i64 y2,.slice A2 n2 q2] 28)
   refine (HB1.out _).mono ?_
   rintro e w1 ⟨v1,rfl,o1,b1⟩
   obtain ⟨P1,c1,rfl,_,r1⟩:=own_rd o1
   have C1:=C0.next b1
   have A1:=A0.next b1
   have D1:=D0.next b1
   have t1:=Ext.trans t0 b1
   have x1:=C1.cell
   have y1:=A1.cell
   have z1:=D1.cell
   clear C0 A0 D0 t0
   clear b1 o1
   go_wp2_with fail
   refine (HB2.out _).mono ?_
   rintro e w2 ⟨v2,rfl,o2,b2⟩
   obtain ⟨P2,c2,rfl,_,r2⟩:=own_rd o2
   have r1:=r1.below b2
   have C2:=C1.next b2
   have A2:=A1.next b2
   have D2:=D1.next b2
   have t2:=Ext.trans t1 b2
   have x2:=C2.cell
   have y2:=A2.cell
   have z2:=D2.cell
   clear C1 A1 D1 t1
   clear b2 o2 x1 y1 z1
   go_wp2_with fail
   refine (HO1.out _).mono ?_
   rintro e w3 ⟨rfl,b3⟩
   have r1:=r1.below b3
   have r2:=r2.below b3
   have C3:=C2.next b3
   have A3:=A2.next b3
   have D3:=D2.next b3
   have t3:=Ext.trans t2 b3
   have x3:=C3.cell
   have y3:=A3.cell
   have z3:=D3.cell
   clear C2 A2 D2 t2
   have l3:=D3.lt
   clear b3 x2 y2 z2
   go_wp2_with fail
   refine (HO2.out _).mono ?_
   rintro e w4 ⟨rfl,b4⟩
   have r1:=(r1.alloc _).below b4
   have r2:=(r2.alloc _).below b4
   have F4:=(BoxOf.new w3 #[.int .i64 mo1,.bool by1,.bool true] 114).next b4
   have t4:=Ext.trans (Ext.alloc t3 (.cells #[.int .i64 mo1,.bool by1,.bool true] 114)) b4
   have f4:=F4.cell
   have l4:=F4.lt
   have s4:=t4.size
   clear b4 x3 y3 z3 A3 C3 D3 t3 l3 F4
   go_wp2
   have m6:=World.ownsMap_made (w4.alloc (.cells #[.int .i64 mo2,.bool by2,.bool true] 114)) Try.prog 3 (plainElem (H:=Unit) Try.prog 3)
   rw [show (w4.alloc (.cells #[.int .i64 mo2,.bool by2,.bool true] 114)).heap.size = w4.heap.size + 1 by simp] at m6
   have t6:=Ext.alloc (Ext.alloc t4 (.cells #[.int .i64 mo2,.bool by2,.bool true] 114)) (.map #[] 0)
   have h6 : ((w4.alloc (.cells #[.int .i64 mo2,.bool by2,.bool true] 114)).alloc (.map #[] 0)).heap.size = w4.heap.size + 2:=by simp
   have UB6:=Ext.alloc (Ext.alloc (Below.refl w4.heap.size w4) (.cells #[.int .i64 mo2,.bool by2,.bool true] 114)) (.map #[] 0)
   generalize (w4.alloc (.cells #[.int .i64 mo2,.bool by2,.bool true] 114)).alloc (.map #[] 0) = w6 at m6 t6 h6 UB6 ⊢
   have r1:=rd_seq r1
   have r2:=rd_seq r2
   clear f4 l4 t4
   have hb1 : IsInt (a1 + 8) ∧ 0 ≤ a1:=⟨⟨by omega,by omega⟩,by omega⟩
   have hb2 : IsInt (a2 + 8) ∧ 0 ≤ a2:=⟨⟨by omega,by omega⟩,by omega⟩
   obtain ⟨ha1,ha1'⟩:=ha1
   obtain ⟨ha2,ha2'⟩:=ha2
   have r1 : y1 ≤ 0 ∨ _:=r1.imp (fun h=>Nat.le_of_eq h) (fun h=>h)
   have r2 : y2 ≤ 0 ∨ _:=r2.imp (fun h=>Nat.le_of_eq h) (fun h=>h)
   rcases r1 with hz1 | ⟨bb1,oo1,rfl,hc1⟩ <;> rcases r2 with hz2 | ⟨bb2,oo2,rfl,hc2⟩
   · go_loopw [18,60] (fun _ i wr=>∃ j : Nat,j ≤ y1 ∧ i = .int .i64 j ∧ wr.ownsMap Try.prog 3 (plainElem (H:=Unit) Try.prog 3) (w4.heap.size + 1) j (mapB a1 2 j) ∧ Below (w4.heap.size + 1) w6 wr) (fun _ i _=>y1 - (intOf i).toNat)
     case atStart=>exact ⟨0,Nat.zero_le _,rfl,m6,Below.refl _ _⟩
     case round=>
      obtain ⟨j,hj,rfl,hown,bj⟩:=hrel
      by_cases hlt : j < y1
      · exact absurd hlt (by omega)
      · have hjy : j = y1:=by omega
        have HJY:=Lib.hid hjy
        clear hjy
        go_wp2
        go_loop [20,70] (fun _ i=>∃ p : Nat,p ≤ y2 ∧ i = .int .i64 p ∧ (∀ q : Nat,q < p → ¬ ((2 : Int) = 2 ∧ a1 ≤ a2 + (q : Int) ∧ a2 + (q : Int) < a1 + (y1 : Nat)))) (fun _ i=>y2 - (intOf i).toNat)
        case atStart=>exact ⟨0,Nat.zero_le _,rfl,fun q hq=>by omega⟩
        case round=>
         obtain ⟨p,hp,rfl,hno⟩:=hrel
         have HNO:=Lib.hid hno
         clear hno
         by_cases hlt : p < y2
         · exact absurd hlt (by omega)
         · have hpe : p = y2:=by omega
           have HPE:=Lib.hid hpe
           have t7:=t6.trans (bj.mono (show w.heap.size ≤ w4.heap.size + 1 by omega))
           clear hpe
           go_wp2
           go_ret2
           refine ⟨ret_bool2 (a:=false) (HTB.out.trans ?_).symm 0,t7⟩
           first
            | rfl
            | exact decide_eq_false (fun h=>by
                   have e1:=HPE.out
                   by_cases hle : a1 ≤ a2
                   · exact HNO.out 0 (by omega) ⟨by simp,by omega,by omega⟩
                   · exact HNO.out (a1 - a2).toNat (by omega) ⟨by simp,by omega,by omega⟩)
   · go_loopw [18,60] (fun _ i wr=>∃ j : Nat,j ≤ y1 ∧ i = .int .i64 j ∧ wr.ownsMap Try.prog 3 (plainElem (H:=Unit) Try.prog 3) (w4.heap.size + 1) j (mapB a1 2 j) ∧ Below (w4.heap.size + 1) w6 wr) (fun _ i _=>y1 - (intOf i).toNat)
     case atStart=>exact ⟨0,Nat.zero_le _,rfl,m6,Below.refl _ _⟩
     case round=>
      obtain ⟨j,hj,rfl,hown,bj⟩:=hrel
      by_cases hlt : j < y1
      · exact absurd hlt (by omega)
      · have hjy : j = y1:=by omega
        have HJY:=Lib.hid hjy
        clear hjy
        go_wp2
        go_loop [20,70] (fun _ i=>∃ p : Nat,p ≤ y2 ∧ i = .int .i64 p ∧ (∀ q : Nat,q < p → ¬ ((2 : Int) = 2 ∧ a1 ≤ a2 + (q : Int) ∧ a2 + (q : Int) < a1 + (y1 : Nat)))) (fun _ i=>y2 - (intOf i).toNat)
        case atStart=>exact ⟨0,Nat.zero_le _,rfl,fun q hq=>by omega⟩
        case round=>
         obtain ⟨p,hp,rfl,hno⟩:=hrel
         have HNO:=Lib.hid hno
         clear hno
         by_cases hlt : p < y2
         · have hcc:=hc2 p hlt
           have hl2 : bb2 < w4.heap.size:=block_lt_of_cell hcc
           have q2:=(bj.cell (p:=⟨bb2,oo2 + p,none⟩) (by show bb2 < w4.heap.size + 1;omega)).trans ((UB6.cell (p:=⟨bb2,oo2 + p,none⟩) hl2).trans hcc)
           have hkey : keyOf Try.prog 3 (.int .i64 (a2 + (p : Int))) = some (.int .i64 (a2 + (p : Int))):=keyOf_int_mk Try.underlying3 (WalkArith.wf_i64 (by omega))
           have HK:=Lib.hid hkey
           have HM:=Lib.hid hown
           have t7:=t6.trans (bj.mono (show w.heap.size ≤ w4.heap.size + 1 by omega))
           clear hkey hown hcc
           by_cases hit : a1 ≤ a2 + (p : Int) ∧ a2 + (p : Int) < a1 + (j : Int)
           · have HIT:=Lib.hid hit
             clear hit
             go_wp2_with (at_lookup;go_loud (refine wpList_lookup_own_int _ rfl _ _ 117 rfl 3 3 .i64 lawI Try.underlying117 Try.underlying3 (zeroI _) (w4.heap.size + 1) j _ rfl HM.out _ _ rfl HK.out ?_;intro c hat hwc;have hcv:=mapB_hit hat HIT.out;subst hcv;clear hat hwc))
             first
                  | (go_ret2
                     exact ⟨ret_bool2 (a:=true) (HTB.out.trans (decide_eq_true (by have:=HIT.out;have:=HJY.out;omega))).symm 0,t7⟩)
                  | (go_round
                     case rel=>exact ⟨p + 1,by omega,by go_num,fun q hq h=>by
                      rcases (show q < p ∨ q = p by omega) with hq2 | hq2
                      · exact HNO.out q hq2 ⟨by first | trivial | rfl | exact h.1 | exact h.1.elim,h.2⟩
                      · omega⟩
                     case measure=>simp [intOf];omega)
           · have HIT:=Lib.hid hit
             clear hit
             go_wp2_with (at_lookup;go_loud (refine wpList_lookup_own_int _ rfl _ _ 117 rfl 3 3 .i64 lawI Try.underlying117 Try.underlying3 (zeroI _) (w4.heap.size + 1) j _ rfl HM.out _ _ rfl HK.out ?_;intro c hat hwc;have hcv:=mapB_miss hat HIT.out;subst hcv;clear hat hwc))
             go_round
             case rel=>exact ⟨p + 1,by omega,by go_num,fun q hq h=>by
                  rcases (show q < p ∨ q = p by omega) with hq2 | hq2
                  · exact HNO.out q hq2 ⟨by first | trivial | rfl | exact h.1 | exact h.1.elim,h.2⟩
                  · subst hq2
                    have:=HIT.out
                    have:=HJY.out
                    omega⟩
             case measure=>simp [intOf];omega
         · have hpe : p = y2:=by omega
           have HPE:=Lib.hid hpe
           have t7:=t6.trans (bj.mono (show w.heap.size ≤ w4.heap.size + 1 by omega))
           clear hpe
           go_wp2
           go_ret2
           refine ⟨ret_bool2 (a:=false) (HTB.out.trans ?_).symm 0,t7⟩
           first
            | rfl
            | exact decide_eq_false (fun h=>by
                   have e1:=HPE.out
                   by_cases hle : a1 ≤ a2
                   · exact HNO.out 0 (by omega) ⟨by simp,by omega,by omega⟩
                   · exact HNO.out (a1 - a2).toNat (by omega) ⟨by simp,by omega,by omega⟩)
   · go_loopw [18,60] (fun _ i wr=>∃ j : Nat,j ≤ y1 ∧ i = .int .i64 j ∧ wr.ownsMap Try.prog 3 (plainElem (H:=Unit) Try.prog 3) (w4.heap.size + 1) j (mapB a1 2 j) ∧ Below (w4.heap.size + 1) w6 wr) (fun _ i _=>y1 - (intOf i).toNat)
     case atStart=>exact ⟨0,Nat.zero_le _,rfl,m6,Below.refl _ _⟩
     case round=>
      obtain ⟨j,hj,rfl,hown,bj⟩:=hrel
      by_cases hlt : j < y1
      · have hcc:=hc1 j hlt
        have hl1 : bb1 < w4.heap.size:=block_lt_of_cell hcc
        have q1:=(bj.cell (p:=⟨bb1,oo1 + j,none⟩) (by show bb1 < w4.heap.size + 1;omega)).trans ((UB6.cell (p:=⟨bb1,oo1 + j,none⟩) hl1).trans hcc)
        have hkey : keyOf Try.prog 3 (.int .i64 (a1 + (j : Int))) = some (.int .i64 (a1 + (j : Int))):=keyOf_int_mk Try.underlying3 (WalkArith.wf_i64 (by omega))
        have HK:=Lib.hid hkey
        have HM:=Lib.hid hown
        have HJ:=Lib.hid bj
        clear hkey hown bj hcc
        go_wp2_with (at_mapUpdate;refine wpList_mapUpdate_own _ rfl _ _ _ 117 rfl 3 3 lawI Try.underlying117 _ (w4.heap.size + 1) j _ rfl HM.out (by unfold maxLen;omega) _ _ _ rfl rfl HK.out _ [] (plainElem_int Try.underlying3 (by decide)) ?_;intro w7 hown7 hg7)
        go_roundw
        case rel=>exact ⟨j + 1,by omega,by go_num,hown7,Below.grown HJ.out hg7 (by have:=HJ.out.size;omega) (fun k hk=>by cases hk;exact Nat.le_refl _)⟩
        case measure=>simp [intOf];omega
      · have hjy : j = y1:=by omega
        have HJY:=Lib.hid hjy
        clear hjy
        go_wp2
        go_loop [20,70] (fun _ i=>∃ p : Nat,p ≤ y2 ∧ i = .int .i64 p ∧ (∀ q : Nat,q < p → ¬ ((2 : Int) = 2 ∧ a1 ≤ a2 + (q : Int) ∧ a2 + (q : Int) < a1 + (y1 : Nat)))) (fun _ i=>y2 - (intOf i).toNat)
        case atStart=>exact ⟨0,Nat.zero_le _,rfl,fun q hq=>by omega⟩
        case round=>
         obtain ⟨p,hp,rfl,hno⟩:=hrel
         have HNO:=Lib.hid hno
         clear hno
         by_cases hlt : p < y2
         · exact absurd hlt (by omega)
         · have hpe : p = y2:=by omega
           have HPE:=Lib.hid hpe
           have t7:=t6.trans (bj.mono (show w.heap.size ≤ w4.heap.size + 1 by omega))
           clear hpe
           go_wp2
           go_ret2
           refine ⟨ret_bool2 (a:=false) (HTB.out.trans ?_).symm 0,t7⟩
           first
            | rfl
            | exact decide_eq_false (fun h=>by
                   have e1:=HPE.out
                   by_cases hle : a1 ≤ a2
                   · exact HNO.out 0 (by omega) ⟨by simp,by omega,by omega⟩
                   · exact HNO.out (a1 - a2).toNat (by omega) ⟨by simp,by omega,by omega⟩)
   · go_loopw [18,60] (fun _ i wr=>∃ j : Nat,j ≤ y1 ∧ i = .int .i64 j ∧ wr.ownsMap Try.prog 3 (plainElem (H:=Unit) Try.prog 3) (w4.heap.size + 1) j (mapB a1 2 j) ∧ Below (w4.heap.size + 1) w6 wr) (fun _ i _=>y1 - (intOf i).toNat)
     case atStart=>exact ⟨0,Nat.zero_le _,rfl,m6,Below.refl _ _⟩
     case round=>
      obtain ⟨j,hj,rfl,hown,bj⟩:=hrel
      by_cases hlt : j < y1
      · have hcc:=hc1 j hlt
        have hl1 : bb1 < w4.heap.size:=block_lt_of_cell hcc
        have q1:=(bj.cell (p:=⟨bb1,oo1 + j,none⟩) (by show bb1 < w4.heap.size + 1;omega)).trans ((UB6.cell (p:=⟨bb1,oo1 + j,none⟩) hl1).trans hcc)
        have hkey : keyOf Try.prog 3 (.int .i64 (a1 + (j : Int))) = some (.int .i64 (a1 + (j : Int))):=keyOf_int_mk Try.underlying3 (WalkArith.wf_i64 (by omega))
        have HK:=Lib.hid hkey
        have HM:=Lib.hid hown
        have HJ:=Lib.hid bj
        clear hkey hown bj hcc
        go_wp2_with (at_mapUpdate;refine wpList_mapUpdate_own _ rfl _ _ _ 117 rfl 3 3 lawI Try.underlying117 _ (w4.heap.size + 1) j _ rfl HM.out (by unfold maxLen;omega) _ _ _ rfl rfl HK.out _ [] (plainElem_int Try.underlying3 (by decide)) ?_;intro w7 hown7 hg7)
        go_roundw
        case rel=>exact ⟨j + 1,by omega,by go_num,hown7,Below.grown HJ.out hg7 (by have:=HJ.out.size;omega) (fun k hk=>by cases hk;exact Nat.le_refl _)⟩
        case measure=>simp [intOf];omega
      · have hjy : j = y1:=by omega
        have HJY:=Lib.hid hjy
        clear hjy
        go_wp2
        go_loop [20,70] (fun _ i=>∃ p : Nat,p ≤ y2 ∧ i = .int .i64 p ∧ (∀ q : Nat,q < p → ¬ ((2 : Int) = 2 ∧ a1 ≤ a2 + (q : Int) ∧ a2 + (q : Int) < a1 + (y1 : Nat)))) (fun _ i=>y2 - (intOf i).toNat)
        case atStart=>exact ⟨0,Nat.zero_le _,rfl,fun q hq=>by omega⟩
        case round=>
         obtain ⟨p,hp,rfl,hno⟩:=hrel
         have HNO:=Lib.hid hno
         clear hno
         by_cases hlt : p < y2
         · have hcc:=hc2 p hlt
           have hl2 : bb2 < w4.heap.size:=block_lt_of_cell hcc
           have q2:=(bj.cell (p:=⟨bb2,oo2 + p,none⟩) (by show bb2 < w4.heap.size + 1;omega)).trans ((UB6.cell (p:=⟨bb2,oo2 + p,none⟩) hl2).trans hcc)
           have hkey : keyOf Try.prog 3 (.int .i64 (a2 + (p : Int))) = some (.int .i64 (a2 + (p : Int))):=keyOf_int_mk Try.underlying3 (WalkArith.wf_i64 (by omega))
           have HK:=Lib.hid hkey
           have HM:=Lib.hid hown
           have t7:=t6.trans (bj.mono (show w.heap.size ≤ w4.heap.size + 1 by omega))
           clear hkey hown hcc
           by_cases hit : a1 ≤ a2 + (p : Int) ∧ a2 + (p : Int) < a1 + (j : Int)
           · have HIT:=Lib.hid hit
             clear hit
             go_wp2_with (at_lookup;go_loud (refine wpList_lookup_own_int _ rfl _ _ 117 rfl 3 3 .i64 lawI Try.underlying117 Try.underlying3 (zeroI _) (w4.heap.size + 1) j _ rfl HM.out _ _ rfl HK.out ?_;intro c hat hwc;have hcv:=mapB_hit hat HIT.out;subst hcv;clear hat hwc))
             first
                  | (go_ret2
                     exact ⟨ret_bool2 (a:=true) (HTB.out.trans (decide_eq_true (by have:=HIT.out;have:=HJY.out;omega))).symm 0,t7⟩)
                  | (go_round
                     case rel=>exact ⟨p + 1,by omega,by go_num,fun q hq h=>by
                      rcases (show q < p ∨ q = p by omega) with hq2 | hq2
                      · exact HNO.out q hq2 ⟨by first | trivial | rfl | exact h.1 | exact h.1.elim,h.2⟩
                      · omega⟩
                     case measure=>simp [intOf];omega)
           · have HIT:=Lib.hid hit
             clear hit
             go_wp2_with (at_lookup;go_loud (refine wpList_lookup_own_int _ rfl _ _ 117 rfl 3 3 .i64 lawI Try.underlying117 Try.underlying3 (zeroI _) (w4.heap.size + 1) j _ rfl HM.out _ _ rfl HK.out ?_;intro c hat hwc;have hcv:=mapB_miss hat HIT.out;subst hcv;clear hat hwc))
             go_round
             case rel=>exact ⟨p + 1,by omega,by go_num,fun q hq h=>by
                  rcases (show q < p ∨ q = p by omega) with hq2 | hq2
                  · exact HNO.out q hq2 ⟨by first | trivial | rfl | exact h.1 | exact h.1.elim,h.2⟩
                  · subst hq2
                    have:=HIT.out
                    have:=HJY.out
                    omega⟩
             case measure=>simp [intOf];omega
         · have hpe : p = y2:=by omega
           have HPE:=Lib.hid hpe
           have t7:=t6.trans (bj.mono (show w.heap.size ≤ w4.heap.size + 1 by omega))
           clear hpe
           go_wp2
           go_ret2
           refine ⟨ret_bool2 (a:=false) (HTB.out.trans ?_).symm 0,t7⟩
           first
            | rfl
            | exact decide_eq_false (fun h=>by
                   have e1:=HPE.out
                   by_cases hle : a1 ≤ a2
                   · exact HNO.out 0 (by omega) ⟨by simp,by omega,by omega⟩
                   · exact HNO.out (a1 - a2).toNat (by omega) ⟨by simp,by omega,by omega⟩)
end Go.Proofs.Ythapabjlhooglaa
namespace Go.Proofs.Ythapabjlhooglaa
open Go.RowKit
set_option linter.unusedSimpArgs false
set_option linter.unusedVariables false
def askCode (x : Cfg) (k a y : Int) (n : Nat) : Int:=if x.Ok then (if Placed (x.c * x.r * (x.m - 1)) k a y then (if (n : Int) = kWant k y then 0 else 3) else 2) else 8
theorem scheck_all (x : Cfg) (k a y : Int) (A : Option Addr) (n q : Nat) (w : World) :
 Calls Try.prog 66 #[x.val,.agg #[.int .u8 k,.int .i64 a,.int .i64 y,.slice A n q]] w fun e w'=>e = .returned (.int .i64 (askCode x k a y n)) ∧ Below w.heap.size w w':=by
 unfold askCode
 split
 · rename_i hx
   split
   · rename_i hp
     split
     · rename_i hn;exact scheck_ok x hx k a y A n q hp hn w
     · rename_i hn;exact scheck_text x hx k a y A n q hp hn w
   · rename_i hp;exact scheck_arg x hx k a y A n q hp w
 · rename_i hx;exact scheck_bad x hx k a y A n q w
theorem askCode_0 {x : Cfg} {k a y : Int} {n : Nat} (h : askCode x k a y n = 0) : x.Ok ∧ Placed (x.c * x.r * (x.m - 1)) k a y ∧ (n : Int) = kWant k y ∧ (0 ≤ y ∧ y ≤ 8) ∧ (0 ≤ a ∧ a ≤ 1000) ∧ (1 ≤ y ∨ kWrites k = false):=by
 unfold askCode at h
 split at h
 · rename_i hx
   split at h
   · rename_i hp
     split at h
     · rename_i hn
       have hcr:=Cfg.crm hx
       refine ⟨hx,hp,hn,?_,?_,?_⟩
       · unfold Placed at hp;omega
       · unfold Placed at hp;omega
       · rcases hp with h1 | h1
         · exact .inl h1.2.1
         · right
           rcases kMost_or k with h2 | h2
           · rw [h1.2.1] at h2;cases h2
           · exact h2.2.2
     · cases h
   · cases h
 · cases h
theorem askCode_ne (x : Cfg) (k a y : Int) (n : Nat) (h : askCode x k a y n ≠ 0) : (askCode x k a y n != 0) = true:=by simpa using h
theorem touch_all (x : Cfg) (k1 a1 y1 k2 a2 y2 : Int) (A1 A2 : Option Addr) (n1 q1 n2 q2 : Nat) (h1 : askCode x k1 a1 y1 n1 = 0) (h2 : askCode x k2 a2 y2 n2 = 0) (w : World) :
 Calls Try.prog 29 #[x.val,.agg #[.int .u8 k1,.int .i64 a1,.int .i64 y1,.slice A1 n1 q1],.agg #[.int .u8 k2,.int .i64 a2,.int .i64 y2,.slice A2 n2 q2]] w fun e w'=>e = .returned (.tuple #[.bool (touchB k1 a1 y1 k2 a2 y2),.int .i64 0]) ∧ Below w.heap.size w w':=by
 obtain ⟨hx,hp1,hn1,hy1,ha1,_⟩:=askCode_0 h1
 obtain ⟨_,hp2,hn2,hy2,ha2,_⟩:=askCode_0 h2
 have c1:=sblocks_ok x k1 a1 y1 A1 n1 q1 hy1 ha1 (scheck_ok x hx k1 a1 y1 A1 n1 q1 hp1 hn1)
 have c2:=sblocks_ok x k2 a2 y2 A2 n2 q2 hy2 ha2 (scheck_ok x hx k2 a2 y2 A2 n2 q2 hp2 hn2)
 obtain ⟨m1,rfl⟩ : ∃ n : Nat,y1 = (n : Int):=⟨y1.toNat,by omega⟩
 obtain ⟨m2,rfl⟩ : ∃ n : Nat,y2 = (n : Int):=⟨y2.toNat,by omega⟩
 exact touch_ok x k1 a1 m1 k2 a2 m2 A1 A2 n1 q1 n2 q2 (by omega) (by omega) ha1 ha2 c1 c2 w
end Go.Proofs.Ythapabjlhooglaa
namespace Go.Proofs.Ythapabjlhooglaa
open Go Go.RowKit
set_option linter.unusedSimpArgs false
set_option linter.unusedVariables false
abbrev FlTy : Ty:=.st (.prod .int (.prod (.st (.prod .byte (.prod .int (.prod .int (.prod (.sl .byte) .unit))))) (.prod (.sl .byte) (.prod (.sl .u32) (.prod (.sl (.sl .byte)) .unit)))))
abbrev FlRaw : Type:=Int × (UInt8 × Int × Int × List UInt8 × Unit) × List UInt8 × List Nat × List (List UInt8) × Unit
def fN (f : FlTy.T) : Int:=(show FlRaw from f).1
def fK (f : FlTy.T) : UInt8:=(show FlRaw from f).2.1.1
def fA (f : FlTy.T) : Int:=(show FlRaw from f).2.1.2.1
def fM (f : FlTy.T) : Int:=(show FlRaw from f).2.1.2.2.1
def fD (f : FlTy.T) : List UInt8:=(show FlRaw from f).2.1.2.2.2.1
def fS (f : FlTy.T) : List UInt8:=(show FlRaw from f).2.2.1
def fQ (f : FlTy.T) : List Nat:=(show FlRaw from f).2.2.2.1
def fB (f : FlTy.T) : List (List UInt8):=(show FlRaw from f).2.2.2.2.1
def mkFl (n : Int) (k : UInt8) (a y : Int) (bs : List UInt8) (st : List UInt8) (sq : List Nat) (ds : List (List UInt8)) : FlTy.T:=(show FlRaw from (n,(k,a,y,bs,()),st,sq,ds,()))
def kI (f : FlTy.T) : Int:=((fK f).toNat : Int)
section
variable {w : World} {S : Nat → Prop}
theorem fl_view {f : FlTy.T} {cs : List Value} (h : RdIn w S FlTy f cs) : ∃ v u t x : Value,cs = [.int .i64 (fN f),.int .u8 (kI f),.int .i64 (fA f),.int .i64 (fM f),v,u,t,x] ∧ (IsInt (fN f) ∧ IsInt (fA f) ∧ IsInt (fM f)) ∧ RdIn w S (.sl .byte) (fD f) [v] ∧ RdIn w S (.sl .byte) (fS f) [u] ∧ RdIn w S (.sl .u32) (fQ f) [t] ∧ RdIn w S (.sl (.sl .byte)) (fB f) [x]:=by
 obtain ⟨nu,a,st,sq,ds,x⟩:=f
 obtain ⟨c0,d0,rfl,r0,h⟩:=rdin_prod.1 (rdin_st.1 h)
 obtain ⟨c1,d1,rfl,r1,h⟩:=rdin_prod.1 h
 obtain ⟨c2,d2,rfl,r2,h⟩:=rdin_prod.1 h
 obtain ⟨c3,d3,rfl,r3,h⟩:=rdin_prod.1 h
 obtain ⟨c4,d4,rfl,r4,h⟩:=rdin_prod.1 h
 obtain rfl:=rdin_unit.1 h
 obtain ⟨rfl,i0⟩:=rdin_int.1 r0
 obtain ⟨ki,at',many,bs,v,rfl,rfl,i1,i2,r5⟩:=ask_view r1
 obtain ⟨A,c,e,_⟩:=rdin_sl.1 r2
 obtain ⟨A',c',e',_⟩:=rdin_sl.1 r3
 obtain ⟨A2,c2,e2,_⟩:=rdin_sl.1 r4
 subst e e' e2
 exact ⟨v,_,_,_,rfl,⟨i0,i1,i2⟩,r5,r2,r3,r4⟩
theorem fl_mk {f : FlTy.T} {v u t x : Value} (hi : IsInt (fN f) ∧ IsInt (fA f) ∧ IsInt (fM f)) (h1 : RdIn w S (.sl .byte) (fD f) [v]) (h2 : RdIn w S (.sl .byte) (fS f) [u]) (h3 : RdIn w S (.sl .u32) (fQ f) [t]) (h4 : RdIn w S (.sl (.sl .byte)) (fB f) [x]) : RdIn w S FlTy f [.int .i64 (fN f),.int .u8 (kI f),.int .i64 (fA f),.int .i64 (fM f),v,u,t,x]:=by
 obtain ⟨nu,⟨k,a,y,bs,z⟩,st,sq,ds,z'⟩:=f
 exact rdin_st.2 (rdin_prod.2 ⟨[_],[_,_,_,_,_,_,_],rfl,rdin_int.2 ⟨rfl,hi.1⟩,rdin_prod.2 ⟨[_,_,_,_],[_,_,_],rfl,ask_mk hi.2.1 hi.2.2 h1,rdin_prod.2 ⟨[_],[_,_],rfl,h2,rdin_prod.2 ⟨[_],[_],rfl,h3,rdin_prod.2 ⟨[_],[],rfl,h4,rdin_unit.2 rfl⟩⟩⟩⟩⟩)
theorem viewF {fs : List FlTy.T} {v : Value} (h : RdIn w S (.sl FlTy) fs [v]) : ∃ A c,v = .slice A fs.length c ∧ fs.length ≤ maxLen ∧ fs.length * 128 ≤ 140737488355328 ∧ (0 < fs.length → ∃ b off,A = some ⟨b,off,none⟩ ∧ S b ∧ ∀ i (hi : i < fs.length),∃ es : List Value,(∀ j,j < 8 → w.cell? ⟨b,off + i * 8 + j,none⟩ = es[j]?) ∧ RdIn w S FlTy fs[i] es):=by
 obtain ⟨A,c,h1,h2,h3,h4,h5⟩:=list_view h
 exact ⟨A,c,h1,Nat.le_trans h2 h3,h4,h5⟩
theorem fl_max {fs : List FlTy.T} {v : Value} (h : RdIn w S (.sl FlTy) fs [v]) : fs.length ≤ maxLen:=by
 obtain ⟨_,_,_,h1,_⟩:=viewF h
 exact h1
theorem seq_max {ms : List Nat} {v : Value} (h : RdIn w S (.sl .u32) ms [v]) : ms.length ≤ maxLen:=by
 obtain ⟨_,_,_,h1,h2,_⟩:=rdin_sl.1 h
 exact Nat.le_trans h1 h2
theorem fl_at {fs : List FlTy.T} {B : Option Addr} {n d : Nat} (h : RdIn w S (.sl FlTy) fs [.slice B n d]) {j : Nat} (hj : j < fs.length) :
 ∃ b off Ab cb As cs Aq cq Ax cx,B = some ⟨b,off,none⟩ ∧ w.cell? ⟨b,off + j * 8,none⟩ = some (.int .i64 (fN (fs[j]'hj))) ∧ w.cell? ⟨b,off + j * 8 + 1,none⟩ = some (.int .u8 (kI (fs[j]'hj))) ∧ w.cell? ⟨b,off + j * 8 + 2,none⟩ = some (.int .i64 (fA (fs[j]'hj))) ∧ w.cell? ⟨b,off + j * 8 + 3,none⟩ = some (.int .i64 (fM (fs[j]'hj))) ∧ w.cell? ⟨b,off + j * 8 + 4,none⟩ = some (.slice Ab (fD (fs[j]'hj)).length cb) ∧ w.cell? ⟨b,off + j * 8 + 5,none⟩ = some (.slice As (fS (fs[j]'hj)).length cs) ∧ w.cell? ⟨b,off + j * 8 + 6,none⟩ = some (.slice Aq (fQ (fs[j]'hj)).length cq) ∧ w.cell? ⟨b,off + j * 8 + 7,none⟩ = some (.slice Ax (fB (fs[j]'hj)).length cx) ∧
  (IsInt (fN (fs[j]'hj)) ∧ IsInt (fA (fs[j]'hj)) ∧ IsInt (fM (fs[j]'hj))) ∧ RdIn w S (.sl .byte) (fD (fs[j]'hj)) [.slice Ab (fD (fs[j]'hj)).length cb] ∧ RdIn w S (.sl .byte) (fS (fs[j]'hj)) [.slice As (fS (fs[j]'hj)).length cs] ∧ RdIn w S (.sl .u32) (fQ (fs[j]'hj)) [.slice Aq (fQ (fs[j]'hj)).length cq] ∧ RdIn w S (.sl (.sl .byte)) (fB (fs[j]'hj)) [.slice Ax (fB (fs[j]'hj)).length cx]:=by
 obtain ⟨A1,c1,e1,_,_,hr1⟩:=viewF h
 injection e1 with e11 e12 e13
 obtain ⟨b,off,e2,_,hrow⟩:=hr1 (by omega)
 obtain ⟨es,hc,rg⟩:=hrow j hj
 obtain ⟨v,u,t,x,rfl,hi,R1,R2,R3,R4⟩:=fl_view rg
 obtain ⟨Ab,cb,e3,_⟩:=rdin_sl.1 R1
 obtain ⟨As,cs,e4,_⟩:=rdin_sl.1 R2
 obtain ⟨Aq,cq,e5,_⟩:=rdin_sl.1 R3
 obtain ⟨Ax,cx,e6,_⟩:=rdin_sl.1 R4
 obtain rfl:=(List.cons.inj e3).1
 obtain rfl:=(List.cons.inj e4).1
 obtain rfl:=(List.cons.inj e5).1
 obtain rfl:=(List.cons.inj e6).1
 exact ⟨b,off,Ab,cb,As,cs,Aq,cq,Ax,cx,e11.trans e2,hc 0 (by decide),hc 1 (by decide),hc 2 (by decide),hc 3 (by decide),hc 4 (by decide),hc 5 (by decide),hc 6 (by decide),hc 7 (by decide),hi,R1,R2,R3,R4⟩
theorem flat_at {e : Ty} (he : e.flat = true) {xs : List e.T} {A : Option Addr} {n c : Nat} (h : RdIn w S (.sl e) xs [.slice A n c]) {k : Nat} (hk : k < xs.length) : ∃ b off,A = some ⟨b,off,none⟩ ∧ w.cell? ⟨b,off + k,none⟩ = some (encT e (xs[k]'hk)):=by
 obtain ⟨h1,h2⟩:=RdIn.row he h
 rcases h2 with h2 | ⟨b,off,hA,h2⟩
 · rw [List.map_eq_nil_iff] at h2
   rw [h2] at hk
   exact absurd hk (by simp)
 · refine ⟨b,off,hA,?_⟩
   have:=h2 k (by simpa using hk)
   simpa [hk] using this
theorem st_at {xs : List UInt8} {A : Option Addr} {n c : Nat} (h : RdIn w S (.sl .byte) xs [.slice A n c]) {k : Nat} (hk : k < xs.length) : ∃ b off,A = some ⟨b,off,none⟩ ∧ w.cell? ⟨b,off + k,none⟩ = some (.int .u8 ((xs[k]'hk).toNat : Int)):=flat_at (e:=.byte) rfl h hk
theorem sq_at {xs : List Nat} {A : Option Addr} {n c : Nat} (h : RdIn w S (.sl .u32) xs [.slice A n c]) {k : Nat} (hk : k < xs.length) : ∃ b off,A = some ⟨b,off,none⟩ ∧ w.cell? ⟨b,off + k,none⟩ = some (.int .u32 ((xs[k]'hk : Nat) : Int)):=flat_at (e:=.u32) rfl h hk
theorem sq_small {xs : List Nat} {v : Value} (h : RdIn w S (.sl .u32) xs [v]) : ∀ q ∈ xs,q < 2 ^ 32:=by
 obtain ⟨A,c,_,_,_,_,hh⟩:=rdin_sl.1 h
 intro q hq
 rcases hh with h0 | ⟨b,off,_,_,hc⟩
 · have h1 : xs = []:=h0
   rw [h1] at hq;cases hq
 · obtain ⟨i,hi,rfl⟩:=List.getElem_of_mem hq
   obtain ⟨es,_,hr⟩:=hc i hi
   exact (rdin_u32.1 hr).2
end
def blkB (k : Int) (s : UInt8) (q n : Nat) : Bool:=decide (s.toNat ≤ 3) && (decide (s.toNat = 2) == decide (0 < q)) && (if k = 1 then (decide (s.toNat = 0 ∧ n = 0) || decide (s.toNat = 3 ∧ n = 128)) else decide (n = 0))
def blksB (k : Int) : List UInt8 → List Nat → List (List UInt8) → Bool
 | s :: ss,q :: qs,d :: ds=>blkB k s q d.length && blksB k ss qs ds
 | [],_,_=>true
 | _,_,_=>false
def codeF (x : Cfg) (f : FlTy.T) : Int:=askCode x (kI f) (fA f) (fM f) (fD f).length
def oneB (x : Cfg) (f : FlTy.T) : Bool:=decide (codeF x f = 0) && decide (1 ≤ fN f) && decide (((fS f).length : Int) = fM f) && decide (((fB f).length : Int) = fM f) && decide (((fQ f).length : Int) = if kI f = 4 then 1 else fM f) && blksB (kI f) (fS f) (fQ f) (fB f)
def meetF (f g : FlTy.T) : Bool:=touchB (kI f) (fA f) (fM f) (kI g) (fA g) (fM g)
def firstB (fs : List FlTy.T) (at' : Nat) : Bool:=match fs[at']? with | some g=>(fs.take at').all (fun f=>!meetF f g) | none=>true
def goesB (f : FlTy.T) : Bool:=(fS f).any (fun s=>s != 0)
def stB (x : Cfg) (fs : List FlTy.T) (i : Nat) : Bool:=match fs[i]? with
 | some f=>oneB x f && (match i with | 0=>true | k + 1=>(match fs[k]? with | some g=>decide (fN g < fN f) | none=>true)) && (!goesB f || firstB fs i)
 | none=>true
def flB (x : Cfg) (fs : List FlTy.T) : Bool:=decide x.Ok && decide (fs.length ≤ 8) && (List.range fs.length).all (fun i=>stB x fs i)
theorem flB_iff {x : Cfg} {fs : List FlTy.T} : flB x fs = true ↔ x.Ok ∧ fs.length ≤ 8 ∧ ∀ i,i < fs.length → stB x fs i = true:=by
 unfold flB
 simp [and_assoc]
theorem oneB_iff {x : Cfg} {f : FlTy.T} : oneB x f = true ↔ codeF x f = 0 ∧ 1 ≤ fN f ∧ ((fS f).length : Int) = fM f ∧ ((fB f).length : Int) = fM f ∧ ((fQ f).length : Int) = (if kI f = 4 then 1 else fM f) ∧ blksB (kI f) (fS f) (fQ f) (fB f) = true:=by
 unfold oneB
 simp [and_assoc]
theorem firstB_iff {fs : List FlTy.T} {i : Nat} (hi : i < fs.length) : firstB fs i = true ↔ ∀ j (hj : j < i),meetF (fs[j]'(by omega)) fs[i] = false:=by
 unfold firstB
 rw [List.getElem?_eq_getElem hi]
 simp only [List.all_eq_true,Bool.not_eq_true']
 constructor
 · intro h j hj
   refine h _ ?_
   rw [List.mem_take_iff_getElem]
   exact ⟨j,by omega,rfl⟩
 · intro h g hg
   obtain ⟨j,hj,rfl⟩:=List.mem_take_iff_getElem.1 hg
   exact h j (by omega)
theorem stB_iff {x : Cfg} {fs : List FlTy.T} {i : Nat} (hi : i < fs.length) : stB x fs i = true ↔ oneB x fs[i] = true ∧ (∀ (h : 0 < i),fN (fs[i - 1]'(by omega)) < fN fs[i]) ∧ (goesB fs[i] = true → firstB fs i = true):=by
 unfold stB
 rw [List.getElem?_eq_getElem hi]
 cases i with
 | zero=>simp;cases goesB (fs[0]'hi) <;> simp
 | succ k=>
   simp only [List.getElem?_eq_getElem (show k < fs.length by omega),Bool.and_eq_true,decide_eq_true_eq,Bool.or_eq_true,Bool.not_eq_true']
   constructor
   · rintro ⟨⟨h1,h2⟩,h3⟩
     exact ⟨h1,fun _=>h2,fun h=>by rcases h3 with h3 | h3;· rw [h3] at h;cases h
                                   · exact h3⟩
   · rintro ⟨h1,h2,h3⟩
     refine ⟨⟨h1,h2 (by omega)⟩,?_⟩
     cases hg : goesB (fs[k + 1]'hi)
     · exact .inl rfl
     · exact .inr (h3 hg)
theorem blksB_iff {k : Int} : ∀ {ss : List UInt8} {qs : List Nat} {ds : List (List UInt8)},ss.length = ds.length → ss.length ≤ qs.length → (blksB k ss qs ds = true ↔ ∀ i (h : i < ss.length) (h1 : i < qs.length) (h2 : i < ds.length),blkB k ss[i] qs[i] (ds[i]).length = true)
 | [],qs,ds,_,_=>by simp [blksB]
 | s :: ss,[],_,_,h=>by simp at h
 | s :: ss,q :: qs,[],h,_=>by simp at h
 | s :: ss,q :: qs,d :: ds,h1,h2=>by
   simp only [blksB,Bool.and_eq_true]
   rw [blksB_iff (by simpa using h1) (by simpa using h2)]
   constructor
   · rintro ⟨h3,h4⟩ i h5 h6 h7
     cases i with
     | zero=>exact h3
     | succ i=>exact h4 i (by simpa using h5) (by simpa using h6) (by simpa using h7)
   · intro h
     exact ⟨h 0 (by simp) (by simp) (by simp),fun i h5 h6 h7=>h (i + 1) (by simpa using h5) (by simpa using h6) (by simpa using h7)⟩
end Go.Proofs.Ythapabjlhooglaa
namespace Go.Proofs.Ythapabjlhooglaa
open Go Go.RowKit
set_option linter.unusedSimpArgs false
set_option linter.unusedVariables false
def MarkOk (ms : List Int) (ys : List (List (List UInt8))) (i : Nat) : Prop:=∀ (h : i < ms.length) (h' : i < ys.length),0 ≤ ms[i] ∧ ms[i] < ((ys[i]).length : Int)
def MarksOk (k : Int) (ms : List Int) (ys : List (List (List UInt8))) : Prop:=if k = 4 then ms.length = ys.length ∧ ∀ i,MarkOk ms ys i else ms.length = 0
def YesNo (P : Prop) (e : Ending) : Prop:=∃ b,e = .returned (.bool b) ∧ (b = true ↔ P)
theorem YesNo.yes {P : Prop} (h : P) : YesNo P (.returned (.bool true)):=⟨true,rfl,by simp [h]⟩
theorem YesNo.of {P : Prop} {b : Bool} (h : b = true ↔ P) : YesNo P (.returned (.bool b)):=⟨b,rfl,h⟩
end Go.Proofs.Ythapabjlhooglaa
namespace Go.Proofs.Ythapabjlhooglaa
open Go Go.RowKit
set_option linter.unusedSimpArgs false
set_option linter.unusedVariables false
def SizeOk (zs : List (List UInt8)) (k : Nat) : Prop:=∀ h : k < zs.length,(zs[k]).length = 128
def RowOk (zs : List (List UInt8)) : Prop:=1 ≤ zs.length ∧ zs.length ≤ 512 ∧ ∀ k,SizeOk zs k
def ValOk (ys : List (List (List UInt8))) (i : Nat) : Prop:=∀ h : i < ys.length,RowOk ys[i]
def PrevOk (gs : List GoTy.T) (i : Nat) (n : Int) : Prop:=∀ (h : i - 1 < gs.length),0 < i → nuOf gs[i - 1] < n
def OneOk (x : Cfg) (ys : List (List (List UInt8))) (g : GoTy.T) : Prop:=1 ≤ nuOf g ∧ askCode x ((kiOf g).toNat : Int) (atOf g) (manyOf g) (datOf g).length = 0 ∧ MarksOk ((kiOf g).toNat : Int) (mksOf g) ys
def GoOk (x : Cfg) (ys : List (List (List UInt8))) (gs : List GoTy.T) (i : Nat) : Prop:=∀ h : i < gs.length,OneOk x ys gs[i] ∧ PrevOk gs i (nuOf gs[i])
structure PlainOk (x : Cfg) (ys : List (List (List UInt8))) (gs : List GoTy.T) : Prop where
 cfg : x.Ok
 len : (ys.length : Int) = x.c * x.r * (x.m - 1)
 few : gs.length ≤ 8
 vals : ∀ i,ValOk ys i
 goes : ∀ i,GoOk x ys gs i
theorem YesNo.is {P : Prop} {b : Bool} {e : Ending} (hb : b = true ↔ P) (h : YesNo P e) : e = .returned (.bool b):=by
 obtain ⟨b',rfl,h'⟩:=h
 have : b' = b:=Bool.eq_iff_iff.2 (h'.trans hb.symm)
 rw [this]
end Go.Proofs.Ythapabjlhooglaa
namespace Go.Proofs.Ythapabjlhooglaa
open Go Go.RowKit
set_option linter.unusedSimpArgs false
set_option linter.unusedVariables false
def AtIs (P : Prop) (e : Ending) : Prop:=∃ n : Int,e = .returned (.int .i64 n) ∧ (0 ≤ n ↔ P)
theorem AtIs.at {P : Prop} {n : Nat} (h : P) : AtIs P (.returned (.int .i64 (n : Int))):=⟨n,rfl,by simp [h]⟩
def SomeIs {α : Type} (p : α → Bool) (ys : List α) : Prop:=∃ i,∃ h : i < ys.length,p ys[i] = true
def NotAt {α : Type} (p : α → Bool) (ys : List α) (i : Nat) : Prop:=∀ h : i < ys.length,p ys[i] = false
def eqBs (ds : List UInt8) (bs : List UInt8) : Bool:=bs == ds
end Go.Proofs.Ythapabjlhooglaa
namespace Go.Proofs.Ythapabjlhooglaa
open Go.RowKit
def zeros : List UInt8:=List.replicate 128 0
end Go.Proofs.Ythapabjlhooglaa
namespace Go.Proofs.Ythapabjlhooglaa
open Go.RowKit
def Fits (p k : Int) : Prop:=1 ≤ k ∧ k ≤ 4 ∧ 0 ≤ p ∧ p ≤ 128 - k
instance (p k : Int) : Decidable (Fits p k):=by unfold Fits;infer_instance
end Go.Proofs.Ythapabjlhooglaa
namespace Go.Proofs.Ythapabjlhooglaa
namespace Crc
def tab : Array Nat:=#[0x00000000,0x105ec76f,0x20bd8ede,0x30e349b1,0x417b1dbc,0x5125dad3,0x61c69362,0x7198540d,
 0x82f63b78,0x92a8fc17,0xa24bb5a6,0xb21572c9,0xc38d26c4,0xd3d3e1ab,0xe330a81a,0xf36e6f75]
def W (i : Nat) : Nat:=tab.getD i 0
def T (s : Nat) : Nat:=(s >>> 4) ^^^ W (s &&& 15)
def step (s : Nat) (x : UInt8) : Nat:=T (T (s ^^^ x.toNat))
def run (s : Nat) (l : List UInt8) : Nat:=l.foldl step s
def top : Nat:=4294967295
def neg (s : Nat) : Nat:=top ^^^ s
def over (s : Nat) (l : List UInt8) : Nat:=neg (run (neg s) l)
def own (s : Nat) : List UInt8:=[UInt8.ofNat s,UInt8.ofNat (s / 256),UInt8.ofNat (s / 65536),UInt8.ofNat (s / 16777216)]
end Crc
end Go.Proofs.Ythapabjlhooglaa
namespace Go.Proofs.Ythapabjlhooglaa
def le : Nat → Nat → List UInt8
 | 0,_=>[]
 | k + 1,x=>le k x ++ [UInt8.ofNat (x / 256 ^ k)]
end Go.Proofs.Ythapabjlhooglaa
namespace Go.Proofs.Ythapabjlhooglaa
open Go.RowKit
def Own (w : World) (B g : Nat) (l : List UInt8) : Prop:=w.ownsRow B 5 1 (.slice (some ⟨g,0,none⟩) 128 128) 128 (l.map byteV)
theorem Own.set {w : World} {B g : Nat} {l : List UInt8} (h : Own w B g l) (j : Nat) (b : UInt8) : Own (w.setCell ⟨g,j,none⟩ (byteV b)) B g (l.set j b):=by
 have st:=World.ownsRow.stored h j (byteV b)
 rw [← List.map_set] at st
 exact st.1
theorem Own.len {w : World} {B g : Nat} {l : List UInt8} (h : Own w B g l) : l.length = 128:=by have:=h.1;simpa using this
theorem Own.cell {w : World} {B g : Nat} {l : List UInt8} (h : Own w B g l) (j : Nat) (hj : j < 128) : w.cell? ⟨g,j,none⟩ = some (.int .u8 ((l.getD j 0).toNat : Int)):=by
 rw [World.ownsRow.cellAt h j hj]
 simp [byteV,show j < l.length by rw [h.len];exact hj]
theorem Own.bs {w : World} {B g : Nat} {l : List UInt8} (h : Own w B g l) : Bs w (some ⟨g,0,none⟩) 128 l:=Bs.of_ownS h
end Go.Proofs.Ythapabjlhooglaa
namespace Go.Proofs.Ythapabjlhooglaa
open Go Go.RowKit
set_option linter.unusedSimpArgs false
set_option linter.unusedVariables false
theorem BoxOf.below {w w' : World} {B g : Nat} {cs : Array Value} {t : TypeId} (h : BoxOf w g cs t) (hb : Below B w w') (hg : g < B) : BoxOf w' g cs t:=by
 unfold BoxOf at *
 rw [hb.block g hg];exact h
def OB (w : World) (base : Nat) (v : Value) (n : Nat) (bs : List UInt8) : Prop:=w.ownsRow base 5 1 v n (bs.map byteV)
theorem OB.next {w w' : World} {base : Nat} {v : Value} {n : Nat} {bs : List UInt8} (h : OB w base v n bs) (hb : Below w.heap.size w w') : OB w' base v n bs:=own_next h hb
theorem OB.bs {w : World} {base : Nat} {v : Value} {n : Nat} {bs : List UInt8} (h : OB w base v n bs) : ∃ A c,v = .slice A n c ∧ Bs w A n bs:=by
 obtain ⟨A,c,rfl,_,hb⟩:=Bs.of_own h
 exact ⟨A,c,rfl,hb⟩
theorem OB.lit (w : World) (g : Nat) (hg : g = w.heap.size) (b : UInt8) (v : Int) (hv : v = (b.toNat : Int)) : OB (w.alloc (.cells #[.int .u8 v] 5)) g (.slice (some ⟨g,0,none⟩) 1 1) 1 [b]:=by
 subst hg hv
 exact ⟨rfl,.inr ⟨w.heap.size,1,#[byteV b],rfl,Nat.le_refl _,heap_alloc_new _ _,Nat.le_refl _,by decide,rfl,rfl⟩⟩
theorem OB.nil (w : World) (base : Nat) : OB w base (.slice none 0 0) 0 []:=⟨rfl,.inl ⟨rfl,rfl⟩⟩
theorem cell_other (w : World) (k : Nat) (cs : Array Value) {p : Addr} (h : p.block ≠ k) : (w.setRow k cs).cell? p = w.cell? p:=World.cell?_of_block (setRow_other w k p.block cs h)
theorem Bs.other {w : World} {g k n : Nat} {bs : List UInt8} (h : Bs w (some ⟨g,0,none⟩) n bs) (hk : g ≠ k) (cs : Array Value) : Bs (w.setRow k cs) (some ⟨g,0,none⟩) n bs:=by
 refine ⟨h.1,?_⟩
 rcases h.2 with h2 | ⟨b,off,hA,hc⟩
 · exact .inl h2
 · injection hA with hA
   injection hA with e1 e2
   subst e1 e2
   exact .inr ⟨g,0,rfl,fun j hj=>by rw [cell_other w k cs (by exact hk)];exact hc j hj⟩
theorem BoxOf.out {w : World} {g : Nat} {cs : Array Value} {t : TypeId} (h : BoxOf w g cs t) (o : Nat) (v : Value) (hv : cs.toList[o]? = some v) : w.cell? ⟨g,o,none⟩ = some v:=(h.cell o).trans hv
end Go.Proofs.Ythapabjlhooglaa
namespace Go.Proofs.Ythapabjlhooglaa
open Go Go.RowKit
set_option linter.unusedSimpArgs false
set_option linter.unusedVariables false
theorem flat_ones (bs : List UInt8) : (bs.map fun b=>[byteV b]).flatten = bs.map byteV:=by
 induction bs with
 | nil=>rfl
 | cons a l ih=>rw [List.map_cons,List.flatten_cons,ih];rfl
theorem OwnL.of_bytes {w : World} {base : Nat} {tid : TypeId} {v : Value} {bs : List UInt8} (h : w.ownsRow base tid 1 v bs.length (bs.map byteV)) : OwnL w base tid .byte v bs:=by
 refine ⟨bs.map fun b=>[byteV b],List.length_map _,fun i h h'=>?_,?_⟩
 · rw [List.getElem_map]
   exact rdin_byte.2 rfl
 · rw [flat_ones]
   exact h
theorem OwnL.bytes_rdin {w : World} {base : Nat} {tid : TypeId} {v : Value} {bs : List UInt8} (h : OwnL w base tid .byte v bs) (hz : bs.length ≤ 140737488355328) : RdIn w (NewB base w) (.sl .byte) bs [v]:=
 OwnL.rdin h (by show bs.length * 1 ≤ _;omega)
theorem rdin_nilb {w : World} {S : Nat → Prop} {c : Nat} (hc : c ≤ maxLen) (A : Option Addr) : RdIn w S (.sl .byte) [] [.slice A 0 c]:=rdin_sl.2 ⟨A,c,rfl,by simp,hc,by simp,.inl rfl⟩
theorem rdin_bmax {w : World} {S : Nat → Prop} {bs : List UInt8} {v : Value} (h : RdIn w S (.sl .byte) bs [v]) : bs.length ≤ 140737488355328:=by
 obtain ⟨_,_,_,_,_,h1,_⟩:=rdin_sl.1 h
 have h2 : bs.length * 1 ≤ 140737488355328:=h1
 omega
theorem eqn_none (w : World) (n c : Nat) : (binOp .eql 26 (.slice none n c) (.slice none 0 0)).run Try.prog w = .ok (.bool true) w:=by kernel_rfl
theorem eqn_some (w : World) (a : Addr) (n c : Nat) : (binOp .eql 26 (.slice (some a) n c) (.slice none 0 0)).run Try.prog w = .ok (.bool false) w:=by kernel_rfl
set_option maxRecDepth 100000 in
set_option maxHeartbeats 1000000 in
theorem clone_any (S : Nat → Prop) (bs : List UInt8) (A : Option Addr) (c : Nat) (w : World) (h : RdIn w S (.sl .byte) bs [.slice A bs.length c]) :
 Calls Try.prog 43 #[.slice A bs.length c] w fun e w'=>(∃ v,e = .returned v ∧ RdIn w' (NewB w.heap.size w') (.sl .byte) bs [v]) ∧ Below w.heap.size w w':=by
 obtain ⟨i0,hi,hz0,hz1,hz2⟩:=minfo_u8
 have hbs:=h.bytes_bs
 have hbm:=rdin_bmax h
 have HM:=Lib.hid (And.intro (byte_max h) hbm)
 cases A with
 | none=>
   have hb0 : bs = []:=by
    rcases hbs.2 with h0 | ⟨b,off,e,_⟩
    · simpa using h0
    · cases e
   subst hb0
   have HE:=fun (w : World) (c : Nat)=>eqn_none w 0 c
   clear h hbs hbm
   go_enter Try.func43,Try.ntmps43
   go_wp2
   go_ret
   exact ⟨⟨_,rfl,rdin_nilb (by unfold maxLen;omega) _⟩,Below.refl _ _⟩
 | some a=>
   have t0:=Ext.alloc (Below.refl w.heap.size w) (.cells #[] 5)
   have hrd : Rd (w.alloc (.cells #[] 5)) (some a) (bs.map byteV):=(hbs.alloc _).2
   have own0 : (w.alloc (.cells #[] 5)).ownsRow w.heap.size 5 1 (.slice (some ⟨w.heap.size,0,none⟩) 0 0) 0 []:=⟨rfl,.inr ⟨w.heap.size,0,#[],rfl,Nat.le_refl _,heap_alloc_new _ _,Nat.le_refl _,by unfold maxLen;omega,rfl,rfl⟩⟩
   have HE:=fun (w : World) (n c : Nat)=>eqn_some w a n c
   clear h hbs hbm
   go_enter Try.func43,Try.ntmps43
   go_upto_region 3 with fail
   go_wp2_with (at_builtin;(refine wpList_append_rd _ rfl (.tmp 5) (.tmp 6) 26 rfl w.heap.size 5 i0 _ 1 1 Try.underlying26 hi hz0 hz1 hz2 rfl (by decide) _ 0 [] rfl own0 (some a) bs.length c (bs.map byteV) rfl (by simp) hrd (by intro u hu;rw [List.mem_map] at hu;obtain ⟨y,_,rfl⟩:=hu;rfl) (by have:=HM.out.1;omega) (by have:=HM.out.2;omega) (by simp) ?_);intro v1 w1 h2 h3 h4)
   have O1 : OwnL w1 w.heap.size 5 .byte v1 bs:=OwnL.of_bytes (by rw [Nat.zero_add,List.nil_append] at h2;exact h2)
   have b1:=Below.grown t0 h3 (by simp) (fun k e=>by cases e;exact Nat.le_refl _)
   go_ret
   exact ⟨⟨_,rfl,O1.bytes_rdin HM.out.2⟩,b1⟩
def part128 (bs : List UInt8) (i : Nat) : List UInt8:=(bs.drop (i * 128)).take 128
theorem part128_len {bs : List UInt8} {i : Nat} (h : i * 128 + 128 ≤ bs.length) : (part128 bs i).length = 128:=by
 unfold part128
 rw [List.length_take,List.length_drop];omega
theorem part128_get {bs : List UInt8} {i : Nat} (h : i * 128 + 128 ≤ bs.length) {q : Nat} (hq : q < (part128 bs i).length) : (part128 bs i)[q] = bs[i * 128 + q]'(by rw [part128_len h] at hq;omega):=by
 simp only [part128,List.getElem_take,List.getElem_drop]
def blk (k : Int) (bs : List UInt8) (i : Nat) : List UInt8:=if kBytes k then part128 bs i else zeros
theorem RdIn.part {w : World} {S : Nat → Prop} {bs : List UInt8} {b off c : Nat} (h : RdIn w S (.sl .byte) bs [.slice (some ⟨b,off,none⟩) bs.length c]) {i : Nat} (hi : i * 128 + 128 ≤ bs.length) :
 RdIn w S (.sl .byte) (part128 bs i) [.slice (some ⟨b,off + i * 128,none⟩) (part128 bs i).length (c - i * 128)]:=by
 obtain ⟨A',c',e,hn,hm,hz,hh⟩:=rdin_sl.1 h
 have e':=(List.cons.inj e).1
 injection e' with e1 e2 e3
 subst e3
 have hl:=part128_len hi
 have hn' : bs.length ≤ c:=hn
 have hz' : bs.length * 1 ≤ 140737488355328:=hz
 refine rdin_sl.2 ⟨_,_,rfl,?_,?_,?_,?_⟩
 · show (part128 bs i).length ≤ _;omega
 · omega
 · show (part128 bs i).length * 1 ≤ _;omega
 · rcases hh with hh | ⟨b',off',e5,hS,hc⟩
   · exfalso
     have : bs = []:=hh
     rw [this] at hi
     simp at hi
   · rw [← e1] at e5
     injection e5 with e5
     injection e5 with e51 e52
     subst e51 e52
     refine .inr ⟨b,off + i * 128,rfl,hS,fun q hq=>?_⟩
     have hq' : q < (part128 bs i).length:=hq
     obtain ⟨es,h1,h2⟩:=hc (i * 128 + q) (show i * 128 + q < bs.length by omega)
     refine ⟨es,fun j hj=>?_,?_⟩
     · have h3:=h1 j hj
       have hj0 : j = 0:=by have : j < 1:=hj;omega
       subst hj0
       have e7 : off + (i * 128 + q) * Ty.size .byte + 0 = off + i * 128 + q * Ty.size .byte + 0:=by show off + (i * 128 + q) * 1 + 0 = off + i * 128 + q * 1 + 0;omega
       rw [e7] at h3
       exact h3
     · have e9:=rdin_byte.1 h2
       refine rdin_byte.2 ?_
       rw [e9]
       exact congrArg (fun z=>[byteV z]) (part128_get hi hq').symm
theorem bytesV {w : World} {S : Nat → Prop} {bs : List UInt8} {v : Value} (h : RdIn w S (.sl .byte) bs [v]) : ∃ A c,v = .slice A bs.length c:=by
 obtain ⟨A,c,e,_⟩:=h.bytes
 exact ⟨A,c,e⟩
end Go.Proofs.Ythapabjlhooglaa
namespace Go.Proofs.Ythapabjlhooglaa
open Go Go.RowKit
set_option linter.unusedSimpArgs false
set_option linter.unusedVariables false
def hitB (n : Int) (ds : List UInt8) (g : GoTy.T) : Bool:=(decide (atOf g ≤ n) && decide (n < atOf g + manyOf g)) && (kWrites ((kiOf g).toNat : Int) && (blk ((kiOf g).toNat : Int) (datOf g) (n - atOf g).toNat == ds))
def AskFit (g : GoTy.T) : Prop:=((0 ≤ atOf g ∧ atOf g ≤ 1000) ∧ (0 ≤ manyOf g ∧ manyOf g ≤ 8)) ∧ ((datOf g).length : Int) = kWant ((kiOf g).toNat : Int) (manyOf g)
theorem AskFit.of {x : Cfg} {ys : List (List (List UInt8))} {g : GoTy.T} (h : OneOk x ys g) : AskFit g:=by
 obtain ⟨_,h,_⟩:=h
 obtain ⟨_,_,h1,h2,h3,_⟩:=askCode_0 h
 exact ⟨⟨h3,h2⟩,h1⟩
def LeftP (ys : List (List (List UInt8))) (gs : List GoTy.T) (n : Nat) (ds : List UInt8) : Prop:=(∃ h : n < ys.length,SomeIs (eqBs ds) ys[n]) ∨ SomeIs (hitB n ds) gs
end Go.Proofs.Ythapabjlhooglaa
namespace Go.Proofs.Ythapabjlhooglaa
open Go Go.RowKit
set_option linter.unusedSimpArgs false
set_option linter.unusedVariables false
theorem freads_any (k a y : Int) (A : Option Addr) (n c : Nat) (w : World) : Calls Try.prog 77 #[.agg #[.int .u8 k,.int .i64 a,.int .i64 y,.slice A n c]] w fun e w'=>e = .returned (.bool (k == 1)) ∧ Below w.heap.size w w':=by
 have t0:=Ext.alloc (Below.refl w.heap.size w) (.cells #[.int .u8 k,.int .i64 a,.int .i64 y,.slice A n c] 28)
 go_enter Try.func77,Try.ntmps77
 go_wp2
 go_ret
 exact ⟨rfl,t0⟩
theorem fsize_t (w : World) : Calls Try.prog 78 #[.bool true] w fun e w'=>e = .returned (.int .i64 128) ∧ w' = w:=by
 go_enter Try.func78,Try.ntmps78
 go_wp2
 go_ret
 exact ⟨rfl,rfl⟩
theorem fsize_f (w : World) : Calls Try.prog 78 #[.bool false] w fun e w'=>e = .returned (.int .i64 0) ∧ w' = w:=by
 go_enter Try.func78,Try.ntmps78
 go_wp2
 go_ret
 exact ⟨rfl,rfl⟩
def blkP (kd : Int) (s : Nat) (q n : Nat) : Bool:=decide (s ≤ 3) && (decide (s = 2) == decide (0 < q)) && (if kd = 1 then (decide (s = 0 ∧ n = 0) || decide (s = 3 ∧ n = 128)) else decide (n = 0))
theorem blkP_far {kd : Int} {s q n : Nat} (h : 3 < s) : blkP kd s q n = false:=by unfold blkP;rw [decide_eq_false (by omega)];rfl
theorem blkP_odd {kd : Int} {s q n : Nat} (h : decide (s = 2) ≠ decide (0 < q)) : blkP kd s q n = false:=by
 unfold blkP
 rw [show (decide (s = 2) == decide (0 < q)) = false from beq_eq_false_iff_ne.2 h]
 simp
theorem blkP_in {kd : Int} {s q n : Nat} (h : s ≤ 3) (h2 : decide (s = 2) = decide (0 < q)) : blkP kd s q n = if kd = 1 then (decide (s = 0 ∧ n = 0) || decide (s = 3 ∧ n = 128)) else decide (n = 0):=by
 unfold blkP
 rw [decide_eq_true h,h2]
 simp
set_option maxRecDepth 100000 in
set_option maxHeartbeats 1000000 in
theorem fblock_any (nu kd a y : Int) (Ab : Option Addr) (lb cb ls cs lq cq lx cx i s q n c : Nat) (bs os bq oq bx ox : Nat) (D : Option Addr) (w : World) (hs : i < ls) (hq : i < lq) (hx : i < lx) (hm : ls ≤ maxLen)
 (ks : w.cell? ⟨bs,os + i,none⟩ = some (.int .u8 (s : Int))) (kq : w.cell? ⟨bq,oq + i,none⟩ = some (.int .u32 (q : Int))) (kx : w.cell? ⟨bx,ox + i,none⟩ = some (.slice D n c)) :
 Calls Try.prog 44 #[.agg #[.int .i64 nu,.int .u8 kd,.int .i64 a,.int .i64 y,.slice Ab lb cb,.slice (some ⟨bs,os,none⟩) ls cs,.slice (some ⟨bq,oq,none⟩) lq cq,.slice (some ⟨bx,ox,none⟩) lx cx],.int .i64 (i : Int)] w fun e w'=>e = .returned (.bool (blkP kd s q n)) ∧ Below w.heap.size w w':=by
 have P0:=BoxOf.new w #[.int .i64 nu,.int .u8 kd,.int .i64 a,.int .i64 y,.slice Ab lb cb,.slice (some ⟨bs,os,none⟩) ls cs,.slice (some ⟨bq,oq,none⟩) lq cq,.slice (some ⟨bx,ox,none⟩) lx cx] 67
 have t0:=Ext.alloc (Below.refl w.heap.size w) (.cells #[.int .i64 nu,.int .u8 kd,.int .i64 a,.int .i64 y,.slice Ab lb cb,.slice (some ⟨bs,os,none⟩) ls cs,.slice (some ⟨bq,oq,none⟩) lq cq,.slice (some ⟨bx,ox,none⟩) lx cx] 67)
 have ks0:=(t0.cell (p:=⟨bs,os + i,none⟩) (block_lt_of_cell ks)).trans ks
 have kq0:=(t0.cell (p:=⟨bq,oq + i,none⟩) (block_lt_of_cell kq)).trans kq
 have kx0:=(t0.cell (p:=⟨bx,ox + i,none⟩) (block_lt_of_cell kx)).trans kx
 clear ks kq kx
 go_enter Try.func44,Try.ntmps44
 go_upto_region 1 with fail
 generalize w.alloc (.cells #[.int .i64 nu,.int .u8 kd,.int .i64 a,.int .i64 y,.slice Ab lb cb,.slice (some ⟨bs,os,none⟩) ls cs,.slice (some ⟨bq,oq,none⟩) lq cq,.slice (some ⟨bx,ox,none⟩) lx cx] 67) = W at *
 have x0:=P0.cell
 have hsI : (i : Int) < (ls : Int):=by omega
 have hqI : (i : Int) < (lq : Int):=by omega
 have hxI : (i : Int) < (lx : Int):=by omega
 rcases Bool.eq_false_or_eq_true (decide ((3 : Int) < (s : Int))) with e1 | e1
 · have hr : blkP kd s q n = false:=blkP_far (by have:=of_decide_eq_true e1;omega)
   go_wp2
   go_quiet (fail)
   have t1:=below_drewN' t0 nq
   go_wp2
   go_ret
   exact ⟨by first | rfl | (rw [hr];rfl),t1⟩
 · obtain ⟨b2,e2⟩ : ∃ b,((s : Int) == 2) = b:=⟨_,rfl⟩
   obtain ⟨b3,e3⟩ : ∃ b,decide ((0 : Int) < (q : Int)) = b:=⟨_,rfl⟩
   have h2 : decide (s = 2) = b2:=by rw [← e2,Bool.eq_iff_iff];simp;omega
   have h3 : decide (0 < q) = b3:=by rw [← e3,Bool.eq_iff_iff];simp
   clear e3
   have HS : Hid (s ≤ 3):=by show _ ≤ _;have:=of_decide_eq_false e1;omega
   rcases Bool.eq_false_or_eq_true (!b2 == b3) with e4 | e4
   · have hr : blkP kd s q n = false:=blkP_odd (by rw [h2,h3];intro h;rw [h] at e4;cases b3 <;> cases e4)
     clear h2
     go_wp2
     go_quiet (fail)
     have t1:=below_drewN' t0 nq
     go_wp2
     go_ret
     exact ⟨by first | rfl | (rw [hr];rfl),t1⟩
   · have hr:=Lib.hid (blkP_in (kd:=kd) (n:=n) HS.out (by rw [h2,h3];cases b2 <;> cases b3 <;> first | rfl | cases e4))
     clear h2
     rcases Bool.eq_false_or_eq_true (kd == 1) with e5 | e5
     · have hk : kd = 1:=by simpa using e5
       obtain ⟨b0,e6⟩ : ∃ b,((s : Int) == 0) = b:=⟨_,rfl⟩
       obtain ⟨bt,e7⟩ : ∃ b,((s : Int) == 3) = b:=⟨_,rfl⟩
       have h6 : decide (s = 0) = b0:=by rw [← e6,Bool.eq_iff_iff];simp
       have h7 : decide (s = 3) = bt:=by rw [← e7,Bool.eq_iff_iff];simp;omega
       have HR : Hid (blkP kd s q n = ((b0 || bt) && ((n : Int) == (if bt then 128 else 0)))):=by
        show _ = _
        rw [hr.out,if_pos hk,← h6,← h7,Bool.eq_iff_iff]
        by_cases h8 : s = 3
        · subst h8
          simp
          omega
        · simp only [h8,decide_false,false_and,Bool.or_false]
          by_cases h9 : s = 0 <;> simp [h9]
       clear h6 h7 hk
       go_wp2
       go_quiet (fail)
       have t1:=below_drewN' t0 nq
       have P1:=P0.drewN nq
       clear t0 hr
       go_wp2_with fail
       refine (freads_any _ _ _ _ _ _ _).mono ?_
       rintro e w1 ⟨rfl,b1⟩
       have x1:=(P1.next b1).cell
       have kx1:=(b1.cell (p:=⟨bx,ox + i,none⟩) (block_lt_of_cell kx0)).trans kx0
       have t2:=Ext.trans t1 b1
       clear x0 ks0 kq0 kx0 t1 b1 P1
       generalize hbz : (if bt then (128 : Int) else 0) = z at HR
       have HZ:=Lib.hid hbz
       clear hbz
       cases b0 <;> cases bt
       · go_wp2
         go_quiet (first | (go_at_call 78;refine Calls.quiet_of_same (fsize_f _)))
         go_wp2
         have t3:=below_drewN' t2 nq
         go_ret
         exact ⟨by first | rfl | (rw [HR.out];rfl) | (rw [HR.out,← HZ.out];rfl),t3⟩
       · go_wp2
         go_quiet (first | (go_at_call 78;refine Calls.quiet_of_same (fsize_t _)))
         go_wp2
         have t3:=below_drewN' t2 nq
         go_ret
         exact ⟨by first | rfl | (rw [HR.out];rfl) | (rw [HR.out,← HZ.out];rfl),t3⟩
       · go_wp2
         go_quiet (first | (go_at_call 78;refine Calls.quiet_of_same (fsize_f _)))
         go_wp2
         have t3:=below_drewN' t2 nq
         go_ret
         exact ⟨by first | rfl | (rw [HR.out];rfl) | (rw [HR.out,← HZ.out];rfl),t3⟩
       · go_wp2
         go_quiet (first | (go_at_call 78;refine Calls.quiet_of_same (fsize_t _)))
         go_wp2
         have t3:=below_drewN' t2 nq
         go_ret
         exact ⟨by first | rfl | (rw [HR.out];rfl) | (rw [HR.out,← HZ.out];rfl),t3⟩
     · have hk : ¬ kd = 1:=by simpa using e5
       have hr' : blkP kd s q n = decide (n = 0):=by rw [hr.out,if_neg hk]
       have hn : ((n : Int) == 0) = decide (n = 0):=by rw [Bool.eq_iff_iff];simp
       clear hr hk
       go_wp2
       go_quiet (fail)
       have t1:=below_drewN' t0 nq
       have P1:=P0.drewN nq
       clear t0
       go_wp2_with fail
       refine (freads_any _ _ _ _ _ _ _).mono ?_
       rintro e w1 ⟨rfl,b1⟩
       have x1:=(P1.next b1).cell
       have kx1:=(b1.cell (p:=⟨bx,ox + i,none⟩) (block_lt_of_cell kx0)).trans kx0
       have t2:=Ext.trans t1 b1
       clear x0 ks0 kq0 kx0 t1 b1 P1
       go_wp2
       go_ret
       exact ⟨by first | rfl | (rw [hr',← hn];rfl),t2⟩
theorem blocks_0 (x : Cfg) (k a y : Int) (A : Option Addr) (n q m : Nat) (hc : askCode x k a y n = 0) (hm : y = (m : Int)) (w : World) : Calls Try.prog 35 #[x.val,.agg #[.int .u8 k,.int .i64 a,.int .i64 y,.slice A n q]] w fun e w'=>(∃ B c,e = .returned (.tuple #[.slice B m c,.int .i64 0])) ∧ Below w.heap.size w w':=by
 obtain ⟨hx,hp,hn,hy,ha,_⟩:=askCode_0 hc
 refine (sblocks_ok x k a y A n q hy ha (fun W=>by have h:=scheck_all x k a y A n q W;rw [hc] at h;exact h) w).mono ?_
 rintro e w' ⟨v,rfl,ho,hb⟩
 have e1 : y.toNat = m:=by omega
 rw [e1] at ho
 obtain ⟨B,c,rfl,_⟩:=own_rd ho
 exact ⟨⟨B,c,rfl⟩,hb⟩
theorem blocks_ne (x : Cfg) (k a y : Int) (A : Option Addr) (n q : Nat) (hc : askCode x k a y n ≠ 0) (w : World) : Calls Try.prog 35 #[x.val,.agg #[.int .u8 k,.int .i64 a,.int .i64 y,.slice A n q]] w fun e w'=>e = .returned (.tuple #[.slice none 0 0,.int .i64 (askCode x k a y n)]) ∧ Below w.heap.size w w':=
 sblocks_err x k a y A n q _ (askCode_ne _ _ _ _ _ hc) (scheck_all x k a y A n q) w
def BlkAt (f : FlTy.T) (i : Nat) : Prop:=∀ (h : i < (fS f).length) (h1 : i < (fQ f).length) (h2 : i < (fB f).length),blkB (kI f) (fS f)[i] (fQ f)[i] ((fB f)[i]).length = true
theorem oneB_no {x : Cfg} {f : FlTy.T} (h : oneB x f = true → False) : oneB x f = false:=by
 cases h1 : oneB x f
 · rfl
 · exact (h h1).elim
set_option maxRecDepth 100000 in
set_option maxHeartbeats 2000000 in
theorem fone_any (S : Nat → Prop) (x : Cfg) (f : FlTy.T) (Ab : Option Addr) (cb : Nat) (As : Option Addr) (cs : Nat) (Aq : Option Addr) (cq : Nat) (Ax : Option Addr) (cx : Nat) (w : World) (hS : RdIn w S (.sl .byte) (fS f) [.slice As (fS f).length cs]) (hQ : RdIn w S (.sl .u32) (fQ f) [.slice Aq (fQ f).length cq]) (hX : RdIn w S (.sl (.sl .byte)) (fB f) [.slice Ax (fB f).length cx]) :
 Calls Try.prog 51 #[x.val,.agg #[.int .i64 (fN f),.int .u8 (kI f),.int .i64 (fA f),.int .i64 (fM f),.slice Ab (fD f).length cb,.slice As (fS f).length cs,.slice Aq (fQ f).length cq,.slice Ax (fB f).length cx]] w fun e w'=>e = .returned (.bool (oneB x f)) ∧ Below w.heap.size w w':=by
 by_cases hcode : codeF x f = 0
 · obtain ⟨_,hpl,_,hy,_,_⟩:=askCode_0 hcode
   obtain ⟨m,hm⟩ : ∃ m : Nat,fM f = (m : Int):=⟨(fM f).toNat,by omega⟩
   have HB:=Lib.hid (blocks_0 x (kI f) (fA f) (fM f) Ab (fD f).length cb m hcode hm)
   have hk4 : kI f = 4 → m = 0:=by
    intro h4
    rw [hm] at hpl
    unfold Placed at hpl
    rw [h4] at hpl
    rcases hpl with h1 | h1
    · exact absurd h1.1 (by decide)
    · omega
   have HM:=Lib.hid hm
   have HK:=Lib.hid hk4
   have HC:=Lib.hid hcode
   have hm8 : m ≤ 8:=by omega
   clear hpl hy hk4
   obtain ⟨id,m',c,r,l,h⟩:=x
   unfold Cfg.val at *
   dsimp only at *
   have P0:=BoxOf.new' (w.alloc (.cells #[.int .u32 (id : Int),.int .i64 m',.int .i64 c,.int .i64 r,.int .i64 l,.int .i64 h] 24)) (w.heap.size + 1) #[.int .i64 (fN f),.int .u8 (kI f),.int .i64 (fA f),.int .i64 (fM f),.slice Ab (fD f).length cb,.slice As (fS f).length cs,.slice Aq (fQ f).length cq,.slice Ax (fB f).length cx] 67 (by simp)
   have t0:=Ext.alloc (Ext.alloc (Below.refl w.heap.size w) (.cells #[.int .u32 (id : Int),.int .i64 m',.int .i64 c,.int .i64 r,.int .i64 l,.int .i64 h] 24)) (.cells #[.int .i64 (fN f),.int .u8 (kI f),.int .i64 (fA f),.int .i64 (fM f),.slice Ab (fD f).length cb,.slice As (fS f).length cs,.slice Aq (fQ f).length cq,.slice Ax (fB f).length cx] 67)
   have C0:=BoxOf.alloc (BoxOf.new w #[.int .u32 (id : Int),.int .i64 m',.int .i64 c,.int .i64 r,.int .i64 l,.int .i64 h] 24) (.cells #[.int .i64 (fN f),.int .u8 (kI f),.int .i64 (fA f),.int .i64 (fM f),.slice Ab (fD f).length cb,.slice As (fS f).length cs,.slice Aq (fQ f).length cq,.slice Ax (fB f).length cx] 67)
   have HS:=Lib.hid (hS.below t0)
   have HQ:=Lib.hid (hQ.below t0)
   have HX:=Lib.hid (hX.below t0)
   clear hS hQ hX hcode hm
   go_enter Try.func51,Try.ntmps51
   go_upto_region 1 with fail
   generalize (w.alloc (.cells #[.int .u32 (id : Int),.int .i64 m',.int .i64 c,.int .i64 r,.int .i64 l,.int .i64 h] 24)).alloc (.cells #[.int .i64 (fN f),.int .u8 (kI f),.int .i64 (fA f),.int .i64 (fM f),.slice Ab (fD f).length cb,.slice As (fS f).length cs,.slice Aq (fQ f).length cq,.slice Ax (fB f).length cx] 67) = W at *
   have x0:=P0.cell
   have y0:=C0.cell
   go_wp2_with fail
   refine (HB.out _).mono ?_
   rintro e w1 ⟨⟨B,cB,rfl⟩,b1⟩
   have P1:=P0.next b1
   have t1:=Ext.trans t0 b1
   have HS1:=Lib.hid (HS.out.below b1)
   have HQ1:=Lib.hid (HQ.out.below b1)
   have HX1:=Lib.hid (HX.out.below b1)
   clear x0 y0 C0 P0 HB HS HQ HX t0 b1
   have x1:=P1.cell
   have hP:=P1.lt
   obtain ⟨k4,h4⟩ : ∃ b,(kI f == 4) = b:=⟨_,rfl⟩
   obtain ⟨sq,hsq⟩ : ∃ z : Nat,z = if k4 then 1 else m:=⟨_,rfl⟩
   have HSQ : Hid (((if kI f = 4 then 1 else fM f) : Int) = (sq : Int)):=by
    show _ = _
    rw [hsq,HM.out]
    cases k4
    · rw [if_neg (by simpa using h4)];rfl
    · rw [if_pos (by simpa using h4)];rfl
   have HSQ2 : Hid (m ≤ sq):=by
    show m ≤ sq
    rw [hsq]
    cases k4
    · exact Nat.le_refl _
    · have:=HK.out (by simpa using h4);simp;omega
   have hsq0 : k4 = false → sq = m:=fun h=>by rw [hsq,h];rfl
   have hsq1 : k4 = true → sq = 1:=fun h=>by rw [hsq,h];rfl
   clear hsq
   cases k4 with
   | true=>
     obtain rfl:=hsq1 rfl
     rcases Bool.eq_false_or_eq_true (decide (fN f < 1)) with e1 | e1
     · have HNO : Hid (oneB ⟨id,m',c,r,l,h⟩ f = false):=oneB_no fun ht=>by
        obtain ⟨h1,h2,h3,h4',h5,h6⟩:=oneB_iff.1 ht
        have hM:=HM.out
        have hQ':=HSQ.out
        have:=of_decide_eq_true e1;omega
       go_wp2
       go_ret
       exact ⟨by first | rfl | (rw [HNO.out];rfl),t1⟩
     have HE1:=Lib.hid e1
     rcases Bool.eq_false_or_eq_true ((((fS f).length : Int) != (m : Int))) with e1 | e1
     · have HNO : Hid (oneB ⟨id,m',c,r,l,h⟩ f = false):=oneB_no fun ht=>by
        obtain ⟨h1,h2,h3,h4',h5,h6⟩:=oneB_iff.1 ht
        have hM:=HM.out
        have hQ':=HSQ.out
        rw [h3,hM] at e1;simp at e1
       go_wp2
       go_ret
       exact ⟨by first | rfl | (rw [HNO.out];rfl),t1⟩
     have HE2:=Lib.hid e1
     rcases Bool.eq_false_or_eq_true ((((fB f).length : Int) != (m : Int))) with e1 | e1
     · have HNO : Hid (oneB ⟨id,m',c,r,l,h⟩ f = false):=oneB_no fun ht=>by
        obtain ⟨h1,h2,h3,h4',h5,h6⟩:=oneB_iff.1 ht
        have hM:=HM.out
        have hQ':=HSQ.out
        rw [h4',hM] at e1;simp at e1
       go_wp2
       go_ret
       exact ⟨by first | rfl | (rw [HNO.out];rfl),t1⟩
     have HE3:=Lib.hid e1
     rcases Bool.eq_false_or_eq_true ((((fQ f).length : Int) != (1 : Int))) with e1 | e1
     · have HNO : Hid (oneB ⟨id,m',c,r,l,h⟩ f = false):=oneB_no fun ht=>by
        obtain ⟨h1,h2,h3,h4',h5,h6⟩:=oneB_iff.1 ht
        have hM:=HM.out
        have hQ':=HSQ.out
        rw [h5,hQ'] at e1;simp at e1
       go_wp2
       go_ret
       exact ⟨by first | rfl | (rw [HNO.out];rfl),t1⟩
     have HE4:=Lib.hid e1
     have HSZ : Hid ((fS f).length = m ∧ (fB f).length = m ∧ m ≤ (fQ f).length):=by
      have h1:=HE2.out
      have h2:=HE3.out
      have h3:=HE4.out
      have h4:=HSQ2.out
      show _ ∧ _ ∧ _
      simp at h1 h2 h3
      omega
     go_wp2
     clear hsq0 hsq1
     obtain ⟨wo,hwo⟩ : ∃ z : World,z = w1:=⟨_,rfl⟩
     rw [← hwo] at t1 P1 HS1 HQ1 HX1
     have bo : Below wo.heap.size wo w1:=by rw [hwo];exact Below.refl _ _
     clear hwo
     go_loopw [8,54] (fun u i wr=>∃ (j : Nat),j ≤ m ∧ i = .int .i64 (j : Int) ∧ Below wo.heap.size wo wr ∧ Hid (∀ i,i < j → BlkAt f i)) (fun _ i _=>m - (intOf i).toNat)
     case atStart=>exact ⟨0,by omega,rfl,bo,fun i h=>absurd h (Nat.not_lt_zero _)⟩
     case round=>
      obtain ⟨j,hj,rfl,b2,HA⟩:=hrel
      clear bo
      have P2:=P1.next b2
      have t2:=Ext.trans t1 b2
      by_cases hlt : j < m
      · have z1 : j < (fS f).length:=by have:=HSZ.out.1;omega
        have z2 : j < (fB f).length:=by have:=HSZ.out.2.1;omega
        have z3 : j < (fQ f).length:=by have:=HSZ.out.2.2;omega
        obtain ⟨bs,os,rfl,ks⟩:=st_at (HS1.out.below b2) z1
        obtain ⟨bq,oq,rfl,kq⟩:=sq_at (HQ1.out.below b2) z3
        obtain ⟨bx,ox,D,cD,rfl,kx,rx⟩:=val_at (HX1.out.below b2) z2
        have HBL:=Lib.hid (fblock_any (fN f) (kI f) (fA f) (fM f) Ab (fD f).length cb (fS f).length cs (fQ f).length cq (fB f).length cx j (fS f)[j].toNat (fQ f)[j] ((fB f)[j]).length cD bs os bq oq bx ox D wr z1 z3 z2 (byte_max HS1.out) ks kq kx)
        have HAT : Hid (BlkAt f j ↔ blkP (kI f) (fS f)[j].toNat (fQ f)[j] ((fB f)[j]).length = true):=⟨fun h=>h z1 z3 z2,fun h _ _ _=>h⟩
        generalize blkP (kI f) (fS f)[j].toNat (fQ f)[j] ((fB f)[j]).length = bb at *
        have HLJ:=Lib.hid hlt
        have HWJ : Hid (wrap64 ((j : Int) + 1) = ((j + 1 : Nat) : Int)):=by show _ = _;rw [IntWalk.wrap64_in _ (by omega)];omega
        have x2:=P2.cell
        clear rx z1 z2 z3 ks kq kx P2 x1
        go_wp2_with fail
        refine HBL.out.mono ?_
        rintro e w3 ⟨rfl,b3⟩
        have b4:=Ext.trans b2 b3
        have t4:=Ext.trans t2 b3
        clear x2 HBL
        cases bb with
        | false=>
          have HNO : Hid (oneB ⟨id,m',c,r,l,h⟩ f = false):=oneB_no fun ht=>by
            obtain ⟨h1,h2,h3,h4',h5,h6⟩:=oneB_iff.1 ht
            have h7:=(blksB_iff (by have:=HSZ.out;omega) (by have:=HSZ.out;omega)).1 h6 j
            exact absurd (HAT.out.1 (fun a b c=>h7 a b c)) (by decide)
          go_wp2
          go_ret
          exact ⟨by first | rfl | (rw [HNO.out];rfl),t4⟩
        | true=>
          have HA' : Hid (∀ i,i < j + 1 → BlkAt f i):=by
            intro i hi
            by_cases h : i = j
            · subst h
              exact HAT.out.2 (by first | rfl | trivial)
            · exact HA.out i (by omega)
          go_wp2
          go_roundw
          case rel=>exact ⟨j + 1,HLJ.out,by first | exact round_same HWJ | go_num,b4,HA'⟩
          case measure=>first | exact round_less HWJ HLJ.out | (have h:=HLJ.out;simp [intOf];omega)
      · have HYE : Hid (oneB ⟨id,m',c,r,l,h⟩ f = true):=oneB_iff.2 ⟨HC.out,by have:=of_decide_eq_false HE1.out;omega,by rw [HM.out];have:=HSZ.out;omega,by rw [HM.out];have:=HSZ.out;omega,by rw [HSQ.out];have h:=HE4.out;simpa using h,(blksB_iff (by have:=HSZ.out;omega) (by have:=HSZ.out;omega)).2 fun i a b c=>HA.out i (by have:=HSZ.out;omega) a b c⟩
        clear b2 P2
        go_wp2
        go_ret
        exact ⟨by first | rfl | (rw [HYE.out];rfl),t2⟩
   | false=>
     have hq:=(hsq0 rfl).symm
     subst hq
     rcases Bool.eq_false_or_eq_true (decide (fN f < 1)) with e1 | e1
     · have HNO : Hid (oneB ⟨id,m',c,r,l,h⟩ f = false):=oneB_no fun ht=>by
        obtain ⟨h1,h2,h3,h4',h5,h6⟩:=oneB_iff.1 ht
        have hM:=HM.out
        have hQ':=HSQ.out
        have:=of_decide_eq_true e1;omega
       go_wp2
       go_ret
       exact ⟨by first | rfl | (rw [HNO.out];rfl),t1⟩
     have HE1:=Lib.hid e1
     rcases Bool.eq_false_or_eq_true ((((fS f).length : Int) != (m : Int))) with e1 | e1
     · have HNO : Hid (oneB ⟨id,m',c,r,l,h⟩ f = false):=oneB_no fun ht=>by
        obtain ⟨h1,h2,h3,h4',h5,h6⟩:=oneB_iff.1 ht
        have hM:=HM.out
        have hQ':=HSQ.out
        rw [h3,hM] at e1;simp at e1
       go_wp2
       go_ret
       exact ⟨by first | rfl | (rw [HNO.out];rfl),t1⟩
     have HE2:=Lib.hid e1
     rcases Bool.eq_false_or_eq_true ((((fB f).length : Int) != (m : Int))) with e1 | e1
     · have HNO : Hid (oneB ⟨id,m',c,r,l,h⟩ f = false):=oneB_no fun ht=>by
        obtain ⟨h1,h2,h3,h4',h5,h6⟩:=oneB_iff.1 ht
        have hM:=HM.out
        have hQ':=HSQ.out
        rw [h4',hM] at e1;simp at e1
       go_wp2
       go_ret
       exact ⟨by first | rfl | (rw [HNO.out];rfl),t1⟩
     have HE3:=Lib.hid e1
     rcases Bool.eq_false_or_eq_true ((((fQ f).length : Int) != (m : Int))) with e1 | e1
     · have HNO : Hid (oneB ⟨id,m',c,r,l,h⟩ f = false):=oneB_no fun ht=>by
        obtain ⟨h1,h2,h3,h4',h5,h6⟩:=oneB_iff.1 ht
        have hM:=HM.out
        have hQ':=HSQ.out
        rw [h5,hQ'] at e1;simp at e1
       go_wp2
       go_ret
       exact ⟨by first | rfl | (rw [HNO.out];rfl),t1⟩
     have HE4:=Lib.hid e1
     have HSZ : Hid ((fS f).length = m ∧ (fB f).length = m ∧ m ≤ (fQ f).length):=by
      have h1:=HE2.out
      have h2:=HE3.out
      have h3:=HE4.out
      have h4:=HSQ2.out
      show _ ∧ _ ∧ _
      simp at h1 h2 h3
      omega
     go_wp2
     clear hsq0 hsq1
     obtain ⟨wo,hwo⟩ : ∃ z : World,z = w1:=⟨_,rfl⟩
     rw [← hwo] at t1 P1 HS1 HQ1 HX1
     have bo : Below wo.heap.size wo w1:=by rw [hwo];exact Below.refl _ _
     clear hwo
     go_loopw [8,54] (fun u i wr=>∃ (j : Nat),j ≤ m ∧ i = .int .i64 (j : Int) ∧ Below wo.heap.size wo wr ∧ Hid (∀ i,i < j → BlkAt f i)) (fun _ i _=>m - (intOf i).toNat)
     case atStart=>exact ⟨0,by omega,rfl,bo,fun i h=>absurd h (Nat.not_lt_zero _)⟩
     case round=>
      obtain ⟨j,hj,rfl,b2,HA⟩:=hrel
      clear bo
      have P2:=P1.next b2
      have t2:=Ext.trans t1 b2
      by_cases hlt : j < m
      · have z1 : j < (fS f).length:=by have:=HSZ.out.1;omega
        have z2 : j < (fB f).length:=by have:=HSZ.out.2.1;omega
        have z3 : j < (fQ f).length:=by have:=HSZ.out.2.2;omega
        obtain ⟨bs,os,rfl,ks⟩:=st_at (HS1.out.below b2) z1
        obtain ⟨bq,oq,rfl,kq⟩:=sq_at (HQ1.out.below b2) z3
        obtain ⟨bx,ox,D,cD,rfl,kx,rx⟩:=val_at (HX1.out.below b2) z2
        have HBL:=Lib.hid (fblock_any (fN f) (kI f) (fA f) (fM f) Ab (fD f).length cb (fS f).length cs (fQ f).length cq (fB f).length cx j (fS f)[j].toNat (fQ f)[j] ((fB f)[j]).length cD bs os bq oq bx ox D wr z1 z3 z2 (byte_max HS1.out) ks kq kx)
        have HAT : Hid (BlkAt f j ↔ blkP (kI f) (fS f)[j].toNat (fQ f)[j] ((fB f)[j]).length = true):=⟨fun h=>h z1 z3 z2,fun h _ _ _=>h⟩
        generalize blkP (kI f) (fS f)[j].toNat (fQ f)[j] ((fB f)[j]).length = bb at *
        have HLJ:=Lib.hid hlt
        have HWJ : Hid (wrap64 ((j : Int) + 1) = ((j + 1 : Nat) : Int)):=by show _ = _;rw [IntWalk.wrap64_in _ (by omega)];omega
        have x2:=P2.cell
        clear rx z1 z2 z3 ks kq kx P2 x1
        go_wp2_with fail
        refine HBL.out.mono ?_
        rintro e w3 ⟨rfl,b3⟩
        have b4:=Ext.trans b2 b3
        have t4:=Ext.trans t2 b3
        clear x2 HBL
        cases bb with
        | false=>
          have HNO : Hid (oneB ⟨id,m',c,r,l,h⟩ f = false):=oneB_no fun ht=>by
            obtain ⟨h1,h2,h3,h4',h5,h6⟩:=oneB_iff.1 ht
            have h7:=(blksB_iff (by have:=HSZ.out;omega) (by have:=HSZ.out;omega)).1 h6 j
            exact absurd (HAT.out.1 (fun a b c=>h7 a b c)) (by decide)
          go_wp2
          go_ret
          exact ⟨by first | rfl | (rw [HNO.out];rfl),t4⟩
        | true=>
          have HA' : Hid (∀ i,i < j + 1 → BlkAt f i):=by
            intro i hi
            by_cases h : i = j
            · subst h
              exact HAT.out.2 (by first | rfl | trivial)
            · exact HA.out i (by omega)
          go_wp2
          go_roundw
          case rel=>exact ⟨j + 1,HLJ.out,by first | exact round_same HWJ | go_num,b4,HA'⟩
          case measure=>first | exact round_less HWJ HLJ.out | (have h:=HLJ.out;simp [intOf];omega)
      · have HYE : Hid (oneB ⟨id,m',c,r,l,h⟩ f = true):=oneB_iff.2 ⟨HC.out,by have:=of_decide_eq_false HE1.out;omega,by rw [HM.out];have:=HSZ.out;omega,by rw [HM.out];have:=HSZ.out;omega,by rw [HSQ.out];have h:=HE4.out;simpa using h,(blksB_iff (by have:=HSZ.out;omega) (by have:=HSZ.out;omega)).2 fun i a b c=>HA.out i (by have:=HSZ.out;omega) a b c⟩
        clear b2 P2
        go_wp2
        go_ret
        exact ⟨by first | rfl | (rw [HYE.out];rfl),t2⟩
 · have HB:=Lib.hid (blocks_ne x (kI f) (fA f) (fM f) Ab (fD f).length cb hcode)
   have HNO : Hid (oneB x f = false):=oneB_no fun ht=>hcode (oneB_iff.1 ht).1
   have hE : (askCode x (kI f) (fA f) (fM f) (fD f).length != 0) = true:=askCode_ne _ _ _ _ _ hcode
   generalize askCode x (kI f) (fA f) (fM f) (fD f).length = E at HB hE
   clear hcode hS hQ hX
   obtain ⟨id,m',c,r,l,h⟩:=x
   unfold Cfg.val at *
   dsimp only at *
   have P0:=BoxOf.new' (w.alloc (.cells #[.int .u32 (id : Int),.int .i64 m',.int .i64 c,.int .i64 r,.int .i64 l,.int .i64 h] 24)) (w.heap.size + 1) #[.int .i64 (fN f),.int .u8 (kI f),.int .i64 (fA f),.int .i64 (fM f),.slice Ab (fD f).length cb,.slice As (fS f).length cs,.slice Aq (fQ f).length cq,.slice Ax (fB f).length cx] 67 (by simp)
   have t0:=Ext.alloc (Ext.alloc (Below.refl w.heap.size w) (.cells #[.int .u32 (id : Int),.int .i64 m',.int .i64 c,.int .i64 r,.int .i64 l,.int .i64 h] 24)) (.cells #[.int .i64 (fN f),.int .u8 (kI f),.int .i64 (fA f),.int .i64 (fM f),.slice Ab (fD f).length cb,.slice As (fS f).length cs,.slice Aq (fQ f).length cq,.slice Ax (fB f).length cx] 67)
   have C0:=BoxOf.alloc (BoxOf.new w #[.int .u32 (id : Int),.int .i64 m',.int .i64 c,.int .i64 r,.int .i64 l,.int .i64 h] 24) (.cells #[.int .i64 (fN f),.int .u8 (kI f),.int .i64 (fA f),.int .i64 (fM f),.slice Ab (fD f).length cb,.slice As (fS f).length cs,.slice Aq (fQ f).length cq,.slice Ax (fB f).length cx] 67)
   go_enter Try.func51,Try.ntmps51
   go_upto_region 1 with fail
   generalize (w.alloc (.cells #[.int .u32 (id : Int),.int .i64 m',.int .i64 c,.int .i64 r,.int .i64 l,.int .i64 h] 24)).alloc (.cells #[.int .i64 (fN f),.int .u8 (kI f),.int .i64 (fA f),.int .i64 (fM f),.slice Ab (fD f).length cb,.slice As (fS f).length cs,.slice Aq (fQ f).length cq,.slice Ax (fB f).length cx] 67) = W at *
   have x0:=P0.cell
   have y0:=C0.cell
   go_wp2_with fail
   refine (HB.out _).mono ?_
   rintro e w1 ⟨rfl,b1⟩
   have t1:=Ext.trans t0 b1
   have x1:=(P0.next b1).cell
   clear x0 y0 C0 P0 HB t0 b1
   rcases Bool.eq_false_or_eq_true (kI f == 4) with h4 | h4
   · go_wp2
     go_ret
     exact ⟨by first | rfl | (rw [HNO.out];rfl),t1⟩
   · go_wp2
     go_ret
     exact ⟨by first | rfl | (rw [HNO.out];rfl),t1⟩
end Go.Proofs.Ythapabjlhooglaa
namespace Go.Proofs.Ythapabjlhooglaa
open Go Go.RowKit
set_option linter.unusedSimpArgs false
set_option linter.unusedVariables false
def idxI {α : Type} (p : α → Bool) (fs : List α) : Int:=match fs.findIdx? p with | some i=>(i : Int) | none=>-1
def IdxIs {α : Type} (p : α → Bool) (fs : List α) (e : Ending) : Prop:=e = .returned (.int .i64 (idxI p fs))
theorem idx_at {α : Type} {p : α → Bool} {fs : List α} {j : Nat} (hj : j < fs.length) (h : p fs[j] = true) (ha : ∀ i,i < j → NotAt p fs i) : fs.findIdx? p = some j:=by
 rw [List.findIdx?_eq_some_iff_getElem]
 exact ⟨hj,h,fun i hi=>by rw [ha i hi (by omega)];simp⟩
theorem IdxIs.at {α : Type} {p : α → Bool} {fs : List α} {j : Nat} (hj : j < fs.length) (h : p fs[j] = true) (ha : ∀ i,i < j → NotAt p fs i) : IdxIs p fs (.returned (.int .i64 (j : Int))):=by
 unfold IdxIs idxI
 rw [idx_at hj h ha]
theorem IdxIs.none {α : Type} {p : α → Bool} {fs : List α} {j : Nat} (ha : ∀ i,i < j → NotAt p fs i) (hj : ¬ j < fs.length) : IdxIs p fs (.returned (.int .i64 (-1))):=by
 unfold IdxIs idxI
 have h : fs.findIdx? p = Option.none:=by
  rw [List.findIdx?_eq_none_iff]
  intro x hx
  obtain ⟨i,hi,rfl⟩:=List.getElem_of_mem hx
  exact ha i (by omega) hi
 rw [h]
def numF (n : Int) (f : FlTy.T) : Bool:=fN f == n
theorem find1_any (g : FlTy.T) (Ab : Option Addr) (cb : Nat) (As : Option Addr) (cs : Nat) (Aq : Option Addr) (cq : Nat) (Ax : Option Addr) (cx : Nat) (n : Int) (gn : Nat) (w : World) (hn : BoxOf w gn #[.int .i64 n] 3) :
 Calls Try.prog 73 #[.agg #[.int .i64 (fN g),.int .u8 (kI g),.int .i64 (fA g),.int .i64 (fM g),.slice Ab (fD g).length cb,.slice As (fS g).length cs,.slice Aq (fQ g).length cq,.slice Ax (fB g).length cx],.pointer (some ⟨gn,0,none⟩)] w fun e w'=>e = .returned (.bool (numF n g)) ∧ Below w.heap.size w w':=by
 have t0:=Ext.alloc (Below.refl w.heap.size w) (.cells #[.int .i64 (fN g),.int .u8 (kI g),.int .i64 (fA g),.int .i64 (fM g),.slice Ab (fD g).length cb,.slice As (fS g).length cs,.slice Aq (fQ g).length cq,.slice Ax (fB g).length cx] 67)
 have x0:=(BoxOf.alloc hn (.cells #[.int .i64 (fN g),.int .u8 (kI g),.int .i64 (fA g),.int .i64 (fM g),.slice Ab (fD g).length cb,.slice As (fS g).length cs,.slice Aq (fQ g).length cq,.slice Ax (fB g).length cx] 67)).cell
 go_enter Try.func73,Try.ntmps73
 go_wp2
 go_ret
 exact ⟨rfl,t0⟩
set_option maxRecDepth 100000 in
set_option maxHeartbeats 2000000 in
theorem idx_find (S : Nat → Prop) (fs : List FlTy.T) (B : Option Addr) (n d : Nat) (hn : fs.length = n) (num : Int) (gn : Nat) (w : World) (hg : RdIn w S (.sl FlTy) fs [.slice B n d]) (hgb : BoxOf w gn #[.int .i64 num] 3) :
 Calls Try.prog 72 #[.slice B n d,.func (.func 73) #[] #[.pointer (some ⟨gn,0,none⟩)]] w fun e w'=>IdxIs (numF num) fs e ∧ Below w.heap.size w w':=by
 have HG:=Lib.hid hg
 have HGM : Hid (n ≤ maxLen):=by have:=fl_max hg;show n ≤ maxLen;omega
 have HNL:=Lib.hid hn
 have HGN:=Lib.hid hgb
 clear hg hn
 go_enter Try.func72,Try.ntmps72
 go_upto_region 1 with fail
 obtain ⟨W,hW⟩ : ∃ z : World,z = w:=⟨_,rfl⟩
 have b0 : Below W.heap.size W w:=by rw [hW];exact Below.refl _ _
 have HWW:=Lib.hid hW
 rw [← hW] at HG
 clear hW
 go_wp2
 go_loopw [5,8] (fun v i wr=>∃ (j : Nat),j ≤ n ∧ i = .int .i64 j ∧ Below W.heap.size W wr ∧ Hid (∀ i,i < j → NotAt (numF num) fs i)) (fun _ i _=>n - (intOf i).toNat)
 case atStart=>exact ⟨0,by omega,rfl,b0,fun i h=>absurd h (Nat.not_lt_zero _)⟩
 case round=>
  obtain ⟨j,hj,rfl,b1,HA⟩:=hrel
  clear b0
  have bw : Below w.heap.size w wr:=by have:=HWW.out;subst this;exact b1
  by_cases hlt : j < n
  · have hlf : j < fs.length:=by have:=HNL.out;omega
    obtain ⟨b,off,Ab,cb,As,cs,Aq,cq,Ax,cx,rfl,q0,q1,q2,q3,q4,q5,q6,q7,hi,r1,r2,r3,r4⟩:=fl_at (HG.out.below b1) hlf
    have HSK : Hid (NotAt (numF num) fs j ↔ (numF num) fs[j] = false):=⟨fun h=>h hlf,fun h _=>h⟩
    have HSY : Hid ((numF num) fs[j] = true → IdxIs (numF num) fs (.returned (.int .i64 (j : Int)))):=fun h=>IdxIs.at hlf h HA.out
    have HF0:=Lib.hid (find1_any fs[j] Ab cb As cs Aq cq Ax cx num gn wr (HGN.out.next bw))
    generalize fs[j] = g at *
    have HWJ:=next_wrap HGM.out hlt
    have HLJ:=Lib.hid hlt
    clear hi r1 r2 r3 r4
    rcases Bool.eq_false_or_eq_true ((numF num) g) with e1 | e1
    · have HF:=Lib.hid (HSY.out e1)
      have HF1:=HF0;rw [show numF num g = _ from e1] at HF1
      go_wp2_with (go_at_call 73;refine HF1.out.mono ?_;rintro e w3 ⟨rfl,b3⟩)
      go_ret
      exact ⟨HF.out,Ext.trans bw b3⟩
    · have HA' : Hid (∀ i,i < j + 1 → NotAt (numF num) fs i):=by
       intro i hi
       by_cases h : i = j
       · subst h
         exact HSK.out.2 e1
       · exact HA.out i (by omega)
      have HF1:=HF0;rw [show numF num g = _ from e1] at HF1
      go_wp2_with (go_at_call 73;refine HF1.out.mono ?_;rintro e w3 ⟨rfl,b3⟩)
      have b5:=Ext.trans b1 b3
      go_roundw
      case rel=>exact ⟨j + 1,HLJ.out,by first | exact round_same HWJ | go_num,b5,HA'⟩
      case measure=>first | exact round_less HWJ HLJ.out | (have h:=HLJ.out;simp [intOf];omega)
  · have HN:=Lib.hid (IdxIs.none (p:=numF num) (fs:=fs) (j:=j) HA.out (by have:=HNL.out;omega))
    go_wp2
    go_ret
    exact ⟨HN.out,bw⟩
set_option maxRecDepth 100000 in
set_option maxHeartbeats 2000000 in
theorem first1_any (S : Nat → Prop) (x : Cfg) (fs : List FlTy.T) (N d k : Nat) (B : Option Addr) (hk : k < fs.length) (hN : fs.length = N) (g : FlTy.T) (hg : codeF x g = 0) (hgk : codeF x fs[k] = 0) (Ab : Option Addr) (cb : Nat) (As : Option Addr) (cs : Nat) (Aq : Option Addr) (cq : Nat) (Ax : Option Addr) (cx : Nat) (gc gl gk : Nat) (w : World) (hc : BoxOf w gc #[.int .u32 (x.id : Int),.int .i64 x.m,.int .i64 x.c,.int .i64 x.r,.int .i64 x.l,.int .i64 x.h] 24) (hl : BoxOf w gl #[.slice B N d] 25) (hkb : BoxOf w gk #[.int .i64 (k : Int)] 3) (hr : RdIn w S (.sl FlTy) fs [.slice B N d]) :
 Calls Try.prog 75 #[.agg #[.int .i64 (fN g),.int .u8 (kI g),.int .i64 (fA g),.int .i64 (fM g),.slice Ab (fD g).length cb,.slice As (fS g).length cs,.slice Aq (fQ g).length cq,.slice Ax (fB g).length cx],.pointer (some ⟨gc,0,none⟩),.pointer (some ⟨gl,0,none⟩),.pointer (some ⟨gk,0,none⟩)] w fun e w'=>e = .returned (.bool (meetF g fs[k])) ∧ Below w.heap.size w w':=by
 have t0:=Ext.alloc (Below.refl w.heap.size w) (.cells #[.int .i64 (fN g),.int .u8 (kI g),.int .i64 (fA g),.int .i64 (fM g),.slice Ab (fD g).length cb,.slice As (fS g).length cs,.slice Aq (fQ g).length cq,.slice Ax (fB g).length cx] 67)
 have P0:=BoxOf.new w #[.int .i64 (fN g),.int .u8 (kI g),.int .i64 (fA g),.int .i64 (fM g),.slice Ab (fD g).length cb,.slice As (fS g).length cs,.slice Aq (fQ g).length cq,.slice Ax (fB g).length cx] 67
 have C0:=BoxOf.alloc hc (.cells #[.int .i64 (fN g),.int .u8 (kI g),.int .i64 (fA g),.int .i64 (fM g),.slice Ab (fD g).length cb,.slice As (fS g).length cs,.slice Aq (fQ g).length cq,.slice Ax (fB g).length cx] 67)
 have L0:=BoxOf.alloc hl (.cells #[.int .i64 (fN g),.int .u8 (kI g),.int .i64 (fA g),.int .i64 (fM g),.slice Ab (fD g).length cb,.slice As (fS g).length cs,.slice Aq (fQ g).length cq,.slice Ax (fB g).length cx] 67)
 have K0:=BoxOf.alloc hkb (.cells #[.int .i64 (fN g),.int .u8 (kI g),.int .i64 (fA g),.int .i64 (fM g),.slice Ab (fD g).length cb,.slice As (fS g).length cs,.slice Aq (fQ g).length cq,.slice Ax (fB g).length cx] 67)
 obtain ⟨b,off,Ab2,cb2,As2,cs2,Aq2,cq2,Ax2,cx2,rfl,q0,q1,q2,q3,q4,q5,q6,q7,hi,r1,r2,r3,r4⟩:=fl_at (hr.below t0) hk
 have HT:=Lib.hid (fun w' : World=>touch_all x (kI g) (fA g) (fM g) (kI fs[k]) (fA fs[k]) (fM fs[k]) Ab Ab2 (fD g).length cb (fD fs[k]).length cb2 hg hgk w')
 have HME : Hid (meetF g fs[k] = touchB (kI g) (fA g) (fM g) (kI fs[k]) (fA fs[k]) (fM fs[k])):=rfl
 have hkN : (k : Int) < (N : Int):=by omega
 have hNm : Hid (N ≤ maxLen):=by have:=fl_max hr;show N ≤ maxLen;omega
 generalize meetF g fs[k] = mb at *
 generalize touchB (kI g) (fA g) (fM g) (kI fs[k]) (fA fs[k]) (fM fs[k]) = tb at *
 generalize fs[k] = f at *
 clear hi r1 r2 r3 r4 hg hgk hc hl hkb hr hk hN q0 q5 q6 q7
 obtain ⟨id,m,c,r,l,h⟩:=x
 unfold Cfg.val at *
 dsimp only at *
 go_enter Try.func75,Try.ntmps75
 go_upto_region 1 with fail
 generalize w.alloc (.cells #[.int .i64 (fN g),.int .u8 (kI g),.int .i64 (fA g),.int .i64 (fM g),.slice Ab (fD g).length cb,.slice As (fS g).length cs,.slice Aq (fQ g).length cq,.slice Ax (fB g).length cx] 67) = W at *
 have HS : Hid (∀ w',Below W.heap.size W w' → Below W.heap.size W w' ∧ (∀ p,w'.cell? ⟨gc,p,none⟩ = (#[.int .u32 (id : Int),.int .i64 m,.int .i64 c,.int .i64 r,.int .i64 l,.int .i64 h] : Array Value).toList[p]?) ∧ (∀ p,w'.cell? ⟨w.heap.size,p,none⟩ = (#[.int .i64 (fN g),.int .u8 (kI g),.int .i64 (fA g),.int .i64 (fM g),.slice Ab (fD g).length cb,.slice As (fS g).length cs,.slice Aq (fQ g).length cq,.slice Ax (fB g).length cx] : Array Value).toList[p]?) ∧ (∀ p,w'.cell? ⟨gl,p,none⟩ = (#[.slice (some ⟨b,off,none⟩) N d] : Array Value).toList[p]?) ∧ (∀ p,w'.cell? ⟨gk,p,none⟩ = (#[.int .i64 (k : Int)] : Array Value).toList[p]?) ∧ w'.cell? ⟨b,off + k * 8 + 1,none⟩ = some (.int .u8 (kI f)) ∧ w'.cell? ⟨b,off + k * 8 + 2,none⟩ = some (.int .i64 (fA f)) ∧ w'.cell? ⟨b,off + k * 8 + 3,none⟩ = some (.int .i64 (fM f)) ∧ w'.cell? ⟨b,off + k * 8 + 4,none⟩ = some (.slice Ab2 (fD f).length cb2)):=fun w' bb=>⟨bb,(C0.next bb).cell,(P0.next bb).cell,(L0.next bb).cell,(K0.next bb).cell,(bb.cell (p:=⟨b,off + k * 8 + 1,none⟩) (block_lt_of_cell q1)).trans q1,(bb.cell (p:=⟨b,off + k * 8 + 2,none⟩) (block_lt_of_cell q2)).trans q2,(bb.cell (p:=⟨b,off + k * 8 + 3,none⟩) (block_lt_of_cell q3)).trans q3,(bb.cell (p:=⟨b,off + k * 8 + 4,none⟩) (block_lt_of_cell q4)).trans q4⟩
 clear q1 q2 q3 q4 C0 P0 L0 K0
 have bv:=Ext.drew (Below.refl W.heap.size W)
 have hS0:=HS.out _ bv
 refine wp_region_held_drew (S:=fun w'=>Below W.heap.size W w' ∧ (∀ p,w'.cell? ⟨gc,p,none⟩ = (#[.int .u32 (id : Int),.int .i64 m,.int .i64 c,.int .i64 r,.int .i64 l,.int .i64 h] : Array Value).toList[p]?) ∧ (∀ p,w'.cell? ⟨w.heap.size,p,none⟩ = (#[.int .i64 (fN g),.int .u8 (kI g),.int .i64 (fA g),.int .i64 (fM g),.slice Ab (fD g).length cb,.slice As (fS g).length cs,.slice Aq (fQ g).length cq,.slice Ax (fB g).length cx] : Array Value).toList[p]?) ∧ (∀ p,w'.cell? ⟨gl,p,none⟩ = (#[.slice (some ⟨b,off,none⟩) N d] : Array Value).toList[p]?) ∧ (∀ p,w'.cell? ⟨gk,p,none⟩ = (#[.int .i64 (k : Int)] : Array Value).toList[p]?) ∧ w'.cell? ⟨b,off + k * 8 + 1,none⟩ = some (.int .u8 (kI f)) ∧ w'.cell? ⟨b,off + k * 8 + 2,none⟩ = some (.int .i64 (fA f)) ∧ w'.cell? ⟨b,off + k * 8 + 3,none⟩ = some (.int .i64 (fM f)) ∧ w'.cell? ⟨b,off + k * 8 + 4,none⟩ = some (.slice Ab2 (fD f).length cb2)) (by kernel_rfl) hS0 (fun hS=>?_)
 clear bv hS0
 refine wpAnyH_take (i:=0) (v:=?_) rfl (by kernel_rfl) (by kernel_rfl) (by kernel_rfl) (fun _ _ _ h=>h) (Or.inl ⟨by rfl,?_⟩) hS ?_
 rotate_left
 · (intro w hSw;(try dsimp only at hSw);go_simp;(try with_reducible rfl))
 rotate_left
 simp only [Act.put,zq0,zq1,zq2,zq3,zq4,zq5]
 refine wpAnyH_take (i:=1) (v:=?_) rfl (by kernel_rfl) (by kernel_rfl) (by kernel_rfl) (fun _ _ _ h=>h) (Or.inl ⟨by rfl,?_⟩) hS ?_
 rotate_left
 · (intro w hSw;(try dsimp only at hSw);go_simp;(try with_reducible rfl))
 rotate_left
 simp only [Act.put,zq0,zq1,zq2,zq3,zq4,zq5]
 refine wpAnyH_take (i:=2) (v:=?_) rfl (by kernel_rfl) (by kernel_rfl) (by kernel_rfl) (fun _ _ _ h=>h) (Or.inl ⟨by rfl,?_⟩) hS ?_
 rotate_left
 · (intro w hSw;(try dsimp only at hSw);go_simp;(try with_reducible rfl))
 rotate_left
 simp only [Act.put,zq0,zq1,zq2,zq3,zq4,zq5]
 refine wpAnyH_take (i:=3) (v:=?_) rfl (by kernel_rfl) (by kernel_rfl) (by kernel_rfl) (fun _ _ _ h=>h) (Or.inl ⟨by rfl,?_⟩) hS ?_
 rotate_left
 · (intro w hSw;(try dsimp only at hSw);go_simp;(try with_reducible rfl))
 rotate_left
 simp only [Act.put,zq0,zq1,zq2,zq3,zq4,zq5]
 refine wpAnyH_take (i:=4) (v:=?_) rfl (by kernel_rfl) (by kernel_rfl) (by kernel_rfl) (fun _ _ _ h=>h) (Or.inl ⟨by rfl,?_⟩) hS ?_
 rotate_left
 · (intro w hSw;(try dsimp only at hSw);go_simp;(try with_reducible rfl))
 rotate_left
 simp only [Act.put,zq0,zq1,zq2,zq3,zq4,zq5]
 refine wpAnyH_ready (rs:=[5]) (by kernel_rfl) (by simp) ?_
 refine AllReadyH.cons rfl (fun K hK=>?_) AllReadyH.nil
 rw [if_pos (by rfl)]
 go_simp
 refine hK.out _ _ hS (fun hS'=>?_)
 clear hK K hS
 have hS:=hS'
 clear hS'
 try simp only [Act.put,zq0,zq1,zq2,zq3,zq4,zq5]
 refine wpAnyH_take (i:=6) (v:=?_) rfl (by kernel_rfl) (by kernel_rfl) (by kernel_rfl) (fun _ _ _ h=>h) (Or.inl ⟨by rfl,?_⟩) hS ?_
 rotate_left
 · (intro w hSw;(try dsimp only at hSw);go_simp;(try with_reducible rfl))
 rotate_left
 simp only [Act.put,zq0,zq1,zq2,zq3,zq4,zq5]
 refine wpAnyH_take (i:=7) (v:=?_) rfl (by kernel_rfl) (by kernel_rfl) (by kernel_rfl) (fun _ _ _ h=>h) (Or.inl ⟨by rfl,?_⟩) hS ?_
 rotate_left
 · (intro w hSw;(try dsimp only at hSw);go_simp;(try with_reducible rfl))
 rotate_left
 simp only [Act.put,zq0,zq1,zq2,zq3,zq4,zq5]
 refine wpAnyH_ready (rs:=[8]) (by kernel_rfl) (by simp) ?_
 refine AllReadyH.cons rfl (fun K hK=>?_) AllReadyH.nil
 rw [if_pos (by rfl)]
 go_simp
 refine (HT.out _).mono ?_
 rintro e w3 ⟨rfl,k3⟩
 refine hK.out _ _ (HS.out _ (Ext.trans hS.1 k3)) (fun hS'=>?_)
 clear hK K hS k3
 have hS:=hS'
 clear hS'
 try simp only [Act.put,zq0,zq1,zq2,zq3,zq4,zq5]
 refine wpAnyH_take (i:=9) (v:=?_) rfl (by kernel_rfl) (by kernel_rfl) (by kernel_rfl) (fun _ _ _ h=>h) (Or.inl ⟨by rfl,?_⟩) hS ?_
 rotate_left
 · (intro w hSw;(try dsimp only at hSw);go_simp;(try with_reducible rfl))
 rotate_left
 simp only [Act.put,zq0,zq1,zq2,zq3,zq4,zq5]
 refine wpAnyH_take (i:=10) (v:=?_) rfl (by kernel_rfl) (by kernel_rfl) (by kernel_rfl) (fun _ _ _ h=>h) (Or.inl ⟨by rfl,?_⟩) hS ?_
 rotate_left
 · (intro w hSw;(try dsimp only at hSw);go_simp;(try with_reducible rfl))
 rotate_left
 simp only [Act.put,zq0,zq1,zq2,zq3,zq4,zq5]
 refine wpAnyH_take (i:=11) (v:=?_) rfl (by kernel_rfl) (by kernel_rfl) (by kernel_rfl) (fun _ _ _ h=>h) (Or.inl ⟨by rfl,?_⟩) hS ?_
 rotate_left
 · (intro w hSw;(try dsimp only at hSw);go_simp;(try with_reducible rfl))
 rotate_left
 simp only [Act.put,zq0,zq1,zq2,zq3,zq4,zq5]
 refine wpAnyH_take (i:=12) (v:=?_) rfl (by kernel_rfl) (by kernel_rfl) (by kernel_rfl) (fun _ _ _ h=>h) (Or.inl ⟨by rfl,?_⟩) hS ?_
 rotate_left
 · (intro w hSw;(try dsimp only at hSw);go_simp;(try with_reducible rfl))
 rotate_left
 simp only [Act.put,zq0,zq1,zq2,zq3,zq4,zq5]
 refine wpAnyH_take (i:=13) (v:=?_) rfl (by kernel_rfl) (by kernel_rfl) (by kernel_rfl) (fun _ _ _ h=>h) (Or.inl ⟨by rfl,?_⟩) hS ?_
 rotate_left
 · (intro w hSw;(try dsimp only at hSw);go_simp;(try with_reducible rfl))
 rotate_left
 simp only [Act.put,zq0,zq1,zq2,zq3,zq4,zq5]
 refine wpAnyH_done (by kernel_rfl) ?_ _
 have t3:=Ext.trans t0 hS.1
 clear hS
 go_wp2
 go_ret
 exact ⟨by rw [HME.out];rfl,t3⟩
set_option maxRecDepth 100000 in
set_option maxHeartbeats 2000000 in
theorem idx_first (S : Nat → Prop) (fs : List FlTy.T) (B : Option Addr) (n d : Nat) (hn : fs.length = n) (x : Cfg) (L : List FlTy.T) (N dN k : Nat) (A : Option Addr) (hk : k < L.length) (hN : L.length = N) (hgk : codeF x L[k] = 0) (fk : FlTy.T) (hfk : fk = L[k]) (gc gl gk : Nat) (w : World) (hg : RdIn w S (.sl FlTy) fs [.slice B n d]) (hall : ∀ f ∈ fs,codeF x f = 0) (hc : BoxOf w gc #[.int .u32 (x.id : Int),.int .i64 x.m,.int .i64 x.c,.int .i64 x.r,.int .i64 x.l,.int .i64 x.h] 24) (hl : BoxOf w gl #[.slice A N dN] 25) (hkb : BoxOf w gk #[.int .i64 (k : Int)] 3) (hr : RdIn w S (.sl FlTy) L [.slice A N dN]) :
 Calls Try.prog 72 #[.slice B n d,.func (.func 75) #[] #[.pointer (some ⟨gc,0,none⟩),.pointer (some ⟨gl,0,none⟩),.pointer (some ⟨gk,0,none⟩)]] w fun e w'=>IdxIs (fun f=>meetF f fk) fs e ∧ Below w.heap.size w w':=by
 have HG:=Lib.hid hg
 have HGM : Hid (n ≤ maxLen):=by have:=fl_max hg;show n ≤ maxLen;omega
 have HNL:=Lib.hid hn
 have HF00 : Hid (∀ w',Below w.heap.size w w' → ∀ g,codeF x g = 0 → ∀ (Ab : Option Addr) (cb : Nat) (As : Option Addr) (cs : Nat) (Aq : Option Addr) (cq : Nat) (Ax : Option Addr) (cx : Nat),Calls Try.prog 75 #[.agg #[.int .i64 (fN g),.int .u8 (kI g),.int .i64 (fA g),.int .i64 (fM g),.slice Ab (fD g).length cb,.slice As (fS g).length cs,.slice Aq (fQ g).length cq,.slice Ax (fB g).length cx],.pointer (some ⟨gc,0,none⟩),.pointer (some ⟨gl,0,none⟩),.pointer (some ⟨gk,0,none⟩)] w' fun e w''=>e = .returned (.bool (meetF g fk)) ∧ Below w'.heap.size w' w''):=fun w' bb g hg Ab cb As cs Aq cq Ax cx=>(by rw [hfk];exact first1_any S x L N dN k A hk hN g hg hgk Ab cb As cs Aq cq Ax cx gc gl gk w' (hc.next bb) (hl.next bb) (hkb.next bb) (hr.below bb));have HALL:=Lib.hid hall;clear hall hc hl hkb hr hfk hgk hk hN
 clear hg hn
 go_enter Try.func72,Try.ntmps72
 go_upto_region 1 with fail
 obtain ⟨W,hW⟩ : ∃ z : World,z = w:=⟨_,rfl⟩
 have b0 : Below W.heap.size W w:=by rw [hW];exact Below.refl _ _
 have HWW:=Lib.hid hW
 rw [← hW] at HG
 clear hW
 go_wp2
 go_loopw [5,8] (fun v i wr=>∃ (j : Nat),j ≤ n ∧ i = .int .i64 j ∧ Below W.heap.size W wr ∧ Hid (∀ i,i < j → NotAt (fun f=>meetF f fk) fs i)) (fun _ i _=>n - (intOf i).toNat)
 case atStart=>exact ⟨0,by omega,rfl,b0,fun i h=>absurd h (Nat.not_lt_zero _)⟩
 case round=>
  obtain ⟨j,hj,rfl,b1,HA⟩:=hrel
  clear b0
  have bw : Below w.heap.size w wr:=by have:=HWW.out;subst this;exact b1
  by_cases hlt : j < n
  · have hlf : j < fs.length:=by have:=HNL.out;omega
    obtain ⟨b,off,Ab,cb,As,cs,Aq,cq,Ax,cx,rfl,q0,q1,q2,q3,q4,q5,q6,q7,hi,r1,r2,r3,r4⟩:=fl_at (HG.out.below b1) hlf
    have HSK : Hid (NotAt (fun f=>meetF f fk) fs j ↔ (fun f=>meetF f fk) fs[j] = false):=⟨fun h=>h hlf,fun h _=>h⟩
    have HSY : Hid ((fun f=>meetF f fk) fs[j] = true → IdxIs (fun f=>meetF f fk) fs (.returned (.int .i64 (j : Int)))):=fun h=>IdxIs.at hlf h HA.out
    have HF0:=Lib.hid (HF00.out wr bw fs[j] (HALL.out _ (List.getElem_mem hlf)) Ab cb As cs Aq cq Ax cx)
    generalize fs[j] = g at *
    have HWJ:=next_wrap HGM.out hlt
    have HLJ:=Lib.hid hlt
    clear hi r1 r2 r3 r4
    rcases Bool.eq_false_or_eq_true ((fun f=>meetF f fk) g) with e1 | e1
    · have HF:=Lib.hid (HSY.out e1)
      have HF1:=HF0;rw [show meetF g fk = _ from e1] at HF1
      go_wp2_with (go_at_call 75;refine HF1.out.mono ?_;rintro e w3 ⟨rfl,b3⟩)
      go_ret
      exact ⟨HF.out,Ext.trans bw b3⟩
    · have HA' : Hid (∀ i,i < j + 1 → NotAt (fun f=>meetF f fk) fs i):=by
       intro i hi
       by_cases h : i = j
       · subst h
         exact HSK.out.2 e1
       · exact HA.out i (by omega)
      have HF1:=HF0;rw [show meetF g fk = _ from e1] at HF1
      go_wp2_with (go_at_call 75;refine HF1.out.mono ?_;rintro e w3 ⟨rfl,b3⟩)
      have b5:=Ext.trans b1 b3
      go_roundw
      case rel=>exact ⟨j + 1,HLJ.out,by first | exact round_same HWJ | go_num,b5,HA'⟩
      case measure=>first | exact round_less HWJ HLJ.out | (have h:=HLJ.out;simp [intOf];omega)
  · have HN:=Lib.hid (IdxIs.none (p:=fun f=>meetF f fk) (fs:=fs) (j:=j) HA.out (by have:=HNL.out;omega))
    go_wp2
    go_ret
    exact ⟨HN.out,bw⟩
theorem RdIn.take {w : World} {S : Nat → Prop} {e : Ty} {xs : List e.T} {A : Option Addr} {n c : Nat} (h : RdIn w S (.sl e) xs [.slice A n c]) {k : Nat} (hk : k ≤ xs.length) : RdIn w S (.sl e) (xs.take k) [.slice A k c]:=by
 obtain ⟨A',c',h0,h1,h2,h3,h4⟩:=rdin_sl.1 h
 injection h0 with h0 _
 injection h0 with h01 h02 h03
 subst h01 h03
 have hl : (xs.take k).length = k:=by rw [List.length_take];omega
 refine rdin_sl.2 ⟨A,c,by rw [hl],by rw [hl];omega,h2,by rw [hl];exact Nat.le_trans (Nat.mul_le_mul_right _ hk) h3,?_⟩
 rcases h4 with h4 | ⟨b,off,hA,hS,h4⟩
 · exact .inl (by rw [h4];simp)
 · refine .inr ⟨b,off,hA,hS,fun i hi=>?_⟩
   have hi' : i < xs.length:=by rw [hl] at hi;omega
   obtain ⟨es,h5,h6⟩:=h4 i hi'
   exact ⟨es,h5,by rw [List.getElem_take];exact h6⟩
theorem idxI_first {fs : List FlTy.T} {k : Nat} (hk : k < fs.length) : (!decide (0 ≤ idxI (fun f=>meetF f fs[k]) (fs.take k))) = firstB fs k:=by
 unfold firstB idxI
 rw [List.getElem?_eq_getElem hk]
 simp only
 cases h : (fs.take k).findIdx? (fun f=>meetF f fs[k]) with
 | none=>
   rw [List.findIdx?_eq_none_iff] at h
   symm
   simp
   intro a ha
   exact h a ha
 | some i=>
   rw [List.findIdx?_eq_some_iff_getElem] at h
   obtain ⟨hi,h1,_⟩:=h
   have : (fs.take k).all (fun f=>!meetF f fs[k]) = false:=by
    rw [List.all_eq_false]
    exact ⟨_,List.getElem_mem hi,by rw [h1];simp⟩
   rw [this]
   simp
theorem hasf_any (B : Option Addr) (n d : Nat) (fv : Value) (iv : Int) (w : World) (HC : Hid (Calls Try.prog 72 #[.slice B n d,fv] w fun e w'=>e = .returned (.int .i64 iv) ∧ Below w.heap.size w w')) :
 Calls Try.prog 74 #[.slice B n d,fv] w fun e w'=>e = .returned (.bool (decide (0 ≤ iv))) ∧ Below w.heap.size w w':=by
 go_enter Try.func74,Try.ntmps74
 go_wp2_with fail
 refine HC.out.mono ?_
 rintro e w1 ⟨rfl,b1⟩
 go_wp2
 go_ret
 exact ⟨rfl,b1⟩
set_option maxRecDepth 100000 in
set_option maxHeartbeats 2000000 in
theorem first_any (S : Nat → Prop) (x : Cfg) (fs : List FlTy.T) (N d k : Nat) (B : Option Addr) (hk : k < fs.length) (hN : fs.length = N) (hc : ∀ i (h : i < fs.length),i ≤ k → codeF x fs[i] = 0) (w : World) (hr : RdIn w S (.sl FlTy) fs [.slice B N d]) :
 Calls Try.prog 40 #[x.val,.slice B N d,.int .i64 (k : Int)] w fun e w'=>e = .returned (.bool (firstB fs k)) ∧ Below w.heap.size w w':=by
 have t0:=Ext.alloc (Ext.alloc (Ext.alloc (Below.refl w.heap.size w) (.cells #[.int .u32 (x.id : Int),.int .i64 x.m,.int .i64 x.c,.int .i64 x.r,.int .i64 x.l,.int .i64 x.h] 24)) (.cells #[.slice B N d] 25)) (.cells #[.int .i64 (k : Int)] 3)
 have C0:=BoxOf.alloc (BoxOf.alloc (BoxOf.new w #[.int .u32 (x.id : Int),.int .i64 x.m,.int .i64 x.c,.int .i64 x.r,.int .i64 x.l,.int .i64 x.h] 24) (.cells #[.slice B N d] 25)) (.cells #[.int .i64 (k : Int)] 3)
 have L0:=BoxOf.alloc (BoxOf.new' (w.alloc (.cells #[.int .u32 (x.id : Int),.int .i64 x.m,.int .i64 x.c,.int .i64 x.r,.int .i64 x.l,.int .i64 x.h] 24)) (w.heap.size + 1) #[.slice B N d] 25 (by simp)) (.cells #[.int .i64 (k : Int)] 3)
 have K0:=BoxOf.new' ((w.alloc (.cells #[.int .u32 (x.id : Int),.int .i64 x.m,.int .i64 x.c,.int .i64 x.r,.int .i64 x.l,.int .i64 x.h] 24)).alloc (.cells #[.slice B N d] 25)) (w.heap.size + 2) #[.int .i64 (k : Int)] 3 (by simp)
 have hlk : (fs.take k).length = k:=by rw [List.length_take];omega
 have HC:=Lib.hid (idx_first S (fs.take k) B k d hlk x fs N d k B hk hN (hc k hk (Nat.le_refl k)) fs[k] rfl w.heap.size (w.heap.size + 1) (w.heap.size + 2) _ ((hr.below t0).take (by omega)) (fun f hf=>by
  obtain ⟨i,hi,rfl⟩:=List.mem_take_iff_getElem.1 hf
  exact hc i (by omega) (by omega)) C0 L0 K0 (hr.below t0))
 have HV:=Lib.hid (idxI_first hk)
 have hkN : k ≤ d:=by
  obtain ⟨_,_,h0,h1,_⟩:=rdin_sl.1 hr
  injection h0 with h0 _
  injection h0 with _ h02 h03
  omega
 have hdm : d ≤ maxLen:=by
  obtain ⟨_,_,h0,_,h1,_⟩:=rdin_sl.1 hr
  injection h0 with h0 _
  injection h0 with _ h02 h03
  omega
 have hkI : (0 : Int) ≤ (k : Int):=by omega
 have hkd : (k : Int) ≤ (d : Int):=by omega
 generalize firstB fs k = fb at *
 unfold IdxIs at HC
 generalize idxI (fun f=>meetF f fs[k]) (fs.take k) = iv at *
 clear hlk hr hc hk hN
 obtain ⟨id,m,c,r,l,h⟩:=x
 unfold Cfg.val at *
 dsimp only at *
 go_enter Try.func40,Try.ntmps40
 go_upto_region 1 with fail
 generalize ((w.alloc (.cells #[.int .u32 (id : Int),.int .i64 m,.int .i64 c,.int .i64 r,.int .i64 l,.int .i64 h] 24)).alloc (.cells #[.slice B N d] 25)).alloc (.cells #[.int .i64 (k : Int)] 3) = W at *
 have x0:=C0.cell
 have y0:=L0.cell
 have z0:=K0.cell
 clear C0 L0 K0
 have HC2:=Lib.hid (hasf_any _ _ _ _ _ _ HC)
 clear HC
 go_wp2_with fail
 refine HC2.out.mono ?_
 rintro e w1 ⟨rfl,b1⟩
 have t1:=Ext.trans t0 b1
 go_wp2
 go_ret
 exact ⟨by rw [← HV.out];rfl,t1⟩
end Go.Proofs.Ythapabjlhooglaa
namespace Go.Proofs.Ythapabjlhooglaa
open Go Go.RowKit Go.Shelf
set_option linter.unusedSimpArgs false
set_option linter.unusedVariables false
attribute [local go_sem] Oper.semAt_some
def KeepL (base : Nat) (W W' : World) : Prop:=∀ (p : Addr) (v : Value),p.block < base → W.cell? p = some v → W'.cell? p = some v
theorem KeepL.refl (base : Nat) (W : World) : KeepL base W W:=fun _ _ _ h=>h
theorem KeepL.trans {base : Nat} {A B C : World} (h : KeepL base A B) (k : KeepL base B C) : KeepL base A C:=fun p v hp hv=>k p v hp (h p v hp hv)
theorem KeepL.below {base : Nat} {A B : World} (h : Below base A B) : KeepL base A B:=fun p v hp hv=>(h.cell hp).trans hv
end Go.Proofs.Ythapabjlhooglaa
namespace Go.Proofs.Ythapabjlhooglaa
open Go Go.RowKit Go.Shelf
set_option linter.unusedSimpArgs false
set_option linter.unusedVariables false
attribute [local go_sem] Oper.semAt_some
theorem results_bool {fn : Func} {p : Tmp} (h : fn.results = #[.cell p 4]) (tmps : Array Value) (w : World) (g : Nat) (v : Value)
 (hp : tmps.getD p undef = .pointer (some ⟨g,0,none⟩)) (hg : w.cell? ⟨g,0,none⟩ = some v) : (results fn tmps).run Try.prog w = .ok v w:=by
 have hp' : tmps[p]?.getD undef = .pointer (some ⟨g,0,none⟩):=by simpa using hp
 simp [results,h,hp',asAddr,go_sem,hg]
 try rfl
theorem own_cells {B : Nat} {g : Nat} {W W' : World} {row : Option Nat} {cs : Array Value} {t : TypeId} (h : BoxOf W g cs t) (hg : W.grownBy W' row) (hr : ∀ r,row = some r → B ≤ r ∧ ∃ o : Obj,W.heap[r]? = some o ∧ o.isCells = false) : BoxOf W' g cs t:=by
 refine h.grown hg fun e=>?_
 obtain ⟨_,o,ho,hc⟩:=hr g e
 have h1 : W.heap[g]? = some (.cells cs t (0,0)):=h
 rw [h1] at ho
 cases ho
 simp [Obj.isCells] at hc
end Go.Proofs.Ythapabjlhooglaa
namespace Go.Proofs.Ythapabjlhooglaa
open Go Go.RowKit
set_option linter.unusedSimpArgs false
set_option linter.unusedVariables false
def OkBad (P : Prop) (e : Ending) : Prop:=(P ∧ e = .returned (.int .i64 0)) ∨ (¬ P ∧ e = .returned (.int .i64 8))
theorem OkBad.ok {P : Prop} (h : P) : OkBad P (.returned (.int .i64 0)):=.inl ⟨h,rfl⟩
theorem OkBad.bad {P : Prop} (h : ¬ P) : OkBad P (.returned (.int .i64 8)):=.inr ⟨h,rfl⟩
def LastIs (gs : List GoTy.T) (j : Nat) (last : Int) : Prop:=0 ≤ last ∧ (j = 0 → last = 0) ∧ (∀ (h : j - 1 < gs.length),0 < j → last = nuOf gs[j - 1])
theorem LastIs.none (gs : List GoTy.T) : LastIs gs 0 0:=⟨Int.le_refl 0,fun _=>rfl,fun _ h=>absurd h (Nat.lt_irrefl 0)⟩
theorem LastIs.next {gs : List GoTy.T} {j : Nat} {n last : Int} (h : LastIs gs j last) (hn : last < n) (hj : ∀ h : j < gs.length,nuOf gs[j] = n) : LastIs gs (j + 1) n:=
 ⟨by have:=h.1;omega,fun h=>by omega,fun h0 _=>(hj h0).symm⟩
theorem LastIs.yes {x : Cfg} {ys : List (List (List UInt8))} {gs : List GoTy.T} {j : Nat} {last : Int} (h : LastIs gs j last) (hj : j < gs.length) (hn : last < nuOf gs[j]) (h1 : askCode x ((kiOf gs[j]).toNat : Int) (atOf gs[j]) (manyOf gs[j]) (datOf gs[j]).length = 0) (h2 : MarksOk ((kiOf gs[j]).toNat : Int) (mksOf gs[j]) ys) : GoOk x ys gs j:=fun _=>
 ⟨⟨by have:=h.1;omega,h1,h2⟩,fun h3 h0=>by have:=h.2.2 h3 h0;omega⟩
end Go.Proofs.Ythapabjlhooglaa
