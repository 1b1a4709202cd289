/- What this claim needs of my texts, merged and shortened by a program (part 2). -/
import Derived.Maps.OwnOps
import Derived.Maps.Views
import Derived.Laws.EntriesVeiled
import Derived.BigQuiet
import Derived.Test.YthapabjlhooglaaRows
import Derived.Laws.CopyOwn
import Derived.Laws.ResultCell
import Derived.OrdersIn
import Derived.LoopIn
import Derived.OrdersHeld
import Derived.Deep.RegionHeld3
import Derived.Shelf.RegionOpen
import Derived.RangeFuncCalls
import Derived.RangeFuncBox
import Derived.RangeFuncNested
import Derived.RangeFuncBound
import Derived.RangeFuncLeaves
import Derived.Test.YthapabjlhooglaaZFlightAdds1
namespace Go.Proofs.Ythapabjlhooglaa
open Go.RowKit Go.Maps
set_option linter.unusedSimpArgs false
set_option linter.unusedVariables false
theorem lawI : Keyed Try.prog 3:=int_keyed Try.underlying3
theorem zeroI (w : World) : (zeroValue 3).run Try.prog w = .ok (.int .i64 0) w:=by kernel_rfl
def mapB (a mark : Int) : Nat → DataW Unit
 | 0=>.map []
 | k + 1=>(mapB a mark k).put (.int .i64 (a + (k : Int))) (.lit (.int .i64 mark))
theorem mapB_is (a mark : Int) (k : Nat) : IsMap (mapB a mark k):=by
 induction k with
 | zero=>exact isMap_empty
 | succ k ih=>exact ih.put _ _
theorem mapB_at (a mark n : Int) (k : Nat) : (mapB a mark k).atKey (.int .i64 n) (.lit (.int .i64 0)) = .lit (.int .i64 (if a ≤ n ∧ n < a + (k : Int) then mark else 0)):=by
 induction k with
 | zero=>rw [if_neg (by omega)];rfl
 | succ k ih=>
   unfold mapB
   by_cases h : n = a + (k : Int)
   · subst h
     rw [atKey_put_same (k:=.int .i64 (a + (k : Int))) (mapB_is a mark k) (show True from trivial),if_pos (by omega)]
   · rw [atKey_put_other (by simp;exact h),ih]
     congr 3
     exact propext (by omega)
theorem mapB_hit {a mark n c : Int} {k : Nat} (hat : (mapB a mark k).atKey (.int .i64 n) (.lit (.int .i64 0)) = .lit (.int .i64 c)) (h : a ≤ n ∧ n < a + (k : Int)) : c = mark:=by
 rw [mapB_at,if_pos h] at hat
 simpa using hat.symm
theorem mapB_miss {a mark n c : Int} {k : Nat} (hat : (mapB a mark k).atKey (.int .i64 n) (.lit (.int .i64 0)) = .lit (.int .i64 c)) (h : ¬ (a ≤ n ∧ n < a + (k : Int))) : c = 0:=by
 rw [mapB_at,if_neg h] at hat
 simpa using hat.symm
theorem ret_bool2 {a b : Bool} (h : a = b) (n : Int) : Ending.returned (.tuple #[.bool a,.int .i64 n]) = .returned (.tuple #[.bool b,.int .i64 n]):=by rw [h]
def touchB (k1 a1 y1 k2 a2 y2 : Int) : Bool:=(kWrites k1 || kWrites k2) && decide (0 < y1 ∧ 0 < y2 ∧ a1 < a2 + y2 ∧ a2 < a1 + y1)
theorem rd_seq {w : World} {A : Option Addr} {a : Int} {n : Nat} (h : Rd w A (seqI a n)) : n = 0 ∨ ∃ b off,A = some ⟨b,off,none⟩ ∧ ∀ j,j < n → w.cell? ⟨b,off + j,none⟩ = some (.int .i64 (a + (j : Int))):=by
 rcases h with h | ⟨b,off,hA,hc⟩
 · left
   have:=congrArg List.length h
   rwa [seqI_len] at this
 · refine .inr ⟨b,off,hA,fun j hj=>?_⟩
   rw [hc j (by rw [seqI_len];exact hj)]
   simp [seqI,hj]
set_option maxRecDepth 100000 in
set_option maxHeartbeats 4000000 in
theorem touch_ok (x : Cfg) (k1 a1 : Int) (y1 : Nat) (k2 a2 : Int) (y2 : Nat) (A1 A2 : Option Addr) (n1 q1 n2 q2 : Nat) (hy1 : y1 ≤ 8) (hy2 : y2 ≤ 8) (ha1 : 0 ≤ a1 ∧ a1 ≤ 1000) (ha2 : 0 ≤ a2 ∧ a2 ≤ 1000)
 (H1 : ∀ W,Calls Try.prog 35 #[x.val,.agg #[.int .u8 k1,.int .i64 a1,.int .i64 y1,.slice A1 n1 q1]] W fun e w'=>∃ v,e = .returned (.tuple #[v,.int .i64 0]) ∧ w'.ownsRow (W.heap.size + 2) 3 1 v y1 (seqI a1 y1) ∧ Below W.heap.size W w')
 (H2 : ∀ W,Calls Try.prog 35 #[x.val,.agg #[.int .u8 k2,.int .i64 a2,.int .i64 y2,.slice A2 n2 q2]] W fun e w'=>∃ v,e = .returned (.tuple #[v,.int .i64 0]) ∧ w'.ownsRow (W.heap.size + 2) 3 1 v y2 (seqI a2 y2) ∧ Below W.heap.size W w') (w : World) :
 Calls Try.prog 29 #[x.val,.agg #[.int .u8 k1,.int .i64 a1,.int .i64 y1,.slice A1 n1 q1],.agg #[.int .u8 k2,.int .i64 a2,.int .i64 y2,.slice A2 n2 q2]] w fun e w'=>e = .returned (.tuple #[.bool (touchB k1 a1 y1 k2 a2 y2),.int .i64 0]) ∧ Below w.heap.size w w':=by
 have HB1:=Lib.hid H1
 have HB2:=Lib.hid H2
 clear H1 H2
 have HO1:=Lib.hid (of_any k1)
 have HO2:=Lib.hid (of_any k2)
 have hmm:=@run_makeMap Try.prog
 obtain ⟨id,m,c,r,l,h⟩:=x
 unfold Cfg.val at *
 dsimp only at *
 have htb : touchB k1 a1 y1 k2 a2 y2 = ((kWrites k1 || kWrites k2) && decide (0 < (y1 : Int) ∧ 0 < (y2 : Int) ∧ a1 < a2 + (y2 : Int) ∧ a2 < a1 + (y1 : Int))):=rfl
 have HTB:=Lib.hid htb
 clear htb
 generalize touchB k1 a1 y1 k2 a2 y2 = tb at *
 generalize kMost k1 = mo1 at *
 generalize kMost k2 = mo2 at *
 generalize kBytes k1 = by1 at *
 generalize kBytes k2 = by2 at *
 generalize kIs k1 = is1 at *
 generalize kIs k2 = is2 at *
 generalize kWrites k1 = wr1 at *
 generalize kWrites k2 = wr2 at *
 cases wr1 <;> cases wr2
 · simp only [Bool.or_false,Bool.false_or,Bool.or_true,Bool.true_or,Bool.false_and,Bool.true_and] at HTB
   go_enter Try.func29,Try.ntmps29
   go_wp2_with fail
   have C0:=BoxOf.alloc (BoxOf.alloc (BoxOf.new w #[.int .u32 (id : Int),.int .i64 m,.int .i64 c,.int .i64 r,.int .i64 l,.int .i64 h] 24) (.cells #[.int .u8 k1,.int .i64 a1,.int .i64 y1,.slice A1 n1 q1] 28)) (.cells #[.int .u8 k2,.int .i64 a2,.int .i64 y2,.slice A2 n2 q2] 28)
   have A0:=BoxOf.alloc (BoxOf.new' (w.alloc (.cells #[.int .u32 (id : Int),.int .i64 m,.int .i64 c,.int .i64 r,.int .i64 l,.int .i64 h] 24)) (w.heap.size + 1) #[.int .u8 k1,.int .i64 a1,.int .i64 y1,.slice A1 n1 q1] 28 (by simp)) (.cells #[.int .u8 k2,.int .i64 a2,.int .i64 y2,.slice A2 n2 q2] 28)
   have D0:=BoxOf.new' ((w.alloc (.cells #[.int .u32 (id : Int),.int .i64 m,.int .i64 c,.int .i64 r,.int .i64 l,.int .i64 h] 24)).alloc (.cells #[.int .u8 k1,.int .i64 a1,.int .i64 y1,.slice A1 n1 q1] 28)) (w.heap.size + 2) #[.int .u8 k2,.int .i64 a2,.int .i64 y2,.slice A2 n2 q2] 28 (by simp)
   have t0:=Ext.alloc (Ext.alloc (Ext.alloc (Below.refl w.heap.size w) (.cells #[.int .u32 (id : Int),.int .i64 m,.int .i64 c,.int .i64 r,.int .i64 l,.int .i64 h] 24)) (.cells #[.int .u8 k1,.int .i64 a1,.int .i64 y1,.slice A1 n1 q1] 28)) (.cells #[.int .u8 k2,.int .i64 a2,.int .i64 y2,.slice A2 n2 q2] 28)
   refine (HB1.out _).mono ?_
   rintro e w1 ⟨v1,rfl,o1,b1⟩
   obtain ⟨P1,c1,rfl,_,r1⟩:=own_rd o1
   have C1:=C0.next b1
   have A1:=A0.next b1
   have D1:=D0.next b1
   have t1:=Ext.trans t0 b1
   have x1:=C1.cell
   have y1:=A1.cell
   have z1:=D1.cell
   clear C0 A0 D0 t0
   clear b1 o1
   go_wp2_with fail
   refine (HB2.out _).mono ?_
   rintro e w2 ⟨v2,rfl,o2,b2⟩
   obtain ⟨P2,c2,rfl,_,r2⟩:=own_rd o2
   have r1:=r1.below b2
   have C2:=C1.next b2
   have A2:=A1.next b2
   have D2:=D1.next b2
   have t2:=Ext.trans t1 b2
   have x2:=C2.cell
   have y2:=A2.cell
   have z2:=D2.cell
   clear C1 A1 D1 t1
   clear b2 o2 x1 y1 z1
   go_wp2_with fail
   refine (HO1.out _).mono ?_
   rintro e w3 ⟨rfl,b3⟩
   have r1:=r1.below b3
   have r2:=r2.below b3
   have C3:=C2.next b3
   have A3:=A2.next b3
   have D3:=D2.next b3
   have t3:=Ext.trans t2 b3
   have x3:=C3.cell
   have y3:=A3.cell
   have z3:=D3.cell
   clear C2 A2 D2 t2
   have l3:=D3.lt
   clear b3 x2 y2 z2
   go_wp2_with fail
   refine (HO2.out _).mono ?_
   rintro e w4 ⟨rfl,b4⟩
   have r1:=(r1.alloc _).below b4
   have r2:=(r2.alloc _).below b4
   have F4:=(BoxOf.new w3 #[.int .i64 mo1,.bool by1,.bool false] 114).next b4
   have t4:=Ext.trans (Ext.alloc t3 (.cells #[.int .i64 mo1,.bool by1,.bool false] 114)) b4
   have f4:=F4.cell
   have l4:=F4.lt
   have s4:=t4.size
   clear b4 x3 y3 z3 A3 C3 D3 t3 l3 F4
   go_wp2
   have m6:=World.ownsMap_made (w4.alloc (.cells #[.int .i64 mo2,.bool by2,.bool false] 114)) Try.prog 3 (plainElem (H:=Unit) Try.prog 3)
   rw [show (w4.alloc (.cells #[.int .i64 mo2,.bool by2,.bool false] 114)).heap.size = w4.heap.size + 1 by simp] at m6
   have t6:=Ext.alloc (Ext.alloc t4 (.cells #[.int .i64 mo2,.bool by2,.bool false] 114)) (.map #[] 0)
   have h6 : ((w4.alloc (.cells #[.int .i64 mo2,.bool by2,.bool false] 114)).alloc (.map #[] 0)).heap.size = w4.heap.size + 2:=by simp
   have UB6:=Ext.alloc (Ext.alloc (Below.refl w4.heap.size w4) (.cells #[.int .i64 mo2,.bool by2,.bool false] 114)) (.map #[] 0)
   generalize (w4.alloc (.cells #[.int .i64 mo2,.bool by2,.bool false] 114)).alloc (.map #[] 0) = w6 at m6 t6 h6 UB6 ⊢
   have r1:=rd_seq r1
   have r2:=rd_seq r2
   clear f4 l4 t4
   have hb1 : IsInt (a1 + 8) ∧ 0 ≤ a1:=⟨⟨by omega,by omega⟩,by omega⟩
   have hb2 : IsInt (a2 + 8) ∧ 0 ≤ a2:=⟨⟨by omega,by omega⟩,by omega⟩
   obtain ⟨ha1,ha1'⟩:=ha1
   obtain ⟨ha2,ha2'⟩:=ha2
   have r1 : y1 ≤ 0 ∨ _:=r1.imp (fun h=>Nat.le_of_eq h) (fun h=>h)
   have r2 : y2 ≤ 0 ∨ _:=r2.imp (fun h=>Nat.le_of_eq h) (fun h=>h)
   rcases r1 with hz1 | ⟨bb1,oo1,rfl,hc1⟩ <;> rcases r2 with hz2 | ⟨bb2,oo2,rfl,hc2⟩
   · go_loopw [18,60] (fun _ i wr=>∃ j : Nat,j ≤ y1 ∧ i = .int .i64 j ∧ wr.ownsMap Try.prog 3 (plainElem (H:=Unit) Try.prog 3) (w4.heap.size + 1) j (mapB a1 1 j) ∧ Below (w4.heap.size + 1) w6 wr) (fun _ i _=>y1 - (intOf i).toNat)
     case atStart=>exact ⟨0,Nat.zero_le _,rfl,m6,Below.refl _ _⟩
     case round=>
      obtain ⟨j,hj,rfl,hown,bj⟩:=hrel
      by_cases hlt : j < y1
      · exact absurd hlt (by omega)
      · have hjy : j = y1:=by omega
        have HJY:=Lib.hid hjy
        clear hjy
        go_wp2
        go_loop [20,70] (fun _ i=>∃ p : Nat,p ≤ y2 ∧ i = .int .i64 p ∧ (∀ q : Nat,q < p → ¬ ((1 : Int) = 2 ∧ a1 ≤ a2 + (q : Int) ∧ a2 + (q : Int) < a1 + (y1 : Nat)))) (fun _ i=>y2 - (intOf i).toNat)
        case atStart=>exact ⟨0,Nat.zero_le _,rfl,fun q hq=>by omega⟩
        case round=>
         obtain ⟨p,hp,rfl,hno⟩:=hrel
         have HNO:=Lib.hid hno
         clear hno
         by_cases hlt : p < y2
         · exact absurd hlt (by omega)
         · have hpe : p = y2:=by omega
           have HPE:=Lib.hid hpe
           have t7:=t6.trans (bj.mono (show w.heap.size ≤ w4.heap.size + 1 by omega))
           clear hpe
           go_wp2
           go_ret2
           refine ⟨ret_bool2 (a:=false) (HTB.out.trans ?_).symm 0,t7⟩
           first
            | rfl
            | exact decide_eq_false (fun h=>by
                   have e1:=HPE.out
                   by_cases hle : a1 ≤ a2
                   · exact HNO.out 0 (by omega) ⟨by simp,by omega,by omega⟩
                   · exact HNO.out (a1 - a2).toNat (by omega) ⟨by simp,by omega,by omega⟩)
   · go_loopw [18,60] (fun _ i wr=>∃ j : Nat,j ≤ y1 ∧ i = .int .i64 j ∧ wr.ownsMap Try.prog 3 (plainElem (H:=Unit) Try.prog 3) (w4.heap.size + 1) j (mapB a1 1 j) ∧ Below (w4.heap.size + 1) w6 wr) (fun _ i _=>y1 - (intOf i).toNat)
     case atStart=>exact ⟨0,Nat.zero_le _,rfl,m6,Below.refl _ _⟩
     case round=>
      obtain ⟨j,hj,rfl,hown,bj⟩:=hrel
      by_cases hlt : j < y1
      · exact absurd hlt (by omega)
      · have hjy : j = y1:=by omega
        have HJY:=Lib.hid hjy
        clear hjy
        go_wp2
        go_loop [20,70] (fun _ i=>∃ p : Nat,p ≤ y2 ∧ i = .int .i64 p ∧ (∀ q : Nat,q < p → ¬ ((1 : Int) = 2 ∧ a1 ≤ a2 + (q : Int) ∧ a2 + (q : Int) < a1 + (y1 : Nat)))) (fun _ i=>y2 - (intOf i).toNat)
        case atStart=>exact ⟨0,Nat.zero_le _,rfl,fun q hq=>by omega⟩
        case round=>
         obtain ⟨p,hp,rfl,hno⟩:=hrel
         have HNO:=Lib.hid hno
         clear hno
         by_cases hlt : p < y2
         · have hcc:=hc2 p hlt
           have hl2 : bb2 < w4.heap.size:=block_lt_of_cell hcc
           have q2:=(bj.cell (p:=⟨bb2,oo2 + p,none⟩) (by show bb2 < w4.heap.size + 1;omega)).trans ((UB6.cell (p:=⟨bb2,oo2 + p,none⟩) hl2).trans hcc)
           have hkey : keyOf Try.prog 3 (.int .i64 (a2 + (p : Int))) = some (.int .i64 (a2 + (p : Int))):=keyOf_int_mk Try.underlying3 (WalkArith.wf_i64 (by omega))
           have HK:=Lib.hid hkey
           have HM:=Lib.hid hown
           have t7:=t6.trans (bj.mono (show w.heap.size ≤ w4.heap.size + 1 by omega))
           clear hkey hown hcc
           by_cases hit : a1 ≤ a2 + (p : Int) ∧ a2 + (p : Int) < a1 + (j : Int)
           · have HIT:=Lib.hid hit
             clear hit
             go_wp2_with (at_lookup;go_loud (refine wpList_lookup_own_int _ rfl _ _ 117 rfl 3 3 .i64 lawI Try.underlying117 Try.underlying3 (zeroI _) (w4.heap.size + 1) j _ rfl HM.out _ _ rfl HK.out ?_;intro c hat hwc;have hcv:=mapB_hit hat HIT.out;subst hcv;clear hat hwc))
             first
                  | (go_ret2
                     exact ⟨ret_bool2 (a:=true) (HTB.out.trans (decide_eq_true (by have:=HIT.out;have:=HJY.out;omega))).symm 0,t7⟩)
                  | (go_round
                     case rel=>exact ⟨p + 1,by omega,by go_num,fun q hq h=>by
                      rcases (show q < p ∨ q = p by omega) with hq2 | hq2
                      · exact HNO.out q hq2 ⟨by first | trivial | rfl | exact h.1 | exact h.1.elim,h.2⟩
                      · omega⟩
                     case measure=>simp [intOf];omega)
           · have HIT:=Lib.hid hit
             clear hit
             go_wp2_with (at_lookup;go_loud (refine wpList_lookup_own_int _ rfl _ _ 117 rfl 3 3 .i64 lawI Try.underlying117 Try.underlying3 (zeroI _) (w4.heap.size + 1) j _ rfl HM.out _ _ rfl HK.out ?_;intro c hat hwc;have hcv:=mapB_miss hat HIT.out;subst hcv;clear hat hwc))
             go_round
             case rel=>exact ⟨p + 1,by omega,by go_num,fun q hq h=>by
                  rcases (show q < p ∨ q = p by omega) with hq2 | hq2
                  · exact HNO.out q hq2 ⟨by first | trivial | rfl | exact h.1 | exact h.1.elim,h.2⟩
                  · subst hq2
                    have:=HIT.out
                    have:=HJY.out
                    omega⟩
             case measure=>simp [intOf];omega
         · have hpe : p = y2:=by omega
           have HPE:=Lib.hid hpe
           have t7:=t6.trans (bj.mono (show w.heap.size ≤ w4.heap.size + 1 by omega))
           clear hpe
           go_wp2
           go_ret2
           refine ⟨ret_bool2 (a:=false) (HTB.out.trans ?_).symm 0,t7⟩
           first
            | rfl
            | exact decide_eq_false (fun h=>by
                   have e1:=HPE.out
                   by_cases hle : a1 ≤ a2
                   · exact HNO.out 0 (by omega) ⟨by simp,by omega,by omega⟩
                   · exact HNO.out (a1 - a2).toNat (by omega) ⟨by simp,by omega,by omega⟩)
   · go_loopw [18,60] (fun _ i wr=>∃ j : Nat,j ≤ y1 ∧ i = .int .i64 j ∧ wr.ownsMap Try.prog 3 (plainElem (H:=Unit) Try.prog 3) (w4.heap.size + 1) j (mapB a1 1 j) ∧ Below (w4.heap.size + 1) w6 wr) (fun _ i _=>y1 - (intOf i).toNat)
     case atStart=>exact ⟨0,Nat.zero_le _,rfl,m6,Below.refl _ _⟩
     case round=>
      obtain ⟨j,hj,rfl,hown,bj⟩:=hrel
      by_cases hlt : j < y1
      · have hcc:=hc1 j hlt
        have hl1 : bb1 < w4.heap.size:=block_lt_of_cell hcc
        have q1:=(bj.cell (p:=⟨bb1,oo1 + j,none⟩) (by show bb1 < w4.heap.size + 1;omega)).trans ((UB6.cell (p:=⟨bb1,oo1 + j,none⟩) hl1).trans hcc)
        have hkey : keyOf Try.prog 3 (.int .i64 (a1 + (j : Int))) = some (.int .i64 (a1 + (j : Int))):=keyOf_int_mk Try.underlying3 (WalkArith.wf_i64 (by omega))
        have HK:=Lib.hid hkey
        have HM:=Lib.hid hown
        have HJ:=Lib.hid bj
        clear hkey hown bj hcc
        go_wp2_with (at_mapUpdate;refine wpList_mapUpdate_own _ rfl _ _ _ 117 rfl 3 3 lawI Try.underlying117 _ (w4.heap.size + 1) j _ rfl HM.out (by unfold maxLen;omega) _ _ _ rfl rfl HK.out _ [] (plainElem_int Try.underlying3 (by decide)) ?_;intro w7 hown7 hg7)
        go_roundw
        case rel=>exact ⟨j + 1,by omega,by go_num,hown7,Below.grown HJ.out hg7 (by have:=HJ.out.size;omega) (fun k hk=>by cases hk;exact Nat.le_refl _)⟩
        case measure=>simp [intOf];omega
      · have hjy : j = y1:=by omega
        have HJY:=Lib.hid hjy
        clear hjy
        go_wp2
        go_loop [20,70] (fun _ i=>∃ p : Nat,p ≤ y2 ∧ i = .int .i64 p ∧ (∀ q : Nat,q < p → ¬ ((1 : Int) = 2 ∧ a1 ≤ a2 + (q : Int) ∧ a2 + (q : Int) < a1 + (y1 : Nat)))) (fun _ i=>y2 - (intOf i).toNat)
        case atStart=>exact ⟨0,Nat.zero_le _,rfl,fun q hq=>by omega⟩
        case round=>
         obtain ⟨p,hp,rfl,hno⟩:=hrel
         have HNO:=Lib.hid hno
         clear hno
         by_cases hlt : p < y2
         · exact absurd hlt (by omega)
         · have hpe : p = y2:=by omega
           have HPE:=Lib.hid hpe
           have t7:=t6.trans (bj.mono (show w.heap.size ≤ w4.heap.size + 1 by omega))
           clear hpe
           go_wp2
           go_ret2
           refine ⟨ret_bool2 (a:=false) (HTB.out.trans ?_).symm 0,t7⟩
           first
            | rfl
            | exact decide_eq_false (fun h=>by
                   have e1:=HPE.out
                   by_cases hle : a1 ≤ a2
                   · exact HNO.out 0 (by omega) ⟨by simp,by omega,by omega⟩
                   · exact HNO.out (a1 - a2).toNat (by omega) ⟨by simp,by omega,by omega⟩)
   · go_loopw [18,60] (fun _ i wr=>∃ j : Nat,j ≤ y1 ∧ i = .int .i64 j ∧ wr.ownsMap Try.prog 3 (plainElem (H:=Unit) Try.prog 3) (w4.heap.size + 1) j (mapB a1 1 j) ∧ Below (w4.heap.size + 1) w6 wr) (fun _ i _=>y1 - (intOf i).toNat)
     case atStart=>exact ⟨0,Nat.zero_le _,rfl,m6,Below.refl _ _⟩
     case round=>
      obtain ⟨j,hj,rfl,hown,bj⟩:=hrel
      by_cases hlt : j < y1
      · have hcc:=hc1 j hlt
        have hl1 : bb1 < w4.heap.size:=block_lt_of_cell hcc
        have q1:=(bj.cell (p:=⟨bb1,oo1 + j,none⟩) (by show bb1 < w4.heap.size + 1;omega)).trans ((UB6.cell (p:=⟨bb1,oo1 + j,none⟩) hl1).trans hcc)
        have hkey : keyOf Try.prog 3 (.int .i64 (a1 + (j : Int))) = some (.int .i64 (a1 + (j : Int))):=keyOf_int_mk Try.underlying3 (WalkArith.wf_i64 (by omega))
        have HK:=Lib.hid hkey
        have HM:=Lib.hid hown
        have HJ:=Lib.hid bj
        clear hkey hown bj hcc
        go_wp2_with (at_mapUpdate;refine wpList_mapUpdate_own _ rfl _ _ _ 117 rfl 3 3 lawI Try.underlying117 _ (w4.heap.size + 1) j _ rfl HM.out (by unfold maxLen;omega) _ _ _ rfl rfl HK.out _ [] (plainElem_int Try.underlying3 (by decide)) ?_;intro w7 hown7 hg7)
        go_roundw
        case rel=>exact ⟨j + 1,by omega,by go_num,hown7,Below.grown HJ.out hg7 (by have:=HJ.out.size;omega) (fun k hk=>by cases hk;exact Nat.le_refl _)⟩
        case measure=>simp [intOf];omega
      · have hjy : j = y1:=by omega
        have HJY:=Lib.hid hjy
        clear hjy
        go_wp2
        go_loop [20,70] (fun _ i=>∃ p : Nat,p ≤ y2 ∧ i = .int .i64 p ∧ (∀ q : Nat,q < p → ¬ ((1 : Int) = 2 ∧ a1 ≤ a2 + (q : Int) ∧ a2 + (q : Int) < a1 + (y1 : Nat)))) (fun _ i=>y2 - (intOf i).toNat)
        case atStart=>exact ⟨0,Nat.zero_le _,rfl,fun q hq=>by omega⟩
        case round=>
         obtain ⟨p,hp,rfl,hno⟩:=hrel
         have HNO:=Lib.hid hno
         clear hno
         by_cases hlt : p < y2
         · have hcc:=hc2 p hlt
           have hl2 : bb2 < w4.heap.size:=block_lt_of_cell hcc
           have q2:=(bj.cell (p:=⟨bb2,oo2 + p,none⟩) (by show bb2 < w4.heap.size + 1;omega)).trans ((UB6.cell (p:=⟨bb2,oo2 + p,none⟩) hl2).trans hcc)
           have hkey : keyOf Try.prog 3 (.int .i64 (a2 + (p : Int))) = some (.int .i64 (a2 + (p : Int))):=keyOf_int_mk Try.underlying3 (WalkArith.wf_i64 (by omega))
           have HK:=Lib.hid hkey
           have HM:=Lib.hid hown
           have t7:=t6.trans (bj.mono (show w.heap.size ≤ w4.heap.size + 1 by omega))
           clear hkey hown hcc
           by_cases hit : a1 ≤ a2 + (p : Int) ∧ a2 + (p : Int) < a1 + (j : Int)
           · have HIT:=Lib.hid hit
             clear hit
             go_wp2_with (at_lookup;go_loud (refine wpList_lookup_own_int _ rfl _ _ 117 rfl 3 3 .i64 lawI Try.underlying117 Try.underlying3 (zeroI _) (w4.heap.size + 1) j _ rfl HM.out _ _ rfl HK.out ?_;intro c hat hwc;have hcv:=mapB_hit hat HIT.out;subst hcv;clear hat hwc))
             first
                  | (go_ret2
                     exact ⟨ret_bool2 (a:=true) (HTB.out.trans (decide_eq_true (by have:=HIT.out;have:=HJY.out;omega))).symm 0,t7⟩)
                  | (go_round
                     case rel=>exact ⟨p + 1,by omega,by go_num,fun q hq h=>by
                      rcases (show q < p ∨ q = p by omega) with hq2 | hq2
                      · exact HNO.out q hq2 ⟨by first | trivial | rfl | exact h.1 | exact h.1.elim,h.2⟩
                      · omega⟩
                     case measure=>simp [intOf];omega)
           · have HIT:=Lib.hid hit
             clear hit
             go_wp2_with (at_lookup;go_loud (refine wpList_lookup_own_int _ rfl _ _ 117 rfl 3 3 .i64 lawI Try.underlying117 Try.underlying3 (zeroI _) (w4.heap.size + 1) j _ rfl HM.out _ _ rfl HK.out ?_;intro c hat hwc;have hcv:=mapB_miss hat HIT.out;subst hcv;clear hat hwc))
             go_round
             case rel=>exact ⟨p + 1,by omega,by go_num,fun q hq h=>by
                  rcases (show q < p ∨ q = p by omega) with hq2 | hq2
                  · exact HNO.out q hq2 ⟨by first | trivial | rfl | exact h.1 | exact h.1.elim,h.2⟩
                  · subst hq2
                    have:=HIT.out
                    have:=HJY.out
                    omega⟩
             case measure=>simp [intOf];omega
         · have hpe : p = y2:=by omega
           have HPE:=Lib.hid hpe
           have t7:=t6.trans (bj.mono (show w.heap.size ≤ w4.heap.size + 1 by omega))
           clear hpe
           go_wp2
           go_ret2
           refine ⟨ret_bool2 (a:=false) (HTB.out.trans ?_).symm 0,t7⟩
           first
            | rfl
            | exact decide_eq_false (fun h=>by
                   have e1:=HPE.out
                   by_cases hle : a1 ≤ a2
                   · exact HNO.out 0 (by omega) ⟨by simp,by omega,by omega⟩
                   · exact HNO.out (a1 - a2).toNat (by omega) ⟨by simp,by omega,by omega⟩)
 · simp only [Bool.or_false,Bool.false_or,Bool.or_true,Bool.true_or,Bool.false_and,Bool.true_and] at HTB
   go_enter Try.func29,Try.ntmps29
   go_wp2_with fail
   have C0:=BoxOf.alloc (BoxOf.alloc (BoxOf.new w #[.int .u32 (id : Int),.int .i64 m,.int .i64 c,.int .i64 r,.int .i64 l,.int .i64 h] 24) (.cells #[.int .u8 k1,.int .i64 a1,.int .i64 y1,.slice A1 n1 q1] 28)) (.cells #[.int .u8 k2,.int .i64 a2,.int .i64 y2,.slice A2 n2 q2] 28)
   have A0:=BoxOf.alloc (BoxOf.new' (w.alloc (.cells #[.int .u32 (id : Int),.int .i64 m,.int .i64 c,.int .i64 r,.int .i64 l,.int .i64 h] 24)) (w.heap.size + 1) #[.int .u8 k1,.int .i64 a1,.int .i64 y1,.slice A1 n1 q1] 28 (by simp)) (.cells #[.int .u8 k2,.int .i64 a2,.int .i64 y2,.slice A2 n2 q2] 28)
   have D0:=BoxOf.new' ((w.alloc (.cells #[.int .u32 (id : Int),.int .i64 m,.int .i64 c,.int .i64 r,.int .i64 l,.int .i64 h] 24)).alloc (.cells #[.int .u8 k1,.int .i64 a1,.int .i64 y1,.slice A1 n1 q1] 28)) (w.heap.size + 2) #[.int .u8 k2,.int .i64 a2,.int .i64 y2,.slice A2 n2 q2] 28 (by simp)
   have t0:=Ext.alloc (Ext.alloc (Ext.alloc (Below.refl w.heap.size w) (.cells #[.int .u32 (id : Int),.int .i64 m,.int .i64 c,.int .i64 r,.int .i64 l,.int .i64 h] 24)) (.cells #[.int .u8 k1,.int .i64 a1,.int .i64 y1,.slice A1 n1 q1] 28)) (.cells #[.int .u8 k2,.int .i64 a2,.int .i64 y2,.slice A2 n2 q2] 28)
   refine (HB1.out _).mono ?_
   rintro e w1 ⟨v1,rfl,o1,b1⟩
   obtain ⟨P1,c1,rfl,_,r1⟩:=own_rd o1
   have C1:=C0.next b1
   have A1:=A0.next b1
   have D1:=D0.next b1
   have t1:=Ext.trans t0 b1
   have x1:=C1.cell
   have y1:=A1.cell
   have z1:=D1.cell
   clear C0 A0 D0 t0
   clear b1 o1
   go_wp2_with fail
   refine (HB2.out _).mono ?_
   rintro e w2 ⟨v2,rfl,o2,b2⟩
   obtain ⟨P2,c2,rfl,_,r2⟩:=own_rd o2
   have r1:=r1.below b2
   have C2:=C1.next b2
   have A2:=A1.next b2
   have D2:=D1.next b2
   have t2:=Ext.trans t1 b2
   have x2:=C2.cell
   have y2:=A2.cell
   have z2:=D2.cell
   clear C1 A1 D1 t1
   clear b2 o2 x1 y1 z1
   go_wp2_with fail
   refine (HO1.out _).mono ?_
   rintro e w3 ⟨rfl,b3⟩
   have r1:=r1.below b3
   have r2:=r2.below b3
   have C3:=C2.next b3
   have A3:=A2.next b3
   have D3:=D2.next b3
   have t3:=Ext.trans t2 b3
   have x3:=C3.cell
   have y3:=A3.cell
   have z3:=D3.cell
   clear C2 A2 D2 t2
   have l3:=D3.lt
   clear b3 x2 y2 z2
   go_wp2_with fail
   refine (HO2.out _).mono ?_
   rintro e w4 ⟨rfl,b4⟩
   have r1:=(r1.alloc _).below b4
   have r2:=(r2.alloc _).below b4
   have F4:=(BoxOf.new w3 #[.int .i64 mo1,.bool by1,.bool false] 114).next b4
   have t4:=Ext.trans (Ext.alloc t3 (.cells #[.int .i64 mo1,.bool by1,.bool false] 114)) b4
   have f4:=F4.cell
   have l4:=F4.lt
   have s4:=t4.size
   clear b4 x3 y3 z3 A3 C3 D3 t3 l3 F4
   go_wp2
   have m6:=World.ownsMap_made (w4.alloc (.cells #[.int .i64 mo2,.bool by2,.bool true] 114)) Try.prog 3 (plainElem (H:=Unit) Try.prog 3)
   rw [show (w4.alloc (.cells #[.int .i64 mo2,.bool by2,.bool true] 114)).heap.size = w4.heap.size + 1 by simp] at m6
   have t6:=Ext.alloc (Ext.alloc t4 (.cells #[.int .i64 mo2,.bool by2,.bool true] 114)) (.map #[] 0)
   have h6 : ((w4.alloc (.cells #[.int .i64 mo2,.bool by2,.bool true] 114)).alloc (.map #[] 0)).heap.size = w4.heap.size + 2:=by simp
   have UB6:=Ext.alloc (Ext.alloc (Below.refl w4.heap.size w4) (.cells #[.int .i64 mo2,.bool by2,.bool true] 114)) (.map #[] 0)
   generalize (w4.alloc (.cells #[.int .i64 mo2,.bool by2,.bool true] 114)).alloc (.map #[] 0) = w6 at m6 t6 h6 UB6 ⊢
   have r1:=rd_seq r1
   have r2:=rd_seq r2
   clear f4 l4 t4
   have hb1 : IsInt (a1 + 8) ∧ 0 ≤ a1:=⟨⟨by omega,by omega⟩,by omega⟩
   have hb2 : IsInt (a2 + 8) ∧ 0 ≤ a2:=⟨⟨by omega,by omega⟩,by omega⟩
   obtain ⟨ha1,ha1'⟩:=ha1
   obtain ⟨ha2,ha2'⟩:=ha2
   have r1 : y1 ≤ 0 ∨ _:=r1.imp (fun h=>Nat.le_of_eq h) (fun h=>h)
   have r2 : y2 ≤ 0 ∨ _:=r2.imp (fun h=>Nat.le_of_eq h) (fun h=>h)
   rcases r1 with hz1 | ⟨bb1,oo1,rfl,hc1⟩ <;> rcases r2 with hz2 | ⟨bb2,oo2,rfl,hc2⟩
   · go_loopw [18,60] (fun _ i wr=>∃ j : Nat,j ≤ y1 ∧ i = .int .i64 j ∧ wr.ownsMap Try.prog 3 (plainElem (H:=Unit) Try.prog 3) (w4.heap.size + 1) j (mapB a1 2 j) ∧ Below (w4.heap.size + 1) w6 wr) (fun _ i _=>y1 - (intOf i).toNat)
     case atStart=>exact ⟨0,Nat.zero_le _,rfl,m6,Below.refl _ _⟩
     case round=>
      obtain ⟨j,hj,rfl,hown,bj⟩:=hrel
      by_cases hlt : j < y1
      · exact absurd hlt (by omega)
      · have hjy : j = y1:=by omega
        have HJY:=Lib.hid hjy
        clear hjy
        go_wp2
        go_loop [20,70] (fun _ i=>∃ p : Nat,p ≤ y2 ∧ i = .int .i64 p ∧ (∀ q : Nat,q < p → ¬ ((2 : Int) = 2 ∧ a1 ≤ a2 + (q : Int) ∧ a2 + (q : Int) < a1 + (y1 : Nat)))) (fun _ i=>y2 - (intOf i).toNat)
        case atStart=>exact ⟨0,Nat.zero_le _,rfl,fun q hq=>by omega⟩
        case round=>
         obtain ⟨p,hp,rfl,hno⟩:=hrel
         have HNO:=Lib.hid hno
         clear hno
         by_cases hlt : p < y2
         · exact absurd hlt (by omega)
         · have hpe : p = y2:=by omega
           have HPE:=Lib.hid hpe
           have t7:=t6.trans (bj.mono (show w.heap.size ≤ w4.heap.size + 1 by omega))
           clear hpe
           go_wp2
           go_ret2
           refine ⟨ret_bool2 (a:=false) (HTB.out.trans ?_).symm 0,t7⟩
           first
            | rfl
            | exact decide_eq_false (fun h=>by
                   have e1:=HPE.out
                   by_cases hle : a1 ≤ a2
                   · exact HNO.out 0 (by omega) ⟨by simp,by omega,by omega⟩
                   · exact HNO.out (a1 - a2).toNat (by omega) ⟨by simp,by omega,by omega⟩)
   · go_loopw [18,60] (fun _ i wr=>∃ j : Nat,j ≤ y1 ∧ i = .int .i64 j ∧ wr.ownsMap Try.prog 3 (plainElem (H:=Unit) Try.prog 3) (w4.heap.size + 1) j (mapB a1 2 j) ∧ Below (w4.heap.size + 1) w6 wr) (fun _ i _=>y1 - (intOf i).toNat)
     case atStart=>exact ⟨0,Nat.zero_le _,rfl,m6,Below.refl _ _⟩
     case round=>
      obtain ⟨j,hj,rfl,hown,bj⟩:=hrel
      by_cases hlt : j < y1
      · exact absurd hlt (by omega)
      · have hjy : j = y1:=by omega
        have HJY:=Lib.hid hjy
        clear hjy
        go_wp2
        go_loop [20,70] (fun _ i=>∃ p : Nat,p ≤ y2 ∧ i = .int .i64 p ∧ (∀ q : Nat,q < p → ¬ ((2 : Int) = 2 ∧ a1 ≤ a2 + (q : Int) ∧ a2 + (q : Int) < a1 + (y1 : Nat)))) (fun _ i=>y2 - (intOf i).toNat)
        case atStart=>exact ⟨0,Nat.zero_le _,rfl,fun q hq=>by omega⟩
        case round=>
         obtain ⟨p,hp,rfl,hno⟩:=hrel
         have HNO:=Lib.hid hno
         clear hno
         by_cases hlt : p < y2
         · have hcc:=hc2 p hlt
           have hl2 : bb2 < w4.heap.size:=block_lt_of_cell hcc
           have q2:=(bj.cell (p:=⟨bb2,oo2 + p,none⟩) (by show bb2 < w4.heap.size + 1;omega)).trans ((UB6.cell (p:=⟨bb2,oo2 + p,none⟩) hl2).trans hcc)
           have hkey : keyOf Try.prog 3 (.int .i64 (a2 + (p : Int))) = some (.int .i64 (a2 + (p : Int))):=keyOf_int_mk Try.underlying3 (WalkArith.wf_i64 (by omega))
           have HK:=Lib.hid hkey
           have HM:=Lib.hid hown
           have t7:=t6.trans (bj.mono (show w.heap.size ≤ w4.heap.size + 1 by omega))
           clear hkey hown hcc
           by_cases hit : a1 ≤ a2 + (p : Int) ∧ a2 + (p : Int) < a1 + (j : Int)
           · have HIT:=Lib.hid hit
             clear hit
             go_wp2_with (at_lookup;go_loud (refine wpList_lookup_own_int _ rfl _ _ 117 rfl 3 3 .i64 lawI Try.underlying117 Try.underlying3 (zeroI _) (w4.heap.size + 1) j _ rfl HM.out _ _ rfl HK.out ?_;intro c hat hwc;have hcv:=mapB_hit hat HIT.out;subst hcv;clear hat hwc))
             first
                  | (go_ret2
                     exact ⟨ret_bool2 (a:=true) (HTB.out.trans (decide_eq_true (by have:=HIT.out;have:=HJY.out;omega))).symm 0,t7⟩)
                  | (go_round
                     case rel=>exact ⟨p + 1,by omega,by go_num,fun q hq h=>by
                      rcases (show q < p ∨ q = p by omega) with hq2 | hq2
                      · exact HNO.out q hq2 ⟨by first | trivial | rfl | exact h.1 | exact h.1.elim,h.2⟩
                      · omega⟩
                     case measure=>simp [intOf];omega)
           · have HIT:=Lib.hid hit
             clear hit
             go_wp2_with (at_lookup;go_loud (refine wpList_lookup_own_int _ rfl _ _ 117 rfl 3 3 .i64 lawI Try.underlying117 Try.underlying3 (zeroI _) (w4.heap.size + 1) j _ rfl HM.out _ _ rfl HK.out ?_;intro c hat hwc;have hcv:=mapB_miss hat HIT.out;subst hcv;clear hat hwc))
             go_round
             case rel=>exact ⟨p + 1,by omega,by go_num,fun q hq h=>by
                  rcases (show q < p ∨ q = p by omega) with hq2 | hq2
                  · exact HNO.out q hq2 ⟨by first | trivial | rfl | exact h.1 | exact h.1.elim,h.2⟩
                  · subst hq2
                    have:=HIT.out
                    have:=HJY.out
                    omega⟩
             case measure=>simp [intOf];omega
         · have hpe : p = y2:=by omega
           have HPE:=Lib.hid hpe
           have t7:=t6.trans (bj.mono (show w.heap.size ≤ w4.heap.size + 1 by omega))
           clear hpe
           go_wp2
           go_ret2
           refine ⟨ret_bool2 (a:=false) (HTB.out.trans ?_).symm 0,t7⟩
           first
            | rfl
            | exact decide_eq_false (fun h=>by
                   have e1:=HPE.out
                   by_cases hle : a1 ≤ a2
                   · exact HNO.out 0 (by omega) ⟨by simp,by omega,by omega⟩
                   · exact HNO.out (a1 - a2).toNat (by omega) ⟨by simp,by omega,by omega⟩)
   · go_loopw [18,60] (fun _ i wr=>∃ j : Nat,j ≤ y1 ∧ i = .int .i64 j ∧ wr.ownsMap Try.prog 3 (plainElem (H:=Unit) Try.prog 3) (w4.heap.size + 1) j (mapB a1 2 j) ∧ Below (w4.heap.size + 1) w6 wr) (fun _ i _=>y1 - (intOf i).toNat)
     case atStart=>exact ⟨0,Nat.zero_le _,rfl,m6,Below.refl _ _⟩
     case round=>
      obtain ⟨j,hj,rfl,hown,bj⟩:=hrel
      by_cases hlt : j < y1
      · have hcc:=hc1 j hlt
        have hl1 : bb1 < w4.heap.size:=block_lt_of_cell hcc
        have q1:=(bj.cell (p:=⟨bb1,oo1 + j,none⟩) (by show bb1 < w4.heap.size + 1;omega)).trans ((UB6.cell (p:=⟨bb1,oo1 + j,none⟩) hl1).trans hcc)
        have hkey : keyOf Try.prog 3 (.int .i64 (a1 + (j : Int))) = some (.int .i64 (a1 + (j : Int))):=keyOf_int_mk Try.underlying3 (WalkArith.wf_i64 (by omega))
        have HK:=Lib.hid hkey
        have HM:=Lib.hid hown
        have HJ:=Lib.hid bj
        clear hkey hown bj hcc
        go_wp2_with (at_mapUpdate;refine wpList_mapUpdate_own _ rfl _ _ _ 117 rfl 3 3 lawI Try.underlying117 _ (w4.heap.size + 1) j _ rfl HM.out (by unfold maxLen;omega) _ _ _ rfl rfl HK.out _ [] (plainElem_int Try.underlying3 (by decide)) ?_;intro w7 hown7 hg7)
        go_roundw
        case rel=>exact ⟨j + 1,by omega,by go_num,hown7,Below.grown HJ.out hg7 (by have:=HJ.out.size;omega) (fun k hk=>by cases hk;exact Nat.le_refl _)⟩
        case measure=>simp [intOf];omega
      · have hjy : j = y1:=by omega
        have HJY:=Lib.hid hjy
        clear hjy
        go_wp2
        go_loop [20,70] (fun _ i=>∃ p : Nat,p ≤ y2 ∧ i = .int .i64 p ∧ (∀ q : Nat,q < p → ¬ ((2 : Int) = 2 ∧ a1 ≤ a2 + (q : Int) ∧ a2 + (q : Int) < a1 + (y1 : Nat)))) (fun _ i=>y2 - (intOf i).toNat)
        case atStart=>exact ⟨0,Nat.zero_le _,rfl,fun q hq=>by omega⟩
        case round=>
         obtain ⟨p,hp,rfl,hno⟩:=hrel
         have HNO:=Lib.hid hno
         clear hno
         by_cases hlt : p < y2
         · exact absurd hlt (by omega)
         · have hpe : p = y2:=by omega
           have HPE:=Lib.hid hpe
           have t7:=t6.trans (bj.mono (show w.heap.size ≤ w4.heap.size + 1 by omega))
           clear hpe
           go_wp2
           go_ret2
           refine ⟨ret_bool2 (a:=false) (HTB.out.trans ?_).symm 0,t7⟩
           first
            | rfl
            | exact decide_eq_false (fun h=>by
                   have e1:=HPE.out
                   by_cases hle : a1 ≤ a2
                   · exact HNO.out 0 (by omega) ⟨by simp,by omega,by omega⟩
                   · exact HNO.out (a1 - a2).toNat (by omega) ⟨by simp,by omega,by omega⟩)
   · go_loopw [18,60] (fun _ i wr=>∃ j : Nat,j ≤ y1 ∧ i = .int .i64 j ∧ wr.ownsMap Try.prog 3 (plainElem (H:=Unit) Try.prog 3) (w4.heap.size + 1) j (mapB a1 2 j) ∧ Below (w4.heap.size + 1) w6 wr) (fun _ i _=>y1 - (intOf i).toNat)
     case atStart=>exact ⟨0,Nat.zero_le _,rfl,m6,Below.refl _ _⟩
     case round=>
      obtain ⟨j,hj,rfl,hown,bj⟩:=hrel
      by_cases hlt : j < y1
      · have hcc:=hc1 j hlt
        have hl1 : bb1 < w4.heap.size:=block_lt_of_cell hcc
        have q1:=(bj.cell (p:=⟨bb1,oo1 + j,none⟩) (by show bb1 < w4.heap.size + 1;omega)).trans ((UB6.cell (p:=⟨bb1,oo1 + j,none⟩) hl1).trans hcc)
        have hkey : keyOf Try.prog 3 (.int .i64 (a1 + (j : Int))) = some (.int .i64 (a1 + (j : Int))):=keyOf_int_mk Try.underlying3 (WalkArith.wf_i64 (by omega))
        have HK:=Lib.hid hkey
        have HM:=Lib.hid hown
        have HJ:=Lib.hid bj
        clear hkey hown bj hcc
        go_wp2_with (at_mapUpdate;refine wpList_mapUpdate_own _ rfl _ _ _ 117 rfl 3 3 lawI Try.underlying117 _ (w4.heap.size + 1) j _ rfl HM.out (by unfold maxLen;omega) _ _ _ rfl rfl HK.out _ [] (plainElem_int Try.underlying3 (by decide)) ?_;intro w7 hown7 hg7)
        go_roundw
        case rel=>exact ⟨j + 1,by omega,by go_num,hown7,Below.grown HJ.out hg7 (by have:=HJ.out.size;omega) (fun k hk=>by cases hk;exact Nat.le_refl _)⟩
        case measure=>simp [intOf];omega
      · have hjy : j = y1:=by omega
        have HJY:=Lib.hid hjy
        clear hjy
        go_wp2
        go_loop [20,70] (fun _ i=>∃ p : Nat,p ≤ y2 ∧ i = .int .i64 p ∧ (∀ q : Nat,q < p → ¬ ((2 : Int) = 2 ∧ a1 ≤ a2 + (q : Int) ∧ a2 + (q : Int) < a1 + (y1 : Nat)))) (fun _ i=>y2 - (intOf i).toNat)
        case atStart=>exact ⟨0,Nat.zero_le _,rfl,fun q hq=>by omega⟩
        case round=>
         obtain ⟨p,hp,rfl,hno⟩:=hrel
         have HNO:=Lib.hid hno
         clear hno
         by_cases hlt : p < y2
         · have hcc:=hc2 p hlt
           have hl2 : bb2 < w4.heap.size:=block_lt_of_cell hcc
           have q2:=(bj.cell (p:=⟨bb2,oo2 + p,none⟩) (by show bb2 < w4.heap.size + 1;omega)).trans ((UB6.cell (p:=⟨bb2,oo2 + p,none⟩) hl2).trans hcc)
           have hkey : keyOf Try.prog 3 (.int .i64 (a2 + (p : Int))) = some (.int .i64 (a2 + (p : Int))):=keyOf_int_mk Try.underlying3 (WalkArith.wf_i64 (by omega))
           have HK:=Lib.hid hkey
           have HM:=Lib.hid hown
           have t7:=t6.trans (bj.mono (show w.heap.size ≤ w4.heap.size + 1 by omega))
           clear hkey hown hcc
           by_cases hit : a1 ≤ a2 + (p : Int) ∧ a2 + (p : Int) < a1 + (j : Int)
           · have HIT:=Lib.hid hit
             clear hit
             go_wp2_with (at_lookup;go_loud (refine wpList_lookup_own_int _ rfl _ _ 117 rfl 3 3 .i64 lawI Try.underlying117 Try.underlying3 (zeroI _) (w4.heap.size + 1) j _ rfl HM.out _ _ rfl HK.out ?_;intro c hat hwc;have hcv:=mapB_hit hat HIT.out;subst hcv;clear hat hwc))
             first
                  | (go_ret2
                     exact ⟨ret_bool2 (a:=true) (HTB.out.trans (decide_eq_true (by have:=HIT.out;have:=HJY.out;omega))).symm 0,t7⟩)
                  | (go_round
                     case rel=>exact ⟨p + 1,by omega,by go_num,fun q hq h=>by
                      rcases (show q < p ∨ q = p by omega) with hq2 | hq2
                      · exact HNO.out q hq2 ⟨by first | trivial | rfl | exact h.1 | exact h.1.elim,h.2⟩
                      · omega⟩
                     case measure=>simp [intOf];omega)
           · have HIT:=Lib.hid hit
             clear hit
             go_wp2_with (at_lookup;go_loud (refine wpList_lookup_own_int _ rfl _ _ 117 rfl 3 3 .i64 lawI Try.underlying117 Try.underlying3 (zeroI _) (w4.heap.size + 1) j _ rfl HM.out _ _ rfl HK.out ?_;intro c hat hwc;have hcv:=mapB_miss hat HIT.out;subst hcv;clear hat hwc))
             go_round
             case rel=>exact ⟨p + 1,by omega,by go_num,fun q hq h=>by
                  rcases (show q < p ∨ q = p by omega) with hq2 | hq2
                  · exact HNO.out q hq2 ⟨by first | trivial | rfl | exact h.1 | exact h.1.elim,h.2⟩
                  · subst hq2
                    have:=HIT.out
                    have:=HJY.out
                    omega⟩
             case measure=>simp [intOf];omega
         · have hpe : p = y2:=by omega
           have HPE:=Lib.hid hpe
           have t7:=t6.trans (bj.mono (show w.heap.size ≤ w4.heap.size + 1 by omega))
           clear hpe
           go_wp2
           go_ret2
           refine ⟨ret_bool2 (a:=false) (HTB.out.trans ?_).symm 0,t7⟩
           first
            | rfl
            | exact decide_eq_false (fun h=>by
                   have e1:=HPE.out
                   by_cases hle : a1 ≤ a2
                   · exact HNO.out 0 (by omega) ⟨by simp,by omega,by omega⟩
                   · exact HNO.out (a1 - a2).toNat (by omega) ⟨by simp,by omega,by omega⟩)
 · simp only [Bool.or_false,Bool.false_or,Bool.or_true,Bool.true_or,Bool.false_and,Bool.true_and] at HTB
   go_enter Try.func29,Try.ntmps29
   go_wp2_with fail
   have C0:=BoxOf.alloc (BoxOf.alloc (BoxOf.new w #[.int .u32 (id : Int),.int .i64 m,.int .i64 c,.int .i64 r,.int .i64 l,.int .i64 h] 24) (.cells #[.int .u8 k1,.int .i64 a1,.int .i64 y1,.slice A1 n1 q1] 28)) (.cells #[.int .u8 k2,.int .i64 a2,.int .i64 y2,.slice A2 n2 q2] 28)
   have A0:=BoxOf.alloc (BoxOf.new' (w.alloc (.cells #[.int .u32 (id : Int),.int .i64 m,.int .i64 c,.int .i64 r,.int .i64 l,.int .i64 h] 24)) (w.heap.size + 1) #[.int .u8 k1,.int .i64 a1,.int .i64 y1,.slice A1 n1 q1] 28 (by simp)) (.cells #[.int .u8 k2,.int .i64 a2,.int .i64 y2,.slice A2 n2 q2] 28)
   have D0:=BoxOf.new' ((w.alloc (.cells #[.int .u32 (id : Int),.int .i64 m,.int .i64 c,.int .i64 r,.int .i64 l,.int .i64 h] 24)).alloc (.cells #[.int .u8 k1,.int .i64 a1,.int .i64 y1,.slice A1 n1 q1] 28)) (w.heap.size + 2) #[.int .u8 k2,.int .i64 a2,.int .i64 y2,.slice A2 n2 q2] 28 (by simp)
   have t0:=Ext.alloc (Ext.alloc (Ext.alloc (Below.refl w.heap.size w) (.cells #[.int .u32 (id : Int),.int .i64 m,.int .i64 c,.int .i64 r,.int .i64 l,.int .i64 h] 24)) (.cells #[.int .u8 k1,.int .i64 a1,.int .i64 y1,.slice A1 n1 q1] 28)) (.cells #[.int .u8 k2,.int .i64 a2,.int .i64 y2,.slice A2 n2 q2] 28)
   refine (HB1.out _).mono ?_
   rintro e w1 ⟨v1,rfl,o1,b1⟩
   obtain ⟨P1,c1,rfl,_,r1⟩:=own_rd o1
   have C1:=C0.next b1
   have A1:=A0.next b1
   have D1:=D0.next b1
   have t1:=Ext.trans t0 b1
   have x1:=C1.cell
   have y1:=A1.cell
   have z1:=D1.cell
   clear C0 A0 D0 t0
   clear b1 o1
   go_wp2_with fail
   refine (HB2.out _).mono ?_
   rintro e w2 ⟨v2,rfl,o2,b2⟩
   obtain ⟨P2,c2,rfl,_,r2⟩:=own_rd o2
   have r1:=r1.below b2
   have C2:=C1.next b2
   have A2:=A1.next b2
   have D2:=D1.next b2
   have t2:=Ext.trans t1 b2
   have x2:=C2.cell
   have y2:=A2.cell
   have z2:=D2.cell
   clear C1 A1 D1 t1
   clear b2 o2 x1 y1 z1
   go_wp2_with fail
   refine (HO1.out _).mono ?_
   rintro e w3 ⟨rfl,b3⟩
   have r1:=r1.below b3
   have r2:=r2.below b3
   have C3:=C2.next b3
   have A3:=A2.next b3
   have D3:=D2.next b3
   have t3:=Ext.trans t2 b3
   have x3:=C3.cell
   have y3:=A3.cell
   have z3:=D3.cell
   clear C2 A2 D2 t2
   have l3:=D3.lt
   clear b3 x2 y2 z2
   go_wp2_with fail
   refine (HO2.out _).mono ?_
   rintro e w4 ⟨rfl,b4⟩
   have r1:=(r1.alloc _).below b4
   have r2:=(r2.alloc _).below b4
   have F4:=(BoxOf.new w3 #[.int .i64 mo1,.bool by1,.bool true] 114).next b4
   have t4:=Ext.trans (Ext.alloc t3 (.cells #[.int .i64 mo1,.bool by1,.bool true] 114)) b4
   have f4:=F4.cell
   have l4:=F4.lt
   have s4:=t4.size
   clear b4 x3 y3 z3 A3 C3 D3 t3 l3 F4
   go_wp2
   have m6:=World.ownsMap_made (w4.alloc (.cells #[.int .i64 mo2,.bool by2,.bool false] 114)) Try.prog 3 (plainElem (H:=Unit) Try.prog 3)
   rw [show (w4.alloc (.cells #[.int .i64 mo2,.bool by2,.bool false] 114)).heap.size = w4.heap.size + 1 by simp] at m6
   have t6:=Ext.alloc (Ext.alloc t4 (.cells #[.int .i64 mo2,.bool by2,.bool false] 114)) (.map #[] 0)
   have h6 : ((w4.alloc (.cells #[.int .i64 mo2,.bool by2,.bool false] 114)).alloc (.map #[] 0)).heap.size = w4.heap.size + 2:=by simp
   have UB6:=Ext.alloc (Ext.alloc (Below.refl w4.heap.size w4) (.cells #[.int .i64 mo2,.bool by2,.bool false] 114)) (.map #[] 0)
   generalize (w4.alloc (.cells #[.int .i64 mo2,.bool by2,.bool false] 114)).alloc (.map #[] 0) = w6 at m6 t6 h6 UB6 ⊢
   have r1:=rd_seq r1
   have r2:=rd_seq r2
   clear f4 l4 t4
   have hb1 : IsInt (a1 + 8) ∧ 0 ≤ a1:=⟨⟨by omega,by omega⟩,by omega⟩
   have hb2 : IsInt (a2 + 8) ∧ 0 ≤ a2:=⟨⟨by omega,by omega⟩,by omega⟩
   obtain ⟨ha1,ha1'⟩:=ha1
   obtain ⟨ha2,ha2'⟩:=ha2
   have r1 : y1 ≤ 0 ∨ _:=r1.imp (fun h=>Nat.le_of_eq h) (fun h=>h)
   have r2 : y2 ≤ 0 ∨ _:=r2.imp (fun h=>Nat.le_of_eq h) (fun h=>h)
   rcases r1 with hz1 | ⟨bb1,oo1,rfl,hc1⟩ <;> rcases r2 with hz2 | ⟨bb2,oo2,rfl,hc2⟩
   · go_loopw [18,60] (fun _ i wr=>∃ j : Nat,j ≤ y1 ∧ i = .int .i64 j ∧ wr.ownsMap Try.prog 3 (plainElem (H:=Unit) Try.prog 3) (w4.heap.size + 1) j (mapB a1 2 j) ∧ Below (w4.heap.size + 1) w6 wr) (fun _ i _=>y1 - (intOf i).toNat)
     case atStart=>exact ⟨0,Nat.zero_le _,rfl,m6,Below.refl _ _⟩
     case round=>
      obtain ⟨j,hj,rfl,hown,bj⟩:=hrel
      by_cases hlt : j < y1
      · exact absurd hlt (by omega)
      · have hjy : j = y1:=by omega
        have HJY:=Lib.hid hjy
        clear hjy
        go_wp2
        go_loop [20,70] (fun _ i=>∃ p : Nat,p ≤ y2 ∧ i = .int .i64 p ∧ (∀ q : Nat,q < p → ¬ ((2 : Int) = 2 ∧ a1 ≤ a2 + (q : Int) ∧ a2 + (q : Int) < a1 + (y1 : Nat)))) (fun _ i=>y2 - (intOf i).toNat)
        case atStart=>exact ⟨0,Nat.zero_le _,rfl,fun q hq=>by omega⟩
        case round=>
         obtain ⟨p,hp,rfl,hno⟩:=hrel
         have HNO:=Lib.hid hno
         clear hno
         by_cases hlt : p < y2
         · exact absurd hlt (by omega)
         · have hpe : p = y2:=by omega
           have HPE:=Lib.hid hpe
           have t7:=t6.trans (bj.mono (show w.heap.size ≤ w4.heap.size + 1 by omega))
           clear hpe
           go_wp2
           go_ret2
           refine ⟨ret_bool2 (a:=false) (HTB.out.trans ?_).symm 0,t7⟩
           first
            | rfl
            | exact decide_eq_false (fun h=>by
                   have e1:=HPE.out
                   by_cases hle : a1 ≤ a2
                   · exact HNO.out 0 (by omega) ⟨by simp,by omega,by omega⟩
                   · exact HNO.out (a1 - a2).toNat (by omega) ⟨by simp,by omega,by omega⟩)
   · go_loopw [18,60] (fun _ i wr=>∃ j : Nat,j ≤ y1 ∧ i = .int .i64 j ∧ wr.ownsMap Try.prog 3 (plainElem (H:=Unit) Try.prog 3) (w4.heap.size + 1) j (mapB a1 2 j) ∧ Below (w4.heap.size + 1) w6 wr) (fun _ i _=>y1 - (intOf i).toNat)
     case atStart=>exact ⟨0,Nat.zero_le _,rfl,m6,Below.refl _ _⟩
     case round=>
      obtain ⟨j,hj,rfl,hown,bj⟩:=hrel
      by_cases hlt : j < y1
      · exact absurd hlt (by omega)
      · have hjy : j = y1:=by omega
        have HJY:=Lib.hid hjy
        clear hjy
        go_wp2
        go_loop [20,70] (fun _ i=>∃ p : Nat,p ≤ y2 ∧ i = .int .i64 p ∧ (∀ q : Nat,q < p → ¬ ((2 : Int) = 2 ∧ a1 ≤ a2 + (q : Int) ∧ a2 + (q : Int) < a1 + (y1 : Nat)))) (fun _ i=>y2 - (intOf i).toNat)
        case atStart=>exact ⟨0,Nat.zero_le _,rfl,fun q hq=>by omega⟩
        case round=>
         obtain ⟨p,hp,rfl,hno⟩:=hrel
         have HNO:=Lib.hid hno
         clear hno
         by_cases hlt : p < y2
         · have hcc:=hc2 p hlt
           have hl2 : bb2 < w4.heap.size:=block_lt_of_cell hcc
           have q2:=(bj.cell (p:=⟨bb2,oo2 + p,none⟩) (by show bb2 < w4.heap.size + 1;omega)).trans ((UB6.cell (p:=⟨bb2,oo2 + p,none⟩) hl2).trans hcc)
           have hkey : keyOf Try.prog 3 (.int .i64 (a2 + (p : Int))) = some (.int .i64 (a2 + (p : Int))):=keyOf_int_mk Try.underlying3 (WalkArith.wf_i64 (by omega))
           have HK:=Lib.hid hkey
           have HM:=Lib.hid hown
           have t7:=t6.trans (bj.mono (show w.heap.size ≤ w4.heap.size + 1 by omega))
           clear hkey hown hcc
           by_cases hit : a1 ≤ a2 + (p : Int) ∧ a2 + (p : Int) < a1 + (j : Int)
           · have HIT:=Lib.hid hit
             clear hit
             go_wp2_with (at_lookup;go_loud (refine wpList_lookup_own_int _ rfl _ _ 117 rfl 3 3 .i64 lawI Try.underlying117 Try.underlying3 (zeroI _) (w4.heap.size + 1) j _ rfl HM.out _ _ rfl HK.out ?_;intro c hat hwc;have hcv:=mapB_hit hat HIT.out;subst hcv;clear hat hwc))
             first
                  | (go_ret2
                     exact ⟨ret_bool2 (a:=true) (HTB.out.trans (decide_eq_true (by have:=HIT.out;have:=HJY.out;omega))).symm 0,t7⟩)
                  | (go_round
                     case rel=>exact ⟨p + 1,by omega,by go_num,fun q hq h=>by
                      rcases (show q < p ∨ q = p by omega) with hq2 | hq2
                      · exact HNO.out q hq2 ⟨by first | trivial | rfl | exact h.1 | exact h.1.elim,h.2⟩
                      · omega⟩
                     case measure=>simp [intOf];omega)
           · have HIT:=Lib.hid hit
             clear hit
             go_wp2_with (at_lookup;go_loud (refine wpList_lookup_own_int _ rfl _ _ 117 rfl 3 3 .i64 lawI Try.underlying117 Try.underlying3 (zeroI _) (w4.heap.size + 1) j _ rfl HM.out _ _ rfl HK.out ?_;intro c hat hwc;have hcv:=mapB_miss hat HIT.out;subst hcv;clear hat hwc))
             go_round
             case rel=>exact ⟨p + 1,by omega,by go_num,fun q hq h=>by
                  rcases (show q < p ∨ q = p by omega) with hq2 | hq2
                  · exact HNO.out q hq2 ⟨by first | trivial | rfl | exact h.1 | exact h.1.elim,h.2⟩
                  · subst hq2
                    have:=HIT.out
                    have:=HJY.out
                    omega⟩
             case measure=>simp [intOf];omega
         · have hpe : p = y2:=by omega
           have HPE:=Lib.hid hpe
           have t7:=t6.trans (bj.mono (show w.heap.size ≤ w4.heap.size + 1 by omega))
           clear hpe
           go_wp2
           go_ret2
           refine ⟨ret_bool2 (a:=false) (HTB.out.trans ?_).symm 0,t7⟩
           first
            | rfl
            | exact decide_eq_false (fun h=>by
                   have e1:=HPE.out
                   by_cases hle : a1 ≤ a2
                   · exact HNO.out 0 (by omega) ⟨by simp,by omega,by omega⟩
                   · exact HNO.out (a1 - a2).toNat (by omega) ⟨by simp,by omega,by omega⟩)
   · go_loopw [18,60] (fun _ i wr=>∃ j : Nat,j ≤ y1 ∧ i = .int .i64 j ∧ wr.ownsMap Try.prog 3 (plainElem (H:=Unit) Try.prog 3) (w4.heap.size + 1) j (mapB a1 2 j) ∧ Below (w4.heap.size + 1) w6 wr) (fun _ i _=>y1 - (intOf i).toNat)
     case atStart=>exact ⟨0,Nat.zero_le _,rfl,m6,Below.refl _ _⟩
     case round=>
      obtain ⟨j,hj,rfl,hown,bj⟩:=hrel
      by_cases hlt : j < y1
      · have hcc:=hc1 j hlt
        have hl1 : bb1 < w4.heap.size:=block_lt_of_cell hcc
        have q1:=(bj.cell (p:=⟨bb1,oo1 + j,none⟩) (by show bb1 < w4.heap.size + 1;omega)).trans ((UB6.cell (p:=⟨bb1,oo1 + j,none⟩) hl1).trans hcc)
        have hkey : keyOf Try.prog 3 (.int .i64 (a1 + (j : Int))) = some (.int .i64 (a1 + (j : Int))):=keyOf_int_mk Try.underlying3 (WalkArith.wf_i64 (by omega))
        have HK:=Lib.hid hkey
        have HM:=Lib.hid hown
        have HJ:=Lib.hid bj
        clear hkey hown bj hcc
        go_wp2_with (at_mapUpdate;refine wpList_mapUpdate_own _ rfl _ _ _ 117 rfl 3 3 lawI Try.underlying117 _ (w4.heap.size + 1) j _ rfl HM.out (by unfold maxLen;omega) _ _ _ rfl rfl HK.out _ [] (plainElem_int Try.underlying3 (by decide)) ?_;intro w7 hown7 hg7)
        go_roundw
        case rel=>exact ⟨j + 1,by omega,by go_num,hown7,Below.grown HJ.out hg7 (by have:=HJ.out.size;omega) (fun k hk=>by cases hk;exact Nat.le_refl _)⟩
        case measure=>simp [intOf];omega
      · have hjy : j = y1:=by omega
        have HJY:=Lib.hid hjy
        clear hjy
        go_wp2
        go_loop [20,70] (fun _ i=>∃ p : Nat,p ≤ y2 ∧ i = .int .i64 p ∧ (∀ q : Nat,q < p → ¬ ((2 : Int) = 2 ∧ a1 ≤ a2 + (q : Int) ∧ a2 + (q : Int) < a1 + (y1 : Nat)))) (fun _ i=>y2 - (intOf i).toNat)
        case atStart=>exact ⟨0,Nat.zero_le _,rfl,fun q hq=>by omega⟩
        case round=>
         obtain ⟨p,hp,rfl,hno⟩:=hrel
         have HNO:=Lib.hid hno
         clear hno
         by_cases hlt : p < y2
         · exact absurd hlt (by omega)
         · have hpe : p = y2:=by omega
           have HPE:=Lib.hid hpe
           have t7:=t6.trans (bj.mono (show w.heap.size ≤ w4.heap.size + 1 by omega))
           clear hpe
           go_wp2
           go_ret2
           refine ⟨ret_bool2 (a:=false) (HTB.out.trans ?_).symm 0,t7⟩
           first
            | rfl
            | exact decide_eq_false (fun h=>by
                   have e1:=HPE.out
                   by_cases hle : a1 ≤ a2
                   · exact HNO.out 0 (by omega) ⟨by simp,by omega,by omega⟩
                   · exact HNO.out (a1 - a2).toNat (by omega) ⟨by simp,by omega,by omega⟩)
   · go_loopw [18,60] (fun _ i wr=>∃ j : Nat,j ≤ y1 ∧ i = .int .i64 j ∧ wr.ownsMap Try.prog 3 (plainElem (H:=Unit) Try.prog 3) (w4.heap.size + 1) j (mapB a1 2 j) ∧ Below (w4.heap.size + 1) w6 wr) (fun _ i _=>y1 - (intOf i).toNat)
     case atStart=>exact ⟨0,Nat.zero_le _,rfl,m6,Below.refl _ _⟩
     case round=>
      obtain ⟨j,hj,rfl,hown,bj⟩:=hrel
      by_cases hlt : j < y1
      · have hcc:=hc1 j hlt
        have hl1 : bb1 < w4.heap.size:=block_lt_of_cell hcc
        have q1:=(bj.cell (p:=⟨bb1,oo1 + j,none⟩) (by show bb1 < w4.heap.size + 1;omega)).trans ((UB6.cell (p:=⟨bb1,oo1 + j,none⟩) hl1).trans hcc)
        have hkey : keyOf Try.prog 3 (.int .i64 (a1 + (j : Int))) = some (.int .i64 (a1 + (j : Int))):=keyOf_int_mk Try.underlying3 (WalkArith.wf_i64 (by omega))
        have HK:=Lib.hid hkey
        have HM:=Lib.hid hown
        have HJ:=Lib.hid bj
        clear hkey hown bj hcc
        go_wp2_with (at_mapUpdate;refine wpList_mapUpdate_own _ rfl _ _ _ 117 rfl 3 3 lawI Try.underlying117 _ (w4.heap.size + 1) j _ rfl HM.out (by unfold maxLen;omega) _ _ _ rfl rfl HK.out _ [] (plainElem_int Try.underlying3 (by decide)) ?_;intro w7 hown7 hg7)
        go_roundw
        case rel=>exact ⟨j + 1,by omega,by go_num,hown7,Below.grown HJ.out hg7 (by have:=HJ.out.size;omega) (fun k hk=>by cases hk;exact Nat.le_refl _)⟩
        case measure=>simp [intOf];omega
      · have hjy : j = y1:=by omega
        have HJY:=Lib.hid hjy
        clear hjy
        go_wp2
        go_loop [20,70] (fun _ i=>∃ p : Nat,p ≤ y2 ∧ i = .int .i64 p ∧ (∀ q : Nat,q < p → ¬ ((2 : Int) = 2 ∧ a1 ≤ a2 + (q : Int) ∧ a2 + (q : Int) < a1 + (y1 : Nat)))) (fun _ i=>y2 - (intOf i).toNat)
        case atStart=>exact ⟨0,Nat.zero_le _,rfl,fun q hq=>by omega⟩
        case round=>
         obtain ⟨p,hp,rfl,hno⟩:=hrel
         have HNO:=Lib.hid hno
         clear hno
         by_cases hlt : p < y2
         · have hcc:=hc2 p hlt
           have hl2 : bb2 < w4.heap.size:=block_lt_of_cell hcc
           have q2:=(bj.cell (p:=⟨bb2,oo2 + p,none⟩) (by show bb2 < w4.heap.size + 1;omega)).trans ((UB6.cell (p:=⟨bb2,oo2 + p,none⟩) hl2).trans hcc)
           have hkey : keyOf Try.prog 3 (.int .i64 (a2 + (p : Int))) = some (.int .i64 (a2 + (p : Int))):=keyOf_int_mk Try.underlying3 (WalkArith.wf_i64 (by omega))
           have HK:=Lib.hid hkey
           have HM:=Lib.hid hown
           have t7:=t6.trans (bj.mono (show w.heap.size ≤ w4.heap.size + 1 by omega))
           clear hkey hown hcc
           by_cases hit : a1 ≤ a2 + (p : Int) ∧ a2 + (p : Int) < a1 + (j : Int)
           · have HIT:=Lib.hid hit
             clear hit
             go_wp2_with (at_lookup;go_loud (refine wpList_lookup_own_int _ rfl _ _ 117 rfl 3 3 .i64 lawI Try.underlying117 Try.underlying3 (zeroI _) (w4.heap.size + 1) j _ rfl HM.out _ _ rfl HK.out ?_;intro c hat hwc;have hcv:=mapB_hit hat HIT.out;subst hcv;clear hat hwc))
             first
                  | (go_ret2
                     exact ⟨ret_bool2 (a:=true) (HTB.out.trans (decide_eq_true (by have:=HIT.out;have:=HJY.out;omega))).symm 0,t7⟩)
                  | (go_round
                     case rel=>exact ⟨p + 1,by omega,by go_num,fun q hq h=>by
                      rcases (show q < p ∨ q = p by omega) with hq2 | hq2
                      · exact HNO.out q hq2 ⟨by first | trivial | rfl | exact h.1 | exact h.1.elim,h.2⟩
                      · omega⟩
                     case measure=>simp [intOf];omega)
           · have HIT:=Lib.hid hit
             clear hit
             go_wp2_with (at_lookup;go_loud (refine wpList_lookup_own_int _ rfl _ _ 117 rfl 3 3 .i64 lawI Try.underlying117 Try.underlying3 (zeroI _) (w4.heap.size + 1) j _ rfl HM.out _ _ rfl HK.out ?_;intro c hat hwc;have hcv:=mapB_miss hat HIT.out;subst hcv;clear hat hwc))
             go_round
             case rel=>exact ⟨p + 1,by omega,by go_num,fun q hq h=>by
                  rcases (show q < p ∨ q = p by omega) with hq2 | hq2
                  · exact HNO.out q hq2 ⟨by first | trivial | rfl | exact h.1 | exact h.1.elim,h.2⟩
                  · subst hq2
                    have:=HIT.out
                    have:=HJY.out
                    omega⟩
             case measure=>simp [intOf];omega
         · have hpe : p = y2:=by omega
           have HPE:=Lib.hid hpe
           have t7:=t6.trans (bj.mono (show w.heap.size ≤ w4.heap.size + 1 by omega))
           clear hpe
           go_wp2
           go_ret2
           refine ⟨ret_bool2 (a:=false) (HTB.out.trans ?_).symm 0,t7⟩
           first
            | rfl
            | exact decide_eq_false (fun h=>by
                   have e1:=HPE.out
                   by_cases hle : a1 ≤ a2
                   · exact HNO.out 0 (by omega) ⟨by simp,by omega,by omega⟩
                   · exact HNO.out (a1 - a2).toNat (by omega) ⟨by simp,by omega,by omega⟩)
 · simp only [Bool.or_false,Bool.false_or,Bool.or_true,Bool.true_or,Bool.false_and,Bool.true_and] at HTB
   go_enter Try.func29,Try.ntmps29
   go_wp2_with fail
   have C0:=BoxOf.alloc (BoxOf.alloc (BoxOf.new w #[.int .u32 (id : Int),.int .i64 m,.int .i64 c,.int .i64 r,.int .i64 l,.int .i64 h] 24) (.cells #[.int .u8 k1,.int .i64 a1,.int .i64 y1,.slice A1 n1 q1] 28)) (.cells #[.int .u8 k2,.int .i64 a2,.int .i64 y2,.slice A2 n2 q2] 28)
   have A0:=BoxOf.alloc (BoxOf.new' (w.alloc (.cells #[.int .u32 (id : Int),.int .i64 m,.int .i64 c,.int .i64 r,.int .i64 l,.int .i64 h] 24)) (w.heap.size + 1) #[.int .u8 k1,.int .i64 a1,.int .i64 y1,.slice A1 n1 q1] 28 (by simp)) (.cells #[.int .u8 k2,.int .i64 a2,.int .i64 y2,.slice A2 n2 q2] 28)
   have D0:=BoxOf.new' ((w.alloc (.cells #[.int .u32 (id : Int),.int .i64 m,.int .i64 c,.int .i64 r,.int .i64 l,.int .i64 h] 24)).alloc (.cells #[.int .u8 k1,.int .i64 a1,.int .i64 y1,.slice A1 n1 q1] 28)) (w.heap.size + 2) #[.int .u8 k2,.int .i64 a2,.int .i64 y2,.slice A2 n2 q2] 28 (by simp)
   have t0:=Ext.alloc (Ext.alloc (Ext.alloc (Below.refl w.heap.size w) (.cells #[.int .u32 (id : Int),.int .i64 m,.int .i64 c,.int .i64 r,.int .i64 l,.int .i64 h] 24)) (.cells #[.int .u8 k1,.int .i64 a1,.int .i64 y1,.slice A1 n1 q1] 28)) (.cells #[.int .u8 k2,.int .i64 a2,.int .i64 y2,.slice A2 n2 q2] 28)
   refine (HB1.out _).mono ?_
   rintro e w1 ⟨v1,rfl,o1,b1⟩
   obtain ⟨P1,c1,rfl,_,r1⟩:=own_rd o1
   have C1:=C0.next b1
   have A1:=A0.next b1
   have D1:=D0.next b1
   have t1:=Ext.trans t0 b1
   have x1:=C1.cell
   have y1:=A1.cell
   have z1:=D1.cell
   clear C0 A0 D0 t0
   clear b1 o1
   go_wp2_with fail
   refine (HB2.out _).mono ?_
   rintro e w2 ⟨v2,rfl,o2,b2⟩
   obtain ⟨P2,c2,rfl,_,r2⟩:=own_rd o2
   have r1:=r1.below b2
   have C2:=C1.next b2
   have A2:=A1.next b2
   have D2:=D1.next b2
   have t2:=Ext.trans t1 b2
   have x2:=C2.cell
   have y2:=A2.cell
   have z2:=D2.cell
   clear C1 A1 D1 t1
   clear b2 o2 x1 y1 z1
   go_wp2_with fail
   refine (HO1.out _).mono ?_
   rintro e w3 ⟨rfl,b3⟩
   have r1:=r1.below b3
   have r2:=r2.below b3
   have C3:=C2.next b3
   have A3:=A2.next b3
   have D3:=D2.next b3
   have t3:=Ext.trans t2 b3
   have x3:=C3.cell
   have y3:=A3.cell
   have z3:=D3.cell
   clear C2 A2 D2 t2
   have l3:=D3.lt
   clear b3 x2 y2 z2
   go_wp2_with fail
   refine (HO2.out _).mono ?_
   rintro e w4 ⟨rfl,b4⟩
   have r1:=(r1.alloc _).below b4
   have r2:=(r2.alloc _).below b4
   have F4:=(BoxOf.new w3 #[.int .i64 mo1,.bool by1,.bool true] 114).next b4
   have t4:=Ext.trans (Ext.alloc t3 (.cells #[.int .i64 mo1,.bool by1,.bool true] 114)) b4
   have f4:=F4.cell
   have l4:=F4.lt
   have s4:=t4.size
   clear b4 x3 y3 z3 A3 C3 D3 t3 l3 F4
   go_wp2
   have m6:=World.ownsMap_made (w4.alloc (.cells #[.int .i64 mo2,.bool by2,.bool true] 114)) Try.prog 3 (plainElem (H:=Unit) Try.prog 3)
   rw [show (w4.alloc (.cells #[.int .i64 mo2,.bool by2,.bool true] 114)).heap.size = w4.heap.size + 1 by simp] at m6
   have t6:=Ext.alloc (Ext.alloc t4 (.cells #[.int .i64 mo2,.bool by2,.bool true] 114)) (.map #[] 0)
   have h6 : ((w4.alloc (.cells #[.int .i64 mo2,.bool by2,.bool true] 114)).alloc (.map #[] 0)).heap.size = w4.heap.size + 2:=by simp
   have UB6:=Ext.alloc (Ext.alloc (Below.refl w4.heap.size w4) (.cells #[.int .i64 mo2,.bool by2,.bool true] 114)) (.map #[] 0)
   generalize (w4.alloc (.cells #[.int .i64 mo2,.bool by2,.bool true] 114)).alloc (.map #[] 0) = w6 at m6 t6 h6 UB6 ⊢
   have r1:=rd_seq r1
   have r2:=rd_seq r2
   clear f4 l4 t4
   have hb1 : IsInt (a1 + 8) ∧ 0 ≤ a1:=⟨⟨by omega,by omega⟩,by omega⟩
   have hb2 : IsInt (a2 + 8) ∧ 0 ≤ a2:=⟨⟨by omega,by omega⟩,by omega⟩
   obtain ⟨ha1,ha1'⟩:=ha1
   obtain ⟨ha2,ha2'⟩:=ha2
   have r1 : y1 ≤ 0 ∨ _:=r1.imp (fun h=>Nat.le_of_eq h) (fun h=>h)
   have r2 : y2 ≤ 0 ∨ _:=r2.imp (fun h=>Nat.le_of_eq h) (fun h=>h)
   rcases r1 with hz1 | ⟨bb1,oo1,rfl,hc1⟩ <;> rcases r2 with hz2 | ⟨bb2,oo2,rfl,hc2⟩
   · go_loopw [18,60] (fun _ i wr=>∃ j : Nat,j ≤ y1 ∧ i = .int .i64 j ∧ wr.ownsMap Try.prog 3 (plainElem (H:=Unit) Try.prog 3) (w4.heap.size + 1) j (mapB a1 2 j) ∧ Below (w4.heap.size + 1) w6 wr) (fun _ i _=>y1 - (intOf i).toNat)
     case atStart=>exact ⟨0,Nat.zero_le _,rfl,m6,Below.refl _ _⟩
     case round=>
      obtain ⟨j,hj,rfl,hown,bj⟩:=hrel
      by_cases hlt : j < y1
      · exact absurd hlt (by omega)
      · have hjy : j = y1:=by omega
        have HJY:=Lib.hid hjy
        clear hjy
        go_wp2
        go_loop [20,70] (fun _ i=>∃ p : Nat,p ≤ y2 ∧ i = .int .i64 p ∧ (∀ q : Nat,q < p → ¬ ((2 : Int) = 2 ∧ a1 ≤ a2 + (q : Int) ∧ a2 + (q : Int) < a1 + (y1 : Nat)))) (fun _ i=>y2 - (intOf i).toNat)
        case atStart=>exact ⟨0,Nat.zero_le _,rfl,fun q hq=>by omega⟩
        case round=>
         obtain ⟨p,hp,rfl,hno⟩:=hrel
         have HNO:=Lib.hid hno
         clear hno
         by_cases hlt : p < y2
         · exact absurd hlt (by omega)
         · have hpe : p = y2:=by omega
           have HPE:=Lib.hid hpe
           have t7:=t6.trans (bj.mono (show w.heap.size ≤ w4.heap.size + 1 by omega))
           clear hpe
           go_wp2
           go_ret2
           refine ⟨ret_bool2 (a:=false) (HTB.out.trans ?_).symm 0,t7⟩
           first
            | rfl
            | exact decide_eq_false (fun h=>by
                   have e1:=HPE.out
                   by_cases hle : a1 ≤ a2
                   · exact HNO.out 0 (by omega) ⟨by simp,by omega,by omega⟩
                   · exact HNO.out (a1 - a2).toNat (by omega) ⟨by simp,by omega,by omega⟩)
   · go_loopw [18,60] (fun _ i wr=>∃ j : Nat,j ≤ y1 ∧ i = .int .i64 j ∧ wr.ownsMap Try.prog 3 (plainElem (H:=Unit) Try.prog 3) (w4.heap.size + 1) j (mapB a1 2 j) ∧ Below (w4.heap.size + 1) w6 wr) (fun _ i _=>y1 - (intOf i).toNat)
     case atStart=>exact ⟨0,Nat.zero_le _,rfl,m6,Below.refl _ _⟩
     case round=>
      obtain ⟨j,hj,rfl,hown,bj⟩:=hrel
      by_cases hlt : j < y1
      · exact absurd hlt (by omega)
      · have hjy : j = y1:=by omega
        have HJY:=Lib.hid hjy
        clear hjy
        go_wp2
        go_loop [20,70] (fun _ i=>∃ p : Nat,p ≤ y2 ∧ i = .int .i64 p ∧ (∀ q : Nat,q < p → ¬ ((2 : Int) = 2 ∧ a1 ≤ a2 + (q : Int) ∧ a2 + (q : Int) < a1 + (y1 : Nat)))) (fun _ i=>y2 - (intOf i).toNat)
        case atStart=>exact ⟨0,Nat.zero_le _,rfl,fun q hq=>by omega⟩
        case round=>
         obtain ⟨p,hp,rfl,hno⟩:=hrel
         have HNO:=Lib.hid hno
         clear hno
         by_cases hlt : p < y2
         · have hcc:=hc2 p hlt
           have hl2 : bb2 < w4.heap.size:=block_lt_of_cell hcc
           have q2:=(bj.cell (p:=⟨bb2,oo2 + p,none⟩) (by show bb2 < w4.heap.size + 1;omega)).trans ((UB6.cell (p:=⟨bb2,oo2 + p,none⟩) hl2).trans hcc)
           have hkey : keyOf Try.prog 3 (.int .i64 (a2 + (p : Int))) = some (.int .i64 (a2 + (p : Int))):=keyOf_int_mk Try.underlying3 (WalkArith.wf_i64 (by omega))
           have HK:=Lib.hid hkey
           have HM:=Lib.hid hown
           have t7:=t6.trans (bj.mono (show w.heap.size ≤ w4.heap.size + 1 by omega))
           clear hkey hown hcc
           by_cases hit : a1 ≤ a2 + (p : Int) ∧ a2 + (p : Int) < a1 + (j : Int)
           · have HIT:=Lib.hid hit
             clear hit
             go_wp2_with (at_lookup;go_loud (refine wpList_lookup_own_int _ rfl _ _ 117 rfl 3 3 .i64 lawI Try.underlying117 Try.underlying3 (zeroI _) (w4.heap.size + 1) j _ rfl HM.out _ _ rfl HK.out ?_;intro c hat hwc;have hcv:=mapB_hit hat HIT.out;subst hcv;clear hat hwc))
             first
                  | (go_ret2
                     exact ⟨ret_bool2 (a:=true) (HTB.out.trans (decide_eq_true (by have:=HIT.out;have:=HJY.out;omega))).symm 0,t7⟩)
                  | (go_round
                     case rel=>exact ⟨p + 1,by omega,by go_num,fun q hq h=>by
                      rcases (show q < p ∨ q = p by omega) with hq2 | hq2
                      · exact HNO.out q hq2 ⟨by first | trivial | rfl | exact h.1 | exact h.1.elim,h.2⟩
                      · omega⟩
                     case measure=>simp [intOf];omega)
           · have HIT:=Lib.hid hit
             clear hit
             go_wp2_with (at_lookup;go_loud (refine wpList_lookup_own_int _ rfl _ _ 117 rfl 3 3 .i64 lawI Try.underlying117 Try.underlying3 (zeroI _) (w4.heap.size + 1) j _ rfl HM.out _ _ rfl HK.out ?_;intro c hat hwc;have hcv:=mapB_miss hat HIT.out;subst hcv;clear hat hwc))
             go_round
             case rel=>exact ⟨p + 1,by omega,by go_num,fun q hq h=>by
                  rcases (show q < p ∨ q = p by omega) with hq2 | hq2
                  · exact HNO.out q hq2 ⟨by first | trivial | rfl | exact h.1 | exact h.1.elim,h.2⟩
                  · subst hq2
                    have:=HIT.out
                    have:=HJY.out
                    omega⟩
             case measure=>simp [intOf];omega
         · have hpe : p = y2:=by omega
           have HPE:=Lib.hid hpe
           have t7:=t6.trans (bj.mono (show w.heap.size ≤ w4.heap.size + 1 by omega))
           clear hpe
           go_wp2
           go_ret2
           refine ⟨ret_bool2 (a:=false) (HTB.out.trans ?_).symm 0,t7⟩
           first
            | rfl
            | exact decide_eq_false (fun h=>by
                   have e1:=HPE.out
                   by_cases hle : a1 ≤ a2
                   · exact HNO.out 0 (by omega) ⟨by simp,by omega,by omega⟩
                   · exact HNO.out (a1 - a2).toNat (by omega) ⟨by simp,by omega,by omega⟩)
   · go_loopw [18,60] (fun _ i wr=>∃ j : Nat,j ≤ y1 ∧ i = .int .i64 j ∧ wr.ownsMap Try.prog 3 (plainElem (H:=Unit) Try.prog 3) (w4.heap.size + 1) j (mapB a1 2 j) ∧ Below (w4.heap.size + 1) w6 wr) (fun _ i _=>y1 - (intOf i).toNat)
     case atStart=>exact ⟨0,Nat.zero_le _,rfl,m6,Below.refl _ _⟩
     case round=>
      obtain ⟨j,hj,rfl,hown,bj⟩:=hrel
      by_cases hlt : j < y1
      · have hcc:=hc1 j hlt
        have hl1 : bb1 < w4.heap.size:=block_lt_of_cell hcc
        have q1:=(bj.cell (p:=⟨bb1,oo1 + j,none⟩) (by show bb1 < w4.heap.size + 1;omega)).trans ((UB6.cell (p:=⟨bb1,oo1 + j,none⟩) hl1).trans hcc)
        have hkey : keyOf Try.prog 3 (.int .i64 (a1 + (j : Int))) = some (.int .i64 (a1 + (j : Int))):=keyOf_int_mk Try.underlying3 (WalkArith.wf_i64 (by omega))
        have HK:=Lib.hid hkey
        have HM:=Lib.hid hown
        have HJ:=Lib.hid bj
        clear hkey hown bj hcc
        go_wp2_with (at_mapUpdate;refine wpList_mapUpdate_own _ rfl _ _ _ 117 rfl 3 3 lawI Try.underlying117 _ (w4.heap.size + 1) j _ rfl HM.out (by unfold maxLen;omega) _ _ _ rfl rfl HK.out _ [] (plainElem_int Try.underlying3 (by decide)) ?_;intro w7 hown7 hg7)
        go_roundw
        case rel=>exact ⟨j + 1,by omega,by go_num,hown7,Below.grown HJ.out hg7 (by have:=HJ.out.size;omega) (fun k hk=>by cases hk;exact Nat.le_refl _)⟩
        case measure=>simp [intOf];omega
      · have hjy : j = y1:=by omega
        have HJY:=Lib.hid hjy
        clear hjy
        go_wp2
        go_loop [20,70] (fun _ i=>∃ p : Nat,p ≤ y2 ∧ i = .int .i64 p ∧ (∀ q : Nat,q < p → ¬ ((2 : Int) = 2 ∧ a1 ≤ a2 + (q : Int) ∧ a2 + (q : Int) < a1 + (y1 : Nat)))) (fun _ i=>y2 - (intOf i).toNat)
        case atStart=>exact ⟨0,Nat.zero_le _,rfl,fun q hq=>by omega⟩
        case round=>
         obtain ⟨p,hp,rfl,hno⟩:=hrel
         have HNO:=Lib.hid hno
         clear hno
         by_cases hlt : p < y2
         · exact absurd hlt (by omega)
         · have hpe : p = y2:=by omega
           have HPE:=Lib.hid hpe
           have t7:=t6.trans (bj.mono (show w.heap.size ≤ w4.heap.size + 1 by omega))
           clear hpe
           go_wp2
           go_ret2
           refine ⟨ret_bool2 (a:=false) (HTB.out.trans ?_).symm 0,t7⟩
           first
            | rfl
            | exact decide_eq_false (fun h=>by
                   have e1:=HPE.out
                   by_cases hle : a1 ≤ a2
                   · exact HNO.out 0 (by omega) ⟨by simp,by omega,by omega⟩
                   · exact HNO.out (a1 - a2).toNat (by omega) ⟨by simp,by omega,by omega⟩)
   · go_loopw [18,60] (fun _ i wr=>∃ j : Nat,j ≤ y1 ∧ i = .int .i64 j ∧ wr.ownsMap Try.prog 3 (plainElem (H:=Unit) Try.prog 3) (w4.heap.size + 1) j (mapB a1 2 j) ∧ Below (w4.heap.size + 1) w6 wr) (fun _ i _=>y1 - (intOf i).toNat)
     case atStart=>exact ⟨0,Nat.zero_le _,rfl,m6,Below.refl _ _⟩
     case round=>
      obtain ⟨j,hj,rfl,hown,bj⟩:=hrel
      by_cases hlt : j < y1
      · have hcc:=hc1 j hlt
        have hl1 : bb1 < w4.heap.size:=block_lt_of_cell hcc
        have q1:=(bj.cell (p:=⟨bb1,oo1 + j,none⟩) (by show bb1 < w4.heap.size + 1;omega)).trans ((UB6.cell (p:=⟨bb1,oo1 + j,none⟩) hl1).trans hcc)
        have hkey : keyOf Try.prog 3 (.int .i64 (a1 + (j : Int))) = some (.int .i64 (a1 + (j : Int))):=keyOf_int_mk Try.underlying3 (WalkArith.wf_i64 (by omega))
        have HK:=Lib.hid hkey
        have HM:=Lib.hid hown
        have HJ:=Lib.hid bj
        clear hkey hown bj hcc
        go_wp2_with (at_mapUpdate;refine wpList_mapUpdate_own _ rfl _ _ _ 117 rfl 3 3 lawI Try.underlying117 _ (w4.heap.size + 1) j _ rfl HM.out (by unfold maxLen;omega) _ _ _ rfl rfl HK.out _ [] (plainElem_int Try.underlying3 (by decide)) ?_;intro w7 hown7 hg7)
        go_roundw
        case rel=>exact ⟨j + 1,by omega,by go_num,hown7,Below.grown HJ.out hg7 (by have:=HJ.out.size;omega) (fun k hk=>by cases hk;exact Nat.le_refl _)⟩
        case measure=>simp [intOf];omega
      · have hjy : j = y1:=by omega
        have HJY:=Lib.hid hjy
        clear hjy
        go_wp2
        go_loop [20,70] (fun _ i=>∃ p : Nat,p ≤ y2 ∧ i = .int .i64 p ∧ (∀ q : Nat,q < p → ¬ ((2 : Int) = 2 ∧ a1 ≤ a2 + (q : Int) ∧ a2 + (q : Int) < a1 + (y1 : Nat)))) (fun _ i=>y2 - (intOf i).toNat)
        case atStart=>exact ⟨0,Nat.zero_le _,rfl,fun q hq=>by omega⟩
        case round=>
         obtain ⟨p,hp,rfl,hno⟩:=hrel
         have HNO:=Lib.hid hno
         clear hno
         by_cases hlt : p < y2
         · have hcc:=hc2 p hlt
           have hl2 : bb2 < w4.heap.size:=block_lt_of_cell hcc
           have q2:=(bj.cell (p:=⟨bb2,oo2 + p,none⟩) (by show bb2 < w4.heap.size + 1;omega)).trans ((UB6.cell (p:=⟨bb2,oo2 + p,none⟩) hl2).trans hcc)
           have hkey : keyOf Try.prog 3 (.int .i64 (a2 + (p : Int))) = some (.int .i64 (a2 + (p : Int))):=keyOf_int_mk Try.underlying3 (WalkArith.wf_i64 (by omega))
           have HK:=Lib.hid hkey
           have HM:=Lib.hid hown
           have t7:=t6.trans (bj.mono (show w.heap.size ≤ w4.heap.size + 1 by omega))
           clear hkey hown hcc
           by_cases hit : a1 ≤ a2 + (p : Int) ∧ a2 + (p : Int) < a1 + (j : Int)
           · have HIT:=Lib.hid hit
             clear hit
             go_wp2_with (at_lookup;go_loud (refine wpList_lookup_own_int _ rfl _ _ 117 rfl 3 3 .i64 lawI Try.underlying117 Try.underlying3 (zeroI _) (w4.heap.size + 1) j _ rfl HM.out _ _ rfl HK.out ?_;intro c hat hwc;have hcv:=mapB_hit hat HIT.out;subst hcv;clear hat hwc))
             first
                  | (go_ret2
                     exact ⟨ret_bool2 (a:=true) (HTB.out.trans (decide_eq_true (by have:=HIT.out;have:=HJY.out;omega))).symm 0,t7⟩)
                  | (go_round
                     case rel=>exact ⟨p + 1,by omega,by go_num,fun q hq h=>by
                      rcases (show q < p ∨ q = p by omega) with hq2 | hq2
                      · exact HNO.out q hq2 ⟨by first | trivial | rfl | exact h.1 | exact h.1.elim,h.2⟩
                      · omega⟩
                     case measure=>simp [intOf];omega)
           · have HIT:=Lib.hid hit
             clear hit
             go_wp2_with (at_lookup;go_loud (refine wpList_lookup_own_int _ rfl _ _ 117 rfl 3 3 .i64 lawI Try.underlying117 Try.underlying3 (zeroI _) (w4.heap.size + 1) j _ rfl HM.out _ _ rfl HK.out ?_;intro c hat hwc;have hcv:=mapB_miss hat HIT.out;subst hcv;clear hat hwc))
             go_round
             case rel=>exact ⟨p + 1,by omega,by go_num,fun q hq h=>by
                  rcases (show q < p ∨ q = p by omega) with hq2 | hq2
                  · exact HNO.out q hq2 ⟨by first | trivial | rfl | exact h.1 | exact h.1.elim,h.2⟩
                  · subst hq2
                    have:=HIT.out
                    have:=HJY.out
                    omega⟩
             case measure=>simp [intOf];omega
         · have hpe : p = y2:=by omega
           have HPE:=Lib.hid hpe
           have t7:=t6.trans (bj.mono (show w.heap.size ≤ w4.heap.size + 1 by omega))
           clear hpe
           go_wp2
           go_ret2
           refine ⟨ret_bool2 (a:=false) (HTB.out.trans ?_).symm 0,t7⟩
           first
            | rfl
            | exact decide_eq_false (fun h=>by
                   have e1:=HPE.out
                   by_cases hle : a1 ≤ a2
                   · exact HNO.out 0 (by omega) ⟨by simp,by omega,by omega⟩
                   · exact HNO.out (a1 - a2).toNat (by omega) ⟨by simp,by omega,by omega⟩)
end Go.Proofs.Ythapabjlhooglaa
namespace Go.Proofs.Ythapabjlhooglaa
open Go.RowKit
set_option linter.unusedSimpArgs false
set_option linter.unusedVariables false
def askCode (x : Cfg) (k a y : Int) (n : Nat) : Int:=if x.Ok then (if Placed (x.c * x.r * (x.m - 1)) k a y then (if (n : Int) = kWant k y then 0 else 3) else 2) else 8
theorem scheck_all (x : Cfg) (k a y : Int) (A : Option Addr) (n q : Nat) (w : World) :
 Calls Try.prog 66 #[x.val,.agg #[.int .u8 k,.int .i64 a,.int .i64 y,.slice A n q]] w fun e w'=>e = .returned (.int .i64 (askCode x k a y n)) ∧ Below w.heap.size w w':=by
 unfold askCode
 split
 · rename_i hx
   split
   · rename_i hp
     split
     · rename_i hn;exact scheck_ok x hx k a y A n q hp hn w
     · rename_i hn;exact scheck_text x hx k a y A n q hp hn w
   · rename_i hp;exact scheck_arg x hx k a y A n q hp w
 · rename_i hx;exact scheck_bad x hx k a y A n q w
theorem askCode_0 {x : Cfg} {k a y : Int} {n : Nat} (h : askCode x k a y n = 0) : x.Ok ∧ Placed (x.c * x.r * (x.m - 1)) k a y ∧ (n : Int) = kWant k y ∧ (0 ≤ y ∧ y ≤ 8) ∧ (0 ≤ a ∧ a ≤ 1000) ∧ (1 ≤ y ∨ kWrites k = false):=by
 unfold askCode at h
 split at h
 · rename_i hx
   split at h
   · rename_i hp
     split at h
     · rename_i hn
       have hcr:=Cfg.crm hx
       refine ⟨hx,hp,hn,?_,?_,?_⟩
       · unfold Placed at hp;omega
       · unfold Placed at hp;omega
       · rcases hp with h1 | h1
         · exact .inl h1.2.1
         · right
           rcases kMost_or k with h2 | h2
           · rw [h1.2.1] at h2;cases h2
           · exact h2.2.2
     · cases h
   · cases h
 · cases h
theorem askCode_ne (x : Cfg) (k a y : Int) (n : Nat) (h : askCode x k a y n ≠ 0) : (askCode x k a y n != 0) = true:=by simpa using h
theorem touch_all (x : Cfg) (k1 a1 y1 k2 a2 y2 : Int) (A1 A2 : Option Addr) (n1 q1 n2 q2 : Nat) (h1 : askCode x k1 a1 y1 n1 = 0) (h2 : askCode x k2 a2 y2 n2 = 0) (w : World) :
 Calls Try.prog 29 #[x.val,.agg #[.int .u8 k1,.int .i64 a1,.int .i64 y1,.slice A1 n1 q1],.agg #[.int .u8 k2,.int .i64 a2,.int .i64 y2,.slice A2 n2 q2]] w fun e w'=>e = .returned (.tuple #[.bool (touchB k1 a1 y1 k2 a2 y2),.int .i64 0]) ∧ Below w.heap.size w w':=by
 obtain ⟨hx,hp1,hn1,hy1,ha1,_⟩:=askCode_0 h1
 obtain ⟨_,hp2,hn2,hy2,ha2,_⟩:=askCode_0 h2
 have c1:=sblocks_ok x k1 a1 y1 A1 n1 q1 hy1 ha1 (scheck_ok x hx k1 a1 y1 A1 n1 q1 hp1 hn1)
 have c2:=sblocks_ok x k2 a2 y2 A2 n2 q2 hy2 ha2 (scheck_ok x hx k2 a2 y2 A2 n2 q2 hp2 hn2)
 obtain ⟨m1,rfl⟩ : ∃ n : Nat,y1 = (n : Int):=⟨y1.toNat,by omega⟩
 obtain ⟨m2,rfl⟩ : ∃ n : Nat,y2 = (n : Int):=⟨y2.toNat,by omega⟩
 exact touch_ok x k1 a1 m1 k2 a2 m2 A1 A2 n1 q1 n2 q2 (by omega) (by omega) ha1 ha2 c1 c2 w
end Go.Proofs.Ythapabjlhooglaa
namespace Go.Proofs.Ythapabjlhooglaa
open Go.RowKit
set_option linter.unusedSimpArgs false
set_option linter.unusedVariables false
theorem rplaced_any (x : Cfg) (hx : x.Ok) (k a y : Int) (A : Option Addr) (n q : Nat) (w : World) :
 Calls Try.prog 70 #[x.val,.agg #[.int .u8 k,.int .i64 a,.int .i64 y,.slice A n q]] w fun e w'=>e = .returned (.bool (decide (Placed (x.c * x.r * (x.m - 1)) k a y))) ∧ Below w.heap.size w w':=by
 have hcr:=Cfg.crm hx
 by_cases hk : 1 ≤ k ∧ k ≤ 6
 · by_cases h46 : k = 4 ∨ k = 6
   · have h:=placed_whole x k a y A n q h46 w
     have hm : kMost k = 0:=kMost_0 (by omega)
     have hi : kIs k = true:=decide_eq_true hk
     have hpl : Placed (x.c * x.r * (x.m - 1)) k a y ↔ (a = 0 ∧ y = 0):=by
      unfold Placed;rw [hm,hi];simp
     have e : (a == 0 && y == 0) = decide (Placed (x.c * x.r * (x.m - 1)) k a y):=by
      rw [Bool.eq_iff_iff,decide_eq_true_iff,hpl]
      simp
     rw [← e]
     exact h
   · have hm : kMost k = 8:=kMost_8 (by omega)
     have hpl : Placed (x.c * x.r * (x.m - 1)) k a y ↔ (1 ≤ y ∧ y ≤ 8 ∧ 0 ≤ a ∧ a ≤ x.c * x.r * (x.m - 1) - y):=by
      unfold Placed;rw [hm];simp
     by_cases hp : 1 ≤ y ∧ y ≤ 8 ∧ 0 ≤ a
     · have h:=placed_in x hx k a y A n q ⟨hk,h46⟩ hp _ rfl w
       have e : decide (a ≤ x.c * x.r * (x.m - 1) - y) = decide (Placed (x.c * x.r * (x.m - 1)) k a y):=decide_eq_decide.2 (by rw [hpl];omega)
       rw [← e]
       exact h
     · rw [decide_eq_false (fun h=>hp (by have:=hpl.1 h;omega))]
       exact placed_not x k a y A n q ⟨hk,h46⟩ (by omega) w
 · have hm : kMost k = 0:=kMost_0 (by omega)
   have hi : kIs k = false:=decide_eq_false hk
   rw [decide_eq_false (by unfold Placed;rw [hm,hi];simp)]
   exact placed_out x k a y A n q (by omega) w
set_option maxRecDepth 100000 in
theorem rcheck_no (x : Cfg) (hx : ¬ x.Ok) (k a y : Int) (A : Option Addr) (n q : Nat) (w : World) :
 Calls Try.prog 38 #[x.val,.agg #[.int .u8 k,.int .i64 a,.int .i64 y,.slice A n q]] w fun e w'=>e = .returned (.int .i64 8) ∧ Below w.heap.size w w':=by
 have HM:=Lib.hid (may_no x hx)
 obtain ⟨id,m,c,r,l,h⟩:=x
 unfold Cfg.val at *
 dsimp only at *
 go_enter Try.func38,Try.ntmps38
 go_wp2_with fail
 have A0:=BoxOf.new' (w.alloc (.cells #[.int .u32 (id : Int),.int .i64 m,.int .i64 c,.int .i64 r,.int .i64 l,.int .i64 h] 24)) (w.heap.size + 1) #[.int .u8 k,.int .i64 a,.int .i64 y,.slice A n q] 28 (by simp)
 have C0:=BoxOf.alloc (BoxOf.new w #[.int .u32 (id : Int),.int .i64 m,.int .i64 c,.int .i64 r,.int .i64 l,.int .i64 h] 24) (.cells #[.int .u8 k,.int .i64 a,.int .i64 y,.slice A n q] 28)
 have t0:=Ext.alloc (Ext.alloc (Below.refl w.heap.size w) (.cells #[.int .u32 (id : Int),.int .i64 m,.int .i64 c,.int .i64 r,.int .i64 l,.int .i64 h] 24)) (.cells #[.int .u8 k,.int .i64 a,.int .i64 y,.slice A n q] 28)
 refine (HM.out _).mono ?_
 rintro e w1 ⟨rfl,b1⟩
 have t1:=Ext.trans t0 b1
 go_wp2
 go_ret
 exact ⟨rfl,t1⟩
set_option maxRecDepth 100000 in
theorem rcheck_arg (x : Cfg) (hx : x.Ok) (k a y : Int) (A : Option Addr) (n q : Nat) (hp : ¬ Placed (x.c * x.r * (x.m - 1)) k a y) (w : World) :
 Calls Try.prog 38 #[x.val,.agg #[.int .u8 k,.int .i64 a,.int .i64 y,.slice A n q]] w fun e w'=>e = .returned (.int .i64 2) ∧ Below w.heap.size w w':=by
 have HM:=Lib.hid (may_yes x hx)
 have hpl:=rplaced_any x hx k a y A n q
 rw [decide_eq_false hp] at hpl
 have HP:=Lib.hid hpl
 clear hpl hp hx
 obtain ⟨id,m,c,r,l,h⟩:=x
 unfold Cfg.val at *
 dsimp only at *
 go_enter Try.func38,Try.ntmps38
 go_wp2_with fail
 have A0:=BoxOf.new' (w.alloc (.cells #[.int .u32 (id : Int),.int .i64 m,.int .i64 c,.int .i64 r,.int .i64 l,.int .i64 h] 24)) (w.heap.size + 1) #[.int .u8 k,.int .i64 a,.int .i64 y,.slice A n q] 28 (by simp)
 have C0:=BoxOf.alloc (BoxOf.new w #[.int .u32 (id : Int),.int .i64 m,.int .i64 c,.int .i64 r,.int .i64 l,.int .i64 h] 24) (.cells #[.int .u8 k,.int .i64 a,.int .i64 y,.slice A n q] 28)
 have t0:=Ext.alloc (Ext.alloc (Below.refl w.heap.size w) (.cells #[.int .u32 (id : Int),.int .i64 m,.int .i64 c,.int .i64 r,.int .i64 l,.int .i64 h] 24)) (.cells #[.int .u8 k,.int .i64 a,.int .i64 y,.slice A n q] 28)
 refine (HM.out _).mono ?_
 rintro e w1 ⟨rfl,b1⟩
 have A1:=A0.next b1
 have C1:=C0.next b1
 have t1:=Ext.trans t0 b1
 have ya1:=A1.cell
 have xc1:=C1.cell
 clear A0 C0 t0 b1
 go_wp2_with fail
 refine (HP.out _).mono ?_
 rintro e w2 ⟨rfl,b2⟩
 have t2:=Ext.trans t1 b2
 go_wp2
 go_ret
 exact ⟨rfl,t2⟩
set_option maxRecDepth 100000 in
theorem rcheck_text (x : Cfg) (hx : x.Ok) (k a y : Int) (A : Option Addr) (n q : Nat) (hp : Placed (x.c * x.r * (x.m - 1)) k a y) (hn : (n : Int) ≠ kWant k y) (w : World) :
 Calls Try.prog 38 #[x.val,.agg #[.int .u8 k,.int .i64 a,.int .i64 y,.slice A n q]] w fun e w'=>e = .returned (.int .i64 3) ∧ Below w.heap.size w w':=by
 have HM:=Lib.hid (may_yes x hx)
 have hpl:=rplaced_any x hx k a y A n q
 rw [decide_eq_true hp] at hpl
 have HP:=Lib.hid hpl
 have HBY:=Lib.hid (rbytes_any k)
 have hcr:=Cfg.crm hx
 have hy : 0 ≤ y ∧ y ≤ 8:=by unfold Placed at hp;omega
 obtain ⟨hy1,hy2⟩:=hy
 unfold kWant at hn
 clear hpl hp hx
 obtain ⟨id,m,c,r,l,h⟩:=x
 unfold Cfg.val at *
 dsimp only at *
 generalize kBytes k = by' at *
 clear hcr
 cases by' with
 | true=>
   have hne : ((n : Int) != y * 128) = true:=by simp at hn ⊢;exact hn
   clear hn
   go_enter Try.func38,Try.ntmps38
   go_wp2_with fail
   have A0:=BoxOf.new' (w.alloc (.cells #[.int .u32 (id : Int),.int .i64 m,.int .i64 c,.int .i64 r,.int .i64 l,.int .i64 h] 24)) (w.heap.size + 1) #[.int .u8 k,.int .i64 a,.int .i64 y,.slice A n q] 28 (by simp)
   have C0:=BoxOf.alloc (BoxOf.new w #[.int .u32 (id : Int),.int .i64 m,.int .i64 c,.int .i64 r,.int .i64 l,.int .i64 h] 24) (.cells #[.int .u8 k,.int .i64 a,.int .i64 y,.slice A n q] 28)
   have t0:=Ext.alloc (Ext.alloc (Below.refl w.heap.size w) (.cells #[.int .u32 (id : Int),.int .i64 m,.int .i64 c,.int .i64 r,.int .i64 l,.int .i64 h] 24)) (.cells #[.int .u8 k,.int .i64 a,.int .i64 y,.slice A n q] 28)
   refine (HM.out _).mono ?_
   rintro e w1 ⟨rfl,b1⟩
   have A1:=A0.next b1
   have C1:=C0.next b1
   have t1:=Ext.trans t0 b1
   have ya1:=A1.cell
   have xc1:=C1.cell
   clear A0 C0 t0 b1
   go_wp2_with fail
   refine (HP.out _).mono ?_
   rintro e w2 ⟨rfl,b2⟩
   have A2:=A1.next b2
   have C2:=C1.next b2
   have t2:=Ext.trans t1 b2
   have ya2:=A2.cell
   have xc2:=C2.cell
   clear A1 C1 t1 b2
   clear xc1 ya1
   go_wp2_with fail
   refine (HBY.out _).mono ?_
   rintro e w3 ⟨rfl,rfl⟩
   skip
   go_wp2
   go_ret
   exact ⟨rfl,t2⟩
 | false=>
   have hne : ((n : Int) != 0) = true:=by simp at hn ⊢;exact hn
   clear hn
   go_enter Try.func38,Try.ntmps38
   go_wp2_with fail
   have A0:=BoxOf.new' (w.alloc (.cells #[.int .u32 (id : Int),.int .i64 m,.int .i64 c,.int .i64 r,.int .i64 l,.int .i64 h] 24)) (w.heap.size + 1) #[.int .u8 k,.int .i64 a,.int .i64 y,.slice A n q] 28 (by simp)
   have C0:=BoxOf.alloc (BoxOf.new w #[.int .u32 (id : Int),.int .i64 m,.int .i64 c,.int .i64 r,.int .i64 l,.int .i64 h] 24) (.cells #[.int .u8 k,.int .i64 a,.int .i64 y,.slice A n q] 28)
   have t0:=Ext.alloc (Ext.alloc (Below.refl w.heap.size w) (.cells #[.int .u32 (id : Int),.int .i64 m,.int .i64 c,.int .i64 r,.int .i64 l,.int .i64 h] 24)) (.cells #[.int .u8 k,.int .i64 a,.int .i64 y,.slice A n q] 28)
   refine (HM.out _).mono ?_
   rintro e w1 ⟨rfl,b1⟩
   have A1:=A0.next b1
   have C1:=C0.next b1
   have t1:=Ext.trans t0 b1
   have ya1:=A1.cell
   have xc1:=C1.cell
   clear A0 C0 t0 b1
   go_wp2_with fail
   refine (HP.out _).mono ?_
   rintro e w2 ⟨rfl,b2⟩
   have A2:=A1.next b2
   have C2:=C1.next b2
   have t2:=Ext.trans t1 b2
   have ya2:=A2.cell
   have xc2:=C2.cell
   clear A1 C1 t1 b2
   clear xc1 ya1
   go_wp2_with fail
   refine (HBY.out _).mono ?_
   rintro e w3 ⟨rfl,rfl⟩
   go_wp2_with fail
   refine (HBY.out _).mono ?_
   rintro e w3 ⟨rfl,rfl⟩
   go_wp2
   go_ret
   exact ⟨rfl,t2⟩
set_option maxRecDepth 100000 in
theorem rcheck_ok (x : Cfg) (hx : x.Ok) (k a y : Int) (A : Option Addr) (n q : Nat) (hp : Placed (x.c * x.r * (x.m - 1)) k a y) (hn : (n : Int) = kWant k y) (w : World) :
 Calls Try.prog 38 #[x.val,.agg #[.int .u8 k,.int .i64 a,.int .i64 y,.slice A n q]] w fun e w'=>e = .returned (.int .i64 0) ∧ Below w.heap.size w w':=by
 have HM:=Lib.hid (may_yes x hx)
 have hpl:=rplaced_any x hx k a y A n q
 rw [decide_eq_true hp] at hpl
 have HP:=Lib.hid hpl
 have HBY:=Lib.hid (rbytes_any k)
 have hcr:=Cfg.crm hx
 have hy : 0 ≤ y ∧ y ≤ 8:=by unfold Placed at hp;omega
 obtain ⟨hy1,hy2⟩:=hy
 unfold kWant at hn
 clear hpl hp hx
 obtain ⟨id,m,c,r,l,h⟩:=x
 unfold Cfg.val at *
 dsimp only at *
 generalize kBytes k = by' at *
 clear hcr
 cases by' with
 | true=>
   have hne : ((n : Int) != y * 128) = false:=by simp at hn ⊢;exact hn
   clear hn
   go_enter Try.func38,Try.ntmps38
   go_wp2_with fail
   have A0:=BoxOf.new' (w.alloc (.cells #[.int .u32 (id : Int),.int .i64 m,.int .i64 c,.int .i64 r,.int .i64 l,.int .i64 h] 24)) (w.heap.size + 1) #[.int .u8 k,.int .i64 a,.int .i64 y,.slice A n q] 28 (by simp)
   have C0:=BoxOf.alloc (BoxOf.new w #[.int .u32 (id : Int),.int .i64 m,.int .i64 c,.int .i64 r,.int .i64 l,.int .i64 h] 24) (.cells #[.int .u8 k,.int .i64 a,.int .i64 y,.slice A n q] 28)
   have t0:=Ext.alloc (Ext.alloc (Below.refl w.heap.size w) (.cells #[.int .u32 (id : Int),.int .i64 m,.int .i64 c,.int .i64 r,.int .i64 l,.int .i64 h] 24)) (.cells #[.int .u8 k,.int .i64 a,.int .i64 y,.slice A n q] 28)
   refine (HM.out _).mono ?_
   rintro e w1 ⟨rfl,b1⟩
   have A1:=A0.next b1
   have C1:=C0.next b1
   have t1:=Ext.trans t0 b1
   have ya1:=A1.cell
   have xc1:=C1.cell
   clear A0 C0 t0 b1
   go_wp2_with fail
   refine (HP.out _).mono ?_
   rintro e w2 ⟨rfl,b2⟩
   have A2:=A1.next b2
   have C2:=C1.next b2
   have t2:=Ext.trans t1 b2
   have ya2:=A2.cell
   have xc2:=C2.cell
   clear A1 C1 t1 b2
   clear xc1 ya1
   go_wp2_with fail
   refine (HBY.out _).mono ?_
   rintro e w3 ⟨rfl,rfl⟩
   (go_wp2_with fail;refine (HBY.out _).mono ?_;rintro e w3 ⟨rfl,rfl⟩)
   go_wp2
   go_ret
   exact ⟨rfl,t2⟩
 | false=>
   have hne : ((n : Int) != 0) = false:=by simp at hn ⊢;exact hn
   clear hn
   go_enter Try.func38,Try.ntmps38
   go_wp2_with fail
   have A0:=BoxOf.new' (w.alloc (.cells #[.int .u32 (id : Int),.int .i64 m,.int .i64 c,.int .i64 r,.int .i64 l,.int .i64 h] 24)) (w.heap.size + 1) #[.int .u8 k,.int .i64 a,.int .i64 y,.slice A n q] 28 (by simp)
   have C0:=BoxOf.alloc (BoxOf.new w #[.int .u32 (id : Int),.int .i64 m,.int .i64 c,.int .i64 r,.int .i64 l,.int .i64 h] 24) (.cells #[.int .u8 k,.int .i64 a,.int .i64 y,.slice A n q] 28)
   have t0:=Ext.alloc (Ext.alloc (Below.refl w.heap.size w) (.cells #[.int .u32 (id : Int),.int .i64 m,.int .i64 c,.int .i64 r,.int .i64 l,.int .i64 h] 24)) (.cells #[.int .u8 k,.int .i64 a,.int .i64 y,.slice A n q] 28)
   refine (HM.out _).mono ?_
   rintro e w1 ⟨rfl,b1⟩
   have A1:=A0.next b1
   have C1:=C0.next b1
   have t1:=Ext.trans t0 b1
   have ya1:=A1.cell
   have xc1:=C1.cell
   clear A0 C0 t0 b1
   go_wp2_with fail
   refine (HP.out _).mono ?_
   rintro e w2 ⟨rfl,b2⟩
   have A2:=A1.next b2
   have C2:=C1.next b2
   have t2:=Ext.trans t1 b2
   have ya2:=A2.cell
   have xc2:=C2.cell
   clear A1 C1 t1 b2
   clear xc1 ya1
   go_wp2_with fail
   refine (HBY.out _).mono ?_
   rintro e w3 ⟨rfl,rfl⟩
   go_wp2_with fail
   refine (HBY.out _).mono ?_
   rintro e w3 ⟨rfl,rfl⟩
   go_wp2
   go_ret
   exact ⟨rfl,t2⟩
theorem rcheck_all (x : Cfg) (k a y : Int) (A : Option Addr) (n q : Nat) (w : World) :
 Calls Try.prog 38 #[x.val,.agg #[.int .u8 k,.int .i64 a,.int .i64 y,.slice A n q]] w fun e w'=>e = .returned (.int .i64 (askCode x k a y n)) ∧ Below w.heap.size w w':=by
 unfold askCode
 split
 · rename_i hx
   split
   · rename_i hp
     split
     · rename_i hn;exact rcheck_ok x hx k a y A n q hp hn w
     · rename_i hn;exact rcheck_text x hx k a y A n q hp hn w
   · rename_i hp;exact rcheck_arg x hx k a y A n q hp w
 · rename_i hx;exact rcheck_no x hx k a y A n q w
end Go.Proofs.Ythapabjlhooglaa
namespace Go.Proofs.Ythapabjlhooglaa
open Go Go.RowKit
set_option linter.unusedSimpArgs false
set_option linter.unusedVariables false
def MarkOk (ms : List Int) (ys : List (List (List UInt8))) (i : Nat) : Prop:=∀ (h : i < ms.length) (h' : i < ys.length),0 ≤ ms[i] ∧ ms[i] < ((ys[i]).length : Int)
def MarksOk (k : Int) (ms : List Int) (ys : List (List (List UInt8))) : Prop:=if k = 4 then ms.length = ys.length ∧ ∀ i,MarkOk ms ys i else ms.length = 0
def YesNo (P : Prop) (e : Ending) : Prop:=∃ b,e = .returned (.bool b) ∧ (b = true ↔ P)
theorem YesNo.yes {P : Prop} (h : P) : YesNo P (.returned (.bool true)):=⟨true,rfl,by simp [h]⟩
theorem YesNo.no {P : Prop} (h : ¬ P) : YesNo P (.returned (.bool false)):=⟨false,rfl,by simp [h]⟩
theorem YesNo.of {P : Prop} {b : Bool} (h : b = true ↔ P) : YesNo P (.returned (.bool b)):=⟨b,rfl,h⟩
end Go.Proofs.Ythapabjlhooglaa
namespace Go.Proofs.Ythapabjlhooglaa
open Go Go.RowKit
set_option linter.unusedSimpArgs false
set_option linter.unusedVariables false
def SizeOk (zs : List (List UInt8)) (k : Nat) : Prop:=∀ h : k < zs.length,(zs[k]).length = 128
def RowOk (zs : List (List UInt8)) : Prop:=1 ≤ zs.length ∧ zs.length ≤ 512 ∧ ∀ k,SizeOk zs k
def ValOk (ys : List (List (List UInt8))) (i : Nat) : Prop:=∀ h : i < ys.length,RowOk ys[i]
def PrevOk (gs : List GoTy.T) (i : Nat) (n : Int) : Prop:=∀ (h : i - 1 < gs.length),0 < i → nuOf gs[i - 1] < n
def OneOk (x : Cfg) (ys : List (List (List UInt8))) (g : GoTy.T) : Prop:=1 ≤ nuOf g ∧ askCode x ((kiOf g).toNat : Int) (atOf g) (manyOf g) (datOf g).length = 0 ∧ MarksOk ((kiOf g).toNat : Int) (mksOf g) ys
def GoOk (x : Cfg) (ys : List (List (List UInt8))) (gs : List GoTy.T) (i : Nat) : Prop:=∀ h : i < gs.length,OneOk x ys gs[i] ∧ PrevOk gs i (nuOf gs[i])
structure PlainOk (x : Cfg) (ys : List (List (List UInt8))) (gs : List GoTy.T) : Prop where
 cfg : x.Ok
 len : (ys.length : Int) = x.c * x.r * (x.m - 1)
 few : gs.length ≤ 8
 vals : ∀ i,ValOk ys i
 goes : ∀ i,GoOk x ys gs i
theorem YesNo.is {P : Prop} {b : Bool} {e : Ending} (hb : b = true ↔ P) (h : YesNo P e) : e = .returned (.bool b):=by
 obtain ⟨b',rfl,h'⟩:=h
 have : b' = b:=Bool.eq_iff_iff.2 (h'.trans hb.symm)
 rw [this]
end Go.Proofs.Ythapabjlhooglaa
namespace Go.Proofs.Ythapabjlhooglaa
open Go Go.RowKit
set_option linter.unusedSimpArgs false
set_option linter.unusedVariables false
def AtIs (P : Prop) (e : Ending) : Prop:=∃ n : Int,e = .returned (.int .i64 n) ∧ (0 ≤ n ↔ P)
theorem AtIs.at {P : Prop} {n : Nat} (h : P) : AtIs P (.returned (.int .i64 (n : Int))):=⟨n,rfl,by simp [h]⟩
theorem AtIs.not {P : Prop} (h : ¬ P) : AtIs P (.returned (.int .i64 (-1))):=⟨-1,rfl,by simp [h]⟩
def SomeIs {α : Type} (p : α → Bool) (ys : List α) : Prop:=∃ i,∃ h : i < ys.length,p ys[i] = true
def NotAt {α : Type} (p : α → Bool) (ys : List α) (i : Nat) : Prop:=∀ h : i < ys.length,p ys[i] = false
theorem SomeIs.not {α : Type} {p : α → Bool} {ys : List α} {j : Nat} (h : ∀ i,i < j → NotAt p ys i) (hj : ¬ j < ys.length) : ¬ SomeIs p ys:=by
 rintro ⟨i,hi,h1⟩
 rw [h i (by omega) hi] at h1
 cases h1
def eqBs (ds : List UInt8) (bs : List UInt8) : Bool:=bs == ds
theorem eqb_any (A B : Option Addr) (n m q k : Nat) (xs bs : List UInt8) (w : World) (ha : Bs w A n xs) (hb : Bs w B m bs) :
 Calls Try.prog 56 #[.slice A n q,.slice B m k] w fun e w'=>e = .returned (.bool (xs == bs)) ∧ w = w':=by
 have s1:=run_string_bs (P:=Try.prog) q 26 9 5 Try.underlying26 Try.underlying5 Try.underlying9 ha
 have s2:=run_string_bs (P:=Try.prog) k 26 9 5 Try.underlying26 Try.underlying5 Try.underlying9 hb
 go_enter Try.func56,Try.ntmps56
 go_wp2
 go_ret
 exact ⟨rfl,rfl⟩
end Go.Proofs.Ythapabjlhooglaa
namespace Go.Proofs.Ythapabjlhooglaa
open Go.RowKit
def zeros : List UInt8:=List.replicate 128 0
end Go.Proofs.Ythapabjlhooglaa
namespace Go.Proofs.Ythapabjlhooglaa
open Go.RowKit
def Fits (p k : Int) : Prop:=1 ≤ k ∧ k ≤ 4 ∧ 0 ≤ p ∧ p ≤ 128 - k
instance (p k : Int) : Decidable (Fits p k):=by unfold Fits;infer_instance
end Go.Proofs.Ythapabjlhooglaa
namespace Go.Proofs.Ythapabjlhooglaa
namespace Crc
def tab : Array Nat:=#[0x00000000,0x105ec76f,0x20bd8ede,0x30e349b1,0x417b1dbc,0x5125dad3,0x61c69362,0x7198540d,
 0x82f63b78,0x92a8fc17,0xa24bb5a6,0xb21572c9,0xc38d26c4,0xd3d3e1ab,0xe330a81a,0xf36e6f75]
def W (i : Nat) : Nat:=tab.getD i 0
def T (s : Nat) : Nat:=(s >>> 4) ^^^ W (s &&& 15)
def step (s : Nat) (x : UInt8) : Nat:=T (T (s ^^^ x.toNat))
def run (s : Nat) (l : List UInt8) : Nat:=l.foldl step s
def top : Nat:=4294967295
def neg (s : Nat) : Nat:=top ^^^ s
def over (s : Nat) (l : List UInt8) : Nat:=neg (run (neg s) l)
def own (s : Nat) : List UInt8:=[UInt8.ofNat s,UInt8.ofNat (s / 256),UInt8.ofNat (s / 65536),UInt8.ofNat (s / 16777216)]
end Crc
end Go.Proofs.Ythapabjlhooglaa
namespace Go.Proofs.Ythapabjlhooglaa
open Go.RowKit
def turned (bs ys : List UInt8) (p : Nat) : Nat → List UInt8
 | 0=>bs
 | k + 1=>(turned bs ys p k).set (p + k) ((turned bs ys p k).getD (p + k) 0 ^^^ ys.getD k 0)
section
variable {P : Program}
end
end Go.Proofs.Ythapabjlhooglaa
namespace Go.Proofs.Ythapabjlhooglaa
open Go.RowKit
def Own (w : World) (B g : Nat) (l : List UInt8) : Prop:=w.ownsRow B 5 1 (.slice (some ⟨g,0,none⟩) 128 128) 128 (l.map byteV)
theorem Own.set {w : World} {B g : Nat} {l : List UInt8} (h : Own w B g l) (j : Nat) (b : UInt8) : Own (w.setCell ⟨g,j,none⟩ (byteV b)) B g (l.set j b):=by
 have st:=World.ownsRow.stored h j (byteV b)
 rw [← List.map_set] at st
 exact st.1
theorem Own.len {w : World} {B g : Nat} {l : List UInt8} (h : Own w B g l) : l.length = 128:=by have:=h.1;simpa using this
theorem Own.cell {w : World} {B g : Nat} {l : List UInt8} (h : Own w B g l) (j : Nat) (hj : j < 128) : w.cell? ⟨g,j,none⟩ = some (.int .u8 ((l.getD j 0).toNat : Int)):=by
 rw [World.ownsRow.cellAt h j hj]
 simp [byteV,show j < l.length by rw [h.len];exact hj]
theorem Own.bs {w : World} {B g : Nat} {l : List UInt8} (h : Own w B g l) : Bs w (some ⟨g,0,none⟩) 128 l:=Bs.of_ownS h
end Go.Proofs.Ythapabjlhooglaa
namespace Go.Proofs.Ythapabjlhooglaa
open Go Go.RowKit
set_option linter.unusedSimpArgs false
set_option linter.unusedVariables false
theorem BoxOf.below {w w' : World} {B g : Nat} {cs : Array Value} {t : TypeId} (h : BoxOf w g cs t) (hb : Below B w w') (hg : g < B) : BoxOf w' g cs t:=by
 unfold BoxOf at *
 rw [hb.block g hg];exact h
def OB (w : World) (base : Nat) (v : Value) (n : Nat) (bs : List UInt8) : Prop:=w.ownsRow base 5 1 v n (bs.map byteV)
theorem OB.next {w w' : World} {base : Nat} {v : Value} {n : Nat} {bs : List UInt8} (h : OB w base v n bs) (hb : Below w.heap.size w w') : OB w' base v n bs:=own_next h hb
theorem OB.bs {w : World} {base : Nat} {v : Value} {n : Nat} {bs : List UInt8} (h : OB w base v n bs) : ∃ A c,v = .slice A n c ∧ Bs w A n bs:=by
 obtain ⟨A,c,rfl,_,hb⟩:=Bs.of_own h
 exact ⟨A,c,rfl,hb⟩
theorem OB.lit (w : World) (g : Nat) (hg : g = w.heap.size) (b : UInt8) (v : Int) (hv : v = (b.toNat : Int)) : OB (w.alloc (.cells #[.int .u8 v] 5)) g (.slice (some ⟨g,0,none⟩) 1 1) 1 [b]:=by
 subst hg hv
 exact ⟨rfl,.inr ⟨w.heap.size,1,#[byteV b],rfl,Nat.le_refl _,heap_alloc_new _ _,Nat.le_refl _,by decide,rfl,rfl⟩⟩
theorem OB.nil (w : World) (base : Nat) : OB w base (.slice none 0 0) 0 []:=⟨rfl,.inl ⟨rfl,rfl⟩⟩
theorem cell_other (w : World) (k : Nat) (cs : Array Value) {p : Addr} (h : p.block ≠ k) : (w.setRow k cs).cell? p = w.cell? p:=World.cell?_of_block (setRow_other w k p.block cs h)
theorem Bs.other {w : World} {g k n : Nat} {bs : List UInt8} (h : Bs w (some ⟨g,0,none⟩) n bs) (hk : g ≠ k) (cs : Array Value) : Bs (w.setRow k cs) (some ⟨g,0,none⟩) n bs:=by
 refine ⟨h.1,?_⟩
 rcases h.2 with h2 | ⟨b,off,hA,hc⟩
 · exact .inl h2
 · injection hA with hA
   injection hA with e1 e2
   subst e1 e2
   exact .inr ⟨g,0,rfl,fun j hj=>by rw [cell_other w k cs (by exact hk)];exact hc j hj⟩
theorem BoxOf.out {w : World} {g : Nat} {cs : Array Value} {t : TypeId} (h : BoxOf w g cs t) (o : Nat) (v : Value) (hv : cs.toList[o]? = some v) : w.cell? ⟨g,o,none⟩ = some v:=(h.cell o).trans hv
end Go.Proofs.Ythapabjlhooglaa
namespace Go.Proofs.Ythapabjlhooglaa
open Go Go.RowKit
set_option linter.unusedSimpArgs false
set_option linter.unusedVariables false
theorem flat_ones (bs : List UInt8) : (bs.map fun b=>[byteV b]).flatten = bs.map byteV:=by
 induction bs with
 | nil=>rfl
 | cons a l ih=>rw [List.map_cons,List.flatten_cons,ih];rfl
theorem OwnL.of_bytes {w : World} {base : Nat} {tid : TypeId} {v : Value} {bs : List UInt8} (h : w.ownsRow base tid 1 v bs.length (bs.map byteV)) : OwnL w base tid .byte v bs:=by
 refine ⟨bs.map fun b=>[byteV b],List.length_map _,fun i h h'=>?_,?_⟩
 · rw [List.getElem_map]
   exact rdin_byte.2 rfl
 · rw [flat_ones]
   exact h
theorem OwnL.bytes_rdin {w : World} {base : Nat} {tid : TypeId} {v : Value} {bs : List UInt8} (h : OwnL w base tid .byte v bs) (hz : bs.length ≤ 140737488355328) : RdIn w (NewB base w) (.sl .byte) bs [v]:=
 OwnL.rdin h (by show bs.length * 1 ≤ _;omega)
theorem rdin_nilb {w : World} {S : Nat → Prop} {c : Nat} (hc : c ≤ maxLen) (A : Option Addr) : RdIn w S (.sl .byte) [] [.slice A 0 c]:=rdin_sl.2 ⟨A,c,rfl,by simp,hc,by simp,.inl rfl⟩
theorem rdin_bmax {w : World} {S : Nat → Prop} {bs : List UInt8} {v : Value} (h : RdIn w S (.sl .byte) bs [v]) : bs.length ≤ 140737488355328:=by
 obtain ⟨_,_,_,_,_,h1,_⟩:=rdin_sl.1 h
 have h2 : bs.length * 1 ≤ 140737488355328:=h1
 omega
theorem eqn_none (w : World) (n c : Nat) : (binOp .eql 26 (.slice none n c) (.slice none 0 0)).run Try.prog w = .ok (.bool true) w:=by kernel_rfl
theorem eqn_some (w : World) (a : Addr) (n c : Nat) : (binOp .eql 26 (.slice (some a) n c) (.slice none 0 0)).run Try.prog w = .ok (.bool false) w:=by kernel_rfl
set_option maxRecDepth 100000 in
set_option maxHeartbeats 1000000 in
theorem clone_any (S : Nat → Prop) (bs : List UInt8) (A : Option Addr) (c : Nat) (w : World) (h : RdIn w S (.sl .byte) bs [.slice A bs.length c]) :
 Calls Try.prog 43 #[.slice A bs.length c] w fun e w'=>(∃ v,e = .returned v ∧ RdIn w' (NewB w.heap.size w') (.sl .byte) bs [v]) ∧ Below w.heap.size w w':=by
 obtain ⟨i0,hi,hz0,hz1,hz2⟩:=minfo_u8
 have hbs:=h.bytes_bs
 have hbm:=rdin_bmax h
 have HM:=Lib.hid (And.intro (byte_max h) hbm)
 cases A with
 | none=>
   have hb0 : bs = []:=by
    rcases hbs.2 with h0 | ⟨b,off,e,_⟩
    · simpa using h0
    · cases e
   subst hb0
   have HE:=fun (w : World) (c : Nat)=>eqn_none w 0 c
   clear h hbs hbm
   go_enter Try.func43,Try.ntmps43
   go_wp2
   go_ret
   exact ⟨⟨_,rfl,rdin_nilb (by unfold maxLen;omega) _⟩,Below.refl _ _⟩
 | some a=>
   have t0:=Ext.alloc (Below.refl w.heap.size w) (.cells #[] 5)
   have hrd : Rd (w.alloc (.cells #[] 5)) (some a) (bs.map byteV):=(hbs.alloc _).2
   have own0 : (w.alloc (.cells #[] 5)).ownsRow w.heap.size 5 1 (.slice (some ⟨w.heap.size,0,none⟩) 0 0) 0 []:=⟨rfl,.inr ⟨w.heap.size,0,#[],rfl,Nat.le_refl _,heap_alloc_new _ _,Nat.le_refl _,by unfold maxLen;omega,rfl,rfl⟩⟩
   have HE:=fun (w : World) (n c : Nat)=>eqn_some w a n c
   clear h hbs hbm
   go_enter Try.func43,Try.ntmps43
   go_upto_region 3 with fail
   go_wp2_with (at_builtin;(refine wpList_append_rd _ rfl (.tmp 5) (.tmp 6) 26 rfl w.heap.size 5 i0 _ 1 1 Try.underlying26 hi hz0 hz1 hz2 rfl (by decide) _ 0 [] rfl own0 (some a) bs.length c (bs.map byteV) rfl (by simp) hrd (by intro u hu;rw [List.mem_map] at hu;obtain ⟨y,_,rfl⟩:=hu;rfl) (by have:=HM.out.1;omega) (by have:=HM.out.2;omega) (by simp) ?_);intro v1 w1 h2 h3 h4)
   have O1 : OwnL w1 w.heap.size 5 .byte v1 bs:=OwnL.of_bytes (by rw [Nat.zero_add,List.nil_append] at h2;exact h2)
   have b1:=Below.grown t0 h3 (by simp) (fun k e=>by cases e;exact Nat.le_refl _)
   go_ret
   exact ⟨⟨_,rfl,O1.bytes_rdin HM.out.2⟩,b1⟩
def part128 (bs : List UInt8) (i : Nat) : List UInt8:=(bs.drop (i * 128)).take 128
theorem part128_len {bs : List UInt8} {i : Nat} (h : i * 128 + 128 ≤ bs.length) : (part128 bs i).length = 128:=by
 unfold part128
 rw [List.length_take,List.length_drop];omega
theorem part128_get {bs : List UInt8} {i : Nat} (h : i * 128 + 128 ≤ bs.length) {q : Nat} (hq : q < (part128 bs i).length) : (part128 bs i)[q] = bs[i * 128 + q]'(by rw [part128_len h] at hq;omega):=by
 simp only [part128,List.getElem_take,List.getElem_drop]
def blk (k : Int) (bs : List UInt8) (i : Nat) : List UInt8:=if kBytes k then part128 bs i else zeros
theorem RdIn.part {w : World} {S : Nat → Prop} {bs : List UInt8} {b off c : Nat} (h : RdIn w S (.sl .byte) bs [.slice (some ⟨b,off,none⟩) bs.length c]) {i : Nat} (hi : i * 128 + 128 ≤ bs.length) :
 RdIn w S (.sl .byte) (part128 bs i) [.slice (some ⟨b,off + i * 128,none⟩) (part128 bs i).length (c - i * 128)]:=by
 obtain ⟨A',c',e,hn,hm,hz,hh⟩:=rdin_sl.1 h
 have e':=(List.cons.inj e).1
 injection e' with e1 e2 e3
 subst e3
 have hl:=part128_len hi
 have hn' : bs.length ≤ c:=hn
 have hz' : bs.length * 1 ≤ 140737488355328:=hz
 refine rdin_sl.2 ⟨_,_,rfl,?_,?_,?_,?_⟩
 · show (part128 bs i).length ≤ _;omega
 · omega
 · show (part128 bs i).length * 1 ≤ _;omega
 · rcases hh with hh | ⟨b',off',e5,hS,hc⟩
   · exfalso
     have : bs = []:=hh
     rw [this] at hi
     simp at hi
   · rw [← e1] at e5
     injection e5 with e5
     injection e5 with e51 e52
     subst e51 e52
     refine .inr ⟨b,off + i * 128,rfl,hS,fun q hq=>?_⟩
     have hq' : q < (part128 bs i).length:=hq
     obtain ⟨es,h1,h2⟩:=hc (i * 128 + q) (show i * 128 + q < bs.length by omega)
     refine ⟨es,fun j hj=>?_,?_⟩
     · have h3:=h1 j hj
       have hj0 : j = 0:=by have : j < 1:=hj;omega
       subst hj0
       have e7 : off + (i * 128 + q) * Ty.size .byte + 0 = off + i * 128 + q * Ty.size .byte + 0:=by show off + (i * 128 + q) * 1 + 0 = off + i * 128 + q * 1 + 0;omega
       rw [e7] at h3
       exact h3
     · have e9:=rdin_byte.1 h2
       refine rdin_byte.2 ?_
       rw [e9]
       exact congrArg (fun z=>[byteV z]) (part128_get hi hq').symm
theorem bytesV {w : World} {S : Nat → Prop} {bs : List UInt8} {v : Value} (h : RdIn w S (.sl .byte) bs [v]) : ∃ A c,v = .slice A bs.length c:=by
 obtain ⟨A,c,e,_⟩:=h.bytes
 exact ⟨A,c,e⟩
end Go.Proofs.Ythapabjlhooglaa
namespace Go.Proofs.Ythapabjlhooglaa
open Go Go.RowKit
set_option linter.unusedSimpArgs false
set_option linter.unusedVariables false
def hitB (n : Int) (ds : List UInt8) (g : GoTy.T) : Bool:=(decide (atOf g ≤ n) && decide (n < atOf g + manyOf g)) && (kWrites ((kiOf g).toNat : Int) && (blk ((kiOf g).toNat : Int) (datOf g) (n - atOf g).toNat == ds))
def AskFit (g : GoTy.T) : Prop:=((0 ≤ atOf g ∧ atOf g ≤ 1000) ∧ (0 ≤ manyOf g ∧ manyOf g ≤ 8)) ∧ ((datOf g).length : Int) = kWant ((kiOf g).toNat : Int) (manyOf g)
theorem AskFit.of {x : Cfg} {ys : List (List (List UInt8))} {g : GoTy.T} (h : OneOk x ys g) : AskFit g:=by
 obtain ⟨_,h,_⟩:=h
 obtain ⟨_,_,h1,h2,h3,_⟩:=askCode_0 h
 exact ⟨⟨h3,h2⟩,h1⟩
def LeftP (ys : List (List (List UInt8))) (gs : List GoTy.T) (n : Nat) (ds : List UInt8) : Prop:=(∃ h : n < ys.length,SomeIs (eqBs ds) ys[n]) ∨ SomeIs (hitB n ds) gs
end Go.Proofs.Ythapabjlhooglaa
namespace Go.Proofs.Ythapabjlhooglaa
open Go Go.RowKit Go.Shelf
set_option linter.unusedSimpArgs false
set_option linter.unusedVariables false
attribute [local go_sem] Oper.semAt_some
def KeepL (base : Nat) (W W' : World) : Prop:=∀ (p : Addr) (v : Value),p.block < base → W.cell? p = some v → W'.cell? p = some v
theorem KeepL.refl (base : Nat) (W : World) : KeepL base W W:=fun _ _ _ h=>h
theorem KeepL.trans {base : Nat} {A B C : World} (h : KeepL base A B) (k : KeepL base B C) : KeepL base A C:=fun p v hp hv=>k p v hp (h p v hp hv)
theorem KeepL.below {base : Nat} {A B : World} (h : Below base A B) : KeepL base A B:=fun p v hp hv=>(h.cell hp).trans hv
end Go.Proofs.Ythapabjlhooglaa
namespace Go.Proofs.Ythapabjlhooglaa
open Go Go.RowKit
set_option linter.unusedSimpArgs false
set_option linter.unusedVariables false
def OkBad (P : Prop) (e : Ending) : Prop:=(P ∧ e = .returned (.int .i64 0)) ∨ (¬ P ∧ e = .returned (.int .i64 8))
theorem OkBad.ok {P : Prop} (h : P) : OkBad P (.returned (.int .i64 0)):=.inl ⟨h,rfl⟩
theorem OkBad.bad {P : Prop} (h : ¬ P) : OkBad P (.returned (.int .i64 8)):=.inr ⟨h,rfl⟩
def LastIs (gs : List GoTy.T) (j : Nat) (last : Int) : Prop:=0 ≤ last ∧ (j = 0 → last = 0) ∧ (∀ (h : j - 1 < gs.length),0 < j → last = nuOf gs[j - 1])
theorem LastIs.none (gs : List GoTy.T) : LastIs gs 0 0:=⟨Int.le_refl 0,fun _=>rfl,fun _ h=>absurd h (Nat.lt_irrefl 0)⟩
theorem LastIs.next {gs : List GoTy.T} {j : Nat} {n last : Int} (h : LastIs gs j last) (hn : last < n) (hj : ∀ h : j < gs.length,nuOf gs[j] = n) : LastIs gs (j + 1) n:=
 ⟨by have:=h.1;omega,fun h=>by omega,fun h0 _=>(hj h0).symm⟩
theorem LastIs.no {x : Cfg} {ys : List (List (List UInt8))} {gs : List GoTy.T} {j : Nat} {last : Int} (h : LastIs gs j last) (hj : j < gs.length) (hn : nuOf gs[j] ≤ last) : ¬ GoOk x ys gs j:=by
 intro hg
 obtain ⟨h1,h2⟩:=hg hj
 by_cases h0 : 0 < j
 · have h3:=h2 (by omega) h0
   have h4:=h.2.2 (by omega) h0
   omega
 · have h3:=h.2.1 (by omega)
   have:=h1.1
   omega
theorem LastIs.yes {x : Cfg} {ys : List (List (List UInt8))} {gs : List GoTy.T} {j : Nat} {last : Int} (h : LastIs gs j last) (hj : j < gs.length) (hn : last < nuOf gs[j]) (h1 : askCode x ((kiOf gs[j]).toNat : Int) (atOf gs[j]) (manyOf gs[j]) (datOf gs[j]).length = 0) (h2 : MarksOk ((kiOf gs[j]).toNat : Int) (mksOf gs[j]) ys) : GoOk x ys gs j:=fun _=>
 ⟨⟨by have:=h.1;omega,h1,h2⟩,fun h3 h0=>by have:=h.2.2 h3 h0;omega⟩
end Go.Proofs.Ythapabjlhooglaa
namespace Go.Proofs.Ythapabjlhooglaa
open Go Go.RowKit
set_option linter.unusedSimpArgs false
set_option linter.unusedVariables false
def MayRel (x : Cfg) (ys : List (List (List UInt8))) (gs : List GoTy.T) (n : Int) (bs : List UInt8) (b : Bool) (v : Int) : Prop:=
 (¬ PlainOk x ys gs ∧ b = false ∧ v = 8) ∨ (PlainOk x ys gs ∧ ¬ (0 ≤ n ∧ n < (ys.length : Int)) ∧ b = false ∧ v = 2) ∨
 (PlainOk x ys gs ∧ (0 ≤ n ∧ n < (ys.length : Int)) ∧ ¬ bs.length = 128 ∧ b = false ∧ v = 3) ∨ (PlainOk x ys gs ∧ (0 ≤ n ∧ n < (ys.length : Int)) ∧ bs.length = 128 ∧ (b = true ↔ LeftP ys gs n.toNat bs) ∧ v = 0)
theorem MayRel.one {x : Cfg} {ys : List (List (List UInt8))} {gs : List GoTy.T} {n : Int} {bs : List UInt8} {b b' : Bool} {v v' : Int} (h : MayRel x ys gs n bs b v) (h' : MayRel x ys gs n bs b' v') : b = b' ∧ v = v':=by
 rcases h with ⟨h1,rfl,rfl⟩ | ⟨h1,h2,rfl,rfl⟩ | ⟨h1,h2,h3,rfl,rfl⟩ | ⟨h1,h2,h3,h4,rfl⟩ <;> rcases h' with ⟨k1,rfl,rfl⟩ | ⟨k1,k2,rfl,rfl⟩ | ⟨k1,k2,k3,rfl,rfl⟩ | ⟨k1,k2,k3,k4,rfl⟩ <;> first | exact ⟨rfl,rfl⟩ | exact absurd h1 k1 | exact absurd k1 h1 | exact absurd h2 k2 | exact absurd k2 h2 | exact absurd h3 k3 | exact absurd k3 h3 | exact ⟨Bool.eq_iff_iff.2 (h4.trans k4.symm),rfl⟩
end Go.Proofs.Ythapabjlhooglaa
namespace Go.Proofs.Ythapabjlhooglaa
open Go Go.RowKit
set_option linter.unusedSimpArgs false
set_option linter.unusedVariables false
def ones (bl : List (List UInt8)) : List (List (List UInt8)):=bl.map fun b=>[b]
def CrashRel (x : Cfg) (ys : List (List (List UInt8))) (gs : List GoTy.T) (bl : List (List UInt8)) (v : Int) : Prop:=
 (¬ PlainOk x ys gs ∧ v = 8) ∨ (PlainOk x ys gs ∧ ¬ bl.length = ys.length ∧ v = 2) ∨ (PlainOk x ys gs ∧ bl.length = ys.length ∧ (∃ i,∃ h : i < bl.length,¬ (bl[i]).length = 128) ∧ v = 3) ∨
 (PlainOk x ys gs ∧ bl.length = ys.length ∧ (∀ i (h : i < bl.length),(bl[i]).length = 128) ∧ (∃ i,∃ h : i < bl.length,¬ LeftP ys gs i bl[i]) ∧ v = 8) ∨
 (PlainOk x ys gs ∧ bl.length = ys.length ∧ (∀ i (h : i < bl.length),(bl[i]).length = 128) ∧ (∀ i (h : i < bl.length),LeftP ys gs i bl[i]) ∧ v = 0)
theorem CrashRel.one {x : Cfg} {ys : List (List (List UInt8))} {gs : List GoTy.T} {bl : List (List UInt8)} {v v' : Int} (h : CrashRel x ys gs bl v) (h' : CrashRel x ys gs bl v') : v = v':=by
 rcases h with ⟨h1,rfl⟩ | ⟨h1,h2,rfl⟩ | ⟨h1,h2,⟨i,hi,h3⟩,rfl⟩ | ⟨h1,h2,h3,⟨i,hi,h4⟩,rfl⟩ | ⟨h1,h2,h3,h4,rfl⟩ <;> rcases h' with ⟨k1,rfl⟩ | ⟨k1,k2,rfl⟩ | ⟨k1,k2,⟨j,hj,k3⟩,rfl⟩ | ⟨k1,k2,k3,⟨j,hj,k4⟩,rfl⟩ | ⟨k1,k2,k3,k4,rfl⟩ <;>
  first | rfl | exact absurd h1 k1 | exact absurd k1 h1 | exact absurd h2 k2 | exact absurd k2 h2 | exact absurd (k3 i hi) h3 | exact absurd (h3 j hj) k3 | exact absurd (k4 i hi) h4 | exact absurd (h4 j hj) k4
def crashVal (v : Int) (bl : List (List UInt8)) : List (List (List UInt8)):=if v = 0 then ones bl else []
def CrashIs (base : Nat) (x : Cfg) (ys : List (List (List UInt8))) (gs : List GoTy.T) (bl : List (List UInt8)) (e : Ending) (w : World) : Prop:=
 ∃ (v : Int) (A' : Option Addr) (c' : Nat),e = .returned (.tuple #[.agg #[.slice A' (crashVal v bl).length c',.slice none 0 0],.int .i64 v]) ∧ CrashRel x ys gs bl v ∧ RdIn w (NewB base w) (.sl (.sl (.sl .byte))) (crashVal v bl) [.slice A' (crashVal v bl).length c']
theorem CrashIs.ok {base : Nat} {x : Cfg} {ys : List (List (List UInt8))} {gs : List GoTy.T} {bl : List (List UInt8)} {w : World} {A' : Option Addr} {c' n : Nat} (h : CrashRel x ys gs bl 0) (hn : n = (ones bl).length) (hr : RdIn w (NewB base w) (.sl (.sl (.sl .byte))) (ones bl) [.slice A' (ones bl).length c']) : CrashIs base x ys gs bl (.returned (.tuple #[.agg #[.slice A' n c',.slice none 0 0],.int .i64 0])) w:=by
 have e : crashVal 0 bl = ones bl:=if_pos rfl
 exact ⟨0,A',c',by rw [e,hn],h,by rw [e];exact hr⟩
end Go.Proofs.Ythapabjlhooglaa
namespace Go.Proofs.Ythapabjlhooglaa
open Go Go.RowKit
set_option linter.unusedSimpArgs false
set_option linter.unusedVariables false
set_option maxRecDepth 100000 in
set_option maxHeartbeats 1000000 in
theorem rsame8_any (k a y : Int) (A : Option Addr) (c : Nat) (bs : List UInt8) (k' a' y' : Int) (A' : Option Addr) (c' : Nat) (bs' : List UInt8) (w : World) (h1 : Bs w A bs.length bs) (h2 : Bs w A' bs'.length bs') :
 Calls Try.prog 23 #[.agg #[.int .u8 k,.int .i64 a,.int .i64 y,.slice A bs.length c],.agg #[.int .u8 k',.int .i64 a',.int .i64 y',.slice A' bs'.length c']] w fun e w'=>YesNo (k = k' ∧ a = a' ∧ y = y' ∧ bs = bs') e ∧ Below w.heap.size w w':=by
 have P0:=BoxOf.alloc (BoxOf.new w #[.int .u8 k,.int .i64 a,.int .i64 y,.slice A bs.length c] 28) (.cells #[.int .u8 k',.int .i64 a',.int .i64 y',.slice A' bs'.length c'] 28)
 have Q0:=BoxOf.new' (w.alloc (.cells #[.int .u8 k,.int .i64 a,.int .i64 y,.slice A bs.length c] 28)) (w.heap.size + 1) #[.int .u8 k',.int .i64 a',.int .i64 y',.slice A' bs'.length c'] 28 (by simp)
 have t0:=Ext.alloc (Ext.alloc (Below.refl w.heap.size w) (.cells #[.int .u8 k,.int .i64 a,.int .i64 y,.slice A bs.length c] 28)) (.cells #[.int .u8 k',.int .i64 a',.int .i64 y',.slice A' bs'.length c'] 28)
 have s1:=run_string_bs (P:=Try.prog) c 26 9 5 Try.underlying26 Try.underlying5 Try.underlying9 (h1.below t0)
 have s2:=run_string_bs (P:=Try.prog) c' 26 9 5 Try.underlying26 Try.underlying5 Try.underlying9 (h2.below t0)
 clear h1 h2
 go_enter Try.func23,Try.ntmps23
 go_upto_region 1 with fail
 generalize (w.alloc (.cells #[.int .u8 k,.int .i64 a,.int .i64 y,.slice A bs.length c] 28)).alloc (.cells #[.int .u8 k',.int .i64 a',.int .i64 y',.slice A' bs'.length c'] 28) = W at *
 have x0:=P0.cell
 have y0:=Q0.cell
 rcases Bool.eq_false_or_eq_true (k == k') with e1 | e1
 · rcases Bool.eq_false_or_eq_true (a == a') with e2 | e2
   · rcases Bool.eq_false_or_eq_true (y == y') with e3 | e3
     · go_wp2
       go_ret
       refine ⟨YesNo.of ?_,t0⟩
       simp only [beq_iff_eq] at e1 e2 e3
       simp [e1,e2,e3]
     · go_wp2
       go_ret
       exact ⟨YesNo.no fun h=>by rw [h.2.2.1] at e3;simp at e3,t0⟩
   · go_wp2
     go_ret
     exact ⟨YesNo.no fun h=>by rw [h.2.1] at e2;simp at e2,t0⟩
 · go_wp2
   go_ret
   exact ⟨YesNo.no fun h=>by rw [h.1] at e1;simp at e1,t0⟩
def LikeAt {α : Type} (l l' : List α) (i : Nat) : Prop:=∀ (h : i < l.length) (h' : i < l'.length),l[i] = l'[i]
theorem like_all {α : Type} {l l' : List α} (hl : l.length = l'.length) {j : Nat} (hj : ¬ j < l.length) (h : ∀ i,i < j → LikeAt l l' i) : l = l':=
 List.ext_getElem hl fun i h1 h2=>h i (by omega) h1 h2
end Go.Proofs.Ythapabjlhooglaa
namespace Go.Proofs.Ythapabjlhooglaa
open Go Go.RowKit
set_option linter.unusedSimpArgs false
set_option linter.unusedVariables false
theorem MarksO.slice {w : World} {S : Nat → Prop} {tid : TypeId} {u : Value} {ms : List Int} (h : MarksO w S tid u ms) : ∃ A c,u = .slice A ms.length c:=by
 rcases h with ⟨rfl,A,c,rfl,_⟩ | ⟨g,cap,cur,rfl,_⟩
 · exact ⟨A,c,rfl⟩
 · exact ⟨_,_,rfl⟩
theorem MarksO.mono {w : World} {S S' : Nat → Prop} {tid : TypeId} {u : Value} {ms : List Int} (h : MarksO w S tid u ms) (hS : ∀ b,S b → S' b) : MarksO w S' tid u ms:=by
 rcases h with h | ⟨g,cap,cur,e,hg,hr⟩
 · exact .inl h
 · exact .inr ⟨g,cap,cur,e,hS g hg,hr⟩
theorem MarksO.frame {w w' : World} {S : Nat → Prop} {tid : TypeId} {u : Value} {ms : List Int} (h : MarksO w S tid u ms) (hf : ∀ b,S b → w'.heap[b]? = w.heap[b]?) : MarksO w' S tid u ms:=by
 rcases h with h | ⟨g,cap,cur,e,hg,hh,hr⟩
 · exact .inl h
 · exact .inr ⟨g,cap,cur,e,hg,by rw [hf g hg];exact hh,hr⟩
theorem MarksO.setLo {w : World} {lo : Nat} {tid : TypeId} {u : Value} {ms : List Int} (h : MarksO w (Iv (lo + 1) w.heap.size) tid u ms) (i : Nat) (v : Value) : MarksO (w.setCell ⟨lo,i,none⟩ v) (Iv (lo + 1) (w.setCell ⟨lo,i,none⟩ v).heap.size) tid u ms:=by
 rw [msize]
 exact h.frame fun b hb=>Below.heap_setCell _ _ _ _ (show b ≠ lo by have:=hb.1;omega)
theorem RdIn.setLo {w : World} {lo : Nat} {Q : Nat → Prop} {t : Ty} {x : t.T} {cs : List Value} (h : RdIn w (fun b=>(Iv (lo + 1) w.heap.size b ∧ Live w b) ∧ Q b) t x cs) (i : Nat) (v : Value) : RdIn (w.setCell ⟨lo,i,none⟩ v) (fun b=>(Iv (lo + 1) (w.setCell ⟨lo,i,none⟩ v).heap.size b ∧ Live (w.setCell ⟨lo,i,none⟩ v) b) ∧ Q b) t x cs:=by
 rw [msize]
 exact (h.frame fun b hb=>Below.heap_setCell _ _ _ _ (show b ≠ lo by have:=hb.1.1.1;omega)).mono fun b hb=>⟨⟨hb.1.1,hb.1.2.set _ _⟩,hb.2⟩
end Go.Proofs.Ythapabjlhooglaa
namespace Go.Proofs.Ythapabjlhooglaa
open Go Go.RowKit
set_option linter.unusedSimpArgs false
set_option linter.unusedVariables false
theorem Own.rdin {w : World} {base g : Nat} {l : List UInt8} (h : Own w base g l) (hl : l.length = 128) : RdIn w (NewB base w) (.sl .byte) l [.slice (some ⟨g,0,none⟩) 128 128]:=by
 unfold Own at h
 exact (OwnL.of_bytes (bs:=l) (by rw [hl];exact h)).bytes_rdin (by rw [hl];decide)
theorem wp_make_full {P : Program} (w : World) {o : Oper} {a : Act} {K : Act → World → Prop} {Q : Exit → Act → World → Prop}
 (l c : Operand) (t : TypeId) (hop : o.op = Op.makeSlice t l c)
 (base : Nat) (e : TypeId) (i : TypeInfo) (z : Value) (size : Nat) (h1 : P.underlying t = some (.slice e)) (h2 : P.info? e = some i) (h3 : i.zero = some z) (h4 : i.size = size)
 (kl kc : IntKind) (L C : Int) (n : Nat) (hl : a.eval l = .int kl L) (hc : a.eval c = .int kc C) (hL : L = (n : Int)) (hC : C = (n : Int)) (b2 : i.bytes * n ≤ 281474976710656) (b3 : n ≤ maxLen) (b4 : base ≤ w.heap.size)
 (hK : ∀ w',w'.ownsRow base e size (.slice (some ⟨w.heap.size,0,none⟩) n n) n (madeCells z.cells (n * size)).toList → w.grownBy w' none → K (a.put o.dst (.slice (some ⟨w.heap.size,0,none⟩) n n)) w') :
 o.wp P a w K Q:=by
 obtain ⟨w',hrun,r1,r2⟩:=run_make_full (P:=P) w base t e i z size h1 h2 h3 h4 kl kc n b2 b3 b4
 subst hL
 subst hC
 unfold Oper.wp
 simp [execOp,hop,hl,hc,hrun,Result.andThen]
 exact hK w' r1 r2
def nulls (n : Nat) : List (List (List UInt8)):=List.replicate n [zeros]
def NewRel (x : Cfg) (v : Int) (ys : List (List (List UInt8))) : Prop:=(¬ x.Ok ∧ v = 8 ∧ ys = []) ∨ (x.Ok ∧ v = 0 ∧ ys = nulls (x.c * x.r * (x.m - 1)).toNat)
theorem NewRel.one {x : Cfg} {v v' : Int} {ys zs : List (List (List UInt8))} (h : NewRel x v ys) (h' : NewRel x v' zs) : v = v' ∧ ys = zs:=by
 rcases h with ⟨h1,rfl,rfl⟩ | ⟨h1,rfl,rfl⟩ <;> rcases h' with ⟨k1,rfl,rfl⟩ | ⟨k1,rfl,rfl⟩ <;> first | exact ⟨rfl,rfl⟩ | exact absurd h1 k1 | exact absurd k1 h1
end Go.Proofs.Ythapabjlhooglaa
namespace Go.Proofs.Ythapabjlhooglaa
open Go Go.RowKit
set_option linter.unusedSimpArgs false
set_option linter.unusedVariables false
def numB (n : Int) (g : GoTy.T) : Bool:=decide (n ≤ nuOf g)
def lastOf (ys : List (List (List UInt8))) : List Int:=ys.map fun l=>(l.length : Int) - 1
def mkOf (ki : UInt8) (ys : List (List (List UInt8))) : List Int:=if ki = 4 then lastOf ys else []
def newGo (number : Int) (ki : UInt8) (a y : Int) (bs : List UInt8) (ys : List (List (List UInt8))) : GoTy.T:=(number,(ki,a,y,bs,()),mkOf ki ys,())
def BegRel (x : Cfg) (ys : List (List (List UInt8))) (gs : List GoTy.T) (number : Int) (ki : UInt8) (a y : Int) (bs : List UInt8) (v : Int) (zs : List (List (List UInt8))) (hs : List GoTy.T) : Prop:=
 (¬ PlainOk x ys gs ∧ v = 8 ∧ zs = [] ∧ hs = []) ∨
 (PlainOk x ys gs ∧ ¬ askCode x (ki.toNat : Int) a y bs.length = 0 ∧ v = askCode x (ki.toNat : Int) a y bs.length ∧ zs = [] ∧ hs = []) ∨
 (PlainOk x ys gs ∧ askCode x (ki.toNat : Int) a y bs.length = 0 ∧ ¬ (1 ≤ number ∧ ¬ SomeIs (numB number) gs) ∧ v = 2 ∧ zs = [] ∧ hs = []) ∨
 (PlainOk x ys gs ∧ askCode x (ki.toNat : Int) a y bs.length = 0 ∧ (1 ≤ number ∧ ¬ SomeIs (numB number) gs) ∧ gs.length = 8 ∧ v = 9 ∧ zs = [] ∧ hs = []) ∨
 (PlainOk x ys gs ∧ askCode x (ki.toNat : Int) a y bs.length = 0 ∧ (1 ≤ number ∧ ¬ SomeIs (numB number) gs) ∧ ¬ gs.length = 8 ∧ v = 0 ∧ zs = ys ∧ hs = gs ++ [newGo number ki a y bs ys])
theorem BegRel.one {x : Cfg} {ys : List (List (List UInt8))} {gs : List GoTy.T} {number : Int} {ki : UInt8} {a y : Int} {bs : List UInt8} {v v' : Int} {zs zs' : List (List (List UInt8))} {hs hs' : List GoTy.T} (h : BegRel x ys gs number ki a y bs v zs hs) (h' : BegRel x ys gs number ki a y bs v' zs' hs') : v = v' ∧ zs = zs' ∧ hs = hs':=by
 rcases h with ⟨h1,rfl,rfl,rfl⟩ | ⟨h1,h2,rfl,rfl,rfl⟩ | ⟨h1,h2,h3,rfl,rfl,rfl⟩ | ⟨h1,h2,h3,h4,rfl,rfl,rfl⟩ | ⟨h1,h2,h3,h4,rfl,rfl,rfl⟩ <;> rcases h' with ⟨k1,rfl,rfl,rfl⟩ | ⟨k1,k2,rfl,rfl,rfl⟩ | ⟨k1,k2,k3,rfl,rfl,rfl⟩ | ⟨k1,k2,k3,k4,rfl,rfl,rfl⟩ | ⟨k1,k2,k3,k4,rfl,rfl,rfl⟩ <;>
  first | exact ⟨rfl,rfl,rfl⟩ | exact absurd h1 k1 | exact absurd k1 h1 | exact absurd h2 k2 | exact absurd k2 h2 | exact absurd h3 k3 | exact absurd k3 h3 | exact absurd h4 k4 | exact absurd k4 h4
theorem MarksO.of_own {w : World} {base : Nat} {tid : TypeId} {v : Value} {ms : List Int} (h : w.ownsRow base tid 1 v ms.length (ms.map fun x=>Value.int .i64 x)) : MarksO w (Iv base w.heap.size) tid v ms:=by
 rcases h.2 with ⟨rfl,h0⟩ | ⟨g,cap,cur,rfl,hg,hh,h5,h6,h7,h8⟩
 · exact .inl ⟨List.eq_nil_of_length_eq_zero h0,none,0,rfl,by unfold maxLen;omega⟩
 · exact .inr ⟨g,cap,cur,rfl,⟨hg,(Array.getElem?_eq_some_iff.1 hh).1⟩,hh,h5,h6,by rw [h7,Nat.mul_one],by rw [Nat.mul_one] at h8;exact h8⟩
theorem own_form {w : World} {base : Nat} {e : TypeId} {size : Nat} {v : Value} {n : Nat} {xs : List Value} (h : w.ownsRow base e size v n xs) : ∃ A c,v = .slice A n c:=by
 rcases h.2 with ⟨rfl,h0⟩ | ⟨g,cap,cur,rfl,_⟩
 · exact ⟨none,0,by rw [h0]⟩
 · exact ⟨_,_,rfl⟩
end Go.Proofs.Ythapabjlhooglaa
namespace Go.Proofs.Ythapabjlhooglaa
open Go Go.RowKit
set_option linter.unusedSimpArgs false
set_option linter.unusedVariables false
theorem cell_lt {w : World} {b o : Nat} {v : Value} (h : w.cell? ⟨b,o,none⟩ = some v) : b < w.heap.size:=by
 rcases Nat.lt_or_ge b w.heap.size with h1 | h1
 · exact h1
 · have h2 : w.heap[b]? = none:=Array.getElem?_eq_none h1
   unfold World.cell? at h
   simp [h2] at h
theorem eqb_yes (S T : Nat → Prop) (us vs : List UInt8) (A2 : Option Addr) (c2 : Nat) (A3 : Option Addr) (c3 : Nat) (w : World) (h1 : RdIn w S (.sl .byte) us [.slice A2 us.length c2]) (h2 : RdIn w T (.sl .byte) vs [.slice A3 vs.length c3]) :
 Calls Try.prog 56 #[.slice A2 us.length c2,.slice A3 vs.length c3] w fun e w''=>YesNo (us = vs) e ∧ Below w.heap.size w w'':=by
 refine (eqb_any A2 A3 us.length vs.length c2 c3 us vs w h1.bytes_bs h2.bytes_bs).mono ?_
 rintro e w1 ⟨rfl,rfl⟩
 exact ⟨YesNo.of (by simp),Below.refl _ _⟩
set_option maxRecDepth 100000 in
set_option maxHeartbeats 2000000 in
theorem eqf1_any (S T : Nat → Prop) (xs zs : List (List UInt8)) (A : Option Addr) (c : Nat) (D : Option Addr) (dc : Nat) (w : World) (hx : RdIn w S (.sl (.sl .byte)) xs [.slice A xs.length c]) (hz : RdIn w T (.sl (.sl .byte)) zs [.slice D zs.length dc]) :
 Calls Try.prog 59 #[.slice A xs.length c,.slice D zs.length dc,.func (.func 56) #[] #[]] w fun e w'=>YesNo (xs = zs) e ∧ Below w.heap.size w w':=by
 have HLE : Hid (∀ (w' : World) (us vs : List UInt8) (A2 : Option Addr) (c2 : Nat) (A3 : Option Addr) (c3 : Nat),RdIn w' S (.sl .byte) us [.slice A2 us.length c2] → RdIn w' T (.sl .byte) vs [.slice A3 vs.length c3] → Calls Try.prog 56 #[.slice A2 us.length c2,.slice A3 vs.length c3] w' fun e w''=>YesNo (us = vs) e ∧ Below w'.heap.size w' w''):=fun w' us vs A2 c2 A3 c3 h1 h2=>eqb_yes S T us vs A2 c2 A3 c3 w' h1 h2
 have HX:=Lib.hid hx
 have HZ:=Lib.hid hz
 have HXM:=Lib.hid (val_max hx)
 clear hx hz
 go_enter Try.func59,Try.ntmps59
 rcases Bool.eq_false_or_eq_true ((xs.length : Int) != (zs.length : Int)) with e1 | e1
 · go_wp2
   go_ret
   exact ⟨YesNo.no fun h=>by rw [h] at e1;simp at e1,Below.refl _ _⟩
 · have HLX : Hid (xs.length = zs.length):=by have h9 : (xs.length : Int) = (zs.length : Int):=(by simpa using e1)
                                              show _ = _
                                              omega
   obtain ⟨W,hW⟩ : ∃ z : World,z = w:=⟨_,rfl⟩
   have b0 : Below W.heap.size W w:=by rw [hW];exact Below.refl _ _
   have HWW:=Lib.hid hW
   rw [← hW] at HX HZ
   clear hW
   go_wp2
   clear e1
   go_loopw [17] (fun i wr=>∃ (j : Nat),j ≤ xs.length ∧ i = .int .i64 j ∧ Below W.heap.size W wr ∧ Hid (∀ i,i < j → LikeAt xs zs i)) (fun i _=>xs.length - (intOf i).toNat)
   case atStart=>exact ⟨0,by omega,rfl,b0,fun i h=>absurd h (Nat.not_lt_zero _)⟩
   case round=>
    obtain ⟨j,hj,rfl,b1,HA⟩:=hrel
    clear b0
    have bw : Below w.heap.size w wr:=by have:=HWW.out;subst this;exact b1
    by_cases hlt : j < xs.length
    · have hlt2 : j < zs.length:=by have:=HLX.out;omega
      obtain ⟨b,off,A2,c2,rfl,q2,r2⟩:=val_at (HX.out.below b1) hlt
      obtain ⟨b',off',A3,c3,rfl,q3,r3⟩:=val_at (HZ.out.below b1) hlt2
      have HLK : Hid (LikeAt xs zs j ↔ xs[j] = zs[j]):=⟨fun h=>h hlt hlt2,fun h _ _=>h⟩
      generalize xs[j] = us at *
      generalize zs[j] = vs at *
      have HWJ:=next_wrap HXM.out hlt
      have HLJ:=Lib.hid hlt
      have HC:=Lib.hid (HLE.out wr us vs A2 c2 A3 c3 r2 r3)
      clear r2 r3
      go_wp2_with fail
      refine HC.out.mono ?_
      rintro e w3 ⟨⟨bv,rfl,hbv⟩,b3⟩
      have HBV:=Lib.hid hbv
      clear hbv
      cases bv with
      | false=>
        go_wp2
        go_ret
        exact ⟨YesNo.no fun h=>Bool.noConfusion (HBV.out.2 (HLK.out.1 (by rw [h];intro _ _;rfl))),Ext.trans bw b3⟩
      | true=>
        have hk:=HLK.out.2 (HBV.out.1 (by first | rfl | trivial))
        have HA' : Hid (∀ i,i < j + 1 → LikeAt xs zs i):=by
         intro i hi
         by_cases h : i = j
         · subst h
           exact hk
         · exact HA.out i (by omega)
        clear hk
        have b5:=Ext.trans b1 b3
        go_wp2
        go_roundw
        case rel=>exact ⟨j + 1,HLJ.out,by first | exact round_same HWJ | go_num,b5,HA'⟩
        case measure=>first | exact round_less HWJ HLJ.out | (have h:=HLJ.out;simp [intOf];omega)
    · have HN:=Lib.hid (like_all HLX.out hlt HA.out)
      go_wp2
      go_ret
      exact ⟨YesNo.yes HN.out,bw⟩
end Go.Proofs.Ythapabjlhooglaa
namespace Go.Proofs.Ythapabjlhooglaa
open Go Go.RowKit
set_option linter.unusedSimpArgs false
set_option linter.unusedVariables false
abbrev FlTy : Ty:=.st (.prod .int (.prod (.st (.prod .byte (.prod .int (.prod .int (.prod (.sl .byte) .unit))))) (.prod (.sl .byte) (.prod (.sl .u32) (.prod (.sl (.sl .byte)) .unit)))))
abbrev FlRaw : Type:=Int × (UInt8 × Int × Int × List UInt8 × Unit) × List UInt8 × List Nat × List (List UInt8) × Unit
def fN (f : FlTy.T) : Int:=(show FlRaw from f).1
def fK (f : FlTy.T) : UInt8:=(show FlRaw from f).2.1.1
def fA (f : FlTy.T) : Int:=(show FlRaw from f).2.1.2.1
def fM (f : FlTy.T) : Int:=(show FlRaw from f).2.1.2.2.1
def fD (f : FlTy.T) : List UInt8:=(show FlRaw from f).2.1.2.2.2.1
def fS (f : FlTy.T) : List UInt8:=(show FlRaw from f).2.2.1
def fQ (f : FlTy.T) : List Nat:=(show FlRaw from f).2.2.2.1
def fB (f : FlTy.T) : List (List UInt8):=(show FlRaw from f).2.2.2.2.1
def mkFl (n : Int) (k : UInt8) (a y : Int) (bs : List UInt8) (st : List UInt8) (sq : List Nat) (ds : List (List UInt8)) : FlTy.T:=(show FlRaw from (n,(k,a,y,bs,()),st,sq,ds,()))
theorem fl_eta (f : FlTy.T) : f = mkFl (fN f) (fK f) (fA f) (fM f) (fD f) (fS f) (fQ f) (fB f):=by
 obtain ⟨n,⟨k,a,y,bs,u⟩,st,sq,ds,v⟩:=f
 rfl
theorem fl_ext {f g : FlTy.T} (h1 : fN f = fN g) (h2 : fK f = fK g) (h3 : fA f = fA g) (h4 : fM f = fM g) (h5 : fD f = fD g) (h6 : fS f = fS g) (h7 : fQ f = fQ g) (h8 : fB f = fB g) : f = g:=by
 rw [fl_eta f,fl_eta g,h1,h2,h3,h4,h5,h6,h7,h8]
def kI (f : FlTy.T) : Int:=((fK f).toNat : Int)
section
variable {w : World} {S : Nat → Prop}
theorem fl_view {f : FlTy.T} {cs : List Value} (h : RdIn w S FlTy f cs) : ∃ v u t x : Value,cs = [.int .i64 (fN f),.int .u8 (kI f),.int .i64 (fA f),.int .i64 (fM f),v,u,t,x] ∧ (IsInt (fN f) ∧ IsInt (fA f) ∧ IsInt (fM f)) ∧ RdIn w S (.sl .byte) (fD f) [v] ∧ RdIn w S (.sl .byte) (fS f) [u] ∧ RdIn w S (.sl .u32) (fQ f) [t] ∧ RdIn w S (.sl (.sl .byte)) (fB f) [x]:=by
 obtain ⟨nu,a,st,sq,ds,x⟩:=f
 obtain ⟨c0,d0,rfl,r0,h⟩:=rdin_prod.1 (rdin_st.1 h)
 obtain ⟨c1,d1,rfl,r1,h⟩:=rdin_prod.1 h
 obtain ⟨c2,d2,rfl,r2,h⟩:=rdin_prod.1 h
 obtain ⟨c3,d3,rfl,r3,h⟩:=rdin_prod.1 h
 obtain ⟨c4,d4,rfl,r4,h⟩:=rdin_prod.1 h
 obtain rfl:=rdin_unit.1 h
 obtain ⟨rfl,i0⟩:=rdin_int.1 r0
 obtain ⟨ki,at',many,bs,v,rfl,rfl,i1,i2,r5⟩:=ask_view r1
 obtain ⟨A,c,e,_⟩:=rdin_sl.1 r2
 obtain ⟨A',c',e',_⟩:=rdin_sl.1 r3
 obtain ⟨A2,c2,e2,_⟩:=rdin_sl.1 r4
 subst e e' e2
 exact ⟨v,_,_,_,rfl,⟨i0,i1,i2⟩,r5,r2,r3,r4⟩
theorem fl_mk {f : FlTy.T} {v u t x : Value} (hi : IsInt (fN f) ∧ IsInt (fA f) ∧ IsInt (fM f)) (h1 : RdIn w S (.sl .byte) (fD f) [v]) (h2 : RdIn w S (.sl .byte) (fS f) [u]) (h3 : RdIn w S (.sl .u32) (fQ f) [t]) (h4 : RdIn w S (.sl (.sl .byte)) (fB f) [x]) : RdIn w S FlTy f [.int .i64 (fN f),.int .u8 (kI f),.int .i64 (fA f),.int .i64 (fM f),v,u,t,x]:=by
 obtain ⟨nu,⟨k,a,y,bs,z⟩,st,sq,ds,z'⟩:=f
 exact rdin_st.2 (rdin_prod.2 ⟨[_],[_,_,_,_,_,_,_],rfl,rdin_int.2 ⟨rfl,hi.1⟩,rdin_prod.2 ⟨[_,_,_,_],[_,_,_],rfl,ask_mk hi.2.1 hi.2.2 h1,rdin_prod.2 ⟨[_],[_,_],rfl,h2,rdin_prod.2 ⟨[_],[_],rfl,h3,rdin_prod.2 ⟨[_],[],rfl,h4,rdin_unit.2 rfl⟩⟩⟩⟩⟩)
theorem viewF {fs : List FlTy.T} {v : Value} (h : RdIn w S (.sl FlTy) fs [v]) : ∃ A c,v = .slice A fs.length c ∧ fs.length ≤ maxLen ∧ fs.length * 128 ≤ 140737488355328 ∧ (0 < fs.length → ∃ b off,A = some ⟨b,off,none⟩ ∧ S b ∧ ∀ i (hi : i < fs.length),∃ es : List Value,(∀ j,j < 8 → w.cell? ⟨b,off + i * 8 + j,none⟩ = es[j]?) ∧ RdIn w S FlTy fs[i] es):=by
 obtain ⟨A,c,h1,h2,h3,h4,h5⟩:=list_view h
 exact ⟨A,c,h1,Nat.le_trans h2 h3,h4,h5⟩
theorem fl_max {fs : List FlTy.T} {v : Value} (h : RdIn w S (.sl FlTy) fs [v]) : fs.length ≤ maxLen:=by
 obtain ⟨_,_,_,h1,_⟩:=viewF h
 exact h1
theorem seq_max {ms : List Nat} {v : Value} (h : RdIn w S (.sl .u32) ms [v]) : ms.length ≤ maxLen:=by
 obtain ⟨_,_,_,h1,h2,_⟩:=rdin_sl.1 h
 exact Nat.le_trans h1 h2
theorem fl_at {fs : List FlTy.T} {B : Option Addr} {n d : Nat} (h : RdIn w S (.sl FlTy) fs [.slice B n d]) {j : Nat} (hj : j < fs.length) :
 ∃ b off Ab cb As cs Aq cq Ax cx,B = some ⟨b,off,none⟩ ∧ w.cell? ⟨b,off + j * 8,none⟩ = some (.int .i64 (fN (fs[j]'hj))) ∧ w.cell? ⟨b,off + j * 8 + 1,none⟩ = some (.int .u8 (kI (fs[j]'hj))) ∧ w.cell? ⟨b,off + j * 8 + 2,none⟩ = some (.int .i64 (fA (fs[j]'hj))) ∧ w.cell? ⟨b,off + j * 8 + 3,none⟩ = some (.int .i64 (fM (fs[j]'hj))) ∧ w.cell? ⟨b,off + j * 8 + 4,none⟩ = some (.slice Ab (fD (fs[j]'hj)).length cb) ∧ w.cell? ⟨b,off + j * 8 + 5,none⟩ = some (.slice As (fS (fs[j]'hj)).length cs) ∧ w.cell? ⟨b,off + j * 8 + 6,none⟩ = some (.slice Aq (fQ (fs[j]'hj)).length cq) ∧ w.cell? ⟨b,off + j * 8 + 7,none⟩ = some (.slice Ax (fB (fs[j]'hj)).length cx) ∧
  (IsInt (fN (fs[j]'hj)) ∧ IsInt (fA (fs[j]'hj)) ∧ IsInt (fM (fs[j]'hj))) ∧ RdIn w S (.sl .byte) (fD (fs[j]'hj)) [.slice Ab (fD (fs[j]'hj)).length cb] ∧ RdIn w S (.sl .byte) (fS (fs[j]'hj)) [.slice As (fS (fs[j]'hj)).length cs] ∧ RdIn w S (.sl .u32) (fQ (fs[j]'hj)) [.slice Aq (fQ (fs[j]'hj)).length cq] ∧ RdIn w S (.sl (.sl .byte)) (fB (fs[j]'hj)) [.slice Ax (fB (fs[j]'hj)).length cx]:=by
 obtain ⟨A1,c1,e1,_,_,hr1⟩:=viewF h
 injection e1 with e11 e12 e13
 obtain ⟨b,off,e2,_,hrow⟩:=hr1 (by omega)
 obtain ⟨es,hc,rg⟩:=hrow j hj
 obtain ⟨v,u,t,x,rfl,hi,R1,R2,R3,R4⟩:=fl_view rg
 obtain ⟨Ab,cb,e3,_⟩:=rdin_sl.1 R1
 obtain ⟨As,cs,e4,_⟩:=rdin_sl.1 R2
 obtain ⟨Aq,cq,e5,_⟩:=rdin_sl.1 R3
 obtain ⟨Ax,cx,e6,_⟩:=rdin_sl.1 R4
 obtain rfl:=(List.cons.inj e3).1
 obtain rfl:=(List.cons.inj e4).1
 obtain rfl:=(List.cons.inj e5).1
 obtain rfl:=(List.cons.inj e6).1
 exact ⟨b,off,Ab,cb,As,cs,Aq,cq,Ax,cx,e11.trans e2,hc 0 (by decide),hc 1 (by decide),hc 2 (by decide),hc 3 (by decide),hc 4 (by decide),hc 5 (by decide),hc 6 (by decide),hc 7 (by decide),hi,R1,R2,R3,R4⟩
theorem flat_at {e : Ty} (he : e.flat = true) {xs : List e.T} {A : Option Addr} {n c : Nat} (h : RdIn w S (.sl e) xs [.slice A n c]) {k : Nat} (hk : k < xs.length) : ∃ b off,A = some ⟨b,off,none⟩ ∧ w.cell? ⟨b,off + k,none⟩ = some (encT e (xs[k]'hk)):=by
 obtain ⟨h1,h2⟩:=RdIn.row he h
 rcases h2 with h2 | ⟨b,off,hA,h2⟩
 · rw [List.map_eq_nil_iff] at h2
   rw [h2] at hk
   exact absurd hk (by simp)
 · refine ⟨b,off,hA,?_⟩
   have:=h2 k (by simpa using hk)
   simpa [hk] using this
theorem st_at {xs : List UInt8} {A : Option Addr} {n c : Nat} (h : RdIn w S (.sl .byte) xs [.slice A n c]) {k : Nat} (hk : k < xs.length) : ∃ b off,A = some ⟨b,off,none⟩ ∧ w.cell? ⟨b,off + k,none⟩ = some (.int .u8 ((xs[k]'hk).toNat : Int)):=flat_at (e:=.byte) rfl h hk
theorem sq_at {xs : List Nat} {A : Option Addr} {n c : Nat} (h : RdIn w S (.sl .u32) xs [.slice A n c]) {k : Nat} (hk : k < xs.length) : ∃ b off,A = some ⟨b,off,none⟩ ∧ w.cell? ⟨b,off + k,none⟩ = some (.int .u32 ((xs[k]'hk : Nat) : Int)):=flat_at (e:=.u32) rfl h hk
theorem sq_small {xs : List Nat} {v : Value} (h : RdIn w S (.sl .u32) xs [v]) : ∀ q ∈ xs,q < 2 ^ 32:=by
 obtain ⟨A,c,_,_,_,_,hh⟩:=rdin_sl.1 h
 intro q hq
 rcases hh with h0 | ⟨b,off,_,_,hc⟩
 · have h1 : xs = []:=h0
   rw [h1] at hq;cases hq
 · obtain ⟨i,hi,rfl⟩:=List.getElem_of_mem hq
   obtain ⟨es,_,hr⟩:=hc i hi
   exact (rdin_u32.1 hr).2
end
def blkB (k : Int) (s : UInt8) (q n : Nat) : Bool:=decide (s.toNat ≤ 3) && (decide (s.toNat = 2) == decide (0 < q)) && (if k = 1 then (decide (s.toNat = 0 ∧ n = 0) || decide (s.toNat = 3 ∧ n = 128)) else decide (n = 0))
def blksB (k : Int) : List UInt8 → List Nat → List (List UInt8) → Bool
 | s :: ss,q :: qs,d :: ds=>blkB k s q d.length && blksB k ss qs ds
 | [],_,_=>true
 | _,_,_=>false
def codeF (x : Cfg) (f : FlTy.T) : Int:=askCode x (kI f) (fA f) (fM f) (fD f).length
def oneB (x : Cfg) (f : FlTy.T) : Bool:=decide (codeF x f = 0) && decide (1 ≤ fN f) && decide (((fS f).length : Int) = fM f) && decide (((fB f).length : Int) = fM f) && decide (((fQ f).length : Int) = if kI f = 4 then 1 else fM f) && blksB (kI f) (fS f) (fQ f) (fB f)
def meetF (f g : FlTy.T) : Bool:=touchB (kI f) (fA f) (fM f) (kI g) (fA g) (fM g)
def firstB (fs : List FlTy.T) (at' : Nat) : Bool:=match fs[at']? with | some g=>(fs.take at').all (fun f=>!meetF f g) | none=>true
def goesB (f : FlTy.T) : Bool:=(fS f).any (fun s=>s != 0)
def stB (x : Cfg) (fs : List FlTy.T) (i : Nat) : Bool:=match fs[i]? with
 | some f=>oneB x f && (match i with | 0=>true | k + 1=>(match fs[k]? with | some g=>decide (fN g < fN f) | none=>true)) && (!goesB f || firstB fs i)
 | none=>true
def flB (x : Cfg) (fs : List FlTy.T) : Bool:=decide x.Ok && decide (fs.length ≤ 8) && (List.range fs.length).all (fun i=>stB x fs i)
theorem flB_iff {x : Cfg} {fs : List FlTy.T} : flB x fs = true ↔ x.Ok ∧ fs.length ≤ 8 ∧ ∀ i,i < fs.length → stB x fs i = true:=by
 unfold flB
 simp [and_assoc]
theorem oneB_iff {x : Cfg} {f : FlTy.T} : oneB x f = true ↔ codeF x f = 0 ∧ 1 ≤ fN f ∧ ((fS f).length : Int) = fM f ∧ ((fB f).length : Int) = fM f ∧ ((fQ f).length : Int) = (if kI f = 4 then 1 else fM f) ∧ blksB (kI f) (fS f) (fQ f) (fB f) = true:=by
 unfold oneB
 simp [and_assoc]
theorem firstB_iff {fs : List FlTy.T} {i : Nat} (hi : i < fs.length) : firstB fs i = true ↔ ∀ j (hj : j < i),meetF (fs[j]'(by omega)) fs[i] = false:=by
 unfold firstB
 rw [List.getElem?_eq_getElem hi]
 simp only [List.all_eq_true,Bool.not_eq_true']
 constructor
 · intro h j hj
   refine h _ ?_
   rw [List.mem_take_iff_getElem]
   exact ⟨j,by omega,rfl⟩
 · intro h g hg
   obtain ⟨j,hj,rfl⟩:=List.mem_take_iff_getElem.1 hg
   exact h j (by omega)
theorem stB_iff {x : Cfg} {fs : List FlTy.T} {i : Nat} (hi : i < fs.length) : stB x fs i = true ↔ oneB x fs[i] = true ∧ (∀ (h : 0 < i),fN (fs[i - 1]'(by omega)) < fN fs[i]) ∧ (goesB fs[i] = true → firstB fs i = true):=by
 unfold stB
 rw [List.getElem?_eq_getElem hi]
 cases i with
 | zero=>simp;cases goesB (fs[0]'hi) <;> simp
 | succ k=>
   simp only [List.getElem?_eq_getElem (show k < fs.length by omega),Bool.and_eq_true,decide_eq_true_eq,Bool.or_eq_true,Bool.not_eq_true']
   constructor
   · rintro ⟨⟨h1,h2⟩,h3⟩
     exact ⟨h1,fun _=>h2,fun h=>by rcases h3 with h3 | h3;· rw [h3] at h;cases h
                                   · exact h3⟩
   · rintro ⟨h1,h2,h3⟩
     refine ⟨⟨h1,h2 (by omega)⟩,?_⟩
     cases hg : goesB (fs[k + 1]'hi)
     · exact .inl rfl
     · exact .inr (h3 hg)
theorem blksB_iff {k : Int} : ∀ {ss : List UInt8} {qs : List Nat} {ds : List (List UInt8)},ss.length = ds.length → ss.length ≤ qs.length → (blksB k ss qs ds = true ↔ ∀ i (h : i < ss.length) (h1 : i < qs.length) (h2 : i < ds.length),blkB k ss[i] qs[i] (ds[i]).length = true)
 | [],qs,ds,_,_=>by simp [blksB]
 | s :: ss,[],_,_,h=>by simp at h
 | s :: ss,q :: qs,[],h,_=>by simp at h
 | s :: ss,q :: qs,d :: ds,h1,h2=>by
   simp only [blksB,Bool.and_eq_true]
   rw [blksB_iff (by simpa using h1) (by simpa using h2)]
   constructor
   · rintro ⟨h3,h4⟩ i h5 h6 h7
     cases i with
     | zero=>exact h3
     | succ i=>exact h4 i (by simpa using h5) (by simpa using h6) (by simpa using h7)
   · intro h
     exact ⟨h 0 (by simp) (by simp) (by simp),fun i h5 h6 h7=>h (i + 1) (by simpa using h5) (by simpa using h6) (by simpa using h7)⟩
end Go.Proofs.Ythapabjlhooglaa
namespace Go.Proofs.Ythapabjlhooglaa
open Go Go.RowKit
set_option linter.unusedSimpArgs false
set_option linter.unusedVariables false
set_option maxRecDepth 100000 in
set_option maxHeartbeats 2000000 in
theorem equ8_any (S T : Nat → Prop) (xs zs : List UInt8) (A : Option Addr) (c : Nat) (D : Option Addr) (dc : Nat) (w : World) (hx : RdIn w S (.sl .byte) xs [.slice A xs.length c]) (hz : RdIn w T (.sl .byte) zs [.slice D zs.length dc]) :
 Calls Try.prog 57 #[.slice A xs.length c,.slice D zs.length dc] w fun e w'=>YesNo (xs = zs) e ∧ Below w.heap.size w w':=by
 have HX:=Lib.hid hx
 have HZ:=Lib.hid hz
 have HXM:=Lib.hid (byte_max hx)
 clear hx hz
 go_enter Try.func57,Try.ntmps57
 rcases Bool.eq_false_or_eq_true ((xs.length : Int) != (zs.length : Int)) with e1 | e1
 · go_wp2
   go_ret
   exact ⟨YesNo.no fun h=>by rw [h] at e1;simp at e1,Below.refl _ _⟩
 · have HLX : Hid (xs.length = zs.length):=by have h9 : (xs.length : Int) = (zs.length : Int):=(by simpa using e1)
                                              show _ = _
                                              omega
   obtain ⟨W,hW⟩ : ∃ z : World,z = w:=⟨_,rfl⟩
   have b0 : Below W.heap.size W w:=by rw [hW];exact Below.refl _ _
   have HWW:=Lib.hid hW
   rw [← hW] at HX HZ
   clear hW
   go_wp2
   clear e1
   go_loopw [13] (fun i wr=>∃ (j : Nat),j ≤ xs.length ∧ i = .int .i64 j ∧ Below W.heap.size W wr ∧ Hid (∀ i,i < j → LikeAt xs zs i)) (fun i _=>xs.length - (intOf i).toNat)
   case atStart=>exact ⟨0,by omega,rfl,b0,fun i h=>absurd h (Nat.not_lt_zero _)⟩
   case round=>
    obtain ⟨j,hj,rfl,b1,HA⟩:=hrel
    clear b0
    have bw : Below w.heap.size w wr:=by have:=HWW.out;subst this;exact b1
    by_cases hlt : j < xs.length
    · have hlt2 : j < zs.length:=by have:=HLX.out;omega
      obtain ⟨b,off,rfl,q2⟩:=st_at (HX.out.below b1) hlt
      obtain ⟨b',off',rfl,q3⟩:=st_at (HZ.out.below b1) hlt2
      have HLK : Hid (LikeAt xs zs j ↔ xs[j] = zs[j]):=⟨fun h=>h hlt hlt2,fun h _ _=>h⟩
      generalize xs[j] = us at *
      generalize zs[j] = vs at *
      have HWJ:=next_wrap HXM.out hlt
      have HLJ:=Lib.hid hlt
      have HEV : Hid ((us.toNat : Int) = (vs.toNat : Int) → us = vs):=fun h=>UInt8.toNat_inj.1 (by have h9 : (us.toNat : Int) = (vs.toNat : Int):=h;omega)
      have HEW : Hid (us = vs → (us.toNat : Int) = (vs.toNat : Int)):=fun h=>by rw [h]
      generalize (us.toNat : Int) = un at *
      generalize (vs.toNat : Int) = vn at *
      rcases Bool.eq_false_or_eq_true (un != vn) with e1 | e1
      · go_wp2
        go_quiet (fail)
        go_wp2
        go_ret
        exact ⟨YesNo.no fun h=>by have h9 : us = vs:=HLK.out.1 (by rw [h];intro _ _;rfl);rw [HEW.out h9] at e1;simp at e1,below_drewN' bw _⟩
      · have hk:=HLK.out.2 (HEV.out (by simpa using e1))
        have HA' : Hid (∀ i,i < j + 1 → LikeAt xs zs i):=by
         intro i hi
         by_cases h : i = j
         · subst h
           exact hk
         · exact HA.out i (by omega)
        clear hk
        go_wp2
        go_quiet (fail)
        have b5:=below_drewN' b1 nq
        go_wp2
        go_roundw
        case rel=>exact ⟨j + 1,HLJ.out,by first | exact round_same HWJ | go_num,b5,HA'⟩
        case measure=>first | exact round_less HWJ HLJ.out | (have h:=HLJ.out;simp [intOf];omega)
    · have HN:=Lib.hid (like_all HLX.out hlt HA.out)
      go_wp2
      go_ret
      exact ⟨YesNo.yes HN.out,bw⟩
set_option maxRecDepth 100000 in
set_option maxHeartbeats 2000000 in
theorem equ32_any (S T : Nat → Prop) (xs zs : List Nat) (A : Option Addr) (c : Nat) (D : Option Addr) (dc : Nat) (w : World) (hx : RdIn w S (.sl .u32) xs [.slice A xs.length c]) (hz : RdIn w T (.sl .u32) zs [.slice D zs.length dc]) :
 Calls Try.prog 58 #[.slice A xs.length c,.slice D zs.length dc] w fun e w'=>YesNo (xs = zs) e ∧ Below w.heap.size w w':=by
 have HX:=Lib.hid hx
 have HZ:=Lib.hid hz
 have HXM:=Lib.hid (seq_max hx)
 clear hx hz
 go_enter Try.func58,Try.ntmps58
 rcases Bool.eq_false_or_eq_true ((xs.length : Int) != (zs.length : Int)) with e1 | e1
 · go_wp2
   go_ret
   exact ⟨YesNo.no fun h=>by rw [h] at e1;simp at e1,Below.refl _ _⟩
 · have HLX : Hid (xs.length = zs.length):=by have h9 : (xs.length : Int) = (zs.length : Int):=(by simpa using e1)
                                              show _ = _
                                              omega
   obtain ⟨W,hW⟩ : ∃ z : World,z = w:=⟨_,rfl⟩
   have b0 : Below W.heap.size W w:=by rw [hW];exact Below.refl _ _
   have HWW:=Lib.hid hW
   rw [← hW] at HX HZ
   clear hW
   go_wp2
   clear e1
   go_loopw [13] (fun i wr=>∃ (j : Nat),j ≤ xs.length ∧ i = .int .i64 j ∧ Below W.heap.size W wr ∧ Hid (∀ i,i < j → LikeAt xs zs i)) (fun i _=>xs.length - (intOf i).toNat)
   case atStart=>exact ⟨0,by omega,rfl,b0,fun i h=>absurd h (Nat.not_lt_zero _)⟩
   case round=>
    obtain ⟨j,hj,rfl,b1,HA⟩:=hrel
    clear b0
    have bw : Below w.heap.size w wr:=by have:=HWW.out;subst this;exact b1
    by_cases hlt : j < xs.length
    · have hlt2 : j < zs.length:=by have:=HLX.out;omega
      obtain ⟨b,off,rfl,q2⟩:=sq_at (HX.out.below b1) hlt
      obtain ⟨b',off',rfl,q3⟩:=sq_at (HZ.out.below b1) hlt2
      have HLK : Hid (LikeAt xs zs j ↔ xs[j] = zs[j]):=⟨fun h=>h hlt hlt2,fun h _ _=>h⟩
      generalize xs[j] = us at *
      generalize zs[j] = vs at *
      have HWJ:=next_wrap HXM.out hlt
      have HLJ:=Lib.hid hlt
      have HEV : Hid ((us : Int) = (vs : Int) → us = vs):=fun h=>by have h9 : (us : Int) = (vs : Int):=h;omega
      have HEW : Hid (us = vs → (us : Int) = (vs : Int)):=fun h=>by rw [h]
      generalize (us : Int) = un at *
      generalize (vs : Int) = vn at *
      rcases Bool.eq_false_or_eq_true (un != vn) with e1 | e1
      · go_wp2
        go_quiet (fail)
        go_wp2
        go_ret
        exact ⟨YesNo.no fun h=>by have h9 : us = vs:=HLK.out.1 (by rw [h];intro _ _;rfl);rw [HEW.out h9] at e1;simp at e1,below_drewN' bw _⟩
      · have hk:=HLK.out.2 (HEV.out (by simpa using e1))
        have HA' : Hid (∀ i,i < j + 1 → LikeAt xs zs i):=by
         intro i hi
         by_cases h : i = j
         · subst h
           exact hk
         · exact HA.out i (by omega)
        clear hk
        go_wp2
        go_quiet (fail)
        have b5:=below_drewN' b1 nq
        go_wp2
        go_roundw
        case rel=>exact ⟨j + 1,HLJ.out,by first | exact round_same HWJ | go_num,b5,HA'⟩
        case measure=>first | exact round_less HWJ HLJ.out | (have h:=HLJ.out;simp [intOf];omega)
    · have HN:=Lib.hid (like_all HLX.out hlt HA.out)
      go_wp2
      go_ret
      exact ⟨YesNo.yes HN.out,bw⟩
def PartsF (w : World) (S : Nat → Prop) (f : FlTy.T) (Ab : Option Addr) (cb : Nat) (As : Option Addr) (cs : Nat) (Aq : Option Addr) (cq : Nat) (Ax : Option Addr) (cx : Nat) : Prop:=
 RdIn w S (.sl .byte) (fD f) [.slice Ab (fD f).length cb] ∧ RdIn w S (.sl .byte) (fS f) [.slice As (fS f).length cs] ∧ RdIn w S (.sl .u32) (fQ f) [.slice Aq (fQ f).length cq] ∧ RdIn w S (.sl (.sl .byte)) (fB f) [.slice Ax (fB f).length cx]
theorem PartsF.below {w w' : World} {S : Nat → Prop} {f : FlTy.T} {Ab : Option Addr} {cb : Nat} {As : Option Addr} {cs : Nat} {Aq : Option Addr} {cq : Nat} {Ax : Option Addr} {cx : Nat} (h : PartsF w S f Ab cb As cs Aq cq Ax cx) (hb : Below w.heap.size w w') : PartsF w' S f Ab cb As cs Aq cq Ax cx:=⟨h.1.below hb,h.2.1.below hb,h.2.2.1.below hb,h.2.2.2.below hb⟩
theorem kI_inj {f g : FlTy.T} (h : kI f = kI g) : fK f = fK g:=by
 unfold kI at h
 exact UInt8.toNat_inj.1 (by omega)
set_option maxRecDepth 100000 in
set_option maxHeartbeats 4000000 in
theorem fsame1_any (S T : Nat → Prop) (f g : FlTy.T) (Ab : Option Addr) (cb : Nat) (As : Option Addr) (cs : Nat) (Aq : Option Addr) (cq : Nat) (Ax : Option Addr) (cx : Nat) (Bb : Option Addr) (db : Nat) (Bs' : Option Addr) (ds : Nat) (Bq : Option Addr) (dq : Nat) (Bx : Option Addr) (dx : Nat) (w : World) (hf : PartsF w S f Ab cb As cs Aq cq Ax cx) (hg : PartsF w T g Bb db Bs' ds Bq dq Bx dx) :
 Calls Try.prog 55 #[.agg #[.int .i64 (fN f),.int .u8 (kI f),.int .i64 (fA f),.int .i64 (fM f),.slice Ab (fD f).length cb,.slice As (fS f).length cs,.slice Aq (fQ f).length cq,.slice Ax (fB f).length cx],.agg #[.int .i64 (fN g),.int .u8 (kI g),.int .i64 (fA g),.int .i64 (fM g),.slice Bb (fD g).length db,.slice Bs' (fS g).length ds,.slice Bq (fQ g).length dq,.slice Bx (fB g).length dx]] w fun e w'=>YesNo (f = g) e ∧ Below w.heap.size w w':=by
 have P0:=BoxOf.alloc (BoxOf.new w #[.int .i64 (fN f),.int .u8 (kI f),.int .i64 (fA f),.int .i64 (fM f),.slice Ab (fD f).length cb,.slice As (fS f).length cs,.slice Aq (fQ f).length cq,.slice Ax (fB f).length cx] 67) (.cells #[.int .i64 (fN g),.int .u8 (kI g),.int .i64 (fA g),.int .i64 (fM g),.slice Bb (fD g).length db,.slice Bs' (fS g).length ds,.slice Bq (fQ g).length dq,.slice Bx (fB g).length dx] 67)
 have Q0:=BoxOf.new' (w.alloc (.cells #[.int .i64 (fN f),.int .u8 (kI f),.int .i64 (fA f),.int .i64 (fM f),.slice Ab (fD f).length cb,.slice As (fS f).length cs,.slice Aq (fQ f).length cq,.slice Ax (fB f).length cx] 67)) (w.heap.size + 1) #[.int .i64 (fN g),.int .u8 (kI g),.int .i64 (fA g),.int .i64 (fM g),.slice Bb (fD g).length db,.slice Bs' (fS g).length ds,.slice Bq (fQ g).length dq,.slice Bx (fB g).length dx] 67 (by simp)
 have t0:=Ext.alloc (Ext.alloc (Below.refl w.heap.size w) (.cells #[.int .i64 (fN f),.int .u8 (kI f),.int .i64 (fA f),.int .i64 (fM f),.slice Ab (fD f).length cb,.slice As (fS f).length cs,.slice Aq (fQ f).length cq,.slice Ax (fB f).length cx] 67)) (.cells #[.int .i64 (fN g),.int .u8 (kI g),.int .i64 (fA g),.int .i64 (fM g),.slice Bb (fD g).length db,.slice Bs' (fS g).length ds,.slice Bq (fQ g).length dq,.slice Bx (fB g).length dx] 67)
 have HF:=Lib.hid (hf.below t0)
 have HG:=Lib.hid (hg.below t0)
 clear hf hg
 go_enter Try.func55,Try.ntmps55
 go_upto_region 1 with fail
 generalize (w.alloc (.cells #[.int .i64 (fN f),.int .u8 (kI f),.int .i64 (fA f),.int .i64 (fM f),.slice Ab (fD f).length cb,.slice As (fS f).length cs,.slice Aq (fQ f).length cq,.slice Ax (fB f).length cx] 67)).alloc (.cells #[.int .i64 (fN g),.int .u8 (kI g),.int .i64 (fA g),.int .i64 (fM g),.slice Bb (fD g).length db,.slice Bs' (fS g).length ds,.slice Bq (fQ g).length dq,.slice Bx (fB g).length dx] 67) = W at *
 have x0:=P0.cell
 have y0:=Q0.cell
 rcases Bool.eq_false_or_eq_true (kI f == kI g) with e1 | e1
 rotate_left
 · go_wp2
   go_ret
   exact ⟨YesNo.no fun h=>by rw [h] at e1;simp at e1,t0⟩
 rcases Bool.eq_false_or_eq_true (fA f == fA g) with e2 | e2
 rotate_left
 · go_wp2
   go_ret
   exact ⟨YesNo.no fun h=>by rw [h] at e2;simp at e2,t0⟩
 rcases Bool.eq_false_or_eq_true (fM f == fM g) with e3 | e3
 rotate_left
 · go_wp2
   go_ret
   exact ⟨YesNo.no fun h=>by rw [h] at e3;simp at e3,t0⟩
 have H1 : Hid (kI f = kI g ∧ fA f = fA g ∧ fM f = fM g):=⟨by simpa using e1,by simpa using e2,by simpa using e3⟩
 go_wp2_with fail
 refine (eqb_yes S T (fD f) (fD g) Ab cb Bb db W HF.out.1 HG.out.1).mono ?_
 rintro e w1 ⟨⟨bv,rfl,hbv⟩,b1⟩
 have HBV:=Lib.hid hbv
 have t1:=Ext.trans t0 b1
 have P1:=P0.next b1
 have Q1:=Q0.next b1
 have HF1:=Lib.hid (HF.out.below b1)
 have HG1:=Lib.hid (HG.out.below b1)
 clear hbv P0 Q0 HF HG t0 b1 x0 y0 e1 e2 e3
 have x1:=P1.cell
 have y1:=Q1.cell
 cases bv with
 | false=>
   go_wp2
   go_ret
   exact ⟨YesNo.no fun h=>Bool.noConfusion (HBV.out.2 (by rw [h])),t1⟩
 | true=>
 have H2 : Hid (fD f = fD g):=HBV.out.1 (by first | rfl | trivial)
 clear HBV
 rcases Bool.eq_false_or_eq_true (fN f == fN g) with e4 | e4
 rotate_left
 · go_wp2
   go_ret
   exact ⟨YesNo.no fun h=>by rw [h] at e4;simp at e4,t1⟩
 have H3 : Hid (fN f = fN g):=by show _ = _;simpa using e4
 go_wp2_with fail
 refine (equ8_any S T (fS f) (fS g) As cs Bs' ds w1 HF1.out.2.1 HG1.out.2.1).mono ?_
 rintro e w2 ⟨⟨bv,rfl,hbv⟩,b2⟩
 have HBV:=Lib.hid hbv
 have t2:=Ext.trans t1 b2
 have P2:=P1.next b2
 have Q2:=Q1.next b2
 have HF2:=Lib.hid (HF1.out.below b2)
 have HG2:=Lib.hid (HG1.out.below b2)
 clear hbv P1 Q1 HF1 HG1 t1 b2 x1 y1 e4
 have x2:=P2.cell
 have y2:=Q2.cell
 cases bv with
 | false=>
   go_wp2
   go_ret
   exact ⟨YesNo.no fun h=>Bool.noConfusion (HBV.out.2 (by rw [h])),t2⟩
 | true=>
 have H4 : Hid (fS f = fS g):=HBV.out.1 (by first | rfl | trivial)
 clear HBV
 go_wp2_with fail
 refine (equ32_any S T (fQ f) (fQ g) Aq cq Bq dq w2 HF2.out.2.2.1 HG2.out.2.2.1).mono ?_
 rintro e w3 ⟨⟨bv,rfl,hbv⟩,b3⟩
 have HBV:=Lib.hid hbv
 have t3:=Ext.trans t2 b3
 have P3:=P2.next b3
 have Q3:=Q2.next b3
 have HF3:=Lib.hid (HF2.out.below b3)
 have HG3:=Lib.hid (HG2.out.below b3)
 clear hbv P2 Q2 HF2 HG2 t2 b3 x2 y2
 have x3:=P3.cell
 have y3:=Q3.cell
 cases bv with
 | false=>
   go_wp2
   go_ret
   exact ⟨YesNo.no fun h=>Bool.noConfusion (HBV.out.2 (by rw [h])),t3⟩
 | true=>
 have H5 : Hid (fQ f = fQ g):=HBV.out.1 (by first | rfl | trivial)
 clear HBV
 go_wp2_with fail
 refine (eqf1_any S T (fB f) (fB g) Ax cx Bx dx w3 HF3.out.2.2.2 HG3.out.2.2.2).mono ?_
 rintro e w4 ⟨⟨bv,rfl,hbv⟩,b4⟩
 have HBV:=Lib.hid hbv
 have t4:=Ext.trans t3 b4
 clear hbv P3 Q3 HF3 HG3 t3 b4 x3 y3
 cases bv with
 | false=>
   go_wp2
   go_ret
   exact ⟨YesNo.no fun h=>Bool.noConfusion (HBV.out.2 (by rw [h])),t4⟩
 | true=>
 have H6 : Hid (fB f = fB g):=HBV.out.1 (by first | rfl | trivial)
 go_wp2
 go_ret
 exact ⟨YesNo.yes (fl_ext H3.out (kI_inj H1.out.1) H1.out.2.1 H1.out.2.2 H2.out H4.out H5.out H6.out),t4⟩
end Go.Proofs.Ythapabjlhooglaa
namespace Go.Proofs.Ythapabjlhooglaa
open Go Go.RowKit
set_option linter.unusedSimpArgs false
set_option linter.unusedVariables false
set_option maxRecDepth 100000 in
set_option maxHeartbeats 4000000 in
theorem eqfl_any (S T : Nat → Prop) (xs zs : List FlTy.T) (A : Option Addr) (n c : Nat) (D : Option Addr) (e dc : Nat) (hn : xs.length = n) (he : zs.length = e) (w : World) (hx : RdIn w S (.sl FlTy) xs [.slice A n c]) (hz : RdIn w T (.sl FlTy) zs [.slice D e dc]) :
 Calls Try.prog 54 #[.slice A n c,.slice D e dc,.func (.func 55) #[] #[]] w fun e w'=>YesNo (xs = zs) e ∧ Below w.heap.size w w':=by
 have HX:=Lib.hid hx
 have HZ:=Lib.hid hz
 have HXM : Hid (n ≤ maxLen):=by have:=fl_max hx;show n ≤ maxLen;omega
 have HN:=Lib.hid hn
 have HE:=Lib.hid he
 clear hx hz hn he
 go_enter Try.func54,Try.ntmps54
 rcases Bool.eq_false_or_eq_true ((n : Int) != (e : Int)) with e1 | e1
 · go_wp2
   go_ret
   exact ⟨YesNo.no fun h=>by
    have h1:=HN.out
    have h2:=HE.out
    rw [h] at h1
    rw [← h1,← h2] at e1
    simp at e1,Below.refl _ _⟩
 · have HLX : Hid (xs.length = zs.length):=by
    have h9 : (n : Int) = (e : Int):=(by simpa using e1)
    have h1:=HN.out
    have h2:=HE.out
    show _ = _
    omega
   obtain ⟨W,hW⟩ : ∃ z : World,z = w:=⟨_,rfl⟩
   have b0 : Below W.heap.size W w:=by rw [hW];exact Below.refl _ _
   have HWW:=Lib.hid hW
   rw [← hW] at HX HZ
   clear hW
   go_wp2
   clear e1
   go_loopw [17] (fun i wr=>∃ (j : Nat),j ≤ n ∧ i = .int .i64 j ∧ Below W.heap.size W wr ∧ Hid (∀ i,i < j → LikeAt xs zs i)) (fun i _=>n - (intOf i).toNat)
   case atStart=>exact ⟨0,by omega,rfl,b0,fun i h=>absurd h (Nat.not_lt_zero _)⟩
   case round=>
    obtain ⟨j,hj,rfl,b1,HA⟩:=hrel
    clear b0
    have bw : Below w.heap.size w wr:=by have:=HWW.out;subst this;exact b1
    by_cases hlt : j < n
    · have hl1 : j < xs.length:=by have:=HN.out;omega
      have hl2 : j < zs.length:=by have:=HLX.out;omega
      have hle : j < e:=by have:=HE.out;omega
      obtain ⟨b,off,Ab,cb,As,cs,Aq,cq,Ax,cx,rfl,q0,q1,q2,q3,q4,q5,q6,q7,hi,r1,r2,r3,r4⟩:=fl_at (HX.out.below b1) hl1
      obtain ⟨b',off',Bb,db,Bs',ds,Bq,dq,Bx,dx,rfl,p0,p1,p2,p3,p4,p5,p6,p7,hi',s1,s2,s3,s4⟩:=fl_at (HZ.out.below b1) hl2
      have HLK : Hid (LikeAt xs zs j ↔ xs[j] = zs[j]):=⟨fun h=>h hl1 hl2,fun h _ _=>h⟩
      generalize xs[j] = f at *
      generalize zs[j] = g at *
      have HWJ:=next_wrap HXM.out hlt
      have HLJ:=Lib.hid hlt
      have HPF : Hid (PartsF wr S f Ab cb As cs Aq cq Ax cx):=⟨r1,r2,r3,r4⟩
      have HPG : Hid (PartsF wr T g Bb db Bs' ds Bq dq Bx dx):=⟨s1,s2,s3,s4⟩
      have bA:=Ext.alloc (Below.refl wr.heap.size wr) (.cells #[.int .i64 (fN f),.int .u8 (kI f),.int .i64 (fA f),.int .i64 (fM f),.slice Ab (fD f).length cb,.slice As (fS f).length cs,.slice Aq (fQ f).length cq,.slice Ax (fB f).length cx] 67)
      have F0:=BoxOf.new wr #[.int .i64 (fN f),.int .u8 (kI f),.int .i64 (fA f),.int .i64 (fM f),.slice Ab (fD f).length cb,.slice As (fS f).length cs,.slice Aq (fQ f).length cq,.slice Ax (fB f).length cx] 67
      have HP8 : Hid ((wr.alloc (.cells #[.int .i64 (fN f),.int .u8 (kI f),.int .i64 (fA f),.int .i64 (fM f),.slice Ab (fD f).length cb,.slice As (fS f).length cs,.slice Aq (fQ f).length cq,.slice Ax (fB f).length cx] 67)).cell? ⟨b',off' + j * 8,none⟩ = some (.int .i64 (fN g)) ∧ (wr.alloc (.cells #[.int .i64 (fN f),.int .u8 (kI f),.int .i64 (fA f),.int .i64 (fM f),.slice Ab (fD f).length cb,.slice As (fS f).length cs,.slice Aq (fQ f).length cq,.slice Ax (fB f).length cx] 67)).cell? ⟨b',off' + j * 8 + 1,none⟩ = some (.int .u8 (kI g)) ∧ (wr.alloc (.cells #[.int .i64 (fN f),.int .u8 (kI f),.int .i64 (fA f),.int .i64 (fM f),.slice Ab (fD f).length cb,.slice As (fS f).length cs,.slice Aq (fQ f).length cq,.slice Ax (fB f).length cx] 67)).cell? ⟨b',off' + j * 8 + 2,none⟩ = some (.int .i64 (fA g)) ∧ (wr.alloc (.cells #[.int .i64 (fN f),.int .u8 (kI f),.int .i64 (fA f),.int .i64 (fM f),.slice Ab (fD f).length cb,.slice As (fS f).length cs,.slice Aq (fQ f).length cq,.slice Ax (fB f).length cx] 67)).cell? ⟨b',off' + j * 8 + 3,none⟩ = some (.int .i64 (fM g)) ∧ (wr.alloc (.cells #[.int .i64 (fN f),.int .u8 (kI f),.int .i64 (fA f),.int .i64 (fM f),.slice Ab (fD f).length cb,.slice As (fS f).length cs,.slice Aq (fQ f).length cq,.slice Ax (fB f).length cx] 67)).cell? ⟨b',off' + j * 8 + 4,none⟩ = some (.slice Bb (fD g).length db) ∧ (wr.alloc (.cells #[.int .i64 (fN f),.int .u8 (kI f),.int .i64 (fA f),.int .i64 (fM f),.slice Ab (fD f).length cb,.slice As (fS f).length cs,.slice Aq (fQ f).length cq,.slice Ax (fB f).length cx] 67)).cell? ⟨b',off' + j * 8 + 5,none⟩ = some (.slice Bs' (fS g).length ds) ∧ (wr.alloc (.cells #[.int .i64 (fN f),.int .u8 (kI f),.int .i64 (fA f),.int .i64 (fM f),.slice Ab (fD f).length cb,.slice As (fS f).length cs,.slice Aq (fQ f).length cq,.slice Ax (fB f).length cx] 67)).cell? ⟨b',off' + j * 8 + 6,none⟩ = some (.slice Bq (fQ g).length dq) ∧ (wr.alloc (.cells #[.int .i64 (fN f),.int .u8 (kI f),.int .i64 (fA f),.int .i64 (fM f),.slice Ab (fD f).length cb,.slice As (fS f).length cs,.slice Aq (fQ f).length cq,.slice Ax (fB f).length cx] 67)).cell? ⟨b',off' + j * 8 + 7,none⟩ = some (.slice Bx (fB g).length dx)):=⟨(bA.cell (p:=⟨b',off' + j * 8,none⟩) (cell_lt p0)).trans p0,(bA.cell (p:=⟨b',off' + j * 8 + 1,none⟩) (cell_lt p1)).trans p1,(bA.cell (p:=⟨b',off' + j * 8 + 2,none⟩) (cell_lt p2)).trans p2,(bA.cell (p:=⟨b',off' + j * 8 + 3,none⟩) (cell_lt p3)).trans p3,(bA.cell (p:=⟨b',off' + j * 8 + 4,none⟩) (cell_lt p4)).trans p4,(bA.cell (p:=⟨b',off' + j * 8 + 5,none⟩) (cell_lt p5)).trans p5,(bA.cell (p:=⟨b',off' + j * 8 + 6,none⟩) (cell_lt p6)).trans p6,(bA.cell (p:=⟨b',off' + j * 8 + 7,none⟩) (cell_lt p7)).trans p7⟩
      clear r1 r2 r3 r4 s1 s2 s3 s4 hi hi' p0 p1 p2 p3 p4 p5 p6 p7
      go_upto_region 6 with fail
      generalize wr.alloc (.cells #[.int .i64 (fN f),.int .u8 (kI f),.int .i64 (fA f),.int .i64 (fM f),.slice Ab (fD f).length cb,.slice As (fS f).length cs,.slice Aq (fQ f).length cq,.slice Ax (fB f).length cx] 67) = wA at *
      obtain ⟨gf,hgf⟩ : ∃ z : Nat,z = wr.heap.size:=⟨_,rfl⟩
      rw [← hgf] at F0 ⊢
      clear hgf q0 q1 q2 q3 q4 q5 q6 q7
      obtain ⟨p0,p1,p2,p3,p4,p5,p6,p7⟩:=HP8.out
      have bB:=Ext.alloc (Below.refl wA.heap.size wA) (.cells #[.int .i64 (fN g),.int .u8 (kI g),.int .i64 (fA g),.int .i64 (fM g),.slice Bb (fD g).length db,.slice Bs' (fS g).length ds,.slice Bq (fQ g).length dq,.slice Bx (fB g).length dx] 67)
      have G0:=BoxOf.new wA #[.int .i64 (fN g),.int .u8 (kI g),.int .i64 (fA g),.int .i64 (fM g),.slice Bb (fD g).length db,.slice Bs' (fS g).length ds,.slice Bq (fQ g).length dq,.slice Bx (fB g).length dx] 67
      have F1:=F0.next bB
      go_upto_region 7 with fail
      generalize wA.alloc (.cells #[.int .i64 (fN g),.int .u8 (kI g),.int .i64 (fA g),.int .i64 (fM g),.slice Bb (fD g).length db,.slice Bs' (fS g).length ds,.slice Bq (fQ g).length dq,.slice Bx (fB g).length dx] 67) = wB at *
      obtain ⟨gg,hgg⟩ : ∃ z : Nat,z = wA.heap.size:=⟨_,rfl⟩
      rw [← hgg] at G0 ⊢
      clear hgg p0 p1 p2 p3 p4 p5 p6 p7 F0 HP8
      have x1:=F1.cell
      have y1:=G0.cell
      have b2:=Ext.trans bA bB
      have HC:=Lib.hid (fsame1_any S T f g Ab cb As cs Aq cq Ax cx Bb db Bs' ds Bq dq Bx dx wB (HPF.out.below b2) (HPG.out.below b2))
      have b3:=Ext.trans b1 b2
      have bw3:=Ext.trans bw b2
      clear bA bB F1 G0 b2
      go_wp2_with fail
      refine HC.out.mono ?_
      rintro e w3 ⟨⟨bv,rfl,hbv⟩,b4⟩
      have HBV:=Lib.hid hbv
      have b5:=Ext.trans b3 b4
      have bw5:=Ext.trans bw3 b4
      clear hbv x1 y1 HC b4
      cases bv with
      | false=>
        go_wp2
        go_ret
        exact ⟨YesNo.no fun h=>Bool.noConfusion (HBV.out.2 (HLK.out.1 (by rw [h];intro _ _;rfl))),bw5⟩
      | true=>
        have hk:=HLK.out.2 (HBV.out.1 (by first | rfl | trivial))
        have HA' : Hid (∀ i,i < j + 1 → LikeAt xs zs i):=by
         intro i hi
         by_cases h : i = j
         · subst h
           exact hk
         · exact HA.out i (by omega)
        clear hk
        go_wp2
        go_roundw
        case rel=>exact ⟨j + 1,HLJ.out,by first | rfl | exact round_same HWJ | go_num,b5,HA'⟩
        case measure=>first | exact round_less HWJ HLJ.out | (have h:=HLJ.out;simp [intOf];omega)
    · have HNN:=Lib.hid (like_all HLX.out (j:=j) (by have:=HN.out;omega) HA.out)
      go_wp2
      go_ret
      exact ⟨YesNo.yes HNN.out,bw⟩
theorem fsame24_any (S T : Nat → Prop) (xs zs : List FlTy.T) (A : Option Addr) (n c : Nat) (D : Option Addr) (e dc : Nat) (hn : xs.length = n) (he : zs.length = e) (w : World) (hx : RdIn w S (.sl FlTy) xs [.slice A n c]) (hz : RdIn w T (.sl FlTy) zs [.slice D e dc]) :
 Calls Try.prog 21 #[.slice A n c,.slice D e dc] w fun e w'=>YesNo (xs = zs) e ∧ Below w.heap.size w w':=by
 have HC:=Lib.hid (eqfl_any S T xs zs A n c D e dc hn he w hx hz)
 clear hx hz hn he
 go_enter Try.func21,Try.ntmps21
 go_wp2_with fail
 refine HC.out.mono ?_
 rintro e w1 ⟨⟨bv,rfl,hbv⟩,b1⟩
 have HBV:=Lib.hid hbv
 clear hbv
 go_wp2
 go_ret
 exact ⟨⟨bv,rfl,HBV.out⟩,b1⟩
end Go.Proofs.Ythapabjlhooglaa
