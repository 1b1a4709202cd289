/- What this claim needs of my texts, merged and shortened by a program (part 3). -/
import Derived.OwnWalk
import Derived.BigQuiet
import Derived.Lib.SliceRun
import Derived.Deep.RegionLaw
import Derived.Test.YthapabjlhooglaaZFlightAdds2
namespace Go.Proofs.Ythapabjlhooglaa
open Go Go.RowKit
set_option linter.unusedSimpArgs false
set_option linter.unusedVariables false
set_option maxRecDepth 100000 in
set_option maxHeartbeats 4000000 in
theorem rone_any (S T : Nat → Prop) (f g : FlTy.T) (Ab : Option Addr) (cb : Nat) (As : Option Addr) (cs : Nat) (Aq : Option Addr) (cq : Nat) (Ax : Option Addr) (cx : Nat) (Bb : Option Addr) (db : Nat) (Bs' : Option Addr) (ds : Nat) (Bq : Option Addr) (dq : Nat) (Bx : Option Addr) (dx : Nat) (w : World) (hf : PartsF w S f Ab cb As cs Aq cq Ax cx) (hg : PartsF w T g Bb db Bs' ds Bq dq Bx dx) :
 Calls Try.prog 49 #[.agg #[.int .i64 (fN f),.int .u8 (kI f),.int .i64 (fA f),.int .i64 (fM f),.slice Ab (fD f).length cb,.slice As (fS f).length cs,.slice Aq (fQ f).length cq,.slice Ax (fB f).length cx],.agg #[.int .i64 (fN g),.int .u8 (kI g),.int .i64 (fA g),.int .i64 (fM g),.slice Bb (fD g).length db,.slice Bs' (fS g).length ds,.slice Bq (fQ g).length dq,.slice Bx (fB g).length dx]] w fun e w'=>YesNo (f = g) e ∧ Below w.heap.size w w':=by
 have P0:=BoxOf.alloc (BoxOf.new w #[.int .i64 (fN f),.int .u8 (kI f),.int .i64 (fA f),.int .i64 (fM f),.slice Ab (fD f).length cb,.slice As (fS f).length cs,.slice Aq (fQ f).length cq,.slice Ax (fB f).length cx] 67) (.cells #[.int .i64 (fN g),.int .u8 (kI g),.int .i64 (fA g),.int .i64 (fM g),.slice Bb (fD g).length db,.slice Bs' (fS g).length ds,.slice Bq (fQ g).length dq,.slice Bx (fB g).length dx] 67)
 have Q0:=BoxOf.new' (w.alloc (.cells #[.int .i64 (fN f),.int .u8 (kI f),.int .i64 (fA f),.int .i64 (fM f),.slice Ab (fD f).length cb,.slice As (fS f).length cs,.slice Aq (fQ f).length cq,.slice Ax (fB f).length cx] 67)) (w.heap.size + 1) #[.int .i64 (fN g),.int .u8 (kI g),.int .i64 (fA g),.int .i64 (fM g),.slice Bb (fD g).length db,.slice Bs' (fS g).length ds,.slice Bq (fQ g).length dq,.slice Bx (fB g).length dx] 67 (by simp)
 have t0:=Ext.alloc (Ext.alloc (Below.refl w.heap.size w) (.cells #[.int .i64 (fN f),.int .u8 (kI f),.int .i64 (fA f),.int .i64 (fM f),.slice Ab (fD f).length cb,.slice As (fS f).length cs,.slice Aq (fQ f).length cq,.slice Ax (fB f).length cx] 67)) (.cells #[.int .i64 (fN g),.int .u8 (kI g),.int .i64 (fA g),.int .i64 (fM g),.slice Bb (fD g).length db,.slice Bs' (fS g).length ds,.slice Bq (fQ g).length dq,.slice Bx (fB g).length dx] 67)
 have HF:=Lib.hid (hf.below t0)
 have HG:=Lib.hid (hg.below t0)
 clear hf hg
 go_enter Try.func49,Try.ntmps49
 go_upto_region 1 with fail
 generalize (w.alloc (.cells #[.int .i64 (fN f),.int .u8 (kI f),.int .i64 (fA f),.int .i64 (fM f),.slice Ab (fD f).length cb,.slice As (fS f).length cs,.slice Aq (fQ f).length cq,.slice Ax (fB f).length cx] 67)).alloc (.cells #[.int .i64 (fN g),.int .u8 (kI g),.int .i64 (fA g),.int .i64 (fM g),.slice Bb (fD g).length db,.slice Bs' (fS g).length ds,.slice Bq (fQ g).length dq,.slice Bx (fB g).length dx] 67) = W at *
 have x0:=P0.cell
 have y0:=Q0.cell
 rcases Bool.eq_false_or_eq_true (fN f != fN g) with e1 | e1
 · go_wp2
   go_ret
   exact ⟨YesNo.no fun h=>by rw [h] at e1;simp at e1,t0⟩
 have H1 : Hid (fN f = fN g):=by show _ = _;simpa using e1
 go_wp2_with fail
 refine (rsame8_any (kI f) (fA f) (fM f) Ab cb (fD f) (kI g) (fA g) (fM g) Bb db (fD g) W HF.out.1.bytes_bs HG.out.1.bytes_bs).mono ?_
 rintro e w1 ⟨⟨bv,rfl,hbv⟩,b1⟩
 have HBV:=Lib.hid hbv
 have t1:=Ext.trans t0 b1
 have P1:=P0.next b1
 have Q1:=Q0.next b1
 have HF1:=Lib.hid (HF.out.below b1)
 have HG1:=Lib.hid (HG.out.below b1)
 clear hbv P0 Q0 HF HG t0 b1 x0 y0 e1
 have x1:=P1.cell
 have y1:=Q1.cell
 cases bv with
 | false=>
   go_wp2
   go_ret
   exact ⟨YesNo.no fun h=>Bool.noConfusion (HBV.out.2 (by rw [h];exact ⟨rfl,rfl,rfl,rfl⟩)),t1⟩
 | true=>
 have H2 : Hid (kI f = kI g ∧ fA f = fA g ∧ fM f = fM g ∧ fD f = fD g):=HBV.out.1 (by first | rfl | trivial)
 clear HBV
 have s1:=run_string_bs (P:=Try.prog) cs 26 9 5 Try.underlying26 Try.underlying5 Try.underlying9 HF1.out.2.1.bytes_bs
 have s2:=run_string_bs (P:=Try.prog) ds 26 9 5 Try.underlying26 Try.underlying5 Try.underlying9 HG1.out.2.1.bytes_bs
 rcases Bool.eq_false_or_eq_true (fS f == fS g) with e2 | e2
 rotate_left
 · have n2 : (!fS f == fS g) = true:=by rw [e2];rfl
   have n2' : (fS f != fS g) = true:=by simpa using e2
   go_wp2
   go_ret
   exact ⟨YesNo.no fun h=>by rw [h] at e2;simp at e2,t1⟩
 have n2 : (!fS f == fS g) = false:=by rw [e2];rfl
 have n2' : (fS f != fS g) = false:=by simpa using e2
 have H3 : Hid (fS f = fS g):=by show _ = _;simpa using e2
 rcases Bool.eq_false_or_eq_true (((fQ f).length : Int) != ((fQ g).length : Int)) with e3 | e3
 · go_wp2
   go_ret
   exact ⟨YesNo.no fun h=>by rw [h] at e3;simp at e3,t1⟩
 rcases Bool.eq_false_or_eq_true (((fB f).length : Int) != ((fB g).length : Int)) with e4 | e4
 · go_wp2
   go_ret
   exact ⟨YesNo.no fun h=>by rw [h] at e4;simp at e4,t1⟩
 have HLQ : Hid ((fQ f).length = (fQ g).length):=by have h9 : ((fQ f).length : Int) = ((fQ g).length : Int):=(by simpa using e3)
                                                    show _ = _
                                                    omega
 have HLB : Hid ((fB f).length = (fB g).length):=by have h9 : ((fB f).length : Int) = ((fB g).length : Int):=(by simpa using e4)
                                                    show _ = _
                                                    omega
 have HQM:=Lib.hid (seq_max HF1.out.2.2.1)
 have HBM:=Lib.hid (val_max HF1.out.2.2.2)
 go_wp2
 clear s1 s2 e2 n2 n2' e3 e4 x1 y1
 obtain ⟨wo,hwo⟩ : ∃ z : World,z = w1:=⟨_,rfl⟩
 have bo : Below wo.heap.size wo w1:=by rw [hwo];exact Below.refl _ _
 rw [← hwo] at t1 P1 Q1 HF1 HG1
 clear hwo
 go_loopw [5] (fun i wr=>∃ (j : Nat),j ≤ (fQ f).length ∧ i = .int .i64 (j : Int) ∧ Below wo.heap.size wo wr ∧ Hid (∀ i,i < j → LikeAt (fQ f) (fQ g) i)) (fun i _=>(fQ f).length - (intOf i).toNat)
 case atStart=>exact ⟨0,Nat.zero_le _,rfl,bo,fun i h=>absurd h (Nat.not_lt_zero _)⟩
 case round=>
  obtain ⟨j,hj,rfl,b2,HA⟩:=hrel
  clear bo
  have P2:=P1.next b2
  have Q2:=Q1.next b2
  have t2:=Ext.trans t1 b2
  by_cases hlt : j < (fQ f).length
  · have hlt2 : j < (fQ g).length:=by have:=HLQ.out;omega
    obtain ⟨b,off,rfl,q2⟩:=sq_at (HF1.out.2.2.1.below b2) hlt
    obtain ⟨b',off',rfl,q3⟩:=sq_at (HG1.out.2.2.1.below b2) hlt2
    have HLK : Hid (LikeAt (fQ f) (fQ g) j ↔ (fQ f)[j] = (fQ g)[j]):=⟨fun h=>h hlt hlt2,fun h _ _=>h⟩
    have HFG : Hid (f = g → (fQ f)[j] = (fQ g)[j]):=fun h=>by subst h;rfl
    generalize (fQ f)[j] = us at *
    generalize (fQ g)[j] = vs at *
    have HWJ:=next_wrap HQM.out hlt
    have HLJ:=Lib.hid hlt
    have HSX : Hid (∀ w',Below wr.heap.size wr w' → (Below wr.heap.size wr w' ∧ (∀ p,w'.cell? ⟨w.heap.size,p,none⟩ = (#[.int .i64 (fN f),.int .u8 (kI f),.int .i64 (fA f),.int .i64 (fM f),.slice Ab (fD f).length cb,.slice As (fS f).length cs,.slice (some ⟨b,off,none⟩) (fQ f).length cq,.slice Ax (fB f).length cx] : Array Value).toList[p]?) ∧ (∀ p,w'.cell? ⟨w.heap.size + 1,p,none⟩ = (#[.int .i64 (fN g),.int .u8 (kI g),.int .i64 (fA g),.int .i64 (fM g),.slice Bb (fD g).length db,.slice Bs' (fS g).length ds,.slice (some ⟨b',off',none⟩) (fQ g).length dq,.slice Bx (fB g).length dx] : Array Value).toList[p]?) ∧ w'.cell? ⟨b,off + j,none⟩ = some (.int .u32 (us : Int)) ∧ w'.cell? ⟨b',off' + j,none⟩ = some (.int .u32 (vs : Int)))):=fun w' bb=>⟨bb,(P2.next bb).cell,(Q2.next bb).cell,(bb.cell (p:=⟨b,off + j,none⟩) (cell_lt q2)).trans q2,(bb.cell (p:=⟨b',off' + j,none⟩) (cell_lt q3)).trans q3⟩
    have HSD:=HSX.out _ (Ext.drew (Below.refl wr.heap.size wr))
    have x2:=P2.cell
    go_upto_region 6 with fail
    clear q2 q3 x2
    refine wp_region_held_drew (S:=fun w'=>Below wr.heap.size wr w' ∧ (∀ p,w'.cell? ⟨w.heap.size,p,none⟩ = (#[.int .i64 (fN f),.int .u8 (kI f),.int .i64 (fA f),.int .i64 (fM f),.slice Ab (fD f).length cb,.slice As (fS f).length cs,.slice (some ⟨b,off,none⟩) (fQ f).length cq,.slice Ax (fB f).length cx] : Array Value).toList[p]?) ∧ (∀ p,w'.cell? ⟨w.heap.size + 1,p,none⟩ = (#[.int .i64 (fN g),.int .u8 (kI g),.int .i64 (fA g),.int .i64 (fM g),.slice Bb (fD g).length db,.slice Bs' (fS g).length ds,.slice (some ⟨b',off',none⟩) (fQ g).length dq,.slice Bx (fB g).length dx] : Array Value).toList[p]?) ∧ w'.cell? ⟨b,off + j,none⟩ = some (.int .u32 (us : Int)) ∧ w'.cell? ⟨b',off' + j,none⟩ = some (.int .u32 (vs : Int))) (by kernel_rfl) HSD (fun hS=>?_)
    clear HSD HSX
    rcases Bool.eq_false_or_eq_true ((us : Int) != (vs : Int)) with e1 | e1
    · have HUV : Hid (us ≠ vs):=fun h=>by rw [h] at e1;simp at e1
      have e1' : (us != vs) = true:=by simpa using HUV.out
      refine wpAnyH_take (i:=0) (v:=?_) rfl (by kernel_rfl) (by kernel_rfl) (by kernel_rfl) (fun _ _ _ h=>h) (Or.inl ⟨by rfl,?_⟩) hS ?_
      rotate_left
      · (intro w hSw;(try dsimp only at hSw);go_simp;(try with_reducible rfl))
      rotate_left
      simp only [Act.put,zq0,zq1,zq2,zq3,zq4,zq5]
      refine wpAnyH_take (i:=1) (v:=?_) rfl (by kernel_rfl) (by kernel_rfl) (by kernel_rfl) (fun _ _ _ h=>h) (Or.inl ⟨by rfl,?_⟩) hS ?_
      rotate_left
      · (intro w hSw;(try dsimp only at hSw);go_simp;(try with_reducible rfl))
      rotate_left
      simp only [Act.put,zq0,zq1,zq2,zq3,zq4,zq5]
      refine wpAnyH_take (i:=2) (v:=?_) rfl (by kernel_rfl) (by kernel_rfl) (by kernel_rfl) (fun _ _ _ h=>h) (Or.inl ⟨by rfl,?_⟩) hS ?_
      rotate_left
      · (intro w hSw;(try dsimp only at hSw);go_simp;(try with_reducible rfl))
      rotate_left
      simp only [Act.put,zq0,zq1,zq2,zq3,zq4,zq5]
      refine wpAnyH_take (i:=3) (v:=?_) rfl (by kernel_rfl) (by kernel_rfl) (by kernel_rfl) (fun _ _ _ h=>h) (Or.inl ⟨by rfl,?_⟩) hS ?_
      rotate_left
      · (intro w hSw;(try dsimp only at hSw);go_simp;(try with_reducible rfl))
      rotate_left
      simp only [Act.put,zq0,zq1,zq2,zq3,zq4,zq5]
      refine wpAnyH_take (i:=4) (v:=?_) rfl (by kernel_rfl) (by kernel_rfl) (by kernel_rfl) (fun _ _ _ h=>h) (Or.inl ⟨by rfl,?_⟩) hS ?_
      rotate_left
      · (intro w hSw;(try dsimp only at hSw);go_simp;(try with_reducible rfl))
      rotate_left
      simp only [Act.put,zq0,zq1,zq2,zq3,zq4,zq5]
      refine wpAnyH_take (i:=5) (v:=?_) rfl (by kernel_rfl) (by kernel_rfl) (by kernel_rfl) (fun _ _ _ h=>h) (Or.inl ⟨by rfl,?_⟩) hS ?_
      rotate_left
      · (intro w hSw;(try dsimp only at hSw);go_simp;(try with_reducible rfl))
      rotate_left
      simp only [Act.put,zq0,zq1,zq2,zq3,zq4,zq5]
      refine wpAnyH_take (i:=6) (v:=?_) rfl (by kernel_rfl) (by kernel_rfl) (by kernel_rfl) (fun _ _ _ h=>h) (Or.inl ⟨by rfl,?_⟩) hS ?_
      rotate_left
      · (intro w hSw;(try dsimp only at hSw);go_simp;(try with_reducible rfl))
      rotate_left
      simp only [Act.put,zq0,zq1,zq2,zq3,zq4,zq5]
      refine wpAnyH_take (i:=7) (v:=?_) rfl (by kernel_rfl) (by kernel_rfl) (by kernel_rfl) (fun _ _ _ h=>h) (Or.inl ⟨by rfl,?_⟩) hS ?_
      rotate_left
      · (intro w hSw;(try dsimp only at hSw);go_simp;(try with_reducible rfl))
      rotate_left
      simp only [Act.put,zq0,zq1,zq2,zq3,zq4,zq5]
      refine wpAnyH_take (i:=8) (v:=?_) rfl (by kernel_rfl) (by kernel_rfl) (by kernel_rfl) (fun _ _ _ h=>h) (Or.inl ⟨by rfl,?_⟩) hS ?_
      rotate_left
      · (intro w hSw;(try dsimp only at hSw);go_simp;(try with_reducible rfl))
      rotate_left
      simp only [Act.put,zq0,zq1,zq2,zq3,zq4,zq5]
      refine wpAnyH_take (i:=9) (v:=?_) rfl (by kernel_rfl) (by kernel_rfl) (by kernel_rfl) (fun _ _ _ h=>h) (Or.inl ⟨by rfl,?_⟩) hS ?_
      rotate_left
      · (intro w hSw;(try dsimp only at hSw);go_simp;(try with_reducible rfl))
      rotate_left
      simp only [Act.put,zq0,zq1,zq2,zq3,zq4,zq5]
      refine wpAnyH_take (i:=10) (v:=?_) rfl (by kernel_rfl) (by kernel_rfl) (by kernel_rfl) (fun _ _ _ h=>h) (Or.inl ⟨by rfl,?_⟩) hS ?_
      rotate_left
      · (intro w hSw;(try dsimp only at hSw);go_simp;(try with_reducible rfl))
      rotate_left
      simp only [Act.put,zq0,zq1,zq2,zq3,zq4,zq5]
      refine wpAnyH_done (by kernel_rfl) ?_ _
      have t3:=Ext.trans t2 hS.1
      clear hS
      go_wp2
      go_ret
      exact ⟨YesNo.no fun h=>HUV.out (HFG.out h),t3⟩
    · have HUV : Hid (us = vs):=by have h9 : (us : Int) = (vs : Int):=(by simpa using e1)
                                   show _ = _
                                   omega
      have e1' : (us != vs) = false:=by simpa using HUV.out
      refine wpAnyH_take (i:=0) (v:=?_) rfl (by kernel_rfl) (by kernel_rfl) (by kernel_rfl) (fun _ _ _ h=>h) (Or.inl ⟨by rfl,?_⟩) hS ?_
      rotate_left
      · (intro w hSw;(try dsimp only at hSw);go_simp;(try with_reducible rfl))
      rotate_left
      simp only [Act.put,zq0,zq1,zq2,zq3,zq4,zq5]
      refine wpAnyH_take (i:=1) (v:=?_) rfl (by kernel_rfl) (by kernel_rfl) (by kernel_rfl) (fun _ _ _ h=>h) (Or.inl ⟨by rfl,?_⟩) hS ?_
      rotate_left
      · (intro w hSw;(try dsimp only at hSw);go_simp;(try with_reducible rfl))
      rotate_left
      simp only [Act.put,zq0,zq1,zq2,zq3,zq4,zq5]
      refine wpAnyH_take (i:=2) (v:=?_) rfl (by kernel_rfl) (by kernel_rfl) (by kernel_rfl) (fun _ _ _ h=>h) (Or.inl ⟨by rfl,?_⟩) hS ?_
      rotate_left
      · (intro w hSw;(try dsimp only at hSw);go_simp;(try with_reducible rfl))
      rotate_left
      simp only [Act.put,zq0,zq1,zq2,zq3,zq4,zq5]
      refine wpAnyH_take (i:=3) (v:=?_) rfl (by kernel_rfl) (by kernel_rfl) (by kernel_rfl) (fun _ _ _ h=>h) (Or.inl ⟨by rfl,?_⟩) hS ?_
      rotate_left
      · (intro w hSw;(try dsimp only at hSw);go_simp;(try with_reducible rfl))
      rotate_left
      simp only [Act.put,zq0,zq1,zq2,zq3,zq4,zq5]
      refine wpAnyH_take (i:=4) (v:=?_) rfl (by kernel_rfl) (by kernel_rfl) (by kernel_rfl) (fun _ _ _ h=>h) (Or.inl ⟨by rfl,?_⟩) hS ?_
      rotate_left
      · (intro w hSw;(try dsimp only at hSw);go_simp;(try with_reducible rfl))
      rotate_left
      simp only [Act.put,zq0,zq1,zq2,zq3,zq4,zq5]
      refine wpAnyH_take (i:=5) (v:=?_) rfl (by kernel_rfl) (by kernel_rfl) (by kernel_rfl) (fun _ _ _ h=>h) (Or.inl ⟨by rfl,?_⟩) hS ?_
      rotate_left
      · (intro w hSw;(try dsimp only at hSw);go_simp;(try with_reducible rfl))
      rotate_left
      simp only [Act.put,zq0,zq1,zq2,zq3,zq4,zq5]
      refine wpAnyH_take (i:=6) (v:=?_) rfl (by kernel_rfl) (by kernel_rfl) (by kernel_rfl) (fun _ _ _ h=>h) (Or.inl ⟨by rfl,?_⟩) hS ?_
      rotate_left
      · (intro w hSw;(try dsimp only at hSw);go_simp;(try with_reducible rfl))
      rotate_left
      simp only [Act.put,zq0,zq1,zq2,zq3,zq4,zq5]
      refine wpAnyH_take (i:=7) (v:=?_) rfl (by kernel_rfl) (by kernel_rfl) (by kernel_rfl) (fun _ _ _ h=>h) (Or.inl ⟨by rfl,?_⟩) hS ?_
      rotate_left
      · (intro w hSw;(try dsimp only at hSw);go_simp;(try with_reducible rfl))
      rotate_left
      simp only [Act.put,zq0,zq1,zq2,zq3,zq4,zq5]
      refine wpAnyH_take (i:=8) (v:=?_) rfl (by kernel_rfl) (by kernel_rfl) (by kernel_rfl) (fun _ _ _ h=>h) (Or.inl ⟨by rfl,?_⟩) hS ?_
      rotate_left
      · (intro w hSw;(try dsimp only at hSw);go_simp;(try with_reducible rfl))
      rotate_left
      simp only [Act.put,zq0,zq1,zq2,zq3,zq4,zq5]
      refine wpAnyH_take (i:=9) (v:=?_) rfl (by kernel_rfl) (by kernel_rfl) (by kernel_rfl) (fun _ _ _ h=>h) (Or.inl ⟨by rfl,?_⟩) hS ?_
      rotate_left
      · (intro w hSw;(try dsimp only at hSw);go_simp;(try with_reducible rfl))
      rotate_left
      simp only [Act.put,zq0,zq1,zq2,zq3,zq4,zq5]
      refine wpAnyH_take (i:=10) (v:=?_) rfl (by kernel_rfl) (by kernel_rfl) (by kernel_rfl) (fun _ _ _ h=>h) (Or.inl ⟨by rfl,?_⟩) hS ?_
      rotate_left
      · (intro w hSw;(try dsimp only at hSw);go_simp;(try with_reducible rfl))
      rotate_left
      simp only [Act.put,zq0,zq1,zq2,zq3,zq4,zq5]
      refine wpAnyH_done (by kernel_rfl) ?_ _
      have b3:=Ext.trans b2 hS.1
      clear hS
      have HA' : Hid (∀ i,i < j + 1 → LikeAt (fQ f) (fQ g) i):=by
       intro i hi
       by_cases h : i = j
       · subst h
         exact HLK.out.2 HUV.out
       · exact HA.out i (by omega)
      go_wp2
      go_roundw
      case rel=>exact ⟨j + 1,HLJ.out,by first | rfl | exact round_same HWJ | go_num,b3,HA'⟩
      case measure=>first | exact round_less HWJ HLJ.out | (have h:=HLJ.out;simp [intOf];omega)
  · have HQE : Hid (fQ f = fQ g):=like_all HLQ.out hlt HA.out
    have x2:=P2.cell
    obtain ⟨wp,hwp⟩ : ∃ z : World,z = wr:=⟨_,rfl⟩
    have bp : Below wp.heap.size wp wr:=by rw [hwp];exact Below.refl _ _
    have HF2:=Lib.hid (HF1.out.below b2)
    have HG2:=Lib.hid (HG1.out.below b2)
    rw [← hwp] at t2 P2 Q2 HF2 HG2
    clear hwp HA b2 P1 Q1 HF1 HG1
    go_wp2
    clear x2
    go_loopw [6] (fun i wr=>∃ (j : Nat),j ≤ (fB f).length ∧ i = .int .i64 (j : Int) ∧ Below wp.heap.size wp wr ∧ Hid (∀ i,i < j → LikeAt (fB f) (fB g) i)) (fun i _=>(fB f).length - (intOf i).toNat)
    case atStart=>exact ⟨0,Nat.zero_le _,rfl,bp,fun i h=>absurd h (Nat.not_lt_zero _)⟩
    case round=>
     obtain ⟨j,hj,rfl,b2,HA⟩:=hrel
     clear bp
     have P3:=P2.next b2
     have Q3:=Q2.next b2
     have t3:=Ext.trans t2 b2
     by_cases hlt : j < (fB f).length
     · have hlt2 : j < (fB g).length:=by have:=HLB.out;omega
       obtain ⟨b,off,A2,c2,rfl,q2,r2⟩:=val_at (HF2.out.2.2.2.below b2) hlt
       obtain ⟨b',off',A3,c3,rfl,q3,r3⟩:=val_at (HG2.out.2.2.2.below b2) hlt2
       have HLK : Hid (LikeAt (fB f) (fB g) j ↔ (fB f)[j] = (fB g)[j]):=⟨fun h=>h hlt hlt2,fun h _ _=>h⟩
       have HFG : Hid (f = g → (fB f)[j] = (fB g)[j]):=fun h=>by subst h;rfl
       generalize (fB f)[j] = us at *
       generalize (fB g)[j] = vs at *
       have HWJ:=next_wrap HBM.out hlt
       have HLJ:=Lib.hid hlt
       have HSX : Hid (∀ w',Below wr.heap.size wr w' → (Below wr.heap.size wr w' ∧ (∀ p,w'.cell? ⟨w.heap.size,p,none⟩ = (#[.int .i64 (fN f),.int .u8 (kI f),.int .i64 (fA f),.int .i64 (fM f),.slice Ab (fD f).length cb,.slice As (fS f).length cs,.slice Aq (fQ f).length cq,.slice (some ⟨b,off,none⟩) (fB f).length cx] : Array Value).toList[p]?) ∧ (∀ p,w'.cell? ⟨w.heap.size + 1,p,none⟩ = (#[.int .i64 (fN g),.int .u8 (kI g),.int .i64 (fA g),.int .i64 (fM g),.slice Bb (fD g).length db,.slice Bs' (fS g).length ds,.slice Bq (fQ g).length dq,.slice (some ⟨b',off',none⟩) (fB g).length dx] : Array Value).toList[p]?) ∧ w'.cell? ⟨b,off + j,none⟩ = some (.slice A2 us.length c2) ∧ w'.cell? ⟨b',off' + j,none⟩ = some (.slice A3 vs.length c3) ∧ Bs w' A2 us.length us ∧ Bs w' A3 vs.length vs)):=fun w' bb=>⟨bb,(P3.next bb).cell,(Q3.next bb).cell,(bb.cell (p:=⟨b,off + j,none⟩) (cell_lt q2)).trans q2,(bb.cell (p:=⟨b',off' + j,none⟩) (cell_lt q3)).trans q3,r2.bytes_bs.below bb,r3.bytes_bs.below bb⟩
       have HSD:=HSX.out _ (Ext.drew (Below.refl wr.heap.size wr))
       have x3:=P3.cell
       go_upto_region 11 with fail
       clear q2 q3 x3 r2 r3
       refine wp_region_held_drew (S:=fun w'=>Below wr.heap.size wr w' ∧ (∀ p,w'.cell? ⟨w.heap.size,p,none⟩ = (#[.int .i64 (fN f),.int .u8 (kI f),.int .i64 (fA f),.int .i64 (fM f),.slice Ab (fD f).length cb,.slice As (fS f).length cs,.slice Aq (fQ f).length cq,.slice (some ⟨b,off,none⟩) (fB f).length cx] : Array Value).toList[p]?) ∧ (∀ p,w'.cell? ⟨w.heap.size + 1,p,none⟩ = (#[.int .i64 (fN g),.int .u8 (kI g),.int .i64 (fA g),.int .i64 (fM g),.slice Bb (fD g).length db,.slice Bs' (fS g).length ds,.slice Bq (fQ g).length dq,.slice (some ⟨b',off',none⟩) (fB g).length dx] : Array Value).toList[p]?) ∧ w'.cell? ⟨b,off + j,none⟩ = some (.slice A2 us.length c2) ∧ w'.cell? ⟨b',off' + j,none⟩ = some (.slice A3 vs.length c3) ∧ Bs w' A2 us.length us ∧ Bs w' A3 vs.length vs) (by kernel_rfl) HSD (fun hS=>?_)
       clear HSD HSX
       refine wpAnyH_take (i:=0) (v:=?_) rfl (by kernel_rfl) (by kernel_rfl) (by kernel_rfl) (fun _ _ _ h=>h) (Or.inl ⟨by rfl,?_⟩) hS ?_
       rotate_left
       · (intro w hSw;(try dsimp only at hSw);go_simp;(try with_reducible rfl))
       rotate_left
       simp only [Act.put,zq0,zq1,zq2,zq3,zq4,zq5]
       refine wpAnyH_take (i:=1) (v:=?_) rfl (by kernel_rfl) (by kernel_rfl) (by kernel_rfl) (fun _ _ _ h=>h) (Or.inl ⟨by rfl,?_⟩) hS ?_
       rotate_left
       · (intro w hSw;(try dsimp only at hSw);go_simp;(try with_reducible rfl))
       rotate_left
       simp only [Act.put,zq0,zq1,zq2,zq3,zq4,zq5]
       refine wpAnyH_take (i:=2) (v:=?_) rfl (by kernel_rfl) (by kernel_rfl) (by kernel_rfl) (fun _ _ _ h=>h) (Or.inl ⟨by rfl,?_⟩) hS ?_
       rotate_left
       · (intro w hSw;(try dsimp only at hSw);go_simp;(try with_reducible rfl))
       rotate_left
       simp only [Act.put,zq0,zq1,zq2,zq3,zq4,zq5]
       refine wpAnyH_take (i:=3) (v:=?_) rfl (by kernel_rfl) (by kernel_rfl) (by kernel_rfl) (fun _ _ _ h=>h) (Or.inl ⟨by rfl,?_⟩) hS ?_
       rotate_left
       · (intro w hSw;(try dsimp only at hSw);go_simp;(try with_reducible rfl))
       rotate_left
       simp only [Act.put,zq0,zq1,zq2,zq3,zq4,zq5]
       refine wpAnyH_take (i:=4) (v:=?_) rfl (by kernel_rfl) (by kernel_rfl) (by kernel_rfl) (fun _ _ _ h=>h) (Or.inl ⟨by rfl,?_⟩) hS ?_
       rotate_left
       · (intro w hSw;(try dsimp only at hSw);go_simp;(try with_reducible rfl))
       rotate_left
       simp only [Act.put,zq0,zq1,zq2,zq3,zq4,zq5]
       refine wpAnyH_take (i:=5) (v:=?_) rfl (by kernel_rfl) (by kernel_rfl) (by kernel_rfl) (fun _ _ _ h=>h) (Or.inl ⟨by rfl,?_⟩) hS ?_
       rotate_left
       · (intro w hSw;have sq:=run_string_bs (P:=Try.prog) c2 26 9 5 Try.underlying26 Try.underlying5 Try.underlying9 hSw.2.2.2.2.2.1;(try dsimp only at hSw);go_simp;(try with_reducible rfl))
       rotate_left
       try simp only [Act.put,zq0,zq1,zq2,zq3,zq4,zq5]
       refine wpAnyH_take (i:=6) (v:=?_) rfl (by kernel_rfl) (by kernel_rfl) (by kernel_rfl) (fun _ _ _ h=>h) (Or.inl ⟨by rfl,?_⟩) hS ?_
       rotate_left
       · (intro w hSw;(try dsimp only at hSw);go_simp;(try with_reducible rfl))
       rotate_left
       simp only [Act.put,zq0,zq1,zq2,zq3,zq4,zq5]
       refine wpAnyH_take (i:=7) (v:=?_) rfl (by kernel_rfl) (by kernel_rfl) (by kernel_rfl) (fun _ _ _ h=>h) (Or.inl ⟨by rfl,?_⟩) hS ?_
       rotate_left
       · (intro w hSw;(try dsimp only at hSw);go_simp;(try with_reducible rfl))
       rotate_left
       simp only [Act.put,zq0,zq1,zq2,zq3,zq4,zq5]
       refine wpAnyH_take (i:=8) (v:=?_) rfl (by kernel_rfl) (by kernel_rfl) (by kernel_rfl) (fun _ _ _ h=>h) (Or.inl ⟨by rfl,?_⟩) hS ?_
       rotate_left
       · (intro w hSw;(try dsimp only at hSw);go_simp;(try with_reducible rfl))
       rotate_left
       simp only [Act.put,zq0,zq1,zq2,zq3,zq4,zq5]
       refine wpAnyH_take (i:=9) (v:=?_) rfl (by kernel_rfl) (by kernel_rfl) (by kernel_rfl) (fun _ _ _ h=>h) (Or.inl ⟨by rfl,?_⟩) hS ?_
       rotate_left
       · (intro w hSw;(try dsimp only at hSw);go_simp;(try with_reducible rfl))
       rotate_left
       simp only [Act.put,zq0,zq1,zq2,zq3,zq4,zq5]
       refine wpAnyH_take (i:=10) (v:=?_) rfl (by kernel_rfl) (by kernel_rfl) (by kernel_rfl) (fun _ _ _ h=>h) (Or.inl ⟨by rfl,?_⟩) hS ?_
       rotate_left
       · (intro w hSw;(try dsimp only at hSw);go_simp;(try with_reducible rfl))
       rotate_left
       simp only [Act.put,zq0,zq1,zq2,zq3,zq4,zq5]
       refine wpAnyH_take (i:=11) (v:=?_) rfl (by kernel_rfl) (by kernel_rfl) (by kernel_rfl) (fun _ _ _ h=>h) (Or.inl ⟨by rfl,?_⟩) hS ?_
       rotate_left
       · (intro w hSw;have sq:=run_string_bs (P:=Try.prog) c3 26 9 5 Try.underlying26 Try.underlying5 Try.underlying9 hSw.2.2.2.2.2.2;(try dsimp only at hSw);go_simp;(try with_reducible rfl))
       rotate_left
       try simp only [Act.put,zq0,zq1,zq2,zq3,zq4,zq5]
       rcases Bool.eq_false_or_eq_true (us == vs) with e1 | e1
       rotate_left
       · have n1 : (!us == vs) = true:=by rw [e1];rfl
         have n1' : (us != vs) = true:=by simpa using e1
         have HUV : Hid (us ≠ vs):=fun h=>by rw [h] at e1;simp at e1
         refine wpAnyH_take (i:=12) (v:=?_) rfl (by kernel_rfl) (by kernel_rfl) (by kernel_rfl) (fun _ _ _ h=>h) (Or.inl ⟨by rfl,?_⟩) hS ?_
         rotate_left
         · (intro w hSw;(try dsimp only at hSw);go_simp;(try with_reducible rfl))
         rotate_left
         simp only [Act.put,zq0,zq1,zq2,zq3,zq4,zq5]
         refine wpAnyH_done (by kernel_rfl) ?_ _
         have t4:=Ext.trans t3 hS.1
         clear hS
         go_wp2
         go_ret
         exact ⟨YesNo.no fun h=>HUV.out (HFG.out h),t4⟩
       · have n1 : (!us == vs) = false:=by rw [e1];rfl
         have n1' : (us != vs) = false:=by simpa using e1
         have HUV : Hid (us = vs):=by show _ = _;simpa using e1
         refine wpAnyH_take (i:=12) (v:=?_) rfl (by kernel_rfl) (by kernel_rfl) (by kernel_rfl) (fun _ _ _ h=>h) (Or.inl ⟨by rfl,?_⟩) hS ?_
         rotate_left
         · (intro w hSw;(try dsimp only at hSw);go_simp;(try with_reducible rfl))
         rotate_left
         simp only [Act.put,zq0,zq1,zq2,zq3,zq4,zq5]
         refine wpAnyH_done (by kernel_rfl) ?_ _
         have b3:=Ext.trans b2 hS.1
         clear hS
         have HA' : Hid (∀ i,i < j + 1 → LikeAt (fB f) (fB g) i):=by
          intro i hi
          by_cases h : i = j
          · subst h
            exact HLK.out.2 HUV.out
          · exact HA.out i (by omega)
         go_wp2
         go_roundw
         case rel=>exact ⟨j + 1,HLJ.out,by first | rfl | exact round_same HWJ | go_num,b3,HA'⟩
         case measure=>first | exact round_less HWJ HLJ.out | (have h:=HLJ.out;simp [intOf];omega)
     · have HBE : Hid (fB f = fB g):=like_all HLB.out hlt HA.out
       have x3:=P3.cell
       go_wp2
       go_ret
       exact ⟨YesNo.yes (fl_ext H1.out (kI_inj H2.out.1) H2.out.2.1 H2.out.2.2.1 H2.out.2.2.2 H3.out HQE.out HBE.out),t3⟩
set_option maxRecDepth 100000 in
set_option maxHeartbeats 4000000 in
theorem rsame24_any (S T : Nat → Prop) (xs zs : List FlTy.T) (A : Option Addr) (n c : Nat) (D : Option Addr) (e dc : Nat) (hn : xs.length = n) (he : zs.length = e) (w : World) (hx : RdIn w S (.sl FlTy) xs [.slice A n c]) (hz : RdIn w T (.sl FlTy) zs [.slice D e dc]) :
 Calls Try.prog 18 #[.slice A n c,.slice D e dc] w fun e w'=>YesNo (xs = zs) e ∧ Below w.heap.size w w':=by
 have HX:=Lib.hid hx
 have HZ:=Lib.hid hz
 have HXM : Hid (n ≤ maxLen):=by have:=fl_max hx;show n ≤ maxLen;omega
 have HN:=Lib.hid hn
 have HE:=Lib.hid he
 clear hx hz hn he
 go_enter Try.func18,Try.ntmps18
 rcases Bool.eq_false_or_eq_true ((n : Int) != (e : Int)) with e1 | e1
 · go_wp2
   go_ret
   exact ⟨YesNo.no fun h=>by
    have h1:=HN.out
    have h2:=HE.out
    rw [h] at h1
    rw [← h1,← h2] at e1
    simp at e1,Below.refl _ _⟩
 · have HLX : Hid (xs.length = zs.length):=by
    have h9 : (n : Int) = (e : Int):=(by simpa using e1)
    have h1:=HN.out
    have h2:=HE.out
    show _ = _
    omega
   obtain ⟨W,hW⟩ : ∃ z : World,z = w:=⟨_,rfl⟩
   have b0 : Below W.heap.size W w:=by rw [hW];exact Below.refl _ _
   have HWW:=Lib.hid hW
   rw [← hW] at HX HZ
   clear hW
   go_wp2
   clear e1
   go_loopw [5] (fun i wr=>∃ (j : Nat),j ≤ n ∧ i = .int .i64 j ∧ Below W.heap.size W wr ∧ Hid (∀ i,i < j → LikeAt xs zs i)) (fun i _=>n - (intOf i).toNat)
   case atStart=>exact ⟨0,by omega,rfl,b0,fun i h=>absurd h (Nat.not_lt_zero _)⟩
   case round=>
    obtain ⟨j,hj,rfl,b1,HA⟩:=hrel
    clear b0
    have bw : Below w.heap.size w wr:=by have:=HWW.out;subst this;exact b1
    by_cases hlt : j < n
    · have hl1 : j < xs.length:=by have:=HN.out;omega
      have hl2 : j < zs.length:=by have:=HLX.out;omega
      have hle : j < e:=by have:=HE.out;omega
      obtain ⟨b,off,Ab,cb,As,cs,Aq,cq,Ax,cx,rfl,q0,q1,q2,q3,q4,q5,q6,q7,hi,r1,r2,r3,r4⟩:=fl_at (HX.out.below b1) hl1
      obtain ⟨b',off',Bb,db,Bs',ds,Bq,dq,Bx,dx,rfl,p0,p1,p2,p3,p4,p5,p6,p7,hi',s1,s2,s3,s4⟩:=fl_at (HZ.out.below b1) hl2
      have HLK : Hid (LikeAt xs zs j ↔ xs[j] = zs[j]):=⟨fun h=>h hl1 hl2,fun h _ _=>h⟩
      generalize xs[j] = f at *
      generalize zs[j] = g at *
      have HWJ:=next_wrap HXM.out hlt
      have HLJ:=Lib.hid hlt
      have HC:=Lib.hid (fun (w' : World) (bb : Below wr.heap.size wr w')=>rone_any S T f g Ab cb As cs Aq cq Ax cx Bb db Bs' ds Bq dq Bx dx w' ⟨r1.below bb,r2.below bb,r3.below bb,r4.below bb⟩ ⟨s1.below bb,s2.below bb,s3.below bb,s4.below bb⟩)
      have HSX : Hid (∀ w',Below wr.heap.size wr w' → (Below wr.heap.size wr w' ∧ (w'.cell? ⟨b,off + j * 8,none⟩ = some (.int .i64 (fN f)) ∧ w'.cell? ⟨b,off + j * 8 + 1,none⟩ = some (.int .u8 (kI f)) ∧ w'.cell? ⟨b,off + j * 8 + 2,none⟩ = some (.int .i64 (fA f)) ∧ w'.cell? ⟨b,off + j * 8 + 3,none⟩ = some (.int .i64 (fM f)) ∧ w'.cell? ⟨b,off + j * 8 + 4,none⟩ = some (.slice Ab (fD f).length cb) ∧ w'.cell? ⟨b,off + j * 8 + 5,none⟩ = some (.slice As (fS f).length cs) ∧ w'.cell? ⟨b,off + j * 8 + 6,none⟩ = some (.slice Aq (fQ f).length cq) ∧ w'.cell? ⟨b,off + j * 8 + 7,none⟩ = some (.slice Ax (fB f).length cx)) ∧ (w'.cell? ⟨b',off' + j * 8,none⟩ = some (.int .i64 (fN g)) ∧ w'.cell? ⟨b',off' + j * 8 + 1,none⟩ = some (.int .u8 (kI g)) ∧ w'.cell? ⟨b',off' + j * 8 + 2,none⟩ = some (.int .i64 (fA g)) ∧ w'.cell? ⟨b',off' + j * 8 + 3,none⟩ = some (.int .i64 (fM g)) ∧ w'.cell? ⟨b',off' + j * 8 + 4,none⟩ = some (.slice Bb (fD g).length db) ∧ w'.cell? ⟨b',off' + j * 8 + 5,none⟩ = some (.slice Bs' (fS g).length ds) ∧ w'.cell? ⟨b',off' + j * 8 + 6,none⟩ = some (.slice Bq (fQ g).length dq) ∧ w'.cell? ⟨b',off' + j * 8 + 7,none⟩ = some (.slice Bx (fB g).length dx)))):=fun w' bb=>⟨bb,⟨(bb.cell (p:=⟨b,off + j * 8,none⟩) (cell_lt q0)).trans q0,(bb.cell (p:=⟨b,off + j * 8 + 1,none⟩) (cell_lt q1)).trans q1,(bb.cell (p:=⟨b,off + j * 8 + 2,none⟩) (cell_lt q2)).trans q2,(bb.cell (p:=⟨b,off + j * 8 + 3,none⟩) (cell_lt q3)).trans q3,(bb.cell (p:=⟨b,off + j * 8 + 4,none⟩) (cell_lt q4)).trans q4,(bb.cell (p:=⟨b,off + j * 8 + 5,none⟩) (cell_lt q5)).trans q5,(bb.cell (p:=⟨b,off + j * 8 + 6,none⟩) (cell_lt q6)).trans q6,(bb.cell (p:=⟨b,off + j * 8 + 7,none⟩) (cell_lt q7)).trans q7⟩,⟨(bb.cell (p:=⟨b',off' + j * 8,none⟩) (cell_lt p0)).trans p0,(bb.cell (p:=⟨b',off' + j * 8 + 1,none⟩) (cell_lt p1)).trans p1,(bb.cell (p:=⟨b',off' + j * 8 + 2,none⟩) (cell_lt p2)).trans p2,(bb.cell (p:=⟨b',off' + j * 8 + 3,none⟩) (cell_lt p3)).trans p3,(bb.cell (p:=⟨b',off' + j * 8 + 4,none⟩) (cell_lt p4)).trans p4,(bb.cell (p:=⟨b',off' + j * 8 + 5,none⟩) (cell_lt p5)).trans p5,(bb.cell (p:=⟨b',off' + j * 8 + 6,none⟩) (cell_lt p6)).trans p6,(bb.cell (p:=⟨b',off' + j * 8 + 7,none⟩) (cell_lt p7)).trans p7⟩⟩
      have HSD:=HSX.out _ (Ext.drew (Below.refl wr.heap.size wr))
      clear q0 q1 q2 q3 q4 q5 q6 q7 p0 p1 p2 p3 p4 p5 p6 p7 r1 r2 r3 r4 s1 s2 s3 s4 hi hi'
      go_upto_region 6 with fail
      refine wp_region_held_drew (S:=fun w'=>Below wr.heap.size wr w' ∧ (w'.cell? ⟨b,off + j * 8,none⟩ = some (.int .i64 (fN f)) ∧ w'.cell? ⟨b,off + j * 8 + 1,none⟩ = some (.int .u8 (kI f)) ∧ w'.cell? ⟨b,off + j * 8 + 2,none⟩ = some (.int .i64 (fA f)) ∧ w'.cell? ⟨b,off + j * 8 + 3,none⟩ = some (.int .i64 (fM f)) ∧ w'.cell? ⟨b,off + j * 8 + 4,none⟩ = some (.slice Ab (fD f).length cb) ∧ w'.cell? ⟨b,off + j * 8 + 5,none⟩ = some (.slice As (fS f).length cs) ∧ w'.cell? ⟨b,off + j * 8 + 6,none⟩ = some (.slice Aq (fQ f).length cq) ∧ w'.cell? ⟨b,off + j * 8 + 7,none⟩ = some (.slice Ax (fB f).length cx)) ∧ (w'.cell? ⟨b',off' + j * 8,none⟩ = some (.int .i64 (fN g)) ∧ w'.cell? ⟨b',off' + j * 8 + 1,none⟩ = some (.int .u8 (kI g)) ∧ w'.cell? ⟨b',off' + j * 8 + 2,none⟩ = some (.int .i64 (fA g)) ∧ w'.cell? ⟨b',off' + j * 8 + 3,none⟩ = some (.int .i64 (fM g)) ∧ w'.cell? ⟨b',off' + j * 8 + 4,none⟩ = some (.slice Bb (fD g).length db) ∧ w'.cell? ⟨b',off' + j * 8 + 5,none⟩ = some (.slice Bs' (fS g).length ds) ∧ w'.cell? ⟨b',off' + j * 8 + 6,none⟩ = some (.slice Bq (fQ g).length dq) ∧ w'.cell? ⟨b',off' + j * 8 + 7,none⟩ = some (.slice Bx (fB g).length dx))) (by kernel_rfl) HSD (fun hS=>?_)
      clear HSD
      refine wpAnyH_take (i:=0) (v:=?_) rfl (by kernel_rfl) (by kernel_rfl) (by kernel_rfl) (fun _ _ _ h=>h) (Or.inl ⟨by rfl,?_⟩) hS ?_
      rotate_left
      · (intro w hSw;(try dsimp only at hSw);go_simp;(try with_reducible rfl))
      rotate_left
      simp only [Act.put,zq0,zq1,zq2,zq3,zq4,zq5]
      refine wpAnyH_take (i:=1) (v:=?_) rfl (by kernel_rfl) (by kernel_rfl) (by kernel_rfl) (fun _ _ _ h=>h) (Or.inl ⟨by rfl,?_⟩) hS ?_
      rotate_left
      · (intro w hSw;(try dsimp only at hSw);go_simp;(try with_reducible rfl))
      rotate_left
      simp only [Act.put,zq0,zq1,zq2,zq3,zq4,zq5]
      refine wpAnyH_take (i:=2) (v:=?_) rfl (by kernel_rfl) (by kernel_rfl) (by kernel_rfl) (fun _ _ _ h=>h) (Or.inl ⟨by rfl,?_⟩) hS ?_
      rotate_left
      · (intro w hSw;(try dsimp only at hSw);go_simp;(try with_reducible rfl))
      rotate_left
      simp only [Act.put,zq0,zq1,zq2,zq3,zq4,zq5]
      refine wpAnyH_take (i:=3) (v:=?_) rfl (by kernel_rfl) (by kernel_rfl) (by kernel_rfl) (fun _ _ _ h=>h) (Or.inl ⟨by rfl,?_⟩) hS ?_
      rotate_left
      · (intro w hSw;(try dsimp only at hSw);go_simp;(try with_reducible rfl))
      rotate_left
      simp only [Act.put,zq0,zq1,zq2,zq3,zq4,zq5]
      refine wpAnyH_take (i:=4) (v:=?_) rfl (by kernel_rfl) (by kernel_rfl) (by kernel_rfl) (fun _ _ _ h=>h) (Or.inl ⟨by rfl,?_⟩) hS ?_
      rotate_left
      · (intro w hSw;(try dsimp only at hSw);go_simp;(try with_reducible rfl))
      rotate_left
      simp only [Act.put,zq0,zq1,zq2,zq3,zq4,zq5]
      refine wpAnyH_take (i:=5) (v:=?_) rfl (by kernel_rfl) (by kernel_rfl) (by kernel_rfl) (fun _ _ _ h=>h) (Or.inl ⟨by rfl,?_⟩) hS ?_
      rotate_left
      · (intro w hSw;(try dsimp only at hSw);go_simp;(try with_reducible rfl))
      rotate_left
      simp only [Act.put,zq0,zq1,zq2,zq3,zq4,zq5]
      refine wpAnyH_take (i:=6) (v:=?_) rfl (by kernel_rfl) (by kernel_rfl) (by kernel_rfl) (fun _ _ _ h=>h) (Or.inl ⟨by rfl,?_⟩) hS ?_
      rotate_left
      · (intro w hSw;(try dsimp only at hSw);go_simp;(try with_reducible rfl))
      rotate_left
      simp only [Act.put,zq0,zq1,zq2,zq3,zq4,zq5]
      refine wpAnyH_take (i:=7) (v:=?_) rfl (by kernel_rfl) (by kernel_rfl) (by kernel_rfl) (fun _ _ _ h=>h) (Or.inl ⟨by rfl,?_⟩) hS ?_
      rotate_left
      · (intro w hSw;(try dsimp only at hSw);go_simp;(try with_reducible rfl))
      rotate_left
      simp only [Act.put,zq0,zq1,zq2,zq3,zq4,zq5]
      refine wpAnyH_ready (rs:=[8]) (by kernel_rfl) (by simp) ?_
      refine AllReadyH.cons rfl (fun K hK=>?_) AllReadyH.nil
      rw [if_pos (by rfl)]
      go_simp
      refine (HC.out _ hS.1).mono ?_
      rintro e v3 ⟨⟨bv,rfl,hbv⟩,k3⟩
      have HBV:=Lib.hid hbv
      refine hK.out _ _ (HSX.out _ (Ext.trans hS.1 k3)) (fun hS'=>?_)
      clear hK K hS k3 hbv
      have hS:=hS'
      clear hS'
      try simp only [Act.put,zq0,zq1,zq2,zq3,zq4,zq5]
      refine wpAnyH_take (i:=9) (v:=?_) rfl (by kernel_rfl) (by kernel_rfl) (by kernel_rfl) (fun _ _ _ h=>h) (Or.inl ⟨by rfl,?_⟩) hS ?_
      rotate_left
      · (intro w hSw;(try dsimp only at hSw);go_simp;(try with_reducible rfl))
      rotate_left
      simp only [Act.put,zq0,zq1,zq2,zq3,zq4,zq5]
      refine wpAnyH_done (by kernel_rfl) ?_ _
      have b5:=Ext.trans b1 hS.1
      have bw5:=Ext.trans bw hS.1
      clear hS HSX HC
      cases bv with
      | false=>
        go_wp2
        go_ret
        exact ⟨YesNo.no fun h=>Bool.noConfusion (HBV.out.2 (HLK.out.1 (by rw [h];intro _ _;rfl))),bw5⟩
      | true=>
        have hk:=HLK.out.2 (HBV.out.1 (by first | rfl | trivial))
        have HA' : Hid (∀ i,i < j + 1 → LikeAt xs zs i):=by
         intro i hi
         by_cases h : i = j
         · subst h
           exact hk
         · exact HA.out i (by omega)
        clear hk
        go_wp2
        go_roundw
        case rel=>exact ⟨j + 1,HLJ.out,by first | rfl | exact round_same HWJ | go_num,b5,HA'⟩
        case measure=>first | exact round_less HWJ HLJ.out | (have h:=HLJ.out;simp [intOf];omega)
    · have HNN:=Lib.hid (like_all HLX.out (j:=j) (by have:=HN.out;omega) HA.out)
      go_wp2
      go_ret
      exact ⟨YesNo.yes HNN.out,bw⟩
end Go.Proofs.Ythapabjlhooglaa
namespace Go.Proofs.Ythapabjlhooglaa
open Go Go.RowKit
set_option linter.unusedSimpArgs false
set_option linter.unusedVariables false
theorem freads_any (k a y : Int) (A : Option Addr) (n c : Nat) (w : World) : Calls Try.prog 77 #[.agg #[.int .u8 k,.int .i64 a,.int .i64 y,.slice A n c]] w fun e w'=>e = .returned (.bool (k == 1)) ∧ Below w.heap.size w w':=by
 have t0:=Ext.alloc (Below.refl w.heap.size w) (.cells #[.int .u8 k,.int .i64 a,.int .i64 y,.slice A n c] 28)
 go_enter Try.func77,Try.ntmps77
 go_wp2
 go_ret
 exact ⟨rfl,t0⟩
theorem fsize_t (w : World) : Calls Try.prog 78 #[.bool true] w fun e w'=>e = .returned (.int .i64 128) ∧ w' = w:=by
 go_enter Try.func78,Try.ntmps78
 go_wp2
 go_ret
 exact ⟨rfl,rfl⟩
theorem fsize_f (w : World) : Calls Try.prog 78 #[.bool false] w fun e w'=>e = .returned (.int .i64 0) ∧ w' = w:=by
 go_enter Try.func78,Try.ntmps78
 go_wp2
 go_ret
 exact ⟨rfl,rfl⟩
def blkP (kd : Int) (s : Nat) (q n : Nat) : Bool:=decide (s ≤ 3) && (decide (s = 2) == decide (0 < q)) && (if kd = 1 then (decide (s = 0 ∧ n = 0) || decide (s = 3 ∧ n = 128)) else decide (n = 0))
theorem blkP_far {kd : Int} {s q n : Nat} (h : 3 < s) : blkP kd s q n = false:=by unfold blkP;rw [decide_eq_false (by omega)];rfl
theorem blkP_odd {kd : Int} {s q n : Nat} (h : decide (s = 2) ≠ decide (0 < q)) : blkP kd s q n = false:=by
 unfold blkP
 rw [show (decide (s = 2) == decide (0 < q)) = false from beq_eq_false_iff_ne.2 h]
 simp
theorem blkP_in {kd : Int} {s q n : Nat} (h : s ≤ 3) (h2 : decide (s = 2) = decide (0 < q)) : blkP kd s q n = if kd = 1 then (decide (s = 0 ∧ n = 0) || decide (s = 3 ∧ n = 128)) else decide (n = 0):=by
 unfold blkP
 rw [decide_eq_true h,h2]
 simp
set_option maxRecDepth 100000 in
set_option maxHeartbeats 1000000 in
theorem fblock_any (nu kd a y : Int) (Ab : Option Addr) (lb cb ls cs lq cq lx cx i s q n c : Nat) (bs os bq oq bx ox : Nat) (D : Option Addr) (w : World) (hs : i < ls) (hq : i < lq) (hx : i < lx) (hm : ls ≤ maxLen)
 (ks : w.cell? ⟨bs,os + i,none⟩ = some (.int .u8 (s : Int))) (kq : w.cell? ⟨bq,oq + i,none⟩ = some (.int .u32 (q : Int))) (kx : w.cell? ⟨bx,ox + i,none⟩ = some (.slice D n c)) :
 Calls Try.prog 44 #[.agg #[.int .i64 nu,.int .u8 kd,.int .i64 a,.int .i64 y,.slice Ab lb cb,.slice (some ⟨bs,os,none⟩) ls cs,.slice (some ⟨bq,oq,none⟩) lq cq,.slice (some ⟨bx,ox,none⟩) lx cx],.int .i64 (i : Int)] w fun e w'=>e = .returned (.bool (blkP kd s q n)) ∧ Below w.heap.size w w':=by
 have P0:=BoxOf.new w #[.int .i64 nu,.int .u8 kd,.int .i64 a,.int .i64 y,.slice Ab lb cb,.slice (some ⟨bs,os,none⟩) ls cs,.slice (some ⟨bq,oq,none⟩) lq cq,.slice (some ⟨bx,ox,none⟩) lx cx] 67
 have t0:=Ext.alloc (Below.refl w.heap.size w) (.cells #[.int .i64 nu,.int .u8 kd,.int .i64 a,.int .i64 y,.slice Ab lb cb,.slice (some ⟨bs,os,none⟩) ls cs,.slice (some ⟨bq,oq,none⟩) lq cq,.slice (some ⟨bx,ox,none⟩) lx cx] 67)
 have ks0:=(t0.cell (p:=⟨bs,os + i,none⟩) (block_lt_of_cell ks)).trans ks
 have kq0:=(t0.cell (p:=⟨bq,oq + i,none⟩) (block_lt_of_cell kq)).trans kq
 have kx0:=(t0.cell (p:=⟨bx,ox + i,none⟩) (block_lt_of_cell kx)).trans kx
 clear ks kq kx
 go_enter Try.func44,Try.ntmps44
 go_upto_region 1 with fail
 generalize w.alloc (.cells #[.int .i64 nu,.int .u8 kd,.int .i64 a,.int .i64 y,.slice Ab lb cb,.slice (some ⟨bs,os,none⟩) ls cs,.slice (some ⟨bq,oq,none⟩) lq cq,.slice (some ⟨bx,ox,none⟩) lx cx] 67) = W at *
 have x0:=P0.cell
 have hsI : (i : Int) < (ls : Int):=by omega
 have hqI : (i : Int) < (lq : Int):=by omega
 have hxI : (i : Int) < (lx : Int):=by omega
 rcases Bool.eq_false_or_eq_true (decide ((3 : Int) < (s : Int))) with e1 | e1
 · have hr : blkP kd s q n = false:=blkP_far (by have:=of_decide_eq_true e1;omega)
   go_wp2
   go_quiet (fail)
   have t1:=below_drewN' t0 nq
   go_wp2
   go_ret
   exact ⟨by first | rfl | (rw [hr];rfl),t1⟩
 · obtain ⟨b2,e2⟩ : ∃ b,((s : Int) == 2) = b:=⟨_,rfl⟩
   obtain ⟨b3,e3⟩ : ∃ b,decide ((0 : Int) < (q : Int)) = b:=⟨_,rfl⟩
   have h2 : decide (s = 2) = b2:=by rw [← e2,Bool.eq_iff_iff];simp;omega
   have h3 : decide (0 < q) = b3:=by rw [← e3,Bool.eq_iff_iff];simp
   clear e3
   have HS : Hid (s ≤ 3):=by show _ ≤ _;have:=of_decide_eq_false e1;omega
   rcases Bool.eq_false_or_eq_true (!b2 == b3) with e4 | e4
   · have hr : blkP kd s q n = false:=blkP_odd (by rw [h2,h3];intro h;rw [h] at e4;cases b3 <;> cases e4)
     clear h2
     go_wp2
     go_quiet (fail)
     have t1:=below_drewN' t0 nq
     go_wp2
     go_ret
     exact ⟨by first | rfl | (rw [hr];rfl),t1⟩
   · have hr:=Lib.hid (blkP_in (kd:=kd) (n:=n) HS.out (by rw [h2,h3];cases b2 <;> cases b3 <;> first | rfl | cases e4))
     clear h2
     rcases Bool.eq_false_or_eq_true (kd == 1) with e5 | e5
     · have hk : kd = 1:=by simpa using e5
       obtain ⟨b0,e6⟩ : ∃ b,((s : Int) == 0) = b:=⟨_,rfl⟩
       obtain ⟨bt,e7⟩ : ∃ b,((s : Int) == 3) = b:=⟨_,rfl⟩
       have h6 : decide (s = 0) = b0:=by rw [← e6,Bool.eq_iff_iff];simp
       have h7 : decide (s = 3) = bt:=by rw [← e7,Bool.eq_iff_iff];simp;omega
       have HR : Hid (blkP kd s q n = ((b0 || bt) && ((n : Int) == (if bt then 128 else 0)))):=by
        show _ = _
        rw [hr.out,if_pos hk,← h6,← h7,Bool.eq_iff_iff]
        by_cases h8 : s = 3
        · subst h8
          simp
          omega
        · simp only [h8,decide_false,false_and,Bool.or_false]
          by_cases h9 : s = 0 <;> simp [h9]
       clear h6 h7 hk
       go_wp2
       go_quiet (fail)
       have t1:=below_drewN' t0 nq
       have P1:=P0.drewN nq
       clear t0 hr
       go_wp2_with fail
       refine (freads_any _ _ _ _ _ _ _).mono ?_
       rintro e w1 ⟨rfl,b1⟩
       have x1:=(P1.next b1).cell
       have kx1:=(b1.cell (p:=⟨bx,ox + i,none⟩) (block_lt_of_cell kx0)).trans kx0
       have t2:=Ext.trans t1 b1
       clear x0 ks0 kq0 kx0 t1 b1 P1
       generalize hbz : (if bt then (128 : Int) else 0) = z at HR
       have HZ:=Lib.hid hbz
       clear hbz
       cases b0 <;> cases bt
       · go_wp2
         go_quiet (first | (go_at_call 78;refine Calls.quiet_of_same (fsize_f _)))
         go_wp2
         have t3:=below_drewN' t2 nq
         go_ret
         exact ⟨by first | rfl | (rw [HR.out];rfl) | (rw [HR.out,← HZ.out];rfl),t3⟩
       · go_wp2
         go_quiet (first | (go_at_call 78;refine Calls.quiet_of_same (fsize_t _)))
         go_wp2
         have t3:=below_drewN' t2 nq
         go_ret
         exact ⟨by first | rfl | (rw [HR.out];rfl) | (rw [HR.out,← HZ.out];rfl),t3⟩
       · go_wp2
         go_quiet (first | (go_at_call 78;refine Calls.quiet_of_same (fsize_f _)))
         go_wp2
         have t3:=below_drewN' t2 nq
         go_ret
         exact ⟨by first | rfl | (rw [HR.out];rfl) | (rw [HR.out,← HZ.out];rfl),t3⟩
       · go_wp2
         go_quiet (first | (go_at_call 78;refine Calls.quiet_of_same (fsize_t _)))
         go_wp2
         have t3:=below_drewN' t2 nq
         go_ret
         exact ⟨by first | rfl | (rw [HR.out];rfl) | (rw [HR.out,← HZ.out];rfl),t3⟩
     · have hk : ¬ kd = 1:=by simpa using e5
       have hr' : blkP kd s q n = decide (n = 0):=by rw [hr.out,if_neg hk]
       have hn : ((n : Int) == 0) = decide (n = 0):=by rw [Bool.eq_iff_iff];simp
       clear hr hk
       go_wp2
       go_quiet (fail)
       have t1:=below_drewN' t0 nq
       have P1:=P0.drewN nq
       clear t0
       go_wp2_with fail
       refine (freads_any _ _ _ _ _ _ _).mono ?_
       rintro e w1 ⟨rfl,b1⟩
       have x1:=(P1.next b1).cell
       have kx1:=(b1.cell (p:=⟨bx,ox + i,none⟩) (block_lt_of_cell kx0)).trans kx0
       have t2:=Ext.trans t1 b1
       clear x0 ks0 kq0 kx0 t1 b1 P1
       go_wp2
       go_ret
       exact ⟨by first | rfl | (rw [hr',← hn];rfl),t2⟩
theorem blocks_0 (x : Cfg) (k a y : Int) (A : Option Addr) (n q m : Nat) (hc : askCode x k a y n = 0) (hm : y = (m : Int)) (w : World) : Calls Try.prog 35 #[x.val,.agg #[.int .u8 k,.int .i64 a,.int .i64 y,.slice A n q]] w fun e w'=>(∃ B c,e = .returned (.tuple #[.slice B m c,.int .i64 0])) ∧ Below w.heap.size w w':=by
 obtain ⟨hx,hp,hn,hy,ha,_⟩:=askCode_0 hc
 refine (sblocks_ok x k a y A n q hy ha (fun W=>by have h:=scheck_all x k a y A n q W;rw [hc] at h;exact h) w).mono ?_
 rintro e w' ⟨v,rfl,ho,hb⟩
 have e1 : y.toNat = m:=by omega
 rw [e1] at ho
 obtain ⟨B,c,rfl,_⟩:=own_rd ho
 exact ⟨⟨B,c,rfl⟩,hb⟩
theorem blocks_ne (x : Cfg) (k a y : Int) (A : Option Addr) (n q : Nat) (hc : askCode x k a y n ≠ 0) (w : World) : Calls Try.prog 35 #[x.val,.agg #[.int .u8 k,.int .i64 a,.int .i64 y,.slice A n q]] w fun e w'=>e = .returned (.tuple #[.slice none 0 0,.int .i64 (askCode x k a y n)]) ∧ Below w.heap.size w w':=
 sblocks_err x k a y A n q _ (askCode_ne _ _ _ _ _ hc) (scheck_all x k a y A n q) w
def BlkAt (f : FlTy.T) (i : Nat) : Prop:=∀ (h : i < (fS f).length) (h1 : i < (fQ f).length) (h2 : i < (fB f).length),blkB (kI f) (fS f)[i] (fQ f)[i] ((fB f)[i]).length = true
theorem oneB_no {x : Cfg} {f : FlTy.T} (h : oneB x f = true → False) : oneB x f = false:=by
 cases h1 : oneB x f
 · rfl
 · exact (h h1).elim
set_option maxRecDepth 100000 in
set_option maxHeartbeats 2000000 in
theorem fone_any (S : Nat → Prop) (x : Cfg) (f : FlTy.T) (Ab : Option Addr) (cb : Nat) (As : Option Addr) (cs : Nat) (Aq : Option Addr) (cq : Nat) (Ax : Option Addr) (cx : Nat) (w : World) (hS : RdIn w S (.sl .byte) (fS f) [.slice As (fS f).length cs]) (hQ : RdIn w S (.sl .u32) (fQ f) [.slice Aq (fQ f).length cq]) (hX : RdIn w S (.sl (.sl .byte)) (fB f) [.slice Ax (fB f).length cx]) :
 Calls Try.prog 51 #[x.val,.agg #[.int .i64 (fN f),.int .u8 (kI f),.int .i64 (fA f),.int .i64 (fM f),.slice Ab (fD f).length cb,.slice As (fS f).length cs,.slice Aq (fQ f).length cq,.slice Ax (fB f).length cx]] w fun e w'=>e = .returned (.bool (oneB x f)) ∧ Below w.heap.size w w':=by
 by_cases hcode : codeF x f = 0
 · obtain ⟨_,hpl,_,hy,_,_⟩:=askCode_0 hcode
   obtain ⟨m,hm⟩ : ∃ m : Nat,fM f = (m : Int):=⟨(fM f).toNat,by omega⟩
   have HB:=Lib.hid (blocks_0 x (kI f) (fA f) (fM f) Ab (fD f).length cb m hcode hm)
   have hk4 : kI f = 4 → m = 0:=by
    intro h4
    rw [hm] at hpl
    unfold Placed at hpl
    rw [h4] at hpl
    rcases hpl with h1 | h1
    · exact absurd h1.1 (by decide)
    · omega
   have HM:=Lib.hid hm
   have HK:=Lib.hid hk4
   have HC:=Lib.hid hcode
   have hm8 : m ≤ 8:=by omega
   clear hpl hy hk4
   obtain ⟨id,m',c,r,l,h⟩:=x
   unfold Cfg.val at *
   dsimp only at *
   have P0:=BoxOf.new' (w.alloc (.cells #[.int .u32 (id : Int),.int .i64 m',.int .i64 c,.int .i64 r,.int .i64 l,.int .i64 h] 24)) (w.heap.size + 1) #[.int .i64 (fN f),.int .u8 (kI f),.int .i64 (fA f),.int .i64 (fM f),.slice Ab (fD f).length cb,.slice As (fS f).length cs,.slice Aq (fQ f).length cq,.slice Ax (fB f).length cx] 67 (by simp)
   have t0:=Ext.alloc (Ext.alloc (Below.refl w.heap.size w) (.cells #[.int .u32 (id : Int),.int .i64 m',.int .i64 c,.int .i64 r,.int .i64 l,.int .i64 h] 24)) (.cells #[.int .i64 (fN f),.int .u8 (kI f),.int .i64 (fA f),.int .i64 (fM f),.slice Ab (fD f).length cb,.slice As (fS f).length cs,.slice Aq (fQ f).length cq,.slice Ax (fB f).length cx] 67)
   have C0:=BoxOf.alloc (BoxOf.new w #[.int .u32 (id : Int),.int .i64 m',.int .i64 c,.int .i64 r,.int .i64 l,.int .i64 h] 24) (.cells #[.int .i64 (fN f),.int .u8 (kI f),.int .i64 (fA f),.int .i64 (fM f),.slice Ab (fD f).length cb,.slice As (fS f).length cs,.slice Aq (fQ f).length cq,.slice Ax (fB f).length cx] 67)
   have HS:=Lib.hid (hS.below t0)
   have HQ:=Lib.hid (hQ.below t0)
   have HX:=Lib.hid (hX.below t0)
   clear hS hQ hX hcode hm
   go_enter Try.func51,Try.ntmps51
   go_upto_region 1 with fail
   generalize (w.alloc (.cells #[.int .u32 (id : Int),.int .i64 m',.int .i64 c,.int .i64 r,.int .i64 l,.int .i64 h] 24)).alloc (.cells #[.int .i64 (fN f),.int .u8 (kI f),.int .i64 (fA f),.int .i64 (fM f),.slice Ab (fD f).length cb,.slice As (fS f).length cs,.slice Aq (fQ f).length cq,.slice Ax (fB f).length cx] 67) = W at *
   have x0:=P0.cell
   have y0:=C0.cell
   go_wp2_with fail
   refine (HB.out _).mono ?_
   rintro e w1 ⟨⟨B,cB,rfl⟩,b1⟩
   have P1:=P0.next b1
   have t1:=Ext.trans t0 b1
   have HS1:=Lib.hid (HS.out.below b1)
   have HQ1:=Lib.hid (HQ.out.below b1)
   have HX1:=Lib.hid (HX.out.below b1)
   clear x0 y0 C0 P0 HB HS HQ HX t0 b1
   have x1:=P1.cell
   have hP:=P1.lt
   obtain ⟨k4,h4⟩ : ∃ b,(kI f == 4) = b:=⟨_,rfl⟩
   obtain ⟨sq,hsq⟩ : ∃ z : Nat,z = if k4 then 1 else m:=⟨_,rfl⟩
   have HSQ : Hid (((if kI f = 4 then 1 else fM f) : Int) = (sq : Int)):=by
    show _ = _
    rw [hsq,HM.out]
    cases k4
    · rw [if_neg (by simpa using h4)];rfl
    · rw [if_pos (by simpa using h4)];rfl
   have HSQ2 : Hid (m ≤ sq):=by
    show m ≤ sq
    rw [hsq]
    cases k4
    · exact Nat.le_refl _
    · have:=HK.out (by simpa using h4);simp;omega
   have hsq0 : k4 = false → sq = m:=fun h=>by rw [hsq,h];rfl
   have hsq1 : k4 = true → sq = 1:=fun h=>by rw [hsq,h];rfl
   clear hsq
   cases k4 with
   | true=>
     obtain rfl:=hsq1 rfl
     rcases Bool.eq_false_or_eq_true (decide (fN f < 1)) with e1 | e1
     · have HNO : Hid (oneB ⟨id,m',c,r,l,h⟩ f = false):=oneB_no fun ht=>by
        obtain ⟨h1,h2,h3,h4',h5,h6⟩:=oneB_iff.1 ht
        have hM:=HM.out
        have hQ':=HSQ.out
        have:=of_decide_eq_true e1;omega
       go_wp2
       go_ret
       exact ⟨by first | rfl | (rw [HNO.out];rfl),t1⟩
     have HE1:=Lib.hid e1
     rcases Bool.eq_false_or_eq_true ((((fS f).length : Int) != (m : Int))) with e1 | e1
     · have HNO : Hid (oneB ⟨id,m',c,r,l,h⟩ f = false):=oneB_no fun ht=>by
        obtain ⟨h1,h2,h3,h4',h5,h6⟩:=oneB_iff.1 ht
        have hM:=HM.out
        have hQ':=HSQ.out
        rw [h3,hM] at e1;simp at e1
       go_wp2
       go_ret
       exact ⟨by first | rfl | (rw [HNO.out];rfl),t1⟩
     have HE2:=Lib.hid e1
     rcases Bool.eq_false_or_eq_true ((((fB f).length : Int) != (m : Int))) with e1 | e1
     · have HNO : Hid (oneB ⟨id,m',c,r,l,h⟩ f = false):=oneB_no fun ht=>by
        obtain ⟨h1,h2,h3,h4',h5,h6⟩:=oneB_iff.1 ht
        have hM:=HM.out
        have hQ':=HSQ.out
        rw [h4',hM] at e1;simp at e1
       go_wp2
       go_ret
       exact ⟨by first | rfl | (rw [HNO.out];rfl),t1⟩
     have HE3:=Lib.hid e1
     rcases Bool.eq_false_or_eq_true ((((fQ f).length : Int) != (1 : Int))) with e1 | e1
     · have HNO : Hid (oneB ⟨id,m',c,r,l,h⟩ f = false):=oneB_no fun ht=>by
        obtain ⟨h1,h2,h3,h4',h5,h6⟩:=oneB_iff.1 ht
        have hM:=HM.out
        have hQ':=HSQ.out
        rw [h5,hQ'] at e1;simp at e1
       go_wp2
       go_ret
       exact ⟨by first | rfl | (rw [HNO.out];rfl),t1⟩
     have HE4:=Lib.hid e1
     have HSZ : Hid ((fS f).length = m ∧ (fB f).length = m ∧ m ≤ (fQ f).length):=by
      have h1:=HE2.out
      have h2:=HE3.out
      have h3:=HE4.out
      have h4:=HSQ2.out
      show _ ∧ _ ∧ _
      simp at h1 h2 h3
      omega
     go_wp2
     clear hsq0 hsq1
     obtain ⟨wo,hwo⟩ : ∃ z : World,z = w1:=⟨_,rfl⟩
     rw [← hwo] at t1 P1 HS1 HQ1 HX1
     have bo : Below wo.heap.size wo w1:=by rw [hwo];exact Below.refl _ _
     clear hwo
     go_loopw [8,54] (fun u i wr=>∃ (j : Nat),j ≤ m ∧ i = .int .i64 (j : Int) ∧ Below wo.heap.size wo wr ∧ Hid (∀ i,i < j → BlkAt f i)) (fun _ i _=>m - (intOf i).toNat)
     case atStart=>exact ⟨0,by omega,rfl,bo,fun i h=>absurd h (Nat.not_lt_zero _)⟩
     case round=>
      obtain ⟨j,hj,rfl,b2,HA⟩:=hrel
      clear bo
      have P2:=P1.next b2
      have t2:=Ext.trans t1 b2
      by_cases hlt : j < m
      · have z1 : j < (fS f).length:=by have:=HSZ.out.1;omega
        have z2 : j < (fB f).length:=by have:=HSZ.out.2.1;omega
        have z3 : j < (fQ f).length:=by have:=HSZ.out.2.2;omega
        obtain ⟨bs,os,rfl,ks⟩:=st_at (HS1.out.below b2) z1
        obtain ⟨bq,oq,rfl,kq⟩:=sq_at (HQ1.out.below b2) z3
        obtain ⟨bx,ox,D,cD,rfl,kx,rx⟩:=val_at (HX1.out.below b2) z2
        have HBL:=Lib.hid (fblock_any (fN f) (kI f) (fA f) (fM f) Ab (fD f).length cb (fS f).length cs (fQ f).length cq (fB f).length cx j (fS f)[j].toNat (fQ f)[j] ((fB f)[j]).length cD bs os bq oq bx ox D wr z1 z3 z2 (byte_max HS1.out) ks kq kx)
        have HAT : Hid (BlkAt f j ↔ blkP (kI f) (fS f)[j].toNat (fQ f)[j] ((fB f)[j]).length = true):=⟨fun h=>h z1 z3 z2,fun h _ _ _=>h⟩
        generalize blkP (kI f) (fS f)[j].toNat (fQ f)[j] ((fB f)[j]).length = bb at *
        have HLJ:=Lib.hid hlt
        have HWJ : Hid (wrap64 ((j : Int) + 1) = ((j + 1 : Nat) : Int)):=by show _ = _;rw [IntWalk.wrap64_in _ (by omega)];omega
        have x2:=P2.cell
        clear rx z1 z2 z3 ks kq kx P2 x1
        go_wp2_with fail
        refine HBL.out.mono ?_
        rintro e w3 ⟨rfl,b3⟩
        have b4:=Ext.trans b2 b3
        have t4:=Ext.trans t2 b3
        clear x2 HBL
        cases bb with
        | false=>
          have HNO : Hid (oneB ⟨id,m',c,r,l,h⟩ f = false):=oneB_no fun ht=>by
            obtain ⟨h1,h2,h3,h4',h5,h6⟩:=oneB_iff.1 ht
            have h7:=(blksB_iff (by have:=HSZ.out;omega) (by have:=HSZ.out;omega)).1 h6 j
            exact absurd (HAT.out.1 (fun a b c=>h7 a b c)) (by decide)
          go_wp2
          go_ret
          exact ⟨by first | rfl | (rw [HNO.out];rfl),t4⟩
        | true=>
          have HA' : Hid (∀ i,i < j + 1 → BlkAt f i):=by
            intro i hi
            by_cases h : i = j
            · subst h
              exact HAT.out.2 (by first | rfl | trivial)
            · exact HA.out i (by omega)
          go_wp2
          go_roundw
          case rel=>exact ⟨j + 1,HLJ.out,by first | exact round_same HWJ | go_num,b4,HA'⟩
          case measure=>first | exact round_less HWJ HLJ.out | (have h:=HLJ.out;simp [intOf];omega)
      · have HYE : Hid (oneB ⟨id,m',c,r,l,h⟩ f = true):=oneB_iff.2 ⟨HC.out,by have:=of_decide_eq_false HE1.out;omega,by rw [HM.out];have:=HSZ.out;omega,by rw [HM.out];have:=HSZ.out;omega,by rw [HSQ.out];have h:=HE4.out;simpa using h,(blksB_iff (by have:=HSZ.out;omega) (by have:=HSZ.out;omega)).2 fun i a b c=>HA.out i (by have:=HSZ.out;omega) a b c⟩
        clear b2 P2
        go_wp2
        go_ret
        exact ⟨by first | rfl | (rw [HYE.out];rfl),t2⟩
   | false=>
     have hq:=(hsq0 rfl).symm
     subst hq
     rcases Bool.eq_false_or_eq_true (decide (fN f < 1)) with e1 | e1
     · have HNO : Hid (oneB ⟨id,m',c,r,l,h⟩ f = false):=oneB_no fun ht=>by
        obtain ⟨h1,h2,h3,h4',h5,h6⟩:=oneB_iff.1 ht
        have hM:=HM.out
        have hQ':=HSQ.out
        have:=of_decide_eq_true e1;omega
       go_wp2
       go_ret
       exact ⟨by first | rfl | (rw [HNO.out];rfl),t1⟩
     have HE1:=Lib.hid e1
     rcases Bool.eq_false_or_eq_true ((((fS f).length : Int) != (m : Int))) with e1 | e1
     · have HNO : Hid (oneB ⟨id,m',c,r,l,h⟩ f = false):=oneB_no fun ht=>by
        obtain ⟨h1,h2,h3,h4',h5,h6⟩:=oneB_iff.1 ht
        have hM:=HM.out
        have hQ':=HSQ.out
        rw [h3,hM] at e1;simp at e1
       go_wp2
       go_ret
       exact ⟨by first | rfl | (rw [HNO.out];rfl),t1⟩
     have HE2:=Lib.hid e1
     rcases Bool.eq_false_or_eq_true ((((fB f).length : Int) != (m : Int))) with e1 | e1
     · have HNO : Hid (oneB ⟨id,m',c,r,l,h⟩ f = false):=oneB_no fun ht=>by
        obtain ⟨h1,h2,h3,h4',h5,h6⟩:=oneB_iff.1 ht
        have hM:=HM.out
        have hQ':=HSQ.out
        rw [h4',hM] at e1;simp at e1
       go_wp2
       go_ret
       exact ⟨by first | rfl | (rw [HNO.out];rfl),t1⟩
     have HE3:=Lib.hid e1
     rcases Bool.eq_false_or_eq_true ((((fQ f).length : Int) != (m : Int))) with e1 | e1
     · have HNO : Hid (oneB ⟨id,m',c,r,l,h⟩ f = false):=oneB_no fun ht=>by
        obtain ⟨h1,h2,h3,h4',h5,h6⟩:=oneB_iff.1 ht
        have hM:=HM.out
        have hQ':=HSQ.out
        rw [h5,hQ'] at e1;simp at e1
       go_wp2
       go_ret
       exact ⟨by first | rfl | (rw [HNO.out];rfl),t1⟩
     have HE4:=Lib.hid e1
     have HSZ : Hid ((fS f).length = m ∧ (fB f).length = m ∧ m ≤ (fQ f).length):=by
      have h1:=HE2.out
      have h2:=HE3.out
      have h3:=HE4.out
      have h4:=HSQ2.out
      show _ ∧ _ ∧ _
      simp at h1 h2 h3
      omega
     go_wp2
     clear hsq0 hsq1
     obtain ⟨wo,hwo⟩ : ∃ z : World,z = w1:=⟨_,rfl⟩
     rw [← hwo] at t1 P1 HS1 HQ1 HX1
     have bo : Below wo.heap.size wo w1:=by rw [hwo];exact Below.refl _ _
     clear hwo
     go_loopw [8,54] (fun u i wr=>∃ (j : Nat),j ≤ m ∧ i = .int .i64 (j : Int) ∧ Below wo.heap.size wo wr ∧ Hid (∀ i,i < j → BlkAt f i)) (fun _ i _=>m - (intOf i).toNat)
     case atStart=>exact ⟨0,by omega,rfl,bo,fun i h=>absurd h (Nat.not_lt_zero _)⟩
     case round=>
      obtain ⟨j,hj,rfl,b2,HA⟩:=hrel
      clear bo
      have P2:=P1.next b2
      have t2:=Ext.trans t1 b2
      by_cases hlt : j < m
      · have z1 : j < (fS f).length:=by have:=HSZ.out.1;omega
        have z2 : j < (fB f).length:=by have:=HSZ.out.2.1;omega
        have z3 : j < (fQ f).length:=by have:=HSZ.out.2.2;omega
        obtain ⟨bs,os,rfl,ks⟩:=st_at (HS1.out.below b2) z1
        obtain ⟨bq,oq,rfl,kq⟩:=sq_at (HQ1.out.below b2) z3
        obtain ⟨bx,ox,D,cD,rfl,kx,rx⟩:=val_at (HX1.out.below b2) z2
        have HBL:=Lib.hid (fblock_any (fN f) (kI f) (fA f) (fM f) Ab (fD f).length cb (fS f).length cs (fQ f).length cq (fB f).length cx j (fS f)[j].toNat (fQ f)[j] ((fB f)[j]).length cD bs os bq oq bx ox D wr z1 z3 z2 (byte_max HS1.out) ks kq kx)
        have HAT : Hid (BlkAt f j ↔ blkP (kI f) (fS f)[j].toNat (fQ f)[j] ((fB f)[j]).length = true):=⟨fun h=>h z1 z3 z2,fun h _ _ _=>h⟩
        generalize blkP (kI f) (fS f)[j].toNat (fQ f)[j] ((fB f)[j]).length = bb at *
        have HLJ:=Lib.hid hlt
        have HWJ : Hid (wrap64 ((j : Int) + 1) = ((j + 1 : Nat) : Int)):=by show _ = _;rw [IntWalk.wrap64_in _ (by omega)];omega
        have x2:=P2.cell
        clear rx z1 z2 z3 ks kq kx P2 x1
        go_wp2_with fail
        refine HBL.out.mono ?_
        rintro e w3 ⟨rfl,b3⟩
        have b4:=Ext.trans b2 b3
        have t4:=Ext.trans t2 b3
        clear x2 HBL
        cases bb with
        | false=>
          have HNO : Hid (oneB ⟨id,m',c,r,l,h⟩ f = false):=oneB_no fun ht=>by
            obtain ⟨h1,h2,h3,h4',h5,h6⟩:=oneB_iff.1 ht
            have h7:=(blksB_iff (by have:=HSZ.out;omega) (by have:=HSZ.out;omega)).1 h6 j
            exact absurd (HAT.out.1 (fun a b c=>h7 a b c)) (by decide)
          go_wp2
          go_ret
          exact ⟨by first | rfl | (rw [HNO.out];rfl),t4⟩
        | true=>
          have HA' : Hid (∀ i,i < j + 1 → BlkAt f i):=by
            intro i hi
            by_cases h : i = j
            · subst h
              exact HAT.out.2 (by first | rfl | trivial)
            · exact HA.out i (by omega)
          go_wp2
          go_roundw
          case rel=>exact ⟨j + 1,HLJ.out,by first | exact round_same HWJ | go_num,b4,HA'⟩
          case measure=>first | exact round_less HWJ HLJ.out | (have h:=HLJ.out;simp [intOf];omega)
      · have HYE : Hid (oneB ⟨id,m',c,r,l,h⟩ f = true):=oneB_iff.2 ⟨HC.out,by have:=of_decide_eq_false HE1.out;omega,by rw [HM.out];have:=HSZ.out;omega,by rw [HM.out];have:=HSZ.out;omega,by rw [HSQ.out];have h:=HE4.out;simpa using h,(blksB_iff (by have:=HSZ.out;omega) (by have:=HSZ.out;omega)).2 fun i a b c=>HA.out i (by have:=HSZ.out;omega) a b c⟩
        clear b2 P2
        go_wp2
        go_ret
        exact ⟨by first | rfl | (rw [HYE.out];rfl),t2⟩
 · have HB:=Lib.hid (blocks_ne x (kI f) (fA f) (fM f) Ab (fD f).length cb hcode)
   have HNO : Hid (oneB x f = false):=oneB_no fun ht=>hcode (oneB_iff.1 ht).1
   have hE : (askCode x (kI f) (fA f) (fM f) (fD f).length != 0) = true:=askCode_ne _ _ _ _ _ hcode
   generalize askCode x (kI f) (fA f) (fM f) (fD f).length = E at HB hE
   clear hcode hS hQ hX
   obtain ⟨id,m',c,r,l,h⟩:=x
   unfold Cfg.val at *
   dsimp only at *
   have P0:=BoxOf.new' (w.alloc (.cells #[.int .u32 (id : Int),.int .i64 m',.int .i64 c,.int .i64 r,.int .i64 l,.int .i64 h] 24)) (w.heap.size + 1) #[.int .i64 (fN f),.int .u8 (kI f),.int .i64 (fA f),.int .i64 (fM f),.slice Ab (fD f).length cb,.slice As (fS f).length cs,.slice Aq (fQ f).length cq,.slice Ax (fB f).length cx] 67 (by simp)
   have t0:=Ext.alloc (Ext.alloc (Below.refl w.heap.size w) (.cells #[.int .u32 (id : Int),.int .i64 m',.int .i64 c,.int .i64 r,.int .i64 l,.int .i64 h] 24)) (.cells #[.int .i64 (fN f),.int .u8 (kI f),.int .i64 (fA f),.int .i64 (fM f),.slice Ab (fD f).length cb,.slice As (fS f).length cs,.slice Aq (fQ f).length cq,.slice Ax (fB f).length cx] 67)
   have C0:=BoxOf.alloc (BoxOf.new w #[.int .u32 (id : Int),.int .i64 m',.int .i64 c,.int .i64 r,.int .i64 l,.int .i64 h] 24) (.cells #[.int .i64 (fN f),.int .u8 (kI f),.int .i64 (fA f),.int .i64 (fM f),.slice Ab (fD f).length cb,.slice As (fS f).length cs,.slice Aq (fQ f).length cq,.slice Ax (fB f).length cx] 67)
   go_enter Try.func51,Try.ntmps51
   go_upto_region 1 with fail
   generalize (w.alloc (.cells #[.int .u32 (id : Int),.int .i64 m',.int .i64 c,.int .i64 r,.int .i64 l,.int .i64 h] 24)).alloc (.cells #[.int .i64 (fN f),.int .u8 (kI f),.int .i64 (fA f),.int .i64 (fM f),.slice Ab (fD f).length cb,.slice As (fS f).length cs,.slice Aq (fQ f).length cq,.slice Ax (fB f).length cx] 67) = W at *
   have x0:=P0.cell
   have y0:=C0.cell
   go_wp2_with fail
   refine (HB.out _).mono ?_
   rintro e w1 ⟨rfl,b1⟩
   have t1:=Ext.trans t0 b1
   have x1:=(P0.next b1).cell
   clear x0 y0 C0 P0 HB t0 b1
   rcases Bool.eq_false_or_eq_true (kI f == 4) with h4 | h4
   · go_wp2
     go_ret
     exact ⟨by first | rfl | (rw [HNO.out];rfl),t1⟩
   · go_wp2
     go_ret
     exact ⟨by first | rfl | (rw [HNO.out];rfl),t1⟩
end Go.Proofs.Ythapabjlhooglaa
namespace Go.Proofs.Ythapabjlhooglaa
open Go Go.RowKit
set_option linter.unusedSimpArgs false
set_option linter.unusedVariables false
def idxI {α : Type} (p : α → Bool) (fs : List α) : Int:=match fs.findIdx? p with | some i=>(i : Int) | none=>-1
def IdxIs {α : Type} (p : α → Bool) (fs : List α) (e : Ending) : Prop:=e = .returned (.int .i64 (idxI p fs))
theorem idx_at {α : Type} {p : α → Bool} {fs : List α} {j : Nat} (hj : j < fs.length) (h : p fs[j] = true) (ha : ∀ i,i < j → NotAt p fs i) : fs.findIdx? p = some j:=by
 rw [List.findIdx?_eq_some_iff_getElem]
 exact ⟨hj,h,fun i hi=>by rw [ha i hi (by omega)];simp⟩
theorem IdxIs.at {α : Type} {p : α → Bool} {fs : List α} {j : Nat} (hj : j < fs.length) (h : p fs[j] = true) (ha : ∀ i,i < j → NotAt p fs i) : IdxIs p fs (.returned (.int .i64 (j : Int))):=by
 unfold IdxIs idxI
 rw [idx_at hj h ha]
theorem IdxIs.none {α : Type} {p : α → Bool} {fs : List α} {j : Nat} (ha : ∀ i,i < j → NotAt p fs i) (hj : ¬ j < fs.length) : IdxIs p fs (.returned (.int .i64 (-1))):=by
 unfold IdxIs idxI
 have h : fs.findIdx? p = Option.none:=by
  rw [List.findIdx?_eq_none_iff]
  intro x hx
  obtain ⟨i,hi,rfl⟩:=List.getElem_of_mem hx
  exact ha i (by omega) hi
 rw [h]
def numF (n : Int) (f : FlTy.T) : Bool:=fN f == n
theorem find1_any (g : FlTy.T) (Ab : Option Addr) (cb : Nat) (As : Option Addr) (cs : Nat) (Aq : Option Addr) (cq : Nat) (Ax : Option Addr) (cx : Nat) (n : Int) (gn : Nat) (w : World) (hn : BoxOf w gn #[.int .i64 n] 3) :
 Calls Try.prog 73 #[.agg #[.int .i64 (fN g),.int .u8 (kI g),.int .i64 (fA g),.int .i64 (fM g),.slice Ab (fD g).length cb,.slice As (fS g).length cs,.slice Aq (fQ g).length cq,.slice Ax (fB g).length cx],.pointer (some ⟨gn,0,none⟩)] w fun e w'=>e = .returned (.bool (numF n g)) ∧ Below w.heap.size w w':=by
 have t0:=Ext.alloc (Below.refl w.heap.size w) (.cells #[.int .i64 (fN g),.int .u8 (kI g),.int .i64 (fA g),.int .i64 (fM g),.slice Ab (fD g).length cb,.slice As (fS g).length cs,.slice Aq (fQ g).length cq,.slice Ax (fB g).length cx] 67)
 have x0:=(BoxOf.alloc hn (.cells #[.int .i64 (fN g),.int .u8 (kI g),.int .i64 (fA g),.int .i64 (fM g),.slice Ab (fD g).length cb,.slice As (fS g).length cs,.slice Aq (fQ g).length cq,.slice Ax (fB g).length cx] 67)).cell
 go_enter Try.func73,Try.ntmps73
 go_wp2
 go_ret
 exact ⟨rfl,t0⟩
set_option maxRecDepth 100000 in
set_option maxHeartbeats 2000000 in
theorem idx_find (S : Nat → Prop) (fs : List FlTy.T) (B : Option Addr) (n d : Nat) (hn : fs.length = n) (num : Int) (gn : Nat) (w : World) (hg : RdIn w S (.sl FlTy) fs [.slice B n d]) (hgb : BoxOf w gn #[.int .i64 num] 3) :
 Calls Try.prog 72 #[.slice B n d,.func (.func 73) #[] #[.pointer (some ⟨gn,0,none⟩)]] w fun e w'=>IdxIs (numF num) fs e ∧ Below w.heap.size w w':=by
 have HG:=Lib.hid hg
 have HGM : Hid (n ≤ maxLen):=by have:=fl_max hg;show n ≤ maxLen;omega
 have HNL:=Lib.hid hn
 have HGN:=Lib.hid hgb
 clear hg hn
 go_enter Try.func72,Try.ntmps72
 go_upto_region 1 with fail
 obtain ⟨W,hW⟩ : ∃ z : World,z = w:=⟨_,rfl⟩
 have b0 : Below W.heap.size W w:=by rw [hW];exact Below.refl _ _
 have HWW:=Lib.hid hW
 rw [← hW] at HG
 clear hW
 go_wp2
 go_loopw [5,8] (fun v i wr=>∃ (j : Nat),j ≤ n ∧ i = .int .i64 j ∧ Below W.heap.size W wr ∧ Hid (∀ i,i < j → NotAt (numF num) fs i)) (fun _ i _=>n - (intOf i).toNat)
 case atStart=>exact ⟨0,by omega,rfl,b0,fun i h=>absurd h (Nat.not_lt_zero _)⟩
 case round=>
  obtain ⟨j,hj,rfl,b1,HA⟩:=hrel
  clear b0
  have bw : Below w.heap.size w wr:=by have:=HWW.out;subst this;exact b1
  by_cases hlt : j < n
  · have hlf : j < fs.length:=by have:=HNL.out;omega
    obtain ⟨b,off,Ab,cb,As,cs,Aq,cq,Ax,cx,rfl,q0,q1,q2,q3,q4,q5,q6,q7,hi,r1,r2,r3,r4⟩:=fl_at (HG.out.below b1) hlf
    have HSK : Hid (NotAt (numF num) fs j ↔ (numF num) fs[j] = false):=⟨fun h=>h hlf,fun h _=>h⟩
    have HSY : Hid ((numF num) fs[j] = true → IdxIs (numF num) fs (.returned (.int .i64 (j : Int)))):=fun h=>IdxIs.at hlf h HA.out
    have HF0:=Lib.hid (find1_any fs[j] Ab cb As cs Aq cq Ax cx num gn wr (HGN.out.next bw))
    generalize fs[j] = g at *
    have HWJ:=next_wrap HGM.out hlt
    have HLJ:=Lib.hid hlt
    clear hi r1 r2 r3 r4
    rcases Bool.eq_false_or_eq_true ((numF num) g) with e1 | e1
    · have HF:=Lib.hid (HSY.out e1)
      have HF1:=HF0;rw [show numF num g = _ from e1] at HF1
      go_wp2_with (go_at_call 73;refine HF1.out.mono ?_;rintro e w3 ⟨rfl,b3⟩)
      go_ret
      exact ⟨HF.out,Ext.trans bw b3⟩
    · have HA' : Hid (∀ i,i < j + 1 → NotAt (numF num) fs i):=by
       intro i hi
       by_cases h : i = j
       · subst h
         exact HSK.out.2 e1
       · exact HA.out i (by omega)
      have HF1:=HF0;rw [show numF num g = _ from e1] at HF1
      go_wp2_with (go_at_call 73;refine HF1.out.mono ?_;rintro e w3 ⟨rfl,b3⟩)
      have b5:=Ext.trans b1 b3
      go_roundw
      case rel=>exact ⟨j + 1,HLJ.out,by first | exact round_same HWJ | go_num,b5,HA'⟩
      case measure=>first | exact round_less HWJ HLJ.out | (have h:=HLJ.out;simp [intOf];omega)
  · have HN:=Lib.hid (IdxIs.none (p:=numF num) (fs:=fs) (j:=j) HA.out (by have:=HNL.out;omega))
    go_wp2
    go_ret
    exact ⟨HN.out,bw⟩
set_option maxRecDepth 100000 in
set_option maxHeartbeats 2000000 in
theorem first1_any (S : Nat → Prop) (x : Cfg) (fs : List FlTy.T) (N d k : Nat) (B : Option Addr) (hk : k < fs.length) (hN : fs.length = N) (g : FlTy.T) (hg : codeF x g = 0) (hgk : codeF x fs[k] = 0) (Ab : Option Addr) (cb : Nat) (As : Option Addr) (cs : Nat) (Aq : Option Addr) (cq : Nat) (Ax : Option Addr) (cx : Nat) (gc gl gk : Nat) (w : World) (hc : BoxOf w gc #[.int .u32 (x.id : Int),.int .i64 x.m,.int .i64 x.c,.int .i64 x.r,.int .i64 x.l,.int .i64 x.h] 24) (hl : BoxOf w gl #[.slice B N d] 25) (hkb : BoxOf w gk #[.int .i64 (k : Int)] 3) (hr : RdIn w S (.sl FlTy) fs [.slice B N d]) :
 Calls Try.prog 75 #[.agg #[.int .i64 (fN g),.int .u8 (kI g),.int .i64 (fA g),.int .i64 (fM g),.slice Ab (fD g).length cb,.slice As (fS g).length cs,.slice Aq (fQ g).length cq,.slice Ax (fB g).length cx],.pointer (some ⟨gc,0,none⟩),.pointer (some ⟨gl,0,none⟩),.pointer (some ⟨gk,0,none⟩)] w fun e w'=>e = .returned (.bool (meetF g fs[k])) ∧ Below w.heap.size w w':=by
 have t0:=Ext.alloc (Below.refl w.heap.size w) (.cells #[.int .i64 (fN g),.int .u8 (kI g),.int .i64 (fA g),.int .i64 (fM g),.slice Ab (fD g).length cb,.slice As (fS g).length cs,.slice Aq (fQ g).length cq,.slice Ax (fB g).length cx] 67)
 have P0:=BoxOf.new w #[.int .i64 (fN g),.int .u8 (kI g),.int .i64 (fA g),.int .i64 (fM g),.slice Ab (fD g).length cb,.slice As (fS g).length cs,.slice Aq (fQ g).length cq,.slice Ax (fB g).length cx] 67
 have C0:=BoxOf.alloc hc (.cells #[.int .i64 (fN g),.int .u8 (kI g),.int .i64 (fA g),.int .i64 (fM g),.slice Ab (fD g).length cb,.slice As (fS g).length cs,.slice Aq (fQ g).length cq,.slice Ax (fB g).length cx] 67)
 have L0:=BoxOf.alloc hl (.cells #[.int .i64 (fN g),.int .u8 (kI g),.int .i64 (fA g),.int .i64 (fM g),.slice Ab (fD g).length cb,.slice As (fS g).length cs,.slice Aq (fQ g).length cq,.slice Ax (fB g).length cx] 67)
 have K0:=BoxOf.alloc hkb (.cells #[.int .i64 (fN g),.int .u8 (kI g),.int .i64 (fA g),.int .i64 (fM g),.slice Ab (fD g).length cb,.slice As (fS g).length cs,.slice Aq (fQ g).length cq,.slice Ax (fB g).length cx] 67)
 obtain ⟨b,off,Ab2,cb2,As2,cs2,Aq2,cq2,Ax2,cx2,rfl,q0,q1,q2,q3,q4,q5,q6,q7,hi,r1,r2,r3,r4⟩:=fl_at (hr.below t0) hk
 have HT:=Lib.hid (fun w' : World=>touch_all x (kI g) (fA g) (fM g) (kI fs[k]) (fA fs[k]) (fM fs[k]) Ab Ab2 (fD g).length cb (fD fs[k]).length cb2 hg hgk w')
 have HME : Hid (meetF g fs[k] = touchB (kI g) (fA g) (fM g) (kI fs[k]) (fA fs[k]) (fM fs[k])):=rfl
 have hkN : (k : Int) < (N : Int):=by omega
 have hNm : Hid (N ≤ maxLen):=by have:=fl_max hr;show N ≤ maxLen;omega
 generalize meetF g fs[k] = mb at *
 generalize touchB (kI g) (fA g) (fM g) (kI fs[k]) (fA fs[k]) (fM fs[k]) = tb at *
 generalize fs[k] = f at *
 clear hi r1 r2 r3 r4 hg hgk hc hl hkb hr hk hN q0 q5 q6 q7
 obtain ⟨id,m,c,r,l,h⟩:=x
 unfold Cfg.val at *
 dsimp only at *
 go_enter Try.func75,Try.ntmps75
 go_upto_region 1 with fail
 generalize w.alloc (.cells #[.int .i64 (fN g),.int .u8 (kI g),.int .i64 (fA g),.int .i64 (fM g),.slice Ab (fD g).length cb,.slice As (fS g).length cs,.slice Aq (fQ g).length cq,.slice Ax (fB g).length cx] 67) = W at *
 have HS : Hid (∀ w',Below W.heap.size W w' → Below W.heap.size W w' ∧ (∀ p,w'.cell? ⟨gc,p,none⟩ = (#[.int .u32 (id : Int),.int .i64 m,.int .i64 c,.int .i64 r,.int .i64 l,.int .i64 h] : Array Value).toList[p]?) ∧ (∀ p,w'.cell? ⟨w.heap.size,p,none⟩ = (#[.int .i64 (fN g),.int .u8 (kI g),.int .i64 (fA g),.int .i64 (fM g),.slice Ab (fD g).length cb,.slice As (fS g).length cs,.slice Aq (fQ g).length cq,.slice Ax (fB g).length cx] : Array Value).toList[p]?) ∧ (∀ p,w'.cell? ⟨gl,p,none⟩ = (#[.slice (some ⟨b,off,none⟩) N d] : Array Value).toList[p]?) ∧ (∀ p,w'.cell? ⟨gk,p,none⟩ = (#[.int .i64 (k : Int)] : Array Value).toList[p]?) ∧ w'.cell? ⟨b,off + k * 8 + 1,none⟩ = some (.int .u8 (kI f)) ∧ w'.cell? ⟨b,off + k * 8 + 2,none⟩ = some (.int .i64 (fA f)) ∧ w'.cell? ⟨b,off + k * 8 + 3,none⟩ = some (.int .i64 (fM f)) ∧ w'.cell? ⟨b,off + k * 8 + 4,none⟩ = some (.slice Ab2 (fD f).length cb2)):=fun w' bb=>⟨bb,(C0.next bb).cell,(P0.next bb).cell,(L0.next bb).cell,(K0.next bb).cell,(bb.cell (p:=⟨b,off + k * 8 + 1,none⟩) (block_lt_of_cell q1)).trans q1,(bb.cell (p:=⟨b,off + k * 8 + 2,none⟩) (block_lt_of_cell q2)).trans q2,(bb.cell (p:=⟨b,off + k * 8 + 3,none⟩) (block_lt_of_cell q3)).trans q3,(bb.cell (p:=⟨b,off + k * 8 + 4,none⟩) (block_lt_of_cell q4)).trans q4⟩
 clear q1 q2 q3 q4 C0 P0 L0 K0
 have bv:=Ext.drew (Below.refl W.heap.size W)
 have hS0:=HS.out _ bv
 refine wp_region_held_drew (S:=fun w'=>Below W.heap.size W w' ∧ (∀ p,w'.cell? ⟨gc,p,none⟩ = (#[.int .u32 (id : Int),.int .i64 m,.int .i64 c,.int .i64 r,.int .i64 l,.int .i64 h] : Array Value).toList[p]?) ∧ (∀ p,w'.cell? ⟨w.heap.size,p,none⟩ = (#[.int .i64 (fN g),.int .u8 (kI g),.int .i64 (fA g),.int .i64 (fM g),.slice Ab (fD g).length cb,.slice As (fS g).length cs,.slice Aq (fQ g).length cq,.slice Ax (fB g).length cx] : Array Value).toList[p]?) ∧ (∀ p,w'.cell? ⟨gl,p,none⟩ = (#[.slice (some ⟨b,off,none⟩) N d] : Array Value).toList[p]?) ∧ (∀ p,w'.cell? ⟨gk,p,none⟩ = (#[.int .i64 (k : Int)] : Array Value).toList[p]?) ∧ w'.cell? ⟨b,off + k * 8 + 1,none⟩ = some (.int .u8 (kI f)) ∧ w'.cell? ⟨b,off + k * 8 + 2,none⟩ = some (.int .i64 (fA f)) ∧ w'.cell? ⟨b,off + k * 8 + 3,none⟩ = some (.int .i64 (fM f)) ∧ w'.cell? ⟨b,off + k * 8 + 4,none⟩ = some (.slice Ab2 (fD f).length cb2)) (by kernel_rfl) hS0 (fun hS=>?_)
 clear bv hS0
 refine wpAnyH_take (i:=0) (v:=?_) rfl (by kernel_rfl) (by kernel_rfl) (by kernel_rfl) (fun _ _ _ h=>h) (Or.inl ⟨by rfl,?_⟩) hS ?_
 rotate_left
 · (intro w hSw;(try dsimp only at hSw);go_simp;(try with_reducible rfl))
 rotate_left
 simp only [Act.put,zq0,zq1,zq2,zq3,zq4,zq5]
 refine wpAnyH_take (i:=1) (v:=?_) rfl (by kernel_rfl) (by kernel_rfl) (by kernel_rfl) (fun _ _ _ h=>h) (Or.inl ⟨by rfl,?_⟩) hS ?_
 rotate_left
 · (intro w hSw;(try dsimp only at hSw);go_simp;(try with_reducible rfl))
 rotate_left
 simp only [Act.put,zq0,zq1,zq2,zq3,zq4,zq5]
 refine wpAnyH_take (i:=2) (v:=?_) rfl (by kernel_rfl) (by kernel_rfl) (by kernel_rfl) (fun _ _ _ h=>h) (Or.inl ⟨by rfl,?_⟩) hS ?_
 rotate_left
 · (intro w hSw;(try dsimp only at hSw);go_simp;(try with_reducible rfl))
 rotate_left
 simp only [Act.put,zq0,zq1,zq2,zq3,zq4,zq5]
 refine wpAnyH_take (i:=3) (v:=?_) rfl (by kernel_rfl) (by kernel_rfl) (by kernel_rfl) (fun _ _ _ h=>h) (Or.inl ⟨by rfl,?_⟩) hS ?_
 rotate_left
 · (intro w hSw;(try dsimp only at hSw);go_simp;(try with_reducible rfl))
 rotate_left
 simp only [Act.put,zq0,zq1,zq2,zq3,zq4,zq5]
 refine wpAnyH_take (i:=4) (v:=?_) rfl (by kernel_rfl) (by kernel_rfl) (by kernel_rfl) (fun _ _ _ h=>h) (Or.inl ⟨by rfl,?_⟩) hS ?_
 rotate_left
 · (intro w hSw;(try dsimp only at hSw);go_simp;(try with_reducible rfl))
 rotate_left
 simp only [Act.put,zq0,zq1,zq2,zq3,zq4,zq5]
 refine wpAnyH_ready (rs:=[5]) (by kernel_rfl) (by simp) ?_
 refine AllReadyH.cons rfl (fun K hK=>?_) AllReadyH.nil
 rw [if_pos (by rfl)]
 go_simp
 refine hK.out _ _ hS (fun hS'=>?_)
 clear hK K hS
 have hS:=hS'
 clear hS'
 try simp only [Act.put,zq0,zq1,zq2,zq3,zq4,zq5]
 refine wpAnyH_take (i:=6) (v:=?_) rfl (by kernel_rfl) (by kernel_rfl) (by kernel_rfl) (fun _ _ _ h=>h) (Or.inl ⟨by rfl,?_⟩) hS ?_
 rotate_left
 · (intro w hSw;(try dsimp only at hSw);go_simp;(try with_reducible rfl))
 rotate_left
 simp only [Act.put,zq0,zq1,zq2,zq3,zq4,zq5]
 refine wpAnyH_take (i:=7) (v:=?_) rfl (by kernel_rfl) (by kernel_rfl) (by kernel_rfl) (fun _ _ _ h=>h) (Or.inl ⟨by rfl,?_⟩) hS ?_
 rotate_left
 · (intro w hSw;(try dsimp only at hSw);go_simp;(try with_reducible rfl))
 rotate_left
 simp only [Act.put,zq0,zq1,zq2,zq3,zq4,zq5]
 refine wpAnyH_ready (rs:=[8]) (by kernel_rfl) (by simp) ?_
 refine AllReadyH.cons rfl (fun K hK=>?_) AllReadyH.nil
 rw [if_pos (by rfl)]
 go_simp
 refine (HT.out _).mono ?_
 rintro e w3 ⟨rfl,k3⟩
 refine hK.out _ _ (HS.out _ (Ext.trans hS.1 k3)) (fun hS'=>?_)
 clear hK K hS k3
 have hS:=hS'
 clear hS'
 try simp only [Act.put,zq0,zq1,zq2,zq3,zq4,zq5]
 refine wpAnyH_take (i:=9) (v:=?_) rfl (by kernel_rfl) (by kernel_rfl) (by kernel_rfl) (fun _ _ _ h=>h) (Or.inl ⟨by rfl,?_⟩) hS ?_
 rotate_left
 · (intro w hSw;(try dsimp only at hSw);go_simp;(try with_reducible rfl))
 rotate_left
 simp only [Act.put,zq0,zq1,zq2,zq3,zq4,zq5]
 refine wpAnyH_take (i:=10) (v:=?_) rfl (by kernel_rfl) (by kernel_rfl) (by kernel_rfl) (fun _ _ _ h=>h) (Or.inl ⟨by rfl,?_⟩) hS ?_
 rotate_left
 · (intro w hSw;(try dsimp only at hSw);go_simp;(try with_reducible rfl))
 rotate_left
 simp only [Act.put,zq0,zq1,zq2,zq3,zq4,zq5]
 refine wpAnyH_take (i:=11) (v:=?_) rfl (by kernel_rfl) (by kernel_rfl) (by kernel_rfl) (fun _ _ _ h=>h) (Or.inl ⟨by rfl,?_⟩) hS ?_
 rotate_left
 · (intro w hSw;(try dsimp only at hSw);go_simp;(try with_reducible rfl))
 rotate_left
 simp only [Act.put,zq0,zq1,zq2,zq3,zq4,zq5]
 refine wpAnyH_take (i:=12) (v:=?_) rfl (by kernel_rfl) (by kernel_rfl) (by kernel_rfl) (fun _ _ _ h=>h) (Or.inl ⟨by rfl,?_⟩) hS ?_
 rotate_left
 · (intro w hSw;(try dsimp only at hSw);go_simp;(try with_reducible rfl))
 rotate_left
 simp only [Act.put,zq0,zq1,zq2,zq3,zq4,zq5]
 refine wpAnyH_take (i:=13) (v:=?_) rfl (by kernel_rfl) (by kernel_rfl) (by kernel_rfl) (fun _ _ _ h=>h) (Or.inl ⟨by rfl,?_⟩) hS ?_
 rotate_left
 · (intro w hSw;(try dsimp only at hSw);go_simp;(try with_reducible rfl))
 rotate_left
 simp only [Act.put,zq0,zq1,zq2,zq3,zq4,zq5]
 refine wpAnyH_done (by kernel_rfl) ?_ _
 have t3:=Ext.trans t0 hS.1
 clear hS
 go_wp2
 go_ret
 exact ⟨by rw [HME.out];rfl,t3⟩
set_option maxRecDepth 100000 in
set_option maxHeartbeats 2000000 in
theorem idx_first (S : Nat → Prop) (fs : List FlTy.T) (B : Option Addr) (n d : Nat) (hn : fs.length = n) (x : Cfg) (L : List FlTy.T) (N dN k : Nat) (A : Option Addr) (hk : k < L.length) (hN : L.length = N) (hgk : codeF x L[k] = 0) (fk : FlTy.T) (hfk : fk = L[k]) (gc gl gk : Nat) (w : World) (hg : RdIn w S (.sl FlTy) fs [.slice B n d]) (hall : ∀ f ∈ fs,codeF x f = 0) (hc : BoxOf w gc #[.int .u32 (x.id : Int),.int .i64 x.m,.int .i64 x.c,.int .i64 x.r,.int .i64 x.l,.int .i64 x.h] 24) (hl : BoxOf w gl #[.slice A N dN] 25) (hkb : BoxOf w gk #[.int .i64 (k : Int)] 3) (hr : RdIn w S (.sl FlTy) L [.slice A N dN]) :
 Calls Try.prog 72 #[.slice B n d,.func (.func 75) #[] #[.pointer (some ⟨gc,0,none⟩),.pointer (some ⟨gl,0,none⟩),.pointer (some ⟨gk,0,none⟩)]] w fun e w'=>IdxIs (fun f=>meetF f fk) fs e ∧ Below w.heap.size w w':=by
 have HG:=Lib.hid hg
 have HGM : Hid (n ≤ maxLen):=by have:=fl_max hg;show n ≤ maxLen;omega
 have HNL:=Lib.hid hn
 have HF00 : Hid (∀ w',Below w.heap.size w w' → ∀ g,codeF x g = 0 → ∀ (Ab : Option Addr) (cb : Nat) (As : Option Addr) (cs : Nat) (Aq : Option Addr) (cq : Nat) (Ax : Option Addr) (cx : Nat),Calls Try.prog 75 #[.agg #[.int .i64 (fN g),.int .u8 (kI g),.int .i64 (fA g),.int .i64 (fM g),.slice Ab (fD g).length cb,.slice As (fS g).length cs,.slice Aq (fQ g).length cq,.slice Ax (fB g).length cx],.pointer (some ⟨gc,0,none⟩),.pointer (some ⟨gl,0,none⟩),.pointer (some ⟨gk,0,none⟩)] w' fun e w''=>e = .returned (.bool (meetF g fk)) ∧ Below w'.heap.size w' w''):=fun w' bb g hg Ab cb As cs Aq cq Ax cx=>(by rw [hfk];exact first1_any S x L N dN k A hk hN g hg hgk Ab cb As cs Aq cq Ax cx gc gl gk w' (hc.next bb) (hl.next bb) (hkb.next bb) (hr.below bb));have HALL:=Lib.hid hall;clear hall hc hl hkb hr hfk hgk hk hN
 clear hg hn
 go_enter Try.func72,Try.ntmps72
 go_upto_region 1 with fail
 obtain ⟨W,hW⟩ : ∃ z : World,z = w:=⟨_,rfl⟩
 have b0 : Below W.heap.size W w:=by rw [hW];exact Below.refl _ _
 have HWW:=Lib.hid hW
 rw [← hW] at HG
 clear hW
 go_wp2
 go_loopw [5,8] (fun v i wr=>∃ (j : Nat),j ≤ n ∧ i = .int .i64 j ∧ Below W.heap.size W wr ∧ Hid (∀ i,i < j → NotAt (fun f=>meetF f fk) fs i)) (fun _ i _=>n - (intOf i).toNat)
 case atStart=>exact ⟨0,by omega,rfl,b0,fun i h=>absurd h (Nat.not_lt_zero _)⟩
 case round=>
  obtain ⟨j,hj,rfl,b1,HA⟩:=hrel
  clear b0
  have bw : Below w.heap.size w wr:=by have:=HWW.out;subst this;exact b1
  by_cases hlt : j < n
  · have hlf : j < fs.length:=by have:=HNL.out;omega
    obtain ⟨b,off,Ab,cb,As,cs,Aq,cq,Ax,cx,rfl,q0,q1,q2,q3,q4,q5,q6,q7,hi,r1,r2,r3,r4⟩:=fl_at (HG.out.below b1) hlf
    have HSK : Hid (NotAt (fun f=>meetF f fk) fs j ↔ (fun f=>meetF f fk) fs[j] = false):=⟨fun h=>h hlf,fun h _=>h⟩
    have HSY : Hid ((fun f=>meetF f fk) fs[j] = true → IdxIs (fun f=>meetF f fk) fs (.returned (.int .i64 (j : Int)))):=fun h=>IdxIs.at hlf h HA.out
    have HF0:=Lib.hid (HF00.out wr bw fs[j] (HALL.out _ (List.getElem_mem hlf)) Ab cb As cs Aq cq Ax cx)
    generalize fs[j] = g at *
    have HWJ:=next_wrap HGM.out hlt
    have HLJ:=Lib.hid hlt
    clear hi r1 r2 r3 r4
    rcases Bool.eq_false_or_eq_true ((fun f=>meetF f fk) g) with e1 | e1
    · have HF:=Lib.hid (HSY.out e1)
      have HF1:=HF0;rw [show meetF g fk = _ from e1] at HF1
      go_wp2_with (go_at_call 75;refine HF1.out.mono ?_;rintro e w3 ⟨rfl,b3⟩)
      go_ret
      exact ⟨HF.out,Ext.trans bw b3⟩
    · have HA' : Hid (∀ i,i < j + 1 → NotAt (fun f=>meetF f fk) fs i):=by
       intro i hi
       by_cases h : i = j
       · subst h
         exact HSK.out.2 e1
       · exact HA.out i (by omega)
      have HF1:=HF0;rw [show meetF g fk = _ from e1] at HF1
      go_wp2_with (go_at_call 75;refine HF1.out.mono ?_;rintro e w3 ⟨rfl,b3⟩)
      have b5:=Ext.trans b1 b3
      go_roundw
      case rel=>exact ⟨j + 1,HLJ.out,by first | exact round_same HWJ | go_num,b5,HA'⟩
      case measure=>first | exact round_less HWJ HLJ.out | (have h:=HLJ.out;simp [intOf];omega)
  · have HN:=Lib.hid (IdxIs.none (p:=fun f=>meetF f fk) (fs:=fs) (j:=j) HA.out (by have:=HNL.out;omega))
    go_wp2
    go_ret
    exact ⟨HN.out,bw⟩
theorem RdIn.take {w : World} {S : Nat → Prop} {e : Ty} {xs : List e.T} {A : Option Addr} {n c : Nat} (h : RdIn w S (.sl e) xs [.slice A n c]) {k : Nat} (hk : k ≤ xs.length) : RdIn w S (.sl e) (xs.take k) [.slice A k c]:=by
 obtain ⟨A',c',h0,h1,h2,h3,h4⟩:=rdin_sl.1 h
 injection h0 with h0 _
 injection h0 with h01 h02 h03
 subst h01 h03
 have hl : (xs.take k).length = k:=by rw [List.length_take];omega
 refine rdin_sl.2 ⟨A,c,by rw [hl],by rw [hl];omega,h2,by rw [hl];exact Nat.le_trans (Nat.mul_le_mul_right _ hk) h3,?_⟩
 rcases h4 with h4 | ⟨b,off,hA,hS,h4⟩
 · exact .inl (by rw [h4];simp)
 · refine .inr ⟨b,off,hA,hS,fun i hi=>?_⟩
   have hi' : i < xs.length:=by rw [hl] at hi;omega
   obtain ⟨es,h5,h6⟩:=h4 i hi'
   exact ⟨es,h5,by rw [List.getElem_take];exact h6⟩
theorem idxI_first {fs : List FlTy.T} {k : Nat} (hk : k < fs.length) : (!decide (0 ≤ idxI (fun f=>meetF f fs[k]) (fs.take k))) = firstB fs k:=by
 unfold firstB idxI
 rw [List.getElem?_eq_getElem hk]
 simp only
 cases h : (fs.take k).findIdx? (fun f=>meetF f fs[k]) with
 | none=>
   rw [List.findIdx?_eq_none_iff] at h
   symm
   simp
   intro a ha
   exact h a ha
 | some i=>
   rw [List.findIdx?_eq_some_iff_getElem] at h
   obtain ⟨hi,h1,_⟩:=h
   have : (fs.take k).all (fun f=>!meetF f fs[k]) = false:=by
    rw [List.all_eq_false]
    exact ⟨_,List.getElem_mem hi,by rw [h1];simp⟩
   rw [this]
   simp
theorem hasf_any (B : Option Addr) (n d : Nat) (fv : Value) (iv : Int) (w : World) (HC : Hid (Calls Try.prog 72 #[.slice B n d,fv] w fun e w'=>e = .returned (.int .i64 iv) ∧ Below w.heap.size w w')) :
 Calls Try.prog 74 #[.slice B n d,fv] w fun e w'=>e = .returned (.bool (decide (0 ≤ iv))) ∧ Below w.heap.size w w':=by
 go_enter Try.func74,Try.ntmps74
 go_wp2_with fail
 refine HC.out.mono ?_
 rintro e w1 ⟨rfl,b1⟩
 go_wp2
 go_ret
 exact ⟨rfl,b1⟩
set_option maxRecDepth 100000 in
set_option maxHeartbeats 2000000 in
theorem first_any (S : Nat → Prop) (x : Cfg) (fs : List FlTy.T) (N d k : Nat) (B : Option Addr) (hk : k < fs.length) (hN : fs.length = N) (hc : ∀ i (h : i < fs.length),i ≤ k → codeF x fs[i] = 0) (w : World) (hr : RdIn w S (.sl FlTy) fs [.slice B N d]) :
 Calls Try.prog 40 #[x.val,.slice B N d,.int .i64 (k : Int)] w fun e w'=>e = .returned (.bool (firstB fs k)) ∧ Below w.heap.size w w':=by
 have t0:=Ext.alloc (Ext.alloc (Ext.alloc (Below.refl w.heap.size w) (.cells #[.int .u32 (x.id : Int),.int .i64 x.m,.int .i64 x.c,.int .i64 x.r,.int .i64 x.l,.int .i64 x.h] 24)) (.cells #[.slice B N d] 25)) (.cells #[.int .i64 (k : Int)] 3)
 have C0:=BoxOf.alloc (BoxOf.alloc (BoxOf.new w #[.int .u32 (x.id : Int),.int .i64 x.m,.int .i64 x.c,.int .i64 x.r,.int .i64 x.l,.int .i64 x.h] 24) (.cells #[.slice B N d] 25)) (.cells #[.int .i64 (k : Int)] 3)
 have L0:=BoxOf.alloc (BoxOf.new' (w.alloc (.cells #[.int .u32 (x.id : Int),.int .i64 x.m,.int .i64 x.c,.int .i64 x.r,.int .i64 x.l,.int .i64 x.h] 24)) (w.heap.size + 1) #[.slice B N d] 25 (by simp)) (.cells #[.int .i64 (k : Int)] 3)
 have K0:=BoxOf.new' ((w.alloc (.cells #[.int .u32 (x.id : Int),.int .i64 x.m,.int .i64 x.c,.int .i64 x.r,.int .i64 x.l,.int .i64 x.h] 24)).alloc (.cells #[.slice B N d] 25)) (w.heap.size + 2) #[.int .i64 (k : Int)] 3 (by simp)
 have hlk : (fs.take k).length = k:=by rw [List.length_take];omega
 have HC:=Lib.hid (idx_first S (fs.take k) B k d hlk x fs N d k B hk hN (hc k hk (Nat.le_refl k)) fs[k] rfl w.heap.size (w.heap.size + 1) (w.heap.size + 2) _ ((hr.below t0).take (by omega)) (fun f hf=>by
  obtain ⟨i,hi,rfl⟩:=List.mem_take_iff_getElem.1 hf
  exact hc i (by omega) (by omega)) C0 L0 K0 (hr.below t0))
 have HV:=Lib.hid (idxI_first hk)
 have hkN : k ≤ d:=by
  obtain ⟨_,_,h0,h1,_⟩:=rdin_sl.1 hr
  injection h0 with h0 _
  injection h0 with _ h02 h03
  omega
 have hdm : d ≤ maxLen:=by
  obtain ⟨_,_,h0,_,h1,_⟩:=rdin_sl.1 hr
  injection h0 with h0 _
  injection h0 with _ h02 h03
  omega
 have hkI : (0 : Int) ≤ (k : Int):=by omega
 have hkd : (k : Int) ≤ (d : Int):=by omega
 generalize firstB fs k = fb at *
 unfold IdxIs at HC
 generalize idxI (fun f=>meetF f fs[k]) (fs.take k) = iv at *
 clear hlk hr hc hk hN
 obtain ⟨id,m,c,r,l,h⟩:=x
 unfold Cfg.val at *
 dsimp only at *
 go_enter Try.func40,Try.ntmps40
 go_upto_region 1 with fail
 generalize ((w.alloc (.cells #[.int .u32 (id : Int),.int .i64 m,.int .i64 c,.int .i64 r,.int .i64 l,.int .i64 h] 24)).alloc (.cells #[.slice B N d] 25)).alloc (.cells #[.int .i64 (k : Int)] 3) = W at *
 have x0:=C0.cell
 have y0:=L0.cell
 have z0:=K0.cell
 clear C0 L0 K0
 have HC2:=Lib.hid (hasf_any _ _ _ _ _ _ HC)
 clear HC
 go_wp2_with fail
 refine HC2.out.mono ?_
 rintro e w1 ⟨rfl,b1⟩
 have t1:=Ext.trans t0 b1
 go_wp2
 go_ret
 exact ⟨by rw [← HV.out];rfl,t1⟩
end Go.Proofs.Ythapabjlhooglaa
namespace Go.Proofs.Ythapabjlhooglaa
open Go Go.RowKit
set_option linter.unusedSimpArgs false
set_option linter.unusedVariables false
theorem check1_any (s : Int) (w : World) : Calls Try.prog 53 #[.int .u8 s] w fun e w'=>e = .returned (.bool (s != 0)) ∧ w = w':=by
 go_enter Try.func53,Try.ntmps53
 go_wp2
 go_ret
 exact ⟨rfl,rfl⟩
def onB (s : UInt8) : Bool:=((s.toNat : Int) != 0)
theorem onB_is (s : UInt8) : onB s = (s != 0):=by
 unfold onB
 by_cases h : s = 0
 · rw [h];rfl
 · have h1 : s.toNat ≠ 0:=fun e=>h (UInt8.toNat_inj.1 e)
   rw [Bool.eq_iff_iff]
   simp only [bne_iff_ne,ne_eq]
   exact ⟨fun _=>h,fun _=>by omega⟩
theorem onB_any {f : FlTy.T} : (fS f).any onB = goesB f:=by
 unfold goesB
 rw [show onB = fun s=>s != 0 from funext onB_is]
set_option maxRecDepth 100000 in
set_option maxHeartbeats 2000000 in
theorem idxu_any (S : Nat → Prop) (ss : List UInt8) (A : Option Addr) (n c : Nat) (hn : ss.length = n) (w : World) (hg : RdIn w S (.sl .byte) ss [.slice A n c]) :
 Calls Try.prog 80 #[.slice A n c,.func (.func 53) #[] #[]] w fun e w'=>IdxIs onB ss e ∧ Below w.heap.size w w':=by
 have HG:=Lib.hid hg
 have HGM : Hid (n ≤ maxLen):=by have:=byte_max hg;show n ≤ maxLen;omega
 have HNL:=Lib.hid hn
 clear hg hn
 go_enter Try.func80,Try.ntmps80
 go_upto_region 1 with fail
 go_wp2
 obtain ⟨W,hW⟩ : ∃ z : World,z = w:=⟨_,rfl⟩
 have b0 : Below W.heap.size W w:=by rw [hW];exact Below.refl _ _
 have HWW:=Lib.hid hW
 rw [← hW] at HG
 clear hW
 go_loopw [5,8] (fun v i wr=>∃ (j : Nat),j ≤ n ∧ i = .int .i64 j ∧ Below W.heap.size W wr ∧ Hid (∀ i,i < j → NotAt onB ss i)) (fun _ i _=>n - (intOf i).toNat)
 case atStart=>exact ⟨0,by omega,rfl,b0,fun i h=>absurd h (Nat.not_lt_zero _)⟩
 case round=>
  obtain ⟨j,hj,rfl,b1,HA⟩:=hrel
  clear b0
  have bw : Below w.heap.size w wr:=by have:=HWW.out;subst this;exact b1
  by_cases hlt : j < n
  · have hlf : j < ss.length:=by have:=HNL.out;omega
    obtain ⟨b,off,rfl,ks⟩:=st_at (HG.out.below b1) hlf
    have HSK : Hid (NotAt onB ss j ↔ onB ss[j] = false):=⟨fun h=>h hlf,fun h _=>h⟩
    have HSY : Hid (onB ss[j] = true → IdxIs onB ss (.returned (.int .i64 (j : Int)))):=fun h=>IdxIs.at hlf h HA.out
    unfold onB at HSK HSY
    generalize ss[j].toNat = sn at *
    have HWJ:=next_wrap HGM.out hlt
    have HLJ:=Lib.hid hlt
    rcases Bool.eq_false_or_eq_true ((sn : Int) != 0) with e1 | e1
    · have HF:=Lib.hid (HSY.out e1)
      go_wp2_with (go_at_call 53;refine (check1_any _ _).mono ?_;rintro e w3 ⟨rfl,rfl⟩)
      go_ret
      exact ⟨HF.out,bw⟩
    · have HA' : Hid (∀ i,i < j + 1 → NotAt onB ss i):=by
       intro i hi
       by_cases h : i = j
       · subst h
         exact HSK.out.2 e1
       · exact HA.out i (by omega)
      go_wp2_with (go_at_call 53;refine (check1_any _ _).mono ?_;rintro e w3 ⟨rfl,rfl⟩)
      go_roundw
      case rel=>exact ⟨j + 1,HLJ.out,by first | exact round_same HWJ | go_num,b1,HA'⟩
      case measure=>first | exact round_less HWJ HLJ.out | (have h:=HLJ.out;simp [intOf];omega)
  · have HN:=Lib.hid (IdxIs.none (p:=onB) (fs:=ss) (j:=j) HA.out (by have:=HNL.out;omega))
    go_wp2
    go_ret
    exact ⟨HN.out,bw⟩
theorem idxI_any {α : Type} (p : α → Bool) (xs : List α) : decide (0 ≤ idxI p xs) = xs.any p:=by
 unfold idxI
 cases h : xs.findIdx? p with
 | none=>
   rw [List.findIdx?_eq_none_iff] at h
   symm
   simp
   exact h
 | some i=>
   rw [List.findIdx?_eq_some_iff_getElem] at h
   obtain ⟨hi,h1,_⟩:=h
   have : xs.any p = true:=List.any_eq_true.2 ⟨_,List.getElem_mem hi,h1⟩
   rw [this]
   simp
set_option maxRecDepth 100000 in
theorem hasu_any (S : Nat → Prop) (f : FlTy.T) (A : Option Addr) (c : Nat) (w : World) (hg : RdIn w S (.sl .byte) (fS f) [.slice A (fS f).length c]) :
 Calls Try.prog 52 #[.slice A (fS f).length c,.func (.func 53) #[] #[]] w fun e w'=>e = .returned (.bool (goesB f)) ∧ Below w.heap.size w w':=by
 have HC:=idxu_any S (fS f) A (fS f).length c rfl w hg
 unfold IdxIs at HC
 have HV:=Lib.hid (idxI_any onB (fS f))
 rw [onB_any] at HV
 generalize idxI onB (fS f) = iv at *
 have HC2:=Lib.hid HC
 clear HC hg
 go_enter Try.func52,Try.ntmps52
 go_wp2_with fail
 refine HC2.out.mono ?_
 rintro e w1 ⟨rfl,b1⟩
 go_wp2
 go_ret
 exact ⟨by rw [← HV.out];rfl,b1⟩
theorem oneB_code {x : Cfg} {f : FlTy.T} (h : oneB x f = true) : codeF x f = 0:=(oneB_iff.1 h).1
theorem stB_no {x : Cfg} {fs : List FlTy.T} {i : Nat} (hi : i < fs.length) (h : stB x fs i = true → False) : flB x fs = false:=by
 cases h1 : flB x fs
 · rfl
 · exact (h ((flB_iff.1 h1).2.2 i hi)).elim
def CodeTo (x : Cfg) (fs : List FlTy.T) (j : Nat) : Prop:=∀ i (h : i < fs.length),i < j → codeF x fs[i] = 0
theorem CodeTo.next {x : Cfg} {fs : List FlTy.T} {j : Nat} (h : CodeTo x fs j) (hj : j < fs.length) (hc : codeF x fs[j] = 0) : CodeTo x fs (j + 1):=fun i hi hi2=>by
 by_cases e : i = j
 · subst e;exact hc
 · exact h i hi (by omega)
set_option maxRecDepth 100000 in
set_option maxHeartbeats 4000000 in
theorem fcheck_any (S : Nat → Prop) (x : Cfg) (fs : List FlTy.T) (n d : Nat) (B : Option Addr) (hn : fs.length = n) (w : World) (hg : RdIn w S (.sl FlTy) fs [.slice B n d]) :
 Calls Try.prog 19 #[x.val,.slice B n d] w fun e w'=>OkBad (flB x fs = true) e ∧ Below w.heap.size w w':=by
 have HX:=Lib.hid (check_any x)
 have HXO : Hid (flB x fs = true → x.code = 0):=fun h=>Cfg.code_ok (flB_iff.1 h).1
 have HXC : Hid (x.code = 0 → x.Ok):=fun h=>by
  by_cases hx : x.Ok
  · exact hx
  · rw [Cfg.code_bad hx] at h;cases h
 have HN:=Lib.hid hn
 have HNM : Hid (n ≤ maxLen):=by have:=fl_max hg;show n ≤ maxLen;omega
 have HONE : Hid (∀ (w : World) (g : FlTy.T) (Ab : Option Addr) (cb : Nat) (As : Option Addr) (cs : Nat) (Aq : Option Addr) (cq : Nat) (Ax : Option Addr) (cx : Nat),RdIn w S (.sl .byte) (fS g) [.slice As (fS g).length cs] → RdIn w S (.sl .u32) (fQ g) [.slice Aq (fQ g).length cq] → RdIn w S (.sl (.sl .byte)) (fB g) [.slice Ax (fB g).length cx] → Calls Try.prog 51 #[x.val,.agg #[.int .i64 (fN g),.int .u8 (kI g),.int .i64 (fA g),.int .i64 (fM g),.slice Ab (fD g).length cb,.slice As (fS g).length cs,.slice Aq (fQ g).length cq,.slice Ax (fB g).length cx]] w fun e w'=>e = .returned (.bool (oneB x g)) ∧ Below w.heap.size w w'):=fun w g Ab cb As cs Aq cq Ax cx h1 h2 h3=>fone_any S x g Ab cb As cs Aq cq Ax cx w h1 h2 h3
 have HFIR : Hid (∀ (w : World) (k : Nat) (_ : k < fs.length) (_ : CodeTo x fs (k + 1)) (_ : RdIn w S (.sl FlTy) fs [.slice B n d]),Calls Try.prog 40 #[x.val,.slice B n d,.int .i64 (k : Int)] w fun e w'=>e = .returned (.bool (firstB fs k)) ∧ Below w.heap.size w w'):=fun w k hk hc hr=>first_any S x fs n d k B hk HN.out (fun i hi hik=>hc i hi (by omega)) w hr
 obtain ⟨id,m,c,r,l,h⟩:=x
 unfold Cfg.val at *
 dsimp only at *
 generalize Cfg.code ⟨id,m,c,r,l,h⟩ = xc at *
 have C0:=BoxOf.new w #[.int .u32 (id : Int),.int .i64 m,.int .i64 c,.int .i64 r,.int .i64 l,.int .i64 h] 24
 have t0:=Ext.alloc (Below.refl w.heap.size w) (.cells #[.int .u32 (id : Int),.int .i64 m,.int .i64 c,.int .i64 r,.int .i64 l,.int .i64 h] 24)
 have HG:=Lib.hid (hg.below t0)
 clear hg hn
 go_enter Try.func19,Try.ntmps19
 go_upto_region 1 with fail
 generalize w.alloc (.cells #[.int .u32 (id : Int),.int .i64 m,.int .i64 c,.int .i64 r,.int .i64 l,.int .i64 h] 24) = W at *
 have x0:=C0.cell
 rcases Bool.eq_false_or_eq_true (xc != 0) with e1 | e1
 · go_wp2_with fail
   refine (HX.out _).mono ?_
   rintro e w1 ⟨rfl,b1⟩
   go_wp2
   go_ret
   exact ⟨OkBad.bad fun h=>by rw [HXO.out h] at e1;simp at e1,Ext.trans t0 b1⟩
 have HXK : Hid (Cfg.Ok ⟨id,m,c,r,l,h⟩):=HXC.out (by simpa using e1)
 rcases Bool.eq_false_or_eq_true (decide ((8 : Int) < (n : Int))) with e2 | e2
 · go_wp2_with fail
   refine (HX.out _).mono ?_
   rintro e w1 ⟨rfl,b1⟩
   go_wp2
   go_ret
   exact ⟨OkBad.bad fun h=>by have:=(flB_iff.1 h).2.1;have:=HN.out;have:=of_decide_eq_true e2;omega,Ext.trans t0 b1⟩
 have HN8 : Hid (n ≤ 8):=by have:=of_decide_eq_false e2;show n ≤ 8;omega
 go_wp2_with fail
 refine (HX.out _).mono ?_
 rintro e w1 ⟨rfl,b1⟩
 have C1:=C0.next b1
 have t1:=Ext.trans t0 b1
 have HG1:=Lib.hid (HG.out.below b1)
 clear C0 HG t0 x0 b1
 go_wp2
 clear e1 e2
 obtain ⟨wo,hwo⟩ : ∃ z : World,z = w1:=⟨_,rfl⟩
 rw [← hwo] at C1 t1 HG1
 have bo : Below wo.heap.size wo w1:=by rw [hwo];exact Below.refl _ _
 clear hwo
 go_loopw [5,6,7,18] (fun s5 s6 s7 i wr=>∃ (j : Nat),j ≤ n ∧ i = .int .i64 (j : Int) ∧ Below wo.heap.size wo wr ∧ Hid ((∀ i,i < j → stB ⟨id,m,c,r,l,h⟩ fs i = true) ∧ CodeTo ⟨id,m,c,r,l,h⟩ fs j)) (fun _ _ _ i _=>n - (intOf i).toNat)
 case atStart=>exact ⟨0,by omega,rfl,bo,fun i h=>absurd h (Nat.not_lt_zero _),fun i _ h=>absurd h (Nat.not_lt_zero _)⟩
 case round=>
  obtain ⟨j,hj,rfl,b2,HA⟩:=hrel
  clear bo
  have C2:=C1.next b2
  have t2:=Ext.trans t1 b2
  by_cases hlt : j < n
  · have hlf : j < fs.length:=by have:=HN.out;omega
    obtain ⟨b,off,Ab,cb,As,cs,Aq,cq,Ax,cx,rfl,q0,q1,q2,q3,q4,q5,q6,q7,hi,r1,r2,r3,r4⟩:=fl_at (HG1.out.below b2) hlf
    have HST:=Lib.hid (stB_iff (x:=⟨id,m,c,r,l,h⟩) hlf)
    have HCG : Hid (codeF ⟨id,m,c,r,l,h⟩ fs[j] = 0 → CodeTo ⟨id,m,c,r,l,h⟩ fs (j + 1)):=fun hc=>HA.out.2.next hlf hc
    have HLF:=Lib.hid hlf
    have HWJ:=next_wrap HNM.out hlt
    have HLJ:=Lib.hid hlt
    have bA:=fun (g : FlTy.T)=>Ext.alloc (Below.refl wr.heap.size wr) (.cells #[.int .i64 (fN g),.int .u8 (kI g),.int .i64 (fA g),.int .i64 (fM g),.slice Ab (fD g).length cb,.slice As (fS g).length cs,.slice Aq (fQ g).length cq,.slice Ax (fB g).length cx] 67)
    by_cases hj0 : j = 0
    · have HJ0:=Lib.hid hj0
      clear hj0
      generalize fs[j] = g at *
      have bA:=bA g
      have G3:=BoxOf.new wr #[.int .i64 (fN g),.int .u8 (kI g),.int .i64 (fA g),.int .i64 (fM g),.slice Ab (fD g).length cb,.slice As (fS g).length cs,.slice Aq (fQ g).length cq,.slice Ax (fB g).length cx] 67
      have C3:=C2.next bA
      have t3:=Ext.trans t2 bA
      have b3:=Ext.trans b2 bA
      have HRS:=Lib.hid (r2.below bA)
      have HC1 : Hid (∀ w',Below (wr.alloc (.cells #[.int .i64 (fN g),.int .u8 (kI g),.int .i64 (fA g),.int .i64 (fM g),.slice Ab (fD g).length cb,.slice As (fS g).length cs,.slice Aq (fQ g).length cq,.slice Ax (fB g).length cx] 67)).heap.size (wr.alloc (.cells #[.int .i64 (fN g),.int .u8 (kI g),.int .i64 (fA g),.int .i64 (fM g),.slice Ab (fD g).length cb,.slice As (fS g).length cs,.slice Aq (fQ g).length cq,.slice Ax (fB g).length cx] 67)) w' → Calls Try.prog 51 #[.agg #[.int .u32 (id : Int),.int .i64 m,.int .i64 c,.int .i64 r,.int .i64 l,.int .i64 h],.agg #[.int .i64 (fN g),.int .u8 (kI g),.int .i64 (fA g),.int .i64 (fM g),.slice Ab (fD g).length cb,.slice As (fS g).length cs,.slice Aq (fQ g).length cq,.slice Ax (fB g).length cx]] w' fun e w''=>e = .returned (.bool (oneB ⟨id,m,c,r,l,h⟩ g)) ∧ Below w'.heap.size w' w''):=fun w' bb=>HONE.out w' g Ab cb As cs Aq cq Ax cx ((r2.below bA).below bb) ((r3.below bA).below bb) ((r4.below bA).below bb)
      clear r1 r2 r3 r4 hi bA
      go_upto_region 6 with fail
      obtain ⟨gn,hgn⟩ : ∃ z : Nat,z = wr.heap.size:=⟨_,rfl⟩
      rw [← hgn] at G3 ⊢
      generalize wr.alloc (.cells #[.int .i64 (fN g),.int .u8 (kI g),.int .i64 (fA g),.int .i64 (fM g),.slice Ab (fD g).length cb,.slice As (fS g).length cs,.slice Aq (fQ g).length cq,.slice Ax (fB g).length cx] 67) = Wg at *
      have x3:=G3.cell
      clear q1 q2 q3 q4 q5 q6 q7 hgn C2 t2 b2
      have HS : Hid (∀ w',Below Wg.heap.size Wg w' → Below Wg.heap.size Wg w' ∧ (∀ p,w'.cell? ⟨w.heap.size,p,none⟩ = (#[.int .u32 (id : Int),.int .i64 m,.int .i64 c,.int .i64 r,.int .i64 l,.int .i64 h] : Array Value).toList[p]?) ∧ (∀ p,w'.cell? ⟨gn,p,none⟩ = (#[.int .i64 (fN g),.int .u8 (kI g),.int .i64 (fA g),.int .i64 (fM g),.slice Ab (fD g).length cb,.slice As (fS g).length cs,.slice Aq (fQ g).length cq,.slice Ax (fB g).length cx] : Array Value).toList[p]?) ∧ True):=fun w' bb=>⟨bb,(C3.next bb).cell,(G3.next bb).cell,trivial⟩
      have bv:=Ext.drew (Below.refl Wg.heap.size Wg)
      have hS0:=HS.out _ bv
      clear q0 x3
      cases hone : oneB ⟨id,m,c,r,l,h⟩ g with
      | false=>
        have HNO : Hid (flB ⟨id,m,c,r,l,h⟩ fs = true → False):=fun ht=>by have h1:=(HST.out.1 ((flB_iff.1 ht).2.2 j HLF.out)).1;rw [hone] at h1;cases h1
        rw [hone] at HC1
        refine wp_region_held_drew (S:=fun w'=>Below Wg.heap.size Wg w' ∧ (∀ p,w'.cell? ⟨w.heap.size,p,none⟩ = (#[.int .u32 (id : Int),.int .i64 m,.int .i64 c,.int .i64 r,.int .i64 l,.int .i64 h] : Array Value).toList[p]?) ∧ (∀ p,w'.cell? ⟨gn,p,none⟩ = (#[.int .i64 (fN g),.int .u8 (kI g),.int .i64 (fA g),.int .i64 (fM g),.slice Ab (fD g).length cb,.slice As (fS g).length cs,.slice Aq (fQ g).length cq,.slice Ax (fB g).length cx] : Array Value).toList[p]?) ∧ True) (by kernel_rfl) hS0 (fun hS=>?_)
        clear bv hS0
        refine wpAnyH_take (i:=0) (v:=?_) rfl (by kernel_rfl) (by kernel_rfl) (by kernel_rfl) (fun _ _ _ h=>h) (Or.inl ⟨by rfl,?_⟩) hS ?_
        rotate_left
        · (intro w hSw;(try dsimp only at hSw);go_simp;(try with_reducible rfl))
        rotate_left
        simp only [Act.put,zq0,zq1,zq2,zq3,zq4,zq5]
        refine wpAnyH_take (i:=1) (v:=?_) rfl (by kernel_rfl) (by kernel_rfl) (by kernel_rfl) (fun _ _ _ h=>h) (Or.inl ⟨by rfl,?_⟩) hS ?_
        rotate_left
        · (intro w hSw;(try dsimp only at hSw);go_simp;(try with_reducible rfl))
        rotate_left
        simp only [Act.put,zq0,zq1,zq2,zq3,zq4,zq5]
        refine wpAnyH_ready (rs:=[2]) (by kernel_rfl) (by simp) ?_
        refine AllReadyH.cons rfl (fun K hK=>?_) AllReadyH.nil
        rw [if_pos (by rfl)]
        go_simp
        refine (HC1.out _ hS.1).mono ?_
        rintro e w3 ⟨rfl,k3⟩
        refine hK.out _ _ (HS.out _ (Ext.trans hS.1 k3)) (fun hS'=>?_)
        clear hK K hS k3
        have hS:=hS'
        clear hS'
        try simp only [Act.put,zq0,zq1,zq2,zq3,zq4,zq5]
        refine wpAnyH_take (i:=3) (v:=?_) rfl (by kernel_rfl) (by kernel_rfl) (by kernel_rfl) (fun _ _ _ h=>h) (Or.inl ⟨by rfl,?_⟩) hS ?_
        rotate_left
        · (intro w hSw;(try dsimp only at hSw);go_simp;(try with_reducible rfl))
        rotate_left
        simp only [Act.put,zq0,zq1,zq2,zq3,zq4,zq5]
        refine wpAnyH_take (i:=4) (v:=?_) rfl (by kernel_rfl) (by kernel_rfl) (by kernel_rfl) (fun _ _ _ h=>h) (Or.inl ⟨by rfl,?_⟩) hS ?_
        rotate_left
        · (intro w hSw;(try dsimp only at hSw);go_simp;(try with_reducible rfl))
        rotate_left
        simp only [Act.put,zq0,zq1,zq2,zq3,zq4,zq5]
        refine wpAnyH_take (i:=5) (v:=?_) rfl (by kernel_rfl) (by kernel_rfl) (by kernel_rfl) (fun _ _ _ h=>h) (Or.inr ⟨by rfl,?_⟩) hS ?_
        rotate_left
        · rfl
        rotate_left
        simp only [Act.put,zq0,zq1,zq2,zq3,zq4,zq5]
        refine wpAnyH_take (i:=6) (v:=?_) rfl (by kernel_rfl) (by kernel_rfl) (by kernel_rfl) (fun _ _ _ h=>h) (Or.inr ⟨by rfl,?_⟩) hS ?_
        rotate_left
        · rfl
        rotate_left
        simp only [Act.put,zq0,zq1,zq2,zq3,zq4,zq5]
        refine wpAnyH_take (i:=7) (v:=?_) rfl (by kernel_rfl) (by kernel_rfl) (by kernel_rfl) (fun _ _ _ h=>h) (Or.inr ⟨by rfl,?_⟩) hS ?_
        rotate_left
        · rfl
        rotate_left
        simp only [Act.put,zq0,zq1,zq2,zq3,zq4,zq5]
        refine wpAnyH_take (i:=8) (v:=?_) rfl (by kernel_rfl) (by kernel_rfl) (by kernel_rfl) (fun _ _ _ h=>h) (Or.inr ⟨by rfl,?_⟩) hS ?_
        rotate_left
        · rfl
        rotate_left
        simp only [Act.put,zq0,zq1,zq2,zq3,zq4,zq5]
        refine wpAnyH_take (i:=9) (v:=?_) rfl (by kernel_rfl) (by kernel_rfl) (by kernel_rfl) (fun _ _ _ h=>h) (Or.inr ⟨by rfl,?_⟩) hS ?_
        rotate_left
        · rfl
        rotate_left
        simp only [Act.put,zq0,zq1,zq2,zq3,zq4,zq5]
        refine wpAnyH_take (i:=10) (v:=?_) rfl (by kernel_rfl) (by kernel_rfl) (by kernel_rfl) (fun _ _ _ h=>h) (Or.inr ⟨by rfl,?_⟩) hS ?_
        rotate_left
        · rfl
        rotate_left
        simp only [Act.put,zq0,zq1,zq2,zq3,zq4,zq5]
        refine wpAnyH_take (i:=11) (v:=?_) rfl (by kernel_rfl) (by kernel_rfl) (by kernel_rfl) (fun _ _ _ h=>h) (Or.inr ⟨by rfl,?_⟩) hS ?_
        rotate_left
        · rfl
        rotate_left
        simp only [Act.put,zq0,zq1,zq2,zq3,zq4,zq5]
        refine wpAnyH_take (i:=12) (v:=?_) rfl (by kernel_rfl) (by kernel_rfl) (by kernel_rfl) (fun _ _ _ h=>h) (Or.inr ⟨by rfl,?_⟩) hS ?_
        rotate_left
        · rfl
        rotate_left
        simp only [Act.put,zq0,zq1,zq2,zq3,zq4,zq5]
        refine wpAnyH_take (i:=13) (v:=?_) rfl (by kernel_rfl) (by kernel_rfl) (by kernel_rfl) (fun _ _ _ h=>h) (Or.inr ⟨by rfl,?_⟩) hS ?_
        rotate_left
        · rfl
        rotate_left
        simp only [Act.put,zq0,zq1,zq2,zq3,zq4,zq5]
        refine wpAnyH_take (i:=14) (v:=?_) rfl (by kernel_rfl) (by kernel_rfl) (by kernel_rfl) (fun _ _ _ h=>h) (Or.inr ⟨by rfl,?_⟩) hS ?_
        rotate_left
        · rfl
        rotate_left
        simp only [Act.put,zq0,zq1,zq2,zq3,zq4,zq5]
        refine wpAnyH_take (i:=15) (v:=?_) rfl (by kernel_rfl) (by kernel_rfl) (by kernel_rfl) (fun _ _ _ h=>h) (Or.inr ⟨by rfl,?_⟩) hS ?_
        rotate_left
        · rfl
        rotate_left
        simp only [Act.put,zq0,zq1,zq2,zq3,zq4,zq5]
        refine wpAnyH_take (i:=16) (v:=?_) rfl (by kernel_rfl) (by kernel_rfl) (by kernel_rfl) (fun _ _ _ h=>h) (Or.inr ⟨by rfl,?_⟩) hS ?_
        rotate_left
        · rfl
        rotate_left
        simp only [Act.put,zq0,zq1,zq2,zq3,zq4,zq5]
        refine wpAnyH_take (i:=17) (v:=?_) rfl (by kernel_rfl) (by kernel_rfl) (by kernel_rfl) (fun _ _ _ h=>h) (Or.inr ⟨by rfl,?_⟩) hS ?_
        rotate_left
        · rfl
        rotate_left
        simp only [Act.put,zq0,zq1,zq2,zq3,zq4,zq5]
        refine wpAnyH_take (i:=18) (v:=?_) rfl (by kernel_rfl) (by kernel_rfl) (by kernel_rfl) (fun _ _ _ h=>h) (Or.inl ⟨by rfl,?_⟩) hS ?_
        rotate_left
        · (intro w hSw;(try dsimp only at hSw);go_simp;(try with_reducible rfl))
        rotate_left
        simp only [Act.put,zq0,zq1,zq2,zq3,zq4,zq5]
        refine wpAnyH_done (by kernel_rfl) ?_ _
        have t4:=Ext.trans t3 hS.1
        clear hS
        go_wp2
        go_ret
        exact ⟨OkBad.bad HNO.out,t4⟩
      | true=>
        rw [hone] at HC1
        have HCD : Hid (CodeTo ⟨id,m,c,r,l,h⟩ fs (j + 1)):=HCG.out (oneB_code hone)
        have HLS : Hid (∀ (h : 0 < j),fN (fs[j - 1]'(by have:=HLF.out;omega)) < fN g):=fun h=>by have:=HJ0.out;omega
        have hjz : (decide ((0 : Int) < (j : Int))) = false:=by have:=HJ0.out;simp;omega
        have hjn : decide (0 < j) = false:=by have:=HJ0.out;simp;omega
        refine wp_region_held_drew (S:=fun w'=>Below Wg.heap.size Wg w' ∧ (∀ p,w'.cell? ⟨w.heap.size,p,none⟩ = (#[.int .u32 (id : Int),.int .i64 m,.int .i64 c,.int .i64 r,.int .i64 l,.int .i64 h] : Array Value).toList[p]?) ∧ (∀ p,w'.cell? ⟨gn,p,none⟩ = (#[.int .i64 (fN g),.int .u8 (kI g),.int .i64 (fA g),.int .i64 (fM g),.slice Ab (fD g).length cb,.slice As (fS g).length cs,.slice Aq (fQ g).length cq,.slice Ax (fB g).length cx] : Array Value).toList[p]?) ∧ True) (by kernel_rfl) hS0 (fun hS=>?_)
        clear bv hS0
        refine wpAnyH_take (i:=0) (v:=?_) rfl (by kernel_rfl) (by kernel_rfl) (by kernel_rfl) (fun _ _ _ h=>h) (Or.inl ⟨by rfl,?_⟩) hS ?_
        rotate_left
        · (intro w hSw;(try dsimp only at hSw);go_simp;(try with_reducible rfl))
        rotate_left
        simp only [Act.put,zq0,zq1,zq2,zq3,zq4,zq5]
        refine wpAnyH_take (i:=1) (v:=?_) rfl (by kernel_rfl) (by kernel_rfl) (by kernel_rfl) (fun _ _ _ h=>h) (Or.inl ⟨by rfl,?_⟩) hS ?_
        rotate_left
        · (intro w hSw;(try dsimp only at hSw);go_simp;(try with_reducible rfl))
        rotate_left
        simp only [Act.put,zq0,zq1,zq2,zq3,zq4,zq5]
        refine wpAnyH_ready (rs:=[2]) (by kernel_rfl) (by simp) ?_
        refine AllReadyH.cons rfl (fun K hK=>?_) AllReadyH.nil
        rw [if_pos (by rfl)]
        go_simp
        refine (HC1.out _ hS.1).mono ?_
        rintro e w3 ⟨rfl,k3⟩
        refine hK.out _ _ (HS.out _ (Ext.trans hS.1 k3)) (fun hS'=>?_)
        clear hK K hS k3
        have hS:=hS'
        clear hS'
        try simp only [Act.put,zq0,zq1,zq2,zq3,zq4,zq5]
        refine wpAnyH_take (i:=3) (v:=?_) rfl (by kernel_rfl) (by kernel_rfl) (by kernel_rfl) (fun _ _ _ h=>h) (Or.inl ⟨by rfl,?_⟩) hS ?_
        rotate_left
        · (intro w hSw;(try dsimp only at hSw);go_simp;(try with_reducible rfl))
        rotate_left
        simp only [Act.put,zq0,zq1,zq2,zq3,zq4,zq5]
        refine wpAnyH_take (i:=4) (v:=?_) rfl (by kernel_rfl) (by kernel_rfl) (by kernel_rfl) (fun _ _ _ h=>h) (Or.inl ⟨by rfl,?_⟩) hS ?_
        rotate_left
        · (intro w hSw;(try dsimp only at hSw);go_simp;(try with_reducible rfl))
        rotate_left
        simp only [Act.put,zq0,zq1,zq2,zq3,zq4,zq5]
        refine wpAnyH_take (i:=5) (v:=?_) rfl (by kernel_rfl) (by kernel_rfl) (by kernel_rfl) (fun _ _ _ h=>h) (Or.inl ⟨by rfl,?_⟩) hS ?_
        rotate_left
        · (intro w hSw;(try dsimp only at hSw);go_simp;(try with_reducible rfl))
        rotate_left
        simp only [Act.put,zq0,zq1,zq2,zq3,zq4,zq5]
        refine wpAnyH_take (i:=6) (v:=?_) rfl (by kernel_rfl) (by kernel_rfl) (by kernel_rfl) (fun _ _ _ h=>h) (Or.inl ⟨by rfl,?_⟩) hS ?_
        rotate_left
        · (intro w hSw;(try dsimp only at hSw);go_simp;(try with_reducible rfl))
        rotate_left
        simp only [Act.put,zq0,zq1,zq2,zq3,zq4,zq5]
        refine wpAnyH_take (i:=7) (v:=?_) rfl (by kernel_rfl) (by kernel_rfl) (by kernel_rfl) (fun _ _ _ h=>h) (Or.inl ⟨by rfl,?_⟩) hS ?_
        rotate_left
        · (intro w hSw;(try dsimp only at hSw);go_simp;(try with_reducible rfl))
        rotate_left
        simp only [Act.put,zq0,zq1,zq2,zq3,zq4,zq5]
        refine wpAnyH_take (i:=8) (v:=?_) rfl (by kernel_rfl) (by kernel_rfl) (by kernel_rfl) (fun _ _ _ h=>h) (Or.inr ⟨by rfl,?_⟩) hS ?_
        rotate_left
        · rfl
        rotate_left
        simp only [Act.put,zq0,zq1,zq2,zq3,zq4,zq5]
        refine wpAnyH_take (i:=9) (v:=?_) rfl (by kernel_rfl) (by kernel_rfl) (by kernel_rfl) (fun _ _ _ h=>h) (Or.inr ⟨by rfl,?_⟩) hS ?_
        rotate_left
        · rfl
        rotate_left
        simp only [Act.put,zq0,zq1,zq2,zq3,zq4,zq5]
        refine wpAnyH_take (i:=10) (v:=?_) rfl (by kernel_rfl) (by kernel_rfl) (by kernel_rfl) (fun _ _ _ h=>h) (Or.inr ⟨by rfl,?_⟩) hS ?_
        rotate_left
        · rfl
        rotate_left
        simp only [Act.put,zq0,zq1,zq2,zq3,zq4,zq5]
        refine wpAnyH_take (i:=11) (v:=?_) rfl (by kernel_rfl) (by kernel_rfl) (by kernel_rfl) (fun _ _ _ h=>h) (Or.inr ⟨by rfl,?_⟩) hS ?_
        rotate_left
        · rfl
        rotate_left
        simp only [Act.put,zq0,zq1,zq2,zq3,zq4,zq5]
        refine wpAnyH_take (i:=12) (v:=?_) rfl (by kernel_rfl) (by kernel_rfl) (by kernel_rfl) (fun _ _ _ h=>h) (Or.inr ⟨by rfl,?_⟩) hS ?_
        rotate_left
        · rfl
        rotate_left
        simp only [Act.put,zq0,zq1,zq2,zq3,zq4,zq5]
        refine wpAnyH_take (i:=13) (v:=?_) rfl (by kernel_rfl) (by kernel_rfl) (by kernel_rfl) (fun _ _ _ h=>h) (Or.inr ⟨by rfl,?_⟩) hS ?_
        rotate_left
        · rfl
        rotate_left
        simp only [Act.put,zq0,zq1,zq2,zq3,zq4,zq5]
        refine wpAnyH_take (i:=14) (v:=?_) rfl (by kernel_rfl) (by kernel_rfl) (by kernel_rfl) (fun _ _ _ h=>h) (Or.inr ⟨by rfl,?_⟩) hS ?_
        rotate_left
        · rfl
        rotate_left
        simp only [Act.put,zq0,zq1,zq2,zq3,zq4,zq5]
        refine wpAnyH_take (i:=15) (v:=?_) rfl (by kernel_rfl) (by kernel_rfl) (by kernel_rfl) (fun _ _ _ h=>h) (Or.inr ⟨by rfl,?_⟩) hS ?_
        rotate_left
        · rfl
        rotate_left
        simp only [Act.put,zq0,zq1,zq2,zq3,zq4,zq5]
        refine wpAnyH_take (i:=16) (v:=?_) rfl (by kernel_rfl) (by kernel_rfl) (by kernel_rfl) (fun _ _ _ h=>h) (Or.inr ⟨by rfl,?_⟩) hS ?_
        rotate_left
        · rfl
        rotate_left
        simp only [Act.put,zq0,zq1,zq2,zq3,zq4,zq5]
        refine wpAnyH_take (i:=17) (v:=?_) rfl (by kernel_rfl) (by kernel_rfl) (by kernel_rfl) (fun _ _ _ h=>h) (Or.inl ⟨by rfl,?_⟩) hS ?_
        rotate_left
        · (intro w hSw;(try dsimp only at hSw);go_simp;(try with_reducible rfl))
        rotate_left
        simp only [Act.put,zq0,zq1,zq2,zq3,zq4,zq5]
        refine wpAnyH_take (i:=18) (v:=?_) rfl (by kernel_rfl) (by kernel_rfl) (by kernel_rfl) (fun _ _ _ h=>h) (Or.inl ⟨by rfl,?_⟩) hS ?_
        rotate_left
        · (intro w hSw;(try dsimp only at hSw);go_simp;(try with_reducible rfl))
        rotate_left
        simp only [Act.put,zq0,zq1,zq2,zq3,zq4,zq5]
        refine wpAnyH_done (by kernel_rfl) ?_ _
        clear hjz hjn
        have t4:=Ext.trans t3 hS.1
        have b4:=Ext.trans b3 hS.1
        have C4:=C3.next hS.1
        have G4:=G3.next hS.1
        have HU:=Lib.hid (hasu_any S g As cs _ ((HRS.out.below hS.1)))
        have x4:=G4.cell
        clear hS C3 G3 HS
        go_wp2_with fail
        refine HU.out.mono ?_
        rintro e w5 ⟨rfl,b5⟩
        have t5:=Ext.trans t4 b5
        have b6:=Ext.trans b4 b5
        have C5:=C4.next b5
        clear x4 HU G4 C4
        cases hgo : goesB g with
        | false=>
          have HA' : Hid ((∀ i,i < j + 1 → stB ⟨id,m,c,r,l,h⟩ fs i = true) ∧ CodeTo ⟨id,m,c,r,l,h⟩ fs (j + 1)):=⟨fun i hi=>by
           by_cases e : i = j
           · subst e
             exact HST.out.2 ⟨hone,HLS.out,fun hh=>by rw [hgo] at hh;cases hh⟩
           · exact HA.out.1 i (by omega),HCD.out⟩
          go_wp2
          go_roundw
          case rel=>exact ⟨j + 1,HLJ.out,by first | exact round_same HWJ | go_num,b6,HA'⟩
          case measure=>first | exact round_less HWJ HLJ.out | (have h:=HLJ.out;simp [intOf];omega)
        | true=>
          have HF:=Lib.hid (HFIR.out w5 j HLF.out HCD.out (HG1.out.below b6))
          have x5:=C5.cell
          have HFV : Hid (stB ⟨id,m,c,r,l,h⟩ fs j = true ↔ firstB fs j = true):=HST.out.trans ⟨fun hh=>hh.2.2 hgo,fun hh=>⟨hone,HLS.out,fun _=>hh⟩⟩
          generalize firstB fs j = fj at *
          go_wp2_with fail
          refine HF.out.mono ?_
          rintro e w7 ⟨rfl,b7⟩
          have t7:=Ext.trans t5 b7
          have b8:=Ext.trans b6 b7
          clear x5 HF
          cases fj with
          | false=>
            go_wp2
            go_ret
            exact ⟨OkBad.bad fun ht=>absurd (HFV.out.1 ((flB_iff.1 ht).2.2 j HLF.out)) (by decide),t7⟩
          | true=>
            have HA' : Hid ((∀ i,i < j + 1 → stB ⟨id,m,c,r,l,h⟩ fs i = true) ∧ CodeTo ⟨id,m,c,r,l,h⟩ fs (j + 1)):=⟨fun i hi=>by
             by_cases e : i = j
             · subst e
               exact HFV.out.2 (by first | rfl | trivial)
             · exact HA.out.1 i (by omega),HCD.out⟩
            go_wp2
            go_roundw
            case rel=>exact ⟨j + 1,HLJ.out,by first | exact round_same HWJ | go_num,b8,HA'⟩
            case measure=>first | exact round_less HWJ HLJ.out | (have h:=HLJ.out;simp [intOf];omega)
    · obtain ⟨p,hp⟩ : ∃ p,j = p + 1:=⟨j - 1,by omega⟩
      have hpf : p < fs.length:=by omega
      obtain ⟨_,_,_,_,_,_,_,_,_,_,ep,k0,_⟩:=fl_at (HG1.out.below b2) hpf
      injection ep with ep
      injection ep with ep1 ep2 _
      rw [← ep1,← ep2] at k0
      have HPV : Hid (fN (fs[j - 1]'(Nat.lt_of_le_of_lt (Nat.sub_le j 1) hlf)) = fN fs[p]):=by show _ = _;congr 1;congr 1;omega
      have HJ0:=Lib.hid hp
      clear hj0 hp ep1 ep2
      generalize fN fs[p] = pv at *
      generalize fs[j] = g at *
      have bA:=bA g
      have G3:=BoxOf.new wr #[.int .i64 (fN g),.int .u8 (kI g),.int .i64 (fA g),.int .i64 (fM g),.slice Ab (fD g).length cb,.slice As (fS g).length cs,.slice Aq (fQ g).length cq,.slice Ax (fB g).length cx] 67
      have C3:=C2.next bA
      have t3:=Ext.trans t2 bA
      have b3:=Ext.trans b2 bA
      have k0':=(bA.cell (p:=⟨b,off + p * 8,none⟩) (block_lt_of_cell k0)).trans k0
      clear k0
      have HRS:=Lib.hid (r2.below bA)
      have HC1 : Hid (∀ w',Below (wr.alloc (.cells #[.int .i64 (fN g),.int .u8 (kI g),.int .i64 (fA g),.int .i64 (fM g),.slice Ab (fD g).length cb,.slice As (fS g).length cs,.slice Aq (fQ g).length cq,.slice Ax (fB g).length cx] 67)).heap.size (wr.alloc (.cells #[.int .i64 (fN g),.int .u8 (kI g),.int .i64 (fA g),.int .i64 (fM g),.slice Ab (fD g).length cb,.slice As (fS g).length cs,.slice Aq (fQ g).length cq,.slice Ax (fB g).length cx] 67)) w' → Calls Try.prog 51 #[.agg #[.int .u32 (id : Int),.int .i64 m,.int .i64 c,.int .i64 r,.int .i64 l,.int .i64 h],.agg #[.int .i64 (fN g),.int .u8 (kI g),.int .i64 (fA g),.int .i64 (fM g),.slice Ab (fD g).length cb,.slice As (fS g).length cs,.slice Aq (fQ g).length cq,.slice Ax (fB g).length cx]] w' fun e w''=>e = .returned (.bool (oneB ⟨id,m,c,r,l,h⟩ g)) ∧ Below w'.heap.size w' w''):=fun w' bb=>HONE.out w' g Ab cb As cs Aq cq Ax cx ((r2.below bA).below bb) ((r3.below bA).below bb) ((r4.below bA).below bb)
      clear r1 r2 r3 r4 hi bA
      go_upto_region 6 with fail
      obtain ⟨gn,hgn⟩ : ∃ z : Nat,z = wr.heap.size:=⟨_,rfl⟩
      rw [← hgn] at G3 ⊢
      generalize wr.alloc (.cells #[.int .i64 (fN g),.int .u8 (kI g),.int .i64 (fA g),.int .i64 (fM g),.slice Ab (fD g).length cb,.slice As (fS g).length cs,.slice Aq (fQ g).length cq,.slice Ax (fB g).length cx] 67) = Wg at *
      have x3:=G3.cell
      clear q1 q2 q3 q4 q5 q6 q7 hgn C2 t2 b2
      have HS : Hid (∀ w',Below Wg.heap.size Wg w' → Below Wg.heap.size Wg w' ∧ (∀ p,w'.cell? ⟨w.heap.size,p,none⟩ = (#[.int .u32 (id : Int),.int .i64 m,.int .i64 c,.int .i64 r,.int .i64 l,.int .i64 h] : Array Value).toList[p]?) ∧ (∀ p,w'.cell? ⟨gn,p,none⟩ = (#[.int .i64 (fN g),.int .u8 (kI g),.int .i64 (fA g),.int .i64 (fM g),.slice Ab (fD g).length cb,.slice As (fS g).length cs,.slice Aq (fQ g).length cq,.slice Ax (fB g).length cx] : Array Value).toList[p]?) ∧ w'.cell? ⟨b,off + p * 8,none⟩ = some (.int .i64 pv)):=fun w' bb=>⟨bb,(C3.next bb).cell,(G3.next bb).cell,(bb.cell (p:=⟨b,off + p * 8,none⟩) (block_lt_of_cell k0')).trans k0'⟩
      have bv:=Ext.drew (Below.refl Wg.heap.size Wg)
      have hS0:=HS.out _ bv
      clear q0 x3
      cases hone : oneB ⟨id,m,c,r,l,h⟩ g with
      | false=>
        have HNO : Hid (flB ⟨id,m,c,r,l,h⟩ fs = true → False):=fun ht=>by have h1:=(HST.out.1 ((flB_iff.1 ht).2.2 j HLF.out)).1;rw [hone] at h1;cases h1
        rw [hone] at HC1
        refine wp_region_held_drew (S:=fun w'=>Below Wg.heap.size Wg w' ∧ (∀ p,w'.cell? ⟨w.heap.size,p,none⟩ = (#[.int .u32 (id : Int),.int .i64 m,.int .i64 c,.int .i64 r,.int .i64 l,.int .i64 h] : Array Value).toList[p]?) ∧ (∀ p,w'.cell? ⟨gn,p,none⟩ = (#[.int .i64 (fN g),.int .u8 (kI g),.int .i64 (fA g),.int .i64 (fM g),.slice Ab (fD g).length cb,.slice As (fS g).length cs,.slice Aq (fQ g).length cq,.slice Ax (fB g).length cx] : Array Value).toList[p]?) ∧ w'.cell? ⟨b,off + p * 8,none⟩ = some (.int .i64 pv)) (by kernel_rfl) hS0 (fun hS=>?_)
        clear bv hS0
        refine wpAnyH_take (i:=0) (v:=?_) rfl (by kernel_rfl) (by kernel_rfl) (by kernel_rfl) (fun _ _ _ h=>h) (Or.inl ⟨by rfl,?_⟩) hS ?_
        rotate_left
        · (intro w hSw;(try dsimp only at hSw);go_simp;(try with_reducible rfl))
        rotate_left
        simp only [Act.put,zq0,zq1,zq2,zq3,zq4,zq5]
        refine wpAnyH_take (i:=1) (v:=?_) rfl (by kernel_rfl) (by kernel_rfl) (by kernel_rfl) (fun _ _ _ h=>h) (Or.inl ⟨by rfl,?_⟩) hS ?_
        rotate_left
        · (intro w hSw;(try dsimp only at hSw);go_simp;(try with_reducible rfl))
        rotate_left
        simp only [Act.put,zq0,zq1,zq2,zq3,zq4,zq5]
        refine wpAnyH_ready (rs:=[2]) (by kernel_rfl) (by simp) ?_
        refine AllReadyH.cons rfl (fun K hK=>?_) AllReadyH.nil
        rw [if_pos (by rfl)]
        go_simp
        refine (HC1.out _ hS.1).mono ?_
        rintro e w3 ⟨rfl,k3⟩
        refine hK.out _ _ (HS.out _ (Ext.trans hS.1 k3)) (fun hS'=>?_)
        clear hK K hS k3
        have hS:=hS'
        clear hS'
        try simp only [Act.put,zq0,zq1,zq2,zq3,zq4,zq5]
        refine wpAnyH_take (i:=3) (v:=?_) rfl (by kernel_rfl) (by kernel_rfl) (by kernel_rfl) (fun _ _ _ h=>h) (Or.inl ⟨by rfl,?_⟩) hS ?_
        rotate_left
        · (intro w hSw;(try dsimp only at hSw);go_simp;(try with_reducible rfl))
        rotate_left
        simp only [Act.put,zq0,zq1,zq2,zq3,zq4,zq5]
        refine wpAnyH_take (i:=4) (v:=?_) rfl (by kernel_rfl) (by kernel_rfl) (by kernel_rfl) (fun _ _ _ h=>h) (Or.inl ⟨by rfl,?_⟩) hS ?_
        rotate_left
        · (intro w hSw;(try dsimp only at hSw);go_simp;(try with_reducible rfl))
        rotate_left
        simp only [Act.put,zq0,zq1,zq2,zq3,zq4,zq5]
        refine wpAnyH_take (i:=5) (v:=?_) rfl (by kernel_rfl) (by kernel_rfl) (by kernel_rfl) (fun _ _ _ h=>h) (Or.inr ⟨by rfl,?_⟩) hS ?_
        rotate_left
        · rfl
        rotate_left
        simp only [Act.put,zq0,zq1,zq2,zq3,zq4,zq5]
        refine wpAnyH_take (i:=6) (v:=?_) rfl (by kernel_rfl) (by kernel_rfl) (by kernel_rfl) (fun _ _ _ h=>h) (Or.inr ⟨by rfl,?_⟩) hS ?_
        rotate_left
        · rfl
        rotate_left
        simp only [Act.put,zq0,zq1,zq2,zq3,zq4,zq5]
        refine wpAnyH_take (i:=7) (v:=?_) rfl (by kernel_rfl) (by kernel_rfl) (by kernel_rfl) (fun _ _ _ h=>h) (Or.inr ⟨by rfl,?_⟩) hS ?_
        rotate_left
        · rfl
        rotate_left
        simp only [Act.put,zq0,zq1,zq2,zq3,zq4,zq5]
        refine wpAnyH_take (i:=8) (v:=?_) rfl (by kernel_rfl) (by kernel_rfl) (by kernel_rfl) (fun _ _ _ h=>h) (Or.inr ⟨by rfl,?_⟩) hS ?_
        rotate_left
        · rfl
        rotate_left
        simp only [Act.put,zq0,zq1,zq2,zq3,zq4,zq5]
        refine wpAnyH_take (i:=9) (v:=?_) rfl (by kernel_rfl) (by kernel_rfl) (by kernel_rfl) (fun _ _ _ h=>h) (Or.inr ⟨by rfl,?_⟩) hS ?_
        rotate_left
        · rfl
        rotate_left
        simp only [Act.put,zq0,zq1,zq2,zq3,zq4,zq5]
        refine wpAnyH_take (i:=10) (v:=?_) rfl (by kernel_rfl) (by kernel_rfl) (by kernel_rfl) (fun _ _ _ h=>h) (Or.inr ⟨by rfl,?_⟩) hS ?_
        rotate_left
        · rfl
        rotate_left
        simp only [Act.put,zq0,zq1,zq2,zq3,zq4,zq5]
        refine wpAnyH_take (i:=11) (v:=?_) rfl (by kernel_rfl) (by kernel_rfl) (by kernel_rfl) (fun _ _ _ h=>h) (Or.inr ⟨by rfl,?_⟩) hS ?_
        rotate_left
        · rfl
        rotate_left
        simp only [Act.put,zq0,zq1,zq2,zq3,zq4,zq5]
        refine wpAnyH_take (i:=12) (v:=?_) rfl (by kernel_rfl) (by kernel_rfl) (by kernel_rfl) (fun _ _ _ h=>h) (Or.inr ⟨by rfl,?_⟩) hS ?_
        rotate_left
        · rfl
        rotate_left
        simp only [Act.put,zq0,zq1,zq2,zq3,zq4,zq5]
        refine wpAnyH_take (i:=13) (v:=?_) rfl (by kernel_rfl) (by kernel_rfl) (by kernel_rfl) (fun _ _ _ h=>h) (Or.inr ⟨by rfl,?_⟩) hS ?_
        rotate_left
        · rfl
        rotate_left
        simp only [Act.put,zq0,zq1,zq2,zq3,zq4,zq5]
        refine wpAnyH_take (i:=14) (v:=?_) rfl (by kernel_rfl) (by kernel_rfl) (by kernel_rfl) (fun _ _ _ h=>h) (Or.inr ⟨by rfl,?_⟩) hS ?_
        rotate_left
        · rfl
        rotate_left
        simp only [Act.put,zq0,zq1,zq2,zq3,zq4,zq5]
        refine wpAnyH_take (i:=15) (v:=?_) rfl (by kernel_rfl) (by kernel_rfl) (by kernel_rfl) (fun _ _ _ h=>h) (Or.inr ⟨by rfl,?_⟩) hS ?_
        rotate_left
        · rfl
        rotate_left
        simp only [Act.put,zq0,zq1,zq2,zq3,zq4,zq5]
        refine wpAnyH_take (i:=16) (v:=?_) rfl (by kernel_rfl) (by kernel_rfl) (by kernel_rfl) (fun _ _ _ h=>h) (Or.inr ⟨by rfl,?_⟩) hS ?_
        rotate_left
        · rfl
        rotate_left
        simp only [Act.put,zq0,zq1,zq2,zq3,zq4,zq5]
        refine wpAnyH_take (i:=17) (v:=?_) rfl (by kernel_rfl) (by kernel_rfl) (by kernel_rfl) (fun _ _ _ h=>h) (Or.inr ⟨by rfl,?_⟩) hS ?_
        rotate_left
        · rfl
        rotate_left
        simp only [Act.put,zq0,zq1,zq2,zq3,zq4,zq5]
        refine wpAnyH_take (i:=18) (v:=?_) rfl (by kernel_rfl) (by kernel_rfl) (by kernel_rfl) (fun _ _ _ h=>h) (Or.inl ⟨by rfl,?_⟩) hS ?_
        rotate_left
        · (intro w hSw;(try dsimp only at hSw);go_simp;(try with_reducible rfl))
        rotate_left
        simp only [Act.put,zq0,zq1,zq2,zq3,zq4,zq5]
        refine wpAnyH_done (by kernel_rfl) ?_ _
        have t4:=Ext.trans t3 hS.1
        clear hS
        go_wp2
        go_ret
        exact ⟨OkBad.bad HNO.out,t4⟩
      | true=>
        rw [hone] at HC1
        have HCD : Hid (CodeTo ⟨id,m,c,r,l,h⟩ fs (j + 1)):=HCG.out (oneB_code hone)
        clear k0'
        have hjp : (decide ((0 : Int) < (j : Int))) = true:=by have:=HJ0.out;simp;omega
        have hjn : decide (0 < j) = true:=by have:=HJ0.out;simp;omega
        have hjw : IntKind.i64.wrap ((j : Int) - 1) = (p : Int):=by have:=HJ0.out;rw [IntWalk.i64_in _ (by have:=HLJ.out;have:=HNM.out;unfold maxLen at this;omega)];omega
        have hp0 : (0 : Int) ≤ (p : Int):=by omega
        have hpn : (p : Int) < (n : Int):=by have:=HJ0.out;have:=HLJ.out;omega
        have hpn' : p < n:=by omega
        refine wp_region_held_drew (S:=fun w'=>Below Wg.heap.size Wg w' ∧ (∀ p,w'.cell? ⟨w.heap.size,p,none⟩ = (#[.int .u32 (id : Int),.int .i64 m,.int .i64 c,.int .i64 r,.int .i64 l,.int .i64 h] : Array Value).toList[p]?) ∧ (∀ p,w'.cell? ⟨gn,p,none⟩ = (#[.int .i64 (fN g),.int .u8 (kI g),.int .i64 (fA g),.int .i64 (fM g),.slice Ab (fD g).length cb,.slice As (fS g).length cs,.slice Aq (fQ g).length cq,.slice Ax (fB g).length cx] : Array Value).toList[p]?) ∧ w'.cell? ⟨b,off + p * 8,none⟩ = some (.int .i64 pv)) (by kernel_rfl) hS0 (fun hS=>?_)
        clear bv hS0
        refine wpAnyH_take (i:=0) (v:=?_) rfl (by kernel_rfl) (by kernel_rfl) (by kernel_rfl) (fun _ _ _ h=>h) (Or.inl ⟨by rfl,?_⟩) hS ?_
        rotate_left
        · (intro w hSw;(try dsimp only at hSw);go_simp;(try with_reducible rfl))
        rotate_left
        simp only [Act.put,zq0,zq1,zq2,zq3,zq4,zq5]
        refine wpAnyH_take (i:=1) (v:=?_) rfl (by kernel_rfl) (by kernel_rfl) (by kernel_rfl) (fun _ _ _ h=>h) (Or.inl ⟨by rfl,?_⟩) hS ?_
        rotate_left
        · (intro w hSw;(try dsimp only at hSw);go_simp;(try with_reducible rfl))
        rotate_left
        simp only [Act.put,zq0,zq1,zq2,zq3,zq4,zq5]
        refine wpAnyH_ready (rs:=[2]) (by kernel_rfl) (by simp) ?_
        refine AllReadyH.cons rfl (fun K hK=>?_) AllReadyH.nil
        rw [if_pos (by rfl)]
        go_simp
        refine (HC1.out _ hS.1).mono ?_
        rintro e w3 ⟨rfl,k3⟩
        refine hK.out _ _ (HS.out _ (Ext.trans hS.1 k3)) (fun hS'=>?_)
        clear hK K hS k3
        have hS:=hS'
        clear hS'
        try simp only [Act.put,zq0,zq1,zq2,zq3,zq4,zq5]
        refine wpAnyH_take (i:=3) (v:=?_) rfl (by kernel_rfl) (by kernel_rfl) (by kernel_rfl) (fun _ _ _ h=>h) (Or.inl ⟨by rfl,?_⟩) hS ?_
        rotate_left
        · (intro w hSw;(try dsimp only at hSw);go_simp;(try with_reducible rfl))
        rotate_left
        simp only [Act.put,zq0,zq1,zq2,zq3,zq4,zq5]
        refine wpAnyH_take (i:=4) (v:=?_) rfl (by kernel_rfl) (by kernel_rfl) (by kernel_rfl) (fun _ _ _ h=>h) (Or.inl ⟨by rfl,?_⟩) hS ?_
        rotate_left
        · (intro w hSw;(try dsimp only at hSw);go_simp;(try with_reducible rfl))
        rotate_left
        simp only [Act.put,zq0,zq1,zq2,zq3,zq4,zq5]
        refine wpAnyH_take (i:=5) (v:=?_) rfl (by kernel_rfl) (by kernel_rfl) (by kernel_rfl) (fun _ _ _ h=>h) (Or.inl ⟨by rfl,?_⟩) hS ?_
        rotate_left
        · (intro w hSw;(try dsimp only at hSw);go_simp;(try with_reducible rfl))
        rotate_left
        simp only [Act.put,zq0,zq1,zq2,zq3,zq4,zq5]
        refine wpAnyH_take (i:=6) (v:=?_) rfl (by kernel_rfl) (by kernel_rfl) (by kernel_rfl) (fun _ _ _ h=>h) (Or.inl ⟨by rfl,?_⟩) hS ?_
        rotate_left
        · (intro w hSw;(try dsimp only at hSw);go_simp;(try with_reducible rfl))
        rotate_left
        simp only [Act.put,zq0,zq1,zq2,zq3,zq4,zq5]
        refine wpAnyH_take (i:=7) (v:=?_) rfl (by kernel_rfl) (by kernel_rfl) (by kernel_rfl) (fun _ _ _ h=>h) (Or.inl ⟨by rfl,?_⟩) hS ?_
        rotate_left
        · (intro w hSw;(try dsimp only at hSw);go_simp;(try with_reducible rfl))
        rotate_left
        simp only [Act.put,zq0,zq1,zq2,zq3,zq4,zq5]
        refine wpAnyH_take (i:=8) (v:=?_) rfl (by kernel_rfl) (by kernel_rfl) (by kernel_rfl) (fun _ _ _ h=>h) (Or.inl ⟨by rfl,?_⟩) hS ?_
        rotate_left
        · (intro w hSw;(try dsimp only at hSw);go_simp;(try with_reducible rfl))
        rotate_left
        simp only [Act.put,zq0,zq1,zq2,zq3,zq4,zq5]
        refine wpAnyH_take (i:=9) (v:=?_) rfl (by kernel_rfl) (by kernel_rfl) (by kernel_rfl) (fun _ _ _ h=>h) (Or.inl ⟨by rfl,?_⟩) hS ?_
        rotate_left
        · (intro w hSw;(try dsimp only at hSw);go_simp;(try with_reducible rfl))
        rotate_left
        simp only [Act.put,zq0,zq1,zq2,zq3,zq4,zq5]
        refine wpAnyH_take (i:=10) (v:=?_) rfl (by kernel_rfl) (by kernel_rfl) (by kernel_rfl) (fun _ _ _ h=>h) (Or.inl ⟨by rfl,?_⟩) hS ?_
        rotate_left
        · (intro w hSw;(try dsimp only at hSw);go_simp;(try with_reducible rfl))
        rotate_left
        simp only [Act.put,zq0,zq1,zq2,zq3,zq4,zq5]
        refine wpAnyH_take (i:=11) (v:=?_) rfl (by kernel_rfl) (by kernel_rfl) (by kernel_rfl) (fun _ _ _ h=>h) (Or.inl ⟨by rfl,?_⟩) hS ?_
        rotate_left
        · (intro w hSw;(try dsimp only at hSw);go_simp;(try with_reducible rfl))
        rotate_left
        simp only [Act.put,zq0,zq1,zq2,zq3,zq4,zq5]
        refine wpAnyH_take (i:=12) (v:=?_) rfl (by kernel_rfl) (by kernel_rfl) (by kernel_rfl) (fun _ _ _ h=>h) (Or.inl ⟨by rfl,?_⟩) hS ?_
        rotate_left
        · (intro w hSw;(try dsimp only at hSw);go_simp;(try with_reducible rfl))
        rotate_left
        simp only [Act.put,zq0,zq1,zq2,zq3,zq4,zq5]
        refine wpAnyH_ready (rs:=[13]) (by kernel_rfl) (by simp) ?_
        refine AllReadyH.cons rfl (fun K hK=>?_) AllReadyH.nil
        rw [if_pos (by rfl)]
        go_simp
        refine hK.out _ _ hS (fun hS'=>?_)
        clear hK K hS
        have hS:=hS'
        clear hS'
        try simp only [Act.put,zq0,zq1,zq2,zq3,zq4,zq5]
        rcases Bool.eq_false_or_eq_true (decide (fN g ≤ pv)) with e9 | e9
        · have HNO : Hid (flB ⟨id,m,c,r,l,h⟩ fs = true → False):=fun ht=>by
           have h1:=(HST.out.1 ((flB_iff.1 ht).2.2 j HLF.out)).2.1 (by have:=HJ0.out;omega)
           have h2:=HPV.out
           have h3:=of_decide_eq_true e9
           omega
          refine wpAnyH_take (i:=14) (v:=?_) rfl (by kernel_rfl) (by kernel_rfl) (by kernel_rfl) (fun _ _ _ h=>h) (Or.inl ⟨by rfl,?_⟩) hS ?_
          rotate_left
          · (intro w hSw;(try dsimp only at hSw);go_simp;(try with_reducible rfl))
          rotate_left
          simp only [Act.put,zq0,zq1,zq2,zq3,zq4,zq5]
          refine wpAnyH_take (i:=15) (v:=?_) rfl (by kernel_rfl) (by kernel_rfl) (by kernel_rfl) (fun _ _ _ h=>h) (Or.inl ⟨by rfl,?_⟩) hS ?_
          rotate_left
          · (intro w hSw;(try dsimp only at hSw);go_simp;(try with_reducible rfl))
          rotate_left
          simp only [Act.put,zq0,zq1,zq2,zq3,zq4,zq5]
          refine wpAnyH_take (i:=16) (v:=?_) rfl (by kernel_rfl) (by kernel_rfl) (by kernel_rfl) (fun _ _ _ h=>h) (Or.inl ⟨by rfl,?_⟩) hS ?_
          rotate_left
          · (intro w hSw;(try dsimp only at hSw);go_simp;(try with_reducible rfl))
          rotate_left
          simp only [Act.put,zq0,zq1,zq2,zq3,zq4,zq5]
          refine wpAnyH_take (i:=17) (v:=?_) rfl (by kernel_rfl) (by kernel_rfl) (by kernel_rfl) (fun _ _ _ h=>h) (Or.inl ⟨by rfl,?_⟩) hS ?_
          rotate_left
          · (intro w hSw;(try dsimp only at hSw);go_simp;(try with_reducible rfl))
          rotate_left
          simp only [Act.put,zq0,zq1,zq2,zq3,zq4,zq5]
          refine wpAnyH_take (i:=18) (v:=?_) rfl (by kernel_rfl) (by kernel_rfl) (by kernel_rfl) (fun _ _ _ h=>h) (Or.inl ⟨by rfl,?_⟩) hS ?_
          rotate_left
          · (intro w hSw;(try dsimp only at hSw);go_simp;(try with_reducible rfl))
          rotate_left
          simp only [Act.put,zq0,zq1,zq2,zq3,zq4,zq5]
          refine wpAnyH_done (by kernel_rfl) ?_ _
          have t4:=Ext.trans t3 hS.1
          clear hS
          go_wp2
          go_ret
          exact ⟨OkBad.bad HNO.out,t4⟩
        · have HLS : Hid (∀ (h : 0 < j),fN (fs[j - 1]'(by have:=HLF.out;omega)) < fN g):=fun h=>by
           have h2:=HPV.out
           have h3:=of_decide_eq_false e9
           omega
          refine wpAnyH_take (i:=14) (v:=?_) rfl (by kernel_rfl) (by kernel_rfl) (by kernel_rfl) (fun _ _ _ h=>h) (Or.inl ⟨by rfl,?_⟩) hS ?_
          rotate_left
          · (intro w hSw;(try dsimp only at hSw);go_simp;(try with_reducible rfl))
          rotate_left
          simp only [Act.put,zq0,zq1,zq2,zq3,zq4,zq5]
          refine wpAnyH_take (i:=15) (v:=?_) rfl (by kernel_rfl) (by kernel_rfl) (by kernel_rfl) (fun _ _ _ h=>h) (Or.inl ⟨by rfl,?_⟩) hS ?_
          rotate_left
          · (intro w hSw;(try dsimp only at hSw);go_simp;(try with_reducible rfl))
          rotate_left
          simp only [Act.put,zq0,zq1,zq2,zq3,zq4,zq5]
          refine wpAnyH_take (i:=16) (v:=?_) rfl (by kernel_rfl) (by kernel_rfl) (by kernel_rfl) (fun _ _ _ h=>h) (Or.inl ⟨by rfl,?_⟩) hS ?_
          rotate_left
          · (intro w hSw;(try dsimp only at hSw);go_simp;(try with_reducible rfl))
          rotate_left
          simp only [Act.put,zq0,zq1,zq2,zq3,zq4,zq5]
          refine wpAnyH_take (i:=17) (v:=?_) rfl (by kernel_rfl) (by kernel_rfl) (by kernel_rfl) (fun _ _ _ h=>h) (Or.inl ⟨by rfl,?_⟩) hS ?_
          rotate_left
          · (intro w hSw;(try dsimp only at hSw);go_simp;(try with_reducible rfl))
          rotate_left
          simp only [Act.put,zq0,zq1,zq2,zq3,zq4,zq5]
          refine wpAnyH_take (i:=18) (v:=?_) rfl (by kernel_rfl) (by kernel_rfl) (by kernel_rfl) (fun _ _ _ h=>h) (Or.inl ⟨by rfl,?_⟩) hS ?_
          rotate_left
          · (intro w hSw;(try dsimp only at hSw);go_simp;(try with_reducible rfl))
          rotate_left
          simp only [Act.put,zq0,zq1,zq2,zq3,zq4,zq5]
          refine wpAnyH_done (by kernel_rfl) ?_ _
          clear hjp hjn hjw hp0 hpn hpn' e9
          have t4:=Ext.trans t3 hS.1
          have b4:=Ext.trans b3 hS.1
          have C4:=C3.next hS.1
          have G4:=G3.next hS.1
          have HU:=Lib.hid (hasu_any S g As cs _ ((HRS.out.below hS.1)))
          have x4:=G4.cell
          clear hS C3 G3 HS
          go_wp2_with fail
          refine HU.out.mono ?_
          rintro e w5 ⟨rfl,b5⟩
          have t5:=Ext.trans t4 b5
          have b6:=Ext.trans b4 b5
          have C5:=C4.next b5
          clear x4 HU G4 C4
          cases hgo : goesB g with
          | false=>
            have HA' : Hid ((∀ i,i < j + 1 → stB ⟨id,m,c,r,l,h⟩ fs i = true) ∧ CodeTo ⟨id,m,c,r,l,h⟩ fs (j + 1)):=⟨fun i hi=>by
              by_cases e : i = j
              · subst e
                exact HST.out.2 ⟨hone,HLS.out,fun hh=>by rw [hgo] at hh;cases hh⟩
              · exact HA.out.1 i (by omega),HCD.out⟩
            go_wp2
            go_roundw
            case rel=>exact ⟨j + 1,HLJ.out,by first | exact round_same HWJ | go_num,b6,HA'⟩
            case measure=>first | exact round_less HWJ HLJ.out | (have h:=HLJ.out;simp [intOf];omega)
          | true=>
            have HF:=Lib.hid (HFIR.out w5 j HLF.out HCD.out (HG1.out.below b6))
            have x5:=C5.cell
            have HFV : Hid (stB ⟨id,m,c,r,l,h⟩ fs j = true ↔ firstB fs j = true):=HST.out.trans ⟨fun hh=>hh.2.2 hgo,fun hh=>⟨hone,HLS.out,fun _=>hh⟩⟩
            generalize firstB fs j = fj at *
            go_wp2_with fail
            refine HF.out.mono ?_
            rintro e w7 ⟨rfl,b7⟩
            have t7:=Ext.trans t5 b7
            have b8:=Ext.trans b6 b7
            clear x5 HF
            cases fj with
            | false=>
              go_wp2
              go_ret
              exact ⟨OkBad.bad fun ht=>absurd (HFV.out.1 ((flB_iff.1 ht).2.2 j HLF.out)) (by decide),t7⟩
            | true=>
              have HA' : Hid ((∀ i,i < j + 1 → stB ⟨id,m,c,r,l,h⟩ fs i = true) ∧ CodeTo ⟨id,m,c,r,l,h⟩ fs (j + 1)):=⟨fun i hi=>by
               by_cases e : i = j
               · subst e
                 exact HFV.out.2 (by first | rfl | trivial)
               · exact HA.out.1 i (by omega),HCD.out⟩
              go_wp2
              go_roundw
              case rel=>exact ⟨j + 1,HLJ.out,by first | exact round_same HWJ | go_num,b8,HA'⟩
              case measure=>first | exact round_less HWJ HLJ.out | (have h:=HLJ.out;simp [intOf];omega)
  · go_wp2
    go_ret
    exact ⟨OkBad.ok (flB_iff.2 ⟨HXK.out,by have:=HN8.out;have:=HN.out;omega,fun i hi=>HA.out.1 i (by have:=HN.out;omega)⟩),t2⟩
end Go.Proofs.Ythapabjlhooglaa
namespace Go.Proofs.Ythapabjlhooglaa
open Go Go.RowKit
set_option linter.unusedSimpArgs false
set_option linter.unusedVariables false
def fndP (fs : List FlTy.T) (n b : Int) : Option Nat:=match fs.findIdx? (numF n) with
 | some k=>(match fs[k]? with | some f=>if fA f ≤ b ∧ b < fA f + fM f then some k else none | none=>none)
 | none=>none
theorem fndP_none {fs : List FlTy.T} {n b : Int} (h : fs.findIdx? (numF n) = none) : fndP fs n b = none:=by unfold fndP;rw [h]
theorem fndP_at {fs : List FlTy.T} {n b : Int} {k : Nat} (h : fs.findIdx? (numF n) = some k) (hk : k < fs.length) : fndP fs n b = if fA fs[k] ≤ b ∧ b < fA fs[k] + fM fs[k] then some k else none:=by
 unfold fndP
 rw [h]
 simp only [List.getElem?_eq_getElem hk]
theorem fndP_some {fs : List FlTy.T} {n b : Int} {k : Nat} (h : fndP fs n b = some k) : ∃ hk : k < fs.length,fN fs[k] = n ∧ fA fs[k] ≤ b ∧ b < fA fs[k] + fM fs[k]:=by
 unfold fndP at h
 cases h1 : fs.findIdx? (numF n) with
 | none=>rw [h1] at h;cases h
 | some j=>
   rw [h1] at h
   obtain ⟨hj,h2,_⟩:=List.findIdx?_eq_some_iff_getElem.1 h1
   simp only [List.getElem?_eq_getElem hj] at h
   split at h
   · rename_i h3
     injection h with h
     subst h
     refine ⟨hj,?_,h3⟩
     unfold numF at h2
     simpa using h2
   · cases h
def FindIs (fs : List FlTy.T) (n b : Int) (e : Ending) : Prop:=∃ (a i : Int) (is : Bool),e = .returned (.tuple #[.int .i64 a,.int .i64 i,.bool is]) ∧ (is = false → fndP fs n b = none) ∧ (is = true → ∃ k,fndP fs n b = some k ∧ a = (k : Int) ∧ ∃ hk : k < fs.length,∃ q : Nat,i = (q : Int) ∧ b = fA fs[k] + (q : Int) ∧ (q : Int) < fM fs[k])
def Fit8 (fs : List FlTy.T) : Prop:=∀ i (h : i < fs.length),(0 ≤ fA fs[i] ∧ fA fs[i] ≤ 1000) ∧ (0 ≤ fM fs[i] ∧ fM fs[i] ≤ 8)
set_option maxRecDepth 100000 in
set_option maxHeartbeats 2000000 in
theorem ffind_any (S : Nat → Prop) (fs : List FlTy.T) (N d : Nat) (B : Option Addr) (hN : fs.length = N) (n b : Int) (hb : IsInt b) (hfit : Fit8 fs) (w : World) (hr : RdIn w S (.sl FlTy) fs [.slice B N d]) :
 Calls Try.prog 39 #[.slice B N d,.int .i64 n,.int .i64 b] w fun e w'=>FindIs fs n b e ∧ Below w.heap.size w w':=by
 have t0:=Ext.alloc (Below.refl w.heap.size w) (.cells #[.int .i64 n] 3)
 have N0:=BoxOf.new w #[.int .i64 n] 3
 have HC:=Lib.hid (idx_find S fs B N d hN n w.heap.size _ (hr.below t0) N0)
 have HR:=Lib.hid (hr.below t0)
 have HNM : Hid (N ≤ maxLen):=by have:=fl_max hr;show N ≤ maxLen;omega
 unfold IdxIs at HC
 clear hr N0
 go_enter Try.func39,Try.ntmps39
 go_upto_region 1 with fail
 generalize w.alloc (.cells #[.int .i64 n] 3) = W at *
 go_wp2_with fail
 refine HC.out.mono ?_
 rintro e w1 ⟨rfl,b1⟩
 have t1:=Ext.trans t0 b1
 clear HC
 cases hidx : fs.findIdx? (numF n) with
 | none=>
   have hv : idxI (numF n) fs = -1:=by unfold idxI;rw [hidx]
   rw [hv]
   go_wp2
   go_ret3
   exact ⟨⟨0,0,false,rfl,fun _=>fndP_none hidx,fun h=>by cases h⟩,t1⟩
 | some k=>
   have hv : idxI (numF n) fs = (k : Int):=by unfold idxI;rw [hidx]
   rw [hv]
   obtain ⟨hk,_,_⟩:=List.findIdx?_eq_some_iff_getElem.1 hidx
   obtain ⟨bb,off,Ab,cb,As,cs,Aq,cq,Ax,cx,rfl,q0,q1,q2,q3,q4,q5,q6,q7,hi,_⟩:=fl_at (HR.out.below b1) hk
   have HF:=Lib.hid (hfit k hk)
   have HP:=Lib.hid (fndP_at (b:=b) hidx hk)
   have HIS : Hid (∀ q : Nat,b = fA fs[k] + (q : Int) → (q : Int) < fM fs[k] → ∃ hk : k < fs.length,∃ q' : Nat,(q : Int) = (q' : Int) ∧ b = fA fs[k] + (q' : Int) ∧ (q' : Int) < fM fs[k]):=fun q h1 h2=>⟨hk,q,rfl,h1,h2⟩
   generalize fs[k] = f at *
   have hkN : k < N:=by omega
   have hB:=Lib.hid hb
   clear hidx hv hi HR hb hfit
   have bA:=Ext.alloc (Below.refl w1.heap.size w1) (.cells #[.int .u8 (kI f),.int .i64 (fA f),.int .i64 (fM f),.slice Ab (fD f).length cb] 28)
   have A1:=BoxOf.new w1 #[.int .u8 (kI f),.int .i64 (fA f),.int .i64 (fM f),.slice Ab (fD f).length cb] 28
   have t2:=Ext.trans t1 bA
   go_upto_region 5 with fail
   generalize w1.alloc (.cells #[.int .u8 (kI f),.int .i64 (fA f),.int .i64 (fM f),.slice Ab (fD f).length cb] 28) = W1 at *
   have x1:=A1.cell
   clear q0 q1 q2 q3 q4 q5 q6 q7 bA t1 t0 b1
   obtain ⟨sv,hsv⟩ : ∃ z : Int,wrap64 (b - fA f) = z:=⟨_,rfl⟩
   have hsv' : IntKind.i64.wrap (b - fA f) = sv:=by rw [← hsv,IntKind.wrap_i64];unfold wrap64;rfl
   rcases Bool.eq_false_or_eq_true (decide (fA f ≤ b)) with e1 | e1
   · have h1:=of_decide_eq_true e1
     obtain ⟨q,hq⟩ : ∃ q : Nat,b - fA f = (q : Int):=⟨(b - fA f).toNat,by omega⟩
     have hsq : sv = (q : Int):=by rw [← hsv,hq];exact IntWalk.wrap64_in _ (by have:=HF.out;have:=hB.out;omega)
     have HQ:=Lib.hid (show b = fA f + (q : Int) by omega)
     subst hsq
     clear hq h1
     rcases Bool.eq_false_or_eq_true (decide ((q : Int) < fM f)) with e2 | e2
     · have h2:=Lib.hid (of_decide_eq_true e2)
       go_quiet (fail)
       have t3:=below_drewN' t2 nq
       go_wp2
       go_ret3
       refine ⟨⟨(k : Int),(q : Int),true,rfl,(fun h=>by cases h),fun _=>⟨k,?_,rfl,HIS.out q HQ.out h2.out⟩⟩,t3⟩
       rw [HP.out,if_pos]
       have:=HQ.out;have:=h2.out;omega
     · have h2:=Lib.hid (of_decide_eq_false e2)
       go_quiet (fail)
       have t3:=below_drewN' t2 nq
       go_wp2
       go_ret3
       refine ⟨⟨(k : Int),(q : Int),false,rfl,(fun _=>?_),fun h=>by cases h⟩,t3⟩
       rw [HP.out,if_neg]
       have:=HQ.out;have:=h2.out;omega
   · have h1:=Lib.hid (of_decide_eq_false e1)
     go_quiet (fail)
     have t3:=below_drewN' t2 nq
     go_wp2
     go_ret3
     refine ⟨⟨(k : Int),sv,false,rfl,(fun _=>?_),fun h=>by cases h⟩,t3⟩
     rw [HP.out,if_neg]
     have:=h1.out;omega
theorem flB_code {x : Cfg} {fs : List FlTy.T} (h : flB x fs = true) : ∀ i (hi : i < fs.length),codeF x fs[i] = 0:=fun i hi=>oneB_code ((stB_iff hi).1 ((flB_iff.1 h).2.2 i hi)).1
theorem flB_fit {x : Cfg} {fs : List FlTy.T} (h : flB x fs = true) : Fit8 fs:=fun i hi=>by
 obtain ⟨_,_,_,h1,h2,_⟩:=askCode_0 (flB_code h i hi)
 exact ⟨h2,h1⟩
def mayP (x : Cfg) (fs : List FlTy.T) (n b : Int) : Bool × Int:=if flB x fs then (match fndP fs n b with | some k=>(firstB fs k,0) | none=>(false,6)) else (false,8)
theorem okbad_cases {P : Prop} {e : Ending} (h : OkBad P e) : (P ∧ e = .returned (.int .i64 0)) ∨ (¬ P ∧ e = .returned (.int .i64 8)):=h
set_option maxRecDepth 100000 in
set_option maxHeartbeats 2000000 in
theorem fmay_any (S : Nat → Prop) (x : Cfg) (fs : List FlTy.T) (N d : Nat) (B : Option Addr) (hN : fs.length = N) (n b : Int) (hb : IsInt b) (w : World) (hr : RdIn w S (.sl FlTy) fs [.slice B N d]) :
 Calls Try.prog 13 #[x.val,.slice B N d,.int .i64 n,.int .i64 b] w fun e w'=>e = .returned (.tuple #[.bool (mayP x fs n b).1,.int .i64 (mayP x fs n b).2]) ∧ Below w.heap.size w w':=by
 have HX:=Lib.hid (fun (w : World) (hr : RdIn w S (.sl FlTy) fs [.slice B N d])=>fcheck_any S x fs N d B hN w hr)
 have HF:=Lib.hid (fun (w : World) (hr : RdIn w S (.sl FlTy) fs [.slice B N d]) (hf : Fit8 fs)=>ffind_any S fs N d B hN n b hb hf w hr)
 have HFI:=Lib.hid (fun (w : World) (hr : RdIn w S (.sl FlTy) fs [.slice B N d]) (k : Nat) (hk : k < fs.length) (hc : flB x fs = true)=>first_any S x fs N d k B hk hN (fun i hi _=>flB_code hc i hi) w hr)
 obtain ⟨mv,hmv⟩ : ∃ z,z = mayP x fs n b:=⟨_,rfl⟩
 rw [← hmv]
 have HMV:=Lib.hid hmv
 clear hmv hb
 obtain ⟨id,m,c,r,l,h⟩:=x
 unfold Cfg.val at *
 dsimp only at *
 have C0:=BoxOf.new w #[.int .u32 (id : Int),.int .i64 m,.int .i64 c,.int .i64 r,.int .i64 l,.int .i64 h] 24
 have t0:=Ext.alloc (Below.refl w.heap.size w) (.cells #[.int .u32 (id : Int),.int .i64 m,.int .i64 c,.int .i64 r,.int .i64 l,.int .i64 h] 24)
 have HR:=Lib.hid (hr.below t0)
 clear hr hN
 go_enter Try.func13,Try.ntmps13
 go_upto_region 1 with fail
 generalize w.alloc (.cells #[.int .u32 (id : Int),.int .i64 m,.int .i64 c,.int .i64 r,.int .i64 l,.int .i64 h] 24) = W at *
 have x0:=C0.cell
 go_wp2_with fail
 refine (HX.out _ HR.out).mono ?_
 rintro e w1 ⟨he,b1⟩
 have t1:=Ext.trans t0 b1
 have C1:=C0.next b1
 clear x0
 rcases okbad_cases he with ⟨hk,rfl⟩ | ⟨hk,rfl⟩
 rotate_left
 · have hm : mv = (false,8):=by rw [HMV.out];unfold mayP;rw [if_neg hk]
   subst hm
   go_wp2
   go_ret2
   exact ⟨rfl,t1⟩
 have HK:=Lib.hid hk
 have HFC:=Lib.hid (HF.out w1 (HR.out.below b1) (flB_fit hk))
 have HR1:=Lib.hid (HR.out.below b1)
 clear he hk HX HF HR C0 t0 b1
 go_wp2_with fail
 refine HFC.out.mono ?_
 rintro e w2 ⟨⟨av,iv,is,rfl,hno,hyes⟩,b2⟩
 have t2:=Ext.trans t1 b2
 have C2:=C1.next b2
 have x2:=C2.cell
 cases is with
 | false=>
   have hm : mv = (false,6):=by rw [HMV.out];unfold mayP;rw [if_pos HK.out,hno rfl]
   subst hm
   clear hno hyes
   go_wp2
   go_ret2
   exact ⟨rfl,t2⟩
 | true=>
   obtain ⟨k,hf,rfl,hk,hqq⟩:=hyes rfl
   have hm : mv = (firstB fs k,0):=by rw [HMV.out];unfold mayP;rw [if_pos HK.out,hf]
   have HFK:=Lib.hid (HFI.out w2 (HR1.out.below b2) k hk HK.out)
   subst hm
   clear hqq hno hyes hf hk
   go_wp2_with fail
   refine HFK.out.mono ?_
   rintro e w3 ⟨rfl,b3⟩
   have t3:=Ext.trans t2 b3
   clear x2
   go_wp2
   go_ret2
   exact ⟨rfl,t3⟩
end Go.Proofs.Ythapabjlhooglaa
namespace Go.Proofs.Ythapabjlhooglaa
open Go Go.RowKit
set_option linter.unusedSimpArgs false
set_option linter.unusedVariables false
def Pick (ys : List (List (List UInt8))) (left : List (List UInt8)) : Prop:=∀ i (h : i < left.length) (h' : i < ys.length),∃ k,∃ hk : k < (ys[i]).length,left[i] = (ys[i])[k]
theorem Pick.nil (ys : List (List (List UInt8))) : Pick ys []:=fun i h=>absurd h (Nat.not_lt_zero _)
theorem Pick.push {ys : List (List (List UInt8))} {left : List (List UInt8)} {z : List UInt8} (h : Pick ys left) (hz : ∀ h' : left.length < ys.length,∃ k,∃ hk : k < (ys[left.length]).length,z = (ys[left.length])[k]) : Pick ys (left ++ [z]):=by
 intro i hi h'
 by_cases hl : i < left.length
 · rw [List.getElem_append_left hl]
   exact h i hl h'
 · have he : i = left.length:=by rw [List.length_append] at hi;simp at hi;omega
   subst he
   rw [List.getElem_append_right (Nat.le_refl _)]
   simp only [Nat.sub_self,List.getElem_cons_zero]
   exact hz h'
def Vals (w : World) (S : Nat → Prop) (left : List (List UInt8)) (vals : List Value) : Prop:=vals.length = left.length ∧ ∀ i (h : i < left.length) (h' : i < vals.length),RdIn w S (.sl .byte) left[i] [vals[i]]
theorem Vals.nil (w : World) (S : Nat → Prop) : Vals w S [] []:=⟨rfl,fun i h=>absurd h (Nat.not_lt_zero _)⟩
theorem Vals.push {w : World} {S : Nat → Prop} {left : List (List UInt8)} {vals : List Value} {z : List UInt8} {v : Value} (h : Vals w S left vals) (hz : RdIn w S (.sl .byte) z [v]) : Vals w S (left ++ [z]) (vals ++ [v]):=by
 refine ⟨by simp [h.1],fun i hi h'=>?_⟩
 by_cases hl : i < left.length
 · have hl' : i < vals.length:=by rw [h.1];exact hl
   rw [List.getElem_append_left hl,List.getElem_append_left hl']
   exact h.2 i hl hl'
 · have he : i = left.length:=by rw [List.length_append] at hi;simp at hi;omega
   subst he
   have h1 : (left ++ [z])[left.length] = z:=by simp
   have h2 : (vals ++ [v])[left.length] = v:=by simp [← h.1]
   rw [h1,h2]
   exact hz
end Go.Proofs.Ythapabjlhooglaa
namespace Go.Proofs.Ythapabjlhooglaa
open Go Go.RowKit
set_option linter.unusedVariables false
theorem box_diff {w : World} {b b' : Nat} {cs ds : Array Value} {t t' : TypeId} (h : BoxOf w b cs t) (h' : BoxOf w b' ds t') (ht : t ≠ t') : b ≠ b':=by
 intro e
 subst e
 unfold BoxOf at *
 rw [h] at h'
 injection h' with e
 injection e with _ e
 exact ht e
def RowS (w : World) (By : Nat → Prop) (lo g o c : Nat) (zs : List (List UInt8)) : Prop:=
 ∃ cur : Array Value,BoxOf w g cur 26 ∧ zs.length ≤ c ∧ c ≤ maxLen ∧ o + c ≤ cur.size ∧ (lo ≤ g ∧ ¬ By g) ∧
  ∀ k (h : k < zs.length),∃ u,cur.toList[o + k]? = some u ∧ RdIn w By (.sl .byte) zs[k] [u]
def MayS (w : World) (By : Nat → Prop) (lo R : Nat) (ys : List (List (List UInt8))) : Prop:=
 ∃ (cells : Array Value) (gf of cf : Nat → Nat),BoxOf w R cells 65 ∧ (lo ≤ R ∧ ¬ By R) ∧
  (∀ i (h : i < ys.length),cells.toList[i]? = some (.slice (some ⟨gf i,of i,none⟩) (ys[i]).length (cf i)) ∧ RowS w By lo (gf i) (of i) (cf i) ys[i]) ∧
  (∀ i j,i < ys.length → j < ys.length → gf i = gf j → i = j)
theorem RowS.frame {w w' : World} {By By' : Nat → Prop} {lo g o c : Nat} {zs : List (List UInt8)} (h : RowS w By lo g o c zs) (hg : w'.heap[g]? = w.heap[g]?) (hb : ∀ b,By b → w'.heap[b]? = w.heap[b]?) (hB : ∀ b,By b → By' b) (hn : ¬ By' g) : RowS w' By' lo g o c zs:=by
 obtain ⟨cur,h1,h2,h3,h4,h5,h6⟩:=h
 refine ⟨cur,by unfold BoxOf at *;rw [hg];exact h1,h2,h3,h4,⟨h5.1,hn⟩,fun k hk=>?_⟩
 obtain ⟨u,h7,h8⟩:=h6 k hk
 exact ⟨u,h7,(h8.frame hb).mono hB⟩
theorem MayS.row {w : World} {By : Nat → Prop} {lo R : Nat} {ys : List (List (List UInt8))} (h : MayS w By lo R ys) {k : Nat} (hk : k < ys.length) :
 ∃ (cells : Array Value) (g o c : Nat),BoxOf w R cells 65 ∧ (lo ≤ R ∧ ¬ By R) ∧ cells.toList[k]? = some (.slice (some ⟨g,o,none⟩) (ys[k]).length c) ∧ RowS w By lo g o c ys[k] ∧
  ∀ (w' : World) (By' : Nat → Prop) (g' o' c' : Nat) (zs : List (List UInt8)),(∀ b,b < w.heap.size → b ≠ R → b ≠ g → w'.heap[b]? = w.heap[b]?) →
     BoxOf w' R (cells.setIfInBounds k (.slice (some ⟨g',o',none⟩) zs.length c')) 65 → RowS w' By' lo g' o' c' zs → (g' = g ∨ w.heap.size ≤ g') →
     (∀ b,By b → b < w.heap.size ∧ By' b) → (∀ b,b < w.heap.size → By' b → By b) → MayS w' By' lo R (ys.set k zs):=by
 obtain ⟨cells,gf,of,cf,h1,h2,h3,h4⟩:=h
 refine ⟨cells,gf k,of k,cf k,h1,h2,(h3 k hk).1,(h3 k hk).2,?_⟩
 intro w' By' g' o' c' zs hf hR hrow hg hB hB'
 have hlt : ∀ i,i < ys.length → gf i < w.heap.size:=fun i hi=>by
  obtain ⟨cur,k1,_⟩:=(h3 i hi).2
  exact k1.lt
 have hnB : ∀ i,i < ys.length → ¬ By (gf i):=fun i hi=>by
  obtain ⟨cur,_,_,_,_,k5,_⟩:=(h3 i hi).2
  exact k5.2
 have hkc : k < cells.toList.length:=(List.getElem?_eq_some_iff.1 (h3 k hk).1).1
 refine ⟨_,fun i=>if i = k then g' else gf i,fun i=>if i = k then o' else of i,fun i=>if i = k then c' else cf i,hR,⟨h2.1,fun h=>h2.2 (hB' R h1.lt h)⟩,fun i hi=>?_,fun i j hi hj e=>?_⟩
 · rw [List.length_set] at hi
   by_cases e : i = k
   · subst e
     simp only [if_true,List.getElem_set_self]
     exact ⟨by rw [Array.toList_setIfInBounds,List.getElem?_set_self hkc],hrow⟩
   · simp only [if_neg e,List.getElem_set_ne (fun h=>e h.symm)]
     refine ⟨?_,?_⟩
     · rw [Array.toList_setIfInBounds,List.getElem?_set_ne (fun h=>e h.symm)]
       exact (h3 i hi).1
     · have hne : gf i ≠ gf k:=fun h=>e (h4 i k hi hk h)
       have hneR : gf i ≠ R:=by
        obtain ⟨cur,k1,_⟩:=(h3 i hi).2
        exact box_diff k1 h1 (by decide)
       refine (h3 i hi).2.frame (hf _ (hlt i hi) hneR hne) (fun b hb=>hf b (hB b hb).1 (fun e=>h2.2 (e ▸ hb)) (fun e=>hnB k hk (e ▸ hb))) (fun b hb=>(hB b hb).2) (fun h=>hnB i hi (hB' _ (hlt i hi) h))
 · rw [List.length_set] at hi hj
   by_cases ei : i = k <;> by_cases ej : j = k
   · rw [ei,ej]
   · subst ei
     simp only [if_true,if_neg ej] at e
     rcases hg with hg | hg
     · exact h4 i j hi hj (hg.symm.trans e)
     · have:=hlt j hj;omega
   · subst ej
     simp only [if_true,if_neg ei] at e
     rcases hg with hg | hg
     · exact h4 i j hi hj (e.trans hg)
     · have:=hlt i hi;omega
   · simp only [if_neg ei,if_neg ej] at e
     exact h4 i j hi hj e
theorem MayS.lt {w : World} {By : Nat → Prop} {lo R : Nat} {ys : List (List (List UInt8))} (h : MayS w By lo R ys) : R < w.heap.size:=by
 obtain ⟨cells,gf,of,cf,h1,h2,h3,h4⟩:=h
 exact h1.lt
theorem RowS.lt {w : World} {By : Nat → Prop} {lo g o c : Nat} {zs : List (List UInt8)} (h : RowS w By lo g o c zs) : g < w.heap.size:=by
 obtain ⟨cur,h1,_⟩:=h
 exact h1.lt
theorem RowS.rdin {w : World} {By : Nat → Prop} {lo g o c : Nat} {zs : List (List UInt8)} (h : RowS w By lo g o c zs) (hB : ∀ b,By b → NewB lo w b) (hz : zs.length ≤ 1000) : RdIn w (NewB lo w) (.sl (.sl .byte)) zs [.slice (some ⟨g,o,none⟩) zs.length c]:=by
 obtain ⟨cur,h1,h2,h3,h4,h5,h6⟩:=h
 refine rdin_sl.2 ⟨_,_,rfl,h2,h3,by show zs.length * 24 ≤ _;omega,.inr ⟨g,o,rfl,⟨h5.1,h1.lt,_,_,h1⟩,fun i hi=>?_⟩⟩
 obtain ⟨u,h7,h8⟩:=h6 i hi
 refine ⟨[u],fun j hj=>?_,h8.mono hB⟩
 have hj0 : j = 0:=by have : j < 1:=hj;omega
 subst hj0
 show w.cell? ⟨g,o + i * 1 + 0,none⟩ = some u
 rw [Nat.mul_one,Nat.add_zero,h1.cell]
 exact h7
theorem MayS.rdin {w : World} {By : Nat → Prop} {lo R : Nat} {ys : List (List (List UInt8))} (h : MayS w By lo R ys) {cR : Nat} (hc : ys.length ≤ cR ∧ cR ≤ maxLen) (hl : ys.length ≤ 1000) (hB : ∀ b,By b → NewB lo w b) (hz : ∀ i (hi : i < ys.length),(ys[i]).length ≤ 1000) : RdIn w (NewB lo w) (.sl (.sl (.sl .byte))) ys [.slice (some ⟨R,0,none⟩) ys.length cR]:=by
 obtain ⟨cells,gf,of,cf,h1,h2,h3,h4⟩:=h
 refine rdin_sl.2 ⟨_,_,rfl,hc.1,hc.2,by show ys.length * 24 ≤ _;omega,.inr ⟨R,0,rfl,⟨h2.1,h1.lt,_,_,h1⟩,fun i hi=>?_⟩⟩
 refine ⟨_,fun j hj=>?_,(h3 i hi).2.rdin hB (hz i hi)⟩
 have hj0 : j = 0:=by have : j < 1:=hj;omega
 subst hj0
 show w.cell? ⟨R,0 + i * 1 + 0,none⟩ = some _
 rw [Nat.mul_one,Nat.add_zero,Nat.zero_add,h1.cell]
 exact (h3 i hi).1
def MkS (w : World) (By : Nat → Prop) (lo : Nat) (v : Value) (b : Nat) (ms : List Int) : Prop:=
 (∀ x ∈ ms,IsInt x) ∧ ∃ A c,v = .slice A ms.length c ∧ ms.length ≤ c ∧ c ≤ maxLen ∧ ms.length * 8 ≤ 140737488355328 ∧
   (ms = [] ∨ ∃ o cur,A = some ⟨b,o,none⟩ ∧ BoxOf w b cur 3 ∧ (lo ≤ b ∧ ¬ By b) ∧ ∀ q (h : q < ms.length),cur.toList[o + q]? = some (.int .i64 ms[q]))
def GoE (w : World) (By : Nat → Prop) (lo : Nat) (at' : Nat → Option Value) (b : Nat) (g : GoTy.T) : Prop:=
 ∃ vd vm,(at' 0 = some (.int .i64 (nuOf g)) ∧ at' 1 = some (.int .u8 ((kiOf g).toNat : Int)) ∧ at' 2 = some (.int .i64 (atOf g)) ∧ at' 3 = some (.int .i64 (manyOf g)) ∧ at' 4 = some vd ∧ at' 5 = some vm) ∧
  (IsInt (nuOf g) ∧ IsInt (atOf g) ∧ IsInt (manyOf g)) ∧ RdIn w By (.sl .byte) (datOf g) [vd] ∧ MkS w By lo vm b (mksOf g)
theorem MkS.frame {w w' : World} {By By' : Nat → Prop} {lo : Nat} {v : Value} {b : Nat} {ms : List Int} (h : MkS w By lo v b ms) (hf : ms ≠ [] → w'.heap[b]? = w.heap[b]?) (hB : b < w.heap.size → By' b → By b) : MkS w' By' lo v b ms:=by
 obtain ⟨h0,A,c,h1,h2,h3,h4,h5⟩:=h
 refine ⟨h0,A,c,h1,h2,h3,h4,?_⟩
 rcases h5 with h5 | ⟨o,cur,h6,h7,h8,h9⟩
 · exact .inl h5
 · by_cases he : ms = []
   · exact .inl he
   · exact .inr ⟨o,cur,h6,by have:=hf he;unfold BoxOf at *;rw [this];exact h7,⟨h8.1,fun h=>h8.2 (hB h7.lt h)⟩,h9⟩
theorem GoE.frame {w w' : World} {By By' : Nat → Prop} {lo : Nat} {at' at2 : Nat → Option Value} {b : Nat} {g : GoTy.T} (h : GoE w By lo at' b g) (ha : ∀ q,q < 6 → at2 q = at' q) (hf : mksOf g ≠ [] → w'.heap[b]? = w.heap[b]?) (hb : ∀ b,By b → w'.heap[b]? = w.heap[b]?) (hB : ∀ b,By b → By' b) (hB' : ∀ b,b < w.heap.size → By' b → By b) : GoE w' By' lo at2 b g:=by
 obtain ⟨vd,vm,⟨h0,h1,h2,h3,h4,h5⟩,h6,h7,h8⟩:=h
 exact ⟨vd,vm,⟨by rw [ha 0 (by decide)];exact h0,by rw [ha 1 (by decide)];exact h1,by rw [ha 2 (by decide)];exact h2,by rw [ha 3 (by decide)];exact h3,by rw [ha 4 (by decide)];exact h4,by rw [ha 5 (by decide)];exact h5⟩,h6,(h7.frame hb).mono hB,h8.frame hf (hB' b)⟩
theorem MayS.mono {w w' : World} {By By' : Nat → Prop} {lo R : Nat} {ys : List (List (List UInt8))} (h : MayS w By lo R ys) (hb : Below w.heap.size w w') (hlt : ∀ b,By b → b < w.heap.size) (hBB : ∀ b,By b → By' b) (hBn : ∀ b,b < w.heap.size → By' b → By b) : MayS w' By' lo R ys:=by
 obtain ⟨cells,gf,of,cf,h1,h2,h3,h4⟩:=h
 refine ⟨cells,gf,of,cf,h1.next hb,⟨h2.1,fun h=>h2.2 (hBn _ h1.lt h)⟩,fun i hi=>⟨(h3 i hi).1,?_⟩,h4⟩
 have hl:=(h3 i hi).2.lt
 refine (h3 i hi).2.frame (hb.block _ hl) (fun b hb'=>hb.block b (hlt b hb')) hBB (fun h=>?_)
 obtain ⟨cur,_,_,_,_,k5,_⟩:=(h3 i hi).2
 exact k5.2 (hBn _ hl h)
theorem MkS.rdin {w : World} {By : Nat → Prop} {lo : Nat} {v : Value} {b : Nat} {ms : List Int} (h : MkS w By lo v b ms) : RdIn w (NewB lo w) (.sl .int) ms [v]:=by
 obtain ⟨h0,A,c,rfl,h2,h3,h4,h5⟩:=h
 refine rdin_sl.2 ⟨_,_,rfl,h2,h3,h4,?_⟩
 rcases h5 with rfl | ⟨o,cur,h6,h7,h8,h9⟩
 · exact .inl rfl
 · refine .inr ⟨b,o,h6,⟨h8.1,h7.lt,_,_,h7⟩,fun i hi=>⟨[.int .i64 (ms[i]'hi)],fun j hj=>?_,rdin_int.2 ⟨rfl,h0 _ (List.getElem_mem hi)⟩⟩⟩
   have hj0 : j = 0:=by have : j < 1:=hj;omega
   subst hj0
   show w.cell? ⟨b,o + i * 1 + 0,none⟩ = _
   rw [Nat.mul_one,Nat.add_zero,h7.cell]
   exact h9 i hi
end Go.Proofs.Ythapabjlhooglaa
namespace Go.Proofs.Ythapabjlhooglaa
open Go Go.RowKit
set_option linter.unusedVariables false
theorem own_view {w : World} {base e size n : Nat} {v : Value} {xs : List Value} (h : w.ownsRow base e size v n xs) (hn : 0 < n) : ∃ g cap cur,v = .slice (some ⟨g,0,none⟩) n cap ∧ base ≤ g ∧ BoxOf w g cur e ∧ n ≤ cap ∧ cap ≤ maxLen ∧ cur.size = cap * size ∧ ∀ q,q < n * size → cur.toList[q]? = xs[q]?:=by
 rcases h.2 with ⟨_,h0⟩ | ⟨g,cap,cur,e,h1,h2,h3,h4,h5,h6⟩
 · omega
 · refine ⟨g,cap,cur,e,h1,h2,h3,h4,h5,fun q hq=>?_⟩
   rw [← h6,List.getElem?_take,if_pos hq]
end Go.Proofs.Ythapabjlhooglaa
