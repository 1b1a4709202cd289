/- What this claim needs of my texts, merged and shortened by a program (part 9). -/
import Derived.Test.YtclbihcggjjgaaaZModelGoes8
namespace Go.Proofs.Ytclbihcggjjgaaa
open Go Go.RowKit
set_option linter.unusedSimpArgs false
set_option linter.unusedVariables false
theorem PlainOk.grow {x : Cfg} {ys : Ys} {gs : List GoTy.T} (h : PlainOk x ys gs) {i : Nat} (hi : i < gs.length) : ∀ k (hk : i + k < gs.length),nuOf gs[i] ≤ nuOf gs[i + k]
 | 0,hk=>Int.le_refl _
 | k + 1,hk=>by
   have h1:=h.grow hi k (by omega)
   have h2:=(h.goes (i + k + 1) hk).2 (show i + k + 1 - 1 < gs.length by omega) (by omega)
   have h3 : nuOf gs[i + k] < nuOf gs[i + k + 1]:=h2
   show nuOf gs[i] ≤ nuOf gs[i + k + 1]
   omega
theorem PlainOk.lastNum {x : Cfg} {ys : Ys} {gs : List GoTy.T} (h : PlainOk x ys gs) {L : Nat} (hL : L + 1 = gs.length) (number : Int) : SomeIs (numB number) gs ↔ number ≤ nuOf (gs[L]'(by omega)):=by
 constructor
 · rintro ⟨i,hi,hn⟩
   have h1 : number ≤ nuOf gs[i]:=of_decide_eq_true hn
   have h2:=h.grow hi (L - i) (by omega)
   have e : i + (L - i) = L:=by omega
   have h3 : nuOf (gs[i + (L - i)]'(by omega)) = nuOf (gs[L]'(by omega)):=by simp only [e]
   omega
 · intro hn
   exact ⟨L,by omega,decide_eq_true hn⟩
theorem numNone (number : Int) : ¬ SomeIs (numB number) []:=fun ⟨i,hi,_⟩=>absurd hi (Nat.not_lt_zero _)
set_option maxRecDepth 100000 in
set_option maxHeartbeats 4000000 in
theorem rbegin_any (S : Nat → Prop) (x : Cfg) (ys : List (List (List UInt8))) (gs : List GoTy.T) (A : Option Addr) (ca : Nat) (B : Option Addr) (cb : Nat) (number : Int) (hnum : IsInt number) (ki : UInt8) (a y : Int) (D : Option Addr) (dc : Nat) (bs : List UInt8) (w : World) (hy : RdIn w S (.sl (.sl (.sl .byte))) ys [.slice A ys.length ca]) (hg : RdIn w S (.sl GoTy) gs [.slice B gs.length cb]) (hd : RdIn w S (.sl .byte) bs [.slice D bs.length dc]) :
 Calls Try.prog 31 #[x.val,.agg #[.slice A ys.length ca,.slice B gs.length cb],.int .i64 number,.agg #[.int .u8 (ki.toNat : Int),.int .i64 a,.int .i64 y,.slice D bs.length dc]] w fun e w'=>BegIs w.heap.size x ys gs number ki a y bs e w' ∧ Below w.heap.size w w':=by
 obtain ⟨iu,hu,hu0,hu1,hu2⟩:=minfo_u8
 obtain ⟨ii,hii,hi0,hi1,hi2⟩:=minfo_int
 obtain ⟨ig,hig,hg0,hg1,hg2⟩:=minfo_going
 have HPC : Hid (∀ w',Below w.heap.size w w' → Calls Try.prog 40 #[x.val,.agg #[.slice A ys.length ca,.slice B gs.length cb]] w' fun e w''=>YesNo (PlainOk x ys gs) e ∧ Below w'.heap.size w' w''):=fun w' bb=>rpmay_any S x ys gs A ca B cb w' (hy.below bb) (hg.below bb)
 have HSC : Hid (∀ w',Calls Try.prog 64 #[x.val,.agg #[.int .u8 (ki.toNat : Int),.int .i64 a,.int .i64 y,.slice D bs.length dc]] w' fun e w''=>e = .returned (.int .i64 (askCode x (ki.toNat : Int) a y bs.length)) ∧ Below w'.heap.size w' w''):=fun w'=>rcheck_all x (ki.toNat : Int) a y D bs.length dc w'
 have HTW : Hid (∀ w',Below w.heap.size w w' → Calls Try.prog 10 #[.agg #[.slice A ys.length ca,.slice B gs.length cb]] w' fun e w''=>TwinIs w'.heap.size ys gs e w'' ∧ Below w'.heap.size w' w''):=fun w' bb=>rtwinE_any S ys gs A ca B cb w' (hy.below bb) (hg.below bb)
 have HCL : Hid (∀ w',Below w.heap.size w w' → Calls Try.prog 28 #[.agg #[.int .u8 (ki.toNat : Int),.int .i64 a,.int .i64 y,.slice D bs.length dc]] w' fun e w''=>∃ A' c',e = .returned (.agg #[.int .u8 (ki.toNat : Int),.int .i64 a,.int .i64 y,.slice A' bs.length c']) ∧ RdIn w'' (NewB w'.heap.size w'') (.sl .byte) bs [.slice A' bs.length c'] ∧ Below w'.heap.size w' w''):=fun w' bb=>rasktwin_any S ki a y bs D dc w' (hd.below bb)
 have HY:=Lib.hid hy
 have HG:=Lib.hid hg
 have HN:=Lib.hid hnum
 have HYM:=Lib.hid (may_max hy)
 have hyz : Hid (ys.length * 24 ≤ 140737488355328):=by
  obtain ⟨_,_,_,_,h1,_⟩:=view3 hy
  exact h1
 clear hy hg hd hnum
 obtain ⟨id,m,c,r,l,h⟩:=x
 unfold Cfg.val at *
 dsimp only at *
 have C0:=BoxOf.alloc (BoxOf.alloc (BoxOf.alloc (BoxOf.new w #[.int .u32 (id : Int),.int .i64 m,.int .i64 c,.int .i64 r,.int .i64 l,.int .i64 h] 24) (.cells #[.slice A ys.length ca,.slice B gs.length cb] 28)) (.cells #[.int .u8 (ki.toNat : Int),.int .i64 a,.int .i64 y,.slice D bs.length dc] 58)) (.cells #[.slice none 0 0,.slice none 0 0] 28)
 have P0:=BoxOf.alloc (BoxOf.alloc (BoxOf.new' (w.alloc (.cells #[.int .u32 (id : Int),.int .i64 m,.int .i64 c,.int .i64 r,.int .i64 l,.int .i64 h] 24)) (w.heap.size + 1) #[.slice A ys.length ca,.slice B gs.length cb] 28 (by simp)) (.cells #[.int .u8 (ki.toNat : Int),.int .i64 a,.int .i64 y,.slice D bs.length dc] 58)) (.cells #[.slice none 0 0,.slice none 0 0] 28)
 have Q0:=BoxOf.alloc (BoxOf.new' ((w.alloc (.cells #[.int .u32 (id : Int),.int .i64 m,.int .i64 c,.int .i64 r,.int .i64 l,.int .i64 h] 24)).alloc (.cells #[.slice A ys.length ca,.slice B gs.length cb] 28)) (w.heap.size + 2) #[.int .u8 (ki.toNat : Int),.int .i64 a,.int .i64 y,.slice D bs.length dc] 58 (by simp)) (.cells #[.slice none 0 0,.slice none 0 0] 28)
 have Z0:=BoxOf.new' (((w.alloc (.cells #[.int .u32 (id : Int),.int .i64 m,.int .i64 c,.int .i64 r,.int .i64 l,.int .i64 h] 24)).alloc (.cells #[.slice A ys.length ca,.slice B gs.length cb] 28)).alloc (.cells #[.int .u8 (ki.toNat : Int),.int .i64 a,.int .i64 y,.slice D bs.length dc] 58)) (w.heap.size + 3) #[.slice none 0 0,.slice none 0 0] 28 (by simp)
 have t0:=Ext.alloc (Ext.alloc (Ext.alloc (Ext.alloc (Below.refl w.heap.size w) (.cells #[.int .u32 (id : Int),.int .i64 m,.int .i64 c,.int .i64 r,.int .i64 l,.int .i64 h] 24)) (.cells #[.slice A ys.length ca,.slice B gs.length cb] 28)) (.cells #[.int .u8 (ki.toNat : Int),.int .i64 a,.int .i64 y,.slice D bs.length dc] 58)) (.cells #[.slice none 0 0,.slice none 0 0] 28)
 go_enter Try.func31,Try.ntmps31
 go_upto_region 1 with fail
 generalize (((w.alloc (.cells #[.int .u32 (id : Int),.int .i64 m,.int .i64 c,.int .i64 r,.int .i64 l,.int .i64 h] 24)).alloc (.cells #[.slice A ys.length ca,.slice B gs.length cb] 28)).alloc (.cells #[.int .u8 (ki.toNat : Int),.int .i64 a,.int .i64 y,.slice D bs.length dc] 58)).alloc (.cells #[.slice none 0 0,.slice none 0 0] 28) = W at *
 have c0:=C0.cell
 have p0:=P0.cell
 go_wp2_with fail
 refine (HPC.out _ t0).mono ?_
 rintro e w1 ⟨⟨bb,rfl,hb1⟩,b1⟩
 have C1:=C0.next b1
 have c1:=C1.cell
 have P1:=P0.next b1
 have Q1:=Q0.next b1
 have Z1:=Z0.next b1
 have t1:=Ext.trans t0 b1
 have p1:=P1.cell
 have q1:=Q1.cell
 have z1:=Z1.cell
 have f1:=Z1.free
 clear c0 p0 C0 P0 Q0 Z0 t0 b1
 cases bb with
 | false=>
   have HNOK : Hid (¬ PlainOk ⟨id,m,c,r,l,h⟩ ys gs):=fun hp=>by have:=hb1.2 hp;cases this
   clear hb1
   go_wp2
   have f9:=(Z1).free
   have B5 : BoxOf _ (w.heap.size + 3) #[.slice none 0 0,.slice none 0 0] 28:=mbox_self (mbox_self Z1 0 (.slice none 0 0)) 1 (.slice none 0 0)
   have T5:=Below.setCell (p:=⟨w.heap.size + 3,1,none⟩) (Below.setCell (p:=⟨w.heap.size + 3,0,none⟩) t1 (show w.heap.size ≤ w.heap.size + 3 by omega) (.slice none 0 0)) (show w.heap.size ≤ w.heap.size + 3 by omega) (.slice none 0 0)
   exact bodyPost_ret (v:=.tuple #[.agg #[.slice none 0 0,.slice none 0 0],.int .i64 (8)]) (Eq.trans (results_row2 (P:=Try.prog) (fn:=Try.f31) (p:=8) (u:=9) (ty:=28) rfl _ _ (w.heap.size + 3) 28 #[.slice none 0 0,.slice none 0 0] (0,0) _ rfl B5 Try.underlying28 rfl (by kernel_rfl)) rfl) rfl ⟨BegIs.err (.inl ⟨HNOK.out,rfl,rfl,rfl⟩),T5⟩
 | true=>
   have HOK:=Lib.hid (hb1.1 rfl)
   clear hb1
   go_wp2_with fail
   refine (HSC.out _).mono ?_
   rintro e w2 ⟨rfl,b2⟩
   have P2:=P1.next b2
   have Q2:=Q1.next b2
   have Z2:=Z1.next b2
   have t2:=Ext.trans t1 b2
   have p2:=P2.cell
   have q2:=Q2.cell
   have z2:=Z2.cell
   have f2:=Z2.free
   clear c1 C1 p1 q1 z1 f1 P1 Q1 Z1 t1 b2
   by_cases hc : askCode ⟨id,m,c,r,l,h⟩ (ki.toNat : Int) a y bs.length = 0
   · have HC0:=Lib.hid hc
     rw [hc]
     clear hc
     rcases Bool.eq_false_or_eq_true (decide (number < 1)) with e1 | e1
     · have HLT : Hid (number < 1):=by show _ < _;exact of_decide_eq_true e1
       go_wp2
       have f9:=(Z2).free
       have B5 : BoxOf _ (w.heap.size + 3) #[.slice none 0 0,.slice none 0 0] 28:=mbox_self (mbox_self Z2 0 (.slice none 0 0)) 1 (.slice none 0 0)
       have T5:=Below.setCell (p:=⟨w.heap.size + 3,1,none⟩) (Below.setCell (p:=⟨w.heap.size + 3,0,none⟩) t2 (show w.heap.size ≤ w.heap.size + 3 by omega) (.slice none 0 0)) (show w.heap.size ≤ w.heap.size + 3 by omega) (.slice none 0 0)
       exact bodyPost_ret (v:=.tuple #[.agg #[.slice none 0 0,.slice none 0 0],.int .i64 (2)]) (Eq.trans (results_row2 (P:=Try.prog) (fn:=Try.f31) (p:=8) (u:=9) (ty:=28) rfl _ _ (w.heap.size + 3) 28 #[.slice none 0 0,.slice none 0 0] (0,0) _ rfl B5 Try.underlying28 rfl (by kernel_rfl)) rfl) rfl ⟨BegIs.err (.inr (.inr (.inl ⟨HOK.out,HC0.out,fun h=>by have:=HLT.out;omega,rfl,rfl,rfl⟩))),T5⟩
     · have HGE : Hid (1 ≤ number):=by have:=of_decide_eq_false e1;show _ ≤ _;omega
       go_upto_region 6 with fail
       go_cut [46] (fun s46 wx=>(∃ bv : Bool,s46 = .bool bv ∧ (bv = true ↔ SomeIs (numB number) gs)) ∧ wx = w2)
       case first=>
        by_cases hz : gs.length = 0
        · have e2 : decide ((0 : Int) < (gs.length : Int)) = false:=decide_eq_false (by omega)
          have e2n : decide (0 < gs.length) = false:=decide_eq_false (by omega)
          have HF : Hid (¬ SomeIs (numB number) gs):=by
           have h0 : gs = []:=List.eq_nil_of_length_eq_zero hz
           rw [h0]
           exact numNone number
          clear hz
          go_wp2_with fail
          go_meet
          exact ⟨⟨false,rfl,⟨fun h=>absurd h Bool.false_ne_true,fun h=>absurd h HF.out⟩⟩,rfl⟩
        · obtain ⟨L,hL⟩ : ∃ L,L + 1 = gs.length:=⟨gs.length - 1,by omega⟩
          have hLl : L < gs.length:=by omega
          obtain ⟨b,off,Ab,cg,Am,cm,rfl,q0,_,_,_,_,_,_,_,_,_,_⟩:=go_at (HG.out.below t2) hLl
          have HLN:=Lib.hid (HOK.out.lastNum hL number)
          have hwl : wrap64 ((gs.length : Int) - 1) = (L : Int):=by have:=HOK.out.few;rw [IntWalk.wrap64_in _ (by omega)];omega
          have e2 : decide ((0 : Int) < (gs.length : Int)) = true:=decide_eq_true (by omega)
          have e2n : decide (0 < gs.length) = true:=decide_eq_true (by omega)
          generalize nuOf (gs[L]'_) = nk at *
          clear hL hz
          rcases Bool.eq_false_or_eq_true (decide (number ≤ nk)) with e3 | e3
          · have HF : Hid (SomeIs (numB number) gs):=HLN.out.2 (of_decide_eq_true e3)
            go_wp2_with fail
            go_meet
            exact ⟨⟨true,rfl,⟨fun _=>HF.out,fun _=>rfl⟩⟩,rfl⟩
          · have HF : Hid (¬ SomeIs (numB number) gs):=fun h=>absurd (HLN.out.1 h) (of_decide_eq_false e3)
            go_wp2_with fail
            go_meet
            exact ⟨⟨false,rfl,⟨fun h=>absurd h Bool.false_ne_true,fun h=>absurd h HF.out⟩⟩,rfl⟩
       case rest=>
        obtain ⟨⟨bv,rfl,hbv⟩,rfl⟩:=hcut
        have HBV:=Lib.hid hbv
        clear hbv
        cases bv with
        | true=>
          go_wp2
          have f9:=(Z2).free
          have B5 : BoxOf _ (w.heap.size + 3) #[.slice none 0 0,.slice none 0 0] 28:=mbox_self (mbox_self Z2 0 (.slice none 0 0)) 1 (.slice none 0 0)
          have T5:=Below.setCell (p:=⟨w.heap.size + 3,1,none⟩) (Below.setCell (p:=⟨w.heap.size + 3,0,none⟩) t2 (show w.heap.size ≤ w.heap.size + 3 by omega) (.slice none 0 0)) (show w.heap.size ≤ w.heap.size + 3 by omega) (.slice none 0 0)
          exact bodyPost_ret (v:=.tuple #[.agg #[.slice none 0 0,.slice none 0 0],.int .i64 (2)]) (Eq.trans (results_row2 (P:=Try.prog) (fn:=Try.f31) (p:=8) (u:=9) (ty:=28) rfl _ _ (w.heap.size + 3) 28 #[.slice none 0 0,.slice none 0 0] (0,0) _ rfl B5 Try.underlying28 rfl (by kernel_rfl)) rfl) rfl ⟨BegIs.err (.inr (.inr (.inl ⟨HOK.out,HC0.out,fun h=>h.2 (HBV.out.1 (by first | rfl | trivial)),rfl,rfl,rfl⟩))),T5⟩
        | false=>
          have HNO : Hid (1 ≤ number ∧ ¬ SomeIs (numB number) gs):=⟨HGE.out,fun h=>by have:=HBV.out.2 h;cases this⟩
          rcases Bool.eq_false_or_eq_true (decide ((8 : Int) ≤ (gs.length : Int))) with e2 | e2
          · have e2n : decide (8 ≤ gs.length) = true:=decide_eq_true (by have:=of_decide_eq_true e2;omega)
            have HL : Hid (gs.length = 8):=by have:=of_decide_eq_true e2;have:=HOK.out.few;show _ = _;omega
            go_wp2
            have f9:=(Z2).free
            have B5 : BoxOf _ (w.heap.size + 3) #[.slice none 0 0,.slice none 0 0] 28:=mbox_self (mbox_self Z2 0 (.slice none 0 0)) 1 (.slice none 0 0)
            have T5:=Below.setCell (p:=⟨w.heap.size + 3,1,none⟩) (Below.setCell (p:=⟨w.heap.size + 3,0,none⟩) t2 (show w.heap.size ≤ w.heap.size + 3 by omega) (.slice none 0 0)) (show w.heap.size ≤ w.heap.size + 3 by omega) (.slice none 0 0)
            exact bodyPost_ret (v:=.tuple #[.agg #[.slice none 0 0,.slice none 0 0],.int .i64 (9)]) (Eq.trans (results_row2 (P:=Try.prog) (fn:=Try.f31) (p:=8) (u:=9) (ty:=28) rfl _ _ (w.heap.size + 3) 28 #[.slice none 0 0,.slice none 0 0] (0,0) _ rfl B5 Try.underlying28 rfl (by kernel_rfl)) rfl) rfl ⟨BegIs.err (.inr (.inr (.inr (.inl ⟨HOK.out,HC0.out,HNO.out,HL.out,rfl,rfl,rfl⟩)))),T5⟩
          · have e2n : decide (8 ≤ gs.length) = false:=decide_eq_false (by have:=of_decide_eq_false e2;omega)
            have HL : Hid (¬ gs.length = 8):=by have:=of_decide_eq_false e2;show ¬ _;omega
            go_wp2_with fail
            refine (HTW.out _ t2).mono ?_
            rintro e w4 ⟨⟨vy,vg,mm,rfl,hm1,hm2,O4,G4⟩,b4⟩
            obtain ⟨Ay,cy,rfl⟩:=O4.slice
            obtain ⟨Ag,cg,rfl⟩:=G4.slice
            have hw34:=t2.size
            have hz3:=Z2.lt
            have P4:=P2.next b4
            have Q4:=Q2.next b4
            have Z4:=Z2.next b4
            have t4:=Ext.trans t2 b4
            have p4:=P4.cell
            have q4:=Q4.cell
            have z4:=Z4.cell
            have f4:=Z4.free
            clear p2 q2 z2 f2 P2 Q2 Z2 t2 b4 p4 z4 f4
            have hb1:=Ext.alloc (Below.refl w4.heap.size w4) (.cells #[.slice Ay ys.length cy,.slice Ag gs.length cg] 28)
            have T5:=BoxOf.new w4 #[.slice Ay ys.length cy,.slice Ag gs.length cg] 28
            have Q5:=Q4.next hb1
            have P5:=P4.next hb1
            have Z5:=Z4.next hb1
            have t5:=Ext.trans t4 hb1
            have O5:=O4.next (fun b hb=>Nat.lt_of_lt_of_le hb.2 hm2) hb1
            have G5:=G4.next (fun b hb=>hb.2) hb1
            have hgl:=G4.lt
            have hs5:=T5.lt
            obtain ⟨tb,htb⟩ : ∃ z : Nat,z = w4.heap.size:=⟨_,rfl⟩
            obtain ⟨lo3,hlo3⟩ : ∃ z : Nat,z = wc.heap.size:=⟨_,rfl⟩
            have hwt : w.heap.size + 3 < lo3 ∧ lo3 ≤ mm ∧ mm ≤ tb:=by omega
            rw [← htb] at T5 G5 hgl hs5
            rw [← hlo3] at O5
            have HGL:=Lib.hid hgl
            go_upto_region 11 with fail
            rw [← htb]
            have HWT:=Lib.hid hwt
            have HS5:=Lib.hid hs5
            clear htb hlo3 hb1 O4 G4 Q4 Z4 P4 t4 hgl hm1 hm2 hw34 hz3 hwt hs5 e1 e2 q4
            generalize w4.alloc (.cells #[.slice Ay ys.length cy,.slice Ag gs.length cg] 28) = W5 at *
            have q5:=Q5.cell
            go_wp2_with fail
            refine (HCL.out _ t5).mono ?_
            rintro e W7 ⟨Dn,dn,rfl,r6,b6⟩
            have Q7:=Q5.next b6
            have P7:=P5.next b6
            have Z7:=Z5.next b6
            have T7:=T5.next b6
            have t7:=Ext.trans t5 b6
            have O7:=O5.next (fun b hb=>by have:=hb.2;have:=HWT.out;have:=HS5.out;omega) b6
            have G7:=G5.next (fun b hb=>by have:=hb.2;have:=HWT.out;have:=HS5.out;omega) b6
            have hs6:=b6.size
            have HS6:=Lib.hid hs6
            have r7 : RdIn W7 (fun b=>Iv W5.heap.size W7.heap.size b ∧ Live W7 b) (.sl .byte) bs [.slice Dn bs.length dn]:=r6.mono fun b hb=>⟨⟨hb.1,hb.2.1⟩,hb.2.2⟩
            have bR:=Ext.alloc (Below.refl W7.heap.size W7) (.cells #[.int .i64 number,.int .u8 (ki.toNat : Int),.int .i64 a,.int .i64 y,.slice Dn bs.length dn,.slice none 0 0] 64)
            have R8:=BoxOf.new W7 #[.int .i64 number,.int .u8 (ki.toNat : Int),.int .i64 a,.int .i64 y,.slice Dn bs.length dn,.slice none 0 0] 64
            have hmz : mm ≤ W7.heap.size ∧ tb ≤ W7.heap.size:=by have:=HWT.out;have:=HS5.out;have:=HS6.out;omega
            have Q8:=Q7.next bR
            have P8:=P7.next bR
            have Z8:=Z7.next bR
            have T8:=T7.next bR
            have O8:=O7.next (fun b hb=>by have:=hb.2;omega) bR
            have G8:=G7.next (fun b hb=>by have:=hb.2;omega) bR
            have t8:=Ext.trans t7 bR
            have r8 : RdIn _ (fun b=>Iv W5.heap.size W7.heap.size b ∧ Live _ b) (.sl .byte) bs [.slice Dn bs.length dn]:=(r7.below bR).mono (fun b hb=>⟨hb.1,hb.2.below bR⟩)
            clear q5 Q5 P5 Z5 T5 t5 O5 G5 b6 hs6 r6
            obtain ⟨lo2,hlo2⟩ : ∃ z : Nat,z = W7.heap.size:=⟨_,rfl⟩
            obtain ⟨lo5,hlo5⟩ : ∃ z : Nat,z = W5.heap.size:=⟨_,rfl⟩
            have hLO : tb < lo5 ∧ lo5 ≤ lo2:=by have:=HS5.out;have:=HS6.out;omega
            rw [← hlo2,← hlo5] at r8
            rw [← hlo2] at R8
            go_upto_region 12 with fail
            rw [← hlo2]
            have HLO:=Lib.hid hLO
            have HAY : Hid (IsInt a ∧ IsInt y):=by
             obtain ⟨_,_,_,h1,h2,_⟩:=askCode_0 HC0.out
             show _ ∧ _
             unfold IsInt
             omega
            clear hlo2 hlo5 hLO bR hmz Q7 P7 Z7 T7 O7 G7 t7 r7
            generalize W7.alloc (.cells #[.int .i64 number,.int .u8 (ki.toNat : Int),.int .i64 a,.int .i64 y,.slice Dn bs.length dn,.slice none 0 0] 64) = W8 at *
            have q8:=Q8.cell
            have p8:=P8.cell
            have hyp : decide ((0 : Int) < (ys.length : Int)) = true:=decide_eq_true (by have h3:=Cfg.crm HOK.out.cfg;have h4:=HOK.out.len;omega)
            have hypn : decide (0 < ys.length) = true:=decide_eq_true (by have:=of_decide_eq_true hyp;omega)
            rcases Bool.eq_false_or_eq_true ((ki.toNat : Int) == 4) with e4 | e4
            · have hk4 : ki = 4:=by
               have h1 : (ki.toNat : Int) = 4:=by simpa using e4
               exact UInt8.toNat_inj.1 (by show ki.toNat = 4;omega)
              have HMS : Hid (newGo number ki a y bs ys = (number,(ki,a,y,bs,()),lastOf ys,())):=by
               have h1 : mkOf ki ys = lastOf ys:=if_pos hk4
               exact congrArg (fun z : List Int=>(show GoTy.T from (number,(ki,a,y,bs,()),z,()))) h1
              have HMI : Hid ((∀ x ∈ lastOf ys,IsInt x) ∧ (lastOf ys).length * 8 ≤ 140737488355328):=by
               refine ⟨fun x hx=>?_,?_⟩
               · unfold lastOf at hx
                 rw [List.mem_map] at hx
                 obtain ⟨l,hl,rfl⟩:=hx
                 obtain ⟨i,hi,rfl⟩:=List.getElem_of_mem hl
                 have h1:=HOK.out.vals i hi
                 have h2:=h1.1
                 have h3:=h1.2.1
                 unfold IsInt
                 omega
               · rw [lastOf_len]
                 have:=hyz.out
                 omega
              have hd4 : decide ((ki.toNat : Int) = 4) = true:=by rw [decide_eq_true_iff];simpa using e4
              clear hk4
              have b80 : Below lo2 W8 W8:=Below.refl _ _
              have own0 : W8.ownsRow (lo2 + 1) 3 1 (.slice none 0 0) 0 (mkV ys 0):=⟨rfl,.inl ⟨rfl,rfl⟩⟩
              have HW8 : Hid (lo2 + 1 ≤ W8.heap.size):=R8.lt
              clear q8 p8 hyp hypn
              go_wp2
              go_loopw [13] (fun i wr=>∃ (j : Nat) (vm : Value),j ≤ ys.length ∧ i = .int .i64 j ∧ Below w.heap.size w wr ∧ Below lo2 W8 wr ∧ BoxOf wr lo2 #[.int .i64 number,.int .u8 (ki.toNat : Int),.int .i64 a,.int .i64 y,.slice Dn bs.length dn,vm] 64 ∧ wr.ownsRow (lo2 + 1) 3 1 vm j (mkV ys j) ∧ Hid (lo2 + 1 ≤ wr.heap.size)) (fun i _=>ys.length - (intOf i).toNat)
              case atStart=>exact ⟨0,.slice none 0 0,by omega,rfl,t8,b80,R8,own0,HW8⟩
              case round=>
               obtain ⟨j,vm,hj,rfl,t9',k9',R9',M9',HN9'⟩:=hrel
               clear t8 b80 R8 own0
               have hwtz:=HWT.out
               have hloz:=HLO.out
               have P9:=P8.below k9' (show w.heap.size + 1 < lo2 by omega)
               have Q9:=Q8.below k9' (show w.heap.size + 2 < lo2 by omega)
               have p9:=P9.cell
               have q9:=Q9.cell
               clear hwtz hloz
               by_cases hlt : j < ys.length
               · obtain ⟨b,off,A2,c2,rfl,q2w,r2⟩:=may_at HY.out hlt
                 have HSTK:=Lib.hid (mkV_step hlt)
                 have hzl : (ys[j]).length ≤ 512:=(HOK.out.vals j hlt).2.1
                 generalize ys[j] = zs at *
                 have HWJ:=next_wrap HYM.out hlt
                 have HLJ:=Lib.hid hlt
                 have hwz : IntKind.i64.wrap ((zs.length : Int) - 1) = (zs.length : Int) - 1:=i64_fit (by omega)
                 have HBY : Hid (j + 1 ≤ maxLen ∧ (j + 1) * 8 ≤ 140737488355328):=by
                     have h1:=hyz.out
                     have h2:=HLJ.out
                     show _ ∧ _
                     unfold maxLen
                     omega
                 have HS : Hid (∀ w',Below w.heap.size w w' → Below lo2 W8 w' → ((∀ p,w'.cell? ⟨w.heap.size + 1,p,none⟩ = #[Value.slice (some ⟨b,off,none⟩) ys.length ca,Value.slice B gs.length cb].toList[p]?) ∧ w'.cell? ⟨b,off + j,none⟩ = some (.slice A2 zs.length c2))):=fun w' b1 b2=>⟨(P8.below b2 (show w.heap.size + 1 < lo2 by have:=HWT.out;have:=HLO.out;omega)).cell,(b1.cell (p:=⟨b,off + j,none⟩) (block_lt_of_cell q2w)).trans q2w⟩
                 obtain ⟨Am,cm,rfl⟩:=own_form M9'
                 clear r2 hzl hj
                 go_upto_region 15 with fail
                 clear p9 q9 hd4 P9 Q9
                 have t9:=Ext.drew t9'
                 have k9:=Below.drew k9'
                 have R9:=R9'.drew
                 have M9:=own_next M9' (Ext.drew (Below.refl wr.heap.size wr))
                 have HN9 : Hid (lo2 + 1 ≤ wr.drew.heap.size):=HN9'.out
                 refine wp_region_held_drew (S:=fun w'=>(∀ p,w'.cell? ⟨w.heap.size + 1,p,none⟩ = #[Value.slice (some ⟨b,off,none⟩) ys.length ca,Value.slice B gs.length cb].toList[p]?) ∧ w'.cell? ⟨b,off + j,none⟩ = some (.slice A2 zs.length c2)) (by kernel_rfl) (HS.out _ t9 k9) (fun hS=>?_)
                 clear t9' k9' R9' M9' HN9'
                 generalize wr.drew = vv at *
                 refine wpAnyH_take (i:=0) (v:=?_) rfl (by kernel_rfl) (by kernel_rfl) (by kernel_rfl) (fun _ _ _ h=>h) (Or.inl ⟨by rfl,?_⟩) hS ?_
                 rotate_left
                 · (intro w hSw;(try dsimp only at hSw);go_simp;(try with_reducible rfl))
                 rotate_left
                 simp only [Act.put,zq0,zq1,zq2,zq3,zq4,zq5]
                 refine wpAnyH_take (i:=2) (v:=?_) rfl (by kernel_rfl) (by kernel_rfl) (by kernel_rfl) (fun _ _ _ h=>h) (Or.inl ⟨by rfl,?_⟩) hS ?_
                 rotate_left
                 · (intro w hSw;(try dsimp only at hSw);go_simp;(try with_reducible rfl))
                 rotate_left
                 simp only [Act.put,zq0,zq1,zq2,zq3,zq4,zq5]
                 refine wpAnyH_take (i:=3) (v:=?_) rfl (by kernel_rfl) (by kernel_rfl) (by kernel_rfl) (fun _ _ _ h=>h) (Or.inl ⟨by rfl,?_⟩) hS ?_
                 rotate_left
                 · (intro w hSw;(try dsimp only at hSw);go_simp;(try with_reducible rfl))
                 rotate_left
                 simp only [Act.put,zq0,zq1,zq2,zq3,zq4,zq5]
                 refine wpAnyH_take (i:=4) (v:=?_) rfl (by kernel_rfl) (by kernel_rfl) (by kernel_rfl) (fun _ _ _ h=>h) (Or.inl ⟨by rfl,?_⟩) hS ?_
                 rotate_left
                 · (intro w hSw;(try dsimp only at hSw);go_simp;(try with_reducible rfl))
                 rotate_left
                 simp only [Act.put,zq0,zq1,zq2,zq3,zq4,zq5]
                 refine wpAnyH_take (i:=5) (v:=?_) rfl (by kernel_rfl) (by kernel_rfl) (by kernel_rfl) (fun _ _ _ h=>h) (Or.inl ⟨by rfl,?_⟩) hS ?_
                 rotate_left
                 · (intro w hSw;(try dsimp only at hSw);go_simp;(try with_reducible rfl))
                 rotate_left
                 simp only [Act.put,zq0,zq1,zq2,zq3,zq4,zq5]
                 refine wpAnyH_take (i:=6) (v:=?_) rfl (by kernel_rfl) (by kernel_rfl) (by kernel_rfl) (fun _ _ _ h=>h) (Or.inl ⟨by rfl,?_⟩) hS ?_
                 rotate_left
                 · (intro w hSw;(try dsimp only at hSw);go_simp;(try with_reducible rfl))
                 rotate_left
                 simp only [Act.put,zq0,zq1,zq2,zq3,zq4,zq5]
                 refine wpAnyH_take (i:=7) (v:=?_) rfl (by kernel_rfl) (by kernel_rfl) (by kernel_rfl) (fun _ _ _ h=>h) (Or.inl ⟨by rfl,?_⟩) hS ?_
                 rotate_left
                 · (intro w hSw;(try dsimp only at hSw);go_simp;(try with_reducible rfl))
                 rotate_left
                 simp only [Act.put,zq0,zq1,zq2,zq3,zq4,zq5]
                 refine wpAnyH_take (i:=8) (v:=?_) rfl (by kernel_rfl) (by kernel_rfl) (by kernel_rfl) (fun _ _ _ h=>h) (Or.inl ⟨by rfl,?_⟩) hS ?_
                 rotate_left
                 · (intro w hSw;(try dsimp only at hSw);go_simp;(try with_reducible rfl))
                 rotate_left
                 simp only [Act.put,zq0,zq1,zq2,zq3,zq4,zq5]
                 refine wpAnyH_ready (rs:=[1,9]) (by kernel_rfl) (by simp) ?_
                 refine AllReadyH.cons rfl (fun K hK=>?_) (AllReadyH.cons rfl (fun K hK=>?_) AllReadyH.nil)
                 · rw [if_pos (by rfl)]
                   have yQ:=R9.cell
                   go_simp
                   refine hK.out _ _ (HS.out _ t9 k9) (fun hS'=>?_)
                   clear yQ hK K hS
                   have hS:=hS'
                   clear hS'
                   try simp only [Act.put,zq0,zq1,zq2,zq3,zq4,zq5]
                   refine wpAnyH_ready (rs:=[9]) (by kernel_rfl) (by simp) ?_
                   refine AllReadyH.cons rfl (fun K hK=>?_) AllReadyH.nil
                   rw [if_pos (by rfl)]
                   go_simp
                   have bb:=Ext.alloc (Below.refl vv.heap.size vv) (.cells #[.int .i64 ((zs.length : Int) - 1)] 3)
                   have rd:=rd_row vv #[.int .i64 ((zs.length : Int) - 1)] 3
                   have M10:=own_next M9 bb
                   have R10:=R9.next bb
                   have t10:=Ext.trans t9 bb
                   have k10:=k9.trans (bb.mono (show lo2 ≤ vv.heap.size by have:=HN9.out;omega))
                   have HS10 : Hid (lo2 + 1 ≤ (vv.alloc (.cells #[.int .i64 ((zs.length : Int) - 1)] 3)).heap.size):=Nat.le_trans HN9.out bb.size
                   obtain ⟨g9,hg9⟩ : ∃ z : Nat,z = vv.heap.size:=⟨_,rfl⟩
                   refine hK.out _ _ (HS.out _ t10 k10) (fun hS'=>?_)
                   rw [← hg9] at rd ⊢
                   clear hK K hS bb M9 R9 t9 k9 HN9 hg9
                   have hS:=hS'
                   clear hS'
                   have M9:=M10
                   have R9:=R10
                   have t9:=t10
                   have k9:=k10
                   have HN9:=HS10
                   clear M10 R10 t10 k10 HS10
                   try simp only [Act.put,zq0,zq1,zq2,zq3,zq4,zq5]
                   generalize vv.alloc (.cells #[.int .i64 ((zs.length : Int) - 1)] 3) = v5 at *
                   obtain ⟨vv,hvv⟩ : ∃ z : World,z = v5:=⟨_,rfl⟩
                   subst hvv
                   refine wpAnyH_ready (rs:=[10]) (by kernel_rfl) (by simp) ?_
                   refine AllReadyH.cons rfl (fun K hK=>?_) AllReadyH.nil
                   rw [if_pos (by rfl)]
                   refine wp_append_rd _ (.tmp 72) (.tmp 80) 62 rfl (lo2 + 1) 3 ii _ 1 8 Try.underlying62 hii hi0 hi1 hi2 rfl (by decide) _ j (mkV ys j) rfl M9 (some ⟨g9,0,none⟩) 1 _ [.int .i64 ((zs.length : Int) - 1)] rfl (by simp) rd (by intro u hu;simp at hu;subst hu;rfl) HBY.out.1 HBY.out.2 HN9.out ?_
                   intro v7 w7 M7 g7 k7
                   rw [← HSTK.out] at M7
                   obtain ⟨A7,c7,rfl⟩:=own_form M7
                   have hw9:=HWT.out
                   have hlo:=HLO.out
                   have R7:=R9.grown g7 (fun e=>by have:=own_block M9 e;omega)
                   have t7:=Below.grown t9 g7 t9.size (fun r e=>by have:=own_block M9 e;omega)
                   have kk7:=Below.grown k9 g7 (by have:=HN9.out;omega) (fun r e=>by have:=own_block M9 e;omega)
                   have HN7:=Lib.hid (Nat.le_trans HN9.out g7.size)
                   have R8 : BoxOf _ lo2 #[.int .i64 number,.int .u8 (ki.toNat : Int),.int .i64 a,.int .i64 y,.slice Dn bs.length dn,(.slice A7 (j + 1) c7)] 64:=mbox_self R7 5 (.slice A7 (j + 1) c7)
                   have M8:=own_setLo M7 5 (.slice A7 (j + 1) c7)
                   have t8:=Below.setCell (p:=⟨lo2,5,none⟩) t7 (show w.heap.size ≤ lo2 by omega) (.slice A7 (j + 1) c7)
                   have k8:=Below.setCell (p:=⟨lo2,5,none⟩) kk7 (Nat.le_refl _) (.slice A7 (j + 1) c7)
                   refine hK.out _ _ (HS.out _ t7 kk7) (fun hS'=>?_)
                   clear hK K hS M9 R9 t9 k9 g7 k7 rd hw9 hlo
                   have hS:=hS'
                   clear hS'
                   try simp only [Act.put,zq0,zq1,zq2,zq3,zq4,zq5]
                   refine wpAnyH_take (i:=11) (v:=?_) rfl (by kernel_rfl) (by kernel_rfl) (by kernel_rfl) (fun _ _ _ h=>h) (Or.inl ⟨by rfl,?_⟩) hS ?_
                   rotate_left
                   · (intro w hSw;(try dsimp only at hSw);go_simp;(try with_reducible rfl))
                   rotate_left
                   simp only [Act.put,zq0,zq1,zq2,zq3,zq4,zq5]
                   refine wpAnyH_ready (rs:=[12]) (by kernel_rfl) (by simp) ?_
                   refine AllReadyH.cons rfl (fun K hK=>?_) AllReadyH.nil
                   rw [if_pos (by rfl)]
                   have r7c:=R7.cell
                   have r7f:=R7.free
                   go_simp
                   refine hK.out _ _ (HS.out _ t8 k8) (fun hS'=>?_)
                   clear hK K hS hS' r7c r7f
                   try simp only [Act.put,zq0,zq1,zq2,zq3,zq4,zq5]
                   refine wpAnyH_done (by kernel_rfl) ?_ _
                   have HN8 : Hid (lo2 + 1 ≤ (w7.setCell ⟨lo2,5,none⟩ (.slice A7 (j + 1) c7)).heap.size):=by show _ ≤ _;rw [msize];exact HN7.out
                   have HR8:=Lib.hid R8
                   have HM8:=Lib.hid M8
                   have HT8:=Lib.hid t8
                   have HK8:=Lib.hid k8
                   clear R7 M7 t7 kk7 R8 M8 t8 k8
                   generalize w7.setCell ⟨lo2,5,none⟩ (.slice A7 (j + 1) c7) = wz at *
                   go_wp2
                   go_roundw
                   case rel=>exact ⟨j + 1,_,HLJ.out,by first | exact round_same HWJ | go_num,HT8.out,HK8.out,HR8.out,HM8.out,HN8⟩
                   case measure=>first | exact round_less HWJ HLJ.out | (have h:=HLJ.out;simp [intOf];omega)
                 · rw [if_pos (by rfl)]
                   go_simp
                   have bb:=Ext.alloc (Below.refl vv.heap.size vv) (.cells #[.int .i64 ((zs.length : Int) - 1)] 3)
                   have rd:=rd_row vv #[.int .i64 ((zs.length : Int) - 1)] 3
                   have M10:=own_next M9 bb
                   have R10:=R9.next bb
                   have t10:=Ext.trans t9 bb
                   have k10:=k9.trans (bb.mono (show lo2 ≤ vv.heap.size by have:=HN9.out;omega))
                   have HS10 : Hid (lo2 + 1 ≤ (vv.alloc (.cells #[.int .i64 ((zs.length : Int) - 1)] 3)).heap.size):=Nat.le_trans HN9.out bb.size
                   obtain ⟨g9,hg9⟩ : ∃ z : Nat,z = vv.heap.size:=⟨_,rfl⟩
                   refine hK.out _ _ (HS.out _ t10 k10) (fun hS'=>?_)
                   rw [← hg9] at rd ⊢
                   clear hK K hS bb M9 R9 t9 k9 HN9 hg9
                   have hS:=hS'
                   clear hS'
                   have M9:=M10
                   have R9:=R10
                   have t9:=t10
                   have k9:=k10
                   have HN9:=HS10
                   clear M10 R10 t10 k10 HS10
                   try simp only [Act.put,zq0,zq1,zq2,zq3,zq4,zq5]
                   generalize vv.alloc (.cells #[.int .i64 ((zs.length : Int) - 1)] 3) = v5 at *
                   obtain ⟨vv,hvv⟩ : ∃ z : World,z = v5:=⟨_,rfl⟩
                   subst hvv
                   refine wpAnyH_ready (rs:=[1]) (by kernel_rfl) (by simp) ?_
                   refine AllReadyH.cons rfl (fun K hK=>?_) AllReadyH.nil
                   rw [if_pos (by rfl)]
                   have yQ:=R9.cell
                   go_simp
                   refine hK.out _ _ (HS.out _ t9 k9) (fun hS'=>?_)
                   clear yQ hK K hS
                   have hS:=hS'
                   clear hS'
                   try simp only [Act.put,zq0,zq1,zq2,zq3,zq4,zq5]
                   refine wpAnyH_ready (rs:=[10]) (by kernel_rfl) (by simp) ?_
                   refine AllReadyH.cons rfl (fun K hK=>?_) AllReadyH.nil
                   rw [if_pos (by rfl)]
                   refine wp_append_rd _ (.tmp 72) (.tmp 80) 62 rfl (lo2 + 1) 3 ii _ 1 8 Try.underlying62 hii hi0 hi1 hi2 rfl (by decide) _ j (mkV ys j) rfl M9 (some ⟨g9,0,none⟩) 1 _ [.int .i64 ((zs.length : Int) - 1)] rfl (by simp) rd (by intro u hu;simp at hu;subst hu;rfl) HBY.out.1 HBY.out.2 HN9.out ?_
                   intro v7 w7 M7 g7 k7
                   rw [← HSTK.out] at M7
                   obtain ⟨A7,c7,rfl⟩:=own_form M7
                   have hw9:=HWT.out
                   have hlo:=HLO.out
                   have R7:=R9.grown g7 (fun e=>by have:=own_block M9 e;omega)
                   have t7:=Below.grown t9 g7 t9.size (fun r e=>by have:=own_block M9 e;omega)
                   have kk7:=Below.grown k9 g7 (by have:=HN9.out;omega) (fun r e=>by have:=own_block M9 e;omega)
                   have HN7:=Lib.hid (Nat.le_trans HN9.out g7.size)
                   have R8 : BoxOf _ lo2 #[.int .i64 number,.int .u8 (ki.toNat : Int),.int .i64 a,.int .i64 y,.slice Dn bs.length dn,(.slice A7 (j + 1) c7)] 64:=mbox_self R7 5 (.slice A7 (j + 1) c7)
                   have M8:=own_setLo M7 5 (.slice A7 (j + 1) c7)
                   have t8:=Below.setCell (p:=⟨lo2,5,none⟩) t7 (show w.heap.size ≤ lo2 by omega) (.slice A7 (j + 1) c7)
                   have k8:=Below.setCell (p:=⟨lo2,5,none⟩) kk7 (Nat.le_refl _) (.slice A7 (j + 1) c7)
                   refine hK.out _ _ (HS.out _ t7 kk7) (fun hS'=>?_)
                   clear hK K hS M9 R9 t9 k9 g7 k7 rd hw9 hlo
                   have hS:=hS'
                   clear hS'
                   try simp only [Act.put,zq0,zq1,zq2,zq3,zq4,zq5]
                   refine wpAnyH_take (i:=11) (v:=?_) rfl (by kernel_rfl) (by kernel_rfl) (by kernel_rfl) (fun _ _ _ h=>h) (Or.inl ⟨by rfl,?_⟩) hS ?_
                   rotate_left
                   · (intro w hSw;(try dsimp only at hSw);go_simp;(try with_reducible rfl))
                   rotate_left
                   simp only [Act.put,zq0,zq1,zq2,zq3,zq4,zq5]
                   refine wpAnyH_ready (rs:=[12]) (by kernel_rfl) (by simp) ?_
                   refine AllReadyH.cons rfl (fun K hK=>?_) AllReadyH.nil
                   rw [if_pos (by rfl)]
                   have r7c:=R7.cell
                   have r7f:=R7.free
                   go_simp
                   refine hK.out _ _ (HS.out _ t8 k8) (fun hS'=>?_)
                   clear hK K hS hS' r7c r7f
                   try simp only [Act.put,zq0,zq1,zq2,zq3,zq4,zq5]
                   refine wpAnyH_done (by kernel_rfl) ?_ _
                   have HN8 : Hid (lo2 + 1 ≤ (w7.setCell ⟨lo2,5,none⟩ (.slice A7 (j + 1) c7)).heap.size):=by show _ ≤ _;rw [msize];exact HN7.out
                   have HR8:=Lib.hid R8
                   have HM8:=Lib.hid M8
                   have HT8:=Lib.hid t8
                   have HK8:=Lib.hid k8
                   clear R7 M7 t7 kk7 R8 M8 t8 k8
                   generalize w7.setCell ⟨lo2,5,none⟩ (.slice A7 (j + 1) c7) = wz at *
                   go_wp2
                   go_roundw
                   case rel=>exact ⟨j + 1,_,HLJ.out,by first | exact round_same HWJ | go_num,HT8.out,HK8.out,HR8.out,HM8.out,HN8⟩
                   case measure=>first | exact round_less HWJ HLJ.out | (have h:=HLJ.out;simp [intOf];omega)
               · have hje : j = ys.length:=by omega
                 have t9:=t9'
                 have hw9:=HWT.out
                 have hlo:=HLO.out
                 have T9:=T8.below k9' (show tb < lo2 by omega)
                 have Z9:=Z8.below k9' (show w.heap.size + 3 < lo2 by omega)
                 have O9:=OwnE.frame O8 (fun b hb=>k9'.block b (by have:=hb.2;omega))
                 have G9:=OwnE.frame G8 (fun b hb=>k9'.block b (by have:=hb.2;omega))
                 have R9:=R9'
                 have r9 : RdIn wr (fun b=>Iv lo5 lo2 b ∧ Live wr b) (.sl .byte) bs [.slice Dn bs.length dn]:=(r8.frame (fun b hb=>k9'.block b hb.1.2)).mono fun b hb=>⟨hb.1,by
                     obtain ⟨cs,t,h1⟩:=hb.2
                     exact ⟨cs,t,by rw [k9'.block b hb.1.2];exact h1⟩⟩
                 have MK : MarksO wr (Iv (lo2 + 1) wr.heap.size) 3 vm (lastOf ys):=MarksO.of_own (by rw [lastOf_len,← mkV_all];rw [hje] at M9';exact M9')
                 obtain ⟨Am,cm,rfl⟩:=own_form M9'
                 have HJE:=Lib.hid hje
                 have hnl : decide (j < ys.length) = false:=decide_eq_false hlt
                 have hnl2 : decide ((j : Int) < (ys.length : Int)) = false:=decide_eq_false (by omega)
                 clear hw9 hlo M9' T8 Z8 O8 G8 r8 hje k9' R9' t9' HN9'
                 go_upto_region 16 with fail
                 clear hlt hj p9 q9 P9 Q9 hnl hnl2 hd4
                 have hF1:=HWT.out
                 have hF2:=HLO.out
                 have bA:=Ext.alloc (Below.refl wr.heap.size wr) (.cells #[.int .i64 number,.int .u8 (ki.toNat : Int),.int .i64 a,.int .i64 y,.slice Dn bs.length dn,(.slice Am j cm)] 64)
                 have TA:=T9.next bA
                 have ZA:=Z9.next bA
                 have OA:=O9.next (fun b hb=>by have:=hb.2;have:=R9.lt;omega) bA
                 have GA:=G9.next (fun b hb=>by have:=hb.2;have:=R9.lt;omega) bA
                 have tA:=Ext.trans t9 bA
                 have hR2:=R9.lt
                 have hA2:=bA.size
                 have EA : (goE 3).E (wr.alloc (.cells #[.int .i64 number,.int .u8 (ki.toNat : Int),.int .i64 a,.int .i64 y,.slice Dn bs.length dn,(.slice Am j cm)] 64)) (Iv lo5 (wr.alloc (.cells #[.int .i64 number,.int .u8 (ki.toNat : Int),.int .i64 a,.int .i64 y,.slice Dn bs.length dn,(.slice Am j cm)] 64)).heap.size) (newGo number ki a y bs ys) #[.int .i64 number,.int .u8 (ki.toNat : Int),.int .i64 a,.int .i64 y,.slice Dn bs.length dn,(.slice Am j cm)].toList:=by
                     rw [HMS.out]
                     refine ⟨number,ki,a,y,bs,(lastOf ys),_,_,rfl,rfl,⟨HN.out,HAY.out.1,HAY.out.2⟩,HMI.out.1,HMI.out.2,(r9.below bA).mono (fun b hb=>⟨⟨⟨hb.1.1,by have:=hb.1.2;omega⟩,hb.2.below bA⟩,MK.ne (by have:=hb.1.2;omega)⟩),(MK.frame (fun b hb=>bA.block b hb.2)).mono (fun b hb=>⟨by have:=hb.1;omega,Nat.lt_of_lt_of_le hb.2 hA2⟩)⟩
                 have rdA:=rd_row wr #[.int .i64 number,.int .u8 (ki.toNat : Int),.int .i64 a,.int .i64 y,.slice Dn bs.length dn,(.slice Am j cm)] 64
                 have HBY : Hid (gs.length + 1 ≤ maxLen ∧ (gs.length + 1) * 80 ≤ 140737488355328):=by
                     have h1:=HOK.out.few
                     show _ ∧ _
                     unfold maxLen
                     omega
                 have HTL : Hid (∀ (A : Option Addr) (c : Nat),Value.slice A (gs ++ [newGo number ki a y bs ys]).length c = Value.slice A (gs.length + 1) c):=fun A c=>by
                     rw [List.length_append]
                     rfl
                 have yT:=T9.cell
                 have yR:=R9.cell
                 have hwtb : w.heap.size + 3 < tb:=by omega
                 have HEND:=Lib.hid (And.intro hF1 (And.intro hF2 (And.intro hR2 hA2)))
                 clear hF1 hF2 hA2 bA T9 Z9 O9 G9 t9 r9 R9
                 go_wp2_with (at_builtin;refine wpList_pushE rfl (.tmp 84) (.tmp 86) 26 rfl mm 64 ig _ 80 Try.underlying26 hig hg0 hg1 hg2 rfl (by decide) _ gs (Iv mm tb) (Iv lo5 (wr.alloc (.cells #[.int .i64 number,.int .u8 (ki.toNat : Int),.int .i64 a,.int .i64 y,.slice Dn bs.length dn,(.slice Am j cm)] 64)).heap.size) rfl GA (fun b hb=>by have:=hb.2;have:=HEND.out;omega) (some ⟨wr.heap.size,0,none⟩) 1 _ rfl rdA (newGo number ki a y bs ys) EA (fun b hb=>⟨fun hf=>by have h1:=hf.2;have h2:=hb.1;have:=HEND.out;omega,hb.2⟩) HBY.out.1 HBY.out.2 (by have:=HEND.out;omega) ?_;intro v7 w7 O7 g7 k7;obtain ⟨A10,c10,e10⟩:=O7.slice;have e11:=e10.trans (HTL.out A10 c10);subst e11;have hE:=HEND.out;have TB:=TA.grown g7 (fun e=>absurd (HGL.out _ e) (Nat.lt_irrefl _));have ZB:=ZA.grown g7 (fun e=>by have:=k7 _ e;omega);have tB:=Below.grown tA g7 tA.size (fun r e=>by have:=k7 r e;omega);have OB:=OwnE.frame OA (fun b hb=>g7.block b (by have:=hb.2;omega) (fun e=>by have h1:=k7 _ e.symm;have:=hb.2;omega));have HGB:=Lib.hid O7;have HNE:=Lib.hid (O7.box_ne TB (by decide));have yB:=TB.cell;have fB:=TB.free;have zB:=ZB.cell;have zf:=ZB.free;clear yT yR TA ZA tA OA GA EA rdA g7 k7 O7 e10 hE)
                 have hE:=HEND.out
                 have B5 : BoxOf _ (w.heap.size + 3) #[.slice Ay ys.length cy,.slice A10 (gs.length + 1) c10] 28:=mbox_self (mbox_self (mbox_else ZB (show w.heap.size + 3 ≠ tb by omega) 1 (.slice A10 (gs.length + 1) c10)) 0 (.slice Ay ys.length cy)) 1 (.slice A10 (gs.length + 1) c10)
                 have T5:=Below.setCell (p:=⟨w.heap.size + 3,1,none⟩) (Below.setCell (p:=⟨w.heap.size + 3,0,none⟩) (Below.setCell (p:=⟨tb,1,none⟩) tB (show w.heap.size ≤ tb by omega) (.slice A10 (gs.length + 1) c10)) (show w.heap.size ≤ w.heap.size + 3 by omega) (.slice Ay ys.length cy)) (show w.heap.size ≤ w.heap.size + 3 by omega) (.slice A10 (gs.length + 1) c10)
                 have OF:=OwnE.setElse (k:=w.heap.size + 3) (OwnE.setElse (k:=w.heap.size + 3) (OwnE.setElse (k:=tb) OB (fun h=>by have:=h.2;omega) 1 (.slice A10 (gs.length + 1) c10)) (fun h=>by have:=h.1;omega) 0 (.slice Ay ys.length cy)) (fun h=>by have:=h.1;omega) 1 (.slice A10 (gs.length + 1) c10)
                 have hn4 : ¬ (fun b=>Iv mm tb b ∨ Iv lo5 (wr.alloc (.cells #[.int .i64 number,.int .u8 (ki.toNat : Int),.int .i64 a,.int .i64 y,.slice Dn bs.length dn,(.slice Am j cm)] 64)).heap.size b ∨ (Value.slice A10 (gs.length + 1) c10).ownBlock = some b) (w.heap.size + 3):=fun h=>by
                     rcases h with h | h | h
                     · have:=h.1;omega
                     · have:=h.1;omega
                     · have:=HGB.out.base_le _ h;omega
                 have GF:=OwnE.setElse (k:=w.heap.size + 3) (OwnE.setElse (k:=w.heap.size + 3) (OwnE.setElse (k:=tb) HGB.out (fun h=>by
                     rcases h with h | h | h
                     · have:=h.2;omega
                     · have:=h.1;omega
                     · exact HNE.out h) 1 (.slice A10 (gs.length + 1) c10)) hn4 0 (.slice Ay ys.length cy)) hn4 1 (.slice A10 (gs.length + 1) c10)
                 have RY:=(OF.may_rd hyz.out).mono (S':=NewB w.heap.size (((w7.setCell ⟨tb,1,none⟩ (.slice A10 (gs.length + 1) c10)).setCell ⟨w.heap.size + 3,0,none⟩ (.slice Ay ys.length cy)).setCell ⟨w.heap.size + 3,1,none⟩ (.slice A10 (gs.length + 1) c10))) (fun b hb=>⟨by have:=hb.1.1;omega,hb.2.lt,hb.2⟩)
                 have RG:=(GF.go_rd (by rw [List.length_append];exact HBY.out.2)).mono (S':=NewB w.heap.size (((w7.setCell ⟨tb,1,none⟩ (.slice A10 (gs.length + 1) c10)).setCell ⟨w.heap.size + 3,0,none⟩ (.slice Ay ys.length cy)).setCell ⟨w.heap.size + 3,1,none⟩ (.slice A10 (gs.length + 1) c10))) (fun b hb=>⟨by
                     rcases hb.1 with h | h | h
                     · have:=h.1;omega
                     · have:=h.1;omega
                     · have:=HGB.out.base_le _ h;omega,hb.2.lt,hb.2⟩)
                 exact bodyPost_ret (v:=.tuple #[.agg #[.slice Ay ys.length cy,.slice A10 (gs.length + 1) c10],.int .i64 0]) (Eq.trans (results_row2 (P:=Try.prog) (fn:=Try.f31) (p:=8) (u:=9) (ty:=28) rfl _ _ (w.heap.size + 3) 28 #[.slice Ay ys.length cy,.slice A10 (gs.length + 1) c10] (0,0) _ rfl B5 Try.underlying28 rfl (by kernel_rfl)) rfl) rfl ⟨⟨0,ys,gs ++ [newGo number ki a y bs ys],Ay,cy,A10,c10,by rw [HTL.out A10 c10],.inr (.inr (.inr (.inr ⟨HOK.out,HC0.out,HNO.out,HL.out,rfl,rfl,rfl⟩))),RY,by rw [HTL.out A10 c10];exact RG⟩,T5⟩
            · have hk4 : ¬ ki = 4:=fun h=>by
               subst h
               simp at e4
              have HMS : Hid (newGo number ki a y bs ys = (number,(ki,a,y,bs,()),[],())):=by
               have h1 : mkOf ki ys = []:=if_neg hk4
               exact congrArg (fun z : List Int=>(show GoTy.T from (number,(ki,a,y,bs,()),z,()))) h1
              have HMI : Hid ((∀ x ∈ ([] : List Int),IsInt x) ∧ ([] : List Int).length * 8 ≤ 140737488355328):=⟨by simp,by simp⟩
              have hd4 : decide ((ki.toNat : Int) = 4) = false:=by rw [decide_eq_false_iff_not];simpa using e4
              have MK : MarksO W8 (Iv (lo2 + 1) W8.heap.size) 3 (.slice none 0 0) []:=.inl ⟨rfl,none,0,rfl,by unfold maxLen;omega⟩
              clear hk4
              go_wp2
              go_loopw [13] (fun i wr=>i = .int .i64 0 ∧ wr = W8) (fun i _=>0)
              case atStart=>exact ⟨rfl,rfl⟩
              case round=>
               obtain ⟨rfl,hw⟩:=hrel
               subst hw
               go_upto_region 16 with fail
               clear q8 p8 e4 hd4 hyp hypn
               have hF1:=HWT.out
               have hF2:=HLO.out
               have bA:=Ext.alloc (Below.refl wr.heap.size wr) (.cells #[.int .i64 number,.int .u8 (ki.toNat : Int),.int .i64 a,.int .i64 y,.slice Dn bs.length dn,(.slice none 0 0)] 64)
               have TA:=T8.next bA
               have ZA:=Z8.next bA
               have OA:=O8.next (fun b hb=>by have:=hb.2;have:=R8.lt;omega) bA
               have GA:=G8.next (fun b hb=>by have:=hb.2;have:=R8.lt;omega) bA
               have tA:=Ext.trans t8 bA
               have hR2:=R8.lt
               have hA2:=bA.size
               have EA : (goE 3).E (wr.alloc (.cells #[.int .i64 number,.int .u8 (ki.toNat : Int),.int .i64 a,.int .i64 y,.slice Dn bs.length dn,(.slice none 0 0)] 64)) (Iv lo5 (wr.alloc (.cells #[.int .i64 number,.int .u8 (ki.toNat : Int),.int .i64 a,.int .i64 y,.slice Dn bs.length dn,(.slice none 0 0)] 64)).heap.size) (newGo number ki a y bs ys) #[.int .i64 number,.int .u8 (ki.toNat : Int),.int .i64 a,.int .i64 y,.slice Dn bs.length dn,(.slice none 0 0)].toList:=by
                    rw [HMS.out]
                    refine ⟨number,ki,a,y,bs,[],_,_,rfl,rfl,⟨HN.out,HAY.out.1,HAY.out.2⟩,HMI.out.1,HMI.out.2,(r8.below bA).mono (fun b hb=>⟨⟨⟨hb.1.1,by have:=hb.1.2;omega⟩,hb.2.below bA⟩,MK.ne (by have:=hb.1.2;omega)⟩),(MK.frame (fun b hb=>bA.block b hb.2)).mono (fun b hb=>⟨by have:=hb.1;omega,Nat.lt_of_lt_of_le hb.2 hA2⟩)⟩
               have rdA:=rd_row wr #[.int .i64 number,.int .u8 (ki.toNat : Int),.int .i64 a,.int .i64 y,.slice Dn bs.length dn,(.slice none 0 0)] 64
               have HBY : Hid (gs.length + 1 ≤ maxLen ∧ (gs.length + 1) * 80 ≤ 140737488355328):=by
                    have h1:=HOK.out.few
                    show _ ∧ _
                    unfold maxLen
                    omega
               have HTL : Hid (∀ (A : Option Addr) (c : Nat),Value.slice A (gs ++ [newGo number ki a y bs ys]).length c = Value.slice A (gs.length + 1) c):=fun A c=>by
                    rw [List.length_append]
                    rfl
               have yT:=T8.cell
               have yR:=R8.cell
               have hwtb : w.heap.size + 3 < tb:=by omega
               have HEND:=Lib.hid (And.intro hF1 (And.intro hF2 (And.intro hR2 hA2)))
               clear hF1 hF2 hA2 bA T8 Z8 O8 G8 t8 r8 R8
               go_wp2_with (at_builtin;refine wpList_pushE rfl (.tmp 84) (.tmp 86) 26 rfl mm 64 ig _ 80 Try.underlying26 hig hg0 hg1 hg2 rfl (by decide) _ gs (Iv mm tb) (Iv lo5 (wr.alloc (.cells #[.int .i64 number,.int .u8 (ki.toNat : Int),.int .i64 a,.int .i64 y,.slice Dn bs.length dn,(.slice none 0 0)] 64)).heap.size) rfl GA (fun b hb=>by have:=hb.2;have:=HEND.out;omega) (some ⟨wr.heap.size,0,none⟩) 1 _ rfl rdA (newGo number ki a y bs ys) EA (fun b hb=>⟨fun hf=>by have h1:=hf.2;have h2:=hb.1;have:=HEND.out;omega,hb.2⟩) HBY.out.1 HBY.out.2 (by have:=HEND.out;omega) ?_;intro v7 w7 O7 g7 k7;obtain ⟨A10,c10,e10⟩:=O7.slice;have e11:=e10.trans (HTL.out A10 c10);subst e11;have hE:=HEND.out;have TB:=TA.grown g7 (fun e=>absurd (HGL.out _ e) (Nat.lt_irrefl _));have ZB:=ZA.grown g7 (fun e=>by have:=k7 _ e;omega);have tB:=Below.grown tA g7 tA.size (fun r e=>by have:=k7 r e;omega);have OB:=OwnE.frame OA (fun b hb=>g7.block b (by have:=hb.2;omega) (fun e=>by have h1:=k7 _ e.symm;have:=hb.2;omega));have HGB:=Lib.hid O7;have HNE:=Lib.hid (O7.box_ne TB (by decide));have yB:=TB.cell;have fB:=TB.free;have zB:=ZB.cell;have zf:=ZB.free;clear yT yR TA ZA tA OA GA EA rdA g7 k7 O7 e10 hE)
               have hE:=HEND.out
               have B5 : BoxOf _ (w.heap.size + 3) #[.slice Ay ys.length cy,.slice A10 (gs.length + 1) c10] 28:=mbox_self (mbox_self (mbox_else ZB (show w.heap.size + 3 ≠ tb by omega) 1 (.slice A10 (gs.length + 1) c10)) 0 (.slice Ay ys.length cy)) 1 (.slice A10 (gs.length + 1) c10)
               have T5:=Below.setCell (p:=⟨w.heap.size + 3,1,none⟩) (Below.setCell (p:=⟨w.heap.size + 3,0,none⟩) (Below.setCell (p:=⟨tb,1,none⟩) tB (show w.heap.size ≤ tb by omega) (.slice A10 (gs.length + 1) c10)) (show w.heap.size ≤ w.heap.size + 3 by omega) (.slice Ay ys.length cy)) (show w.heap.size ≤ w.heap.size + 3 by omega) (.slice A10 (gs.length + 1) c10)
               have OF:=OwnE.setElse (k:=w.heap.size + 3) (OwnE.setElse (k:=w.heap.size + 3) (OwnE.setElse (k:=tb) OB (fun h=>by have:=h.2;omega) 1 (.slice A10 (gs.length + 1) c10)) (fun h=>by have:=h.1;omega) 0 (.slice Ay ys.length cy)) (fun h=>by have:=h.1;omega) 1 (.slice A10 (gs.length + 1) c10)
               have hn4 : ¬ (fun b=>Iv mm tb b ∨ Iv lo5 (wr.alloc (.cells #[.int .i64 number,.int .u8 (ki.toNat : Int),.int .i64 a,.int .i64 y,.slice Dn bs.length dn,(.slice none 0 0)] 64)).heap.size b ∨ (Value.slice A10 (gs.length + 1) c10).ownBlock = some b) (w.heap.size + 3):=fun h=>by
                    rcases h with h | h | h
                    · have:=h.1;omega
                    · have:=h.1;omega
                    · have:=HGB.out.base_le _ h;omega
               have GF:=OwnE.setElse (k:=w.heap.size + 3) (OwnE.setElse (k:=w.heap.size + 3) (OwnE.setElse (k:=tb) HGB.out (fun h=>by
                    rcases h with h | h | h
                    · have:=h.2;omega
                    · have:=h.1;omega
                    · exact HNE.out h) 1 (.slice A10 (gs.length + 1) c10)) hn4 0 (.slice Ay ys.length cy)) hn4 1 (.slice A10 (gs.length + 1) c10)
               have RY:=(OF.may_rd hyz.out).mono (S':=NewB w.heap.size (((w7.setCell ⟨tb,1,none⟩ (.slice A10 (gs.length + 1) c10)).setCell ⟨w.heap.size + 3,0,none⟩ (.slice Ay ys.length cy)).setCell ⟨w.heap.size + 3,1,none⟩ (.slice A10 (gs.length + 1) c10))) (fun b hb=>⟨by have:=hb.1.1;omega,hb.2.lt,hb.2⟩)
               have RG:=(GF.go_rd (by rw [List.length_append];exact HBY.out.2)).mono (S':=NewB w.heap.size (((w7.setCell ⟨tb,1,none⟩ (.slice A10 (gs.length + 1) c10)).setCell ⟨w.heap.size + 3,0,none⟩ (.slice Ay ys.length cy)).setCell ⟨w.heap.size + 3,1,none⟩ (.slice A10 (gs.length + 1) c10))) (fun b hb=>⟨by
                    rcases hb.1 with h | h | h
                    · have:=h.1;omega
                    · have:=h.1;omega
                    · have:=HGB.out.base_le _ h;omega,hb.2.lt,hb.2⟩)
               exact bodyPost_ret (v:=.tuple #[.agg #[.slice Ay ys.length cy,.slice A10 (gs.length + 1) c10],.int .i64 0]) (Eq.trans (results_row2 (P:=Try.prog) (fn:=Try.f31) (p:=8) (u:=9) (ty:=28) rfl _ _ (w.heap.size + 3) 28 #[.slice Ay ys.length cy,.slice A10 (gs.length + 1) c10] (0,0) _ rfl B5 Try.underlying28 rfl (by kernel_rfl)) rfl) rfl ⟨⟨0,ys,gs ++ [newGo number ki a y bs ys],Ay,cy,A10,c10,by rw [HTL.out A10 c10],.inr (.inr (.inr (.inr ⟨HOK.out,HC0.out,HNO.out,HL.out,rfl,rfl,rfl⟩))),RY,by rw [HTL.out A10 c10];exact RG⟩,T5⟩
   · have HC0:=Lib.hid hc
     have e1 : (askCode ⟨id,m,c,r,l,h⟩ (ki.toNat : Int) a y bs.length != 0) = true:=by simpa using hc
     generalize hE : askCode ⟨id,m,c,r,l,h⟩ (ki.toNat : Int) a y bs.length = E at *
     have HE:=Lib.hid hE
     clear hE hc
     go_wp2
     have f9:=(Z2).free
     have B5 : BoxOf _ (w.heap.size + 3) #[.slice none 0 0,.slice none 0 0] 28:=mbox_self (mbox_self Z2 0 (.slice none 0 0)) 1 (.slice none 0 0)
     have T5:=Below.setCell (p:=⟨w.heap.size + 3,1,none⟩) (Below.setCell (p:=⟨w.heap.size + 3,0,none⟩) t2 (show w.heap.size ≤ w.heap.size + 3 by omega) (.slice none 0 0)) (show w.heap.size ≤ w.heap.size + 3 by omega) (.slice none 0 0)
     exact bodyPost_ret (v:=.tuple #[.agg #[.slice none 0 0,.slice none 0 0],.int .i64 (E)]) (Eq.trans (results_row2 (P:=Try.prog) (fn:=Try.f31) (p:=8) (u:=9) (ty:=28) rfl _ _ (w.heap.size + 3) 28 #[.slice none 0 0,.slice none 0 0] (0,0) _ rfl B5 Try.underlying28 rfl (by kernel_rfl)) rfl) rfl ⟨BegIs.err (.inr (.inl ⟨HOK.out,by rw [HE.out];exact HC0.out,HE.out.symm,rfl,rfl⟩)),T5⟩
end Go.Proofs.Ytclbihcggjjgaaa
namespace Go.Proofs.Ytclbihcggjjgaaa
open Go Go.RowKit
set_option linter.unusedSimpArgs false
set_option linter.unusedVariables false
set_option maxRecDepth 100000 in
set_option maxHeartbeats 4000000 in
theorem rnew_any (x : Cfg) (w : World) : Calls Try.prog 30 #[x.val] w fun e w'=>NewIs w.heap.size x e w' ∧ Below w.heap.size w w':=by
 obtain ⟨il,hil,hl0,hl1,hl2⟩:=minfo_lists
 obtain ⟨iu,hu,hu0,hu1,hu2⟩:=minfo_u8
 by_cases hx : x.Ok
 · have HB : Hid (∀ w',Calls Try.prog 63 #[x.val] w' fun e w''=>e = .returned (.int .i64 (x.c * x.r * (x.m - 1))) ∧ Below w'.heap.size w' w''):=fun w'=>rblocks_ok x hx w'
   have HM : Hid (∀ w',Calls Try.prog 62 #[x.val] w' fun e w''=>e = .returned (.bool true) ∧ Below w'.heap.size w' w''):=fun w'=>may_yes x hx w'
   have HX:=Lib.hid hx
   have hcr:=Cfg.crm hx
   obtain ⟨N,hN⟩ : ∃ n : Nat,x.c * x.r * (x.m - 1) = (n : Int):=⟨(x.c * x.r * (x.m - 1)).toNat,by omega⟩
   have hN9 : N ≤ 1000:=by omega
   have HNN : Hid ((x.c * x.r * (x.m - 1)).toNat = N):=by show _ = _;omega
   rw [hN] at HB
   clear hcr hN hx
   obtain ⟨id,m,c,r,l,h⟩:=x
   unfold Cfg.val at *
   dsimp only at *
   have C0:=BoxOf.alloc (BoxOf.new w #[.int .u32 (id : Int),.int .i64 m,.int .i64 c,.int .i64 r,.int .i64 l,.int .i64 h] 24) (.cells #[.slice none 0 0,.slice none 0 0] 28)
   have Z0:=BoxOf.new' (w.alloc (.cells #[.int .u32 (id : Int),.int .i64 m,.int .i64 c,.int .i64 r,.int .i64 l,.int .i64 h] 24)) (w.heap.size + 1) #[.slice none 0 0,.slice none 0 0] 28 (by simp)
   have t0:=Ext.alloc (Ext.alloc (Below.refl w.heap.size w) (.cells #[.int .u32 (id : Int),.int .i64 m,.int .i64 c,.int .i64 r,.int .i64 l,.int .i64 h] 24)) (.cells #[.slice none 0 0,.slice none 0 0] 28)
   go_enter Try.func30,Try.ntmps30
   go_upto_region 1 with fail
   generalize (w.alloc (.cells #[.int .u32 (id : Int),.int .i64 m,.int .i64 c,.int .i64 r,.int .i64 l,.int .i64 h] 24)).alloc (.cells #[.slice none 0 0,.slice none 0 0] 28) = W at *
   have x0:=C0.cell
   go_wp2_with fail
   refine (HM.out _).mono ?_
   rintro e w1 ⟨rfl,b1⟩
   have bz:=Ext.alloc (Below.refl w1.heap.size w1) (.cells #[.slice none 0 0,.slice none 0 0] 28)
   have Z1:=BoxOf.new w1 #[.slice none 0 0,.slice none 0 0] 28
   have C1:=(C0.next b1).next bz
   have Q1:=(Z0.next b1).next bz
   have t1:=Ext.trans (Ext.trans t0 b1) bz
   have HPZ : Hid (w.heap.size + 1 < w1.heap.size):=(Z0.next b1).lt
   clear x0 C0 Z0 t0 b1 bz
   go_upto_region 4 with fail
   obtain ⟨pz,hpz⟩ : ∃ z : Nat,z = w1.heap.size:=⟨_,rfl⟩
   rw [← hpz] at Z1 HPZ ⊢
   clear hpz
   generalize w1.alloc (.cells #[.slice none 0 0,.slice none 0 0] 28) = w2 at *
   obtain ⟨base,hbase⟩ : ∃ z : Nat,z = pz + 1:=⟨_,rfl⟩
   have hb2 : base ≤ w2.heap.size:=by have:=Z1.lt;omega
   have HBS:=Lib.hid hbase
   have HB2:=Lib.hid hb2
   clear hbase hb2
   go_wp2
   go_loopw [5] (fun i wr=>∃ (j : Nat) (v : Value),j ≤ N ∧ i = .int .i64 j ∧ Below w.heap.size w wr ∧ BoxOf wr w.heap.size #[.int .u32 (id : Int),.int .i64 m,.int .i64 c,.int .i64 r,.int .i64 l,.int .i64 h] 24 ∧ BoxOf wr (w.heap.size + 1) #[.slice none 0 0,.slice none 0 0] 28 ∧ BoxOf wr pz #[v,.slice none 0 0] 28 ∧ OwnL wr base 30 (.sl (.sl .byte)) v (nulls j) ∧ Hid (base ≤ wr.heap.size)) (fun i _=>N - (intOf i).toNat)
   case atStart=>exact ⟨0,.slice none 0 0,by omega,rfl,t1,C1,Q1,Z1,OwnL.nil _ _ _ _,HB2⟩
   case round=>
    obtain ⟨j,v,hj,rfl,t3,P4,Q4,Z4,O4,HB4⟩:=hrel
    clear t1 C1 Z1 Q1
    have x4:=P4.cell
    go_wp2_with fail
    refine (HB.out _).mono ?_
    rintro e wk ⟨rfl,bk⟩
    have t3':=Ext.trans t3 bk
    have P4':=P4.next bk
    have Q4':=Q4.next bk
    have Z4':=Z4.next bk
    have O4':=O4.next bk
    have HB4' : Hid (base ≤ wk.heap.size):=Nat.le_trans HB4.out bk.size
    clear x4 t3 P4 Q4 Z4 O4 HB4 bk
    have t3:=t3'
    have P4:=P4'
    have Q4:=Q4'
    have Z4:=Z4'
    have O4:=O4'
    have HB4:=HB4'
    clear t3' P4' Q4' Z4' O4' HB4'
    by_cases hlt : j < N
    · have HWJ:=next_wrap (show N ≤ maxLen by unfold maxLen;omega) hlt
      have HLJ:=Lib.hid hlt
      have HBY : Hid ((nulls j).length + 1 ≤ maxLen ∧ ((nulls j).length + 1) * 24 ≤ 140737488355328):=by
       show _ ∧ _
       rw [nulls_len]
       unfold maxLen
       omega
      have HTL : Hid (∀ (A : Option Addr) (c : Nat),Value.slice A ((nulls j) ++ [[zeros]]).length c = Value.slice A (j + 1) c):=fun A c=>by
       rw [List.length_append,nulls_len]
       rfl
      go_upto_region 7 with fail
      have P5:=P4.drew
      have Z5:=Z4.drew
      have Q5:=Q4.drew
      have O5:=O4.next (Ext.drew (Below.refl wk.heap.size wk))
      have t5:=Ext.drew t3
      have n5 : base ≤ wk.drew.heap.size:=HB4.out
      refine wp_region_held_drew (S:=fun w'=>BoxOf w' w.heap.size #[.int .u32 (id : Int),.int .i64 m,.int .i64 c,.int .i64 r,.int .i64 l,.int .i64 h] 24) (by kernel_rfl) P5 (fun hS=>?_)
      clear P4 Z4 Q4 O4 t3
      generalize wk.drew = wd at *
      refine wpAnyH_take (i:=0) (v:=?_) rfl (by kernel_rfl) (by kernel_rfl) (by kernel_rfl) (fun _ _ _ h=>h) (Or.inl ⟨by rfl,?_⟩) hS ?_
      rotate_left
      · (intro w hSw;(try dsimp only at hSw);go_simp;(try with_reducible rfl))
      rotate_left
      simp only [Act.put,zq0,zq1,zq2,zq3,zq4,zq5]
      refine wpAnyH_ready (rs:=[1,2]) (by kernel_rfl) (by simp) ?_
      refine AllReadyH.cons rfl (fun K hK=>?_) (AllReadyH.cons rfl (fun K hK=>?_) AllReadyH.nil)
      · rw [if_pos (by rfl)]
        have yQ:=Z5.cell
        go_simp
        refine hK.out _ _ P5 (fun hS'=>?_)
        clear yQ hK K hS
        have hS:=hS'
        clear hS'
        try simp only [Act.put,zq0,zq1,zq2,zq3,zq4,zq5]
        refine wpAnyH_ready (rs:=[2]) (by kernel_rfl) (by simp) ?_
        refine AllReadyH.cons rfl (fun K hK=>?_) AllReadyH.nil
        rw [if_pos (by rfl)]
        refine wp_make_full wd (.const (.int .i64 128)) (.const (.int .i64 128)) 29 rfl wd.heap.size 5 iu (.int .u8 0) 1 Try.underlying29 hu hu0 hu1 .i64 .i64 128 128 128 rfl rfl rfl rfl (by rw [hu2];omega) (by unfold maxLen;omega) (Nat.le_refl _) ?_
        intro v5 own5 g5
        rw [made_zeros] at own5
        have bb:=Ext.grown (Below.refl _ _) g5 (by simp)
        have r6:=Own.rdin own5 (show zeros.length = 128 from rfl)
        have F6:=own_apart r6 (OwnL.lt O5) n5
        obtain ⟨g6,hg6⟩ : ∃ z : Nat,z = wd.heap.size:=⟨_,rfl⟩
        rw [← hg6] at F6
        clear r6 own5 g5
        have P9:=P5.next bb
        have Z9:=Z5.next bb
        have Q9:=Q5.next bb
        have O9:=O5.next bb
        have t9:=Ext.trans t5 bb
        have n9:=Nat.le_trans n5 bb.size
        refine hK.out _ _ P9 (fun hS'=>?_)
        clear P5 Z5 Q5 O5 t5 n5 hK K hS
        have P5:=P9
        have Z5:=Z9
        have Q5:=Q9
        have O5:=O9
        have t5:=t9
        have n5:=n9
        have hS:=hS'
        clear hS' P9 Z9 Q9 O9 t9 n9
        try simp only [Act.put,zq0,zq1,zq2,zq3,zq4,zq5]
        clear bb
        rw [← hg6]
        clear hg6
        refine wpAnyH_ready (rs:=[3]) (by kernel_rfl) (by simp) ?_
        refine AllReadyH.cons rfl (fun K hK=>?_) AllReadyH.nil
        rw [if_pos (by rfl)]
        go_simp
        have bb:=Ext.alloc (Below.refl v5.heap.size v5) (.cells #[.slice (some ⟨g6,0,none⟩) 128 128] 29)
        have F7:=one_list (OwnL.lt O5) n5 F6 29
        clear F6
        obtain ⟨g7,hg7⟩ : ∃ z : Nat,z = v5.heap.size:=⟨_,rfl⟩
        rw [← hg7] at F7
        have P9:=P5.next bb
        have Z9:=Z5.next bb
        have Q9:=Q5.next bb
        have O9:=O5.next bb
        have t9:=Ext.trans t5 bb
        have n9:=Nat.le_trans n5 bb.size
        refine hK.out _ _ P9 (fun hS'=>?_)
        clear P5 Z5 Q5 O5 t5 n5 hK K hS
        have P5:=P9
        have Z5:=Z9
        have Q5:=Q9
        have O5:=O9
        have t5:=t9
        have n5:=n9
        have hS:=hS'
        clear hS' P9 Z9 Q9 O9 t9 n9
        try simp only [Act.put,zq0,zq1,zq2,zq3,zq4,zq5]
        clear bb
        rw [← hg7]
        clear hg7
        generalize v5.alloc (.cells #[.slice (some ⟨g6,0,none⟩) 128 128] 29) = v7 at *
        refine wpAnyH_ready (rs:=[4]) (by kernel_rfl) (by simp) ?_
        refine AllReadyH.cons rfl (fun K hK=>?_) AllReadyH.nil
        rw [if_pos (by rfl)]
        go_simp
        have bb:=Ext.alloc (Below.refl v7.heap.size v7) (.cells #[.slice (some ⟨g7,0,none⟩) 1 1] 30)
        have rd8:=rd_row v7 #[.slice (some ⟨g7,0,none⟩) 1 1] 30
        have F8:=(F7.below bb).mono (fun b hb=>Fresh.next hb bb)
        clear F7
        obtain ⟨g8,hg8⟩ : ∃ z : Nat,z = v7.heap.size:=⟨_,rfl⟩
        rw [← hg8] at rd8
        have P9:=P5.next bb
        have Z9:=Z5.next bb
        have Q9:=Q5.next bb
        have O9:=O5.next bb
        have t9:=Ext.trans t5 bb
        have n9:=Nat.le_trans n5 bb.size
        refine hK.out _ _ P9 (fun hS'=>?_)
        clear P5 Z5 Q5 O5 t5 n5 hK K hS
        have P5:=P9
        have Z5:=Z9
        have Q5:=Q9
        have O5:=O9
        have t5:=t9
        have n5:=n9
        have hS:=hS'
        clear hS' P9 Z9 Q9 O9 t9 n9
        try simp only [Act.put,zq0,zq1,zq2,zq3,zq4,zq5]
        clear bb
        rw [← hg8]
        clear hg8
        generalize v7.alloc (.cells #[.slice (some ⟨g7,0,none⟩) 1 1] 30) = v8 at *
        refine wpAnyH_ready (rs:=[5]) (by kernel_rfl) (by simp) ?_
        refine AllReadyH.cons rfl (fun K hK=>?_) AllReadyH.nil
        rw [if_pos (by rfl)]
        refine wp_push (.tmp 17) (.tmp 20) 25 rfl base 30 il _ 24 (.sl (.sl .byte)) Try.underlying25 hil hl0 hl1 hl2 rfl (by decide) v (nulls j) rfl O5 (some ⟨g8,0,none⟩) 1 _ rfl rd8 _ F8 HBY.out.1 HBY.out.2 n5 ?_
        intro u9 w9 O9 gr9 k9
        have hb3:=HBS.out
        have P9:=P5.grown gr9 (fun e=>by have:=k9 _ e;have:=HPZ.out;omega)
        have Z9:=Z5.grown gr9 (fun e=>by have:=k9 _ e;omega)
        have Q9:=Q5.grown gr9 (fun e=>by have:=k9 _ e;have:=HPZ.out;omega)
        have t9:=Below.grown t5 gr9 t5.size (fun r e=>by have:=k9 r e;have:=HPZ.out;omega)
        have n9:=Nat.le_trans n5 gr9.size
        refine hK.out _ _ P9 (fun hS'=>?_)
        clear P5 Z5 Q5 O5 t5 n5 k9 gr9 F8 rd8 hK K hS
        have hS:=hS'
        clear hS'
        obtain ⟨A10,c10,e10⟩:=OwnL.slice O9
        have e11:=e10.trans (HTL.out A10 c10)
        clear e10
        subst e11
        try simp only [Act.put,zq0,zq1,zq2,zq3,zq4,zq5]
        refine wpAnyH_take (i:=6) (v:=?_) rfl (by kernel_rfl) (by kernel_rfl) (by kernel_rfl) (fun _ _ _ h=>h) (Or.inl ⟨by rfl,?_⟩) hS ?_
        rotate_left
        · (intro w hSw;(try dsimp only at hSw);go_simp;(try with_reducible rfl))
        rotate_left
        simp only [Act.put,zq0,zq1,zq2,zq3,zq4,zq5]
        refine wpAnyH_ready (rs:=[7]) (by kernel_rfl) (by simp) ?_
        refine AllReadyH.cons rfl (fun K hK=>?_) AllReadyH.nil
        rw [if_pos (by rfl)]
        have fQ:=Z9.free
        have yQ:=Z9.cell
        go_simp
        clear fQ yQ
        have Z10 : BoxOf _ pz #[.slice A10 (j + 1) c10,.slice none 0 0] 28:=mbox_self Z9 0 (.slice A10 (j + 1) c10)
        have Q10:=mbox_else Q9 (show w.heap.size + 1 ≠ pz by have:=HPZ.out;omega) 0 (.slice A10 (j + 1) c10)
        have P10:=mbox_else P9 (show w.heap.size ≠ pz by have:=HPZ.out;omega) 0 (.slice A10 (j + 1) c10)
        have O10:=OwnL.setElse (k:=pz) (OwnL.cast (nulls_step j).symm O9) (by omega) 0 (.slice A10 (j + 1) c10)
        have t10:=Below.setCell (p:=⟨pz,0,none⟩) t9 (show w.heap.size ≤ pz by have:=HPZ.out;omega) (.slice A10 (j + 1) c10)
        refine hK.out _ _ P10 (fun hS'=>?_)
        clear hK K hS hS' Z9 P9 Q9 O9 t9
        try simp only [Act.put,zq0,zq1,zq2,zq3,zq4,zq5]
        refine wpAnyH_done (by kernel_rfl) ?_ _
        have HN9 : Hid (base ≤ w9.heap.size):=n9
        have LJ:=HLJ.out
        clear n9 hb3
        go_wp2
        go_roundw
        case rel=>exact ⟨j + 1,_,LJ,by first | exact round_same HWJ | go_num,t10,P10,Q10,Z10,O10,(show Hid (base ≤ _) from by show base ≤ _;rw [msize];exact HN9.out)⟩
        case measure=>first | exact round_less HWJ LJ | (have h:=LJ;simp [intOf];omega)
      · rw [if_pos (by rfl)]
        refine wp_make_full wd (.const (.int .i64 128)) (.const (.int .i64 128)) 29 rfl wd.heap.size 5 iu (.int .u8 0) 1 Try.underlying29 hu hu0 hu1 .i64 .i64 128 128 128 rfl rfl rfl rfl (by rw [hu2];omega) (by unfold maxLen;omega) (Nat.le_refl _) ?_
        intro v5 own5 g5
        rw [made_zeros] at own5
        have bb:=Ext.grown (Below.refl _ _) g5 (by simp)
        have r6:=Own.rdin own5 (show zeros.length = 128 from rfl)
        have F6:=own_apart r6 (OwnL.lt O5) n5
        obtain ⟨g6,hg6⟩ : ∃ z : Nat,z = wd.heap.size:=⟨_,rfl⟩
        rw [← hg6] at F6
        clear r6 own5 g5
        have P9:=P5.next bb
        have Z9:=Z5.next bb
        have Q9:=Q5.next bb
        have O9:=O5.next bb
        have t9:=Ext.trans t5 bb
        have n9:=Nat.le_trans n5 bb.size
        refine hK.out _ _ P9 (fun hS'=>?_)
        clear P5 Z5 Q5 O5 t5 n5 hK K hS
        have P5:=P9
        have Z5:=Z9
        have Q5:=Q9
        have O5:=O9
        have t5:=t9
        have n5:=n9
        have hS:=hS'
        clear hS' P9 Z9 Q9 O9 t9 n9
        try simp only [Act.put,zq0,zq1,zq2,zq3,zq4,zq5]
        clear bb
        rw [← hg6]
        clear hg6
        refine wpAnyH_ready (rs:=[1,3]) (by kernel_rfl) (by simp) ?_
        refine AllReadyH.cons rfl (fun K hK=>?_) (AllReadyH.cons rfl (fun K hK=>?_) AllReadyH.nil)
        · rw [if_pos (by rfl)]
          have yQ:=Z5.cell
          go_simp
          refine hK.out _ _ P5 (fun hS'=>?_)
          clear yQ hK K hS
          have hS:=hS'
          clear hS'
          try simp only [Act.put,zq0,zq1,zq2,zq3,zq4,zq5]
          refine wpAnyH_ready (rs:=[3]) (by kernel_rfl) (by simp) ?_
          refine AllReadyH.cons rfl (fun K hK=>?_) AllReadyH.nil
          rw [if_pos (by rfl)]
          go_simp
          have bb:=Ext.alloc (Below.refl v5.heap.size v5) (.cells #[.slice (some ⟨g6,0,none⟩) 128 128] 29)
          have F7:=one_list (OwnL.lt O5) n5 F6 29
          clear F6
          obtain ⟨g7,hg7⟩ : ∃ z : Nat,z = v5.heap.size:=⟨_,rfl⟩
          rw [← hg7] at F7
          have P9:=P5.next bb
          have Z9:=Z5.next bb
          have Q9:=Q5.next bb
          have O9:=O5.next bb
          have t9:=Ext.trans t5 bb
          have n9:=Nat.le_trans n5 bb.size
          refine hK.out _ _ P9 (fun hS'=>?_)
          clear P5 Z5 Q5 O5 t5 n5 hK K hS
          have P5:=P9
          have Z5:=Z9
          have Q5:=Q9
          have O5:=O9
          have t5:=t9
          have n5:=n9
          have hS:=hS'
          clear hS' P9 Z9 Q9 O9 t9 n9
          try simp only [Act.put,zq0,zq1,zq2,zq3,zq4,zq5]
          clear bb
          rw [← hg7]
          clear hg7
          generalize v5.alloc (.cells #[.slice (some ⟨g6,0,none⟩) 128 128] 29) = v7 at *
          refine wpAnyH_ready (rs:=[4]) (by kernel_rfl) (by simp) ?_
          refine AllReadyH.cons rfl (fun K hK=>?_) AllReadyH.nil
          rw [if_pos (by rfl)]
          go_simp
          have bb:=Ext.alloc (Below.refl v7.heap.size v7) (.cells #[.slice (some ⟨g7,0,none⟩) 1 1] 30)
          have rd8:=rd_row v7 #[.slice (some ⟨g7,0,none⟩) 1 1] 30
          have F8:=(F7.below bb).mono (fun b hb=>Fresh.next hb bb)
          clear F7
          obtain ⟨g8,hg8⟩ : ∃ z : Nat,z = v7.heap.size:=⟨_,rfl⟩
          rw [← hg8] at rd8
          have P9:=P5.next bb
          have Z9:=Z5.next bb
          have Q9:=Q5.next bb
          have O9:=O5.next bb
          have t9:=Ext.trans t5 bb
          have n9:=Nat.le_trans n5 bb.size
          refine hK.out _ _ P9 (fun hS'=>?_)
          clear P5 Z5 Q5 O5 t5 n5 hK K hS
          have P5:=P9
          have Z5:=Z9
          have Q5:=Q9
          have O5:=O9
          have t5:=t9
          have n5:=n9
          have hS:=hS'
          clear hS' P9 Z9 Q9 O9 t9 n9
          try simp only [Act.put,zq0,zq1,zq2,zq3,zq4,zq5]
          clear bb
          rw [← hg8]
          clear hg8
          generalize v7.alloc (.cells #[.slice (some ⟨g7,0,none⟩) 1 1] 30) = v8 at *
          refine wpAnyH_ready (rs:=[5]) (by kernel_rfl) (by simp) ?_
          refine AllReadyH.cons rfl (fun K hK=>?_) AllReadyH.nil
          rw [if_pos (by rfl)]
          refine wp_push (.tmp 17) (.tmp 20) 25 rfl base 30 il _ 24 (.sl (.sl .byte)) Try.underlying25 hil hl0 hl1 hl2 rfl (by decide) v (nulls j) rfl O5 (some ⟨g8,0,none⟩) 1 _ rfl rd8 _ F8 HBY.out.1 HBY.out.2 n5 ?_
          intro u9 w9 O9 gr9 k9
          have hb3:=HBS.out
          have P9:=P5.grown gr9 (fun e=>by have:=k9 _ e;have:=HPZ.out;omega)
          have Z9:=Z5.grown gr9 (fun e=>by have:=k9 _ e;omega)
          have Q9:=Q5.grown gr9 (fun e=>by have:=k9 _ e;have:=HPZ.out;omega)
          have t9:=Below.grown t5 gr9 t5.size (fun r e=>by have:=k9 r e;have:=HPZ.out;omega)
          have n9:=Nat.le_trans n5 gr9.size
          refine hK.out _ _ P9 (fun hS'=>?_)
          clear P5 Z5 Q5 O5 t5 n5 k9 gr9 F8 rd8 hK K hS
          have hS:=hS'
          clear hS'
          obtain ⟨A10,c10,e10⟩:=OwnL.slice O9
          have e11:=e10.trans (HTL.out A10 c10)
          clear e10
          subst e11
          try simp only [Act.put,zq0,zq1,zq2,zq3,zq4,zq5]
          refine wpAnyH_take (i:=6) (v:=?_) rfl (by kernel_rfl) (by kernel_rfl) (by kernel_rfl) (fun _ _ _ h=>h) (Or.inl ⟨by rfl,?_⟩) hS ?_
          rotate_left
          · (intro w hSw;(try dsimp only at hSw);go_simp;(try with_reducible rfl))
          rotate_left
          simp only [Act.put,zq0,zq1,zq2,zq3,zq4,zq5]
          refine wpAnyH_ready (rs:=[7]) (by kernel_rfl) (by simp) ?_
          refine AllReadyH.cons rfl (fun K hK=>?_) AllReadyH.nil
          rw [if_pos (by rfl)]
          have fQ:=Z9.free
          have yQ:=Z9.cell
          go_simp
          clear fQ yQ
          have Z10 : BoxOf _ pz #[.slice A10 (j + 1) c10,.slice none 0 0] 28:=mbox_self Z9 0 (.slice A10 (j + 1) c10)
          have Q10:=mbox_else Q9 (show w.heap.size + 1 ≠ pz by have:=HPZ.out;omega) 0 (.slice A10 (j + 1) c10)
          have P10:=mbox_else P9 (show w.heap.size ≠ pz by have:=HPZ.out;omega) 0 (.slice A10 (j + 1) c10)
          have O10:=OwnL.setElse (k:=pz) (OwnL.cast (nulls_step j).symm O9) (by omega) 0 (.slice A10 (j + 1) c10)
          have t10:=Below.setCell (p:=⟨pz,0,none⟩) t9 (show w.heap.size ≤ pz by have:=HPZ.out;omega) (.slice A10 (j + 1) c10)
          refine hK.out _ _ P10 (fun hS'=>?_)
          clear hK K hS hS' Z9 P9 Q9 O9 t9
          try simp only [Act.put,zq0,zq1,zq2,zq3,zq4,zq5]
          refine wpAnyH_done (by kernel_rfl) ?_ _
          have HN9 : Hid (base ≤ w9.heap.size):=n9
          have LJ:=HLJ.out
          clear n9 hb3
          go_wp2
          go_roundw
          case rel=>exact ⟨j + 1,_,LJ,by first | exact round_same HWJ | go_num,t10,P10,Q10,Z10,O10,(show Hid (base ≤ _) from by show base ≤ _;rw [msize];exact HN9.out)⟩
          case measure=>first | exact round_less HWJ LJ | (have h:=LJ;simp [intOf];omega)
        · rw [if_pos (by rfl)]
          go_simp
          have bb:=Ext.alloc (Below.refl v5.heap.size v5) (.cells #[.slice (some ⟨g6,0,none⟩) 128 128] 29)
          have F7:=one_list (OwnL.lt O5) n5 F6 29
          clear F6
          obtain ⟨g7,hg7⟩ : ∃ z : Nat,z = v5.heap.size:=⟨_,rfl⟩
          rw [← hg7] at F7
          have P9:=P5.next bb
          have Z9:=Z5.next bb
          have Q9:=Q5.next bb
          have O9:=O5.next bb
          have t9:=Ext.trans t5 bb
          have n9:=Nat.le_trans n5 bb.size
          refine hK.out _ _ P9 (fun hS'=>?_)
          clear P5 Z5 Q5 O5 t5 n5 hK K hS
          have P5:=P9
          have Z5:=Z9
          have Q5:=Q9
          have O5:=O9
          have t5:=t9
          have n5:=n9
          have hS:=hS'
          clear hS' P9 Z9 Q9 O9 t9 n9
          try simp only [Act.put,zq0,zq1,zq2,zq3,zq4,zq5]
          clear bb
          rw [← hg7]
          clear hg7
          generalize v5.alloc (.cells #[.slice (some ⟨g6,0,none⟩) 128 128] 29) = v7 at *
          refine wpAnyH_ready (rs:=[1,4]) (by kernel_rfl) (by simp) ?_
          refine AllReadyH.cons rfl (fun K hK=>?_) (AllReadyH.cons rfl (fun K hK=>?_) AllReadyH.nil)
          · rw [if_pos (by rfl)]
            have yQ:=Z5.cell
            go_simp
            refine hK.out _ _ P5 (fun hS'=>?_)
            clear yQ hK K hS
            have hS:=hS'
            clear hS'
            try simp only [Act.put,zq0,zq1,zq2,zq3,zq4,zq5]
            refine wpAnyH_ready (rs:=[4]) (by kernel_rfl) (by simp) ?_
            refine AllReadyH.cons rfl (fun K hK=>?_) AllReadyH.nil
            rw [if_pos (by rfl)]
            go_simp
            have bb:=Ext.alloc (Below.refl v7.heap.size v7) (.cells #[.slice (some ⟨g7,0,none⟩) 1 1] 30)
            have rd8:=rd_row v7 #[.slice (some ⟨g7,0,none⟩) 1 1] 30
            have F8:=(F7.below bb).mono (fun b hb=>Fresh.next hb bb)
            clear F7
            obtain ⟨g8,hg8⟩ : ∃ z : Nat,z = v7.heap.size:=⟨_,rfl⟩
            rw [← hg8] at rd8
            have P9:=P5.next bb
            have Z9:=Z5.next bb
            have Q9:=Q5.next bb
            have O9:=O5.next bb
            have t9:=Ext.trans t5 bb
            have n9:=Nat.le_trans n5 bb.size
            refine hK.out _ _ P9 (fun hS'=>?_)
            clear P5 Z5 Q5 O5 t5 n5 hK K hS
            have P5:=P9
            have Z5:=Z9
            have Q5:=Q9
            have O5:=O9
            have t5:=t9
            have n5:=n9
            have hS:=hS'
            clear hS' P9 Z9 Q9 O9 t9 n9
            try simp only [Act.put,zq0,zq1,zq2,zq3,zq4,zq5]
            clear bb
            rw [← hg8]
            clear hg8
            generalize v7.alloc (.cells #[.slice (some ⟨g7,0,none⟩) 1 1] 30) = v8 at *
            refine wpAnyH_ready (rs:=[5]) (by kernel_rfl) (by simp) ?_
            refine AllReadyH.cons rfl (fun K hK=>?_) AllReadyH.nil
            rw [if_pos (by rfl)]
            refine wp_push (.tmp 17) (.tmp 20) 25 rfl base 30 il _ 24 (.sl (.sl .byte)) Try.underlying25 hil hl0 hl1 hl2 rfl (by decide) v (nulls j) rfl O5 (some ⟨g8,0,none⟩) 1 _ rfl rd8 _ F8 HBY.out.1 HBY.out.2 n5 ?_
            intro u9 w9 O9 gr9 k9
            have hb3:=HBS.out
            have P9:=P5.grown gr9 (fun e=>by have:=k9 _ e;have:=HPZ.out;omega)
            have Z9:=Z5.grown gr9 (fun e=>by have:=k9 _ e;omega)
            have Q9:=Q5.grown gr9 (fun e=>by have:=k9 _ e;have:=HPZ.out;omega)
            have t9:=Below.grown t5 gr9 t5.size (fun r e=>by have:=k9 r e;have:=HPZ.out;omega)
            have n9:=Nat.le_trans n5 gr9.size
            refine hK.out _ _ P9 (fun hS'=>?_)
            clear P5 Z5 Q5 O5 t5 n5 k9 gr9 F8 rd8 hK K hS
            have hS:=hS'
            clear hS'
            obtain ⟨A10,c10,e10⟩:=OwnL.slice O9
            have e11:=e10.trans (HTL.out A10 c10)
            clear e10
            subst e11
            try simp only [Act.put,zq0,zq1,zq2,zq3,zq4,zq5]
            refine wpAnyH_take (i:=6) (v:=?_) rfl (by kernel_rfl) (by kernel_rfl) (by kernel_rfl) (fun _ _ _ h=>h) (Or.inl ⟨by rfl,?_⟩) hS ?_
            rotate_left
            · (intro w hSw;(try dsimp only at hSw);go_simp;(try with_reducible rfl))
            rotate_left
            simp only [Act.put,zq0,zq1,zq2,zq3,zq4,zq5]
            refine wpAnyH_ready (rs:=[7]) (by kernel_rfl) (by simp) ?_
            refine AllReadyH.cons rfl (fun K hK=>?_) AllReadyH.nil
            rw [if_pos (by rfl)]
            have fQ:=Z9.free
            have yQ:=Z9.cell
            go_simp
            clear fQ yQ
            have Z10 : BoxOf _ pz #[.slice A10 (j + 1) c10,.slice none 0 0] 28:=mbox_self Z9 0 (.slice A10 (j + 1) c10)
            have Q10:=mbox_else Q9 (show w.heap.size + 1 ≠ pz by have:=HPZ.out;omega) 0 (.slice A10 (j + 1) c10)
            have P10:=mbox_else P9 (show w.heap.size ≠ pz by have:=HPZ.out;omega) 0 (.slice A10 (j + 1) c10)
            have O10:=OwnL.setElse (k:=pz) (OwnL.cast (nulls_step j).symm O9) (by omega) 0 (.slice A10 (j + 1) c10)
            have t10:=Below.setCell (p:=⟨pz,0,none⟩) t9 (show w.heap.size ≤ pz by have:=HPZ.out;omega) (.slice A10 (j + 1) c10)
            refine hK.out _ _ P10 (fun hS'=>?_)
            clear hK K hS hS' Z9 P9 Q9 O9 t9
            try simp only [Act.put,zq0,zq1,zq2,zq3,zq4,zq5]
            refine wpAnyH_done (by kernel_rfl) ?_ _
            have HN9 : Hid (base ≤ w9.heap.size):=n9
            have LJ:=HLJ.out
            clear n9 hb3
            go_wp2
            go_roundw
            case rel=>exact ⟨j + 1,_,LJ,by first | exact round_same HWJ | go_num,t10,P10,Q10,Z10,O10,(show Hid (base ≤ _) from by show base ≤ _;rw [msize];exact HN9.out)⟩
            case measure=>first | exact round_less HWJ LJ | (have h:=LJ;simp [intOf];omega)
          · rw [if_pos (by rfl)]
            go_simp
            have bb:=Ext.alloc (Below.refl v7.heap.size v7) (.cells #[.slice (some ⟨g7,0,none⟩) 1 1] 30)
            have rd8:=rd_row v7 #[.slice (some ⟨g7,0,none⟩) 1 1] 30
            have F8:=(F7.below bb).mono (fun b hb=>Fresh.next hb bb)
            clear F7
            obtain ⟨g8,hg8⟩ : ∃ z : Nat,z = v7.heap.size:=⟨_,rfl⟩
            rw [← hg8] at rd8
            have P9:=P5.next bb
            have Z9:=Z5.next bb
            have Q9:=Q5.next bb
            have O9:=O5.next bb
            have t9:=Ext.trans t5 bb
            have n9:=Nat.le_trans n5 bb.size
            refine hK.out _ _ P9 (fun hS'=>?_)
            clear P5 Z5 Q5 O5 t5 n5 hK K hS
            have P5:=P9
            have Z5:=Z9
            have Q5:=Q9
            have O5:=O9
            have t5:=t9
            have n5:=n9
            have hS:=hS'
            clear hS' P9 Z9 Q9 O9 t9 n9
            try simp only [Act.put,zq0,zq1,zq2,zq3,zq4,zq5]
            clear bb
            rw [← hg8]
            clear hg8
            generalize v7.alloc (.cells #[.slice (some ⟨g7,0,none⟩) 1 1] 30) = v8 at *
            refine wpAnyH_ready (rs:=[1]) (by kernel_rfl) (by simp) ?_
            refine AllReadyH.cons rfl (fun K hK=>?_) AllReadyH.nil
            rw [if_pos (by rfl)]
            have yQ:=Z5.cell
            go_simp
            refine hK.out _ _ P5 (fun hS'=>?_)
            clear yQ hK K hS
            have hS:=hS'
            clear hS'
            try simp only [Act.put,zq0,zq1,zq2,zq3,zq4,zq5]
            refine wpAnyH_ready (rs:=[5]) (by kernel_rfl) (by simp) ?_
            refine AllReadyH.cons rfl (fun K hK=>?_) AllReadyH.nil
            rw [if_pos (by rfl)]
            refine wp_push (.tmp 17) (.tmp 20) 25 rfl base 30 il _ 24 (.sl (.sl .byte)) Try.underlying25 hil hl0 hl1 hl2 rfl (by decide) v (nulls j) rfl O5 (some ⟨g8,0,none⟩) 1 _ rfl rd8 _ F8 HBY.out.1 HBY.out.2 n5 ?_
            intro u9 w9 O9 gr9 k9
            have hb3:=HBS.out
            have P9:=P5.grown gr9 (fun e=>by have:=k9 _ e;have:=HPZ.out;omega)
            have Z9:=Z5.grown gr9 (fun e=>by have:=k9 _ e;omega)
            have Q9:=Q5.grown gr9 (fun e=>by have:=k9 _ e;have:=HPZ.out;omega)
            have t9:=Below.grown t5 gr9 t5.size (fun r e=>by have:=k9 r e;have:=HPZ.out;omega)
            have n9:=Nat.le_trans n5 gr9.size
            refine hK.out _ _ P9 (fun hS'=>?_)
            clear P5 Z5 Q5 O5 t5 n5 k9 gr9 F8 rd8 hK K hS
            have hS:=hS'
            clear hS'
            obtain ⟨A10,c10,e10⟩:=OwnL.slice O9
            have e11:=e10.trans (HTL.out A10 c10)
            clear e10
            subst e11
            try simp only [Act.put,zq0,zq1,zq2,zq3,zq4,zq5]
            refine wpAnyH_take (i:=6) (v:=?_) rfl (by kernel_rfl) (by kernel_rfl) (by kernel_rfl) (fun _ _ _ h=>h) (Or.inl ⟨by rfl,?_⟩) hS ?_
            rotate_left
            · (intro w hSw;(try dsimp only at hSw);go_simp;(try with_reducible rfl))
            rotate_left
            simp only [Act.put,zq0,zq1,zq2,zq3,zq4,zq5]
            refine wpAnyH_ready (rs:=[7]) (by kernel_rfl) (by simp) ?_
            refine AllReadyH.cons rfl (fun K hK=>?_) AllReadyH.nil
            rw [if_pos (by rfl)]
            have fQ:=Z9.free
            have yQ:=Z9.cell
            go_simp
            clear fQ yQ
            have Z10 : BoxOf _ pz #[.slice A10 (j + 1) c10,.slice none 0 0] 28:=mbox_self Z9 0 (.slice A10 (j + 1) c10)
            have Q10:=mbox_else Q9 (show w.heap.size + 1 ≠ pz by have:=HPZ.out;omega) 0 (.slice A10 (j + 1) c10)
            have P10:=mbox_else P9 (show w.heap.size ≠ pz by have:=HPZ.out;omega) 0 (.slice A10 (j + 1) c10)
            have O10:=OwnL.setElse (k:=pz) (OwnL.cast (nulls_step j).symm O9) (by omega) 0 (.slice A10 (j + 1) c10)
            have t10:=Below.setCell (p:=⟨pz,0,none⟩) t9 (show w.heap.size ≤ pz by have:=HPZ.out;omega) (.slice A10 (j + 1) c10)
            refine hK.out _ _ P10 (fun hS'=>?_)
            clear hK K hS hS' Z9 P9 Q9 O9 t9
            try simp only [Act.put,zq0,zq1,zq2,zq3,zq4,zq5]
            refine wpAnyH_done (by kernel_rfl) ?_ _
            have HN9 : Hid (base ≤ w9.heap.size):=n9
            have LJ:=HLJ.out
            clear n9 hb3
            go_wp2
            go_roundw
            case rel=>exact ⟨j + 1,_,LJ,by first | exact round_same HWJ | go_num,t10,P10,Q10,Z10,O10,(show Hid (base ≤ _) from by show base ≤ _;rw [msize];exact HN9.out)⟩
            case measure=>first | exact round_less HWJ LJ | (have h:=LJ;simp [intOf];omega)
    · have hje : j = N:=by omega
      obtain ⟨Ag,cg,rfl⟩:=OwnL.slice O4
      have Rg:=OwnL.rdin O4 (show (nulls j).length * 24 ≤ 140737488355328 by rw [nulls_len];omega)
      have HRG:=Lib.hid Rg
      have HJE:=Lib.hid hje
      have hb3:=HBS.out
      clear Rg O4 hje
      have z3:=Z4.cell
      have q3:=Q4.cell
      have f3:=Q4.free
      have hpz:=HPZ.out
      go_wp2
      have B5 : BoxOf _ (w.heap.size + 1) #[.slice Ag (nulls j).length cg,.slice none 0 0] 28:=mbox_self (mbox_self Q4 0 (.slice Ag (nulls j).length cg)) 1 (.slice none 0 0)
      have T5:=Below.setCell (p:=⟨w.heap.size + 1,1,none⟩) (Below.setCell (p:=⟨w.heap.size + 1,0,none⟩) t3 (show w.heap.size ≤ w.heap.size + 1 by omega) (.slice Ag (nulls j).length cg)) (show w.heap.size ≤ w.heap.size + 1 by omega) (.slice none 0 0)
      have R5:=(HRG.out.setElse (k:=w.heap.size + 1) (fun b hb=>by have:=hb.1;omega) 0 (.slice Ag (nulls j).length cg)).setElse (k:=w.heap.size + 1) (fun b hb=>by have:=hb.1;omega) 1 (.slice none 0 0)
      have R6:=R5.mono (S':=NewB w.heap.size ((wk.setCell ⟨w.heap.size + 1,0,none⟩ (.slice Ag (nulls j).length cg)).setCell ⟨w.heap.size + 1,1,none⟩ (.slice none 0 0))) (fun b hb=>⟨by have:=hb.1;omega,by simp only [msize];exact hb.2.1,(hb.2.2.set _ _).set _ _⟩)
      exact bodyPost_ret (v:=.tuple #[.agg #[.slice Ag (nulls j).length cg,.slice none 0 0],.int .i64 0]) (Eq.trans (results_row2 (P:=Try.prog) (fn:=Try.f30) (p:=2) (u:=3) (ty:=28) rfl _ _ (w.heap.size + 1) 28 #[.slice Ag (nulls j).length cg,.slice none 0 0] (0,0) _ rfl B5 Try.underlying28 rfl (by kernel_rfl)) rfl) rfl ⟨⟨0,nulls j,Ag,cg,rfl,.inr ⟨HX.out,rfl,by rw [HNN.out,HJE.out]⟩,R6⟩,T5⟩
 · have HM : Hid (∀ w',Calls Try.prog 62 #[x.val] w' fun e w''=>e = .returned (.bool false) ∧ Below w'.heap.size w' w''):=fun w'=>may_no x hx w'
   have HX:=Lib.hid hx
   clear hx
   obtain ⟨id,m,c,r,l,h⟩:=x
   unfold Cfg.val at *
   dsimp only at *
   have C0:=BoxOf.alloc (BoxOf.new w #[.int .u32 (id : Int),.int .i64 m,.int .i64 c,.int .i64 r,.int .i64 l,.int .i64 h] 24) (.cells #[.slice none 0 0,.slice none 0 0] 28)
   have Z0:=BoxOf.new' (w.alloc (.cells #[.int .u32 (id : Int),.int .i64 m,.int .i64 c,.int .i64 r,.int .i64 l,.int .i64 h] 24)) (w.heap.size + 1) #[.slice none 0 0,.slice none 0 0] 28 (by simp)
   have t0:=Ext.alloc (Ext.alloc (Below.refl w.heap.size w) (.cells #[.int .u32 (id : Int),.int .i64 m,.int .i64 c,.int .i64 r,.int .i64 l,.int .i64 h] 24)) (.cells #[.slice none 0 0,.slice none 0 0] 28)
   go_enter Try.func30,Try.ntmps30
   go_upto_region 1 with fail
   generalize (w.alloc (.cells #[.int .u32 (id : Int),.int .i64 m,.int .i64 c,.int .i64 r,.int .i64 l,.int .i64 h] 24)).alloc (.cells #[.slice none 0 0,.slice none 0 0] 28) = W at *
   have x0:=C0.cell
   go_wp2_with fail
   refine (HM.out _).mono ?_
   rintro e w1 ⟨rfl,b1⟩
   have Z1:=Z0.next b1
   have t1:=Ext.trans t0 b1
   have f1:=Z1.free
   have z1:=Z1.cell
   clear x0 C0 Z0 t0 b1
   go_wp2
   have B5 : BoxOf _ (w.heap.size + 1) #[.slice none 0 0,.slice none 0 0] 28:=mbox_self (mbox_self Z1 0 (.slice none 0 0)) 1 (.slice none 0 0)
   have T5:=Below.setCell (p:=⟨w.heap.size + 1,1,none⟩) (Below.setCell (p:=⟨w.heap.size + 1,0,none⟩) t1 (show w.heap.size ≤ w.heap.size + 1 by omega) (.slice none 0 0)) (show w.heap.size ≤ w.heap.size + 1 by omega) (.slice none 0 0)
   exact bodyPost_ret (v:=.tuple #[.agg #[.slice none 0 0,.slice none 0 0],.int .i64 8]) (Eq.trans (results_row2 (P:=Try.prog) (fn:=Try.f30) (p:=2) (u:=3) (ty:=28) rfl _ _ (w.heap.size + 1) 28 #[.slice none 0 0,.slice none 0 0] (0,0) _ rfl B5 Try.underlying28 rfl (by kernel_rfl)) rfl) rfl ⟨⟨8,[],none,0,rfl,.inl ⟨HX.out,rfl,rfl⟩,rdin_nil3 _ _⟩,T5⟩
end Go.Proofs.Ytclbihcggjjgaaa
namespace Go.Proofs.Ytclbihcggjjgaaa
open Go Go.RowKit
set_option linter.unusedSimpArgs false
set_option linter.unusedVariables false
theorem RdIn.tt {w : World} {S : Nat → Prop} {t : Ty} {x : t.T} {cs : List Value} (h : RdIn w S t x cs) : RdIn w (fun _=>True) t x cs:=h.mono fun _ _=>trivial
theorem BoxOf.within {lo hi : Nat} {w w' : World} (hw : Within lo hi w w') {g : Nat} {cs : Array Value} {t : TypeId} (h : BoxOf w g cs t) (hg : g < lo ∨ hi ≤ g) : BoxOf w' g cs t:=by
 unfold BoxOf at *
 rcases hg with hg | hg
 · rw [hw.below.block g hg];exact h
 · rw [hw.above g hg (Array.getElem?_eq_some_iff.1 h).1];exact h
theorem rdin_nilG (w : World) (S : Nat → Prop) : RdIn w S (.sl GoTy) [] [.slice none 0 0]:=rdin_sl.2 ⟨none,0,rfl,by simp,by simp [maxLen],by simp,.inl rfl⟩
theorem cfg_deep {w : World} {S : Nat → Prop} {cs : List Value} {x : (Ty.st (.prod .u32 (.prod .int (.prod .int (.prod .int (.prod .int (.prod .int .unit))))))).T} (h : RdIn w S (Ty.st (.prod .u32 (.prod .int (.prod .int (.prod .int (.prod .int (.prod .int .unit))))))) x cs) : ∃ y : Cfg,Value.agg cs.toArray = y.val:=by
 obtain ⟨id,m,c,r,l,h',u⟩:=x
 obtain ⟨c0,d0,rfl,r0,h⟩:=rdin_prod.1 (rdin_st.1 h)
 obtain ⟨c1,d1,rfl,r1,h⟩:=rdin_prod.1 h
 obtain ⟨c2,d2,rfl,r2,h⟩:=rdin_prod.1 h
 obtain ⟨c3,d3,rfl,r3,h⟩:=rdin_prod.1 h
 obtain ⟨c4,d4,rfl,r4,h⟩:=rdin_prod.1 h
 obtain ⟨c5,d5,rfl,r5,h⟩:=rdin_prod.1 h
 obtain rfl:=rdin_unit.1 h
 obtain ⟨rfl,_⟩:=rdin_u32.1 r0
 obtain ⟨rfl,_⟩:=rdin_int.1 r1
 obtain ⟨rfl,_⟩:=rdin_int.1 r2
 obtain ⟨rfl,_⟩:=rdin_int.1 r3
 obtain ⟨rfl,_⟩:=rdin_int.1 r4
 obtain ⟨rfl,_⟩:=rdin_int.1 r5
 exact ⟨⟨id,m,c,r,l,h'⟩,rfl⟩
theorem int_deep {w : World} {S : Nat → Prop} {v : Value} {x : Ty.int.T} (h : RdIn w S .int x [v]) : ∃ n : Int,v = .int .i64 n ∧ IsInt n:=by
 obtain ⟨e,hi⟩:=rdin_int.1 h
 exact ⟨x,(List.cons.inj e).1,hi⟩
theorem sl_deep {w : World} {S : Nat → Prop} {e : Ty} {xs : List e.T} {v : Value} (h : RdIn w S (.sl e) xs [v]) : ∃ A c,v = .slice A xs.length c:=by
 obtain ⟨A,c,e,_⟩:=rdin_sl.1 h
 exact ⟨A,c,(List.cons.inj e).1⟩
end Go.Proofs.Ytclbihcggjjgaaa
namespace Go.Proofs.Ytclbihcggjjgaaa
open Go Go.RowKit
set_option linter.unusedSimpArgs false
set_option linter.unusedVariables false
structure Turns (lo hi : Nat) (w w' : World) : Prop where
 within : Within lo hi w w'
 shapes : ∀ (t : Ty) (cs : List Value),ShpL w lo hi t cs → ShpL w' lo hi t cs
theorem Turns.refl (lo hi : Nat) (w : World) : Turns lo hi w w:=⟨Within.refl _ _ _,fun _ _ h=>h⟩
theorem Turns.alloc {lo hi : Nat} {w w' : World} (h : Turns lo hi w w') (hl : lo ≤ w.heap.size) (o : Obj) : Turns lo hi w (w'.alloc o):=⟨h.within.alloc hl o,fun t cs hs=>(h.shapes t cs hs).below (Ext.alloc (Below.refl _ _) o)⟩
theorem Turns.num {lo hi : Nat} {w w' : World} (h : Turns lo hi w w') {p : Addr} (hp : lo ≤ p.block ∧ p.block < hi) {k : IntKind} {n n' : Int} (hc : w'.cell? p = some (.int k n)) (hk : InK k n') : Turns lo hi w (w'.setCell p (.int k n')):=⟨h.within.setCell hp _,fun t cs hs=>(h.shapes t cs hs).num hc hk⟩
theorem Turns.drew {lo hi : Nat} {w w' : World} (h : Turns lo hi w w') : Turns lo hi w w'.drew:=⟨h.within.drew,fun t cs hs=>(h.shapes t cs hs).below (Ext.drew (Below.refl _ _))⟩
theorem Turns.trans {lo hi : Nat} {a b c : World} (h : Turns lo hi a b) (k : Turns lo hi b c) : Turns lo hi a c:=⟨⟨h.within.below.trans k.within.below,fun q h1 h2=>(k.within.above q h1 (Nat.lt_of_lt_of_le h2 h.within.below.size)).trans (h.within.above q h1 h2)⟩,fun t cs hs=>k.shapes t cs (h.shapes t cs hs)⟩
theorem ShpL.within {lo hi a b : Nat} {w w' : World} {t : Ty} {cs : List Value} (h : ShpL w a b t cs) (hw : Within lo hi w w') (ho : b ≤ lo ∨ hi ≤ a) : ShpL w' a b t cs:=by
 obtain ⟨x,hx⟩:=h
 have hout : ∀ q,InL w a b q → q < lo ∨ hi ≤ q:=fun q hq=>by
  rcases ho with ho | ho
  · exact .inl (by have:=hq.1.2;omega)
  · exact .inr (by have:=hq.1.1;omega)
 refine ⟨x,(hx.within hw hout).mono fun q hq=>⟨hq.1,?_⟩⟩
 obtain ⟨cs,t,h1⟩:=hq.2
 refine ⟨cs,t,?_⟩
 have hl : q < w.heap.size:=BoxOf.lt (show BoxOf w q cs t from h1)
 rcases hout q hq with h2 | h2
 · rw [hw.below.block q h2];exact h1
 · rw [hw.above q h2 hl];exact h1
set_option maxRecDepth 100000 in
set_option maxHeartbeats 2000000 in
theorem turnS_any (lo hi : Nat) (A : Option Addr) (n c : Nat) (B : Option Addr) (m d : Nat) (w : World) (h1 : ShpL w lo hi (.sl (.sl (.sl .byte))) [.slice A n c]) (h2 : ShpL w lo hi (.sl GoTy) [.slice B m d]) (hlh : lo ≤ hi) (hb : hi ≤ w.heap.size) :
 Calls Try.prog 16 #[.agg #[.slice A n c,.slice B m d]] w fun e w'=>(∃ v,e = .returned v) ∧ Turns lo hi w w':=by
 have P0:=BoxOf.new w #[.slice A n c,.slice B m d] 28
 have t0:=Turns.alloc (Turns.refl lo hi w) (Nat.le_trans hlh hb) (.cells #[.slice A n c,.slice B m d] 28)
 have b0:=Ext.alloc (Below.refl w.heap.size w) (.cells #[.slice A n c,.slice B m d] 28)
 have s1:=h1.below b0
 have s2:=h2.below b0
 have HGM : Hid (m ≤ maxLen):=by
  obtain ⟨gs,hg⟩:=h2.goings
  obtain ⟨_,_,e,hm,_⟩:=viewG hg
  injection e with _ e _
  show m ≤ maxLen
  omega
 clear h1 h2 b0
 go_enter Try.func16,Try.ntmps16
 go_upto_region 1 with fail
 generalize w.alloc (.cells #[.slice A n c,.slice B m d] 28) = W at *
 go_wp2
 go_loopw [2] (fun i wr=>∃ k : Nat,k ≤ n ∧ i = .int .i64 k ∧ Turns lo hi w wr ∧ BoxOf wr w.heap.size #[.slice A n c,.slice B m d] 28 ∧ ShpL wr lo hi (.sl (.sl (.sl .byte))) [.slice A n c] ∧ ShpL wr lo hi (.sl GoTy) [.slice B m d]) (fun i _=>n - (intOf i).toNat)
 case atStart=>exact ⟨0,by omega,rfl,t0,P0,s1,s2⟩
 case round=>
  obtain ⟨k,hk,rfl,t1,P1,s3,s4⟩:=hrel
  clear t0 P0 s1 s2
  have x1:=P1.cell
  by_cases hlt : k < n
  · obtain ⟨ys,hy⟩:=s3.may
    obtain ⟨A1,c1,e1,hym,_,hr1⟩:=view3 hy
    injection e1 with e11 e12 e13
    subst e11 e13
    obtain ⟨b,off,rfl,hS,hrow⟩:=hr1 (by omega)
    obtain ⟨A2,c2,q2,r2⟩:=hrow k (by omega)
    clear hr1 hrow
    have s3 : ShpL wr lo hi (.sl (.sl (.sl .byte))) [.slice (some ⟨b,off,none⟩) n c]:=⟨ys,hy⟩
    have hym : n ≤ maxLen:=by omega
    obtain ⟨N2,hN2⟩ : ∃ z : Nat,z = (ys[k]'(by omega)).length:=⟨_,rfl⟩
    rw [← hN2] at q2
    have hNm : N2 ≤ maxLen:=by
     obtain ⟨_,_,_,h,_⟩:=view2 r2
     rw [hN2];exact h
    have HNM:=Lib.hid hNm
    have HYM:=Lib.hid hym
    clear r2 hN2 hS hy hym hNm e12
    go_wp2
    go_loopw [3] (fun i wq=>∃ j : Nat,j ≤ N2 ∧ i = .int .i64 j ∧ Turns lo hi w wq ∧ BoxOf wq w.heap.size #[.slice (some ⟨b,off,none⟩) n c,.slice B m d] 28 ∧ ShpL wq lo hi (.sl (.sl (.sl .byte))) [.slice (some ⟨b,off,none⟩) n c] ∧ ShpL wq lo hi (.sl GoTy) [.slice B m d] ∧ wq.cell? ⟨b,off + k,none⟩ = some (.slice A2 N2 c2)) (fun i _=>N2 - (intOf i).toNat)
    case atStart=>exact ⟨0,by omega,rfl,t1,P1,s3,s4,q2⟩
    case round=>
     obtain ⟨j,hj,rfl,t2,P2,s5,s6,q3⟩:=hrel
     clear x1 P1 s3 s4 t1 q2
     have x2:=P2.cell
     by_cases hltj : j < N2
     · obtain ⟨b2,off2,A6,N3,c6,rfl,q6,hbyte⟩:=may_row s5 hlt q3 hltj
       have HLT:=Lib.hid hltj
       have HWJ : Hid (wrap64 ((j : Int) + 1) = ((j + 1 : Nat) : Int)):=by show _ = _;rw [IntWalk.wrap64_in _ (by have h:=HNM.out;unfold maxLen at h;omega)];omega
       clear hj hk
       by_cases h0 : 0 < N3
       · obtain ⟨b3,off3,x,rfl,hb3,lv3,hx⟩:=hbyte h0
         have fz:=lv3.free off3
         have HB3:=Lib.hid hb3
         have h0I : (0 : Int) < (N3 : Int):=by omega
         clear hbyte hb3 lv3
         have HX:=Lib.hid hx
         have hk8 : InK .u8 ((x + 1) % 256):=by show (0 : Int) ≤ _ ∧ _ < (256 : Int);omega
         have s7:=(s5.num hx hk8).below (Ext.drew (Below.refl _ _))
         have s8:=(s6.num hx hk8).below (Ext.drew (Below.refl _ _))
         have P3:=BoxOf.drew (mbox_else P2 (box_ne P2 hx) off3 (.int .u8 ((x + 1) % 256)))
         have q7:=keep_slice (n':=(x + 1) % 256) hx q3
         have HQ:=Lib.hid q7
         have t3:=(Turns.num (p:=⟨b3,off3,none⟩) t2 HB3.out hx hk8).drew
         clear hk8 q7
         go_wp2
         go_region
         go_wp2
         go_roundw
         case rel=>exact ⟨j + 1,HLT.out,round_same HWJ,t3,P3,s7,s8,HQ.out⟩
         case measure=>exact round_less HWJ HLT.out
       · have h0I : ¬ (0 : Int) < (N3 : Int):=by omega
         clear hbyte
         go_wp2
         go_roundw
         case rel=>exact ⟨j + 1,HLT.out,round_same HWJ,t2,P2,s5,s6,q3⟩
         case measure=>exact round_less HWJ HLT.out
     · have HKL:=Lib.hid hlt
       have HWK : Hid (wrap64 ((k : Int) + 1) = ((k + 1 : Nat) : Int)):=by show _ = _;rw [IntWalk.wrap64_in _ (by have h:=HYM.out;unfold maxLen at h;omega)];omega
       clear hj hk
       go_wp2
       go_roundw
       case rel=>exact ⟨k + 1,HKL.out,by first | exact round_same HWK | go_num,t2,P2,s5,s6⟩
       case measure=>first | exact round_less HWK HKL.out | (have h:=HKL.out;simp [intOf];omega)
  · have HK:=Lib.hid hk
    have hle : ¬ (k : Int) < (n : Int):=by omega
    clear hk hlt s3
    go_wp2
    clear hle
    go_loopw [4] (fun i wr=>∃ k : Nat,k ≤ m ∧ i = .int .i64 k ∧ Turns lo hi w wr ∧ BoxOf wr w.heap.size #[.slice A n c,.slice B m d] 28 ∧ ShpL wr lo hi (.sl GoTy) [.slice B m d]) (fun i _=>m - (intOf i).toNat)
    case atStart=>exact ⟨0,by omega,rfl,t1,P1,s4⟩
    case round=>
     obtain ⟨j,hj,rfl,t2,P2,s6⟩:=hrel
     clear t1 P1 s4 x1
     have x2:=P2.cell
     by_cases hlt : j < m
     · obtain ⟨b,off,Ab,Nb,cb,Am,Nm,cm,rfl,q4,q5,hNm,hbyte,hmark⟩:=going_row s6 hlt
       have HNM:=Lib.hid hNm
       have HLT:=Lib.hid hlt
       have HWJ : Hid (wrap64 ((j : Int) + 1) = ((j + 1 : Nat) : Int)):=by show _ = _;rw [IntWalk.wrap64_in _ (by have h:=HGM.out;unfold maxLen at h;omega)];omega
       clear hj hNm hmark
       by_cases h0 : 0 < Nb
       · obtain ⟨b3,off3,x,rfl,hb3,lv3,hx⟩:=hbyte h0
         have fz:=lv3.free off3
         have HB3:=Lib.hid hb3
         have h0I : (0 : Int) < (Nb : Int):=by omega
         clear hbyte hb3 lv3
         have HX:=Lib.hid hx
         have hk8 : InK .u8 ((x + 1) % 256):=by show (0 : Int) ≤ _ ∧ _ < (256 : Int);omega
         have s8:=(s6.num hx hk8).below (Ext.drew (Below.refl _ _))
         have P3:=BoxOf.drew (mbox_else P2 (box_ne P2 hx) off3 (.int .u8 ((x + 1) % 256)))
         have q7:=keep_slice (n':=(x + 1) % 256) hx q5
         have HQ:=Lib.hid q7
         have t3:=(Turns.num (p:=⟨b3,off3,none⟩) t2 HB3.out hx hk8).drew
         clear hk8 q7
         go_wp2
         go_region
         go_wp2
         go_loopw [5] (fun i wq=>∃ q : Nat,q ≤ Nm ∧ i = .int .i64 q ∧ Turns lo hi w wq ∧ BoxOf wq w.heap.size #[.slice A n c,.slice (some ⟨b,off,none⟩) m d] 28 ∧ ShpL wq lo hi (.sl GoTy) [.slice (some ⟨b,off,none⟩) m d] ∧ wq.cell? ⟨b,off + j * 6 + 5,none⟩ = some (.slice Am Nm cm)) (fun i _=>Nm - (intOf i).toNat)
         case atStart=>exact ⟨0,by omega,rfl,t3,P3,s8,HQ.out⟩
         case round=>
          obtain ⟨q,hq,rfl,t5,P5,s9,q9⟩:=hrel
          have HQJ:=HLT.out
          have x5:=P5.cell
          by_cases hltq : q < Nm
          · obtain ⟨b4,off4,x4,rfl,hb4,lv4,hx4⟩:=mark_row s9 HQJ q9 hltq
            have fz4:=lv4.free (off4 + q)
            have HX4:=Lib.hid hx4
            have hk9 : InK .i64 99:=by show IsInt 99;unfold IsInt;omega
            have s10:=s9.num hx4 hk9
            have P6:=mbox_else P5 (box_ne P5 hx4) (off4 + q) (.int .i64 99)
            have q10:=keep_slice (n':=99) hx4 q9
            have HQ9:=Lib.hid q10
            have t6:=Turns.num (p:=⟨b4,off4 + q,none⟩) t5 hb4 hx4 hk9
            have HLQ:=Lib.hid hltq
            have HWQ : Hid (wrap64 ((q : Int) + 1) = ((q + 1 : Nat) : Int)):=by show _ = _;rw [IntWalk.wrap64_in _ (by have h:=HNM.out;unfold maxLen at h;omega)];omega
            clear hk9 q10 hb4 hq
            go_wp2
            go_roundw
            case rel=>exact ⟨q + 1,HLQ.out,round_same HWQ,t6,P6,s10,HQ9.out⟩
            case measure=>exact round_less HWQ HLQ.out
          · clear hq
            go_wp2
            go_roundw
            case rel=>exact ⟨j + 1,HLT.out,by first | exact round_same HWJ | go_num,t5,P5,s9⟩
            case measure=>first | exact round_less HWJ HLT.out | (have h:=HLT.out;simp [intOf];omega)
       · have h0I : ¬ (0 : Int) < (Nb : Int):=by omega
         clear hbyte
         go_wp2
         go_loopw [5] (fun i wq=>∃ q : Nat,q ≤ Nm ∧ i = .int .i64 q ∧ Turns lo hi w wq ∧ BoxOf wq w.heap.size #[.slice A n c,.slice (some ⟨b,off,none⟩) m d] 28 ∧ ShpL wq lo hi (.sl GoTy) [.slice (some ⟨b,off,none⟩) m d] ∧ wq.cell? ⟨b,off + j * 6 + 5,none⟩ = some (.slice Am Nm cm)) (fun i _=>Nm - (intOf i).toNat)
         case atStart=>exact ⟨0,by omega,rfl,t2,P2,s6,q5⟩
         case round=>
          obtain ⟨q,hq,rfl,t5,P5,s9,q9⟩:=hrel
          have HQJ:=HLT.out
          have x5:=P5.cell
          by_cases hltq : q < Nm
          · obtain ⟨b4,off4,x4,rfl,hb4,lv4,hx4⟩:=mark_row s9 HQJ q9 hltq
            have fz4:=lv4.free (off4 + q)
            have HX4:=Lib.hid hx4
            have hk9 : InK .i64 99:=by show IsInt 99;unfold IsInt;omega
            have s10:=s9.num hx4 hk9
            have P6:=mbox_else P5 (box_ne P5 hx4) (off4 + q) (.int .i64 99)
            have q10:=keep_slice (n':=99) hx4 q9
            have HQ9:=Lib.hid q10
            have t6:=Turns.num (p:=⟨b4,off4 + q,none⟩) t5 hb4 hx4 hk9
            have HLQ:=Lib.hid hltq
            have HWQ : Hid (wrap64 ((q : Int) + 1) = ((q + 1 : Nat) : Int)):=by show _ = _;rw [IntWalk.wrap64_in _ (by have h:=HNM.out;unfold maxLen at h;omega)];omega
            clear hk9 q10 hb4 hq
            go_wp2
            go_roundw
            case rel=>exact ⟨q + 1,HLQ.out,round_same HWQ,t6,P6,s10,HQ9.out⟩
            case measure=>exact round_less HWQ HLQ.out
          · clear hq
            go_wp2
            go_roundw
            case rel=>exact ⟨j + 1,HLT.out,by first | exact round_same HWJ | go_num,t5,P5,s9⟩
            case measure=>first | exact round_less HWJ HLT.out | (have h:=HLT.out;simp [intOf];omega)
     · have HJ:=Lib.hid hj
       clear hj
       go_wp2
       first | (refine bodyPost_ret (results_none rfl _ _ _) rfl ?_) | (refine bodyPost_end (results_none rfl _ _ _) rfl ?_)
       exact ⟨⟨_,rfl⟩,t2⟩
set_option maxRecDepth 100000 in
theorem rchk_any (S : Nat → Prop) (x : Cfg) (ys : Ys) (gs : List GoTy.T) (A : Option Addr) (ca : Nat) (B : Option Addr) (cb : Nat) (w : World) (hy : RdIn w S (.sl (.sl (.sl .byte))) ys [.slice A ys.length ca]) (hg : RdIn w S (.sl GoTy) gs [.slice B gs.length cb]) :
 Calls Try.prog 35 #[x.val,.agg #[.slice A ys.length ca,.slice B gs.length cb]] w fun e w'=>OkBad (PlainOk x ys gs) e ∧ Below w.heap.size w w':=by
 have HPC : Hid (∀ w',Below w.heap.size w w' → Calls Try.prog 40 #[x.val,.agg #[.slice A ys.length ca,.slice B gs.length cb]] w' fun e w''=>YesNo (PlainOk x ys gs) e ∧ Below w'.heap.size w' w''):=fun w' bb=>rpmay_any S x ys gs A ca B cb w' (hy.below bb) (hg.below bb)
 clear hy hg
 obtain ⟨id,m,c,r,l,h⟩:=x
 unfold Cfg.val at *
 dsimp only at *
 have C0:=BoxOf.alloc (BoxOf.new w #[.int .u32 (id : Int),.int .i64 m,.int .i64 c,.int .i64 r,.int .i64 l,.int .i64 h] 24) (.cells #[.slice A ys.length ca,.slice B gs.length cb] 28)
 have P0:=BoxOf.new' (w.alloc (.cells #[.int .u32 (id : Int),.int .i64 m,.int .i64 c,.int .i64 r,.int .i64 l,.int .i64 h] 24)) (w.heap.size + 1) #[.slice A ys.length ca,.slice B gs.length cb] 28 (by simp)
 have t0:=Ext.alloc (Ext.alloc (Below.refl w.heap.size w) (.cells #[.int .u32 (id : Int),.int .i64 m,.int .i64 c,.int .i64 r,.int .i64 l,.int .i64 h] 24)) (.cells #[.slice A ys.length ca,.slice B gs.length cb] 28)
 go_enter Try.func35,Try.ntmps35
 go_upto_region 1 with fail
 generalize (w.alloc (.cells #[.int .u32 (id : Int),.int .i64 m,.int .i64 c,.int .i64 r,.int .i64 l,.int .i64 h] 24)).alloc (.cells #[.slice A ys.length ca,.slice B gs.length cb] 28) = W at *
 have c0:=C0.cell
 have p0:=P0.cell
 go_wp2_with fail
 refine (HPC.out _ t0).mono ?_
 rintro e w1 ⟨⟨bb,rfl,hb1⟩,b1⟩
 have t1:=Lib.hid (Ext.trans t0 b1)
 have HB1:=Lib.hid hb1
 clear c0 p0 hb1 b1
 cases bb with
 | false=>
   go_wp2
   go_ret
   exact ⟨OkBad.bad (fun hp=>by have:=HB1.out.2 hp;cases this),t1.out⟩
 | true=>
   go_wp2
   go_ret
   exact ⟨OkBad.ok (HB1.out.1 (by first | rfl | trivial)),t1.out⟩
set_option maxRecDepth 100000 in
theorem rsamerep_any (rn many : Int) (dat : List UInt8) (D : Option Addr) (q : Nat) (E : Option Addr) (r : Nat) (ga gb : Nat) (w : World) (h1 : BoxOf w ga #[.int .i64 rn,.int .i64 0,.slice D dat.length q,.int .i64 many] 53) (h2 : BoxOf w gb #[.int .i64 rn,.int .i64 0,.slice E dat.length r,.int .i64 many] 53) (hd : Bs w D dat.length dat) (he : Bs w E dat.length dat) :
 Calls Try.prog 34 #[.slice (some ⟨ga,0,none⟩) 1 1,.slice (some ⟨gb,0,none⟩) 1 1] w fun e w'=>e = .returned (.bool true) ∧ Below w.heap.size w w':=by
 go_enter Try.func34,Try.ntmps34
 go_wp2
 go_loopw [5] (fun i wr=>∃ (j : Nat),j ≤ 1 ∧ i = .int .i64 j ∧ Below w.heap.size w wr) (fun i _=>1 - (intOf i).toNat)
 case atStart=>exact ⟨0,by omega,rfl,Below.refl _ _⟩
 case round=>
  obtain ⟨j,hj,rfl,b1⟩:=hrel
  by_cases hlt : j < 1
  · have hj0 : j = 0:=by omega
    subst hj0
    have HB1:=Lib.hid b1
    have HA:=Lib.hid (h1.next b1)
    have HBX:=Lib.hid (h2.next b1)
    have HDD:=Lib.hid (hd.below b1)
    have HEE:=Lib.hid (he.below b1)
    have hrr : (rn != rn) = false:=by simp
    have hmm : (many != many) = false:=by simp
    clear h1 h2 hd he hj b1
    go_upto_region 6 with fail
    have HS : Hid (∀ w',Below wr.heap.size wr w' → (Below wr.heap.size wr w' ∧ (∀ p,w'.cell? ⟨ga,p,none⟩ = (#[.int .i64 rn,.int .i64 0,.slice D dat.length q,.int .i64 many] : Array Value).toList[p]?) ∧ (∀ p,w'.cell? ⟨gb,p,none⟩ = (#[.int .i64 rn,.int .i64 0,.slice E dat.length r,.int .i64 many] : Array Value).toList[p]?) ∧ Bs w' D dat.length dat ∧ Bs w' E dat.length dat)):=fun w' b=>⟨b,(HA.out.next b).cell,(HBX.out.next b).cell,HDD.out.below b,HEE.out.below b⟩
    refine wp_region_held_drew (S:=fun w'=>Below wr.heap.size wr w' ∧ (∀ p,w'.cell? ⟨ga,p,none⟩ = (#[.int .i64 rn,.int .i64 0,.slice D dat.length q,.int .i64 many] : Array Value).toList[p]?) ∧ (∀ p,w'.cell? ⟨gb,p,none⟩ = (#[.int .i64 rn,.int .i64 0,.slice E dat.length r,.int .i64 many] : Array Value).toList[p]?) ∧ Bs w' D dat.length dat ∧ Bs w' E dat.length dat) (by kernel_rfl) (HS.out _ (Ext.drew (Below.refl _ _))) (fun hS=>?_)
    refine wpAnyH_take (i:=0) (v:=?_) rfl (by kernel_rfl) (by kernel_rfl) (by kernel_rfl) (fun _ _ _ h=>h) (Or.inl ⟨by rfl,?_⟩) hS ?_
    rotate_left
    · (intro w hSw;(try dsimp only at hSw);go_simp;(try with_reducible rfl))
    rotate_left
    simp only [Act.put,zq0,zq1,zq2,zq3,zq4,zq5]
    refine wpAnyH_take (i:=1) (v:=?_) rfl (by kernel_rfl) (by kernel_rfl) (by kernel_rfl) (fun _ _ _ h=>h) (Or.inl ⟨by rfl,?_⟩) hS ?_
    rotate_left
    · (intro w hSw;(try dsimp only at hSw);go_simp;(try with_reducible rfl))
    rotate_left
    simp only [Act.put,zq0,zq1,zq2,zq3,zq4,zq5]
    refine wpAnyH_take (i:=2) (v:=?_) rfl (by kernel_rfl) (by kernel_rfl) (by kernel_rfl) (fun _ _ _ h=>h) (Or.inl ⟨by rfl,?_⟩) hS ?_
    rotate_left
    · (intro w hSw;(try dsimp only at hSw);go_simp;(try with_reducible rfl))
    rotate_left
    simp only [Act.put,zq0,zq1,zq2,zq3,zq4,zq5]
    refine wpAnyH_take (i:=3) (v:=?_) rfl (by kernel_rfl) (by kernel_rfl) (by kernel_rfl) (fun _ _ _ h=>h) (Or.inl ⟨by rfl,?_⟩) hS ?_
    rotate_left
    · (intro w hSw;(try dsimp only at hSw);go_simp;(try with_reducible rfl))
    rotate_left
    simp only [Act.put,zq0,zq1,zq2,zq3,zq4,zq5]
    refine wpAnyH_take (i:=4) (v:=?_) rfl (by kernel_rfl) (by kernel_rfl) (by kernel_rfl) (fun _ _ _ h=>h) (Or.inl ⟨by rfl,?_⟩) hS ?_
    rotate_left
    · (intro w hSw;(try dsimp only at hSw);go_simp;(try with_reducible rfl))
    rotate_left
    simp only [Act.put,zq0,zq1,zq2,zq3,zq4,zq5]
    refine wpAnyH_take (i:=5) (v:=?_) rfl (by kernel_rfl) (by kernel_rfl) (by kernel_rfl) (fun _ _ _ h=>h) (Or.inl ⟨by rfl,?_⟩) hS ?_
    rotate_left
    · (intro w hSw;(try dsimp only at hSw);go_simp;(try with_reducible rfl))
    rotate_left
    simp only [Act.put,zq0,zq1,zq2,zq3,zq4,zq5]
    refine wpAnyH_take (i:=6) (v:=?_) rfl (by kernel_rfl) (by kernel_rfl) (by kernel_rfl) (fun _ _ _ h=>h) (Or.inl ⟨by rfl,?_⟩) hS ?_
    rotate_left
    · (intro w hSw;(try dsimp only at hSw);go_simp;(try with_reducible rfl))
    rotate_left
    simp only [Act.put,zq0,zq1,zq2,zq3,zq4,zq5]
    refine wpAnyH_take (i:=7) (v:=?_) rfl (by kernel_rfl) (by kernel_rfl) (by kernel_rfl) (fun _ _ _ h=>h) (Or.inl ⟨by rfl,?_⟩) hS ?_
    rotate_left
    · (intro w hSw;(try dsimp only at hSw);go_simp;(try with_reducible rfl))
    rotate_left
    simp only [Act.put,zq0,zq1,zq2,zq3,zq4,zq5]
    refine wpAnyH_take (i:=8) (v:=?_) rfl (by kernel_rfl) (by kernel_rfl) (by kernel_rfl) (fun _ _ _ h=>h) (Or.inl ⟨by rfl,?_⟩) hS ?_
    rotate_left
    · (intro w hSw;(try dsimp only at hSw);go_simp;(try with_reducible rfl))
    rotate_left
    simp only [Act.put,zq0,zq1,zq2,zq3,zq4,zq5]
    refine wpAnyH_take (i:=9) (v:=?_) rfl (by kernel_rfl) (by kernel_rfl) (by kernel_rfl) (fun _ _ _ h=>h) (Or.inl ⟨by rfl,?_⟩) hS ?_
    rotate_left
    · (intro w hSw;(try dsimp only at hSw);go_simp;(try with_reducible rfl))
    rotate_left
    simp only [Act.put,zq0,zq1,zq2,zq3,zq4,zq5]
    refine wpAnyH_take (i:=10) (v:=?_) rfl (by kernel_rfl) (by kernel_rfl) (by kernel_rfl) (fun _ _ _ h=>h) (Or.inl ⟨by rfl,?_⟩) hS ?_
    rotate_left
    · (intro w hSw;(try dsimp only at hSw);go_simp;(try with_reducible rfl))
    rotate_left
    simp only [Act.put,zq0,zq1,zq2,zq3,zq4,zq5]
    refine wpAnyH_take (i:=11) (v:=?_) rfl (by kernel_rfl) (by kernel_rfl) (by kernel_rfl) (fun _ _ _ h=>h) (Or.inl ⟨by rfl,?_⟩) hS ?_
    rotate_left
    · (intro w hSw;(try dsimp only at hSw);go_simp;(try with_reducible rfl))
    rotate_left
    simp only [Act.put,zq0,zq1,zq2,zq3,zq4,zq5]
    refine wpAnyH_take (i:=12) (v:=?_) rfl (by kernel_rfl) (by kernel_rfl) (by kernel_rfl) (fun _ _ _ h=>h) (Or.inl ⟨by rfl,?_⟩) hS ?_
    rotate_left
    · (intro w hSw;(try dsimp only at hSw);go_simp;(try with_reducible rfl))
    rotate_left
    simp only [Act.put,zq0,zq1,zq2,zq3,zq4,zq5]
    refine wpAnyH_take (i:=13) (v:=?_) rfl (by kernel_rfl) (by kernel_rfl) (by kernel_rfl) (fun _ _ _ h=>h) (Or.inl ⟨by rfl,?_⟩) hS ?_
    rotate_left
    · (intro w hSw;(try dsimp only at hSw);go_simp;(try with_reducible rfl))
    rotate_left
    simp only [Act.put,zq0,zq1,zq2,zq3,zq4,zq5]
    refine wpAnyH_take (i:=14) (v:=?_) rfl (by kernel_rfl) (by kernel_rfl) (by kernel_rfl) (fun _ _ _ h=>h) (Or.inl ⟨by rfl,?_⟩) hS ?_
    rotate_left
    · (intro w hSw;(try dsimp only at hSw);go_simp;(try with_reducible rfl))
    rotate_left
    simp only [Act.put,zq0,zq1,zq2,zq3,zq4,zq5]
    refine wpAnyH_take (i:=15) (v:=?_) rfl (by kernel_rfl) (by kernel_rfl) (by kernel_rfl) (fun _ _ _ h=>h) (Or.inl ⟨by rfl,?_⟩) hS ?_
    rotate_left
    · (intro w hSw;(try dsimp only at hSw);go_simp;(try with_reducible rfl))
    rotate_left
    simp only [Act.put,zq0,zq1,zq2,zq3,zq4,zq5]
    refine wpAnyH_take (i:=16) (v:=?_) rfl (by kernel_rfl) (by kernel_rfl) (by kernel_rfl) (fun _ _ _ h=>h) (Or.inl ⟨by rfl,?_⟩) hS ?_
    rotate_left
    · (intro w hSw;(try dsimp only at hSw);go_simp;(try with_reducible rfl))
    rotate_left
    simp only [Act.put,zq0,zq1,zq2,zq3,zq4,zq5]
    refine wpAnyH_take (i:=17) (v:=?_) rfl (by kernel_rfl) (by kernel_rfl) (by kernel_rfl) (fun _ _ _ h=>h) (Or.inl ⟨by rfl,?_⟩) hS ?_
    rotate_left
    · (intro w hSw;(try dsimp only at hSw);go_simp;(try with_reducible rfl))
    rotate_left
    simp only [Act.put,zq0,zq1,zq2,zq3,zq4,zq5]
    refine wpAnyH_take (i:=18) (v:=?_) rfl (by kernel_rfl) (by kernel_rfl) (by kernel_rfl) (fun _ _ _ h=>h) (Or.inl ⟨by rfl,?_⟩) hS ?_
    rotate_left
    · (intro w hSw;(try dsimp only at hSw);go_simp;(try with_reducible rfl))
    rotate_left
    simp only [Act.put,zq0,zq1,zq2,zq3,zq4,zq5]
    refine wpAnyH_take (i:=19) (v:=?_) rfl (by kernel_rfl) (by kernel_rfl) (by kernel_rfl) (fun _ _ _ h=>h) (Or.inl ⟨by rfl,?_⟩) hS ?_
    rotate_left
    · (intro w hSw;(try dsimp only at hSw);go_simp;(try with_reducible rfl))
    rotate_left
    simp only [Act.put,zq0,zq1,zq2,zq3,zq4,zq5]
    refine wpAnyH_take (i:=20) (v:=?_) rfl (by kernel_rfl) (by kernel_rfl) (by kernel_rfl) (fun _ _ _ h=>h) (Or.inl ⟨by rfl,?_⟩) hS ?_
    rotate_left
    · (intro w hSw;(try dsimp only at hSw);go_simp;(try with_reducible rfl))
    rotate_left
    simp only [Act.put,zq0,zq1,zq2,zq3,zq4,zq5]
    refine wpAnyH_take (i:=21) (v:=?_) rfl (by kernel_rfl) (by kernel_rfl) (by kernel_rfl) (fun _ _ _ h=>h) (Or.inl ⟨by rfl,?_⟩) hS ?_
    rotate_left
    · (intro w hSw;(try dsimp only at hSw);go_simp;(try with_reducible rfl))
    rotate_left
    simp only [Act.put,zq0,zq1,zq2,zq3,zq4,zq5]
    refine wpAnyH_take (i:=22) (v:=?_) rfl (by kernel_rfl) (by kernel_rfl) (by kernel_rfl) (fun _ _ _ h=>h) (Or.inl ⟨by rfl,?_⟩) hS ?_
    rotate_left
    · (intro w hSw;(try dsimp only at hSw);go_simp;(try with_reducible rfl))
    rotate_left
    simp only [Act.put,zq0,zq1,zq2,zq3,zq4,zq5]
    refine wpAnyH_take (i:=23) (v:=?_) rfl (by kernel_rfl) (by kernel_rfl) (by kernel_rfl) (fun _ _ _ h=>h) (Or.inl ⟨by rfl,?_⟩) hS ?_
    rotate_left
    · (intro w hSw;(try dsimp only at hSw);go_simp;(try with_reducible rfl))
    rotate_left
    simp only [Act.put,zq0,zq1,zq2,zq3,zq4,zq5]
    refine wpAnyH_take (i:=24) (v:=?_) rfl (by kernel_rfl) (by kernel_rfl) (by kernel_rfl) (fun _ _ _ h=>h) (Or.inl ⟨by rfl,?_⟩) hS ?_
    rotate_left
    · (intro w hSw;(try dsimp only at hSw);go_simp;(try with_reducible rfl))
    rotate_left
    simp only [Act.put,zq0,zq1,zq2,zq3,zq4,zq5]
    refine wpAnyH_take (i:=25) (v:=?_) rfl (by kernel_rfl) (by kernel_rfl) (by kernel_rfl) (fun _ _ _ h=>h) (Or.inl ⟨by rfl,?_⟩) hS ?_
    rotate_left
    · (intro w hSw;(try dsimp only at hSw);go_simp;(try with_reducible rfl))
    rotate_left
    simp only [Act.put,zq0,zq1,zq2,zq3,zq4,zq5]
    refine wpAnyH_take (i:=26) (v:=?_) rfl (by kernel_rfl) (by kernel_rfl) (by kernel_rfl) (fun _ _ _ h=>h) (Or.inl ⟨by rfl,?_⟩) hS ?_
    rotate_left
    · (intro w hSw;(try dsimp only at hSw);go_simp;(try with_reducible rfl))
    rotate_left
    simp only [Act.put,zq0,zq1,zq2,zq3,zq4,zq5]
    refine wpAnyH_take (i:=27) (v:=?_) rfl (by kernel_rfl) (by kernel_rfl) (by kernel_rfl) (fun _ _ _ h=>h) (Or.inl ⟨by rfl,?_⟩) hS ?_
    rotate_left
    · (intro w hSw;(try dsimp only at hSw);go_simp;(try with_reducible rfl))
    rotate_left
    simp only [Act.put,zq0,zq1,zq2,zq3,zq4,zq5]
    refine wpAnyH_take (i:=28) (v:=?_) rfl (by kernel_rfl) (by kernel_rfl) (by kernel_rfl) (fun _ _ _ h=>h) (Or.inl ⟨by rfl,?_⟩) hS ?_
    rotate_left
    · (intro w hSw;(try dsimp only at hSw);go_simp;(try with_reducible rfl))
    rotate_left
    simp only [Act.put,zq0,zq1,zq2,zq3,zq4,zq5]
    refine wpAnyH_take (i:=29) (v:=?_) rfl (by kernel_rfl) (by kernel_rfl) (by kernel_rfl) (fun _ _ _ h=>h) (Or.inl ⟨by rfl,?_⟩) hS ?_
    rotate_left
    · (intro w hSw;(try dsimp only at hSw);go_simp;(try with_reducible rfl))
    rotate_left
    simp only [Act.put,zq0,zq1,zq2,zq3,zq4,zq5]
    refine wpAnyH_take (i:=30) (v:=?_) rfl (by kernel_rfl) (by kernel_rfl) (by kernel_rfl) (fun _ _ _ h=>h) (Or.inl ⟨by rfl,?_⟩) hS ?_
    rotate_left
    · (intro w hSw;have sq:=run_string_bs (P:=Try.prog) q 29 9 5 Try.underlying29 Try.underlying5 Try.underlying9 hSw.2.2.2.1;(try dsimp only at hSw);go_simp;(try with_reducible rfl))
    rotate_left
    try simp only [Act.put,zq0,zq1,zq2,zq3,zq4,zq5]
    refine wpAnyH_take (i:=31) (v:=?_) rfl (by kernel_rfl) (by kernel_rfl) (by kernel_rfl) (fun _ _ _ h=>h) (Or.inl ⟨by rfl,?_⟩) hS ?_
    rotate_left
    · (intro w hSw;(try dsimp only at hSw);go_simp;(try with_reducible rfl))
    rotate_left
    simp only [Act.put,zq0,zq1,zq2,zq3,zq4,zq5]
    refine wpAnyH_take (i:=32) (v:=?_) rfl (by kernel_rfl) (by kernel_rfl) (by kernel_rfl) (fun _ _ _ h=>h) (Or.inl ⟨by rfl,?_⟩) hS ?_
    rotate_left
    · (intro w hSw;(try dsimp only at hSw);go_simp;(try with_reducible rfl))
    rotate_left
    simp only [Act.put,zq0,zq1,zq2,zq3,zq4,zq5]
    refine wpAnyH_take (i:=33) (v:=?_) rfl (by kernel_rfl) (by kernel_rfl) (by kernel_rfl) (fun _ _ _ h=>h) (Or.inl ⟨by rfl,?_⟩) hS ?_
    rotate_left
    · (intro w hSw;(try dsimp only at hSw);go_simp;(try with_reducible rfl))
    rotate_left
    simp only [Act.put,zq0,zq1,zq2,zq3,zq4,zq5]
    refine wpAnyH_take (i:=34) (v:=?_) rfl (by kernel_rfl) (by kernel_rfl) (by kernel_rfl) (fun _ _ _ h=>h) (Or.inl ⟨by rfl,?_⟩) hS ?_
    rotate_left
    · (intro w hSw;(try dsimp only at hSw);go_simp;(try with_reducible rfl))
    rotate_left
    simp only [Act.put,zq0,zq1,zq2,zq3,zq4,zq5]
    refine wpAnyH_take (i:=35) (v:=?_) rfl (by kernel_rfl) (by kernel_rfl) (by kernel_rfl) (fun _ _ _ h=>h) (Or.inl ⟨by rfl,?_⟩) hS ?_
    rotate_left
    · (intro w hSw;(try dsimp only at hSw);go_simp;(try with_reducible rfl))
    rotate_left
    simp only [Act.put,zq0,zq1,zq2,zq3,zq4,zq5]
    refine wpAnyH_take (i:=36) (v:=?_) rfl (by kernel_rfl) (by kernel_rfl) (by kernel_rfl) (fun _ _ _ h=>h) (Or.inl ⟨by rfl,?_⟩) hS ?_
    rotate_left
    · (intro w hSw;have sq:=run_string_bs (P:=Try.prog) r 29 9 5 Try.underlying29 Try.underlying5 Try.underlying9 hSw.2.2.2.2;(try dsimp only at hSw);go_simp;(try with_reducible rfl))
    rotate_left
    try simp only [Act.put,zq0,zq1,zq2,zq3,zq4,zq5]
    refine wpAnyH_take (i:=37) (v:=?_) rfl (by kernel_rfl) (by kernel_rfl) (by kernel_rfl) (fun _ _ _ h=>h) (Or.inl ⟨by rfl,?_⟩) hS ?_
    rotate_left
    · (intro w hSw;(try dsimp only at hSw);go_simp;(try with_reducible rfl))
    rotate_left
    simp only [Act.put,zq0,zq1,zq2,zq3,zq4,zq5]
    refine wpAnyH_take (i:=38) (v:=?_) rfl (by kernel_rfl) (by kernel_rfl) (by kernel_rfl) (fun _ _ _ h=>h) (Or.inl ⟨by rfl,?_⟩) hS ?_
    rotate_left
    · (intro w hSw;(try dsimp only at hSw);go_simp;(try with_reducible rfl))
    rotate_left
    simp only [Act.put,zq0,zq1,zq2,zq3,zq4,zq5]
    refine wpAnyH_take (i:=39) (v:=?_) rfl (by kernel_rfl) (by kernel_rfl) (by kernel_rfl) (fun _ _ _ h=>h) (Or.inl ⟨by rfl,?_⟩) hS ?_
    rotate_left
    · (intro w hSw;(try dsimp only at hSw);go_simp;(try with_reducible rfl))
    rotate_left
    simp only [Act.put,zq0,zq1,zq2,zq3,zq4,zq5]
    refine wpAnyH_take (i:=40) (v:=?_) rfl (by kernel_rfl) (by kernel_rfl) (by kernel_rfl) (fun _ _ _ h=>h) (Or.inl ⟨by rfl,?_⟩) hS ?_
    rotate_left
    · (intro w hSw;(try dsimp only at hSw);go_simp;(try with_reducible rfl))
    rotate_left
    simp only [Act.put,zq0,zq1,zq2,zq3,zq4,zq5]
    refine wpAnyH_take (i:=41) (v:=?_) rfl (by kernel_rfl) (by kernel_rfl) (by kernel_rfl) (fun _ _ _ h=>h) (Or.inl ⟨by rfl,?_⟩) hS ?_
    rotate_left
    · (intro w hSw;(try dsimp only at hSw);go_simp;(try with_reducible rfl))
    rotate_left
    simp only [Act.put,zq0,zq1,zq2,zq3,zq4,zq5]
    refine wpAnyH_take (i:=42) (v:=?_) rfl (by kernel_rfl) (by kernel_rfl) (by kernel_rfl) (fun _ _ _ h=>h) (Or.inl ⟨by rfl,?_⟩) hS ?_
    rotate_left
    · (intro w hSw;(try dsimp only at hSw);go_simp;(try with_reducible rfl))
    rotate_left
    simp only [Act.put,zq0,zq1,zq2,zq3,zq4,zq5]
    refine wpAnyH_take (i:=43) (v:=?_) rfl (by kernel_rfl) (by kernel_rfl) (by kernel_rfl) (fun _ _ _ h=>h) (Or.inl ⟨by rfl,?_⟩) hS ?_
    rotate_left
    · (intro w hSw;(try dsimp only at hSw);go_simp;(try with_reducible rfl))
    rotate_left
    simp only [Act.put,zq0,zq1,zq2,zq3,zq4,zq5]
    refine wpAnyH_take (i:=44) (v:=?_) rfl (by kernel_rfl) (by kernel_rfl) (by kernel_rfl) (fun _ _ _ h=>h) (Or.inl ⟨by rfl,?_⟩) hS ?_
    rotate_left
    · (intro w hSw;(try dsimp only at hSw);go_simp;(try with_reducible rfl))
    rotate_left
    simp only [Act.put,zq0,zq1,zq2,zq3,zq4,zq5]
    refine wpAnyH_take (i:=45) (v:=?_) rfl (by kernel_rfl) (by kernel_rfl) (by kernel_rfl) (fun _ _ _ h=>h) (Or.inl ⟨by rfl,?_⟩) hS ?_
    rotate_left
    · (intro w hSw;(try dsimp only at hSw);go_simp;(try with_reducible rfl))
    rotate_left
    simp only [Act.put,zq0,zq1,zq2,zq3,zq4,zq5]
    refine wpAnyH_take (i:=46) (v:=?_) rfl (by kernel_rfl) (by kernel_rfl) (by kernel_rfl) (fun _ _ _ h=>h) (Or.inl ⟨by rfl,?_⟩) hS ?_
    rotate_left
    · (intro w hSw;(try dsimp only at hSw);go_simp;(try with_reducible rfl))
    rotate_left
    simp only [Act.put,zq0,zq1,zq2,zq3,zq4,zq5]
    refine wpAnyH_take (i:=47) (v:=?_) rfl (by kernel_rfl) (by kernel_rfl) (by kernel_rfl) (fun _ _ _ h=>h) (Or.inl ⟨by rfl,?_⟩) hS ?_
    rotate_left
    · (intro w hSw;(try dsimp only at hSw);go_simp;(try with_reducible rfl))
    rotate_left
    simp only [Act.put,zq0,zq1,zq2,zq3,zq4,zq5]
    refine wpAnyH_take (i:=48) (v:=?_) rfl (by kernel_rfl) (by kernel_rfl) (by kernel_rfl) (fun _ _ _ h=>h) (Or.inl ⟨by rfl,?_⟩) hS ?_
    rotate_left
    · (intro w hSw;(try dsimp only at hSw);go_simp;(try with_reducible rfl))
    rotate_left
    simp only [Act.put,zq0,zq1,zq2,zq3,zq4,zq5]
    refine wpAnyH_take (i:=49) (v:=?_) rfl (by kernel_rfl) (by kernel_rfl) (by kernel_rfl) (fun _ _ _ h=>h) (Or.inl ⟨by rfl,?_⟩) hS ?_
    rotate_left
    · (intro w hSw;(try dsimp only at hSw);go_simp;(try with_reducible rfl))
    rotate_left
    simp only [Act.put,zq0,zq1,zq2,zq3,zq4,zq5]
    refine wpAnyH_take (i:=50) (v:=?_) rfl (by kernel_rfl) (by kernel_rfl) (by kernel_rfl) (fun _ _ _ h=>h) (Or.inl ⟨by rfl,?_⟩) hS ?_
    rotate_left
    · (intro w hSw;(try dsimp only at hSw);go_simp;(try with_reducible rfl))
    rotate_left
    simp only [Act.put,zq0,zq1,zq2,zq3,zq4,zq5]
    refine wpAnyH_take (i:=51) (v:=?_) rfl (by kernel_rfl) (by kernel_rfl) (by kernel_rfl) (fun _ _ _ h=>h) (Or.inl ⟨by rfl,?_⟩) hS ?_
    rotate_left
    · (intro w hSw;(try dsimp only at hSw);go_simp;(try with_reducible rfl))
    rotate_left
    simp only [Act.put,zq0,zq1,zq2,zq3,zq4,zq5]
    refine wpAnyH_done (by kernel_rfl) ?_ _
    have HB2:=Lib.hid (Ext.trans HB1.out hS.1)
    clear hS HS hrr hmm
    go_wp2
    go_roundw
    case rel=>exact ⟨1,Nat.le_refl _,(by first | rfl | go_num),HB2.out⟩
    case measure=>simp [intOf]
  · have hj1 : j = 1:=by omega
    subst hj1
    have HB1:=Lib.hid b1
    clear h1 h2 hd he b1 hj
    go_wp2
    go_ret
    exact ⟨rfl,HB1.out⟩
end Go.Proofs.Ytclbihcggjjgaaa
