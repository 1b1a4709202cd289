/- What this claim needs of my texts, merged and shortened by a program (part 7). -/
import Derived.Test.YthapabjlhooglaaZFlightAdds6
namespace Go.Proofs.Ythapabjlhooglaa
open Go Go.RowKit
set_option linter.unusedSimpArgs false
set_option linter.unusedVariables false
def DlIn (W1 : World) (Sj : Nat → Prop) (y : FlTy.T) (vd vs vq vx : Value) (hs : List Value) (T : Nat → Prop) (wx : World) : Prop:=
 FlEs wx Sj y vd vs vq vx hs T ∧ (∀ b,b < W1.heap.size → ¬ Sj b → wx.heap[b]? = W1.heap[b]?) ∧ W1.heap.size ≤ wx.heap.size
section
variable {W1 wx w' : World} {Sj T : Nat → Prop} {y : FlTy.T} {vd vs vq vx : Value} {hs : List Value}
theorem DlIn.next (h : DlIn W1 Sj y vd vs vq vx hs T wx) (hb : Below wx.heap.size wx w') (hl : ∀ b,Sj b → b < W1.heap.size) : DlIn W1 Sj y vd vs vq vx hs T w':=
 ⟨h.1.frame fun b hj=>hb.block b (Nat.lt_of_lt_of_le (hl b hj) h.2.2),fun b h1 h2=>(hb.block b (Nat.lt_of_lt_of_le h1 h.2.2)).trans (h.2.1 b h1 h2),Nat.le_trans h.2.2 hb.size⟩
theorem DlIn.box (h : DlIn W1 Sj y vd vs vq vx hs T wx) {g : Nat} {cs : Array Value} {t : TypeId} (hg : BoxOf W1 g cs t) (hn : ¬ Sj g) : BoxOf wx g cs t:=by
 unfold BoxOf at *
 rw [h.2.1 g (BoxOf.lt hg) hn]
 exact hg
theorem DlIn.done {F : Nat → Prop} {wr : World} (h : DlIn W1 Sj y vd vs vq vx hs T wx) (hw : Below wr.heap.size wr W1) (hF : ∀ b,F b → b < wr.heap.size) : (∀ b,F b → ¬ Sj b → wx.heap[b]? = wr.heap[b]?):=
 fun b h1 h2=>(h.2.1 b (Nat.lt_of_lt_of_le (hF b h1) hw.size) h2).trans (hw.block b (hF b h1))
end
end Go.Proofs.Ythapabjlhooglaa
namespace Go.Proofs.Ythapabjlhooglaa
open Go Go.RowKit
set_option linter.unusedSimpArgs false
set_option linter.unusedVariables false
theorem kind4_none {x : Cfg} {k a y : Int} {n : Nat} (h : askCode x k a y n = 0) (hk : k = 4 ∨ k = 6) : y = 0:=by
 obtain ⟨_,hpl,_,hy,_,_⟩:=askCode_0 h
 unfold Placed at hpl
 rcases hk with rfl | rfl
 · rcases hpl with h1 | h1
   · exact absurd h1.1 (by decide)
   · omega
 · rcases hpl with h1 | h1
   · exact absurd h1.1 (by decide)
   · omega
end Go.Proofs.Ythapabjlhooglaa
namespace Go.Proofs.Ythapabjlhooglaa
open Go Go.RowKit
set_option linter.unusedSimpArgs false
set_option linter.unusedVariables false
set_option maxRecDepth 100000 in
set_option maxHeartbeats 4000000 in
theorem reach_any (S : Nat → Prop) (x : Cfg) (f : FlTy.T) (Ab : Option Addr) (cb : Nat) (As : Option Addr) (cs : Nat) (Aq : Option Addr) (cq : Nat) (Ax : Option Addr) (cx : Nat) (w : World) (hS : RdIn w S (.sl .byte) (fS f) [.slice As (fS f).length cs]) (hQ : RdIn w S (.sl .u32) (fQ f) [.slice Aq (fQ f).length cq]) (hX : RdIn w S (.sl (.sl .byte)) (fB f) [.slice Ax (fB f).length cx]) :
 Calls Try.prog 68 #[x.val,.agg #[.int .i64 (fN f),.int .u8 (kI f),.int .i64 (fA f),.int .i64 (fM f),.slice Ab (fD f).length cb,.slice As (fS f).length cs,.slice Aq (fQ f).length cq,.slice Ax (fB f).length cx]] w fun e w'=>e = .returned (.bool (oneB x f)) ∧ Below w.heap.size w w':=by
 have HB:=Lib.hid (fun w=>rcheck_all x (kI f) (fA f) (fM f) Ab (fD f).length cb w)
 have HCD : Hid (codeF x f = askCode x (kI f) (fA f) (fM f) (fD f).length):=rfl
 obtain ⟨E,hE⟩ : ∃ z : Int,z = codeF x f:=⟨_,rfl⟩
 rw [← hE] at HCD
 rw [← HCD.out] at HB
 have HEC:=Lib.hid hE
 have HPM : Hid (E = 0 → ∃ m : Nat,fM f = (m : Int) ∧ m ≤ 8 ∧ (kI f = 4 → m = 0)):=fun h0=>by
  have hcode : codeF x f = 0:=by rw [← HEC.out];exact h0
  obtain ⟨_,_,_,hy,_,_⟩:=askCode_0 hcode
  refine ⟨(fM f).toNat,by omega,by omega,fun h4=>?_⟩
  have:=kind4_none (x:=x) (n:=(fD f).length) hcode (.inl h4)
  omega
 clear hE HCD
 obtain ⟨id,m',c,r,l,h⟩:=x
 unfold Cfg.val at *
 dsimp only at *
 have P0:=BoxOf.new' (w.alloc (.cells #[.int .u32 (id : Int),.int .i64 m',.int .i64 c,.int .i64 r,.int .i64 l,.int .i64 h] 24)) (w.heap.size + 1) #[.int .i64 (fN f),.int .u8 (kI f),.int .i64 (fA f),.int .i64 (fM f),.slice Ab (fD f).length cb,.slice As (fS f).length cs,.slice Aq (fQ f).length cq,.slice Ax (fB f).length cx] 67 (by simp)
 have t0:=Ext.alloc (Ext.alloc (Below.refl w.heap.size w) (.cells #[.int .u32 (id : Int),.int .i64 m',.int .i64 c,.int .i64 r,.int .i64 l,.int .i64 h] 24)) (.cells #[.int .i64 (fN f),.int .u8 (kI f),.int .i64 (fA f),.int .i64 (fM f),.slice Ab (fD f).length cb,.slice As (fS f).length cs,.slice Aq (fQ f).length cq,.slice Ax (fB f).length cx] 67)
 have C0:=BoxOf.alloc (BoxOf.new w #[.int .u32 (id : Int),.int .i64 m',.int .i64 c,.int .i64 r,.int .i64 l,.int .i64 h] 24) (.cells #[.int .i64 (fN f),.int .u8 (kI f),.int .i64 (fA f),.int .i64 (fM f),.slice Ab (fD f).length cb,.slice As (fS f).length cs,.slice Aq (fQ f).length cq,.slice Ax (fB f).length cx] 67)
 have HS:=Lib.hid (hS.below t0)
 have HQ:=Lib.hid (hQ.below t0)
 have HX:=Lib.hid (hX.below t0)
 clear hS hQ hX
 go_enter Try.func68,Try.ntmps68
 go_upto_region 1 with fail
 generalize (w.alloc (.cells #[.int .u32 (id : Int),.int .i64 m',.int .i64 c,.int .i64 r,.int .i64 l,.int .i64 h] 24)).alloc (.cells #[.int .i64 (fN f),.int .u8 (kI f),.int .i64 (fA f),.int .i64 (fM f),.slice Ab (fD f).length cb,.slice As (fS f).length cs,.slice Aq (fQ f).length cq,.slice Ax (fB f).length cx] 67) = W at *
 have x0:=P0.cell
 have y0:=C0.cell
 rcases Bool.eq_false_or_eq_true (decide (fN f < 1)) with e1 | e1
 · have HNO : Hid (oneB (⟨id,m',c,r,l,h⟩ : Cfg) f = false):=oneB_no fun ht=>by
    obtain ⟨h1,h2,_⟩:=oneB_iff.1 ht
    have:=of_decide_eq_true e1;omega
   go_wp2
   go_ret
   exact ⟨by first | rfl | (rw [HNO.out];rfl),t0⟩
 have HE1:=Lib.hid e1
 go_wp2_with fail
 refine (HB.out _).mono ?_
 rintro e w1 ⟨rfl,b1⟩
 have t1:=Ext.trans t0 b1
 have P1:=P0.next b1
 have HS1:=Lib.hid (HS.out.below b1)
 have HQ1:=Lib.hid (HQ.out.below b1)
 have HX1:=Lib.hid (HX.out.below b1)
 clear x0 y0 C0 P0 HB HS HQ HX t0 b1 e1
 by_cases h0 : E = 0
 rotate_left
 · have HNO : Hid (oneB (⟨id,m',c,r,l,h⟩ : Cfg) f = false):=oneB_no fun ht=>h0 (HEC.out.trans (oneB_iff.1 ht).1)
   have e2 : (E != 0) = true:=by simpa using h0
   go_wp2
   go_ret
   exact ⟨by first | rfl | (rw [HNO.out];rfl),t1⟩
 have HC : Hid (codeF (⟨id,m',c,r,l,h⟩ : Cfg) f = 0):=by show _ = _;rw [← HEC.out];exact h0
 obtain ⟨m,hm,hm8,hk4⟩:=HPM.out h0
 have HM:=Lib.hid hm
 have HK:=Lib.hid hk4
 have HM8:=Lib.hid hm8
 subst h0
 rw [hm] at P1
 clear hm hm8 hk4 HPM HEC
 go_upto_region 3 with fail
 have HSX : Hid (∀ w',Below w1.heap.size w1 w' → (Below w1.heap.size w1 w' ∧ (∀ p,w'.cell? ⟨w.heap.size + 1,p,none⟩ = (#[.int .i64 (fN f),.int .u8 (kI f),.int .i64 (fA f),.int .i64 (m : Int),.slice Ab (fD f).length cb,.slice As (fS f).length cs,.slice Aq (fQ f).length cq,.slice Ax (fB f).length cx] : Array Value).toList[p]?))):=fun w' bb=>⟨bb,(P1.next bb).cell⟩
 have HSD:=HSX.out _ (Ext.drew (Below.refl w1.heap.size w1))
 refine wp_region_held_drew (S:=fun w'=>Below w1.heap.size w1 w' ∧ (∀ p,w'.cell? ⟨w.heap.size + 1,p,none⟩ = (#[.int .i64 (fN f),.int .u8 (kI f),.int .i64 (fA f),.int .i64 (m : Int),.slice Ab (fD f).length cb,.slice As (fS f).length cs,.slice Aq (fQ f).length cq,.slice Ax (fB f).length cx] : Array Value).toList[p]?)) (by kernel_rfl) HSD (fun hS=>?_)
 clear HSD
 refine wpAnyH_take (i:=0) (v:=?_) rfl (by kernel_rfl) (by kernel_rfl) (by kernel_rfl) (fun _ _ _ h=>h) (Or.inl ⟨by rfl,?_⟩) hS ?_
 rotate_left
 · (intro w hSw;(try dsimp only at hSw);go_simp;(try with_reducible rfl))
 rotate_left
 simp only [Act.put,zq0,zq1,zq2,zq3,zq4,zq5]
 refine wpAnyH_take (i:=1) (v:=?_) rfl (by kernel_rfl) (by kernel_rfl) (by kernel_rfl) (fun _ _ _ h=>h) (Or.inl ⟨by rfl,?_⟩) hS ?_
 rotate_left
 · (intro w hSw;(try dsimp only at hSw);go_simp;(try with_reducible rfl))
 rotate_left
 simp only [Act.put,zq0,zq1,zq2,zq3,zq4,zq5]
 refine wpAnyH_take (i:=2) (v:=?_) rfl (by kernel_rfl) (by kernel_rfl) (by kernel_rfl) (fun _ _ _ h=>h) (Or.inl ⟨by rfl,?_⟩) hS ?_
 rotate_left
 · (intro w hSw;(try dsimp only at hSw);go_simp;(try with_reducible rfl))
 rotate_left
 simp only [Act.put,zq0,zq1,zq2,zq3,zq4,zq5]
 refine wpAnyH_take (i:=3) (v:=?_) rfl (by kernel_rfl) (by kernel_rfl) (by kernel_rfl) (fun _ _ _ h=>h) (Or.inl ⟨by rfl,?_⟩) hS ?_
 rotate_left
 · (intro w hSw;(try dsimp only at hSw);go_simp;(try with_reducible rfl))
 rotate_left
 simp only [Act.put,zq0,zq1,zq2,zq3,zq4,zq5]
 refine wpAnyH_take (i:=4) (v:=?_) rfl (by kernel_rfl) (by kernel_rfl) (by kernel_rfl) (fun _ _ _ h=>h) (Or.inl ⟨by rfl,?_⟩) hS ?_
 rotate_left
 · (intro w hSw;(try dsimp only at hSw);go_simp;(try with_reducible rfl))
 rotate_left
 simp only [Act.put,zq0,zq1,zq2,zq3,zq4,zq5]
 refine wpAnyH_take (i:=5) (v:=?_) rfl (by kernel_rfl) (by kernel_rfl) (by kernel_rfl) (fun _ _ _ h=>h) (Or.inl ⟨by rfl,?_⟩) hS ?_
 rotate_left
 · (intro w hSw;(try dsimp only at hSw);go_simp;(try with_reducible rfl))
 rotate_left
 simp only [Act.put,zq0,zq1,zq2,zq3,zq4,zq5]
 refine wpAnyH_take (i:=6) (v:=?_) rfl (by kernel_rfl) (by kernel_rfl) (by kernel_rfl) (fun _ _ _ h=>h) (Or.inl ⟨by rfl,?_⟩) hS ?_
 rotate_left
 · (intro w hSw;(try dsimp only at hSw);go_simp;(try with_reducible rfl))
 rotate_left
 simp only [Act.put,zq0,zq1,zq2,zq3,zq4,zq5]
 refine wpAnyH_take (i:=7) (v:=?_) rfl (by kernel_rfl) (by kernel_rfl) (by kernel_rfl) (fun _ _ _ h=>h) (Or.inl ⟨by rfl,?_⟩) hS ?_
 rotate_left
 · (intro w hSw;(try dsimp only at hSw);go_simp;(try with_reducible rfl))
 rotate_left
 simp only [Act.put,zq0,zq1,zq2,zq3,zq4,zq5]
 refine wpAnyH_done (by kernel_rfl) ?_ _
 have bd:=hS.1
 have P2:=P1.next bd
 have t2:=Ext.trans t1 bd
 have HS2:=Lib.hid (HS1.out.below bd)
 have HQ2:=Lib.hid (HQ1.out.below bd)
 have HX2:=Lib.hid (HX1.out.below bd)
 have x2:=P2.cell
 clear hS HSX P1 t1 bd HS1 HQ1 HX1
 generalize w1.drew = w2 at *
 obtain ⟨k4,h4⟩ : ∃ b,(kI f == 4) = b:=⟨_,rfl⟩
 obtain ⟨sq,hsq⟩ : ∃ z : Nat,z = if k4 then 1 else m:=⟨_,rfl⟩
 have HSQ : Hid (((if kI f = 4 then 1 else fM f) : Int) = (sq : Int)):=by
  show _ = _
  rw [hsq,HM.out]
  cases k4
  · rw [if_neg (by simpa using h4)];rfl
  · rw [if_pos (by simpa using h4)];rfl
 have HSQ2 : Hid (m ≤ sq):=by
  show m ≤ sq
  rw [hsq]
  cases k4
  · exact Nat.le_refl _
  · have:=HK.out (by simpa using h4);simp;omega
 have hsq0 : k4 = false → sq = m:=fun h=>by rw [hsq,h];rfl
 have hsq1 : k4 = true → sq = 1:=fun h=>by rw [hsq,h];rfl
 clear hsq
 cases k4 with
 | true=>
   as_aux_lemma=>
   obtain rfl:=hsq1 rfl
   clear hsq0 hsq1
   rcases Bool.eq_false_or_eq_true ((((fS f).length : Int) != (m : Int))) with e1 | e1
   · have HNO : Hid (oneB (⟨id,m',c,r,l,h⟩ : Cfg) f = false):=oneB_no fun ht=>by
      obtain ⟨h1,h2,h3,h4',h5,h6⟩:=oneB_iff.1 ht
      have hM:=HM.out
      rw [h3,hM] at e1;simp at e1
     go_wp2
     go_ret
     exact ⟨by first | rfl | (rw [HNO.out];rfl),t2⟩
   have HE2:=Lib.hid e1
   rcases Bool.eq_false_or_eq_true ((((fB f).length : Int) != (m : Int))) with e2 | e2
   · have HNO : Hid (oneB (⟨id,m',c,r,l,h⟩ : Cfg) f = false):=oneB_no fun ht=>by
      obtain ⟨h1,h2,h3,h4',h5,h6⟩:=oneB_iff.1 ht
      have hM:=HM.out
      rw [h4',hM] at e2;simp at e2
     go_wp2
     go_ret
     exact ⟨by first | rfl | (rw [HNO.out];rfl),t2⟩
   have HE3:=Lib.hid e2
   rcases Bool.eq_false_or_eq_true ((((fQ f).length : Int) != (1 : Int))) with e3 | e3
   · have HNO : Hid (oneB (⟨id,m',c,r,l,h⟩ : Cfg) f = false):=oneB_no fun ht=>by
      obtain ⟨h1,h2,h3,h4',h5,h6⟩:=oneB_iff.1 ht
      have hQ':=HSQ.out
      rw [h5,hQ'] at e3;simp at e3
     go_wp2
     go_ret
     exact ⟨by first | rfl | (rw [HNO.out];rfl),t2⟩
   have HE4:=Lib.hid e3
   have HSZ : Hid ((fS f).length = m ∧ (fB f).length = m ∧ m ≤ (fQ f).length):=by
    have h1:=HE2.out
    have h2:=HE3.out
    have h3:=HE4.out
    have h4:=HSQ2.out
    show _ ∧ _ ∧ _
    simp at h1 h2 h3
    omega
   go_wp2
   obtain ⟨wo,hwo⟩ : ∃ z : World,z = w2:=⟨_,rfl⟩
   rw [← hwo] at t2 P2 HS2 HQ2 HX2
   have bo : Below wo.heap.size wo w2:=by rw [hwo];exact Below.refl _ _
   clear hwo e1 e2 e3
   go_loopw [7] (fun i wr=>∃ (j : Nat),j ≤ m ∧ i = .int .i64 (j : Int) ∧ Below wo.heap.size wo wr ∧ Hid (∀ i,i < j → BlkAt f i)) (fun i _=>m - (intOf i).toNat)
   case atStart=>exact ⟨0,by omega,rfl,bo,fun i h=>absurd h (Nat.not_lt_zero _)⟩
   case round=>
    obtain ⟨j,hj,rfl,b3,HA⟩:=hrel
    clear bo
    have P3:=P2.next b3
    have t3:=Ext.trans t2 b3
    by_cases hlt : j < m
    · have z1 : j < (fS f).length:=by have:=HSZ.out.1;omega
      have z2 : j < (fB f).length:=by have:=HSZ.out.2.1;omega
      have z3 : j < (fQ f).length:=by have:=HSZ.out.2.2;omega
      obtain ⟨bs,os,rfl,ks⟩:=st_at (HS2.out.below b3) z1
      obtain ⟨bq,oq,rfl,kq⟩:=sq_at (HQ2.out.below b3) z3
      obtain ⟨bx,ox,D,cD,rfl,kx,rx⟩:=val_at (HX2.out.below b3) z2
      have HBL:=Lib.hid (rpart_any (fN f) (kI f) (fA f) (m : Int) Ab (fD f).length cb (fS f).length cs (fQ f).length cq (fB f).length cx j (fS f)[j].toNat (fQ f)[j] ((fB f)[j]).length cD bs os bq oq bx ox D wr z1 z3 z2 ks kq kx)
      have HAT : Hid (BlkAt f j ↔ blkP (kI f) (fS f)[j].toNat (fQ f)[j] ((fB f)[j]).length = true):=⟨fun h=>h z1 z3 z2,fun h _ _ _=>h⟩
      generalize blkP (kI f) (fS f)[j].toNat (fQ f)[j] ((fB f)[j]).length = bb at *
      have HLJ:=Lib.hid hlt
      have HWJ : Hid (wrap64 ((j : Int) + 1) = ((j + 1 : Nat) : Int)):=by show _ = _;have:=HM8.out;rw [IntWalk.wrap64_in _ (by omega)];omega
      have x3:=P3.cell
      clear rx z1 z2 z3 ks kq kx P3
      go_wp2_with fail
      refine HBL.out.mono ?_
      rintro e w4 ⟨rfl,b4⟩
      have b5:=Ext.trans b3 b4
      have t5:=Ext.trans t3 b4
      clear x3 HBL
      cases bb with
      | false=>
        have HNO : Hid (oneB (⟨id,m',c,r,l,h⟩ : Cfg) f = false):=oneB_no fun ht=>by
         obtain ⟨h1,h2,h3,h4',h5,h6⟩:=oneB_iff.1 ht
         have h7:=(blksB_iff (by have:=HSZ.out;omega) (by have:=HSZ.out;omega)).1 h6 j
         exact absurd (HAT.out.1 (fun a b c=>h7 a b c)) (by decide)
        go_wp2
        go_ret
        exact ⟨by first | rfl | (rw [HNO.out];rfl),t5⟩
      | true=>
        have HA' : Hid (∀ i,i < j + 1 → BlkAt f i):=by
         intro i hi
         by_cases h : i = j
         · subst h
           exact HAT.out.2 (by first | rfl | trivial)
         · exact HA.out i (by omega)
        go_wp2
        go_roundw
        case rel=>exact ⟨j + 1,HLJ.out,by first | rfl | exact round_same HWJ | go_num,b5,HA'⟩
        case measure=>first | exact round_less HWJ HLJ.out | (have h:=HLJ.out;simp [intOf];omega)
    · have HYE : Hid (oneB (⟨id,m',c,r,l,h⟩ : Cfg) f = true):=oneB_iff.2 ⟨HC.out,by have:=of_decide_eq_false HE1.out;omega,by rw [HM.out];have:=HSZ.out;omega,by rw [HM.out];have:=HSZ.out;omega,by rw [HSQ.out];have h:=HE4.out;simpa using h,(blksB_iff (by have:=HSZ.out;omega) (by have:=HSZ.out;omega)).2 fun i a b c=>HA.out i (by have:=HSZ.out;omega) a b c⟩
      clear b3 P3
      go_wp2
      go_ret
      exact ⟨by first | rfl | (rw [HYE.out];rfl),t3⟩
 | false=>
   as_aux_lemma=>
   have hq:=(hsq0 rfl).symm
   subst hq
   clear hsq0 hsq1
   rcases Bool.eq_false_or_eq_true ((((fS f).length : Int) != (m : Int))) with e1 | e1
   · have HNO : Hid (oneB (⟨id,m',c,r,l,h⟩ : Cfg) f = false):=oneB_no fun ht=>by
      obtain ⟨h1,h2,h3,h4',h5,h6⟩:=oneB_iff.1 ht
      have hM:=HM.out
      rw [h3,hM] at e1;simp at e1
     go_wp2
     go_ret
     exact ⟨by first | rfl | (rw [HNO.out];rfl),t2⟩
   have HE2:=Lib.hid e1
   rcases Bool.eq_false_or_eq_true ((((fB f).length : Int) != (m : Int))) with e2 | e2
   · have HNO : Hid (oneB (⟨id,m',c,r,l,h⟩ : Cfg) f = false):=oneB_no fun ht=>by
      obtain ⟨h1,h2,h3,h4',h5,h6⟩:=oneB_iff.1 ht
      have hM:=HM.out
      rw [h4',hM] at e2;simp at e2
     go_wp2
     go_ret
     exact ⟨by first | rfl | (rw [HNO.out];rfl),t2⟩
   have HE3:=Lib.hid e2
   rcases Bool.eq_false_or_eq_true ((((fQ f).length : Int) != (m : Int))) with e3 | e3
   · have HNO : Hid (oneB (⟨id,m',c,r,l,h⟩ : Cfg) f = false):=oneB_no fun ht=>by
      obtain ⟨h1,h2,h3,h4',h5,h6⟩:=oneB_iff.1 ht
      have hQ':=HSQ.out
      rw [h5,hQ'] at e3;simp at e3
     go_wp2
     go_ret
     exact ⟨by first | rfl | (rw [HNO.out];rfl),t2⟩
   have HE4:=Lib.hid e3
   have HSZ : Hid ((fS f).length = m ∧ (fB f).length = m ∧ m ≤ (fQ f).length):=by
    have h1:=HE2.out
    have h2:=HE3.out
    have h3:=HE4.out
    have h4:=HSQ2.out
    show _ ∧ _ ∧ _
    simp at h1 h2 h3
    omega
   go_wp2
   obtain ⟨wo,hwo⟩ : ∃ z : World,z = w2:=⟨_,rfl⟩
   rw [← hwo] at t2 P2 HS2 HQ2 HX2
   have bo : Below wo.heap.size wo w2:=by rw [hwo];exact Below.refl _ _
   clear hwo e1 e2 e3
   go_loopw [7] (fun i wr=>∃ (j : Nat),j ≤ m ∧ i = .int .i64 (j : Int) ∧ Below wo.heap.size wo wr ∧ Hid (∀ i,i < j → BlkAt f i)) (fun i _=>m - (intOf i).toNat)
   case atStart=>exact ⟨0,by omega,rfl,bo,fun i h=>absurd h (Nat.not_lt_zero _)⟩
   case round=>
    obtain ⟨j,hj,rfl,b3,HA⟩:=hrel
    clear bo
    have P3:=P2.next b3
    have t3:=Ext.trans t2 b3
    by_cases hlt : j < m
    · have z1 : j < (fS f).length:=by have:=HSZ.out.1;omega
      have z2 : j < (fB f).length:=by have:=HSZ.out.2.1;omega
      have z3 : j < (fQ f).length:=by have:=HSZ.out.2.2;omega
      obtain ⟨bs,os,rfl,ks⟩:=st_at (HS2.out.below b3) z1
      obtain ⟨bq,oq,rfl,kq⟩:=sq_at (HQ2.out.below b3) z3
      obtain ⟨bx,ox,D,cD,rfl,kx,rx⟩:=val_at (HX2.out.below b3) z2
      have HBL:=Lib.hid (rpart_any (fN f) (kI f) (fA f) (m : Int) Ab (fD f).length cb (fS f).length cs (fQ f).length cq (fB f).length cx j (fS f)[j].toNat (fQ f)[j] ((fB f)[j]).length cD bs os bq oq bx ox D wr z1 z3 z2 ks kq kx)
      have HAT : Hid (BlkAt f j ↔ blkP (kI f) (fS f)[j].toNat (fQ f)[j] ((fB f)[j]).length = true):=⟨fun h=>h z1 z3 z2,fun h _ _ _=>h⟩
      generalize blkP (kI f) (fS f)[j].toNat (fQ f)[j] ((fB f)[j]).length = bb at *
      have HLJ:=Lib.hid hlt
      have HWJ : Hid (wrap64 ((j : Int) + 1) = ((j + 1 : Nat) : Int)):=by show _ = _;have:=HM8.out;rw [IntWalk.wrap64_in _ (by omega)];omega
      have x3:=P3.cell
      clear rx z1 z2 z3 ks kq kx P3
      go_wp2_with fail
      refine HBL.out.mono ?_
      rintro e w4 ⟨rfl,b4⟩
      have b5:=Ext.trans b3 b4
      have t5:=Ext.trans t3 b4
      clear x3 HBL
      cases bb with
      | false=>
        have HNO : Hid (oneB (⟨id,m',c,r,l,h⟩ : Cfg) f = false):=oneB_no fun ht=>by
         obtain ⟨h1,h2,h3,h4',h5,h6⟩:=oneB_iff.1 ht
         have h7:=(blksB_iff (by have:=HSZ.out;omega) (by have:=HSZ.out;omega)).1 h6 j
         exact absurd (HAT.out.1 (fun a b c=>h7 a b c)) (by decide)
        go_wp2
        go_ret
        exact ⟨by first | rfl | (rw [HNO.out];rfl),t5⟩
      | true=>
        have HA' : Hid (∀ i,i < j + 1 → BlkAt f i):=by
         intro i hi
         by_cases h : i = j
         · subst h
           exact HAT.out.2 (by first | rfl | trivial)
         · exact HA.out i (by omega)
        go_wp2
        go_roundw
        case rel=>exact ⟨j + 1,HLJ.out,by first | rfl | exact round_same HWJ | go_num,b5,HA'⟩
        case measure=>first | exact round_less HWJ HLJ.out | (have h:=HLJ.out;simp [intOf];omega)
    · have HYE : Hid (oneB (⟨id,m',c,r,l,h⟩ : Cfg) f = true):=oneB_iff.2 ⟨HC.out,by have:=of_decide_eq_false HE1.out;omega,by rw [HM.out];have:=HSZ.out;omega,by rw [HM.out];have:=HSZ.out;omega,by rw [HSQ.out];have h:=HE4.out;simpa using h,(blksB_iff (by have:=HSZ.out;omega) (by have:=HSZ.out;omega)).2 fun i a b c=>HA.out i (by have:=HSZ.out;omega) a b c⟩
      clear b3 P3
      go_wp2
      go_ret
      exact ⟨by first | rfl | (rw [HYE.out];rfl),t3⟩
end Go.Proofs.Ythapabjlhooglaa
namespace Go.Proofs.Ythapabjlhooglaa
open Go Go.RowKit
set_option linter.unusedSimpArgs false
set_option linter.unusedVariables false
theorem any_take {ss : List UInt8} {p : UInt8 → Bool} {j : Nat} (hj : j < ss.length) : (ss.take (j + 1)).any p = ((ss.take j).any p || p ss[j]):=by
 rw [List.take_succ_eq_append_getElem hj,List.any_append]
 simp
set_option maxRecDepth 100000 in
set_option maxHeartbeats 2000000 in
theorem rwaits_any (S : Nat → Prop) (f : FlTy.T) (Ab : Option Addr) (cb : Nat) (As : Option Addr) (cs : Nat) (Aq : Option Addr) (cq : Nat) (Ax : Option Addr) (cx : Nat) (w : World) (hS : RdIn w S (.sl .byte) (fS f) [.slice As (fS f).length cs]) :
 Calls Try.prog 69 #[.agg #[.int .i64 (fN f),.int .u8 (kI f),.int .i64 (fA f),.int .i64 (fM f),.slice Ab (fD f).length cb,.slice As (fS f).length cs,.slice Aq (fQ f).length cq,.slice Ax (fB f).length cx]] w fun e w'=>e = .returned (.bool (!goesB f)) ∧ Below w.heap.size w w':=by
 have P0:=BoxOf.new w #[.int .i64 (fN f),.int .u8 (kI f),.int .i64 (fA f),.int .i64 (fM f),.slice Ab (fD f).length cb,.slice As (fS f).length cs,.slice Aq (fQ f).length cq,.slice Ax (fB f).length cx] 67
 have t0:=Ext.alloc (Below.refl w.heap.size w) (.cells #[.int .i64 (fN f),.int .u8 (kI f),.int .i64 (fA f),.int .i64 (fM f),.slice Ab (fD f).length cb,.slice As (fS f).length cs,.slice Aq (fQ f).length cq,.slice Ax (fB f).length cx] 67)
 have HS:=Lib.hid (hS.below t0)
 have HMX : Hid ((fS f).length ≤ maxLen):=byte_max hS
 have HGO : Hid ((fS f).any onB = goesB f):=onB_any
 clear hS
 go_enter Try.func69,Try.ntmps69
 go_upto_region 1 with fail
 generalize w.alloc (.cells #[.int .i64 (fN f),.int .u8 (kI f),.int .i64 (fA f),.int .i64 (fM f),.slice Ab (fD f).length cb,.slice As (fS f).length cs,.slice Aq (fQ f).length cq,.slice Ax (fB f).length cx] 67) = W at *
 go_wp2
 have bo : Below W.heap.size W W:=Below.refl _ _
 go_loopw [3] (fun i wr=>∃ (j : Nat),j ≤ (fS f).length ∧ i = .int .i64 (j : Int) ∧ Below W.heap.size W wr ∧ Hid (((fS f).take j).any onB = false)) (fun i _=>(fS f).length - (intOf i).toNat)
 case atStart=>exact ⟨0,Nat.zero_le _,rfl,bo,by show _ = _;rw [List.take_zero];rfl⟩
 case round=>
  obtain ⟨j,hj,rfl,b1,HA⟩:=hrel
  clear bo
  have t1:=Ext.trans t0 b1
  have x1:=(P0.next b1).cell
  by_cases hlt : j < (fS f).length
  · obtain ⟨b,off,rfl,ks⟩:=st_at (HS.out.below b1) hlt
    have HNX:=Lib.hid (any_take (p:=onB) hlt)
    have HIN : Hid (onB (fS f)[j] = true → goesB f = true):=fun h=>by rw [← HGO.out,List.any_eq_true];exact ⟨_,List.getElem_mem hlt,h⟩
    have HOD : Hid (onB (fS f)[j] = (((fS f)[j].toNat : Int) != 0)):=rfl
    have HWJ:=next_wrap HMX.out hlt
    obtain ⟨sn,hsn⟩ : ∃ z : Nat,z = (fS f)[j].toNat:=⟨_,rfl⟩
    rw [← hsn] at HOD ks
    obtain ⟨ob,hob⟩ : ∃ z : Bool,z = onB (fS f)[j]:=⟨_,rfl⟩
    rw [← hob] at HNX HIN HOD
    have HLJ:=Lib.hid hlt
    clear hsn hob
    rcases Bool.eq_false_or_eq_true ((sn : Int) != 0) with e1 | e1
    · have HF : Hid (goesB f = true):=HIN.out (HOD.out.trans e1)
      go_wp2
      go_ret
      exact ⟨by first | rfl | (rw [HF.out];rfl),t1⟩
    · have HA' : Hid (((fS f).take (j + 1)).any onB = false):=by show _ = _;rw [HNX.out,HA.out,HOD.out,e1];rfl
      go_wp2
      go_roundw
      case rel=>exact ⟨j + 1,HLJ.out,by first | rfl | exact round_same HWJ | go_num,b1,HA'⟩
      case measure=>first | exact round_less HWJ HLJ.out | (have h:=HLJ.out;simp [intOf];omega)
  · have HF : Hid (goesB f = false):=by
     have h1:=HA.out
     rw [List.take_of_length_le (by omega),HGO.out] at h1
     exact h1
    go_wp2
    go_ret
    exact ⟨by first | rfl | (rw [HF.out];rfl),t1⟩
theorem meet_codes {x : Cfg} {f g : FlTy.T} (h1 : codeF x f = 0) (h2 : codeF x g = 0) : meetB (kI f) (fA f) (fM f) (kI g) (fA g) (fM g) = meetF f g:=by
 have key : ∀ {f : FlTy.T},codeF x f = 0 → 0 ≤ fA f ∧ (1 ≤ fM f ∨ (fA f = 0 ∧ fM f = 0)):=fun {f} h=>by
  obtain ⟨_,hpl,_,hy,ha,_⟩:=askCode_0 h
  refine ⟨ha.1,?_⟩
  unfold Placed at hpl
  rcases hpl with h3 | h3
  · left;omega
  · right;omega
 unfold meetF
 exact meet_touch (key h1) (key h2)
set_option maxRecDepth 100000 in
set_option maxHeartbeats 4000000 in
theorem rfirst_any (S : Nat → Prop) (x : Cfg) (fs : List FlTy.T) (N d k : Nat) (B : Option Addr) (hk : k < fs.length) (hN : fs.length = N) (hc : ∀ i (h : i < fs.length),i ≤ k → codeF x fs[i] = 0) (w : World) (hr : RdIn w S (.sl FlTy) fs [.slice B N d]) :
 Calls Try.prog 42 #[.slice B N d,.int .i64 (k : Int)] w fun e w'=>e = .returned (.bool (firstB fs k)) ∧ Below w.heap.size w w':=by
 have HR:=Lib.hid hr
 have HNM : Hid (N ≤ maxLen):=by have:=fl_max hr;show N ≤ maxLen;omega
 have HNL:=Lib.hid hN
 have HCO:=Lib.hid hc
 have HK:=Lib.hid hk
 have HFI:=Lib.hid (firstB_iff hk)
 clear hr hN hc
 go_enter Try.func42,Try.ntmps42
 go_upto_region 1 with fail
 obtain ⟨W,hW⟩ : ∃ z : World,z = w:=⟨_,rfl⟩
 have b0 : Below W.heap.size W w:=by rw [hW];exact Below.refl _ _
 have HWW:=Lib.hid hW
 rw [← hW] at HR
 clear hW
 go_wp2
 go_loopw [5] (fun i wr=>∃ (j : Nat),j ≤ k ∧ i = .int .i64 (j : Int) ∧ Below W.heap.size W wr ∧ Hid (∀ i (hi : i < fs.length),i < j → meetF fs[i] (fs[k]'HK.out) = false)) (fun i _=>k - (intOf i).toNat)
 case atStart=>exact ⟨0,Nat.zero_le _,rfl,b0,fun i _ h=>absurd h (Nat.not_lt_zero _)⟩
 case round=>
  obtain ⟨j,hj,rfl,b1,HA⟩:=hrel
  clear b0
  have bw : Below w.heap.size w wr:=by have:=HWW.out;subst this;exact b1
  by_cases hlt : j < k
  · have hjf : j < fs.length:=by have:=HK.out;omega
    obtain ⟨b,off,Ab,cb,As,cs,Aq,cq,Ax,cx,rfl,q0,q1,q2,q3,q4,q5,q6,q7,hi,r1,r2,r3,r4⟩:=fl_at (HR.out.below b1) hjf
    obtain ⟨b',off',Ab2,cb2,_,_,_,_,_,_,eb,_,k1,k2,k3,k4,_⟩:=fl_at (HR.out.below b1) HK.out
    injection eb with eb
    injection eb with eb1 eb2 _
    rw [← eb1,← eb2] at k1 k2 k3 k4
    have hcj:=HCO.out j hjf (by omega)
    have hck:=HCO.out k HK.out (Nat.le_refl k)
    have HME:=Lib.hid (meet_codes hcj hck)
    have HNO : Hid (meetF fs[j] (fs[k]'HK.out) = true → firstB fs k = false):=fun h=>by
     cases h9 : firstB fs k with
     | false=>rfl
     | true=>
       have h8:=HFI.out.1 h9 j hlt
       rw [h8] at h
       cases h
    have HNX : Hid (meetF fs[j] (fs[k]'HK.out) = false → ∀ i (hi : i < fs.length),i < j + 1 → meetF fs[i] (fs[k]'HK.out) = false):=fun h i hi hij=>by
     by_cases e : i = j
     · subst e;exact h
     · exact HA.out i hi (by omega)
    obtain ⟨_,_,_,yj,aj,_⟩:=askCode_0 hcj
    obtain ⟨_,_,_,yk,ak,_⟩:=askCode_0 hck
    have HMC:=Lib.hid (fun w=>rmeet_any (kI fs[j]) (fA fs[j]) (fM fs[j]) (kI (fs[k]'HK.out)) (fA (fs[k]'HK.out)) (fM (fs[k]'HK.out)) Ab Ab2 (fD fs[j]).length cb (fD (fs[k]'HK.out)).length cb2 yj yk aj ak w)
    rw [HME.out] at HMC
    have HWJ:=next_wrap (show k ≤ maxLen by have h1:=HNM.out;have h2:=HK.out;have h3:=HNL.out;omega) hlt
    have HLJ:=Lib.hid hlt
    have hjN : j < N:=by have:=HNL.out;omega
    have hkN : k < N:=by have:=HNL.out;have:=HK.out;omega
    clear yj aj yk ak hcj hck HME HA hi r1 r2 r3 r4 q0 q5 q6 q7 eb1 eb2
    obtain ⟨mb,hmb⟩ : ∃ z : Bool,z = meetF fs[j] (fs[k]'HK.out):=⟨_,rfl⟩
    rw [← hmb] at HMC HNO HNX
    clear hmb
    generalize fs[j] = g at *
    obtain ⟨f,hf⟩ : ∃ z,z = fs[k]'HK.out:=⟨_,rfl⟩
    have HFF:=Lib.hid hf
    rw [← hf] at k1 k2 k3 k4 HMC
    clear hf
    go_upto_region 4 with fail
    have HSX : Hid (∀ w',Below wr.heap.size wr w' → (Below wr.heap.size wr w' ∧ (w'.cell? ⟨b,off + j * 8 + 1,none⟩ = some (.int .u8 (kI g)) ∧ w'.cell? ⟨b,off + j * 8 + 2,none⟩ = some (.int .i64 (fA g)) ∧ w'.cell? ⟨b,off + j * 8 + 3,none⟩ = some (.int .i64 (fM g)) ∧ w'.cell? ⟨b,off + j * 8 + 4,none⟩ = some (.slice Ab (fD g).length cb)) ∧ (w'.cell? ⟨b,off + k * 8 + 1,none⟩ = some (.int .u8 (kI f)) ∧ w'.cell? ⟨b,off + k * 8 + 2,none⟩ = some (.int .i64 (fA f)) ∧ w'.cell? ⟨b,off + k * 8 + 3,none⟩ = some (.int .i64 (fM f)) ∧ w'.cell? ⟨b,off + k * 8 + 4,none⟩ = some (.slice Ab2 (fD f).length cb2)))):=fun w' bb=>⟨bb,⟨(bb.cell (p:=⟨b,off + j * 8 + 1,none⟩) (cell_lt q1)).trans q1,(bb.cell (p:=⟨b,off + j * 8 + 2,none⟩) (cell_lt q2)).trans q2,(bb.cell (p:=⟨b,off + j * 8 + 3,none⟩) (cell_lt q3)).trans q3,(bb.cell (p:=⟨b,off + j * 8 + 4,none⟩) (cell_lt q4)).trans q4⟩,(bb.cell (p:=⟨b,off + k * 8 + 1,none⟩) (cell_lt k1)).trans k1,(bb.cell (p:=⟨b,off + k * 8 + 2,none⟩) (cell_lt k2)).trans k2,(bb.cell (p:=⟨b,off + k * 8 + 3,none⟩) (cell_lt k3)).trans k3,(bb.cell (p:=⟨b,off + k * 8 + 4,none⟩) (cell_lt k4)).trans k4⟩
    have HSD:=HSX.out _ (Ext.drew (Below.refl wr.heap.size wr))
    clear q1 q2 q3 q4 k1 k2 k3 k4
    refine wp_region_held_drew (S:=fun w'=>Below wr.heap.size wr w' ∧ (w'.cell? ⟨b,off + j * 8 + 1,none⟩ = some (.int .u8 (kI g)) ∧ w'.cell? ⟨b,off + j * 8 + 2,none⟩ = some (.int .i64 (fA g)) ∧ w'.cell? ⟨b,off + j * 8 + 3,none⟩ = some (.int .i64 (fM g)) ∧ w'.cell? ⟨b,off + j * 8 + 4,none⟩ = some (.slice Ab (fD g).length cb)) ∧ (w'.cell? ⟨b,off + k * 8 + 1,none⟩ = some (.int .u8 (kI f)) ∧ w'.cell? ⟨b,off + k * 8 + 2,none⟩ = some (.int .i64 (fA f)) ∧ w'.cell? ⟨b,off + k * 8 + 3,none⟩ = some (.int .i64 (fM f)) ∧ w'.cell? ⟨b,off + k * 8 + 4,none⟩ = some (.slice Ab2 (fD f).length cb2))) (by kernel_rfl) HSD (fun hS=>?_)
    clear HSD
    refine wpAnyH_take (i:=0) (v:=?_) rfl (by kernel_rfl) (by kernel_rfl) (by kernel_rfl) (fun _ _ _ h=>h) (Or.inl ⟨by rfl,?_⟩) hS ?_
    rotate_left
    · (intro w hSw;(try dsimp only at hSw);go_simp;(try with_reducible rfl))
    rotate_left
    simp only [Act.put,zq0,zq1,zq2,zq3,zq4,zq5]
    refine wpAnyH_take (i:=1) (v:=?_) rfl (by kernel_rfl) (by kernel_rfl) (by kernel_rfl) (fun _ _ _ h=>h) (Or.inl ⟨by rfl,?_⟩) hS ?_
    rotate_left
    · (intro w hSw;(try dsimp only at hSw);go_simp;(try with_reducible rfl))
    rotate_left
    simp only [Act.put,zq0,zq1,zq2,zq3,zq4,zq5]
    refine wpAnyH_take (i:=2) (v:=?_) rfl (by kernel_rfl) (by kernel_rfl) (by kernel_rfl) (fun _ _ _ h=>h) (Or.inl ⟨by rfl,?_⟩) hS ?_
    rotate_left
    · (intro w hSw;(try dsimp only at hSw);go_simp;(try with_reducible rfl))
    rotate_left
    simp only [Act.put,zq0,zq1,zq2,zq3,zq4,zq5]
    refine wpAnyH_take (i:=3) (v:=?_) rfl (by kernel_rfl) (by kernel_rfl) (by kernel_rfl) (fun _ _ _ h=>h) (Or.inl ⟨by rfl,?_⟩) hS ?_
    rotate_left
    · (intro w hSw;(try dsimp only at hSw);go_simp;(try with_reducible rfl))
    rotate_left
    simp only [Act.put,zq0,zq1,zq2,zq3,zq4,zq5]
    refine wpAnyH_take (i:=4) (v:=?_) rfl (by kernel_rfl) (by kernel_rfl) (by kernel_rfl) (fun _ _ _ h=>h) (Or.inl ⟨by rfl,?_⟩) hS ?_
    rotate_left
    · (intro w hSw;(try dsimp only at hSw);go_simp;(try with_reducible rfl))
    rotate_left
    simp only [Act.put,zq0,zq1,zq2,zq3,zq4,zq5]
    refine wpAnyH_take (i:=5) (v:=?_) rfl (by kernel_rfl) (by kernel_rfl) (by kernel_rfl) (fun _ _ _ h=>h) (Or.inl ⟨by rfl,?_⟩) hS ?_
    rotate_left
    · (intro w hSw;(try dsimp only at hSw);go_simp;(try with_reducible rfl))
    rotate_left
    simp only [Act.put,zq0,zq1,zq2,zq3,zq4,zq5]
    refine wpAnyH_take (i:=6) (v:=?_) rfl (by kernel_rfl) (by kernel_rfl) (by kernel_rfl) (fun _ _ _ h=>h) (Or.inl ⟨by rfl,?_⟩) hS ?_
    rotate_left
    · (intro w hSw;(try dsimp only at hSw);go_simp;(try with_reducible rfl))
    rotate_left
    simp only [Act.put,zq0,zq1,zq2,zq3,zq4,zq5]
    refine wpAnyH_take (i:=7) (v:=?_) rfl (by kernel_rfl) (by kernel_rfl) (by kernel_rfl) (fun _ _ _ h=>h) (Or.inl ⟨by rfl,?_⟩) hS ?_
    rotate_left
    · (intro w hSw;(try dsimp only at hSw);go_simp;(try with_reducible rfl))
    rotate_left
    simp only [Act.put,zq0,zq1,zq2,zq3,zq4,zq5]
    refine wpAnyH_take (i:=8) (v:=?_) rfl (by kernel_rfl) (by kernel_rfl) (by kernel_rfl) (fun _ _ _ h=>h) (Or.inl ⟨by rfl,?_⟩) hS ?_
    rotate_left
    · (intro w hSw;(try dsimp only at hSw);go_simp;(try with_reducible rfl))
    rotate_left
    simp only [Act.put,zq0,zq1,zq2,zq3,zq4,zq5]
    refine wpAnyH_take (i:=9) (v:=?_) rfl (by kernel_rfl) (by kernel_rfl) (by kernel_rfl) (fun _ _ _ h=>h) (Or.inl ⟨by rfl,?_⟩) hS ?_
    rotate_left
    · (intro w hSw;(try dsimp only at hSw);go_simp;(try with_reducible rfl))
    rotate_left
    simp only [Act.put,zq0,zq1,zq2,zq3,zq4,zq5]
    refine wpAnyH_ready (rs:=[10]) (by kernel_rfl) (by simp) ?_
    refine AllReadyH.cons rfl (fun K hK=>?_) AllReadyH.nil
    rw [if_pos (by rfl)]
    go_simp
    refine (HMC.out _).mono ?_
    rintro e v3 ⟨rfl,k3⟩
    refine hK.out _ _ (HSX.out _ (Ext.trans hS.1 k3)) (fun hS'=>?_)
    clear hK K hS k3
    have hS:=hS'
    clear hS'
    try simp only [Act.put,zq0,zq1,zq2,zq3,zq4,zq5]
    refine wpAnyH_done (by kernel_rfl) ?_ _
    have b5:=Ext.trans b1 hS.1
    have t5:=Ext.trans bw hS.1
    clear hS HSX
    cases mb with
    | true=>
      have hno:=HNO.out rfl
      go_wp2
      go_ret
      exact ⟨by first | rfl | (rw [hno];done) | (rw [hno];rfl),t5⟩
    | false=>
      have HA':=Lib.hid (HNX.out rfl)
      go_wp2
      go_roundw
      case rel=>exact ⟨j + 1,HLJ.out,by first | rfl | exact round_same HWJ | go_num,b5,HA'.out⟩
      case measure=>first | exact round_less HWJ HLJ.out | (have h:=HLJ.out;simp [intOf];omega)
  · have HY : Hid (firstB fs k = true):=HFI.out.2 fun i hi=>HA.out i (by have:=HK.out;omega) (by omega)
    go_wp2
    go_ret
    exact ⟨by first | rfl | (rw [HY.out];done) | (rw [HY.out];rfl),bw⟩
end Go.Proofs.Ythapabjlhooglaa
namespace Go.Proofs.Ythapabjlhooglaa
open Go Go.RowKit
set_option linter.unusedSimpArgs false
set_option linter.unusedVariables false
set_option maxRecDepth 100000 in
set_option maxHeartbeats 4000000 in
theorem rmay24_any (S : Nat → Prop) (x : Cfg) (fs : List FlTy.T) (N d : Nat) (B : Option Addr) (hN : fs.length = N) (w : World) (hr : RdIn w S (.sl FlTy) fs [.slice B N d]) :
 Calls Try.prog 37 #[x.val,.slice B N d] w fun e w'=>e = .returned (.bool (flB x fs)) ∧ Below w.heap.size w w':=by
 have HX:=Lib.hid (fun w=>may_any x w)
 have HOK : Hid (x.okB = true ↔ x.Ok):=by
  by_cases hx : x.Ok
  · exact ⟨fun _=>hx,fun _=>Cfg.okB_ok hx⟩
  · exact ⟨fun h=>absurd h (by rw [Cfg.okB_bad hx];decide),fun h=>absurd h hx⟩
 have HN:=Lib.hid hN
 have HNM : Hid (N ≤ maxLen):=by have:=fl_max hr;show N ≤ maxLen;omega
 have HONE : Hid (∀ (w : World) (g : FlTy.T) (Ab : Option Addr) (cb : Nat) (As : Option Addr) (cs : Nat) (Aq : Option Addr) (cq : Nat) (Ax : Option Addr) (cx : Nat),RdIn w S (.sl .byte) (fS g) [.slice As (fS g).length cs] → RdIn w S (.sl .u32) (fQ g) [.slice Aq (fQ g).length cq] → RdIn w S (.sl (.sl .byte)) (fB g) [.slice Ax (fB g).length cx] → Calls Try.prog 68 #[x.val,.agg #[.int .i64 (fN g),.int .u8 (kI g),.int .i64 (fA g),.int .i64 (fM g),.slice Ab (fD g).length cb,.slice As (fS g).length cs,.slice Aq (fQ g).length cq,.slice Ax (fB g).length cx]] w fun e w'=>e = .returned (.bool (oneB x g)) ∧ Below w.heap.size w w'):=fun w g Ab cb As cs Aq cq Ax cx h1 h2 h3=>reach_any S x g Ab cb As cs Aq cq Ax cx w h1 h2 h3
 have HFIR : Hid (∀ (w : World) (k : Nat) (_ : k < fs.length) (_ : CodeTo x fs (k + 1)) (_ : RdIn w S (.sl FlTy) fs [.slice B N d]),Calls Try.prog 42 #[.slice B N d,.int .i64 (k : Int)] w fun e w'=>e = .returned (.bool (firstB fs k)) ∧ Below w.heap.size w w'):=fun w k hk hc hr=>rfirst_any S x fs N d k B hk HN.out (fun i hi hik=>hc i hi (by omega)) w hr
 obtain ⟨ob,hob⟩ : ∃ z : Bool,z = x.okB:=⟨_,rfl⟩
 rw [← hob] at HX HOK
 clear hob
 obtain ⟨id,m,c,r,l,h⟩:=x
 unfold Cfg.val at *
 dsimp only at *
 have C0:=BoxOf.new w #[.int .u32 (id : Int),.int .i64 m,.int .i64 c,.int .i64 r,.int .i64 l,.int .i64 h] 24
 have t0:=Ext.alloc (Below.refl w.heap.size w) (.cells #[.int .u32 (id : Int),.int .i64 m,.int .i64 c,.int .i64 r,.int .i64 l,.int .i64 h] 24)
 have HR:=Lib.hid (hr.below t0)
 clear hr hN
 go_enter Try.func37,Try.ntmps37
 go_upto_region 1 with fail
 generalize w.alloc (.cells #[.int .u32 (id : Int),.int .i64 m,.int .i64 c,.int .i64 r,.int .i64 l,.int .i64 h] 24) = W at *
 have x0:=C0.cell
 go_wp2_with fail
 refine (HX.out _).mono ?_
 rintro e w1 ⟨rfl,b1⟩
 have t1:=Ext.trans t0 b1
 have C1:=C0.next b1
 have HR1:=Lib.hid (HR.out.below b1)
 clear C0 HR t0 x0 b1 HX
 cases ob with
 | false=>
   have HNO : Hid (flB (⟨id,m,c,r,l,h⟩ : Cfg) fs = false):=by
    cases h9 : flB (⟨id,m,c,r,l,h⟩ : Cfg) fs with
    | false=>rfl
    | true=>exact absurd (HOK.out.2 (flB_iff.1 h9).1) (by decide)
   go_wp2
   go_ret
   exact ⟨by first | rfl | (rw [HNO.out];done) | (rw [HNO.out];rfl),t1⟩
 | true=>
 have HXK:=Lib.hid (HOK.out.1 rfl)
 rcases Bool.eq_false_or_eq_true (decide ((8 : Int) < (N : Int))) with e2 | e2
 · have HNO : Hid (flB (⟨id,m,c,r,l,h⟩ : Cfg) fs = false):=by
    cases h9 : flB (⟨id,m,c,r,l,h⟩ : Cfg) fs with
    | false=>rfl
    | true=>exfalso;have:=(flB_iff.1 h9).2.1;have:=HN.out;have:=of_decide_eq_true e2;omega
   go_wp2
   go_ret
   exact ⟨by first | rfl | (rw [HNO.out];done) | (rw [HNO.out];rfl),t1⟩
 have HN8 : Hid (N ≤ 8):=by have:=of_decide_eq_false e2;show N ≤ 8;omega
 go_wp2
 clear e2
 obtain ⟨wo,hwo⟩ : ∃ z : World,z = w1:=⟨_,rfl⟩
 rw [← hwo] at C1 t1 HR1
 have bo : Below wo.heap.size wo w1:=by rw [hwo];exact Below.refl _ _
 clear hwo
 go_loopw [5] (fun i wr=>∃ (j : Nat),j ≤ N ∧ i = .int .i64 (j : Int) ∧ Below wo.heap.size wo wr ∧ Hid ((∀ i,i < j → stB (⟨id,m,c,r,l,h⟩ : Cfg) fs i = true) ∧ CodeTo (⟨id,m,c,r,l,h⟩ : Cfg) fs j)) (fun i _=>N - (intOf i).toNat)
 case atStart=>exact ⟨0,Nat.zero_le _,rfl,bo,fun i h=>absurd h (Nat.not_lt_zero _),fun i _ h=>absurd h (Nat.not_lt_zero _)⟩
 case round=>
  obtain ⟨j,hj,rfl,b2,HA⟩:=hrel
  clear bo
  have C2:=C1.next b2
  have t2:=Ext.trans t1 b2
  by_cases hlt : j < N
  · have hlf : j < fs.length:=by have:=HN.out;omega
    obtain ⟨b,off,Ab,cb,As,cs,Aq,cq,Ax,cx,rfl,q0,q1,q2,q3,q4,q5,q6,q7,hi,r1,r2,r3,r4⟩:=fl_at (HR1.out.below b2) hlf
    have HST:=Lib.hid (stB_iff (x:=(⟨id,m,c,r,l,h⟩ : Cfg)) hlf)
    have HCG : Hid (codeF (⟨id,m,c,r,l,h⟩ : Cfg) fs[j] = 0 → CodeTo (⟨id,m,c,r,l,h⟩ : Cfg) fs (j + 1)):=fun hc=>HA.out.2.next hlf hc
    have HSN : Hid ((stB (⟨id,m,c,r,l,h⟩ : Cfg) fs j = true → False) → flB (⟨id,m,c,r,l,h⟩ : Cfg) fs = false):=fun h=>stB_no hlf h
    have HPV : Hid (∀ p (hp : p < fs.length),j = p + 1 → fN (fs[j - 1]'(Nat.lt_of_le_of_lt (Nat.sub_le j 1) hlf)) = fN fs[p]):=fun p hp e=>by congr 1;congr 1;omega
    have HWJ:=next_wrap HNM.out hlt
    generalize fs[j] = g at *
    have HLF:=Lib.hid hlf
    have HLJ:=Lib.hid hlt
    have HRS:=Lib.hid r2
    have HR2:=Lib.hid (HR1.out.below b2)
    have HC1 : Hid (∀ w',Below wr.heap.size wr w' → Calls Try.prog 68 #[.agg #[.int .u32 (id : Int),.int .i64 m,.int .i64 c,.int .i64 r,.int .i64 l,.int .i64 h],.agg #[.int .i64 (fN g),.int .u8 (kI g),.int .i64 (fA g),.int .i64 (fM g),.slice Ab (fD g).length cb,.slice As (fS g).length cs,.slice Aq (fQ g).length cq,.slice Ax (fB g).length cx]] w' fun e w''=>e = .returned (.bool (oneB (⟨id,m,c,r,l,h⟩ : Cfg) g)) ∧ Below w'.heap.size w' w''):=fun w' bb=>HONE.out w' g Ab cb As cs Aq cq Ax cx (r2.below bb) (r3.below bb) (r4.below bb)
    have HG8 : Hid (∀ w',Below wr.heap.size wr w' → (w'.cell? ⟨b,off + j * 8,none⟩ = some (.int .i64 (fN g)) ∧ w'.cell? ⟨b,off + j * 8 + 1,none⟩ = some (.int .u8 (kI g)) ∧ w'.cell? ⟨b,off + j * 8 + 2,none⟩ = some (.int .i64 (fA g)) ∧ w'.cell? ⟨b,off + j * 8 + 3,none⟩ = some (.int .i64 (fM g)) ∧ w'.cell? ⟨b,off + j * 8 + 4,none⟩ = some (.slice Ab (fD g).length cb) ∧ w'.cell? ⟨b,off + j * 8 + 5,none⟩ = some (.slice As (fS g).length cs) ∧ w'.cell? ⟨b,off + j * 8 + 6,none⟩ = some (.slice Aq (fQ g).length cq) ∧ w'.cell? ⟨b,off + j * 8 + 7,none⟩ = some (.slice Ax (fB g).length cx))):=fun w' bb=>⟨(bb.cell (p:=⟨b,off + j * 8,none⟩) (cell_lt q0)).trans q0,(bb.cell (p:=⟨b,off + j * 8 + 1,none⟩) (cell_lt q1)).trans q1,(bb.cell (p:=⟨b,off + j * 8 + 2,none⟩) (cell_lt q2)).trans q2,(bb.cell (p:=⟨b,off + j * 8 + 3,none⟩) (cell_lt q3)).trans q3,(bb.cell (p:=⟨b,off + j * 8 + 4,none⟩) (cell_lt q4)).trans q4,(bb.cell (p:=⟨b,off + j * 8 + 5,none⟩) (cell_lt q5)).trans q5,(bb.cell (p:=⟨b,off + j * 8 + 6,none⟩) (cell_lt q6)).trans q6,(bb.cell (p:=⟨b,off + j * 8 + 7,none⟩) (cell_lt q7)).trans q7⟩
    obtain ⟨ov,hov⟩ : ∃ z : Bool,z = oneB (⟨id,m,c,r,l,h⟩ : Cfg) g:=⟨_,rfl⟩
    have HOV:=Lib.hid hov
    rw [← hov] at HC1
    clear r1 r2 r3 r4 hi hov q0 q1 q2 q3 q4 q5 q6 q7
    cases ov with
    | false=>
      have HNO : Hid (flB (⟨id,m,c,r,l,h⟩ : Cfg) fs = false):=HSN.out fun hs=>by have h1:=(HST.out.1 hs).1;have h2:=HOV.out;rw [h1] at h2;cases h2
      clear HST HCG HSN HPV
      as_aux_lemma=>
      have HSX : Hid (∀ w',Below wr.heap.size wr w' → (Below wr.heap.size wr w' ∧ (∀ p,w'.cell? ⟨w.heap.size,p,none⟩ = (#[.int .u32 (id : Int),.int .i64 m,.int .i64 c,.int .i64 r,.int .i64 l,.int .i64 h] : Array Value).toList[p]?) ∧ (w'.cell? ⟨b,off + j * 8,none⟩ = some (.int .i64 (fN g)) ∧ w'.cell? ⟨b,off + j * 8 + 1,none⟩ = some (.int .u8 (kI g)) ∧ w'.cell? ⟨b,off + j * 8 + 2,none⟩ = some (.int .i64 (fA g)) ∧ w'.cell? ⟨b,off + j * 8 + 3,none⟩ = some (.int .i64 (fM g)) ∧ w'.cell? ⟨b,off + j * 8 + 4,none⟩ = some (.slice Ab (fD g).length cb) ∧ w'.cell? ⟨b,off + j * 8 + 5,none⟩ = some (.slice As (fS g).length cs) ∧ w'.cell? ⟨b,off + j * 8 + 6,none⟩ = some (.slice Aq (fQ g).length cq) ∧ w'.cell? ⟨b,off + j * 8 + 7,none⟩ = some (.slice Ax (fB g).length cx)) ∧ (True))):=fun w' bb=>⟨bb,(C2.next bb).cell,HG8.out w' bb,trivial⟩
      have HSD:=HSX.out _ (Ext.drew (Below.refl wr.heap.size wr))
      go_upto_region 6 with fail
      refine wp_region_held_drew (S:=fun w'=>Below wr.heap.size wr w' ∧ (∀ p,w'.cell? ⟨w.heap.size,p,none⟩ = (#[.int .u32 (id : Int),.int .i64 m,.int .i64 c,.int .i64 r,.int .i64 l,.int .i64 h] : Array Value).toList[p]?) ∧ (w'.cell? ⟨b,off + j * 8,none⟩ = some (.int .i64 (fN g)) ∧ w'.cell? ⟨b,off + j * 8 + 1,none⟩ = some (.int .u8 (kI g)) ∧ w'.cell? ⟨b,off + j * 8 + 2,none⟩ = some (.int .i64 (fA g)) ∧ w'.cell? ⟨b,off + j * 8 + 3,none⟩ = some (.int .i64 (fM g)) ∧ w'.cell? ⟨b,off + j * 8 + 4,none⟩ = some (.slice Ab (fD g).length cb) ∧ w'.cell? ⟨b,off + j * 8 + 5,none⟩ = some (.slice As (fS g).length cs) ∧ w'.cell? ⟨b,off + j * 8 + 6,none⟩ = some (.slice Aq (fQ g).length cq) ∧ w'.cell? ⟨b,off + j * 8 + 7,none⟩ = some (.slice Ax (fB g).length cx)) ∧ (True)) (by kernel_rfl) HSD (fun hS=>?_)
      clear HSD
      refine wpAnyH_take (i:=0) (v:=?_) rfl (by kernel_rfl) (by kernel_rfl) (by kernel_rfl) (fun _ _ _ h=>h) (Or.inl ⟨by rfl,?_⟩) hS ?_
      rotate_left
      · (intro w hSw;(try dsimp only at hSw);go_simp;(try with_reducible rfl))
      rotate_left
      simp only [Act.put,zq0,zq1,zq2,zq3,zq4,zq5]
      refine wpAnyH_take (i:=1) (v:=?_) rfl (by kernel_rfl) (by kernel_rfl) (by kernel_rfl) (fun _ _ _ h=>h) (Or.inl ⟨by rfl,?_⟩) hS ?_
      rotate_left
      · (intro w hSw;(try dsimp only at hSw);go_simp;(try with_reducible rfl))
      rotate_left
      simp only [Act.put,zq0,zq1,zq2,zq3,zq4,zq5]
      refine wpAnyH_take (i:=2) (v:=?_) rfl (by kernel_rfl) (by kernel_rfl) (by kernel_rfl) (fun _ _ _ h=>h) (Or.inl ⟨by rfl,?_⟩) hS ?_
      rotate_left
      · (intro w hSw;(try dsimp only at hSw);go_simp;(try with_reducible rfl))
      rotate_left
      simp only [Act.put,zq0,zq1,zq2,zq3,zq4,zq5]
      refine wpAnyH_take (i:=3) (v:=?_) rfl (by kernel_rfl) (by kernel_rfl) (by kernel_rfl) (fun _ _ _ h=>h) (Or.inl ⟨by rfl,?_⟩) hS ?_
      rotate_left
      · (intro w hSw;(try dsimp only at hSw);go_simp;(try with_reducible rfl))
      rotate_left
      simp only [Act.put,zq0,zq1,zq2,zq3,zq4,zq5]
      refine wpAnyH_take (i:=4) (v:=?_) rfl (by kernel_rfl) (by kernel_rfl) (by kernel_rfl) (fun _ _ _ h=>h) (Or.inl ⟨by rfl,?_⟩) hS ?_
      rotate_left
      · (intro w hSw;(try dsimp only at hSw);go_simp;(try with_reducible rfl))
      rotate_left
      simp only [Act.put,zq0,zq1,zq2,zq3,zq4,zq5]
      refine wpAnyH_ready (rs:=[5]) (by kernel_rfl) (by simp) ?_
      refine AllReadyH.cons rfl (fun K hK=>?_) AllReadyH.nil
      rw [if_pos (by rfl)]
      go_simp
      refine (HC1.out _ hS.1).mono ?_
      rintro e v3 ⟨rfl,k3⟩
      refine hK.out _ _ (HSX.out _ (Ext.trans hS.1 k3)) (fun hS'=>?_)
      clear hK K hS k3
      have hS:=hS'
      clear hS'
      try simp only [Act.put,zq0,zq1,zq2,zq3,zq4,zq5]
      refine wpAnyH_take (i:=6) (v:=?_) rfl (by kernel_rfl) (by kernel_rfl) (by kernel_rfl) (fun _ _ _ h=>h) (Or.inl ⟨by rfl,?_⟩) hS ?_
      rotate_left
      · (intro w hSw;(try dsimp only at hSw);go_simp;(try with_reducible rfl))
      rotate_left
      simp only [Act.put,zq0,zq1,zq2,zq3,zq4,zq5]
      refine wpAnyH_take (i:=7) (v:=?_) rfl (by kernel_rfl) (by kernel_rfl) (by kernel_rfl) (fun _ _ _ h=>h) (Or.inl ⟨by rfl,?_⟩) hS ?_
      rotate_left
      · (intro w hSw;(try dsimp only at hSw);go_simp;(try with_reducible rfl))
      rotate_left
      simp only [Act.put,zq0,zq1,zq2,zq3,zq4,zq5]
      refine wpAnyH_take (i:=8) (v:=?_) rfl (by kernel_rfl) (by kernel_rfl) (by kernel_rfl) (fun _ _ _ h=>h) (Or.inr ⟨by rfl,?_⟩) hS ?_
      rotate_left
      · rfl
      rotate_left
      simp only [Act.put,zq0,zq1,zq2,zq3,zq4,zq5]
      refine wpAnyH_take (i:=9) (v:=?_) rfl (by kernel_rfl) (by kernel_rfl) (by kernel_rfl) (fun _ _ _ h=>h) (Or.inr ⟨by rfl,?_⟩) hS ?_
      rotate_left
      · rfl
      rotate_left
      simp only [Act.put,zq0,zq1,zq2,zq3,zq4,zq5]
      refine wpAnyH_take (i:=10) (v:=?_) rfl (by kernel_rfl) (by kernel_rfl) (by kernel_rfl) (fun _ _ _ h=>h) (Or.inr ⟨by rfl,?_⟩) hS ?_
      rotate_left
      · rfl
      rotate_left
      simp only [Act.put,zq0,zq1,zq2,zq3,zq4,zq5]
      refine wpAnyH_take (i:=11) (v:=?_) rfl (by kernel_rfl) (by kernel_rfl) (by kernel_rfl) (fun _ _ _ h=>h) (Or.inr ⟨by rfl,?_⟩) hS ?_
      rotate_left
      · rfl
      rotate_left
      simp only [Act.put,zq0,zq1,zq2,zq3,zq4,zq5]
      refine wpAnyH_take (i:=12) (v:=?_) rfl (by kernel_rfl) (by kernel_rfl) (by kernel_rfl) (fun _ _ _ h=>h) (Or.inr ⟨by rfl,?_⟩) hS ?_
      rotate_left
      · rfl
      rotate_left
      simp only [Act.put,zq0,zq1,zq2,zq3,zq4,zq5]
      refine wpAnyH_take (i:=13) (v:=?_) rfl (by kernel_rfl) (by kernel_rfl) (by kernel_rfl) (fun _ _ _ h=>h) (Or.inr ⟨by rfl,?_⟩) hS ?_
      rotate_left
      · rfl
      rotate_left
      simp only [Act.put,zq0,zq1,zq2,zq3,zq4,zq5]
      refine wpAnyH_take (i:=14) (v:=?_) rfl (by kernel_rfl) (by kernel_rfl) (by kernel_rfl) (fun _ _ _ h=>h) (Or.inr ⟨by rfl,?_⟩) hS ?_
      rotate_left
      · rfl
      rotate_left
      simp only [Act.put,zq0,zq1,zq2,zq3,zq4,zq5]
      refine wpAnyH_take (i:=15) (v:=?_) rfl (by kernel_rfl) (by kernel_rfl) (by kernel_rfl) (fun _ _ _ h=>h) (Or.inr ⟨by rfl,?_⟩) hS ?_
      rotate_left
      · rfl
      rotate_left
      simp only [Act.put,zq0,zq1,zq2,zq3,zq4,zq5]
      refine wpAnyH_take (i:=16) (v:=?_) rfl (by kernel_rfl) (by kernel_rfl) (by kernel_rfl) (fun _ _ _ h=>h) (Or.inr ⟨by rfl,?_⟩) hS ?_
      rotate_left
      · rfl
      rotate_left
      simp only [Act.put,zq0,zq1,zq2,zq3,zq4,zq5]
      refine wpAnyH_take (i:=17) (v:=?_) rfl (by kernel_rfl) (by kernel_rfl) (by kernel_rfl) (fun _ _ _ h=>h) (Or.inr ⟨by rfl,?_⟩) hS ?_
      rotate_left
      · rfl
      rotate_left
      simp only [Act.put,zq0,zq1,zq2,zq3,zq4,zq5]
      refine wpAnyH_take (i:=18) (v:=?_) rfl (by kernel_rfl) (by kernel_rfl) (by kernel_rfl) (fun _ _ _ h=>h) (Or.inr ⟨by rfl,?_⟩) hS ?_
      rotate_left
      · rfl
      rotate_left
      simp only [Act.put,zq0,zq1,zq2,zq3,zq4,zq5]
      refine wpAnyH_take (i:=19) (v:=?_) rfl (by kernel_rfl) (by kernel_rfl) (by kernel_rfl) (fun _ _ _ h=>h) (Or.inr ⟨by rfl,?_⟩) hS ?_
      rotate_left
      · rfl
      rotate_left
      simp only [Act.put,zq0,zq1,zq2,zq3,zq4,zq5]
      refine wpAnyH_take (i:=20) (v:=?_) rfl (by kernel_rfl) (by kernel_rfl) (by kernel_rfl) (fun _ _ _ h=>h) (Or.inr ⟨by rfl,?_⟩) hS ?_
      rotate_left
      · rfl
      rotate_left
      simp only [Act.put,zq0,zq1,zq2,zq3,zq4,zq5]
      refine wpAnyH_take (i:=21) (v:=?_) rfl (by kernel_rfl) (by kernel_rfl) (by kernel_rfl) (fun _ _ _ h=>h) (Or.inr ⟨by rfl,?_⟩) hS ?_
      rotate_left
      · rfl
      rotate_left
      simp only [Act.put,zq0,zq1,zq2,zq3,zq4,zq5]
      refine wpAnyH_take (i:=22) (v:=?_) rfl (by kernel_rfl) (by kernel_rfl) (by kernel_rfl) (fun _ _ _ h=>h) (Or.inr ⟨by rfl,?_⟩) hS ?_
      rotate_left
      · rfl
      rotate_left
      simp only [Act.put,zq0,zq1,zq2,zq3,zq4,zq5]
      refine wpAnyH_take (i:=23) (v:=?_) rfl (by kernel_rfl) (by kernel_rfl) (by kernel_rfl) (fun _ _ _ h=>h) (Or.inr ⟨by rfl,?_⟩) hS ?_
      rotate_left
      · rfl
      rotate_left
      simp only [Act.put,zq0,zq1,zq2,zq3,zq4,zq5]
      refine wpAnyH_take (i:=24) (v:=?_) rfl (by kernel_rfl) (by kernel_rfl) (by kernel_rfl) (fun _ _ _ h=>h) (Or.inl ⟨by rfl,?_⟩) hS ?_
      rotate_left
      · (intro w hSw;(try dsimp only at hSw);go_simp;(try with_reducible rfl))
      rotate_left
      simp only [Act.put,zq0,zq1,zq2,zq3,zq4,zq5]
      refine wpAnyH_done (by kernel_rfl) ?_ _
      have t4:=Ext.trans t2 hS.1
      clear hS HSX
      go_wp2
      go_ret
      exact ⟨by first | rfl | (rw [HNO.out];done) | (rw [HNO.out];rfl),t4⟩
    | true=>
    have HON : Hid (oneB (⟨id,m,c,r,l,h⟩ : Cfg) g = true):=HOV.out.symm
    have HCD : Hid (CodeTo (⟨id,m,c,r,l,h⟩ : Cfg) fs (j + 1)):=HCG.out (oneB_code HON.out)
    clear HOV HCG
    by_cases hj0 : j = 0
    · have HLS : Hid (∀ (h : 0 < j),fN (fs[j - 1]'(Nat.lt_of_le_of_lt (Nat.sub_le j 1) HLF.out)) < fN g):=fun h=>by omega
      have hjz : (decide ((0 : Int) < (j : Int))) = false:=by simp;omega
      have hjn : decide (0 < j) = false:=by simp;omega
      clear hj0 HPV
      as_aux_lemma=>
      have HSX : Hid (∀ w',Below wr.heap.size wr w' → (Below wr.heap.size wr w' ∧ (∀ p,w'.cell? ⟨w.heap.size,p,none⟩ = (#[.int .u32 (id : Int),.int .i64 m,.int .i64 c,.int .i64 r,.int .i64 l,.int .i64 h] : Array Value).toList[p]?) ∧ (w'.cell? ⟨b,off + j * 8,none⟩ = some (.int .i64 (fN g)) ∧ w'.cell? ⟨b,off + j * 8 + 1,none⟩ = some (.int .u8 (kI g)) ∧ w'.cell? ⟨b,off + j * 8 + 2,none⟩ = some (.int .i64 (fA g)) ∧ w'.cell? ⟨b,off + j * 8 + 3,none⟩ = some (.int .i64 (fM g)) ∧ w'.cell? ⟨b,off + j * 8 + 4,none⟩ = some (.slice Ab (fD g).length cb) ∧ w'.cell? ⟨b,off + j * 8 + 5,none⟩ = some (.slice As (fS g).length cs) ∧ w'.cell? ⟨b,off + j * 8 + 6,none⟩ = some (.slice Aq (fQ g).length cq) ∧ w'.cell? ⟨b,off + j * 8 + 7,none⟩ = some (.slice Ax (fB g).length cx)) ∧ (True))):=fun w' bb=>⟨bb,(C2.next bb).cell,HG8.out w' bb,trivial⟩
      have HSD:=HSX.out _ (Ext.drew (Below.refl wr.heap.size wr))
      go_upto_region 6 with fail
      refine wp_region_held_drew (S:=fun w'=>Below wr.heap.size wr w' ∧ (∀ p,w'.cell? ⟨w.heap.size,p,none⟩ = (#[.int .u32 (id : Int),.int .i64 m,.int .i64 c,.int .i64 r,.int .i64 l,.int .i64 h] : Array Value).toList[p]?) ∧ (w'.cell? ⟨b,off + j * 8,none⟩ = some (.int .i64 (fN g)) ∧ w'.cell? ⟨b,off + j * 8 + 1,none⟩ = some (.int .u8 (kI g)) ∧ w'.cell? ⟨b,off + j * 8 + 2,none⟩ = some (.int .i64 (fA g)) ∧ w'.cell? ⟨b,off + j * 8 + 3,none⟩ = some (.int .i64 (fM g)) ∧ w'.cell? ⟨b,off + j * 8 + 4,none⟩ = some (.slice Ab (fD g).length cb) ∧ w'.cell? ⟨b,off + j * 8 + 5,none⟩ = some (.slice As (fS g).length cs) ∧ w'.cell? ⟨b,off + j * 8 + 6,none⟩ = some (.slice Aq (fQ g).length cq) ∧ w'.cell? ⟨b,off + j * 8 + 7,none⟩ = some (.slice Ax (fB g).length cx)) ∧ (True)) (by kernel_rfl) HSD (fun hS=>?_)
      clear HSD
      refine wpAnyH_take (i:=0) (v:=?_) rfl (by kernel_rfl) (by kernel_rfl) (by kernel_rfl) (fun _ _ _ h=>h) (Or.inl ⟨by rfl,?_⟩) hS ?_
      rotate_left
      · (intro w hSw;(try dsimp only at hSw);go_simp;(try with_reducible rfl))
      rotate_left
      simp only [Act.put,zq0,zq1,zq2,zq3,zq4,zq5]
      refine wpAnyH_take (i:=1) (v:=?_) rfl (by kernel_rfl) (by kernel_rfl) (by kernel_rfl) (fun _ _ _ h=>h) (Or.inl ⟨by rfl,?_⟩) hS ?_
      rotate_left
      · (intro w hSw;(try dsimp only at hSw);go_simp;(try with_reducible rfl))
      rotate_left
      simp only [Act.put,zq0,zq1,zq2,zq3,zq4,zq5]
      refine wpAnyH_take (i:=2) (v:=?_) rfl (by kernel_rfl) (by kernel_rfl) (by kernel_rfl) (fun _ _ _ h=>h) (Or.inl ⟨by rfl,?_⟩) hS ?_
      rotate_left
      · (intro w hSw;(try dsimp only at hSw);go_simp;(try with_reducible rfl))
      rotate_left
      simp only [Act.put,zq0,zq1,zq2,zq3,zq4,zq5]
      refine wpAnyH_take (i:=3) (v:=?_) rfl (by kernel_rfl) (by kernel_rfl) (by kernel_rfl) (fun _ _ _ h=>h) (Or.inl ⟨by rfl,?_⟩) hS ?_
      rotate_left
      · (intro w hSw;(try dsimp only at hSw);go_simp;(try with_reducible rfl))
      rotate_left
      simp only [Act.put,zq0,zq1,zq2,zq3,zq4,zq5]
      refine wpAnyH_take (i:=4) (v:=?_) rfl (by kernel_rfl) (by kernel_rfl) (by kernel_rfl) (fun _ _ _ h=>h) (Or.inl ⟨by rfl,?_⟩) hS ?_
      rotate_left
      · (intro w hSw;(try dsimp only at hSw);go_simp;(try with_reducible rfl))
      rotate_left
      simp only [Act.put,zq0,zq1,zq2,zq3,zq4,zq5]
      refine wpAnyH_ready (rs:=[5]) (by kernel_rfl) (by simp) ?_
      refine AllReadyH.cons rfl (fun K hK=>?_) AllReadyH.nil
      rw [if_pos (by rfl)]
      go_simp
      refine (HC1.out _ hS.1).mono ?_
      rintro e v3 ⟨rfl,k3⟩
      refine hK.out _ _ (HSX.out _ (Ext.trans hS.1 k3)) (fun hS'=>?_)
      clear hK K hS k3
      have hS:=hS'
      clear hS'
      try simp only [Act.put,zq0,zq1,zq2,zq3,zq4,zq5]
      refine wpAnyH_take (i:=6) (v:=?_) rfl (by kernel_rfl) (by kernel_rfl) (by kernel_rfl) (fun _ _ _ h=>h) (Or.inl ⟨by rfl,?_⟩) hS ?_
      rotate_left
      · (intro w hSw;(try dsimp only at hSw);go_simp;(try with_reducible rfl))
      rotate_left
      simp only [Act.put,zq0,zq1,zq2,zq3,zq4,zq5]
      refine wpAnyH_take (i:=7) (v:=?_) rfl (by kernel_rfl) (by kernel_rfl) (by kernel_rfl) (fun _ _ _ h=>h) (Or.inl ⟨by rfl,?_⟩) hS ?_
      rotate_left
      · (intro w hSw;(try dsimp only at hSw);go_simp;(try with_reducible rfl))
      rotate_left
      simp only [Act.put,zq0,zq1,zq2,zq3,zq4,zq5]
      refine wpAnyH_take (i:=8) (v:=?_) rfl (by kernel_rfl) (by kernel_rfl) (by kernel_rfl) (fun _ _ _ h=>h) (Or.inl ⟨by rfl,?_⟩) hS ?_
      rotate_left
      · (intro w hSw;(try dsimp only at hSw);go_simp;(try with_reducible rfl))
      rotate_left
      simp only [Act.put,zq0,zq1,zq2,zq3,zq4,zq5]
      refine wpAnyH_take (i:=9) (v:=?_) rfl (by kernel_rfl) (by kernel_rfl) (by kernel_rfl) (fun _ _ _ h=>h) (Or.inl ⟨by rfl,?_⟩) hS ?_
      rotate_left
      · (intro w hSw;(try dsimp only at hSw);go_simp;(try with_reducible rfl))
      rotate_left
      simp only [Act.put,zq0,zq1,zq2,zq3,zq4,zq5]
      refine wpAnyH_take (i:=10) (v:=?_) rfl (by kernel_rfl) (by kernel_rfl) (by kernel_rfl) (fun _ _ _ h=>h) (Or.inl ⟨by rfl,?_⟩) hS ?_
      rotate_left
      · (intro w hSw;(try dsimp only at hSw);go_simp;(try with_reducible rfl))
      rotate_left
      simp only [Act.put,zq0,zq1,zq2,zq3,zq4,zq5]
      refine wpAnyH_take (i:=11) (v:=?_) rfl (by kernel_rfl) (by kernel_rfl) (by kernel_rfl) (fun _ _ _ h=>h) (Or.inr ⟨by rfl,?_⟩) hS ?_
      rotate_left
      · rfl
      rotate_left
      simp only [Act.put,zq0,zq1,zq2,zq3,zq4,zq5]
      refine wpAnyH_take (i:=12) (v:=?_) rfl (by kernel_rfl) (by kernel_rfl) (by kernel_rfl) (fun _ _ _ h=>h) (Or.inr ⟨by rfl,?_⟩) hS ?_
      rotate_left
      · rfl
      rotate_left
      simp only [Act.put,zq0,zq1,zq2,zq3,zq4,zq5]
      refine wpAnyH_take (i:=13) (v:=?_) rfl (by kernel_rfl) (by kernel_rfl) (by kernel_rfl) (fun _ _ _ h=>h) (Or.inr ⟨by rfl,?_⟩) hS ?_
      rotate_left
      · rfl
      rotate_left
      simp only [Act.put,zq0,zq1,zq2,zq3,zq4,zq5]
      refine wpAnyH_take (i:=14) (v:=?_) rfl (by kernel_rfl) (by kernel_rfl) (by kernel_rfl) (fun _ _ _ h=>h) (Or.inr ⟨by rfl,?_⟩) hS ?_
      rotate_left
      · rfl
      rotate_left
      simp only [Act.put,zq0,zq1,zq2,zq3,zq4,zq5]
      refine wpAnyH_take (i:=15) (v:=?_) rfl (by kernel_rfl) (by kernel_rfl) (by kernel_rfl) (fun _ _ _ h=>h) (Or.inr ⟨by rfl,?_⟩) hS ?_
      rotate_left
      · rfl
      rotate_left
      simp only [Act.put,zq0,zq1,zq2,zq3,zq4,zq5]
      refine wpAnyH_take (i:=16) (v:=?_) rfl (by kernel_rfl) (by kernel_rfl) (by kernel_rfl) (fun _ _ _ h=>h) (Or.inr ⟨by rfl,?_⟩) hS ?_
      rotate_left
      · rfl
      rotate_left
      simp only [Act.put,zq0,zq1,zq2,zq3,zq4,zq5]
      refine wpAnyH_take (i:=17) (v:=?_) rfl (by kernel_rfl) (by kernel_rfl) (by kernel_rfl) (fun _ _ _ h=>h) (Or.inr ⟨by rfl,?_⟩) hS ?_
      rotate_left
      · rfl
      rotate_left
      simp only [Act.put,zq0,zq1,zq2,zq3,zq4,zq5]
      refine wpAnyH_take (i:=18) (v:=?_) rfl (by kernel_rfl) (by kernel_rfl) (by kernel_rfl) (fun _ _ _ h=>h) (Or.inr ⟨by rfl,?_⟩) hS ?_
      rotate_left
      · rfl
      rotate_left
      simp only [Act.put,zq0,zq1,zq2,zq3,zq4,zq5]
      refine wpAnyH_take (i:=19) (v:=?_) rfl (by kernel_rfl) (by kernel_rfl) (by kernel_rfl) (fun _ _ _ h=>h) (Or.inr ⟨by rfl,?_⟩) hS ?_
      rotate_left
      · rfl
      rotate_left
      simp only [Act.put,zq0,zq1,zq2,zq3,zq4,zq5]
      refine wpAnyH_take (i:=20) (v:=?_) rfl (by kernel_rfl) (by kernel_rfl) (by kernel_rfl) (fun _ _ _ h=>h) (Or.inr ⟨by rfl,?_⟩) hS ?_
      rotate_left
      · rfl
      rotate_left
      simp only [Act.put,zq0,zq1,zq2,zq3,zq4,zq5]
      refine wpAnyH_take (i:=21) (v:=?_) rfl (by kernel_rfl) (by kernel_rfl) (by kernel_rfl) (fun _ _ _ h=>h) (Or.inr ⟨by rfl,?_⟩) hS ?_
      rotate_left
      · rfl
      rotate_left
      simp only [Act.put,zq0,zq1,zq2,zq3,zq4,zq5]
      refine wpAnyH_take (i:=22) (v:=?_) rfl (by kernel_rfl) (by kernel_rfl) (by kernel_rfl) (fun _ _ _ h=>h) (Or.inr ⟨by rfl,?_⟩) hS ?_
      rotate_left
      · rfl
      rotate_left
      simp only [Act.put,zq0,zq1,zq2,zq3,zq4,zq5]
      refine wpAnyH_take (i:=23) (v:=?_) rfl (by kernel_rfl) (by kernel_rfl) (by kernel_rfl) (fun _ _ _ h=>h) (Or.inl ⟨by rfl,?_⟩) hS ?_
      rotate_left
      · (intro w hSw;(try dsimp only at hSw);go_simp;(try with_reducible rfl))
      rotate_left
      simp only [Act.put,zq0,zq1,zq2,zq3,zq4,zq5]
      refine wpAnyH_take (i:=24) (v:=?_) rfl (by kernel_rfl) (by kernel_rfl) (by kernel_rfl) (fun _ _ _ h=>h) (Or.inl ⟨by rfl,?_⟩) hS ?_
      rotate_left
      · (intro w hSw;(try dsimp only at hSw);go_simp;(try with_reducible rfl))
      rotate_left
      simp only [Act.put,zq0,zq1,zq2,zq3,zq4,zq5]
      clear hjz hjn
      refine wpAnyH_done (by kernel_rfl) ?_ _
      have b4:=hS.1
      obtain ⟨q0,q1,q2,q3,q4,q5,q6,q7⟩:=hS.2.2.1
      have t4:=Ext.trans t2 b4
      have b5:=Ext.trans b2 b4
      have HWA:=Lib.hid (rwaits_any S g Ab cb As cs Aq cq Ax cx v3 (HRS.out.below b4))
      have HFR:=Lib.hid (fun (hcd : CodeTo (⟨id,m,c,r,l,h⟩ : Cfg) fs (j + 1)) (w' : World) (bb : Below v3.heap.size v3 w')=>HFIR.out w' j HLF.out hcd (HR2.out.below (Ext.trans b4 bb)))
      clear hS HSX b4 HC1 HG8
      go_wp2_with fail
      refine HWA.out.mono ?_
      rintro e w5 ⟨rfl,b6⟩
      have t6:=Ext.trans t4 b6
      have b7:=Ext.trans b5 b6
      have HB6:=Lib.hid b6
      clear q0 q1 q2 q3 q4 q5 q6 q7 HWA b6 t4 b5
      cases hgo : goesB g with
      | false=>
        have HA' : Hid ((∀ i,i < j + 1 → stB (⟨id,m,c,r,l,h⟩ : Cfg) fs i = true) ∧ CodeTo (⟨id,m,c,r,l,h⟩ : Cfg) fs (j + 1)):=⟨fun i hi=>by
         by_cases e : i = j
         · subst e
           exact HST.out.2 ⟨HON.out,HLS.out,fun hh=>by rw [hgo] at hh;cases hh⟩
         · exact HA.out.1 i (by omega),HCD.out⟩
        go_wp2
        go_roundw
        case rel=>exact ⟨j + 1,HLJ.out,by first | rfl | exact round_same HWJ | go_num,b7,HA'.out⟩
        case measure=>first | exact round_less HWJ HLJ.out | (have h:=HLJ.out;simp [intOf];omega)
      | true=>
        have HF:=Lib.hid (HFR.out HCD.out w5 HB6.out)
        have HFV : Hid (stB (⟨id,m,c,r,l,h⟩ : Cfg) fs j = true ↔ firstB fs j = true):=HST.out.trans ⟨fun hh=>hh.2.2 hgo,fun hh=>⟨HON.out,HLS.out,fun _=>hh⟩⟩
        obtain ⟨fj,hfj⟩ : ∃ z : Bool,z = firstB fs j:=⟨_,rfl⟩
        rw [← hfj] at HF HFV
        clear hfj HFR
        go_wp2_with fail
        refine HF.out.mono ?_
        rintro e w7 ⟨rfl,b8⟩
        have t7:=Ext.trans t6 b8
        have b9:=Ext.trans b7 b8
        clear HF b8
        cases fj with
        | false=>
          have HNO : Hid (flB (⟨id,m,c,r,l,h⟩ : Cfg) fs = false):=stB_no HLF.out fun ht=>absurd (HFV.out.1 ht) (by decide)
          go_wp2
          go_ret
          exact ⟨by first | rfl | (rw [HNO.out];done) | (rw [HNO.out];rfl),t7⟩
        | true=>
          have HA' : Hid ((∀ i,i < j + 1 → stB (⟨id,m,c,r,l,h⟩ : Cfg) fs i = true) ∧ CodeTo (⟨id,m,c,r,l,h⟩ : Cfg) fs (j + 1)):=⟨fun i hi=>by
           by_cases e : i = j
           · subst e
             exact HFV.out.2 (by first | rfl | trivial)
           · exact HA.out.1 i (by omega),HCD.out⟩
          go_wp2
          go_roundw
          case rel=>exact ⟨j + 1,HLJ.out,by first | rfl | exact round_same HWJ | go_num,b9,HA'.out⟩
          case measure=>first | exact round_less HWJ HLJ.out | (have h:=HLJ.out;simp [intOf];omega)
    · obtain ⟨p,hp⟩ : ∃ p,j = p + 1:=⟨j - 1,by omega⟩
      have hpf : p < fs.length:=by omega
      obtain ⟨_,_,_,_,_,_,_,_,_,_,ep,k0,_⟩:=fl_at HR2.out hpf
      injection ep with ep
      injection ep with ep1 ep2 _
      rw [← ep1,← ep2] at k0
      have HP9:=Lib.hid (HPV.out p hpf hp)
      have HPJ:=Lib.hid hp
      obtain ⟨pv,hpv⟩ : ∃ z : Int,z = fN fs[p]:=⟨_,rfl⟩
      rw [← hpv] at k0 HP9
      have hjp : (decide ((0 : Int) < (j : Int))) = true:=by simp;omega
      have hjn : decide (0 < j) = true:=by simp;omega
      have hjw : IntKind.i64.wrap ((j : Int) - 1) = (p : Int):=by rw [IntWalk.i64_in _ (by have:=HLJ.out;have:=HN8.out;omega)];omega
      have hpN : p < N:=by have:=HLJ.out;omega
      clear hj0 hp ep1 ep2 hpv HPV
      as_aux_lemma=>
      have HSX : Hid (∀ w',Below wr.heap.size wr w' → (Below wr.heap.size wr w' ∧ (∀ p,w'.cell? ⟨w.heap.size,p,none⟩ = (#[.int .u32 (id : Int),.int .i64 m,.int .i64 c,.int .i64 r,.int .i64 l,.int .i64 h] : Array Value).toList[p]?) ∧ (w'.cell? ⟨b,off + j * 8,none⟩ = some (.int .i64 (fN g)) ∧ w'.cell? ⟨b,off + j * 8 + 1,none⟩ = some (.int .u8 (kI g)) ∧ w'.cell? ⟨b,off + j * 8 + 2,none⟩ = some (.int .i64 (fA g)) ∧ w'.cell? ⟨b,off + j * 8 + 3,none⟩ = some (.int .i64 (fM g)) ∧ w'.cell? ⟨b,off + j * 8 + 4,none⟩ = some (.slice Ab (fD g).length cb) ∧ w'.cell? ⟨b,off + j * 8 + 5,none⟩ = some (.slice As (fS g).length cs) ∧ w'.cell? ⟨b,off + j * 8 + 6,none⟩ = some (.slice Aq (fQ g).length cq) ∧ w'.cell? ⟨b,off + j * 8 + 7,none⟩ = some (.slice Ax (fB g).length cx)) ∧ (w'.cell? ⟨b,off + p * 8,none⟩ = some (.int .i64 pv)))):=fun w' bb=>⟨bb,(C2.next bb).cell,HG8.out w' bb,(bb.cell (p:=⟨b,off + p * 8,none⟩) (cell_lt k0)).trans k0⟩
      have HSD:=HSX.out _ (Ext.drew (Below.refl wr.heap.size wr))
      go_upto_region 6 with fail
      refine wp_region_held_drew (S:=fun w'=>Below wr.heap.size wr w' ∧ (∀ p,w'.cell? ⟨w.heap.size,p,none⟩ = (#[.int .u32 (id : Int),.int .i64 m,.int .i64 c,.int .i64 r,.int .i64 l,.int .i64 h] : Array Value).toList[p]?) ∧ (w'.cell? ⟨b,off + j * 8,none⟩ = some (.int .i64 (fN g)) ∧ w'.cell? ⟨b,off + j * 8 + 1,none⟩ = some (.int .u8 (kI g)) ∧ w'.cell? ⟨b,off + j * 8 + 2,none⟩ = some (.int .i64 (fA g)) ∧ w'.cell? ⟨b,off + j * 8 + 3,none⟩ = some (.int .i64 (fM g)) ∧ w'.cell? ⟨b,off + j * 8 + 4,none⟩ = some (.slice Ab (fD g).length cb) ∧ w'.cell? ⟨b,off + j * 8 + 5,none⟩ = some (.slice As (fS g).length cs) ∧ w'.cell? ⟨b,off + j * 8 + 6,none⟩ = some (.slice Aq (fQ g).length cq) ∧ w'.cell? ⟨b,off + j * 8 + 7,none⟩ = some (.slice Ax (fB g).length cx)) ∧ (w'.cell? ⟨b,off + p * 8,none⟩ = some (.int .i64 pv))) (by kernel_rfl) HSD (fun hS=>?_)
      clear HSD
      refine wpAnyH_take (i:=0) (v:=?_) rfl (by kernel_rfl) (by kernel_rfl) (by kernel_rfl) (fun _ _ _ h=>h) (Or.inl ⟨by rfl,?_⟩) hS ?_
      rotate_left
      · (intro w hSw;(try dsimp only at hSw);go_simp;(try with_reducible rfl))
      rotate_left
      simp only [Act.put,zq0,zq1,zq2,zq3,zq4,zq5]
      refine wpAnyH_take (i:=1) (v:=?_) rfl (by kernel_rfl) (by kernel_rfl) (by kernel_rfl) (fun _ _ _ h=>h) (Or.inl ⟨by rfl,?_⟩) hS ?_
      rotate_left
      · (intro w hSw;(try dsimp only at hSw);go_simp;(try with_reducible rfl))
      rotate_left
      simp only [Act.put,zq0,zq1,zq2,zq3,zq4,zq5]
      refine wpAnyH_take (i:=2) (v:=?_) rfl (by kernel_rfl) (by kernel_rfl) (by kernel_rfl) (fun _ _ _ h=>h) (Or.inl ⟨by rfl,?_⟩) hS ?_
      rotate_left
      · (intro w hSw;(try dsimp only at hSw);go_simp;(try with_reducible rfl))
      rotate_left
      simp only [Act.put,zq0,zq1,zq2,zq3,zq4,zq5]
      refine wpAnyH_take (i:=3) (v:=?_) rfl (by kernel_rfl) (by kernel_rfl) (by kernel_rfl) (fun _ _ _ h=>h) (Or.inl ⟨by rfl,?_⟩) hS ?_
      rotate_left
      · (intro w hSw;(try dsimp only at hSw);go_simp;(try with_reducible rfl))
      rotate_left
      simp only [Act.put,zq0,zq1,zq2,zq3,zq4,zq5]
      refine wpAnyH_take (i:=4) (v:=?_) rfl (by kernel_rfl) (by kernel_rfl) (by kernel_rfl) (fun _ _ _ h=>h) (Or.inl ⟨by rfl,?_⟩) hS ?_
      rotate_left
      · (intro w hSw;(try dsimp only at hSw);go_simp;(try with_reducible rfl))
      rotate_left
      simp only [Act.put,zq0,zq1,zq2,zq3,zq4,zq5]
      refine wpAnyH_ready (rs:=[5]) (by kernel_rfl) (by simp) ?_
      refine AllReadyH.cons rfl (fun K hK=>?_) AllReadyH.nil
      rw [if_pos (by rfl)]
      go_simp
      refine (HC1.out _ hS.1).mono ?_
      rintro e v3 ⟨rfl,k3⟩
      refine hK.out _ _ (HSX.out _ (Ext.trans hS.1 k3)) (fun hS'=>?_)
      clear hK K hS k3
      have hS:=hS'
      clear hS'
      try simp only [Act.put,zq0,zq1,zq2,zq3,zq4,zq5]
      clear k0
      by_cases h9 : fN g ≤ pv
      · have HNO : Hid (flB (⟨id,m,c,r,l,h⟩ : Cfg) fs = false):=HSN.out fun hs=>by
         have h1:=(HST.out.1 hs).2.1 (by have:=HPJ.out;omega)
         have h2:=HP9.out
         omega
        refine wpAnyH_take (i:=6) (v:=?_) rfl (by kernel_rfl) (by kernel_rfl) (by kernel_rfl) (fun _ _ _ h=>h) (Or.inl ⟨by rfl,?_⟩) hS ?_
        rotate_left
        · (intro w hSw;(try dsimp only at hSw);go_simp;(try with_reducible rfl))
        rotate_left
        simp only [Act.put,zq0,zq1,zq2,zq3,zq4,zq5]
        refine wpAnyH_take (i:=7) (v:=?_) rfl (by kernel_rfl) (by kernel_rfl) (by kernel_rfl) (fun _ _ _ h=>h) (Or.inl ⟨by rfl,?_⟩) hS ?_
        rotate_left
        · (intro w hSw;(try dsimp only at hSw);go_simp;(try with_reducible rfl))
        rotate_left
        simp only [Act.put,zq0,zq1,zq2,zq3,zq4,zq5]
        refine wpAnyH_take (i:=8) (v:=?_) rfl (by kernel_rfl) (by kernel_rfl) (by kernel_rfl) (fun _ _ _ h=>h) (Or.inl ⟨by rfl,?_⟩) hS ?_
        rotate_left
        · (intro w hSw;(try dsimp only at hSw);go_simp;(try with_reducible rfl))
        rotate_left
        simp only [Act.put,zq0,zq1,zq2,zq3,zq4,zq5]
        refine wpAnyH_take (i:=9) (v:=?_) rfl (by kernel_rfl) (by kernel_rfl) (by kernel_rfl) (fun _ _ _ h=>h) (Or.inl ⟨by rfl,?_⟩) hS ?_
        rotate_left
        · (intro w hSw;(try dsimp only at hSw);go_simp;(try with_reducible rfl))
        rotate_left
        simp only [Act.put,zq0,zq1,zq2,zq3,zq4,zq5]
        refine wpAnyH_take (i:=10) (v:=?_) rfl (by kernel_rfl) (by kernel_rfl) (by kernel_rfl) (fun _ _ _ h=>h) (Or.inl ⟨by rfl,?_⟩) hS ?_
        rotate_left
        · (intro w hSw;(try dsimp only at hSw);go_simp;(try with_reducible rfl))
        rotate_left
        simp only [Act.put,zq0,zq1,zq2,zq3,zq4,zq5]
        refine wpAnyH_take (i:=11) (v:=?_) rfl (by kernel_rfl) (by kernel_rfl) (by kernel_rfl) (fun _ _ _ h=>h) (Or.inl ⟨by rfl,?_⟩) hS ?_
        rotate_left
        · (intro w hSw;(try dsimp only at hSw);go_simp;(try with_reducible rfl))
        rotate_left
        simp only [Act.put,zq0,zq1,zq2,zq3,zq4,zq5]
        refine wpAnyH_take (i:=12) (v:=?_) rfl (by kernel_rfl) (by kernel_rfl) (by kernel_rfl) (fun _ _ _ h=>h) (Or.inl ⟨by rfl,?_⟩) hS ?_
        rotate_left
        · (intro w hSw;(try dsimp only at hSw);go_simp;(try with_reducible rfl))
        rotate_left
        simp only [Act.put,zq0,zq1,zq2,zq3,zq4,zq5]
        refine wpAnyH_take (i:=13) (v:=?_) rfl (by kernel_rfl) (by kernel_rfl) (by kernel_rfl) (fun _ _ _ h=>h) (Or.inl ⟨by rfl,?_⟩) hS ?_
        rotate_left
        · (intro w hSw;(try dsimp only at hSw);go_simp;(try with_reducible rfl))
        rotate_left
        simp only [Act.put,zq0,zq1,zq2,zq3,zq4,zq5]
        refine wpAnyH_take (i:=14) (v:=?_) rfl (by kernel_rfl) (by kernel_rfl) (by kernel_rfl) (fun _ _ _ h=>h) (Or.inl ⟨by rfl,?_⟩) hS ?_
        rotate_left
        · (intro w hSw;(try dsimp only at hSw);go_simp;(try with_reducible rfl))
        rotate_left
        simp only [Act.put,zq0,zq1,zq2,zq3,zq4,zq5]
        refine wpAnyH_take (i:=15) (v:=?_) rfl (by kernel_rfl) (by kernel_rfl) (by kernel_rfl) (fun _ _ _ h=>h) (Or.inl ⟨by rfl,?_⟩) hS ?_
        rotate_left
        · (intro w hSw;(try dsimp only at hSw);go_simp;(try with_reducible rfl))
        rotate_left
        simp only [Act.put,zq0,zq1,zq2,zq3,zq4,zq5]
        refine wpAnyH_take (i:=16) (v:=?_) rfl (by kernel_rfl) (by kernel_rfl) (by kernel_rfl) (fun _ _ _ h=>h) (Or.inl ⟨by rfl,?_⟩) hS ?_
        rotate_left
        · (intro w hSw;(try dsimp only at hSw);go_simp;(try with_reducible rfl))
        rotate_left
        simp only [Act.put,zq0,zq1,zq2,zq3,zq4,zq5]
        refine wpAnyH_take (i:=17) (v:=?_) rfl (by kernel_rfl) (by kernel_rfl) (by kernel_rfl) (fun _ _ _ h=>h) (Or.inl ⟨by rfl,?_⟩) hS ?_
        rotate_left
        · (intro w hSw;(try dsimp only at hSw);go_simp;(try with_reducible rfl))
        rotate_left
        simp only [Act.put,zq0,zq1,zq2,zq3,zq4,zq5]
        refine wpAnyH_take (i:=18) (v:=?_) rfl (by kernel_rfl) (by kernel_rfl) (by kernel_rfl) (fun _ _ _ h=>h) (Or.inl ⟨by rfl,?_⟩) hS ?_
        rotate_left
        · (intro w hSw;(try dsimp only at hSw);go_simp;(try with_reducible rfl))
        rotate_left
        simp only [Act.put,zq0,zq1,zq2,zq3,zq4,zq5]
        refine wpAnyH_take (i:=19) (v:=?_) rfl (by kernel_rfl) (by kernel_rfl) (by kernel_rfl) (fun _ _ _ h=>h) (Or.inl ⟨by rfl,?_⟩) hS ?_
        rotate_left
        · (intro w hSw;(try dsimp only at hSw);go_simp;(try with_reducible rfl))
        rotate_left
        simp only [Act.put,zq0,zq1,zq2,zq3,zq4,zq5]
        refine wpAnyH_take (i:=20) (v:=?_) rfl (by kernel_rfl) (by kernel_rfl) (by kernel_rfl) (fun _ _ _ h=>h) (Or.inl ⟨by rfl,?_⟩) hS ?_
        rotate_left
        · (intro w hSw;(try dsimp only at hSw);go_simp;(try with_reducible rfl))
        rotate_left
        simp only [Act.put,zq0,zq1,zq2,zq3,zq4,zq5]
        refine wpAnyH_take (i:=21) (v:=?_) rfl (by kernel_rfl) (by kernel_rfl) (by kernel_rfl) (fun _ _ _ h=>h) (Or.inl ⟨by rfl,?_⟩) hS ?_
        rotate_left
        · (intro w hSw;(try dsimp only at hSw);go_simp;(try with_reducible rfl))
        rotate_left
        simp only [Act.put,zq0,zq1,zq2,zq3,zq4,zq5]
        refine wpAnyH_take (i:=22) (v:=?_) rfl (by kernel_rfl) (by kernel_rfl) (by kernel_rfl) (fun _ _ _ h=>h) (Or.inl ⟨by rfl,?_⟩) hS ?_
        rotate_left
        · (intro w hSw;(try dsimp only at hSw);go_simp;(try with_reducible rfl))
        rotate_left
        simp only [Act.put,zq0,zq1,zq2,zq3,zq4,zq5]
        refine wpAnyH_take (i:=23) (v:=?_) rfl (by kernel_rfl) (by kernel_rfl) (by kernel_rfl) (fun _ _ _ h=>h) (Or.inl ⟨by rfl,?_⟩) hS ?_
        rotate_left
        · (intro w hSw;(try dsimp only at hSw);go_simp;(try with_reducible rfl))
        rotate_left
        simp only [Act.put,zq0,zq1,zq2,zq3,zq4,zq5]
        refine wpAnyH_take (i:=24) (v:=?_) rfl (by kernel_rfl) (by kernel_rfl) (by kernel_rfl) (fun _ _ _ h=>h) (Or.inl ⟨by rfl,?_⟩) hS ?_
        rotate_left
        · (intro w hSw;(try dsimp only at hSw);go_simp;(try with_reducible rfl))
        rotate_left
        simp only [Act.put,zq0,zq1,zq2,zq3,zq4,zq5]
        refine wpAnyH_done (by kernel_rfl) ?_ _
        have t4:=Ext.trans t2 hS.1
        clear hS HSX
        go_wp2
        go_ret
        exact ⟨by first | rfl | (rw [HNO.out];done) | (rw [HNO.out];rfl),t4⟩
      · have HLS : Hid (∀ (h : 0 < j),fN (fs[j - 1]'(Nat.lt_of_le_of_lt (Nat.sub_le j 1) HLF.out)) < fN g):=fun h=>by have h2:=HP9.out;omega
        refine wpAnyH_take (i:=6) (v:=?_) rfl (by kernel_rfl) (by kernel_rfl) (by kernel_rfl) (fun _ _ _ h=>h) (Or.inl ⟨by rfl,?_⟩) hS ?_
        rotate_left
        · (intro w hSw;(try dsimp only at hSw);go_simp;(try with_reducible rfl))
        rotate_left
        simp only [Act.put,zq0,zq1,zq2,zq3,zq4,zq5]
        refine wpAnyH_take (i:=7) (v:=?_) rfl (by kernel_rfl) (by kernel_rfl) (by kernel_rfl) (fun _ _ _ h=>h) (Or.inl ⟨by rfl,?_⟩) hS ?_
        rotate_left
        · (intro w hSw;(try dsimp only at hSw);go_simp;(try with_reducible rfl))
        rotate_left
        simp only [Act.put,zq0,zq1,zq2,zq3,zq4,zq5]
        refine wpAnyH_take (i:=8) (v:=?_) rfl (by kernel_rfl) (by kernel_rfl) (by kernel_rfl) (fun _ _ _ h=>h) (Or.inl ⟨by rfl,?_⟩) hS ?_
        rotate_left
        · (intro w hSw;(try dsimp only at hSw);go_simp;(try with_reducible rfl))
        rotate_left
        simp only [Act.put,zq0,zq1,zq2,zq3,zq4,zq5]
        refine wpAnyH_take (i:=9) (v:=?_) rfl (by kernel_rfl) (by kernel_rfl) (by kernel_rfl) (fun _ _ _ h=>h) (Or.inl ⟨by rfl,?_⟩) hS ?_
        rotate_left
        · (intro w hSw;(try dsimp only at hSw);go_simp;(try with_reducible rfl))
        rotate_left
        simp only [Act.put,zq0,zq1,zq2,zq3,zq4,zq5]
        refine wpAnyH_take (i:=10) (v:=?_) rfl (by kernel_rfl) (by kernel_rfl) (by kernel_rfl) (fun _ _ _ h=>h) (Or.inl ⟨by rfl,?_⟩) hS ?_
        rotate_left
        · (intro w hSw;(try dsimp only at hSw);go_simp;(try with_reducible rfl))
        rotate_left
        simp only [Act.put,zq0,zq1,zq2,zq3,zq4,zq5]
        refine wpAnyH_take (i:=11) (v:=?_) rfl (by kernel_rfl) (by kernel_rfl) (by kernel_rfl) (fun _ _ _ h=>h) (Or.inl ⟨by rfl,?_⟩) hS ?_
        rotate_left
        · (intro w hSw;(try dsimp only at hSw);go_simp;(try with_reducible rfl))
        rotate_left
        simp only [Act.put,zq0,zq1,zq2,zq3,zq4,zq5]
        refine wpAnyH_take (i:=12) (v:=?_) rfl (by kernel_rfl) (by kernel_rfl) (by kernel_rfl) (fun _ _ _ h=>h) (Or.inl ⟨by rfl,?_⟩) hS ?_
        rotate_left
        · (intro w hSw;(try dsimp only at hSw);go_simp;(try with_reducible rfl))
        rotate_left
        simp only [Act.put,zq0,zq1,zq2,zq3,zq4,zq5]
        refine wpAnyH_take (i:=13) (v:=?_) rfl (by kernel_rfl) (by kernel_rfl) (by kernel_rfl) (fun _ _ _ h=>h) (Or.inl ⟨by rfl,?_⟩) hS ?_
        rotate_left
        · (intro w hSw;(try dsimp only at hSw);go_simp;(try with_reducible rfl))
        rotate_left
        simp only [Act.put,zq0,zq1,zq2,zq3,zq4,zq5]
        refine wpAnyH_take (i:=14) (v:=?_) rfl (by kernel_rfl) (by kernel_rfl) (by kernel_rfl) (fun _ _ _ h=>h) (Or.inl ⟨by rfl,?_⟩) hS ?_
        rotate_left
        · (intro w hSw;(try dsimp only at hSw);go_simp;(try with_reducible rfl))
        rotate_left
        simp only [Act.put,zq0,zq1,zq2,zq3,zq4,zq5]
        refine wpAnyH_take (i:=15) (v:=?_) rfl (by kernel_rfl) (by kernel_rfl) (by kernel_rfl) (fun _ _ _ h=>h) (Or.inl ⟨by rfl,?_⟩) hS ?_
        rotate_left
        · (intro w hSw;(try dsimp only at hSw);go_simp;(try with_reducible rfl))
        rotate_left
        simp only [Act.put,zq0,zq1,zq2,zq3,zq4,zq5]
        refine wpAnyH_take (i:=16) (v:=?_) rfl (by kernel_rfl) (by kernel_rfl) (by kernel_rfl) (fun _ _ _ h=>h) (Or.inl ⟨by rfl,?_⟩) hS ?_
        rotate_left
        · (intro w hSw;(try dsimp only at hSw);go_simp;(try with_reducible rfl))
        rotate_left
        simp only [Act.put,zq0,zq1,zq2,zq3,zq4,zq5]
        refine wpAnyH_take (i:=17) (v:=?_) rfl (by kernel_rfl) (by kernel_rfl) (by kernel_rfl) (fun _ _ _ h=>h) (Or.inl ⟨by rfl,?_⟩) hS ?_
        rotate_left
        · (intro w hSw;(try dsimp only at hSw);go_simp;(try with_reducible rfl))
        rotate_left
        simp only [Act.put,zq0,zq1,zq2,zq3,zq4,zq5]
        refine wpAnyH_take (i:=18) (v:=?_) rfl (by kernel_rfl) (by kernel_rfl) (by kernel_rfl) (fun _ _ _ h=>h) (Or.inl ⟨by rfl,?_⟩) hS ?_
        rotate_left
        · (intro w hSw;(try dsimp only at hSw);go_simp;(try with_reducible rfl))
        rotate_left
        simp only [Act.put,zq0,zq1,zq2,zq3,zq4,zq5]
        refine wpAnyH_take (i:=19) (v:=?_) rfl (by kernel_rfl) (by kernel_rfl) (by kernel_rfl) (fun _ _ _ h=>h) (Or.inl ⟨by rfl,?_⟩) hS ?_
        rotate_left
        · (intro w hSw;(try dsimp only at hSw);go_simp;(try with_reducible rfl))
        rotate_left
        simp only [Act.put,zq0,zq1,zq2,zq3,zq4,zq5]
        refine wpAnyH_take (i:=20) (v:=?_) rfl (by kernel_rfl) (by kernel_rfl) (by kernel_rfl) (fun _ _ _ h=>h) (Or.inl ⟨by rfl,?_⟩) hS ?_
        rotate_left
        · (intro w hSw;(try dsimp only at hSw);go_simp;(try with_reducible rfl))
        rotate_left
        simp only [Act.put,zq0,zq1,zq2,zq3,zq4,zq5]
        refine wpAnyH_take (i:=21) (v:=?_) rfl (by kernel_rfl) (by kernel_rfl) (by kernel_rfl) (fun _ _ _ h=>h) (Or.inl ⟨by rfl,?_⟩) hS ?_
        rotate_left
        · (intro w hSw;(try dsimp only at hSw);go_simp;(try with_reducible rfl))
        rotate_left
        simp only [Act.put,zq0,zq1,zq2,zq3,zq4,zq5]
        refine wpAnyH_take (i:=22) (v:=?_) rfl (by kernel_rfl) (by kernel_rfl) (by kernel_rfl) (fun _ _ _ h=>h) (Or.inl ⟨by rfl,?_⟩) hS ?_
        rotate_left
        · (intro w hSw;(try dsimp only at hSw);go_simp;(try with_reducible rfl))
        rotate_left
        simp only [Act.put,zq0,zq1,zq2,zq3,zq4,zq5]
        refine wpAnyH_take (i:=23) (v:=?_) rfl (by kernel_rfl) (by kernel_rfl) (by kernel_rfl) (fun _ _ _ h=>h) (Or.inl ⟨by rfl,?_⟩) hS ?_
        rotate_left
        · (intro w hSw;(try dsimp only at hSw);go_simp;(try with_reducible rfl))
        rotate_left
        simp only [Act.put,zq0,zq1,zq2,zq3,zq4,zq5]
        refine wpAnyH_take (i:=24) (v:=?_) rfl (by kernel_rfl) (by kernel_rfl) (by kernel_rfl) (fun _ _ _ h=>h) (Or.inl ⟨by rfl,?_⟩) hS ?_
        rotate_left
        · (intro w hSw;(try dsimp only at hSw);go_simp;(try with_reducible rfl))
        rotate_left
        simp only [Act.put,zq0,zq1,zq2,zq3,zq4,zq5]
        clear hjp hjn hjw hpN h9
        refine wpAnyH_done (by kernel_rfl) ?_ _
        have b4:=hS.1
        obtain ⟨q0,q1,q2,q3,q4,q5,q6,q7⟩:=hS.2.2.1
        have t4:=Ext.trans t2 b4
        have b5:=Ext.trans b2 b4
        have HWA:=Lib.hid (rwaits_any S g Ab cb As cs Aq cq Ax cx v3 (HRS.out.below b4))
        have HFR:=Lib.hid (fun (hcd : CodeTo (⟨id,m,c,r,l,h⟩ : Cfg) fs (j + 1)) (w' : World) (bb : Below v3.heap.size v3 w')=>HFIR.out w' j HLF.out hcd (HR2.out.below (Ext.trans b4 bb)))
        clear hS HSX b4 HC1 HG8
        go_wp2_with fail
        refine HWA.out.mono ?_
        rintro e w5 ⟨rfl,b6⟩
        have t6:=Ext.trans t4 b6
        have b7:=Ext.trans b5 b6
        have HB6:=Lib.hid b6
        clear q0 q1 q2 q3 q4 q5 q6 q7 HWA b6 t4 b5
        cases hgo : goesB g with
        | false=>
          have HA' : Hid ((∀ i,i < j + 1 → stB (⟨id,m,c,r,l,h⟩ : Cfg) fs i = true) ∧ CodeTo (⟨id,m,c,r,l,h⟩ : Cfg) fs (j + 1)):=⟨fun i hi=>by
           by_cases e : i = j
           · subst e
             exact HST.out.2 ⟨HON.out,HLS.out,fun hh=>by rw [hgo] at hh;cases hh⟩
           · exact HA.out.1 i (by omega),HCD.out⟩
          go_wp2
          go_roundw
          case rel=>exact ⟨j + 1,HLJ.out,by first | rfl | exact round_same HWJ | go_num,b7,HA'.out⟩
          case measure=>first | exact round_less HWJ HLJ.out | (have h:=HLJ.out;simp [intOf];omega)
        | true=>
          have HF:=Lib.hid (HFR.out HCD.out w5 HB6.out)
          have HFV : Hid (stB (⟨id,m,c,r,l,h⟩ : Cfg) fs j = true ↔ firstB fs j = true):=HST.out.trans ⟨fun hh=>hh.2.2 hgo,fun hh=>⟨HON.out,HLS.out,fun _=>hh⟩⟩
          obtain ⟨fj,hfj⟩ : ∃ z : Bool,z = firstB fs j:=⟨_,rfl⟩
          rw [← hfj] at HF HFV
          clear hfj HFR
          go_wp2_with fail
          refine HF.out.mono ?_
          rintro e w7 ⟨rfl,b8⟩
          have t7:=Ext.trans t6 b8
          have b9:=Ext.trans b7 b8
          clear HF b8
          cases fj with
          | false=>
            have HNO : Hid (flB (⟨id,m,c,r,l,h⟩ : Cfg) fs = false):=stB_no HLF.out fun ht=>absurd (HFV.out.1 ht) (by decide)
            go_wp2
            go_ret
            exact ⟨by first | rfl | (rw [HNO.out];done) | (rw [HNO.out];rfl),t7⟩
          | true=>
            have HA' : Hid ((∀ i,i < j + 1 → stB (⟨id,m,c,r,l,h⟩ : Cfg) fs i = true) ∧ CodeTo (⟨id,m,c,r,l,h⟩ : Cfg) fs (j + 1)):=⟨fun i hi=>by
              by_cases e : i = j
              · subst e
                exact HFV.out.2 (by first | rfl | trivial)
              · exact HA.out.1 i (by omega),HCD.out⟩
            go_wp2
            go_roundw
            case rel=>exact ⟨j + 1,HLJ.out,by first | rfl | exact round_same HWJ | go_num,b9,HA'.out⟩
            case measure=>first | exact round_less HWJ HLJ.out | (have h:=HLJ.out;simp [intOf];omega)
  · have HYE : Hid (flB (⟨id,m,c,r,l,h⟩ : Cfg) fs = true):=flB_iff.2 ⟨HXK.out,by have:=HN8.out;have:=HN.out;omega,fun i hi=>HA.out.1 i (by have:=HN.out;omega)⟩
    go_wp2
    go_ret
    exact ⟨by first | rfl | (rw [HYE.out];done) | (rw [HYE.out];rfl),t2⟩
end Go.Proofs.Ythapabjlhooglaa
namespace Go.Proofs.Ythapabjlhooglaa
open Go Go.RowKit
set_option linter.unusedSimpArgs false
set_option linter.unusedVariables false
theorem rcheck24_any (S : Nat → Prop) (x : Cfg) (fs : List FlTy.T) (N d : Nat) (B : Option Addr) (hN : fs.length = N) (w : World) (hr : RdIn w S (.sl FlTy) fs [.slice B N d]) :
 Calls Try.prog 20 #[x.val,.slice B N d] w fun e w'=>OkBad (flB x fs = true) e ∧ Below w.heap.size w w':=by
 have HM:=Lib.hid (fun (w : World) (hr : RdIn w S (.sl FlTy) fs [.slice B N d])=>rmay24_any S x fs N d B hN w hr)
 obtain ⟨fb,hfb⟩ : ∃ z : Bool,z = flB x fs:=⟨_,rfl⟩
 rw [← hfb] at HM ⊢
 clear hfb hN
 obtain ⟨id,m,c,r,l,h⟩:=x
 unfold Cfg.val at *
 dsimp only at *
 have C0:=BoxOf.new w #[.int .u32 (id : Int),.int .i64 m,.int .i64 c,.int .i64 r,.int .i64 l,.int .i64 h] 24
 have t0:=Ext.alloc (Below.refl w.heap.size w) (.cells #[.int .u32 (id : Int),.int .i64 m,.int .i64 c,.int .i64 r,.int .i64 l,.int .i64 h] 24)
 have HR:=Lib.hid (hr.below t0)
 clear hr
 go_enter Try.func20,Try.ntmps20
 go_upto_region 1 with fail
 generalize w.alloc (.cells #[.int .u32 (id : Int),.int .i64 m,.int .i64 c,.int .i64 r,.int .i64 l,.int .i64 h] 24) = W at *
 have x0:=C0.cell
 go_wp2_with fail
 refine (HM.out _ HR.out).mono ?_
 rintro e w1 ⟨rfl,b1⟩
 have t1:=Ext.trans t0 b1
 clear x0 C0 HR t0 b1
 cases fb with
 | false=>
   go_wp2
   go_ret
   exact ⟨OkBad.bad (by decide),t1⟩
 | true=>
   go_wp2
   go_ret
   exact ⟨OkBad.ok trivial,t1⟩
def hasF (n b : Int) (f : FlTy.T) : Bool:=numF n f && (decide (fA f ≤ b) && decide (b < fA f + fM f))
theorem fnd_has {x : Cfg} {fs : List FlTy.T} {n b : Int} (h : flB x fs = true) : fs.findIdx? (hasF n b) = fndP fs n b:=by
 have key : ∀ {i : Nat} (hi : i < fs.length),hasF n b fs[i] = true → fN fs[i] = n ∧ fA fs[i] ≤ b ∧ b < fA fs[i] + fM fs[i]:=fun {i} hi hh=>by
  unfold hasF numF at hh
  simp only [Bool.and_eq_true,beq_iff_eq,decide_eq_true_eq] at hh
  exact ⟨hh.1,hh.2.1,hh.2.2⟩
 cases h1 : fs.findIdx? (numF n) with
 | none=>
   rw [fndP_none h1,List.findIdx?_eq_none_iff]
   intro f hf
   rw [List.findIdx?_eq_none_iff] at h1
   have h2:=h1 f hf
   unfold hasF
   rw [h2]
   rfl
 | some k=>
   rw [List.findIdx?_eq_some_iff_getElem] at h1
   obtain ⟨hk,h2,h3⟩:=h1
   have hkn : fN fs[k] = n:=by unfold numF at h2;simpa using h2
   rw [fndP_at (fl_idx h hk hkn) hk]
   split
   · rename_i hr
     refine idx_at hk ?_ fun i hi hil=>?_
     · unfold hasF numF
       simp only [Bool.and_eq_true,beq_iff_eq,decide_eq_true_eq]
       exact ⟨hkn,hr.1,hr.2⟩
     · cases h9 : hasF n b fs[i] with
       | false=>rfl
       | true=>
         have:=fl_uniq h hil hk ((key hil h9).1.trans hkn.symm)
         omega
   · rename_i hr
     rw [List.findIdx?_eq_none_iff]
     intro f hf
     obtain ⟨i,hi,rfl⟩:=List.getElem_of_mem hf
     cases h9 : hasF n b fs[i] with
     | false=>rfl
     | true=>
       obtain ⟨k1,k2,k3⟩:=key hi h9
       have:=fl_uniq h hi hk (k1.trans hkn.symm)
       subst this
       exact absurd ⟨k2,k3⟩ hr
set_option maxRecDepth 100000 in
set_option maxHeartbeats 4000000 in
theorem rfind_any (S : Nat → Prop) (fs : List FlTy.T) (N d : Nat) (B : Option Addr) (hN : fs.length = N) (n b : Int) (hfit : Fit8 fs) (w : World) (hr : RdIn w S (.sl FlTy) fs [.slice B N d]) :
 Calls Try.prog 41 #[.slice B N d,.int .i64 n,.int .i64 b] w fun e w'=>IdxIs (hasF n b) fs e ∧ Below w.heap.size w w':=by
 have HR:=Lib.hid hr
 have HNL:=Lib.hid hN
 have HNM : Hid (N ≤ maxLen):=by have:=fl_max hr;show N ≤ maxLen;omega
 have HFT:=Lib.hid hfit
 clear hr hN hfit
 go_enter Try.func41,Try.ntmps41
 go_upto_region 1 with fail
 obtain ⟨W,hW⟩ : ∃ z : World,z = w:=⟨_,rfl⟩
 have b0 : Below W.heap.size W w:=by rw [hW];exact Below.refl _ _
 have HWW:=Lib.hid hW
 rw [← hW] at HR
 clear hW
 go_wp2
 go_loopw [7] (fun i wr=>∃ (j : Nat),j ≤ N ∧ i = .int .i64 (j : Int) ∧ Below W.heap.size W wr ∧ Hid (∀ i,i < j → NotAt (hasF n b) fs i)) (fun i _=>N - (intOf i).toNat)
 case atStart=>exact ⟨0,Nat.zero_le _,rfl,b0,fun i h=>absurd h (Nat.not_lt_zero _)⟩
 case round=>
  obtain ⟨j,hj,rfl,b1,HA⟩:=hrel
  clear b0
  have bw : Below w.heap.size w wr:=by have:=HWW.out;subst this;exact b1
  by_cases hlt : j < N
  · have hlf : j < fs.length:=by have:=HNL.out;omega
    obtain ⟨bb,off,Ab,cb,As,cs,Aq,cq,Ax,cx,rfl,q0,q1,q2,q3,q4,q5,q6,q7,hi,r1,r2,r3,r4⟩:=fl_at (HR.out.below b1) hlf
    have HSK : Hid (NotAt (hasF n b) fs j ↔ hasF n b fs[j] = false):=⟨fun h=>h hlf,fun h _=>h⟩
    have HSY : Hid (hasF n b fs[j] = true → IdxIs (hasF n b) fs (.returned (.int .i64 (j : Int)))):=fun h=>IdxIs.at hlf h HA.out
    have hft:=HFT.out j hlf
    generalize fs[j] = g at *
    have HHD : Hid (hasF n b g = ((fN g == n) && (decide (fA g ≤ b) && decide (b < fA g + fM g)))):=rfl
    have hsw : IntKind.i64.wrap (fA g + fM g) = fA g + fM g:=IntWalk.i64_in _ (by omega)
    have hjN : j < N:=hlt
    have HWJ:=next_wrap HNM.out hlt
    have HLJ:=Lib.hid hlt
    obtain ⟨hb,hhb⟩ : ∃ z : Bool,z = hasF n b g:=⟨_,rfl⟩
    rw [← hhb] at HSK HSY HHD
    clear hft q1 q4 q5 q6 q7 hi r1 r2 r3 r4 hhb
    go_upto_region 4 with fail
    have HSX : Hid (∀ w',Below wr.heap.size wr w' → (Below wr.heap.size wr w' ∧ w'.cell? ⟨bb,off + j * 8,none⟩ = some (.int .i64 (fN g)) ∧ w'.cell? ⟨bb,off + j * 8 + 1 + 1,none⟩ = some (.int .i64 (fA g)) ∧ w'.cell? ⟨bb,off + j * 8 + 1 + 2,none⟩ = some (.int .i64 (fM g)))):=fun w' b3=>⟨b3,(b3.cell (p:=⟨bb,off + j * 8,none⟩) (cell_lt q0)).trans q0,(b3.cell (p:=⟨bb,off + j * 8 + 2,none⟩) (cell_lt q2)).trans q2,(b3.cell (p:=⟨bb,off + j * 8 + 3,none⟩) (cell_lt q3)).trans q3⟩
    have HSD:=HSX.out _ (Ext.drew (Below.refl wr.heap.size wr))
    clear q0 q2 q3 HSX
    refine wp_region_held_drew (S:=fun w'=>Below wr.heap.size wr w' ∧ w'.cell? ⟨bb,off + j * 8,none⟩ = some (.int .i64 (fN g)) ∧ w'.cell? ⟨bb,off + j * 8 + 1 + 1,none⟩ = some (.int .i64 (fA g)) ∧ w'.cell? ⟨bb,off + j * 8 + 1 + 2,none⟩ = some (.int .i64 (fM g))) (by kernel_rfl) HSD (fun hS=>?_)
    clear HSD
    rcases Bool.eq_false_or_eq_true (fN g == n) with e1 | e1
    rotate_left
    · have HNO : Hid (hb = false):=by show _ = _;rw [HHD.out,e1];rfl
      refine wpAnyH_take (i:=0) (v:=?_) rfl (by kernel_rfl) (by kernel_rfl) (by kernel_rfl) (fun _ _ _ h=>h) (Or.inl ⟨by rfl,?_⟩) hS ?_
      rotate_left
      · (intro w hSw;(try dsimp only at hSw);go_simp;(try with_reducible rfl))
      rotate_left
      simp only [Act.put,zq0,zq1,zq2,zq3,zq4,zq5]
      refine wpAnyH_take (i:=1) (v:=?_) rfl (by kernel_rfl) (by kernel_rfl) (by kernel_rfl) (fun _ _ _ h=>h) (Or.inl ⟨by rfl,?_⟩) hS ?_
      rotate_left
      · (intro w hSw;(try dsimp only at hSw);go_simp;(try with_reducible rfl))
      rotate_left
      simp only [Act.put,zq0,zq1,zq2,zq3,zq4,zq5]
      refine wpAnyH_take (i:=2) (v:=?_) rfl (by kernel_rfl) (by kernel_rfl) (by kernel_rfl) (fun _ _ _ h=>h) (Or.inl ⟨by rfl,?_⟩) hS ?_
      rotate_left
      · (intro w hSw;(try dsimp only at hSw);go_simp;(try with_reducible rfl))
      rotate_left
      simp only [Act.put,zq0,zq1,zq2,zq3,zq4,zq5]
      refine wpAnyH_take (i:=3) (v:=?_) rfl (by kernel_rfl) (by kernel_rfl) (by kernel_rfl) (fun _ _ _ h=>h) (Or.inl ⟨by rfl,?_⟩) hS ?_
      rotate_left
      · (intro w hSw;(try dsimp only at hSw);go_simp;(try with_reducible rfl))
      rotate_left
      simp only [Act.put,zq0,zq1,zq2,zq3,zq4,zq5]
      refine wpAnyH_take (i:=4) (v:=?_) rfl (by kernel_rfl) (by kernel_rfl) (by kernel_rfl) (fun _ _ _ h=>h) (Or.inl ⟨by rfl,?_⟩) hS ?_
      rotate_left
      · (intro w hSw;(try dsimp only at hSw);go_simp;(try with_reducible rfl))
      rotate_left
      simp only [Act.put,zq0,zq1,zq2,zq3,zq4,zq5]
      refine wpAnyH_take (i:=5) (v:=?_) rfl (by kernel_rfl) (by kernel_rfl) (by kernel_rfl) (fun _ _ _ h=>h) (Or.inl ⟨by rfl,?_⟩) hS ?_
      rotate_left
      · (intro w hSw;(try dsimp only at hSw);go_simp;(try with_reducible rfl))
      rotate_left
      simp only [Act.put,zq0,zq1,zq2,zq3,zq4,zq5]
      refine wpAnyH_take (i:=6) (v:=?_) rfl (by kernel_rfl) (by kernel_rfl) (by kernel_rfl) (fun _ _ _ h=>h) (Or.inl ⟨by rfl,?_⟩) hS ?_
      rotate_left
      · (intro w hSw;(try dsimp only at hSw);go_simp;(try with_reducible rfl))
      rotate_left
      simp only [Act.put,zq0,zq1,zq2,zq3,zq4,zq5]
      refine wpAnyH_take (i:=7) (v:=?_) rfl (by kernel_rfl) (by kernel_rfl) (by kernel_rfl) (fun _ _ _ h=>h) (Or.inl ⟨by rfl,?_⟩) hS ?_
      rotate_left
      · (intro w hSw;(try dsimp only at hSw);go_simp;(try with_reducible rfl))
      rotate_left
      simp only [Act.put,zq0,zq1,zq2,zq3,zq4,zq5]
      refine wpAnyH_take (i:=8) (v:=?_) rfl (by kernel_rfl) (by kernel_rfl) (by kernel_rfl) (fun _ _ _ h=>h) (Or.inr ⟨by rfl,?_⟩) hS ?_
      rotate_left
      · rfl
      rotate_left
      simp only [Act.put,zq0,zq1,zq2,zq3,zq4,zq5]
      refine wpAnyH_take (i:=9) (v:=?_) rfl (by kernel_rfl) (by kernel_rfl) (by kernel_rfl) (fun _ _ _ h=>h) (Or.inr ⟨by rfl,?_⟩) hS ?_
      rotate_left
      · rfl
      rotate_left
      simp only [Act.put,zq0,zq1,zq2,zq3,zq4,zq5]
      refine wpAnyH_take (i:=10) (v:=?_) rfl (by kernel_rfl) (by kernel_rfl) (by kernel_rfl) (fun _ _ _ h=>h) (Or.inr ⟨by rfl,?_⟩) hS ?_
      rotate_left
      · rfl
      rotate_left
      simp only [Act.put,zq0,zq1,zq2,zq3,zq4,zq5]
      refine wpAnyH_take (i:=11) (v:=?_) rfl (by kernel_rfl) (by kernel_rfl) (by kernel_rfl) (fun _ _ _ h=>h) (Or.inr ⟨by rfl,?_⟩) hS ?_
      rotate_left
      · rfl
      rotate_left
      simp only [Act.put,zq0,zq1,zq2,zq3,zq4,zq5]
      refine wpAnyH_take (i:=12) (v:=?_) rfl (by kernel_rfl) (by kernel_rfl) (by kernel_rfl) (fun _ _ _ h=>h) (Or.inr ⟨by rfl,?_⟩) hS ?_
      rotate_left
      · rfl
      rotate_left
      simp only [Act.put,zq0,zq1,zq2,zq3,zq4,zq5]
      refine wpAnyH_take (i:=13) (v:=?_) rfl (by kernel_rfl) (by kernel_rfl) (by kernel_rfl) (fun _ _ _ h=>h) (Or.inr ⟨by rfl,?_⟩) hS ?_
      rotate_left
      · rfl
      rotate_left
      simp only [Act.put,zq0,zq1,zq2,zq3,zq4,zq5]
      refine wpAnyH_take (i:=14) (v:=?_) rfl (by kernel_rfl) (by kernel_rfl) (by kernel_rfl) (fun _ _ _ h=>h) (Or.inr ⟨by rfl,?_⟩) hS ?_
      rotate_left
      · rfl
      rotate_left
      simp only [Act.put,zq0,zq1,zq2,zq3,zq4,zq5]
      refine wpAnyH_take (i:=15) (v:=?_) rfl (by kernel_rfl) (by kernel_rfl) (by kernel_rfl) (fun _ _ _ h=>h) (Or.inr ⟨by rfl,?_⟩) hS ?_
      rotate_left
      · rfl
      rotate_left
      simp only [Act.put,zq0,zq1,zq2,zq3,zq4,zq5]
      refine wpAnyH_take (i:=16) (v:=?_) rfl (by kernel_rfl) (by kernel_rfl) (by kernel_rfl) (fun _ _ _ h=>h) (Or.inl ⟨by rfl,?_⟩) hS ?_
      rotate_left
      · (intro w hSw;(try dsimp only at hSw);go_simp;(try with_reducible rfl))
      rotate_left
      simp only [Act.put,zq0,zq1,zq2,zq3,zq4,zq5]
      refine wpAnyH_take (i:=17) (v:=?_) rfl (by kernel_rfl) (by kernel_rfl) (by kernel_rfl) (fun _ _ _ h=>h) (Or.inl ⟨by rfl,?_⟩) hS ?_
      rotate_left
      · (intro w hSw;(try dsimp only at hSw);go_simp;(try with_reducible rfl))
      rotate_left
      simp only [Act.put,zq0,zq1,zq2,zq3,zq4,zq5]
      refine wpAnyH_take (i:=18) (v:=?_) rfl (by kernel_rfl) (by kernel_rfl) (by kernel_rfl) (fun _ _ _ h=>h) (Or.inr ⟨by rfl,?_⟩) hS ?_
      rotate_left
      · rfl
      rotate_left
      simp only [Act.put,zq0,zq1,zq2,zq3,zq4,zq5]
      refine wpAnyH_take (i:=19) (v:=?_) rfl (by kernel_rfl) (by kernel_rfl) (by kernel_rfl) (fun _ _ _ h=>h) (Or.inr ⟨by rfl,?_⟩) hS ?_
      rotate_left
      · rfl
      rotate_left
      simp only [Act.put,zq0,zq1,zq2,zq3,zq4,zq5]
      refine wpAnyH_take (i:=20) (v:=?_) rfl (by kernel_rfl) (by kernel_rfl) (by kernel_rfl) (fun _ _ _ h=>h) (Or.inr ⟨by rfl,?_⟩) hS ?_
      rotate_left
      · rfl
      rotate_left
      simp only [Act.put,zq0,zq1,zq2,zq3,zq4,zq5]
      refine wpAnyH_take (i:=21) (v:=?_) rfl (by kernel_rfl) (by kernel_rfl) (by kernel_rfl) (fun _ _ _ h=>h) (Or.inr ⟨by rfl,?_⟩) hS ?_
      rotate_left
      · rfl
      rotate_left
      simp only [Act.put,zq0,zq1,zq2,zq3,zq4,zq5]
      refine wpAnyH_take (i:=22) (v:=?_) rfl (by kernel_rfl) (by kernel_rfl) (by kernel_rfl) (fun _ _ _ h=>h) (Or.inr ⟨by rfl,?_⟩) hS ?_
      rotate_left
      · rfl
      rotate_left
      simp only [Act.put,zq0,zq1,zq2,zq3,zq4,zq5]
      refine wpAnyH_take (i:=23) (v:=?_) rfl (by kernel_rfl) (by kernel_rfl) (by kernel_rfl) (fun _ _ _ h=>h) (Or.inr ⟨by rfl,?_⟩) hS ?_
      rotate_left
      · rfl
      rotate_left
      simp only [Act.put,zq0,zq1,zq2,zq3,zq4,zq5]
      refine wpAnyH_take (i:=24) (v:=?_) rfl (by kernel_rfl) (by kernel_rfl) (by kernel_rfl) (fun _ _ _ h=>h) (Or.inr ⟨by rfl,?_⟩) hS ?_
      rotate_left
      · rfl
      rotate_left
      simp only [Act.put,zq0,zq1,zq2,zq3,zq4,zq5]
      refine wpAnyH_take (i:=25) (v:=?_) rfl (by kernel_rfl) (by kernel_rfl) (by kernel_rfl) (fun _ _ _ h=>h) (Or.inr ⟨by rfl,?_⟩) hS ?_
      rotate_left
      · rfl
      rotate_left
      simp only [Act.put,zq0,zq1,zq2,zq3,zq4,zq5]
      refine wpAnyH_take (i:=26) (v:=?_) rfl (by kernel_rfl) (by kernel_rfl) (by kernel_rfl) (fun _ _ _ h=>h) (Or.inr ⟨by rfl,?_⟩) hS ?_
      rotate_left
      · rfl
      rotate_left
      simp only [Act.put,zq0,zq1,zq2,zq3,zq4,zq5]
      refine wpAnyH_take (i:=27) (v:=?_) rfl (by kernel_rfl) (by kernel_rfl) (by kernel_rfl) (fun _ _ _ h=>h) (Or.inr ⟨by rfl,?_⟩) hS ?_
      rotate_left
      · rfl
      rotate_left
      simp only [Act.put,zq0,zq1,zq2,zq3,zq4,zq5]
      refine wpAnyH_take (i:=28) (v:=?_) rfl (by kernel_rfl) (by kernel_rfl) (by kernel_rfl) (fun _ _ _ h=>h) (Or.inr ⟨by rfl,?_⟩) hS ?_
      rotate_left
      · rfl
      rotate_left
      simp only [Act.put,zq0,zq1,zq2,zq3,zq4,zq5]
      refine wpAnyH_take (i:=29) (v:=?_) rfl (by kernel_rfl) (by kernel_rfl) (by kernel_rfl) (fun _ _ _ h=>h) (Or.inr ⟨by rfl,?_⟩) hS ?_
      rotate_left
      · rfl
      rotate_left
      simp only [Act.put,zq0,zq1,zq2,zq3,zq4,zq5]
      refine wpAnyH_take (i:=30) (v:=?_) rfl (by kernel_rfl) (by kernel_rfl) (by kernel_rfl) (fun _ _ _ h=>h) (Or.inr ⟨by rfl,?_⟩) hS ?_
      rotate_left
      · rfl
      rotate_left
      simp only [Act.put,zq0,zq1,zq2,zq3,zq4,zq5]
      refine wpAnyH_take (i:=31) (v:=?_) rfl (by kernel_rfl) (by kernel_rfl) (by kernel_rfl) (fun _ _ _ h=>h) (Or.inr ⟨by rfl,?_⟩) hS ?_
      rotate_left
      · rfl
      rotate_left
      simp only [Act.put,zq0,zq1,zq2,zq3,zq4,zq5]
      refine wpAnyH_take (i:=32) (v:=?_) rfl (by kernel_rfl) (by kernel_rfl) (by kernel_rfl) (fun _ _ _ h=>h) (Or.inr ⟨by rfl,?_⟩) hS ?_
      rotate_left
      · rfl
      rotate_left
      simp only [Act.put,zq0,zq1,zq2,zq3,zq4,zq5]
      refine wpAnyH_take (i:=33) (v:=?_) rfl (by kernel_rfl) (by kernel_rfl) (by kernel_rfl) (fun _ _ _ h=>h) (Or.inl ⟨by rfl,?_⟩) hS ?_
      rotate_left
      · (intro w hSw;(try dsimp only at hSw);go_simp;(try with_reducible rfl))
      rotate_left
      simp only [Act.put,zq0,zq1,zq2,zq3,zq4,zq5]
      refine wpAnyH_done (by kernel_rfl) ?_ _
      have b4:=Ext.trans b1 hS.1
      clear hS
      have HA' : Hid (∀ i,i < j + 1 → NotAt (hasF n b) fs i):=fun i hi=>by
       by_cases e : i = j
       · subst e;exact HSK.out.2 HNO.out
       · exact HA.out i (by omega)
      go_wp2
      go_roundw
      case rel=>exact ⟨j + 1,HLJ.out,by first | rfl | exact round_same HWJ | go_num,b4,HA'.out⟩
      case measure=>first | exact round_less HWJ HLJ.out | (have h:=HLJ.out;simp [intOf];omega)
    by_cases h2 : fA g ≤ b
    rotate_left
    · have HNO : Hid (hb = false):=by show _ = _;rw [HHD.out,e1,decide_eq_false h2];rfl
      refine wpAnyH_take (i:=0) (v:=?_) rfl (by kernel_rfl) (by kernel_rfl) (by kernel_rfl) (fun _ _ _ h=>h) (Or.inl ⟨by rfl,?_⟩) hS ?_
      rotate_left
      · (intro w hSw;(try dsimp only at hSw);go_simp;(try with_reducible rfl))
      rotate_left
      simp only [Act.put,zq0,zq1,zq2,zq3,zq4,zq5]
      refine wpAnyH_take (i:=1) (v:=?_) rfl (by kernel_rfl) (by kernel_rfl) (by kernel_rfl) (fun _ _ _ h=>h) (Or.inl ⟨by rfl,?_⟩) hS ?_
      rotate_left
      · (intro w hSw;(try dsimp only at hSw);go_simp;(try with_reducible rfl))
      rotate_left
      simp only [Act.put,zq0,zq1,zq2,zq3,zq4,zq5]
      refine wpAnyH_take (i:=2) (v:=?_) rfl (by kernel_rfl) (by kernel_rfl) (by kernel_rfl) (fun _ _ _ h=>h) (Or.inl ⟨by rfl,?_⟩) hS ?_
      rotate_left
      · (intro w hSw;(try dsimp only at hSw);go_simp;(try with_reducible rfl))
      rotate_left
      simp only [Act.put,zq0,zq1,zq2,zq3,zq4,zq5]
      refine wpAnyH_take (i:=3) (v:=?_) rfl (by kernel_rfl) (by kernel_rfl) (by kernel_rfl) (fun _ _ _ h=>h) (Or.inl ⟨by rfl,?_⟩) hS ?_
      rotate_left
      · (intro w hSw;(try dsimp only at hSw);go_simp;(try with_reducible rfl))
      rotate_left
      simp only [Act.put,zq0,zq1,zq2,zq3,zq4,zq5]
      refine wpAnyH_take (i:=4) (v:=?_) rfl (by kernel_rfl) (by kernel_rfl) (by kernel_rfl) (fun _ _ _ h=>h) (Or.inl ⟨by rfl,?_⟩) hS ?_
      rotate_left
      · (intro w hSw;(try dsimp only at hSw);go_simp;(try with_reducible rfl))
      rotate_left
      simp only [Act.put,zq0,zq1,zq2,zq3,zq4,zq5]
      refine wpAnyH_take (i:=5) (v:=?_) rfl (by kernel_rfl) (by kernel_rfl) (by kernel_rfl) (fun _ _ _ h=>h) (Or.inl ⟨by rfl,?_⟩) hS ?_
      rotate_left
      · (intro w hSw;(try dsimp only at hSw);go_simp;(try with_reducible rfl))
      rotate_left
      simp only [Act.put,zq0,zq1,zq2,zq3,zq4,zq5]
      refine wpAnyH_take (i:=6) (v:=?_) rfl (by kernel_rfl) (by kernel_rfl) (by kernel_rfl) (fun _ _ _ h=>h) (Or.inl ⟨by rfl,?_⟩) hS ?_
      rotate_left
      · (intro w hSw;(try dsimp only at hSw);go_simp;(try with_reducible rfl))
      rotate_left
      simp only [Act.put,zq0,zq1,zq2,zq3,zq4,zq5]
      refine wpAnyH_take (i:=7) (v:=?_) rfl (by kernel_rfl) (by kernel_rfl) (by kernel_rfl) (fun _ _ _ h=>h) (Or.inl ⟨by rfl,?_⟩) hS ?_
      rotate_left
      · (intro w hSw;(try dsimp only at hSw);go_simp;(try with_reducible rfl))
      rotate_left
      simp only [Act.put,zq0,zq1,zq2,zq3,zq4,zq5]
      refine wpAnyH_take (i:=8) (v:=?_) rfl (by kernel_rfl) (by kernel_rfl) (by kernel_rfl) (fun _ _ _ h=>h) (Or.inl ⟨by rfl,?_⟩) hS ?_
      rotate_left
      · (intro w hSw;(try dsimp only at hSw);go_simp;(try with_reducible rfl))
      rotate_left
      simp only [Act.put,zq0,zq1,zq2,zq3,zq4,zq5]
      refine wpAnyH_take (i:=9) (v:=?_) rfl (by kernel_rfl) (by kernel_rfl) (by kernel_rfl) (fun _ _ _ h=>h) (Or.inl ⟨by rfl,?_⟩) hS ?_
      rotate_left
      · (intro w hSw;(try dsimp only at hSw);go_simp;(try with_reducible rfl))
      rotate_left
      simp only [Act.put,zq0,zq1,zq2,zq3,zq4,zq5]
      refine wpAnyH_take (i:=10) (v:=?_) rfl (by kernel_rfl) (by kernel_rfl) (by kernel_rfl) (fun _ _ _ h=>h) (Or.inl ⟨by rfl,?_⟩) hS ?_
      rotate_left
      · (intro w hSw;(try dsimp only at hSw);go_simp;(try with_reducible rfl))
      rotate_left
      simp only [Act.put,zq0,zq1,zq2,zq3,zq4,zq5]
      refine wpAnyH_take (i:=11) (v:=?_) rfl (by kernel_rfl) (by kernel_rfl) (by kernel_rfl) (fun _ _ _ h=>h) (Or.inl ⟨by rfl,?_⟩) hS ?_
      rotate_left
      · (intro w hSw;(try dsimp only at hSw);go_simp;(try with_reducible rfl))
      rotate_left
      simp only [Act.put,zq0,zq1,zq2,zq3,zq4,zq5]
      refine wpAnyH_take (i:=12) (v:=?_) rfl (by kernel_rfl) (by kernel_rfl) (by kernel_rfl) (fun _ _ _ h=>h) (Or.inl ⟨by rfl,?_⟩) hS ?_
      rotate_left
      · (intro w hSw;(try dsimp only at hSw);go_simp;(try with_reducible rfl))
      rotate_left
      simp only [Act.put,zq0,zq1,zq2,zq3,zq4,zq5]
      refine wpAnyH_take (i:=13) (v:=?_) rfl (by kernel_rfl) (by kernel_rfl) (by kernel_rfl) (fun _ _ _ h=>h) (Or.inl ⟨by rfl,?_⟩) hS ?_
      rotate_left
      · (intro w hSw;(try dsimp only at hSw);go_simp;(try with_reducible rfl))
      rotate_left
      simp only [Act.put,zq0,zq1,zq2,zq3,zq4,zq5]
      refine wpAnyH_take (i:=14) (v:=?_) rfl (by kernel_rfl) (by kernel_rfl) (by kernel_rfl) (fun _ _ _ h=>h) (Or.inl ⟨by rfl,?_⟩) hS ?_
      rotate_left
      · (intro w hSw;(try dsimp only at hSw);go_simp;(try with_reducible rfl))
      rotate_left
      simp only [Act.put,zq0,zq1,zq2,zq3,zq4,zq5]
      refine wpAnyH_take (i:=15) (v:=?_) rfl (by kernel_rfl) (by kernel_rfl) (by kernel_rfl) (fun _ _ _ h=>h) (Or.inl ⟨by rfl,?_⟩) hS ?_
      rotate_left
      · (intro w hSw;(try dsimp only at hSw);go_simp;(try with_reducible rfl))
      rotate_left
      simp only [Act.put,zq0,zq1,zq2,zq3,zq4,zq5]
      refine wpAnyH_take (i:=16) (v:=?_) rfl (by kernel_rfl) (by kernel_rfl) (by kernel_rfl) (fun _ _ _ h=>h) (Or.inl ⟨by rfl,?_⟩) hS ?_
      rotate_left
      · (intro w hSw;(try dsimp only at hSw);go_simp;(try with_reducible rfl))
      rotate_left
      simp only [Act.put,zq0,zq1,zq2,zq3,zq4,zq5]
      refine wpAnyH_take (i:=17) (v:=?_) rfl (by kernel_rfl) (by kernel_rfl) (by kernel_rfl) (fun _ _ _ h=>h) (Or.inl ⟨by rfl,?_⟩) hS ?_
      rotate_left
      · (intro w hSw;(try dsimp only at hSw);go_simp;(try with_reducible rfl))
      rotate_left
      simp only [Act.put,zq0,zq1,zq2,zq3,zq4,zq5]
      refine wpAnyH_take (i:=18) (v:=?_) rfl (by kernel_rfl) (by kernel_rfl) (by kernel_rfl) (fun _ _ _ h=>h) (Or.inr ⟨by rfl,?_⟩) hS ?_
      rotate_left
      · rfl
      rotate_left
      simp only [Act.put,zq0,zq1,zq2,zq3,zq4,zq5]
      refine wpAnyH_take (i:=19) (v:=?_) rfl (by kernel_rfl) (by kernel_rfl) (by kernel_rfl) (fun _ _ _ h=>h) (Or.inr ⟨by rfl,?_⟩) hS ?_
      rotate_left
      · rfl
      rotate_left
      simp only [Act.put,zq0,zq1,zq2,zq3,zq4,zq5]
      refine wpAnyH_take (i:=20) (v:=?_) rfl (by kernel_rfl) (by kernel_rfl) (by kernel_rfl) (fun _ _ _ h=>h) (Or.inr ⟨by rfl,?_⟩) hS ?_
      rotate_left
      · rfl
      rotate_left
      simp only [Act.put,zq0,zq1,zq2,zq3,zq4,zq5]
      refine wpAnyH_take (i:=21) (v:=?_) rfl (by kernel_rfl) (by kernel_rfl) (by kernel_rfl) (fun _ _ _ h=>h) (Or.inr ⟨by rfl,?_⟩) hS ?_
      rotate_left
      · rfl
      rotate_left
      simp only [Act.put,zq0,zq1,zq2,zq3,zq4,zq5]
      refine wpAnyH_take (i:=22) (v:=?_) rfl (by kernel_rfl) (by kernel_rfl) (by kernel_rfl) (fun _ _ _ h=>h) (Or.inr ⟨by rfl,?_⟩) hS ?_
      rotate_left
      · rfl
      rotate_left
      simp only [Act.put,zq0,zq1,zq2,zq3,zq4,zq5]
      refine wpAnyH_take (i:=23) (v:=?_) rfl (by kernel_rfl) (by kernel_rfl) (by kernel_rfl) (fun _ _ _ h=>h) (Or.inr ⟨by rfl,?_⟩) hS ?_
      rotate_left
      · rfl
      rotate_left
      simp only [Act.put,zq0,zq1,zq2,zq3,zq4,zq5]
      refine wpAnyH_take (i:=24) (v:=?_) rfl (by kernel_rfl) (by kernel_rfl) (by kernel_rfl) (fun _ _ _ h=>h) (Or.inr ⟨by rfl,?_⟩) hS ?_
      rotate_left
      · rfl
      rotate_left
      simp only [Act.put,zq0,zq1,zq2,zq3,zq4,zq5]
      refine wpAnyH_take (i:=25) (v:=?_) rfl (by kernel_rfl) (by kernel_rfl) (by kernel_rfl) (fun _ _ _ h=>h) (Or.inr ⟨by rfl,?_⟩) hS ?_
      rotate_left
      · rfl
      rotate_left
      simp only [Act.put,zq0,zq1,zq2,zq3,zq4,zq5]
      refine wpAnyH_take (i:=26) (v:=?_) rfl (by kernel_rfl) (by kernel_rfl) (by kernel_rfl) (fun _ _ _ h=>h) (Or.inr ⟨by rfl,?_⟩) hS ?_
      rotate_left
      · rfl
      rotate_left
      simp only [Act.put,zq0,zq1,zq2,zq3,zq4,zq5]
      refine wpAnyH_take (i:=27) (v:=?_) rfl (by kernel_rfl) (by kernel_rfl) (by kernel_rfl) (fun _ _ _ h=>h) (Or.inr ⟨by rfl,?_⟩) hS ?_
      rotate_left
      · rfl
      rotate_left
      simp only [Act.put,zq0,zq1,zq2,zq3,zq4,zq5]
      refine wpAnyH_take (i:=28) (v:=?_) rfl (by kernel_rfl) (by kernel_rfl) (by kernel_rfl) (fun _ _ _ h=>h) (Or.inr ⟨by rfl,?_⟩) hS ?_
      rotate_left
      · rfl
      rotate_left
      simp only [Act.put,zq0,zq1,zq2,zq3,zq4,zq5]
      refine wpAnyH_take (i:=29) (v:=?_) rfl (by kernel_rfl) (by kernel_rfl) (by kernel_rfl) (fun _ _ _ h=>h) (Or.inr ⟨by rfl,?_⟩) hS ?_
      rotate_left
      · rfl
      rotate_left
      simp only [Act.put,zq0,zq1,zq2,zq3,zq4,zq5]
      refine wpAnyH_take (i:=30) (v:=?_) rfl (by kernel_rfl) (by kernel_rfl) (by kernel_rfl) (fun _ _ _ h=>h) (Or.inr ⟨by rfl,?_⟩) hS ?_
      rotate_left
      · rfl
      rotate_left
      simp only [Act.put,zq0,zq1,zq2,zq3,zq4,zq5]
      refine wpAnyH_take (i:=31) (v:=?_) rfl (by kernel_rfl) (by kernel_rfl) (by kernel_rfl) (fun _ _ _ h=>h) (Or.inr ⟨by rfl,?_⟩) hS ?_
      rotate_left
      · rfl
      rotate_left
      simp only [Act.put,zq0,zq1,zq2,zq3,zq4,zq5]
      refine wpAnyH_take (i:=32) (v:=?_) rfl (by kernel_rfl) (by kernel_rfl) (by kernel_rfl) (fun _ _ _ h=>h) (Or.inr ⟨by rfl,?_⟩) hS ?_
      rotate_left
      · rfl
      rotate_left
      simp only [Act.put,zq0,zq1,zq2,zq3,zq4,zq5]
      refine wpAnyH_take (i:=33) (v:=?_) rfl (by kernel_rfl) (by kernel_rfl) (by kernel_rfl) (fun _ _ _ h=>h) (Or.inl ⟨by rfl,?_⟩) hS ?_
      rotate_left
      · (intro w hSw;(try dsimp only at hSw);go_simp;(try with_reducible rfl))
      rotate_left
      simp only [Act.put,zq0,zq1,zq2,zq3,zq4,zq5]
      refine wpAnyH_done (by kernel_rfl) ?_ _
      have b4:=Ext.trans b1 hS.1
      clear hS
      have HA' : Hid (∀ i,i < j + 1 → NotAt (hasF n b) fs i):=fun i hi=>by
       by_cases e : i = j
       · subst e;exact HSK.out.2 HNO.out
       · exact HA.out i (by omega)
      go_wp2
      go_roundw
      case rel=>exact ⟨j + 1,HLJ.out,by first | rfl | exact round_same HWJ | go_num,b4,HA'.out⟩
      case measure=>first | exact round_less HWJ HLJ.out | (have h:=HLJ.out;simp [intOf];omega)
    by_cases h3 : b < fA g + fM g
    · have HF : Hid (IdxIs (hasF n b) fs (.returned (.int .i64 (j : Int)))):=HSY.out (by rw [HHD.out,e1,decide_eq_true h2,decide_eq_true h3];rfl)
      refine wpAnyH_take (i:=0) (v:=?_) rfl (by kernel_rfl) (by kernel_rfl) (by kernel_rfl) (fun _ _ _ h=>h) (Or.inl ⟨by rfl,?_⟩) hS ?_
      rotate_left
      · (intro w hSw;(try dsimp only at hSw);go_simp;(try with_reducible rfl))
      rotate_left
      simp only [Act.put,zq0,zq1,zq2,zq3,zq4,zq5]
      refine wpAnyH_take (i:=1) (v:=?_) rfl (by kernel_rfl) (by kernel_rfl) (by kernel_rfl) (fun _ _ _ h=>h) (Or.inl ⟨by rfl,?_⟩) hS ?_
      rotate_left
      · (intro w hSw;(try dsimp only at hSw);go_simp;(try with_reducible rfl))
      rotate_left
      simp only [Act.put,zq0,zq1,zq2,zq3,zq4,zq5]
      refine wpAnyH_take (i:=2) (v:=?_) rfl (by kernel_rfl) (by kernel_rfl) (by kernel_rfl) (fun _ _ _ h=>h) (Or.inl ⟨by rfl,?_⟩) hS ?_
      rotate_left
      · (intro w hSw;(try dsimp only at hSw);go_simp;(try with_reducible rfl))
      rotate_left
      simp only [Act.put,zq0,zq1,zq2,zq3,zq4,zq5]
      refine wpAnyH_take (i:=3) (v:=?_) rfl (by kernel_rfl) (by kernel_rfl) (by kernel_rfl) (fun _ _ _ h=>h) (Or.inl ⟨by rfl,?_⟩) hS ?_
      rotate_left
      · (intro w hSw;(try dsimp only at hSw);go_simp;(try with_reducible rfl))
      rotate_left
      simp only [Act.put,zq0,zq1,zq2,zq3,zq4,zq5]
      refine wpAnyH_take (i:=4) (v:=?_) rfl (by kernel_rfl) (by kernel_rfl) (by kernel_rfl) (fun _ _ _ h=>h) (Or.inl ⟨by rfl,?_⟩) hS ?_
      rotate_left
      · (intro w hSw;(try dsimp only at hSw);go_simp;(try with_reducible rfl))
      rotate_left
      simp only [Act.put,zq0,zq1,zq2,zq3,zq4,zq5]
      refine wpAnyH_take (i:=5) (v:=?_) rfl (by kernel_rfl) (by kernel_rfl) (by kernel_rfl) (fun _ _ _ h=>h) (Or.inl ⟨by rfl,?_⟩) hS ?_
      rotate_left
      · (intro w hSw;(try dsimp only at hSw);go_simp;(try with_reducible rfl))
      rotate_left
      simp only [Act.put,zq0,zq1,zq2,zq3,zq4,zq5]
      refine wpAnyH_take (i:=6) (v:=?_) rfl (by kernel_rfl) (by kernel_rfl) (by kernel_rfl) (fun _ _ _ h=>h) (Or.inl ⟨by rfl,?_⟩) hS ?_
      rotate_left
      · (intro w hSw;(try dsimp only at hSw);go_simp;(try with_reducible rfl))
      rotate_left
      simp only [Act.put,zq0,zq1,zq2,zq3,zq4,zq5]
      refine wpAnyH_take (i:=7) (v:=?_) rfl (by kernel_rfl) (by kernel_rfl) (by kernel_rfl) (fun _ _ _ h=>h) (Or.inl ⟨by rfl,?_⟩) hS ?_
      rotate_left
      · (intro w hSw;(try dsimp only at hSw);go_simp;(try with_reducible rfl))
      rotate_left
      simp only [Act.put,zq0,zq1,zq2,zq3,zq4,zq5]
      refine wpAnyH_take (i:=8) (v:=?_) rfl (by kernel_rfl) (by kernel_rfl) (by kernel_rfl) (fun _ _ _ h=>h) (Or.inl ⟨by rfl,?_⟩) hS ?_
      rotate_left
      · (intro w hSw;(try dsimp only at hSw);go_simp;(try with_reducible rfl))
      rotate_left
      simp only [Act.put,zq0,zq1,zq2,zq3,zq4,zq5]
      refine wpAnyH_take (i:=9) (v:=?_) rfl (by kernel_rfl) (by kernel_rfl) (by kernel_rfl) (fun _ _ _ h=>h) (Or.inl ⟨by rfl,?_⟩) hS ?_
      rotate_left
      · (intro w hSw;(try dsimp only at hSw);go_simp;(try with_reducible rfl))
      rotate_left
      simp only [Act.put,zq0,zq1,zq2,zq3,zq4,zq5]
      refine wpAnyH_take (i:=10) (v:=?_) rfl (by kernel_rfl) (by kernel_rfl) (by kernel_rfl) (fun _ _ _ h=>h) (Or.inl ⟨by rfl,?_⟩) hS ?_
      rotate_left
      · (intro w hSw;(try dsimp only at hSw);go_simp;(try with_reducible rfl))
      rotate_left
      simp only [Act.put,zq0,zq1,zq2,zq3,zq4,zq5]
      refine wpAnyH_take (i:=11) (v:=?_) rfl (by kernel_rfl) (by kernel_rfl) (by kernel_rfl) (fun _ _ _ h=>h) (Or.inl ⟨by rfl,?_⟩) hS ?_
      rotate_left
      · (intro w hSw;(try dsimp only at hSw);go_simp;(try with_reducible rfl))
      rotate_left
      simp only [Act.put,zq0,zq1,zq2,zq3,zq4,zq5]
      refine wpAnyH_take (i:=12) (v:=?_) rfl (by kernel_rfl) (by kernel_rfl) (by kernel_rfl) (fun _ _ _ h=>h) (Or.inl ⟨by rfl,?_⟩) hS ?_
      rotate_left
      · (intro w hSw;(try dsimp only at hSw);go_simp;(try with_reducible rfl))
      rotate_left
      simp only [Act.put,zq0,zq1,zq2,zq3,zq4,zq5]
      refine wpAnyH_take (i:=13) (v:=?_) rfl (by kernel_rfl) (by kernel_rfl) (by kernel_rfl) (fun _ _ _ h=>h) (Or.inl ⟨by rfl,?_⟩) hS ?_
      rotate_left
      · (intro w hSw;(try dsimp only at hSw);go_simp;(try with_reducible rfl))
      rotate_left
      simp only [Act.put,zq0,zq1,zq2,zq3,zq4,zq5]
      refine wpAnyH_take (i:=14) (v:=?_) rfl (by kernel_rfl) (by kernel_rfl) (by kernel_rfl) (fun _ _ _ h=>h) (Or.inl ⟨by rfl,?_⟩) hS ?_
      rotate_left
      · (intro w hSw;(try dsimp only at hSw);go_simp;(try with_reducible rfl))
      rotate_left
      simp only [Act.put,zq0,zq1,zq2,zq3,zq4,zq5]
      refine wpAnyH_take (i:=15) (v:=?_) rfl (by kernel_rfl) (by kernel_rfl) (by kernel_rfl) (fun _ _ _ h=>h) (Or.inl ⟨by rfl,?_⟩) hS ?_
      rotate_left
      · (intro w hSw;(try dsimp only at hSw);go_simp;(try with_reducible rfl))
      rotate_left
      simp only [Act.put,zq0,zq1,zq2,zq3,zq4,zq5]
      refine wpAnyH_take (i:=16) (v:=?_) rfl (by kernel_rfl) (by kernel_rfl) (by kernel_rfl) (fun _ _ _ h=>h) (Or.inl ⟨by rfl,?_⟩) hS ?_
      rotate_left
      · (intro w hSw;(try dsimp only at hSw);go_simp;(try with_reducible rfl))
      rotate_left
      simp only [Act.put,zq0,zq1,zq2,zq3,zq4,zq5]
      refine wpAnyH_take (i:=17) (v:=?_) rfl (by kernel_rfl) (by kernel_rfl) (by kernel_rfl) (fun _ _ _ h=>h) (Or.inl ⟨by rfl,?_⟩) hS ?_
      rotate_left
      · (intro w hSw;(try dsimp only at hSw);go_simp;(try with_reducible rfl))
      rotate_left
      simp only [Act.put,zq0,zq1,zq2,zq3,zq4,zq5]
      refine wpAnyH_take (i:=18) (v:=?_) rfl (by kernel_rfl) (by kernel_rfl) (by kernel_rfl) (fun _ _ _ h=>h) (Or.inl ⟨by rfl,?_⟩) hS ?_
      rotate_left
      · (intro w hSw;(try dsimp only at hSw);go_simp;(try with_reducible rfl))
      rotate_left
      simp only [Act.put,zq0,zq1,zq2,zq3,zq4,zq5]
      refine wpAnyH_take (i:=19) (v:=?_) rfl (by kernel_rfl) (by kernel_rfl) (by kernel_rfl) (fun _ _ _ h=>h) (Or.inl ⟨by rfl,?_⟩) hS ?_
      rotate_left
      · (intro w hSw;(try dsimp only at hSw);go_simp;(try with_reducible rfl))
      rotate_left
      simp only [Act.put,zq0,zq1,zq2,zq3,zq4,zq5]
      refine wpAnyH_take (i:=20) (v:=?_) rfl (by kernel_rfl) (by kernel_rfl) (by kernel_rfl) (fun _ _ _ h=>h) (Or.inl ⟨by rfl,?_⟩) hS ?_
      rotate_left
      · (intro w hSw;(try dsimp only at hSw);go_simp;(try with_reducible rfl))
      rotate_left
      simp only [Act.put,zq0,zq1,zq2,zq3,zq4,zq5]
      refine wpAnyH_take (i:=21) (v:=?_) rfl (by kernel_rfl) (by kernel_rfl) (by kernel_rfl) (fun _ _ _ h=>h) (Or.inl ⟨by rfl,?_⟩) hS ?_
      rotate_left
      · (intro w hSw;(try dsimp only at hSw);go_simp;(try with_reducible rfl))
      rotate_left
      simp only [Act.put,zq0,zq1,zq2,zq3,zq4,zq5]
      refine wpAnyH_take (i:=22) (v:=?_) rfl (by kernel_rfl) (by kernel_rfl) (by kernel_rfl) (fun _ _ _ h=>h) (Or.inl ⟨by rfl,?_⟩) hS ?_
      rotate_left
      · (intro w hSw;(try dsimp only at hSw);go_simp;(try with_reducible rfl))
      rotate_left
      simp only [Act.put,zq0,zq1,zq2,zq3,zq4,zq5]
      refine wpAnyH_take (i:=23) (v:=?_) rfl (by kernel_rfl) (by kernel_rfl) (by kernel_rfl) (fun _ _ _ h=>h) (Or.inl ⟨by rfl,?_⟩) hS ?_
      rotate_left
      · (intro w hSw;(try dsimp only at hSw);go_simp;(try with_reducible rfl))
      rotate_left
      simp only [Act.put,zq0,zq1,zq2,zq3,zq4,zq5]
      refine wpAnyH_take (i:=24) (v:=?_) rfl (by kernel_rfl) (by kernel_rfl) (by kernel_rfl) (fun _ _ _ h=>h) (Or.inl ⟨by rfl,?_⟩) hS ?_
      rotate_left
      · (intro w hSw;(try dsimp only at hSw);go_simp;(try with_reducible rfl))
      rotate_left
      simp only [Act.put,zq0,zq1,zq2,zq3,zq4,zq5]
      refine wpAnyH_take (i:=25) (v:=?_) rfl (by kernel_rfl) (by kernel_rfl) (by kernel_rfl) (fun _ _ _ h=>h) (Or.inl ⟨by rfl,?_⟩) hS ?_
      rotate_left
      · (intro w hSw;(try dsimp only at hSw);go_simp;(try with_reducible rfl))
      rotate_left
      simp only [Act.put,zq0,zq1,zq2,zq3,zq4,zq5]
      refine wpAnyH_take (i:=26) (v:=?_) rfl (by kernel_rfl) (by kernel_rfl) (by kernel_rfl) (fun _ _ _ h=>h) (Or.inl ⟨by rfl,?_⟩) hS ?_
      rotate_left
      · (intro w hSw;(try dsimp only at hSw);go_simp;(try with_reducible rfl))
      rotate_left
      simp only [Act.put,zq0,zq1,zq2,zq3,zq4,zq5]
      refine wpAnyH_take (i:=27) (v:=?_) rfl (by kernel_rfl) (by kernel_rfl) (by kernel_rfl) (fun _ _ _ h=>h) (Or.inl ⟨by rfl,?_⟩) hS ?_
      rotate_left
      · (intro w hSw;(try dsimp only at hSw);go_simp;(try with_reducible rfl))
      rotate_left
      simp only [Act.put,zq0,zq1,zq2,zq3,zq4,zq5]
      refine wpAnyH_take (i:=28) (v:=?_) rfl (by kernel_rfl) (by kernel_rfl) (by kernel_rfl) (fun _ _ _ h=>h) (Or.inl ⟨by rfl,?_⟩) hS ?_
      rotate_left
      · (intro w hSw;(try dsimp only at hSw);go_simp;(try with_reducible rfl))
      rotate_left
      simp only [Act.put,zq0,zq1,zq2,zq3,zq4,zq5]
      refine wpAnyH_take (i:=29) (v:=?_) rfl (by kernel_rfl) (by kernel_rfl) (by kernel_rfl) (fun _ _ _ h=>h) (Or.inl ⟨by rfl,?_⟩) hS ?_
      rotate_left
      · (intro w hSw;(try dsimp only at hSw);go_simp;(try with_reducible rfl))
      rotate_left
      simp only [Act.put,zq0,zq1,zq2,zq3,zq4,zq5]
      refine wpAnyH_take (i:=30) (v:=?_) rfl (by kernel_rfl) (by kernel_rfl) (by kernel_rfl) (fun _ _ _ h=>h) (Or.inl ⟨by rfl,?_⟩) hS ?_
      rotate_left
      · (intro w hSw;(try dsimp only at hSw);go_simp;(try with_reducible rfl))
      rotate_left
      simp only [Act.put,zq0,zq1,zq2,zq3,zq4,zq5]
      refine wpAnyH_take (i:=31) (v:=?_) rfl (by kernel_rfl) (by kernel_rfl) (by kernel_rfl) (fun _ _ _ h=>h) (Or.inl ⟨by rfl,?_⟩) hS ?_
      rotate_left
      · (intro w hSw;(try dsimp only at hSw);go_simp;(try with_reducible rfl))
      rotate_left
      simp only [Act.put,zq0,zq1,zq2,zq3,zq4,zq5]
      refine wpAnyH_take (i:=32) (v:=?_) rfl (by kernel_rfl) (by kernel_rfl) (by kernel_rfl) (fun _ _ _ h=>h) (Or.inl ⟨by rfl,?_⟩) hS ?_
      rotate_left
      · (intro w hSw;(try dsimp only at hSw);go_simp;(try with_reducible rfl))
      rotate_left
      simp only [Act.put,zq0,zq1,zq2,zq3,zq4,zq5]
      refine wpAnyH_take (i:=33) (v:=?_) rfl (by kernel_rfl) (by kernel_rfl) (by kernel_rfl) (fun _ _ _ h=>h) (Or.inl ⟨by rfl,?_⟩) hS ?_
      rotate_left
      · (intro w hSw;(try dsimp only at hSw);go_simp;(try with_reducible rfl))
      rotate_left
      simp only [Act.put,zq0,zq1,zq2,zq3,zq4,zq5]
      refine wpAnyH_done (by kernel_rfl) ?_ _
      have b4:=Ext.trans bw hS.1
      clear hS
      go_wp2
      go_ret
      exact ⟨HF.out,b4⟩
    · have HNO : Hid (hb = false):=by show _ = _;rw [HHD.out,decide_eq_false h3,Bool.and_false,Bool.and_false]
      refine wpAnyH_take (i:=0) (v:=?_) rfl (by kernel_rfl) (by kernel_rfl) (by kernel_rfl) (fun _ _ _ h=>h) (Or.inl ⟨by rfl,?_⟩) hS ?_
      rotate_left
      · (intro w hSw;(try dsimp only at hSw);go_simp;(try with_reducible rfl))
      rotate_left
      simp only [Act.put,zq0,zq1,zq2,zq3,zq4,zq5]
      refine wpAnyH_take (i:=1) (v:=?_) rfl (by kernel_rfl) (by kernel_rfl) (by kernel_rfl) (fun _ _ _ h=>h) (Or.inl ⟨by rfl,?_⟩) hS ?_
      rotate_left
      · (intro w hSw;(try dsimp only at hSw);go_simp;(try with_reducible rfl))
      rotate_left
      simp only [Act.put,zq0,zq1,zq2,zq3,zq4,zq5]
      refine wpAnyH_take (i:=2) (v:=?_) rfl (by kernel_rfl) (by kernel_rfl) (by kernel_rfl) (fun _ _ _ h=>h) (Or.inl ⟨by rfl,?_⟩) hS ?_
      rotate_left
      · (intro w hSw;(try dsimp only at hSw);go_simp;(try with_reducible rfl))
      rotate_left
      simp only [Act.put,zq0,zq1,zq2,zq3,zq4,zq5]
      refine wpAnyH_take (i:=3) (v:=?_) rfl (by kernel_rfl) (by kernel_rfl) (by kernel_rfl) (fun _ _ _ h=>h) (Or.inl ⟨by rfl,?_⟩) hS ?_
      rotate_left
      · (intro w hSw;(try dsimp only at hSw);go_simp;(try with_reducible rfl))
      rotate_left
      simp only [Act.put,zq0,zq1,zq2,zq3,zq4,zq5]
      refine wpAnyH_take (i:=4) (v:=?_) rfl (by kernel_rfl) (by kernel_rfl) (by kernel_rfl) (fun _ _ _ h=>h) (Or.inl ⟨by rfl,?_⟩) hS ?_
      rotate_left
      · (intro w hSw;(try dsimp only at hSw);go_simp;(try with_reducible rfl))
      rotate_left
      simp only [Act.put,zq0,zq1,zq2,zq3,zq4,zq5]
      refine wpAnyH_take (i:=5) (v:=?_) rfl (by kernel_rfl) (by kernel_rfl) (by kernel_rfl) (fun _ _ _ h=>h) (Or.inl ⟨by rfl,?_⟩) hS ?_
      rotate_left
      · (intro w hSw;(try dsimp only at hSw);go_simp;(try with_reducible rfl))
      rotate_left
      simp only [Act.put,zq0,zq1,zq2,zq3,zq4,zq5]
      refine wpAnyH_take (i:=6) (v:=?_) rfl (by kernel_rfl) (by kernel_rfl) (by kernel_rfl) (fun _ _ _ h=>h) (Or.inl ⟨by rfl,?_⟩) hS ?_
      rotate_left
      · (intro w hSw;(try dsimp only at hSw);go_simp;(try with_reducible rfl))
      rotate_left
      simp only [Act.put,zq0,zq1,zq2,zq3,zq4,zq5]
      refine wpAnyH_take (i:=7) (v:=?_) rfl (by kernel_rfl) (by kernel_rfl) (by kernel_rfl) (fun _ _ _ h=>h) (Or.inl ⟨by rfl,?_⟩) hS ?_
      rotate_left
      · (intro w hSw;(try dsimp only at hSw);go_simp;(try with_reducible rfl))
      rotate_left
      simp only [Act.put,zq0,zq1,zq2,zq3,zq4,zq5]
      refine wpAnyH_take (i:=8) (v:=?_) rfl (by kernel_rfl) (by kernel_rfl) (by kernel_rfl) (fun _ _ _ h=>h) (Or.inl ⟨by rfl,?_⟩) hS ?_
      rotate_left
      · (intro w hSw;(try dsimp only at hSw);go_simp;(try with_reducible rfl))
      rotate_left
      simp only [Act.put,zq0,zq1,zq2,zq3,zq4,zq5]
      refine wpAnyH_take (i:=9) (v:=?_) rfl (by kernel_rfl) (by kernel_rfl) (by kernel_rfl) (fun _ _ _ h=>h) (Or.inl ⟨by rfl,?_⟩) hS ?_
      rotate_left
      · (intro w hSw;(try dsimp only at hSw);go_simp;(try with_reducible rfl))
      rotate_left
      simp only [Act.put,zq0,zq1,zq2,zq3,zq4,zq5]
      refine wpAnyH_take (i:=10) (v:=?_) rfl (by kernel_rfl) (by kernel_rfl) (by kernel_rfl) (fun _ _ _ h=>h) (Or.inl ⟨by rfl,?_⟩) hS ?_
      rotate_left
      · (intro w hSw;(try dsimp only at hSw);go_simp;(try with_reducible rfl))
      rotate_left
      simp only [Act.put,zq0,zq1,zq2,zq3,zq4,zq5]
      refine wpAnyH_take (i:=11) (v:=?_) rfl (by kernel_rfl) (by kernel_rfl) (by kernel_rfl) (fun _ _ _ h=>h) (Or.inl ⟨by rfl,?_⟩) hS ?_
      rotate_left
      · (intro w hSw;(try dsimp only at hSw);go_simp;(try with_reducible rfl))
      rotate_left
      simp only [Act.put,zq0,zq1,zq2,zq3,zq4,zq5]
      refine wpAnyH_take (i:=12) (v:=?_) rfl (by kernel_rfl) (by kernel_rfl) (by kernel_rfl) (fun _ _ _ h=>h) (Or.inl ⟨by rfl,?_⟩) hS ?_
      rotate_left
      · (intro w hSw;(try dsimp only at hSw);go_simp;(try with_reducible rfl))
      rotate_left
      simp only [Act.put,zq0,zq1,zq2,zq3,zq4,zq5]
      refine wpAnyH_take (i:=13) (v:=?_) rfl (by kernel_rfl) (by kernel_rfl) (by kernel_rfl) (fun _ _ _ h=>h) (Or.inl ⟨by rfl,?_⟩) hS ?_
      rotate_left
      · (intro w hSw;(try dsimp only at hSw);go_simp;(try with_reducible rfl))
      rotate_left
      simp only [Act.put,zq0,zq1,zq2,zq3,zq4,zq5]
      refine wpAnyH_take (i:=14) (v:=?_) rfl (by kernel_rfl) (by kernel_rfl) (by kernel_rfl) (fun _ _ _ h=>h) (Or.inl ⟨by rfl,?_⟩) hS ?_
      rotate_left
      · (intro w hSw;(try dsimp only at hSw);go_simp;(try with_reducible rfl))
      rotate_left
      simp only [Act.put,zq0,zq1,zq2,zq3,zq4,zq5]
      refine wpAnyH_take (i:=15) (v:=?_) rfl (by kernel_rfl) (by kernel_rfl) (by kernel_rfl) (fun _ _ _ h=>h) (Or.inl ⟨by rfl,?_⟩) hS ?_
      rotate_left
      · (intro w hSw;(try dsimp only at hSw);go_simp;(try with_reducible rfl))
      rotate_left
      simp only [Act.put,zq0,zq1,zq2,zq3,zq4,zq5]
      refine wpAnyH_take (i:=16) (v:=?_) rfl (by kernel_rfl) (by kernel_rfl) (by kernel_rfl) (fun _ _ _ h=>h) (Or.inl ⟨by rfl,?_⟩) hS ?_
      rotate_left
      · (intro w hSw;(try dsimp only at hSw);go_simp;(try with_reducible rfl))
      rotate_left
      simp only [Act.put,zq0,zq1,zq2,zq3,zq4,zq5]
      refine wpAnyH_take (i:=17) (v:=?_) rfl (by kernel_rfl) (by kernel_rfl) (by kernel_rfl) (fun _ _ _ h=>h) (Or.inl ⟨by rfl,?_⟩) hS ?_
      rotate_left
      · (intro w hSw;(try dsimp only at hSw);go_simp;(try with_reducible rfl))
      rotate_left
      simp only [Act.put,zq0,zq1,zq2,zq3,zq4,zq5]
      refine wpAnyH_take (i:=18) (v:=?_) rfl (by kernel_rfl) (by kernel_rfl) (by kernel_rfl) (fun _ _ _ h=>h) (Or.inl ⟨by rfl,?_⟩) hS ?_
      rotate_left
      · (intro w hSw;(try dsimp only at hSw);go_simp;(try with_reducible rfl))
      rotate_left
      simp only [Act.put,zq0,zq1,zq2,zq3,zq4,zq5]
      refine wpAnyH_take (i:=19) (v:=?_) rfl (by kernel_rfl) (by kernel_rfl) (by kernel_rfl) (fun _ _ _ h=>h) (Or.inl ⟨by rfl,?_⟩) hS ?_
      rotate_left
      · (intro w hSw;(try dsimp only at hSw);go_simp;(try with_reducible rfl))
      rotate_left
      simp only [Act.put,zq0,zq1,zq2,zq3,zq4,zq5]
      refine wpAnyH_take (i:=20) (v:=?_) rfl (by kernel_rfl) (by kernel_rfl) (by kernel_rfl) (fun _ _ _ h=>h) (Or.inl ⟨by rfl,?_⟩) hS ?_
      rotate_left
      · (intro w hSw;(try dsimp only at hSw);go_simp;(try with_reducible rfl))
      rotate_left
      simp only [Act.put,zq0,zq1,zq2,zq3,zq4,zq5]
      refine wpAnyH_take (i:=21) (v:=?_) rfl (by kernel_rfl) (by kernel_rfl) (by kernel_rfl) (fun _ _ _ h=>h) (Or.inl ⟨by rfl,?_⟩) hS ?_
      rotate_left
      · (intro w hSw;(try dsimp only at hSw);go_simp;(try with_reducible rfl))
      rotate_left
      simp only [Act.put,zq0,zq1,zq2,zq3,zq4,zq5]
      refine wpAnyH_take (i:=22) (v:=?_) rfl (by kernel_rfl) (by kernel_rfl) (by kernel_rfl) (fun _ _ _ h=>h) (Or.inl ⟨by rfl,?_⟩) hS ?_
      rotate_left
      · (intro w hSw;(try dsimp only at hSw);go_simp;(try with_reducible rfl))
      rotate_left
      simp only [Act.put,zq0,zq1,zq2,zq3,zq4,zq5]
      refine wpAnyH_take (i:=23) (v:=?_) rfl (by kernel_rfl) (by kernel_rfl) (by kernel_rfl) (fun _ _ _ h=>h) (Or.inl ⟨by rfl,?_⟩) hS ?_
      rotate_left
      · (intro w hSw;(try dsimp only at hSw);go_simp;(try with_reducible rfl))
      rotate_left
      simp only [Act.put,zq0,zq1,zq2,zq3,zq4,zq5]
      refine wpAnyH_take (i:=24) (v:=?_) rfl (by kernel_rfl) (by kernel_rfl) (by kernel_rfl) (fun _ _ _ h=>h) (Or.inl ⟨by rfl,?_⟩) hS ?_
      rotate_left
      · (intro w hSw;(try dsimp only at hSw);go_simp;(try with_reducible rfl))
      rotate_left
      simp only [Act.put,zq0,zq1,zq2,zq3,zq4,zq5]
      refine wpAnyH_take (i:=25) (v:=?_) rfl (by kernel_rfl) (by kernel_rfl) (by kernel_rfl) (fun _ _ _ h=>h) (Or.inl ⟨by rfl,?_⟩) hS ?_
      rotate_left
      · (intro w hSw;(try dsimp only at hSw);go_simp;(try with_reducible rfl))
      rotate_left
      simp only [Act.put,zq0,zq1,zq2,zq3,zq4,zq5]
      refine wpAnyH_take (i:=26) (v:=?_) rfl (by kernel_rfl) (by kernel_rfl) (by kernel_rfl) (fun _ _ _ h=>h) (Or.inl ⟨by rfl,?_⟩) hS ?_
      rotate_left
      · (intro w hSw;(try dsimp only at hSw);go_simp;(try with_reducible rfl))
      rotate_left
      simp only [Act.put,zq0,zq1,zq2,zq3,zq4,zq5]
      refine wpAnyH_take (i:=27) (v:=?_) rfl (by kernel_rfl) (by kernel_rfl) (by kernel_rfl) (fun _ _ _ h=>h) (Or.inl ⟨by rfl,?_⟩) hS ?_
      rotate_left
      · (intro w hSw;(try dsimp only at hSw);go_simp;(try with_reducible rfl))
      rotate_left
      simp only [Act.put,zq0,zq1,zq2,zq3,zq4,zq5]
      refine wpAnyH_take (i:=28) (v:=?_) rfl (by kernel_rfl) (by kernel_rfl) (by kernel_rfl) (fun _ _ _ h=>h) (Or.inl ⟨by rfl,?_⟩) hS ?_
      rotate_left
      · (intro w hSw;(try dsimp only at hSw);go_simp;(try with_reducible rfl))
      rotate_left
      simp only [Act.put,zq0,zq1,zq2,zq3,zq4,zq5]
      refine wpAnyH_take (i:=29) (v:=?_) rfl (by kernel_rfl) (by kernel_rfl) (by kernel_rfl) (fun _ _ _ h=>h) (Or.inl ⟨by rfl,?_⟩) hS ?_
      rotate_left
      · (intro w hSw;(try dsimp only at hSw);go_simp;(try with_reducible rfl))
      rotate_left
      simp only [Act.put,zq0,zq1,zq2,zq3,zq4,zq5]
      refine wpAnyH_take (i:=30) (v:=?_) rfl (by kernel_rfl) (by kernel_rfl) (by kernel_rfl) (fun _ _ _ h=>h) (Or.inl ⟨by rfl,?_⟩) hS ?_
      rotate_left
      · (intro w hSw;(try dsimp only at hSw);go_simp;(try with_reducible rfl))
      rotate_left
      simp only [Act.put,zq0,zq1,zq2,zq3,zq4,zq5]
      refine wpAnyH_take (i:=31) (v:=?_) rfl (by kernel_rfl) (by kernel_rfl) (by kernel_rfl) (fun _ _ _ h=>h) (Or.inl ⟨by rfl,?_⟩) hS ?_
      rotate_left
      · (intro w hSw;(try dsimp only at hSw);go_simp;(try with_reducible rfl))
      rotate_left
      simp only [Act.put,zq0,zq1,zq2,zq3,zq4,zq5]
      refine wpAnyH_take (i:=32) (v:=?_) rfl (by kernel_rfl) (by kernel_rfl) (by kernel_rfl) (fun _ _ _ h=>h) (Or.inl ⟨by rfl,?_⟩) hS ?_
      rotate_left
      · (intro w hSw;(try dsimp only at hSw);go_simp;(try with_reducible rfl))
      rotate_left
      simp only [Act.put,zq0,zq1,zq2,zq3,zq4,zq5]
      refine wpAnyH_take (i:=33) (v:=?_) rfl (by kernel_rfl) (by kernel_rfl) (by kernel_rfl) (fun _ _ _ h=>h) (Or.inl ⟨by rfl,?_⟩) hS ?_
      rotate_left
      · (intro w hSw;(try dsimp only at hSw);go_simp;(try with_reducible rfl))
      rotate_left
      simp only [Act.put,zq0,zq1,zq2,zq3,zq4,zq5]
      refine wpAnyH_done (by kernel_rfl) ?_ _
      have b4:=Ext.trans b1 hS.1
      clear hS
      have HA' : Hid (∀ i,i < j + 1 → NotAt (hasF n b) fs i):=fun i hi=>by
       by_cases e : i = j
       · subst e;exact HSK.out.2 HNO.out
       · exact HA.out i (by omega)
      go_wp2
      go_roundw
      case rel=>exact ⟨j + 1,HLJ.out,by first | rfl | exact round_same HWJ | go_num,b4,HA'.out⟩
      case measure=>first | exact round_less HWJ HLJ.out | (have h:=HLJ.out;simp [intOf];omega)
  · have HN:=Lib.hid (IdxIs.none (p:=hasF n b) (fs:=fs) (j:=j) HA.out (by have:=HNL.out;omega))
    go_wp2
    go_ret
    exact ⟨HN.out,bw⟩
set_option maxRecDepth 100000 in
set_option maxHeartbeats 4000000 in
theorem rgoes_any (S : Nat → Prop) (x : Cfg) (fs : List FlTy.T) (N d : Nat) (B : Option Addr) (hN : fs.length = N) (n b : Int) (w : World) (hr : RdIn w S (.sl FlTy) fs [.slice B N d]) :
 Calls Try.prog 14 #[x.val,.slice B N d,.int .i64 n,.int .i64 b] w fun e w'=>e = .returned (.tuple #[.bool (mayP x fs n b).1,.int .i64 (mayP x fs n b).2]) ∧ Below w.heap.size w w':=by
 have HM:=Lib.hid (fun (w : World) (hr : RdIn w S (.sl FlTy) fs [.slice B N d])=>rmay24_any S x fs N d B hN w hr)
 have HFD:=Lib.hid (fun (w : World) (hc : flB x fs = true) (hr : RdIn w S (.sl FlTy) fs [.slice B N d])=>rfind_any S fs N d B hN n b (flB_fit hc) w hr)
 have HFI:=Lib.hid (fun (w : World) (hc : flB x fs = true) (k : Nat) (hk : k < fs.length) (hr : RdIn w S (.sl FlTy) fs [.slice B N d])=>rfirst_any S x fs N d k B hk hN (fun i hi _=>flB_code hc i hi) w hr)
 have HFH:=Lib.hid (fun (hc : flB x fs = true)=>fnd_has (n:=n) (b:=b) hc)
 have HMV : Hid (mayP x fs n b = if flB x fs = true then (match fndP fs n b with | some k=>(firstB fs k,(0 : Int)) | none=>(false,(6 : Int))) else (false,(8 : Int))):=rfl
 obtain ⟨mv,hmv⟩ : ∃ z,z = mayP x fs n b:=⟨_,rfl⟩
 rw [← hmv] at HMV ⊢
 clear hmv hN
 obtain ⟨id,m,c,r,l,h⟩:=x
 unfold Cfg.val at *
 dsimp only at *
 have C0:=BoxOf.new w #[.int .u32 (id : Int),.int .i64 m,.int .i64 c,.int .i64 r,.int .i64 l,.int .i64 h] 24
 have t0:=Ext.alloc (Below.refl w.heap.size w) (.cells #[.int .u32 (id : Int),.int .i64 m,.int .i64 c,.int .i64 r,.int .i64 l,.int .i64 h] 24)
 have HR:=Lib.hid (hr.below t0)
 clear hr
 go_enter Try.func14,Try.ntmps14
 go_upto_region 1 with fail
 generalize w.alloc (.cells #[.int .u32 (id : Int),.int .i64 m,.int .i64 c,.int .i64 r,.int .i64 l,.int .i64 h] 24) = W at *
 have x0:=C0.cell
 go_wp2_with fail
 refine (HM.out _ HR.out).mono ?_
 rintro e w1 ⟨rfl,b1⟩
 have t1:=Ext.trans t0 b1
 have HR1:=Lib.hid (HR.out.below b1)
 clear x0 C0 HR t0 b1 HM
 cases hfb : flB (⟨id,m,c,r,l,h⟩ : Cfg) fs with
 | false=>
   have hm : mv = (false,8):=by rw [HMV.out,hfb];rfl
   subst hm
   go_wp2
   go_ret2
   exact ⟨rfl,t1⟩
 | true=>
 have HK:=Lib.hid hfb
 have HM2 : Hid (mv = match fndP fs n b with | some k=>(firstB fs k,(0 : Int)) | none=>(false,(6 : Int))):=by show _ = _;rw [HMV.out,hfb];rfl
 have HFC:=Lib.hid (HFD.out w1 hfb HR1.out)
 unfold IdxIs idxI at HFC
 rw [HFH.out hfb] at HFC
 clear hfb HMV
 cases hf : fndP fs n b with
 | none=>
   rw [hf] at HFC HM2
   have hm : mv = (false,6):=HM2.out
   subst hm
   clear hf
   go_wp2_with fail
   refine HFC.out.mono ?_
   rintro e w2 ⟨rfl,b2⟩
   have t2:=Ext.trans t1 b2
   go_wp2
   go_ret2
   exact ⟨rfl,t2⟩
 | some k=>
   rw [hf] at HFC HM2
   have hm : mv = (firstB fs k,0):=HM2.out
   obtain ⟨hk,_⟩:=fndP_some hf
   subst hm
   clear hf
   have hk0 : ¬ (k : Int) < 0:=by omega
   go_wp2_with fail
   refine HFC.out.mono ?_
   rintro e w2 ⟨rfl,b2⟩
   have t2:=Ext.trans t1 b2
   have HF:=Lib.hid (HFI.out w2 HK.out k hk (HR1.out.below b2))
   clear HFC
   go_wp2_with fail
   refine HF.out.mono ?_
   rintro e w3 ⟨rfl,b3⟩
   have t3:=Ext.trans t2 b3
   go_wp2
   go_ret2
   exact ⟨rfl,t3⟩
end Go.Proofs.Ythapabjlhooglaa
