/- What this claim needs of my texts, merged and shortened by a program (part 9). -/
import Derived.Test.YthapabjlhooglaaZFlightMay8
namespace Go.Proofs.Ythapabjlhooglaa
open Go Go.RowKit
set_option linter.unusedSimpArgs false
set_option linter.unusedVariables false
def AtIs24 (fs : List FlTy.T) (n : Int) (j : Nat) (a : Int) : Prop:=(a = -1 ∧ ∀ i (hi : i < fs.length),i < j → fN fs[i] ≠ n) ∨ ∃ (k : Nat) (hk : k < fs.length),k < j ∧ a = (k : Int) ∧ fN fs[k] = n
theorem AtIs24.start {fs : List FlTy.T} {n : Int} : AtIs24 fs n 0 (-1):=.inl ⟨rfl,fun i _ h=>absurd h (Nat.not_lt_zero _)⟩
theorem AtIs24.hit {fs : List FlTy.T} {n : Int} {j : Nat} (hj : j < fs.length) (h : fN fs[j] = n) : AtIs24 fs n (j + 1) (j : Int):=.inr ⟨j,hj,by omega,rfl,h⟩
theorem AtIs24.miss {fs : List FlTy.T} {n : Int} {j : Nat} {a : Int} (ha : AtIs24 fs n j a) (hj : j < fs.length) (h : fN fs[j] ≠ n) : AtIs24 fs n (j + 1) a:=by
 rcases ha with ⟨h1,h2⟩ | ⟨k,hk,h1,h2,h3⟩
 · refine .inl ⟨h1,fun i hi hij=>?_⟩
   by_cases e : i = j
   · subst e;exact h
   · exact h2 i hi (by omega)
 · exact .inr ⟨k,hk,by omega,h2,h3⟩
def FreeTo (fs : List FlTy.T) (g : FlTy.T) (z : Nat) (fb : Bool) : Prop:=fb = true ↔ ∀ y (h : y < fs.length),y < z → meetF fs[y] g = false
theorem FreeTo.start {fs : List FlTy.T} {g : FlTy.T} : FreeTo fs g 0 true:=⟨fun _ y _ h=>absurd h (Nat.not_lt_zero _),fun _=>rfl⟩
theorem FreeTo.next {fs : List FlTy.T} {g : FlTy.T} {z : Nat} {fb : Bool} (h : FreeTo fs g z fb) (hz : z < fs.length) : FreeTo fs g (z + 1) (fb && !meetF fs[z] g):=by
 unfold FreeTo at *
 rw [Bool.and_eq_true,h,Bool.not_eq_true']
 constructor
 · rintro ⟨h1,h2⟩ y hy hyz
   by_cases e : y = z
   · subst e;exact h2
   · exact h1 y hy (by omega)
 · exact fun h1=>⟨fun y hy hyz=>h1 y hy (by omega),h1 z hz (by omega)⟩
theorem FreeTo.done {fs : List FlTy.T} {g : FlTy.T} {k : Nat} {fb : Bool} (h : FreeTo fs g k fb) (hk : k < fs.length) (hg : fs[k] = g) : fb = firstB fs k:=by
 have h2:=firstB_iff hk
 subst hg
 have h3 : fb = true ↔ firstB fs k = true:=by
  rw [h2]
  exact ⟨fun a j hj=>h.1 a j (by omega) hj,fun a=>h.2 fun y hy hyk=>a y hyk⟩
 cases fb <;> cases h4 : firstB fs k <;> simp_all
theorem Own.rdz {w : World} {base g : Nat} (h : Own w base g zeros) : RdIn w (fun _=>True) (.sl .byte) zeros [.slice (some ⟨g,0,none⟩) 128 128]:=by
 unfold Own at h
 have hl : zeros.length = 128:=rfl
 exact ((OwnL.of_bytes (bs:=zeros) (by rw [hl];exact h)).bytes_rdin (by rw [hl];decide)).mono fun _ _=>trivial
theorem FlNew.tt {lo : Nat} {fs : List FlTy.T} {v : Value} {w : World} (h : FlNew lo fs v w) (hz : fs.length * 128 ≤ 140737488355328) : RdIn w (fun _=>True) (.sl FlTy) fs [v]:=(h.rd hz).mono fun _ _=>trivial
set_option maxRecDepth 100000 in
set_option maxHeartbeats 16000000 in
theorem maylaw_core (S : Nat → Prop) (x : Cfg) (fs : List FlTy.T) (N d : Nat) (B : Option Addr) (hN : fs.length = N) (n b : Int) (hn : IsInt n) (hb : IsInt b) (w : World) (hr : RdIn w S (.sl FlTy) fs [.slice B N d]) :
 Calls Try.prog 5 #[x.val,.slice B N d,.int .i64 n,.int .i64 b] w fun e w'=>e = .returned (.bool true) ∧ Below w.heap.size w w':=by
 have HX:=Lib.hid (fun (w : World) (hr : RdIn w S (.sl FlTy) fs [.slice B N d])=>fcheck_any S x fs N d B hN w hr)
 have HGR:=Lib.hid (fun (w : World) (hr : RdIn w S (.sl FlTy) fs [.slice B N d])=>fgreat_any S fs N d B hN w hr)
 have HM:=Lib.hid (fun (w : World) (hr : RdIn w S (.sl FlTy) fs [.slice B N d])=>fmay_any S x fs N d B hN n b hb w hr)
 have HGO:=Lib.hid (fun (dat : List UInt8) (D : Option Addr) (dq : Nat) (w : World) (hr : RdIn w S (.sl FlTy) fs [.slice B N d]) (hd : RdIn w (fun _=>True) (.sl .byte) dat [.slice D dat.length dq])=>fgo_any (fun _=>True) x fs N d B hN n b hb 3 0 (by decide) D dq dat w (hr.mono fun _ _=>trivial) hd)
 obtain ⟨mb,me,hmv⟩ : ∃ mb me,mayP x fs n b = (mb,me):=⟨_,_,rfl⟩
 rw [hmv] at HM
 have HMV:=Lib.hid hmv
 have HNL:=Lib.hid hN
 have HNM : Hid (N ≤ maxLen):=by have:=fl_max hr;show N ≤ maxLen;omega
 have HIN:=Lib.hid hn
 have HIB:=Lib.hid hb
 clear hmv hN hn hb
 obtain ⟨id,m,c,r,l,h⟩:=x
 unfold Cfg.val at *
 dsimp only at *
 have C0:=BoxOf.new w #[.int .u32 (id : Int),.int .i64 m,.int .i64 c,.int .i64 r,.int .i64 l,.int .i64 h] 24
 have t0:=Ext.alloc (Below.refl w.heap.size w) (.cells #[.int .u32 (id : Int),.int .i64 m,.int .i64 c,.int .i64 r,.int .i64 l,.int .i64 h] 24)
 have HR:=Lib.hid (hr.below t0)
 clear hr
 go_enter Try.func5,Try.ntmps5
 go_upto_region 1 with fail
 generalize w.alloc (.cells #[.int .u32 (id : Int),.int .i64 m,.int .i64 c,.int .i64 r,.int .i64 l,.int .i64 h] 24) = W at *
 have x0:=C0.cell
 go_wp2_with fail
 refine (falive_any W).mono ?_
 rintro e w1 ⟨rfl,b1⟩
 have t1:=Ext.trans t0 b1
 have C1:=C0.next b1
 have HR1:=Lib.hid (HR.out.below b1)
 clear C0 HR t0 b1 x0
 have x1:=C1.cell
 go_wp2_with fail
 refine (HGR.out w1 HR1.out).mono ?_
 rintro e w2 ⟨⟨gb,rfl⟩,b2⟩
 have t2:=Ext.trans t1 b2
 have C2:=C1.next b2
 have HR2:=Lib.hid (HR1.out.below b2)
 clear C1 HR1 t1 b2 x1
 have x2:=C2.cell
 cases gb with
 | true=>
   go_wp2
   go_ret
   exact ⟨rfl,t2⟩
 | false=>
 go_wp2_with fail
 refine (HX.out w2 HR2.out).mono ?_
 rintro e w3 ⟨he,b3⟩
 have t3:=Ext.trans t2 b3
 have C3:=C2.next b3
 have HR3:=Lib.hid (HR2.out.below b3)
 clear C2 HR2 t2 b3 x2
 have x3:=C3.cell
 rcases okbad_cases he with ⟨hk,rfl⟩ | ⟨hk,rfl⟩
 rotate_left
 · clear he hk
   go_wp2
   go_ret
   exact ⟨rfl,t3⟩
 have HK:=Lib.hid hk
 clear he hk
 as_aux_lemma=>
 go_wp2_with fail
 refine (HM.out w3 HR3.out).mono ?_
 rintro e w4 ⟨rfl,b4⟩
 have t4:=Ext.trans t3 b4
 have C4:=C3.next b4
 have HR4:=Lib.hid (HR3.out.below b4)
 clear C3 HR3 t3 b4 x3 HM HGR
 go_wp2
 obtain ⟨wo,hwo⟩ : ∃ z : World,z = w4:=⟨_,rfl⟩
 rw [← hwo] at C4 t4 HR4
 have bo : Below wo.heap.size wo w4:=by rw [hwo];exact Below.refl _ _
 clear hwo
 go_loopw [12,13] (fun a i wr=>∃ (j : Nat) (v : Int),j ≤ N ∧ i = .int .i64 (j : Int) ∧ a = .int .i64 v ∧ Below wo.heap.size wo wr ∧ Hid (AtIs24 fs n j v)) (fun _ i _=>N - (intOf i).toNat)
 case atStart=>exact ⟨0,-1,by omega,rfl,rfl,bo,AtIs24.start⟩
 case round=>
  as_aux_lemma=>
  obtain ⟨j,v,hj,rfl,rfl,b5,HA⟩:=hrel
  clear bo
  have C5:=C4.next b5
  have t5:=Ext.trans t4 b5
  have HR5:=Lib.hid (HR4.out.below b5)
  by_cases hlt : j < N
  · have hlf : j < fs.length:=by have:=HNL.out;omega
    obtain ⟨bb,off,Ab,cb,As,cs,Aq,cq,Ax,cx,rfl,q0,q1,q2,q3,q4,q5,q6,q7,hi,_⟩:=fl_at HR5.out hlf
    have HWJ:=next_wrap HNM.out hlt
    have HY : Hid (fN fs[j] = n → AtIs24 fs n (j + 1) (j : Int)):=fun h=>AtIs24.hit hlf h
    have HNO : Hid (fN fs[j] ≠ n → AtIs24 fs n (j + 1) v):=fun h=>HA.out.miss hlf h
    have HLJ:=Lib.hid hlt
    clear q1 q2 q3 q4 q5 q6 q7 hi
    by_cases he : fN fs[j] = n
    · have hat:=Lib.hid (HY.out he)
      generalize fs[j] = g at *
      go_wp2
      try rw [HWJ.out]
      exact ⟨⟨j + 1,(j : Int),HLJ.out,by first | rfl | go_num,rfl,b5,hat⟩,by simp [intOf];have:=HLJ.out;omega⟩
    · have hat:=Lib.hid (HNO.out he)
      have e1 : (fN fs[j] == n) = false:=by simpa using he
      generalize fs[j] = g at *
      clear he
      go_wp2
      try rw [HWJ.out]
      exact ⟨⟨j + 1,v,HLJ.out,by first | rfl | go_num,rfl,b5,hat⟩,by simp [intOf];have:=HLJ.out;omega⟩
  · have hj' : j = N:=by omega
    subst hj'
    have hNf:=HNL.out
    have x5:=C5.cell
    rcases HA.out with ⟨rfl,hno⟩ | ⟨k,hkf,_,rfl,hkn⟩
    · have hmv:=may_none (b:=b) HK.out (fun i hi=>hno i hi (by omega))
      rw [HMV.out] at hmv
      injection hmv with h1 h2
      subst h1 h2
      clear hno HA HX HGO
      as_aux_lemma=>
      go_upto_region 11 with fail
      have HSD : Below wr.heap.size wr wr.drew:=Ext.drew (Below.refl wr.heap.size wr)
      refine wp_region_held_drew (S:=fun w'=>Below wr.heap.size wr w') (by kernel_rfl) HSD (fun hS=>?_)
      clear HSD
      refine wpAnyH_take (i:=0) (v:=?_) rfl (by kernel_rfl) (by kernel_rfl) (by kernel_rfl) (fun _ _ _ h=>h) (Or.inl ⟨by rfl,?_⟩) hS ?_
      rotate_left
      · (intro w hSw;(try dsimp only at hSw);go_simp;(try with_reducible rfl))
      rotate_left
      simp only [Act.put,zq0,zq1,zq2,zq3,zq4,zq5]
      refine wpAnyH_take (i:=1) (v:=?_) rfl (by kernel_rfl) (by kernel_rfl) (by kernel_rfl) (fun _ _ _ h=>h) (Or.inl ⟨by rfl,?_⟩) hS ?_
      rotate_left
      · (intro w hSw;(try dsimp only at hSw);go_simp;(try with_reducible rfl))
      rotate_left
      simp only [Act.put,zq0,zq1,zq2,zq3,zq4,zq5]
      refine wpAnyH_take (i:=2) (v:=?_) rfl (by kernel_rfl) (by kernel_rfl) (by kernel_rfl) (fun _ _ _ h=>h) (Or.inl ⟨by rfl,?_⟩) hS ?_
      rotate_left
      · (intro w hSw;(try dsimp only at hSw);go_simp;(try with_reducible rfl))
      rotate_left
      simp only [Act.put,zq0,zq1,zq2,zq3,zq4,zq5]
      refine wpAnyH_take (i:=3) (v:=?_) rfl (by kernel_rfl) (by kernel_rfl) (by kernel_rfl) (fun _ _ _ h=>h) (Or.inr ⟨by rfl,?_⟩) hS ?_
      rotate_left
      · rfl
      rotate_left
      simp only [Act.put,zq0,zq1,zq2,zq3,zq4,zq5]
      refine wpAnyH_take (i:=4) (v:=?_) rfl (by kernel_rfl) (by kernel_rfl) (by kernel_rfl) (fun _ _ _ h=>h) (Or.inr ⟨by rfl,?_⟩) hS ?_
      rotate_left
      · rfl
      rotate_left
      simp only [Act.put,zq0,zq1,zq2,zq3,zq4,zq5]
      refine wpAnyH_take (i:=5) (v:=?_) rfl (by kernel_rfl) (by kernel_rfl) (by kernel_rfl) (fun _ _ _ h=>h) (Or.inr ⟨by rfl,?_⟩) hS ?_
      rotate_left
      · rfl
      rotate_left
      simp only [Act.put,zq0,zq1,zq2,zq3,zq4,zq5]
      refine wpAnyH_take (i:=6) (v:=?_) rfl (by kernel_rfl) (by kernel_rfl) (by kernel_rfl) (fun _ _ _ h=>h) (Or.inr ⟨by rfl,?_⟩) hS ?_
      rotate_left
      · rfl
      rotate_left
      simp only [Act.put,zq0,zq1,zq2,zq3,zq4,zq5]
      refine wpAnyH_take (i:=7) (v:=?_) rfl (by kernel_rfl) (by kernel_rfl) (by kernel_rfl) (fun _ _ _ h=>h) (Or.inr ⟨by rfl,?_⟩) hS ?_
      rotate_left
      · rfl
      rotate_left
      simp only [Act.put,zq0,zq1,zq2,zq3,zq4,zq5]
      refine wpAnyH_take (i:=8) (v:=?_) rfl (by kernel_rfl) (by kernel_rfl) (by kernel_rfl) (fun _ _ _ h=>h) (Or.inr ⟨by rfl,?_⟩) hS ?_
      rotate_left
      · rfl
      rotate_left
      simp only [Act.put,zq0,zq1,zq2,zq3,zq4,zq5]
      refine wpAnyH_take (i:=9) (v:=?_) rfl (by kernel_rfl) (by kernel_rfl) (by kernel_rfl) (fun _ _ _ h=>h) (Or.inr ⟨by rfl,?_⟩) hS ?_
      rotate_left
      · rfl
      rotate_left
      simp only [Act.put,zq0,zq1,zq2,zq3,zq4,zq5]
      refine wpAnyH_take (i:=10) (v:=?_) rfl (by kernel_rfl) (by kernel_rfl) (by kernel_rfl) (fun _ _ _ h=>h) (Or.inr ⟨by rfl,?_⟩) hS ?_
      rotate_left
      · rfl
      rotate_left
      simp only [Act.put,zq0,zq1,zq2,zq3,zq4,zq5]
      refine wpAnyH_take (i:=11) (v:=?_) rfl (by kernel_rfl) (by kernel_rfl) (by kernel_rfl) (fun _ _ _ h=>h) (Or.inl ⟨by rfl,?_⟩) hS ?_
      rotate_left
      · (intro w hSw;(try dsimp only at hSw);go_simp;(try with_reducible rfl))
      rotate_left
      simp only [Act.put,zq0,zq1,zq2,zq3,zq4,zq5]
      refine wpAnyH_take (i:=12) (v:=?_) rfl (by kernel_rfl) (by kernel_rfl) (by kernel_rfl) (fun _ _ _ h=>h) (Or.inl ⟨by rfl,?_⟩) hS ?_
      rotate_left
      · (intro w hSw;(try dsimp only at hSw);go_simp;(try with_reducible rfl))
      rotate_left
      simp only [Act.put,zq0,zq1,zq2,zq3,zq4,zq5]
      refine wpAnyH_take (i:=13) (v:=?_) rfl (by kernel_rfl) (by kernel_rfl) (by kernel_rfl) (fun _ _ _ h=>h) (Or.inr ⟨by rfl,?_⟩) hS ?_
      rotate_left
      · rfl
      rotate_left
      simp only [Act.put,zq0,zq1,zq2,zq3,zq4,zq5]
      refine wpAnyH_take (i:=14) (v:=?_) rfl (by kernel_rfl) (by kernel_rfl) (by kernel_rfl) (fun _ _ _ h=>h) (Or.inr ⟨by rfl,?_⟩) hS ?_
      rotate_left
      · rfl
      rotate_left
      simp only [Act.put,zq0,zq1,zq2,zq3,zq4,zq5]
      refine wpAnyH_take (i:=15) (v:=?_) rfl (by kernel_rfl) (by kernel_rfl) (by kernel_rfl) (fun _ _ _ h=>h) (Or.inr ⟨by rfl,?_⟩) hS ?_
      rotate_left
      · rfl
      rotate_left
      simp only [Act.put,zq0,zq1,zq2,zq3,zq4,zq5]
      refine wpAnyH_take (i:=16) (v:=?_) rfl (by kernel_rfl) (by kernel_rfl) (by kernel_rfl) (fun _ _ _ h=>h) (Or.inr ⟨by rfl,?_⟩) hS ?_
      rotate_left
      · rfl
      rotate_left
      simp only [Act.put,zq0,zq1,zq2,zq3,zq4,zq5]
      refine wpAnyH_take (i:=17) (v:=?_) rfl (by kernel_rfl) (by kernel_rfl) (by kernel_rfl) (fun _ _ _ h=>h) (Or.inr ⟨by rfl,?_⟩) hS ?_
      rotate_left
      · rfl
      rotate_left
      simp only [Act.put,zq0,zq1,zq2,zq3,zq4,zq5]
      refine wpAnyH_take (i:=18) (v:=?_) rfl (by kernel_rfl) (by kernel_rfl) (by kernel_rfl) (fun _ _ _ h=>h) (Or.inr ⟨by rfl,?_⟩) hS ?_
      rotate_left
      · rfl
      rotate_left
      simp only [Act.put,zq0,zq1,zq2,zq3,zq4,zq5]
      refine wpAnyH_take (i:=19) (v:=?_) rfl (by kernel_rfl) (by kernel_rfl) (by kernel_rfl) (fun _ _ _ h=>h) (Or.inr ⟨by rfl,?_⟩) hS ?_
      rotate_left
      · rfl
      rotate_left
      simp only [Act.put,zq0,zq1,zq2,zq3,zq4,zq5]
      refine wpAnyH_take (i:=20) (v:=?_) rfl (by kernel_rfl) (by kernel_rfl) (by kernel_rfl) (fun _ _ _ h=>h) (Or.inr ⟨by rfl,?_⟩) hS ?_
      rotate_left
      · rfl
      rotate_left
      simp only [Act.put,zq0,zq1,zq2,zq3,zq4,zq5]
      refine wpAnyH_take (i:=21) (v:=?_) rfl (by kernel_rfl) (by kernel_rfl) (by kernel_rfl) (fun _ _ _ h=>h) (Or.inr ⟨by rfl,?_⟩) hS ?_
      rotate_left
      · rfl
      rotate_left
      simp only [Act.put,zq0,zq1,zq2,zq3,zq4,zq5]
      refine wpAnyH_take (i:=22) (v:=?_) rfl (by kernel_rfl) (by kernel_rfl) (by kernel_rfl) (fun _ _ _ h=>h) (Or.inr ⟨by rfl,?_⟩) hS ?_
      rotate_left
      · rfl
      rotate_left
      simp only [Act.put,zq0,zq1,zq2,zq3,zq4,zq5]
      refine wpAnyH_take (i:=23) (v:=?_) rfl (by kernel_rfl) (by kernel_rfl) (by kernel_rfl) (fun _ _ _ h=>h) (Or.inr ⟨by rfl,?_⟩) hS ?_
      rotate_left
      · rfl
      rotate_left
      simp only [Act.put,zq0,zq1,zq2,zq3,zq4,zq5]
      refine wpAnyH_take (i:=24) (v:=?_) rfl (by kernel_rfl) (by kernel_rfl) (by kernel_rfl) (fun _ _ _ h=>h) (Or.inr ⟨by rfl,?_⟩) hS ?_
      rotate_left
      · rfl
      rotate_left
      simp only [Act.put,zq0,zq1,zq2,zq3,zq4,zq5]
      refine wpAnyH_take (i:=25) (v:=?_) rfl (by kernel_rfl) (by kernel_rfl) (by kernel_rfl) (fun _ _ _ h=>h) (Or.inr ⟨by rfl,?_⟩) hS ?_
      rotate_left
      · rfl
      rotate_left
      simp only [Act.put,zq0,zq1,zq2,zq3,zq4,zq5]
      refine wpAnyH_take (i:=26) (v:=?_) rfl (by kernel_rfl) (by kernel_rfl) (by kernel_rfl) (fun _ _ _ h=>h) (Or.inr ⟨by rfl,?_⟩) hS ?_
      rotate_left
      · rfl
      rotate_left
      simp only [Act.put,zq0,zq1,zq2,zq3,zq4,zq5]
      refine wpAnyH_take (i:=27) (v:=?_) rfl (by kernel_rfl) (by kernel_rfl) (by kernel_rfl) (fun _ _ _ h=>h) (Or.inr ⟨by rfl,?_⟩) hS ?_
      rotate_left
      · rfl
      rotate_left
      simp only [Act.put,zq0,zq1,zq2,zq3,zq4,zq5]
      refine wpAnyH_take (i:=28) (v:=?_) rfl (by kernel_rfl) (by kernel_rfl) (by kernel_rfl) (fun _ _ _ h=>h) (Or.inl ⟨by rfl,?_⟩) hS ?_
      rotate_left
      · (intro w hSw;(try dsimp only at hSw);go_simp;(try with_reducible rfl))
      rotate_left
      simp only [Act.put,zq0,zq1,zq2,zq3,zq4,zq5]
      refine wpAnyH_done (by kernel_rfl) ?_ _
      have t6:=Ext.trans t5 hS
      clear hS
      go_wp2
      go_ret
      exact ⟨rfl,t6⟩
    obtain ⟨bb,off,Ab,cb,As,cs,Aq,cq,Ax,cx,rfl,q0,q1,q2,q3,q4,q5,q6,q7,hi,_,r2,_,_⟩:=fl_at HR5.out hkf
    have hfit:=flB_fit HK.out k hkf
    have HFIT:=Lib.hid hfit
    have hwr : wrap64 (fA fs[k] + fM fs[k]) = fA fs[k] + fM fs[k]:=IntWalk.wrap64_in _ (by omega)
    have hwr' : IntKind.i64.wrap (fA fs[k] + fM fs[k]) = fA fs[k] + fM fs[k]:=by rw [IntKind.wrap_i64];unfold wrap64 at hwr;exact hwr
    have hkN : k < j:=by omega
    have hkm : ¬ ((k : Int) < 0):=by omega
    by_cases ho : fA fs[k] ≤ b ∧ b < fA fs[k] + fM fs[k]
    · have hmv:=may_in HK.out hkf hkn ho
      rw [HMV.out] at hmv
      injection hmv with h1 h2
      obtain ⟨i,hbi⟩ : ∃ i : Nat,b = fA fs[k] + (i : Int):=⟨(b - fA fs[k]).toNat,by omega⟩
      have hiM : (i : Int) < fM fs[k]:=by omega
      obtain ⟨hiS,_,_,_⟩:=fl_blk HK.out hkf hiM
      obtain ⟨bs,os,eAs,hcs⟩:=st_at r2 hiS
      subst eAs
      obtain ⟨st,hst⟩ : ∃ s : UInt8,s = (fS fs[k])[i]'hiS:=⟨_,rfl⟩
      rw [← hst] at hcs
      have hwi : wrap64 (b - fA fs[k]) = (i : Int):=by rw [show b - fA fs[k] = (i : Int) by omega];exact IntWalk.wrap64_in _ (by omega)
      have htc:=fun (a : Nat) (ha : a < fs.length) (A1 : Option Addr) (c1 : Nat) (W' : World)=>touch_all (⟨id,m,c,r,l,h⟩ : Cfg) (kI fs[a]) (fA fs[a]) (fM fs[a]) (kI fs[k]) (fA fs[k]) (fM fs[k]) A1 Ab (fD fs[a]).length c1 (fD fs[k]).length cb (flB_code HK.out a ha) (flB_code HK.out k hkf) W'
      have hfb:=firstB_iff hkf
      have hkk : kI fs[k] = kI fs[k]:=rfl
      have hmt : ∀ (a : Nat) (ha : a < fs.length),meetF fs[a] fs[k] = touchB (kI fs[a]) (fA fs[a]) (fM fs[a]) (kI fs[k]) (fA fs[k]) (fM fs[k]):=fun _ _=>rfl
      have hii : (i : Int) < ((fS fs[k]).length : Int):=by omega
      generalize hg : fs[k] = g at q0 q1 q2 q3 q4 q5 q6 q7 ho hwr hwr' hwi htc hfb hmt hii
      have HG:=Lib.hid hg
      have HSTV:=Lib.hid hst
      have HIS:=Lib.hid hiS
      have HCS:=Lib.hid hcs
      have HII:=Lib.hid hii
      have HHB:=Lib.hid hbi
      have HHM:=Lib.hid hiM
      have HKN:=Lib.hid hkn
      have HFI:=Lib.hid h1
      have HWI:=Lib.hid hwi
      have HTC:=Lib.hid htc
      have HFB:=Lib.hid hfb
      have HMT:=Lib.hid hmt
      have HLFK:=Lib.hid hkf
      subst h2
      clear htc hfb hmt hii hst hcs hkk
      have HO:=Lib.hid ho
      clear HA hi r2 hfit h1 hbi hiM hwi hg HMV HFIT hkn ho
      have ho1 : ¬ b < fA g:=by have:=HO.out.1;omega
      have ho2 : ¬ fA g + fM g ≤ b:=by have:=HO.out.2;omega
      have C5':=C5
      as_aux_lemma=>
      have LB0:=cell_lt q2
      have LS0:=cell_lt HCS.out
      have HFT : Hid (∀ w',Below wr.heap.size wr w' → (w'.cell? ⟨bb,off + k * 8 + 1,none⟩ = some (.int .u8 (kI g)) ∧ w'.cell? ⟨bb,off + k * 8 + 2,none⟩ = some (.int .i64 (fA g)) ∧ w'.cell? ⟨bb,off + k * 8 + 3,none⟩ = some (.int .i64 (fM g)) ∧ w'.cell? ⟨bb,off + k * 8 + 4,none⟩ = some (.slice Ab (fD g).length cb) ∧ w'.cell? ⟨bb,off + k * 8 + 5,none⟩ = some (.slice (some ⟨bs,os,none⟩) (fS g).length cs) ∧ w'.cell? ⟨bs,os + i,none⟩ = some (.int .u8 (st.toNat : Int)))):=by
       have hcs:=HCS.out
       exact fun w' bw=>⟨by rw [bw.cell (p:=⟨bb,off + k * 8 + 1,none⟩) LB0];exact q1,by rw [bw.cell (p:=⟨bb,off + k * 8 + 2,none⟩) LB0];exact q2,by rw [bw.cell (p:=⟨bb,off + k * 8 + 3,none⟩) LB0];exact q3,by rw [bw.cell (p:=⟨bb,off + k * 8 + 4,none⟩) LB0];exact q4,by rw [bw.cell (p:=⟨bb,off + k * 8 + 5,none⟩) LB0];exact q5,by rw [bw.cell (p:=⟨bs,os + i,none⟩) LS0];exact hcs⟩
      clear q0 q1 q4 q5 q6 q7 x5 LB0 LS0
      go_upto_region 11 with fail
      have LB:=cell_lt q2
      have HS : Hid (∀ w',Below wr.heap.size wr w' → (Below wr.heap.size wr w' ∧ w'.cell? ⟨bb,off + k * 8 + 2,none⟩ = some (.int .i64 (fA g)) ∧ w'.cell? ⟨bb,off + k * 8 + 3,none⟩ = some (.int .i64 (fM g)))):=fun w' bw=>⟨bw,by rw [bw.cell (p:=⟨bb,off + k * 8 + 2,none⟩) LB];exact q2,by rw [bw.cell (p:=⟨bb,off + k * 8 + 3,none⟩) LB];exact q3⟩
      have HSD:=HS.out _ (Ext.drew (Below.refl wr.heap.size wr))
      clear q2 q3 LB
      refine wp_region_held_drew (S:=fun w'=>Below wr.heap.size wr w' ∧ w'.cell? ⟨bb,off + k * 8 + 2,none⟩ = some (.int .i64 (fA g)) ∧ w'.cell? ⟨bb,off + k * 8 + 3,none⟩ = some (.int .i64 (fM g))) (by kernel_rfl) HSD (fun hS=>?_)
      clear HSD
      refine wpAnyH_take (i:=0) (v:=?_) rfl (by kernel_rfl) (by kernel_rfl) (by kernel_rfl) (fun _ _ _ h=>h) (Or.inl ⟨by rfl,?_⟩) hS ?_
      rotate_left
      · (intro w hSw;(try dsimp only at hSw);go_simp;(try with_reducible rfl))
      rotate_left
      simp only [Act.put,zq0,zq1,zq2,zq3,zq4,zq5]
      refine wpAnyH_take (i:=1) (v:=?_) rfl (by kernel_rfl) (by kernel_rfl) (by kernel_rfl) (fun _ _ _ h=>h) (Or.inl ⟨by rfl,?_⟩) hS ?_
      rotate_left
      · (intro w hSw;(try dsimp only at hSw);go_simp;(try with_reducible rfl))
      rotate_left
      simp only [Act.put,zq0,zq1,zq2,zq3,zq4,zq5]
      refine wpAnyH_take (i:=2) (v:=?_) rfl (by kernel_rfl) (by kernel_rfl) (by kernel_rfl) (fun _ _ _ h=>h) (Or.inl ⟨by rfl,?_⟩) hS ?_
      rotate_left
      · (intro w hSw;(try dsimp only at hSw);go_simp;(try with_reducible rfl))
      rotate_left
      simp only [Act.put,zq0,zq1,zq2,zq3,zq4,zq5]
      refine wpAnyH_take (i:=3) (v:=?_) rfl (by kernel_rfl) (by kernel_rfl) (by kernel_rfl) (fun _ _ _ h=>h) (Or.inl ⟨by rfl,?_⟩) hS ?_
      rotate_left
      · (intro w hSw;(try dsimp only at hSw);go_simp;(try with_reducible rfl))
      rotate_left
      simp only [Act.put,zq0,zq1,zq2,zq3,zq4,zq5]
      refine wpAnyH_take (i:=4) (v:=?_) rfl (by kernel_rfl) (by kernel_rfl) (by kernel_rfl) (fun _ _ _ h=>h) (Or.inl ⟨by rfl,?_⟩) hS ?_
      rotate_left
      · (intro w hSw;(try dsimp only at hSw);go_simp;(try with_reducible rfl))
      rotate_left
      simp only [Act.put,zq0,zq1,zq2,zq3,zq4,zq5]
      refine wpAnyH_take (i:=5) (v:=?_) rfl (by kernel_rfl) (by kernel_rfl) (by kernel_rfl) (fun _ _ _ h=>h) (Or.inl ⟨by rfl,?_⟩) hS ?_
      rotate_left
      · (intro w hSw;(try dsimp only at hSw);go_simp;(try with_reducible rfl))
      rotate_left
      simp only [Act.put,zq0,zq1,zq2,zq3,zq4,zq5]
      refine wpAnyH_take (i:=6) (v:=?_) rfl (by kernel_rfl) (by kernel_rfl) (by kernel_rfl) (fun _ _ _ h=>h) (Or.inl ⟨by rfl,?_⟩) hS ?_
      rotate_left
      · (intro w hSw;(try dsimp only at hSw);go_simp;(try with_reducible rfl))
      rotate_left
      simp only [Act.put,zq0,zq1,zq2,zq3,zq4,zq5]
      refine wpAnyH_take (i:=7) (v:=?_) rfl (by kernel_rfl) (by kernel_rfl) (by kernel_rfl) (fun _ _ _ h=>h) (Or.inl ⟨by rfl,?_⟩) hS ?_
      rotate_left
      · (intro w hSw;(try dsimp only at hSw);go_simp;(try with_reducible rfl))
      rotate_left
      simp only [Act.put,zq0,zq1,zq2,zq3,zq4,zq5]
      refine wpAnyH_take (i:=8) (v:=?_) rfl (by kernel_rfl) (by kernel_rfl) (by kernel_rfl) (fun _ _ _ h=>h) (Or.inl ⟨by rfl,?_⟩) hS ?_
      rotate_left
      · (intro w hSw;(try dsimp only at hSw);go_simp;(try with_reducible rfl))
      rotate_left
      simp only [Act.put,zq0,zq1,zq2,zq3,zq4,zq5]
      refine wpAnyH_take (i:=9) (v:=?_) rfl (by kernel_rfl) (by kernel_rfl) (by kernel_rfl) (fun _ _ _ h=>h) (Or.inl ⟨by rfl,?_⟩) hS ?_
      rotate_left
      · (intro w hSw;(try dsimp only at hSw);go_simp;(try with_reducible rfl))
      rotate_left
      simp only [Act.put,zq0,zq1,zq2,zq3,zq4,zq5]
      refine wpAnyH_take (i:=10) (v:=?_) rfl (by kernel_rfl) (by kernel_rfl) (by kernel_rfl) (fun _ _ _ h=>h) (Or.inl ⟨by rfl,?_⟩) hS ?_
      rotate_left
      · (intro w hSw;(try dsimp only at hSw);go_simp;(try with_reducible rfl))
      rotate_left
      simp only [Act.put,zq0,zq1,zq2,zq3,zq4,zq5]
      refine wpAnyH_take (i:=11) (v:=?_) rfl (by kernel_rfl) (by kernel_rfl) (by kernel_rfl) (fun _ _ _ h=>h) (Or.inl ⟨by rfl,?_⟩) hS ?_
      rotate_left
      · (intro w hSw;(try dsimp only at hSw);go_simp;(try with_reducible rfl))
      rotate_left
      simp only [Act.put,zq0,zq1,zq2,zq3,zq4,zq5]
      refine wpAnyH_take (i:=12) (v:=?_) rfl (by kernel_rfl) (by kernel_rfl) (by kernel_rfl) (fun _ _ _ h=>h) (Or.inl ⟨by rfl,?_⟩) hS ?_
      rotate_left
      · (intro w hSw;(try dsimp only at hSw);go_simp;(try with_reducible rfl))
      rotate_left
      simp only [Act.put,zq0,zq1,zq2,zq3,zq4,zq5]
      refine wpAnyH_take (i:=13) (v:=?_) rfl (by kernel_rfl) (by kernel_rfl) (by kernel_rfl) (fun _ _ _ h=>h) (Or.inl ⟨by rfl,?_⟩) hS ?_
      rotate_left
      · (intro w hSw;(try dsimp only at hSw);go_simp;(try with_reducible rfl))
      rotate_left
      simp only [Act.put,zq0,zq1,zq2,zq3,zq4,zq5]
      refine wpAnyH_take (i:=14) (v:=?_) rfl (by kernel_rfl) (by kernel_rfl) (by kernel_rfl) (fun _ _ _ h=>h) (Or.inl ⟨by rfl,?_⟩) hS ?_
      rotate_left
      · (intro w hSw;(try dsimp only at hSw);go_simp;(try with_reducible rfl))
      rotate_left
      simp only [Act.put,zq0,zq1,zq2,zq3,zq4,zq5]
      refine wpAnyH_take (i:=15) (v:=?_) rfl (by kernel_rfl) (by kernel_rfl) (by kernel_rfl) (fun _ _ _ h=>h) (Or.inl ⟨by rfl,?_⟩) hS ?_
      rotate_left
      · (intro w hSw;(try dsimp only at hSw);go_simp;(try with_reducible rfl))
      rotate_left
      simp only [Act.put,zq0,zq1,zq2,zq3,zq4,zq5]
      refine wpAnyH_take (i:=16) (v:=?_) rfl (by kernel_rfl) (by kernel_rfl) (by kernel_rfl) (fun _ _ _ h=>h) (Or.inl ⟨by rfl,?_⟩) hS ?_
      rotate_left
      · (intro w hSw;(try dsimp only at hSw);go_simp;(try with_reducible rfl))
      rotate_left
      simp only [Act.put,zq0,zq1,zq2,zq3,zq4,zq5]
      refine wpAnyH_take (i:=17) (v:=?_) rfl (by kernel_rfl) (by kernel_rfl) (by kernel_rfl) (fun _ _ _ h=>h) (Or.inl ⟨by rfl,?_⟩) hS ?_
      rotate_left
      · (intro w hSw;(try dsimp only at hSw);go_simp;(try with_reducible rfl))
      rotate_left
      simp only [Act.put,zq0,zq1,zq2,zq3,zq4,zq5]
      refine wpAnyH_take (i:=18) (v:=?_) rfl (by kernel_rfl) (by kernel_rfl) (by kernel_rfl) (fun _ _ _ h=>h) (Or.inl ⟨by rfl,?_⟩) hS ?_
      rotate_left
      · (intro w hSw;(try dsimp only at hSw);go_simp;(try with_reducible rfl))
      rotate_left
      simp only [Act.put,zq0,zq1,zq2,zq3,zq4,zq5]
      refine wpAnyH_take (i:=19) (v:=?_) rfl (by kernel_rfl) (by kernel_rfl) (by kernel_rfl) (fun _ _ _ h=>h) (Or.inl ⟨by rfl,?_⟩) hS ?_
      rotate_left
      · (intro w hSw;(try dsimp only at hSw);go_simp;(try with_reducible rfl))
      rotate_left
      simp only [Act.put,zq0,zq1,zq2,zq3,zq4,zq5]
      refine wpAnyH_take (i:=20) (v:=?_) rfl (by kernel_rfl) (by kernel_rfl) (by kernel_rfl) (fun _ _ _ h=>h) (Or.inl ⟨by rfl,?_⟩) hS ?_
      rotate_left
      · (intro w hSw;(try dsimp only at hSw);go_simp;(try with_reducible rfl))
      rotate_left
      simp only [Act.put,zq0,zq1,zq2,zq3,zq4,zq5]
      refine wpAnyH_take (i:=21) (v:=?_) rfl (by kernel_rfl) (by kernel_rfl) (by kernel_rfl) (fun _ _ _ h=>h) (Or.inl ⟨by rfl,?_⟩) hS ?_
      rotate_left
      · (intro w hSw;(try dsimp only at hSw);go_simp;(try with_reducible rfl))
      rotate_left
      simp only [Act.put,zq0,zq1,zq2,zq3,zq4,zq5]
      refine wpAnyH_take (i:=22) (v:=?_) rfl (by kernel_rfl) (by kernel_rfl) (by kernel_rfl) (fun _ _ _ h=>h) (Or.inl ⟨by rfl,?_⟩) hS ?_
      rotate_left
      · (intro w hSw;(try dsimp only at hSw);go_simp;(try with_reducible rfl))
      rotate_left
      simp only [Act.put,zq0,zq1,zq2,zq3,zq4,zq5]
      refine wpAnyH_take (i:=23) (v:=?_) rfl (by kernel_rfl) (by kernel_rfl) (by kernel_rfl) (fun _ _ _ h=>h) (Or.inl ⟨by rfl,?_⟩) hS ?_
      rotate_left
      · (intro w hSw;(try dsimp only at hSw);go_simp;(try with_reducible rfl))
      rotate_left
      simp only [Act.put,zq0,zq1,zq2,zq3,zq4,zq5]
      refine wpAnyH_take (i:=24) (v:=?_) rfl (by kernel_rfl) (by kernel_rfl) (by kernel_rfl) (fun _ _ _ h=>h) (Or.inl ⟨by rfl,?_⟩) hS ?_
      rotate_left
      · (intro w hSw;(try dsimp only at hSw);go_simp;(try with_reducible rfl))
      rotate_left
      simp only [Act.put,zq0,zq1,zq2,zq3,zq4,zq5]
      refine wpAnyH_take (i:=25) (v:=?_) rfl (by kernel_rfl) (by kernel_rfl) (by kernel_rfl) (fun _ _ _ h=>h) (Or.inl ⟨by rfl,?_⟩) hS ?_
      rotate_left
      · (intro w hSw;(try dsimp only at hSw);go_simp;(try with_reducible rfl))
      rotate_left
      simp only [Act.put,zq0,zq1,zq2,zq3,zq4,zq5]
      refine wpAnyH_take (i:=26) (v:=?_) rfl (by kernel_rfl) (by kernel_rfl) (by kernel_rfl) (fun _ _ _ h=>h) (Or.inl ⟨by rfl,?_⟩) hS ?_
      rotate_left
      · (intro w hSw;(try dsimp only at hSw);go_simp;(try with_reducible rfl))
      rotate_left
      simp only [Act.put,zq0,zq1,zq2,zq3,zq4,zq5]
      refine wpAnyH_take (i:=27) (v:=?_) rfl (by kernel_rfl) (by kernel_rfl) (by kernel_rfl) (fun _ _ _ h=>h) (Or.inl ⟨by rfl,?_⟩) hS ?_
      rotate_left
      · (intro w hSw;(try dsimp only at hSw);go_simp;(try with_reducible rfl))
      rotate_left
      simp only [Act.put,zq0,zq1,zq2,zq3,zq4,zq5]
      refine wpAnyH_take (i:=28) (v:=?_) rfl (by kernel_rfl) (by kernel_rfl) (by kernel_rfl) (fun _ _ _ h=>h) (Or.inl ⟨by rfl,?_⟩) hS ?_
      rotate_left
      · (intro w hSw;(try dsimp only at hSw);go_simp;(try with_reducible rfl))
      rotate_left
      simp only [Act.put,zq0,zq1,zq2,zq3,zq4,zq5]
      refine wpAnyH_done (by kernel_rfl) ?_ _
      have t6:=Ext.trans t5 hS.1
      clear hS HS
      have D6:=Ext.drew (Below.refl wr.heap.size wr)
      have C6:=C5'.next D6
      have HR6:=Lib.hid (HR5.out.below D6)
      have HFT : Hid (∀ w',Below wr.drew.heap.size wr.drew w' → (w'.cell? ⟨bb,off + k * 8 + 1,none⟩ = some (.int .u8 (kI g)) ∧ w'.cell? ⟨bb,off + k * 8 + 2,none⟩ = some (.int .i64 (fA g)) ∧ w'.cell? ⟨bb,off + k * 8 + 3,none⟩ = some (.int .i64 (fM g)) ∧ w'.cell? ⟨bb,off + k * 8 + 4,none⟩ = some (.slice Ab (fD g).length cb) ∧ w'.cell? ⟨bb,off + k * 8 + 5,none⟩ = some (.slice (some ⟨bs,os,none⟩) (fS g).length cs) ∧ w'.cell? ⟨bs,os + i,none⟩ = some (.int .u8 (st.toNat : Int)))):=fun w' bw=>HFT.out w' (Ext.trans D6 bw)
      clear C5 C5' ho1 ho2 hwr hwr' D6
      go_wp2
      obtain ⟨w6,hw6⟩ : ∃ z : World,z = wr.drew:=⟨_,rfl⟩
      rw [← hw6] at t6 C6 HR6 HFT
      have bo : Below w6.heap.size w6 wr.drew:=by rw [hw6];exact Below.refl _ _
      clear hw6
      go_loopw [14,15] (fun f a wr=>∃ (z : Nat) (fb : Bool),z ≤ k ∧ a = .int .i64 (z : Int) ∧ f = .bool fb ∧ Below w6.heap.size w6 wr ∧ Hid (FreeTo fs g z fb)) (fun _ a _=>k - (intOf a).toNat)
      case atStart=>exact ⟨0,true,Nat.zero_le _,rfl,rfl,bo,FreeTo.start⟩
      case round=>
       as_aux_lemma=>
       obtain ⟨z,fb,hz,rfl,rfl,b7,HF⟩:=hrel
       clear bo
       have C7:=C6.next b7
       have t7:=Ext.trans t6 b7
       have HR7:=Lib.hid (HR6.out.below b7)
       by_cases hlt2 : z < k
       · have hzf : z < fs.length:=by have:=HLFK.out;omega
         obtain ⟨p1,p2,p3,p4,_,_⟩:=HFT.out _ b7
         obtain ⟨bb',off',Ab1,cb1,_,_,_,_,_,_,e8,z0,z1,z2,z3,z4,_,_,_,hiz,_⟩:=fl_at HR7.out hzf
         injection e8 with e8
         injection e8 with e9 e10 _
         subst e9 e10
         have HTZ:=Lib.hid (HTC.out z hzf Ab1 cb1)
         have hnx:=HF.out.next hzf
         rw [HMT.out z hzf] at hnx
         have HNX:=Lib.hid hnx
         have HWZ:=next_wrap (show k ≤ maxLen by have:=HLFK.out;have:=HNL.out;have:=HNM.out;omega) hlt2
         have LB1:=cell_lt z1
         have HLZ:=Lib.hid hlt2
         have HJK : Hid (z < j):=by have:=HNL.out;show z < j;omega
         clear hnx HF HTC HMT HX HGO z0 hiz
         generalize touchB (kI fs[z]) (fA fs[z]) (fM fs[z]) (kI g) (fA g) (fM g) = tb at *
         generalize fs[z] = gz at *
         go_upto_region 17 with fail
         have HS : Hid (∀ w',Below wr.heap.size wr w' → (Below wr.heap.size wr w' ∧ (∀ p,w'.cell? ⟨w.heap.size,p,none⟩ = (#[.int .u32 (id : Int),.int .i64 m,.int .i64 c,.int .i64 r,.int .i64 l,.int .i64 h] : Array Value).toList[p]?) ∧ w'.cell? ⟨bb,off + z * 8 + 1,none⟩ = some (.int .u8 (kI gz)) ∧ w'.cell? ⟨bb,off + z * 8 + 2,none⟩ = some (.int .i64 (fA gz)) ∧ w'.cell? ⟨bb,off + z * 8 + 3,none⟩ = some (.int .i64 (fM gz)) ∧ w'.cell? ⟨bb,off + z * 8 + 4,none⟩ = some (.slice Ab1 (fD gz).length cb1) ∧ w'.cell? ⟨bb,off + k * 8 + 1,none⟩ = some (.int .u8 (kI g)) ∧ w'.cell? ⟨bb,off + k * 8 + 2,none⟩ = some (.int .i64 (fA g)) ∧ w'.cell? ⟨bb,off + k * 8 + 3,none⟩ = some (.int .i64 (fM g)) ∧ w'.cell? ⟨bb,off + k * 8 + 4,none⟩ = some (.slice Ab (fD g).length cb))):=fun w' bw=>⟨bw,(C7.next bw).cell,by rw [bw.cell (p:=⟨bb,off + z * 8 + 1,none⟩) LB1];exact z1,by rw [bw.cell (p:=⟨bb,off + z * 8 + 2,none⟩) LB1];exact z2,by rw [bw.cell (p:=⟨bb,off + z * 8 + 3,none⟩) LB1];exact z3,by rw [bw.cell (p:=⟨bb,off + z * 8 + 4,none⟩) LB1];exact z4,by rw [bw.cell (p:=⟨bb,off + k * 8 + 1,none⟩) LB1];exact p1,by rw [bw.cell (p:=⟨bb,off + k * 8 + 2,none⟩) LB1];exact p2,by rw [bw.cell (p:=⟨bb,off + k * 8 + 3,none⟩) LB1];exact p3,by rw [bw.cell (p:=⟨bb,off + k * 8 + 4,none⟩) LB1];exact p4⟩
         have HSD:=HS.out _ (Ext.drew (Below.refl wr.heap.size wr))
         have hzj:=HJK.out
         clear z1 z2 z3 z4 p1 p2 p3 p4 LB1 C7
         refine wp_region_held_drew (S:=fun w'=>Below wr.heap.size wr w' ∧ (∀ p,w'.cell? ⟨w.heap.size,p,none⟩ = (#[.int .u32 (id : Int),.int .i64 m,.int .i64 c,.int .i64 r,.int .i64 l,.int .i64 h] : Array Value).toList[p]?) ∧ w'.cell? ⟨bb,off + z * 8 + 1,none⟩ = some (.int .u8 (kI gz)) ∧ w'.cell? ⟨bb,off + z * 8 + 2,none⟩ = some (.int .i64 (fA gz)) ∧ w'.cell? ⟨bb,off + z * 8 + 3,none⟩ = some (.int .i64 (fM gz)) ∧ w'.cell? ⟨bb,off + z * 8 + 4,none⟩ = some (.slice Ab1 (fD gz).length cb1) ∧ w'.cell? ⟨bb,off + k * 8 + 1,none⟩ = some (.int .u8 (kI g)) ∧ w'.cell? ⟨bb,off + k * 8 + 2,none⟩ = some (.int .i64 (fA g)) ∧ w'.cell? ⟨bb,off + k * 8 + 3,none⟩ = some (.int .i64 (fM g)) ∧ w'.cell? ⟨bb,off + k * 8 + 4,none⟩ = some (.slice Ab (fD g).length cb)) (by kernel_rfl) HSD (fun hS=>?_)
         clear HSD
         refine wpAnyH_take (i:=0) (v:=?_) rfl (by kernel_rfl) (by kernel_rfl) (by kernel_rfl) (fun _ _ _ h=>h) (Or.inl ⟨by rfl,?_⟩) hS ?_
         rotate_left
         · (intro w hSw;(try dsimp only at hSw);go_simp;(try with_reducible rfl))
         rotate_left
         simp only [Act.put,zq0,zq1,zq2,zq3,zq4,zq5]
         refine wpAnyH_take (i:=1) (v:=?_) rfl (by kernel_rfl) (by kernel_rfl) (by kernel_rfl) (fun _ _ _ h=>h) (Or.inl ⟨by rfl,?_⟩) hS ?_
         rotate_left
         · (intro w hSw;(try dsimp only at hSw);go_simp;(try with_reducible rfl))
         rotate_left
         simp only [Act.put,zq0,zq1,zq2,zq3,zq4,zq5]
         refine wpAnyH_take (i:=2) (v:=?_) rfl (by kernel_rfl) (by kernel_rfl) (by kernel_rfl) (fun _ _ _ h=>h) (Or.inl ⟨by rfl,?_⟩) hS ?_
         rotate_left
         · (intro w hSw;(try dsimp only at hSw);go_simp;(try with_reducible rfl))
         rotate_left
         simp only [Act.put,zq0,zq1,zq2,zq3,zq4,zq5]
         refine wpAnyH_take (i:=3) (v:=?_) rfl (by kernel_rfl) (by kernel_rfl) (by kernel_rfl) (fun _ _ _ h=>h) (Or.inl ⟨by rfl,?_⟩) hS ?_
         rotate_left
         · (intro w hSw;(try dsimp only at hSw);go_simp;(try with_reducible rfl))
         rotate_left
         simp only [Act.put,zq0,zq1,zq2,zq3,zq4,zq5]
         refine wpAnyH_take (i:=4) (v:=?_) rfl (by kernel_rfl) (by kernel_rfl) (by kernel_rfl) (fun _ _ _ h=>h) (Or.inl ⟨by rfl,?_⟩) hS ?_
         rotate_left
         · (intro w hSw;(try dsimp only at hSw);go_simp;(try with_reducible rfl))
         rotate_left
         simp only [Act.put,zq0,zq1,zq2,zq3,zq4,zq5]
         refine wpAnyH_take (i:=5) (v:=?_) rfl (by kernel_rfl) (by kernel_rfl) (by kernel_rfl) (fun _ _ _ h=>h) (Or.inl ⟨by rfl,?_⟩) hS ?_
         rotate_left
         · (intro w hSw;(try dsimp only at hSw);go_simp;(try with_reducible rfl))
         rotate_left
         simp only [Act.put,zq0,zq1,zq2,zq3,zq4,zq5]
         refine wpAnyH_take (i:=6) (v:=?_) rfl (by kernel_rfl) (by kernel_rfl) (by kernel_rfl) (fun _ _ _ h=>h) (Or.inl ⟨by rfl,?_⟩) hS ?_
         rotate_left
         · (intro w hSw;(try dsimp only at hSw);go_simp;(try with_reducible rfl))
         rotate_left
         simp only [Act.put,zq0,zq1,zq2,zq3,zq4,zq5]
         refine wpAnyH_take (i:=7) (v:=?_) rfl (by kernel_rfl) (by kernel_rfl) (by kernel_rfl) (fun _ _ _ h=>h) (Or.inl ⟨by rfl,?_⟩) hS ?_
         rotate_left
         · (intro w hSw;(try dsimp only at hSw);go_simp;(try with_reducible rfl))
         rotate_left
         simp only [Act.put,zq0,zq1,zq2,zq3,zq4,zq5]
         refine wpAnyH_take (i:=8) (v:=?_) rfl (by kernel_rfl) (by kernel_rfl) (by kernel_rfl) (fun _ _ _ h=>h) (Or.inl ⟨by rfl,?_⟩) hS ?_
         rotate_left
         · (intro w hSw;(try dsimp only at hSw);go_simp;(try with_reducible rfl))
         rotate_left
         simp only [Act.put,zq0,zq1,zq2,zq3,zq4,zq5]
         refine wpAnyH_take (i:=9) (v:=?_) rfl (by kernel_rfl) (by kernel_rfl) (by kernel_rfl) (fun _ _ _ h=>h) (Or.inl ⟨by rfl,?_⟩) hS ?_
         rotate_left
         · (intro w hSw;(try dsimp only at hSw);go_simp;(try with_reducible rfl))
         rotate_left
         simp only [Act.put,zq0,zq1,zq2,zq3,zq4,zq5]
         refine wpAnyH_take (i:=10) (v:=?_) rfl (by kernel_rfl) (by kernel_rfl) (by kernel_rfl) (fun _ _ _ h=>h) (Or.inl ⟨by rfl,?_⟩) hS ?_
         rotate_left
         · (intro w hSw;(try dsimp only at hSw);go_simp;(try with_reducible rfl))
         rotate_left
         simp only [Act.put,zq0,zq1,zq2,zq3,zq4,zq5]
         refine wpAnyH_ready (rs:=[11]) (by kernel_rfl) (by simp) ?_
         refine AllReadyH.cons rfl (fun K hK=>?_) AllReadyH.nil
         rw [if_pos (by rfl)]
         go_simp
         refine (HTZ.out _).mono ?_
         rintro e w3 ⟨rfl,k3⟩
         refine hK.out _ _ (HS.out _ (Ext.trans hS.1 k3)) (fun hS'=>?_)
         clear hK K hS k3
         have hS:=hS'
         clear hS'
         try simp only [Act.put,zq0,zq1,zq2,zq3,zq4,zq5]
         refine wpAnyH_take (i:=12) (v:=?_) rfl (by kernel_rfl) (by kernel_rfl) (by kernel_rfl) (fun _ _ _ h=>h) (Or.inl ⟨by rfl,?_⟩) hS ?_
         rotate_left
         · (intro w hSw;(try dsimp only at hSw);go_simp;(try with_reducible rfl))
         rotate_left
         simp only [Act.put,zq0,zq1,zq2,zq3,zq4,zq5]
         refine wpAnyH_take (i:=13) (v:=?_) rfl (by kernel_rfl) (by kernel_rfl) (by kernel_rfl) (fun _ _ _ h=>h) (Or.inl ⟨by rfl,?_⟩) hS ?_
         rotate_left
         · (intro w hSw;(try dsimp only at hSw);go_simp;(try with_reducible rfl))
         rotate_left
         simp only [Act.put,zq0,zq1,zq2,zq3,zq4,zq5]
         refine wpAnyH_take (i:=14) (v:=?_) rfl (by kernel_rfl) (by kernel_rfl) (by kernel_rfl) (fun _ _ _ h=>h) (Or.inl ⟨by rfl,?_⟩) hS ?_
         rotate_left
         · (intro w hSw;(try dsimp only at hSw);go_simp;(try with_reducible rfl))
         rotate_left
         simp only [Act.put,zq0,zq1,zq2,zq3,zq4,zq5]
         refine wpAnyH_take (i:=15) (v:=?_) rfl (by kernel_rfl) (by kernel_rfl) (by kernel_rfl) (fun _ _ _ h=>h) (Or.inl ⟨by rfl,?_⟩) hS ?_
         rotate_left
         · (intro w hSw;(try dsimp only at hSw);go_simp;(try with_reducible rfl))
         rotate_left
         simp only [Act.put,zq0,zq1,zq2,zq3,zq4,zq5]
         refine wpAnyH_take (i:=16) (v:=?_) rfl (by kernel_rfl) (by kernel_rfl) (by kernel_rfl) (fun _ _ _ h=>h) (Or.inl ⟨by rfl,?_⟩) hS ?_
         rotate_left
         · (intro w hSw;(try dsimp only at hSw);go_simp;(try with_reducible rfl))
         rotate_left
         simp only [Act.put,zq0,zq1,zq2,zq3,zq4,zq5]
         refine wpAnyH_done (by kernel_rfl) ?_ _
         have b8:=Ext.trans b7 hS.1
         clear hS HS HTZ
         cases fb with
         | true=>
           go_wp2
           try rw [HWZ.out]
           exact ⟨⟨z + 1,!tb,HLZ.out,by first | rfl | go_num,rfl,b8,by have h9:=HNX.out;rw [Bool.true_and] at h9;exact h9⟩,by simp [intOf];have:=HLZ.out;omega⟩
         | false=>
           go_wp2
           try rw [HWZ.out]
           exact ⟨⟨z + 1,false,HLZ.out,by first | rfl | go_num,rfl,b8,by have h9:=HNX.out;rw [Bool.false_and] at h9;exact h9⟩,by simp [intOf];have:=HLZ.out;omega⟩
       · have hz' : k = z:=by omega
         subst hz'
         have hfb:=HF.out.done HLFK.out HG.out
         have hmb : fb = mb:=hfb.trans HFI.out.symm
         subst hmb
         have HFX:=Lib.hid hfb
         obtain ⟨p1,p2,p3,p4,p5,p6⟩:=HFT.out _ b7
         clear hfb HF HFI HTC HFB HMT p2 p3 p4 p5 p6 hlt2 hz
         by_cases hk1 : kI g = 1
         · have e1 : (kI g == 1) = true:=by simpa using hk1
           have HDL : Hid (zeros.length = if kI (fs[k]'hkf) = 1 then 128 else 0):=by
            have:=HG.out
            rw [← this] at hk1
            show _ = _
            rw [if_pos hk1];rfl
           obtain ⟨iu,hu,hu0,hu1,hu2⟩:=minfo_u8
           clear hk1
           as_aux_lemma=>
           go_upto_region 26 with (refine wpList_make_full wr rfl (.const (.int .i64 128)) (.const (.int .i64 128)) 26 rfl wr.heap.size 5 iu (.int .u8 0) 1 Try.underlying26 hu hu0 hu1 .i64 .i64 128 128 128 rfl rfl rfl rfl (by rw [hu2];omega) (by unfold maxLen;omega) (Nat.le_refl _) ?_;intro wz own2 g2;rw [made_zeros] at own2;have HO1 : Hid (Own wz wr.heap.size wr.heap.size zeros):=Lib.hid own2;have b2:=Ext.grown (Below.refl _ _) g2 (by simp);clear own2 g2)
           have HD : Hid (RdIn wz (fun _=>True) (.sl .byte) zeros [.slice (some ⟨wr.heap.size,0,none⟩) 128 128]):=Own.rdz HO1.out
           have b7:=Ext.trans b7 b2
           clear b2 HO1 p1 e1 hu hu0 hu1 hu2
           have C7:=C6.next b7
           have t7:=Ext.trans t6 b7
           have HR7:=Lib.hid (HR6.out.below b7)
           have HFV : Hid (∀ w',Below wz.heap.size wz w' → (w'.cell? ⟨bb,off + k * 8 + 1,none⟩ = some (.int .u8 (kI g)) ∧ w'.cell? ⟨bb,off + k * 8 + 2,none⟩ = some (.int .i64 (fA g)) ∧ w'.cell? ⟨bb,off + k * 8 + 3,none⟩ = some (.int .i64 (fM g)) ∧ w'.cell? ⟨bb,off + k * 8 + 4,none⟩ = some (.slice Ab (fD g).length cb) ∧ w'.cell? ⟨bb,off + k * 8 + 5,none⟩ = some (.slice (some ⟨bs,os,none⟩) (fS g).length cs) ∧ w'.cell? ⟨bs,os + i,none⟩ = some (.int .u8 (st.toNat : Int)))):=fun w' bw=>HFT.out w' (Ext.trans b7 bw)
           have hwi:=HWI.out
           have hwi' : IntKind.i64.wrap (b - fA g) = (i : Int):=by have h9:=HWI.out;rw [IntKind.wrap_i64];unfold wrap64 at h9;exact h9
           have hii:=HII.out
           have hin : i < (fS g).length:=by omega
           have HSD:=HFV.out _ (Ext.drew (Below.refl wz.heap.size wz))
           have HSS : Hid (∀ w',Below wz.heap.size wz w' → (Below wz.heap.size wz w' ∧ (w'.cell? ⟨bb,off + k * 8 + 1,none⟩ = some (.int .u8 (kI g)) ∧ w'.cell? ⟨bb,off + k * 8 + 2,none⟩ = some (.int .i64 (fA g)) ∧ w'.cell? ⟨bb,off + k * 8 + 3,none⟩ = some (.int .i64 (fM g)) ∧ w'.cell? ⟨bb,off + k * 8 + 4,none⟩ = some (.slice Ab (fD g).length cb) ∧ w'.cell? ⟨bb,off + k * 8 + 5,none⟩ = some (.slice (some ⟨bs,os,none⟩) (fS g).length cs) ∧ w'.cell? ⟨bs,os + i,none⟩ = some (.int .u8 (st.toNat : Int))))):=fun w' bw=>⟨bw,HFV.out w' bw⟩
           have HSD:=HSS.out _ (Ext.drew (Below.refl wz.heap.size wz))
           refine wp_region_held_drew (S:=fun w'=>Below wz.heap.size wz w' ∧ (w'.cell? ⟨bb,off + k * 8 + 1,none⟩ = some (.int .u8 (kI g)) ∧ w'.cell? ⟨bb,off + k * 8 + 2,none⟩ = some (.int .i64 (fA g)) ∧ w'.cell? ⟨bb,off + k * 8 + 3,none⟩ = some (.int .i64 (fM g)) ∧ w'.cell? ⟨bb,off + k * 8 + 4,none⟩ = some (.slice Ab (fD g).length cb) ∧ w'.cell? ⟨bb,off + k * 8 + 5,none⟩ = some (.slice (some ⟨bs,os,none⟩) (fS g).length cs) ∧ w'.cell? ⟨bs,os + i,none⟩ = some (.int .u8 (st.toNat : Int)))) (by kernel_rfl) HSD (fun hS=>?_)
           clear HSD HSS
           refine wpAnyH_take (i:=0) (v:=?_) rfl (by kernel_rfl) (by kernel_rfl) (by kernel_rfl) (fun _ _ _ h=>h) (Or.inl ⟨by rfl,?_⟩) hS ?_
           rotate_left
           · (intro w hSw;(try dsimp only at hSw);go_simp;(try with_reducible rfl))
           rotate_left
           simp only [Act.put,zq0,zq1,zq2,zq3,zq4,zq5]
           refine wpAnyH_take (i:=1) (v:=?_) rfl (by kernel_rfl) (by kernel_rfl) (by kernel_rfl) (fun _ _ _ h=>h) (Or.inl ⟨by rfl,?_⟩) hS ?_
           rotate_left
           · (intro w hSw;(try dsimp only at hSw);go_simp;(try with_reducible rfl))
           rotate_left
           simp only [Act.put,zq0,zq1,zq2,zq3,zq4,zq5]
           refine wpAnyH_take (i:=2) (v:=?_) rfl (by kernel_rfl) (by kernel_rfl) (by kernel_rfl) (fun _ _ _ h=>h) (Or.inl ⟨by rfl,?_⟩) hS ?_
           rotate_left
           · (intro w hSw;(try dsimp only at hSw);go_simp;(try with_reducible rfl))
           rotate_left
           simp only [Act.put,zq0,zq1,zq2,zq3,zq4,zq5]
           refine wpAnyH_take (i:=3) (v:=?_) rfl (by kernel_rfl) (by kernel_rfl) (by kernel_rfl) (fun _ _ _ h=>h) (Or.inl ⟨by rfl,?_⟩) hS ?_
           rotate_left
           · (intro w hSw;(try dsimp only at hSw);go_simp;(try with_reducible rfl))
           rotate_left
           simp only [Act.put,zq0,zq1,zq2,zq3,zq4,zq5]
           refine wpAnyH_take (i:=4) (v:=?_) rfl (by kernel_rfl) (by kernel_rfl) (by kernel_rfl) (fun _ _ _ h=>h) (Or.inl ⟨by rfl,?_⟩) hS ?_
           rotate_left
           · (intro w hSw;(try dsimp only at hSw);go_simp;(try with_reducible rfl))
           rotate_left
           simp only [Act.put,zq0,zq1,zq2,zq3,zq4,zq5]
           refine wpAnyH_take (i:=5) (v:=?_) rfl (by kernel_rfl) (by kernel_rfl) (by kernel_rfl) (fun _ _ _ h=>h) (Or.inl ⟨by rfl,?_⟩) hS ?_
           rotate_left
           · (intro w hSw;(try dsimp only at hSw);go_simp;(try with_reducible rfl))
           rotate_left
           simp only [Act.put,zq0,zq1,zq2,zq3,zq4,zq5]
           refine wpAnyH_take (i:=6) (v:=?_) rfl (by kernel_rfl) (by kernel_rfl) (by kernel_rfl) (fun _ _ _ h=>h) (Or.inl ⟨by rfl,?_⟩) hS ?_
           rotate_left
           · (intro w hSw;(try dsimp only at hSw);go_simp;(try with_reducible rfl))
           rotate_left
           simp only [Act.put,zq0,zq1,zq2,zq3,zq4,zq5]
           refine wpAnyH_take (i:=7) (v:=?_) rfl (by kernel_rfl) (by kernel_rfl) (by kernel_rfl) (fun _ _ _ h=>h) (Or.inl ⟨by rfl,?_⟩) hS ?_
           rotate_left
           · (intro w hSw;(try dsimp only at hSw);go_simp;(try with_reducible rfl))
           rotate_left
           simp only [Act.put,zq0,zq1,zq2,zq3,zq4,zq5]
           refine wpAnyH_take (i:=8) (v:=?_) rfl (by kernel_rfl) (by kernel_rfl) (by kernel_rfl) (fun _ _ _ h=>h) (Or.inl ⟨by rfl,?_⟩) hS ?_
           rotate_left
           · (intro w hSw;(try dsimp only at hSw);go_simp;(try with_reducible rfl))
           rotate_left
           simp only [Act.put,zq0,zq1,zq2,zq3,zq4,zq5]
           refine wpAnyH_take (i:=9) (v:=?_) rfl (by kernel_rfl) (by kernel_rfl) (by kernel_rfl) (fun _ _ _ h=>h) (Or.inl ⟨by rfl,?_⟩) hS ?_
           rotate_left
           · (intro w hSw;(try dsimp only at hSw);go_simp;(try with_reducible rfl))
           rotate_left
           simp only [Act.put,zq0,zq1,zq2,zq3,zq4,zq5]
           refine wpAnyH_take (i:=10) (v:=?_) rfl (by kernel_rfl) (by kernel_rfl) (by kernel_rfl) (fun _ _ _ h=>h) (Or.inl ⟨by rfl,?_⟩) hS ?_
           rotate_left
           · (intro w hSw;(try dsimp only at hSw);go_simp;(try with_reducible rfl))
           rotate_left
           simp only [Act.put,zq0,zq1,zq2,zq3,zq4,zq5]
           refine wpAnyH_take (i:=11) (v:=?_) rfl (by kernel_rfl) (by kernel_rfl) (by kernel_rfl) (fun _ _ _ h=>h) (Or.inl ⟨by rfl,?_⟩) hS ?_
           rotate_left
           · (intro w hSw;(try dsimp only at hSw);go_simp;(try with_reducible rfl))
           rotate_left
           simp only [Act.put,zq0,zq1,zq2,zq3,zq4,zq5]
           refine wpAnyH_take (i:=12) (v:=?_) rfl (by kernel_rfl) (by kernel_rfl) (by kernel_rfl) (fun _ _ _ h=>h) (Or.inl ⟨by rfl,?_⟩) hS ?_
           rotate_left
           · (intro w hSw;(try dsimp only at hSw);go_simp;(try with_reducible rfl))
           rotate_left
           simp only [Act.put,zq0,zq1,zq2,zq3,zq4,zq5]
           refine wpAnyH_take (i:=13) (v:=?_) rfl (by kernel_rfl) (by kernel_rfl) (by kernel_rfl) (fun _ _ _ h=>h) (Or.inl ⟨by rfl,?_⟩) hS ?_
           rotate_left
           · (intro w hSw;(try dsimp only at hSw);go_simp;(try with_reducible rfl))
           rotate_left
           simp only [Act.put,zq0,zq1,zq2,zq3,zq4,zq5]
           refine wpAnyH_take (i:=14) (v:=?_) rfl (by kernel_rfl) (by kernel_rfl) (by kernel_rfl) (fun _ _ _ h=>h) (Or.inl ⟨by rfl,?_⟩) hS ?_
           rotate_left
           · (intro w hSw;(try dsimp only at hSw);go_simp;(try with_reducible rfl))
           rotate_left
           simp only [Act.put,zq0,zq1,zq2,zq3,zq4,zq5]
           refine wpAnyH_take (i:=15) (v:=?_) rfl (by kernel_rfl) (by kernel_rfl) (by kernel_rfl) (fun _ _ _ h=>h) (Or.inl ⟨by rfl,?_⟩) hS ?_
           rotate_left
           · (intro w hSw;(try dsimp only at hSw);go_simp;(try with_reducible rfl))
           rotate_left
           simp only [Act.put,zq0,zq1,zq2,zq3,zq4,zq5]
           refine wpAnyH_done (by kernel_rfl) ?_ _
           have D8:=Ext.drew (Below.refl wz.heap.size wz)
           have C8:=C7.next D8
           have t8:=Ext.trans t7 D8
           have HR8:=Lib.hid (HR7.out.below D8)
           have HD8:=Lib.hid (HD.out.below D8)
           have HFW : Hid (∀ w',Below wz.drew.heap.size wz.drew w' → (w'.cell? ⟨bb,off + k * 8 + 1,none⟩ = some (.int .u8 (kI g)) ∧ w'.cell? ⟨bb,off + k * 8 + 2,none⟩ = some (.int .i64 (fA g)) ∧ w'.cell? ⟨bb,off + k * 8 + 3,none⟩ = some (.int .i64 (fM g)) ∧ w'.cell? ⟨bb,off + k * 8 + 4,none⟩ = some (.slice Ab (fD g).length cb) ∧ w'.cell? ⟨bb,off + k * 8 + 5,none⟩ = some (.slice (some ⟨bs,os,none⟩) (fS g).length cs) ∧ w'.cell? ⟨bs,os + i,none⟩ = some (.int .u8 (st.toNat : Int)))):=fun w' bw=>HFV.out w' (Ext.trans D8 bw)
           have x8:=C8.cell
           clear hS HFV HD HR7 t7 C7 D8 hwi hwi' hii hin HFT HR6 C6 t6 b7
           go_wp2_with fail
           refine (HGO.out zeros (some ⟨wr.heap.size,0,none⟩) 128 _ HR8.out HD8.out).mono ?_
           rintro e w9 ⟨hres,b9⟩
           have C9:=C8.next b9
           have t9:=Ext.trans t8 b9
           have HR9:=Lib.hid (HR8.out.below b9)
           have HD9:=Lib.hid (HD8.out.below b9)
           have HFY : Hid (∀ w',Below w9.heap.size w9 w' → (w'.cell? ⟨bb,off + k * 8 + 1,none⟩ = some (.int .u8 (kI g)) ∧ w'.cell? ⟨bb,off + k * 8 + 2,none⟩ = some (.int .i64 (fA g)) ∧ w'.cell? ⟨bb,off + k * 8 + 3,none⟩ = some (.int .i64 (fM g)) ∧ w'.cell? ⟨bb,off + k * 8 + 4,none⟩ = some (.slice Ab (fD g).length cb) ∧ w'.cell? ⟨bb,off + k * 8 + 5,none⟩ = some (.slice (some ⟨bs,os,none⟩) (fS g).length cs) ∧ w'.cell? ⟨bs,os + i,none⟩ = some (.int .u8 (st.toNat : Int)))):=fun w' bw=>HFW.out w' (Ext.trans b9 bw)
           clear x8 C8 t8 HR8 HD8 HFW
           by_cases hst3 : st.toNat = 3
           · obtain ⟨A9,c9,rfl,_⟩:=hres.of (go_no HK.out HLFK.out HKN.out HHB.out HHM.out HIS.out (.inr (by have h9:=HSTV.out;rw [← h9];exact hst3))) (L:=0) rfl
             have e3 : ((st.toNat : Int) == 3) = true:=by rw [hst3];rfl
             have e4 : ((st.toNat : Int) = 3):=by omega
             clear hres hst3
             cases fb
             · go_wp2
               go_ret
               exact ⟨rfl,t9⟩
             · go_wp2
               go_ret
               exact ⟨rfl,t9⟩
           have e3 : ((st.toNat : Int) == 3) = false:=by simp;omega
           cases fb with
           | false=>
             obtain ⟨A9,c9,rfl,_⟩:=hres.of (go_no HK.out HLFK.out HKN.out HHB.out HHM.out HIS.out (.inl HFX.out.symm)) (L:=0) rfl
             clear hres
             go_wp2
             go_ret
             exact ⟨rfl,t9⟩
           | true=>
           have hN9 : (fs.set k (fPut (fs[k]'hkf) i 3 0 zeros)).length = j:=by rw [List.length_set];exact HNL.out
           obtain ⟨A9,c9,rfl,n9⟩:=hres.of (go_put HK.out HLFK.out HKN.out HHB.out HHM.out HIS.out HFX.out.symm (by have h9:=HSTV.out;rw [← h9];exact hst3) HDL.out) hN9
           have hz9 : (fs.set k (fPut (fs[k]'hkf) i 3 0 zeros)).length * 128 ≤ 140737488355328:=by rw [hN9];have h8:=(flB_iff.1 HK.out).2.1;have:=HNL.out;omega
           have HR9':=Lib.hid (n9.tt hz9)
           have HN9:=Lib.hid hN9
           clear hres n9 hz9 hN9 HR9
           have x9:=C9.cell
           go_wp2_with fail
           refine (fgo_any (fun _=>True) (⟨id,m,c,r,l,h⟩ : Cfg) (fs.set k (fPut (fs[k]'hkf) i 3 0 zeros)) j c9 A9 HN9.out n b HIB.out 3 0 (by decide) (some ⟨wr.heap.size,0,none⟩) 128 zeros w9 HR9'.out HD9.out).mono ?_
           rintro e w10 ⟨hres,b10⟩
           obtain ⟨A10,c10,rfl,_⟩:=hres.of (go_again HK.out HLFK.out HKN.out HHB.out HHM.out HIS.out HFX.out.symm HDL.out) (L:=0) rfl
           have C10:=C9.next b10
           have t10:=Ext.trans t9 b10
           have HR10:=Lib.hid (HR9'.out.below b10)
           have hk10 : k < (fs.set k (fPut (fs[k]'hkf) i 3 0 zeros)).length:=by have:=HN9.out;have:=HLFK.out;have:=HNL.out;omega
           obtain ⟨bx,ox,_,_,As',ct,_,_,_,_,e8,_,_,_,_,_,y5,_,_,_,_,r2',_,_⟩:=fl_at HR10.out hk10
           subst e8
           have ee : (fs.set k (fPut (fs[k]'hkf) i 3 0 zeros))[k]'hk10 = fPut (fs[k]'hkf) i 3 0 zeros:=List.getElem_set_self _
           have eS : fS ((fs.set k (fPut (fs[k]'hkf) i 3 0 zeros))[k]'hk10) = (fS (fs[k]'hkf)).set i 3:=by rw [ee];rfl
           rw [eS] at y5 r2'
           have hsl : i < ((fS (fs[k]'hkf)).set i 3).length:=by rw [List.length_set];exact HIS.out
           obtain ⟨bt,ot,e9,y6⟩:=st_at r2' hsl
           subst e9
           rw [List.getElem_set_self] at y6
           have y6 : w10.cell? ⟨bt,ot + i,none⟩ = some (.int .u8 3):=y6
           obtain ⟨lS,hlS⟩ : ∃ z,z = ((fS (fs[k]'hkf)).set i 3).length:=⟨_,rfl⟩
           rw [← hlS] at y5 hsl
           obtain ⟨_,y2,_⟩:=HFY.out _ b10
           have LX:=cell_lt y5
           have LT:=cell_lt y6
           have LB:=cell_lt y2
           have HS : Hid (∀ w',Below w10.heap.size w10 w' → (Below w10.heap.size w10 w' ∧ (∀ p,w'.cell? ⟨w.heap.size,p,none⟩ = (#[.int .u32 (id : Int),.int .i64 m,.int .i64 c,.int .i64 r,.int .i64 l,.int .i64 h] : Array Value).toList[p]?) ∧ w'.cell? ⟨bx,ox + k * 8 + 5,none⟩ = some (.slice (some ⟨bt,ot,none⟩) lS ct) ∧ w'.cell? ⟨bt,ot + i,none⟩ = some (.int .u8 3) ∧ w'.cell? ⟨bb,off + k * 8 + 2,none⟩ = some (.int .i64 (fA g)))):=fun w' bw=>⟨bw,(C10.next bw).cell,by rw [bw.cell (p:=⟨bx,ox + k * 8 + 5,none⟩) LX];exact y5,by rw [bw.cell (p:=⟨bt,ot + i,none⟩) LT];exact y6,by rw [bw.cell (p:=⟨bb,off + k * 8 + 2,none⟩) LB];exact y2⟩
           have HCK:=Lib.hid (fun (w' : World) (bw : Below w10.heap.size w10 w')=>fcheck_any (fun _=>True) (⟨id,m,c,r,l,h⟩ : Cfg) (fs.set k (fPut (fs[k]'hkf) i 3 0 zeros)) j c9 _ HN9.out w' (HR10.out.below bw))
           have HPO : Hid (flB (⟨id,m,c,r,l,h⟩ : Cfg) (fs.set k (fPut (fs[k]'hkf) i 3 0 zeros)) = true):=put_ok HK.out HLFK.out HHM.out HFX.out.symm (blk_told HDL.out)
           have hwi:=HWI.out
           have hwi' : IntKind.i64.wrap (b - fA g) = (i : Int):=by have h9:=HWI.out;rw [IntKind.wrap_i64];unfold wrap64 at h9;exact h9
           have hkj : k < j:=by have:=HN9.out;rw [← this];exact hk10
           have HSD:=HS.out _ (Ext.drew (Below.refl w10.heap.size w10))
           clear x9 hres b10 C9 C10 HR9' HR10 y5 y6 y2 LX LT LB hlS ee b9 HFY HGO HX
           as_aux_lemma=>
           go_upto_region 31 with fail
           refine wp_region_held_drew (S:=fun w'=>Below w10.heap.size w10 w' ∧ (∀ p,w'.cell? ⟨w.heap.size,p,none⟩ = (#[.int .u32 (id : Int),.int .i64 m,.int .i64 c,.int .i64 r,.int .i64 l,.int .i64 h] : Array Value).toList[p]?) ∧ w'.cell? ⟨bx,ox + k * 8 + 5,none⟩ = some (.slice (some ⟨bt,ot,none⟩) lS ct) ∧ w'.cell? ⟨bt,ot + i,none⟩ = some (.int .u8 3) ∧ w'.cell? ⟨bb,off + k * 8 + 2,none⟩ = some (.int .i64 (fA g))) (by kernel_rfl) HSD (fun hS=>?_)
           clear HSD
           refine wpAnyH_take (i:=0) (v:=?_) rfl (by kernel_rfl) (by kernel_rfl) (by kernel_rfl) (fun _ _ _ h=>h) (Or.inl ⟨by rfl,?_⟩) hS ?_
           rotate_left
           · (intro w hSw;(try dsimp only at hSw);go_simp;(try with_reducible rfl))
           rotate_left
           simp only [Act.put,zq0,zq1,zq2,zq3,zq4,zq5]
           refine wpAnyH_take (i:=1) (v:=?_) rfl (by kernel_rfl) (by kernel_rfl) (by kernel_rfl) (fun _ _ _ h=>h) (Or.inl ⟨by rfl,?_⟩) hS ?_
           rotate_left
           · (intro w hSw;(try dsimp only at hSw);go_simp;(try with_reducible rfl))
           rotate_left
           simp only [Act.put,zq0,zq1,zq2,zq3,zq4,zq5]
           refine wpAnyH_take (i:=2) (v:=?_) rfl (by kernel_rfl) (by kernel_rfl) (by kernel_rfl) (fun _ _ _ h=>h) (Or.inl ⟨by rfl,?_⟩) hS ?_
           rotate_left
           · (intro w hSw;(try dsimp only at hSw);go_simp;(try with_reducible rfl))
           rotate_left
           simp only [Act.put,zq0,zq1,zq2,zq3,zq4,zq5]
           refine wpAnyH_take (i:=3) (v:=?_) rfl (by kernel_rfl) (by kernel_rfl) (by kernel_rfl) (fun _ _ _ h=>h) (Or.inl ⟨by rfl,?_⟩) hS ?_
           rotate_left
           · (intro w hSw;(try dsimp only at hSw);go_simp;(try with_reducible rfl))
           rotate_left
           simp only [Act.put,zq0,zq1,zq2,zq3,zq4,zq5]
           refine wpAnyH_take (i:=4) (v:=?_) rfl (by kernel_rfl) (by kernel_rfl) (by kernel_rfl) (fun _ _ _ h=>h) (Or.inl ⟨by rfl,?_⟩) hS ?_
           rotate_left
           · (intro w hSw;(try dsimp only at hSw);go_simp;(try with_reducible rfl))
           rotate_left
           simp only [Act.put,zq0,zq1,zq2,zq3,zq4,zq5]
           refine wpAnyH_take (i:=5) (v:=?_) rfl (by kernel_rfl) (by kernel_rfl) (by kernel_rfl) (fun _ _ _ h=>h) (Or.inl ⟨by rfl,?_⟩) hS ?_
           rotate_left
           · (intro w hSw;(try dsimp only at hSw);go_simp;(try with_reducible rfl))
           rotate_left
           simp only [Act.put,zq0,zq1,zq2,zq3,zq4,zq5]
           refine wpAnyH_take (i:=6) (v:=?_) rfl (by kernel_rfl) (by kernel_rfl) (by kernel_rfl) (fun _ _ _ h=>h) (Or.inl ⟨by rfl,?_⟩) hS ?_
           rotate_left
           · (intro w hSw;(try dsimp only at hSw);go_simp;(try with_reducible rfl))
           rotate_left
           simp only [Act.put,zq0,zq1,zq2,zq3,zq4,zq5]
           refine wpAnyH_take (i:=7) (v:=?_) rfl (by kernel_rfl) (by kernel_rfl) (by kernel_rfl) (fun _ _ _ h=>h) (Or.inl ⟨by rfl,?_⟩) hS ?_
           rotate_left
           · (intro w hSw;(try dsimp only at hSw);go_simp;(try with_reducible rfl))
           rotate_left
           simp only [Act.put,zq0,zq1,zq2,zq3,zq4,zq5]
           refine wpAnyH_take (i:=8) (v:=?_) rfl (by kernel_rfl) (by kernel_rfl) (by kernel_rfl) (fun _ _ _ h=>h) (Or.inl ⟨by rfl,?_⟩) hS ?_
           rotate_left
           · (intro w hSw;(try dsimp only at hSw);go_simp;(try with_reducible rfl))
           rotate_left
           simp only [Act.put,zq0,zq1,zq2,zq3,zq4,zq5]
           refine wpAnyH_take (i:=9) (v:=?_) rfl (by kernel_rfl) (by kernel_rfl) (by kernel_rfl) (fun _ _ _ h=>h) (Or.inl ⟨by rfl,?_⟩) hS ?_
           rotate_left
           · (intro w hSw;(try dsimp only at hSw);go_simp;(try with_reducible rfl))
           rotate_left
           simp only [Act.put,zq0,zq1,zq2,zq3,zq4,zq5]
           refine wpAnyH_take (i:=10) (v:=?_) rfl (by kernel_rfl) (by kernel_rfl) (by kernel_rfl) (fun _ _ _ h=>h) (Or.inl ⟨by rfl,?_⟩) hS ?_
           rotate_left
           · (intro w hSw;(try dsimp only at hSw);go_simp;(try with_reducible rfl))
           rotate_left
           simp only [Act.put,zq0,zq1,zq2,zq3,zq4,zq5]
           refine wpAnyH_take (i:=11) (v:=?_) rfl (by kernel_rfl) (by kernel_rfl) (by kernel_rfl) (fun _ _ _ h=>h) (Or.inl ⟨by rfl,?_⟩) hS ?_
           rotate_left
           · (intro w hSw;(try dsimp only at hSw);go_simp;(try with_reducible rfl))
           rotate_left
           simp only [Act.put,zq0,zq1,zq2,zq3,zq4,zq5]
           refine wpAnyH_ready (rs:=[12]) (by kernel_rfl) (by simp) ?_
           refine AllReadyH.cons rfl (fun K hK=>?_) AllReadyH.nil
           rw [if_pos (by rfl)]
           go_simp
           refine (HCK.out _ hS.1).mono ?_
           rintro e v3 ⟨h1,k3⟩
           have he : e = .returned (.int .i64 0):=by
            rcases h1 with h1 | h1
            · exact h1.2
            · exact absurd HPO.out h1.1
           subst he
           clear h1
           refine hK.out _ _ (HS.out _ (Ext.trans hS.1 k3)) (fun hS'=>?_)
           clear hK K hS k3
           have hS:=hS'
           clear hS'
           try simp only [Act.put,zq0,zq1,zq2,zq3,zq4,zq5]
           refine wpAnyH_take (i:=13) (v:=?_) rfl (by kernel_rfl) (by kernel_rfl) (by kernel_rfl) (fun _ _ _ h=>h) (Or.inl ⟨by rfl,?_⟩) hS ?_
           rotate_left
           · (intro w hSw;(try dsimp only at hSw);go_simp;(try with_reducible rfl))
           rotate_left
           simp only [Act.put,zq0,zq1,zq2,zq3,zq4,zq5]
           refine wpAnyH_take (i:=14) (v:=?_) rfl (by kernel_rfl) (by kernel_rfl) (by kernel_rfl) (fun _ _ _ h=>h) (Or.inl ⟨by rfl,?_⟩) hS ?_
           rotate_left
           · (intro w hSw;(try dsimp only at hSw);go_simp;(try with_reducible rfl))
           rotate_left
           simp only [Act.put,zq0,zq1,zq2,zq3,zq4,zq5]
           refine wpAnyH_take (i:=15) (v:=?_) rfl (by kernel_rfl) (by kernel_rfl) (by kernel_rfl) (fun _ _ _ h=>h) (Or.inl ⟨by rfl,?_⟩) hS ?_
           rotate_left
           · (intro w hSw;(try dsimp only at hSw);go_simp;(try with_reducible rfl))
           rotate_left
           simp only [Act.put,zq0,zq1,zq2,zq3,zq4,zq5]
           refine wpAnyH_take (i:=16) (v:=?_) rfl (by kernel_rfl) (by kernel_rfl) (by kernel_rfl) (fun _ _ _ h=>h) (Or.inl ⟨by rfl,?_⟩) hS ?_
           rotate_left
           · (intro w hSw;(try dsimp only at hSw);go_simp;(try with_reducible rfl))
           rotate_left
           simp only [Act.put,zq0,zq1,zq2,zq3,zq4,zq5]
           refine wpAnyH_take (i:=17) (v:=?_) rfl (by kernel_rfl) (by kernel_rfl) (by kernel_rfl) (fun _ _ _ h=>h) (Or.inl ⟨by rfl,?_⟩) hS ?_
           rotate_left
           · (intro w hSw;(try dsimp only at hSw);go_simp;(try with_reducible rfl))
           rotate_left
           simp only [Act.put,zq0,zq1,zq2,zq3,zq4,zq5]
           refine wpAnyH_take (i:=18) (v:=?_) rfl (by kernel_rfl) (by kernel_rfl) (by kernel_rfl) (fun _ _ _ h=>h) (Or.inl ⟨by rfl,?_⟩) hS ?_
           rotate_left
           · (intro w hSw;(try dsimp only at hSw);go_simp;(try with_reducible rfl))
           rotate_left
           simp only [Act.put,zq0,zq1,zq2,zq3,zq4,zq5]
           refine wpAnyH_take (i:=19) (v:=?_) rfl (by kernel_rfl) (by kernel_rfl) (by kernel_rfl) (fun _ _ _ h=>h) (Or.inl ⟨by rfl,?_⟩) hS ?_
           rotate_left
           · (intro w hSw;(try dsimp only at hSw);go_simp;(try with_reducible rfl))
           rotate_left
           simp only [Act.put,zq0,zq1,zq2,zq3,zq4,zq5]
           refine wpAnyH_take (i:=20) (v:=?_) rfl (by kernel_rfl) (by kernel_rfl) (by kernel_rfl) (fun _ _ _ h=>h) (Or.inl ⟨by rfl,?_⟩) hS ?_
           rotate_left
           · (intro w hSw;(try dsimp only at hSw);go_simp;(try with_reducible rfl))
           rotate_left
           simp only [Act.put,zq0,zq1,zq2,zq3,zq4,zq5]
           refine wpAnyH_take (i:=21) (v:=?_) rfl (by kernel_rfl) (by kernel_rfl) (by kernel_rfl) (fun _ _ _ h=>h) (Or.inl ⟨by rfl,?_⟩) hS ?_
           rotate_left
           · (intro w hSw;(try dsimp only at hSw);go_simp;(try with_reducible rfl))
           rotate_left
           simp only [Act.put,zq0,zq1,zq2,zq3,zq4,zq5]
           refine wpAnyH_take (i:=22) (v:=?_) rfl (by kernel_rfl) (by kernel_rfl) (by kernel_rfl) (fun _ _ _ h=>h) (Or.inl ⟨by rfl,?_⟩) hS ?_
           rotate_left
           · (intro w hSw;(try dsimp only at hSw);go_simp;(try with_reducible rfl))
           rotate_left
           simp only [Act.put,zq0,zq1,zq2,zq3,zq4,zq5]
           refine wpAnyH_take (i:=23) (v:=?_) rfl (by kernel_rfl) (by kernel_rfl) (by kernel_rfl) (fun _ _ _ h=>h) (Or.inl ⟨by rfl,?_⟩) hS ?_
           rotate_left
           · (intro w hSw;(try dsimp only at hSw);go_simp;(try with_reducible rfl))
           rotate_left
           simp only [Act.put,zq0,zq1,zq2,zq3,zq4,zq5]
           refine wpAnyH_take (i:=24) (v:=?_) rfl (by kernel_rfl) (by kernel_rfl) (by kernel_rfl) (fun _ _ _ h=>h) (Or.inl ⟨by rfl,?_⟩) hS ?_
           rotate_left
           · (intro w hSw;(try dsimp only at hSw);go_simp;(try with_reducible rfl))
           rotate_left
           simp only [Act.put,zq0,zq1,zq2,zq3,zq4,zq5]
           refine wpAnyH_take (i:=25) (v:=?_) rfl (by kernel_rfl) (by kernel_rfl) (by kernel_rfl) (fun _ _ _ h=>h) (Or.inl ⟨by rfl,?_⟩) hS ?_
           rotate_left
           · (intro w hSw;(try dsimp only at hSw);go_simp;(try with_reducible rfl))
           rotate_left
           simp only [Act.put,zq0,zq1,zq2,zq3,zq4,zq5]
           refine wpAnyH_take (i:=26) (v:=?_) rfl (by kernel_rfl) (by kernel_rfl) (by kernel_rfl) (fun _ _ _ h=>h) (Or.inl ⟨by rfl,?_⟩) hS ?_
           rotate_left
           · (intro w hSw;(try dsimp only at hSw);go_simp;(try with_reducible rfl))
           rotate_left
           simp only [Act.put,zq0,zq1,zq2,zq3,zq4,zq5]
           refine wpAnyH_take (i:=27) (v:=?_) rfl (by kernel_rfl) (by kernel_rfl) (by kernel_rfl) (fun _ _ _ h=>h) (Or.inl ⟨by rfl,?_⟩) hS ?_
           rotate_left
           · (intro w hSw;(try dsimp only at hSw);go_simp;(try with_reducible rfl))
           rotate_left
           simp only [Act.put,zq0,zq1,zq2,zq3,zq4,zq5]
           refine wpAnyH_take (i:=28) (v:=?_) rfl (by kernel_rfl) (by kernel_rfl) (by kernel_rfl) (fun _ _ _ h=>h) (Or.inl ⟨by rfl,?_⟩) hS ?_
           rotate_left
           · (intro w hSw;(try dsimp only at hSw);go_simp;(try with_reducible rfl))
           rotate_left
           simp only [Act.put,zq0,zq1,zq2,zq3,zq4,zq5]
           refine wpAnyH_take (i:=29) (v:=?_) rfl (by kernel_rfl) (by kernel_rfl) (by kernel_rfl) (fun _ _ _ h=>h) (Or.inl ⟨by rfl,?_⟩) hS ?_
           rotate_left
           · (intro w hSw;(try dsimp only at hSw);go_simp;(try with_reducible rfl))
           rotate_left
           simp only [Act.put,zq0,zq1,zq2,zq3,zq4,zq5]
           refine wpAnyH_take (i:=30) (v:=?_) rfl (by kernel_rfl) (by kernel_rfl) (by kernel_rfl) (fun _ _ _ h=>h) (Or.inl ⟨by rfl,?_⟩) hS ?_
           rotate_left
           · (intro w hSw;(try dsimp only at hSw);go_simp;(try with_reducible rfl))
           rotate_left
           simp only [Act.put,zq0,zq1,zq2,zq3,zq4,zq5]
           refine wpAnyH_take (i:=31) (v:=?_) rfl (by kernel_rfl) (by kernel_rfl) (by kernel_rfl) (fun _ _ _ h=>h) (Or.inl ⟨by rfl,?_⟩) hS ?_
           rotate_left
           · (intro w hSw;(try dsimp only at hSw);go_simp;(try with_reducible rfl))
           rotate_left
           simp only [Act.put,zq0,zq1,zq2,zq3,zq4,zq5]
           refine wpAnyH_take (i:=32) (v:=?_) rfl (by kernel_rfl) (by kernel_rfl) (by kernel_rfl) (fun _ _ _ h=>h) (Or.inl ⟨by rfl,?_⟩) hS ?_
           rotate_left
           · (intro w hSw;(try dsimp only at hSw);go_simp;(try with_reducible rfl))
           rotate_left
           simp only [Act.put,zq0,zq1,zq2,zq3,zq4,zq5]
           refine wpAnyH_take (i:=33) (v:=?_) rfl (by kernel_rfl) (by kernel_rfl) (by kernel_rfl) (fun _ _ _ h=>h) (Or.inl ⟨by rfl,?_⟩) hS ?_
           rotate_left
           · (intro w hSw;(try dsimp only at hSw);go_simp;(try with_reducible rfl))
           rotate_left
           simp only [Act.put,zq0,zq1,zq2,zq3,zq4,zq5]
           refine wpAnyH_done (by kernel_rfl) ?_ _
           have t11:=Ext.trans t10 hS.1
           clear hS HS HCK HPO
           go_wp2
           go_ret
           exact ⟨rfl,t11⟩
         · have e1 : (kI g == 1) = false:=by simpa using hk1
           have HDL : Hid (([] : List UInt8).length = if kI (fs[k]'hkf) = 1 then 128 else 0):=by
            have:=HG.out
            rw [← this] at hk1
            show _ = _
            rw [if_neg hk1];rfl
           clear hk1
           as_aux_lemma=>
           go_upto_region 26 with fail
           have HD : Hid (RdIn wr (fun _=>True) (.sl .byte) [] [.slice none 0 0]):=rdin_nilb (by unfold maxLen;omega) _
           clear p1 e1
           have C7:=C6.next b7
           have t7:=Ext.trans t6 b7
           have HR7:=Lib.hid (HR6.out.below b7)
           have HFV : Hid (∀ w',Below wr.heap.size wr w' → (w'.cell? ⟨bb,off + k * 8 + 1,none⟩ = some (.int .u8 (kI g)) ∧ w'.cell? ⟨bb,off + k * 8 + 2,none⟩ = some (.int .i64 (fA g)) ∧ w'.cell? ⟨bb,off + k * 8 + 3,none⟩ = some (.int .i64 (fM g)) ∧ w'.cell? ⟨bb,off + k * 8 + 4,none⟩ = some (.slice Ab (fD g).length cb) ∧ w'.cell? ⟨bb,off + k * 8 + 5,none⟩ = some (.slice (some ⟨bs,os,none⟩) (fS g).length cs) ∧ w'.cell? ⟨bs,os + i,none⟩ = some (.int .u8 (st.toNat : Int)))):=fun w' bw=>HFT.out w' (Ext.trans b7 bw)
           have hwi:=HWI.out
           have hwi' : IntKind.i64.wrap (b - fA g) = (i : Int):=by have h9:=HWI.out;rw [IntKind.wrap_i64];unfold wrap64 at h9;exact h9
           have hii:=HII.out
           have hin : i < (fS g).length:=by omega
           have HSD:=HFV.out _ (Ext.drew (Below.refl wr.heap.size wr))
           have HSS : Hid (∀ w',Below wr.heap.size wr w' → (Below wr.heap.size wr w' ∧ (w'.cell? ⟨bb,off + k * 8 + 1,none⟩ = some (.int .u8 (kI g)) ∧ w'.cell? ⟨bb,off + k * 8 + 2,none⟩ = some (.int .i64 (fA g)) ∧ w'.cell? ⟨bb,off + k * 8 + 3,none⟩ = some (.int .i64 (fM g)) ∧ w'.cell? ⟨bb,off + k * 8 + 4,none⟩ = some (.slice Ab (fD g).length cb) ∧ w'.cell? ⟨bb,off + k * 8 + 5,none⟩ = some (.slice (some ⟨bs,os,none⟩) (fS g).length cs) ∧ w'.cell? ⟨bs,os + i,none⟩ = some (.int .u8 (st.toNat : Int))))):=fun w' bw=>⟨bw,HFV.out w' bw⟩
           have HSD:=HSS.out _ (Ext.drew (Below.refl wr.heap.size wr))
           refine wp_region_held_drew (S:=fun w'=>Below wr.heap.size wr w' ∧ (w'.cell? ⟨bb,off + k * 8 + 1,none⟩ = some (.int .u8 (kI g)) ∧ w'.cell? ⟨bb,off + k * 8 + 2,none⟩ = some (.int .i64 (fA g)) ∧ w'.cell? ⟨bb,off + k * 8 + 3,none⟩ = some (.int .i64 (fM g)) ∧ w'.cell? ⟨bb,off + k * 8 + 4,none⟩ = some (.slice Ab (fD g).length cb) ∧ w'.cell? ⟨bb,off + k * 8 + 5,none⟩ = some (.slice (some ⟨bs,os,none⟩) (fS g).length cs) ∧ w'.cell? ⟨bs,os + i,none⟩ = some (.int .u8 (st.toNat : Int)))) (by kernel_rfl) HSD (fun hS=>?_)
           clear HSD HSS
           refine wpAnyH_take (i:=0) (v:=?_) rfl (by kernel_rfl) (by kernel_rfl) (by kernel_rfl) (fun _ _ _ h=>h) (Or.inl ⟨by rfl,?_⟩) hS ?_
           rotate_left
           · (intro w hSw;(try dsimp only at hSw);go_simp;(try with_reducible rfl))
           rotate_left
           simp only [Act.put,zq0,zq1,zq2,zq3,zq4,zq5]
           refine wpAnyH_take (i:=1) (v:=?_) rfl (by kernel_rfl) (by kernel_rfl) (by kernel_rfl) (fun _ _ _ h=>h) (Or.inl ⟨by rfl,?_⟩) hS ?_
           rotate_left
           · (intro w hSw;(try dsimp only at hSw);go_simp;(try with_reducible rfl))
           rotate_left
           simp only [Act.put,zq0,zq1,zq2,zq3,zq4,zq5]
           refine wpAnyH_take (i:=2) (v:=?_) rfl (by kernel_rfl) (by kernel_rfl) (by kernel_rfl) (fun _ _ _ h=>h) (Or.inl ⟨by rfl,?_⟩) hS ?_
           rotate_left
           · (intro w hSw;(try dsimp only at hSw);go_simp;(try with_reducible rfl))
           rotate_left
           simp only [Act.put,zq0,zq1,zq2,zq3,zq4,zq5]
           refine wpAnyH_take (i:=3) (v:=?_) rfl (by kernel_rfl) (by kernel_rfl) (by kernel_rfl) (fun _ _ _ h=>h) (Or.inl ⟨by rfl,?_⟩) hS ?_
           rotate_left
           · (intro w hSw;(try dsimp only at hSw);go_simp;(try with_reducible rfl))
           rotate_left
           simp only [Act.put,zq0,zq1,zq2,zq3,zq4,zq5]
           refine wpAnyH_take (i:=4) (v:=?_) rfl (by kernel_rfl) (by kernel_rfl) (by kernel_rfl) (fun _ _ _ h=>h) (Or.inl ⟨by rfl,?_⟩) hS ?_
           rotate_left
           · (intro w hSw;(try dsimp only at hSw);go_simp;(try with_reducible rfl))
           rotate_left
           simp only [Act.put,zq0,zq1,zq2,zq3,zq4,zq5]
           refine wpAnyH_take (i:=5) (v:=?_) rfl (by kernel_rfl) (by kernel_rfl) (by kernel_rfl) (fun _ _ _ h=>h) (Or.inl ⟨by rfl,?_⟩) hS ?_
           rotate_left
           · (intro w hSw;(try dsimp only at hSw);go_simp;(try with_reducible rfl))
           rotate_left
           simp only [Act.put,zq0,zq1,zq2,zq3,zq4,zq5]
           refine wpAnyH_take (i:=6) (v:=?_) rfl (by kernel_rfl) (by kernel_rfl) (by kernel_rfl) (fun _ _ _ h=>h) (Or.inl ⟨by rfl,?_⟩) hS ?_
           rotate_left
           · (intro w hSw;(try dsimp only at hSw);go_simp;(try with_reducible rfl))
           rotate_left
           simp only [Act.put,zq0,zq1,zq2,zq3,zq4,zq5]
           refine wpAnyH_take (i:=7) (v:=?_) rfl (by kernel_rfl) (by kernel_rfl) (by kernel_rfl) (fun _ _ _ h=>h) (Or.inl ⟨by rfl,?_⟩) hS ?_
           rotate_left
           · (intro w hSw;(try dsimp only at hSw);go_simp;(try with_reducible rfl))
           rotate_left
           simp only [Act.put,zq0,zq1,zq2,zq3,zq4,zq5]
           refine wpAnyH_take (i:=8) (v:=?_) rfl (by kernel_rfl) (by kernel_rfl) (by kernel_rfl) (fun _ _ _ h=>h) (Or.inl ⟨by rfl,?_⟩) hS ?_
           rotate_left
           · (intro w hSw;(try dsimp only at hSw);go_simp;(try with_reducible rfl))
           rotate_left
           simp only [Act.put,zq0,zq1,zq2,zq3,zq4,zq5]
           refine wpAnyH_take (i:=9) (v:=?_) rfl (by kernel_rfl) (by kernel_rfl) (by kernel_rfl) (fun _ _ _ h=>h) (Or.inl ⟨by rfl,?_⟩) hS ?_
           rotate_left
           · (intro w hSw;(try dsimp only at hSw);go_simp;(try with_reducible rfl))
           rotate_left
           simp only [Act.put,zq0,zq1,zq2,zq3,zq4,zq5]
           refine wpAnyH_take (i:=10) (v:=?_) rfl (by kernel_rfl) (by kernel_rfl) (by kernel_rfl) (fun _ _ _ h=>h) (Or.inl ⟨by rfl,?_⟩) hS ?_
           rotate_left
           · (intro w hSw;(try dsimp only at hSw);go_simp;(try with_reducible rfl))
           rotate_left
           simp only [Act.put,zq0,zq1,zq2,zq3,zq4,zq5]
           refine wpAnyH_take (i:=11) (v:=?_) rfl (by kernel_rfl) (by kernel_rfl) (by kernel_rfl) (fun _ _ _ h=>h) (Or.inl ⟨by rfl,?_⟩) hS ?_
           rotate_left
           · (intro w hSw;(try dsimp only at hSw);go_simp;(try with_reducible rfl))
           rotate_left
           simp only [Act.put,zq0,zq1,zq2,zq3,zq4,zq5]
           refine wpAnyH_take (i:=12) (v:=?_) rfl (by kernel_rfl) (by kernel_rfl) (by kernel_rfl) (fun _ _ _ h=>h) (Or.inl ⟨by rfl,?_⟩) hS ?_
           rotate_left
           · (intro w hSw;(try dsimp only at hSw);go_simp;(try with_reducible rfl))
           rotate_left
           simp only [Act.put,zq0,zq1,zq2,zq3,zq4,zq5]
           refine wpAnyH_take (i:=13) (v:=?_) rfl (by kernel_rfl) (by kernel_rfl) (by kernel_rfl) (fun _ _ _ h=>h) (Or.inl ⟨by rfl,?_⟩) hS ?_
           rotate_left
           · (intro w hSw;(try dsimp only at hSw);go_simp;(try with_reducible rfl))
           rotate_left
           simp only [Act.put,zq0,zq1,zq2,zq3,zq4,zq5]
           refine wpAnyH_take (i:=14) (v:=?_) rfl (by kernel_rfl) (by kernel_rfl) (by kernel_rfl) (fun _ _ _ h=>h) (Or.inl ⟨by rfl,?_⟩) hS ?_
           rotate_left
           · (intro w hSw;(try dsimp only at hSw);go_simp;(try with_reducible rfl))
           rotate_left
           simp only [Act.put,zq0,zq1,zq2,zq3,zq4,zq5]
           refine wpAnyH_take (i:=15) (v:=?_) rfl (by kernel_rfl) (by kernel_rfl) (by kernel_rfl) (fun _ _ _ h=>h) (Or.inl ⟨by rfl,?_⟩) hS ?_
           rotate_left
           · (intro w hSw;(try dsimp only at hSw);go_simp;(try with_reducible rfl))
           rotate_left
           simp only [Act.put,zq0,zq1,zq2,zq3,zq4,zq5]
           refine wpAnyH_done (by kernel_rfl) ?_ _
           have D8:=Ext.drew (Below.refl wr.heap.size wr)
           have C8:=C7.next D8
           have t8:=Ext.trans t7 D8
           have HR8:=Lib.hid (HR7.out.below D8)
           have HD8:=Lib.hid (HD.out.below D8)
           have HFW : Hid (∀ w',Below wr.drew.heap.size wr.drew w' → (w'.cell? ⟨bb,off + k * 8 + 1,none⟩ = some (.int .u8 (kI g)) ∧ w'.cell? ⟨bb,off + k * 8 + 2,none⟩ = some (.int .i64 (fA g)) ∧ w'.cell? ⟨bb,off + k * 8 + 3,none⟩ = some (.int .i64 (fM g)) ∧ w'.cell? ⟨bb,off + k * 8 + 4,none⟩ = some (.slice Ab (fD g).length cb) ∧ w'.cell? ⟨bb,off + k * 8 + 5,none⟩ = some (.slice (some ⟨bs,os,none⟩) (fS g).length cs) ∧ w'.cell? ⟨bs,os + i,none⟩ = some (.int .u8 (st.toNat : Int)))):=fun w' bw=>HFV.out w' (Ext.trans D8 bw)
           have x8:=C8.cell
           clear hS HFV HD HR7 t7 C7 D8 hwi hwi' hii hin HFT HR6 C6 t6 b7
           go_wp2_with fail
           refine (HGO.out ([] : List UInt8) none 0 _ HR8.out HD8.out).mono ?_
           rintro e w9 ⟨hres,b9⟩
           have C9:=C8.next b9
           have t9:=Ext.trans t8 b9
           have HR9:=Lib.hid (HR8.out.below b9)
           have HD9:=Lib.hid (HD8.out.below b9)
           have HFY : Hid (∀ w',Below w9.heap.size w9 w' → (w'.cell? ⟨bb,off + k * 8 + 1,none⟩ = some (.int .u8 (kI g)) ∧ w'.cell? ⟨bb,off + k * 8 + 2,none⟩ = some (.int .i64 (fA g)) ∧ w'.cell? ⟨bb,off + k * 8 + 3,none⟩ = some (.int .i64 (fM g)) ∧ w'.cell? ⟨bb,off + k * 8 + 4,none⟩ = some (.slice Ab (fD g).length cb) ∧ w'.cell? ⟨bb,off + k * 8 + 5,none⟩ = some (.slice (some ⟨bs,os,none⟩) (fS g).length cs) ∧ w'.cell? ⟨bs,os + i,none⟩ = some (.int .u8 (st.toNat : Int)))):=fun w' bw=>HFW.out w' (Ext.trans b9 bw)
           clear x8 C8 t8 HR8 HD8 HFW
           by_cases hst3 : st.toNat = 3
           · obtain ⟨A9,c9,rfl,_⟩:=hres.of (go_no HK.out HLFK.out HKN.out HHB.out HHM.out HIS.out (.inr (by have h9:=HSTV.out;rw [← h9];exact hst3))) (L:=0) rfl
             have e3 : ((st.toNat : Int) == 3) = true:=by rw [hst3];rfl
             have e4 : ((st.toNat : Int) = 3):=by omega
             clear hres hst3
             cases fb
             · go_wp2
               go_ret
               exact ⟨rfl,t9⟩
             · go_wp2
               go_ret
               exact ⟨rfl,t9⟩
           have e3 : ((st.toNat : Int) == 3) = false:=by simp;omega
           cases fb with
           | false=>
             obtain ⟨A9,c9,rfl,_⟩:=hres.of (go_no HK.out HLFK.out HKN.out HHB.out HHM.out HIS.out (.inl HFX.out.symm)) (L:=0) rfl
             clear hres
             go_wp2
             go_ret
             exact ⟨rfl,t9⟩
           | true=>
           have hN9 : (fs.set k (fPut (fs[k]'hkf) i 3 0 ([] : List UInt8))).length = j:=by rw [List.length_set];exact HNL.out
           obtain ⟨A9,c9,rfl,n9⟩:=hres.of (go_put HK.out HLFK.out HKN.out HHB.out HHM.out HIS.out HFX.out.symm (by have h9:=HSTV.out;rw [← h9];exact hst3) HDL.out) hN9
           have hz9 : (fs.set k (fPut (fs[k]'hkf) i 3 0 ([] : List UInt8))).length * 128 ≤ 140737488355328:=by rw [hN9];have h8:=(flB_iff.1 HK.out).2.1;have:=HNL.out;omega
           have HR9':=Lib.hid (n9.tt hz9)
           have HN9:=Lib.hid hN9
           clear hres n9 hz9 hN9 HR9
           have x9:=C9.cell
           go_wp2_with fail
           refine (fgo_any (fun _=>True) (⟨id,m,c,r,l,h⟩ : Cfg) (fs.set k (fPut (fs[k]'hkf) i 3 0 ([] : List UInt8))) j c9 A9 HN9.out n b HIB.out 3 0 (by decide) none 0 ([] : List UInt8) w9 HR9'.out HD9.out).mono ?_
           rintro e w10 ⟨hres,b10⟩
           obtain ⟨A10,c10,rfl,_⟩:=hres.of (go_again HK.out HLFK.out HKN.out HHB.out HHM.out HIS.out HFX.out.symm HDL.out) (L:=0) rfl
           have C10:=C9.next b10
           have t10:=Ext.trans t9 b10
           have HR10:=Lib.hid (HR9'.out.below b10)
           have hk10 : k < (fs.set k (fPut (fs[k]'hkf) i 3 0 ([] : List UInt8))).length:=by have:=HN9.out;have:=HLFK.out;have:=HNL.out;omega
           obtain ⟨bx,ox,_,_,As',ct,_,_,_,_,e8,_,_,_,_,_,y5,_,_,_,_,r2',_,_⟩:=fl_at HR10.out hk10
           subst e8
           have ee : (fs.set k (fPut (fs[k]'hkf) i 3 0 ([] : List UInt8)))[k]'hk10 = fPut (fs[k]'hkf) i 3 0 ([] : List UInt8):=List.getElem_set_self _
           have eS : fS ((fs.set k (fPut (fs[k]'hkf) i 3 0 ([] : List UInt8)))[k]'hk10) = (fS (fs[k]'hkf)).set i 3:=by rw [ee];rfl
           rw [eS] at y5 r2'
           have hsl : i < ((fS (fs[k]'hkf)).set i 3).length:=by rw [List.length_set];exact HIS.out
           obtain ⟨bt,ot,e9,y6⟩:=st_at r2' hsl
           subst e9
           rw [List.getElem_set_self] at y6
           have y6 : w10.cell? ⟨bt,ot + i,none⟩ = some (.int .u8 3):=y6
           obtain ⟨lS,hlS⟩ : ∃ z,z = ((fS (fs[k]'hkf)).set i 3).length:=⟨_,rfl⟩
           rw [← hlS] at y5 hsl
           obtain ⟨_,y2,_⟩:=HFY.out _ b10
           have LX:=cell_lt y5
           have LT:=cell_lt y6
           have LB:=cell_lt y2
           have HS : Hid (∀ w',Below w10.heap.size w10 w' → (Below w10.heap.size w10 w' ∧ (∀ p,w'.cell? ⟨w.heap.size,p,none⟩ = (#[.int .u32 (id : Int),.int .i64 m,.int .i64 c,.int .i64 r,.int .i64 l,.int .i64 h] : Array Value).toList[p]?) ∧ w'.cell? ⟨bx,ox + k * 8 + 5,none⟩ = some (.slice (some ⟨bt,ot,none⟩) lS ct) ∧ w'.cell? ⟨bt,ot + i,none⟩ = some (.int .u8 3) ∧ w'.cell? ⟨bb,off + k * 8 + 2,none⟩ = some (.int .i64 (fA g)))):=fun w' bw=>⟨bw,(C10.next bw).cell,by rw [bw.cell (p:=⟨bx,ox + k * 8 + 5,none⟩) LX];exact y5,by rw [bw.cell (p:=⟨bt,ot + i,none⟩) LT];exact y6,by rw [bw.cell (p:=⟨bb,off + k * 8 + 2,none⟩) LB];exact y2⟩
           have HCK:=Lib.hid (fun (w' : World) (bw : Below w10.heap.size w10 w')=>fcheck_any (fun _=>True) (⟨id,m,c,r,l,h⟩ : Cfg) (fs.set k (fPut (fs[k]'hkf) i 3 0 ([] : List UInt8))) j c9 _ HN9.out w' (HR10.out.below bw))
           have HPO : Hid (flB (⟨id,m,c,r,l,h⟩ : Cfg) (fs.set k (fPut (fs[k]'hkf) i 3 0 ([] : List UInt8))) = true):=put_ok HK.out HLFK.out HHM.out HFX.out.symm (blk_told HDL.out)
           have hwi:=HWI.out
           have hwi' : IntKind.i64.wrap (b - fA g) = (i : Int):=by have h9:=HWI.out;rw [IntKind.wrap_i64];unfold wrap64 at h9;exact h9
           have hkj : k < j:=by have:=HN9.out;rw [← this];exact hk10
           have HSD:=HS.out _ (Ext.drew (Below.refl w10.heap.size w10))
           clear x9 hres b10 C9 C10 HR9' HR10 y5 y6 y2 LX LT LB hlS ee b9 HFY HGO HX
           as_aux_lemma=>
           go_upto_region 31 with fail
           refine wp_region_held_drew (S:=fun w'=>Below w10.heap.size w10 w' ∧ (∀ p,w'.cell? ⟨w.heap.size,p,none⟩ = (#[.int .u32 (id : Int),.int .i64 m,.int .i64 c,.int .i64 r,.int .i64 l,.int .i64 h] : Array Value).toList[p]?) ∧ w'.cell? ⟨bx,ox + k * 8 + 5,none⟩ = some (.slice (some ⟨bt,ot,none⟩) lS ct) ∧ w'.cell? ⟨bt,ot + i,none⟩ = some (.int .u8 3) ∧ w'.cell? ⟨bb,off + k * 8 + 2,none⟩ = some (.int .i64 (fA g))) (by kernel_rfl) HSD (fun hS=>?_)
           clear HSD
           refine wpAnyH_take (i:=0) (v:=?_) rfl (by kernel_rfl) (by kernel_rfl) (by kernel_rfl) (fun _ _ _ h=>h) (Or.inl ⟨by rfl,?_⟩) hS ?_
           rotate_left
           · (intro w hSw;(try dsimp only at hSw);go_simp;(try with_reducible rfl))
           rotate_left
           simp only [Act.put,zq0,zq1,zq2,zq3,zq4,zq5]
           refine wpAnyH_take (i:=1) (v:=?_) rfl (by kernel_rfl) (by kernel_rfl) (by kernel_rfl) (fun _ _ _ h=>h) (Or.inl ⟨by rfl,?_⟩) hS ?_
           rotate_left
           · (intro w hSw;(try dsimp only at hSw);go_simp;(try with_reducible rfl))
           rotate_left
           simp only [Act.put,zq0,zq1,zq2,zq3,zq4,zq5]
           refine wpAnyH_take (i:=2) (v:=?_) rfl (by kernel_rfl) (by kernel_rfl) (by kernel_rfl) (fun _ _ _ h=>h) (Or.inl ⟨by rfl,?_⟩) hS ?_
           rotate_left
           · (intro w hSw;(try dsimp only at hSw);go_simp;(try with_reducible rfl))
           rotate_left
           simp only [Act.put,zq0,zq1,zq2,zq3,zq4,zq5]
           refine wpAnyH_take (i:=3) (v:=?_) rfl (by kernel_rfl) (by kernel_rfl) (by kernel_rfl) (fun _ _ _ h=>h) (Or.inl ⟨by rfl,?_⟩) hS ?_
           rotate_left
           · (intro w hSw;(try dsimp only at hSw);go_simp;(try with_reducible rfl))
           rotate_left
           simp only [Act.put,zq0,zq1,zq2,zq3,zq4,zq5]
           refine wpAnyH_take (i:=4) (v:=?_) rfl (by kernel_rfl) (by kernel_rfl) (by kernel_rfl) (fun _ _ _ h=>h) (Or.inl ⟨by rfl,?_⟩) hS ?_
           rotate_left
           · (intro w hSw;(try dsimp only at hSw);go_simp;(try with_reducible rfl))
           rotate_left
           simp only [Act.put,zq0,zq1,zq2,zq3,zq4,zq5]
           refine wpAnyH_take (i:=5) (v:=?_) rfl (by kernel_rfl) (by kernel_rfl) (by kernel_rfl) (fun _ _ _ h=>h) (Or.inl ⟨by rfl,?_⟩) hS ?_
           rotate_left
           · (intro w hSw;(try dsimp only at hSw);go_simp;(try with_reducible rfl))
           rotate_left
           simp only [Act.put,zq0,zq1,zq2,zq3,zq4,zq5]
           refine wpAnyH_take (i:=6) (v:=?_) rfl (by kernel_rfl) (by kernel_rfl) (by kernel_rfl) (fun _ _ _ h=>h) (Or.inl ⟨by rfl,?_⟩) hS ?_
           rotate_left
           · (intro w hSw;(try dsimp only at hSw);go_simp;(try with_reducible rfl))
           rotate_left
           simp only [Act.put,zq0,zq1,zq2,zq3,zq4,zq5]
           refine wpAnyH_take (i:=7) (v:=?_) rfl (by kernel_rfl) (by kernel_rfl) (by kernel_rfl) (fun _ _ _ h=>h) (Or.inl ⟨by rfl,?_⟩) hS ?_
           rotate_left
           · (intro w hSw;(try dsimp only at hSw);go_simp;(try with_reducible rfl))
           rotate_left
           simp only [Act.put,zq0,zq1,zq2,zq3,zq4,zq5]
           refine wpAnyH_take (i:=8) (v:=?_) rfl (by kernel_rfl) (by kernel_rfl) (by kernel_rfl) (fun _ _ _ h=>h) (Or.inl ⟨by rfl,?_⟩) hS ?_
           rotate_left
           · (intro w hSw;(try dsimp only at hSw);go_simp;(try with_reducible rfl))
           rotate_left
           simp only [Act.put,zq0,zq1,zq2,zq3,zq4,zq5]
           refine wpAnyH_take (i:=9) (v:=?_) rfl (by kernel_rfl) (by kernel_rfl) (by kernel_rfl) (fun _ _ _ h=>h) (Or.inl ⟨by rfl,?_⟩) hS ?_
           rotate_left
           · (intro w hSw;(try dsimp only at hSw);go_simp;(try with_reducible rfl))
           rotate_left
           simp only [Act.put,zq0,zq1,zq2,zq3,zq4,zq5]
           refine wpAnyH_take (i:=10) (v:=?_) rfl (by kernel_rfl) (by kernel_rfl) (by kernel_rfl) (fun _ _ _ h=>h) (Or.inl ⟨by rfl,?_⟩) hS ?_
           rotate_left
           · (intro w hSw;(try dsimp only at hSw);go_simp;(try with_reducible rfl))
           rotate_left
           simp only [Act.put,zq0,zq1,zq2,zq3,zq4,zq5]
           refine wpAnyH_take (i:=11) (v:=?_) rfl (by kernel_rfl) (by kernel_rfl) (by kernel_rfl) (fun _ _ _ h=>h) (Or.inl ⟨by rfl,?_⟩) hS ?_
           rotate_left
           · (intro w hSw;(try dsimp only at hSw);go_simp;(try with_reducible rfl))
           rotate_left
           simp only [Act.put,zq0,zq1,zq2,zq3,zq4,zq5]
           refine wpAnyH_ready (rs:=[12]) (by kernel_rfl) (by simp) ?_
           refine AllReadyH.cons rfl (fun K hK=>?_) AllReadyH.nil
           rw [if_pos (by rfl)]
           go_simp
           refine (HCK.out _ hS.1).mono ?_
           rintro e v3 ⟨h1,k3⟩
           have he : e = .returned (.int .i64 0):=by
            rcases h1 with h1 | h1
            · exact h1.2
            · exact absurd HPO.out h1.1
           subst he
           clear h1
           refine hK.out _ _ (HS.out _ (Ext.trans hS.1 k3)) (fun hS'=>?_)
           clear hK K hS k3
           have hS:=hS'
           clear hS'
           try simp only [Act.put,zq0,zq1,zq2,zq3,zq4,zq5]
           refine wpAnyH_take (i:=13) (v:=?_) rfl (by kernel_rfl) (by kernel_rfl) (by kernel_rfl) (fun _ _ _ h=>h) (Or.inl ⟨by rfl,?_⟩) hS ?_
           rotate_left
           · (intro w hSw;(try dsimp only at hSw);go_simp;(try with_reducible rfl))
           rotate_left
           simp only [Act.put,zq0,zq1,zq2,zq3,zq4,zq5]
           refine wpAnyH_take (i:=14) (v:=?_) rfl (by kernel_rfl) (by kernel_rfl) (by kernel_rfl) (fun _ _ _ h=>h) (Or.inl ⟨by rfl,?_⟩) hS ?_
           rotate_left
           · (intro w hSw;(try dsimp only at hSw);go_simp;(try with_reducible rfl))
           rotate_left
           simp only [Act.put,zq0,zq1,zq2,zq3,zq4,zq5]
           refine wpAnyH_take (i:=15) (v:=?_) rfl (by kernel_rfl) (by kernel_rfl) (by kernel_rfl) (fun _ _ _ h=>h) (Or.inl ⟨by rfl,?_⟩) hS ?_
           rotate_left
           · (intro w hSw;(try dsimp only at hSw);go_simp;(try with_reducible rfl))
           rotate_left
           simp only [Act.put,zq0,zq1,zq2,zq3,zq4,zq5]
           refine wpAnyH_take (i:=16) (v:=?_) rfl (by kernel_rfl) (by kernel_rfl) (by kernel_rfl) (fun _ _ _ h=>h) (Or.inl ⟨by rfl,?_⟩) hS ?_
           rotate_left
           · (intro w hSw;(try dsimp only at hSw);go_simp;(try with_reducible rfl))
           rotate_left
           simp only [Act.put,zq0,zq1,zq2,zq3,zq4,zq5]
           refine wpAnyH_take (i:=17) (v:=?_) rfl (by kernel_rfl) (by kernel_rfl) (by kernel_rfl) (fun _ _ _ h=>h) (Or.inl ⟨by rfl,?_⟩) hS ?_
           rotate_left
           · (intro w hSw;(try dsimp only at hSw);go_simp;(try with_reducible rfl))
           rotate_left
           simp only [Act.put,zq0,zq1,zq2,zq3,zq4,zq5]
           refine wpAnyH_take (i:=18) (v:=?_) rfl (by kernel_rfl) (by kernel_rfl) (by kernel_rfl) (fun _ _ _ h=>h) (Or.inl ⟨by rfl,?_⟩) hS ?_
           rotate_left
           · (intro w hSw;(try dsimp only at hSw);go_simp;(try with_reducible rfl))
           rotate_left
           simp only [Act.put,zq0,zq1,zq2,zq3,zq4,zq5]
           refine wpAnyH_take (i:=19) (v:=?_) rfl (by kernel_rfl) (by kernel_rfl) (by kernel_rfl) (fun _ _ _ h=>h) (Or.inl ⟨by rfl,?_⟩) hS ?_
           rotate_left
           · (intro w hSw;(try dsimp only at hSw);go_simp;(try with_reducible rfl))
           rotate_left
           simp only [Act.put,zq0,zq1,zq2,zq3,zq4,zq5]
           refine wpAnyH_take (i:=20) (v:=?_) rfl (by kernel_rfl) (by kernel_rfl) (by kernel_rfl) (fun _ _ _ h=>h) (Or.inl ⟨by rfl,?_⟩) hS ?_
           rotate_left
           · (intro w hSw;(try dsimp only at hSw);go_simp;(try with_reducible rfl))
           rotate_left
           simp only [Act.put,zq0,zq1,zq2,zq3,zq4,zq5]
           refine wpAnyH_take (i:=21) (v:=?_) rfl (by kernel_rfl) (by kernel_rfl) (by kernel_rfl) (fun _ _ _ h=>h) (Or.inl ⟨by rfl,?_⟩) hS ?_
           rotate_left
           · (intro w hSw;(try dsimp only at hSw);go_simp;(try with_reducible rfl))
           rotate_left
           simp only [Act.put,zq0,zq1,zq2,zq3,zq4,zq5]
           refine wpAnyH_take (i:=22) (v:=?_) rfl (by kernel_rfl) (by kernel_rfl) (by kernel_rfl) (fun _ _ _ h=>h) (Or.inl ⟨by rfl,?_⟩) hS ?_
           rotate_left
           · (intro w hSw;(try dsimp only at hSw);go_simp;(try with_reducible rfl))
           rotate_left
           simp only [Act.put,zq0,zq1,zq2,zq3,zq4,zq5]
           refine wpAnyH_take (i:=23) (v:=?_) rfl (by kernel_rfl) (by kernel_rfl) (by kernel_rfl) (fun _ _ _ h=>h) (Or.inl ⟨by rfl,?_⟩) hS ?_
           rotate_left
           · (intro w hSw;(try dsimp only at hSw);go_simp;(try with_reducible rfl))
           rotate_left
           simp only [Act.put,zq0,zq1,zq2,zq3,zq4,zq5]
           refine wpAnyH_take (i:=24) (v:=?_) rfl (by kernel_rfl) (by kernel_rfl) (by kernel_rfl) (fun _ _ _ h=>h) (Or.inl ⟨by rfl,?_⟩) hS ?_
           rotate_left
           · (intro w hSw;(try dsimp only at hSw);go_simp;(try with_reducible rfl))
           rotate_left
           simp only [Act.put,zq0,zq1,zq2,zq3,zq4,zq5]
           refine wpAnyH_take (i:=25) (v:=?_) rfl (by kernel_rfl) (by kernel_rfl) (by kernel_rfl) (fun _ _ _ h=>h) (Or.inl ⟨by rfl,?_⟩) hS ?_
           rotate_left
           · (intro w hSw;(try dsimp only at hSw);go_simp;(try with_reducible rfl))
           rotate_left
           simp only [Act.put,zq0,zq1,zq2,zq3,zq4,zq5]
           refine wpAnyH_take (i:=26) (v:=?_) rfl (by kernel_rfl) (by kernel_rfl) (by kernel_rfl) (fun _ _ _ h=>h) (Or.inl ⟨by rfl,?_⟩) hS ?_
           rotate_left
           · (intro w hSw;(try dsimp only at hSw);go_simp;(try with_reducible rfl))
           rotate_left
           simp only [Act.put,zq0,zq1,zq2,zq3,zq4,zq5]
           refine wpAnyH_take (i:=27) (v:=?_) rfl (by kernel_rfl) (by kernel_rfl) (by kernel_rfl) (fun _ _ _ h=>h) (Or.inl ⟨by rfl,?_⟩) hS ?_
           rotate_left
           · (intro w hSw;(try dsimp only at hSw);go_simp;(try with_reducible rfl))
           rotate_left
           simp only [Act.put,zq0,zq1,zq2,zq3,zq4,zq5]
           refine wpAnyH_take (i:=28) (v:=?_) rfl (by kernel_rfl) (by kernel_rfl) (by kernel_rfl) (fun _ _ _ h=>h) (Or.inl ⟨by rfl,?_⟩) hS ?_
           rotate_left
           · (intro w hSw;(try dsimp only at hSw);go_simp;(try with_reducible rfl))
           rotate_left
           simp only [Act.put,zq0,zq1,zq2,zq3,zq4,zq5]
           refine wpAnyH_take (i:=29) (v:=?_) rfl (by kernel_rfl) (by kernel_rfl) (by kernel_rfl) (fun _ _ _ h=>h) (Or.inl ⟨by rfl,?_⟩) hS ?_
           rotate_left
           · (intro w hSw;(try dsimp only at hSw);go_simp;(try with_reducible rfl))
           rotate_left
           simp only [Act.put,zq0,zq1,zq2,zq3,zq4,zq5]
           refine wpAnyH_take (i:=30) (v:=?_) rfl (by kernel_rfl) (by kernel_rfl) (by kernel_rfl) (fun _ _ _ h=>h) (Or.inl ⟨by rfl,?_⟩) hS ?_
           rotate_left
           · (intro w hSw;(try dsimp only at hSw);go_simp;(try with_reducible rfl))
           rotate_left
           simp only [Act.put,zq0,zq1,zq2,zq3,zq4,zq5]
           refine wpAnyH_take (i:=31) (v:=?_) rfl (by kernel_rfl) (by kernel_rfl) (by kernel_rfl) (fun _ _ _ h=>h) (Or.inl ⟨by rfl,?_⟩) hS ?_
           rotate_left
           · (intro w hSw;(try dsimp only at hSw);go_simp;(try with_reducible rfl))
           rotate_left
           simp only [Act.put,zq0,zq1,zq2,zq3,zq4,zq5]
           refine wpAnyH_take (i:=32) (v:=?_) rfl (by kernel_rfl) (by kernel_rfl) (by kernel_rfl) (fun _ _ _ h=>h) (Or.inl ⟨by rfl,?_⟩) hS ?_
           rotate_left
           · (intro w hSw;(try dsimp only at hSw);go_simp;(try with_reducible rfl))
           rotate_left
           simp only [Act.put,zq0,zq1,zq2,zq3,zq4,zq5]
           refine wpAnyH_take (i:=33) (v:=?_) rfl (by kernel_rfl) (by kernel_rfl) (by kernel_rfl) (fun _ _ _ h=>h) (Or.inl ⟨by rfl,?_⟩) hS ?_
           rotate_left
           · (intro w hSw;(try dsimp only at hSw);go_simp;(try with_reducible rfl))
           rotate_left
           simp only [Act.put,zq0,zq1,zq2,zq3,zq4,zq5]
           refine wpAnyH_done (by kernel_rfl) ?_ _
           have t11:=Ext.trans t10 hS.1
           clear hS HS HCK HPO
           go_wp2
           go_ret
           exact ⟨rfl,t11⟩
    · have hmv:=may_out HK.out hkf hkn ho
      rw [HMV.out] at hmv
      injection hmv with h1 h2
      subst h1 h2
      clear HA HX HGO q0 q1 q4 q5 q6 q7 hi r2 hfit HFIT
      generalize fs[k] = g at *
      by_cases ho1 : b < fA g
      · clear ho
        as_aux_lemma=>
        go_upto_region 11 with fail
        have LB:=cell_lt q2
        have HS : Hid (∀ w',Below wr.heap.size wr w' → (Below wr.heap.size wr w' ∧ w'.cell? ⟨bb,off + k * 8 + 2,none⟩ = some (.int .i64 (fA g)) ∧ w'.cell? ⟨bb,off + k * 8 + 3,none⟩ = some (.int .i64 (fM g)))):=fun w' bw=>⟨bw,by rw [bw.cell (p:=⟨bb,off + k * 8 + 2,none⟩) LB];exact q2,by rw [bw.cell (p:=⟨bb,off + k * 8 + 3,none⟩) LB];exact q3⟩
        have HSD:=HS.out _ (Ext.drew (Below.refl wr.heap.size wr))
        clear q2 q3 LB
        refine wp_region_held_drew (S:=fun w'=>Below wr.heap.size wr w' ∧ w'.cell? ⟨bb,off + k * 8 + 2,none⟩ = some (.int .i64 (fA g)) ∧ w'.cell? ⟨bb,off + k * 8 + 3,none⟩ = some (.int .i64 (fM g))) (by kernel_rfl) HSD (fun hS=>?_)
        clear HSD
        refine wpAnyH_take (i:=0) (v:=?_) rfl (by kernel_rfl) (by kernel_rfl) (by kernel_rfl) (fun _ _ _ h=>h) (Or.inl ⟨by rfl,?_⟩) hS ?_
        rotate_left
        · (intro w hSw;(try dsimp only at hSw);go_simp;(try with_reducible rfl))
        rotate_left
        simp only [Act.put,zq0,zq1,zq2,zq3,zq4,zq5]
        refine wpAnyH_take (i:=1) (v:=?_) rfl (by kernel_rfl) (by kernel_rfl) (by kernel_rfl) (fun _ _ _ h=>h) (Or.inl ⟨by rfl,?_⟩) hS ?_
        rotate_left
        · (intro w hSw;(try dsimp only at hSw);go_simp;(try with_reducible rfl))
        rotate_left
        simp only [Act.put,zq0,zq1,zq2,zq3,zq4,zq5]
        refine wpAnyH_take (i:=2) (v:=?_) rfl (by kernel_rfl) (by kernel_rfl) (by kernel_rfl) (fun _ _ _ h=>h) (Or.inl ⟨by rfl,?_⟩) hS ?_
        rotate_left
        · (intro w hSw;(try dsimp only at hSw);go_simp;(try with_reducible rfl))
        rotate_left
        simp only [Act.put,zq0,zq1,zq2,zq3,zq4,zq5]
        refine wpAnyH_take (i:=3) (v:=?_) rfl (by kernel_rfl) (by kernel_rfl) (by kernel_rfl) (fun _ _ _ h=>h) (Or.inl ⟨by rfl,?_⟩) hS ?_
        rotate_left
        · (intro w hSw;(try dsimp only at hSw);go_simp;(try with_reducible rfl))
        rotate_left
        simp only [Act.put,zq0,zq1,zq2,zq3,zq4,zq5]
        refine wpAnyH_take (i:=4) (v:=?_) rfl (by kernel_rfl) (by kernel_rfl) (by kernel_rfl) (fun _ _ _ h=>h) (Or.inl ⟨by rfl,?_⟩) hS ?_
        rotate_left
        · (intro w hSw;(try dsimp only at hSw);go_simp;(try with_reducible rfl))
        rotate_left
        simp only [Act.put,zq0,zq1,zq2,zq3,zq4,zq5]
        refine wpAnyH_take (i:=5) (v:=?_) rfl (by kernel_rfl) (by kernel_rfl) (by kernel_rfl) (fun _ _ _ h=>h) (Or.inl ⟨by rfl,?_⟩) hS ?_
        rotate_left
        · (intro w hSw;(try dsimp only at hSw);go_simp;(try with_reducible rfl))
        rotate_left
        simp only [Act.put,zq0,zq1,zq2,zq3,zq4,zq5]
        refine wpAnyH_take (i:=6) (v:=?_) rfl (by kernel_rfl) (by kernel_rfl) (by kernel_rfl) (fun _ _ _ h=>h) (Or.inl ⟨by rfl,?_⟩) hS ?_
        rotate_left
        · (intro w hSw;(try dsimp only at hSw);go_simp;(try with_reducible rfl))
        rotate_left
        simp only [Act.put,zq0,zq1,zq2,zq3,zq4,zq5]
        refine wpAnyH_take (i:=7) (v:=?_) rfl (by kernel_rfl) (by kernel_rfl) (by kernel_rfl) (fun _ _ _ h=>h) (Or.inl ⟨by rfl,?_⟩) hS ?_
        rotate_left
        · (intro w hSw;(try dsimp only at hSw);go_simp;(try with_reducible rfl))
        rotate_left
        simp only [Act.put,zq0,zq1,zq2,zq3,zq4,zq5]
        refine wpAnyH_take (i:=8) (v:=?_) rfl (by kernel_rfl) (by kernel_rfl) (by kernel_rfl) (fun _ _ _ h=>h) (Or.inl ⟨by rfl,?_⟩) hS ?_
        rotate_left
        · (intro w hSw;(try dsimp only at hSw);go_simp;(try with_reducible rfl))
        rotate_left
        simp only [Act.put,zq0,zq1,zq2,zq3,zq4,zq5]
        refine wpAnyH_take (i:=9) (v:=?_) rfl (by kernel_rfl) (by kernel_rfl) (by kernel_rfl) (fun _ _ _ h=>h) (Or.inl ⟨by rfl,?_⟩) hS ?_
        rotate_left
        · (intro w hSw;(try dsimp only at hSw);go_simp;(try with_reducible rfl))
        rotate_left
        simp only [Act.put,zq0,zq1,zq2,zq3,zq4,zq5]
        refine wpAnyH_take (i:=10) (v:=?_) rfl (by kernel_rfl) (by kernel_rfl) (by kernel_rfl) (fun _ _ _ h=>h) (Or.inl ⟨by rfl,?_⟩) hS ?_
        rotate_left
        · (intro w hSw;(try dsimp only at hSw);go_simp;(try with_reducible rfl))
        rotate_left
        simp only [Act.put,zq0,zq1,zq2,zq3,zq4,zq5]
        refine wpAnyH_take (i:=11) (v:=?_) rfl (by kernel_rfl) (by kernel_rfl) (by kernel_rfl) (fun _ _ _ h=>h) (Or.inl ⟨by rfl,?_⟩) hS ?_
        rotate_left
        · (intro w hSw;(try dsimp only at hSw);go_simp;(try with_reducible rfl))
        rotate_left
        simp only [Act.put,zq0,zq1,zq2,zq3,zq4,zq5]
        refine wpAnyH_take (i:=12) (v:=?_) rfl (by kernel_rfl) (by kernel_rfl) (by kernel_rfl) (fun _ _ _ h=>h) (Or.inl ⟨by rfl,?_⟩) hS ?_
        rotate_left
        · (intro w hSw;(try dsimp only at hSw);go_simp;(try with_reducible rfl))
        rotate_left
        simp only [Act.put,zq0,zq1,zq2,zq3,zq4,zq5]
        refine wpAnyH_take (i:=13) (v:=?_) rfl (by kernel_rfl) (by kernel_rfl) (by kernel_rfl) (fun _ _ _ h=>h) (Or.inr ⟨by rfl,?_⟩) hS ?_
        rotate_left
        · rfl
        rotate_left
        simp only [Act.put,zq0,zq1,zq2,zq3,zq4,zq5]
        refine wpAnyH_take (i:=14) (v:=?_) rfl (by kernel_rfl) (by kernel_rfl) (by kernel_rfl) (fun _ _ _ h=>h) (Or.inr ⟨by rfl,?_⟩) hS ?_
        rotate_left
        · rfl
        rotate_left
        simp only [Act.put,zq0,zq1,zq2,zq3,zq4,zq5]
        refine wpAnyH_take (i:=15) (v:=?_) rfl (by kernel_rfl) (by kernel_rfl) (by kernel_rfl) (fun _ _ _ h=>h) (Or.inr ⟨by rfl,?_⟩) hS ?_
        rotate_left
        · rfl
        rotate_left
        simp only [Act.put,zq0,zq1,zq2,zq3,zq4,zq5]
        refine wpAnyH_take (i:=16) (v:=?_) rfl (by kernel_rfl) (by kernel_rfl) (by kernel_rfl) (fun _ _ _ h=>h) (Or.inr ⟨by rfl,?_⟩) hS ?_
        rotate_left
        · rfl
        rotate_left
        simp only [Act.put,zq0,zq1,zq2,zq3,zq4,zq5]
        refine wpAnyH_take (i:=17) (v:=?_) rfl (by kernel_rfl) (by kernel_rfl) (by kernel_rfl) (fun _ _ _ h=>h) (Or.inr ⟨by rfl,?_⟩) hS ?_
        rotate_left
        · rfl
        rotate_left
        simp only [Act.put,zq0,zq1,zq2,zq3,zq4,zq5]
        refine wpAnyH_take (i:=18) (v:=?_) rfl (by kernel_rfl) (by kernel_rfl) (by kernel_rfl) (fun _ _ _ h=>h) (Or.inr ⟨by rfl,?_⟩) hS ?_
        rotate_left
        · rfl
        rotate_left
        simp only [Act.put,zq0,zq1,zq2,zq3,zq4,zq5]
        refine wpAnyH_take (i:=19) (v:=?_) rfl (by kernel_rfl) (by kernel_rfl) (by kernel_rfl) (fun _ _ _ h=>h) (Or.inr ⟨by rfl,?_⟩) hS ?_
        rotate_left
        · rfl
        rotate_left
        simp only [Act.put,zq0,zq1,zq2,zq3,zq4,zq5]
        refine wpAnyH_take (i:=20) (v:=?_) rfl (by kernel_rfl) (by kernel_rfl) (by kernel_rfl) (fun _ _ _ h=>h) (Or.inr ⟨by rfl,?_⟩) hS ?_
        rotate_left
        · rfl
        rotate_left
        simp only [Act.put,zq0,zq1,zq2,zq3,zq4,zq5]
        refine wpAnyH_take (i:=21) (v:=?_) rfl (by kernel_rfl) (by kernel_rfl) (by kernel_rfl) (fun _ _ _ h=>h) (Or.inr ⟨by rfl,?_⟩) hS ?_
        rotate_left
        · rfl
        rotate_left
        simp only [Act.put,zq0,zq1,zq2,zq3,zq4,zq5]
        refine wpAnyH_take (i:=22) (v:=?_) rfl (by kernel_rfl) (by kernel_rfl) (by kernel_rfl) (fun _ _ _ h=>h) (Or.inr ⟨by rfl,?_⟩) hS ?_
        rotate_left
        · rfl
        rotate_left
        simp only [Act.put,zq0,zq1,zq2,zq3,zq4,zq5]
        refine wpAnyH_take (i:=23) (v:=?_) rfl (by kernel_rfl) (by kernel_rfl) (by kernel_rfl) (fun _ _ _ h=>h) (Or.inr ⟨by rfl,?_⟩) hS ?_
        rotate_left
        · rfl
        rotate_left
        simp only [Act.put,zq0,zq1,zq2,zq3,zq4,zq5]
        refine wpAnyH_take (i:=24) (v:=?_) rfl (by kernel_rfl) (by kernel_rfl) (by kernel_rfl) (fun _ _ _ h=>h) (Or.inr ⟨by rfl,?_⟩) hS ?_
        rotate_left
        · rfl
        rotate_left
        simp only [Act.put,zq0,zq1,zq2,zq3,zq4,zq5]
        refine wpAnyH_take (i:=25) (v:=?_) rfl (by kernel_rfl) (by kernel_rfl) (by kernel_rfl) (fun _ _ _ h=>h) (Or.inr ⟨by rfl,?_⟩) hS ?_
        rotate_left
        · rfl
        rotate_left
        simp only [Act.put,zq0,zq1,zq2,zq3,zq4,zq5]
        refine wpAnyH_take (i:=26) (v:=?_) rfl (by kernel_rfl) (by kernel_rfl) (by kernel_rfl) (fun _ _ _ h=>h) (Or.inr ⟨by rfl,?_⟩) hS ?_
        rotate_left
        · rfl
        rotate_left
        simp only [Act.put,zq0,zq1,zq2,zq3,zq4,zq5]
        refine wpAnyH_take (i:=27) (v:=?_) rfl (by kernel_rfl) (by kernel_rfl) (by kernel_rfl) (fun _ _ _ h=>h) (Or.inr ⟨by rfl,?_⟩) hS ?_
        rotate_left
        · rfl
        rotate_left
        simp only [Act.put,zq0,zq1,zq2,zq3,zq4,zq5]
        refine wpAnyH_take (i:=28) (v:=?_) rfl (by kernel_rfl) (by kernel_rfl) (by kernel_rfl) (fun _ _ _ h=>h) (Or.inl ⟨by rfl,?_⟩) hS ?_
        rotate_left
        · (intro w hSw;(try dsimp only at hSw);go_simp;(try with_reducible rfl))
        rotate_left
        simp only [Act.put,zq0,zq1,zq2,zq3,zq4,zq5]
        refine wpAnyH_done (by kernel_rfl) ?_ _
        have t6:=Ext.trans t5 hS.1
        clear hS HS
        go_wp2
        go_ret
        exact ⟨rfl,t6⟩
      · have ho2 : fA g + fM g ≤ b:=by omega
        clear ho
        as_aux_lemma=>
        go_upto_region 11 with fail
        have LB:=cell_lt q2
        have HS : Hid (∀ w',Below wr.heap.size wr w' → (Below wr.heap.size wr w' ∧ w'.cell? ⟨bb,off + k * 8 + 2,none⟩ = some (.int .i64 (fA g)) ∧ w'.cell? ⟨bb,off + k * 8 + 3,none⟩ = some (.int .i64 (fM g)))):=fun w' bw=>⟨bw,by rw [bw.cell (p:=⟨bb,off + k * 8 + 2,none⟩) LB];exact q2,by rw [bw.cell (p:=⟨bb,off + k * 8 + 3,none⟩) LB];exact q3⟩
        have HSD:=HS.out _ (Ext.drew (Below.refl wr.heap.size wr))
        clear q2 q3 LB
        refine wp_region_held_drew (S:=fun w'=>Below wr.heap.size wr w' ∧ w'.cell? ⟨bb,off + k * 8 + 2,none⟩ = some (.int .i64 (fA g)) ∧ w'.cell? ⟨bb,off + k * 8 + 3,none⟩ = some (.int .i64 (fM g))) (by kernel_rfl) HSD (fun hS=>?_)
        clear HSD
        refine wpAnyH_take (i:=0) (v:=?_) rfl (by kernel_rfl) (by kernel_rfl) (by kernel_rfl) (fun _ _ _ h=>h) (Or.inl ⟨by rfl,?_⟩) hS ?_
        rotate_left
        · (intro w hSw;(try dsimp only at hSw);go_simp;(try with_reducible rfl))
        rotate_left
        simp only [Act.put,zq0,zq1,zq2,zq3,zq4,zq5]
        refine wpAnyH_take (i:=1) (v:=?_) rfl (by kernel_rfl) (by kernel_rfl) (by kernel_rfl) (fun _ _ _ h=>h) (Or.inl ⟨by rfl,?_⟩) hS ?_
        rotate_left
        · (intro w hSw;(try dsimp only at hSw);go_simp;(try with_reducible rfl))
        rotate_left
        simp only [Act.put,zq0,zq1,zq2,zq3,zq4,zq5]
        refine wpAnyH_take (i:=2) (v:=?_) rfl (by kernel_rfl) (by kernel_rfl) (by kernel_rfl) (fun _ _ _ h=>h) (Or.inl ⟨by rfl,?_⟩) hS ?_
        rotate_left
        · (intro w hSw;(try dsimp only at hSw);go_simp;(try with_reducible rfl))
        rotate_left
        simp only [Act.put,zq0,zq1,zq2,zq3,zq4,zq5]
        refine wpAnyH_take (i:=3) (v:=?_) rfl (by kernel_rfl) (by kernel_rfl) (by kernel_rfl) (fun _ _ _ h=>h) (Or.inl ⟨by rfl,?_⟩) hS ?_
        rotate_left
        · (intro w hSw;(try dsimp only at hSw);go_simp;(try with_reducible rfl))
        rotate_left
        simp only [Act.put,zq0,zq1,zq2,zq3,zq4,zq5]
        refine wpAnyH_take (i:=4) (v:=?_) rfl (by kernel_rfl) (by kernel_rfl) (by kernel_rfl) (fun _ _ _ h=>h) (Or.inl ⟨by rfl,?_⟩) hS ?_
        rotate_left
        · (intro w hSw;(try dsimp only at hSw);go_simp;(try with_reducible rfl))
        rotate_left
        simp only [Act.put,zq0,zq1,zq2,zq3,zq4,zq5]
        refine wpAnyH_take (i:=5) (v:=?_) rfl (by kernel_rfl) (by kernel_rfl) (by kernel_rfl) (fun _ _ _ h=>h) (Or.inl ⟨by rfl,?_⟩) hS ?_
        rotate_left
        · (intro w hSw;(try dsimp only at hSw);go_simp;(try with_reducible rfl))
        rotate_left
        simp only [Act.put,zq0,zq1,zq2,zq3,zq4,zq5]
        refine wpAnyH_take (i:=6) (v:=?_) rfl (by kernel_rfl) (by kernel_rfl) (by kernel_rfl) (fun _ _ _ h=>h) (Or.inl ⟨by rfl,?_⟩) hS ?_
        rotate_left
        · (intro w hSw;(try dsimp only at hSw);go_simp;(try with_reducible rfl))
        rotate_left
        simp only [Act.put,zq0,zq1,zq2,zq3,zq4,zq5]
        refine wpAnyH_take (i:=7) (v:=?_) rfl (by kernel_rfl) (by kernel_rfl) (by kernel_rfl) (fun _ _ _ h=>h) (Or.inl ⟨by rfl,?_⟩) hS ?_
        rotate_left
        · (intro w hSw;(try dsimp only at hSw);go_simp;(try with_reducible rfl))
        rotate_left
        simp only [Act.put,zq0,zq1,zq2,zq3,zq4,zq5]
        refine wpAnyH_take (i:=8) (v:=?_) rfl (by kernel_rfl) (by kernel_rfl) (by kernel_rfl) (fun _ _ _ h=>h) (Or.inl ⟨by rfl,?_⟩) hS ?_
        rotate_left
        · (intro w hSw;(try dsimp only at hSw);go_simp;(try with_reducible rfl))
        rotate_left
        simp only [Act.put,zq0,zq1,zq2,zq3,zq4,zq5]
        refine wpAnyH_take (i:=9) (v:=?_) rfl (by kernel_rfl) (by kernel_rfl) (by kernel_rfl) (fun _ _ _ h=>h) (Or.inl ⟨by rfl,?_⟩) hS ?_
        rotate_left
        · (intro w hSw;(try dsimp only at hSw);go_simp;(try with_reducible rfl))
        rotate_left
        simp only [Act.put,zq0,zq1,zq2,zq3,zq4,zq5]
        refine wpAnyH_take (i:=10) (v:=?_) rfl (by kernel_rfl) (by kernel_rfl) (by kernel_rfl) (fun _ _ _ h=>h) (Or.inl ⟨by rfl,?_⟩) hS ?_
        rotate_left
        · (intro w hSw;(try dsimp only at hSw);go_simp;(try with_reducible rfl))
        rotate_left
        simp only [Act.put,zq0,zq1,zq2,zq3,zq4,zq5]
        refine wpAnyH_take (i:=11) (v:=?_) rfl (by kernel_rfl) (by kernel_rfl) (by kernel_rfl) (fun _ _ _ h=>h) (Or.inl ⟨by rfl,?_⟩) hS ?_
        rotate_left
        · (intro w hSw;(try dsimp only at hSw);go_simp;(try with_reducible rfl))
        rotate_left
        simp only [Act.put,zq0,zq1,zq2,zq3,zq4,zq5]
        refine wpAnyH_take (i:=12) (v:=?_) rfl (by kernel_rfl) (by kernel_rfl) (by kernel_rfl) (fun _ _ _ h=>h) (Or.inl ⟨by rfl,?_⟩) hS ?_
        rotate_left
        · (intro w hSw;(try dsimp only at hSw);go_simp;(try with_reducible rfl))
        rotate_left
        simp only [Act.put,zq0,zq1,zq2,zq3,zq4,zq5]
        refine wpAnyH_take (i:=13) (v:=?_) rfl (by kernel_rfl) (by kernel_rfl) (by kernel_rfl) (fun _ _ _ h=>h) (Or.inl ⟨by rfl,?_⟩) hS ?_
        rotate_left
        · (intro w hSw;(try dsimp only at hSw);go_simp;(try with_reducible rfl))
        rotate_left
        simp only [Act.put,zq0,zq1,zq2,zq3,zq4,zq5]
        refine wpAnyH_take (i:=14) (v:=?_) rfl (by kernel_rfl) (by kernel_rfl) (by kernel_rfl) (fun _ _ _ h=>h) (Or.inl ⟨by rfl,?_⟩) hS ?_
        rotate_left
        · (intro w hSw;(try dsimp only at hSw);go_simp;(try with_reducible rfl))
        rotate_left
        simp only [Act.put,zq0,zq1,zq2,zq3,zq4,zq5]
        refine wpAnyH_take (i:=15) (v:=?_) rfl (by kernel_rfl) (by kernel_rfl) (by kernel_rfl) (fun _ _ _ h=>h) (Or.inl ⟨by rfl,?_⟩) hS ?_
        rotate_left
        · (intro w hSw;(try dsimp only at hSw);go_simp;(try with_reducible rfl))
        rotate_left
        simp only [Act.put,zq0,zq1,zq2,zq3,zq4,zq5]
        refine wpAnyH_take (i:=16) (v:=?_) rfl (by kernel_rfl) (by kernel_rfl) (by kernel_rfl) (fun _ _ _ h=>h) (Or.inl ⟨by rfl,?_⟩) hS ?_
        rotate_left
        · (intro w hSw;(try dsimp only at hSw);go_simp;(try with_reducible rfl))
        rotate_left
        simp only [Act.put,zq0,zq1,zq2,zq3,zq4,zq5]
        refine wpAnyH_take (i:=17) (v:=?_) rfl (by kernel_rfl) (by kernel_rfl) (by kernel_rfl) (fun _ _ _ h=>h) (Or.inl ⟨by rfl,?_⟩) hS ?_
        rotate_left
        · (intro w hSw;(try dsimp only at hSw);go_simp;(try with_reducible rfl))
        rotate_left
        simp only [Act.put,zq0,zq1,zq2,zq3,zq4,zq5]
        refine wpAnyH_take (i:=18) (v:=?_) rfl (by kernel_rfl) (by kernel_rfl) (by kernel_rfl) (fun _ _ _ h=>h) (Or.inl ⟨by rfl,?_⟩) hS ?_
        rotate_left
        · (intro w hSw;(try dsimp only at hSw);go_simp;(try with_reducible rfl))
        rotate_left
        simp only [Act.put,zq0,zq1,zq2,zq3,zq4,zq5]
        refine wpAnyH_take (i:=19) (v:=?_) rfl (by kernel_rfl) (by kernel_rfl) (by kernel_rfl) (fun _ _ _ h=>h) (Or.inl ⟨by rfl,?_⟩) hS ?_
        rotate_left
        · (intro w hSw;(try dsimp only at hSw);go_simp;(try with_reducible rfl))
        rotate_left
        simp only [Act.put,zq0,zq1,zq2,zq3,zq4,zq5]
        refine wpAnyH_take (i:=20) (v:=?_) rfl (by kernel_rfl) (by kernel_rfl) (by kernel_rfl) (fun _ _ _ h=>h) (Or.inl ⟨by rfl,?_⟩) hS ?_
        rotate_left
        · (intro w hSw;(try dsimp only at hSw);go_simp;(try with_reducible rfl))
        rotate_left
        simp only [Act.put,zq0,zq1,zq2,zq3,zq4,zq5]
        refine wpAnyH_take (i:=21) (v:=?_) rfl (by kernel_rfl) (by kernel_rfl) (by kernel_rfl) (fun _ _ _ h=>h) (Or.inl ⟨by rfl,?_⟩) hS ?_
        rotate_left
        · (intro w hSw;(try dsimp only at hSw);go_simp;(try with_reducible rfl))
        rotate_left
        simp only [Act.put,zq0,zq1,zq2,zq3,zq4,zq5]
        refine wpAnyH_take (i:=22) (v:=?_) rfl (by kernel_rfl) (by kernel_rfl) (by kernel_rfl) (fun _ _ _ h=>h) (Or.inl ⟨by rfl,?_⟩) hS ?_
        rotate_left
        · (intro w hSw;(try dsimp only at hSw);go_simp;(try with_reducible rfl))
        rotate_left
        simp only [Act.put,zq0,zq1,zq2,zq3,zq4,zq5]
        refine wpAnyH_take (i:=23) (v:=?_) rfl (by kernel_rfl) (by kernel_rfl) (by kernel_rfl) (fun _ _ _ h=>h) (Or.inl ⟨by rfl,?_⟩) hS ?_
        rotate_left
        · (intro w hSw;(try dsimp only at hSw);go_simp;(try with_reducible rfl))
        rotate_left
        simp only [Act.put,zq0,zq1,zq2,zq3,zq4,zq5]
        refine wpAnyH_take (i:=24) (v:=?_) rfl (by kernel_rfl) (by kernel_rfl) (by kernel_rfl) (fun _ _ _ h=>h) (Or.inl ⟨by rfl,?_⟩) hS ?_
        rotate_left
        · (intro w hSw;(try dsimp only at hSw);go_simp;(try with_reducible rfl))
        rotate_left
        simp only [Act.put,zq0,zq1,zq2,zq3,zq4,zq5]
        refine wpAnyH_take (i:=25) (v:=?_) rfl (by kernel_rfl) (by kernel_rfl) (by kernel_rfl) (fun _ _ _ h=>h) (Or.inl ⟨by rfl,?_⟩) hS ?_
        rotate_left
        · (intro w hSw;(try dsimp only at hSw);go_simp;(try with_reducible rfl))
        rotate_left
        simp only [Act.put,zq0,zq1,zq2,zq3,zq4,zq5]
        refine wpAnyH_take (i:=26) (v:=?_) rfl (by kernel_rfl) (by kernel_rfl) (by kernel_rfl) (fun _ _ _ h=>h) (Or.inl ⟨by rfl,?_⟩) hS ?_
        rotate_left
        · (intro w hSw;(try dsimp only at hSw);go_simp;(try with_reducible rfl))
        rotate_left
        simp only [Act.put,zq0,zq1,zq2,zq3,zq4,zq5]
        refine wpAnyH_take (i:=27) (v:=?_) rfl (by kernel_rfl) (by kernel_rfl) (by kernel_rfl) (fun _ _ _ h=>h) (Or.inl ⟨by rfl,?_⟩) hS ?_
        rotate_left
        · (intro w hSw;(try dsimp only at hSw);go_simp;(try with_reducible rfl))
        rotate_left
        simp only [Act.put,zq0,zq1,zq2,zq3,zq4,zq5]
        refine wpAnyH_take (i:=28) (v:=?_) rfl (by kernel_rfl) (by kernel_rfl) (by kernel_rfl) (fun _ _ _ h=>h) (Or.inl ⟨by rfl,?_⟩) hS ?_
        rotate_left
        · (intro w hSw;(try dsimp only at hSw);go_simp;(try with_reducible rfl))
        rotate_left
        simp only [Act.put,zq0,zq1,zq2,zq3,zq4,zq5]
        refine wpAnyH_done (by kernel_rfl) ?_ _
        have t6:=Ext.trans t5 hS.1
        clear hS HS
        go_wp2
        go_ret
        exact ⟨rfl,t6⟩
end Go.Proofs.Ythapabjlhooglaa
namespace Go.Proofs.Ythapabjlhooglaa
open Go Go.RowKit
set_option linter.unusedSimpArgs false
set_option linter.unusedVariables false
theorem cfg_deep {w : World} {S : Nat → Prop} {cs : List Value} {x : (Ty.st (.prod .u32 (.prod .int (.prod .int (.prod .int (.prod .int (.prod .int .unit))))))).T} (h : RdIn w S (Ty.st (.prod .u32 (.prod .int (.prod .int (.prod .int (.prod .int (.prod .int .unit))))))) x cs) : ∃ y : Cfg,Value.agg cs.toArray = y.val:=by
 obtain ⟨id,m,c,r,l,h',u⟩:=x
 obtain ⟨c0,d0,rfl,r0,h⟩:=rdin_prod.1 (rdin_st.1 h)
 obtain ⟨c1,d1,rfl,r1,h⟩:=rdin_prod.1 h
 obtain ⟨c2,d2,rfl,r2,h⟩:=rdin_prod.1 h
 obtain ⟨c3,d3,rfl,r3,h⟩:=rdin_prod.1 h
 obtain ⟨c4,d4,rfl,r4,h⟩:=rdin_prod.1 h
 obtain ⟨c5,d5,rfl,r5,h⟩:=rdin_prod.1 h
 obtain rfl:=rdin_unit.1 h
 obtain ⟨rfl,_⟩:=rdin_u32.1 r0
 obtain ⟨rfl,_⟩:=rdin_int.1 r1
 obtain ⟨rfl,_⟩:=rdin_int.1 r2
 obtain ⟨rfl,_⟩:=rdin_int.1 r3
 obtain ⟨rfl,_⟩:=rdin_int.1 r4
 obtain ⟨rfl,_⟩:=rdin_int.1 r5
 exact ⟨⟨id,m,c,r,l,h'⟩,rfl⟩
set_option maxRecDepth 100000 in
set_option maxHeartbeats 4000000 in
theorem int_deep {w : World} {S : Nat → Prop} {v : Value} {x : Ty.int.T} (h : RdIn w S .int x [v]) : ∃ n : Int,v = .int .i64 n ∧ IsInt n:=by
 obtain ⟨e,hi⟩:=rdin_int.1 h
 exact ⟨x,(List.cons.inj e).1,hi⟩
theorem sl_deep {w : World} {S : Nat → Prop} {e : Ty} {xs : List e.T} {v : Value} (h : RdIn w S (.sl e) xs [v]) : ∃ A c,v = .slice A xs.length c:=by
 obtain ⟨A,c,e,_⟩:=rdin_sl.1 h
 exact ⟨A,c,(List.cons.inj e).1⟩
theorem flightmay_walk (w : World) (c0 : List Value) (x0 : (Ty.st (.prod .u32 (.prod .int (.prod .int (.prod .int (.prod .int (.prod .int .unit))))))).T) (h0 : RdIn w (fun b=>b < w.heap.size) (Ty.st (.prod .u32 (.prod .int (.prod .int (.prod .int (.prod .int (.prod .int .unit))))))) x0 c0) (v1 : Value) (x1 : (Ty.sl FlTy).T) (h1 : RdIn w (fun b=>b < w.heap.size) (.sl FlTy) x1 [v1]) (v2 : Value) (x2 : Ty.int.T) (h2 : RdIn w (fun b=>b < w.heap.size) .int x2 [v2]) (v3 : Value) (x3 : Ty.int.T) (h3 : RdIn w (fun b=>b < w.heap.size) .int x3 [v3]) :
 Calls Try.prog 5 #[.agg c0.toArray,v1,v2,v3] w fun e w'=>e = .returned (.bool true) ∧ Below w.heap.size w w':=by
 obtain ⟨x,hx⟩:=cfg_deep h0
 rw [hx]
 obtain ⟨A,ca,rfl⟩:=sl_deep h1
 obtain ⟨n,rfl,hn⟩:=int_deep h2
 obtain ⟨b,rfl,hb⟩:=int_deep h3
 exact maylaw_core _ x x1 _ ca A rfl n b hn hb w h1
end Go.Proofs.Ythapabjlhooglaa
