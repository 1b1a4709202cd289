/- What this claim needs of my texts, merged and shortened by a program (part 3). -/
import Derived.Test.YtclbihcggjjgaaaZModelGoes2
namespace Go.Proofs.Ytclbihcggjjgaaa
open Go Go.RowKit
set_option linter.unusedSimpArgs false
set_option linter.unusedVariables false
def SizeOk (zs : List (List UInt8)) (k : Nat) : Prop:=∀ h : k < zs.length,(zs[k]).length = 128
def RowOk (zs : List (List UInt8)) : Prop:=1 ≤ zs.length ∧ zs.length ≤ 512 ∧ ∀ k,SizeOk zs k
def ValOk (ys : List (List (List UInt8))) (i : Nat) : Prop:=∀ h : i < ys.length,RowOk ys[i]
def PrevOk (gs : List GoTy.T) (i : Nat) (n : Int) : Prop:=∀ (h : i - 1 < gs.length),0 < i → nuOf gs[i - 1] < n
def OneOk (x : Cfg) (ys : List (List (List UInt8))) (g : GoTy.T) : Prop:=1 ≤ nuOf g ∧ askCode x ((kiOf g).toNat : Int) (atOf g) (manyOf g) (datOf g).length = 0 ∧ MarksOk ((kiOf g).toNat : Int) (mksOf g) ys
def GoOk (x : Cfg) (ys : List (List (List UInt8))) (gs : List GoTy.T) (i : Nat) : Prop:=∀ h : i < gs.length,OneOk x ys gs[i] ∧ PrevOk gs i (nuOf gs[i])
structure PlainOk (x : Cfg) (ys : List (List (List UInt8))) (gs : List GoTy.T) : Prop where
 cfg : x.Ok
 len : (ys.length : Int) = x.c * x.r * (x.m - 1)
 few : gs.length ≤ 8
 vals : ∀ i,ValOk ys i
 goes : ∀ i,GoOk x ys gs i
theorem prev_wrap {j n : Nat} (h : n ≤ maxLen) (hj : j < n) (h0 : 0 < j) : wrap64 ((j : Int) - 1) = ((j - 1 : Nat) : Int):=by
 rw [IntWalk.wrap64_in _ (by unfold maxLen at h;omega)]
 omega
theorem YesNo.is {P : Prop} {b : Bool} {e : Ending} (hb : b = true ↔ P) (h : YesNo P e) : e = .returned (.bool b):=by
 obtain ⟨b',rfl,h'⟩:=h
 have : b' = b:=Bool.eq_iff_iff.2 (h'.trans hb.symm)
 rw [this]
theorem some_bool (P : Prop) : ∃ b : Bool,b = true ↔ P:=by
 by_cases h : P
 · exact ⟨true,by simp [h]⟩
 · exact ⟨false,by simp [h]⟩
theorem go_prev {w : World} {S : Nat → Prop} {gs : List GoTy.T} {b off d : Nat} (h : RdIn w S (.sl GoTy) gs [.slice (some ⟨b,off,none⟩) gs.length d]) {j : Nat} (hj : j < gs.length) : w.cell? ⟨b,off + j * 6,none⟩ = some (.int .i64 (nuOf (gs[j]'hj))):=by
 obtain ⟨b',off',_,_,_,_,e,h0,_⟩:=go_at h hj
 injection e with e
 injection e with e1 e2
 subst e1 e2
 exact h0
set_option maxRecDepth 100000 in
set_option maxHeartbeats 2000000 in
theorem rpmay_any (S : Nat → Prop) (x : Cfg) (ys : List (List (List UInt8))) (gs : List GoTy.T) (A : Option Addr) (ca : Nat) (B : Option Addr) (cb : Nat) (w : World) (hy : RdIn w S (.sl (.sl (.sl .byte))) ys [.slice A ys.length ca]) (hg : RdIn w S (.sl GoTy) gs [.slice B gs.length cb]) :
 Calls Try.prog 40 #[x.val,.agg #[.slice A ys.length ca,.slice B gs.length cb]] w fun e w'=>YesNo (PlainOk x ys gs) e ∧ Below w.heap.size w w':=by
 by_cases hx : x.Ok
 · have HM:=Lib.hid (may_yes x hx)
   have HB:=Lib.hid (rblocks_ok x hx)
   have HX:=Lib.hid hx
   have HC : Hid (∀ (k a y : Int) (A : Option Addr) (n q : Nat) (w : World),Calls Try.prog 64 #[x.val,.agg #[.int .u8 k,.int .i64 a,.int .i64 y,.slice A n q]] w fun e w'=>e = .returned (.int .i64 (askCode x k a y n)) ∧ Below w.heap.size w w'):=rcheck_all x
   obtain ⟨nbk,hnb⟩ : ∃ z,z = x.c * x.r * (x.m - 1):=⟨_,rfl⟩
   have HN:=Lib.hid hnb
   rw [← hnb] at HB
   clear hnb hx
   obtain ⟨id,m,c,r,l,h⟩:=x
   unfold Cfg.val at *
   dsimp only at *
   have C0:=BoxOf.alloc (BoxOf.new w #[.int .u32 (id : Int),.int .i64 m,.int .i64 c,.int .i64 r,.int .i64 l,.int .i64 h] 24) (.cells #[.slice A ys.length ca,.slice B gs.length cb] 28)
   have P0:=BoxOf.new' (w.alloc (.cells #[.int .u32 (id : Int),.int .i64 m,.int .i64 c,.int .i64 r,.int .i64 l,.int .i64 h] 24)) (w.heap.size + 1) #[.slice A ys.length ca,.slice B gs.length cb] 28 (by simp)
   have t0:=Ext.alloc (Ext.alloc (Below.refl w.heap.size w) (.cells #[.int .u32 (id : Int),.int .i64 m,.int .i64 c,.int .i64 r,.int .i64 l,.int .i64 h] 24)) (.cells #[.slice A ys.length ca,.slice B gs.length cb] 28)
   have HY:=Lib.hid (hy.below t0)
   have HG:=Lib.hid (hg.below t0)
   have HYM:=Lib.hid (may_max hy)
   have HGM:=Lib.hid (go_max hg)
   clear hy hg
   rcases Bool.eq_false_or_eq_true ((ys.length : Int) != nbk) with e1 | e1
   · go_enter Try.func40,Try.ntmps40
     go_upto_region 1 with fail
     generalize (w.alloc (.cells #[.int .u32 (id : Int),.int .i64 m,.int .i64 c,.int .i64 r,.int .i64 l,.int .i64 h] 24)).alloc (.cells #[.slice A ys.length ca,.slice B gs.length cb] 28) = W at *
     have HS : Hid (∀ w',Below W.heap.size W w' → (Below W.heap.size W w' ∧ (∀ o,w'.cell? ⟨w.heap.size,o,none⟩ = #[.int .u32 (id : Int),.int .i64 m,.int .i64 c,.int .i64 r,.int .i64 l,.int .i64 h].toList[o]?) ∧ ∀ o,w'.cell? ⟨w.heap.size + 1,o,none⟩ = #[.slice A ys.length ca,.slice B gs.length cb].toList[o]?)):=fun w' b=>⟨b,(C0.next b).cell,(P0.next b).cell⟩
     refine wp_region_held_drew (S:=fun w'=>Below W.heap.size W w' ∧ (∀ o,w'.cell? ⟨w.heap.size,o,none⟩ = #[.int .u32 (id : Int),.int .i64 m,.int .i64 c,.int .i64 r,.int .i64 l,.int .i64 h].toList[o]?) ∧ ∀ o,w'.cell? ⟨w.heap.size + 1,o,none⟩ = #[.slice A ys.length ca,.slice B gs.length cb].toList[o]?) (by kernel_rfl) (HS.out _ (Ext.drew (Below.refl _ _))) (fun hS=>?_)
     refine wpAnyH_take (i:=0) (v:=?_) rfl (by kernel_rfl) (by kernel_rfl) (by kernel_rfl) (fun _ _ _ h=>h) (Or.inl ⟨by rfl,?_⟩) hS ?_
     rotate_left
     · (intro w hSw;(try dsimp only at hSw);go_simp;(try with_reducible rfl))
     rotate_left
     simp only [Act.put,zq0,zq1,zq2,zq3,zq4,zq5]
     refine wpAnyH_ready (rs:=[1]) (by kernel_rfl) (by simp) ?_
     refine AllReadyH.cons rfl (fun K hK=>?_) AllReadyH.nil
     rw [if_pos (by rfl)]
     go_simp
     refine (HM.out _).mono ?_
     rintro e w3 ⟨rfl,k3⟩
     refine hK.out _ _ (HS.out _ (Ext.trans hS.1 k3)) (fun hS'=>?_)
     clear hK K hS k3
     have hS:=hS'
     clear hS'
     try simp only [Act.put,zq0,zq1,zq2,zq3,zq4,zq5]
     refine wpAnyH_take (i:=2) (v:=?_) rfl (by kernel_rfl) (by kernel_rfl) (by kernel_rfl) (fun _ _ _ h=>h) (Or.inl ⟨by rfl,?_⟩) hS ?_
     rotate_left
     · (intro w hSw;(try dsimp only at hSw);go_simp;(try with_reducible rfl))
     rotate_left
     simp only [Act.put,zq0,zq1,zq2,zq3,zq4,zq5]
     refine wpAnyH_take (i:=3) (v:=?_) rfl (by kernel_rfl) (by kernel_rfl) (by kernel_rfl) (fun _ _ _ h=>h) (Or.inl ⟨by rfl,?_⟩) hS ?_
     rotate_left
     · (intro w hSw;(try dsimp only at hSw);go_simp;(try with_reducible rfl))
     rotate_left
     simp only [Act.put,zq0,zq1,zq2,zq3,zq4,zq5]
     skip
     refine wpAnyH_take (i:=4) (v:=?_) rfl (by kernel_rfl) (by kernel_rfl) (by kernel_rfl) (fun _ _ _ h=>h) (Or.inl ⟨by rfl,?_⟩) hS ?_
     rotate_left
     · (intro w hSw;(try dsimp only at hSw);go_simp;(try with_reducible rfl))
     rotate_left
     simp only [Act.put,zq0,zq1,zq2,zq3,zq4,zq5]
     refine wpAnyH_take (i:=5) (v:=?_) rfl (by kernel_rfl) (by kernel_rfl) (by kernel_rfl) (fun _ _ _ h=>h) (Or.inl ⟨by rfl,?_⟩) hS ?_
     rotate_left
     · (intro w hSw;(try dsimp only at hSw);go_simp;(try with_reducible rfl))
     rotate_left
     simp only [Act.put,zq0,zq1,zq2,zq3,zq4,zq5]
     refine wpAnyH_take (i:=6) (v:=?_) rfl (by kernel_rfl) (by kernel_rfl) (by kernel_rfl) (fun _ _ _ h=>h) (Or.inl ⟨by rfl,?_⟩) hS ?_
     rotate_left
     · (intro w hSw;(try dsimp only at hSw);go_simp;(try with_reducible rfl))
     rotate_left
     simp only [Act.put,zq0,zq1,zq2,zq3,zq4,zq5]
     refine wpAnyH_take (i:=7) (v:=?_) rfl (by kernel_rfl) (by kernel_rfl) (by kernel_rfl) (fun _ _ _ h=>h) (Or.inl ⟨by rfl,?_⟩) hS ?_
     rotate_left
     · (intro w hSw;(try dsimp only at hSw);go_simp;(try with_reducible rfl))
     rotate_left
     simp only [Act.put,zq0,zq1,zq2,zq3,zq4,zq5]
     refine wpAnyH_ready (rs:=[8]) (by kernel_rfl) (by simp) ?_
     refine AllReadyH.cons rfl (fun K hK=>?_) AllReadyH.nil
     rw [if_pos (by rfl)]
     go_simp
     refine (HB.out _).mono ?_
     rintro e w3 ⟨rfl,k3⟩
     refine hK.out _ _ (HS.out _ (Ext.trans hS.1 k3)) (fun hS'=>?_)
     clear hK K hS k3
     have hS:=hS'
     clear hS'
     try simp only [Act.put,zq0,zq1,zq2,zq3,zq4,zq5]
     refine wpAnyH_take (i:=9) (v:=?_) rfl (by kernel_rfl) (by kernel_rfl) (by kernel_rfl) (fun _ _ _ h=>h) (Or.inl ⟨by rfl,?_⟩) hS ?_
     rotate_left
     · (intro w hSw;(try dsimp only at hSw);go_simp;(try with_reducible rfl))
     rotate_left
     simp only [Act.put,zq0,zq1,zq2,zq3,zq4,zq5]
     refine wpAnyH_take (i:=10) (v:=?_) rfl (by kernel_rfl) (by kernel_rfl) (by kernel_rfl) (fun _ _ _ h=>h) (Or.inl ⟨by rfl,?_⟩) hS ?_
     rotate_left
     · (intro w hSw;(try dsimp only at hSw);go_simp;(try with_reducible rfl))
     rotate_left
     simp only [Act.put,zq0,zq1,zq2,zq3,zq4,zq5]
     refine wpAnyH_take (i:=11) (v:=?_) rfl (by kernel_rfl) (by kernel_rfl) (by kernel_rfl) (fun _ _ _ h=>h) (Or.inl ⟨by rfl,?_⟩) hS ?_
     rotate_left
     · (intro w hSw;(try dsimp only at hSw);go_simp;(try with_reducible rfl))
     rotate_left
     simp only [Act.put,zq0,zq1,zq2,zq3,zq4,zq5]
     refine wpAnyH_take (i:=12) (v:=?_) rfl (by kernel_rfl) (by kernel_rfl) (by kernel_rfl) (fun _ _ _ h=>h) (Or.inr ⟨by rfl,?_⟩) hS ?_
     rotate_left
     · rfl
     rotate_left
     simp only [Act.put,zq0,zq1,zq2,zq3,zq4,zq5]
     refine wpAnyH_take (i:=13) (v:=?_) rfl (by kernel_rfl) (by kernel_rfl) (by kernel_rfl) (fun _ _ _ h=>h) (Or.inr ⟨by rfl,?_⟩) hS ?_
     rotate_left
     · rfl
     rotate_left
     simp only [Act.put,zq0,zq1,zq2,zq3,zq4,zq5]
     refine wpAnyH_take (i:=14) (v:=?_) rfl (by kernel_rfl) (by kernel_rfl) (by kernel_rfl) (fun _ _ _ h=>h) (Or.inr ⟨by rfl,?_⟩) hS ?_
     rotate_left
     · rfl
     rotate_left
     simp only [Act.put,zq0,zq1,zq2,zq3,zq4,zq5]
     refine wpAnyH_take (i:=15) (v:=?_) rfl (by kernel_rfl) (by kernel_rfl) (by kernel_rfl) (fun _ _ _ h=>h) (Or.inr ⟨by rfl,?_⟩) hS ?_
     rotate_left
     · rfl
     rotate_left
     simp only [Act.put,zq0,zq1,zq2,zq3,zq4,zq5]
     refine wpAnyH_take (i:=16) (v:=?_) rfl (by kernel_rfl) (by kernel_rfl) (by kernel_rfl) (fun _ _ _ h=>h) (Or.inl ⟨by rfl,?_⟩) hS ?_
     rotate_left
     · (intro w hSw;(try dsimp only at hSw);go_simp;(try with_reducible rfl))
     rotate_left
     simp only [Act.put,zq0,zq1,zq2,zq3,zq4,zq5]
     refine wpAnyH_done (by kernel_rfl) ?_ _
     have bH:=hS.1
     clear hS
     go_wp2
     go_ret
     exact ⟨YesNo.no fun h=>by have:=h.len;have:=HN.out;simp_all,Ext.trans t0 bH⟩
   · rcases Bool.eq_false_or_eq_true (decide ((8 : Int) < (gs.length : Int))) with e2 | e2
     · go_enter Try.func40,Try.ntmps40
       go_upto_region 1 with fail
       generalize (w.alloc (.cells #[.int .u32 (id : Int),.int .i64 m,.int .i64 c,.int .i64 r,.int .i64 l,.int .i64 h] 24)).alloc (.cells #[.slice A ys.length ca,.slice B gs.length cb] 28) = W at *
       have HS : Hid (∀ w',Below W.heap.size W w' → (Below W.heap.size W w' ∧ (∀ o,w'.cell? ⟨w.heap.size,o,none⟩ = #[.int .u32 (id : Int),.int .i64 m,.int .i64 c,.int .i64 r,.int .i64 l,.int .i64 h].toList[o]?) ∧ ∀ o,w'.cell? ⟨w.heap.size + 1,o,none⟩ = #[.slice A ys.length ca,.slice B gs.length cb].toList[o]?)):=fun w' b=>⟨b,(C0.next b).cell,(P0.next b).cell⟩
       refine wp_region_held_drew (S:=fun w'=>Below W.heap.size W w' ∧ (∀ o,w'.cell? ⟨w.heap.size,o,none⟩ = #[.int .u32 (id : Int),.int .i64 m,.int .i64 c,.int .i64 r,.int .i64 l,.int .i64 h].toList[o]?) ∧ ∀ o,w'.cell? ⟨w.heap.size + 1,o,none⟩ = #[.slice A ys.length ca,.slice B gs.length cb].toList[o]?) (by kernel_rfl) (HS.out _ (Ext.drew (Below.refl _ _))) (fun hS=>?_)
       refine wpAnyH_take (i:=0) (v:=?_) rfl (by kernel_rfl) (by kernel_rfl) (by kernel_rfl) (fun _ _ _ h=>h) (Or.inl ⟨by rfl,?_⟩) hS ?_
       rotate_left
       · (intro w hSw;(try dsimp only at hSw);go_simp;(try with_reducible rfl))
       rotate_left
       simp only [Act.put,zq0,zq1,zq2,zq3,zq4,zq5]
       refine wpAnyH_ready (rs:=[1]) (by kernel_rfl) (by simp) ?_
       refine AllReadyH.cons rfl (fun K hK=>?_) AllReadyH.nil
       rw [if_pos (by rfl)]
       go_simp
       refine (HM.out _).mono ?_
       rintro e w3 ⟨rfl,k3⟩
       refine hK.out _ _ (HS.out _ (Ext.trans hS.1 k3)) (fun hS'=>?_)
       clear hK K hS k3
       have hS:=hS'
       clear hS'
       try simp only [Act.put,zq0,zq1,zq2,zq3,zq4,zq5]
       refine wpAnyH_take (i:=2) (v:=?_) rfl (by kernel_rfl) (by kernel_rfl) (by kernel_rfl) (fun _ _ _ h=>h) (Or.inl ⟨by rfl,?_⟩) hS ?_
       rotate_left
       · (intro w hSw;(try dsimp only at hSw);go_simp;(try with_reducible rfl))
       rotate_left
       simp only [Act.put,zq0,zq1,zq2,zq3,zq4,zq5]
       refine wpAnyH_take (i:=3) (v:=?_) rfl (by kernel_rfl) (by kernel_rfl) (by kernel_rfl) (fun _ _ _ h=>h) (Or.inl ⟨by rfl,?_⟩) hS ?_
       rotate_left
       · (intro w hSw;(try dsimp only at hSw);go_simp;(try with_reducible rfl))
       rotate_left
       simp only [Act.put,zq0,zq1,zq2,zq3,zq4,zq5]
       skip
       refine wpAnyH_take (i:=4) (v:=?_) rfl (by kernel_rfl) (by kernel_rfl) (by kernel_rfl) (fun _ _ _ h=>h) (Or.inl ⟨by rfl,?_⟩) hS ?_
       rotate_left
       · (intro w hSw;(try dsimp only at hSw);go_simp;(try with_reducible rfl))
       rotate_left
       simp only [Act.put,zq0,zq1,zq2,zq3,zq4,zq5]
       refine wpAnyH_take (i:=5) (v:=?_) rfl (by kernel_rfl) (by kernel_rfl) (by kernel_rfl) (fun _ _ _ h=>h) (Or.inl ⟨by rfl,?_⟩) hS ?_
       rotate_left
       · (intro w hSw;(try dsimp only at hSw);go_simp;(try with_reducible rfl))
       rotate_left
       simp only [Act.put,zq0,zq1,zq2,zq3,zq4,zq5]
       refine wpAnyH_take (i:=6) (v:=?_) rfl (by kernel_rfl) (by kernel_rfl) (by kernel_rfl) (fun _ _ _ h=>h) (Or.inl ⟨by rfl,?_⟩) hS ?_
       rotate_left
       · (intro w hSw;(try dsimp only at hSw);go_simp;(try with_reducible rfl))
       rotate_left
       simp only [Act.put,zq0,zq1,zq2,zq3,zq4,zq5]
       refine wpAnyH_take (i:=7) (v:=?_) rfl (by kernel_rfl) (by kernel_rfl) (by kernel_rfl) (fun _ _ _ h=>h) (Or.inl ⟨by rfl,?_⟩) hS ?_
       rotate_left
       · (intro w hSw;(try dsimp only at hSw);go_simp;(try with_reducible rfl))
       rotate_left
       simp only [Act.put,zq0,zq1,zq2,zq3,zq4,zq5]
       refine wpAnyH_ready (rs:=[8]) (by kernel_rfl) (by simp) ?_
       refine AllReadyH.cons rfl (fun K hK=>?_) AllReadyH.nil
       rw [if_pos (by rfl)]
       go_simp
       refine (HB.out _).mono ?_
       rintro e w3 ⟨rfl,k3⟩
       refine hK.out _ _ (HS.out _ (Ext.trans hS.1 k3)) (fun hS'=>?_)
       clear hK K hS k3
       have hS:=hS'
       clear hS'
       try simp only [Act.put,zq0,zq1,zq2,zq3,zq4,zq5]
       refine wpAnyH_take (i:=9) (v:=?_) rfl (by kernel_rfl) (by kernel_rfl) (by kernel_rfl) (fun _ _ _ h=>h) (Or.inl ⟨by rfl,?_⟩) hS ?_
       rotate_left
       · (intro w hSw;(try dsimp only at hSw);go_simp;(try with_reducible rfl))
       rotate_left
       simp only [Act.put,zq0,zq1,zq2,zq3,zq4,zq5]
       refine wpAnyH_take (i:=10) (v:=?_) rfl (by kernel_rfl) (by kernel_rfl) (by kernel_rfl) (fun _ _ _ h=>h) (Or.inl ⟨by rfl,?_⟩) hS ?_
       rotate_left
       · (intro w hSw;(try dsimp only at hSw);go_simp;(try with_reducible rfl))
       rotate_left
       simp only [Act.put,zq0,zq1,zq2,zq3,zq4,zq5]
       refine wpAnyH_take (i:=11) (v:=?_) rfl (by kernel_rfl) (by kernel_rfl) (by kernel_rfl) (fun _ _ _ h=>h) (Or.inl ⟨by rfl,?_⟩) hS ?_
       rotate_left
       · (intro w hSw;(try dsimp only at hSw);go_simp;(try with_reducible rfl))
       rotate_left
       simp only [Act.put,zq0,zq1,zq2,zq3,zq4,zq5]
       refine wpAnyH_take (i:=12) (v:=?_) rfl (by kernel_rfl) (by kernel_rfl) (by kernel_rfl) (fun _ _ _ h=>h) (Or.inl ⟨by rfl,?_⟩) hS ?_
       rotate_left
       · (intro w hSw;(try dsimp only at hSw);go_simp;(try with_reducible rfl))
       rotate_left
       simp only [Act.put,zq0,zq1,zq2,zq3,zq4,zq5]
       refine wpAnyH_take (i:=13) (v:=?_) rfl (by kernel_rfl) (by kernel_rfl) (by kernel_rfl) (fun _ _ _ h=>h) (Or.inl ⟨by rfl,?_⟩) hS ?_
       rotate_left
       · (intro w hSw;(try dsimp only at hSw);go_simp;(try with_reducible rfl))
       rotate_left
       simp only [Act.put,zq0,zq1,zq2,zq3,zq4,zq5]
       refine wpAnyH_take (i:=14) (v:=?_) rfl (by kernel_rfl) (by kernel_rfl) (by kernel_rfl) (fun _ _ _ h=>h) (Or.inl ⟨by rfl,?_⟩) hS ?_
       rotate_left
       · (intro w hSw;(try dsimp only at hSw);go_simp;(try with_reducible rfl))
       rotate_left
       simp only [Act.put,zq0,zq1,zq2,zq3,zq4,zq5]
       refine wpAnyH_take (i:=15) (v:=?_) rfl (by kernel_rfl) (by kernel_rfl) (by kernel_rfl) (fun _ _ _ h=>h) (Or.inl ⟨by rfl,?_⟩) hS ?_
       rotate_left
       · (intro w hSw;(try dsimp only at hSw);go_simp;(try with_reducible rfl))
       rotate_left
       simp only [Act.put,zq0,zq1,zq2,zq3,zq4,zq5]
       refine wpAnyH_take (i:=16) (v:=?_) rfl (by kernel_rfl) (by kernel_rfl) (by kernel_rfl) (fun _ _ _ h=>h) (Or.inl ⟨by rfl,?_⟩) hS ?_
       rotate_left
       · (intro w hSw;(try dsimp only at hSw);go_simp;(try with_reducible rfl))
       rotate_left
       simp only [Act.put,zq0,zq1,zq2,zq3,zq4,zq5]
       refine wpAnyH_done (by kernel_rfl) ?_ _
       have bH:=hS.1
       clear hS
       go_wp2
       go_ret
       exact ⟨YesNo.no fun h=>by have:=h.few;have:=of_decide_eq_true e2;omega,Ext.trans t0 bH⟩
     · go_enter Try.func40,Try.ntmps40
       go_upto_region 1 with fail
       generalize (w.alloc (.cells #[.int .u32 (id : Int),.int .i64 m,.int .i64 c,.int .i64 r,.int .i64 l,.int .i64 h] 24)).alloc (.cells #[.slice A ys.length ca,.slice B gs.length cb] 28) = W at *
       have HS : Hid (∀ w',Below W.heap.size W w' → (Below W.heap.size W w' ∧ (∀ o,w'.cell? ⟨w.heap.size,o,none⟩ = #[.int .u32 (id : Int),.int .i64 m,.int .i64 c,.int .i64 r,.int .i64 l,.int .i64 h].toList[o]?) ∧ ∀ o,w'.cell? ⟨w.heap.size + 1,o,none⟩ = #[.slice A ys.length ca,.slice B gs.length cb].toList[o]?)):=fun w' b=>⟨b,(C0.next b).cell,(P0.next b).cell⟩
       refine wp_region_held_drew (S:=fun w'=>Below W.heap.size W w' ∧ (∀ o,w'.cell? ⟨w.heap.size,o,none⟩ = #[.int .u32 (id : Int),.int .i64 m,.int .i64 c,.int .i64 r,.int .i64 l,.int .i64 h].toList[o]?) ∧ ∀ o,w'.cell? ⟨w.heap.size + 1,o,none⟩ = #[.slice A ys.length ca,.slice B gs.length cb].toList[o]?) (by kernel_rfl) (HS.out _ (Ext.drew (Below.refl _ _))) (fun hS=>?_)
       refine wpAnyH_take (i:=0) (v:=?_) rfl (by kernel_rfl) (by kernel_rfl) (by kernel_rfl) (fun _ _ _ h=>h) (Or.inl ⟨by rfl,?_⟩) hS ?_
       rotate_left
       · (intro w hSw;(try dsimp only at hSw);go_simp;(try with_reducible rfl))
       rotate_left
       simp only [Act.put,zq0,zq1,zq2,zq3,zq4,zq5]
       refine wpAnyH_ready (rs:=[1]) (by kernel_rfl) (by simp) ?_
       refine AllReadyH.cons rfl (fun K hK=>?_) AllReadyH.nil
       rw [if_pos (by rfl)]
       go_simp
       refine (HM.out _).mono ?_
       rintro e w3 ⟨rfl,k3⟩
       refine hK.out _ _ (HS.out _ (Ext.trans hS.1 k3)) (fun hS'=>?_)
       clear hK K hS k3
       have hS:=hS'
       clear hS'
       try simp only [Act.put,zq0,zq1,zq2,zq3,zq4,zq5]
       refine wpAnyH_take (i:=2) (v:=?_) rfl (by kernel_rfl) (by kernel_rfl) (by kernel_rfl) (fun _ _ _ h=>h) (Or.inl ⟨by rfl,?_⟩) hS ?_
       rotate_left
       · (intro w hSw;(try dsimp only at hSw);go_simp;(try with_reducible rfl))
       rotate_left
       simp only [Act.put,zq0,zq1,zq2,zq3,zq4,zq5]
       refine wpAnyH_take (i:=3) (v:=?_) rfl (by kernel_rfl) (by kernel_rfl) (by kernel_rfl) (fun _ _ _ h=>h) (Or.inl ⟨by rfl,?_⟩) hS ?_
       rotate_left
       · (intro w hSw;(try dsimp only at hSw);go_simp;(try with_reducible rfl))
       rotate_left
       simp only [Act.put,zq0,zq1,zq2,zq3,zq4,zq5]
       skip
       refine wpAnyH_take (i:=4) (v:=?_) rfl (by kernel_rfl) (by kernel_rfl) (by kernel_rfl) (fun _ _ _ h=>h) (Or.inl ⟨by rfl,?_⟩) hS ?_
       rotate_left
       · (intro w hSw;(try dsimp only at hSw);go_simp;(try with_reducible rfl))
       rotate_left
       simp only [Act.put,zq0,zq1,zq2,zq3,zq4,zq5]
       refine wpAnyH_take (i:=5) (v:=?_) rfl (by kernel_rfl) (by kernel_rfl) (by kernel_rfl) (fun _ _ _ h=>h) (Or.inl ⟨by rfl,?_⟩) hS ?_
       rotate_left
       · (intro w hSw;(try dsimp only at hSw);go_simp;(try with_reducible rfl))
       rotate_left
       simp only [Act.put,zq0,zq1,zq2,zq3,zq4,zq5]
       refine wpAnyH_take (i:=6) (v:=?_) rfl (by kernel_rfl) (by kernel_rfl) (by kernel_rfl) (fun _ _ _ h=>h) (Or.inl ⟨by rfl,?_⟩) hS ?_
       rotate_left
       · (intro w hSw;(try dsimp only at hSw);go_simp;(try with_reducible rfl))
       rotate_left
       simp only [Act.put,zq0,zq1,zq2,zq3,zq4,zq5]
       refine wpAnyH_take (i:=7) (v:=?_) rfl (by kernel_rfl) (by kernel_rfl) (by kernel_rfl) (fun _ _ _ h=>h) (Or.inl ⟨by rfl,?_⟩) hS ?_
       rotate_left
       · (intro w hSw;(try dsimp only at hSw);go_simp;(try with_reducible rfl))
       rotate_left
       simp only [Act.put,zq0,zq1,zq2,zq3,zq4,zq5]
       refine wpAnyH_ready (rs:=[8]) (by kernel_rfl) (by simp) ?_
       refine AllReadyH.cons rfl (fun K hK=>?_) AllReadyH.nil
       rw [if_pos (by rfl)]
       go_simp
       refine (HB.out _).mono ?_
       rintro e w3 ⟨rfl,k3⟩
       refine hK.out _ _ (HS.out _ (Ext.trans hS.1 k3)) (fun hS'=>?_)
       clear hK K hS k3
       have hS:=hS'
       clear hS'
       try simp only [Act.put,zq0,zq1,zq2,zq3,zq4,zq5]
       refine wpAnyH_take (i:=9) (v:=?_) rfl (by kernel_rfl) (by kernel_rfl) (by kernel_rfl) (fun _ _ _ h=>h) (Or.inl ⟨by rfl,?_⟩) hS ?_
       rotate_left
       · (intro w hSw;(try dsimp only at hSw);go_simp;(try with_reducible rfl))
       rotate_left
       simp only [Act.put,zq0,zq1,zq2,zq3,zq4,zq5]
       refine wpAnyH_take (i:=10) (v:=?_) rfl (by kernel_rfl) (by kernel_rfl) (by kernel_rfl) (fun _ _ _ h=>h) (Or.inl ⟨by rfl,?_⟩) hS ?_
       rotate_left
       · (intro w hSw;(try dsimp only at hSw);go_simp;(try with_reducible rfl))
       rotate_left
       simp only [Act.put,zq0,zq1,zq2,zq3,zq4,zq5]
       refine wpAnyH_take (i:=11) (v:=?_) rfl (by kernel_rfl) (by kernel_rfl) (by kernel_rfl) (fun _ _ _ h=>h) (Or.inl ⟨by rfl,?_⟩) hS ?_
       rotate_left
       · (intro w hSw;(try dsimp only at hSw);go_simp;(try with_reducible rfl))
       rotate_left
       simp only [Act.put,zq0,zq1,zq2,zq3,zq4,zq5]
       refine wpAnyH_take (i:=12) (v:=?_) rfl (by kernel_rfl) (by kernel_rfl) (by kernel_rfl) (fun _ _ _ h=>h) (Or.inl ⟨by rfl,?_⟩) hS ?_
       rotate_left
       · (intro w hSw;(try dsimp only at hSw);go_simp;(try with_reducible rfl))
       rotate_left
       simp only [Act.put,zq0,zq1,zq2,zq3,zq4,zq5]
       refine wpAnyH_take (i:=13) (v:=?_) rfl (by kernel_rfl) (by kernel_rfl) (by kernel_rfl) (fun _ _ _ h=>h) (Or.inl ⟨by rfl,?_⟩) hS ?_
       rotate_left
       · (intro w hSw;(try dsimp only at hSw);go_simp;(try with_reducible rfl))
       rotate_left
       simp only [Act.put,zq0,zq1,zq2,zq3,zq4,zq5]
       refine wpAnyH_take (i:=14) (v:=?_) rfl (by kernel_rfl) (by kernel_rfl) (by kernel_rfl) (fun _ _ _ h=>h) (Or.inl ⟨by rfl,?_⟩) hS ?_
       rotate_left
       · (intro w hSw;(try dsimp only at hSw);go_simp;(try with_reducible rfl))
       rotate_left
       simp only [Act.put,zq0,zq1,zq2,zq3,zq4,zq5]
       refine wpAnyH_take (i:=15) (v:=?_) rfl (by kernel_rfl) (by kernel_rfl) (by kernel_rfl) (fun _ _ _ h=>h) (Or.inl ⟨by rfl,?_⟩) hS ?_
       rotate_left
       · (intro w hSw;(try dsimp only at hSw);go_simp;(try with_reducible rfl))
       rotate_left
       simp only [Act.put,zq0,zq1,zq2,zq3,zq4,zq5]
       refine wpAnyH_take (i:=16) (v:=?_) rfl (by kernel_rfl) (by kernel_rfl) (by kernel_rfl) (fun _ _ _ h=>h) (Or.inl ⟨by rfl,?_⟩) hS ?_
       rotate_left
       · (intro w hSw;(try dsimp only at hSw);go_simp;(try with_reducible rfl))
       rotate_left
       simp only [Act.put,zq0,zq1,zq2,zq3,zq4,zq5]
       refine wpAnyH_done (by kernel_rfl) ?_ _
       have bH:=hS.1
       clear hS
       have HL : Hid ((ys.length : Int) = nbk):=by show _ = _;simpa using e1
       have HF : Hid (gs.length ≤ 8):=by show _ ≤ _;have:=of_decide_eq_false e2;omega
       clear e1 e2
       obtain ⟨W1,hW1⟩ : ∃ z : World,z = W:=⟨_,rfl⟩
       go_wp2
       go_loopw [5] (fun i wr=>∃ (j : Nat),j ≤ ys.length ∧ i = .int .i64 j ∧ Below W.heap.size W wr ∧ Hid (∀ i,i < j → ValOk ys i)) (fun i _=>ys.length - (intOf i).toNat)
       case atStart=>exact ⟨0,by omega,rfl,bH,fun i h=>absurd h (Nat.not_lt_zero _)⟩
       case round=>
        obtain ⟨j,hj,rfl,b1,HA⟩:=hrel
        clear bH
        have P1:=P0.next b1
        have x1:=P1.cell
        by_cases hlt : j < ys.length
        · obtain ⟨b,off,A2,c2,rfl,q2,r2⟩:=may_at (HY.out.below b1) hlt
          have HVK : Hid (ValOk ys j ↔ RowOk ys[j]):=⟨fun h=>h hlt,fun h _=>h⟩
          generalize ys[j] = zs at *
          have HWJ:=next_wrap HYM.out hlt
          have HLJ:=Lib.hid hlt
          have HZM:=Lib.hid (val_max r2)
          have b3:=Ext.trans t0 b1
          have HR:=Lib.hid r2
          clear r2
          rcases Bool.eq_false_or_eq_true (decide ((zs.length : Int) < 1)) with e1 | e1
          · go_wp2
            go_ret
            exact ⟨YesNo.no fun h=>by have h2:=(HVK.out.1 (h.vals j)).1;have:=of_decide_eq_true e1;omega,b3⟩
          · rcases Bool.eq_false_or_eq_true (decide ((512 : Int) < (zs.length : Int))) with e2 | e2
            · go_wp2
              go_ret
              exact ⟨YesNo.no fun h=>by have h2:=(HVK.out.1 (h.vals j)).2.1;have:=of_decide_eq_true e2;omega,b3⟩
            · have q2r:=q2
              obtain ⟨w0,hw0⟩ : ∃ z : World,z = wr:=⟨_,rfl⟩
              rw [← hw0] at b1 q2 HR P1 b3
              have bw0 : Below w0.heap.size w0 wr:=by rw [hw0];exact Below.refl _ _
              have HZ : Hid (1 ≤ zs.length ∧ zs.length ≤ 512):=by show _ ∧ _;have:=of_decide_eq_false e1;have:=of_decide_eq_false e2;omega
              go_wp2
              clear e1 e2
              go_loopw [6] (fun i wq=>∃ (k : Nat),k ≤ zs.length ∧ i = .int .i64 k ∧ Below w0.heap.size w0 wq ∧ Hid (∀ i,i < k → SizeOk zs i)) (fun i _=>zs.length - (intOf i).toNat)
              case atStart=>exact ⟨0,by omega,rfl,bw0,fun i h=>absurd h (Nat.not_lt_zero _)⟩
              case round=>
               obtain ⟨k,hk,rfl,b2,HB2⟩:=hrel
               clear x1 hw0 bw0 q2r
               have P2:=P1.next b2
               have x2:=P2.cell
               have q3:=(b2.cell (p:=⟨b,off + j,none⟩) (block_lt_of_cell q2)).trans q2
               have b4:=Ext.trans b1 b2
               have b5:=Ext.trans b3 b2
               by_cases hltk : k < zs.length
               · obtain ⟨b6,off6,A5,c5,rfl,q5,r5⟩:=val_at (HR.out.below b2) hltk
                 have HSK : Hid (SizeOk zs k ↔ (zs[k]).length = 128):=⟨fun h=>h hltk,fun h _=>h⟩
                 generalize zs[k] = bs at *
                 have HWK:=next_wrap HZM.out hltk
                 have HLK:=Lib.hid hltk
                 clear r5
                 rcases Bool.eq_false_or_eq_true ((bs.length : Int) != 128) with e3 | e3
                 · go_wp2
                   go_ret
                   exact ⟨YesNo.no fun h=>by have h2:=HSK.out.1 ((HVK.out.1 (h.vals j)).2.2 k);rw [h2] at e3;simp at e3,b5⟩
                 · have HB3 : Hid (∀ i,i < k + 1 → SizeOk zs i):=by
                     intro i hi
                     by_cases h : i = k
                     · subst h
                       exact HSK.out.2 (by have h9 : (bs.length : Int) = 128:=(by simpa using e3);omega)
                     · exact HB2.out i (by omega)
                   go_wp2
                   go_roundw
                   case rel=>exact ⟨k + 1,HLK.out,by first | exact round_same HWK | go_num,b2,HB3⟩
                   case measure=>first | exact round_less HWK HLK.out | (have h:=HLK.out;simp [intOf];omega)
               · have HA' : Hid (∀ i,i < j + 1 → ValOk ys i):=by
                    intro i hi
                    by_cases h : i = j
                    · subst h
                      exact HVK.out.2 ⟨HZ.out.1,HZ.out.2,fun q=>by
                       by_cases hq : q < k
                       · exact HB2.out q hq
                       · exact fun h=>absurd h (by omega)⟩
                    · exact HA.out i (by omega)
                 go_wp2
                 go_roundw
                 case rel=>exact ⟨j + 1,HLJ.out,by first | exact round_same HWJ | go_num,b4,HA'⟩
                 case measure=>first | exact round_less HWJ HLJ.out | (have h:=HLJ.out;simp [intOf];omega)
        · have HV : Hid (∀ i,ValOk ys i):=fun i=>by
           by_cases h : i < j
           · exact HA.out i h
           · exact fun h'=>absurd h' (by omega)
          clear hj HA
          go_wp2
          go_loopw [7] (fun i wr=>∃ (j : Nat),j ≤ gs.length ∧ i = .int .i64 j ∧ Below W.heap.size W wr ∧ Hid (∀ i,i < j → GoOk (Cfg.mk id m c r l h) ys gs i)) (fun i _=>gs.length - (intOf i).toNat)
          case atStart=>exact ⟨0,by omega,rfl,b1,fun i h=>absurd h (Nat.not_lt_zero _)⟩
          case round=>
           obtain ⟨j,hj,rfl,b2,HA⟩:=hrel
           clear b1 x1 P1
           have P1:=P0.next b2
           have C1:=C0.next b2
           have x1:=P1.cell
           by_cases hlt : j < gs.length
           · obtain ⟨b,off,Ab,cg,Am,cm,rfl,q0,q1,q2,q3,q4,q5,i0,i1,i2,rb,rm⟩:=go_at (HG.out.below b2) hlt
             have hpv : Hid (∀ (h0 : 0 < j),wr.cell? ⟨b,off + (j - 1) * 6,none⟩ = some (.int .i64 (nuOf (gs[j-1]'(by omega))))):=fun h0=>go_prev (HG.out.below b2) (by omega)
             have HGK : Hid (GoOk (Cfg.mk id m c r l h) ys gs j ↔ (OneOk (Cfg.mk id m c r l h) ys gs[j] ∧ PrevOk gs j (nuOf gs[j]))):=⟨fun h=>h hlt,fun h _=>h⟩
             generalize gs[j] = g at *
             have HWJ:=next_wrap HGM.out hlt
             have HLJ:=Lib.hid hlt
             have HRM:=Lib.hid rm
             obtain ⟨bm,hbm0⟩:=some_bool (MarksOk ((kiOf g).toNat : Int) (mksOf g) ys)
             have HBM:=Lib.hid hbm0
             clear i0 i1 i2 rb rm hbm0
             have C2:=BoxOf.alloc C1 (.cells #[.int .i64 (nuOf g),.int .u8 ((kiOf g).toNat : Int),.int .i64 (atOf g),.int .i64 (manyOf g),.slice Ab (datOf g).length cg,.slice Am (mksOf g).length cm] 64)
             have P2:=BoxOf.alloc P1 (.cells #[.int .i64 (nuOf g),.int .u8 ((kiOf g).toNat : Int),.int .i64 (atOf g),.int .i64 (manyOf g),.slice Ab (datOf g).length cg,.slice Am (mksOf g).length cm] 64)
             have GN:=BoxOf.new wr #[.int .i64 (nuOf g),.int .u8 ((kiOf g).toNat : Int),.int .i64 (atOf g),.int .i64 (manyOf g),.slice Ab (datOf g).length cg,.slice Am (mksOf g).length cm] 64
             have bA:=Ext.alloc (Below.refl wr.heap.size wr) (.cells #[.int .i64 (nuOf g),.int .u8 ((kiOf g).toNat : Int),.int .i64 (atOf g),.int .i64 (manyOf g),.slice Ab (datOf g).length cg,.slice Am (mksOf g).length cm] 64)
             have b6:=Ext.trans (Ext.trans t0 b2) bA
             have b7:=Ext.trans b2 bA
             have HY2:=Lib.hid (HY.out.below b7)
             have HRM2:=Lib.hid (HRM.out.below bA)
             have hpv2 : Hid (∀ (h0 : 0 < j) (w' : World),Below (wr.alloc (.cells #[.int .i64 (nuOf g),.int .u8 ((kiOf g).toNat : Int),.int .i64 (atOf g),.int .i64 (manyOf g),.slice Ab (datOf g).length cg,.slice Am (mksOf g).length cm] 64)).heap.size (wr.alloc (.cells #[.int .i64 (nuOf g),.int .u8 ((kiOf g).toNat : Int),.int .i64 (atOf g),.int .i64 (manyOf g),.slice Ab (datOf g).length cg,.slice Am (mksOf g).length cm] 64)) w' → w'.cell? ⟨b,off + (j - 1) * 6,none⟩ = some (.int .i64 (nuOf (gs[j-1]'(by omega))))):=fun h0 w' bb=>by
              have h1:=hpv.out h0
              have h2:=(bA.cell (p:=⟨b,off + (j - 1) * 6,none⟩) (block_lt_of_cell h1)).trans h1
              exact (bb.cell (p:=⟨b,off + (j - 1) * 6,none⟩) (block_lt_of_cell h2)).trans h2
             have HLJ0:=Lib.hid hj
             clear hj bA
             clear hpv
             go_upto_region 17 with fail
             obtain ⟨gn,hgn⟩ : ∃ z : Nat,z = wr.heap.size:=⟨_,rfl⟩
             rw [← hgn] at GN ⊢
             generalize wr.alloc (.cells #[.int .i64 (nuOf g),.int .u8 ((kiOf g).toNat : Int),.int .i64 (atOf g),.int .i64 (manyOf g),.slice Ab (datOf g).length cg,.slice Am (mksOf g).length cm] 64) = Wg at *
             clear x1 q0 q1 q2 q3 q4 q5 hgn C1 P1 b2
             rcases Bool.eq_false_or_eq_true (decide (nuOf g < 1)) with e1 | e1
             · have HS : Hid (∀ w',Below Wg.heap.size Wg w' → (Below Wg.heap.size Wg w' ∧ (∀ o,w'.cell? ⟨w.heap.size,o,none⟩ = #[.int .u32 (id : Int),.int .i64 m,.int .i64 c,.int .i64 r,.int .i64 l,.int .i64 h].toList[o]?) ∧ (∀ o,w'.cell? ⟨w.heap.size + 1,o,none⟩ = #[.slice A ys.length ca,.slice (some ⟨b,off,none⟩) gs.length cb].toList[o]?) ∧ (∀ o,w'.cell? ⟨gn,o,none⟩ = #[.int .i64 (nuOf g),.int .u8 ((kiOf g).toNat : Int),.int .i64 (atOf g),.int .i64 (manyOf g),.slice Ab (datOf g).length cg,.slice Am (mksOf g).length cm].toList[o]?))):=fun w' b=>⟨b,(C2.next b).cell,(P2.next b).cell,(GN.next b).cell⟩
               refine wp_region_held_drew (S:=fun w'=>Below Wg.heap.size Wg w' ∧ (∀ o,w'.cell? ⟨w.heap.size,o,none⟩ = #[.int .u32 (id : Int),.int .i64 m,.int .i64 c,.int .i64 r,.int .i64 l,.int .i64 h].toList[o]?) ∧ (∀ o,w'.cell? ⟨w.heap.size + 1,o,none⟩ = #[.slice A ys.length ca,.slice (some ⟨b,off,none⟩) gs.length cb].toList[o]?) ∧ (∀ o,w'.cell? ⟨gn,o,none⟩ = #[.int .i64 (nuOf g),.int .u8 ((kiOf g).toNat : Int),.int .i64 (atOf g),.int .i64 (manyOf g),.slice Ab (datOf g).length cg,.slice Am (mksOf g).length cm].toList[o]?)) (by kernel_rfl) (HS.out _ (Ext.drew (Below.refl _ _))) (fun hS=>?_)
               refine wpAnyH_take (i:=0) (v:=?_) rfl (by kernel_rfl) (by kernel_rfl) (by kernel_rfl) (fun _ _ _ h=>h) (Or.inl ⟨by rfl,?_⟩) hS ?_
               rotate_left
               · (intro w hSw;(try dsimp only at hSw);go_simp;(try with_reducible rfl))
               rotate_left
               simp only [Act.put,zq0,zq1,zq2,zq3,zq4,zq5]
               refine wpAnyH_take (i:=1) (v:=?_) rfl (by kernel_rfl) (by kernel_rfl) (by kernel_rfl) (fun _ _ _ h=>h) (Or.inl ⟨by rfl,?_⟩) hS ?_
               rotate_left
               · (intro w hSw;(try dsimp only at hSw);go_simp;(try with_reducible rfl))
               rotate_left
               simp only [Act.put,zq0,zq1,zq2,zq3,zq4,zq5]
               refine wpAnyH_take (i:=2) (v:=?_) rfl (by kernel_rfl) (by kernel_rfl) (by kernel_rfl) (fun _ _ _ h=>h) (Or.inl ⟨by rfl,?_⟩) hS ?_
               rotate_left
               · (intro w hSw;(try dsimp only at hSw);go_simp;(try with_reducible rfl))
               rotate_left
               simp only [Act.put,zq0,zq1,zq2,zq3,zq4,zq5]
               refine wpAnyH_take (i:=3) (v:=?_) rfl (by kernel_rfl) (by kernel_rfl) (by kernel_rfl) (fun _ _ _ h=>h) (Or.inl ⟨by rfl,?_⟩) hS ?_
               rotate_left
               · (intro w hSw;(try dsimp only at hSw);go_simp;(try with_reducible rfl))
               rotate_left
               simp only [Act.put,zq0,zq1,zq2,zq3,zq4,zq5]
               refine wpAnyH_take (i:=4) (v:=?_) rfl (by kernel_rfl) (by kernel_rfl) (by kernel_rfl) (fun _ _ _ h=>h) (Or.inr ⟨by rfl,?_⟩) hS ?_
               rotate_left
               · rfl
               rotate_left
               simp only [Act.put,zq0,zq1,zq2,zq3,zq4,zq5]
               refine wpAnyH_take (i:=5) (v:=?_) rfl (by kernel_rfl) (by kernel_rfl) (by kernel_rfl) (fun _ _ _ h=>h) (Or.inr ⟨by rfl,?_⟩) hS ?_
               rotate_left
               · rfl
               rotate_left
               simp only [Act.put,zq0,zq1,zq2,zq3,zq4,zq5]
               refine wpAnyH_take (i:=6) (v:=?_) rfl (by kernel_rfl) (by kernel_rfl) (by kernel_rfl) (fun _ _ _ h=>h) (Or.inr ⟨by rfl,?_⟩) hS ?_
               rotate_left
               · rfl
               rotate_left
               simp only [Act.put,zq0,zq1,zq2,zq3,zq4,zq5]
               refine wpAnyH_take (i:=7) (v:=?_) rfl (by kernel_rfl) (by kernel_rfl) (by kernel_rfl) (fun _ _ _ h=>h) (Or.inr ⟨by rfl,?_⟩) hS ?_
               rotate_left
               · rfl
               rotate_left
               simp only [Act.put,zq0,zq1,zq2,zq3,zq4,zq5]
               refine wpAnyH_take (i:=8) (v:=?_) rfl (by kernel_rfl) (by kernel_rfl) (by kernel_rfl) (fun _ _ _ h=>h) (Or.inr ⟨by rfl,?_⟩) hS ?_
               rotate_left
               · rfl
               rotate_left
               simp only [Act.put,zq0,zq1,zq2,zq3,zq4,zq5]
               refine wpAnyH_take (i:=9) (v:=?_) rfl (by kernel_rfl) (by kernel_rfl) (by kernel_rfl) (fun _ _ _ h=>h) (Or.inr ⟨by rfl,?_⟩) hS ?_
               rotate_left
               · rfl
               rotate_left
               simp only [Act.put,zq0,zq1,zq2,zq3,zq4,zq5]
               refine wpAnyH_take (i:=10) (v:=?_) rfl (by kernel_rfl) (by kernel_rfl) (by kernel_rfl) (fun _ _ _ h=>h) (Or.inr ⟨by rfl,?_⟩) hS ?_
               rotate_left
               · rfl
               rotate_left
               simp only [Act.put,zq0,zq1,zq2,zq3,zq4,zq5]
               refine wpAnyH_take (i:=11) (v:=?_) rfl (by kernel_rfl) (by kernel_rfl) (by kernel_rfl) (fun _ _ _ h=>h) (Or.inr ⟨by rfl,?_⟩) hS ?_
               rotate_left
               · rfl
               rotate_left
               simp only [Act.put,zq0,zq1,zq2,zq3,zq4,zq5]
               refine wpAnyH_take (i:=12) (v:=?_) rfl (by kernel_rfl) (by kernel_rfl) (by kernel_rfl) (fun _ _ _ h=>h) (Or.inr ⟨by rfl,?_⟩) hS ?_
               rotate_left
               · rfl
               rotate_left
               simp only [Act.put,zq0,zq1,zq2,zq3,zq4,zq5]
               refine wpAnyH_take (i:=13) (v:=?_) rfl (by kernel_rfl) (by kernel_rfl) (by kernel_rfl) (fun _ _ _ h=>h) (Or.inr ⟨by rfl,?_⟩) hS ?_
               rotate_left
               · rfl
               rotate_left
               simp only [Act.put,zq0,zq1,zq2,zq3,zq4,zq5]
               refine wpAnyH_take (i:=14) (v:=?_) rfl (by kernel_rfl) (by kernel_rfl) (by kernel_rfl) (fun _ _ _ h=>h) (Or.inr ⟨by rfl,?_⟩) hS ?_
               rotate_left
               · rfl
               rotate_left
               simp only [Act.put,zq0,zq1,zq2,zq3,zq4,zq5]
               refine wpAnyH_take (i:=15) (v:=?_) rfl (by kernel_rfl) (by kernel_rfl) (by kernel_rfl) (fun _ _ _ h=>h) (Or.inr ⟨by rfl,?_⟩) hS ?_
               rotate_left
               · rfl
               rotate_left
               simp only [Act.put,zq0,zq1,zq2,zq3,zq4,zq5]
               refine wpAnyH_take (i:=16) (v:=?_) rfl (by kernel_rfl) (by kernel_rfl) (by kernel_rfl) (fun _ _ _ h=>h) (Or.inr ⟨by rfl,?_⟩) hS ?_
               rotate_left
               · rfl
               rotate_left
               simp only [Act.put,zq0,zq1,zq2,zq3,zq4,zq5]
               refine wpAnyH_take (i:=17) (v:=?_) rfl (by kernel_rfl) (by kernel_rfl) (by kernel_rfl) (fun _ _ _ h=>h) (Or.inr ⟨by rfl,?_⟩) hS ?_
               rotate_left
               · rfl
               rotate_left
               simp only [Act.put,zq0,zq1,zq2,zq3,zq4,zq5]
               refine wpAnyH_take (i:=18) (v:=?_) rfl (by kernel_rfl) (by kernel_rfl) (by kernel_rfl) (fun _ _ _ h=>h) (Or.inl ⟨by rfl,?_⟩) hS ?_
               rotate_left
               · (intro w hSw;(try dsimp only at hSw);go_simp;(try with_reducible rfl))
               rotate_left
               simp only [Act.put,zq0,zq1,zq2,zq3,zq4,zq5]
               refine wpAnyH_take (i:=19) (v:=?_) rfl (by kernel_rfl) (by kernel_rfl) (by kernel_rfl) (fun _ _ _ h=>h) (Or.inl ⟨by rfl,?_⟩) hS ?_
               rotate_left
               · (intro w hSw;(try dsimp only at hSw);go_simp;(try with_reducible rfl))
               rotate_left
               simp only [Act.put,zq0,zq1,zq2,zq3,zq4,zq5]
               refine wpAnyH_take (i:=20) (v:=?_) rfl (by kernel_rfl) (by kernel_rfl) (by kernel_rfl) (fun _ _ _ h=>h) (Or.inr ⟨by rfl,?_⟩) hS ?_
               rotate_left
               · rfl
               rotate_left
               simp only [Act.put,zq0,zq1,zq2,zq3,zq4,zq5]
               refine wpAnyH_take (i:=21) (v:=?_) rfl (by kernel_rfl) (by kernel_rfl) (by kernel_rfl) (fun _ _ _ h=>h) (Or.inr ⟨by rfl,?_⟩) hS ?_
               rotate_left
               · rfl
               rotate_left
               simp only [Act.put,zq0,zq1,zq2,zq3,zq4,zq5]
               refine wpAnyH_take (i:=22) (v:=?_) rfl (by kernel_rfl) (by kernel_rfl) (by kernel_rfl) (fun _ _ _ h=>h) (Or.inr ⟨by rfl,?_⟩) hS ?_
               rotate_left
               · rfl
               rotate_left
               simp only [Act.put,zq0,zq1,zq2,zq3,zq4,zq5]
               refine wpAnyH_take (i:=23) (v:=?_) rfl (by kernel_rfl) (by kernel_rfl) (by kernel_rfl) (fun _ _ _ h=>h) (Or.inr ⟨by rfl,?_⟩) hS ?_
               rotate_left
               · rfl
               rotate_left
               simp only [Act.put,zq0,zq1,zq2,zq3,zq4,zq5]
               refine wpAnyH_take (i:=24) (v:=?_) rfl (by kernel_rfl) (by kernel_rfl) (by kernel_rfl) (fun _ _ _ h=>h) (Or.inr ⟨by rfl,?_⟩) hS ?_
               rotate_left
               · rfl
               rotate_left
               simp only [Act.put,zq0,zq1,zq2,zq3,zq4,zq5]
               refine wpAnyH_take (i:=25) (v:=?_) rfl (by kernel_rfl) (by kernel_rfl) (by kernel_rfl) (fun _ _ _ h=>h) (Or.inl ⟨by rfl,?_⟩) hS ?_
               rotate_left
               · (intro w hSw;(try dsimp only at hSw);go_simp;(try with_reducible rfl))
               rotate_left
               simp only [Act.put,zq0,zq1,zq2,zq3,zq4,zq5]
               refine wpAnyH_take (i:=26) (v:=?_) rfl (by kernel_rfl) (by kernel_rfl) (by kernel_rfl) (fun _ _ _ h=>h) (Or.inl ⟨by rfl,?_⟩) hS ?_
               rotate_left
               · (intro w hSw;(try dsimp only at hSw);go_simp;(try with_reducible rfl))
               rotate_left
               simp only [Act.put,zq0,zq1,zq2,zq3,zq4,zq5]
               refine wpAnyH_take (i:=27) (v:=?_) rfl (by kernel_rfl) (by kernel_rfl) (by kernel_rfl) (fun _ _ _ h=>h) (Or.inr ⟨by rfl,?_⟩) hS ?_
               rotate_left
               · rfl
               rotate_left
               simp only [Act.put,zq0,zq1,zq2,zq3,zq4,zq5]
               refine wpAnyH_take (i:=28) (v:=?_) rfl (by kernel_rfl) (by kernel_rfl) (by kernel_rfl) (fun _ _ _ h=>h) (Or.inr ⟨by rfl,?_⟩) hS ?_
               rotate_left
               · rfl
               rotate_left
               simp only [Act.put,zq0,zq1,zq2,zq3,zq4,zq5]
               refine wpAnyH_take (i:=29) (v:=?_) rfl (by kernel_rfl) (by kernel_rfl) (by kernel_rfl) (fun _ _ _ h=>h) (Or.inr ⟨by rfl,?_⟩) hS ?_
               rotate_left
               · rfl
               rotate_left
               simp only [Act.put,zq0,zq1,zq2,zq3,zq4,zq5]
               refine wpAnyH_take (i:=30) (v:=?_) rfl (by kernel_rfl) (by kernel_rfl) (by kernel_rfl) (fun _ _ _ h=>h) (Or.inr ⟨by rfl,?_⟩) hS ?_
               rotate_left
               · rfl
               rotate_left
               simp only [Act.put,zq0,zq1,zq2,zq3,zq4,zq5]
               refine wpAnyH_take (i:=31) (v:=?_) rfl (by kernel_rfl) (by kernel_rfl) (by kernel_rfl) (fun _ _ _ h=>h) (Or.inl ⟨by rfl,?_⟩) hS ?_
               rotate_left
               · (intro w hSw;(try dsimp only at hSw);go_simp;(try with_reducible rfl))
               rotate_left
               simp only [Act.put,zq0,zq1,zq2,zq3,zq4,zq5]
               refine wpAnyH_done (by kernel_rfl) ?_ _
               have bH:=hS.1
               clear hS
               go_wp2
               go_ret
               exact ⟨YesNo.no fun h=>by have h2:=(HGK.out.1 (h.goes j)).1.1;have:=of_decide_eq_true e1;omega,Ext.trans b6 bH⟩
             · by_cases h0 : 0 < j
               · have HPV:=Lib.hid (hpv2.out h0)
                 have HPK : Hid (PrevOk gs j (nuOf g) ↔ nuOf (gs[j-1]'(by have:=HLJ.out;omega)) < nuOf g):=⟨fun h=>h _ h0,fun h _ _=>h⟩
                 generalize nuOf (gs[j-1]'(by have:=HLJ.out;omega)) = pv at *
                 have e2 : decide ((0 : Int) < (j : Int)) = true:=decide_eq_true (by omega)
                 have hw1 : wrap64 ((j : Int) - 1) = ((j - 1 : Nat) : Int):=prev_wrap HGM.out HLJ.out h0
                 have hw2 : IntKind.i64.wrap ((j : Int) - 1) = ((j - 1 : Nat) : Int):=(by rw [IntWalk.i64_in _ (by have h1:=HGM.out;have h2:=HLJ.out;unfold maxLen at h1;omega)];omega)
                 have hix : ((j - 1 : Nat) : Int) < (gs.length : Int):=(by have:=HLJ.out;omega)
                 rcases Bool.eq_false_or_eq_true (decide (nuOf g ≤ pv)) with e3 | e3
                 · have HS : Hid (∀ w',Below Wg.heap.size Wg w' → (Below Wg.heap.size Wg w' ∧ (∀ o,w'.cell? ⟨w.heap.size,o,none⟩ = #[.int .u32 (id : Int),.int .i64 m,.int .i64 c,.int .i64 r,.int .i64 l,.int .i64 h].toList[o]?) ∧ (∀ o,w'.cell? ⟨w.heap.size + 1,o,none⟩ = #[.slice A ys.length ca,.slice (some ⟨b,off,none⟩) gs.length cb].toList[o]?) ∧ (∀ o,w'.cell? ⟨gn,o,none⟩ = #[.int .i64 (nuOf g),.int .u8 ((kiOf g).toNat : Int),.int .i64 (atOf g),.int .i64 (manyOf g),.slice Ab (datOf g).length cg,.slice Am (mksOf g).length cm].toList[o]?) ∧ w'.cell? ⟨b,off + (j - 1) * 6,none⟩ = some (.int .i64 pv))):=fun w' b=>⟨b,(C2.next b).cell,(P2.next b).cell,(GN.next b).cell,HPV.out _ b⟩
                   refine wp_region_held_drew (S:=fun w'=>Below Wg.heap.size Wg w' ∧ (∀ o,w'.cell? ⟨w.heap.size,o,none⟩ = #[.int .u32 (id : Int),.int .i64 m,.int .i64 c,.int .i64 r,.int .i64 l,.int .i64 h].toList[o]?) ∧ (∀ o,w'.cell? ⟨w.heap.size + 1,o,none⟩ = #[.slice A ys.length ca,.slice (some ⟨b,off,none⟩) gs.length cb].toList[o]?) ∧ (∀ o,w'.cell? ⟨gn,o,none⟩ = #[.int .i64 (nuOf g),.int .u8 ((kiOf g).toNat : Int),.int .i64 (atOf g),.int .i64 (manyOf g),.slice Ab (datOf g).length cg,.slice Am (mksOf g).length cm].toList[o]?) ∧ w'.cell? ⟨b,off + (j - 1) * 6,none⟩ = some (.int .i64 pv)) (by kernel_rfl) (HS.out _ (Ext.drew (Below.refl _ _))) (fun hS=>?_)
                   refine wpAnyH_take (i:=0) (v:=?_) rfl (by kernel_rfl) (by kernel_rfl) (by kernel_rfl) (fun _ _ _ h=>h) (Or.inl ⟨by rfl,?_⟩) hS ?_
                   rotate_left
                   · (intro w hSw;(try dsimp only at hSw);go_simp;(try with_reducible rfl))
                   rotate_left
                   simp only [Act.put,zq0,zq1,zq2,zq3,zq4,zq5]
                   refine wpAnyH_take (i:=1) (v:=?_) rfl (by kernel_rfl) (by kernel_rfl) (by kernel_rfl) (fun _ _ _ h=>h) (Or.inl ⟨by rfl,?_⟩) hS ?_
                   rotate_left
                   · (intro w hSw;(try dsimp only at hSw);go_simp;(try with_reducible rfl))
                   rotate_left
                   simp only [Act.put,zq0,zq1,zq2,zq3,zq4,zq5]
                   refine wpAnyH_take (i:=2) (v:=?_) rfl (by kernel_rfl) (by kernel_rfl) (by kernel_rfl) (fun _ _ _ h=>h) (Or.inl ⟨by rfl,?_⟩) hS ?_
                   rotate_left
                   · (intro w hSw;(try dsimp only at hSw);go_simp;(try with_reducible rfl))
                   rotate_left
                   simp only [Act.put,zq0,zq1,zq2,zq3,zq4,zq5]
                   refine wpAnyH_take (i:=3) (v:=?_) rfl (by kernel_rfl) (by kernel_rfl) (by kernel_rfl) (fun _ _ _ h=>h) (Or.inl ⟨by rfl,?_⟩) hS ?_
                   rotate_left
                   · (intro w hSw;(try dsimp only at hSw);go_simp;(try with_reducible rfl))
                   rotate_left
                   simp only [Act.put,zq0,zq1,zq2,zq3,zq4,zq5]
                   refine wpAnyH_take (i:=4) (v:=?_) rfl (by kernel_rfl) (by kernel_rfl) (by kernel_rfl) (fun _ _ _ h=>h) (Or.inl ⟨by rfl,?_⟩) hS ?_
                   rotate_left
                   · (intro w hSw;(try dsimp only at hSw);go_simp;(try with_reducible rfl))
                   rotate_left
                   simp only [Act.put,zq0,zq1,zq2,zq3,zq4,zq5]
                   refine wpAnyH_take (i:=5) (v:=?_) rfl (by kernel_rfl) (by kernel_rfl) (by kernel_rfl) (fun _ _ _ h=>h) (Or.inl ⟨by rfl,?_⟩) hS ?_
                   rotate_left
                   · (intro w hSw;(try dsimp only at hSw);go_simp;(try with_reducible rfl))
                   rotate_left
                   simp only [Act.put,zq0,zq1,zq2,zq3,zq4,zq5]
                   refine wpAnyH_take (i:=6) (v:=?_) rfl (by kernel_rfl) (by kernel_rfl) (by kernel_rfl) (fun _ _ _ h=>h) (Or.inl ⟨by rfl,?_⟩) hS ?_
                   rotate_left
                   · (intro w hSw;(try dsimp only at hSw);go_simp;(try with_reducible rfl))
                   rotate_left
                   simp only [Act.put,zq0,zq1,zq2,zq3,zq4,zq5]
                   refine wpAnyH_take (i:=7) (v:=?_) rfl (by kernel_rfl) (by kernel_rfl) (by kernel_rfl) (fun _ _ _ h=>h) (Or.inl ⟨by rfl,?_⟩) hS ?_
                   rotate_left
                   · (intro w hSw;(try dsimp only at hSw);go_simp;(try with_reducible rfl))
                   rotate_left
                   simp only [Act.put,zq0,zq1,zq2,zq3,zq4,zq5]
                   refine wpAnyH_take (i:=8) (v:=?_) rfl (by kernel_rfl) (by kernel_rfl) (by kernel_rfl) (fun _ _ _ h=>h) (Or.inl ⟨by rfl,?_⟩) hS ?_
                   rotate_left
                   · (intro w hSw;(try dsimp only at hSw);go_simp;(try with_reducible rfl))
                   rotate_left
                   simp only [Act.put,zq0,zq1,zq2,zq3,zq4,zq5]
                   refine wpAnyH_take (i:=9) (v:=?_) rfl (by kernel_rfl) (by kernel_rfl) (by kernel_rfl) (fun _ _ _ h=>h) (Or.inl ⟨by rfl,?_⟩) hS ?_
                   rotate_left
                   · (intro w hSw;(try dsimp only at hSw);go_simp;(try with_reducible rfl))
                   rotate_left
                   simp only [Act.put,zq0,zq1,zq2,zq3,zq4,zq5]
                   refine wpAnyH_take (i:=10) (v:=?_) rfl (by kernel_rfl) (by kernel_rfl) (by kernel_rfl) (fun _ _ _ h=>h) (Or.inl ⟨by rfl,?_⟩) hS ?_
                   rotate_left
                   · (intro w hSw;(try dsimp only at hSw);go_simp;(try with_reducible rfl))
                   rotate_left
                   simp only [Act.put,zq0,zq1,zq2,zq3,zq4,zq5]
                   refine wpAnyH_take (i:=11) (v:=?_) rfl (by kernel_rfl) (by kernel_rfl) (by kernel_rfl) (fun _ _ _ h=>h) (Or.inl ⟨by rfl,?_⟩) hS ?_
                   rotate_left
                   · (intro w hSw;(try dsimp only at hSw);go_simp;(try with_reducible rfl))
                   rotate_left
                   simp only [Act.put,zq0,zq1,zq2,zq3,zq4,zq5]
                   refine wpAnyH_take (i:=12) (v:=?_) rfl (by kernel_rfl) (by kernel_rfl) (by kernel_rfl) (fun _ _ _ h=>h) (Or.inl ⟨by rfl,?_⟩) hS ?_
                   rotate_left
                   · (intro w hSw;(try dsimp only at hSw);go_simp;(try with_reducible rfl))
                   rotate_left
                   simp only [Act.put,zq0,zq1,zq2,zq3,zq4,zq5]
                   refine wpAnyH_take (i:=13) (v:=?_) rfl (by kernel_rfl) (by kernel_rfl) (by kernel_rfl) (fun _ _ _ h=>h) (Or.inl ⟨by rfl,?_⟩) hS ?_
                   rotate_left
                   · (intro w hSw;(try dsimp only at hSw);go_simp;(try with_reducible rfl))
                   rotate_left
                   simp only [Act.put,zq0,zq1,zq2,zq3,zq4,zq5]
                   refine wpAnyH_take (i:=14) (v:=?_) rfl (by kernel_rfl) (by kernel_rfl) (by kernel_rfl) (fun _ _ _ h=>h) (Or.inl ⟨by rfl,?_⟩) hS ?_
                   rotate_left
                   · (intro w hSw;(try dsimp only at hSw);go_simp;(try with_reducible rfl))
                   rotate_left
                   simp only [Act.put,zq0,zq1,zq2,zq3,zq4,zq5]
                   refine wpAnyH_take (i:=15) (v:=?_) rfl (by kernel_rfl) (by kernel_rfl) (by kernel_rfl) (fun _ _ _ h=>h) (Or.inl ⟨by rfl,?_⟩) hS ?_
                   rotate_left
                   · (intro w hSw;(try dsimp only at hSw);go_simp;(try with_reducible rfl))
                   rotate_left
                   simp only [Act.put,zq0,zq1,zq2,zq3,zq4,zq5]
                   refine wpAnyH_take (i:=16) (v:=?_) rfl (by kernel_rfl) (by kernel_rfl) (by kernel_rfl) (fun _ _ _ h=>h) (Or.inl ⟨by rfl,?_⟩) hS ?_
                   rotate_left
                   · (intro w hSw;(try dsimp only at hSw);go_simp;(try with_reducible rfl))
                   rotate_left
                   simp only [Act.put,zq0,zq1,zq2,zq3,zq4,zq5]
                   refine wpAnyH_take (i:=17) (v:=?_) rfl (by kernel_rfl) (by kernel_rfl) (by kernel_rfl) (fun _ _ _ h=>h) (Or.inl ⟨by rfl,?_⟩) hS ?_
                   rotate_left
                   · (intro w hSw;(try dsimp only at hSw);go_simp;(try with_reducible rfl))
                   rotate_left
                   simp only [Act.put,zq0,zq1,zq2,zq3,zq4,zq5]
                   refine wpAnyH_take (i:=18) (v:=?_) rfl (by kernel_rfl) (by kernel_rfl) (by kernel_rfl) (fun _ _ _ h=>h) (Or.inl ⟨by rfl,?_⟩) hS ?_
                   rotate_left
                   · (intro w hSw;(try dsimp only at hSw);go_simp;(try with_reducible rfl))
                   rotate_left
                   simp only [Act.put,zq0,zq1,zq2,zq3,zq4,zq5]
                   refine wpAnyH_take (i:=19) (v:=?_) rfl (by kernel_rfl) (by kernel_rfl) (by kernel_rfl) (fun _ _ _ h=>h) (Or.inl ⟨by rfl,?_⟩) hS ?_
                   rotate_left
                   · (intro w hSw;(try dsimp only at hSw);go_simp;(try with_reducible rfl))
                   rotate_left
                   simp only [Act.put,zq0,zq1,zq2,zq3,zq4,zq5]
                   refine wpAnyH_take (i:=20) (v:=?_) rfl (by kernel_rfl) (by kernel_rfl) (by kernel_rfl) (fun _ _ _ h=>h) (Or.inr ⟨by rfl,?_⟩) hS ?_
                   rotate_left
                   · rfl
                   rotate_left
                   simp only [Act.put,zq0,zq1,zq2,zq3,zq4,zq5]
                   refine wpAnyH_take (i:=21) (v:=?_) rfl (by kernel_rfl) (by kernel_rfl) (by kernel_rfl) (fun _ _ _ h=>h) (Or.inr ⟨by rfl,?_⟩) hS ?_
                   rotate_left
                   · rfl
                   rotate_left
                   simp only [Act.put,zq0,zq1,zq2,zq3,zq4,zq5]
                   refine wpAnyH_take (i:=22) (v:=?_) rfl (by kernel_rfl) (by kernel_rfl) (by kernel_rfl) (fun _ _ _ h=>h) (Or.inr ⟨by rfl,?_⟩) hS ?_
                   rotate_left
                   · rfl
                   rotate_left
                   simp only [Act.put,zq0,zq1,zq2,zq3,zq4,zq5]
                   refine wpAnyH_take (i:=23) (v:=?_) rfl (by kernel_rfl) (by kernel_rfl) (by kernel_rfl) (fun _ _ _ h=>h) (Or.inr ⟨by rfl,?_⟩) hS ?_
                   rotate_left
                   · rfl
                   rotate_left
                   simp only [Act.put,zq0,zq1,zq2,zq3,zq4,zq5]
                   refine wpAnyH_take (i:=24) (v:=?_) rfl (by kernel_rfl) (by kernel_rfl) (by kernel_rfl) (fun _ _ _ h=>h) (Or.inr ⟨by rfl,?_⟩) hS ?_
                   rotate_left
                   · rfl
                   rotate_left
                   simp only [Act.put,zq0,zq1,zq2,zq3,zq4,zq5]
                   refine wpAnyH_take (i:=25) (v:=?_) rfl (by kernel_rfl) (by kernel_rfl) (by kernel_rfl) (fun _ _ _ h=>h) (Or.inl ⟨by rfl,?_⟩) hS ?_
                   rotate_left
                   · (intro w hSw;(try dsimp only at hSw);go_simp;(try with_reducible rfl))
                   rotate_left
                   simp only [Act.put,zq0,zq1,zq2,zq3,zq4,zq5]
                   refine wpAnyH_take (i:=26) (v:=?_) rfl (by kernel_rfl) (by kernel_rfl) (by kernel_rfl) (fun _ _ _ h=>h) (Or.inl ⟨by rfl,?_⟩) hS ?_
                   rotate_left
                   · (intro w hSw;(try dsimp only at hSw);go_simp;(try with_reducible rfl))
                   rotate_left
                   simp only [Act.put,zq0,zq1,zq2,zq3,zq4,zq5]
                   refine wpAnyH_take (i:=27) (v:=?_) rfl (by kernel_rfl) (by kernel_rfl) (by kernel_rfl) (fun _ _ _ h=>h) (Or.inr ⟨by rfl,?_⟩) hS ?_
                   rotate_left
                   · rfl
                   rotate_left
                   simp only [Act.put,zq0,zq1,zq2,zq3,zq4,zq5]
                   refine wpAnyH_take (i:=28) (v:=?_) rfl (by kernel_rfl) (by kernel_rfl) (by kernel_rfl) (fun _ _ _ h=>h) (Or.inr ⟨by rfl,?_⟩) hS ?_
                   rotate_left
                   · rfl
                   rotate_left
                   simp only [Act.put,zq0,zq1,zq2,zq3,zq4,zq5]
                   refine wpAnyH_take (i:=29) (v:=?_) rfl (by kernel_rfl) (by kernel_rfl) (by kernel_rfl) (fun _ _ _ h=>h) (Or.inr ⟨by rfl,?_⟩) hS ?_
                   rotate_left
                   · rfl
                   rotate_left
                   simp only [Act.put,zq0,zq1,zq2,zq3,zq4,zq5]
                   refine wpAnyH_take (i:=30) (v:=?_) rfl (by kernel_rfl) (by kernel_rfl) (by kernel_rfl) (fun _ _ _ h=>h) (Or.inr ⟨by rfl,?_⟩) hS ?_
                   rotate_left
                   · rfl
                   rotate_left
                   simp only [Act.put,zq0,zq1,zq2,zq3,zq4,zq5]
                   refine wpAnyH_take (i:=31) (v:=?_) rfl (by kernel_rfl) (by kernel_rfl) (by kernel_rfl) (fun _ _ _ h=>h) (Or.inl ⟨by rfl,?_⟩) hS ?_
                   rotate_left
                   · (intro w hSw;(try dsimp only at hSw);go_simp;(try with_reducible rfl))
                   rotate_left
                   simp only [Act.put,zq0,zq1,zq2,zq3,zq4,zq5]
                   refine wpAnyH_done (by kernel_rfl) ?_ _
                   have bH:=hS.1
                   clear hS
                   go_wp2
                   go_ret
                   exact ⟨YesNo.no fun h=>by have h2:=HPK.out.1 (HGK.out.1 (h.goes j)).2;have:=of_decide_eq_true e3;omega,Ext.trans b6 bH⟩
                 · have e5:=of_decide_eq_false e3
                   have HP5:=Lib.hid e5
                   clear e5
                   rcases Bool.eq_false_or_eq_true (askCode (Cfg.mk id m c r l h) ((kiOf g).toNat : Int) (atOf g) (manyOf g) (datOf g).length != 0) with e4 | e4
                   · have HS : Hid (∀ w',Below Wg.heap.size Wg w' → (Below Wg.heap.size Wg w' ∧ (∀ o,w'.cell? ⟨w.heap.size,o,none⟩ = #[.int .u32 (id : Int),.int .i64 m,.int .i64 c,.int .i64 r,.int .i64 l,.int .i64 h].toList[o]?) ∧ (∀ o,w'.cell? ⟨w.heap.size + 1,o,none⟩ = #[.slice A ys.length ca,.slice (some ⟨b,off,none⟩) gs.length cb].toList[o]?) ∧ (∀ o,w'.cell? ⟨gn,o,none⟩ = #[.int .i64 (nuOf g),.int .u8 ((kiOf g).toNat : Int),.int .i64 (atOf g),.int .i64 (manyOf g),.slice Ab (datOf g).length cg,.slice Am (mksOf g).length cm].toList[o]?) ∧ w'.cell? ⟨b,off + (j - 1) * 6,none⟩ = some (.int .i64 pv))):=fun w' b=>⟨b,(C2.next b).cell,(P2.next b).cell,(GN.next b).cell,HPV.out _ b⟩
                     refine wp_region_held_drew (S:=fun w'=>Below Wg.heap.size Wg w' ∧ (∀ o,w'.cell? ⟨w.heap.size,o,none⟩ = #[.int .u32 (id : Int),.int .i64 m,.int .i64 c,.int .i64 r,.int .i64 l,.int .i64 h].toList[o]?) ∧ (∀ o,w'.cell? ⟨w.heap.size + 1,o,none⟩ = #[.slice A ys.length ca,.slice (some ⟨b,off,none⟩) gs.length cb].toList[o]?) ∧ (∀ o,w'.cell? ⟨gn,o,none⟩ = #[.int .i64 (nuOf g),.int .u8 ((kiOf g).toNat : Int),.int .i64 (atOf g),.int .i64 (manyOf g),.slice Ab (datOf g).length cg,.slice Am (mksOf g).length cm].toList[o]?) ∧ w'.cell? ⟨b,off + (j - 1) * 6,none⟩ = some (.int .i64 pv)) (by kernel_rfl) (HS.out _ (Ext.drew (Below.refl _ _))) (fun hS=>?_)
                     refine wpAnyH_take (i:=0) (v:=?_) rfl (by kernel_rfl) (by kernel_rfl) (by kernel_rfl) (fun _ _ _ h=>h) (Or.inl ⟨by rfl,?_⟩) hS ?_
                     rotate_left
                     · (intro w hSw;(try dsimp only at hSw);go_simp;(try with_reducible rfl))
                     rotate_left
                     simp only [Act.put,zq0,zq1,zq2,zq3,zq4,zq5]
                     refine wpAnyH_take (i:=1) (v:=?_) rfl (by kernel_rfl) (by kernel_rfl) (by kernel_rfl) (fun _ _ _ h=>h) (Or.inl ⟨by rfl,?_⟩) hS ?_
                     rotate_left
                     · (intro w hSw;(try dsimp only at hSw);go_simp;(try with_reducible rfl))
                     rotate_left
                     simp only [Act.put,zq0,zq1,zq2,zq3,zq4,zq5]
                     refine wpAnyH_take (i:=2) (v:=?_) rfl (by kernel_rfl) (by kernel_rfl) (by kernel_rfl) (fun _ _ _ h=>h) (Or.inl ⟨by rfl,?_⟩) hS ?_
                     rotate_left
                     · (intro w hSw;(try dsimp only at hSw);go_simp;(try with_reducible rfl))
                     rotate_left
                     simp only [Act.put,zq0,zq1,zq2,zq3,zq4,zq5]
                     refine wpAnyH_take (i:=3) (v:=?_) rfl (by kernel_rfl) (by kernel_rfl) (by kernel_rfl) (fun _ _ _ h=>h) (Or.inl ⟨by rfl,?_⟩) hS ?_
                     rotate_left
                     · (intro w hSw;(try dsimp only at hSw);go_simp;(try with_reducible rfl))
                     rotate_left
                     simp only [Act.put,zq0,zq1,zq2,zq3,zq4,zq5]
                     refine wpAnyH_take (i:=4) (v:=?_) rfl (by kernel_rfl) (by kernel_rfl) (by kernel_rfl) (fun _ _ _ h=>h) (Or.inl ⟨by rfl,?_⟩) hS ?_
                     rotate_left
                     · (intro w hSw;(try dsimp only at hSw);go_simp;(try with_reducible rfl))
                     rotate_left
                     simp only [Act.put,zq0,zq1,zq2,zq3,zq4,zq5]
                     refine wpAnyH_take (i:=5) (v:=?_) rfl (by kernel_rfl) (by kernel_rfl) (by kernel_rfl) (fun _ _ _ h=>h) (Or.inl ⟨by rfl,?_⟩) hS ?_
                     rotate_left
                     · (intro w hSw;(try dsimp only at hSw);go_simp;(try with_reducible rfl))
                     rotate_left
                     simp only [Act.put,zq0,zq1,zq2,zq3,zq4,zq5]
                     refine wpAnyH_take (i:=6) (v:=?_) rfl (by kernel_rfl) (by kernel_rfl) (by kernel_rfl) (fun _ _ _ h=>h) (Or.inl ⟨by rfl,?_⟩) hS ?_
                     rotate_left
                     · (intro w hSw;(try dsimp only at hSw);go_simp;(try with_reducible rfl))
                     rotate_left
                     simp only [Act.put,zq0,zq1,zq2,zq3,zq4,zq5]
                     refine wpAnyH_take (i:=7) (v:=?_) rfl (by kernel_rfl) (by kernel_rfl) (by kernel_rfl) (fun _ _ _ h=>h) (Or.inl ⟨by rfl,?_⟩) hS ?_
                     rotate_left
                     · (intro w hSw;(try dsimp only at hSw);go_simp;(try with_reducible rfl))
                     rotate_left
                     simp only [Act.put,zq0,zq1,zq2,zq3,zq4,zq5]
                     refine wpAnyH_take (i:=8) (v:=?_) rfl (by kernel_rfl) (by kernel_rfl) (by kernel_rfl) (fun _ _ _ h=>h) (Or.inl ⟨by rfl,?_⟩) hS ?_
                     rotate_left
                     · (intro w hSw;(try dsimp only at hSw);go_simp;(try with_reducible rfl))
                     rotate_left
                     simp only [Act.put,zq0,zq1,zq2,zq3,zq4,zq5]
                     refine wpAnyH_take (i:=9) (v:=?_) rfl (by kernel_rfl) (by kernel_rfl) (by kernel_rfl) (fun _ _ _ h=>h) (Or.inl ⟨by rfl,?_⟩) hS ?_
                     rotate_left
                     · (intro w hSw;(try dsimp only at hSw);go_simp;(try with_reducible rfl))
                     rotate_left
                     simp only [Act.put,zq0,zq1,zq2,zq3,zq4,zq5]
                     refine wpAnyH_take (i:=10) (v:=?_) rfl (by kernel_rfl) (by kernel_rfl) (by kernel_rfl) (fun _ _ _ h=>h) (Or.inl ⟨by rfl,?_⟩) hS ?_
                     rotate_left
                     · (intro w hSw;(try dsimp only at hSw);go_simp;(try with_reducible rfl))
                     rotate_left
                     simp only [Act.put,zq0,zq1,zq2,zq3,zq4,zq5]
                     refine wpAnyH_take (i:=11) (v:=?_) rfl (by kernel_rfl) (by kernel_rfl) (by kernel_rfl) (fun _ _ _ h=>h) (Or.inl ⟨by rfl,?_⟩) hS ?_
                     rotate_left
                     · (intro w hSw;(try dsimp only at hSw);go_simp;(try with_reducible rfl))
                     rotate_left
                     simp only [Act.put,zq0,zq1,zq2,zq3,zq4,zq5]
                     refine wpAnyH_take (i:=12) (v:=?_) rfl (by kernel_rfl) (by kernel_rfl) (by kernel_rfl) (fun _ _ _ h=>h) (Or.inl ⟨by rfl,?_⟩) hS ?_
                     rotate_left
                     · (intro w hSw;(try dsimp only at hSw);go_simp;(try with_reducible rfl))
                     rotate_left
                     simp only [Act.put,zq0,zq1,zq2,zq3,zq4,zq5]
                     refine wpAnyH_take (i:=13) (v:=?_) rfl (by kernel_rfl) (by kernel_rfl) (by kernel_rfl) (fun _ _ _ h=>h) (Or.inl ⟨by rfl,?_⟩) hS ?_
                     rotate_left
                     · (intro w hSw;(try dsimp only at hSw);go_simp;(try with_reducible rfl))
                     rotate_left
                     simp only [Act.put,zq0,zq1,zq2,zq3,zq4,zq5]
                     refine wpAnyH_take (i:=14) (v:=?_) rfl (by kernel_rfl) (by kernel_rfl) (by kernel_rfl) (fun _ _ _ h=>h) (Or.inl ⟨by rfl,?_⟩) hS ?_
                     rotate_left
                     · (intro w hSw;(try dsimp only at hSw);go_simp;(try with_reducible rfl))
                     rotate_left
                     simp only [Act.put,zq0,zq1,zq2,zq3,zq4,zq5]
                     refine wpAnyH_take (i:=15) (v:=?_) rfl (by kernel_rfl) (by kernel_rfl) (by kernel_rfl) (fun _ _ _ h=>h) (Or.inl ⟨by rfl,?_⟩) hS ?_
                     rotate_left
                     · (intro w hSw;(try dsimp only at hSw);go_simp;(try with_reducible rfl))
                     rotate_left
                     simp only [Act.put,zq0,zq1,zq2,zq3,zq4,zq5]
                     refine wpAnyH_take (i:=16) (v:=?_) rfl (by kernel_rfl) (by kernel_rfl) (by kernel_rfl) (fun _ _ _ h=>h) (Or.inl ⟨by rfl,?_⟩) hS ?_
                     rotate_left
                     · (intro w hSw;(try dsimp only at hSw);go_simp;(try with_reducible rfl))
                     rotate_left
                     simp only [Act.put,zq0,zq1,zq2,zq3,zq4,zq5]
                     refine wpAnyH_take (i:=17) (v:=?_) rfl (by kernel_rfl) (by kernel_rfl) (by kernel_rfl) (fun _ _ _ h=>h) (Or.inl ⟨by rfl,?_⟩) hS ?_
                     rotate_left
                     · (intro w hSw;(try dsimp only at hSw);go_simp;(try with_reducible rfl))
                     rotate_left
                     simp only [Act.put,zq0,zq1,zq2,zq3,zq4,zq5]
                     refine wpAnyH_take (i:=18) (v:=?_) rfl (by kernel_rfl) (by kernel_rfl) (by kernel_rfl) (fun _ _ _ h=>h) (Or.inl ⟨by rfl,?_⟩) hS ?_
                     rotate_left
                     · (intro w hSw;(try dsimp only at hSw);go_simp;(try with_reducible rfl))
                     rotate_left
                     simp only [Act.put,zq0,zq1,zq2,zq3,zq4,zq5]
                     refine wpAnyH_take (i:=19) (v:=?_) rfl (by kernel_rfl) (by kernel_rfl) (by kernel_rfl) (fun _ _ _ h=>h) (Or.inl ⟨by rfl,?_⟩) hS ?_
                     rotate_left
                     · (intro w hSw;(try dsimp only at hSw);go_simp;(try with_reducible rfl))
                     rotate_left
                     simp only [Act.put,zq0,zq1,zq2,zq3,zq4,zq5]
                     refine wpAnyH_take (i:=20) (v:=?_) rfl (by kernel_rfl) (by kernel_rfl) (by kernel_rfl) (fun _ _ _ h=>h) (Or.inl ⟨by rfl,?_⟩) hS ?_
                     rotate_left
                     · (intro w hSw;(try dsimp only at hSw);go_simp;(try with_reducible rfl))
                     rotate_left
                     simp only [Act.put,zq0,zq1,zq2,zq3,zq4,zq5]
                     refine wpAnyH_take (i:=21) (v:=?_) rfl (by kernel_rfl) (by kernel_rfl) (by kernel_rfl) (fun _ _ _ h=>h) (Or.inl ⟨by rfl,?_⟩) hS ?_
                     rotate_left
                     · (intro w hSw;(try dsimp only at hSw);go_simp;(try with_reducible rfl))
                     rotate_left
                     simp only [Act.put,zq0,zq1,zq2,zq3,zq4,zq5]
                     refine wpAnyH_take (i:=22) (v:=?_) rfl (by kernel_rfl) (by kernel_rfl) (by kernel_rfl) (fun _ _ _ h=>h) (Or.inl ⟨by rfl,?_⟩) hS ?_
                     rotate_left
                     · (intro w hSw;(try dsimp only at hSw);go_simp;(try with_reducible rfl))
                     rotate_left
                     simp only [Act.put,zq0,zq1,zq2,zq3,zq4,zq5]
                     refine wpAnyH_ready (rs:=[23]) (by kernel_rfl) (by simp) ?_
                     refine AllReadyH.cons rfl (fun K hK=>?_) AllReadyH.nil
                     rw [if_pos (by rfl)]
                     go_simp
                     refine (HC.out _ _ _ _ _ _ _).mono ?_
                     rintro e w3 ⟨rfl,k3⟩
                     refine hK.out _ _ (HS.out _ (Ext.trans hS.1 k3)) (fun hS'=>?_)
                     clear hK K hS k3
                     have hS:=hS'
                     clear hS'
                     try simp only [Act.put,zq0,zq1,zq2,zq3,zq4,zq5]
                     refine wpAnyH_take (i:=24) (v:=?_) rfl (by kernel_rfl) (by kernel_rfl) (by kernel_rfl) (fun _ _ _ h=>h) (Or.inl ⟨by rfl,?_⟩) hS ?_
                     rotate_left
                     · (intro w hSw;(try dsimp only at hSw);go_simp;(try with_reducible rfl))
                     rotate_left
                     simp only [Act.put,zq0,zq1,zq2,zq3,zq4,zq5]
                     refine wpAnyH_take (i:=25) (v:=?_) rfl (by kernel_rfl) (by kernel_rfl) (by kernel_rfl) (fun _ _ _ h=>h) (Or.inl ⟨by rfl,?_⟩) hS ?_
                     rotate_left
                     · (intro w hSw;(try dsimp only at hSw);go_simp;(try with_reducible rfl))
                     rotate_left
                     simp only [Act.put,zq0,zq1,zq2,zq3,zq4,zq5]
                     refine wpAnyH_take (i:=26) (v:=?_) rfl (by kernel_rfl) (by kernel_rfl) (by kernel_rfl) (fun _ _ _ h=>h) (Or.inl ⟨by rfl,?_⟩) hS ?_
                     rotate_left
                     · (intro w hSw;(try dsimp only at hSw);go_simp;(try with_reducible rfl))
                     rotate_left
                     simp only [Act.put,zq0,zq1,zq2,zq3,zq4,zq5]
                     refine wpAnyH_take (i:=27) (v:=?_) rfl (by kernel_rfl) (by kernel_rfl) (by kernel_rfl) (fun _ _ _ h=>h) (Or.inr ⟨by rfl,?_⟩) hS ?_
                     rotate_left
                     · rfl
                     rotate_left
                     simp only [Act.put,zq0,zq1,zq2,zq3,zq4,zq5]
                     refine wpAnyH_take (i:=28) (v:=?_) rfl (by kernel_rfl) (by kernel_rfl) (by kernel_rfl) (fun _ _ _ h=>h) (Or.inr ⟨by rfl,?_⟩) hS ?_
                     rotate_left
                     · rfl
                     rotate_left
                     simp only [Act.put,zq0,zq1,zq2,zq3,zq4,zq5]
                     refine wpAnyH_take (i:=29) (v:=?_) rfl (by kernel_rfl) (by kernel_rfl) (by kernel_rfl) (fun _ _ _ h=>h) (Or.inr ⟨by rfl,?_⟩) hS ?_
                     rotate_left
                     · rfl
                     rotate_left
                     simp only [Act.put,zq0,zq1,zq2,zq3,zq4,zq5]
                     refine wpAnyH_take (i:=30) (v:=?_) rfl (by kernel_rfl) (by kernel_rfl) (by kernel_rfl) (fun _ _ _ h=>h) (Or.inr ⟨by rfl,?_⟩) hS ?_
                     rotate_left
                     · rfl
                     rotate_left
                     simp only [Act.put,zq0,zq1,zq2,zq3,zq4,zq5]
                     refine wpAnyH_take (i:=31) (v:=?_) rfl (by kernel_rfl) (by kernel_rfl) (by kernel_rfl) (fun _ _ _ h=>h) (Or.inl ⟨by rfl,?_⟩) hS ?_
                     rotate_left
                     · (intro w hSw;(try dsimp only at hSw);go_simp;(try with_reducible rfl))
                     rotate_left
                     simp only [Act.put,zq0,zq1,zq2,zq3,zq4,zq5]
                     refine wpAnyH_done (by kernel_rfl) ?_ _
                     have bH:=hS.1
                     clear hS
                     go_wp2
                     go_ret
                     exact ⟨YesNo.no fun h=>by have h2:=(HGK.out.1 (h.goes j)).1.2.1;rw [h2] at e4;simp at e4,Ext.trans b6 bH⟩
                   · cases bm with
                     | false=>
                       have HMK : Hid (∀ w',Below Wg.heap.size Wg w' → Calls Try.prog 70 #[.agg #[.slice A ys.length ca,.slice (some ⟨b,off,none⟩) gs.length cb],.agg #[.int .i64 (nuOf g),.int .u8 ((kiOf g).toNat : Int),.int .i64 (atOf g),.int .i64 (manyOf g),.slice Ab (datOf g).length cg,.slice Am (mksOf g).length cm]] w' fun e w''=>e = .returned (.bool false) ∧ Below w'.heap.size w' w''):=fun w' bb=>(rmarks_any S S ys A ca (some ⟨b,off,none⟩) gs.length cb _ _ _ _ Ab _ cg (mksOf g) Am cm w' (HY2.out.below bb) (HRM2.out.below bb)).mono fun e w'' h=>⟨h.1.is HBM.out,h.2⟩
                       have HS : Hid (∀ w',Below Wg.heap.size Wg w' → (Below Wg.heap.size Wg w' ∧ (∀ o,w'.cell? ⟨w.heap.size,o,none⟩ = #[.int .u32 (id : Int),.int .i64 m,.int .i64 c,.int .i64 r,.int .i64 l,.int .i64 h].toList[o]?) ∧ (∀ o,w'.cell? ⟨w.heap.size + 1,o,none⟩ = #[.slice A ys.length ca,.slice (some ⟨b,off,none⟩) gs.length cb].toList[o]?) ∧ (∀ o,w'.cell? ⟨gn,o,none⟩ = #[.int .i64 (nuOf g),.int .u8 ((kiOf g).toNat : Int),.int .i64 (atOf g),.int .i64 (manyOf g),.slice Ab (datOf g).length cg,.slice Am (mksOf g).length cm].toList[o]?) ∧ w'.cell? ⟨b,off + (j - 1) * 6,none⟩ = some (.int .i64 pv))):=fun w' b=>⟨b,(C2.next b).cell,(P2.next b).cell,(GN.next b).cell,HPV.out _ b⟩
                       refine wp_region_held_drew (S:=fun w'=>Below Wg.heap.size Wg w' ∧ (∀ o,w'.cell? ⟨w.heap.size,o,none⟩ = #[.int .u32 (id : Int),.int .i64 m,.int .i64 c,.int .i64 r,.int .i64 l,.int .i64 h].toList[o]?) ∧ (∀ o,w'.cell? ⟨w.heap.size + 1,o,none⟩ = #[.slice A ys.length ca,.slice (some ⟨b,off,none⟩) gs.length cb].toList[o]?) ∧ (∀ o,w'.cell? ⟨gn,o,none⟩ = #[.int .i64 (nuOf g),.int .u8 ((kiOf g).toNat : Int),.int .i64 (atOf g),.int .i64 (manyOf g),.slice Ab (datOf g).length cg,.slice Am (mksOf g).length cm].toList[o]?) ∧ w'.cell? ⟨b,off + (j - 1) * 6,none⟩ = some (.int .i64 pv)) (by kernel_rfl) (HS.out _ (Ext.drew (Below.refl _ _))) (fun hS=>?_)
                       refine wpAnyH_take (i:=0) (v:=?_) rfl (by kernel_rfl) (by kernel_rfl) (by kernel_rfl) (fun _ _ _ h=>h) (Or.inl ⟨by rfl,?_⟩) hS ?_
                       rotate_left
                       · (intro w hSw;(try dsimp only at hSw);go_simp;(try with_reducible rfl))
                       rotate_left
                       simp only [Act.put,zq0,zq1,zq2,zq3,zq4,zq5]
                       refine wpAnyH_take (i:=1) (v:=?_) rfl (by kernel_rfl) (by kernel_rfl) (by kernel_rfl) (fun _ _ _ h=>h) (Or.inl ⟨by rfl,?_⟩) hS ?_
                       rotate_left
                       · (intro w hSw;(try dsimp only at hSw);go_simp;(try with_reducible rfl))
                       rotate_left
                       simp only [Act.put,zq0,zq1,zq2,zq3,zq4,zq5]
                       refine wpAnyH_take (i:=2) (v:=?_) rfl (by kernel_rfl) (by kernel_rfl) (by kernel_rfl) (fun _ _ _ h=>h) (Or.inl ⟨by rfl,?_⟩) hS ?_
                       rotate_left
                       · (intro w hSw;(try dsimp only at hSw);go_simp;(try with_reducible rfl))
                       rotate_left
                       simp only [Act.put,zq0,zq1,zq2,zq3,zq4,zq5]
                       refine wpAnyH_take (i:=3) (v:=?_) rfl (by kernel_rfl) (by kernel_rfl) (by kernel_rfl) (fun _ _ _ h=>h) (Or.inl ⟨by rfl,?_⟩) hS ?_
                       rotate_left
                       · (intro w hSw;(try dsimp only at hSw);go_simp;(try with_reducible rfl))
                       rotate_left
                       simp only [Act.put,zq0,zq1,zq2,zq3,zq4,zq5]
                       refine wpAnyH_take (i:=4) (v:=?_) rfl (by kernel_rfl) (by kernel_rfl) (by kernel_rfl) (fun _ _ _ h=>h) (Or.inl ⟨by rfl,?_⟩) hS ?_
                       rotate_left
                       · (intro w hSw;(try dsimp only at hSw);go_simp;(try with_reducible rfl))
                       rotate_left
                       simp only [Act.put,zq0,zq1,zq2,zq3,zq4,zq5]
                       refine wpAnyH_take (i:=5) (v:=?_) rfl (by kernel_rfl) (by kernel_rfl) (by kernel_rfl) (fun _ _ _ h=>h) (Or.inl ⟨by rfl,?_⟩) hS ?_
                       rotate_left
                       · (intro w hSw;(try dsimp only at hSw);go_simp;(try with_reducible rfl))
                       rotate_left
                       simp only [Act.put,zq0,zq1,zq2,zq3,zq4,zq5]
                       refine wpAnyH_take (i:=6) (v:=?_) rfl (by kernel_rfl) (by kernel_rfl) (by kernel_rfl) (fun _ _ _ h=>h) (Or.inl ⟨by rfl,?_⟩) hS ?_
                       rotate_left
                       · (intro w hSw;(try dsimp only at hSw);go_simp;(try with_reducible rfl))
                       rotate_left
                       simp only [Act.put,zq0,zq1,zq2,zq3,zq4,zq5]
                       refine wpAnyH_take (i:=7) (v:=?_) rfl (by kernel_rfl) (by kernel_rfl) (by kernel_rfl) (fun _ _ _ h=>h) (Or.inl ⟨by rfl,?_⟩) hS ?_
                       rotate_left
                       · (intro w hSw;(try dsimp only at hSw);go_simp;(try with_reducible rfl))
                       rotate_left
                       simp only [Act.put,zq0,zq1,zq2,zq3,zq4,zq5]
                       refine wpAnyH_take (i:=8) (v:=?_) rfl (by kernel_rfl) (by kernel_rfl) (by kernel_rfl) (fun _ _ _ h=>h) (Or.inl ⟨by rfl,?_⟩) hS ?_
                       rotate_left
                       · (intro w hSw;(try dsimp only at hSw);go_simp;(try with_reducible rfl))
                       rotate_left
                       simp only [Act.put,zq0,zq1,zq2,zq3,zq4,zq5]
                       refine wpAnyH_take (i:=9) (v:=?_) rfl (by kernel_rfl) (by kernel_rfl) (by kernel_rfl) (fun _ _ _ h=>h) (Or.inl ⟨by rfl,?_⟩) hS ?_
                       rotate_left
                       · (intro w hSw;(try dsimp only at hSw);go_simp;(try with_reducible rfl))
                       rotate_left
                       simp only [Act.put,zq0,zq1,zq2,zq3,zq4,zq5]
                       refine wpAnyH_take (i:=10) (v:=?_) rfl (by kernel_rfl) (by kernel_rfl) (by kernel_rfl) (fun _ _ _ h=>h) (Or.inl ⟨by rfl,?_⟩) hS ?_
                       rotate_left
                       · (intro w hSw;(try dsimp only at hSw);go_simp;(try with_reducible rfl))
                       rotate_left
                       simp only [Act.put,zq0,zq1,zq2,zq3,zq4,zq5]
                       refine wpAnyH_take (i:=11) (v:=?_) rfl (by kernel_rfl) (by kernel_rfl) (by kernel_rfl) (fun _ _ _ h=>h) (Or.inl ⟨by rfl,?_⟩) hS ?_
                       rotate_left
                       · (intro w hSw;(try dsimp only at hSw);go_simp;(try with_reducible rfl))
                       rotate_left
                       simp only [Act.put,zq0,zq1,zq2,zq3,zq4,zq5]
                       refine wpAnyH_take (i:=12) (v:=?_) rfl (by kernel_rfl) (by kernel_rfl) (by kernel_rfl) (fun _ _ _ h=>h) (Or.inl ⟨by rfl,?_⟩) hS ?_
                       rotate_left
                       · (intro w hSw;(try dsimp only at hSw);go_simp;(try with_reducible rfl))
                       rotate_left
                       simp only [Act.put,zq0,zq1,zq2,zq3,zq4,zq5]
                       refine wpAnyH_take (i:=13) (v:=?_) rfl (by kernel_rfl) (by kernel_rfl) (by kernel_rfl) (fun _ _ _ h=>h) (Or.inl ⟨by rfl,?_⟩) hS ?_
                       rotate_left
                       · (intro w hSw;(try dsimp only at hSw);go_simp;(try with_reducible rfl))
                       rotate_left
                       simp only [Act.put,zq0,zq1,zq2,zq3,zq4,zq5]
                       refine wpAnyH_take (i:=14) (v:=?_) rfl (by kernel_rfl) (by kernel_rfl) (by kernel_rfl) (fun _ _ _ h=>h) (Or.inl ⟨by rfl,?_⟩) hS ?_
                       rotate_left
                       · (intro w hSw;(try dsimp only at hSw);go_simp;(try with_reducible rfl))
                       rotate_left
                       simp only [Act.put,zq0,zq1,zq2,zq3,zq4,zq5]
                       refine wpAnyH_take (i:=15) (v:=?_) rfl (by kernel_rfl) (by kernel_rfl) (by kernel_rfl) (fun _ _ _ h=>h) (Or.inl ⟨by rfl,?_⟩) hS ?_
                       rotate_left
                       · (intro w hSw;(try dsimp only at hSw);go_simp;(try with_reducible rfl))
                       rotate_left
                       simp only [Act.put,zq0,zq1,zq2,zq3,zq4,zq5]
                       refine wpAnyH_take (i:=16) (v:=?_) rfl (by kernel_rfl) (by kernel_rfl) (by kernel_rfl) (fun _ _ _ h=>h) (Or.inl ⟨by rfl,?_⟩) hS ?_
                       rotate_left
                       · (intro w hSw;(try dsimp only at hSw);go_simp;(try with_reducible rfl))
                       rotate_left
                       simp only [Act.put,zq0,zq1,zq2,zq3,zq4,zq5]
                       refine wpAnyH_take (i:=17) (v:=?_) rfl (by kernel_rfl) (by kernel_rfl) (by kernel_rfl) (fun _ _ _ h=>h) (Or.inl ⟨by rfl,?_⟩) hS ?_
                       rotate_left
                       · (intro w hSw;(try dsimp only at hSw);go_simp;(try with_reducible rfl))
                       rotate_left
                       simp only [Act.put,zq0,zq1,zq2,zq3,zq4,zq5]
                       refine wpAnyH_take (i:=18) (v:=?_) rfl (by kernel_rfl) (by kernel_rfl) (by kernel_rfl) (fun _ _ _ h=>h) (Or.inl ⟨by rfl,?_⟩) hS ?_
                       rotate_left
                       · (intro w hSw;(try dsimp only at hSw);go_simp;(try with_reducible rfl))
                       rotate_left
                       simp only [Act.put,zq0,zq1,zq2,zq3,zq4,zq5]
                       refine wpAnyH_take (i:=19) (v:=?_) rfl (by kernel_rfl) (by kernel_rfl) (by kernel_rfl) (fun _ _ _ h=>h) (Or.inl ⟨by rfl,?_⟩) hS ?_
                       rotate_left
                       · (intro w hSw;(try dsimp only at hSw);go_simp;(try with_reducible rfl))
                       rotate_left
                       simp only [Act.put,zq0,zq1,zq2,zq3,zq4,zq5]
                       refine wpAnyH_take (i:=20) (v:=?_) rfl (by kernel_rfl) (by kernel_rfl) (by kernel_rfl) (fun _ _ _ h=>h) (Or.inl ⟨by rfl,?_⟩) hS ?_
                       rotate_left
                       · (intro w hSw;(try dsimp only at hSw);go_simp;(try with_reducible rfl))
                       rotate_left
                       simp only [Act.put,zq0,zq1,zq2,zq3,zq4,zq5]
                       refine wpAnyH_take (i:=21) (v:=?_) rfl (by kernel_rfl) (by kernel_rfl) (by kernel_rfl) (fun _ _ _ h=>h) (Or.inl ⟨by rfl,?_⟩) hS ?_
                       rotate_left
                       · (intro w hSw;(try dsimp only at hSw);go_simp;(try with_reducible rfl))
                       rotate_left
                       simp only [Act.put,zq0,zq1,zq2,zq3,zq4,zq5]
                       refine wpAnyH_take (i:=22) (v:=?_) rfl (by kernel_rfl) (by kernel_rfl) (by kernel_rfl) (fun _ _ _ h=>h) (Or.inl ⟨by rfl,?_⟩) hS ?_
                       rotate_left
                       · (intro w hSw;(try dsimp only at hSw);go_simp;(try with_reducible rfl))
                       rotate_left
                       simp only [Act.put,zq0,zq1,zq2,zq3,zq4,zq5]
                       refine wpAnyH_ready (rs:=[23]) (by kernel_rfl) (by simp) ?_
                       refine AllReadyH.cons rfl (fun K hK=>?_) AllReadyH.nil
                       rw [if_pos (by rfl)]
                       go_simp
                       refine (HC.out _ _ _ _ _ _ _).mono ?_
                       rintro e w3 ⟨rfl,k3⟩
                       refine hK.out _ _ (HS.out _ (Ext.trans hS.1 k3)) (fun hS'=>?_)
                       clear hK K hS k3
                       have hS:=hS'
                       clear hS'
                       try simp only [Act.put,zq0,zq1,zq2,zq3,zq4,zq5]
                       refine wpAnyH_take (i:=24) (v:=?_) rfl (by kernel_rfl) (by kernel_rfl) (by kernel_rfl) (fun _ _ _ h=>h) (Or.inl ⟨by rfl,?_⟩) hS ?_
                       rotate_left
                       · (intro w hSw;(try dsimp only at hSw);go_simp;(try with_reducible rfl))
                       rotate_left
                       simp only [Act.put,zq0,zq1,zq2,zq3,zq4,zq5]
                       refine wpAnyH_take (i:=25) (v:=?_) rfl (by kernel_rfl) (by kernel_rfl) (by kernel_rfl) (fun _ _ _ h=>h) (Or.inl ⟨by rfl,?_⟩) hS ?_
                       rotate_left
                       · (intro w hSw;(try dsimp only at hSw);go_simp;(try with_reducible rfl))
                       rotate_left
                       simp only [Act.put,zq0,zq1,zq2,zq3,zq4,zq5]
                       refine wpAnyH_take (i:=26) (v:=?_) rfl (by kernel_rfl) (by kernel_rfl) (by kernel_rfl) (fun _ _ _ h=>h) (Or.inl ⟨by rfl,?_⟩) hS ?_
                       rotate_left
                       · (intro w hSw;(try dsimp only at hSw);go_simp;(try with_reducible rfl))
                       rotate_left
                       simp only [Act.put,zq0,zq1,zq2,zq3,zq4,zq5]
                       refine wpAnyH_take (i:=27) (v:=?_) rfl (by kernel_rfl) (by kernel_rfl) (by kernel_rfl) (fun _ _ _ h=>h) (Or.inl ⟨by rfl,?_⟩) hS ?_
                       rotate_left
                       · (intro w hSw;(try dsimp only at hSw);go_simp;(try with_reducible rfl))
                       rotate_left
                       simp only [Act.put,zq0,zq1,zq2,zq3,zq4,zq5]
                       refine wpAnyH_take (i:=28) (v:=?_) rfl (by kernel_rfl) (by kernel_rfl) (by kernel_rfl) (fun _ _ _ h=>h) (Or.inl ⟨by rfl,?_⟩) hS ?_
                       rotate_left
                       · (intro w hSw;(try dsimp only at hSw);go_simp;(try with_reducible rfl))
                       rotate_left
                       simp only [Act.put,zq0,zq1,zq2,zq3,zq4,zq5]
                       refine wpAnyH_ready (rs:=[29]) (by kernel_rfl) (by simp) ?_
                       refine AllReadyH.cons rfl (fun K hK=>?_) AllReadyH.nil
                       rw [if_pos (by rfl)]
                       go_simp
                       refine (HMK.out _ hS.1).mono ?_
                       rintro e w3 ⟨rfl,k3⟩
                       refine hK.out _ _ (HS.out _ (Ext.trans hS.1 k3)) (fun hS'=>?_)
                       clear hK K hS k3
                       have hS:=hS'
                       clear hS'
                       try simp only [Act.put,zq0,zq1,zq2,zq3,zq4,zq5]
                       refine wpAnyH_take (i:=30) (v:=?_) rfl (by kernel_rfl) (by kernel_rfl) (by kernel_rfl) (fun _ _ _ h=>h) (Or.inl ⟨by rfl,?_⟩) hS ?_
                       rotate_left
                       · (intro w hSw;(try dsimp only at hSw);go_simp;(try with_reducible rfl))
                       rotate_left
                       simp only [Act.put,zq0,zq1,zq2,zq3,zq4,zq5]
                       refine wpAnyH_take (i:=31) (v:=?_) rfl (by kernel_rfl) (by kernel_rfl) (by kernel_rfl) (fun _ _ _ h=>h) (Or.inl ⟨by rfl,?_⟩) hS ?_
                       rotate_left
                       · (intro w hSw;(try dsimp only at hSw);go_simp;(try with_reducible rfl))
                       rotate_left
                       simp only [Act.put,zq0,zq1,zq2,zq3,zq4,zq5]
                       refine wpAnyH_done (by kernel_rfl) ?_ _
                       have bH:=hS.1
                       clear hS
                       go_wp2
                       go_ret
                       exact ⟨YesNo.no fun h=>by have h2:=HBM.out.2 (HGK.out.1 (h.goes j)).1.2.2;exact absurd h2 (by decide),Ext.trans b6 bH⟩
                     | true=>
                       have HMK : Hid (∀ w',Below Wg.heap.size Wg w' → Calls Try.prog 70 #[.agg #[.slice A ys.length ca,.slice (some ⟨b,off,none⟩) gs.length cb],.agg #[.int .i64 (nuOf g),.int .u8 ((kiOf g).toNat : Int),.int .i64 (atOf g),.int .i64 (manyOf g),.slice Ab (datOf g).length cg,.slice Am (mksOf g).length cm]] w' fun e w''=>e = .returned (.bool true) ∧ Below w'.heap.size w' w''):=fun w' bb=>(rmarks_any S S ys A ca (some ⟨b,off,none⟩) gs.length cb _ _ _ _ Ab _ cg (mksOf g) Am cm w' (HY2.out.below bb) (HRM2.out.below bb)).mono fun e w'' h=>⟨h.1.is HBM.out,h.2⟩
                       have HA' : Hid (∀ i,i < j + 1 → GoOk (Cfg.mk id m c r l h) ys gs i):=by
                          intro i hi
                          by_cases h : i = j
                          · subst h
                            exact HGK.out.2 ⟨⟨by have:=of_decide_eq_false e1;omega,by simpa using e4,HBM.out.1 rfl⟩,HPK.out.2 (by have:=HP5.out;omega)⟩
                          · exact HA.out i (by omega)
                       have HS : Hid (∀ w',Below Wg.heap.size Wg w' → (Below Wg.heap.size Wg w' ∧ (∀ o,w'.cell? ⟨w.heap.size,o,none⟩ = #[.int .u32 (id : Int),.int .i64 m,.int .i64 c,.int .i64 r,.int .i64 l,.int .i64 h].toList[o]?) ∧ (∀ o,w'.cell? ⟨w.heap.size + 1,o,none⟩ = #[.slice A ys.length ca,.slice (some ⟨b,off,none⟩) gs.length cb].toList[o]?) ∧ (∀ o,w'.cell? ⟨gn,o,none⟩ = #[.int .i64 (nuOf g),.int .u8 ((kiOf g).toNat : Int),.int .i64 (atOf g),.int .i64 (manyOf g),.slice Ab (datOf g).length cg,.slice Am (mksOf g).length cm].toList[o]?) ∧ w'.cell? ⟨b,off + (j - 1) * 6,none⟩ = some (.int .i64 pv))):=fun w' b=>⟨b,(C2.next b).cell,(P2.next b).cell,(GN.next b).cell,HPV.out _ b⟩
                       refine wp_region_held_drew (S:=fun w'=>Below Wg.heap.size Wg w' ∧ (∀ o,w'.cell? ⟨w.heap.size,o,none⟩ = #[.int .u32 (id : Int),.int .i64 m,.int .i64 c,.int .i64 r,.int .i64 l,.int .i64 h].toList[o]?) ∧ (∀ o,w'.cell? ⟨w.heap.size + 1,o,none⟩ = #[.slice A ys.length ca,.slice (some ⟨b,off,none⟩) gs.length cb].toList[o]?) ∧ (∀ o,w'.cell? ⟨gn,o,none⟩ = #[.int .i64 (nuOf g),.int .u8 ((kiOf g).toNat : Int),.int .i64 (atOf g),.int .i64 (manyOf g),.slice Ab (datOf g).length cg,.slice Am (mksOf g).length cm].toList[o]?) ∧ w'.cell? ⟨b,off + (j - 1) * 6,none⟩ = some (.int .i64 pv)) (by kernel_rfl) (HS.out _ (Ext.drew (Below.refl _ _))) (fun hS=>?_)
                       refine wpAnyH_take (i:=0) (v:=?_) rfl (by kernel_rfl) (by kernel_rfl) (by kernel_rfl) (fun _ _ _ h=>h) (Or.inl ⟨by rfl,?_⟩) hS ?_
                       rotate_left
                       · (intro w hSw;(try dsimp only at hSw);go_simp;(try with_reducible rfl))
                       rotate_left
                       simp only [Act.put,zq0,zq1,zq2,zq3,zq4,zq5]
                       refine wpAnyH_take (i:=1) (v:=?_) rfl (by kernel_rfl) (by kernel_rfl) (by kernel_rfl) (fun _ _ _ h=>h) (Or.inl ⟨by rfl,?_⟩) hS ?_
                       rotate_left
                       · (intro w hSw;(try dsimp only at hSw);go_simp;(try with_reducible rfl))
                       rotate_left
                       simp only [Act.put,zq0,zq1,zq2,zq3,zq4,zq5]
                       refine wpAnyH_take (i:=2) (v:=?_) rfl (by kernel_rfl) (by kernel_rfl) (by kernel_rfl) (fun _ _ _ h=>h) (Or.inl ⟨by rfl,?_⟩) hS ?_
                       rotate_left
                       · (intro w hSw;(try dsimp only at hSw);go_simp;(try with_reducible rfl))
                       rotate_left
                       simp only [Act.put,zq0,zq1,zq2,zq3,zq4,zq5]
                       refine wpAnyH_take (i:=3) (v:=?_) rfl (by kernel_rfl) (by kernel_rfl) (by kernel_rfl) (fun _ _ _ h=>h) (Or.inl ⟨by rfl,?_⟩) hS ?_
                       rotate_left
                       · (intro w hSw;(try dsimp only at hSw);go_simp;(try with_reducible rfl))
                       rotate_left
                       simp only [Act.put,zq0,zq1,zq2,zq3,zq4,zq5]
                       refine wpAnyH_take (i:=4) (v:=?_) rfl (by kernel_rfl) (by kernel_rfl) (by kernel_rfl) (fun _ _ _ h=>h) (Or.inl ⟨by rfl,?_⟩) hS ?_
                       rotate_left
                       · (intro w hSw;(try dsimp only at hSw);go_simp;(try with_reducible rfl))
                       rotate_left
                       simp only [Act.put,zq0,zq1,zq2,zq3,zq4,zq5]
                       refine wpAnyH_take (i:=5) (v:=?_) rfl (by kernel_rfl) (by kernel_rfl) (by kernel_rfl) (fun _ _ _ h=>h) (Or.inl ⟨by rfl,?_⟩) hS ?_
                       rotate_left
                       · (intro w hSw;(try dsimp only at hSw);go_simp;(try with_reducible rfl))
                       rotate_left
                       simp only [Act.put,zq0,zq1,zq2,zq3,zq4,zq5]
                       refine wpAnyH_take (i:=6) (v:=?_) rfl (by kernel_rfl) (by kernel_rfl) (by kernel_rfl) (fun _ _ _ h=>h) (Or.inl ⟨by rfl,?_⟩) hS ?_
                       rotate_left
                       · (intro w hSw;(try dsimp only at hSw);go_simp;(try with_reducible rfl))
                       rotate_left
                       simp only [Act.put,zq0,zq1,zq2,zq3,zq4,zq5]
                       refine wpAnyH_take (i:=7) (v:=?_) rfl (by kernel_rfl) (by kernel_rfl) (by kernel_rfl) (fun _ _ _ h=>h) (Or.inl ⟨by rfl,?_⟩) hS ?_
                       rotate_left
                       · (intro w hSw;(try dsimp only at hSw);go_simp;(try with_reducible rfl))
                       rotate_left
                       simp only [Act.put,zq0,zq1,zq2,zq3,zq4,zq5]
                       refine wpAnyH_take (i:=8) (v:=?_) rfl (by kernel_rfl) (by kernel_rfl) (by kernel_rfl) (fun _ _ _ h=>h) (Or.inl ⟨by rfl,?_⟩) hS ?_
                       rotate_left
                       · (intro w hSw;(try dsimp only at hSw);go_simp;(try with_reducible rfl))
                       rotate_left
                       simp only [Act.put,zq0,zq1,zq2,zq3,zq4,zq5]
                       refine wpAnyH_take (i:=9) (v:=?_) rfl (by kernel_rfl) (by kernel_rfl) (by kernel_rfl) (fun _ _ _ h=>h) (Or.inl ⟨by rfl,?_⟩) hS ?_
                       rotate_left
                       · (intro w hSw;(try dsimp only at hSw);go_simp;(try with_reducible rfl))
                       rotate_left
                       simp only [Act.put,zq0,zq1,zq2,zq3,zq4,zq5]
                       refine wpAnyH_take (i:=10) (v:=?_) rfl (by kernel_rfl) (by kernel_rfl) (by kernel_rfl) (fun _ _ _ h=>h) (Or.inl ⟨by rfl,?_⟩) hS ?_
                       rotate_left
                       · (intro w hSw;(try dsimp only at hSw);go_simp;(try with_reducible rfl))
                       rotate_left
                       simp only [Act.put,zq0,zq1,zq2,zq3,zq4,zq5]
                       refine wpAnyH_take (i:=11) (v:=?_) rfl (by kernel_rfl) (by kernel_rfl) (by kernel_rfl) (fun _ _ _ h=>h) (Or.inl ⟨by rfl,?_⟩) hS ?_
                       rotate_left
                       · (intro w hSw;(try dsimp only at hSw);go_simp;(try with_reducible rfl))
                       rotate_left
                       simp only [Act.put,zq0,zq1,zq2,zq3,zq4,zq5]
                       refine wpAnyH_take (i:=12) (v:=?_) rfl (by kernel_rfl) (by kernel_rfl) (by kernel_rfl) (fun _ _ _ h=>h) (Or.inl ⟨by rfl,?_⟩) hS ?_
                       rotate_left
                       · (intro w hSw;(try dsimp only at hSw);go_simp;(try with_reducible rfl))
                       rotate_left
                       simp only [Act.put,zq0,zq1,zq2,zq3,zq4,zq5]
                       refine wpAnyH_take (i:=13) (v:=?_) rfl (by kernel_rfl) (by kernel_rfl) (by kernel_rfl) (fun _ _ _ h=>h) (Or.inl ⟨by rfl,?_⟩) hS ?_
                       rotate_left
                       · (intro w hSw;(try dsimp only at hSw);go_simp;(try with_reducible rfl))
                       rotate_left
                       simp only [Act.put,zq0,zq1,zq2,zq3,zq4,zq5]
                       refine wpAnyH_take (i:=14) (v:=?_) rfl (by kernel_rfl) (by kernel_rfl) (by kernel_rfl) (fun _ _ _ h=>h) (Or.inl ⟨by rfl,?_⟩) hS ?_
                       rotate_left
                       · (intro w hSw;(try dsimp only at hSw);go_simp;(try with_reducible rfl))
                       rotate_left
                       simp only [Act.put,zq0,zq1,zq2,zq3,zq4,zq5]
                       refine wpAnyH_take (i:=15) (v:=?_) rfl (by kernel_rfl) (by kernel_rfl) (by kernel_rfl) (fun _ _ _ h=>h) (Or.inl ⟨by rfl,?_⟩) hS ?_
                       rotate_left
                       · (intro w hSw;(try dsimp only at hSw);go_simp;(try with_reducible rfl))
                       rotate_left
                       simp only [Act.put,zq0,zq1,zq2,zq3,zq4,zq5]
                       refine wpAnyH_take (i:=16) (v:=?_) rfl (by kernel_rfl) (by kernel_rfl) (by kernel_rfl) (fun _ _ _ h=>h) (Or.inl ⟨by rfl,?_⟩) hS ?_
                       rotate_left
                       · (intro w hSw;(try dsimp only at hSw);go_simp;(try with_reducible rfl))
                       rotate_left
                       simp only [Act.put,zq0,zq1,zq2,zq3,zq4,zq5]
                       refine wpAnyH_take (i:=17) (v:=?_) rfl (by kernel_rfl) (by kernel_rfl) (by kernel_rfl) (fun _ _ _ h=>h) (Or.inl ⟨by rfl,?_⟩) hS ?_
                       rotate_left
                       · (intro w hSw;(try dsimp only at hSw);go_simp;(try with_reducible rfl))
                       rotate_left
                       simp only [Act.put,zq0,zq1,zq2,zq3,zq4,zq5]
                       refine wpAnyH_take (i:=18) (v:=?_) rfl (by kernel_rfl) (by kernel_rfl) (by kernel_rfl) (fun _ _ _ h=>h) (Or.inl ⟨by rfl,?_⟩) hS ?_
                       rotate_left
                       · (intro w hSw;(try dsimp only at hSw);go_simp;(try with_reducible rfl))
                       rotate_left
                       simp only [Act.put,zq0,zq1,zq2,zq3,zq4,zq5]
                       refine wpAnyH_take (i:=19) (v:=?_) rfl (by kernel_rfl) (by kernel_rfl) (by kernel_rfl) (fun _ _ _ h=>h) (Or.inl ⟨by rfl,?_⟩) hS ?_
                       rotate_left
                       · (intro w hSw;(try dsimp only at hSw);go_simp;(try with_reducible rfl))
                       rotate_left
                       simp only [Act.put,zq0,zq1,zq2,zq3,zq4,zq5]
                       refine wpAnyH_take (i:=20) (v:=?_) rfl (by kernel_rfl) (by kernel_rfl) (by kernel_rfl) (fun _ _ _ h=>h) (Or.inl ⟨by rfl,?_⟩) hS ?_
                       rotate_left
                       · (intro w hSw;(try dsimp only at hSw);go_simp;(try with_reducible rfl))
                       rotate_left
                       simp only [Act.put,zq0,zq1,zq2,zq3,zq4,zq5]
                       refine wpAnyH_take (i:=21) (v:=?_) rfl (by kernel_rfl) (by kernel_rfl) (by kernel_rfl) (fun _ _ _ h=>h) (Or.inl ⟨by rfl,?_⟩) hS ?_
                       rotate_left
                       · (intro w hSw;(try dsimp only at hSw);go_simp;(try with_reducible rfl))
                       rotate_left
                       simp only [Act.put,zq0,zq1,zq2,zq3,zq4,zq5]
                       refine wpAnyH_take (i:=22) (v:=?_) rfl (by kernel_rfl) (by kernel_rfl) (by kernel_rfl) (fun _ _ _ h=>h) (Or.inl ⟨by rfl,?_⟩) hS ?_
                       rotate_left
                       · (intro w hSw;(try dsimp only at hSw);go_simp;(try with_reducible rfl))
                       rotate_left
                       simp only [Act.put,zq0,zq1,zq2,zq3,zq4,zq5]
                       refine wpAnyH_ready (rs:=[23]) (by kernel_rfl) (by simp) ?_
                       refine AllReadyH.cons rfl (fun K hK=>?_) AllReadyH.nil
                       rw [if_pos (by rfl)]
                       go_simp
                       refine (HC.out _ _ _ _ _ _ _).mono ?_
                       rintro e w3 ⟨rfl,k3⟩
                       refine hK.out _ _ (HS.out _ (Ext.trans hS.1 k3)) (fun hS'=>?_)
                       clear hK K hS k3
                       have hS:=hS'
                       clear hS'
                       try simp only [Act.put,zq0,zq1,zq2,zq3,zq4,zq5]
                       refine wpAnyH_take (i:=24) (v:=?_) rfl (by kernel_rfl) (by kernel_rfl) (by kernel_rfl) (fun _ _ _ h=>h) (Or.inl ⟨by rfl,?_⟩) hS ?_
                       rotate_left
                       · (intro w hSw;(try dsimp only at hSw);go_simp;(try with_reducible rfl))
                       rotate_left
                       simp only [Act.put,zq0,zq1,zq2,zq3,zq4,zq5]
                       refine wpAnyH_take (i:=25) (v:=?_) rfl (by kernel_rfl) (by kernel_rfl) (by kernel_rfl) (fun _ _ _ h=>h) (Or.inl ⟨by rfl,?_⟩) hS ?_
                       rotate_left
                       · (intro w hSw;(try dsimp only at hSw);go_simp;(try with_reducible rfl))
                       rotate_left
                       simp only [Act.put,zq0,zq1,zq2,zq3,zq4,zq5]
                       refine wpAnyH_take (i:=26) (v:=?_) rfl (by kernel_rfl) (by kernel_rfl) (by kernel_rfl) (fun _ _ _ h=>h) (Or.inl ⟨by rfl,?_⟩) hS ?_
                       rotate_left
                       · (intro w hSw;(try dsimp only at hSw);go_simp;(try with_reducible rfl))
                       rotate_left
                       simp only [Act.put,zq0,zq1,zq2,zq3,zq4,zq5]
                       refine wpAnyH_take (i:=27) (v:=?_) rfl (by kernel_rfl) (by kernel_rfl) (by kernel_rfl) (fun _ _ _ h=>h) (Or.inl ⟨by rfl,?_⟩) hS ?_
                       rotate_left
                       · (intro w hSw;(try dsimp only at hSw);go_simp;(try with_reducible rfl))
                       rotate_left
                       simp only [Act.put,zq0,zq1,zq2,zq3,zq4,zq5]
                       refine wpAnyH_take (i:=28) (v:=?_) rfl (by kernel_rfl) (by kernel_rfl) (by kernel_rfl) (fun _ _ _ h=>h) (Or.inl ⟨by rfl,?_⟩) hS ?_
                       rotate_left
                       · (intro w hSw;(try dsimp only at hSw);go_simp;(try with_reducible rfl))
                       rotate_left
                       simp only [Act.put,zq0,zq1,zq2,zq3,zq4,zq5]
                       refine wpAnyH_ready (rs:=[29]) (by kernel_rfl) (by simp) ?_
                       refine AllReadyH.cons rfl (fun K hK=>?_) AllReadyH.nil
                       rw [if_pos (by rfl)]
                       go_simp
                       refine (HMK.out _ hS.1).mono ?_
                       rintro e w3 ⟨rfl,k3⟩
                       refine hK.out _ _ (HS.out _ (Ext.trans hS.1 k3)) (fun hS'=>?_)
                       clear hK K hS k3
                       have hS:=hS'
                       clear hS'
                       try simp only [Act.put,zq0,zq1,zq2,zq3,zq4,zq5]
                       refine wpAnyH_take (i:=30) (v:=?_) rfl (by kernel_rfl) (by kernel_rfl) (by kernel_rfl) (fun _ _ _ h=>h) (Or.inl ⟨by rfl,?_⟩) hS ?_
                       rotate_left
                       · (intro w hSw;(try dsimp only at hSw);go_simp;(try with_reducible rfl))
                       rotate_left
                       simp only [Act.put,zq0,zq1,zq2,zq3,zq4,zq5]
                       refine wpAnyH_take (i:=31) (v:=?_) rfl (by kernel_rfl) (by kernel_rfl) (by kernel_rfl) (fun _ _ _ h=>h) (Or.inl ⟨by rfl,?_⟩) hS ?_
                       rotate_left
                       · (intro w hSw;(try dsimp only at hSw);go_simp;(try with_reducible rfl))
                       rotate_left
                       simp only [Act.put,zq0,zq1,zq2,zq3,zq4,zq5]
                       refine wpAnyH_done (by kernel_rfl) ?_ _
                       have bH:=hS.1
                       clear hS
                       have b8:=Ext.trans b7 bH
                       go_wp2
                       go_roundw
                       case rel=>exact ⟨j + 1,HLJ.out,by first | exact round_same HWJ | go_num,b8,HA'⟩
                       case measure=>first | exact round_less HWJ HLJ.out | (have h:=HLJ.out;simp [intOf];omega)
               · have e2 : decide ((0 : Int) < (j : Int)) = false:=decide_eq_false (by omega)
                 have HP0 : Hid (PrevOk gs j (nuOf g)):=fun _ h=>absurd h h0
                 have e2n : decide (0 < j) = false:=decide_eq_false h0
                 rcases Bool.eq_false_or_eq_true (askCode (Cfg.mk id m c r l h) ((kiOf g).toNat : Int) (atOf g) (manyOf g) (datOf g).length != 0) with e4 | e4
                 · have HS : Hid (∀ w',Below Wg.heap.size Wg w' → (Below Wg.heap.size Wg w' ∧ (∀ o,w'.cell? ⟨w.heap.size,o,none⟩ = #[.int .u32 (id : Int),.int .i64 m,.int .i64 c,.int .i64 r,.int .i64 l,.int .i64 h].toList[o]?) ∧ (∀ o,w'.cell? ⟨w.heap.size + 1,o,none⟩ = #[.slice A ys.length ca,.slice (some ⟨b,off,none⟩) gs.length cb].toList[o]?) ∧ (∀ o,w'.cell? ⟨gn,o,none⟩ = #[.int .i64 (nuOf g),.int .u8 ((kiOf g).toNat : Int),.int .i64 (atOf g),.int .i64 (manyOf g),.slice Ab (datOf g).length cg,.slice Am (mksOf g).length cm].toList[o]?))):=fun w' b=>⟨b,(C2.next b).cell,(P2.next b).cell,(GN.next b).cell⟩
                   refine wp_region_held_drew (S:=fun w'=>Below Wg.heap.size Wg w' ∧ (∀ o,w'.cell? ⟨w.heap.size,o,none⟩ = #[.int .u32 (id : Int),.int .i64 m,.int .i64 c,.int .i64 r,.int .i64 l,.int .i64 h].toList[o]?) ∧ (∀ o,w'.cell? ⟨w.heap.size + 1,o,none⟩ = #[.slice A ys.length ca,.slice (some ⟨b,off,none⟩) gs.length cb].toList[o]?) ∧ (∀ o,w'.cell? ⟨gn,o,none⟩ = #[.int .i64 (nuOf g),.int .u8 ((kiOf g).toNat : Int),.int .i64 (atOf g),.int .i64 (manyOf g),.slice Ab (datOf g).length cg,.slice Am (mksOf g).length cm].toList[o]?)) (by kernel_rfl) (HS.out _ (Ext.drew (Below.refl _ _))) (fun hS=>?_)
                   refine wpAnyH_take (i:=0) (v:=?_) rfl (by kernel_rfl) (by kernel_rfl) (by kernel_rfl) (fun _ _ _ h=>h) (Or.inl ⟨by rfl,?_⟩) hS ?_
                   rotate_left
                   · (intro w hSw;(try dsimp only at hSw);go_simp;(try with_reducible rfl))
                   rotate_left
                   simp only [Act.put,zq0,zq1,zq2,zq3,zq4,zq5]
                   refine wpAnyH_take (i:=1) (v:=?_) rfl (by kernel_rfl) (by kernel_rfl) (by kernel_rfl) (fun _ _ _ h=>h) (Or.inl ⟨by rfl,?_⟩) hS ?_
                   rotate_left
                   · (intro w hSw;(try dsimp only at hSw);go_simp;(try with_reducible rfl))
                   rotate_left
                   simp only [Act.put,zq0,zq1,zq2,zq3,zq4,zq5]
                   refine wpAnyH_take (i:=2) (v:=?_) rfl (by kernel_rfl) (by kernel_rfl) (by kernel_rfl) (fun _ _ _ h=>h) (Or.inl ⟨by rfl,?_⟩) hS ?_
                   rotate_left
                   · (intro w hSw;(try dsimp only at hSw);go_simp;(try with_reducible rfl))
                   rotate_left
                   simp only [Act.put,zq0,zq1,zq2,zq3,zq4,zq5]
                   refine wpAnyH_take (i:=3) (v:=?_) rfl (by kernel_rfl) (by kernel_rfl) (by kernel_rfl) (fun _ _ _ h=>h) (Or.inl ⟨by rfl,?_⟩) hS ?_
                   rotate_left
                   · (intro w hSw;(try dsimp only at hSw);go_simp;(try with_reducible rfl))
                   rotate_left
                   simp only [Act.put,zq0,zq1,zq2,zq3,zq4,zq5]
                   refine wpAnyH_take (i:=4) (v:=?_) rfl (by kernel_rfl) (by kernel_rfl) (by kernel_rfl) (fun _ _ _ h=>h) (Or.inl ⟨by rfl,?_⟩) hS ?_
                   rotate_left
                   · (intro w hSw;(try dsimp only at hSw);go_simp;(try with_reducible rfl))
                   rotate_left
                   simp only [Act.put,zq0,zq1,zq2,zq3,zq4,zq5]
                   refine wpAnyH_take (i:=5) (v:=?_) rfl (by kernel_rfl) (by kernel_rfl) (by kernel_rfl) (fun _ _ _ h=>h) (Or.inl ⟨by rfl,?_⟩) hS ?_
                   rotate_left
                   · (intro w hSw;(try dsimp only at hSw);go_simp;(try with_reducible rfl))
                   rotate_left
                   simp only [Act.put,zq0,zq1,zq2,zq3,zq4,zq5]
                   refine wpAnyH_take (i:=6) (v:=?_) rfl (by kernel_rfl) (by kernel_rfl) (by kernel_rfl) (fun _ _ _ h=>h) (Or.inl ⟨by rfl,?_⟩) hS ?_
                   rotate_left
                   · (intro w hSw;(try dsimp only at hSw);go_simp;(try with_reducible rfl))
                   rotate_left
                   simp only [Act.put,zq0,zq1,zq2,zq3,zq4,zq5]
                   refine wpAnyH_take (i:=7) (v:=?_) rfl (by kernel_rfl) (by kernel_rfl) (by kernel_rfl) (fun _ _ _ h=>h) (Or.inr ⟨by rfl,?_⟩) hS ?_
                   rotate_left
                   · rfl
                   rotate_left
                   simp only [Act.put,zq0,zq1,zq2,zq3,zq4,zq5]
                   refine wpAnyH_take (i:=8) (v:=?_) rfl (by kernel_rfl) (by kernel_rfl) (by kernel_rfl) (fun _ _ _ h=>h) (Or.inr ⟨by rfl,?_⟩) hS ?_
                   rotate_left
                   · rfl
                   rotate_left
                   simp only [Act.put,zq0,zq1,zq2,zq3,zq4,zq5]
                   refine wpAnyH_take (i:=9) (v:=?_) rfl (by kernel_rfl) (by kernel_rfl) (by kernel_rfl) (fun _ _ _ h=>h) (Or.inr ⟨by rfl,?_⟩) hS ?_
                   rotate_left
                   · rfl
                   rotate_left
                   simp only [Act.put,zq0,zq1,zq2,zq3,zq4,zq5]
                   refine wpAnyH_take (i:=10) (v:=?_) rfl (by kernel_rfl) (by kernel_rfl) (by kernel_rfl) (fun _ _ _ h=>h) (Or.inr ⟨by rfl,?_⟩) hS ?_
                   rotate_left
                   · rfl
                   rotate_left
                   simp only [Act.put,zq0,zq1,zq2,zq3,zq4,zq5]
                   refine wpAnyH_take (i:=11) (v:=?_) rfl (by kernel_rfl) (by kernel_rfl) (by kernel_rfl) (fun _ _ _ h=>h) (Or.inr ⟨by rfl,?_⟩) hS ?_
                   rotate_left
                   · rfl
                   rotate_left
                   simp only [Act.put,zq0,zq1,zq2,zq3,zq4,zq5]
                   refine wpAnyH_take (i:=12) (v:=?_) rfl (by kernel_rfl) (by kernel_rfl) (by kernel_rfl) (fun _ _ _ h=>h) (Or.inr ⟨by rfl,?_⟩) hS ?_
                   rotate_left
                   · rfl
                   rotate_left
                   simp only [Act.put,zq0,zq1,zq2,zq3,zq4,zq5]
                   refine wpAnyH_take (i:=13) (v:=?_) rfl (by kernel_rfl) (by kernel_rfl) (by kernel_rfl) (fun _ _ _ h=>h) (Or.inr ⟨by rfl,?_⟩) hS ?_
                   rotate_left
                   · rfl
                   rotate_left
                   simp only [Act.put,zq0,zq1,zq2,zq3,zq4,zq5]
                   refine wpAnyH_take (i:=14) (v:=?_) rfl (by kernel_rfl) (by kernel_rfl) (by kernel_rfl) (fun _ _ _ h=>h) (Or.inr ⟨by rfl,?_⟩) hS ?_
                   rotate_left
                   · rfl
                   rotate_left
                   simp only [Act.put,zq0,zq1,zq2,zq3,zq4,zq5]
                   refine wpAnyH_take (i:=15) (v:=?_) rfl (by kernel_rfl) (by kernel_rfl) (by kernel_rfl) (fun _ _ _ h=>h) (Or.inr ⟨by rfl,?_⟩) hS ?_
                   rotate_left
                   · rfl
                   rotate_left
                   simp only [Act.put,zq0,zq1,zq2,zq3,zq4,zq5]
                   refine wpAnyH_take (i:=16) (v:=?_) rfl (by kernel_rfl) (by kernel_rfl) (by kernel_rfl) (fun _ _ _ h=>h) (Or.inr ⟨by rfl,?_⟩) hS ?_
                   rotate_left
                   · rfl
                   rotate_left
                   simp only [Act.put,zq0,zq1,zq2,zq3,zq4,zq5]
                   refine wpAnyH_take (i:=17) (v:=?_) rfl (by kernel_rfl) (by kernel_rfl) (by kernel_rfl) (fun _ _ _ h=>h) (Or.inl ⟨by rfl,?_⟩) hS ?_
                   rotate_left
                   · (intro w hSw;(try dsimp only at hSw);go_simp;(try with_reducible rfl))
                   rotate_left
                   simp only [Act.put,zq0,zq1,zq2,zq3,zq4,zq5]
                   refine wpAnyH_take (i:=18) (v:=?_) rfl (by kernel_rfl) (by kernel_rfl) (by kernel_rfl) (fun _ _ _ h=>h) (Or.inl ⟨by rfl,?_⟩) hS ?_
                   rotate_left
                   · (intro w hSw;(try dsimp only at hSw);go_simp;(try with_reducible rfl))
                   rotate_left
                   simp only [Act.put,zq0,zq1,zq2,zq3,zq4,zq5]
                   refine wpAnyH_take (i:=19) (v:=?_) rfl (by kernel_rfl) (by kernel_rfl) (by kernel_rfl) (fun _ _ _ h=>h) (Or.inl ⟨by rfl,?_⟩) hS ?_
                   rotate_left
                   · (intro w hSw;(try dsimp only at hSw);go_simp;(try with_reducible rfl))
                   rotate_left
                   simp only [Act.put,zq0,zq1,zq2,zq3,zq4,zq5]
                   refine wpAnyH_take (i:=20) (v:=?_) rfl (by kernel_rfl) (by kernel_rfl) (by kernel_rfl) (fun _ _ _ h=>h) (Or.inl ⟨by rfl,?_⟩) hS ?_
                   rotate_left
                   · (intro w hSw;(try dsimp only at hSw);go_simp;(try with_reducible rfl))
                   rotate_left
                   simp only [Act.put,zq0,zq1,zq2,zq3,zq4,zq5]
                   refine wpAnyH_take (i:=21) (v:=?_) rfl (by kernel_rfl) (by kernel_rfl) (by kernel_rfl) (fun _ _ _ h=>h) (Or.inl ⟨by rfl,?_⟩) hS ?_
                   rotate_left
                   · (intro w hSw;(try dsimp only at hSw);go_simp;(try with_reducible rfl))
                   rotate_left
                   simp only [Act.put,zq0,zq1,zq2,zq3,zq4,zq5]
                   refine wpAnyH_take (i:=22) (v:=?_) rfl (by kernel_rfl) (by kernel_rfl) (by kernel_rfl) (fun _ _ _ h=>h) (Or.inl ⟨by rfl,?_⟩) hS ?_
                   rotate_left
                   · (intro w hSw;(try dsimp only at hSw);go_simp;(try with_reducible rfl))
                   rotate_left
                   simp only [Act.put,zq0,zq1,zq2,zq3,zq4,zq5]
                   refine wpAnyH_ready (rs:=[23]) (by kernel_rfl) (by simp) ?_
                   refine AllReadyH.cons rfl (fun K hK=>?_) AllReadyH.nil
                   rw [if_pos (by rfl)]
                   go_simp
                   refine (HC.out _ _ _ _ _ _ _).mono ?_
                   rintro e w3 ⟨rfl,k3⟩
                   refine hK.out _ _ (HS.out _ (Ext.trans hS.1 k3)) (fun hS'=>?_)
                   clear hK K hS k3
                   have hS:=hS'
                   clear hS'
                   try simp only [Act.put,zq0,zq1,zq2,zq3,zq4,zq5]
                   refine wpAnyH_take (i:=24) (v:=?_) rfl (by kernel_rfl) (by kernel_rfl) (by kernel_rfl) (fun _ _ _ h=>h) (Or.inl ⟨by rfl,?_⟩) hS ?_
                   rotate_left
                   · (intro w hSw;(try dsimp only at hSw);go_simp;(try with_reducible rfl))
                   rotate_left
                   simp only [Act.put,zq0,zq1,zq2,zq3,zq4,zq5]
                   refine wpAnyH_take (i:=25) (v:=?_) rfl (by kernel_rfl) (by kernel_rfl) (by kernel_rfl) (fun _ _ _ h=>h) (Or.inl ⟨by rfl,?_⟩) hS ?_
                   rotate_left
                   · (intro w hSw;(try dsimp only at hSw);go_simp;(try with_reducible rfl))
                   rotate_left
                   simp only [Act.put,zq0,zq1,zq2,zq3,zq4,zq5]
                   refine wpAnyH_take (i:=26) (v:=?_) rfl (by kernel_rfl) (by kernel_rfl) (by kernel_rfl) (fun _ _ _ h=>h) (Or.inl ⟨by rfl,?_⟩) hS ?_
                   rotate_left
                   · (intro w hSw;(try dsimp only at hSw);go_simp;(try with_reducible rfl))
                   rotate_left
                   simp only [Act.put,zq0,zq1,zq2,zq3,zq4,zq5]
                   refine wpAnyH_take (i:=27) (v:=?_) rfl (by kernel_rfl) (by kernel_rfl) (by kernel_rfl) (fun _ _ _ h=>h) (Or.inr ⟨by rfl,?_⟩) hS ?_
                   rotate_left
                   · rfl
                   rotate_left
                   simp only [Act.put,zq0,zq1,zq2,zq3,zq4,zq5]
                   refine wpAnyH_take (i:=28) (v:=?_) rfl (by kernel_rfl) (by kernel_rfl) (by kernel_rfl) (fun _ _ _ h=>h) (Or.inr ⟨by rfl,?_⟩) hS ?_
                   rotate_left
                   · rfl
                   rotate_left
                   simp only [Act.put,zq0,zq1,zq2,zq3,zq4,zq5]
                   refine wpAnyH_take (i:=29) (v:=?_) rfl (by kernel_rfl) (by kernel_rfl) (by kernel_rfl) (fun _ _ _ h=>h) (Or.inr ⟨by rfl,?_⟩) hS ?_
                   rotate_left
                   · rfl
                   rotate_left
                   simp only [Act.put,zq0,zq1,zq2,zq3,zq4,zq5]
                   refine wpAnyH_take (i:=30) (v:=?_) rfl (by kernel_rfl) (by kernel_rfl) (by kernel_rfl) (fun _ _ _ h=>h) (Or.inr ⟨by rfl,?_⟩) hS ?_
                   rotate_left
                   · rfl
                   rotate_left
                   simp only [Act.put,zq0,zq1,zq2,zq3,zq4,zq5]
                   refine wpAnyH_take (i:=31) (v:=?_) rfl (by kernel_rfl) (by kernel_rfl) (by kernel_rfl) (fun _ _ _ h=>h) (Or.inl ⟨by rfl,?_⟩) hS ?_
                   rotate_left
                   · (intro w hSw;(try dsimp only at hSw);go_simp;(try with_reducible rfl))
                   rotate_left
                   simp only [Act.put,zq0,zq1,zq2,zq3,zq4,zq5]
                   refine wpAnyH_done (by kernel_rfl) ?_ _
                   have bH:=hS.1
                   clear hS
                   go_wp2
                   go_ret
                   exact ⟨YesNo.no fun h=>by have h2:=(HGK.out.1 (h.goes j)).1.2.1;rw [h2] at e4;simp at e4,Ext.trans b6 bH⟩
                 · cases bm with
                   | false=>
                     have HMK : Hid (∀ w',Below Wg.heap.size Wg w' → Calls Try.prog 70 #[.agg #[.slice A ys.length ca,.slice (some ⟨b,off,none⟩) gs.length cb],.agg #[.int .i64 (nuOf g),.int .u8 ((kiOf g).toNat : Int),.int .i64 (atOf g),.int .i64 (manyOf g),.slice Ab (datOf g).length cg,.slice Am (mksOf g).length cm]] w' fun e w''=>e = .returned (.bool false) ∧ Below w'.heap.size w' w''):=fun w' bb=>(rmarks_any S S ys A ca (some ⟨b,off,none⟩) gs.length cb _ _ _ _ Ab _ cg (mksOf g) Am cm w' (HY2.out.below bb) (HRM2.out.below bb)).mono fun e w'' h=>⟨h.1.is HBM.out,h.2⟩
                     have HS : Hid (∀ w',Below Wg.heap.size Wg w' → (Below Wg.heap.size Wg w' ∧ (∀ o,w'.cell? ⟨w.heap.size,o,none⟩ = #[.int .u32 (id : Int),.int .i64 m,.int .i64 c,.int .i64 r,.int .i64 l,.int .i64 h].toList[o]?) ∧ (∀ o,w'.cell? ⟨w.heap.size + 1,o,none⟩ = #[.slice A ys.length ca,.slice (some ⟨b,off,none⟩) gs.length cb].toList[o]?) ∧ (∀ o,w'.cell? ⟨gn,o,none⟩ = #[.int .i64 (nuOf g),.int .u8 ((kiOf g).toNat : Int),.int .i64 (atOf g),.int .i64 (manyOf g),.slice Ab (datOf g).length cg,.slice Am (mksOf g).length cm].toList[o]?))):=fun w' b=>⟨b,(C2.next b).cell,(P2.next b).cell,(GN.next b).cell⟩
                     refine wp_region_held_drew (S:=fun w'=>Below Wg.heap.size Wg w' ∧ (∀ o,w'.cell? ⟨w.heap.size,o,none⟩ = #[.int .u32 (id : Int),.int .i64 m,.int .i64 c,.int .i64 r,.int .i64 l,.int .i64 h].toList[o]?) ∧ (∀ o,w'.cell? ⟨w.heap.size + 1,o,none⟩ = #[.slice A ys.length ca,.slice (some ⟨b,off,none⟩) gs.length cb].toList[o]?) ∧ (∀ o,w'.cell? ⟨gn,o,none⟩ = #[.int .i64 (nuOf g),.int .u8 ((kiOf g).toNat : Int),.int .i64 (atOf g),.int .i64 (manyOf g),.slice Ab (datOf g).length cg,.slice Am (mksOf g).length cm].toList[o]?)) (by kernel_rfl) (HS.out _ (Ext.drew (Below.refl _ _))) (fun hS=>?_)
                     refine wpAnyH_take (i:=0) (v:=?_) rfl (by kernel_rfl) (by kernel_rfl) (by kernel_rfl) (fun _ _ _ h=>h) (Or.inl ⟨by rfl,?_⟩) hS ?_
                     rotate_left
                     · (intro w hSw;(try dsimp only at hSw);go_simp;(try with_reducible rfl))
                     rotate_left
                     simp only [Act.put,zq0,zq1,zq2,zq3,zq4,zq5]
                     refine wpAnyH_take (i:=1) (v:=?_) rfl (by kernel_rfl) (by kernel_rfl) (by kernel_rfl) (fun _ _ _ h=>h) (Or.inl ⟨by rfl,?_⟩) hS ?_
                     rotate_left
                     · (intro w hSw;(try dsimp only at hSw);go_simp;(try with_reducible rfl))
                     rotate_left
                     simp only [Act.put,zq0,zq1,zq2,zq3,zq4,zq5]
                     refine wpAnyH_take (i:=2) (v:=?_) rfl (by kernel_rfl) (by kernel_rfl) (by kernel_rfl) (fun _ _ _ h=>h) (Or.inl ⟨by rfl,?_⟩) hS ?_
                     rotate_left
                     · (intro w hSw;(try dsimp only at hSw);go_simp;(try with_reducible rfl))
                     rotate_left
                     simp only [Act.put,zq0,zq1,zq2,zq3,zq4,zq5]
                     refine wpAnyH_take (i:=3) (v:=?_) rfl (by kernel_rfl) (by kernel_rfl) (by kernel_rfl) (fun _ _ _ h=>h) (Or.inl ⟨by rfl,?_⟩) hS ?_
                     rotate_left
                     · (intro w hSw;(try dsimp only at hSw);go_simp;(try with_reducible rfl))
                     rotate_left
                     simp only [Act.put,zq0,zq1,zq2,zq3,zq4,zq5]
                     refine wpAnyH_take (i:=4) (v:=?_) rfl (by kernel_rfl) (by kernel_rfl) (by kernel_rfl) (fun _ _ _ h=>h) (Or.inl ⟨by rfl,?_⟩) hS ?_
                     rotate_left
                     · (intro w hSw;(try dsimp only at hSw);go_simp;(try with_reducible rfl))
                     rotate_left
                     simp only [Act.put,zq0,zq1,zq2,zq3,zq4,zq5]
                     refine wpAnyH_take (i:=5) (v:=?_) rfl (by kernel_rfl) (by kernel_rfl) (by kernel_rfl) (fun _ _ _ h=>h) (Or.inl ⟨by rfl,?_⟩) hS ?_
                     rotate_left
                     · (intro w hSw;(try dsimp only at hSw);go_simp;(try with_reducible rfl))
                     rotate_left
                     simp only [Act.put,zq0,zq1,zq2,zq3,zq4,zq5]
                     refine wpAnyH_take (i:=6) (v:=?_) rfl (by kernel_rfl) (by kernel_rfl) (by kernel_rfl) (fun _ _ _ h=>h) (Or.inl ⟨by rfl,?_⟩) hS ?_
                     rotate_left
                     · (intro w hSw;(try dsimp only at hSw);go_simp;(try with_reducible rfl))
                     rotate_left
                     simp only [Act.put,zq0,zq1,zq2,zq3,zq4,zq5]
                     refine wpAnyH_take (i:=7) (v:=?_) rfl (by kernel_rfl) (by kernel_rfl) (by kernel_rfl) (fun _ _ _ h=>h) (Or.inr ⟨by rfl,?_⟩) hS ?_
                     rotate_left
                     · rfl
                     rotate_left
                     simp only [Act.put,zq0,zq1,zq2,zq3,zq4,zq5]
                     refine wpAnyH_take (i:=8) (v:=?_) rfl (by kernel_rfl) (by kernel_rfl) (by kernel_rfl) (fun _ _ _ h=>h) (Or.inr ⟨by rfl,?_⟩) hS ?_
                     rotate_left
                     · rfl
                     rotate_left
                     simp only [Act.put,zq0,zq1,zq2,zq3,zq4,zq5]
                     refine wpAnyH_take (i:=9) (v:=?_) rfl (by kernel_rfl) (by kernel_rfl) (by kernel_rfl) (fun _ _ _ h=>h) (Or.inr ⟨by rfl,?_⟩) hS ?_
                     rotate_left
                     · rfl
                     rotate_left
                     simp only [Act.put,zq0,zq1,zq2,zq3,zq4,zq5]
                     refine wpAnyH_take (i:=10) (v:=?_) rfl (by kernel_rfl) (by kernel_rfl) (by kernel_rfl) (fun _ _ _ h=>h) (Or.inr ⟨by rfl,?_⟩) hS ?_
                     rotate_left
                     · rfl
                     rotate_left
                     simp only [Act.put,zq0,zq1,zq2,zq3,zq4,zq5]
                     refine wpAnyH_take (i:=11) (v:=?_) rfl (by kernel_rfl) (by kernel_rfl) (by kernel_rfl) (fun _ _ _ h=>h) (Or.inr ⟨by rfl,?_⟩) hS ?_
                     rotate_left
                     · rfl
                     rotate_left
                     simp only [Act.put,zq0,zq1,zq2,zq3,zq4,zq5]
                     refine wpAnyH_take (i:=12) (v:=?_) rfl (by kernel_rfl) (by kernel_rfl) (by kernel_rfl) (fun _ _ _ h=>h) (Or.inr ⟨by rfl,?_⟩) hS ?_
                     rotate_left
                     · rfl
                     rotate_left
                     simp only [Act.put,zq0,zq1,zq2,zq3,zq4,zq5]
                     refine wpAnyH_take (i:=13) (v:=?_) rfl (by kernel_rfl) (by kernel_rfl) (by kernel_rfl) (fun _ _ _ h=>h) (Or.inr ⟨by rfl,?_⟩) hS ?_
                     rotate_left
                     · rfl
                     rotate_left
                     simp only [Act.put,zq0,zq1,zq2,zq3,zq4,zq5]
                     refine wpAnyH_take (i:=14) (v:=?_) rfl (by kernel_rfl) (by kernel_rfl) (by kernel_rfl) (fun _ _ _ h=>h) (Or.inr ⟨by rfl,?_⟩) hS ?_
                     rotate_left
                     · rfl
                     rotate_left
                     simp only [Act.put,zq0,zq1,zq2,zq3,zq4,zq5]
                     refine wpAnyH_take (i:=15) (v:=?_) rfl (by kernel_rfl) (by kernel_rfl) (by kernel_rfl) (fun _ _ _ h=>h) (Or.inr ⟨by rfl,?_⟩) hS ?_
                     rotate_left
                     · rfl
                     rotate_left
                     simp only [Act.put,zq0,zq1,zq2,zq3,zq4,zq5]
                     refine wpAnyH_take (i:=16) (v:=?_) rfl (by kernel_rfl) (by kernel_rfl) (by kernel_rfl) (fun _ _ _ h=>h) (Or.inr ⟨by rfl,?_⟩) hS ?_
                     rotate_left
                     · rfl
                     rotate_left
                     simp only [Act.put,zq0,zq1,zq2,zq3,zq4,zq5]
                     refine wpAnyH_take (i:=17) (v:=?_) rfl (by kernel_rfl) (by kernel_rfl) (by kernel_rfl) (fun _ _ _ h=>h) (Or.inl ⟨by rfl,?_⟩) hS ?_
                     rotate_left
                     · (intro w hSw;(try dsimp only at hSw);go_simp;(try with_reducible rfl))
                     rotate_left
                     simp only [Act.put,zq0,zq1,zq2,zq3,zq4,zq5]
                     refine wpAnyH_take (i:=18) (v:=?_) rfl (by kernel_rfl) (by kernel_rfl) (by kernel_rfl) (fun _ _ _ h=>h) (Or.inl ⟨by rfl,?_⟩) hS ?_
                     rotate_left
                     · (intro w hSw;(try dsimp only at hSw);go_simp;(try with_reducible rfl))
                     rotate_left
                     simp only [Act.put,zq0,zq1,zq2,zq3,zq4,zq5]
                     refine wpAnyH_take (i:=19) (v:=?_) rfl (by kernel_rfl) (by kernel_rfl) (by kernel_rfl) (fun _ _ _ h=>h) (Or.inl ⟨by rfl,?_⟩) hS ?_
                     rotate_left
                     · (intro w hSw;(try dsimp only at hSw);go_simp;(try with_reducible rfl))
                     rotate_left
                     simp only [Act.put,zq0,zq1,zq2,zq3,zq4,zq5]
                     refine wpAnyH_take (i:=20) (v:=?_) rfl (by kernel_rfl) (by kernel_rfl) (by kernel_rfl) (fun _ _ _ h=>h) (Or.inl ⟨by rfl,?_⟩) hS ?_
                     rotate_left
                     · (intro w hSw;(try dsimp only at hSw);go_simp;(try with_reducible rfl))
                     rotate_left
                     simp only [Act.put,zq0,zq1,zq2,zq3,zq4,zq5]
                     refine wpAnyH_take (i:=21) (v:=?_) rfl (by kernel_rfl) (by kernel_rfl) (by kernel_rfl) (fun _ _ _ h=>h) (Or.inl ⟨by rfl,?_⟩) hS ?_
                     rotate_left
                     · (intro w hSw;(try dsimp only at hSw);go_simp;(try with_reducible rfl))
                     rotate_left
                     simp only [Act.put,zq0,zq1,zq2,zq3,zq4,zq5]
                     refine wpAnyH_take (i:=22) (v:=?_) rfl (by kernel_rfl) (by kernel_rfl) (by kernel_rfl) (fun _ _ _ h=>h) (Or.inl ⟨by rfl,?_⟩) hS ?_
                     rotate_left
                     · (intro w hSw;(try dsimp only at hSw);go_simp;(try with_reducible rfl))
                     rotate_left
                     simp only [Act.put,zq0,zq1,zq2,zq3,zq4,zq5]
                     refine wpAnyH_ready (rs:=[23]) (by kernel_rfl) (by simp) ?_
                     refine AllReadyH.cons rfl (fun K hK=>?_) AllReadyH.nil
                     rw [if_pos (by rfl)]
                     go_simp
                     refine (HC.out _ _ _ _ _ _ _).mono ?_
                     rintro e w3 ⟨rfl,k3⟩
                     refine hK.out _ _ (HS.out _ (Ext.trans hS.1 k3)) (fun hS'=>?_)
                     clear hK K hS k3
                     have hS:=hS'
                     clear hS'
                     try simp only [Act.put,zq0,zq1,zq2,zq3,zq4,zq5]
                     refine wpAnyH_take (i:=24) (v:=?_) rfl (by kernel_rfl) (by kernel_rfl) (by kernel_rfl) (fun _ _ _ h=>h) (Or.inl ⟨by rfl,?_⟩) hS ?_
                     rotate_left
                     · (intro w hSw;(try dsimp only at hSw);go_simp;(try with_reducible rfl))
                     rotate_left
                     simp only [Act.put,zq0,zq1,zq2,zq3,zq4,zq5]
                     refine wpAnyH_take (i:=25) (v:=?_) rfl (by kernel_rfl) (by kernel_rfl) (by kernel_rfl) (fun _ _ _ h=>h) (Or.inl ⟨by rfl,?_⟩) hS ?_
                     rotate_left
                     · (intro w hSw;(try dsimp only at hSw);go_simp;(try with_reducible rfl))
                     rotate_left
                     simp only [Act.put,zq0,zq1,zq2,zq3,zq4,zq5]
                     refine wpAnyH_take (i:=26) (v:=?_) rfl (by kernel_rfl) (by kernel_rfl) (by kernel_rfl) (fun _ _ _ h=>h) (Or.inl ⟨by rfl,?_⟩) hS ?_
                     rotate_left
                     · (intro w hSw;(try dsimp only at hSw);go_simp;(try with_reducible rfl))
                     rotate_left
                     simp only [Act.put,zq0,zq1,zq2,zq3,zq4,zq5]
                     refine wpAnyH_take (i:=27) (v:=?_) rfl (by kernel_rfl) (by kernel_rfl) (by kernel_rfl) (fun _ _ _ h=>h) (Or.inl ⟨by rfl,?_⟩) hS ?_
                     rotate_left
                     · (intro w hSw;(try dsimp only at hSw);go_simp;(try with_reducible rfl))
                     rotate_left
                     simp only [Act.put,zq0,zq1,zq2,zq3,zq4,zq5]
                     refine wpAnyH_take (i:=28) (v:=?_) rfl (by kernel_rfl) (by kernel_rfl) (by kernel_rfl) (fun _ _ _ h=>h) (Or.inl ⟨by rfl,?_⟩) hS ?_
                     rotate_left
                     · (intro w hSw;(try dsimp only at hSw);go_simp;(try with_reducible rfl))
                     rotate_left
                     simp only [Act.put,zq0,zq1,zq2,zq3,zq4,zq5]
                     refine wpAnyH_ready (rs:=[29]) (by kernel_rfl) (by simp) ?_
                     refine AllReadyH.cons rfl (fun K hK=>?_) AllReadyH.nil
                     rw [if_pos (by rfl)]
                     go_simp
                     refine (HMK.out _ hS.1).mono ?_
                     rintro e w3 ⟨rfl,k3⟩
                     refine hK.out _ _ (HS.out _ (Ext.trans hS.1 k3)) (fun hS'=>?_)
                     clear hK K hS k3
                     have hS:=hS'
                     clear hS'
                     try simp only [Act.put,zq0,zq1,zq2,zq3,zq4,zq5]
                     refine wpAnyH_take (i:=30) (v:=?_) rfl (by kernel_rfl) (by kernel_rfl) (by kernel_rfl) (fun _ _ _ h=>h) (Or.inl ⟨by rfl,?_⟩) hS ?_
                     rotate_left
                     · (intro w hSw;(try dsimp only at hSw);go_simp;(try with_reducible rfl))
                     rotate_left
                     simp only [Act.put,zq0,zq1,zq2,zq3,zq4,zq5]
                     refine wpAnyH_take (i:=31) (v:=?_) rfl (by kernel_rfl) (by kernel_rfl) (by kernel_rfl) (fun _ _ _ h=>h) (Or.inl ⟨by rfl,?_⟩) hS ?_
                     rotate_left
                     · (intro w hSw;(try dsimp only at hSw);go_simp;(try with_reducible rfl))
                     rotate_left
                     simp only [Act.put,zq0,zq1,zq2,zq3,zq4,zq5]
                     refine wpAnyH_done (by kernel_rfl) ?_ _
                     have bH:=hS.1
                     clear hS
                     go_wp2
                     go_ret
                     exact ⟨YesNo.no fun h=>by have h2:=HBM.out.2 (HGK.out.1 (h.goes j)).1.2.2;exact absurd h2 (by decide),Ext.trans b6 bH⟩
                   | true=>
                     have HMK : Hid (∀ w',Below Wg.heap.size Wg w' → Calls Try.prog 70 #[.agg #[.slice A ys.length ca,.slice (some ⟨b,off,none⟩) gs.length cb],.agg #[.int .i64 (nuOf g),.int .u8 ((kiOf g).toNat : Int),.int .i64 (atOf g),.int .i64 (manyOf g),.slice Ab (datOf g).length cg,.slice Am (mksOf g).length cm]] w' fun e w''=>e = .returned (.bool true) ∧ Below w'.heap.size w' w''):=fun w' bb=>(rmarks_any S S ys A ca (some ⟨b,off,none⟩) gs.length cb _ _ _ _ Ab _ cg (mksOf g) Am cm w' (HY2.out.below bb) (HRM2.out.below bb)).mono fun e w'' h=>⟨h.1.is HBM.out,h.2⟩
                     have HA' : Hid (∀ i,i < j + 1 → GoOk (Cfg.mk id m c r l h) ys gs i):=by
                      intro i hi
                      by_cases h : i = j
                      · subst h
                        exact HGK.out.2 ⟨⟨by have:=of_decide_eq_false e1;omega,by simpa using e4,HBM.out.1 rfl⟩,HP0.out⟩
                      · exact HA.out i (by omega)
                     have HS : Hid (∀ w',Below Wg.heap.size Wg w' → (Below Wg.heap.size Wg w' ∧ (∀ o,w'.cell? ⟨w.heap.size,o,none⟩ = #[.int .u32 (id : Int),.int .i64 m,.int .i64 c,.int .i64 r,.int .i64 l,.int .i64 h].toList[o]?) ∧ (∀ o,w'.cell? ⟨w.heap.size + 1,o,none⟩ = #[.slice A ys.length ca,.slice (some ⟨b,off,none⟩) gs.length cb].toList[o]?) ∧ (∀ o,w'.cell? ⟨gn,o,none⟩ = #[.int .i64 (nuOf g),.int .u8 ((kiOf g).toNat : Int),.int .i64 (atOf g),.int .i64 (manyOf g),.slice Ab (datOf g).length cg,.slice Am (mksOf g).length cm].toList[o]?))):=fun w' b=>⟨b,(C2.next b).cell,(P2.next b).cell,(GN.next b).cell⟩
                     refine wp_region_held_drew (S:=fun w'=>Below Wg.heap.size Wg w' ∧ (∀ o,w'.cell? ⟨w.heap.size,o,none⟩ = #[.int .u32 (id : Int),.int .i64 m,.int .i64 c,.int .i64 r,.int .i64 l,.int .i64 h].toList[o]?) ∧ (∀ o,w'.cell? ⟨w.heap.size + 1,o,none⟩ = #[.slice A ys.length ca,.slice (some ⟨b,off,none⟩) gs.length cb].toList[o]?) ∧ (∀ o,w'.cell? ⟨gn,o,none⟩ = #[.int .i64 (nuOf g),.int .u8 ((kiOf g).toNat : Int),.int .i64 (atOf g),.int .i64 (manyOf g),.slice Ab (datOf g).length cg,.slice Am (mksOf g).length cm].toList[o]?)) (by kernel_rfl) (HS.out _ (Ext.drew (Below.refl _ _))) (fun hS=>?_)
                     refine wpAnyH_take (i:=0) (v:=?_) rfl (by kernel_rfl) (by kernel_rfl) (by kernel_rfl) (fun _ _ _ h=>h) (Or.inl ⟨by rfl,?_⟩) hS ?_
                     rotate_left
                     · (intro w hSw;(try dsimp only at hSw);go_simp;(try with_reducible rfl))
                     rotate_left
                     simp only [Act.put,zq0,zq1,zq2,zq3,zq4,zq5]
                     refine wpAnyH_take (i:=1) (v:=?_) rfl (by kernel_rfl) (by kernel_rfl) (by kernel_rfl) (fun _ _ _ h=>h) (Or.inl ⟨by rfl,?_⟩) hS ?_
                     rotate_left
                     · (intro w hSw;(try dsimp only at hSw);go_simp;(try with_reducible rfl))
                     rotate_left
                     simp only [Act.put,zq0,zq1,zq2,zq3,zq4,zq5]
                     refine wpAnyH_take (i:=2) (v:=?_) rfl (by kernel_rfl) (by kernel_rfl) (by kernel_rfl) (fun _ _ _ h=>h) (Or.inl ⟨by rfl,?_⟩) hS ?_
                     rotate_left
                     · (intro w hSw;(try dsimp only at hSw);go_simp;(try with_reducible rfl))
                     rotate_left
                     simp only [Act.put,zq0,zq1,zq2,zq3,zq4,zq5]
                     refine wpAnyH_take (i:=3) (v:=?_) rfl (by kernel_rfl) (by kernel_rfl) (by kernel_rfl) (fun _ _ _ h=>h) (Or.inl ⟨by rfl,?_⟩) hS ?_
                     rotate_left
                     · (intro w hSw;(try dsimp only at hSw);go_simp;(try with_reducible rfl))
                     rotate_left
                     simp only [Act.put,zq0,zq1,zq2,zq3,zq4,zq5]
                     refine wpAnyH_take (i:=4) (v:=?_) rfl (by kernel_rfl) (by kernel_rfl) (by kernel_rfl) (fun _ _ _ h=>h) (Or.inl ⟨by rfl,?_⟩) hS ?_
                     rotate_left
                     · (intro w hSw;(try dsimp only at hSw);go_simp;(try with_reducible rfl))
                     rotate_left
                     simp only [Act.put,zq0,zq1,zq2,zq3,zq4,zq5]
                     refine wpAnyH_take (i:=5) (v:=?_) rfl (by kernel_rfl) (by kernel_rfl) (by kernel_rfl) (fun _ _ _ h=>h) (Or.inl ⟨by rfl,?_⟩) hS ?_
                     rotate_left
                     · (intro w hSw;(try dsimp only at hSw);go_simp;(try with_reducible rfl))
                     rotate_left
                     simp only [Act.put,zq0,zq1,zq2,zq3,zq4,zq5]
                     refine wpAnyH_take (i:=6) (v:=?_) rfl (by kernel_rfl) (by kernel_rfl) (by kernel_rfl) (fun _ _ _ h=>h) (Or.inl ⟨by rfl,?_⟩) hS ?_
                     rotate_left
                     · (intro w hSw;(try dsimp only at hSw);go_simp;(try with_reducible rfl))
                     rotate_left
                     simp only [Act.put,zq0,zq1,zq2,zq3,zq4,zq5]
                     refine wpAnyH_take (i:=7) (v:=?_) rfl (by kernel_rfl) (by kernel_rfl) (by kernel_rfl) (fun _ _ _ h=>h) (Or.inr ⟨by rfl,?_⟩) hS ?_
                     rotate_left
                     · rfl
                     rotate_left
                     simp only [Act.put,zq0,zq1,zq2,zq3,zq4,zq5]
                     refine wpAnyH_take (i:=8) (v:=?_) rfl (by kernel_rfl) (by kernel_rfl) (by kernel_rfl) (fun _ _ _ h=>h) (Or.inr ⟨by rfl,?_⟩) hS ?_
                     rotate_left
                     · rfl
                     rotate_left
                     simp only [Act.put,zq0,zq1,zq2,zq3,zq4,zq5]
                     refine wpAnyH_take (i:=9) (v:=?_) rfl (by kernel_rfl) (by kernel_rfl) (by kernel_rfl) (fun _ _ _ h=>h) (Or.inr ⟨by rfl,?_⟩) hS ?_
                     rotate_left
                     · rfl
                     rotate_left
                     simp only [Act.put,zq0,zq1,zq2,zq3,zq4,zq5]
                     refine wpAnyH_take (i:=10) (v:=?_) rfl (by kernel_rfl) (by kernel_rfl) (by kernel_rfl) (fun _ _ _ h=>h) (Or.inr ⟨by rfl,?_⟩) hS ?_
                     rotate_left
                     · rfl
                     rotate_left
                     simp only [Act.put,zq0,zq1,zq2,zq3,zq4,zq5]
                     refine wpAnyH_take (i:=11) (v:=?_) rfl (by kernel_rfl) (by kernel_rfl) (by kernel_rfl) (fun _ _ _ h=>h) (Or.inr ⟨by rfl,?_⟩) hS ?_
                     rotate_left
                     · rfl
                     rotate_left
                     simp only [Act.put,zq0,zq1,zq2,zq3,zq4,zq5]
                     refine wpAnyH_take (i:=12) (v:=?_) rfl (by kernel_rfl) (by kernel_rfl) (by kernel_rfl) (fun _ _ _ h=>h) (Or.inr ⟨by rfl,?_⟩) hS ?_
                     rotate_left
                     · rfl
                     rotate_left
                     simp only [Act.put,zq0,zq1,zq2,zq3,zq4,zq5]
                     refine wpAnyH_take (i:=13) (v:=?_) rfl (by kernel_rfl) (by kernel_rfl) (by kernel_rfl) (fun _ _ _ h=>h) (Or.inr ⟨by rfl,?_⟩) hS ?_
                     rotate_left
                     · rfl
                     rotate_left
                     simp only [Act.put,zq0,zq1,zq2,zq3,zq4,zq5]
                     refine wpAnyH_take (i:=14) (v:=?_) rfl (by kernel_rfl) (by kernel_rfl) (by kernel_rfl) (fun _ _ _ h=>h) (Or.inr ⟨by rfl,?_⟩) hS ?_
                     rotate_left
                     · rfl
                     rotate_left
                     simp only [Act.put,zq0,zq1,zq2,zq3,zq4,zq5]
                     refine wpAnyH_take (i:=15) (v:=?_) rfl (by kernel_rfl) (by kernel_rfl) (by kernel_rfl) (fun _ _ _ h=>h) (Or.inr ⟨by rfl,?_⟩) hS ?_
                     rotate_left
                     · rfl
                     rotate_left
                     simp only [Act.put,zq0,zq1,zq2,zq3,zq4,zq5]
                     refine wpAnyH_take (i:=16) (v:=?_) rfl (by kernel_rfl) (by kernel_rfl) (by kernel_rfl) (fun _ _ _ h=>h) (Or.inr ⟨by rfl,?_⟩) hS ?_
                     rotate_left
                     · rfl
                     rotate_left
                     simp only [Act.put,zq0,zq1,zq2,zq3,zq4,zq5]
                     refine wpAnyH_take (i:=17) (v:=?_) rfl (by kernel_rfl) (by kernel_rfl) (by kernel_rfl) (fun _ _ _ h=>h) (Or.inl ⟨by rfl,?_⟩) hS ?_
                     rotate_left
                     · (intro w hSw;(try dsimp only at hSw);go_simp;(try with_reducible rfl))
                     rotate_left
                     simp only [Act.put,zq0,zq1,zq2,zq3,zq4,zq5]
                     refine wpAnyH_take (i:=18) (v:=?_) rfl (by kernel_rfl) (by kernel_rfl) (by kernel_rfl) (fun _ _ _ h=>h) (Or.inl ⟨by rfl,?_⟩) hS ?_
                     rotate_left
                     · (intro w hSw;(try dsimp only at hSw);go_simp;(try with_reducible rfl))
                     rotate_left
                     simp only [Act.put,zq0,zq1,zq2,zq3,zq4,zq5]
                     refine wpAnyH_take (i:=19) (v:=?_) rfl (by kernel_rfl) (by kernel_rfl) (by kernel_rfl) (fun _ _ _ h=>h) (Or.inl ⟨by rfl,?_⟩) hS ?_
                     rotate_left
                     · (intro w hSw;(try dsimp only at hSw);go_simp;(try with_reducible rfl))
                     rotate_left
                     simp only [Act.put,zq0,zq1,zq2,zq3,zq4,zq5]
                     refine wpAnyH_take (i:=20) (v:=?_) rfl (by kernel_rfl) (by kernel_rfl) (by kernel_rfl) (fun _ _ _ h=>h) (Or.inl ⟨by rfl,?_⟩) hS ?_
                     rotate_left
                     · (intro w hSw;(try dsimp only at hSw);go_simp;(try with_reducible rfl))
                     rotate_left
                     simp only [Act.put,zq0,zq1,zq2,zq3,zq4,zq5]
                     refine wpAnyH_take (i:=21) (v:=?_) rfl (by kernel_rfl) (by kernel_rfl) (by kernel_rfl) (fun _ _ _ h=>h) (Or.inl ⟨by rfl,?_⟩) hS ?_
                     rotate_left
                     · (intro w hSw;(try dsimp only at hSw);go_simp;(try with_reducible rfl))
                     rotate_left
                     simp only [Act.put,zq0,zq1,zq2,zq3,zq4,zq5]
                     refine wpAnyH_take (i:=22) (v:=?_) rfl (by kernel_rfl) (by kernel_rfl) (by kernel_rfl) (fun _ _ _ h=>h) (Or.inl ⟨by rfl,?_⟩) hS ?_
                     rotate_left
                     · (intro w hSw;(try dsimp only at hSw);go_simp;(try with_reducible rfl))
                     rotate_left
                     simp only [Act.put,zq0,zq1,zq2,zq3,zq4,zq5]
                     refine wpAnyH_ready (rs:=[23]) (by kernel_rfl) (by simp) ?_
                     refine AllReadyH.cons rfl (fun K hK=>?_) AllReadyH.nil
                     rw [if_pos (by rfl)]
                     go_simp
                     refine (HC.out _ _ _ _ _ _ _).mono ?_
                     rintro e w3 ⟨rfl,k3⟩
                     refine hK.out _ _ (HS.out _ (Ext.trans hS.1 k3)) (fun hS'=>?_)
                     clear hK K hS k3
                     have hS:=hS'
                     clear hS'
                     try simp only [Act.put,zq0,zq1,zq2,zq3,zq4,zq5]
                     refine wpAnyH_take (i:=24) (v:=?_) rfl (by kernel_rfl) (by kernel_rfl) (by kernel_rfl) (fun _ _ _ h=>h) (Or.inl ⟨by rfl,?_⟩) hS ?_
                     rotate_left
                     · (intro w hSw;(try dsimp only at hSw);go_simp;(try with_reducible rfl))
                     rotate_left
                     simp only [Act.put,zq0,zq1,zq2,zq3,zq4,zq5]
                     refine wpAnyH_take (i:=25) (v:=?_) rfl (by kernel_rfl) (by kernel_rfl) (by kernel_rfl) (fun _ _ _ h=>h) (Or.inl ⟨by rfl,?_⟩) hS ?_
                     rotate_left
                     · (intro w hSw;(try dsimp only at hSw);go_simp;(try with_reducible rfl))
                     rotate_left
                     simp only [Act.put,zq0,zq1,zq2,zq3,zq4,zq5]
                     refine wpAnyH_take (i:=26) (v:=?_) rfl (by kernel_rfl) (by kernel_rfl) (by kernel_rfl) (fun _ _ _ h=>h) (Or.inl ⟨by rfl,?_⟩) hS ?_
                     rotate_left
                     · (intro w hSw;(try dsimp only at hSw);go_simp;(try with_reducible rfl))
                     rotate_left
                     simp only [Act.put,zq0,zq1,zq2,zq3,zq4,zq5]
                     refine wpAnyH_take (i:=27) (v:=?_) rfl (by kernel_rfl) (by kernel_rfl) (by kernel_rfl) (fun _ _ _ h=>h) (Or.inl ⟨by rfl,?_⟩) hS ?_
                     rotate_left
                     · (intro w hSw;(try dsimp only at hSw);go_simp;(try with_reducible rfl))
                     rotate_left
                     simp only [Act.put,zq0,zq1,zq2,zq3,zq4,zq5]
                     refine wpAnyH_take (i:=28) (v:=?_) rfl (by kernel_rfl) (by kernel_rfl) (by kernel_rfl) (fun _ _ _ h=>h) (Or.inl ⟨by rfl,?_⟩) hS ?_
                     rotate_left
                     · (intro w hSw;(try dsimp only at hSw);go_simp;(try with_reducible rfl))
                     rotate_left
                     simp only [Act.put,zq0,zq1,zq2,zq3,zq4,zq5]
                     refine wpAnyH_ready (rs:=[29]) (by kernel_rfl) (by simp) ?_
                     refine AllReadyH.cons rfl (fun K hK=>?_) AllReadyH.nil
                     rw [if_pos (by rfl)]
                     go_simp
                     refine (HMK.out _ hS.1).mono ?_
                     rintro e w3 ⟨rfl,k3⟩
                     refine hK.out _ _ (HS.out _ (Ext.trans hS.1 k3)) (fun hS'=>?_)
                     clear hK K hS k3
                     have hS:=hS'
                     clear hS'
                     try simp only [Act.put,zq0,zq1,zq2,zq3,zq4,zq5]
                     refine wpAnyH_take (i:=30) (v:=?_) rfl (by kernel_rfl) (by kernel_rfl) (by kernel_rfl) (fun _ _ _ h=>h) (Or.inl ⟨by rfl,?_⟩) hS ?_
                     rotate_left
                     · (intro w hSw;(try dsimp only at hSw);go_simp;(try with_reducible rfl))
                     rotate_left
                     simp only [Act.put,zq0,zq1,zq2,zq3,zq4,zq5]
                     refine wpAnyH_take (i:=31) (v:=?_) rfl (by kernel_rfl) (by kernel_rfl) (by kernel_rfl) (fun _ _ _ h=>h) (Or.inl ⟨by rfl,?_⟩) hS ?_
                     rotate_left
                     · (intro w hSw;(try dsimp only at hSw);go_simp;(try with_reducible rfl))
                     rotate_left
                     simp only [Act.put,zq0,zq1,zq2,zq3,zq4,zq5]
                     refine wpAnyH_done (by kernel_rfl) ?_ _
                     have bH:=hS.1
                     clear hS
                     have b8:=Ext.trans b7 bH
                     go_wp2
                     go_roundw
                     case rel=>exact ⟨j + 1,HLJ.out,by first | exact round_same HWJ | go_num,b8,HA'⟩
                     case measure=>first | exact round_less HWJ HLJ.out | (have h:=HLJ.out;simp [intOf];omega)
           · have b3:=Ext.trans t0 b2
             go_wp2
             go_ret
             exact ⟨YesNo.yes ⟨HX.out,HL.out.trans HN.out,HF.out,HV.out,fun i=>by
              by_cases h : i < j
              · exact HA.out i h
              · exact fun h'=>absurd h' (by omega)⟩,b3⟩
 · have HM:=Lib.hid (may_no x hx)
   have HX : Hid (¬ PlainOk x ys gs):=fun h=>hx h.cfg
   clear hx
   obtain ⟨id,m,c,r,l,h⟩:=x
   unfold Cfg.val at *
   dsimp only at *
   have C0:=BoxOf.alloc (BoxOf.new w #[.int .u32 (id : Int),.int .i64 m,.int .i64 c,.int .i64 r,.int .i64 l,.int .i64 h] 24) (.cells #[.slice A ys.length ca,.slice B gs.length cb] 28)
   have P0:=BoxOf.new' (w.alloc (.cells #[.int .u32 (id : Int),.int .i64 m,.int .i64 c,.int .i64 r,.int .i64 l,.int .i64 h] 24)) (w.heap.size + 1) #[.slice A ys.length ca,.slice B gs.length cb] 28 (by simp)
   have t0:=Ext.alloc (Ext.alloc (Below.refl w.heap.size w) (.cells #[.int .u32 (id : Int),.int .i64 m,.int .i64 c,.int .i64 r,.int .i64 l,.int .i64 h] 24)) (.cells #[.slice A ys.length ca,.slice B gs.length cb] 28)
   clear hy hg
   go_enter Try.func40,Try.ntmps40
   go_upto_region 1 with fail
   generalize (w.alloc (.cells #[.int .u32 (id : Int),.int .i64 m,.int .i64 c,.int .i64 r,.int .i64 l,.int .i64 h] 24)).alloc (.cells #[.slice A ys.length ca,.slice B gs.length cb] 28) = W at *
   have HS : Hid (∀ w',Below W.heap.size W w' → (Below W.heap.size W w' ∧ (∀ o,w'.cell? ⟨w.heap.size,o,none⟩ = #[.int .u32 (id : Int),.int .i64 m,.int .i64 c,.int .i64 r,.int .i64 l,.int .i64 h].toList[o]?) ∧ ∀ o,w'.cell? ⟨w.heap.size + 1,o,none⟩ = #[.slice A ys.length ca,.slice B gs.length cb].toList[o]?)):=fun w' b=>⟨b,(C0.next b).cell,(P0.next b).cell⟩
   refine wp_region_held_drew (S:=fun w'=>Below W.heap.size W w' ∧ (∀ o,w'.cell? ⟨w.heap.size,o,none⟩ = #[.int .u32 (id : Int),.int .i64 m,.int .i64 c,.int .i64 r,.int .i64 l,.int .i64 h].toList[o]?) ∧ ∀ o,w'.cell? ⟨w.heap.size + 1,o,none⟩ = #[.slice A ys.length ca,.slice B gs.length cb].toList[o]?) (by kernel_rfl) (HS.out _ (Ext.drew (Below.refl _ _))) (fun hS=>?_)
   refine wpAnyH_take (i:=0) (v:=?_) rfl (by kernel_rfl) (by kernel_rfl) (by kernel_rfl) (fun _ _ _ h=>h) (Or.inl ⟨by rfl,?_⟩) hS ?_
   rotate_left
   · (intro w hSw;(try dsimp only at hSw);go_simp;(try with_reducible rfl))
   rotate_left
   simp only [Act.put,zq0,zq1,zq2,zq3,zq4,zq5]
   refine wpAnyH_ready (rs:=[1]) (by kernel_rfl) (by simp) ?_
   refine AllReadyH.cons rfl (fun K hK=>?_) AllReadyH.nil
   rw [if_pos (by rfl)]
   go_simp
   refine (HM.out _).mono ?_
   rintro e w3 ⟨rfl,k3⟩
   refine hK.out _ _ (HS.out _ (Ext.trans hS.1 k3)) (fun hS'=>?_)
   clear hK K hS k3
   have hS:=hS'
   clear hS'
   try simp only [Act.put,zq0,zq1,zq2,zq3,zq4,zq5]
   refine wpAnyH_take (i:=2) (v:=?_) rfl (by kernel_rfl) (by kernel_rfl) (by kernel_rfl) (fun _ _ _ h=>h) (Or.inl ⟨by rfl,?_⟩) hS ?_
   rotate_left
   · (intro w hSw;(try dsimp only at hSw);go_simp;(try with_reducible rfl))
   rotate_left
   simp only [Act.put,zq0,zq1,zq2,zq3,zq4,zq5]
   refine wpAnyH_take (i:=3) (v:=?_) rfl (by kernel_rfl) (by kernel_rfl) (by kernel_rfl) (fun _ _ _ h=>h) (Or.inl ⟨by rfl,?_⟩) hS ?_
   rotate_left
   · (intro w hSw;(try dsimp only at hSw);go_simp;(try with_reducible rfl))
   rotate_left
   simp only [Act.put,zq0,zq1,zq2,zq3,zq4,zq5]
   skip
   refine wpAnyH_take (i:=4) (v:=?_) rfl (by kernel_rfl) (by kernel_rfl) (by kernel_rfl) (fun _ _ _ h=>h) (Or.inr ⟨by rfl,?_⟩) hS ?_
   rotate_left
   · rfl
   rotate_left
   simp only [Act.put,zq0,zq1,zq2,zq3,zq4,zq5]
   refine wpAnyH_take (i:=5) (v:=?_) rfl (by kernel_rfl) (by kernel_rfl) (by kernel_rfl) (fun _ _ _ h=>h) (Or.inr ⟨by rfl,?_⟩) hS ?_
   rotate_left
   · rfl
   rotate_left
   simp only [Act.put,zq0,zq1,zq2,zq3,zq4,zq5]
   refine wpAnyH_take (i:=6) (v:=?_) rfl (by kernel_rfl) (by kernel_rfl) (by kernel_rfl) (fun _ _ _ h=>h) (Or.inr ⟨by rfl,?_⟩) hS ?_
   rotate_left
   · rfl
   rotate_left
   simp only [Act.put,zq0,zq1,zq2,zq3,zq4,zq5]
   refine wpAnyH_take (i:=7) (v:=?_) rfl (by kernel_rfl) (by kernel_rfl) (by kernel_rfl) (fun _ _ _ h=>h) (Or.inr ⟨by rfl,?_⟩) hS ?_
   rotate_left
   · rfl
   rotate_left
   simp only [Act.put,zq0,zq1,zq2,zq3,zq4,zq5]
   refine wpAnyH_take (i:=8) (v:=?_) rfl (by kernel_rfl) (by kernel_rfl) (by kernel_rfl) (fun _ _ _ h=>h) (Or.inr ⟨by rfl,?_⟩) hS ?_
   rotate_left
   · rfl
   rotate_left
   simp only [Act.put,zq0,zq1,zq2,zq3,zq4,zq5]
   refine wpAnyH_take (i:=9) (v:=?_) rfl (by kernel_rfl) (by kernel_rfl) (by kernel_rfl) (fun _ _ _ h=>h) (Or.inr ⟨by rfl,?_⟩) hS ?_
   rotate_left
   · rfl
   rotate_left
   simp only [Act.put,zq0,zq1,zq2,zq3,zq4,zq5]
   refine wpAnyH_take (i:=10) (v:=?_) rfl (by kernel_rfl) (by kernel_rfl) (by kernel_rfl) (fun _ _ _ h=>h) (Or.inl ⟨by rfl,?_⟩) hS ?_
   rotate_left
   · (intro w hSw;(try dsimp only at hSw);go_simp;(try with_reducible rfl))
   rotate_left
   simp only [Act.put,zq0,zq1,zq2,zq3,zq4,zq5]
   refine wpAnyH_take (i:=11) (v:=?_) rfl (by kernel_rfl) (by kernel_rfl) (by kernel_rfl) (fun _ _ _ h=>h) (Or.inl ⟨by rfl,?_⟩) hS ?_
   rotate_left
   · (intro w hSw;(try dsimp only at hSw);go_simp;(try with_reducible rfl))
   rotate_left
   simp only [Act.put,zq0,zq1,zq2,zq3,zq4,zq5]
   refine wpAnyH_take (i:=12) (v:=?_) rfl (by kernel_rfl) (by kernel_rfl) (by kernel_rfl) (fun _ _ _ h=>h) (Or.inr ⟨by rfl,?_⟩) hS ?_
   rotate_left
   · rfl
   rotate_left
   simp only [Act.put,zq0,zq1,zq2,zq3,zq4,zq5]
   refine wpAnyH_take (i:=13) (v:=?_) rfl (by kernel_rfl) (by kernel_rfl) (by kernel_rfl) (fun _ _ _ h=>h) (Or.inr ⟨by rfl,?_⟩) hS ?_
   rotate_left
   · rfl
   rotate_left
   simp only [Act.put,zq0,zq1,zq2,zq3,zq4,zq5]
   refine wpAnyH_take (i:=14) (v:=?_) rfl (by kernel_rfl) (by kernel_rfl) (by kernel_rfl) (fun _ _ _ h=>h) (Or.inr ⟨by rfl,?_⟩) hS ?_
   rotate_left
   · rfl
   rotate_left
   simp only [Act.put,zq0,zq1,zq2,zq3,zq4,zq5]
   refine wpAnyH_take (i:=15) (v:=?_) rfl (by kernel_rfl) (by kernel_rfl) (by kernel_rfl) (fun _ _ _ h=>h) (Or.inr ⟨by rfl,?_⟩) hS ?_
   rotate_left
   · rfl
   rotate_left
   simp only [Act.put,zq0,zq1,zq2,zq3,zq4,zq5]
   refine wpAnyH_take (i:=16) (v:=?_) rfl (by kernel_rfl) (by kernel_rfl) (by kernel_rfl) (fun _ _ _ h=>h) (Or.inl ⟨by rfl,?_⟩) hS ?_
   rotate_left
   · (intro w hSw;(try dsimp only at hSw);go_simp;(try with_reducible rfl))
   rotate_left
   simp only [Act.put,zq0,zq1,zq2,zq3,zq4,zq5]
   refine wpAnyH_done (by kernel_rfl) ?_ _
   have bH:=hS.1
   clear hS
   go_wp2
   go_ret
   exact ⟨YesNo.no HX.out,Ext.trans t0 bH⟩
end Go.Proofs.Ytclbihcggjjgaaa
