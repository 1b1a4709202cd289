/- What this claim needs of my texts, merged and shortened by a program (part 4). -/
import Derived.Test.YthapabjlhooglaaZFlightOrder3
namespace Go.Proofs.Ythapabjlhooglaa
open Go Go.RowKit
set_option linter.unusedSimpArgs false
set_option linter.unusedVariables false
theorem NumRow.own_gt {w : World} {lo hi : Nat} {tid : TypeId} {v : Value} {xs : List Value} (h : NumRow w (Iv lo hi) tid v xs) {b : Nat} (hb : b < lo) : v.ownBlock ≠ some b:=fun e=>by
 obtain ⟨_,_,_,_,_,h3,_⟩:=h
 have:=(h3 b e).1
 omega
theorem NumRow.setLo {w : World} {lo : Nat} {tid : TypeId} {v : Value} {xs : List Value} (h : NumRow w (Iv (lo + 1) w.heap.size) tid v xs) (i : Nat) (u : Value) : NumRow (w.setCell ⟨lo,i,none⟩ u) (Iv (lo + 1) (w.setCell ⟨lo,i,none⟩ u).heap.size) tid v xs:=by
 rw [msize]
 exact h.frame fun b hb=>Below.heap_setCell _ _ _ _ (show b ≠ lo by have:=hb.1;omega)
theorem TW.setLo {w : World} {lo : Nat} {vs vq vx : Value} {b : Nat} (h : TW w lo vs vq vx b) (i : Nat) (u : Value) : TW (w.setCell ⟨lo,i,none⟩ u) lo vs vq vx b:=
 ⟨⟨by rw [msize];exact h.1.1,live_set h.1.2 _ _⟩,h.2⟩
theorem RdIn.setTW {w : World} {lo : Nat} {vs vq vx : Value} {t : Ty} {x : t.T} {cs : List Value} (h : RdIn w (TW w lo vs vq vx) t x cs) (i : Nat) (u : Value) : RdIn (w.setCell ⟨lo,i,none⟩ u) (TW (w.setCell ⟨lo,i,none⟩ u) lo vs vq vx) t x cs:=
 (h.frame fun b hb=>Below.heap_setCell _ _ _ _ (show b ≠ lo by have:=hb.1.1.1;omega)).mono fun b hb=>hb.setLo i u
theorem TwIn.setLo {w : World} {lo : Nat} {g : FlTy.T} {vd vs vq vx : Value} {hs0 hs : List Value} {j : Nat} (h : TwIn w lo g vd vs vq vx hs0 hs j) (i : Nat) (u : Value) : TwIn (w.setCell ⟨lo,i,none⟩ u) lo g vd vs vq vx hs0 hs j where
 st:=h.st.setLo i u
 sq:=h.sq.setLo i u
 row:=h.row.setLo i u
 len:=h.len
 old:=h.old
 dat:=h.dat.setTW i u
 new:=fun k h1 h2 h3=>(h.new k h1 h2 h3).setTW i u
theorem TwIn.start {wA wB wC wD : World} {lo : Nat} {g : FlTy.T} {vd vs vq vx : Value} {hs0 : List Value} (hlo : lo < wA.heap.size) (bB : Below wA.heap.size wA wB) (bC : Below wB.heap.size wB wC) (bD : Below wC.heap.size wC wD)
 (hd : RdIn wA (fun b=>Iv (lo + 1) wA.heap.size b ∧ Live wA b) (.sl .byte) (fD g) [vd]) (hs : NumRow wB (Iv wA.heap.size wB.heap.size) 5 vs ((fS g).map byteV)) (hq : NumRow wC (Iv wB.heap.size wC.heap.size) 22 vq ((fQ g).map seqV)) (hx : NumRow wD (Iv wC.heap.size wD.heap.size) 26 vx hs0) (hl : hs0.length = (fB g).length) :
 TwIn wD lo g vd vs vq vx hs0 hs0 0 where
 st:=((hs.mono (F':=Iv (lo + 1) wB.heap.size) fun b hb=>⟨by have:=hb.1;omega,hb.2⟩).below bC).below bD
 sq:=(hq.mono (F':=Iv (lo + 1) wC.heap.size) fun b hb=>⟨by have:=hb.1;have:=bB.size;omega,hb.2⟩).below bD
 row:=hx.mono fun b hb=>⟨by have:=hb.1;have:=bB.size;have:=bC.size;omega,hb.2⟩
 len:=hl
 old:=fun _ _=>rfl
 dat:=(((hd.below bB).below bC).below bD).mono fun b hb=>by
  have h1:=hb.1.2
  have:=bB.size;have:=bC.size;have:=bD.size
  refine ⟨⟨⟨hb.1.1,by omega⟩,?_⟩,hs.own_gt h1,hq.own_gt (by omega),hx.own_gt (by omega)⟩
  exact ((hb.2.below bB).below bC).below bD
 new:=fun i _ _ h=>absurd h (Nat.not_lt_zero i)
def FlNew (lo : Nat) (fs : List FlTy.T) (v : Value) (w : World) : Prop:=OwnE flE w (Iv lo w.heap.size) lo 67 v fs
def AfterCl (wr : World) (lo : Nat) (g : FlTy.T) (Ad : Option Addr) (cd m : Nat) (hs0 : List Value) (wx : World) : Prop:=∃ (As' : Option Addr) (cs' : Nat) (Aq' : Option Addr) (cq' : Nat) (Ax' : Option Addr) (cx' : Nat),
 BoxOf wx lo #[.int .i64 (fN g),.int .u8 (kI g),.int .i64 (fA g),.int .i64 (fM g),.slice Ad (fD g).length cd,.slice As' (fS g).length cs',.slice Aq' (fQ g).length cq',.slice Ax' m cx'] 67 ∧ Below wr.heap.size wr wx ∧ TwIn wx lo g (.slice Ad (fD g).length cd) (.slice As' (fS g).length cs') (.slice Aq' (fQ g).length cq') (.slice Ax' m cx') hs0 hs0 0
set_option maxRecDepth 100000 in
set_option maxHeartbeats 8000000 in
theorem ftwin_any (S : Nat → Prop) (fs : List FlTy.T) (N d : Nat) (B : Option Addr) (hN : fs.length = N) (w : World) (hr : RdIn w S (.sl FlTy) fs [.slice B N d]) :
 Calls Try.prog 17 #[.slice B N d] w fun e w'=>(∃ v,e = .returned v ∧ FlNew w.heap.size fs v w') ∧ Below w.heap.size w w':=by
 obtain ⟨ig,hig,hg0,hg1,hg2⟩:=minfo_flight
 have HR:=Lib.hid hr
 have HNM : Hid (N ≤ maxLen):=by have:=fl_max hr;show N ≤ maxLen;omega
 have HNZ : Hid (N * 128 ≤ 140737488355328):=by
  obtain ⟨_,_,_,_,h1,_⟩:=viewF hr
  rw [hN] at h1
  exact h1
 have HNL:=Lib.hid hN
 clear hr hN
 go_enter Try.func17,Try.ntmps17
 go_upto_region 1 with fail
 obtain ⟨W,hW⟩ : ∃ z : World,z = w:=⟨_,rfl⟩
 have b0 : Below W.heap.size W w:=by rw [hW];exact Below.refl _ _
 have HWW:=Lib.hid hW
 rw [← hW] at HR
 clear hW
 go_wp2
 go_loopw [2,9] (fun v i wr=>∃ (k : Nat),k ≤ N ∧ i = .int .i64 (k : Int) ∧ Below W.heap.size W wr ∧ FlNew W.heap.size (fs.take k) v wr) (fun _ i _=>N - (intOf i).toNat)
 case atStart=>exact ⟨0,by omega,rfl,b0,OwnE.nil _ _ _ _ _⟩
 case round=>
  obtain ⟨k,hk,rfl,b1,O1⟩:=hrel
  clear b0
  have bw : Below w.heap.size w wr:=by have:=HWW.out;subst this;exact b1
  by_cases hlt : k < N
  · have hlf : k < fs.length:=by have:=HNL.out;omega
    obtain ⟨b,off,Ab,cb,As,cs,Aq,cq,Ax,cx,rfl,q0,q1,q2,q3,q4,q5,q6,q7,hi,r1,r2,r3,r4⟩:=fl_at (HR.out.below b1) hlf
    have HST:=Lib.hid (show fs.take (k + 1) = fs.take k ++ [fs[k]] from List.take_succ_eq_append_getElem hlf)
    generalize fs[k] = g at *
    have HWJ:=next_wrap HNM.out hlt
    have HLJ:=Lib.hid hlt
    have HI:=Lib.hid hi
    have HSM:=Lib.hid (sq_small r3)
    have HZ : Hid ((fS g).length ≤ 140737488355328 ∧ (fQ g).length * 4 ≤ 140737488355328 ∧ (fB g).length * 24 ≤ 140737488355328):=by
     obtain ⟨_,_,_,_,_,h1,_⟩:=rdin_sl.1 r2
     obtain ⟨_,_,_,_,_,h2,_⟩:=rdin_sl.1 r3
     obtain ⟨_,_,_,_,_,h3,_⟩:=rdin_sl.1 r4
     refine ⟨?_,h2,h3⟩
     have h4 : (fS g).length * 1 ≤ 140737488355328:=h1
     omega
    obtain ⟨hs0,hl0,_,hrd0,hpl0,hr0⟩:=heads_of r4
    obtain ⟨m,hm⟩ : ∃ m : Nat,m = (fB g).length:=⟨_,rfl⟩
    have HM:=Lib.hid hm
    rw [← hm] at q7
    have HC1 : Hid (∀ w',Below wr.heap.size wr w' → Calls Try.prog 43 #[.slice Ab (fD g).length cb] w' fun e w''=>(∃ v,e = .returned v ∧ RdIn w'' (NewB w'.heap.size w'') (.sl .byte) (fD g) [v]) ∧ Below w'.heap.size w' w''):=fun w' bb=>clone_any S (fD g) Ab cb w' (r1.below bb)
    have HC2 : Hid (∀ w',Below wr.heap.size wr w' → Calls Try.prog 46 #[.slice As (fS g).length cs] w' fun e w''=>(∃ v,e = .returned v ∧ NumRow w'' (Iv w'.heap.size w''.heap.size) 5 v ((fS g).map byteV)) ∧ Below w'.heap.size w' w''):=fun w' bb=>cln_u8 _ As _ cs (by simp) (byte_max r2) (by have:=HZ.out.1;omega) (by intro u hu;rw [List.mem_map] at hu;obtain ⟨y,_,rfl⟩:=hu;rfl) w' (RdIn.row (e:=.byte) rfl (r2.below bb)).2
    have HC3 : Hid (∀ w',Below wr.heap.size wr w' → Calls Try.prog 47 #[.slice Aq (fQ g).length cq] w' fun e w''=>(∃ v,e = .returned v ∧ NumRow w'' (Iv w'.heap.size w''.heap.size) 22 v ((fQ g).map seqV)) ∧ Below w'.heap.size w' w''):=fun w' bb=>cln_u32 _ Aq _ cq (by simp) (seq_max r3) HZ.out.2.1 (by intro u hu;rw [List.mem_map] at hu;obtain ⟨y,_,rfl⟩:=hu;rfl) w' (RdIn.row (e:=.u32) rfl (r3.below bb)).2
    have HC4 : Hid (∀ w',Below wr.heap.size wr w' → Calls Try.prog 48 #[.slice Ax m cx] w' fun e w''=>(∃ v,e = .returned v ∧ NumRow w'' (Iv w'.heap.size w''.heap.size) 26 v hs0) ∧ Below w'.heap.size w' w''):=fun w' bb=>cln_row hs0 Ax m cx (by omega) (by have:=val_max r4;omega) (by have:=HZ.out.2.2;omega) hpl0 w' (hrd0.below bb)
    have HC5 : Hid (∀ i (h : i < hs0.length) (h' : i < (fB g).length),RdIn wr S (.sl .byte) (fB g)[i] [hs0[i]]):=hr0
    have HML : Hid (hs0.length = m ∧ m ≤ maxLen):=⟨by omega,by have:=val_max r4;omega⟩
    have bA:=Ext.alloc (Below.refl wr.heap.size wr) (.cells #[.int .i64 (fN g),.int .u8 (kI g),.int .i64 (fA g),.int .i64 (fM g),.slice Ab (fD g).length cb,.slice As (fS g).length cs,.slice Aq (fQ g).length cq,.slice Ax m cx] 67)
    have G1:=BoxOf.new wr #[.int .i64 (fN g),.int .u8 (kI g),.int .i64 (fA g),.int .i64 (fM g),.slice Ab (fD g).length cb,.slice As (fS g).length cs,.slice Aq (fQ g).length cq,.slice Ax m cx] 67
    clear hi r1 r2 r3 r4 hr0 hpl0 hrd0 hl0 hm hlf
    go_upto_region 4 with fail
    clear q0 q1 q2 q3 q4 q5 q6 q7
    obtain ⟨lo,hlo⟩ : ∃ z : Nat,z = wr.heap.size:=⟨_,rfl⟩
    have HLO:=Lib.hid hlo
    rw [← hlo] at G1 ⊢
    clear hlo
    generalize wr.alloc (.cells #[.int .i64 (fN g),.int .u8 (kI g),.int .i64 (fA g),.int .i64 (fM g),.slice Ab (fD g).length cb,.slice As (fS g).length cs,.slice Aq (fQ g).length cq,.slice Ax m cx] 67) = W1 at *
    have x1:=G1.cell
    have hl1:=G1.lt
    go_wp2_with fail
    refine (HC1.out _ bA).mono ?_
    rintro e w2 ⟨⟨vd,rfl,rd⟩,b2⟩
    obtain ⟨Ad,cd,rfl⟩:=bytesV rd
    have G2:=G1.next b2
    have bA2:=Ext.trans bA b2
    have l2 : lo < w2.heap.size:=G2.lt
    have D2 : RdIn w2 (fun b=>Iv (lo + 1) w2.heap.size b ∧ Live w2 b) (.sl .byte) (fD g) [.slice Ad (fD g).length cd]:=rd.mono fun b hb=>⟨⟨by have:=hb.1;omega,hb.2.1⟩,hb.2.2⟩
    have G3 : BoxOf _ lo #[.int .i64 (fN g),.int .u8 (kI g),.int .i64 (fA g),.int .i64 (fM g),.slice Ad (fD g).length cd,.slice As (fS g).length cs,.slice Aq (fQ g).length cq,.slice Ax m cx] 67:=mbox_self G2 4 (.slice Ad (fD g).length cd)
    have D3 : RdIn (w2.setCell ⟨lo,4,none⟩ (.slice Ad (fD g).length cd)) (fun b=>Iv (lo + 1) (w2.setCell ⟨lo,4,none⟩ (.slice Ad (fD g).length cd)).heap.size b ∧ Live (w2.setCell ⟨lo,4,none⟩ (.slice Ad (fD g).length cd)) b) (.sl .byte) (fD g) [.slice Ad (fD g).length cd]:=(D2.frame fun b hb=>Below.heap_setCell _ _ _ _ (show b ≠ lo by have:=hb.1.1;omega)).mono fun b hb=>⟨by rw [msize];exact hb.1,live_set hb.2 _ _⟩
    have b3:=Below.setCell (p:=⟨lo,4,none⟩) bA2 (show wr.heap.size ≤ lo by rw [HLO.out];exact Nat.le_refl _) (.slice Ad (fD g).length cd)
    have x2:=G2.cell
    have f2:=G2.free
    have HD:=Lib.hid D3
    clear x1 hl1 rd D2 D3 bA bA2 b2 HC1 G1
    go_upto_region 5 with fail
    clear x2 f2 G2
    generalize w2.setCell ⟨lo,4,none⟩ (.slice Ad (fD g).length cd) = w3 at *
    have x3:=G3.cell
    have HLE : Hid (wr.heap.size ≤ lo):=by rw [HLO.out];exact Nat.le_refl _
    go_cut [] (fun wx=>AfterCl wr lo g Ad cd m hs0 wx)
    case first=>
     refine wp_region_held_drew (S:=fun w'=>Below wr.heap.size wr w') (by kernel_rfl) (Ext.drew b3) (fun hS=>?_)
     have bd:=Ext.drew (Below.refl w3.heap.size w3)
     have D5 : RdIn w3.drew (fun b=>Iv (lo + 1) w3.drew.heap.size b ∧ Live w3.drew b) (.sl .byte) (fD g) [.slice Ad (fD g).length cd]:=HD.out.below bd
     have G:=G3.next bd
     have bb:=Ext.trans b3 bd
     have hlA:=G.lt
     clear HD G3 b3 x3 bd
     generalize w3.drew = wA at *
     refine wpAnyH_take (i:=0) (v:=?_) rfl (by kernel_rfl) (by kernel_rfl) (by kernel_rfl) (fun _ _ _ h=>h) (Or.inl ⟨by rfl,?_⟩) hS ?_
     rotate_left
     · (intro w hSw;(try dsimp only at hSw);go_simp;(try with_reducible rfl))
     rotate_left
     simp only [Act.put,zq0,zq1,zq2,zq3,zq4,zq5]
     refine wpAnyH_take (i:=3) (v:=?_) rfl (by kernel_rfl) (by kernel_rfl) (by kernel_rfl) (fun _ _ _ h=>h) (Or.inl ⟨by rfl,?_⟩) hS ?_
     rotate_left
     · (intro w hSw;(try dsimp only at hSw);go_simp;(try with_reducible rfl))
     rotate_left
     simp only [Act.put,zq0,zq1,zq2,zq3,zq4,zq5]
     refine wpAnyH_take (i:=6) (v:=?_) rfl (by kernel_rfl) (by kernel_rfl) (by kernel_rfl) (fun _ _ _ h=>h) (Or.inl ⟨by rfl,?_⟩) hS ?_
     rotate_left
     · (intro w hSw;(try dsimp only at hSw);go_simp;(try with_reducible rfl))
     rotate_left
     simp only [Act.put,zq0,zq1,zq2,zq3,zq4,zq5]
     refine wpAnyH_ready (rs:=[1,4,7]) (by kernel_rfl) (by simp) ?_
     refine AllReadyH.cons rfl (fun K hK=>?_) (AllReadyH.cons rfl (fun K hK=>?_) (AllReadyH.cons rfl (fun K hK=>?_) AllReadyH.nil))
     · rw [if_pos (by rfl)]
       have yQ:=G.cell
       go_simp
       refine hK.out _ _ bb (fun hS'=>?_)
       clear yQ
       clear hK K hS
       have hS:=hS'
       clear hS'
       try simp only [Act.put,zq0,zq1,zq2,zq3,zq4,zq5]
       refine wpAnyH_ready (rs:=[2,4,7]) (by kernel_rfl) (by simp) ?_
       refine AllReadyH.cons rfl (fun K hK=>?_) (AllReadyH.cons rfl (fun K hK=>?_) (AllReadyH.cons rfl (fun K hK=>?_) AllReadyH.nil))
       · rw [if_pos (by rfl)]
         go_simp
         refine (HC2.out _ bb).mono ?_
         rintro e wB ⟨⟨vs,rfl,ns⟩,bB⟩
         have G9:=G.next bB
         have bb9:=Ext.trans bb bB
         clear G bb
         have G:=G9
         have bb:=bb9
         clear G9 bb9
         refine hK.out _ _ bb (fun hS'=>?_)
         clear hK K hS
         have hS:=hS'
         clear hS'
         try simp only [Act.put,zq0,zq1,zq2,zq3,zq4,zq5]
         refine wpAnyH_ready (rs:=[4,7]) (by kernel_rfl) (by simp) ?_
         refine AllReadyH.cons rfl (fun K hK=>?_) (AllReadyH.cons rfl (fun K hK=>?_) AllReadyH.nil)
         · rw [if_pos (by rfl)]
           have yQ:=G.cell
           go_simp
           refine hK.out _ _ bb (fun hS'=>?_)
           clear yQ
           clear hK K hS
           have hS:=hS'
           clear hS'
           try simp only [Act.put,zq0,zq1,zq2,zq3,zq4,zq5]
           refine wpAnyH_ready (rs:=[5,7]) (by kernel_rfl) (by simp) ?_
           refine AllReadyH.cons rfl (fun K hK=>?_) (AllReadyH.cons rfl (fun K hK=>?_) AllReadyH.nil)
           · rw [if_pos (by rfl)]
             go_simp
             refine (HC3.out _ bb).mono ?_
             rintro e wC ⟨⟨vq,rfl,nq'⟩,bC⟩
             have G9:=G.next bC
             have bb9:=Ext.trans bb bC
             clear G bb
             have G:=G9
             have bb:=bb9
             clear G9 bb9
             refine hK.out _ _ bb (fun hS'=>?_)
             clear hK K hS
             have hS:=hS'
             clear hS'
             try simp only [Act.put,zq0,zq1,zq2,zq3,zq4,zq5]
             refine wpAnyH_ready (rs:=[7]) (by kernel_rfl) (by simp) ?_
             refine AllReadyH.cons rfl (fun K hK=>?_) AllReadyH.nil
             rw [if_pos (by rfl)]
             have yQ:=G.cell
             go_simp
             refine hK.out _ _ bb (fun hS'=>?_)
             clear yQ
             clear hK K hS
             have hS:=hS'
             clear hS'
             try simp only [Act.put,zq0,zq1,zq2,zq3,zq4,zq5]
             refine wpAnyH_take (i:=9) (v:=?_) rfl (by kernel_rfl) (by kernel_rfl) (by kernel_rfl) (fun _ _ _ h=>h) (Or.inl ⟨by rfl,?_⟩) hS ?_
             rotate_left
             · (intro w hSw;(try dsimp only at hSw);go_simp;(try with_reducible rfl))
             rotate_left
             simp only [Act.put,zq0,zq1,zq2,zq3,zq4,zq5]
             refine wpAnyH_ready (rs:=[8]) (by kernel_rfl) (by simp) ?_
             refine AllReadyH.cons rfl (fun K hK=>?_) AllReadyH.nil
             rw [if_pos (by rfl)]
             go_simp
             refine (HC4.out _ bb).mono ?_
             rintro e wD ⟨⟨vx,rfl,nx⟩,bD⟩
             have G9:=G.next bD
             have bb9:=Ext.trans bb bD
             clear G bb
             have G:=G9
             have bb:=bb9
             clear G9 bb9
             have T7:=TwIn.start hlA bB bC bD D5 ns nq' nx (by have:=HML.out;have:=HM.out;omega)
             obtain ⟨As',cs',es⟩:=ns.slice
             obtain ⟨Aq',cq',eq'⟩:=nq'.slice
             obtain ⟨Ax',cx',ex⟩:=nx.slice
             rw [List.length_map] at es eq'
             rw [HML.out.1] at ex
             subst es eq' ex
             clear bB bC bD D5 ns nq' nx
             refine hK.out _ _ bb (fun hS'=>?_)
             clear hK K hS
             have hS:=hS'
             clear hS'
             try simp only [Act.put,zq0,zq1,zq2,zq3,zq4,zq5]
             refine wpAnyH_ready (rs:=[10]) (by kernel_rfl) (by simp) ?_
             refine AllReadyH.cons rfl (fun K hK=>?_) AllReadyH.nil
             rw [if_pos (by rfl)]
             have fQ:=G.free
             have yQ:=G.cell
             go_simp
             clear fQ yQ
             have G9 : BoxOf _ lo #[.int .i64 (fN g),.int .u8 (kI g),.int .i64 (fA g),.int .i64 (fM g),.slice Ad (fD g).length cd,.slice As' (fS g).length cs',.slice Aq (fQ g).length cq,.slice Ax m cx] 67:=mbox_self G 5 (.slice As' (fS g).length cs')
             have bb9:=Below.setCell (p:=⟨lo,5,none⟩) bb HLE.out (.slice As' (fS g).length cs')
             have T9:=T7.setLo 5 (.slice As' (fS g).length cs')
             clear G bb T7
             have G:=G9
             have bb:=bb9
             have T7:=T9
             clear G9 bb9 T9
             refine hK.out _ _ bb (fun hS'=>?_)
             clear hK K hS
             have hS:=hS'
             clear hS'
             try simp only [Act.put,zq0,zq1,zq2,zq3,zq4,zq5]
             refine wpAnyH_take (i:=11) (v:=?_) rfl (by kernel_rfl) (by kernel_rfl) (by kernel_rfl) (fun _ _ _ h=>h) (Or.inl ⟨by rfl,?_⟩) hS ?_
             rotate_left
             · (intro w hSw;(try dsimp only at hSw);go_simp;(try with_reducible rfl))
             rotate_left
             simp only [Act.put,zq0,zq1,zq2,zq3,zq4,zq5]
             refine wpAnyH_ready (rs:=[12]) (by kernel_rfl) (by simp) ?_
             refine AllReadyH.cons rfl (fun K hK=>?_) AllReadyH.nil
             rw [if_pos (by rfl)]
             have fQ:=G.free
             have yQ:=G.cell
             go_simp
             clear fQ yQ
             have G9 : BoxOf _ lo #[.int .i64 (fN g),.int .u8 (kI g),.int .i64 (fA g),.int .i64 (fM g),.slice Ad (fD g).length cd,.slice As' (fS g).length cs',.slice Aq' (fQ g).length cq',.slice Ax m cx] 67:=mbox_self G 6 (.slice Aq' (fQ g).length cq')
             have bb9:=Below.setCell (p:=⟨lo,6,none⟩) bb HLE.out (.slice Aq' (fQ g).length cq')
             have T9:=T7.setLo 6 (.slice Aq' (fQ g).length cq')
             clear G bb T7
             have G:=G9
             have bb:=bb9
             have T7:=T9
             clear G9 bb9 T9
             refine hK.out _ _ bb (fun hS'=>?_)
             clear hK K hS
             have hS:=hS'
             clear hS'
             try simp only [Act.put,zq0,zq1,zq2,zq3,zq4,zq5]
             refine wpAnyH_take (i:=13) (v:=?_) rfl (by kernel_rfl) (by kernel_rfl) (by kernel_rfl) (fun _ _ _ h=>h) (Or.inl ⟨by rfl,?_⟩) hS ?_
             rotate_left
             · (intro w hSw;(try dsimp only at hSw);go_simp;(try with_reducible rfl))
             rotate_left
             simp only [Act.put,zq0,zq1,zq2,zq3,zq4,zq5]
             refine wpAnyH_ready (rs:=[14]) (by kernel_rfl) (by simp) ?_
             refine AllReadyH.cons rfl (fun K hK=>?_) AllReadyH.nil
             rw [if_pos (by rfl)]
             have fQ:=G.free
             have yQ:=G.cell
             go_simp
             clear fQ yQ
             have G9 : BoxOf _ lo #[.int .i64 (fN g),.int .u8 (kI g),.int .i64 (fA g),.int .i64 (fM g),.slice Ad (fD g).length cd,.slice As' (fS g).length cs',.slice Aq' (fQ g).length cq',.slice Ax' m cx'] 67:=mbox_self G 7 (.slice Ax' m cx')
             have bb9:=Below.setCell (p:=⟨lo,7,none⟩) bb HLE.out (.slice Ax' m cx')
             have T9:=T7.setLo 7 (.slice Ax' m cx')
             clear G bb T7
             have G:=G9
             have bb:=bb9
             have T7:=T9
             clear G9 bb9 T9
             refine hK.out _ _ bb (fun hS'=>?_)
             clear hK K hS
             have hS:=hS'
             clear hS'
             try simp only [Act.put,zq0,zq1,zq2,zq3,zq4,zq5]
             refine wpAnyH_done (by kernel_rfl) ?_ _
             have HG:=Lib.hid (And.intro G (And.intro bb T7))
             clear hS G bb T7
             go_wp2_with fail
             go_meet
             exact ⟨_,_,_,_,_,_,HG.out⟩
           · rw [if_pos (by rfl)]
             have yQ:=G.cell
             go_simp
             refine hK.out _ _ bb (fun hS'=>?_)
             clear yQ
             clear hK K hS
             have hS:=hS'
             clear hS'
             try simp only [Act.put,zq0,zq1,zq2,zq3,zq4,zq5]
             refine wpAnyH_take (i:=9) (v:=?_) rfl (by kernel_rfl) (by kernel_rfl) (by kernel_rfl) (fun _ _ _ h=>h) (Or.inl ⟨by rfl,?_⟩) hS ?_
             rotate_left
             · (intro w hSw;(try dsimp only at hSw);go_simp;(try with_reducible rfl))
             rotate_left
             simp only [Act.put,zq0,zq1,zq2,zq3,zq4,zq5]
             refine wpAnyH_ready (rs:=[5]) (by kernel_rfl) (by simp) ?_
             refine AllReadyH.cons rfl (fun K hK=>?_) AllReadyH.nil
             rw [if_pos (by rfl)]
             go_simp
             refine (HC3.out _ bb).mono ?_
             rintro e wC ⟨⟨vq,rfl,nq'⟩,bC⟩
             have G9:=G.next bC
             have bb9:=Ext.trans bb bC
             clear G bb
             have G:=G9
             have bb:=bb9
             clear G9 bb9
             refine hK.out _ _ bb (fun hS'=>?_)
             clear hK K hS
             have hS:=hS'
             clear hS'
             try simp only [Act.put,zq0,zq1,zq2,zq3,zq4,zq5]
             refine wpAnyH_ready (rs:=[8]) (by kernel_rfl) (by simp) ?_
             refine AllReadyH.cons rfl (fun K hK=>?_) AllReadyH.nil
             rw [if_pos (by rfl)]
             go_simp
             refine (HC4.out _ bb).mono ?_
             rintro e wD ⟨⟨vx,rfl,nx⟩,bD⟩
             have G9:=G.next bD
             have bb9:=Ext.trans bb bD
             clear G bb
             have G:=G9
             have bb:=bb9
             clear G9 bb9
             have T7:=TwIn.start hlA bB bC bD D5 ns nq' nx (by have:=HML.out;have:=HM.out;omega)
             obtain ⟨As',cs',es⟩:=ns.slice
             obtain ⟨Aq',cq',eq'⟩:=nq'.slice
             obtain ⟨Ax',cx',ex⟩:=nx.slice
             rw [List.length_map] at es eq'
             rw [HML.out.1] at ex
             subst es eq' ex
             clear bB bC bD D5 ns nq' nx
             refine hK.out _ _ bb (fun hS'=>?_)
             clear hK K hS
             have hS:=hS'
             clear hS'
             try simp only [Act.put,zq0,zq1,zq2,zq3,zq4,zq5]
             refine wpAnyH_ready (rs:=[10]) (by kernel_rfl) (by simp) ?_
             refine AllReadyH.cons rfl (fun K hK=>?_) AllReadyH.nil
             rw [if_pos (by rfl)]
             have fQ:=G.free
             have yQ:=G.cell
             go_simp
             clear fQ yQ
             have G9 : BoxOf _ lo #[.int .i64 (fN g),.int .u8 (kI g),.int .i64 (fA g),.int .i64 (fM g),.slice Ad (fD g).length cd,.slice As' (fS g).length cs',.slice Aq (fQ g).length cq,.slice Ax m cx] 67:=mbox_self G 5 (.slice As' (fS g).length cs')
             have bb9:=Below.setCell (p:=⟨lo,5,none⟩) bb HLE.out (.slice As' (fS g).length cs')
             have T9:=T7.setLo 5 (.slice As' (fS g).length cs')
             clear G bb T7
             have G:=G9
             have bb:=bb9
             have T7:=T9
             clear G9 bb9 T9
             refine hK.out _ _ bb (fun hS'=>?_)
             clear hK K hS
             have hS:=hS'
             clear hS'
             try simp only [Act.put,zq0,zq1,zq2,zq3,zq4,zq5]
             refine wpAnyH_take (i:=11) (v:=?_) rfl (by kernel_rfl) (by kernel_rfl) (by kernel_rfl) (fun _ _ _ h=>h) (Or.inl ⟨by rfl,?_⟩) hS ?_
             rotate_left
             · (intro w hSw;(try dsimp only at hSw);go_simp;(try with_reducible rfl))
             rotate_left
             simp only [Act.put,zq0,zq1,zq2,zq3,zq4,zq5]
             refine wpAnyH_ready (rs:=[12]) (by kernel_rfl) (by simp) ?_
             refine AllReadyH.cons rfl (fun K hK=>?_) AllReadyH.nil
             rw [if_pos (by rfl)]
             have fQ:=G.free
             have yQ:=G.cell
             go_simp
             clear fQ yQ
             have G9 : BoxOf _ lo #[.int .i64 (fN g),.int .u8 (kI g),.int .i64 (fA g),.int .i64 (fM g),.slice Ad (fD g).length cd,.slice As' (fS g).length cs',.slice Aq' (fQ g).length cq',.slice Ax m cx] 67:=mbox_self G 6 (.slice Aq' (fQ g).length cq')
             have bb9:=Below.setCell (p:=⟨lo,6,none⟩) bb HLE.out (.slice Aq' (fQ g).length cq')
             have T9:=T7.setLo 6 (.slice Aq' (fQ g).length cq')
             clear G bb T7
             have G:=G9
             have bb:=bb9
             have T7:=T9
             clear G9 bb9 T9
             refine hK.out _ _ bb (fun hS'=>?_)
             clear hK K hS
             have hS:=hS'
             clear hS'
             try simp only [Act.put,zq0,zq1,zq2,zq3,zq4,zq5]
             refine wpAnyH_take (i:=13) (v:=?_) rfl (by kernel_rfl) (by kernel_rfl) (by kernel_rfl) (fun _ _ _ h=>h) (Or.inl ⟨by rfl,?_⟩) hS ?_
             rotate_left
             · (intro w hSw;(try dsimp only at hSw);go_simp;(try with_reducible rfl))
             rotate_left
             simp only [Act.put,zq0,zq1,zq2,zq3,zq4,zq5]
             refine wpAnyH_ready (rs:=[14]) (by kernel_rfl) (by simp) ?_
             refine AllReadyH.cons rfl (fun K hK=>?_) AllReadyH.nil
             rw [if_pos (by rfl)]
             have fQ:=G.free
             have yQ:=G.cell
             go_simp
             clear fQ yQ
             have G9 : BoxOf _ lo #[.int .i64 (fN g),.int .u8 (kI g),.int .i64 (fA g),.int .i64 (fM g),.slice Ad (fD g).length cd,.slice As' (fS g).length cs',.slice Aq' (fQ g).length cq',.slice Ax' m cx'] 67:=mbox_self G 7 (.slice Ax' m cx')
             have bb9:=Below.setCell (p:=⟨lo,7,none⟩) bb HLE.out (.slice Ax' m cx')
             have T9:=T7.setLo 7 (.slice Ax' m cx')
             clear G bb T7
             have G:=G9
             have bb:=bb9
             have T7:=T9
             clear G9 bb9 T9
             refine hK.out _ _ bb (fun hS'=>?_)
             clear hK K hS
             have hS:=hS'
             clear hS'
             try simp only [Act.put,zq0,zq1,zq2,zq3,zq4,zq5]
             refine wpAnyH_done (by kernel_rfl) ?_ _
             have HG:=Lib.hid (And.intro G (And.intro bb T7))
             clear hS G bb T7
             go_wp2_with fail
             go_meet
             exact ⟨_,_,_,_,_,_,HG.out⟩
         · rw [if_pos (by rfl)]
           have yQ:=G.cell
           go_simp
           refine hK.out _ _ bb (fun hS'=>?_)
           clear yQ
           clear hK K hS
           have hS:=hS'
           clear hS'
           try simp only [Act.put,zq0,zq1,zq2,zq3,zq4,zq5]
           refine wpAnyH_ready (rs:=[4]) (by kernel_rfl) (by simp) ?_
           refine AllReadyH.cons rfl (fun K hK=>?_) AllReadyH.nil
           rw [if_pos (by rfl)]
           have yQ:=G.cell
           go_simp
           refine hK.out _ _ bb (fun hS'=>?_)
           clear yQ
           clear hK K hS
           have hS:=hS'
           clear hS'
           try simp only [Act.put,zq0,zq1,zq2,zq3,zq4,zq5]
           refine wpAnyH_take (i:=9) (v:=?_) rfl (by kernel_rfl) (by kernel_rfl) (by kernel_rfl) (fun _ _ _ h=>h) (Or.inl ⟨by rfl,?_⟩) hS ?_
           rotate_left
           · (intro w hSw;(try dsimp only at hSw);go_simp;(try with_reducible rfl))
           rotate_left
           simp only [Act.put,zq0,zq1,zq2,zq3,zq4,zq5]
           refine wpAnyH_ready (rs:=[5]) (by kernel_rfl) (by simp) ?_
           refine AllReadyH.cons rfl (fun K hK=>?_) AllReadyH.nil
           rw [if_pos (by rfl)]
           go_simp
           refine (HC3.out _ bb).mono ?_
           rintro e wC ⟨⟨vq,rfl,nq'⟩,bC⟩
           have G9:=G.next bC
           have bb9:=Ext.trans bb bC
           clear G bb
           have G:=G9
           have bb:=bb9
           clear G9 bb9
           refine hK.out _ _ bb (fun hS'=>?_)
           clear hK K hS
           have hS:=hS'
           clear hS'
           try simp only [Act.put,zq0,zq1,zq2,zq3,zq4,zq5]
           refine wpAnyH_ready (rs:=[8]) (by kernel_rfl) (by simp) ?_
           refine AllReadyH.cons rfl (fun K hK=>?_) AllReadyH.nil
           rw [if_pos (by rfl)]
           go_simp
           refine (HC4.out _ bb).mono ?_
           rintro e wD ⟨⟨vx,rfl,nx⟩,bD⟩
           have G9:=G.next bD
           have bb9:=Ext.trans bb bD
           clear G bb
           have G:=G9
           have bb:=bb9
           clear G9 bb9
           have T7:=TwIn.start hlA bB bC bD D5 ns nq' nx (by have:=HML.out;have:=HM.out;omega)
           obtain ⟨As',cs',es⟩:=ns.slice
           obtain ⟨Aq',cq',eq'⟩:=nq'.slice
           obtain ⟨Ax',cx',ex⟩:=nx.slice
           rw [List.length_map] at es eq'
           rw [HML.out.1] at ex
           subst es eq' ex
           clear bB bC bD D5 ns nq' nx
           refine hK.out _ _ bb (fun hS'=>?_)
           clear hK K hS
           have hS:=hS'
           clear hS'
           try simp only [Act.put,zq0,zq1,zq2,zq3,zq4,zq5]
           refine wpAnyH_ready (rs:=[10]) (by kernel_rfl) (by simp) ?_
           refine AllReadyH.cons rfl (fun K hK=>?_) AllReadyH.nil
           rw [if_pos (by rfl)]
           have fQ:=G.free
           have yQ:=G.cell
           go_simp
           clear fQ yQ
           have G9 : BoxOf _ lo #[.int .i64 (fN g),.int .u8 (kI g),.int .i64 (fA g),.int .i64 (fM g),.slice Ad (fD g).length cd,.slice As' (fS g).length cs',.slice Aq (fQ g).length cq,.slice Ax m cx] 67:=mbox_self G 5 (.slice As' (fS g).length cs')
           have bb9:=Below.setCell (p:=⟨lo,5,none⟩) bb HLE.out (.slice As' (fS g).length cs')
           have T9:=T7.setLo 5 (.slice As' (fS g).length cs')
           clear G bb T7
           have G:=G9
           have bb:=bb9
           have T7:=T9
           clear G9 bb9 T9
           refine hK.out _ _ bb (fun hS'=>?_)
           clear hK K hS
           have hS:=hS'
           clear hS'
           try simp only [Act.put,zq0,zq1,zq2,zq3,zq4,zq5]
           refine wpAnyH_take (i:=11) (v:=?_) rfl (by kernel_rfl) (by kernel_rfl) (by kernel_rfl) (fun _ _ _ h=>h) (Or.inl ⟨by rfl,?_⟩) hS ?_
           rotate_left
           · (intro w hSw;(try dsimp only at hSw);go_simp;(try with_reducible rfl))
           rotate_left
           simp only [Act.put,zq0,zq1,zq2,zq3,zq4,zq5]
           refine wpAnyH_ready (rs:=[12]) (by kernel_rfl) (by simp) ?_
           refine AllReadyH.cons rfl (fun K hK=>?_) AllReadyH.nil
           rw [if_pos (by rfl)]
           have fQ:=G.free
           have yQ:=G.cell
           go_simp
           clear fQ yQ
           have G9 : BoxOf _ lo #[.int .i64 (fN g),.int .u8 (kI g),.int .i64 (fA g),.int .i64 (fM g),.slice Ad (fD g).length cd,.slice As' (fS g).length cs',.slice Aq' (fQ g).length cq',.slice Ax m cx] 67:=mbox_self G 6 (.slice Aq' (fQ g).length cq')
           have bb9:=Below.setCell (p:=⟨lo,6,none⟩) bb HLE.out (.slice Aq' (fQ g).length cq')
           have T9:=T7.setLo 6 (.slice Aq' (fQ g).length cq')
           clear G bb T7
           have G:=G9
           have bb:=bb9
           have T7:=T9
           clear G9 bb9 T9
           refine hK.out _ _ bb (fun hS'=>?_)
           clear hK K hS
           have hS:=hS'
           clear hS'
           try simp only [Act.put,zq0,zq1,zq2,zq3,zq4,zq5]
           refine wpAnyH_take (i:=13) (v:=?_) rfl (by kernel_rfl) (by kernel_rfl) (by kernel_rfl) (fun _ _ _ h=>h) (Or.inl ⟨by rfl,?_⟩) hS ?_
           rotate_left
           · (intro w hSw;(try dsimp only at hSw);go_simp;(try with_reducible rfl))
           rotate_left
           simp only [Act.put,zq0,zq1,zq2,zq3,zq4,zq5]
           refine wpAnyH_ready (rs:=[14]) (by kernel_rfl) (by simp) ?_
           refine AllReadyH.cons rfl (fun K hK=>?_) AllReadyH.nil
           rw [if_pos (by rfl)]
           have fQ:=G.free
           have yQ:=G.cell
           go_simp
           clear fQ yQ
           have G9 : BoxOf _ lo #[.int .i64 (fN g),.int .u8 (kI g),.int .i64 (fA g),.int .i64 (fM g),.slice Ad (fD g).length cd,.slice As' (fS g).length cs',.slice Aq' (fQ g).length cq',.slice Ax' m cx'] 67:=mbox_self G 7 (.slice Ax' m cx')
           have bb9:=Below.setCell (p:=⟨lo,7,none⟩) bb HLE.out (.slice Ax' m cx')
           have T9:=T7.setLo 7 (.slice Ax' m cx')
           clear G bb T7
           have G:=G9
           have bb:=bb9
           have T7:=T9
           clear G9 bb9 T9
           refine hK.out _ _ bb (fun hS'=>?_)
           clear hK K hS
           have hS:=hS'
           clear hS'
           try simp only [Act.put,zq0,zq1,zq2,zq3,zq4,zq5]
           refine wpAnyH_done (by kernel_rfl) ?_ _
           have HG:=Lib.hid (And.intro G (And.intro bb T7))
           clear hS G bb T7
           go_wp2_with fail
           go_meet
           exact ⟨_,_,_,_,_,_,HG.out⟩
       · rw [if_pos (by rfl)]
         have yQ:=G.cell
         go_simp
         refine hK.out _ _ bb (fun hS'=>?_)
         clear yQ
         clear hK K hS
         have hS:=hS'
         clear hS'
         try simp only [Act.put,zq0,zq1,zq2,zq3,zq4,zq5]
         refine wpAnyH_ready (rs:=[2,7]) (by kernel_rfl) (by simp) ?_
         refine AllReadyH.cons rfl (fun K hK=>?_) (AllReadyH.cons rfl (fun K hK=>?_) AllReadyH.nil)
         · rw [if_pos (by rfl)]
           go_simp
           refine (HC2.out _ bb).mono ?_
           rintro e wB ⟨⟨vs,rfl,ns⟩,bB⟩
           have G9:=G.next bB
           have bb9:=Ext.trans bb bB
           clear G bb
           have G:=G9
           have bb:=bb9
           clear G9 bb9
           refine hK.out _ _ bb (fun hS'=>?_)
           clear hK K hS
           have hS:=hS'
           clear hS'
           try simp only [Act.put,zq0,zq1,zq2,zq3,zq4,zq5]
           refine wpAnyH_ready (rs:=[5,7]) (by kernel_rfl) (by simp) ?_
           refine AllReadyH.cons rfl (fun K hK=>?_) (AllReadyH.cons rfl (fun K hK=>?_) AllReadyH.nil)
           · rw [if_pos (by rfl)]
             go_simp
             refine (HC3.out _ bb).mono ?_
             rintro e wC ⟨⟨vq,rfl,nq'⟩,bC⟩
             have G9:=G.next bC
             have bb9:=Ext.trans bb bC
             clear G bb
             have G:=G9
             have bb:=bb9
             clear G9 bb9
             refine hK.out _ _ bb (fun hS'=>?_)
             clear hK K hS
             have hS:=hS'
             clear hS'
             try simp only [Act.put,zq0,zq1,zq2,zq3,zq4,zq5]
             refine wpAnyH_ready (rs:=[7]) (by kernel_rfl) (by simp) ?_
             refine AllReadyH.cons rfl (fun K hK=>?_) AllReadyH.nil
             rw [if_pos (by rfl)]
             have yQ:=G.cell
             go_simp
             refine hK.out _ _ bb (fun hS'=>?_)
             clear yQ
             clear hK K hS
             have hS:=hS'
             clear hS'
             try simp only [Act.put,zq0,zq1,zq2,zq3,zq4,zq5]
             refine wpAnyH_take (i:=9) (v:=?_) rfl (by kernel_rfl) (by kernel_rfl) (by kernel_rfl) (fun _ _ _ h=>h) (Or.inl ⟨by rfl,?_⟩) hS ?_
             rotate_left
             · (intro w hSw;(try dsimp only at hSw);go_simp;(try with_reducible rfl))
             rotate_left
             simp only [Act.put,zq0,zq1,zq2,zq3,zq4,zq5]
             refine wpAnyH_ready (rs:=[8]) (by kernel_rfl) (by simp) ?_
             refine AllReadyH.cons rfl (fun K hK=>?_) AllReadyH.nil
             rw [if_pos (by rfl)]
             go_simp
             refine (HC4.out _ bb).mono ?_
             rintro e wD ⟨⟨vx,rfl,nx⟩,bD⟩
             have G9:=G.next bD
             have bb9:=Ext.trans bb bD
             clear G bb
             have G:=G9
             have bb:=bb9
             clear G9 bb9
             have T7:=TwIn.start hlA bB bC bD D5 ns nq' nx (by have:=HML.out;have:=HM.out;omega)
             obtain ⟨As',cs',es⟩:=ns.slice
             obtain ⟨Aq',cq',eq'⟩:=nq'.slice
             obtain ⟨Ax',cx',ex⟩:=nx.slice
             rw [List.length_map] at es eq'
             rw [HML.out.1] at ex
             subst es eq' ex
             clear bB bC bD D5 ns nq' nx
             refine hK.out _ _ bb (fun hS'=>?_)
             clear hK K hS
             have hS:=hS'
             clear hS'
             try simp only [Act.put,zq0,zq1,zq2,zq3,zq4,zq5]
             refine wpAnyH_ready (rs:=[10]) (by kernel_rfl) (by simp) ?_
             refine AllReadyH.cons rfl (fun K hK=>?_) AllReadyH.nil
             rw [if_pos (by rfl)]
             have fQ:=G.free
             have yQ:=G.cell
             go_simp
             clear fQ yQ
             have G9 : BoxOf _ lo #[.int .i64 (fN g),.int .u8 (kI g),.int .i64 (fA g),.int .i64 (fM g),.slice Ad (fD g).length cd,.slice As' (fS g).length cs',.slice Aq (fQ g).length cq,.slice Ax m cx] 67:=mbox_self G 5 (.slice As' (fS g).length cs')
             have bb9:=Below.setCell (p:=⟨lo,5,none⟩) bb HLE.out (.slice As' (fS g).length cs')
             have T9:=T7.setLo 5 (.slice As' (fS g).length cs')
             clear G bb T7
             have G:=G9
             have bb:=bb9
             have T7:=T9
             clear G9 bb9 T9
             refine hK.out _ _ bb (fun hS'=>?_)
             clear hK K hS
             have hS:=hS'
             clear hS'
             try simp only [Act.put,zq0,zq1,zq2,zq3,zq4,zq5]
             refine wpAnyH_take (i:=11) (v:=?_) rfl (by kernel_rfl) (by kernel_rfl) (by kernel_rfl) (fun _ _ _ h=>h) (Or.inl ⟨by rfl,?_⟩) hS ?_
             rotate_left
             · (intro w hSw;(try dsimp only at hSw);go_simp;(try with_reducible rfl))
             rotate_left
             simp only [Act.put,zq0,zq1,zq2,zq3,zq4,zq5]
             refine wpAnyH_ready (rs:=[12]) (by kernel_rfl) (by simp) ?_
             refine AllReadyH.cons rfl (fun K hK=>?_) AllReadyH.nil
             rw [if_pos (by rfl)]
             have fQ:=G.free
             have yQ:=G.cell
             go_simp
             clear fQ yQ
             have G9 : BoxOf _ lo #[.int .i64 (fN g),.int .u8 (kI g),.int .i64 (fA g),.int .i64 (fM g),.slice Ad (fD g).length cd,.slice As' (fS g).length cs',.slice Aq' (fQ g).length cq',.slice Ax m cx] 67:=mbox_self G 6 (.slice Aq' (fQ g).length cq')
             have bb9:=Below.setCell (p:=⟨lo,6,none⟩) bb HLE.out (.slice Aq' (fQ g).length cq')
             have T9:=T7.setLo 6 (.slice Aq' (fQ g).length cq')
             clear G bb T7
             have G:=G9
             have bb:=bb9
             have T7:=T9
             clear G9 bb9 T9
             refine hK.out _ _ bb (fun hS'=>?_)
             clear hK K hS
             have hS:=hS'
             clear hS'
             try simp only [Act.put,zq0,zq1,zq2,zq3,zq4,zq5]
             refine wpAnyH_take (i:=13) (v:=?_) rfl (by kernel_rfl) (by kernel_rfl) (by kernel_rfl) (fun _ _ _ h=>h) (Or.inl ⟨by rfl,?_⟩) hS ?_
             rotate_left
             · (intro w hSw;(try dsimp only at hSw);go_simp;(try with_reducible rfl))
             rotate_left
             simp only [Act.put,zq0,zq1,zq2,zq3,zq4,zq5]
             refine wpAnyH_ready (rs:=[14]) (by kernel_rfl) (by simp) ?_
             refine AllReadyH.cons rfl (fun K hK=>?_) AllReadyH.nil
             rw [if_pos (by rfl)]
             have fQ:=G.free
             have yQ:=G.cell
             go_simp
             clear fQ yQ
             have G9 : BoxOf _ lo #[.int .i64 (fN g),.int .u8 (kI g),.int .i64 (fA g),.int .i64 (fM g),.slice Ad (fD g).length cd,.slice As' (fS g).length cs',.slice Aq' (fQ g).length cq',.slice Ax' m cx'] 67:=mbox_self G 7 (.slice Ax' m cx')
             have bb9:=Below.setCell (p:=⟨lo,7,none⟩) bb HLE.out (.slice Ax' m cx')
             have T9:=T7.setLo 7 (.slice Ax' m cx')
             clear G bb T7
             have G:=G9
             have bb:=bb9
             have T7:=T9
             clear G9 bb9 T9
             refine hK.out _ _ bb (fun hS'=>?_)
             clear hK K hS
             have hS:=hS'
             clear hS'
             try simp only [Act.put,zq0,zq1,zq2,zq3,zq4,zq5]
             refine wpAnyH_done (by kernel_rfl) ?_ _
             have HG:=Lib.hid (And.intro G (And.intro bb T7))
             clear hS G bb T7
             go_wp2_with fail
             go_meet
             exact ⟨_,_,_,_,_,_,HG.out⟩
           · rw [if_pos (by rfl)]
             have yQ:=G.cell
             go_simp
             refine hK.out _ _ bb (fun hS'=>?_)
             clear yQ
             clear hK K hS
             have hS:=hS'
             clear hS'
             try simp only [Act.put,zq0,zq1,zq2,zq3,zq4,zq5]
             refine wpAnyH_take (i:=9) (v:=?_) rfl (by kernel_rfl) (by kernel_rfl) (by kernel_rfl) (fun _ _ _ h=>h) (Or.inl ⟨by rfl,?_⟩) hS ?_
             rotate_left
             · (intro w hSw;(try dsimp only at hSw);go_simp;(try with_reducible rfl))
             rotate_left
             simp only [Act.put,zq0,zq1,zq2,zq3,zq4,zq5]
             refine wpAnyH_ready (rs:=[5]) (by kernel_rfl) (by simp) ?_
             refine AllReadyH.cons rfl (fun K hK=>?_) AllReadyH.nil
             rw [if_pos (by rfl)]
             go_simp
             refine (HC3.out _ bb).mono ?_
             rintro e wC ⟨⟨vq,rfl,nq'⟩,bC⟩
             have G9:=G.next bC
             have bb9:=Ext.trans bb bC
             clear G bb
             have G:=G9
             have bb:=bb9
             clear G9 bb9
             refine hK.out _ _ bb (fun hS'=>?_)
             clear hK K hS
             have hS:=hS'
             clear hS'
             try simp only [Act.put,zq0,zq1,zq2,zq3,zq4,zq5]
             refine wpAnyH_ready (rs:=[8]) (by kernel_rfl) (by simp) ?_
             refine AllReadyH.cons rfl (fun K hK=>?_) AllReadyH.nil
             rw [if_pos (by rfl)]
             go_simp
             refine (HC4.out _ bb).mono ?_
             rintro e wD ⟨⟨vx,rfl,nx⟩,bD⟩
             have G9:=G.next bD
             have bb9:=Ext.trans bb bD
             clear G bb
             have G:=G9
             have bb:=bb9
             clear G9 bb9
             have T7:=TwIn.start hlA bB bC bD D5 ns nq' nx (by have:=HML.out;have:=HM.out;omega)
             obtain ⟨As',cs',es⟩:=ns.slice
             obtain ⟨Aq',cq',eq'⟩:=nq'.slice
             obtain ⟨Ax',cx',ex⟩:=nx.slice
             rw [List.length_map] at es eq'
             rw [HML.out.1] at ex
             subst es eq' ex
             clear bB bC bD D5 ns nq' nx
             refine hK.out _ _ bb (fun hS'=>?_)
             clear hK K hS
             have hS:=hS'
             clear hS'
             try simp only [Act.put,zq0,zq1,zq2,zq3,zq4,zq5]
             refine wpAnyH_ready (rs:=[10]) (by kernel_rfl) (by simp) ?_
             refine AllReadyH.cons rfl (fun K hK=>?_) AllReadyH.nil
             rw [if_pos (by rfl)]
             have fQ:=G.free
             have yQ:=G.cell
             go_simp
             clear fQ yQ
             have G9 : BoxOf _ lo #[.int .i64 (fN g),.int .u8 (kI g),.int .i64 (fA g),.int .i64 (fM g),.slice Ad (fD g).length cd,.slice As' (fS g).length cs',.slice Aq (fQ g).length cq,.slice Ax m cx] 67:=mbox_self G 5 (.slice As' (fS g).length cs')
             have bb9:=Below.setCell (p:=⟨lo,5,none⟩) bb HLE.out (.slice As' (fS g).length cs')
             have T9:=T7.setLo 5 (.slice As' (fS g).length cs')
             clear G bb T7
             have G:=G9
             have bb:=bb9
             have T7:=T9
             clear G9 bb9 T9
             refine hK.out _ _ bb (fun hS'=>?_)
             clear hK K hS
             have hS:=hS'
             clear hS'
             try simp only [Act.put,zq0,zq1,zq2,zq3,zq4,zq5]
             refine wpAnyH_take (i:=11) (v:=?_) rfl (by kernel_rfl) (by kernel_rfl) (by kernel_rfl) (fun _ _ _ h=>h) (Or.inl ⟨by rfl,?_⟩) hS ?_
             rotate_left
             · (intro w hSw;(try dsimp only at hSw);go_simp;(try with_reducible rfl))
             rotate_left
             simp only [Act.put,zq0,zq1,zq2,zq3,zq4,zq5]
             refine wpAnyH_ready (rs:=[12]) (by kernel_rfl) (by simp) ?_
             refine AllReadyH.cons rfl (fun K hK=>?_) AllReadyH.nil
             rw [if_pos (by rfl)]
             have fQ:=G.free
             have yQ:=G.cell
             go_simp
             clear fQ yQ
             have G9 : BoxOf _ lo #[.int .i64 (fN g),.int .u8 (kI g),.int .i64 (fA g),.int .i64 (fM g),.slice Ad (fD g).length cd,.slice As' (fS g).length cs',.slice Aq' (fQ g).length cq',.slice Ax m cx] 67:=mbox_self G 6 (.slice Aq' (fQ g).length cq')
             have bb9:=Below.setCell (p:=⟨lo,6,none⟩) bb HLE.out (.slice Aq' (fQ g).length cq')
             have T9:=T7.setLo 6 (.slice Aq' (fQ g).length cq')
             clear G bb T7
             have G:=G9
             have bb:=bb9
             have T7:=T9
             clear G9 bb9 T9
             refine hK.out _ _ bb (fun hS'=>?_)
             clear hK K hS
             have hS:=hS'
             clear hS'
             try simp only [Act.put,zq0,zq1,zq2,zq3,zq4,zq5]
             refine wpAnyH_take (i:=13) (v:=?_) rfl (by kernel_rfl) (by kernel_rfl) (by kernel_rfl) (fun _ _ _ h=>h) (Or.inl ⟨by rfl,?_⟩) hS ?_
             rotate_left
             · (intro w hSw;(try dsimp only at hSw);go_simp;(try with_reducible rfl))
             rotate_left
             simp only [Act.put,zq0,zq1,zq2,zq3,zq4,zq5]
             refine wpAnyH_ready (rs:=[14]) (by kernel_rfl) (by simp) ?_
             refine AllReadyH.cons rfl (fun K hK=>?_) AllReadyH.nil
             rw [if_pos (by rfl)]
             have fQ:=G.free
             have yQ:=G.cell
             go_simp
             clear fQ yQ
             have G9 : BoxOf _ lo #[.int .i64 (fN g),.int .u8 (kI g),.int .i64 (fA g),.int .i64 (fM g),.slice Ad (fD g).length cd,.slice As' (fS g).length cs',.slice Aq' (fQ g).length cq',.slice Ax' m cx'] 67:=mbox_self G 7 (.slice Ax' m cx')
             have bb9:=Below.setCell (p:=⟨lo,7,none⟩) bb HLE.out (.slice Ax' m cx')
             have T9:=T7.setLo 7 (.slice Ax' m cx')
             clear G bb T7
             have G:=G9
             have bb:=bb9
             have T7:=T9
             clear G9 bb9 T9
             refine hK.out _ _ bb (fun hS'=>?_)
             clear hK K hS
             have hS:=hS'
             clear hS'
             try simp only [Act.put,zq0,zq1,zq2,zq3,zq4,zq5]
             refine wpAnyH_done (by kernel_rfl) ?_ _
             have HG:=Lib.hid (And.intro G (And.intro bb T7))
             clear hS G bb T7
             go_wp2_with fail
             go_meet
             exact ⟨_,_,_,_,_,_,HG.out⟩
         · rw [if_pos (by rfl)]
           have yQ:=G.cell
           go_simp
           refine hK.out _ _ bb (fun hS'=>?_)
           clear yQ
           clear hK K hS
           have hS:=hS'
           clear hS'
           try simp only [Act.put,zq0,zq1,zq2,zq3,zq4,zq5]
           refine wpAnyH_ready (rs:=[2]) (by kernel_rfl) (by simp) ?_
           refine AllReadyH.cons rfl (fun K hK=>?_) AllReadyH.nil
           rw [if_pos (by rfl)]
           go_simp
           refine (HC2.out _ bb).mono ?_
           rintro e wB ⟨⟨vs,rfl,ns⟩,bB⟩
           have G9:=G.next bB
           have bb9:=Ext.trans bb bB
           clear G bb
           have G:=G9
           have bb:=bb9
           clear G9 bb9
           refine hK.out _ _ bb (fun hS'=>?_)
           clear hK K hS
           have hS:=hS'
           clear hS'
           try simp only [Act.put,zq0,zq1,zq2,zq3,zq4,zq5]
           refine wpAnyH_take (i:=9) (v:=?_) rfl (by kernel_rfl) (by kernel_rfl) (by kernel_rfl) (fun _ _ _ h=>h) (Or.inl ⟨by rfl,?_⟩) hS ?_
           rotate_left
           · (intro w hSw;(try dsimp only at hSw);go_simp;(try with_reducible rfl))
           rotate_left
           simp only [Act.put,zq0,zq1,zq2,zq3,zq4,zq5]
           refine wpAnyH_ready (rs:=[5]) (by kernel_rfl) (by simp) ?_
           refine AllReadyH.cons rfl (fun K hK=>?_) AllReadyH.nil
           rw [if_pos (by rfl)]
           go_simp
           refine (HC3.out _ bb).mono ?_
           rintro e wC ⟨⟨vq,rfl,nq'⟩,bC⟩
           have G9:=G.next bC
           have bb9:=Ext.trans bb bC
           clear G bb
           have G:=G9
           have bb:=bb9
           clear G9 bb9
           refine hK.out _ _ bb (fun hS'=>?_)
           clear hK K hS
           have hS:=hS'
           clear hS'
           try simp only [Act.put,zq0,zq1,zq2,zq3,zq4,zq5]
           refine wpAnyH_ready (rs:=[8]) (by kernel_rfl) (by simp) ?_
           refine AllReadyH.cons rfl (fun K hK=>?_) AllReadyH.nil
           rw [if_pos (by rfl)]
           go_simp
           refine (HC4.out _ bb).mono ?_
           rintro e wD ⟨⟨vx,rfl,nx⟩,bD⟩
           have G9:=G.next bD
           have bb9:=Ext.trans bb bD
           clear G bb
           have G:=G9
           have bb:=bb9
           clear G9 bb9
           have T7:=TwIn.start hlA bB bC bD D5 ns nq' nx (by have:=HML.out;have:=HM.out;omega)
           obtain ⟨As',cs',es⟩:=ns.slice
           obtain ⟨Aq',cq',eq'⟩:=nq'.slice
           obtain ⟨Ax',cx',ex⟩:=nx.slice
           rw [List.length_map] at es eq'
           rw [HML.out.1] at ex
           subst es eq' ex
           clear bB bC bD D5 ns nq' nx
           refine hK.out _ _ bb (fun hS'=>?_)
           clear hK K hS
           have hS:=hS'
           clear hS'
           try simp only [Act.put,zq0,zq1,zq2,zq3,zq4,zq5]
           refine wpAnyH_ready (rs:=[10]) (by kernel_rfl) (by simp) ?_
           refine AllReadyH.cons rfl (fun K hK=>?_) AllReadyH.nil
           rw [if_pos (by rfl)]
           have fQ:=G.free
           have yQ:=G.cell
           go_simp
           clear fQ yQ
           have G9 : BoxOf _ lo #[.int .i64 (fN g),.int .u8 (kI g),.int .i64 (fA g),.int .i64 (fM g),.slice Ad (fD g).length cd,.slice As' (fS g).length cs',.slice Aq (fQ g).length cq,.slice Ax m cx] 67:=mbox_self G 5 (.slice As' (fS g).length cs')
           have bb9:=Below.setCell (p:=⟨lo,5,none⟩) bb HLE.out (.slice As' (fS g).length cs')
           have T9:=T7.setLo 5 (.slice As' (fS g).length cs')
           clear G bb T7
           have G:=G9
           have bb:=bb9
           have T7:=T9
           clear G9 bb9 T9
           refine hK.out _ _ bb (fun hS'=>?_)
           clear hK K hS
           have hS:=hS'
           clear hS'
           try simp only [Act.put,zq0,zq1,zq2,zq3,zq4,zq5]
           refine wpAnyH_take (i:=11) (v:=?_) rfl (by kernel_rfl) (by kernel_rfl) (by kernel_rfl) (fun _ _ _ h=>h) (Or.inl ⟨by rfl,?_⟩) hS ?_
           rotate_left
           · (intro w hSw;(try dsimp only at hSw);go_simp;(try with_reducible rfl))
           rotate_left
           simp only [Act.put,zq0,zq1,zq2,zq3,zq4,zq5]
           refine wpAnyH_ready (rs:=[12]) (by kernel_rfl) (by simp) ?_
           refine AllReadyH.cons rfl (fun K hK=>?_) AllReadyH.nil
           rw [if_pos (by rfl)]
           have fQ:=G.free
           have yQ:=G.cell
           go_simp
           clear fQ yQ
           have G9 : BoxOf _ lo #[.int .i64 (fN g),.int .u8 (kI g),.int .i64 (fA g),.int .i64 (fM g),.slice Ad (fD g).length cd,.slice As' (fS g).length cs',.slice Aq' (fQ g).length cq',.slice Ax m cx] 67:=mbox_self G 6 (.slice Aq' (fQ g).length cq')
           have bb9:=Below.setCell (p:=⟨lo,6,none⟩) bb HLE.out (.slice Aq' (fQ g).length cq')
           have T9:=T7.setLo 6 (.slice Aq' (fQ g).length cq')
           clear G bb T7
           have G:=G9
           have bb:=bb9
           have T7:=T9
           clear G9 bb9 T9
           refine hK.out _ _ bb (fun hS'=>?_)
           clear hK K hS
           have hS:=hS'
           clear hS'
           try simp only [Act.put,zq0,zq1,zq2,zq3,zq4,zq5]
           refine wpAnyH_take (i:=13) (v:=?_) rfl (by kernel_rfl) (by kernel_rfl) (by kernel_rfl) (fun _ _ _ h=>h) (Or.inl ⟨by rfl,?_⟩) hS ?_
           rotate_left
           · (intro w hSw;(try dsimp only at hSw);go_simp;(try with_reducible rfl))
           rotate_left
           simp only [Act.put,zq0,zq1,zq2,zq3,zq4,zq5]
           refine wpAnyH_ready (rs:=[14]) (by kernel_rfl) (by simp) ?_
           refine AllReadyH.cons rfl (fun K hK=>?_) AllReadyH.nil
           rw [if_pos (by rfl)]
           have fQ:=G.free
           have yQ:=G.cell
           go_simp
           clear fQ yQ
           have G9 : BoxOf _ lo #[.int .i64 (fN g),.int .u8 (kI g),.int .i64 (fA g),.int .i64 (fM g),.slice Ad (fD g).length cd,.slice As' (fS g).length cs',.slice Aq' (fQ g).length cq',.slice Ax' m cx'] 67:=mbox_self G 7 (.slice Ax' m cx')
           have bb9:=Below.setCell (p:=⟨lo,7,none⟩) bb HLE.out (.slice Ax' m cx')
           have T9:=T7.setLo 7 (.slice Ax' m cx')
           clear G bb T7
           have G:=G9
           have bb:=bb9
           have T7:=T9
           clear G9 bb9 T9
           refine hK.out _ _ bb (fun hS'=>?_)
           clear hK K hS
           have hS:=hS'
           clear hS'
           try simp only [Act.put,zq0,zq1,zq2,zq3,zq4,zq5]
           refine wpAnyH_done (by kernel_rfl) ?_ _
           have HG:=Lib.hid (And.intro G (And.intro bb T7))
           clear hS G bb T7
           go_wp2_with fail
           go_meet
           exact ⟨_,_,_,_,_,_,HG.out⟩
       · rw [if_pos (by rfl)]
         have yQ:=G.cell
         go_simp
         refine hK.out _ _ bb (fun hS'=>?_)
         clear yQ
         clear hK K hS
         have hS:=hS'
         clear hS'
         try simp only [Act.put,zq0,zq1,zq2,zq3,zq4,zq5]
         refine wpAnyH_ready (rs:=[2,4]) (by kernel_rfl) (by simp) ?_
         refine AllReadyH.cons rfl (fun K hK=>?_) (AllReadyH.cons rfl (fun K hK=>?_) AllReadyH.nil)
         · rw [if_pos (by rfl)]
           go_simp
           refine (HC2.out _ bb).mono ?_
           rintro e wB ⟨⟨vs,rfl,ns⟩,bB⟩
           have G9:=G.next bB
           have bb9:=Ext.trans bb bB
           clear G bb
           have G:=G9
           have bb:=bb9
           clear G9 bb9
           refine hK.out _ _ bb (fun hS'=>?_)
           clear hK K hS
           have hS:=hS'
           clear hS'
           try simp only [Act.put,zq0,zq1,zq2,zq3,zq4,zq5]
           refine wpAnyH_ready (rs:=[4]) (by kernel_rfl) (by simp) ?_
           refine AllReadyH.cons rfl (fun K hK=>?_) AllReadyH.nil
           rw [if_pos (by rfl)]
           have yQ:=G.cell
           go_simp
           refine hK.out _ _ bb (fun hS'=>?_)
           clear yQ
           clear hK K hS
           have hS:=hS'
           clear hS'
           try simp only [Act.put,zq0,zq1,zq2,zq3,zq4,zq5]
           refine wpAnyH_take (i:=9) (v:=?_) rfl (by kernel_rfl) (by kernel_rfl) (by kernel_rfl) (fun _ _ _ h=>h) (Or.inl ⟨by rfl,?_⟩) hS ?_
           rotate_left
           · (intro w hSw;(try dsimp only at hSw);go_simp;(try with_reducible rfl))
           rotate_left
           simp only [Act.put,zq0,zq1,zq2,zq3,zq4,zq5]
           refine wpAnyH_ready (rs:=[5]) (by kernel_rfl) (by simp) ?_
           refine AllReadyH.cons rfl (fun K hK=>?_) AllReadyH.nil
           rw [if_pos (by rfl)]
           go_simp
           refine (HC3.out _ bb).mono ?_
           rintro e wC ⟨⟨vq,rfl,nq'⟩,bC⟩
           have G9:=G.next bC
           have bb9:=Ext.trans bb bC
           clear G bb
           have G:=G9
           have bb:=bb9
           clear G9 bb9
           refine hK.out _ _ bb (fun hS'=>?_)
           clear hK K hS
           have hS:=hS'
           clear hS'
           try simp only [Act.put,zq0,zq1,zq2,zq3,zq4,zq5]
           refine wpAnyH_ready (rs:=[8]) (by kernel_rfl) (by simp) ?_
           refine AllReadyH.cons rfl (fun K hK=>?_) AllReadyH.nil
           rw [if_pos (by rfl)]
           go_simp
           refine (HC4.out _ bb).mono ?_
           rintro e wD ⟨⟨vx,rfl,nx⟩,bD⟩
           have G9:=G.next bD
           have bb9:=Ext.trans bb bD
           clear G bb
           have G:=G9
           have bb:=bb9
           clear G9 bb9
           have T7:=TwIn.start hlA bB bC bD D5 ns nq' nx (by have:=HML.out;have:=HM.out;omega)
           obtain ⟨As',cs',es⟩:=ns.slice
           obtain ⟨Aq',cq',eq'⟩:=nq'.slice
           obtain ⟨Ax',cx',ex⟩:=nx.slice
           rw [List.length_map] at es eq'
           rw [HML.out.1] at ex
           subst es eq' ex
           clear bB bC bD D5 ns nq' nx
           refine hK.out _ _ bb (fun hS'=>?_)
           clear hK K hS
           have hS:=hS'
           clear hS'
           try simp only [Act.put,zq0,zq1,zq2,zq3,zq4,zq5]
           refine wpAnyH_ready (rs:=[10]) (by kernel_rfl) (by simp) ?_
           refine AllReadyH.cons rfl (fun K hK=>?_) AllReadyH.nil
           rw [if_pos (by rfl)]
           have fQ:=G.free
           have yQ:=G.cell
           go_simp
           clear fQ yQ
           have G9 : BoxOf _ lo #[.int .i64 (fN g),.int .u8 (kI g),.int .i64 (fA g),.int .i64 (fM g),.slice Ad (fD g).length cd,.slice As' (fS g).length cs',.slice Aq (fQ g).length cq,.slice Ax m cx] 67:=mbox_self G 5 (.slice As' (fS g).length cs')
           have bb9:=Below.setCell (p:=⟨lo,5,none⟩) bb HLE.out (.slice As' (fS g).length cs')
           have T9:=T7.setLo 5 (.slice As' (fS g).length cs')
           clear G bb T7
           have G:=G9
           have bb:=bb9
           have T7:=T9
           clear G9 bb9 T9
           refine hK.out _ _ bb (fun hS'=>?_)
           clear hK K hS
           have hS:=hS'
           clear hS'
           try simp only [Act.put,zq0,zq1,zq2,zq3,zq4,zq5]
           refine wpAnyH_take (i:=11) (v:=?_) rfl (by kernel_rfl) (by kernel_rfl) (by kernel_rfl) (fun _ _ _ h=>h) (Or.inl ⟨by rfl,?_⟩) hS ?_
           rotate_left
           · (intro w hSw;(try dsimp only at hSw);go_simp;(try with_reducible rfl))
           rotate_left
           simp only [Act.put,zq0,zq1,zq2,zq3,zq4,zq5]
           refine wpAnyH_ready (rs:=[12]) (by kernel_rfl) (by simp) ?_
           refine AllReadyH.cons rfl (fun K hK=>?_) AllReadyH.nil
           rw [if_pos (by rfl)]
           have fQ:=G.free
           have yQ:=G.cell
           go_simp
           clear fQ yQ
           have G9 : BoxOf _ lo #[.int .i64 (fN g),.int .u8 (kI g),.int .i64 (fA g),.int .i64 (fM g),.slice Ad (fD g).length cd,.slice As' (fS g).length cs',.slice Aq' (fQ g).length cq',.slice Ax m cx] 67:=mbox_self G 6 (.slice Aq' (fQ g).length cq')
           have bb9:=Below.setCell (p:=⟨lo,6,none⟩) bb HLE.out (.slice Aq' (fQ g).length cq')
           have T9:=T7.setLo 6 (.slice Aq' (fQ g).length cq')
           clear G bb T7
           have G:=G9
           have bb:=bb9
           have T7:=T9
           clear G9 bb9 T9
           refine hK.out _ _ bb (fun hS'=>?_)
           clear hK K hS
           have hS:=hS'
           clear hS'
           try simp only [Act.put,zq0,zq1,zq2,zq3,zq4,zq5]
           refine wpAnyH_take (i:=13) (v:=?_) rfl (by kernel_rfl) (by kernel_rfl) (by kernel_rfl) (fun _ _ _ h=>h) (Or.inl ⟨by rfl,?_⟩) hS ?_
           rotate_left
           · (intro w hSw;(try dsimp only at hSw);go_simp;(try with_reducible rfl))
           rotate_left
           simp only [Act.put,zq0,zq1,zq2,zq3,zq4,zq5]
           refine wpAnyH_ready (rs:=[14]) (by kernel_rfl) (by simp) ?_
           refine AllReadyH.cons rfl (fun K hK=>?_) AllReadyH.nil
           rw [if_pos (by rfl)]
           have fQ:=G.free
           have yQ:=G.cell
           go_simp
           clear fQ yQ
           have G9 : BoxOf _ lo #[.int .i64 (fN g),.int .u8 (kI g),.int .i64 (fA g),.int .i64 (fM g),.slice Ad (fD g).length cd,.slice As' (fS g).length cs',.slice Aq' (fQ g).length cq',.slice Ax' m cx'] 67:=mbox_self G 7 (.slice Ax' m cx')
           have bb9:=Below.setCell (p:=⟨lo,7,none⟩) bb HLE.out (.slice Ax' m cx')
           have T9:=T7.setLo 7 (.slice Ax' m cx')
           clear G bb T7
           have G:=G9
           have bb:=bb9
           have T7:=T9
           clear G9 bb9 T9
           refine hK.out _ _ bb (fun hS'=>?_)
           clear hK K hS
           have hS:=hS'
           clear hS'
           try simp only [Act.put,zq0,zq1,zq2,zq3,zq4,zq5]
           refine wpAnyH_done (by kernel_rfl) ?_ _
           have HG:=Lib.hid (And.intro G (And.intro bb T7))
           clear hS G bb T7
           go_wp2_with fail
           go_meet
           exact ⟨_,_,_,_,_,_,HG.out⟩
         · rw [if_pos (by rfl)]
           have yQ:=G.cell
           go_simp
           refine hK.out _ _ bb (fun hS'=>?_)
           clear yQ
           clear hK K hS
           have hS:=hS'
           clear hS'
           try simp only [Act.put,zq0,zq1,zq2,zq3,zq4,zq5]
           refine wpAnyH_ready (rs:=[2]) (by kernel_rfl) (by simp) ?_
           refine AllReadyH.cons rfl (fun K hK=>?_) AllReadyH.nil
           rw [if_pos (by rfl)]
           go_simp
           refine (HC2.out _ bb).mono ?_
           rintro e wB ⟨⟨vs,rfl,ns⟩,bB⟩
           have G9:=G.next bB
           have bb9:=Ext.trans bb bB
           clear G bb
           have G:=G9
           have bb:=bb9
           clear G9 bb9
           refine hK.out _ _ bb (fun hS'=>?_)
           clear hK K hS
           have hS:=hS'
           clear hS'
           try simp only [Act.put,zq0,zq1,zq2,zq3,zq4,zq5]
           refine wpAnyH_take (i:=9) (v:=?_) rfl (by kernel_rfl) (by kernel_rfl) (by kernel_rfl) (fun _ _ _ h=>h) (Or.inl ⟨by rfl,?_⟩) hS ?_
           rotate_left
           · (intro w hSw;(try dsimp only at hSw);go_simp;(try with_reducible rfl))
           rotate_left
           simp only [Act.put,zq0,zq1,zq2,zq3,zq4,zq5]
           refine wpAnyH_ready (rs:=[5]) (by kernel_rfl) (by simp) ?_
           refine AllReadyH.cons rfl (fun K hK=>?_) AllReadyH.nil
           rw [if_pos (by rfl)]
           go_simp
           refine (HC3.out _ bb).mono ?_
           rintro e wC ⟨⟨vq,rfl,nq'⟩,bC⟩
           have G9:=G.next bC
           have bb9:=Ext.trans bb bC
           clear G bb
           have G:=G9
           have bb:=bb9
           clear G9 bb9
           refine hK.out _ _ bb (fun hS'=>?_)
           clear hK K hS
           have hS:=hS'
           clear hS'
           try simp only [Act.put,zq0,zq1,zq2,zq3,zq4,zq5]
           refine wpAnyH_ready (rs:=[8]) (by kernel_rfl) (by simp) ?_
           refine AllReadyH.cons rfl (fun K hK=>?_) AllReadyH.nil
           rw [if_pos (by rfl)]
           go_simp
           refine (HC4.out _ bb).mono ?_
           rintro e wD ⟨⟨vx,rfl,nx⟩,bD⟩
           have G9:=G.next bD
           have bb9:=Ext.trans bb bD
           clear G bb
           have G:=G9
           have bb:=bb9
           clear G9 bb9
           have T7:=TwIn.start hlA bB bC bD D5 ns nq' nx (by have:=HML.out;have:=HM.out;omega)
           obtain ⟨As',cs',es⟩:=ns.slice
           obtain ⟨Aq',cq',eq'⟩:=nq'.slice
           obtain ⟨Ax',cx',ex⟩:=nx.slice
           rw [List.length_map] at es eq'
           rw [HML.out.1] at ex
           subst es eq' ex
           clear bB bC bD D5 ns nq' nx
           refine hK.out _ _ bb (fun hS'=>?_)
           clear hK K hS
           have hS:=hS'
           clear hS'
           try simp only [Act.put,zq0,zq1,zq2,zq3,zq4,zq5]
           refine wpAnyH_ready (rs:=[10]) (by kernel_rfl) (by simp) ?_
           refine AllReadyH.cons rfl (fun K hK=>?_) AllReadyH.nil
           rw [if_pos (by rfl)]
           have fQ:=G.free
           have yQ:=G.cell
           go_simp
           clear fQ yQ
           have G9 : BoxOf _ lo #[.int .i64 (fN g),.int .u8 (kI g),.int .i64 (fA g),.int .i64 (fM g),.slice Ad (fD g).length cd,.slice As' (fS g).length cs',.slice Aq (fQ g).length cq,.slice Ax m cx] 67:=mbox_self G 5 (.slice As' (fS g).length cs')
           have bb9:=Below.setCell (p:=⟨lo,5,none⟩) bb HLE.out (.slice As' (fS g).length cs')
           have T9:=T7.setLo 5 (.slice As' (fS g).length cs')
           clear G bb T7
           have G:=G9
           have bb:=bb9
           have T7:=T9
           clear G9 bb9 T9
           refine hK.out _ _ bb (fun hS'=>?_)
           clear hK K hS
           have hS:=hS'
           clear hS'
           try simp only [Act.put,zq0,zq1,zq2,zq3,zq4,zq5]
           refine wpAnyH_take (i:=11) (v:=?_) rfl (by kernel_rfl) (by kernel_rfl) (by kernel_rfl) (fun _ _ _ h=>h) (Or.inl ⟨by rfl,?_⟩) hS ?_
           rotate_left
           · (intro w hSw;(try dsimp only at hSw);go_simp;(try with_reducible rfl))
           rotate_left
           simp only [Act.put,zq0,zq1,zq2,zq3,zq4,zq5]
           refine wpAnyH_ready (rs:=[12]) (by kernel_rfl) (by simp) ?_
           refine AllReadyH.cons rfl (fun K hK=>?_) AllReadyH.nil
           rw [if_pos (by rfl)]
           have fQ:=G.free
           have yQ:=G.cell
           go_simp
           clear fQ yQ
           have G9 : BoxOf _ lo #[.int .i64 (fN g),.int .u8 (kI g),.int .i64 (fA g),.int .i64 (fM g),.slice Ad (fD g).length cd,.slice As' (fS g).length cs',.slice Aq' (fQ g).length cq',.slice Ax m cx] 67:=mbox_self G 6 (.slice Aq' (fQ g).length cq')
           have bb9:=Below.setCell (p:=⟨lo,6,none⟩) bb HLE.out (.slice Aq' (fQ g).length cq')
           have T9:=T7.setLo 6 (.slice Aq' (fQ g).length cq')
           clear G bb T7
           have G:=G9
           have bb:=bb9
           have T7:=T9
           clear G9 bb9 T9
           refine hK.out _ _ bb (fun hS'=>?_)
           clear hK K hS
           have hS:=hS'
           clear hS'
           try simp only [Act.put,zq0,zq1,zq2,zq3,zq4,zq5]
           refine wpAnyH_take (i:=13) (v:=?_) rfl (by kernel_rfl) (by kernel_rfl) (by kernel_rfl) (fun _ _ _ h=>h) (Or.inl ⟨by rfl,?_⟩) hS ?_
           rotate_left
           · (intro w hSw;(try dsimp only at hSw);go_simp;(try with_reducible rfl))
           rotate_left
           simp only [Act.put,zq0,zq1,zq2,zq3,zq4,zq5]
           refine wpAnyH_ready (rs:=[14]) (by kernel_rfl) (by simp) ?_
           refine AllReadyH.cons rfl (fun K hK=>?_) AllReadyH.nil
           rw [if_pos (by rfl)]
           have fQ:=G.free
           have yQ:=G.cell
           go_simp
           clear fQ yQ
           have G9 : BoxOf _ lo #[.int .i64 (fN g),.int .u8 (kI g),.int .i64 (fA g),.int .i64 (fM g),.slice Ad (fD g).length cd,.slice As' (fS g).length cs',.slice Aq' (fQ g).length cq',.slice Ax' m cx'] 67:=mbox_self G 7 (.slice Ax' m cx')
           have bb9:=Below.setCell (p:=⟨lo,7,none⟩) bb HLE.out (.slice Ax' m cx')
           have T9:=T7.setLo 7 (.slice Ax' m cx')
           clear G bb T7
           have G:=G9
           have bb:=bb9
           have T7:=T9
           clear G9 bb9 T9
           refine hK.out _ _ bb (fun hS'=>?_)
           clear hK K hS
           have hS:=hS'
           clear hS'
           try simp only [Act.put,zq0,zq1,zq2,zq3,zq4,zq5]
           refine wpAnyH_done (by kernel_rfl) ?_ _
           have HG:=Lib.hid (And.intro G (And.intro bb T7))
           clear hS G bb T7
           go_wp2_with fail
           go_meet
           exact ⟨_,_,_,_,_,_,HG.out⟩
     · rw [if_pos (by rfl)]
       have yQ:=G.cell
       go_simp
       refine hK.out _ _ bb (fun hS'=>?_)
       clear yQ
       clear hK K hS
       have hS:=hS'
       clear hS'
       try simp only [Act.put,zq0,zq1,zq2,zq3,zq4,zq5]
       refine wpAnyH_ready (rs:=[1,7]) (by kernel_rfl) (by simp) ?_
       refine AllReadyH.cons rfl (fun K hK=>?_) (AllReadyH.cons rfl (fun K hK=>?_) AllReadyH.nil)
       · rw [if_pos (by rfl)]
         have yQ:=G.cell
         go_simp
         refine hK.out _ _ bb (fun hS'=>?_)
         clear yQ
         clear hK K hS
         have hS:=hS'
         clear hS'
         try simp only [Act.put,zq0,zq1,zq2,zq3,zq4,zq5]
         refine wpAnyH_ready (rs:=[2,7]) (by kernel_rfl) (by simp) ?_
         refine AllReadyH.cons rfl (fun K hK=>?_) (AllReadyH.cons rfl (fun K hK=>?_) AllReadyH.nil)
         · rw [if_pos (by rfl)]
           go_simp
           refine (HC2.out _ bb).mono ?_
           rintro e wB ⟨⟨vs,rfl,ns⟩,bB⟩
           have G9:=G.next bB
           have bb9:=Ext.trans bb bB
           clear G bb
           have G:=G9
           have bb:=bb9
           clear G9 bb9
           refine hK.out _ _ bb (fun hS'=>?_)
           clear hK K hS
           have hS:=hS'
           clear hS'
           try simp only [Act.put,zq0,zq1,zq2,zq3,zq4,zq5]
           refine wpAnyH_ready (rs:=[5,7]) (by kernel_rfl) (by simp) ?_
           refine AllReadyH.cons rfl (fun K hK=>?_) (AllReadyH.cons rfl (fun K hK=>?_) AllReadyH.nil)
           · rw [if_pos (by rfl)]
             go_simp
             refine (HC3.out _ bb).mono ?_
             rintro e wC ⟨⟨vq,rfl,nq'⟩,bC⟩
             have G9:=G.next bC
             have bb9:=Ext.trans bb bC
             clear G bb
             have G:=G9
             have bb:=bb9
             clear G9 bb9
             refine hK.out _ _ bb (fun hS'=>?_)
             clear hK K hS
             have hS:=hS'
             clear hS'
             try simp only [Act.put,zq0,zq1,zq2,zq3,zq4,zq5]
             refine wpAnyH_ready (rs:=[7]) (by kernel_rfl) (by simp) ?_
             refine AllReadyH.cons rfl (fun K hK=>?_) AllReadyH.nil
             rw [if_pos (by rfl)]
             have yQ:=G.cell
             go_simp
             refine hK.out _ _ bb (fun hS'=>?_)
             clear yQ
             clear hK K hS
             have hS:=hS'
             clear hS'
             try simp only [Act.put,zq0,zq1,zq2,zq3,zq4,zq5]
             refine wpAnyH_take (i:=9) (v:=?_) rfl (by kernel_rfl) (by kernel_rfl) (by kernel_rfl) (fun _ _ _ h=>h) (Or.inl ⟨by rfl,?_⟩) hS ?_
             rotate_left
             · (intro w hSw;(try dsimp only at hSw);go_simp;(try with_reducible rfl))
             rotate_left
             simp only [Act.put,zq0,zq1,zq2,zq3,zq4,zq5]
             refine wpAnyH_ready (rs:=[8]) (by kernel_rfl) (by simp) ?_
             refine AllReadyH.cons rfl (fun K hK=>?_) AllReadyH.nil
             rw [if_pos (by rfl)]
             go_simp
             refine (HC4.out _ bb).mono ?_
             rintro e wD ⟨⟨vx,rfl,nx⟩,bD⟩
             have G9:=G.next bD
             have bb9:=Ext.trans bb bD
             clear G bb
             have G:=G9
             have bb:=bb9
             clear G9 bb9
             have T7:=TwIn.start hlA bB bC bD D5 ns nq' nx (by have:=HML.out;have:=HM.out;omega)
             obtain ⟨As',cs',es⟩:=ns.slice
             obtain ⟨Aq',cq',eq'⟩:=nq'.slice
             obtain ⟨Ax',cx',ex⟩:=nx.slice
             rw [List.length_map] at es eq'
             rw [HML.out.1] at ex
             subst es eq' ex
             clear bB bC bD D5 ns nq' nx
             refine hK.out _ _ bb (fun hS'=>?_)
             clear hK K hS
             have hS:=hS'
             clear hS'
             try simp only [Act.put,zq0,zq1,zq2,zq3,zq4,zq5]
             refine wpAnyH_ready (rs:=[10]) (by kernel_rfl) (by simp) ?_
             refine AllReadyH.cons rfl (fun K hK=>?_) AllReadyH.nil
             rw [if_pos (by rfl)]
             have fQ:=G.free
             have yQ:=G.cell
             go_simp
             clear fQ yQ
             have G9 : BoxOf _ lo #[.int .i64 (fN g),.int .u8 (kI g),.int .i64 (fA g),.int .i64 (fM g),.slice Ad (fD g).length cd,.slice As' (fS g).length cs',.slice Aq (fQ g).length cq,.slice Ax m cx] 67:=mbox_self G 5 (.slice As' (fS g).length cs')
             have bb9:=Below.setCell (p:=⟨lo,5,none⟩) bb HLE.out (.slice As' (fS g).length cs')
             have T9:=T7.setLo 5 (.slice As' (fS g).length cs')
             clear G bb T7
             have G:=G9
             have bb:=bb9
             have T7:=T9
             clear G9 bb9 T9
             refine hK.out _ _ bb (fun hS'=>?_)
             clear hK K hS
             have hS:=hS'
             clear hS'
             try simp only [Act.put,zq0,zq1,zq2,zq3,zq4,zq5]
             refine wpAnyH_take (i:=11) (v:=?_) rfl (by kernel_rfl) (by kernel_rfl) (by kernel_rfl) (fun _ _ _ h=>h) (Or.inl ⟨by rfl,?_⟩) hS ?_
             rotate_left
             · (intro w hSw;(try dsimp only at hSw);go_simp;(try with_reducible rfl))
             rotate_left
             simp only [Act.put,zq0,zq1,zq2,zq3,zq4,zq5]
             refine wpAnyH_ready (rs:=[12]) (by kernel_rfl) (by simp) ?_
             refine AllReadyH.cons rfl (fun K hK=>?_) AllReadyH.nil
             rw [if_pos (by rfl)]
             have fQ:=G.free
             have yQ:=G.cell
             go_simp
             clear fQ yQ
             have G9 : BoxOf _ lo #[.int .i64 (fN g),.int .u8 (kI g),.int .i64 (fA g),.int .i64 (fM g),.slice Ad (fD g).length cd,.slice As' (fS g).length cs',.slice Aq' (fQ g).length cq',.slice Ax m cx] 67:=mbox_self G 6 (.slice Aq' (fQ g).length cq')
             have bb9:=Below.setCell (p:=⟨lo,6,none⟩) bb HLE.out (.slice Aq' (fQ g).length cq')
             have T9:=T7.setLo 6 (.slice Aq' (fQ g).length cq')
             clear G bb T7
             have G:=G9
             have bb:=bb9
             have T7:=T9
             clear G9 bb9 T9
             refine hK.out _ _ bb (fun hS'=>?_)
             clear hK K hS
             have hS:=hS'
             clear hS'
             try simp only [Act.put,zq0,zq1,zq2,zq3,zq4,zq5]
             refine wpAnyH_take (i:=13) (v:=?_) rfl (by kernel_rfl) (by kernel_rfl) (by kernel_rfl) (fun _ _ _ h=>h) (Or.inl ⟨by rfl,?_⟩) hS ?_
             rotate_left
             · (intro w hSw;(try dsimp only at hSw);go_simp;(try with_reducible rfl))
             rotate_left
             simp only [Act.put,zq0,zq1,zq2,zq3,zq4,zq5]
             refine wpAnyH_ready (rs:=[14]) (by kernel_rfl) (by simp) ?_
             refine AllReadyH.cons rfl (fun K hK=>?_) AllReadyH.nil
             rw [if_pos (by rfl)]
             have fQ:=G.free
             have yQ:=G.cell
             go_simp
             clear fQ yQ
             have G9 : BoxOf _ lo #[.int .i64 (fN g),.int .u8 (kI g),.int .i64 (fA g),.int .i64 (fM g),.slice Ad (fD g).length cd,.slice As' (fS g).length cs',.slice Aq' (fQ g).length cq',.slice Ax' m cx'] 67:=mbox_self G 7 (.slice Ax' m cx')
             have bb9:=Below.setCell (p:=⟨lo,7,none⟩) bb HLE.out (.slice Ax' m cx')
             have T9:=T7.setLo 7 (.slice Ax' m cx')
             clear G bb T7
             have G:=G9
             have bb:=bb9
             have T7:=T9
             clear G9 bb9 T9
             refine hK.out _ _ bb (fun hS'=>?_)
             clear hK K hS
             have hS:=hS'
             clear hS'
             try simp only [Act.put,zq0,zq1,zq2,zq3,zq4,zq5]
             refine wpAnyH_done (by kernel_rfl) ?_ _
             have HG:=Lib.hid (And.intro G (And.intro bb T7))
             clear hS G bb T7
             go_wp2_with fail
             go_meet
             exact ⟨_,_,_,_,_,_,HG.out⟩
           · rw [if_pos (by rfl)]
             have yQ:=G.cell
             go_simp
             refine hK.out _ _ bb (fun hS'=>?_)
             clear yQ
             clear hK K hS
             have hS:=hS'
             clear hS'
             try simp only [Act.put,zq0,zq1,zq2,zq3,zq4,zq5]
             refine wpAnyH_take (i:=9) (v:=?_) rfl (by kernel_rfl) (by kernel_rfl) (by kernel_rfl) (fun _ _ _ h=>h) (Or.inl ⟨by rfl,?_⟩) hS ?_
             rotate_left
             · (intro w hSw;(try dsimp only at hSw);go_simp;(try with_reducible rfl))
             rotate_left
             simp only [Act.put,zq0,zq1,zq2,zq3,zq4,zq5]
             refine wpAnyH_ready (rs:=[5]) (by kernel_rfl) (by simp) ?_
             refine AllReadyH.cons rfl (fun K hK=>?_) AllReadyH.nil
             rw [if_pos (by rfl)]
             go_simp
             refine (HC3.out _ bb).mono ?_
             rintro e wC ⟨⟨vq,rfl,nq'⟩,bC⟩
             have G9:=G.next bC
             have bb9:=Ext.trans bb bC
             clear G bb
             have G:=G9
             have bb:=bb9
             clear G9 bb9
             refine hK.out _ _ bb (fun hS'=>?_)
             clear hK K hS
             have hS:=hS'
             clear hS'
             try simp only [Act.put,zq0,zq1,zq2,zq3,zq4,zq5]
             refine wpAnyH_ready (rs:=[8]) (by kernel_rfl) (by simp) ?_
             refine AllReadyH.cons rfl (fun K hK=>?_) AllReadyH.nil
             rw [if_pos (by rfl)]
             go_simp
             refine (HC4.out _ bb).mono ?_
             rintro e wD ⟨⟨vx,rfl,nx⟩,bD⟩
             have G9:=G.next bD
             have bb9:=Ext.trans bb bD
             clear G bb
             have G:=G9
             have bb:=bb9
             clear G9 bb9
             have T7:=TwIn.start hlA bB bC bD D5 ns nq' nx (by have:=HML.out;have:=HM.out;omega)
             obtain ⟨As',cs',es⟩:=ns.slice
             obtain ⟨Aq',cq',eq'⟩:=nq'.slice
             obtain ⟨Ax',cx',ex⟩:=nx.slice
             rw [List.length_map] at es eq'
             rw [HML.out.1] at ex
             subst es eq' ex
             clear bB bC bD D5 ns nq' nx
             refine hK.out _ _ bb (fun hS'=>?_)
             clear hK K hS
             have hS:=hS'
             clear hS'
             try simp only [Act.put,zq0,zq1,zq2,zq3,zq4,zq5]
             refine wpAnyH_ready (rs:=[10]) (by kernel_rfl) (by simp) ?_
             refine AllReadyH.cons rfl (fun K hK=>?_) AllReadyH.nil
             rw [if_pos (by rfl)]
             have fQ:=G.free
             have yQ:=G.cell
             go_simp
             clear fQ yQ
             have G9 : BoxOf _ lo #[.int .i64 (fN g),.int .u8 (kI g),.int .i64 (fA g),.int .i64 (fM g),.slice Ad (fD g).length cd,.slice As' (fS g).length cs',.slice Aq (fQ g).length cq,.slice Ax m cx] 67:=mbox_self G 5 (.slice As' (fS g).length cs')
             have bb9:=Below.setCell (p:=⟨lo,5,none⟩) bb HLE.out (.slice As' (fS g).length cs')
             have T9:=T7.setLo 5 (.slice As' (fS g).length cs')
             clear G bb T7
             have G:=G9
             have bb:=bb9
             have T7:=T9
             clear G9 bb9 T9
             refine hK.out _ _ bb (fun hS'=>?_)
             clear hK K hS
             have hS:=hS'
             clear hS'
             try simp only [Act.put,zq0,zq1,zq2,zq3,zq4,zq5]
             refine wpAnyH_take (i:=11) (v:=?_) rfl (by kernel_rfl) (by kernel_rfl) (by kernel_rfl) (fun _ _ _ h=>h) (Or.inl ⟨by rfl,?_⟩) hS ?_
             rotate_left
             · (intro w hSw;(try dsimp only at hSw);go_simp;(try with_reducible rfl))
             rotate_left
             simp only [Act.put,zq0,zq1,zq2,zq3,zq4,zq5]
             refine wpAnyH_ready (rs:=[12]) (by kernel_rfl) (by simp) ?_
             refine AllReadyH.cons rfl (fun K hK=>?_) AllReadyH.nil
             rw [if_pos (by rfl)]
             have fQ:=G.free
             have yQ:=G.cell
             go_simp
             clear fQ yQ
             have G9 : BoxOf _ lo #[.int .i64 (fN g),.int .u8 (kI g),.int .i64 (fA g),.int .i64 (fM g),.slice Ad (fD g).length cd,.slice As' (fS g).length cs',.slice Aq' (fQ g).length cq',.slice Ax m cx] 67:=mbox_self G 6 (.slice Aq' (fQ g).length cq')
             have bb9:=Below.setCell (p:=⟨lo,6,none⟩) bb HLE.out (.slice Aq' (fQ g).length cq')
             have T9:=T7.setLo 6 (.slice Aq' (fQ g).length cq')
             clear G bb T7
             have G:=G9
             have bb:=bb9
             have T7:=T9
             clear G9 bb9 T9
             refine hK.out _ _ bb (fun hS'=>?_)
             clear hK K hS
             have hS:=hS'
             clear hS'
             try simp only [Act.put,zq0,zq1,zq2,zq3,zq4,zq5]
             refine wpAnyH_take (i:=13) (v:=?_) rfl (by kernel_rfl) (by kernel_rfl) (by kernel_rfl) (fun _ _ _ h=>h) (Or.inl ⟨by rfl,?_⟩) hS ?_
             rotate_left
             · (intro w hSw;(try dsimp only at hSw);go_simp;(try with_reducible rfl))
             rotate_left
             simp only [Act.put,zq0,zq1,zq2,zq3,zq4,zq5]
             refine wpAnyH_ready (rs:=[14]) (by kernel_rfl) (by simp) ?_
             refine AllReadyH.cons rfl (fun K hK=>?_) AllReadyH.nil
             rw [if_pos (by rfl)]
             have fQ:=G.free
             have yQ:=G.cell
             go_simp
             clear fQ yQ
             have G9 : BoxOf _ lo #[.int .i64 (fN g),.int .u8 (kI g),.int .i64 (fA g),.int .i64 (fM g),.slice Ad (fD g).length cd,.slice As' (fS g).length cs',.slice Aq' (fQ g).length cq',.slice Ax' m cx'] 67:=mbox_self G 7 (.slice Ax' m cx')
             have bb9:=Below.setCell (p:=⟨lo,7,none⟩) bb HLE.out (.slice Ax' m cx')
             have T9:=T7.setLo 7 (.slice Ax' m cx')
             clear G bb T7
             have G:=G9
             have bb:=bb9
             have T7:=T9
             clear G9 bb9 T9
             refine hK.out _ _ bb (fun hS'=>?_)
             clear hK K hS
             have hS:=hS'
             clear hS'
             try simp only [Act.put,zq0,zq1,zq2,zq3,zq4,zq5]
             refine wpAnyH_done (by kernel_rfl) ?_ _
             have HG:=Lib.hid (And.intro G (And.intro bb T7))
             clear hS G bb T7
             go_wp2_with fail
             go_meet
             exact ⟨_,_,_,_,_,_,HG.out⟩
         · rw [if_pos (by rfl)]
           have yQ:=G.cell
           go_simp
           refine hK.out _ _ bb (fun hS'=>?_)
           clear yQ
           clear hK K hS
           have hS:=hS'
           clear hS'
           try simp only [Act.put,zq0,zq1,zq2,zq3,zq4,zq5]
           refine wpAnyH_ready (rs:=[2]) (by kernel_rfl) (by simp) ?_
           refine AllReadyH.cons rfl (fun K hK=>?_) AllReadyH.nil
           rw [if_pos (by rfl)]
           go_simp
           refine (HC2.out _ bb).mono ?_
           rintro e wB ⟨⟨vs,rfl,ns⟩,bB⟩
           have G9:=G.next bB
           have bb9:=Ext.trans bb bB
           clear G bb
           have G:=G9
           have bb:=bb9
           clear G9 bb9
           refine hK.out _ _ bb (fun hS'=>?_)
           clear hK K hS
           have hS:=hS'
           clear hS'
           try simp only [Act.put,zq0,zq1,zq2,zq3,zq4,zq5]
           refine wpAnyH_take (i:=9) (v:=?_) rfl (by kernel_rfl) (by kernel_rfl) (by kernel_rfl) (fun _ _ _ h=>h) (Or.inl ⟨by rfl,?_⟩) hS ?_
           rotate_left
           · (intro w hSw;(try dsimp only at hSw);go_simp;(try with_reducible rfl))
           rotate_left
           simp only [Act.put,zq0,zq1,zq2,zq3,zq4,zq5]
           refine wpAnyH_ready (rs:=[5]) (by kernel_rfl) (by simp) ?_
           refine AllReadyH.cons rfl (fun K hK=>?_) AllReadyH.nil
           rw [if_pos (by rfl)]
           go_simp
           refine (HC3.out _ bb).mono ?_
           rintro e wC ⟨⟨vq,rfl,nq'⟩,bC⟩
           have G9:=G.next bC
           have bb9:=Ext.trans bb bC
           clear G bb
           have G:=G9
           have bb:=bb9
           clear G9 bb9
           refine hK.out _ _ bb (fun hS'=>?_)
           clear hK K hS
           have hS:=hS'
           clear hS'
           try simp only [Act.put,zq0,zq1,zq2,zq3,zq4,zq5]
           refine wpAnyH_ready (rs:=[8]) (by kernel_rfl) (by simp) ?_
           refine AllReadyH.cons rfl (fun K hK=>?_) AllReadyH.nil
           rw [if_pos (by rfl)]
           go_simp
           refine (HC4.out _ bb).mono ?_
           rintro e wD ⟨⟨vx,rfl,nx⟩,bD⟩
           have G9:=G.next bD
           have bb9:=Ext.trans bb bD
           clear G bb
           have G:=G9
           have bb:=bb9
           clear G9 bb9
           have T7:=TwIn.start hlA bB bC bD D5 ns nq' nx (by have:=HML.out;have:=HM.out;omega)
           obtain ⟨As',cs',es⟩:=ns.slice
           obtain ⟨Aq',cq',eq'⟩:=nq'.slice
           obtain ⟨Ax',cx',ex⟩:=nx.slice
           rw [List.length_map] at es eq'
           rw [HML.out.1] at ex
           subst es eq' ex
           clear bB bC bD D5 ns nq' nx
           refine hK.out _ _ bb (fun hS'=>?_)
           clear hK K hS
           have hS:=hS'
           clear hS'
           try simp only [Act.put,zq0,zq1,zq2,zq3,zq4,zq5]
           refine wpAnyH_ready (rs:=[10]) (by kernel_rfl) (by simp) ?_
           refine AllReadyH.cons rfl (fun K hK=>?_) AllReadyH.nil
           rw [if_pos (by rfl)]
           have fQ:=G.free
           have yQ:=G.cell
           go_simp
           clear fQ yQ
           have G9 : BoxOf _ lo #[.int .i64 (fN g),.int .u8 (kI g),.int .i64 (fA g),.int .i64 (fM g),.slice Ad (fD g).length cd,.slice As' (fS g).length cs',.slice Aq (fQ g).length cq,.slice Ax m cx] 67:=mbox_self G 5 (.slice As' (fS g).length cs')
           have bb9:=Below.setCell (p:=⟨lo,5,none⟩) bb HLE.out (.slice As' (fS g).length cs')
           have T9:=T7.setLo 5 (.slice As' (fS g).length cs')
           clear G bb T7
           have G:=G9
           have bb:=bb9
           have T7:=T9
           clear G9 bb9 T9
           refine hK.out _ _ bb (fun hS'=>?_)
           clear hK K hS
           have hS:=hS'
           clear hS'
           try simp only [Act.put,zq0,zq1,zq2,zq3,zq4,zq5]
           refine wpAnyH_take (i:=11) (v:=?_) rfl (by kernel_rfl) (by kernel_rfl) (by kernel_rfl) (fun _ _ _ h=>h) (Or.inl ⟨by rfl,?_⟩) hS ?_
           rotate_left
           · (intro w hSw;(try dsimp only at hSw);go_simp;(try with_reducible rfl))
           rotate_left
           simp only [Act.put,zq0,zq1,zq2,zq3,zq4,zq5]
           refine wpAnyH_ready (rs:=[12]) (by kernel_rfl) (by simp) ?_
           refine AllReadyH.cons rfl (fun K hK=>?_) AllReadyH.nil
           rw [if_pos (by rfl)]
           have fQ:=G.free
           have yQ:=G.cell
           go_simp
           clear fQ yQ
           have G9 : BoxOf _ lo #[.int .i64 (fN g),.int .u8 (kI g),.int .i64 (fA g),.int .i64 (fM g),.slice Ad (fD g).length cd,.slice As' (fS g).length cs',.slice Aq' (fQ g).length cq',.slice Ax m cx] 67:=mbox_self G 6 (.slice Aq' (fQ g).length cq')
           have bb9:=Below.setCell (p:=⟨lo,6,none⟩) bb HLE.out (.slice Aq' (fQ g).length cq')
           have T9:=T7.setLo 6 (.slice Aq' (fQ g).length cq')
           clear G bb T7
           have G:=G9
           have bb:=bb9
           have T7:=T9
           clear G9 bb9 T9
           refine hK.out _ _ bb (fun hS'=>?_)
           clear hK K hS
           have hS:=hS'
           clear hS'
           try simp only [Act.put,zq0,zq1,zq2,zq3,zq4,zq5]
           refine wpAnyH_take (i:=13) (v:=?_) rfl (by kernel_rfl) (by kernel_rfl) (by kernel_rfl) (fun _ _ _ h=>h) (Or.inl ⟨by rfl,?_⟩) hS ?_
           rotate_left
           · (intro w hSw;(try dsimp only at hSw);go_simp;(try with_reducible rfl))
           rotate_left
           simp only [Act.put,zq0,zq1,zq2,zq3,zq4,zq5]
           refine wpAnyH_ready (rs:=[14]) (by kernel_rfl) (by simp) ?_
           refine AllReadyH.cons rfl (fun K hK=>?_) AllReadyH.nil
           rw [if_pos (by rfl)]
           have fQ:=G.free
           have yQ:=G.cell
           go_simp
           clear fQ yQ
           have G9 : BoxOf _ lo #[.int .i64 (fN g),.int .u8 (kI g),.int .i64 (fA g),.int .i64 (fM g),.slice Ad (fD g).length cd,.slice As' (fS g).length cs',.slice Aq' (fQ g).length cq',.slice Ax' m cx'] 67:=mbox_self G 7 (.slice Ax' m cx')
           have bb9:=Below.setCell (p:=⟨lo,7,none⟩) bb HLE.out (.slice Ax' m cx')
           have T9:=T7.setLo 7 (.slice Ax' m cx')
           clear G bb T7
           have G:=G9
           have bb:=bb9
           have T7:=T9
           clear G9 bb9 T9
           refine hK.out _ _ bb (fun hS'=>?_)
           clear hK K hS
           have hS:=hS'
           clear hS'
           try simp only [Act.put,zq0,zq1,zq2,zq3,zq4,zq5]
           refine wpAnyH_done (by kernel_rfl) ?_ _
           have HG:=Lib.hid (And.intro G (And.intro bb T7))
           clear hS G bb T7
           go_wp2_with fail
           go_meet
           exact ⟨_,_,_,_,_,_,HG.out⟩
       · rw [if_pos (by rfl)]
         have yQ:=G.cell
         go_simp
         refine hK.out _ _ bb (fun hS'=>?_)
         clear yQ
         clear hK K hS
         have hS:=hS'
         clear hS'
         try simp only [Act.put,zq0,zq1,zq2,zq3,zq4,zq5]
         refine wpAnyH_ready (rs:=[1]) (by kernel_rfl) (by simp) ?_
         refine AllReadyH.cons rfl (fun K hK=>?_) AllReadyH.nil
         rw [if_pos (by rfl)]
         have yQ:=G.cell
         go_simp
         refine hK.out _ _ bb (fun hS'=>?_)
         clear yQ
         clear hK K hS
         have hS:=hS'
         clear hS'
         try simp only [Act.put,zq0,zq1,zq2,zq3,zq4,zq5]
         refine wpAnyH_ready (rs:=[2]) (by kernel_rfl) (by simp) ?_
         refine AllReadyH.cons rfl (fun K hK=>?_) AllReadyH.nil
         rw [if_pos (by rfl)]
         go_simp
         refine (HC2.out _ bb).mono ?_
         rintro e wB ⟨⟨vs,rfl,ns⟩,bB⟩
         have G9:=G.next bB
         have bb9:=Ext.trans bb bB
         clear G bb
         have G:=G9
         have bb:=bb9
         clear G9 bb9
         refine hK.out _ _ bb (fun hS'=>?_)
         clear hK K hS
         have hS:=hS'
         clear hS'
         try simp only [Act.put,zq0,zq1,zq2,zq3,zq4,zq5]
         refine wpAnyH_take (i:=9) (v:=?_) rfl (by kernel_rfl) (by kernel_rfl) (by kernel_rfl) (fun _ _ _ h=>h) (Or.inl ⟨by rfl,?_⟩) hS ?_
         rotate_left
         · (intro w hSw;(try dsimp only at hSw);go_simp;(try with_reducible rfl))
         rotate_left
         simp only [Act.put,zq0,zq1,zq2,zq3,zq4,zq5]
         refine wpAnyH_ready (rs:=[5]) (by kernel_rfl) (by simp) ?_
         refine AllReadyH.cons rfl (fun K hK=>?_) AllReadyH.nil
         rw [if_pos (by rfl)]
         go_simp
         refine (HC3.out _ bb).mono ?_
         rintro e wC ⟨⟨vq,rfl,nq'⟩,bC⟩
         have G9:=G.next bC
         have bb9:=Ext.trans bb bC
         clear G bb
         have G:=G9
         have bb:=bb9
         clear G9 bb9
         refine hK.out _ _ bb (fun hS'=>?_)
         clear hK K hS
         have hS:=hS'
         clear hS'
         try simp only [Act.put,zq0,zq1,zq2,zq3,zq4,zq5]
         refine wpAnyH_ready (rs:=[8]) (by kernel_rfl) (by simp) ?_
         refine AllReadyH.cons rfl (fun K hK=>?_) AllReadyH.nil
         rw [if_pos (by rfl)]
         go_simp
         refine (HC4.out _ bb).mono ?_
         rintro e wD ⟨⟨vx,rfl,nx⟩,bD⟩
         have G9:=G.next bD
         have bb9:=Ext.trans bb bD
         clear G bb
         have G:=G9
         have bb:=bb9
         clear G9 bb9
         have T7:=TwIn.start hlA bB bC bD D5 ns nq' nx (by have:=HML.out;have:=HM.out;omega)
         obtain ⟨As',cs',es⟩:=ns.slice
         obtain ⟨Aq',cq',eq'⟩:=nq'.slice
         obtain ⟨Ax',cx',ex⟩:=nx.slice
         rw [List.length_map] at es eq'
         rw [HML.out.1] at ex
         subst es eq' ex
         clear bB bC bD D5 ns nq' nx
         refine hK.out _ _ bb (fun hS'=>?_)
         clear hK K hS
         have hS:=hS'
         clear hS'
         try simp only [Act.put,zq0,zq1,zq2,zq3,zq4,zq5]
         refine wpAnyH_ready (rs:=[10]) (by kernel_rfl) (by simp) ?_
         refine AllReadyH.cons rfl (fun K hK=>?_) AllReadyH.nil
         rw [if_pos (by rfl)]
         have fQ:=G.free
         have yQ:=G.cell
         go_simp
         clear fQ yQ
         have G9 : BoxOf _ lo #[.int .i64 (fN g),.int .u8 (kI g),.int .i64 (fA g),.int .i64 (fM g),.slice Ad (fD g).length cd,.slice As' (fS g).length cs',.slice Aq (fQ g).length cq,.slice Ax m cx] 67:=mbox_self G 5 (.slice As' (fS g).length cs')
         have bb9:=Below.setCell (p:=⟨lo,5,none⟩) bb HLE.out (.slice As' (fS g).length cs')
         have T9:=T7.setLo 5 (.slice As' (fS g).length cs')
         clear G bb T7
         have G:=G9
         have bb:=bb9
         have T7:=T9
         clear G9 bb9 T9
         refine hK.out _ _ bb (fun hS'=>?_)
         clear hK K hS
         have hS:=hS'
         clear hS'
         try simp only [Act.put,zq0,zq1,zq2,zq3,zq4,zq5]
         refine wpAnyH_take (i:=11) (v:=?_) rfl (by kernel_rfl) (by kernel_rfl) (by kernel_rfl) (fun _ _ _ h=>h) (Or.inl ⟨by rfl,?_⟩) hS ?_
         rotate_left
         · (intro w hSw;(try dsimp only at hSw);go_simp;(try with_reducible rfl))
         rotate_left
         simp only [Act.put,zq0,zq1,zq2,zq3,zq4,zq5]
         refine wpAnyH_ready (rs:=[12]) (by kernel_rfl) (by simp) ?_
         refine AllReadyH.cons rfl (fun K hK=>?_) AllReadyH.nil
         rw [if_pos (by rfl)]
         have fQ:=G.free
         have yQ:=G.cell
         go_simp
         clear fQ yQ
         have G9 : BoxOf _ lo #[.int .i64 (fN g),.int .u8 (kI g),.int .i64 (fA g),.int .i64 (fM g),.slice Ad (fD g).length cd,.slice As' (fS g).length cs',.slice Aq' (fQ g).length cq',.slice Ax m cx] 67:=mbox_self G 6 (.slice Aq' (fQ g).length cq')
         have bb9:=Below.setCell (p:=⟨lo,6,none⟩) bb HLE.out (.slice Aq' (fQ g).length cq')
         have T9:=T7.setLo 6 (.slice Aq' (fQ g).length cq')
         clear G bb T7
         have G:=G9
         have bb:=bb9
         have T7:=T9
         clear G9 bb9 T9
         refine hK.out _ _ bb (fun hS'=>?_)
         clear hK K hS
         have hS:=hS'
         clear hS'
         try simp only [Act.put,zq0,zq1,zq2,zq3,zq4,zq5]
         refine wpAnyH_take (i:=13) (v:=?_) rfl (by kernel_rfl) (by kernel_rfl) (by kernel_rfl) (fun _ _ _ h=>h) (Or.inl ⟨by rfl,?_⟩) hS ?_
         rotate_left
         · (intro w hSw;(try dsimp only at hSw);go_simp;(try with_reducible rfl))
         rotate_left
         simp only [Act.put,zq0,zq1,zq2,zq3,zq4,zq5]
         refine wpAnyH_ready (rs:=[14]) (by kernel_rfl) (by simp) ?_
         refine AllReadyH.cons rfl (fun K hK=>?_) AllReadyH.nil
         rw [if_pos (by rfl)]
         have fQ:=G.free
         have yQ:=G.cell
         go_simp
         clear fQ yQ
         have G9 : BoxOf _ lo #[.int .i64 (fN g),.int .u8 (kI g),.int .i64 (fA g),.int .i64 (fM g),.slice Ad (fD g).length cd,.slice As' (fS g).length cs',.slice Aq' (fQ g).length cq',.slice Ax' m cx'] 67:=mbox_self G 7 (.slice Ax' m cx')
         have bb9:=Below.setCell (p:=⟨lo,7,none⟩) bb HLE.out (.slice Ax' m cx')
         have T9:=T7.setLo 7 (.slice Ax' m cx')
         clear G bb T7
         have G:=G9
         have bb:=bb9
         have T7:=T9
         clear G9 bb9 T9
         refine hK.out _ _ bb (fun hS'=>?_)
         clear hK K hS
         have hS:=hS'
         clear hS'
         try simp only [Act.put,zq0,zq1,zq2,zq3,zq4,zq5]
         refine wpAnyH_done (by kernel_rfl) ?_ _
         have HG:=Lib.hid (And.intro G (And.intro bb T7))
         clear hS G bb T7
         go_wp2_with fail
         go_meet
         exact ⟨_,_,_,_,_,_,HG.out⟩
     · rw [if_pos (by rfl)]
       have yQ:=G.cell
       go_simp
       refine hK.out _ _ bb (fun hS'=>?_)
       clear yQ
       clear hK K hS
       have hS:=hS'
       clear hS'
       try simp only [Act.put,zq0,zq1,zq2,zq3,zq4,zq5]
       refine wpAnyH_ready (rs:=[1,4]) (by kernel_rfl) (by simp) ?_
       refine AllReadyH.cons rfl (fun K hK=>?_) (AllReadyH.cons rfl (fun K hK=>?_) AllReadyH.nil)
       · rw [if_pos (by rfl)]
         have yQ:=G.cell
         go_simp
         refine hK.out _ _ bb (fun hS'=>?_)
         clear yQ
         clear hK K hS
         have hS:=hS'
         clear hS'
         try simp only [Act.put,zq0,zq1,zq2,zq3,zq4,zq5]
         refine wpAnyH_ready (rs:=[2,4]) (by kernel_rfl) (by simp) ?_
         refine AllReadyH.cons rfl (fun K hK=>?_) (AllReadyH.cons rfl (fun K hK=>?_) AllReadyH.nil)
         · rw [if_pos (by rfl)]
           go_simp
           refine (HC2.out _ bb).mono ?_
           rintro e wB ⟨⟨vs,rfl,ns⟩,bB⟩
           have G9:=G.next bB
           have bb9:=Ext.trans bb bB
           clear G bb
           have G:=G9
           have bb:=bb9
           clear G9 bb9
           refine hK.out _ _ bb (fun hS'=>?_)
           clear hK K hS
           have hS:=hS'
           clear hS'
           try simp only [Act.put,zq0,zq1,zq2,zq3,zq4,zq5]
           refine wpAnyH_ready (rs:=[4]) (by kernel_rfl) (by simp) ?_
           refine AllReadyH.cons rfl (fun K hK=>?_) AllReadyH.nil
           rw [if_pos (by rfl)]
           have yQ:=G.cell
           go_simp
           refine hK.out _ _ bb (fun hS'=>?_)
           clear yQ
           clear hK K hS
           have hS:=hS'
           clear hS'
           try simp only [Act.put,zq0,zq1,zq2,zq3,zq4,zq5]
           refine wpAnyH_take (i:=9) (v:=?_) rfl (by kernel_rfl) (by kernel_rfl) (by kernel_rfl) (fun _ _ _ h=>h) (Or.inl ⟨by rfl,?_⟩) hS ?_
           rotate_left
           · (intro w hSw;(try dsimp only at hSw);go_simp;(try with_reducible rfl))
           rotate_left
           simp only [Act.put,zq0,zq1,zq2,zq3,zq4,zq5]
           refine wpAnyH_ready (rs:=[5]) (by kernel_rfl) (by simp) ?_
           refine AllReadyH.cons rfl (fun K hK=>?_) AllReadyH.nil
           rw [if_pos (by rfl)]
           go_simp
           refine (HC3.out _ bb).mono ?_
           rintro e wC ⟨⟨vq,rfl,nq'⟩,bC⟩
           have G9:=G.next bC
           have bb9:=Ext.trans bb bC
           clear G bb
           have G:=G9
           have bb:=bb9
           clear G9 bb9
           refine hK.out _ _ bb (fun hS'=>?_)
           clear hK K hS
           have hS:=hS'
           clear hS'
           try simp only [Act.put,zq0,zq1,zq2,zq3,zq4,zq5]
           refine wpAnyH_ready (rs:=[8]) (by kernel_rfl) (by simp) ?_
           refine AllReadyH.cons rfl (fun K hK=>?_) AllReadyH.nil
           rw [if_pos (by rfl)]
           go_simp
           refine (HC4.out _ bb).mono ?_
           rintro e wD ⟨⟨vx,rfl,nx⟩,bD⟩
           have G9:=G.next bD
           have bb9:=Ext.trans bb bD
           clear G bb
           have G:=G9
           have bb:=bb9
           clear G9 bb9
           have T7:=TwIn.start hlA bB bC bD D5 ns nq' nx (by have:=HML.out;have:=HM.out;omega)
           obtain ⟨As',cs',es⟩:=ns.slice
           obtain ⟨Aq',cq',eq'⟩:=nq'.slice
           obtain ⟨Ax',cx',ex⟩:=nx.slice
           rw [List.length_map] at es eq'
           rw [HML.out.1] at ex
           subst es eq' ex
           clear bB bC bD D5 ns nq' nx
           refine hK.out _ _ bb (fun hS'=>?_)
           clear hK K hS
           have hS:=hS'
           clear hS'
           try simp only [Act.put,zq0,zq1,zq2,zq3,zq4,zq5]
           refine wpAnyH_ready (rs:=[10]) (by kernel_rfl) (by simp) ?_
           refine AllReadyH.cons rfl (fun K hK=>?_) AllReadyH.nil
           rw [if_pos (by rfl)]
           have fQ:=G.free
           have yQ:=G.cell
           go_simp
           clear fQ yQ
           have G9 : BoxOf _ lo #[.int .i64 (fN g),.int .u8 (kI g),.int .i64 (fA g),.int .i64 (fM g),.slice Ad (fD g).length cd,.slice As' (fS g).length cs',.slice Aq (fQ g).length cq,.slice Ax m cx] 67:=mbox_self G 5 (.slice As' (fS g).length cs')
           have bb9:=Below.setCell (p:=⟨lo,5,none⟩) bb HLE.out (.slice As' (fS g).length cs')
           have T9:=T7.setLo 5 (.slice As' (fS g).length cs')
           clear G bb T7
           have G:=G9
           have bb:=bb9
           have T7:=T9
           clear G9 bb9 T9
           refine hK.out _ _ bb (fun hS'=>?_)
           clear hK K hS
           have hS:=hS'
           clear hS'
           try simp only [Act.put,zq0,zq1,zq2,zq3,zq4,zq5]
           refine wpAnyH_take (i:=11) (v:=?_) rfl (by kernel_rfl) (by kernel_rfl) (by kernel_rfl) (fun _ _ _ h=>h) (Or.inl ⟨by rfl,?_⟩) hS ?_
           rotate_left
           · (intro w hSw;(try dsimp only at hSw);go_simp;(try with_reducible rfl))
           rotate_left
           simp only [Act.put,zq0,zq1,zq2,zq3,zq4,zq5]
           refine wpAnyH_ready (rs:=[12]) (by kernel_rfl) (by simp) ?_
           refine AllReadyH.cons rfl (fun K hK=>?_) AllReadyH.nil
           rw [if_pos (by rfl)]
           have fQ:=G.free
           have yQ:=G.cell
           go_simp
           clear fQ yQ
           have G9 : BoxOf _ lo #[.int .i64 (fN g),.int .u8 (kI g),.int .i64 (fA g),.int .i64 (fM g),.slice Ad (fD g).length cd,.slice As' (fS g).length cs',.slice Aq' (fQ g).length cq',.slice Ax m cx] 67:=mbox_self G 6 (.slice Aq' (fQ g).length cq')
           have bb9:=Below.setCell (p:=⟨lo,6,none⟩) bb HLE.out (.slice Aq' (fQ g).length cq')
           have T9:=T7.setLo 6 (.slice Aq' (fQ g).length cq')
           clear G bb T7
           have G:=G9
           have bb:=bb9
           have T7:=T9
           clear G9 bb9 T9
           refine hK.out _ _ bb (fun hS'=>?_)
           clear hK K hS
           have hS:=hS'
           clear hS'
           try simp only [Act.put,zq0,zq1,zq2,zq3,zq4,zq5]
           refine wpAnyH_take (i:=13) (v:=?_) rfl (by kernel_rfl) (by kernel_rfl) (by kernel_rfl) (fun _ _ _ h=>h) (Or.inl ⟨by rfl,?_⟩) hS ?_
           rotate_left
           · (intro w hSw;(try dsimp only at hSw);go_simp;(try with_reducible rfl))
           rotate_left
           simp only [Act.put,zq0,zq1,zq2,zq3,zq4,zq5]
           refine wpAnyH_ready (rs:=[14]) (by kernel_rfl) (by simp) ?_
           refine AllReadyH.cons rfl (fun K hK=>?_) AllReadyH.nil
           rw [if_pos (by rfl)]
           have fQ:=G.free
           have yQ:=G.cell
           go_simp
           clear fQ yQ
           have G9 : BoxOf _ lo #[.int .i64 (fN g),.int .u8 (kI g),.int .i64 (fA g),.int .i64 (fM g),.slice Ad (fD g).length cd,.slice As' (fS g).length cs',.slice Aq' (fQ g).length cq',.slice Ax' m cx'] 67:=mbox_self G 7 (.slice Ax' m cx')
           have bb9:=Below.setCell (p:=⟨lo,7,none⟩) bb HLE.out (.slice Ax' m cx')
           have T9:=T7.setLo 7 (.slice Ax' m cx')
           clear G bb T7
           have G:=G9
           have bb:=bb9
           have T7:=T9
           clear G9 bb9 T9
           refine hK.out _ _ bb (fun hS'=>?_)
           clear hK K hS
           have hS:=hS'
           clear hS'
           try simp only [Act.put,zq0,zq1,zq2,zq3,zq4,zq5]
           refine wpAnyH_done (by kernel_rfl) ?_ _
           have HG:=Lib.hid (And.intro G (And.intro bb T7))
           clear hS G bb T7
           go_wp2_with fail
           go_meet
           exact ⟨_,_,_,_,_,_,HG.out⟩
         · rw [if_pos (by rfl)]
           have yQ:=G.cell
           go_simp
           refine hK.out _ _ bb (fun hS'=>?_)
           clear yQ
           clear hK K hS
           have hS:=hS'
           clear hS'
           try simp only [Act.put,zq0,zq1,zq2,zq3,zq4,zq5]
           refine wpAnyH_ready (rs:=[2]) (by kernel_rfl) (by simp) ?_
           refine AllReadyH.cons rfl (fun K hK=>?_) AllReadyH.nil
           rw [if_pos (by rfl)]
           go_simp
           refine (HC2.out _ bb).mono ?_
           rintro e wB ⟨⟨vs,rfl,ns⟩,bB⟩
           have G9:=G.next bB
           have bb9:=Ext.trans bb bB
           clear G bb
           have G:=G9
           have bb:=bb9
           clear G9 bb9
           refine hK.out _ _ bb (fun hS'=>?_)
           clear hK K hS
           have hS:=hS'
           clear hS'
           try simp only [Act.put,zq0,zq1,zq2,zq3,zq4,zq5]
           refine wpAnyH_take (i:=9) (v:=?_) rfl (by kernel_rfl) (by kernel_rfl) (by kernel_rfl) (fun _ _ _ h=>h) (Or.inl ⟨by rfl,?_⟩) hS ?_
           rotate_left
           · (intro w hSw;(try dsimp only at hSw);go_simp;(try with_reducible rfl))
           rotate_left
           simp only [Act.put,zq0,zq1,zq2,zq3,zq4,zq5]
           refine wpAnyH_ready (rs:=[5]) (by kernel_rfl) (by simp) ?_
           refine AllReadyH.cons rfl (fun K hK=>?_) AllReadyH.nil
           rw [if_pos (by rfl)]
           go_simp
           refine (HC3.out _ bb).mono ?_
           rintro e wC ⟨⟨vq,rfl,nq'⟩,bC⟩
           have G9:=G.next bC
           have bb9:=Ext.trans bb bC
           clear G bb
           have G:=G9
           have bb:=bb9
           clear G9 bb9
           refine hK.out _ _ bb (fun hS'=>?_)
           clear hK K hS
           have hS:=hS'
           clear hS'
           try simp only [Act.put,zq0,zq1,zq2,zq3,zq4,zq5]
           refine wpAnyH_ready (rs:=[8]) (by kernel_rfl) (by simp) ?_
           refine AllReadyH.cons rfl (fun K hK=>?_) AllReadyH.nil
           rw [if_pos (by rfl)]
           go_simp
           refine (HC4.out _ bb).mono ?_
           rintro e wD ⟨⟨vx,rfl,nx⟩,bD⟩
           have G9:=G.next bD
           have bb9:=Ext.trans bb bD
           clear G bb
           have G:=G9
           have bb:=bb9
           clear G9 bb9
           have T7:=TwIn.start hlA bB bC bD D5 ns nq' nx (by have:=HML.out;have:=HM.out;omega)
           obtain ⟨As',cs',es⟩:=ns.slice
           obtain ⟨Aq',cq',eq'⟩:=nq'.slice
           obtain ⟨Ax',cx',ex⟩:=nx.slice
           rw [List.length_map] at es eq'
           rw [HML.out.1] at ex
           subst es eq' ex
           clear bB bC bD D5 ns nq' nx
           refine hK.out _ _ bb (fun hS'=>?_)
           clear hK K hS
           have hS:=hS'
           clear hS'
           try simp only [Act.put,zq0,zq1,zq2,zq3,zq4,zq5]
           refine wpAnyH_ready (rs:=[10]) (by kernel_rfl) (by simp) ?_
           refine AllReadyH.cons rfl (fun K hK=>?_) AllReadyH.nil
           rw [if_pos (by rfl)]
           have fQ:=G.free
           have yQ:=G.cell
           go_simp
           clear fQ yQ
           have G9 : BoxOf _ lo #[.int .i64 (fN g),.int .u8 (kI g),.int .i64 (fA g),.int .i64 (fM g),.slice Ad (fD g).length cd,.slice As' (fS g).length cs',.slice Aq (fQ g).length cq,.slice Ax m cx] 67:=mbox_self G 5 (.slice As' (fS g).length cs')
           have bb9:=Below.setCell (p:=⟨lo,5,none⟩) bb HLE.out (.slice As' (fS g).length cs')
           have T9:=T7.setLo 5 (.slice As' (fS g).length cs')
           clear G bb T7
           have G:=G9
           have bb:=bb9
           have T7:=T9
           clear G9 bb9 T9
           refine hK.out _ _ bb (fun hS'=>?_)
           clear hK K hS
           have hS:=hS'
           clear hS'
           try simp only [Act.put,zq0,zq1,zq2,zq3,zq4,zq5]
           refine wpAnyH_take (i:=11) (v:=?_) rfl (by kernel_rfl) (by kernel_rfl) (by kernel_rfl) (fun _ _ _ h=>h) (Or.inl ⟨by rfl,?_⟩) hS ?_
           rotate_left
           · (intro w hSw;(try dsimp only at hSw);go_simp;(try with_reducible rfl))
           rotate_left
           simp only [Act.put,zq0,zq1,zq2,zq3,zq4,zq5]
           refine wpAnyH_ready (rs:=[12]) (by kernel_rfl) (by simp) ?_
           refine AllReadyH.cons rfl (fun K hK=>?_) AllReadyH.nil
           rw [if_pos (by rfl)]
           have fQ:=G.free
           have yQ:=G.cell
           go_simp
           clear fQ yQ
           have G9 : BoxOf _ lo #[.int .i64 (fN g),.int .u8 (kI g),.int .i64 (fA g),.int .i64 (fM g),.slice Ad (fD g).length cd,.slice As' (fS g).length cs',.slice Aq' (fQ g).length cq',.slice Ax m cx] 67:=mbox_self G 6 (.slice Aq' (fQ g).length cq')
           have bb9:=Below.setCell (p:=⟨lo,6,none⟩) bb HLE.out (.slice Aq' (fQ g).length cq')
           have T9:=T7.setLo 6 (.slice Aq' (fQ g).length cq')
           clear G bb T7
           have G:=G9
           have bb:=bb9
           have T7:=T9
           clear G9 bb9 T9
           refine hK.out _ _ bb (fun hS'=>?_)
           clear hK K hS
           have hS:=hS'
           clear hS'
           try simp only [Act.put,zq0,zq1,zq2,zq3,zq4,zq5]
           refine wpAnyH_take (i:=13) (v:=?_) rfl (by kernel_rfl) (by kernel_rfl) (by kernel_rfl) (fun _ _ _ h=>h) (Or.inl ⟨by rfl,?_⟩) hS ?_
           rotate_left
           · (intro w hSw;(try dsimp only at hSw);go_simp;(try with_reducible rfl))
           rotate_left
           simp only [Act.put,zq0,zq1,zq2,zq3,zq4,zq5]
           refine wpAnyH_ready (rs:=[14]) (by kernel_rfl) (by simp) ?_
           refine AllReadyH.cons rfl (fun K hK=>?_) AllReadyH.nil
           rw [if_pos (by rfl)]
           have fQ:=G.free
           have yQ:=G.cell
           go_simp
           clear fQ yQ
           have G9 : BoxOf _ lo #[.int .i64 (fN g),.int .u8 (kI g),.int .i64 (fA g),.int .i64 (fM g),.slice Ad (fD g).length cd,.slice As' (fS g).length cs',.slice Aq' (fQ g).length cq',.slice Ax' m cx'] 67:=mbox_self G 7 (.slice Ax' m cx')
           have bb9:=Below.setCell (p:=⟨lo,7,none⟩) bb HLE.out (.slice Ax' m cx')
           have T9:=T7.setLo 7 (.slice Ax' m cx')
           clear G bb T7
           have G:=G9
           have bb:=bb9
           have T7:=T9
           clear G9 bb9 T9
           refine hK.out _ _ bb (fun hS'=>?_)
           clear hK K hS
           have hS:=hS'
           clear hS'
           try simp only [Act.put,zq0,zq1,zq2,zq3,zq4,zq5]
           refine wpAnyH_done (by kernel_rfl) ?_ _
           have HG:=Lib.hid (And.intro G (And.intro bb T7))
           clear hS G bb T7
           go_wp2_with fail
           go_meet
           exact ⟨_,_,_,_,_,_,HG.out⟩
       · rw [if_pos (by rfl)]
         have yQ:=G.cell
         go_simp
         refine hK.out _ _ bb (fun hS'=>?_)
         clear yQ
         clear hK K hS
         have hS:=hS'
         clear hS'
         try simp only [Act.put,zq0,zq1,zq2,zq3,zq4,zq5]
         refine wpAnyH_ready (rs:=[1]) (by kernel_rfl) (by simp) ?_
         refine AllReadyH.cons rfl (fun K hK=>?_) AllReadyH.nil
         rw [if_pos (by rfl)]
         have yQ:=G.cell
         go_simp
         refine hK.out _ _ bb (fun hS'=>?_)
         clear yQ
         clear hK K hS
         have hS:=hS'
         clear hS'
         try simp only [Act.put,zq0,zq1,zq2,zq3,zq4,zq5]
         refine wpAnyH_ready (rs:=[2]) (by kernel_rfl) (by simp) ?_
         refine AllReadyH.cons rfl (fun K hK=>?_) AllReadyH.nil
         rw [if_pos (by rfl)]
         go_simp
         refine (HC2.out _ bb).mono ?_
         rintro e wB ⟨⟨vs,rfl,ns⟩,bB⟩
         have G9:=G.next bB
         have bb9:=Ext.trans bb bB
         clear G bb
         have G:=G9
         have bb:=bb9
         clear G9 bb9
         refine hK.out _ _ bb (fun hS'=>?_)
         clear hK K hS
         have hS:=hS'
         clear hS'
         try simp only [Act.put,zq0,zq1,zq2,zq3,zq4,zq5]
         refine wpAnyH_take (i:=9) (v:=?_) rfl (by kernel_rfl) (by kernel_rfl) (by kernel_rfl) (fun _ _ _ h=>h) (Or.inl ⟨by rfl,?_⟩) hS ?_
         rotate_left
         · (intro w hSw;(try dsimp only at hSw);go_simp;(try with_reducible rfl))
         rotate_left
         simp only [Act.put,zq0,zq1,zq2,zq3,zq4,zq5]
         refine wpAnyH_ready (rs:=[5]) (by kernel_rfl) (by simp) ?_
         refine AllReadyH.cons rfl (fun K hK=>?_) AllReadyH.nil
         rw [if_pos (by rfl)]
         go_simp
         refine (HC3.out _ bb).mono ?_
         rintro e wC ⟨⟨vq,rfl,nq'⟩,bC⟩
         have G9:=G.next bC
         have bb9:=Ext.trans bb bC
         clear G bb
         have G:=G9
         have bb:=bb9
         clear G9 bb9
         refine hK.out _ _ bb (fun hS'=>?_)
         clear hK K hS
         have hS:=hS'
         clear hS'
         try simp only [Act.put,zq0,zq1,zq2,zq3,zq4,zq5]
         refine wpAnyH_ready (rs:=[8]) (by kernel_rfl) (by simp) ?_
         refine AllReadyH.cons rfl (fun K hK=>?_) AllReadyH.nil
         rw [if_pos (by rfl)]
         go_simp
         refine (HC4.out _ bb).mono ?_
         rintro e wD ⟨⟨vx,rfl,nx⟩,bD⟩
         have G9:=G.next bD
         have bb9:=Ext.trans bb bD
         clear G bb
         have G:=G9
         have bb:=bb9
         clear G9 bb9
         have T7:=TwIn.start hlA bB bC bD D5 ns nq' nx (by have:=HML.out;have:=HM.out;omega)
         obtain ⟨As',cs',es⟩:=ns.slice
         obtain ⟨Aq',cq',eq'⟩:=nq'.slice
         obtain ⟨Ax',cx',ex⟩:=nx.slice
         rw [List.length_map] at es eq'
         rw [HML.out.1] at ex
         subst es eq' ex
         clear bB bC bD D5 ns nq' nx
         refine hK.out _ _ bb (fun hS'=>?_)
         clear hK K hS
         have hS:=hS'
         clear hS'
         try simp only [Act.put,zq0,zq1,zq2,zq3,zq4,zq5]
         refine wpAnyH_ready (rs:=[10]) (by kernel_rfl) (by simp) ?_
         refine AllReadyH.cons rfl (fun K hK=>?_) AllReadyH.nil
         rw [if_pos (by rfl)]
         have fQ:=G.free
         have yQ:=G.cell
         go_simp
         clear fQ yQ
         have G9 : BoxOf _ lo #[.int .i64 (fN g),.int .u8 (kI g),.int .i64 (fA g),.int .i64 (fM g),.slice Ad (fD g).length cd,.slice As' (fS g).length cs',.slice Aq (fQ g).length cq,.slice Ax m cx] 67:=mbox_self G 5 (.slice As' (fS g).length cs')
         have bb9:=Below.setCell (p:=⟨lo,5,none⟩) bb HLE.out (.slice As' (fS g).length cs')
         have T9:=T7.setLo 5 (.slice As' (fS g).length cs')
         clear G bb T7
         have G:=G9
         have bb:=bb9
         have T7:=T9
         clear G9 bb9 T9
         refine hK.out _ _ bb (fun hS'=>?_)
         clear hK K hS
         have hS:=hS'
         clear hS'
         try simp only [Act.put,zq0,zq1,zq2,zq3,zq4,zq5]
         refine wpAnyH_take (i:=11) (v:=?_) rfl (by kernel_rfl) (by kernel_rfl) (by kernel_rfl) (fun _ _ _ h=>h) (Or.inl ⟨by rfl,?_⟩) hS ?_
         rotate_left
         · (intro w hSw;(try dsimp only at hSw);go_simp;(try with_reducible rfl))
         rotate_left
         simp only [Act.put,zq0,zq1,zq2,zq3,zq4,zq5]
         refine wpAnyH_ready (rs:=[12]) (by kernel_rfl) (by simp) ?_
         refine AllReadyH.cons rfl (fun K hK=>?_) AllReadyH.nil
         rw [if_pos (by rfl)]
         have fQ:=G.free
         have yQ:=G.cell
         go_simp
         clear fQ yQ
         have G9 : BoxOf _ lo #[.int .i64 (fN g),.int .u8 (kI g),.int .i64 (fA g),.int .i64 (fM g),.slice Ad (fD g).length cd,.slice As' (fS g).length cs',.slice Aq' (fQ g).length cq',.slice Ax m cx] 67:=mbox_self G 6 (.slice Aq' (fQ g).length cq')
         have bb9:=Below.setCell (p:=⟨lo,6,none⟩) bb HLE.out (.slice Aq' (fQ g).length cq')
         have T9:=T7.setLo 6 (.slice Aq' (fQ g).length cq')
         clear G bb T7
         have G:=G9
         have bb:=bb9
         have T7:=T9
         clear G9 bb9 T9
         refine hK.out _ _ bb (fun hS'=>?_)
         clear hK K hS
         have hS:=hS'
         clear hS'
         try simp only [Act.put,zq0,zq1,zq2,zq3,zq4,zq5]
         refine wpAnyH_take (i:=13) (v:=?_) rfl (by kernel_rfl) (by kernel_rfl) (by kernel_rfl) (fun _ _ _ h=>h) (Or.inl ⟨by rfl,?_⟩) hS ?_
         rotate_left
         · (intro w hSw;(try dsimp only at hSw);go_simp;(try with_reducible rfl))
         rotate_left
         simp only [Act.put,zq0,zq1,zq2,zq3,zq4,zq5]
         refine wpAnyH_ready (rs:=[14]) (by kernel_rfl) (by simp) ?_
         refine AllReadyH.cons rfl (fun K hK=>?_) AllReadyH.nil
         rw [if_pos (by rfl)]
         have fQ:=G.free
         have yQ:=G.cell
         go_simp
         clear fQ yQ
         have G9 : BoxOf _ lo #[.int .i64 (fN g),.int .u8 (kI g),.int .i64 (fA g),.int .i64 (fM g),.slice Ad (fD g).length cd,.slice As' (fS g).length cs',.slice Aq' (fQ g).length cq',.slice Ax' m cx'] 67:=mbox_self G 7 (.slice Ax' m cx')
         have bb9:=Below.setCell (p:=⟨lo,7,none⟩) bb HLE.out (.slice Ax' m cx')
         have T9:=T7.setLo 7 (.slice Ax' m cx')
         clear G bb T7
         have G:=G9
         have bb:=bb9
         have T7:=T9
         clear G9 bb9 T9
         refine hK.out _ _ bb (fun hS'=>?_)
         clear hK K hS
         have hS:=hS'
         clear hS'
         try simp only [Act.put,zq0,zq1,zq2,zq3,zq4,zq5]
         refine wpAnyH_done (by kernel_rfl) ?_ _
         have HG:=Lib.hid (And.intro G (And.intro bb T7))
         clear hS G bb T7
         go_wp2_with fail
         go_meet
         exact ⟨_,_,_,_,_,_,HG.out⟩
    case rest=>
     obtain ⟨As',cs',Aq',cq',Ax',cx',G5,b5,T5⟩:=hcut
     clear G3 b3 HD HC2 HC3 HC4
     generalize wc = w5 at *
     have x5:=G5.cell
     obtain ⟨wo,rfl⟩ : ∃ z : World,z = wr:=⟨_,rfl⟩
     go_wp2
     clear x5
     go_loopw [5,6,34] (fun s5 s6 i wq=>∃ (j : Nat) (hs : List Value),j ≤ m ∧ i = .int .i64 (j : Int) ∧ Below wo.heap.size wo wq ∧ BoxOf wq lo #[.int .i64 (fN g),.int .u8 (kI g),.int .i64 (fA g),.int .i64 (fM g),.slice Ad (fD g).length cd,.slice As' (fS g).length cs',.slice Aq' (fQ g).length cq',.slice Ax' m cx'] 67 ∧ TwIn wq lo g (.slice Ad (fD g).length cd) (.slice As' (fS g).length cs') (.slice Aq' (fQ g).length cq') (.slice Ax' m cx') hs0 hs j) (fun _ _ i _=>m - (intOf i).toNat)
     case atStart=>exact ⟨0,hs0,by omega,rfl,b5,G5,T5⟩
     case round=>
      obtain ⟨j,hs,hj,rfl,b6,G6,T6⟩:=hrel
      clear b5 G5 T5
      by_cases hlj : j < m
      · have hjs : j < hs.length:=by have:=T6.len;have:=HM.out;omega
        have hjb : j < (fB g).length:=by have:=HM.out;omega
        have hj0 : j < hs0.length:=by have:=HML.out;omega
        obtain ⟨R,cap,eR,hcell⟩:=T6.row.cell hjs
        injection eR with eR1 eR2 eR3
        subst eR1
        clear eR2 eR3
        obtain ⟨R',cap',cur,eR',hRv,hRB,hcs⟩:=T6.row.at hjs
        injection eR' with eR1 eR2 eR3
        clear eR2 eR3
        injection eR1 with eR1
        injection eR1 with eR1 eR2 eR3
        clear eR2 eR3
        subst eR1
        have ehs : hs[j] = hs0[j]:=by
         have h1:=T6.old j (Nat.le_refl j)
         rw [List.getElem?_eq_getElem hjs,List.getElem?_eq_getElem hj0] at h1
         exact Option.some.inj h1
        have r5:=HC5.out j hj0 hjb
        rw [← ehs] at r5
        obtain ⟨Ai,ci,ei⟩:=bytesV r5
        rw [ei] at r5 hcell
        obtain ⟨bs,hbs⟩ : ∃ z : List UInt8,z = (fB g)[j]:=⟨_,rfl⟩
        have HBS : Hid (∀ h : j < (fB g).length,bs = (fB g)[j]):=fun _=>hbs
        rw [← hbs] at r5 hcell
        have HCL : Hid (∀ w',Below wo.heap.size wo w' → Calls Try.prog 43 #[.slice Ai bs.length ci] w' fun e w''=>(∃ v,e = .returned v ∧ RdIn w'' (NewB w'.heap.size w'') (.sl .byte) bs [v]) ∧ Below w'.heap.size w' w''):=fun w' bb=>clone_any S bs Ai ci w' (r5.below bb)
        have HJS:=Lib.hid (And.intro hjs hjb)
        have HRV:=Lib.hid hRv
        have HWQ:=next_wrap HML.out.2 hlj
        have HLQ:=Lib.hid hlj
        have x6:=G6.cell
        have HCS:=Lib.hid hcs
        clear r5 ei ehs hbs hj0 hRv hcs
        go_upto_region 9 with fail
        clear x6 hcell
        refine wp_region_held_drew (S:=fun w'=>∀ p,w'.cell? ⟨lo,p,none⟩ = (#[.int .i64 (fN g),.int .u8 (kI g),.int .i64 (fA g),.int .i64 (fM g),.slice Ad (fD g).length cd,.slice As' (fS g).length cs',.slice Aq' (fQ g).length cq',.slice (some ⟨R,0,none⟩) m cx'] : Array Value).toList[p]?) (by kernel_rfl) G6.drew.cell (fun hS=>?_)
        have bd:=Ext.drew (Below.refl wr.heap.size wr)
        have G7:=G6.next bd
        have b7:=Ext.trans b6 bd
        have T7:=T6.next bd
        have B7:=hRB.next bd
        have hl7 : lo < wr.drew.heap.size:=G7.lt
        clear G6 b6 T6 hRB bd
        generalize wr.drew = wd at *
        refine wpAnyH_take (i:=0) (v:=?_) rfl (by kernel_rfl) (by kernel_rfl) (by kernel_rfl) (fun _ _ _ h=>h) (Or.inl ⟨by rfl,?_⟩) hS ?_
        rotate_left
        · (intro w hSw;(try dsimp only at hSw);go_simp;(try with_reducible rfl))
        rotate_left
        simp only [Act.put,zq0,zq1,zq2,zq3,zq4,zq5]
        refine wpAnyH_take (i:=1) (v:=?_) rfl (by kernel_rfl) (by kernel_rfl) (by kernel_rfl) (fun _ _ _ h=>h) (Or.inl ⟨by rfl,?_⟩) hS ?_
        rotate_left
        · (intro w hSw;(try dsimp only at hSw);go_simp;(try with_reducible rfl))
        rotate_left
        simp only [Act.put,zq0,zq1,zq2,zq3,zq4,zq5]
        refine wpAnyH_take (i:=2) (v:=?_) rfl (by kernel_rfl) (by kernel_rfl) (by kernel_rfl) (fun _ _ _ h=>h) (Or.inl ⟨by rfl,?_⟩) hS ?_
        rotate_left
        · (intro w hSw;(try dsimp only at hSw);go_simp;(try with_reducible rfl))
        rotate_left
        simp only [Act.put,zq0,zq1,zq2,zq3,zq4,zq5]
        refine wpAnyH_take (i:=3) (v:=?_) rfl (by kernel_rfl) (by kernel_rfl) (by kernel_rfl) (fun _ _ _ h=>h) (Or.inl ⟨by rfl,?_⟩) hS ?_
        rotate_left
        · (intro w hSw;(try dsimp only at hSw);go_simp;(try with_reducible rfl))
        rotate_left
        simp only [Act.put,zq0,zq1,zq2,zq3,zq4,zq5]
        refine wpAnyH_ready (rs:=[4]) (by kernel_rfl) (by simp) ?_
        refine AllReadyH.cons rfl (fun K hK=>?_) AllReadyH.nil
        rw [if_pos (by rfl)]
        go_simp
        refine (HCL.out _ b7).mono ?_
        rintro e w8 ⟨⟨u,rfl,ru⟩,b8⟩
        have G8:=G7.next b8
        have b9:=Ext.trans b7 b8
        have B8:=B7.next b8
        have HTP : Hid (TwIn (w8.setCell ⟨R,j,none⟩ u) lo g (.slice Ad (fD g).length cd) (.slice As' (fS g).length cs') (.slice Aq' (fQ g).length cq') (.slice (some ⟨R,0,none⟩) m cx') hs0 (hs.set j u) (j + 1)):=T7.put b8 HJS.out.1 HJS.out.2 (by rw [← HBS.out HJS.out.2];exact ru) hl7
        obtain ⟨Au,cu,rfl⟩:=bytesV ru
        refine hK.out _ _ G8.cell (fun hS'=>?_)
        clear G7 b7 T7 B7 hl7 ru b8
        clear hK K hS
        have hS:=hS'
        clear hS'
        try simp only [Act.put,zq0,zq1,zq2,zq3,zq4,zq5]
        have hcs:=HCS.out
        refine wpAnyH_ready (rs:=[5]) (by kernel_rfl) (by simp) ?_
        refine AllReadyH.cons rfl (fun K hK=>?_) AllReadyH.nil
        rw [if_pos (by rfl)]
        go_simp
        refine hK.out _ _ hS (fun hS'=>?_)
        clear hK K hS
        have hS:=hS'
        clear hS'
        try simp only [Act.put,zq0,zq1,zq2,zq3,zq4,zq5]
        refine wpAnyH_ready (rs:=[6]) (by kernel_rfl) (by simp) ?_
        refine AllReadyH.cons rfl (fun K hK=>?_) AllReadyH.nil
        rw [if_pos (by rfl)]
        have fQ : w8.frozen? ⟨R,j,none⟩ = false:=B8.free j
        obtain ⟨uo,yQ⟩ : ∃ uo,w8.cell? ⟨R,j,none⟩ = some uo:=⟨cur[j],by rw [B8.cell];simp [hcs]⟩
        go_simp
        clear fQ yQ
        have hRl : lo ≠ R:=by have:=HRV.out.1;omega
        have G9:=mbox_else G8 hRl j (.slice Au bs.length cu)
        have b10:=Below.setCell (p:=⟨R,j,none⟩) b9 (show wo.heap.size ≤ R by have:=HLO.out;have:=HRV.out.1;omega) (.slice Au bs.length cu)
        refine hK.out _ _ G9.cell (fun hS'=>?_)
        clear G8 b9 B8
        clear hK K hS
        have hS:=hS'
        clear hS'
        try simp only [Act.put,zq0,zq1,zq2,zq3,zq4,zq5]
        refine wpAnyH_done (by kernel_rfl) ?_ _
        clear hS hcs hRl
        generalize w8.setCell ⟨R,j,none⟩ (.slice Au bs.length cu) = w9 at *
        go_wp2
        go_roundw
        case rel=>exact ⟨j + 1,_,HLQ.out,by first | exact round_same HWQ | go_num,b10,G9,HTP.out⟩
        case measure=>first | exact round_less HWQ HLQ.out | (have h:=HLQ.out;simp [intOf];omega)
      · have HFE:=T6.done (by have:=HM.out;omega) HI.out HSM.out HZ.out
        have hlw : lo < wr.heap.size:=G6.lt
        have x6:=G6.cell
        have bA:=Ext.alloc (Below.refl wr.heap.size wr) (.cells #[.int .i64 (fN g),.int .u8 (kI g),.int .i64 (fA g),.int .i64 (fM g),.slice Ad (fD g).length cd,.slice As' (fS g).length cs',.slice Aq' (fQ g).length cq',.slice Ax' m cx'] 67)
        have rd6:=rd_row wr #[.int .i64 (fN g),.int .u8 (kI g),.int .i64 (fA g),.int .i64 (fM g),.slice Ad (fD g).length cd,.slice As' (fS g).length cs',.slice Aq' (fQ g).length cq',.slice Ax' m cx'] 67
        have E6 : flE.E (wr.alloc (.cells #[.int .i64 (fN g),.int .u8 (kI g),.int .i64 (fA g),.int .i64 (fM g),.slice Ad (fD g).length cd,.slice As' (fS g).length cs',.slice Aq' (fQ g).length cq',.slice Ax' m cx'] 67)) (Iv lo (wr.alloc (.cells #[.int .i64 (fN g),.int .u8 (kI g),.int .i64 (fA g),.int .i64 (fM g),.slice Ad (fD g).length cd,.slice As' (fS g).length cs',.slice Aq' (fQ g).length cq',.slice Ax' m cx'] 67)).heap.size) g [.int .i64 (fN g),.int .u8 (kI g),.int .i64 (fA g),.int .i64 (fM g),.slice Ad (fD g).length cd,.slice As' (fS g).length cs',.slice Aq' (fQ g).length cq',.slice Ax' m cx']:=⟨_,_,_,_,_,_,rfl,(HFE.frame fun b hb=>bA.block b hb.2).mono fun b hb=>⟨hb.1,Nat.lt_of_lt_of_le hb.2 bA.size⟩⟩
        have b8:=Ext.trans b6 bA
        have t8:=Ext.trans b1 b8
        have O8 : OwnE flE (wr.alloc (.cells #[.int .i64 (fN g),.int .u8 (kI g),.int .i64 (fA g),.int .i64 (fM g),.slice Ad (fD g).length cd,.slice As' (fS g).length cs',.slice Aq' (fQ g).length cq',.slice Ax' m cx'] 67)) (Iv W.heap.size lo) W.heap.size 67 u2 (fs.take k):=by
         have h:=OwnE.next O1 (fun b hb=>hb.2) b8
         rw [← HLO.out] at h
         exact h
        have hll : lo ≤ (wr.alloc (.cells #[.int .i64 (fN g),.int .u8 (kI g),.int .i64 (fA g),.int .i64 (fM g),.slice Ad (fD g).length cd,.slice As' (fS g).length cs',.slice Aq' (fQ g).length cq',.slice Ax' m cx'] 67)).heap.size:=Nat.le_trans (Nat.le_of_lt hlw) bA.size
        have hWl : W.heap.size ≤ lo:=by rw [HLO.out];exact b1.size
        have hkl : (fs.take k).length = k:=by rw [List.length_take];have:=HNL.out;have:=HLJ.out;omega
        have HBY : Hid ((fs.take k).length + 1 ≤ maxLen ∧ ((fs.take k).length + 1) * 128 ≤ 140737488355328):=by
         have h1:=HNM.out
         have h2:=HNZ.out
         have h3:=HLJ.out
         show _ ∧ _
         rw [hkl]
         omega
        clear HFE hkl T6 bA b6 b8 G6
        go_wp2_with (at_builtin;refine wpList_pushI rfl (.tmp 46) (.tmp 48) 25 rfl W.heap.size lo 67 ig _ 128 Try.underlying25 hig hg0 hg1 hg2 rfl (by decide) u2 (fs.take k) rfl O8 hll hWl (some ⟨wr.heap.size,0,none⟩) 1 _ rfl rd6 g E6 HBY.out.1 HBY.out.2 ?_;intro vz wz Oz gz kz;have tz:=Below.grown t8 gz t8.size kz;have Oy:=OwnE.cast HST.out.symm Oz;clear x6 O8 rd6 E6 t8 gz kz Oz)
        go_roundw
        case rel=>exact ⟨k + 1,HLJ.out,by first | exact round_same HWJ | go_num,tz,Oy⟩
        case measure=>first | exact round_less HWJ HLJ.out | (have h:=HLJ.out;simp [intOf];omega)
  · have hke : fs.take k = fs:=List.take_of_length_le (by have:=HNL.out;omega)
    unfold FlNew at O1
    rw [hke] at O1
    go_wp2
    go_ret
    exact ⟨⟨_,rfl,by have h:=HWW.out;subst h;exact O1⟩,bw⟩
end Go.Proofs.Ythapabjlhooglaa
