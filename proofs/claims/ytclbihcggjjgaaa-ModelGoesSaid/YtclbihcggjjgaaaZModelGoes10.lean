/- What this claim needs of my texts, merged and shortened by a program (part 10). -/
import Derived.Test.YtclbihcggjjgaaaZModelGoes9
namespace Go.Proofs.Ytclbihcggjjgaaa
open Go Go.RowKit
set_option linter.unusedSimpArgs false
set_option linter.unusedVariables false
theorem rdin_two {w : World} {S : Nat → Prop} {t : Ty} {x : t.T} {cs : List Value} (h : RdIn w S t x cs) {k : Nat} (hk : ∀ b,S b → b ≠ k) (u v : Value) : RdIn ((w.setCell ⟨k,0,none⟩ u).setCell ⟨k,1,none⟩ v) S t x cs:=(h.setElse hk 0 u).setElse hk 1 v
theorem ne_before {g s b : Nat} (h : g < s) (h1 : s ≤ b) : b ≠ g:=by omega
theorem ne_past {a b g : Nat} (h : a ≤ g) (h2 : b < a) : b ≠ g:=by omega
theorem two_size (w : World) (k : Nat) (u v : Value) : ((w.setCell ⟨k,0,none⟩ u).setCell ⟨k,1,none⟩ v).heap.size = w.heap.size:=by rw [msize,msize]
theorem below_two {w w' : World} {B : Nat} (h : Below B w w') {k : Nat} (hk : B ≤ k) (u v : Value) : Below B w ((w'.setCell ⟨k,0,none⟩ u).setCell ⟨k,1,none⟩ v):=Below.setCell (p:=⟨k,1,none⟩) (Below.setCell (p:=⟨k,0,none⟩) h hk u) hk v
theorem box_two {w : World} {g k : Nat} {cs : Array Value} {t : TypeId} (h : BoxOf w g cs t) (hk : g ≠ k) (u v : Value) : BoxOf ((w.setCell ⟨k,0,none⟩ u).setCell ⟨k,1,none⟩ v) g cs t:=mbox_else (mbox_else h hk 0 u) hk 1 v
theorem rdin_four {w : World} {S : Nat → Prop} {t : Ty} {x : t.T} {cs : List Value} (h : RdIn w S t x cs) {k : Nat} (hk : ∀ b,S b → b ≠ k) (u v u' v' : Value) : RdIn ((((w.setCell ⟨k,0,none⟩ u).setCell ⟨k,1,none⟩ v).setCell ⟨k,2,none⟩ u').setCell ⟨k,3,none⟩ v') S t x cs:=(((h.setElse hk 0 u).setElse hk 1 v).setElse hk 2 u').setElse hk 3 v'
theorem four_size (w : World) (k : Nat) (u v u' v' : Value) : ((((w.setCell ⟨k,0,none⟩ u).setCell ⟨k,1,none⟩ v).setCell ⟨k,2,none⟩ u').setCell ⟨k,3,none⟩ v').heap.size = w.heap.size:=by rw [msize,msize,msize,msize]
theorem below_four {w w' : World} {B : Nat} (h : Below B w w') {k : Nat} (hk : B ≤ k) (u v u' v' : Value) : Below B w ((((w'.setCell ⟨k,0,none⟩ u).setCell ⟨k,1,none⟩ v).setCell ⟨k,2,none⟩ u').setCell ⟨k,3,none⟩ v'):=Below.setCell (p:=⟨k,3,none⟩) (Below.setCell (p:=⟨k,2,none⟩) (below_two h hk u v) hk u') hk v'
theorem box_four {w : World} {g k : Nat} {cs : Array Value} {t : TypeId} (h : BoxOf w g cs t) (hk : g ≠ k) (u v u' v' : Value) : BoxOf ((((w.setCell ⟨k,0,none⟩ u).setCell ⟨k,1,none⟩ v).setCell ⟨k,2,none⟩ u').setCell ⟨k,3,none⟩ v') g cs t:=mbox_else (mbox_else (box_two h hk u v) hk 2 u') hk 3 v'
theorem box_self4 {w : World} {k : Nat} {a b c d : Value} {t : TypeId} (h : BoxOf w k #[a,b,c,d] t) (u v u' v' : Value) : BoxOf ((((w.setCell ⟨k,0,none⟩ u).setCell ⟨k,1,none⟩ v).setCell ⟨k,2,none⟩ u').setCell ⟨k,3,none⟩ v') k #[u,v,u',v'] t:=mbox_self (mbox_self (mbox_self (mbox_self h 0 u) 1 v) 2 u') 3 v'
theorem byte_shape {w : World} {lo hi n c j : Nat} {A : Option Addr} (h : ShpL w lo hi (.sl .byte) [.slice A n c]) (hj : j < n) : ∃ b o x,A = some ⟨b,o,none⟩ ∧ (lo ≤ b ∧ b < hi) ∧ Live w b ∧ w.cell? ⟨b,o + j,none⟩ = some (.int .u8 x):=by
 obtain ⟨bs,hx⟩:=h
 obtain ⟨A1,c1,e1,h1,h2,_,h4⟩:=rdin_sl.1 hx
 injection e1 with e1 _
 injection e1 with e2 e3 e4
 rcases h4 with h4 | ⟨b,o,e5,hS,h5⟩
 · exfalso
   have h6 : bs = []:=h4
   have e7 : n = bs.length:=e3
   rw [h6] at e7
   have : n = 0:=e7
   omega
 · obtain ⟨es,k1,k2⟩:=h5 j (by have e7 : n = bs.length:=e3;omega)
   obtain rfl:=rdin_byte.1 k2
   have k3:=k1 0 (by decide)
   have e8 : o + j * Ty.byte.size + 0 = o + j:=by show o + j * 1 + 0 = o + j;omega
   rw [e8] at k3
   exact ⟨b,o,_,e2.trans e5,hS.1,hS.2,k3⟩
set_option maxRecDepth 100000 in
set_option maxHeartbeats 4000000 in
theorem goes_core (x : Cfg) (ys : Ys) (gs : List GoTy.T) (A : Option Addr) (ca : Nat) (B : Option Addr) (cb : Nat) (us : Ys) (fs : List GoTy.T) (U : Option Addr) (uc : Nat) (F : Option Addr) (fc : Nat) (n : Int) (hn : IsInt n) (ki : UInt8) (a y : Int) (bs : List UInt8) (D : Option Addr) (dc : Nat) (w : World)
 (hy : RdIn w (fun b=>b < w.heap.size) (.sl (.sl (.sl .byte))) ys [.slice A ys.length ca]) (hg : RdIn w (fun b=>b < w.heap.size) (.sl GoTy) gs [.slice B gs.length cb]) (hu : RdIn w (fun b=>b < w.heap.size) (.sl (.sl (.sl .byte))) us [.slice U us.length uc]) (hf : RdIn w (fun b=>b < w.heap.size) (.sl GoTy) fs [.slice F fs.length fc]) (hd : RdIn w (fun b=>b < w.heap.size) (.sl .byte) bs [.slice D bs.length dc]) :
 Calls Try.prog 7 #[x.val,.agg #[.slice A ys.length ca,.slice B gs.length cb],.agg #[.slice U us.length uc,.slice F fs.length fc],.int .i64 n,.agg #[.int .u8 (ki.toNat : Int),.int .i64 a,.int .i64 y,.slice D bs.length dc]] w fun e w'=>e = .returned (.bool true) ∧ Below w.heap.size w w':=by
 have HY:=Lib.hid hy
 have HG:=Lib.hid hg
 have HU:=Lib.hid hu
 have HF:=Lib.hid hf
 have HD:=Lib.hid hd
 have HNI:=Lib.hid hn
 have HYZ : Hid (ys.length * 24 ≤ 140737488355328):=by
  obtain ⟨_,_,_,_,h1,_⟩:=view3 hy
  exact h1
 have HGZ : Hid (gs.length * 80 ≤ 140737488355328):=by
  obtain ⟨_,_,_,_,h1,_⟩:=viewG hg
  exact h1
 clear hy hg hu hf hd hn
 obtain ⟨id,m,c,r,l,h⟩:=x
 unfold Cfg.val at *
 dsimp only at *
 have C:=BoxOf.alloc (BoxOf.alloc (BoxOf.alloc (BoxOf.new w #[.int .u32 (id : Int),.int .i64 m,.int .i64 c,.int .i64 r,.int .i64 l,.int .i64 h] 24) (.cells #[.slice A ys.length ca,.slice B gs.length cb] 28)) (.cells #[.slice U us.length uc,.slice F fs.length fc] 28)) (.cells #[.int .u8 (ki.toNat : Int),.int .i64 a,.int .i64 y,.slice D bs.length dc] 58)
 have P:=BoxOf.alloc (BoxOf.alloc (BoxOf.new' (w.alloc (.cells #[.int .u32 (id : Int),.int .i64 m,.int .i64 c,.int .i64 r,.int .i64 l,.int .i64 h] 24)) (w.heap.size + 1) #[.slice A ys.length ca,.slice B gs.length cb] 28 (by simp)) (.cells #[.slice U us.length uc,.slice F fs.length fc] 28)) (.cells #[.int .u8 (ki.toNat : Int),.int .i64 a,.int .i64 y,.slice D bs.length dc] 58)
 have O:=BoxOf.alloc (BoxOf.new' ((w.alloc (.cells #[.int .u32 (id : Int),.int .i64 m,.int .i64 c,.int .i64 r,.int .i64 l,.int .i64 h] 24)).alloc (.cells #[.slice A ys.length ca,.slice B gs.length cb] 28)) (w.heap.size + 2) #[.slice U us.length uc,.slice F fs.length fc] 28 (by simp)) (.cells #[.int .u8 (ki.toNat : Int),.int .i64 a,.int .i64 y,.slice D bs.length dc] 58)
 have K:=BoxOf.new' (((w.alloc (.cells #[.int .u32 (id : Int),.int .i64 m,.int .i64 c,.int .i64 r,.int .i64 l,.int .i64 h] 24)).alloc (.cells #[.slice A ys.length ca,.slice B gs.length cb] 28)).alloc (.cells #[.slice U us.length uc,.slice F fs.length fc] 28)) (w.heap.size + 3) #[.int .u8 (ki.toNat : Int),.int .i64 a,.int .i64 y,.slice D bs.length dc] 58 (by simp)
 have t:=Ext.alloc (Ext.alloc (Ext.alloc (Ext.alloc (Below.refl w.heap.size w) (.cells #[.int .u32 (id : Int),.int .i64 m,.int .i64 c,.int .i64 r,.int .i64 l,.int .i64 h] 24)) (.cells #[.slice A ys.length ca,.slice B gs.length cb] 28)) (.cells #[.slice U us.length uc,.slice F fs.length fc] 28)) (.cells #[.int .u8 (ki.toNat : Int),.int .i64 a,.int .i64 y,.slice D bs.length dc] 58)
 go_enter Try.func7,Try.ntmps7
 go_upto_region 1 with fail
 generalize (((w.alloc (.cells #[.int .u32 (id : Int),.int .i64 m,.int .i64 c,.int .i64 r,.int .i64 l,.int .i64 h] 24)).alloc (.cells #[.slice A ys.length ca,.slice B gs.length cb] 28)).alloc (.cells #[.slice U us.length uc,.slice F fs.length fc] 28)).alloc (.cells #[.int .u8 (ki.toNat : Int),.int .i64 a,.int .i64 y,.slice D bs.length dc] 58) = W at *
 have pc:=P.cell
 have oc:=O.cell
 have kc:=K.cell
 go_wp2_with fail
 refine (rgreat_any _ ys gs A ca B cb W (HY.out.below t) (HG.out.below t)).mono ?_
 rintro e w1 ⟨⟨b1,rfl⟩,bb⟩
 clear pc oc kc
 replace t:=Ext.trans t bb
 replace P:=P.next bb
 replace K:=K.next bb
 replace C:=C.next bb
 replace O:=O.next bb
 (try replace G11:=G11.next bb)
 (try replace G12:=G12.next bb)
 (try replace HOY:=Lib.hid (HOY.out.below bb))
 (try replace HOG:=Lib.hid (HOG.out.below bb))
 (try replace HOI:=Lib.hid (HOI.out.below bb))
 (try replace h1le:=Nat.le_trans h1le bb.size)
 (try replace h2le:=Nat.le_trans h2le bb.size)
 clear bb
 cases b1 with
 | true=>
   go_wp2
   go_ret
   exact ⟨rfl,t⟩
 | false=>
   have oc:=O.cell
   go_wp2_with fail
   refine (rgreat_any _ us fs U uc F fc w1 (HU.out.below t) (HF.out.below t)).mono ?_
   rintro e w2 ⟨⟨b2,rfl⟩,bb⟩
   clear oc
   replace t:=Ext.trans t bb
   replace P:=P.next bb
   replace K:=K.next bb
   replace C:=C.next bb
   replace O:=O.next bb
   (try replace G11:=G11.next bb)
   (try replace G12:=G12.next bb)
   (try replace HOY:=Lib.hid (HOY.out.below bb))
   (try replace HOG:=Lib.hid (HOG.out.below bb))
   (try replace HOI:=Lib.hid (HOI.out.below bb))
   (try replace h1le:=Nat.le_trans h1le bb.size)
   (try replace h2le:=Nat.le_trans h2le bb.size)
   clear bb
   cases b2 with
   | true=>
     go_wp2
     go_ret
     exact ⟨rfl,t⟩
   | false=>
     have kc:=K.cell
     rcases Bool.eq_false_or_eq_true (decide ((5000 : Int) < (bs.length : Int))) with e1 | e1
     · go_wp2
       go_ret
       exact ⟨rfl,t⟩
     · go_upto_region 3 with fail
       clear e1 kc
       go_cut [11,12] (fun s11 s12 wx=>∃ (g11 g12 : Nat) (A' : Option Addr) (c' : Nat) (B' : Option Addr) (d' : Nat) (Dn : Option Addr) (dn : Nat),s11 = .pointer (some ⟨g11,0,none⟩) ∧ s12 = .pointer (some ⟨g12,0,none⟩) ∧ BoxOf wx g11 #[.slice A' ys.length c',.slice B' gs.length d'] 28 ∧ BoxOf wx g12 #[.int .u8 (ki.toNat : Int),.int .i64 a,.int .i64 y,.slice Dn bs.length dn] 58 ∧ (w.heap.size ≤ g11 ∧ w.heap.size ≤ g12) ∧ RdIn wx (fun b=>w.heap.size ≤ b ∧ b < wx.heap.size) (.sl (.sl (.sl .byte))) ys [.slice A' ys.length c'] ∧ RdIn wx (fun b=>w.heap.size ≤ b ∧ b < wx.heap.size) (.sl GoTy) gs [.slice B' gs.length d'] ∧ RdIn wx (fun b=>w.heap.size ≤ b ∧ b < wx.heap.size) (.sl .byte) bs [.slice Dn bs.length dn] ∧ Below w.heap.size w wx ∧ BoxOf wx w.heap.size #[.int .u32 (id : Int),.int .i64 m,.int .i64 c,.int .i64 r,.int .i64 l,.int .i64 h] 24 ∧ BoxOf wx (w.heap.size + 1) #[.slice A ys.length ca,.slice B gs.length cb] 28 ∧ BoxOf wx (w.heap.size + 2) #[.slice U us.length uc,.slice F fs.length fc] 28 ∧ BoxOf wx (w.heap.size + 3) #[.int .u8 (ki.toNat : Int),.int .i64 a,.int .i64 y,.slice D bs.length dc] 58)
       case first=>
        have bb:=Ext.drew (Below.refl w2.heap.size w2)
        replace t:=Ext.trans t bb
        replace P:=P.next bb
        replace K:=K.next bb
        replace C:=C.next bb
        replace O:=O.next bb
        (try replace G11:=G11.next bb)
        (try replace G12:=G12.next bb)
        (try replace HOY:=Lib.hid (HOY.out.below bb))
        (try replace HOG:=Lib.hid (HOG.out.below bb))
        (try replace HOI:=Lib.hid (HOI.out.below bb))
        (try replace h1le:=Nat.le_trans h1le bb.size)
        (try replace h2le:=Nat.le_trans h2le bb.size)
        clear bb
        refine wp_region_held_drew (S:=fun w'=>(∀ p,w'.cell? ⟨w.heap.size + 1,p,none⟩ = (#[.slice A ys.length ca,.slice B gs.length cb] : Array Value).toList[p]?) ∧ ∀ p,w'.cell? ⟨w.heap.size + 3,p,none⟩ = (#[.int .u8 (ki.toNat : Int),.int .i64 a,.int .i64 y,.slice D bs.length dc] : Array Value).toList[p]?) (by kernel_rfl) ⟨P.cell,K.cell⟩ (fun hS=>?_)
        generalize w2.drew = vv at *
        refine wpAnyH_take (i:=0) (v:=?_) rfl (by kernel_rfl) (by kernel_rfl) (by kernel_rfl) (fun _ _ _ h=>h) (Or.inl ⟨by rfl,?_⟩) hS ?_
        rotate_left
        · (intro w hSw;(try dsimp only at hSw);go_simp;(try with_reducible rfl))
        rotate_left
        simp only [Act.put,zq0,zq1,zq2,zq3,zq4,zq5]
        refine wpAnyH_take (i:=2) (v:=?_) rfl (by kernel_rfl) (by kernel_rfl) (by kernel_rfl) (fun _ _ _ h=>h) (Or.inl ⟨by rfl,?_⟩) hS ?_
        rotate_left
        · (intro w hSw;(try dsimp only at hSw);go_simp;(try with_reducible rfl))
        rotate_left
        simp only [Act.put,zq0,zq1,zq2,zq3,zq4,zq5]
        refine wpAnyH_ready (rs:=[1,4,5]) (by kernel_rfl) (by simp) ?_
        refine (AllReadyH.cons rfl (fun K0 hK=>?_) (AllReadyH.cons rfl (fun K0 hK=>?_) (AllReadyH.cons rfl (fun K0 hK=>?_) AllReadyH.nil)))
        · rw [if_pos (by rfl)]
          go_simp
          refine (rtwin_any _ ys gs A ca B cb vv (HY.out.below t) (HG.out.below t)).mono ?_
          rintro e vb ⟨A',c',B',d',rfl,ry,rg,bb⟩
          (try have HN11a : Hid (∀ b,(vv).heap.size ≤ b → b < vb.heap.size → b ≠ g11):=fun b h1 _=>ne_before G11.lt h1)
          (try have HN12a : Hid (∀ b,(vv).heap.size ≤ b → b < vb.heap.size → b ≠ g12):=fun b h1 _=>ne_before G12.lt h1)
          have HL1 : Hid (w.heap.size ≤ (vv).heap.size):=t.size
          replace t:=Ext.trans t bb
          replace P:=P.next bb
          replace K:=K.next bb
          replace C:=C.next bb
          replace O:=O.next bb
          (try replace G11:=G11.next bb)
          (try replace G12:=G12.next bb)
          (try replace HOY:=Lib.hid (HOY.out.below bb))
          (try replace HOG:=Lib.hid (HOG.out.below bb))
          (try replace HOI:=Lib.hid (HOI.out.below bb))
          (try replace h1le:=Nat.le_trans h1le bb.size)
          (try replace h2le:=Nat.le_trans h2le bb.size)
          have HOY:=Lib.hid ry
          have HOG:=Lib.hid rg
          have h1le:=Nat.le_refl vb.heap.size
          clear ry rg bb
          refine hK.out _ _ ⟨P.cell,K.cell⟩ (fun hS'=>?_)
          clear hK K0 hS
          have hS:=hS'
          clear hS'
          try simp only [Act.put,zq0,zq1,zq2,zq3,zq4,zq5]
          refine wpAnyH_ready (rs:=[3,4,5]) (by kernel_rfl) (by simp) ?_
          refine (AllReadyH.cons rfl (fun K0 hK=>?_) (AllReadyH.cons rfl (fun K0 hK=>?_) (AllReadyH.cons rfl (fun K0 hK=>?_) AllReadyH.nil)))
          · rw [if_pos (by rfl)]
            go_simp
            refine (rasktwin_any _ ki a y bs D dc vb (HD.out.below t)).mono ?_
            rintro e vd ⟨Dn,dn,rfl,ri,bb⟩
            (try have HN11b : Hid (∀ b,(vb).heap.size ≤ b → b < vd.heap.size → b ≠ g11):=fun b h1 _=>ne_before G11.lt h1)
            (try have HN12b : Hid (∀ b,(vb).heap.size ≤ b → b < vd.heap.size → b ≠ g12):=fun b h1 _=>ne_before G12.lt h1)
            have HL2 : Hid (w.heap.size ≤ (vb).heap.size):=t.size
            replace t:=Ext.trans t bb
            replace P:=P.next bb
            replace K:=K.next bb
            replace C:=C.next bb
            replace O:=O.next bb
            (try replace G11:=G11.next bb)
            (try replace G12:=G12.next bb)
            (try replace HOY:=Lib.hid (HOY.out.below bb))
            (try replace HOG:=Lib.hid (HOG.out.below bb))
            (try replace HOI:=Lib.hid (HOI.out.below bb))
            (try replace h1le:=Nat.le_trans h1le bb.size)
            (try replace h2le:=Nat.le_trans h2le bb.size)
            have HOI : Hid (RdIn vd (fun b=>(vb).heap.size ≤ b ∧ b < vd.heap.size) (.sl .byte) bs [.slice Dn bs.length dn]):=ri.mono fun b hb=>⟨hb.1,hb.2.1⟩
            have h2le:=Nat.le_refl vd.heap.size
            clear ri bb
            refine hK.out _ _ ⟨P.cell,K.cell⟩ (fun hS'=>?_)
            clear hK K0 hS
            have hS:=hS'
            clear hS'
            try simp only [Act.put,zq0,zq1,zq2,zq3,zq4,zq5]
            refine wpAnyH_ready (rs:=[4,5]) (by kernel_rfl) (by simp) ?_
            refine (AllReadyH.cons rfl (fun K0 hK=>?_) (AllReadyH.cons rfl (fun K0 hK=>?_) AllReadyH.nil))
            · rw [if_pos (by rfl)]
              go_simp
              have bb:=Ext.alloc (Below.refl (vd).heap.size (vd)) (.cells #[.slice none 0 0,.slice none 0 0] 28)
              have g11n:=BoxOf.new (vd) #[.slice none 0 0,.slice none 0 0] 28
              obtain ⟨g11,hg11⟩ : ∃ z : Nat,z = (vd).heap.size:=⟨_,rfl⟩
              (try have HN11a : Hid (∀ b,w.heap.size ≤ b → b < vb.heap.size → b ≠ g11):=fun b _ h2=>ne_past (Nat.le_trans h1le (Nat.le_of_eq hg11.symm)) h2)
              (try have HN11b : Hid (∀ b,w.heap.size ≤ b → b < vd.heap.size → b ≠ g11):=fun b _ h2=>ne_past (Nat.le_trans h2le (Nat.le_of_eq hg11.symm)) h2)
              have HG11 : Hid (w.heap.size + 4 ≤ g11):=by have:=K.lt;show _ ≤ _;omega
              rw [← hg11] at g11n
              replace t:=Ext.trans t bb
              replace P:=P.next bb
              replace K:=K.next bb
              replace C:=C.next bb
              replace O:=O.next bb
              (try replace G11:=G11.next bb)
              (try replace G12:=G12.next bb)
              (try replace HOY:=Lib.hid (HOY.out.below bb))
              (try replace HOG:=Lib.hid (HOG.out.below bb))
              (try replace HOI:=Lib.hid (HOI.out.below bb))
              (try replace h1le:=Nat.le_trans h1le bb.size)
              (try replace h2le:=Nat.le_trans h2le bb.size)
              have G11:=g11n
              refine hK.out _ _ ⟨P.cell,K.cell⟩ (fun hS'=>?_)
              rw [← hg11]
              clear hK K0 hS g11n bb hg11
              have hS:=hS'
              clear hS'
              try simp only [Act.put,zq0,zq1,zq2,zq3,zq4,zq5]
              generalize (vd).alloc (.cells #[.slice none 0 0,.slice none 0 0] 28) = v4 at *
              refine wpAnyH_ready (rs:=[5]) (by kernel_rfl) (by simp) ?_
              refine AllReadyH.cons rfl (fun K0 hK=>?_) AllReadyH.nil
              rw [if_pos (by rfl)]
              go_simp
              have bb:=Ext.alloc (Below.refl (v4).heap.size (v4)) (.cells #[.int .u8 0,.int .i64 0,.int .i64 0,.slice none 0 0] 58)
              have g12n:=BoxOf.new (v4) #[.int .u8 0,.int .i64 0,.int .i64 0,.slice none 0 0] 58
              obtain ⟨g12,hg12⟩ : ∃ z : Nat,z = (v4).heap.size:=⟨_,rfl⟩
              (try have HN12a : Hid (∀ b,w.heap.size ≤ b → b < vb.heap.size → b ≠ g12):=fun b _ h2=>ne_past (Nat.le_trans h1le (Nat.le_of_eq hg12.symm)) h2)
              (try have HN12b : Hid (∀ b,w.heap.size ≤ b → b < vd.heap.size → b ≠ g12):=fun b _ h2=>ne_past (Nat.le_trans h2le (Nat.le_of_eq hg12.symm)) h2)
              have HG12 : Hid (w.heap.size + 4 ≤ g12):=by have:=K.lt;show _ ≤ _;omega
              rw [← hg12] at g12n
              replace t:=Ext.trans t bb
              replace P:=P.next bb
              replace K:=K.next bb
              replace C:=C.next bb
              replace O:=O.next bb
              (try replace G11:=G11.next bb)
              (try replace G12:=G12.next bb)
              (try replace HOY:=Lib.hid (HOY.out.below bb))
              (try replace HOG:=Lib.hid (HOG.out.below bb))
              (try replace HOI:=Lib.hid (HOI.out.below bb))
              (try replace h1le:=Nat.le_trans h1le bb.size)
              (try replace h2le:=Nat.le_trans h2le bb.size)
              have G12:=g12n
              refine hK.out _ _ ⟨P.cell,K.cell⟩ (fun hS'=>?_)
              rw [← hg12]
              clear hK K0 hS g12n bb hg12
              have hS:=hS'
              clear hS'
              try simp only [Act.put,zq0,zq1,zq2,zq3,zq4,zq5]
              generalize (v4).alloc (.cells #[.int .u8 0,.int .i64 0,.int .i64 0,.slice none 0 0] 58) = v5 at *
              refine wpAnyH_ready (rs:=[6]) (by kernel_rfl) (by simp) ?_
              refine AllReadyH.cons rfl (fun K0 hK=>?_) AllReadyH.nil
              rw [if_pos (by rfl)]
              have f11:=G11.free
              have c11:=G11.cell
              go_simp
              clear f11 c11
              have hne : g12 ≠ g11:=box_diff G12 G11 (by decide)
              have Q11:=box_self2 G11 (.slice A' ys.length c') (.slice B' gs.length d')
              have Q12:=box_two G12 hne (.slice A' ys.length c') (.slice B' gs.length d')
              have QC:=box_two C (show w.heap.size ≠ g11 by have:=HG11.out;omega) (.slice A' ys.length c') (.slice B' gs.length d')
              have QP:=box_two P (show w.heap.size + 1 ≠ g11 by have:=HG11.out;omega) (.slice A' ys.length c') (.slice B' gs.length d')
              have QO:=box_two O (show w.heap.size + 2 ≠ g11 by have:=HG11.out;omega) (.slice A' ys.length c') (.slice B' gs.length d')
              have QK:=box_two K (show w.heap.size + 3 ≠ g11 by have:=HG11.out;omega) (.slice A' ys.length c') (.slice B' gs.length d')
              have QOY:=rdin_two HOY.out (k:=g11) (fun b hb=>HN11a.out b (by first | exact hb.1 | exact Nat.le_trans HL1.out hb.1) hb.2) (.slice A' ys.length c') (.slice B' gs.length d')
              have QOG:=rdin_two HOG.out (k:=g11) (fun b hb=>HN11a.out b (by first | exact hb.1 | exact Nat.le_trans HL1.out hb.1) hb.2) (.slice A' ys.length c') (.slice B' gs.length d')
              have QOI:=rdin_two HOI.out (k:=g11) (fun b hb=>HN11b.out b (by first | exact hb.1 | exact Nat.le_trans HL2.out hb.1) hb.2) (.slice A' ys.length c') (.slice B' gs.length d')
              have Qt:=below_two t (show w.heap.size ≤ g11 by have:=HG11.out;omega) (.slice A' ys.length c') (.slice B' gs.length d')
              have Qs:=two_size (v5) g11 (.slice A' ys.length c') (.slice B' gs.length d')
              refine hK.out _ _ ⟨QP.cell,QK.cell⟩ (fun hS'=>?_)
              clear hK K0 hS G11 G12 C P O K HOY HOG HOI t
              have hS:=hS'
              clear hS'
              try simp only [Act.put,zq0,zq1,zq2,zq3,zq4,zq5]
              generalize (((v5).setCell ⟨g11,0,none⟩ (.slice A' ys.length c')).setCell ⟨g11,1,none⟩ (.slice B' gs.length d')) = v7 at *
              refine wpAnyH_ready (rs:=[7]) (by kernel_rfl) (by simp) ?_
              refine AllReadyH.cons rfl (fun K0 hK=>?_) AllReadyH.nil
              rw [if_pos (by rfl)]
              have f12:=Q12.free
              have c12:=Q12.cell
              go_simp
              clear f12 c12
              have R12:=box_self4 Q12 (.int .u8 (ki.toNat : Int)) (.int .i64 a) (.int .i64 y) (.slice Dn bs.length dn)
              have R11:=Lib.hid (box_four Q11 (fun e=>hne e.symm) (.int .u8 (ki.toNat : Int)) (.int .i64 a) (.int .i64 y) (.slice Dn bs.length dn))
              have RC:=Lib.hid (box_four QC (show w.heap.size ≠ g12 by have:=HG12.out;omega) (.int .u8 (ki.toNat : Int)) (.int .i64 a) (.int .i64 y) (.slice Dn bs.length dn))
              have RP:=box_four QP (show w.heap.size + 1 ≠ g12 by have:=HG12.out;omega) (.int .u8 (ki.toNat : Int)) (.int .i64 a) (.int .i64 y) (.slice Dn bs.length dn)
              have RO:=Lib.hid (box_four QO (show w.heap.size + 2 ≠ g12 by have:=HG12.out;omega) (.int .u8 (ki.toNat : Int)) (.int .i64 a) (.int .i64 y) (.slice Dn bs.length dn))
              have RK:=box_four QK (show w.heap.size + 3 ≠ g12 by have:=HG12.out;omega) (.int .u8 (ki.toNat : Int)) (.int .i64 a) (.int .i64 y) (.slice Dn bs.length dn)
              have ROY:=Lib.hid (rdin_four QOY (k:=g12) (fun b hb=>HN12a.out b (by first | exact hb.1 | exact Nat.le_trans HL1.out hb.1) hb.2) (.int .u8 (ki.toNat : Int)) (.int .i64 a) (.int .i64 y) (.slice Dn bs.length dn))
              have ROG:=Lib.hid (rdin_four QOG (k:=g12) (fun b hb=>HN12a.out b (by first | exact hb.1 | exact Nat.le_trans HL1.out hb.1) hb.2) (.int .u8 (ki.toNat : Int)) (.int .i64 a) (.int .i64 y) (.slice Dn bs.length dn))
              have ROI:=Lib.hid (rdin_four QOI (k:=g12) (fun b hb=>HN12b.out b (by first | exact hb.1 | exact Nat.le_trans HL2.out hb.1) hb.2) (.int .u8 (ki.toNat : Int)) (.int .i64 a) (.int .i64 y) (.slice Dn bs.length dn))
              have Rt:=Lib.hid (below_four Qt (show w.heap.size ≤ g12 by have:=HG12.out;omega) (.int .u8 (ki.toNat : Int)) (.int .i64 a) (.int .i64 y) (.slice Dn bs.length dn))
              have Rs:=Lib.hid ((four_size v7 g12 (.int .u8 (ki.toNat : Int)) (.int .i64 a) (.int .i64 y) (.slice Dn bs.length dn)).trans Qs)
              have RRP:=Lib.hid RP
              have RRK:=Lib.hid RK
              have RR12:=Lib.hid R12
              refine hK.out _ _ ⟨RP.cell,RK.cell⟩ (fun hS'=>?_)
              clear hK K0 hS hS' QC QP QO QK QOY QOG QOI Qt Qs Q11 Q12 RP RK R12
              try simp only [Act.put,zq0,zq1,zq2,zq3,zq4,zq5]
              refine wpAnyH_done (by kernel_rfl) ?_ _
              have HS1:=Lib.hid h1le
              have HS2:=Lib.hid h2le
              clear h1le h2le hne
              go_wp2_with fail
              go_meet
              exact ⟨g11,g12,A',c',B',d',Dn,dn,rfl,rfl,R11.out,RR12.out,⟨by have:=HG11.out;omega,by have:=HG12.out;omega⟩,ROY.out.mono fun b hb=>⟨by have:=HL1.out;have:=hb.1;omega,by have:=hb.2;have:=HS1.out;have:=Rs.out;omega⟩,ROG.out.mono fun b hb=>⟨by have:=HL1.out;have:=hb.1;omega,by have:=hb.2;have:=HS1.out;have:=Rs.out;omega⟩,ROI.out.mono fun b hb=>⟨by have:=HL2.out;have:=hb.1;omega,by have:=hb.2;have:=HS2.out;have:=Rs.out;omega⟩,Rt.out,RC.out,RRP.out,RO.out,RRK.out⟩
            · rw [if_pos (by rfl)]
              go_simp
              have bb:=Ext.alloc (Below.refl (vd).heap.size (vd)) (.cells #[.int .u8 0,.int .i64 0,.int .i64 0,.slice none 0 0] 58)
              have g12n:=BoxOf.new (vd) #[.int .u8 0,.int .i64 0,.int .i64 0,.slice none 0 0] 58
              obtain ⟨g12,hg12⟩ : ∃ z : Nat,z = (vd).heap.size:=⟨_,rfl⟩
              (try have HN12a : Hid (∀ b,w.heap.size ≤ b → b < vb.heap.size → b ≠ g12):=fun b _ h2=>ne_past (Nat.le_trans h1le (Nat.le_of_eq hg12.symm)) h2)
              (try have HN12b : Hid (∀ b,w.heap.size ≤ b → b < vd.heap.size → b ≠ g12):=fun b _ h2=>ne_past (Nat.le_trans h2le (Nat.le_of_eq hg12.symm)) h2)
              have HG12 : Hid (w.heap.size + 4 ≤ g12):=by have:=K.lt;show _ ≤ _;omega
              rw [← hg12] at g12n
              replace t:=Ext.trans t bb
              replace P:=P.next bb
              replace K:=K.next bb
              replace C:=C.next bb
              replace O:=O.next bb
              (try replace G11:=G11.next bb)
              (try replace G12:=G12.next bb)
              (try replace HOY:=Lib.hid (HOY.out.below bb))
              (try replace HOG:=Lib.hid (HOG.out.below bb))
              (try replace HOI:=Lib.hid (HOI.out.below bb))
              (try replace h1le:=Nat.le_trans h1le bb.size)
              (try replace h2le:=Nat.le_trans h2le bb.size)
              have G12:=g12n
              refine hK.out _ _ ⟨P.cell,K.cell⟩ (fun hS'=>?_)
              rw [← hg12]
              clear hK K0 hS g12n bb hg12
              have hS:=hS'
              clear hS'
              try simp only [Act.put,zq0,zq1,zq2,zq3,zq4,zq5]
              generalize (vd).alloc (.cells #[.int .u8 0,.int .i64 0,.int .i64 0,.slice none 0 0] 58) = v5 at *
              refine wpAnyH_ready (rs:=[4]) (by kernel_rfl) (by simp) ?_
              refine AllReadyH.cons rfl (fun K0 hK=>?_) AllReadyH.nil
              rw [if_pos (by rfl)]
              go_simp
              have bb:=Ext.alloc (Below.refl (v5).heap.size (v5)) (.cells #[.slice none 0 0,.slice none 0 0] 28)
              have g11n:=BoxOf.new (v5) #[.slice none 0 0,.slice none 0 0] 28
              obtain ⟨g11,hg11⟩ : ∃ z : Nat,z = (v5).heap.size:=⟨_,rfl⟩
              (try have HN11a : Hid (∀ b,w.heap.size ≤ b → b < vb.heap.size → b ≠ g11):=fun b _ h2=>ne_past (Nat.le_trans h1le (Nat.le_of_eq hg11.symm)) h2)
              (try have HN11b : Hid (∀ b,w.heap.size ≤ b → b < vd.heap.size → b ≠ g11):=fun b _ h2=>ne_past (Nat.le_trans h2le (Nat.le_of_eq hg11.symm)) h2)
              have HG11 : Hid (w.heap.size + 4 ≤ g11):=by have:=K.lt;show _ ≤ _;omega
              rw [← hg11] at g11n
              replace t:=Ext.trans t bb
              replace P:=P.next bb
              replace K:=K.next bb
              replace C:=C.next bb
              replace O:=O.next bb
              (try replace G11:=G11.next bb)
              (try replace G12:=G12.next bb)
              (try replace HOY:=Lib.hid (HOY.out.below bb))
              (try replace HOG:=Lib.hid (HOG.out.below bb))
              (try replace HOI:=Lib.hid (HOI.out.below bb))
              (try replace h1le:=Nat.le_trans h1le bb.size)
              (try replace h2le:=Nat.le_trans h2le bb.size)
              have G11:=g11n
              refine hK.out _ _ ⟨P.cell,K.cell⟩ (fun hS'=>?_)
              rw [← hg11]
              clear hK K0 hS g11n bb hg11
              have hS:=hS'
              clear hS'
              try simp only [Act.put,zq0,zq1,zq2,zq3,zq4,zq5]
              generalize (v5).alloc (.cells #[.slice none 0 0,.slice none 0 0] 28) = v4 at *
              refine wpAnyH_ready (rs:=[6]) (by kernel_rfl) (by simp) ?_
              refine AllReadyH.cons rfl (fun K0 hK=>?_) AllReadyH.nil
              rw [if_pos (by rfl)]
              have f11:=G11.free
              have c11:=G11.cell
              go_simp
              clear f11 c11
              have hne : g12 ≠ g11:=box_diff G12 G11 (by decide)
              have Q11:=box_self2 G11 (.slice A' ys.length c') (.slice B' gs.length d')
              have Q12:=box_two G12 hne (.slice A' ys.length c') (.slice B' gs.length d')
              have QC:=box_two C (show w.heap.size ≠ g11 by have:=HG11.out;omega) (.slice A' ys.length c') (.slice B' gs.length d')
              have QP:=box_two P (show w.heap.size + 1 ≠ g11 by have:=HG11.out;omega) (.slice A' ys.length c') (.slice B' gs.length d')
              have QO:=box_two O (show w.heap.size + 2 ≠ g11 by have:=HG11.out;omega) (.slice A' ys.length c') (.slice B' gs.length d')
              have QK:=box_two K (show w.heap.size + 3 ≠ g11 by have:=HG11.out;omega) (.slice A' ys.length c') (.slice B' gs.length d')
              have QOY:=rdin_two HOY.out (k:=g11) (fun b hb=>HN11a.out b (by first | exact hb.1 | exact Nat.le_trans HL1.out hb.1) hb.2) (.slice A' ys.length c') (.slice B' gs.length d')
              have QOG:=rdin_two HOG.out (k:=g11) (fun b hb=>HN11a.out b (by first | exact hb.1 | exact Nat.le_trans HL1.out hb.1) hb.2) (.slice A' ys.length c') (.slice B' gs.length d')
              have QOI:=rdin_two HOI.out (k:=g11) (fun b hb=>HN11b.out b (by first | exact hb.1 | exact Nat.le_trans HL2.out hb.1) hb.2) (.slice A' ys.length c') (.slice B' gs.length d')
              have Qt:=below_two t (show w.heap.size ≤ g11 by have:=HG11.out;omega) (.slice A' ys.length c') (.slice B' gs.length d')
              have Qs:=two_size (v4) g11 (.slice A' ys.length c') (.slice B' gs.length d')
              refine hK.out _ _ ⟨QP.cell,QK.cell⟩ (fun hS'=>?_)
              clear hK K0 hS G11 G12 C P O K HOY HOG HOI t
              have hS:=hS'
              clear hS'
              try simp only [Act.put,zq0,zq1,zq2,zq3,zq4,zq5]
              generalize (((v4).setCell ⟨g11,0,none⟩ (.slice A' ys.length c')).setCell ⟨g11,1,none⟩ (.slice B' gs.length d')) = v7 at *
              refine wpAnyH_ready (rs:=[7]) (by kernel_rfl) (by simp) ?_
              refine AllReadyH.cons rfl (fun K0 hK=>?_) AllReadyH.nil
              rw [if_pos (by rfl)]
              have f12:=Q12.free
              have c12:=Q12.cell
              go_simp
              clear f12 c12
              have R12:=box_self4 Q12 (.int .u8 (ki.toNat : Int)) (.int .i64 a) (.int .i64 y) (.slice Dn bs.length dn)
              have R11:=Lib.hid (box_four Q11 (fun e=>hne e.symm) (.int .u8 (ki.toNat : Int)) (.int .i64 a) (.int .i64 y) (.slice Dn bs.length dn))
              have RC:=Lib.hid (box_four QC (show w.heap.size ≠ g12 by have:=HG12.out;omega) (.int .u8 (ki.toNat : Int)) (.int .i64 a) (.int .i64 y) (.slice Dn bs.length dn))
              have RP:=box_four QP (show w.heap.size + 1 ≠ g12 by have:=HG12.out;omega) (.int .u8 (ki.toNat : Int)) (.int .i64 a) (.int .i64 y) (.slice Dn bs.length dn)
              have RO:=Lib.hid (box_four QO (show w.heap.size + 2 ≠ g12 by have:=HG12.out;omega) (.int .u8 (ki.toNat : Int)) (.int .i64 a) (.int .i64 y) (.slice Dn bs.length dn))
              have RK:=box_four QK (show w.heap.size + 3 ≠ g12 by have:=HG12.out;omega) (.int .u8 (ki.toNat : Int)) (.int .i64 a) (.int .i64 y) (.slice Dn bs.length dn)
              have ROY:=Lib.hid (rdin_four QOY (k:=g12) (fun b hb=>HN12a.out b (by first | exact hb.1 | exact Nat.le_trans HL1.out hb.1) hb.2) (.int .u8 (ki.toNat : Int)) (.int .i64 a) (.int .i64 y) (.slice Dn bs.length dn))
              have ROG:=Lib.hid (rdin_four QOG (k:=g12) (fun b hb=>HN12a.out b (by first | exact hb.1 | exact Nat.le_trans HL1.out hb.1) hb.2) (.int .u8 (ki.toNat : Int)) (.int .i64 a) (.int .i64 y) (.slice Dn bs.length dn))
              have ROI:=Lib.hid (rdin_four QOI (k:=g12) (fun b hb=>HN12b.out b (by first | exact hb.1 | exact Nat.le_trans HL2.out hb.1) hb.2) (.int .u8 (ki.toNat : Int)) (.int .i64 a) (.int .i64 y) (.slice Dn bs.length dn))
              have Rt:=Lib.hid (below_four Qt (show w.heap.size ≤ g12 by have:=HG12.out;omega) (.int .u8 (ki.toNat : Int)) (.int .i64 a) (.int .i64 y) (.slice Dn bs.length dn))
              have Rs:=Lib.hid ((four_size v7 g12 (.int .u8 (ki.toNat : Int)) (.int .i64 a) (.int .i64 y) (.slice Dn bs.length dn)).trans Qs)
              have RRP:=Lib.hid RP
              have RRK:=Lib.hid RK
              have RR12:=Lib.hid R12
              refine hK.out _ _ ⟨RP.cell,RK.cell⟩ (fun hS'=>?_)
              clear hK K0 hS hS' QC QP QO QK QOY QOG QOI Qt Qs Q11 Q12 RP RK R12
              try simp only [Act.put,zq0,zq1,zq2,zq3,zq4,zq5]
              refine wpAnyH_done (by kernel_rfl) ?_ _
              have HS1:=Lib.hid h1le
              have HS2:=Lib.hid h2le
              clear h1le h2le hne
              go_wp2_with fail
              go_meet
              exact ⟨g11,g12,A',c',B',d',Dn,dn,rfl,rfl,R11.out,RR12.out,⟨by have:=HG11.out;omega,by have:=HG12.out;omega⟩,ROY.out.mono fun b hb=>⟨by have:=HL1.out;have:=hb.1;omega,by have:=hb.2;have:=HS1.out;have:=Rs.out;omega⟩,ROG.out.mono fun b hb=>⟨by have:=HL1.out;have:=hb.1;omega,by have:=hb.2;have:=HS1.out;have:=Rs.out;omega⟩,ROI.out.mono fun b hb=>⟨by have:=HL2.out;have:=hb.1;omega,by have:=hb.2;have:=HS2.out;have:=Rs.out;omega⟩,Rt.out,RC.out,RRP.out,RO.out,RRK.out⟩
          · rw [if_pos (by rfl)]
            go_simp
            have bb:=Ext.alloc (Below.refl (vb).heap.size (vb)) (.cells #[.slice none 0 0,.slice none 0 0] 28)
            have g11n:=BoxOf.new (vb) #[.slice none 0 0,.slice none 0 0] 28
            obtain ⟨g11,hg11⟩ : ∃ z : Nat,z = (vb).heap.size:=⟨_,rfl⟩
            (try have HN11a : Hid (∀ b,w.heap.size ≤ b → b < vb.heap.size → b ≠ g11):=fun b _ h2=>ne_past (Nat.le_trans h1le (Nat.le_of_eq hg11.symm)) h2)
            (try have HN11b : Hid (∀ b,w.heap.size ≤ b → b < vd.heap.size → b ≠ g11):=fun b _ h2=>ne_past (Nat.le_trans h2le (Nat.le_of_eq hg11.symm)) h2)
            have HG11 : Hid (w.heap.size + 4 ≤ g11):=by have:=K.lt;show _ ≤ _;omega
            rw [← hg11] at g11n
            replace t:=Ext.trans t bb
            replace P:=P.next bb
            replace K:=K.next bb
            replace C:=C.next bb
            replace O:=O.next bb
            (try replace G11:=G11.next bb)
            (try replace G12:=G12.next bb)
            (try replace HOY:=Lib.hid (HOY.out.below bb))
            (try replace HOG:=Lib.hid (HOG.out.below bb))
            (try replace HOI:=Lib.hid (HOI.out.below bb))
            (try replace h1le:=Nat.le_trans h1le bb.size)
            (try replace h2le:=Nat.le_trans h2le bb.size)
            have G11:=g11n
            refine hK.out _ _ ⟨P.cell,K.cell⟩ (fun hS'=>?_)
            rw [← hg11]
            clear hK K0 hS g11n bb hg11
            have hS:=hS'
            clear hS'
            try simp only [Act.put,zq0,zq1,zq2,zq3,zq4,zq5]
            generalize (vb).alloc (.cells #[.slice none 0 0,.slice none 0 0] 28) = v4 at *
            refine wpAnyH_ready (rs:=[3,5]) (by kernel_rfl) (by simp) ?_
            refine (AllReadyH.cons rfl (fun K0 hK=>?_) (AllReadyH.cons rfl (fun K0 hK=>?_) AllReadyH.nil))
            · rw [if_pos (by rfl)]
              go_simp
              refine (rasktwin_any _ ki a y bs D dc v4 (HD.out.below t)).mono ?_
              rintro e vd ⟨Dn,dn,rfl,ri,bb⟩
              (try have HN11b : Hid (∀ b,(v4).heap.size ≤ b → b < vd.heap.size → b ≠ g11):=fun b h1 _=>ne_before G11.lt h1)
              (try have HN12b : Hid (∀ b,(v4).heap.size ≤ b → b < vd.heap.size → b ≠ g12):=fun b h1 _=>ne_before G12.lt h1)
              have HL2 : Hid (w.heap.size ≤ (v4).heap.size):=t.size
              replace t:=Ext.trans t bb
              replace P:=P.next bb
              replace K:=K.next bb
              replace C:=C.next bb
              replace O:=O.next bb
              (try replace G11:=G11.next bb)
              (try replace G12:=G12.next bb)
              (try replace HOY:=Lib.hid (HOY.out.below bb))
              (try replace HOG:=Lib.hid (HOG.out.below bb))
              (try replace HOI:=Lib.hid (HOI.out.below bb))
              (try replace h1le:=Nat.le_trans h1le bb.size)
              (try replace h2le:=Nat.le_trans h2le bb.size)
              have HOI : Hid (RdIn vd (fun b=>(v4).heap.size ≤ b ∧ b < vd.heap.size) (.sl .byte) bs [.slice Dn bs.length dn]):=ri.mono fun b hb=>⟨hb.1,hb.2.1⟩
              have h2le:=Nat.le_refl vd.heap.size
              clear ri bb
              refine hK.out _ _ ⟨P.cell,K.cell⟩ (fun hS'=>?_)
              clear hK K0 hS
              have hS:=hS'
              clear hS'
              try simp only [Act.put,zq0,zq1,zq2,zq3,zq4,zq5]
              refine wpAnyH_ready (rs:=[5]) (by kernel_rfl) (by simp) ?_
              refine AllReadyH.cons rfl (fun K0 hK=>?_) AllReadyH.nil
              rw [if_pos (by rfl)]
              go_simp
              have bb:=Ext.alloc (Below.refl (vd).heap.size (vd)) (.cells #[.int .u8 0,.int .i64 0,.int .i64 0,.slice none 0 0] 58)
              have g12n:=BoxOf.new (vd) #[.int .u8 0,.int .i64 0,.int .i64 0,.slice none 0 0] 58
              obtain ⟨g12,hg12⟩ : ∃ z : Nat,z = (vd).heap.size:=⟨_,rfl⟩
              (try have HN12a : Hid (∀ b,w.heap.size ≤ b → b < vb.heap.size → b ≠ g12):=fun b _ h2=>ne_past (Nat.le_trans h1le (Nat.le_of_eq hg12.symm)) h2)
              (try have HN12b : Hid (∀ b,w.heap.size ≤ b → b < vd.heap.size → b ≠ g12):=fun b _ h2=>ne_past (Nat.le_trans h2le (Nat.le_of_eq hg12.symm)) h2)
              have HG12 : Hid (w.heap.size + 4 ≤ g12):=by have:=K.lt;show _ ≤ _;omega
              rw [← hg12] at g12n
              replace t:=Ext.trans t bb
              replace P:=P.next bb
              replace K:=K.next bb
              replace C:=C.next bb
              replace O:=O.next bb
              (try replace G11:=G11.next bb)
              (try replace G12:=G12.next bb)
              (try replace HOY:=Lib.hid (HOY.out.below bb))
              (try replace HOG:=Lib.hid (HOG.out.below bb))
              (try replace HOI:=Lib.hid (HOI.out.below bb))
              (try replace h1le:=Nat.le_trans h1le bb.size)
              (try replace h2le:=Nat.le_trans h2le bb.size)
              have G12:=g12n
              refine hK.out _ _ ⟨P.cell,K.cell⟩ (fun hS'=>?_)
              rw [← hg12]
              clear hK K0 hS g12n bb hg12
              have hS:=hS'
              clear hS'
              try simp only [Act.put,zq0,zq1,zq2,zq3,zq4,zq5]
              generalize (vd).alloc (.cells #[.int .u8 0,.int .i64 0,.int .i64 0,.slice none 0 0] 58) = v5 at *
              refine wpAnyH_ready (rs:=[6]) (by kernel_rfl) (by simp) ?_
              refine AllReadyH.cons rfl (fun K0 hK=>?_) AllReadyH.nil
              rw [if_pos (by rfl)]
              have f11:=G11.free
              have c11:=G11.cell
              go_simp
              clear f11 c11
              have hne : g12 ≠ g11:=box_diff G12 G11 (by decide)
              have Q11:=box_self2 G11 (.slice A' ys.length c') (.slice B' gs.length d')
              have Q12:=box_two G12 hne (.slice A' ys.length c') (.slice B' gs.length d')
              have QC:=box_two C (show w.heap.size ≠ g11 by have:=HG11.out;omega) (.slice A' ys.length c') (.slice B' gs.length d')
              have QP:=box_two P (show w.heap.size + 1 ≠ g11 by have:=HG11.out;omega) (.slice A' ys.length c') (.slice B' gs.length d')
              have QO:=box_two O (show w.heap.size + 2 ≠ g11 by have:=HG11.out;omega) (.slice A' ys.length c') (.slice B' gs.length d')
              have QK:=box_two K (show w.heap.size + 3 ≠ g11 by have:=HG11.out;omega) (.slice A' ys.length c') (.slice B' gs.length d')
              have QOY:=rdin_two HOY.out (k:=g11) (fun b hb=>HN11a.out b (by first | exact hb.1 | exact Nat.le_trans HL1.out hb.1) hb.2) (.slice A' ys.length c') (.slice B' gs.length d')
              have QOG:=rdin_two HOG.out (k:=g11) (fun b hb=>HN11a.out b (by first | exact hb.1 | exact Nat.le_trans HL1.out hb.1) hb.2) (.slice A' ys.length c') (.slice B' gs.length d')
              have QOI:=rdin_two HOI.out (k:=g11) (fun b hb=>HN11b.out b (by first | exact hb.1 | exact Nat.le_trans HL2.out hb.1) hb.2) (.slice A' ys.length c') (.slice B' gs.length d')
              have Qt:=below_two t (show w.heap.size ≤ g11 by have:=HG11.out;omega) (.slice A' ys.length c') (.slice B' gs.length d')
              have Qs:=two_size (v5) g11 (.slice A' ys.length c') (.slice B' gs.length d')
              refine hK.out _ _ ⟨QP.cell,QK.cell⟩ (fun hS'=>?_)
              clear hK K0 hS G11 G12 C P O K HOY HOG HOI t
              have hS:=hS'
              clear hS'
              try simp only [Act.put,zq0,zq1,zq2,zq3,zq4,zq5]
              generalize (((v5).setCell ⟨g11,0,none⟩ (.slice A' ys.length c')).setCell ⟨g11,1,none⟩ (.slice B' gs.length d')) = v7 at *
              refine wpAnyH_ready (rs:=[7]) (by kernel_rfl) (by simp) ?_
              refine AllReadyH.cons rfl (fun K0 hK=>?_) AllReadyH.nil
              rw [if_pos (by rfl)]
              have f12:=Q12.free
              have c12:=Q12.cell
              go_simp
              clear f12 c12
              have R12:=box_self4 Q12 (.int .u8 (ki.toNat : Int)) (.int .i64 a) (.int .i64 y) (.slice Dn bs.length dn)
              have R11:=Lib.hid (box_four Q11 (fun e=>hne e.symm) (.int .u8 (ki.toNat : Int)) (.int .i64 a) (.int .i64 y) (.slice Dn bs.length dn))
              have RC:=Lib.hid (box_four QC (show w.heap.size ≠ g12 by have:=HG12.out;omega) (.int .u8 (ki.toNat : Int)) (.int .i64 a) (.int .i64 y) (.slice Dn bs.length dn))
              have RP:=box_four QP (show w.heap.size + 1 ≠ g12 by have:=HG12.out;omega) (.int .u8 (ki.toNat : Int)) (.int .i64 a) (.int .i64 y) (.slice Dn bs.length dn)
              have RO:=Lib.hid (box_four QO (show w.heap.size + 2 ≠ g12 by have:=HG12.out;omega) (.int .u8 (ki.toNat : Int)) (.int .i64 a) (.int .i64 y) (.slice Dn bs.length dn))
              have RK:=box_four QK (show w.heap.size + 3 ≠ g12 by have:=HG12.out;omega) (.int .u8 (ki.toNat : Int)) (.int .i64 a) (.int .i64 y) (.slice Dn bs.length dn)
              have ROY:=Lib.hid (rdin_four QOY (k:=g12) (fun b hb=>HN12a.out b (by first | exact hb.1 | exact Nat.le_trans HL1.out hb.1) hb.2) (.int .u8 (ki.toNat : Int)) (.int .i64 a) (.int .i64 y) (.slice Dn bs.length dn))
              have ROG:=Lib.hid (rdin_four QOG (k:=g12) (fun b hb=>HN12a.out b (by first | exact hb.1 | exact Nat.le_trans HL1.out hb.1) hb.2) (.int .u8 (ki.toNat : Int)) (.int .i64 a) (.int .i64 y) (.slice Dn bs.length dn))
              have ROI:=Lib.hid (rdin_four QOI (k:=g12) (fun b hb=>HN12b.out b (by first | exact hb.1 | exact Nat.le_trans HL2.out hb.1) hb.2) (.int .u8 (ki.toNat : Int)) (.int .i64 a) (.int .i64 y) (.slice Dn bs.length dn))
              have Rt:=Lib.hid (below_four Qt (show w.heap.size ≤ g12 by have:=HG12.out;omega) (.int .u8 (ki.toNat : Int)) (.int .i64 a) (.int .i64 y) (.slice Dn bs.length dn))
              have Rs:=Lib.hid ((four_size v7 g12 (.int .u8 (ki.toNat : Int)) (.int .i64 a) (.int .i64 y) (.slice Dn bs.length dn)).trans Qs)
              have RRP:=Lib.hid RP
              have RRK:=Lib.hid RK
              have RR12:=Lib.hid R12
              refine hK.out _ _ ⟨RP.cell,RK.cell⟩ (fun hS'=>?_)
              clear hK K0 hS hS' QC QP QO QK QOY QOG QOI Qt Qs Q11 Q12 RP RK R12
              try simp only [Act.put,zq0,zq1,zq2,zq3,zq4,zq5]
              refine wpAnyH_done (by kernel_rfl) ?_ _
              have HS1:=Lib.hid h1le
              have HS2:=Lib.hid h2le
              clear h1le h2le hne
              go_wp2_with fail
              go_meet
              exact ⟨g11,g12,A',c',B',d',Dn,dn,rfl,rfl,R11.out,RR12.out,⟨by have:=HG11.out;omega,by have:=HG12.out;omega⟩,ROY.out.mono fun b hb=>⟨by have:=HL1.out;have:=hb.1;omega,by have:=hb.2;have:=HS1.out;have:=Rs.out;omega⟩,ROG.out.mono fun b hb=>⟨by have:=HL1.out;have:=hb.1;omega,by have:=hb.2;have:=HS1.out;have:=Rs.out;omega⟩,ROI.out.mono fun b hb=>⟨by have:=HL2.out;have:=hb.1;omega,by have:=hb.2;have:=HS2.out;have:=Rs.out;omega⟩,Rt.out,RC.out,RRP.out,RO.out,RRK.out⟩
            · rw [if_pos (by rfl)]
              go_simp
              have bb:=Ext.alloc (Below.refl (v4).heap.size (v4)) (.cells #[.int .u8 0,.int .i64 0,.int .i64 0,.slice none 0 0] 58)
              have g12n:=BoxOf.new (v4) #[.int .u8 0,.int .i64 0,.int .i64 0,.slice none 0 0] 58
              obtain ⟨g12,hg12⟩ : ∃ z : Nat,z = (v4).heap.size:=⟨_,rfl⟩
              (try have HN12a : Hid (∀ b,w.heap.size ≤ b → b < vb.heap.size → b ≠ g12):=fun b _ h2=>ne_past (Nat.le_trans h1le (Nat.le_of_eq hg12.symm)) h2)
              (try have HN12b : Hid (∀ b,w.heap.size ≤ b → b < vd.heap.size → b ≠ g12):=fun b _ h2=>ne_past (Nat.le_trans h2le (Nat.le_of_eq hg12.symm)) h2)
              have HG12 : Hid (w.heap.size + 4 ≤ g12):=by have:=K.lt;show _ ≤ _;omega
              rw [← hg12] at g12n
              replace t:=Ext.trans t bb
              replace P:=P.next bb
              replace K:=K.next bb
              replace C:=C.next bb
              replace O:=O.next bb
              (try replace G11:=G11.next bb)
              (try replace G12:=G12.next bb)
              (try replace HOY:=Lib.hid (HOY.out.below bb))
              (try replace HOG:=Lib.hid (HOG.out.below bb))
              (try replace HOI:=Lib.hid (HOI.out.below bb))
              (try replace h1le:=Nat.le_trans h1le bb.size)
              (try replace h2le:=Nat.le_trans h2le bb.size)
              have G12:=g12n
              refine hK.out _ _ ⟨P.cell,K.cell⟩ (fun hS'=>?_)
              rw [← hg12]
              clear hK K0 hS g12n bb hg12
              have hS:=hS'
              clear hS'
              try simp only [Act.put,zq0,zq1,zq2,zq3,zq4,zq5]
              generalize (v4).alloc (.cells #[.int .u8 0,.int .i64 0,.int .i64 0,.slice none 0 0] 58) = v5 at *
              refine wpAnyH_ready (rs:=[3]) (by kernel_rfl) (by simp) ?_
              refine AllReadyH.cons rfl (fun K0 hK=>?_) AllReadyH.nil
              rw [if_pos (by rfl)]
              go_simp
              refine (rasktwin_any _ ki a y bs D dc v5 (HD.out.below t)).mono ?_
              rintro e vd ⟨Dn,dn,rfl,ri,bb⟩
              (try have HN11b : Hid (∀ b,(v5).heap.size ≤ b → b < vd.heap.size → b ≠ g11):=fun b h1 _=>ne_before G11.lt h1)
              (try have HN12b : Hid (∀ b,(v5).heap.size ≤ b → b < vd.heap.size → b ≠ g12):=fun b h1 _=>ne_before G12.lt h1)
              have HL2 : Hid (w.heap.size ≤ (v5).heap.size):=t.size
              replace t:=Ext.trans t bb
              replace P:=P.next bb
              replace K:=K.next bb
              replace C:=C.next bb
              replace O:=O.next bb
              (try replace G11:=G11.next bb)
              (try replace G12:=G12.next bb)
              (try replace HOY:=Lib.hid (HOY.out.below bb))
              (try replace HOG:=Lib.hid (HOG.out.below bb))
              (try replace HOI:=Lib.hid (HOI.out.below bb))
              (try replace h1le:=Nat.le_trans h1le bb.size)
              (try replace h2le:=Nat.le_trans h2le bb.size)
              have HOI : Hid (RdIn vd (fun b=>(v5).heap.size ≤ b ∧ b < vd.heap.size) (.sl .byte) bs [.slice Dn bs.length dn]):=ri.mono fun b hb=>⟨hb.1,hb.2.1⟩
              have h2le:=Nat.le_refl vd.heap.size
              clear ri bb
              refine hK.out _ _ ⟨P.cell,K.cell⟩ (fun hS'=>?_)
              clear hK K0 hS
              have hS:=hS'
              clear hS'
              try simp only [Act.put,zq0,zq1,zq2,zq3,zq4,zq5]
              refine wpAnyH_ready (rs:=[6]) (by kernel_rfl) (by simp) ?_
              refine AllReadyH.cons rfl (fun K0 hK=>?_) AllReadyH.nil
              rw [if_pos (by rfl)]
              have f11:=G11.free
              have c11:=G11.cell
              go_simp
              clear f11 c11
              have hne : g12 ≠ g11:=box_diff G12 G11 (by decide)
              have Q11:=box_self2 G11 (.slice A' ys.length c') (.slice B' gs.length d')
              have Q12:=box_two G12 hne (.slice A' ys.length c') (.slice B' gs.length d')
              have QC:=box_two C (show w.heap.size ≠ g11 by have:=HG11.out;omega) (.slice A' ys.length c') (.slice B' gs.length d')
              have QP:=box_two P (show w.heap.size + 1 ≠ g11 by have:=HG11.out;omega) (.slice A' ys.length c') (.slice B' gs.length d')
              have QO:=box_two O (show w.heap.size + 2 ≠ g11 by have:=HG11.out;omega) (.slice A' ys.length c') (.slice B' gs.length d')
              have QK:=box_two K (show w.heap.size + 3 ≠ g11 by have:=HG11.out;omega) (.slice A' ys.length c') (.slice B' gs.length d')
              have QOY:=rdin_two HOY.out (k:=g11) (fun b hb=>HN11a.out b (by first | exact hb.1 | exact Nat.le_trans HL1.out hb.1) hb.2) (.slice A' ys.length c') (.slice B' gs.length d')
              have QOG:=rdin_two HOG.out (k:=g11) (fun b hb=>HN11a.out b (by first | exact hb.1 | exact Nat.le_trans HL1.out hb.1) hb.2) (.slice A' ys.length c') (.slice B' gs.length d')
              have QOI:=rdin_two HOI.out (k:=g11) (fun b hb=>HN11b.out b (by first | exact hb.1 | exact Nat.le_trans HL2.out hb.1) hb.2) (.slice A' ys.length c') (.slice B' gs.length d')
              have Qt:=below_two t (show w.heap.size ≤ g11 by have:=HG11.out;omega) (.slice A' ys.length c') (.slice B' gs.length d')
              have Qs:=two_size (vd) g11 (.slice A' ys.length c') (.slice B' gs.length d')
              refine hK.out _ _ ⟨QP.cell,QK.cell⟩ (fun hS'=>?_)
              clear hK K0 hS G11 G12 C P O K HOY HOG HOI t
              have hS:=hS'
              clear hS'
              try simp only [Act.put,zq0,zq1,zq2,zq3,zq4,zq5]
              generalize (((vd).setCell ⟨g11,0,none⟩ (.slice A' ys.length c')).setCell ⟨g11,1,none⟩ (.slice B' gs.length d')) = v7 at *
              refine wpAnyH_ready (rs:=[7]) (by kernel_rfl) (by simp) ?_
              refine AllReadyH.cons rfl (fun K0 hK=>?_) AllReadyH.nil
              rw [if_pos (by rfl)]
              have f12:=Q12.free
              have c12:=Q12.cell
              go_simp
              clear f12 c12
              have R12:=box_self4 Q12 (.int .u8 (ki.toNat : Int)) (.int .i64 a) (.int .i64 y) (.slice Dn bs.length dn)
              have R11:=Lib.hid (box_four Q11 (fun e=>hne e.symm) (.int .u8 (ki.toNat : Int)) (.int .i64 a) (.int .i64 y) (.slice Dn bs.length dn))
              have RC:=Lib.hid (box_four QC (show w.heap.size ≠ g12 by have:=HG12.out;omega) (.int .u8 (ki.toNat : Int)) (.int .i64 a) (.int .i64 y) (.slice Dn bs.length dn))
              have RP:=box_four QP (show w.heap.size + 1 ≠ g12 by have:=HG12.out;omega) (.int .u8 (ki.toNat : Int)) (.int .i64 a) (.int .i64 y) (.slice Dn bs.length dn)
              have RO:=Lib.hid (box_four QO (show w.heap.size + 2 ≠ g12 by have:=HG12.out;omega) (.int .u8 (ki.toNat : Int)) (.int .i64 a) (.int .i64 y) (.slice Dn bs.length dn))
              have RK:=box_four QK (show w.heap.size + 3 ≠ g12 by have:=HG12.out;omega) (.int .u8 (ki.toNat : Int)) (.int .i64 a) (.int .i64 y) (.slice Dn bs.length dn)
              have ROY:=Lib.hid (rdin_four QOY (k:=g12) (fun b hb=>HN12a.out b (by first | exact hb.1 | exact Nat.le_trans HL1.out hb.1) hb.2) (.int .u8 (ki.toNat : Int)) (.int .i64 a) (.int .i64 y) (.slice Dn bs.length dn))
              have ROG:=Lib.hid (rdin_four QOG (k:=g12) (fun b hb=>HN12a.out b (by first | exact hb.1 | exact Nat.le_trans HL1.out hb.1) hb.2) (.int .u8 (ki.toNat : Int)) (.int .i64 a) (.int .i64 y) (.slice Dn bs.length dn))
              have ROI:=Lib.hid (rdin_four QOI (k:=g12) (fun b hb=>HN12b.out b (by first | exact hb.1 | exact Nat.le_trans HL2.out hb.1) hb.2) (.int .u8 (ki.toNat : Int)) (.int .i64 a) (.int .i64 y) (.slice Dn bs.length dn))
              have Rt:=Lib.hid (below_four Qt (show w.heap.size ≤ g12 by have:=HG12.out;omega) (.int .u8 (ki.toNat : Int)) (.int .i64 a) (.int .i64 y) (.slice Dn bs.length dn))
              have Rs:=Lib.hid ((four_size v7 g12 (.int .u8 (ki.toNat : Int)) (.int .i64 a) (.int .i64 y) (.slice Dn bs.length dn)).trans Qs)
              have RRP:=Lib.hid RP
              have RRK:=Lib.hid RK
              have RR12:=Lib.hid R12
              refine hK.out _ _ ⟨RP.cell,RK.cell⟩ (fun hS'=>?_)
              clear hK K0 hS hS' QC QP QO QK QOY QOG QOI Qt Qs Q11 Q12 RP RK R12
              try simp only [Act.put,zq0,zq1,zq2,zq3,zq4,zq5]
              refine wpAnyH_done (by kernel_rfl) ?_ _
              have HS1:=Lib.hid h1le
              have HS2:=Lib.hid h2le
              clear h1le h2le hne
              go_wp2_with fail
              go_meet
              exact ⟨g11,g12,A',c',B',d',Dn,dn,rfl,rfl,R11.out,RR12.out,⟨by have:=HG11.out;omega,by have:=HG12.out;omega⟩,ROY.out.mono fun b hb=>⟨by have:=HL1.out;have:=hb.1;omega,by have:=hb.2;have:=HS1.out;have:=Rs.out;omega⟩,ROG.out.mono fun b hb=>⟨by have:=HL1.out;have:=hb.1;omega,by have:=hb.2;have:=HS1.out;have:=Rs.out;omega⟩,ROI.out.mono fun b hb=>⟨by have:=HL2.out;have:=hb.1;omega,by have:=hb.2;have:=HS2.out;have:=Rs.out;omega⟩,Rt.out,RC.out,RRP.out,RO.out,RRK.out⟩
          · rw [if_pos (by rfl)]
            go_simp
            have bb:=Ext.alloc (Below.refl (vb).heap.size (vb)) (.cells #[.int .u8 0,.int .i64 0,.int .i64 0,.slice none 0 0] 58)
            have g12n:=BoxOf.new (vb) #[.int .u8 0,.int .i64 0,.int .i64 0,.slice none 0 0] 58
            obtain ⟨g12,hg12⟩ : ∃ z : Nat,z = (vb).heap.size:=⟨_,rfl⟩
            (try have HN12a : Hid (∀ b,w.heap.size ≤ b → b < vb.heap.size → b ≠ g12):=fun b _ h2=>ne_past (Nat.le_trans h1le (Nat.le_of_eq hg12.symm)) h2)
            (try have HN12b : Hid (∀ b,w.heap.size ≤ b → b < vd.heap.size → b ≠ g12):=fun b _ h2=>ne_past (Nat.le_trans h2le (Nat.le_of_eq hg12.symm)) h2)
            have HG12 : Hid (w.heap.size + 4 ≤ g12):=by have:=K.lt;show _ ≤ _;omega
            rw [← hg12] at g12n
            replace t:=Ext.trans t bb
            replace P:=P.next bb
            replace K:=K.next bb
            replace C:=C.next bb
            replace O:=O.next bb
            (try replace G11:=G11.next bb)
            (try replace G12:=G12.next bb)
            (try replace HOY:=Lib.hid (HOY.out.below bb))
            (try replace HOG:=Lib.hid (HOG.out.below bb))
            (try replace HOI:=Lib.hid (HOI.out.below bb))
            (try replace h1le:=Nat.le_trans h1le bb.size)
            (try replace h2le:=Nat.le_trans h2le bb.size)
            have G12:=g12n
            refine hK.out _ _ ⟨P.cell,K.cell⟩ (fun hS'=>?_)
            rw [← hg12]
            clear hK K0 hS g12n bb hg12
            have hS:=hS'
            clear hS'
            try simp only [Act.put,zq0,zq1,zq2,zq3,zq4,zq5]
            generalize (vb).alloc (.cells #[.int .u8 0,.int .i64 0,.int .i64 0,.slice none 0 0] 58) = v5 at *
            refine wpAnyH_ready (rs:=[3,4]) (by kernel_rfl) (by simp) ?_
            refine (AllReadyH.cons rfl (fun K0 hK=>?_) (AllReadyH.cons rfl (fun K0 hK=>?_) AllReadyH.nil))
            · rw [if_pos (by rfl)]
              go_simp
              refine (rasktwin_any _ ki a y bs D dc v5 (HD.out.below t)).mono ?_
              rintro e vd ⟨Dn,dn,rfl,ri,bb⟩
              (try have HN11b : Hid (∀ b,(v5).heap.size ≤ b → b < vd.heap.size → b ≠ g11):=fun b h1 _=>ne_before G11.lt h1)
              (try have HN12b : Hid (∀ b,(v5).heap.size ≤ b → b < vd.heap.size → b ≠ g12):=fun b h1 _=>ne_before G12.lt h1)
              have HL2 : Hid (w.heap.size ≤ (v5).heap.size):=t.size
              replace t:=Ext.trans t bb
              replace P:=P.next bb
              replace K:=K.next bb
              replace C:=C.next bb
              replace O:=O.next bb
              (try replace G11:=G11.next bb)
              (try replace G12:=G12.next bb)
              (try replace HOY:=Lib.hid (HOY.out.below bb))
              (try replace HOG:=Lib.hid (HOG.out.below bb))
              (try replace HOI:=Lib.hid (HOI.out.below bb))
              (try replace h1le:=Nat.le_trans h1le bb.size)
              (try replace h2le:=Nat.le_trans h2le bb.size)
              have HOI : Hid (RdIn vd (fun b=>(v5).heap.size ≤ b ∧ b < vd.heap.size) (.sl .byte) bs [.slice Dn bs.length dn]):=ri.mono fun b hb=>⟨hb.1,hb.2.1⟩
              have h2le:=Nat.le_refl vd.heap.size
              clear ri bb
              refine hK.out _ _ ⟨P.cell,K.cell⟩ (fun hS'=>?_)
              clear hK K0 hS
              have hS:=hS'
              clear hS'
              try simp only [Act.put,zq0,zq1,zq2,zq3,zq4,zq5]
              refine wpAnyH_ready (rs:=[4]) (by kernel_rfl) (by simp) ?_
              refine AllReadyH.cons rfl (fun K0 hK=>?_) AllReadyH.nil
              rw [if_pos (by rfl)]
              go_simp
              have bb:=Ext.alloc (Below.refl (vd).heap.size (vd)) (.cells #[.slice none 0 0,.slice none 0 0] 28)
              have g11n:=BoxOf.new (vd) #[.slice none 0 0,.slice none 0 0] 28
              obtain ⟨g11,hg11⟩ : ∃ z : Nat,z = (vd).heap.size:=⟨_,rfl⟩
              (try have HN11a : Hid (∀ b,w.heap.size ≤ b → b < vb.heap.size → b ≠ g11):=fun b _ h2=>ne_past (Nat.le_trans h1le (Nat.le_of_eq hg11.symm)) h2)
              (try have HN11b : Hid (∀ b,w.heap.size ≤ b → b < vd.heap.size → b ≠ g11):=fun b _ h2=>ne_past (Nat.le_trans h2le (Nat.le_of_eq hg11.symm)) h2)
              have HG11 : Hid (w.heap.size + 4 ≤ g11):=by have:=K.lt;show _ ≤ _;omega
              rw [← hg11] at g11n
              replace t:=Ext.trans t bb
              replace P:=P.next bb
              replace K:=K.next bb
              replace C:=C.next bb
              replace O:=O.next bb
              (try replace G11:=G11.next bb)
              (try replace G12:=G12.next bb)
              (try replace HOY:=Lib.hid (HOY.out.below bb))
              (try replace HOG:=Lib.hid (HOG.out.below bb))
              (try replace HOI:=Lib.hid (HOI.out.below bb))
              (try replace h1le:=Nat.le_trans h1le bb.size)
              (try replace h2le:=Nat.le_trans h2le bb.size)
              have G11:=g11n
              refine hK.out _ _ ⟨P.cell,K.cell⟩ (fun hS'=>?_)
              rw [← hg11]
              clear hK K0 hS g11n bb hg11
              have hS:=hS'
              clear hS'
              try simp only [Act.put,zq0,zq1,zq2,zq3,zq4,zq5]
              generalize (vd).alloc (.cells #[.slice none 0 0,.slice none 0 0] 28) = v4 at *
              refine wpAnyH_ready (rs:=[6]) (by kernel_rfl) (by simp) ?_
              refine AllReadyH.cons rfl (fun K0 hK=>?_) AllReadyH.nil
              rw [if_pos (by rfl)]
              have f11:=G11.free
              have c11:=G11.cell
              go_simp
              clear f11 c11
              have hne : g12 ≠ g11:=box_diff G12 G11 (by decide)
              have Q11:=box_self2 G11 (.slice A' ys.length c') (.slice B' gs.length d')
              have Q12:=box_two G12 hne (.slice A' ys.length c') (.slice B' gs.length d')
              have QC:=box_two C (show w.heap.size ≠ g11 by have:=HG11.out;omega) (.slice A' ys.length c') (.slice B' gs.length d')
              have QP:=box_two P (show w.heap.size + 1 ≠ g11 by have:=HG11.out;omega) (.slice A' ys.length c') (.slice B' gs.length d')
              have QO:=box_two O (show w.heap.size + 2 ≠ g11 by have:=HG11.out;omega) (.slice A' ys.length c') (.slice B' gs.length d')
              have QK:=box_two K (show w.heap.size + 3 ≠ g11 by have:=HG11.out;omega) (.slice A' ys.length c') (.slice B' gs.length d')
              have QOY:=rdin_two HOY.out (k:=g11) (fun b hb=>HN11a.out b (by first | exact hb.1 | exact Nat.le_trans HL1.out hb.1) hb.2) (.slice A' ys.length c') (.slice B' gs.length d')
              have QOG:=rdin_two HOG.out (k:=g11) (fun b hb=>HN11a.out b (by first | exact hb.1 | exact Nat.le_trans HL1.out hb.1) hb.2) (.slice A' ys.length c') (.slice B' gs.length d')
              have QOI:=rdin_two HOI.out (k:=g11) (fun b hb=>HN11b.out b (by first | exact hb.1 | exact Nat.le_trans HL2.out hb.1) hb.2) (.slice A' ys.length c') (.slice B' gs.length d')
              have Qt:=below_two t (show w.heap.size ≤ g11 by have:=HG11.out;omega) (.slice A' ys.length c') (.slice B' gs.length d')
              have Qs:=two_size (v4) g11 (.slice A' ys.length c') (.slice B' gs.length d')
              refine hK.out _ _ ⟨QP.cell,QK.cell⟩ (fun hS'=>?_)
              clear hK K0 hS G11 G12 C P O K HOY HOG HOI t
              have hS:=hS'
              clear hS'
              try simp only [Act.put,zq0,zq1,zq2,zq3,zq4,zq5]
              generalize (((v4).setCell ⟨g11,0,none⟩ (.slice A' ys.length c')).setCell ⟨g11,1,none⟩ (.slice B' gs.length d')) = v7 at *
              refine wpAnyH_ready (rs:=[7]) (by kernel_rfl) (by simp) ?_
              refine AllReadyH.cons rfl (fun K0 hK=>?_) AllReadyH.nil
              rw [if_pos (by rfl)]
              have f12:=Q12.free
              have c12:=Q12.cell
              go_simp
              clear f12 c12
              have R12:=box_self4 Q12 (.int .u8 (ki.toNat : Int)) (.int .i64 a) (.int .i64 y) (.slice Dn bs.length dn)
              have R11:=Lib.hid (box_four Q11 (fun e=>hne e.symm) (.int .u8 (ki.toNat : Int)) (.int .i64 a) (.int .i64 y) (.slice Dn bs.length dn))
              have RC:=Lib.hid (box_four QC (show w.heap.size ≠ g12 by have:=HG12.out;omega) (.int .u8 (ki.toNat : Int)) (.int .i64 a) (.int .i64 y) (.slice Dn bs.length dn))
              have RP:=box_four QP (show w.heap.size + 1 ≠ g12 by have:=HG12.out;omega) (.int .u8 (ki.toNat : Int)) (.int .i64 a) (.int .i64 y) (.slice Dn bs.length dn)
              have RO:=Lib.hid (box_four QO (show w.heap.size + 2 ≠ g12 by have:=HG12.out;omega) (.int .u8 (ki.toNat : Int)) (.int .i64 a) (.int .i64 y) (.slice Dn bs.length dn))
              have RK:=box_four QK (show w.heap.size + 3 ≠ g12 by have:=HG12.out;omega) (.int .u8 (ki.toNat : Int)) (.int .i64 a) (.int .i64 y) (.slice Dn bs.length dn)
              have ROY:=Lib.hid (rdin_four QOY (k:=g12) (fun b hb=>HN12a.out b (by first | exact hb.1 | exact Nat.le_trans HL1.out hb.1) hb.2) (.int .u8 (ki.toNat : Int)) (.int .i64 a) (.int .i64 y) (.slice Dn bs.length dn))
              have ROG:=Lib.hid (rdin_four QOG (k:=g12) (fun b hb=>HN12a.out b (by first | exact hb.1 | exact Nat.le_trans HL1.out hb.1) hb.2) (.int .u8 (ki.toNat : Int)) (.int .i64 a) (.int .i64 y) (.slice Dn bs.length dn))
              have ROI:=Lib.hid (rdin_four QOI (k:=g12) (fun b hb=>HN12b.out b (by first | exact hb.1 | exact Nat.le_trans HL2.out hb.1) hb.2) (.int .u8 (ki.toNat : Int)) (.int .i64 a) (.int .i64 y) (.slice Dn bs.length dn))
              have Rt:=Lib.hid (below_four Qt (show w.heap.size ≤ g12 by have:=HG12.out;omega) (.int .u8 (ki.toNat : Int)) (.int .i64 a) (.int .i64 y) (.slice Dn bs.length dn))
              have Rs:=Lib.hid ((four_size v7 g12 (.int .u8 (ki.toNat : Int)) (.int .i64 a) (.int .i64 y) (.slice Dn bs.length dn)).trans Qs)
              have RRP:=Lib.hid RP
              have RRK:=Lib.hid RK
              have RR12:=Lib.hid R12
              refine hK.out _ _ ⟨RP.cell,RK.cell⟩ (fun hS'=>?_)
              clear hK K0 hS hS' QC QP QO QK QOY QOG QOI Qt Qs Q11 Q12 RP RK R12
              try simp only [Act.put,zq0,zq1,zq2,zq3,zq4,zq5]
              refine wpAnyH_done (by kernel_rfl) ?_ _
              have HS1:=Lib.hid h1le
              have HS2:=Lib.hid h2le
              clear h1le h2le hne
              go_wp2_with fail
              go_meet
              exact ⟨g11,g12,A',c',B',d',Dn,dn,rfl,rfl,R11.out,RR12.out,⟨by have:=HG11.out;omega,by have:=HG12.out;omega⟩,ROY.out.mono fun b hb=>⟨by have:=HL1.out;have:=hb.1;omega,by have:=hb.2;have:=HS1.out;have:=Rs.out;omega⟩,ROG.out.mono fun b hb=>⟨by have:=HL1.out;have:=hb.1;omega,by have:=hb.2;have:=HS1.out;have:=Rs.out;omega⟩,ROI.out.mono fun b hb=>⟨by have:=HL2.out;have:=hb.1;omega,by have:=hb.2;have:=HS2.out;have:=Rs.out;omega⟩,Rt.out,RC.out,RRP.out,RO.out,RRK.out⟩
            · rw [if_pos (by rfl)]
              go_simp
              have bb:=Ext.alloc (Below.refl (v5).heap.size (v5)) (.cells #[.slice none 0 0,.slice none 0 0] 28)
              have g11n:=BoxOf.new (v5) #[.slice none 0 0,.slice none 0 0] 28
              obtain ⟨g11,hg11⟩ : ∃ z : Nat,z = (v5).heap.size:=⟨_,rfl⟩
              (try have HN11a : Hid (∀ b,w.heap.size ≤ b → b < vb.heap.size → b ≠ g11):=fun b _ h2=>ne_past (Nat.le_trans h1le (Nat.le_of_eq hg11.symm)) h2)
              (try have HN11b : Hid (∀ b,w.heap.size ≤ b → b < vd.heap.size → b ≠ g11):=fun b _ h2=>ne_past (Nat.le_trans h2le (Nat.le_of_eq hg11.symm)) h2)
              have HG11 : Hid (w.heap.size + 4 ≤ g11):=by have:=K.lt;show _ ≤ _;omega
              rw [← hg11] at g11n
              replace t:=Ext.trans t bb
              replace P:=P.next bb
              replace K:=K.next bb
              replace C:=C.next bb
              replace O:=O.next bb
              (try replace G11:=G11.next bb)
              (try replace G12:=G12.next bb)
              (try replace HOY:=Lib.hid (HOY.out.below bb))
              (try replace HOG:=Lib.hid (HOG.out.below bb))
              (try replace HOI:=Lib.hid (HOI.out.below bb))
              (try replace h1le:=Nat.le_trans h1le bb.size)
              (try replace h2le:=Nat.le_trans h2le bb.size)
              have G11:=g11n
              refine hK.out _ _ ⟨P.cell,K.cell⟩ (fun hS'=>?_)
              rw [← hg11]
              clear hK K0 hS g11n bb hg11
              have hS:=hS'
              clear hS'
              try simp only [Act.put,zq0,zq1,zq2,zq3,zq4,zq5]
              generalize (v5).alloc (.cells #[.slice none 0 0,.slice none 0 0] 28) = v4 at *
              refine wpAnyH_ready (rs:=[3]) (by kernel_rfl) (by simp) ?_
              refine AllReadyH.cons rfl (fun K0 hK=>?_) AllReadyH.nil
              rw [if_pos (by rfl)]
              go_simp
              refine (rasktwin_any _ ki a y bs D dc v4 (HD.out.below t)).mono ?_
              rintro e vd ⟨Dn,dn,rfl,ri,bb⟩
              (try have HN11b : Hid (∀ b,(v4).heap.size ≤ b → b < vd.heap.size → b ≠ g11):=fun b h1 _=>ne_before G11.lt h1)
              (try have HN12b : Hid (∀ b,(v4).heap.size ≤ b → b < vd.heap.size → b ≠ g12):=fun b h1 _=>ne_before G12.lt h1)
              have HL2 : Hid (w.heap.size ≤ (v4).heap.size):=t.size
              replace t:=Ext.trans t bb
              replace P:=P.next bb
              replace K:=K.next bb
              replace C:=C.next bb
              replace O:=O.next bb
              (try replace G11:=G11.next bb)
              (try replace G12:=G12.next bb)
              (try replace HOY:=Lib.hid (HOY.out.below bb))
              (try replace HOG:=Lib.hid (HOG.out.below bb))
              (try replace HOI:=Lib.hid (HOI.out.below bb))
              (try replace h1le:=Nat.le_trans h1le bb.size)
              (try replace h2le:=Nat.le_trans h2le bb.size)
              have HOI : Hid (RdIn vd (fun b=>(v4).heap.size ≤ b ∧ b < vd.heap.size) (.sl .byte) bs [.slice Dn bs.length dn]):=ri.mono fun b hb=>⟨hb.1,hb.2.1⟩
              have h2le:=Nat.le_refl vd.heap.size
              clear ri bb
              refine hK.out _ _ ⟨P.cell,K.cell⟩ (fun hS'=>?_)
              clear hK K0 hS
              have hS:=hS'
              clear hS'
              try simp only [Act.put,zq0,zq1,zq2,zq3,zq4,zq5]
              refine wpAnyH_ready (rs:=[6]) (by kernel_rfl) (by simp) ?_
              refine AllReadyH.cons rfl (fun K0 hK=>?_) AllReadyH.nil
              rw [if_pos (by rfl)]
              have f11:=G11.free
              have c11:=G11.cell
              go_simp
              clear f11 c11
              have hne : g12 ≠ g11:=box_diff G12 G11 (by decide)
              have Q11:=box_self2 G11 (.slice A' ys.length c') (.slice B' gs.length d')
              have Q12:=box_two G12 hne (.slice A' ys.length c') (.slice B' gs.length d')
              have QC:=box_two C (show w.heap.size ≠ g11 by have:=HG11.out;omega) (.slice A' ys.length c') (.slice B' gs.length d')
              have QP:=box_two P (show w.heap.size + 1 ≠ g11 by have:=HG11.out;omega) (.slice A' ys.length c') (.slice B' gs.length d')
              have QO:=box_two O (show w.heap.size + 2 ≠ g11 by have:=HG11.out;omega) (.slice A' ys.length c') (.slice B' gs.length d')
              have QK:=box_two K (show w.heap.size + 3 ≠ g11 by have:=HG11.out;omega) (.slice A' ys.length c') (.slice B' gs.length d')
              have QOY:=rdin_two HOY.out (k:=g11) (fun b hb=>HN11a.out b (by first | exact hb.1 | exact Nat.le_trans HL1.out hb.1) hb.2) (.slice A' ys.length c') (.slice B' gs.length d')
              have QOG:=rdin_two HOG.out (k:=g11) (fun b hb=>HN11a.out b (by first | exact hb.1 | exact Nat.le_trans HL1.out hb.1) hb.2) (.slice A' ys.length c') (.slice B' gs.length d')
              have QOI:=rdin_two HOI.out (k:=g11) (fun b hb=>HN11b.out b (by first | exact hb.1 | exact Nat.le_trans HL2.out hb.1) hb.2) (.slice A' ys.length c') (.slice B' gs.length d')
              have Qt:=below_two t (show w.heap.size ≤ g11 by have:=HG11.out;omega) (.slice A' ys.length c') (.slice B' gs.length d')
              have Qs:=two_size (vd) g11 (.slice A' ys.length c') (.slice B' gs.length d')
              refine hK.out _ _ ⟨QP.cell,QK.cell⟩ (fun hS'=>?_)
              clear hK K0 hS G11 G12 C P O K HOY HOG HOI t
              have hS:=hS'
              clear hS'
              try simp only [Act.put,zq0,zq1,zq2,zq3,zq4,zq5]
              generalize (((vd).setCell ⟨g11,0,none⟩ (.slice A' ys.length c')).setCell ⟨g11,1,none⟩ (.slice B' gs.length d')) = v7 at *
              refine wpAnyH_ready (rs:=[7]) (by kernel_rfl) (by simp) ?_
              refine AllReadyH.cons rfl (fun K0 hK=>?_) AllReadyH.nil
              rw [if_pos (by rfl)]
              have f12:=Q12.free
              have c12:=Q12.cell
              go_simp
              clear f12 c12
              have R12:=box_self4 Q12 (.int .u8 (ki.toNat : Int)) (.int .i64 a) (.int .i64 y) (.slice Dn bs.length dn)
              have R11:=Lib.hid (box_four Q11 (fun e=>hne e.symm) (.int .u8 (ki.toNat : Int)) (.int .i64 a) (.int .i64 y) (.slice Dn bs.length dn))
              have RC:=Lib.hid (box_four QC (show w.heap.size ≠ g12 by have:=HG12.out;omega) (.int .u8 (ki.toNat : Int)) (.int .i64 a) (.int .i64 y) (.slice Dn bs.length dn))
              have RP:=box_four QP (show w.heap.size + 1 ≠ g12 by have:=HG12.out;omega) (.int .u8 (ki.toNat : Int)) (.int .i64 a) (.int .i64 y) (.slice Dn bs.length dn)
              have RO:=Lib.hid (box_four QO (show w.heap.size + 2 ≠ g12 by have:=HG12.out;omega) (.int .u8 (ki.toNat : Int)) (.int .i64 a) (.int .i64 y) (.slice Dn bs.length dn))
              have RK:=box_four QK (show w.heap.size + 3 ≠ g12 by have:=HG12.out;omega) (.int .u8 (ki.toNat : Int)) (.int .i64 a) (.int .i64 y) (.slice Dn bs.length dn)
              have ROY:=Lib.hid (rdin_four QOY (k:=g12) (fun b hb=>HN12a.out b (by first | exact hb.1 | exact Nat.le_trans HL1.out hb.1) hb.2) (.int .u8 (ki.toNat : Int)) (.int .i64 a) (.int .i64 y) (.slice Dn bs.length dn))
              have ROG:=Lib.hid (rdin_four QOG (k:=g12) (fun b hb=>HN12a.out b (by first | exact hb.1 | exact Nat.le_trans HL1.out hb.1) hb.2) (.int .u8 (ki.toNat : Int)) (.int .i64 a) (.int .i64 y) (.slice Dn bs.length dn))
              have ROI:=Lib.hid (rdin_four QOI (k:=g12) (fun b hb=>HN12b.out b (by first | exact hb.1 | exact Nat.le_trans HL2.out hb.1) hb.2) (.int .u8 (ki.toNat : Int)) (.int .i64 a) (.int .i64 y) (.slice Dn bs.length dn))
              have Rt:=Lib.hid (below_four Qt (show w.heap.size ≤ g12 by have:=HG12.out;omega) (.int .u8 (ki.toNat : Int)) (.int .i64 a) (.int .i64 y) (.slice Dn bs.length dn))
              have Rs:=Lib.hid ((four_size v7 g12 (.int .u8 (ki.toNat : Int)) (.int .i64 a) (.int .i64 y) (.slice Dn bs.length dn)).trans Qs)
              have RRP:=Lib.hid RP
              have RRK:=Lib.hid RK
              have RR12:=Lib.hid R12
              refine hK.out _ _ ⟨RP.cell,RK.cell⟩ (fun hS'=>?_)
              clear hK K0 hS hS' QC QP QO QK QOY QOG QOI Qt Qs Q11 Q12 RP RK R12
              try simp only [Act.put,zq0,zq1,zq2,zq3,zq4,zq5]
              refine wpAnyH_done (by kernel_rfl) ?_ _
              have HS1:=Lib.hid h1le
              have HS2:=Lib.hid h2le
              clear h1le h2le hne
              go_wp2_with fail
              go_meet
              exact ⟨g11,g12,A',c',B',d',Dn,dn,rfl,rfl,R11.out,RR12.out,⟨by have:=HG11.out;omega,by have:=HG12.out;omega⟩,ROY.out.mono fun b hb=>⟨by have:=HL1.out;have:=hb.1;omega,by have:=hb.2;have:=HS1.out;have:=Rs.out;omega⟩,ROG.out.mono fun b hb=>⟨by have:=HL1.out;have:=hb.1;omega,by have:=hb.2;have:=HS1.out;have:=Rs.out;omega⟩,ROI.out.mono fun b hb=>⟨by have:=HL2.out;have:=hb.1;omega,by have:=hb.2;have:=HS2.out;have:=Rs.out;omega⟩,Rt.out,RC.out,RRP.out,RO.out,RRK.out⟩
        · rw [if_pos (by rfl)]
          go_simp
          have bb:=Ext.alloc (Below.refl (vv).heap.size (vv)) (.cells #[.slice none 0 0,.slice none 0 0] 28)
          have g11n:=BoxOf.new (vv) #[.slice none 0 0,.slice none 0 0] 28
          obtain ⟨g11,hg11⟩ : ∃ z : Nat,z = (vv).heap.size:=⟨_,rfl⟩
          (try have HN11a : Hid (∀ b,w.heap.size ≤ b → b < vb.heap.size → b ≠ g11):=fun b _ h2=>ne_past (Nat.le_trans h1le (Nat.le_of_eq hg11.symm)) h2)
          (try have HN11b : Hid (∀ b,w.heap.size ≤ b → b < vd.heap.size → b ≠ g11):=fun b _ h2=>ne_past (Nat.le_trans h2le (Nat.le_of_eq hg11.symm)) h2)
          have HG11 : Hid (w.heap.size + 4 ≤ g11):=by have:=K.lt;show _ ≤ _;omega
          rw [← hg11] at g11n
          replace t:=Ext.trans t bb
          replace P:=P.next bb
          replace K:=K.next bb
          replace C:=C.next bb
          replace O:=O.next bb
          (try replace G11:=G11.next bb)
          (try replace G12:=G12.next bb)
          (try replace HOY:=Lib.hid (HOY.out.below bb))
          (try replace HOG:=Lib.hid (HOG.out.below bb))
          (try replace HOI:=Lib.hid (HOI.out.below bb))
          (try replace h1le:=Nat.le_trans h1le bb.size)
          (try replace h2le:=Nat.le_trans h2le bb.size)
          have G11:=g11n
          refine hK.out _ _ ⟨P.cell,K.cell⟩ (fun hS'=>?_)
          rw [← hg11]
          clear hK K0 hS g11n bb hg11
          have hS:=hS'
          clear hS'
          try simp only [Act.put,zq0,zq1,zq2,zq3,zq4,zq5]
          generalize (vv).alloc (.cells #[.slice none 0 0,.slice none 0 0] 28) = v4 at *
          refine wpAnyH_ready (rs:=[1,5]) (by kernel_rfl) (by simp) ?_
          refine (AllReadyH.cons rfl (fun K0 hK=>?_) (AllReadyH.cons rfl (fun K0 hK=>?_) AllReadyH.nil))
          · rw [if_pos (by rfl)]
            go_simp
            refine (rtwin_any _ ys gs A ca B cb v4 (HY.out.below t) (HG.out.below t)).mono ?_
            rintro e vb ⟨A',c',B',d',rfl,ry,rg,bb⟩
            (try have HN11a : Hid (∀ b,(v4).heap.size ≤ b → b < vb.heap.size → b ≠ g11):=fun b h1 _=>ne_before G11.lt h1)
            (try have HN12a : Hid (∀ b,(v4).heap.size ≤ b → b < vb.heap.size → b ≠ g12):=fun b h1 _=>ne_before G12.lt h1)
            have HL1 : Hid (w.heap.size ≤ (v4).heap.size):=t.size
            replace t:=Ext.trans t bb
            replace P:=P.next bb
            replace K:=K.next bb
            replace C:=C.next bb
            replace O:=O.next bb
            (try replace G11:=G11.next bb)
            (try replace G12:=G12.next bb)
            (try replace HOY:=Lib.hid (HOY.out.below bb))
            (try replace HOG:=Lib.hid (HOG.out.below bb))
            (try replace HOI:=Lib.hid (HOI.out.below bb))
            (try replace h1le:=Nat.le_trans h1le bb.size)
            (try replace h2le:=Nat.le_trans h2le bb.size)
            have HOY:=Lib.hid ry
            have HOG:=Lib.hid rg
            have h1le:=Nat.le_refl vb.heap.size
            clear ry rg bb
            refine hK.out _ _ ⟨P.cell,K.cell⟩ (fun hS'=>?_)
            clear hK K0 hS
            have hS:=hS'
            clear hS'
            try simp only [Act.put,zq0,zq1,zq2,zq3,zq4,zq5]
            refine wpAnyH_ready (rs:=[3,5]) (by kernel_rfl) (by simp) ?_
            refine (AllReadyH.cons rfl (fun K0 hK=>?_) (AllReadyH.cons rfl (fun K0 hK=>?_) AllReadyH.nil))
            · rw [if_pos (by rfl)]
              go_simp
              refine (rasktwin_any _ ki a y bs D dc vb (HD.out.below t)).mono ?_
              rintro e vd ⟨Dn,dn,rfl,ri,bb⟩
              (try have HN11b : Hid (∀ b,(vb).heap.size ≤ b → b < vd.heap.size → b ≠ g11):=fun b h1 _=>ne_before G11.lt h1)
              (try have HN12b : Hid (∀ b,(vb).heap.size ≤ b → b < vd.heap.size → b ≠ g12):=fun b h1 _=>ne_before G12.lt h1)
              have HL2 : Hid (w.heap.size ≤ (vb).heap.size):=t.size
              replace t:=Ext.trans t bb
              replace P:=P.next bb
              replace K:=K.next bb
              replace C:=C.next bb
              replace O:=O.next bb
              (try replace G11:=G11.next bb)
              (try replace G12:=G12.next bb)
              (try replace HOY:=Lib.hid (HOY.out.below bb))
              (try replace HOG:=Lib.hid (HOG.out.below bb))
              (try replace HOI:=Lib.hid (HOI.out.below bb))
              (try replace h1le:=Nat.le_trans h1le bb.size)
              (try replace h2le:=Nat.le_trans h2le bb.size)
              have HOI : Hid (RdIn vd (fun b=>(vb).heap.size ≤ b ∧ b < vd.heap.size) (.sl .byte) bs [.slice Dn bs.length dn]):=ri.mono fun b hb=>⟨hb.1,hb.2.1⟩
              have h2le:=Nat.le_refl vd.heap.size
              clear ri bb
              refine hK.out _ _ ⟨P.cell,K.cell⟩ (fun hS'=>?_)
              clear hK K0 hS
              have hS:=hS'
              clear hS'
              try simp only [Act.put,zq0,zq1,zq2,zq3,zq4,zq5]
              refine wpAnyH_ready (rs:=[5]) (by kernel_rfl) (by simp) ?_
              refine AllReadyH.cons rfl (fun K0 hK=>?_) AllReadyH.nil
              rw [if_pos (by rfl)]
              go_simp
              have bb:=Ext.alloc (Below.refl (vd).heap.size (vd)) (.cells #[.int .u8 0,.int .i64 0,.int .i64 0,.slice none 0 0] 58)
              have g12n:=BoxOf.new (vd) #[.int .u8 0,.int .i64 0,.int .i64 0,.slice none 0 0] 58
              obtain ⟨g12,hg12⟩ : ∃ z : Nat,z = (vd).heap.size:=⟨_,rfl⟩
              (try have HN12a : Hid (∀ b,w.heap.size ≤ b → b < vb.heap.size → b ≠ g12):=fun b _ h2=>ne_past (Nat.le_trans h1le (Nat.le_of_eq hg12.symm)) h2)
              (try have HN12b : Hid (∀ b,w.heap.size ≤ b → b < vd.heap.size → b ≠ g12):=fun b _ h2=>ne_past (Nat.le_trans h2le (Nat.le_of_eq hg12.symm)) h2)
              have HG12 : Hid (w.heap.size + 4 ≤ g12):=by have:=K.lt;show _ ≤ _;omega
              rw [← hg12] at g12n
              replace t:=Ext.trans t bb
              replace P:=P.next bb
              replace K:=K.next bb
              replace C:=C.next bb
              replace O:=O.next bb
              (try replace G11:=G11.next bb)
              (try replace G12:=G12.next bb)
              (try replace HOY:=Lib.hid (HOY.out.below bb))
              (try replace HOG:=Lib.hid (HOG.out.below bb))
              (try replace HOI:=Lib.hid (HOI.out.below bb))
              (try replace h1le:=Nat.le_trans h1le bb.size)
              (try replace h2le:=Nat.le_trans h2le bb.size)
              have G12:=g12n
              refine hK.out _ _ ⟨P.cell,K.cell⟩ (fun hS'=>?_)
              rw [← hg12]
              clear hK K0 hS g12n bb hg12
              have hS:=hS'
              clear hS'
              try simp only [Act.put,zq0,zq1,zq2,zq3,zq4,zq5]
              generalize (vd).alloc (.cells #[.int .u8 0,.int .i64 0,.int .i64 0,.slice none 0 0] 58) = v5 at *
              refine wpAnyH_ready (rs:=[6]) (by kernel_rfl) (by simp) ?_
              refine AllReadyH.cons rfl (fun K0 hK=>?_) AllReadyH.nil
              rw [if_pos (by rfl)]
              have f11:=G11.free
              have c11:=G11.cell
              go_simp
              clear f11 c11
              have hne : g12 ≠ g11:=box_diff G12 G11 (by decide)
              have Q11:=box_self2 G11 (.slice A' ys.length c') (.slice B' gs.length d')
              have Q12:=box_two G12 hne (.slice A' ys.length c') (.slice B' gs.length d')
              have QC:=box_two C (show w.heap.size ≠ g11 by have:=HG11.out;omega) (.slice A' ys.length c') (.slice B' gs.length d')
              have QP:=box_two P (show w.heap.size + 1 ≠ g11 by have:=HG11.out;omega) (.slice A' ys.length c') (.slice B' gs.length d')
              have QO:=box_two O (show w.heap.size + 2 ≠ g11 by have:=HG11.out;omega) (.slice A' ys.length c') (.slice B' gs.length d')
              have QK:=box_two K (show w.heap.size + 3 ≠ g11 by have:=HG11.out;omega) (.slice A' ys.length c') (.slice B' gs.length d')
              have QOY:=rdin_two HOY.out (k:=g11) (fun b hb=>HN11a.out b (by first | exact hb.1 | exact Nat.le_trans HL1.out hb.1) hb.2) (.slice A' ys.length c') (.slice B' gs.length d')
              have QOG:=rdin_two HOG.out (k:=g11) (fun b hb=>HN11a.out b (by first | exact hb.1 | exact Nat.le_trans HL1.out hb.1) hb.2) (.slice A' ys.length c') (.slice B' gs.length d')
              have QOI:=rdin_two HOI.out (k:=g11) (fun b hb=>HN11b.out b (by first | exact hb.1 | exact Nat.le_trans HL2.out hb.1) hb.2) (.slice A' ys.length c') (.slice B' gs.length d')
              have Qt:=below_two t (show w.heap.size ≤ g11 by have:=HG11.out;omega) (.slice A' ys.length c') (.slice B' gs.length d')
              have Qs:=two_size (v5) g11 (.slice A' ys.length c') (.slice B' gs.length d')
              refine hK.out _ _ ⟨QP.cell,QK.cell⟩ (fun hS'=>?_)
              clear hK K0 hS G11 G12 C P O K HOY HOG HOI t
              have hS:=hS'
              clear hS'
              try simp only [Act.put,zq0,zq1,zq2,zq3,zq4,zq5]
              generalize (((v5).setCell ⟨g11,0,none⟩ (.slice A' ys.length c')).setCell ⟨g11,1,none⟩ (.slice B' gs.length d')) = v7 at *
              refine wpAnyH_ready (rs:=[7]) (by kernel_rfl) (by simp) ?_
              refine AllReadyH.cons rfl (fun K0 hK=>?_) AllReadyH.nil
              rw [if_pos (by rfl)]
              have f12:=Q12.free
              have c12:=Q12.cell
              go_simp
              clear f12 c12
              have R12:=box_self4 Q12 (.int .u8 (ki.toNat : Int)) (.int .i64 a) (.int .i64 y) (.slice Dn bs.length dn)
              have R11:=Lib.hid (box_four Q11 (fun e=>hne e.symm) (.int .u8 (ki.toNat : Int)) (.int .i64 a) (.int .i64 y) (.slice Dn bs.length dn))
              have RC:=Lib.hid (box_four QC (show w.heap.size ≠ g12 by have:=HG12.out;omega) (.int .u8 (ki.toNat : Int)) (.int .i64 a) (.int .i64 y) (.slice Dn bs.length dn))
              have RP:=box_four QP (show w.heap.size + 1 ≠ g12 by have:=HG12.out;omega) (.int .u8 (ki.toNat : Int)) (.int .i64 a) (.int .i64 y) (.slice Dn bs.length dn)
              have RO:=Lib.hid (box_four QO (show w.heap.size + 2 ≠ g12 by have:=HG12.out;omega) (.int .u8 (ki.toNat : Int)) (.int .i64 a) (.int .i64 y) (.slice Dn bs.length dn))
              have RK:=box_four QK (show w.heap.size + 3 ≠ g12 by have:=HG12.out;omega) (.int .u8 (ki.toNat : Int)) (.int .i64 a) (.int .i64 y) (.slice Dn bs.length dn)
              have ROY:=Lib.hid (rdin_four QOY (k:=g12) (fun b hb=>HN12a.out b (by first | exact hb.1 | exact Nat.le_trans HL1.out hb.1) hb.2) (.int .u8 (ki.toNat : Int)) (.int .i64 a) (.int .i64 y) (.slice Dn bs.length dn))
              have ROG:=Lib.hid (rdin_four QOG (k:=g12) (fun b hb=>HN12a.out b (by first | exact hb.1 | exact Nat.le_trans HL1.out hb.1) hb.2) (.int .u8 (ki.toNat : Int)) (.int .i64 a) (.int .i64 y) (.slice Dn bs.length dn))
              have ROI:=Lib.hid (rdin_four QOI (k:=g12) (fun b hb=>HN12b.out b (by first | exact hb.1 | exact Nat.le_trans HL2.out hb.1) hb.2) (.int .u8 (ki.toNat : Int)) (.int .i64 a) (.int .i64 y) (.slice Dn bs.length dn))
              have Rt:=Lib.hid (below_four Qt (show w.heap.size ≤ g12 by have:=HG12.out;omega) (.int .u8 (ki.toNat : Int)) (.int .i64 a) (.int .i64 y) (.slice Dn bs.length dn))
              have Rs:=Lib.hid ((four_size v7 g12 (.int .u8 (ki.toNat : Int)) (.int .i64 a) (.int .i64 y) (.slice Dn bs.length dn)).trans Qs)
              have RRP:=Lib.hid RP
              have RRK:=Lib.hid RK
              have RR12:=Lib.hid R12
              refine hK.out _ _ ⟨RP.cell,RK.cell⟩ (fun hS'=>?_)
              clear hK K0 hS hS' QC QP QO QK QOY QOG QOI Qt Qs Q11 Q12 RP RK R12
              try simp only [Act.put,zq0,zq1,zq2,zq3,zq4,zq5]
              refine wpAnyH_done (by kernel_rfl) ?_ _
              have HS1:=Lib.hid h1le
              have HS2:=Lib.hid h2le
              clear h1le h2le hne
              go_wp2_with fail
              go_meet
              exact ⟨g11,g12,A',c',B',d',Dn,dn,rfl,rfl,R11.out,RR12.out,⟨by have:=HG11.out;omega,by have:=HG12.out;omega⟩,ROY.out.mono fun b hb=>⟨by have:=HL1.out;have:=hb.1;omega,by have:=hb.2;have:=HS1.out;have:=Rs.out;omega⟩,ROG.out.mono fun b hb=>⟨by have:=HL1.out;have:=hb.1;omega,by have:=hb.2;have:=HS1.out;have:=Rs.out;omega⟩,ROI.out.mono fun b hb=>⟨by have:=HL2.out;have:=hb.1;omega,by have:=hb.2;have:=HS2.out;have:=Rs.out;omega⟩,Rt.out,RC.out,RRP.out,RO.out,RRK.out⟩
            · rw [if_pos (by rfl)]
              go_simp
              have bb:=Ext.alloc (Below.refl (vb).heap.size (vb)) (.cells #[.int .u8 0,.int .i64 0,.int .i64 0,.slice none 0 0] 58)
              have g12n:=BoxOf.new (vb) #[.int .u8 0,.int .i64 0,.int .i64 0,.slice none 0 0] 58
              obtain ⟨g12,hg12⟩ : ∃ z : Nat,z = (vb).heap.size:=⟨_,rfl⟩
              (try have HN12a : Hid (∀ b,w.heap.size ≤ b → b < vb.heap.size → b ≠ g12):=fun b _ h2=>ne_past (Nat.le_trans h1le (Nat.le_of_eq hg12.symm)) h2)
              (try have HN12b : Hid (∀ b,w.heap.size ≤ b → b < vd.heap.size → b ≠ g12):=fun b _ h2=>ne_past (Nat.le_trans h2le (Nat.le_of_eq hg12.symm)) h2)
              have HG12 : Hid (w.heap.size + 4 ≤ g12):=by have:=K.lt;show _ ≤ _;omega
              rw [← hg12] at g12n
              replace t:=Ext.trans t bb
              replace P:=P.next bb
              replace K:=K.next bb
              replace C:=C.next bb
              replace O:=O.next bb
              (try replace G11:=G11.next bb)
              (try replace G12:=G12.next bb)
              (try replace HOY:=Lib.hid (HOY.out.below bb))
              (try replace HOG:=Lib.hid (HOG.out.below bb))
              (try replace HOI:=Lib.hid (HOI.out.below bb))
              (try replace h1le:=Nat.le_trans h1le bb.size)
              (try replace h2le:=Nat.le_trans h2le bb.size)
              have G12:=g12n
              refine hK.out _ _ ⟨P.cell,K.cell⟩ (fun hS'=>?_)
              rw [← hg12]
              clear hK K0 hS g12n bb hg12
              have hS:=hS'
              clear hS'
              try simp only [Act.put,zq0,zq1,zq2,zq3,zq4,zq5]
              generalize (vb).alloc (.cells #[.int .u8 0,.int .i64 0,.int .i64 0,.slice none 0 0] 58) = v5 at *
              refine wpAnyH_ready (rs:=[3]) (by kernel_rfl) (by simp) ?_
              refine AllReadyH.cons rfl (fun K0 hK=>?_) AllReadyH.nil
              rw [if_pos (by rfl)]
              go_simp
              refine (rasktwin_any _ ki a y bs D dc v5 (HD.out.below t)).mono ?_
              rintro e vd ⟨Dn,dn,rfl,ri,bb⟩
              (try have HN11b : Hid (∀ b,(v5).heap.size ≤ b → b < vd.heap.size → b ≠ g11):=fun b h1 _=>ne_before G11.lt h1)
              (try have HN12b : Hid (∀ b,(v5).heap.size ≤ b → b < vd.heap.size → b ≠ g12):=fun b h1 _=>ne_before G12.lt h1)
              have HL2 : Hid (w.heap.size ≤ (v5).heap.size):=t.size
              replace t:=Ext.trans t bb
              replace P:=P.next bb
              replace K:=K.next bb
              replace C:=C.next bb
              replace O:=O.next bb
              (try replace G11:=G11.next bb)
              (try replace G12:=G12.next bb)
              (try replace HOY:=Lib.hid (HOY.out.below bb))
              (try replace HOG:=Lib.hid (HOG.out.below bb))
              (try replace HOI:=Lib.hid (HOI.out.below bb))
              (try replace h1le:=Nat.le_trans h1le bb.size)
              (try replace h2le:=Nat.le_trans h2le bb.size)
              have HOI : Hid (RdIn vd (fun b=>(v5).heap.size ≤ b ∧ b < vd.heap.size) (.sl .byte) bs [.slice Dn bs.length dn]):=ri.mono fun b hb=>⟨hb.1,hb.2.1⟩
              have h2le:=Nat.le_refl vd.heap.size
              clear ri bb
              refine hK.out _ _ ⟨P.cell,K.cell⟩ (fun hS'=>?_)
              clear hK K0 hS
              have hS:=hS'
              clear hS'
              try simp only [Act.put,zq0,zq1,zq2,zq3,zq4,zq5]
              refine wpAnyH_ready (rs:=[6]) (by kernel_rfl) (by simp) ?_
              refine AllReadyH.cons rfl (fun K0 hK=>?_) AllReadyH.nil
              rw [if_pos (by rfl)]
              have f11:=G11.free
              have c11:=G11.cell
              go_simp
              clear f11 c11
              have hne : g12 ≠ g11:=box_diff G12 G11 (by decide)
              have Q11:=box_self2 G11 (.slice A' ys.length c') (.slice B' gs.length d')
              have Q12:=box_two G12 hne (.slice A' ys.length c') (.slice B' gs.length d')
              have QC:=box_two C (show w.heap.size ≠ g11 by have:=HG11.out;omega) (.slice A' ys.length c') (.slice B' gs.length d')
              have QP:=box_two P (show w.heap.size + 1 ≠ g11 by have:=HG11.out;omega) (.slice A' ys.length c') (.slice B' gs.length d')
              have QO:=box_two O (show w.heap.size + 2 ≠ g11 by have:=HG11.out;omega) (.slice A' ys.length c') (.slice B' gs.length d')
              have QK:=box_two K (show w.heap.size + 3 ≠ g11 by have:=HG11.out;omega) (.slice A' ys.length c') (.slice B' gs.length d')
              have QOY:=rdin_two HOY.out (k:=g11) (fun b hb=>HN11a.out b (by first | exact hb.1 | exact Nat.le_trans HL1.out hb.1) hb.2) (.slice A' ys.length c') (.slice B' gs.length d')
              have QOG:=rdin_two HOG.out (k:=g11) (fun b hb=>HN11a.out b (by first | exact hb.1 | exact Nat.le_trans HL1.out hb.1) hb.2) (.slice A' ys.length c') (.slice B' gs.length d')
              have QOI:=rdin_two HOI.out (k:=g11) (fun b hb=>HN11b.out b (by first | exact hb.1 | exact Nat.le_trans HL2.out hb.1) hb.2) (.slice A' ys.length c') (.slice B' gs.length d')
              have Qt:=below_two t (show w.heap.size ≤ g11 by have:=HG11.out;omega) (.slice A' ys.length c') (.slice B' gs.length d')
              have Qs:=two_size (vd) g11 (.slice A' ys.length c') (.slice B' gs.length d')
              refine hK.out _ _ ⟨QP.cell,QK.cell⟩ (fun hS'=>?_)
              clear hK K0 hS G11 G12 C P O K HOY HOG HOI t
              have hS:=hS'
              clear hS'
              try simp only [Act.put,zq0,zq1,zq2,zq3,zq4,zq5]
              generalize (((vd).setCell ⟨g11,0,none⟩ (.slice A' ys.length c')).setCell ⟨g11,1,none⟩ (.slice B' gs.length d')) = v7 at *
              refine wpAnyH_ready (rs:=[7]) (by kernel_rfl) (by simp) ?_
              refine AllReadyH.cons rfl (fun K0 hK=>?_) AllReadyH.nil
              rw [if_pos (by rfl)]
              have f12:=Q12.free
              have c12:=Q12.cell
              go_simp
              clear f12 c12
              have R12:=box_self4 Q12 (.int .u8 (ki.toNat : Int)) (.int .i64 a) (.int .i64 y) (.slice Dn bs.length dn)
              have R11:=Lib.hid (box_four Q11 (fun e=>hne e.symm) (.int .u8 (ki.toNat : Int)) (.int .i64 a) (.int .i64 y) (.slice Dn bs.length dn))
              have RC:=Lib.hid (box_four QC (show w.heap.size ≠ g12 by have:=HG12.out;omega) (.int .u8 (ki.toNat : Int)) (.int .i64 a) (.int .i64 y) (.slice Dn bs.length dn))
              have RP:=box_four QP (show w.heap.size + 1 ≠ g12 by have:=HG12.out;omega) (.int .u8 (ki.toNat : Int)) (.int .i64 a) (.int .i64 y) (.slice Dn bs.length dn)
              have RO:=Lib.hid (box_four QO (show w.heap.size + 2 ≠ g12 by have:=HG12.out;omega) (.int .u8 (ki.toNat : Int)) (.int .i64 a) (.int .i64 y) (.slice Dn bs.length dn))
              have RK:=box_four QK (show w.heap.size + 3 ≠ g12 by have:=HG12.out;omega) (.int .u8 (ki.toNat : Int)) (.int .i64 a) (.int .i64 y) (.slice Dn bs.length dn)
              have ROY:=Lib.hid (rdin_four QOY (k:=g12) (fun b hb=>HN12a.out b (by first | exact hb.1 | exact Nat.le_trans HL1.out hb.1) hb.2) (.int .u8 (ki.toNat : Int)) (.int .i64 a) (.int .i64 y) (.slice Dn bs.length dn))
              have ROG:=Lib.hid (rdin_four QOG (k:=g12) (fun b hb=>HN12a.out b (by first | exact hb.1 | exact Nat.le_trans HL1.out hb.1) hb.2) (.int .u8 (ki.toNat : Int)) (.int .i64 a) (.int .i64 y) (.slice Dn bs.length dn))
              have ROI:=Lib.hid (rdin_four QOI (k:=g12) (fun b hb=>HN12b.out b (by first | exact hb.1 | exact Nat.le_trans HL2.out hb.1) hb.2) (.int .u8 (ki.toNat : Int)) (.int .i64 a) (.int .i64 y) (.slice Dn bs.length dn))
              have Rt:=Lib.hid (below_four Qt (show w.heap.size ≤ g12 by have:=HG12.out;omega) (.int .u8 (ki.toNat : Int)) (.int .i64 a) (.int .i64 y) (.slice Dn bs.length dn))
              have Rs:=Lib.hid ((four_size v7 g12 (.int .u8 (ki.toNat : Int)) (.int .i64 a) (.int .i64 y) (.slice Dn bs.length dn)).trans Qs)
              have RRP:=Lib.hid RP
              have RRK:=Lib.hid RK
              have RR12:=Lib.hid R12
              refine hK.out _ _ ⟨RP.cell,RK.cell⟩ (fun hS'=>?_)
              clear hK K0 hS hS' QC QP QO QK QOY QOG QOI Qt Qs Q11 Q12 RP RK R12
              try simp only [Act.put,zq0,zq1,zq2,zq3,zq4,zq5]
              refine wpAnyH_done (by kernel_rfl) ?_ _
              have HS1:=Lib.hid h1le
              have HS2:=Lib.hid h2le
              clear h1le h2le hne
              go_wp2_with fail
              go_meet
              exact ⟨g11,g12,A',c',B',d',Dn,dn,rfl,rfl,R11.out,RR12.out,⟨by have:=HG11.out;omega,by have:=HG12.out;omega⟩,ROY.out.mono fun b hb=>⟨by have:=HL1.out;have:=hb.1;omega,by have:=hb.2;have:=HS1.out;have:=Rs.out;omega⟩,ROG.out.mono fun b hb=>⟨by have:=HL1.out;have:=hb.1;omega,by have:=hb.2;have:=HS1.out;have:=Rs.out;omega⟩,ROI.out.mono fun b hb=>⟨by have:=HL2.out;have:=hb.1;omega,by have:=hb.2;have:=HS2.out;have:=Rs.out;omega⟩,Rt.out,RC.out,RRP.out,RO.out,RRK.out⟩
          · rw [if_pos (by rfl)]
            go_simp
            have bb:=Ext.alloc (Below.refl (v4).heap.size (v4)) (.cells #[.int .u8 0,.int .i64 0,.int .i64 0,.slice none 0 0] 58)
            have g12n:=BoxOf.new (v4) #[.int .u8 0,.int .i64 0,.int .i64 0,.slice none 0 0] 58
            obtain ⟨g12,hg12⟩ : ∃ z : Nat,z = (v4).heap.size:=⟨_,rfl⟩
            (try have HN12a : Hid (∀ b,w.heap.size ≤ b → b < vb.heap.size → b ≠ g12):=fun b _ h2=>ne_past (Nat.le_trans h1le (Nat.le_of_eq hg12.symm)) h2)
            (try have HN12b : Hid (∀ b,w.heap.size ≤ b → b < vd.heap.size → b ≠ g12):=fun b _ h2=>ne_past (Nat.le_trans h2le (Nat.le_of_eq hg12.symm)) h2)
            have HG12 : Hid (w.heap.size + 4 ≤ g12):=by have:=K.lt;show _ ≤ _;omega
            rw [← hg12] at g12n
            replace t:=Ext.trans t bb
            replace P:=P.next bb
            replace K:=K.next bb
            replace C:=C.next bb
            replace O:=O.next bb
            (try replace G11:=G11.next bb)
            (try replace G12:=G12.next bb)
            (try replace HOY:=Lib.hid (HOY.out.below bb))
            (try replace HOG:=Lib.hid (HOG.out.below bb))
            (try replace HOI:=Lib.hid (HOI.out.below bb))
            (try replace h1le:=Nat.le_trans h1le bb.size)
            (try replace h2le:=Nat.le_trans h2le bb.size)
            have G12:=g12n
            refine hK.out _ _ ⟨P.cell,K.cell⟩ (fun hS'=>?_)
            rw [← hg12]
            clear hK K0 hS g12n bb hg12
            have hS:=hS'
            clear hS'
            try simp only [Act.put,zq0,zq1,zq2,zq3,zq4,zq5]
            generalize (v4).alloc (.cells #[.int .u8 0,.int .i64 0,.int .i64 0,.slice none 0 0] 58) = v5 at *
            refine wpAnyH_ready (rs:=[1]) (by kernel_rfl) (by simp) ?_
            refine AllReadyH.cons rfl (fun K0 hK=>?_) AllReadyH.nil
            rw [if_pos (by rfl)]
            go_simp
            refine (rtwin_any _ ys gs A ca B cb v5 (HY.out.below t) (HG.out.below t)).mono ?_
            rintro e vb ⟨A',c',B',d',rfl,ry,rg,bb⟩
            (try have HN11a : Hid (∀ b,(v5).heap.size ≤ b → b < vb.heap.size → b ≠ g11):=fun b h1 _=>ne_before G11.lt h1)
            (try have HN12a : Hid (∀ b,(v5).heap.size ≤ b → b < vb.heap.size → b ≠ g12):=fun b h1 _=>ne_before G12.lt h1)
            have HL1 : Hid (w.heap.size ≤ (v5).heap.size):=t.size
            replace t:=Ext.trans t bb
            replace P:=P.next bb
            replace K:=K.next bb
            replace C:=C.next bb
            replace O:=O.next bb
            (try replace G11:=G11.next bb)
            (try replace G12:=G12.next bb)
            (try replace HOY:=Lib.hid (HOY.out.below bb))
            (try replace HOG:=Lib.hid (HOG.out.below bb))
            (try replace HOI:=Lib.hid (HOI.out.below bb))
            (try replace h1le:=Nat.le_trans h1le bb.size)
            (try replace h2le:=Nat.le_trans h2le bb.size)
            have HOY:=Lib.hid ry
            have HOG:=Lib.hid rg
            have h1le:=Nat.le_refl vb.heap.size
            clear ry rg bb
            refine hK.out _ _ ⟨P.cell,K.cell⟩ (fun hS'=>?_)
            clear hK K0 hS
            have hS:=hS'
            clear hS'
            try simp only [Act.put,zq0,zq1,zq2,zq3,zq4,zq5]
            refine wpAnyH_ready (rs:=[3]) (by kernel_rfl) (by simp) ?_
            refine AllReadyH.cons rfl (fun K0 hK=>?_) AllReadyH.nil
            rw [if_pos (by rfl)]
            go_simp
            refine (rasktwin_any _ ki a y bs D dc vb (HD.out.below t)).mono ?_
            rintro e vd ⟨Dn,dn,rfl,ri,bb⟩
            (try have HN11b : Hid (∀ b,(vb).heap.size ≤ b → b < vd.heap.size → b ≠ g11):=fun b h1 _=>ne_before G11.lt h1)
            (try have HN12b : Hid (∀ b,(vb).heap.size ≤ b → b < vd.heap.size → b ≠ g12):=fun b h1 _=>ne_before G12.lt h1)
            have HL2 : Hid (w.heap.size ≤ (vb).heap.size):=t.size
            replace t:=Ext.trans t bb
            replace P:=P.next bb
            replace K:=K.next bb
            replace C:=C.next bb
            replace O:=O.next bb
            (try replace G11:=G11.next bb)
            (try replace G12:=G12.next bb)
            (try replace HOY:=Lib.hid (HOY.out.below bb))
            (try replace HOG:=Lib.hid (HOG.out.below bb))
            (try replace HOI:=Lib.hid (HOI.out.below bb))
            (try replace h1le:=Nat.le_trans h1le bb.size)
            (try replace h2le:=Nat.le_trans h2le bb.size)
            have HOI : Hid (RdIn vd (fun b=>(vb).heap.size ≤ b ∧ b < vd.heap.size) (.sl .byte) bs [.slice Dn bs.length dn]):=ri.mono fun b hb=>⟨hb.1,hb.2.1⟩
            have h2le:=Nat.le_refl vd.heap.size
            clear ri bb
            refine hK.out _ _ ⟨P.cell,K.cell⟩ (fun hS'=>?_)
            clear hK K0 hS
            have hS:=hS'
            clear hS'
            try simp only [Act.put,zq0,zq1,zq2,zq3,zq4,zq5]
            refine wpAnyH_ready (rs:=[6]) (by kernel_rfl) (by simp) ?_
            refine AllReadyH.cons rfl (fun K0 hK=>?_) AllReadyH.nil
            rw [if_pos (by rfl)]
            have f11:=G11.free
            have c11:=G11.cell
            go_simp
            clear f11 c11
            have hne : g12 ≠ g11:=box_diff G12 G11 (by decide)
            have Q11:=box_self2 G11 (.slice A' ys.length c') (.slice B' gs.length d')
            have Q12:=box_two G12 hne (.slice A' ys.length c') (.slice B' gs.length d')
            have QC:=box_two C (show w.heap.size ≠ g11 by have:=HG11.out;omega) (.slice A' ys.length c') (.slice B' gs.length d')
            have QP:=box_two P (show w.heap.size + 1 ≠ g11 by have:=HG11.out;omega) (.slice A' ys.length c') (.slice B' gs.length d')
            have QO:=box_two O (show w.heap.size + 2 ≠ g11 by have:=HG11.out;omega) (.slice A' ys.length c') (.slice B' gs.length d')
            have QK:=box_two K (show w.heap.size + 3 ≠ g11 by have:=HG11.out;omega) (.slice A' ys.length c') (.slice B' gs.length d')
            have QOY:=rdin_two HOY.out (k:=g11) (fun b hb=>HN11a.out b (by first | exact hb.1 | exact Nat.le_trans HL1.out hb.1) hb.2) (.slice A' ys.length c') (.slice B' gs.length d')
            have QOG:=rdin_two HOG.out (k:=g11) (fun b hb=>HN11a.out b (by first | exact hb.1 | exact Nat.le_trans HL1.out hb.1) hb.2) (.slice A' ys.length c') (.slice B' gs.length d')
            have QOI:=rdin_two HOI.out (k:=g11) (fun b hb=>HN11b.out b (by first | exact hb.1 | exact Nat.le_trans HL2.out hb.1) hb.2) (.slice A' ys.length c') (.slice B' gs.length d')
            have Qt:=below_two t (show w.heap.size ≤ g11 by have:=HG11.out;omega) (.slice A' ys.length c') (.slice B' gs.length d')
            have Qs:=two_size (vd) g11 (.slice A' ys.length c') (.slice B' gs.length d')
            refine hK.out _ _ ⟨QP.cell,QK.cell⟩ (fun hS'=>?_)
            clear hK K0 hS G11 G12 C P O K HOY HOG HOI t
            have hS:=hS'
            clear hS'
            try simp only [Act.put,zq0,zq1,zq2,zq3,zq4,zq5]
            generalize (((vd).setCell ⟨g11,0,none⟩ (.slice A' ys.length c')).setCell ⟨g11,1,none⟩ (.slice B' gs.length d')) = v7 at *
            refine wpAnyH_ready (rs:=[7]) (by kernel_rfl) (by simp) ?_
            refine AllReadyH.cons rfl (fun K0 hK=>?_) AllReadyH.nil
            rw [if_pos (by rfl)]
            have f12:=Q12.free
            have c12:=Q12.cell
            go_simp
            clear f12 c12
            have R12:=box_self4 Q12 (.int .u8 (ki.toNat : Int)) (.int .i64 a) (.int .i64 y) (.slice Dn bs.length dn)
            have R11:=Lib.hid (box_four Q11 (fun e=>hne e.symm) (.int .u8 (ki.toNat : Int)) (.int .i64 a) (.int .i64 y) (.slice Dn bs.length dn))
            have RC:=Lib.hid (box_four QC (show w.heap.size ≠ g12 by have:=HG12.out;omega) (.int .u8 (ki.toNat : Int)) (.int .i64 a) (.int .i64 y) (.slice Dn bs.length dn))
            have RP:=box_four QP (show w.heap.size + 1 ≠ g12 by have:=HG12.out;omega) (.int .u8 (ki.toNat : Int)) (.int .i64 a) (.int .i64 y) (.slice Dn bs.length dn)
            have RO:=Lib.hid (box_four QO (show w.heap.size + 2 ≠ g12 by have:=HG12.out;omega) (.int .u8 (ki.toNat : Int)) (.int .i64 a) (.int .i64 y) (.slice Dn bs.length dn))
            have RK:=box_four QK (show w.heap.size + 3 ≠ g12 by have:=HG12.out;omega) (.int .u8 (ki.toNat : Int)) (.int .i64 a) (.int .i64 y) (.slice Dn bs.length dn)
            have ROY:=Lib.hid (rdin_four QOY (k:=g12) (fun b hb=>HN12a.out b (by first | exact hb.1 | exact Nat.le_trans HL1.out hb.1) hb.2) (.int .u8 (ki.toNat : Int)) (.int .i64 a) (.int .i64 y) (.slice Dn bs.length dn))
            have ROG:=Lib.hid (rdin_four QOG (k:=g12) (fun b hb=>HN12a.out b (by first | exact hb.1 | exact Nat.le_trans HL1.out hb.1) hb.2) (.int .u8 (ki.toNat : Int)) (.int .i64 a) (.int .i64 y) (.slice Dn bs.length dn))
            have ROI:=Lib.hid (rdin_four QOI (k:=g12) (fun b hb=>HN12b.out b (by first | exact hb.1 | exact Nat.le_trans HL2.out hb.1) hb.2) (.int .u8 (ki.toNat : Int)) (.int .i64 a) (.int .i64 y) (.slice Dn bs.length dn))
            have Rt:=Lib.hid (below_four Qt (show w.heap.size ≤ g12 by have:=HG12.out;omega) (.int .u8 (ki.toNat : Int)) (.int .i64 a) (.int .i64 y) (.slice Dn bs.length dn))
            have Rs:=Lib.hid ((four_size v7 g12 (.int .u8 (ki.toNat : Int)) (.int .i64 a) (.int .i64 y) (.slice Dn bs.length dn)).trans Qs)
            have RRP:=Lib.hid RP
            have RRK:=Lib.hid RK
            have RR12:=Lib.hid R12
            refine hK.out _ _ ⟨RP.cell,RK.cell⟩ (fun hS'=>?_)
            clear hK K0 hS hS' QC QP QO QK QOY QOG QOI Qt Qs Q11 Q12 RP RK R12
            try simp only [Act.put,zq0,zq1,zq2,zq3,zq4,zq5]
            refine wpAnyH_done (by kernel_rfl) ?_ _
            have HS1:=Lib.hid h1le
            have HS2:=Lib.hid h2le
            clear h1le h2le hne
            go_wp2_with fail
            go_meet
            exact ⟨g11,g12,A',c',B',d',Dn,dn,rfl,rfl,R11.out,RR12.out,⟨by have:=HG11.out;omega,by have:=HG12.out;omega⟩,ROY.out.mono fun b hb=>⟨by have:=HL1.out;have:=hb.1;omega,by have:=hb.2;have:=HS1.out;have:=Rs.out;omega⟩,ROG.out.mono fun b hb=>⟨by have:=HL1.out;have:=hb.1;omega,by have:=hb.2;have:=HS1.out;have:=Rs.out;omega⟩,ROI.out.mono fun b hb=>⟨by have:=HL2.out;have:=hb.1;omega,by have:=hb.2;have:=HS2.out;have:=Rs.out;omega⟩,Rt.out,RC.out,RRP.out,RO.out,RRK.out⟩
        · rw [if_pos (by rfl)]
          go_simp
          have bb:=Ext.alloc (Below.refl (vv).heap.size (vv)) (.cells #[.int .u8 0,.int .i64 0,.int .i64 0,.slice none 0 0] 58)
          have g12n:=BoxOf.new (vv) #[.int .u8 0,.int .i64 0,.int .i64 0,.slice none 0 0] 58
          obtain ⟨g12,hg12⟩ : ∃ z : Nat,z = (vv).heap.size:=⟨_,rfl⟩
          (try have HN12a : Hid (∀ b,w.heap.size ≤ b → b < vb.heap.size → b ≠ g12):=fun b _ h2=>ne_past (Nat.le_trans h1le (Nat.le_of_eq hg12.symm)) h2)
          (try have HN12b : Hid (∀ b,w.heap.size ≤ b → b < vd.heap.size → b ≠ g12):=fun b _ h2=>ne_past (Nat.le_trans h2le (Nat.le_of_eq hg12.symm)) h2)
          have HG12 : Hid (w.heap.size + 4 ≤ g12):=by have:=K.lt;show _ ≤ _;omega
          rw [← hg12] at g12n
          replace t:=Ext.trans t bb
          replace P:=P.next bb
          replace K:=K.next bb
          replace C:=C.next bb
          replace O:=O.next bb
          (try replace G11:=G11.next bb)
          (try replace G12:=G12.next bb)
          (try replace HOY:=Lib.hid (HOY.out.below bb))
          (try replace HOG:=Lib.hid (HOG.out.below bb))
          (try replace HOI:=Lib.hid (HOI.out.below bb))
          (try replace h1le:=Nat.le_trans h1le bb.size)
          (try replace h2le:=Nat.le_trans h2le bb.size)
          have G12:=g12n
          refine hK.out _ _ ⟨P.cell,K.cell⟩ (fun hS'=>?_)
          rw [← hg12]
          clear hK K0 hS g12n bb hg12
          have hS:=hS'
          clear hS'
          try simp only [Act.put,zq0,zq1,zq2,zq3,zq4,zq5]
          generalize (vv).alloc (.cells #[.int .u8 0,.int .i64 0,.int .i64 0,.slice none 0 0] 58) = v5 at *
          refine wpAnyH_ready (rs:=[1,4]) (by kernel_rfl) (by simp) ?_
          refine (AllReadyH.cons rfl (fun K0 hK=>?_) (AllReadyH.cons rfl (fun K0 hK=>?_) AllReadyH.nil))
          · rw [if_pos (by rfl)]
            go_simp
            refine (rtwin_any _ ys gs A ca B cb v5 (HY.out.below t) (HG.out.below t)).mono ?_
            rintro e vb ⟨A',c',B',d',rfl,ry,rg,bb⟩
            (try have HN11a : Hid (∀ b,(v5).heap.size ≤ b → b < vb.heap.size → b ≠ g11):=fun b h1 _=>ne_before G11.lt h1)
            (try have HN12a : Hid (∀ b,(v5).heap.size ≤ b → b < vb.heap.size → b ≠ g12):=fun b h1 _=>ne_before G12.lt h1)
            have HL1 : Hid (w.heap.size ≤ (v5).heap.size):=t.size
            replace t:=Ext.trans t bb
            replace P:=P.next bb
            replace K:=K.next bb
            replace C:=C.next bb
            replace O:=O.next bb
            (try replace G11:=G11.next bb)
            (try replace G12:=G12.next bb)
            (try replace HOY:=Lib.hid (HOY.out.below bb))
            (try replace HOG:=Lib.hid (HOG.out.below bb))
            (try replace HOI:=Lib.hid (HOI.out.below bb))
            (try replace h1le:=Nat.le_trans h1le bb.size)
            (try replace h2le:=Nat.le_trans h2le bb.size)
            have HOY:=Lib.hid ry
            have HOG:=Lib.hid rg
            have h1le:=Nat.le_refl vb.heap.size
            clear ry rg bb
            refine hK.out _ _ ⟨P.cell,K.cell⟩ (fun hS'=>?_)
            clear hK K0 hS
            have hS:=hS'
            clear hS'
            try simp only [Act.put,zq0,zq1,zq2,zq3,zq4,zq5]
            refine wpAnyH_ready (rs:=[3,4]) (by kernel_rfl) (by simp) ?_
            refine (AllReadyH.cons rfl (fun K0 hK=>?_) (AllReadyH.cons rfl (fun K0 hK=>?_) AllReadyH.nil))
            · rw [if_pos (by rfl)]
              go_simp
              refine (rasktwin_any _ ki a y bs D dc vb (HD.out.below t)).mono ?_
              rintro e vd ⟨Dn,dn,rfl,ri,bb⟩
              (try have HN11b : Hid (∀ b,(vb).heap.size ≤ b → b < vd.heap.size → b ≠ g11):=fun b h1 _=>ne_before G11.lt h1)
              (try have HN12b : Hid (∀ b,(vb).heap.size ≤ b → b < vd.heap.size → b ≠ g12):=fun b h1 _=>ne_before G12.lt h1)
              have HL2 : Hid (w.heap.size ≤ (vb).heap.size):=t.size
              replace t:=Ext.trans t bb
              replace P:=P.next bb
              replace K:=K.next bb
              replace C:=C.next bb
              replace O:=O.next bb
              (try replace G11:=G11.next bb)
              (try replace G12:=G12.next bb)
              (try replace HOY:=Lib.hid (HOY.out.below bb))
              (try replace HOG:=Lib.hid (HOG.out.below bb))
              (try replace HOI:=Lib.hid (HOI.out.below bb))
              (try replace h1le:=Nat.le_trans h1le bb.size)
              (try replace h2le:=Nat.le_trans h2le bb.size)
              have HOI : Hid (RdIn vd (fun b=>(vb).heap.size ≤ b ∧ b < vd.heap.size) (.sl .byte) bs [.slice Dn bs.length dn]):=ri.mono fun b hb=>⟨hb.1,hb.2.1⟩
              have h2le:=Nat.le_refl vd.heap.size
              clear ri bb
              refine hK.out _ _ ⟨P.cell,K.cell⟩ (fun hS'=>?_)
              clear hK K0 hS
              have hS:=hS'
              clear hS'
              try simp only [Act.put,zq0,zq1,zq2,zq3,zq4,zq5]
              refine wpAnyH_ready (rs:=[4]) (by kernel_rfl) (by simp) ?_
              refine AllReadyH.cons rfl (fun K0 hK=>?_) AllReadyH.nil
              rw [if_pos (by rfl)]
              go_simp
              have bb:=Ext.alloc (Below.refl (vd).heap.size (vd)) (.cells #[.slice none 0 0,.slice none 0 0] 28)
              have g11n:=BoxOf.new (vd) #[.slice none 0 0,.slice none 0 0] 28
              obtain ⟨g11,hg11⟩ : ∃ z : Nat,z = (vd).heap.size:=⟨_,rfl⟩
              (try have HN11a : Hid (∀ b,w.heap.size ≤ b → b < vb.heap.size → b ≠ g11):=fun b _ h2=>ne_past (Nat.le_trans h1le (Nat.le_of_eq hg11.symm)) h2)
              (try have HN11b : Hid (∀ b,w.heap.size ≤ b → b < vd.heap.size → b ≠ g11):=fun b _ h2=>ne_past (Nat.le_trans h2le (Nat.le_of_eq hg11.symm)) h2)
              have HG11 : Hid (w.heap.size + 4 ≤ g11):=by have:=K.lt;show _ ≤ _;omega
              rw [← hg11] at g11n
              replace t:=Ext.trans t bb
              replace P:=P.next bb
              replace K:=K.next bb
              replace C:=C.next bb
              replace O:=O.next bb
              (try replace G11:=G11.next bb)
              (try replace G12:=G12.next bb)
              (try replace HOY:=Lib.hid (HOY.out.below bb))
              (try replace HOG:=Lib.hid (HOG.out.below bb))
              (try replace HOI:=Lib.hid (HOI.out.below bb))
              (try replace h1le:=Nat.le_trans h1le bb.size)
              (try replace h2le:=Nat.le_trans h2le bb.size)
              have G11:=g11n
              refine hK.out _ _ ⟨P.cell,K.cell⟩ (fun hS'=>?_)
              rw [← hg11]
              clear hK K0 hS g11n bb hg11
              have hS:=hS'
              clear hS'
              try simp only [Act.put,zq0,zq1,zq2,zq3,zq4,zq5]
              generalize (vd).alloc (.cells #[.slice none 0 0,.slice none 0 0] 28) = v4 at *
              refine wpAnyH_ready (rs:=[6]) (by kernel_rfl) (by simp) ?_
              refine AllReadyH.cons rfl (fun K0 hK=>?_) AllReadyH.nil
              rw [if_pos (by rfl)]
              have f11:=G11.free
              have c11:=G11.cell
              go_simp
              clear f11 c11
              have hne : g12 ≠ g11:=box_diff G12 G11 (by decide)
              have Q11:=box_self2 G11 (.slice A' ys.length c') (.slice B' gs.length d')
              have Q12:=box_two G12 hne (.slice A' ys.length c') (.slice B' gs.length d')
              have QC:=box_two C (show w.heap.size ≠ g11 by have:=HG11.out;omega) (.slice A' ys.length c') (.slice B' gs.length d')
              have QP:=box_two P (show w.heap.size + 1 ≠ g11 by have:=HG11.out;omega) (.slice A' ys.length c') (.slice B' gs.length d')
              have QO:=box_two O (show w.heap.size + 2 ≠ g11 by have:=HG11.out;omega) (.slice A' ys.length c') (.slice B' gs.length d')
              have QK:=box_two K (show w.heap.size + 3 ≠ g11 by have:=HG11.out;omega) (.slice A' ys.length c') (.slice B' gs.length d')
              have QOY:=rdin_two HOY.out (k:=g11) (fun b hb=>HN11a.out b (by first | exact hb.1 | exact Nat.le_trans HL1.out hb.1) hb.2) (.slice A' ys.length c') (.slice B' gs.length d')
              have QOG:=rdin_two HOG.out (k:=g11) (fun b hb=>HN11a.out b (by first | exact hb.1 | exact Nat.le_trans HL1.out hb.1) hb.2) (.slice A' ys.length c') (.slice B' gs.length d')
              have QOI:=rdin_two HOI.out (k:=g11) (fun b hb=>HN11b.out b (by first | exact hb.1 | exact Nat.le_trans HL2.out hb.1) hb.2) (.slice A' ys.length c') (.slice B' gs.length d')
              have Qt:=below_two t (show w.heap.size ≤ g11 by have:=HG11.out;omega) (.slice A' ys.length c') (.slice B' gs.length d')
              have Qs:=two_size (v4) g11 (.slice A' ys.length c') (.slice B' gs.length d')
              refine hK.out _ _ ⟨QP.cell,QK.cell⟩ (fun hS'=>?_)
              clear hK K0 hS G11 G12 C P O K HOY HOG HOI t
              have hS:=hS'
              clear hS'
              try simp only [Act.put,zq0,zq1,zq2,zq3,zq4,zq5]
              generalize (((v4).setCell ⟨g11,0,none⟩ (.slice A' ys.length c')).setCell ⟨g11,1,none⟩ (.slice B' gs.length d')) = v7 at *
              refine wpAnyH_ready (rs:=[7]) (by kernel_rfl) (by simp) ?_
              refine AllReadyH.cons rfl (fun K0 hK=>?_) AllReadyH.nil
              rw [if_pos (by rfl)]
              have f12:=Q12.free
              have c12:=Q12.cell
              go_simp
              clear f12 c12
              have R12:=box_self4 Q12 (.int .u8 (ki.toNat : Int)) (.int .i64 a) (.int .i64 y) (.slice Dn bs.length dn)
              have R11:=Lib.hid (box_four Q11 (fun e=>hne e.symm) (.int .u8 (ki.toNat : Int)) (.int .i64 a) (.int .i64 y) (.slice Dn bs.length dn))
              have RC:=Lib.hid (box_four QC (show w.heap.size ≠ g12 by have:=HG12.out;omega) (.int .u8 (ki.toNat : Int)) (.int .i64 a) (.int .i64 y) (.slice Dn bs.length dn))
              have RP:=box_four QP (show w.heap.size + 1 ≠ g12 by have:=HG12.out;omega) (.int .u8 (ki.toNat : Int)) (.int .i64 a) (.int .i64 y) (.slice Dn bs.length dn)
              have RO:=Lib.hid (box_four QO (show w.heap.size + 2 ≠ g12 by have:=HG12.out;omega) (.int .u8 (ki.toNat : Int)) (.int .i64 a) (.int .i64 y) (.slice Dn bs.length dn))
              have RK:=box_four QK (show w.heap.size + 3 ≠ g12 by have:=HG12.out;omega) (.int .u8 (ki.toNat : Int)) (.int .i64 a) (.int .i64 y) (.slice Dn bs.length dn)
              have ROY:=Lib.hid (rdin_four QOY (k:=g12) (fun b hb=>HN12a.out b (by first | exact hb.1 | exact Nat.le_trans HL1.out hb.1) hb.2) (.int .u8 (ki.toNat : Int)) (.int .i64 a) (.int .i64 y) (.slice Dn bs.length dn))
              have ROG:=Lib.hid (rdin_four QOG (k:=g12) (fun b hb=>HN12a.out b (by first | exact hb.1 | exact Nat.le_trans HL1.out hb.1) hb.2) (.int .u8 (ki.toNat : Int)) (.int .i64 a) (.int .i64 y) (.slice Dn bs.length dn))
              have ROI:=Lib.hid (rdin_four QOI (k:=g12) (fun b hb=>HN12b.out b (by first | exact hb.1 | exact Nat.le_trans HL2.out hb.1) hb.2) (.int .u8 (ki.toNat : Int)) (.int .i64 a) (.int .i64 y) (.slice Dn bs.length dn))
              have Rt:=Lib.hid (below_four Qt (show w.heap.size ≤ g12 by have:=HG12.out;omega) (.int .u8 (ki.toNat : Int)) (.int .i64 a) (.int .i64 y) (.slice Dn bs.length dn))
              have Rs:=Lib.hid ((four_size v7 g12 (.int .u8 (ki.toNat : Int)) (.int .i64 a) (.int .i64 y) (.slice Dn bs.length dn)).trans Qs)
              have RRP:=Lib.hid RP
              have RRK:=Lib.hid RK
              have RR12:=Lib.hid R12
              refine hK.out _ _ ⟨RP.cell,RK.cell⟩ (fun hS'=>?_)
              clear hK K0 hS hS' QC QP QO QK QOY QOG QOI Qt Qs Q11 Q12 RP RK R12
              try simp only [Act.put,zq0,zq1,zq2,zq3,zq4,zq5]
              refine wpAnyH_done (by kernel_rfl) ?_ _
              have HS1:=Lib.hid h1le
              have HS2:=Lib.hid h2le
              clear h1le h2le hne
              go_wp2_with fail
              go_meet
              exact ⟨g11,g12,A',c',B',d',Dn,dn,rfl,rfl,R11.out,RR12.out,⟨by have:=HG11.out;omega,by have:=HG12.out;omega⟩,ROY.out.mono fun b hb=>⟨by have:=HL1.out;have:=hb.1;omega,by have:=hb.2;have:=HS1.out;have:=Rs.out;omega⟩,ROG.out.mono fun b hb=>⟨by have:=HL1.out;have:=hb.1;omega,by have:=hb.2;have:=HS1.out;have:=Rs.out;omega⟩,ROI.out.mono fun b hb=>⟨by have:=HL2.out;have:=hb.1;omega,by have:=hb.2;have:=HS2.out;have:=Rs.out;omega⟩,Rt.out,RC.out,RRP.out,RO.out,RRK.out⟩
            · rw [if_pos (by rfl)]
              go_simp
              have bb:=Ext.alloc (Below.refl (vb).heap.size (vb)) (.cells #[.slice none 0 0,.slice none 0 0] 28)
              have g11n:=BoxOf.new (vb) #[.slice none 0 0,.slice none 0 0] 28
              obtain ⟨g11,hg11⟩ : ∃ z : Nat,z = (vb).heap.size:=⟨_,rfl⟩
              (try have HN11a : Hid (∀ b,w.heap.size ≤ b → b < vb.heap.size → b ≠ g11):=fun b _ h2=>ne_past (Nat.le_trans h1le (Nat.le_of_eq hg11.symm)) h2)
              (try have HN11b : Hid (∀ b,w.heap.size ≤ b → b < vd.heap.size → b ≠ g11):=fun b _ h2=>ne_past (Nat.le_trans h2le (Nat.le_of_eq hg11.symm)) h2)
              have HG11 : Hid (w.heap.size + 4 ≤ g11):=by have:=K.lt;show _ ≤ _;omega
              rw [← hg11] at g11n
              replace t:=Ext.trans t bb
              replace P:=P.next bb
              replace K:=K.next bb
              replace C:=C.next bb
              replace O:=O.next bb
              (try replace G11:=G11.next bb)
              (try replace G12:=G12.next bb)
              (try replace HOY:=Lib.hid (HOY.out.below bb))
              (try replace HOG:=Lib.hid (HOG.out.below bb))
              (try replace HOI:=Lib.hid (HOI.out.below bb))
              (try replace h1le:=Nat.le_trans h1le bb.size)
              (try replace h2le:=Nat.le_trans h2le bb.size)
              have G11:=g11n
              refine hK.out _ _ ⟨P.cell,K.cell⟩ (fun hS'=>?_)
              rw [← hg11]
              clear hK K0 hS g11n bb hg11
              have hS:=hS'
              clear hS'
              try simp only [Act.put,zq0,zq1,zq2,zq3,zq4,zq5]
              generalize (vb).alloc (.cells #[.slice none 0 0,.slice none 0 0] 28) = v4 at *
              refine wpAnyH_ready (rs:=[3]) (by kernel_rfl) (by simp) ?_
              refine AllReadyH.cons rfl (fun K0 hK=>?_) AllReadyH.nil
              rw [if_pos (by rfl)]
              go_simp
              refine (rasktwin_any _ ki a y bs D dc v4 (HD.out.below t)).mono ?_
              rintro e vd ⟨Dn,dn,rfl,ri,bb⟩
              (try have HN11b : Hid (∀ b,(v4).heap.size ≤ b → b < vd.heap.size → b ≠ g11):=fun b h1 _=>ne_before G11.lt h1)
              (try have HN12b : Hid (∀ b,(v4).heap.size ≤ b → b < vd.heap.size → b ≠ g12):=fun b h1 _=>ne_before G12.lt h1)
              have HL2 : Hid (w.heap.size ≤ (v4).heap.size):=t.size
              replace t:=Ext.trans t bb
              replace P:=P.next bb
              replace K:=K.next bb
              replace C:=C.next bb
              replace O:=O.next bb
              (try replace G11:=G11.next bb)
              (try replace G12:=G12.next bb)
              (try replace HOY:=Lib.hid (HOY.out.below bb))
              (try replace HOG:=Lib.hid (HOG.out.below bb))
              (try replace HOI:=Lib.hid (HOI.out.below bb))
              (try replace h1le:=Nat.le_trans h1le bb.size)
              (try replace h2le:=Nat.le_trans h2le bb.size)
              have HOI : Hid (RdIn vd (fun b=>(v4).heap.size ≤ b ∧ b < vd.heap.size) (.sl .byte) bs [.slice Dn bs.length dn]):=ri.mono fun b hb=>⟨hb.1,hb.2.1⟩
              have h2le:=Nat.le_refl vd.heap.size
              clear ri bb
              refine hK.out _ _ ⟨P.cell,K.cell⟩ (fun hS'=>?_)
              clear hK K0 hS
              have hS:=hS'
              clear hS'
              try simp only [Act.put,zq0,zq1,zq2,zq3,zq4,zq5]
              refine wpAnyH_ready (rs:=[6]) (by kernel_rfl) (by simp) ?_
              refine AllReadyH.cons rfl (fun K0 hK=>?_) AllReadyH.nil
              rw [if_pos (by rfl)]
              have f11:=G11.free
              have c11:=G11.cell
              go_simp
              clear f11 c11
              have hne : g12 ≠ g11:=box_diff G12 G11 (by decide)
              have Q11:=box_self2 G11 (.slice A' ys.length c') (.slice B' gs.length d')
              have Q12:=box_two G12 hne (.slice A' ys.length c') (.slice B' gs.length d')
              have QC:=box_two C (show w.heap.size ≠ g11 by have:=HG11.out;omega) (.slice A' ys.length c') (.slice B' gs.length d')
              have QP:=box_two P (show w.heap.size + 1 ≠ g11 by have:=HG11.out;omega) (.slice A' ys.length c') (.slice B' gs.length d')
              have QO:=box_two O (show w.heap.size + 2 ≠ g11 by have:=HG11.out;omega) (.slice A' ys.length c') (.slice B' gs.length d')
              have QK:=box_two K (show w.heap.size + 3 ≠ g11 by have:=HG11.out;omega) (.slice A' ys.length c') (.slice B' gs.length d')
              have QOY:=rdin_two HOY.out (k:=g11) (fun b hb=>HN11a.out b (by first | exact hb.1 | exact Nat.le_trans HL1.out hb.1) hb.2) (.slice A' ys.length c') (.slice B' gs.length d')
              have QOG:=rdin_two HOG.out (k:=g11) (fun b hb=>HN11a.out b (by first | exact hb.1 | exact Nat.le_trans HL1.out hb.1) hb.2) (.slice A' ys.length c') (.slice B' gs.length d')
              have QOI:=rdin_two HOI.out (k:=g11) (fun b hb=>HN11b.out b (by first | exact hb.1 | exact Nat.le_trans HL2.out hb.1) hb.2) (.slice A' ys.length c') (.slice B' gs.length d')
              have Qt:=below_two t (show w.heap.size ≤ g11 by have:=HG11.out;omega) (.slice A' ys.length c') (.slice B' gs.length d')
              have Qs:=two_size (vd) g11 (.slice A' ys.length c') (.slice B' gs.length d')
              refine hK.out _ _ ⟨QP.cell,QK.cell⟩ (fun hS'=>?_)
              clear hK K0 hS G11 G12 C P O K HOY HOG HOI t
              have hS:=hS'
              clear hS'
              try simp only [Act.put,zq0,zq1,zq2,zq3,zq4,zq5]
              generalize (((vd).setCell ⟨g11,0,none⟩ (.slice A' ys.length c')).setCell ⟨g11,1,none⟩ (.slice B' gs.length d')) = v7 at *
              refine wpAnyH_ready (rs:=[7]) (by kernel_rfl) (by simp) ?_
              refine AllReadyH.cons rfl (fun K0 hK=>?_) AllReadyH.nil
              rw [if_pos (by rfl)]
              have f12:=Q12.free
              have c12:=Q12.cell
              go_simp
              clear f12 c12
              have R12:=box_self4 Q12 (.int .u8 (ki.toNat : Int)) (.int .i64 a) (.int .i64 y) (.slice Dn bs.length dn)
              have R11:=Lib.hid (box_four Q11 (fun e=>hne e.symm) (.int .u8 (ki.toNat : Int)) (.int .i64 a) (.int .i64 y) (.slice Dn bs.length dn))
              have RC:=Lib.hid (box_four QC (show w.heap.size ≠ g12 by have:=HG12.out;omega) (.int .u8 (ki.toNat : Int)) (.int .i64 a) (.int .i64 y) (.slice Dn bs.length dn))
              have RP:=box_four QP (show w.heap.size + 1 ≠ g12 by have:=HG12.out;omega) (.int .u8 (ki.toNat : Int)) (.int .i64 a) (.int .i64 y) (.slice Dn bs.length dn)
              have RO:=Lib.hid (box_four QO (show w.heap.size + 2 ≠ g12 by have:=HG12.out;omega) (.int .u8 (ki.toNat : Int)) (.int .i64 a) (.int .i64 y) (.slice Dn bs.length dn))
              have RK:=box_four QK (show w.heap.size + 3 ≠ g12 by have:=HG12.out;omega) (.int .u8 (ki.toNat : Int)) (.int .i64 a) (.int .i64 y) (.slice Dn bs.length dn)
              have ROY:=Lib.hid (rdin_four QOY (k:=g12) (fun b hb=>HN12a.out b (by first | exact hb.1 | exact Nat.le_trans HL1.out hb.1) hb.2) (.int .u8 (ki.toNat : Int)) (.int .i64 a) (.int .i64 y) (.slice Dn bs.length dn))
              have ROG:=Lib.hid (rdin_four QOG (k:=g12) (fun b hb=>HN12a.out b (by first | exact hb.1 | exact Nat.le_trans HL1.out hb.1) hb.2) (.int .u8 (ki.toNat : Int)) (.int .i64 a) (.int .i64 y) (.slice Dn bs.length dn))
              have ROI:=Lib.hid (rdin_four QOI (k:=g12) (fun b hb=>HN12b.out b (by first | exact hb.1 | exact Nat.le_trans HL2.out hb.1) hb.2) (.int .u8 (ki.toNat : Int)) (.int .i64 a) (.int .i64 y) (.slice Dn bs.length dn))
              have Rt:=Lib.hid (below_four Qt (show w.heap.size ≤ g12 by have:=HG12.out;omega) (.int .u8 (ki.toNat : Int)) (.int .i64 a) (.int .i64 y) (.slice Dn bs.length dn))
              have Rs:=Lib.hid ((four_size v7 g12 (.int .u8 (ki.toNat : Int)) (.int .i64 a) (.int .i64 y) (.slice Dn bs.length dn)).trans Qs)
              have RRP:=Lib.hid RP
              have RRK:=Lib.hid RK
              have RR12:=Lib.hid R12
              refine hK.out _ _ ⟨RP.cell,RK.cell⟩ (fun hS'=>?_)
              clear hK K0 hS hS' QC QP QO QK QOY QOG QOI Qt Qs Q11 Q12 RP RK R12
              try simp only [Act.put,zq0,zq1,zq2,zq3,zq4,zq5]
              refine wpAnyH_done (by kernel_rfl) ?_ _
              have HS1:=Lib.hid h1le
              have HS2:=Lib.hid h2le
              clear h1le h2le hne
              go_wp2_with fail
              go_meet
              exact ⟨g11,g12,A',c',B',d',Dn,dn,rfl,rfl,R11.out,RR12.out,⟨by have:=HG11.out;omega,by have:=HG12.out;omega⟩,ROY.out.mono fun b hb=>⟨by have:=HL1.out;have:=hb.1;omega,by have:=hb.2;have:=HS1.out;have:=Rs.out;omega⟩,ROG.out.mono fun b hb=>⟨by have:=HL1.out;have:=hb.1;omega,by have:=hb.2;have:=HS1.out;have:=Rs.out;omega⟩,ROI.out.mono fun b hb=>⟨by have:=HL2.out;have:=hb.1;omega,by have:=hb.2;have:=HS2.out;have:=Rs.out;omega⟩,Rt.out,RC.out,RRP.out,RO.out,RRK.out⟩
          · rw [if_pos (by rfl)]
            go_simp
            have bb:=Ext.alloc (Below.refl (v5).heap.size (v5)) (.cells #[.slice none 0 0,.slice none 0 0] 28)
            have g11n:=BoxOf.new (v5) #[.slice none 0 0,.slice none 0 0] 28
            obtain ⟨g11,hg11⟩ : ∃ z : Nat,z = (v5).heap.size:=⟨_,rfl⟩
            (try have HN11a : Hid (∀ b,w.heap.size ≤ b → b < vb.heap.size → b ≠ g11):=fun b _ h2=>ne_past (Nat.le_trans h1le (Nat.le_of_eq hg11.symm)) h2)
            (try have HN11b : Hid (∀ b,w.heap.size ≤ b → b < vd.heap.size → b ≠ g11):=fun b _ h2=>ne_past (Nat.le_trans h2le (Nat.le_of_eq hg11.symm)) h2)
            have HG11 : Hid (w.heap.size + 4 ≤ g11):=by have:=K.lt;show _ ≤ _;omega
            rw [← hg11] at g11n
            replace t:=Ext.trans t bb
            replace P:=P.next bb
            replace K:=K.next bb
            replace C:=C.next bb
            replace O:=O.next bb
            (try replace G11:=G11.next bb)
            (try replace G12:=G12.next bb)
            (try replace HOY:=Lib.hid (HOY.out.below bb))
            (try replace HOG:=Lib.hid (HOG.out.below bb))
            (try replace HOI:=Lib.hid (HOI.out.below bb))
            (try replace h1le:=Nat.le_trans h1le bb.size)
            (try replace h2le:=Nat.le_trans h2le bb.size)
            have G11:=g11n
            refine hK.out _ _ ⟨P.cell,K.cell⟩ (fun hS'=>?_)
            rw [← hg11]
            clear hK K0 hS g11n bb hg11
            have hS:=hS'
            clear hS'
            try simp only [Act.put,zq0,zq1,zq2,zq3,zq4,zq5]
            generalize (v5).alloc (.cells #[.slice none 0 0,.slice none 0 0] 28) = v4 at *
            refine wpAnyH_ready (rs:=[1]) (by kernel_rfl) (by simp) ?_
            refine AllReadyH.cons rfl (fun K0 hK=>?_) AllReadyH.nil
            rw [if_pos (by rfl)]
            go_simp
            refine (rtwin_any _ ys gs A ca B cb v4 (HY.out.below t) (HG.out.below t)).mono ?_
            rintro e vb ⟨A',c',B',d',rfl,ry,rg,bb⟩
            (try have HN11a : Hid (∀ b,(v4).heap.size ≤ b → b < vb.heap.size → b ≠ g11):=fun b h1 _=>ne_before G11.lt h1)
            (try have HN12a : Hid (∀ b,(v4).heap.size ≤ b → b < vb.heap.size → b ≠ g12):=fun b h1 _=>ne_before G12.lt h1)
            have HL1 : Hid (w.heap.size ≤ (v4).heap.size):=t.size
            replace t:=Ext.trans t bb
            replace P:=P.next bb
            replace K:=K.next bb
            replace C:=C.next bb
            replace O:=O.next bb
            (try replace G11:=G11.next bb)
            (try replace G12:=G12.next bb)
            (try replace HOY:=Lib.hid (HOY.out.below bb))
            (try replace HOG:=Lib.hid (HOG.out.below bb))
            (try replace HOI:=Lib.hid (HOI.out.below bb))
            (try replace h1le:=Nat.le_trans h1le bb.size)
            (try replace h2le:=Nat.le_trans h2le bb.size)
            have HOY:=Lib.hid ry
            have HOG:=Lib.hid rg
            have h1le:=Nat.le_refl vb.heap.size
            clear ry rg bb
            refine hK.out _ _ ⟨P.cell,K.cell⟩ (fun hS'=>?_)
            clear hK K0 hS
            have hS:=hS'
            clear hS'
            try simp only [Act.put,zq0,zq1,zq2,zq3,zq4,zq5]
            refine wpAnyH_ready (rs:=[3]) (by kernel_rfl) (by simp) ?_
            refine AllReadyH.cons rfl (fun K0 hK=>?_) AllReadyH.nil
            rw [if_pos (by rfl)]
            go_simp
            refine (rasktwin_any _ ki a y bs D dc vb (HD.out.below t)).mono ?_
            rintro e vd ⟨Dn,dn,rfl,ri,bb⟩
            (try have HN11b : Hid (∀ b,(vb).heap.size ≤ b → b < vd.heap.size → b ≠ g11):=fun b h1 _=>ne_before G11.lt h1)
            (try have HN12b : Hid (∀ b,(vb).heap.size ≤ b → b < vd.heap.size → b ≠ g12):=fun b h1 _=>ne_before G12.lt h1)
            have HL2 : Hid (w.heap.size ≤ (vb).heap.size):=t.size
            replace t:=Ext.trans t bb
            replace P:=P.next bb
            replace K:=K.next bb
            replace C:=C.next bb
            replace O:=O.next bb
            (try replace G11:=G11.next bb)
            (try replace G12:=G12.next bb)
            (try replace HOY:=Lib.hid (HOY.out.below bb))
            (try replace HOG:=Lib.hid (HOG.out.below bb))
            (try replace HOI:=Lib.hid (HOI.out.below bb))
            (try replace h1le:=Nat.le_trans h1le bb.size)
            (try replace h2le:=Nat.le_trans h2le bb.size)
            have HOI : Hid (RdIn vd (fun b=>(vb).heap.size ≤ b ∧ b < vd.heap.size) (.sl .byte) bs [.slice Dn bs.length dn]):=ri.mono fun b hb=>⟨hb.1,hb.2.1⟩
            have h2le:=Nat.le_refl vd.heap.size
            clear ri bb
            refine hK.out _ _ ⟨P.cell,K.cell⟩ (fun hS'=>?_)
            clear hK K0 hS
            have hS:=hS'
            clear hS'
            try simp only [Act.put,zq0,zq1,zq2,zq3,zq4,zq5]
            refine wpAnyH_ready (rs:=[6]) (by kernel_rfl) (by simp) ?_
            refine AllReadyH.cons rfl (fun K0 hK=>?_) AllReadyH.nil
            rw [if_pos (by rfl)]
            have f11:=G11.free
            have c11:=G11.cell
            go_simp
            clear f11 c11
            have hne : g12 ≠ g11:=box_diff G12 G11 (by decide)
            have Q11:=box_self2 G11 (.slice A' ys.length c') (.slice B' gs.length d')
            have Q12:=box_two G12 hne (.slice A' ys.length c') (.slice B' gs.length d')
            have QC:=box_two C (show w.heap.size ≠ g11 by have:=HG11.out;omega) (.slice A' ys.length c') (.slice B' gs.length d')
            have QP:=box_two P (show w.heap.size + 1 ≠ g11 by have:=HG11.out;omega) (.slice A' ys.length c') (.slice B' gs.length d')
            have QO:=box_two O (show w.heap.size + 2 ≠ g11 by have:=HG11.out;omega) (.slice A' ys.length c') (.slice B' gs.length d')
            have QK:=box_two K (show w.heap.size + 3 ≠ g11 by have:=HG11.out;omega) (.slice A' ys.length c') (.slice B' gs.length d')
            have QOY:=rdin_two HOY.out (k:=g11) (fun b hb=>HN11a.out b (by first | exact hb.1 | exact Nat.le_trans HL1.out hb.1) hb.2) (.slice A' ys.length c') (.slice B' gs.length d')
            have QOG:=rdin_two HOG.out (k:=g11) (fun b hb=>HN11a.out b (by first | exact hb.1 | exact Nat.le_trans HL1.out hb.1) hb.2) (.slice A' ys.length c') (.slice B' gs.length d')
            have QOI:=rdin_two HOI.out (k:=g11) (fun b hb=>HN11b.out b (by first | exact hb.1 | exact Nat.le_trans HL2.out hb.1) hb.2) (.slice A' ys.length c') (.slice B' gs.length d')
            have Qt:=below_two t (show w.heap.size ≤ g11 by have:=HG11.out;omega) (.slice A' ys.length c') (.slice B' gs.length d')
            have Qs:=two_size (vd) g11 (.slice A' ys.length c') (.slice B' gs.length d')
            refine hK.out _ _ ⟨QP.cell,QK.cell⟩ (fun hS'=>?_)
            clear hK K0 hS G11 G12 C P O K HOY HOG HOI t
            have hS:=hS'
            clear hS'
            try simp only [Act.put,zq0,zq1,zq2,zq3,zq4,zq5]
            generalize (((vd).setCell ⟨g11,0,none⟩ (.slice A' ys.length c')).setCell ⟨g11,1,none⟩ (.slice B' gs.length d')) = v7 at *
            refine wpAnyH_ready (rs:=[7]) (by kernel_rfl) (by simp) ?_
            refine AllReadyH.cons rfl (fun K0 hK=>?_) AllReadyH.nil
            rw [if_pos (by rfl)]
            have f12:=Q12.free
            have c12:=Q12.cell
            go_simp
            clear f12 c12
            have R12:=box_self4 Q12 (.int .u8 (ki.toNat : Int)) (.int .i64 a) (.int .i64 y) (.slice Dn bs.length dn)
            have R11:=Lib.hid (box_four Q11 (fun e=>hne e.symm) (.int .u8 (ki.toNat : Int)) (.int .i64 a) (.int .i64 y) (.slice Dn bs.length dn))
            have RC:=Lib.hid (box_four QC (show w.heap.size ≠ g12 by have:=HG12.out;omega) (.int .u8 (ki.toNat : Int)) (.int .i64 a) (.int .i64 y) (.slice Dn bs.length dn))
            have RP:=box_four QP (show w.heap.size + 1 ≠ g12 by have:=HG12.out;omega) (.int .u8 (ki.toNat : Int)) (.int .i64 a) (.int .i64 y) (.slice Dn bs.length dn)
            have RO:=Lib.hid (box_four QO (show w.heap.size + 2 ≠ g12 by have:=HG12.out;omega) (.int .u8 (ki.toNat : Int)) (.int .i64 a) (.int .i64 y) (.slice Dn bs.length dn))
            have RK:=box_four QK (show w.heap.size + 3 ≠ g12 by have:=HG12.out;omega) (.int .u8 (ki.toNat : Int)) (.int .i64 a) (.int .i64 y) (.slice Dn bs.length dn)
            have ROY:=Lib.hid (rdin_four QOY (k:=g12) (fun b hb=>HN12a.out b (by first | exact hb.1 | exact Nat.le_trans HL1.out hb.1) hb.2) (.int .u8 (ki.toNat : Int)) (.int .i64 a) (.int .i64 y) (.slice Dn bs.length dn))
            have ROG:=Lib.hid (rdin_four QOG (k:=g12) (fun b hb=>HN12a.out b (by first | exact hb.1 | exact Nat.le_trans HL1.out hb.1) hb.2) (.int .u8 (ki.toNat : Int)) (.int .i64 a) (.int .i64 y) (.slice Dn bs.length dn))
            have ROI:=Lib.hid (rdin_four QOI (k:=g12) (fun b hb=>HN12b.out b (by first | exact hb.1 | exact Nat.le_trans HL2.out hb.1) hb.2) (.int .u8 (ki.toNat : Int)) (.int .i64 a) (.int .i64 y) (.slice Dn bs.length dn))
            have Rt:=Lib.hid (below_four Qt (show w.heap.size ≤ g12 by have:=HG12.out;omega) (.int .u8 (ki.toNat : Int)) (.int .i64 a) (.int .i64 y) (.slice Dn bs.length dn))
            have Rs:=Lib.hid ((four_size v7 g12 (.int .u8 (ki.toNat : Int)) (.int .i64 a) (.int .i64 y) (.slice Dn bs.length dn)).trans Qs)
            have RRP:=Lib.hid RP
            have RRK:=Lib.hid RK
            have RR12:=Lib.hid R12
            refine hK.out _ _ ⟨RP.cell,RK.cell⟩ (fun hS'=>?_)
            clear hK K0 hS hS' QC QP QO QK QOY QOG QOI Qt Qs Q11 Q12 RP RK R12
            try simp only [Act.put,zq0,zq1,zq2,zq3,zq4,zq5]
            refine wpAnyH_done (by kernel_rfl) ?_ _
            have HS1:=Lib.hid h1le
            have HS2:=Lib.hid h2le
            clear h1le h2le hne
            go_wp2_with fail
            go_meet
            exact ⟨g11,g12,A',c',B',d',Dn,dn,rfl,rfl,R11.out,RR12.out,⟨by have:=HG11.out;omega,by have:=HG12.out;omega⟩,ROY.out.mono fun b hb=>⟨by have:=HL1.out;have:=hb.1;omega,by have:=hb.2;have:=HS1.out;have:=Rs.out;omega⟩,ROG.out.mono fun b hb=>⟨by have:=HL1.out;have:=hb.1;omega,by have:=hb.2;have:=HS1.out;have:=Rs.out;omega⟩,ROI.out.mono fun b hb=>⟨by have:=HL2.out;have:=hb.1;omega,by have:=hb.2;have:=HS2.out;have:=Rs.out;omega⟩,Rt.out,RC.out,RRP.out,RO.out,RRK.out⟩
       case rest=>
        clear C P O K t
        obtain ⟨g11,g12,A',c',B',d',Dn,dn,rfl,rfl,G11,G12,hG,hOY,hOG,hOI,t,C,P,O,K⟩:=hcut
        obtain ⟨M0,hM0⟩ : ∃ z : Nat,z = wc.heap.size:=⟨_,rfl⟩
        have hm : M0 ≤ wc.heap.size:=Nat.le_of_eq hM0
        have HG0 : Hid (w.heap.size ≤ M0 ∧ g11 < M0 ∧ g12 < M0 ∧ w.heap.size + 3 < M0):=by have:=t.size;have:=G11.lt;have:=G12.lt;have:=K.lt;show _ ∧ _;omega
        rw [← hM0] at hOY hOG hOI
        have HOY:=Lib.hid hOY
        have HOG:=Lib.hid hOG
        have HOI:=Lib.hid hOI
        clear hOY hOG hOI hM0 hG
        have cc:=C.cell
        go_wp2_with fail
        refine (snew_any ⟨id,m,c,r,l,h⟩ wc).mono ?_
        rintro e v4 ⟨⟨v1,zn,An,cn,rfl,hn1,rn⟩,bc⟩
        clear cc
        have ba:=Ext.alloc (Below.refl v4.heap.size v4) (.cells #[.slice An zn.length cn,.slice none 0 0] 28)
        have nb:=BoxOf.new v4 #[.slice An zn.length cn,.slice none 0 0] 28
        have bb:=Ext.trans bc ba
        have HNY0:=Lib.hid (rn.below ba).tt
        have HN1:=Lib.hid hn1
        clear rn hn1
        replace t:=Ext.trans t bb
        replace P:=P.next bb
        replace K:=K.next bb
        replace C:=C.next bb
        replace O:=O.next bb
        replace G11:=G11.next bb
        replace G12:=G12.next bb
        replace HOY:=Lib.hid (HOY.out.below bb)
        replace HOG:=Lib.hid (HOG.out.below bb)
        replace HOI:=Lib.hid (HOI.out.below bb)
        replace hm:=Nat.le_trans hm bb.size
        (try replace N13:=N13.next bb)
        (try replace M15:=M15.next bb)
        (try replace X17:=X17.next bb)
        (try replace Y19:=Y19.next bb)
        (try replace S21:=S21.next bb)
        (try replace R22:=R22.next bb)
        (try replace T24:=T24.next bb)
        (try replace Q25:=Q25.next bb)
        (try replace W27:=W27.next bb)
        (try replace HNY:=Lib.hid (HNY.out.below bb))
        (try replace HMY:=Lib.hid (HMY.out.below bb))
        (try replace HXY:=Lib.hid (HXY.out.below bb))
        (try replace HXG:=Lib.hid (HXG.out.below bb))
        (try replace SXY:=Lib.hid (SXY.out.below bb))
        (try replace SXG:=Lib.hid (SXG.out.below bb))
        (try replace HYY:=Lib.hid (HYY.out.below bb))
        (try replace HYG:=Lib.hid (HYG.out.below bb))
        (try replace HSY:=Lib.hid (HSY.out.below bb))
        (try replace HSG:=Lib.hid (HSG.out.below bb))
        (try replace HRD:=Lib.hid (HRD.out.below bb))
        (try replace SSY:=Lib.hid (SSY.out.below bb))
        (try replace SSG:=Lib.hid (SSG.out.below bb))
        (try replace SRD:=Lib.hid (SRD.out.below bb))
        (try replace HTY:=Lib.hid (HTY.out.below bb))
        (try replace HTG:=Lib.hid (HTG.out.below bb))
        (try replace HQD:=Lib.hid (HQD.out.below bb))
        (try replace HWY:=Lib.hid (HWY.out.below bb))
        (try replace HWG:=Lib.hid (HWG.out.below bb))
        (try replace SWY:=Lib.hid (SWY.out.below bb))
        (try replace SWG:=Lib.hid (SWG.out.below bb))
        (try replace hxle:=Nat.le_trans hxle bb.size)
        (try replace hsle:=Nat.le_trans hsle bb.size)
        (try replace hwle:=Nat.le_trans hwle bb.size)
        clear bb bc
        go_upto_region 5 with fail
        obtain ⟨g13,hgn⟩ : ∃ z : Nat,z = v4.heap.size:=⟨_,rfl⟩
        rw [← hgn] at nb ⊢
        have Hg13:=Lib.hid hgn
        have N13:=nb
        clear nb hgn ba
        generalize v4.alloc (.cells #[.slice An zn.length cn,.slice none 0 0] 28) = u4 at *
        have HNY:=HNY0
        clear HNY0
        have cc:=C.cell
        go_wp2_with fail
        refine (rnew_any ⟨id,m,c,r,l,h⟩ u4).mono ?_
        rintro e v5 ⟨⟨v2,zm,Am,cm',rfl,hn2,rn⟩,bc⟩
        obtain ⟨rfl,rfl⟩:=HN1.out.one hn2
        clear cc
        have ba:=Ext.alloc (Below.refl v5.heap.size v5) (.cells #[.slice Am zn.length cm',.slice none 0 0] 28)
        have nb:=BoxOf.new v5 #[.slice Am zn.length cm',.slice none 0 0] 28
        have bb:=Ext.trans bc ba
        have HMY0:=Lib.hid (rn.below ba).tt
        clear rn hn2
        replace t:=Ext.trans t bb
        replace P:=P.next bb
        replace K:=K.next bb
        replace C:=C.next bb
        replace O:=O.next bb
        replace G11:=G11.next bb
        replace G12:=G12.next bb
        replace HOY:=Lib.hid (HOY.out.below bb)
        replace HOG:=Lib.hid (HOG.out.below bb)
        replace HOI:=Lib.hid (HOI.out.below bb)
        replace hm:=Nat.le_trans hm bb.size
        (try replace N13:=N13.next bb)
        (try replace M15:=M15.next bb)
        (try replace X17:=X17.next bb)
        (try replace Y19:=Y19.next bb)
        (try replace S21:=S21.next bb)
        (try replace R22:=R22.next bb)
        (try replace T24:=T24.next bb)
        (try replace Q25:=Q25.next bb)
        (try replace W27:=W27.next bb)
        (try replace HNY:=Lib.hid (HNY.out.below bb))
        (try replace HMY:=Lib.hid (HMY.out.below bb))
        (try replace HXY:=Lib.hid (HXY.out.below bb))
        (try replace HXG:=Lib.hid (HXG.out.below bb))
        (try replace SXY:=Lib.hid (SXY.out.below bb))
        (try replace SXG:=Lib.hid (SXG.out.below bb))
        (try replace HYY:=Lib.hid (HYY.out.below bb))
        (try replace HYG:=Lib.hid (HYG.out.below bb))
        (try replace HSY:=Lib.hid (HSY.out.below bb))
        (try replace HSG:=Lib.hid (HSG.out.below bb))
        (try replace HRD:=Lib.hid (HRD.out.below bb))
        (try replace SSY:=Lib.hid (SSY.out.below bb))
        (try replace SSG:=Lib.hid (SSG.out.below bb))
        (try replace SRD:=Lib.hid (SRD.out.below bb))
        (try replace HTY:=Lib.hid (HTY.out.below bb))
        (try replace HTG:=Lib.hid (HTG.out.below bb))
        (try replace HQD:=Lib.hid (HQD.out.below bb))
        (try replace HWY:=Lib.hid (HWY.out.below bb))
        (try replace HWG:=Lib.hid (HWG.out.below bb))
        (try replace SWY:=Lib.hid (SWY.out.below bb))
        (try replace SWG:=Lib.hid (SWG.out.below bb))
        (try replace hxle:=Nat.le_trans hxle bb.size)
        (try replace hsle:=Nat.le_trans hsle bb.size)
        (try replace hwle:=Nat.le_trans hwle bb.size)
        clear bb bc
        go_upto_region 6 with fail
        obtain ⟨g15,hgn⟩ : ∃ z : Nat,z = v5.heap.size:=⟨_,rfl⟩
        rw [← hgn] at nb ⊢
        have Hg15:=Lib.hid hgn
        have M15:=nb
        clear nb hgn ba
        generalize v5.alloc (.cells #[.slice Am zn.length cm',.slice none 0 0] 28) = u5 at *
        have HMY:=HMY0
        clear HMY0
        have cc:=C.cell
        have oc:=G11.cell
        have kc:=G12.cell
        go_wp2_with fail
        refine (sbegin_any (fun _=>True) ⟨id,m,c,r,l,h⟩ ys gs A' c' B' d' n HNI.out ki a y Dn dn bs u5 HOY.out.tt HOG.out.tt HOI.out.tt).mono ?_
        rintro e v6 ⟨⟨v3,zx,hx,Ax,cx,Bx,dx,rfl,hb1,rx,gx⟩,bc⟩
        clear cc oc kc
        have ba:=Ext.alloc (Below.refl v6.heap.size v6) (.cells #[.slice Ax zx.length cx,.slice Bx hx.length dx] 28)
        have nb:=BoxOf.new v6 #[.slice Ax zx.length cx,.slice Bx hx.length dx] 28
        have bb:=Ext.trans bc ba
        have HXY0:=Lib.hid (rx.below ba).tt
        have HXG0:=Lib.hid (gx.below ba).tt
        have SXY0:=Lib.hid (shp_new rx ba)
        have SXG0:=Lib.hid (shp_new gx ba)
        have HB1:=Lib.hid hb1
        have HX:=Lib.hid (And.intro hm bc.size)
        have hxle0:=ba.size
        clear rx gx hb1
        replace t:=Ext.trans t bb
        replace P:=P.next bb
        replace K:=K.next bb
        replace C:=C.next bb
        replace O:=O.next bb
        replace G11:=G11.next bb
        replace G12:=G12.next bb
        replace HOY:=Lib.hid (HOY.out.below bb)
        replace HOG:=Lib.hid (HOG.out.below bb)
        replace HOI:=Lib.hid (HOI.out.below bb)
        replace hm:=Nat.le_trans hm bb.size
        (try replace N13:=N13.next bb)
        (try replace M15:=M15.next bb)
        (try replace X17:=X17.next bb)
        (try replace Y19:=Y19.next bb)
        (try replace S21:=S21.next bb)
        (try replace R22:=R22.next bb)
        (try replace T24:=T24.next bb)
        (try replace Q25:=Q25.next bb)
        (try replace W27:=W27.next bb)
        (try replace HNY:=Lib.hid (HNY.out.below bb))
        (try replace HMY:=Lib.hid (HMY.out.below bb))
        (try replace HXY:=Lib.hid (HXY.out.below bb))
        (try replace HXG:=Lib.hid (HXG.out.below bb))
        (try replace SXY:=Lib.hid (SXY.out.below bb))
        (try replace SXG:=Lib.hid (SXG.out.below bb))
        (try replace HYY:=Lib.hid (HYY.out.below bb))
        (try replace HYG:=Lib.hid (HYG.out.below bb))
        (try replace HSY:=Lib.hid (HSY.out.below bb))
        (try replace HSG:=Lib.hid (HSG.out.below bb))
        (try replace HRD:=Lib.hid (HRD.out.below bb))
        (try replace SSY:=Lib.hid (SSY.out.below bb))
        (try replace SSG:=Lib.hid (SSG.out.below bb))
        (try replace SRD:=Lib.hid (SRD.out.below bb))
        (try replace HTY:=Lib.hid (HTY.out.below bb))
        (try replace HTG:=Lib.hid (HTG.out.below bb))
        (try replace HQD:=Lib.hid (HQD.out.below bb))
        (try replace HWY:=Lib.hid (HWY.out.below bb))
        (try replace HWG:=Lib.hid (HWG.out.below bb))
        (try replace SWY:=Lib.hid (SWY.out.below bb))
        (try replace SWG:=Lib.hid (SWG.out.below bb))
        (try replace hxle:=Nat.le_trans hxle bb.size)
        (try replace hsle:=Nat.le_trans hsle bb.size)
        (try replace hwle:=Nat.le_trans hwle bb.size)
        clear bb bc
        go_upto_region 7 with fail
        obtain ⟨g17,hgn⟩ : ∃ z : Nat,z = v6.heap.size:=⟨_,rfl⟩
        rw [← hgn] at nb ⊢
        have Hg17:=Lib.hid hgn
        have X17:=nb
        clear nb hgn ba
        generalize v6.alloc (.cells #[.slice Ax zx.length cx,.slice Bx hx.length dx] 28) = u6 at *
        have HXY:=HXY0
        have HXG:=HXG0
        have SXY:=SXY0
        have SXG:=SXG0
        have hxle:=hxle0
        clear HXY0 HXG0 SXY0 SXG0 hxle0
        have cc:=C.cell
        have pc:=P.cell
        have kc:=K.cell
        go_wp2_with fail
        refine (rbegin_any _ ⟨id,m,c,r,l,h⟩ ys gs A ca B cb n HNI.out ki a y D dc bs u6 (HY.out.below t) (HG.out.below t) (HD.out.below t)).mono ?_
        rintro e v7 ⟨⟨v4b,zy,hy,Ay,cy,By,dy,rfl,hb2,rx,gx⟩,bc⟩
        obtain ⟨rfl,rfl,rfl⟩:=HB1.out.one hb2
        clear cc pc kc
        have ba:=Ext.alloc (Below.refl v7.heap.size v7) (.cells #[.slice Ay zx.length cy,.slice By hx.length dy] 28)
        have nb:=BoxOf.new v7 #[.slice Ay zx.length cy,.slice By hx.length dy] 28
        have bb:=Ext.trans bc ba
        have HYY0:=Lib.hid (rx.below ba).tt
        have HYG0:=Lib.hid (gx.below ba).tt
        clear rx gx hb2
        replace t:=Ext.trans t bb
        replace P:=P.next bb
        replace K:=K.next bb
        replace C:=C.next bb
        replace O:=O.next bb
        replace G11:=G11.next bb
        replace G12:=G12.next bb
        replace HOY:=Lib.hid (HOY.out.below bb)
        replace HOG:=Lib.hid (HOG.out.below bb)
        replace HOI:=Lib.hid (HOI.out.below bb)
        replace hm:=Nat.le_trans hm bb.size
        (try replace N13:=N13.next bb)
        (try replace M15:=M15.next bb)
        (try replace X17:=X17.next bb)
        (try replace Y19:=Y19.next bb)
        (try replace S21:=S21.next bb)
        (try replace R22:=R22.next bb)
        (try replace T24:=T24.next bb)
        (try replace Q25:=Q25.next bb)
        (try replace W27:=W27.next bb)
        (try replace HNY:=Lib.hid (HNY.out.below bb))
        (try replace HMY:=Lib.hid (HMY.out.below bb))
        (try replace HXY:=Lib.hid (HXY.out.below bb))
        (try replace HXG:=Lib.hid (HXG.out.below bb))
        (try replace SXY:=Lib.hid (SXY.out.below bb))
        (try replace SXG:=Lib.hid (SXG.out.below bb))
        (try replace HYY:=Lib.hid (HYY.out.below bb))
        (try replace HYG:=Lib.hid (HYG.out.below bb))
        (try replace HSY:=Lib.hid (HSY.out.below bb))
        (try replace HSG:=Lib.hid (HSG.out.below bb))
        (try replace HRD:=Lib.hid (HRD.out.below bb))
        (try replace SSY:=Lib.hid (SSY.out.below bb))
        (try replace SSG:=Lib.hid (SSG.out.below bb))
        (try replace SRD:=Lib.hid (SRD.out.below bb))
        (try replace HTY:=Lib.hid (HTY.out.below bb))
        (try replace HTG:=Lib.hid (HTG.out.below bb))
        (try replace HQD:=Lib.hid (HQD.out.below bb))
        (try replace HWY:=Lib.hid (HWY.out.below bb))
        (try replace HWG:=Lib.hid (HWG.out.below bb))
        (try replace SWY:=Lib.hid (SWY.out.below bb))
        (try replace SWG:=Lib.hid (SWG.out.below bb))
        (try replace hxle:=Nat.le_trans hxle bb.size)
        (try replace hsle:=Nat.le_trans hsle bb.size)
        (try replace hwle:=Nat.le_trans hwle bb.size)
        clear bb bc
        go_upto_region 8 with fail
        obtain ⟨g19,hgn⟩ : ∃ z : Nat,z = v7.heap.size:=⟨_,rfl⟩
        rw [← hgn] at nb ⊢
        have Hg19:=Lib.hid hgn
        have Y19:=nb
        clear nb hgn ba
        generalize v7.alloc (.cells #[.slice Ay zx.length cy,.slice By hx.length dy] 28) = u7 at *
        have HYY:=HYY0
        have HYG:=HYG0
        clear HYY0 HYG0
        have cc:=C.cell
        have oc:=G11.cell
        go_wp2_with fail
        refine (send0_any (fun _=>True) ⟨id,m,c,r,l,h⟩ ys gs A' c' B' d' n u7 HOY.out.tt HOG.out.tt).mono ?_
        rintro e v8 ⟨⟨v5,zs,hs,rn,dat,many,As,cs,Bs',ds,Ds,qs,rfl,he1,rx,gx,rd⟩,bc⟩
        clear cc oc
        have ba:=Ext.alloc (Ext.alloc (Below.refl v8.heap.size v8) (.cells #[.slice As zs.length cs,.slice Bs' hs.length ds] 28)) (.cells #[.int .i64 rn,.int .i64 0,.slice Ds dat.length qs,.int .i64 many] 53)
        have nb:=BoxOf.alloc (BoxOf.new v8 #[.slice As zs.length cs,.slice Bs' hs.length ds] 28) (.cells #[.int .i64 rn,.int .i64 0,.slice Ds dat.length qs,.int .i64 many] 53)
        have nc:=BoxOf.new' (v8.alloc (.cells #[.slice As zs.length cs,.slice Bs' hs.length ds] 28)) (v8.heap.size + 1) #[.int .i64 rn,.int .i64 0,.slice Ds dat.length qs,.int .i64 many] 53 (by simp)
        have bb:=Ext.trans bc ba
        have HSY0:=Lib.hid (rx.below ba).tt
        have HSG0:=Lib.hid (gx.below ba).tt
        have HRD0:=Lib.hid (rd.below ba).tt
        have SSY0:=Lib.hid (shp_new rx ba)
        have SSG0:=Lib.hid (shp_new gx ba)
        have SRD0:=Lib.hid (shp_new rd ba)
        have HE1:=Lib.hid he1
        have HSX:=Lib.hid (And.intro hxle bc.size)
        have hsle0:=ba.size
        clear rx gx rd he1
        replace t:=Ext.trans t bb
        replace P:=P.next bb
        replace K:=K.next bb
        replace C:=C.next bb
        replace O:=O.next bb
        replace G11:=G11.next bb
        replace G12:=G12.next bb
        replace HOY:=Lib.hid (HOY.out.below bb)
        replace HOG:=Lib.hid (HOG.out.below bb)
        replace HOI:=Lib.hid (HOI.out.below bb)
        replace hm:=Nat.le_trans hm bb.size
        (try replace N13:=N13.next bb)
        (try replace M15:=M15.next bb)
        (try replace X17:=X17.next bb)
        (try replace Y19:=Y19.next bb)
        (try replace S21:=S21.next bb)
        (try replace R22:=R22.next bb)
        (try replace T24:=T24.next bb)
        (try replace Q25:=Q25.next bb)
        (try replace W27:=W27.next bb)
        (try replace HNY:=Lib.hid (HNY.out.below bb))
        (try replace HMY:=Lib.hid (HMY.out.below bb))
        (try replace HXY:=Lib.hid (HXY.out.below bb))
        (try replace HXG:=Lib.hid (HXG.out.below bb))
        (try replace SXY:=Lib.hid (SXY.out.below bb))
        (try replace SXG:=Lib.hid (SXG.out.below bb))
        (try replace HYY:=Lib.hid (HYY.out.below bb))
        (try replace HYG:=Lib.hid (HYG.out.below bb))
        (try replace HSY:=Lib.hid (HSY.out.below bb))
        (try replace HSG:=Lib.hid (HSG.out.below bb))
        (try replace HRD:=Lib.hid (HRD.out.below bb))
        (try replace SSY:=Lib.hid (SSY.out.below bb))
        (try replace SSG:=Lib.hid (SSG.out.below bb))
        (try replace SRD:=Lib.hid (SRD.out.below bb))
        (try replace HTY:=Lib.hid (HTY.out.below bb))
        (try replace HTG:=Lib.hid (HTG.out.below bb))
        (try replace HQD:=Lib.hid (HQD.out.below bb))
        (try replace HWY:=Lib.hid (HWY.out.below bb))
        (try replace HWG:=Lib.hid (HWG.out.below bb))
        (try replace SWY:=Lib.hid (SWY.out.below bb))
        (try replace SWG:=Lib.hid (SWG.out.below bb))
        (try replace hxle:=Nat.le_trans hxle bb.size)
        (try replace hsle:=Nat.le_trans hsle bb.size)
        (try replace hwle:=Nat.le_trans hwle bb.size)
        clear bb bc
        go_upto_region 9 with fail
        obtain ⟨g21,hgn⟩ : ∃ z : Nat,z = v8.heap.size:=⟨_,rfl⟩
        rw [← hgn] at nb nc ⊢
        have Hg21:=Lib.hid hgn
        have S21:=nb
        have R22:=nc
        clear nb nc hgn ba
        generalize (v8.alloc (.cells #[.slice As zs.length cs,.slice Bs' hs.length ds] 28)).alloc (.cells #[.int .i64 rn,.int .i64 0,.slice Ds dat.length qs,.int .i64 many] 53) = u8 at *
        have HSY:=HSY0
        have HSG:=HSG0
        have HRD:=HRD0
        have SSY:=SSY0
        have SSG:=SSG0
        have SRD:=SRD0
        have hsle:=hsle0
        clear HSY0 HSG0 HRD0 SSY0 SSG0 SRD0 hsle0
        have cc:=C.cell
        have pc:=P.cell
        go_wp2_with fail
        refine (rend_any _ ⟨id,m,c,r,l,h⟩ ys gs A ca B cb n u8 (HY.out.below t) (HG.out.below t)).mono ?_
        rintro e v9 ⟨⟨v6b,zt,ht,rn2,dat2,many2,At,ct,Bt,dt,Dt,qt,rfl,he2,rx,gx,rd⟩,bc⟩
        obtain ⟨rfl,rfl,rfl,rfl,rfl,rfl⟩:=HE1.out.one he2
        clear cc pc
        have ba:=Ext.alloc (Ext.alloc (Below.refl v9.heap.size v9) (.cells #[.slice At zs.length ct,.slice Bt hs.length dt] 28)) (.cells #[.int .i64 rn,.int .i64 0,.slice Dt dat.length qt,.int .i64 many] 53)
        have nb:=BoxOf.alloc (BoxOf.new v9 #[.slice At zs.length ct,.slice Bt hs.length dt] 28) (.cells #[.int .i64 rn,.int .i64 0,.slice Dt dat.length qt,.int .i64 many] 53)
        have nc:=BoxOf.new' (v9.alloc (.cells #[.slice At zs.length ct,.slice Bt hs.length dt] 28)) (v9.heap.size + 1) #[.int .i64 rn,.int .i64 0,.slice Dt dat.length qt,.int .i64 many] 53 (by simp)
        have bb:=Ext.trans bc ba
        have HTY0:=Lib.hid (rx.below ba).tt
        have HTG0:=Lib.hid (gx.below ba).tt
        have HQD0:=Lib.hid (rd.below ba).tt
        clear rx gx rd he2
        replace t:=Ext.trans t bb
        replace P:=P.next bb
        replace K:=K.next bb
        replace C:=C.next bb
        replace O:=O.next bb
        replace G11:=G11.next bb
        replace G12:=G12.next bb
        replace HOY:=Lib.hid (HOY.out.below bb)
        replace HOG:=Lib.hid (HOG.out.below bb)
        replace HOI:=Lib.hid (HOI.out.below bb)
        replace hm:=Nat.le_trans hm bb.size
        (try replace N13:=N13.next bb)
        (try replace M15:=M15.next bb)
        (try replace X17:=X17.next bb)
        (try replace Y19:=Y19.next bb)
        (try replace S21:=S21.next bb)
        (try replace R22:=R22.next bb)
        (try replace T24:=T24.next bb)
        (try replace Q25:=Q25.next bb)
        (try replace W27:=W27.next bb)
        (try replace HNY:=Lib.hid (HNY.out.below bb))
        (try replace HMY:=Lib.hid (HMY.out.below bb))
        (try replace HXY:=Lib.hid (HXY.out.below bb))
        (try replace HXG:=Lib.hid (HXG.out.below bb))
        (try replace SXY:=Lib.hid (SXY.out.below bb))
        (try replace SXG:=Lib.hid (SXG.out.below bb))
        (try replace HYY:=Lib.hid (HYY.out.below bb))
        (try replace HYG:=Lib.hid (HYG.out.below bb))
        (try replace HSY:=Lib.hid (HSY.out.below bb))
        (try replace HSG:=Lib.hid (HSG.out.below bb))
        (try replace HRD:=Lib.hid (HRD.out.below bb))
        (try replace SSY:=Lib.hid (SSY.out.below bb))
        (try replace SSG:=Lib.hid (SSG.out.below bb))
        (try replace SRD:=Lib.hid (SRD.out.below bb))
        (try replace HTY:=Lib.hid (HTY.out.below bb))
        (try replace HTG:=Lib.hid (HTG.out.below bb))
        (try replace HQD:=Lib.hid (HQD.out.below bb))
        (try replace HWY:=Lib.hid (HWY.out.below bb))
        (try replace HWG:=Lib.hid (HWG.out.below bb))
        (try replace SWY:=Lib.hid (SWY.out.below bb))
        (try replace SWG:=Lib.hid (SWG.out.below bb))
        (try replace hxle:=Nat.le_trans hxle bb.size)
        (try replace hsle:=Nat.le_trans hsle bb.size)
        (try replace hwle:=Nat.le_trans hwle bb.size)
        clear bb bc
        go_upto_region 10 with fail
        obtain ⟨g24,hgn⟩ : ∃ z : Nat,z = v9.heap.size:=⟨_,rfl⟩
        rw [← hgn] at nb nc ⊢
        have Hg24:=Lib.hid hgn
        have T24:=nb
        have Q25:=nc
        clear nb nc hgn ba
        generalize (v9.alloc (.cells #[.slice At zs.length ct,.slice Bt hs.length dt] 28)).alloc (.cells #[.int .i64 rn,.int .i64 0,.slice Dt dat.length qt,.int .i64 many] 53) = u9 at *
        have HTY:=HTY0
        have HTG:=HTG0
        have HQD:=HQD0
        clear HTY0 HTG0 HQD0
        have HRL:=Lib.hid R22.lt
        have oc:=G11.cell
        go_wp2_with fail
        refine (stwin_any (fun _=>True) ys gs A' c' B' d' u9 HOY.out.tt HOG.out.tt).mono ?_
        rintro e v10 ⟨⟨vy,vg,mm,rfl,hm1,hm2,O4,G4⟩,bc⟩
        obtain ⟨Aw,cw,rfl⟩:=O4.slice
        obtain ⟨Bw,dw,rfl⟩:=G4.slice
        have rx:=(O4.may_rd HYZ.out).mono (S':=NewB u9.heap.size v10) (fun b hb=>⟨hb.1.1,hb.2.lt,hb.2⟩)
        have gx:=(G4.go_rd HGZ.out).mono (S':=NewB u9.heap.size v10) (fun b hb=>⟨by have:=hb.1.1;omega,hb.2.lt,hb.2⟩)
        clear oc O4 G4 hm1 hm2
        have ba:=Ext.alloc (Below.refl v10.heap.size v10) (.cells #[.slice Aw ys.length cw,.slice Bw gs.length dw] 28)
        have nb:=BoxOf.new v10 #[.slice Aw ys.length cw,.slice Bw gs.length dw] 28
        have bb:=Ext.trans bc ba
        have HWY0:=Lib.hid (rx.below ba).tt
        have HWG0:=Lib.hid (gx.below ba).tt
        have SWY0:=Lib.hid (shp_new rx ba)
        have SWG0:=Lib.hid (shp_new gx ba)
        have HWX:=Lib.hid (And.intro hsle bc.size)
        have hwle0:=ba.size
        replace t:=Ext.trans t bb
        replace P:=P.next bb
        replace K:=K.next bb
        replace C:=C.next bb
        replace O:=O.next bb
        replace G11:=G11.next bb
        replace G12:=G12.next bb
        replace HOY:=Lib.hid (HOY.out.below bb)
        replace HOG:=Lib.hid (HOG.out.below bb)
        replace HOI:=Lib.hid (HOI.out.below bb)
        replace hm:=Nat.le_trans hm bb.size
        (try replace N13:=N13.next bb)
        (try replace M15:=M15.next bb)
        (try replace X17:=X17.next bb)
        (try replace Y19:=Y19.next bb)
        (try replace S21:=S21.next bb)
        (try replace R22:=R22.next bb)
        (try replace T24:=T24.next bb)
        (try replace Q25:=Q25.next bb)
        (try replace W27:=W27.next bb)
        (try replace HNY:=Lib.hid (HNY.out.below bb))
        (try replace HMY:=Lib.hid (HMY.out.below bb))
        (try replace HXY:=Lib.hid (HXY.out.below bb))
        (try replace HXG:=Lib.hid (HXG.out.below bb))
        (try replace SXY:=Lib.hid (SXY.out.below bb))
        (try replace SXG:=Lib.hid (SXG.out.below bb))
        (try replace HYY:=Lib.hid (HYY.out.below bb))
        (try replace HYG:=Lib.hid (HYG.out.below bb))
        (try replace HSY:=Lib.hid (HSY.out.below bb))
        (try replace HSG:=Lib.hid (HSG.out.below bb))
        (try replace HRD:=Lib.hid (HRD.out.below bb))
        (try replace SSY:=Lib.hid (SSY.out.below bb))
        (try replace SSG:=Lib.hid (SSG.out.below bb))
        (try replace SRD:=Lib.hid (SRD.out.below bb))
        (try replace HTY:=Lib.hid (HTY.out.below bb))
        (try replace HTG:=Lib.hid (HTG.out.below bb))
        (try replace HQD:=Lib.hid (HQD.out.below bb))
        (try replace HWY:=Lib.hid (HWY.out.below bb))
        (try replace HWG:=Lib.hid (HWG.out.below bb))
        (try replace SWY:=Lib.hid (SWY.out.below bb))
        (try replace SWG:=Lib.hid (SWG.out.below bb))
        (try replace hxle:=Nat.le_trans hxle bb.size)
        (try replace hsle:=Nat.le_trans hsle bb.size)
        (try replace hwle:=Nat.le_trans hwle bb.size)
        clear rx gx bb bc
        go_upto_region 11 with fail
        obtain ⟨g27,hgn⟩ : ∃ z : Nat,z = v10.heap.size:=⟨_,rfl⟩
        rw [← hgn] at nb ⊢
        have Hg27:=Lib.hid hgn
        have W27:=nb
        clear nb hgn ba
        generalize v10.alloc (.cells #[.slice Aw ys.length cw,.slice Bw gs.length dw] 28) = u10 at *
        have HWY:=HWY0
        have HWG:=HWG0
        have SWY:=SWY0
        have SWG:=SWG0
        have hwle:=hwle0
        clear HWY0 HWG0 SWY0 SWG0 hwle0
        have hv1 : (v1 != v1) = false:=by simp
        have hv3 : (v3 != v3) = false:=by simp
        have hv5 : (v5 != v5) = false:=by simp
        have cla:=N13.cell
        have clm:=M15.cell
        go_wp2_with fail
        refine (rsame_any (fun _=>True) (fun _=>True) zn [] An cn none 0 zn [] Am cm' none 0 u10 HNY.out (rdin_nilG _ _) HMY.out (rdin_nilG _ _)).mono ?_
        rintro e u11 ⟨⟨bt,rfl,hbt⟩,bb⟩
        obtain rfl : bt = true:=hbt.2 (by first | exact ⟨rfl,rfl⟩ | simp)
        clear cla clm hbt N13 M15 HNY HMY
        replace t:=Ext.trans t bb
        replace P:=P.next bb
        replace K:=K.next bb
        replace C:=C.next bb
        replace O:=O.next bb
        replace G11:=G11.next bb
        replace G12:=G12.next bb
        replace HOY:=Lib.hid (HOY.out.below bb)
        replace HOG:=Lib.hid (HOG.out.below bb)
        replace HOI:=Lib.hid (HOI.out.below bb)
        replace hm:=Nat.le_trans hm bb.size
        (try replace N13:=N13.next bb)
        (try replace M15:=M15.next bb)
        (try replace X17:=X17.next bb)
        (try replace Y19:=Y19.next bb)
        (try replace S21:=S21.next bb)
        (try replace R22:=R22.next bb)
        (try replace T24:=T24.next bb)
        (try replace Q25:=Q25.next bb)
        (try replace W27:=W27.next bb)
        (try replace HNY:=Lib.hid (HNY.out.below bb))
        (try replace HMY:=Lib.hid (HMY.out.below bb))
        (try replace HXY:=Lib.hid (HXY.out.below bb))
        (try replace HXG:=Lib.hid (HXG.out.below bb))
        (try replace SXY:=Lib.hid (SXY.out.below bb))
        (try replace SXG:=Lib.hid (SXG.out.below bb))
        (try replace HYY:=Lib.hid (HYY.out.below bb))
        (try replace HYG:=Lib.hid (HYG.out.below bb))
        (try replace HSY:=Lib.hid (HSY.out.below bb))
        (try replace HSG:=Lib.hid (HSG.out.below bb))
        (try replace HRD:=Lib.hid (HRD.out.below bb))
        (try replace SSY:=Lib.hid (SSY.out.below bb))
        (try replace SSG:=Lib.hid (SSG.out.below bb))
        (try replace SRD:=Lib.hid (SRD.out.below bb))
        (try replace HTY:=Lib.hid (HTY.out.below bb))
        (try replace HTG:=Lib.hid (HTG.out.below bb))
        (try replace HQD:=Lib.hid (HQD.out.below bb))
        (try replace HWY:=Lib.hid (HWY.out.below bb))
        (try replace HWG:=Lib.hid (HWG.out.below bb))
        (try replace SWY:=Lib.hid (SWY.out.below bb))
        (try replace SWG:=Lib.hid (SWG.out.below bb))
        (try replace hxle:=Nat.le_trans hxle bb.size)
        (try replace hsle:=Nat.le_trans hsle bb.size)
        (try replace hwle:=Nat.le_trans hwle bb.size)
        clear bb
        have cla:=X17.cell
        have clm:=Y19.cell
        go_wp2_with fail
        refine (rsame_any (fun _=>True) (fun _=>True) zx hx Ax cx Bx dx zx hx Ay cy By dy u11 HXY.out HXG.out HYY.out HYG.out).mono ?_
        rintro e u12 ⟨⟨bt,rfl,hbt⟩,bb⟩
        obtain rfl : bt = true:=hbt.2 (by first | exact ⟨rfl,rfl⟩ | simp)
        clear cla clm hbt Y19 HXY HXG HYY HYG
        replace t:=Ext.trans t bb
        replace P:=P.next bb
        replace K:=K.next bb
        replace C:=C.next bb
        replace O:=O.next bb
        replace G11:=G11.next bb
        replace G12:=G12.next bb
        replace HOY:=Lib.hid (HOY.out.below bb)
        replace HOG:=Lib.hid (HOG.out.below bb)
        replace HOI:=Lib.hid (HOI.out.below bb)
        replace hm:=Nat.le_trans hm bb.size
        (try replace N13:=N13.next bb)
        (try replace M15:=M15.next bb)
        (try replace X17:=X17.next bb)
        (try replace Y19:=Y19.next bb)
        (try replace S21:=S21.next bb)
        (try replace R22:=R22.next bb)
        (try replace T24:=T24.next bb)
        (try replace Q25:=Q25.next bb)
        (try replace W27:=W27.next bb)
        (try replace HNY:=Lib.hid (HNY.out.below bb))
        (try replace HMY:=Lib.hid (HMY.out.below bb))
        (try replace HXY:=Lib.hid (HXY.out.below bb))
        (try replace HXG:=Lib.hid (HXG.out.below bb))
        (try replace SXY:=Lib.hid (SXY.out.below bb))
        (try replace SXG:=Lib.hid (SXG.out.below bb))
        (try replace HYY:=Lib.hid (HYY.out.below bb))
        (try replace HYG:=Lib.hid (HYG.out.below bb))
        (try replace HSY:=Lib.hid (HSY.out.below bb))
        (try replace HSG:=Lib.hid (HSG.out.below bb))
        (try replace HRD:=Lib.hid (HRD.out.below bb))
        (try replace SSY:=Lib.hid (SSY.out.below bb))
        (try replace SSG:=Lib.hid (SSG.out.below bb))
        (try replace SRD:=Lib.hid (SRD.out.below bb))
        (try replace HTY:=Lib.hid (HTY.out.below bb))
        (try replace HTG:=Lib.hid (HTG.out.below bb))
        (try replace HQD:=Lib.hid (HQD.out.below bb))
        (try replace HWY:=Lib.hid (HWY.out.below bb))
        (try replace HWG:=Lib.hid (HWG.out.below bb))
        (try replace SWY:=Lib.hid (SWY.out.below bb))
        (try replace SWG:=Lib.hid (SWG.out.below bb))
        (try replace hxle:=Nat.le_trans hxle bb.size)
        (try replace hsle:=Nat.le_trans hsle bb.size)
        (try replace hwle:=Nat.le_trans hwle bb.size)
        clear bb
        have cla:=S21.cell
        have clm:=T24.cell
        go_wp2_with fail
        refine (rsame_any (fun _=>True) (fun _=>True) zs hs As cs Bs' ds zs hs At ct Bt dt u12 HSY.out HSG.out HTY.out HTG.out).mono ?_
        rintro e u13 ⟨⟨bt,rfl,hbt⟩,bb⟩
        obtain rfl : bt = true:=hbt.2 (by first | exact ⟨rfl,rfl⟩ | simp)
        clear cla clm hbt T24 HSY HSG HTY HTG
        replace t:=Ext.trans t bb
        replace P:=P.next bb
        replace K:=K.next bb
        replace C:=C.next bb
        replace O:=O.next bb
        replace G11:=G11.next bb
        replace G12:=G12.next bb
        replace HOY:=Lib.hid (HOY.out.below bb)
        replace HOG:=Lib.hid (HOG.out.below bb)
        replace HOI:=Lib.hid (HOI.out.below bb)
        replace hm:=Nat.le_trans hm bb.size
        (try replace N13:=N13.next bb)
        (try replace M15:=M15.next bb)
        (try replace X17:=X17.next bb)
        (try replace Y19:=Y19.next bb)
        (try replace S21:=S21.next bb)
        (try replace R22:=R22.next bb)
        (try replace T24:=T24.next bb)
        (try replace Q25:=Q25.next bb)
        (try replace W27:=W27.next bb)
        (try replace HNY:=Lib.hid (HNY.out.below bb))
        (try replace HMY:=Lib.hid (HMY.out.below bb))
        (try replace HXY:=Lib.hid (HXY.out.below bb))
        (try replace HXG:=Lib.hid (HXG.out.below bb))
        (try replace SXY:=Lib.hid (SXY.out.below bb))
        (try replace SXG:=Lib.hid (SXG.out.below bb))
        (try replace HYY:=Lib.hid (HYY.out.below bb))
        (try replace HYG:=Lib.hid (HYG.out.below bb))
        (try replace HSY:=Lib.hid (HSY.out.below bb))
        (try replace HSG:=Lib.hid (HSG.out.below bb))
        (try replace HRD:=Lib.hid (HRD.out.below bb))
        (try replace SSY:=Lib.hid (SSY.out.below bb))
        (try replace SSG:=Lib.hid (SSG.out.below bb))
        (try replace SRD:=Lib.hid (SRD.out.below bb))
        (try replace HTY:=Lib.hid (HTY.out.below bb))
        (try replace HTG:=Lib.hid (HTG.out.below bb))
        (try replace HQD:=Lib.hid (HQD.out.below bb))
        (try replace HWY:=Lib.hid (HWY.out.below bb))
        (try replace HWG:=Lib.hid (HWG.out.below bb))
        (try replace SWY:=Lib.hid (SWY.out.below bb))
        (try replace SWG:=Lib.hid (SWG.out.below bb))
        (try replace hxle:=Nat.le_trans hxle bb.size)
        (try replace hsle:=Nat.le_trans hsle bb.size)
        (try replace hwle:=Nat.le_trans hwle bb.size)
        clear bb
        have cla:=R22.cell
        have clm:=Q25.cell
        have cln:=(Q25.alloc (.cells #[.int .i64 rn,.int .i64 0,.slice Ds dat.length qs,.int .i64 many] 53)).cell
        have ba:=Ext.alloc (Ext.alloc (Below.refl u13.heap.size u13) (.cells #[.int .i64 rn,.int .i64 0,.slice Ds dat.length qs,.int .i64 many] 53)) (.cells #[.int .i64 rn,.int .i64 0,.slice Dt dat.length qt,.int .i64 many] 53)
        have RA:=BoxOf.alloc (BoxOf.new u13 #[.int .i64 rn,.int .i64 0,.slice Ds dat.length qs,.int .i64 many] 53) (.cells #[.int .i64 rn,.int .i64 0,.slice Dt dat.length qt,.int .i64 many] 53)
        have RB:=BoxOf.new' (u13.alloc (.cells #[.int .i64 rn,.int .i64 0,.slice Ds dat.length qs,.int .i64 many] 53)) (u13.heap.size + 1) #[.int .i64 rn,.int .i64 0,.slice Dt dat.length qt,.int .i64 many] 53 (by simp)
        have HRS:=Lib.hid (rsamerep_any rn many dat Ds qs Dt qt u13.heap.size (u13.heap.size + 1) _ RA RB (HRD.out.below ba).bytes_bs (HQD.out.below ba).bytes_bs)
        have HBA:=Lib.hid ba
        clear RA RB ba
        go_wp2_with fail
        refine HRS.out.mono ?_
        rintro e u14 ⟨rfl,bs4⟩
        have bb:=Ext.trans HBA.out bs4
        clear cla clm cln HRS HBA bs4 Q25 HRD HQD
        replace t:=Ext.trans t bb
        replace P:=P.next bb
        replace K:=K.next bb
        replace C:=C.next bb
        replace O:=O.next bb
        replace G11:=G11.next bb
        replace G12:=G12.next bb
        replace HOY:=Lib.hid (HOY.out.below bb)
        replace HOG:=Lib.hid (HOG.out.below bb)
        replace HOI:=Lib.hid (HOI.out.below bb)
        replace hm:=Nat.le_trans hm bb.size
        (try replace N13:=N13.next bb)
        (try replace M15:=M15.next bb)
        (try replace X17:=X17.next bb)
        (try replace Y19:=Y19.next bb)
        (try replace S21:=S21.next bb)
        (try replace R22:=R22.next bb)
        (try replace T24:=T24.next bb)
        (try replace Q25:=Q25.next bb)
        (try replace W27:=W27.next bb)
        (try replace HNY:=Lib.hid (HNY.out.below bb))
        (try replace HMY:=Lib.hid (HMY.out.below bb))
        (try replace HXY:=Lib.hid (HXY.out.below bb))
        (try replace HXG:=Lib.hid (HXG.out.below bb))
        (try replace SXY:=Lib.hid (SXY.out.below bb))
        (try replace SXG:=Lib.hid (SXG.out.below bb))
        (try replace HYY:=Lib.hid (HYY.out.below bb))
        (try replace HYG:=Lib.hid (HYG.out.below bb))
        (try replace HSY:=Lib.hid (HSY.out.below bb))
        (try replace HSG:=Lib.hid (HSG.out.below bb))
        (try replace HRD:=Lib.hid (HRD.out.below bb))
        (try replace SSY:=Lib.hid (SSY.out.below bb))
        (try replace SSG:=Lib.hid (SSG.out.below bb))
        (try replace SRD:=Lib.hid (SRD.out.below bb))
        (try replace HTY:=Lib.hid (HTY.out.below bb))
        (try replace HTG:=Lib.hid (HTG.out.below bb))
        (try replace HQD:=Lib.hid (HQD.out.below bb))
        (try replace HWY:=Lib.hid (HWY.out.below bb))
        (try replace HWG:=Lib.hid (HWG.out.below bb))
        (try replace SWY:=Lib.hid (SWY.out.below bb))
        (try replace SWG:=Lib.hid (SWG.out.below bb))
        (try replace hxle:=Nat.le_trans hxle bb.size)
        (try replace hsle:=Nat.le_trans hsle bb.size)
        (try replace hwle:=Nat.le_trans hwle bb.size)
        clear bb
        go_upto_region 13 with fail
        clear hv1 hv3 hv5
        obtain ⟨vk,hvk⟩ : ∃ vk : Int,∀ e,OkBad (PlainOk ⟨id,m,c,r,l,h⟩ ys gs) e → e = .returned (.int .i64 vk):=by
         by_cases hp : PlainOk ⟨id,m,c,r,l,h⟩ ys gs
         · exact ⟨0,fun e he=>he.elim (fun h1=>h1.2) (fun h1=>absurd hp h1.1)⟩
         · exact ⟨8,fun e he=>he.elim (fun h1=>absurd h1.1 hp) (fun h1=>h1.2)⟩
        obtain ⟨bq,hbq⟩ : ∃ bq : Bool,∀ e,YesNo (ys = us ∧ gs = fs) e → e = .returned (.bool bq):=by
         obtain ⟨bq,hq⟩:=some_bool (ys = us ∧ gs = fs)
         exact ⟨bq,fun e he=>he.is hq⟩
        have hkk : (vk != vk) = false:=by simp
        have hqq : (bq != bq) = false:=by simp
        have tC:=Lib.hid t
        have J2 : Hid (∀ w',Below u14.heap.size u14 w' → Calls Try.prog 15 #[.agg #[.slice Aw ys.length cw,.slice Bw gs.length dw],.agg #[.slice A ys.length ca,.slice B gs.length cb]] w' fun e w''=>e = .returned (.bool true) ∧ Below w'.heap.size w' w''):=fun w' b=>(rsame_any (fun _=>True) (fun _=>True) ys gs Aw cw Bw dw ys gs A ca B cb w' (HWY.out.below b) (HWG.out.below b) (HY.out.below (Ext.trans tC.out b)).tt (HG.out.below (Ext.trans tC.out b)).tt).mono (by rintro e w'' ⟨⟨bt,rfl,hbt⟩,b'⟩;obtain rfl : bt = true:=hbt.2 ⟨rfl,rfl⟩;exact ⟨rfl,b'⟩)
        have J7 : Hid (∀ w',Below u14.heap.size u14 w' → Calls Try.prog 18 #[.agg #[.int .u32 (id : Int),.int .i64 m,.int .i64 c,.int .i64 r,.int .i64 l,.int .i64 h],.agg #[.slice A' ys.length c',.slice B' gs.length d']] w' fun e w''=>e = .returned (.int .i64 vk) ∧ Below w'.heap.size w' w''):=fun w' b=>(spcheck_any (fun _=>True) ⟨id,m,c,r,l,h⟩ ys gs A' c' B' d' w' (HOY.out.below b).tt (HOG.out.below b).tt).mono (fun e w'' he=>⟨hvk e he.1,he.2⟩)
        have J10 : Hid (∀ w',Below u14.heap.size u14 w' → Calls Try.prog 35 #[.agg #[.int .u32 (id : Int),.int .i64 m,.int .i64 c,.int .i64 r,.int .i64 l,.int .i64 h],.agg #[.slice A ys.length ca,.slice B gs.length cb]] w' fun e w''=>e = .returned (.int .i64 vk) ∧ Below w'.heap.size w' w''):=fun w' b=>(rchk_any (fun _=>True) ⟨id,m,c,r,l,h⟩ ys gs A ca B cb w' (HY.out.below (Ext.trans tC.out b)).tt (HG.out.below (Ext.trans tC.out b)).tt).mono (fun e w'' he=>⟨hvk e he.1,he.2⟩)
        have J16 : Hid (∀ w',Below u14.heap.size u14 w' → Calls Try.prog 20 #[.agg #[.slice A' ys.length c',.slice B' gs.length d'],.agg #[.slice U us.length uc,.slice F fs.length fc]] w' fun e w''=>e = .returned (.bool bq) ∧ Below w'.heap.size w' w''):=fun w' b=>(ssame_any (fun _=>True) (fun _=>True) ys gs A' c' B' d' us fs U uc F fc w' (HOY.out.below b).tt (HOG.out.below b).tt (HU.out.below (Ext.trans tC.out b)).tt (HF.out.below (Ext.trans tC.out b)).tt).mono (fun e w'' he=>⟨hbq e he.1,he.2⟩)
        have J19 : Hid (∀ w',Below u14.heap.size u14 w' → Calls Try.prog 15 #[.agg #[.slice A ys.length ca,.slice B gs.length cb],.agg #[.slice U us.length uc,.slice F fs.length fc]] w' fun e w''=>e = .returned (.bool bq) ∧ Below w'.heap.size w' w''):=fun w' b=>(rsame_any (fun _=>True) (fun _=>True) ys gs A ca B cb us fs U uc F fc w' (HY.out.below (Ext.trans tC.out b)).tt (HG.out.below (Ext.trans tC.out b)).tt (HU.out.below (Ext.trans tC.out b)).tt (HF.out.below (Ext.trans tC.out b)).tt).mono (fun e w'' he=>⟨hbq e he.1,he.2⟩)
        clear hvk hbq
        have HW27:=Lib.hid W27
        have HPB:=Lib.hid P
        have HCB:=Lib.hid C
        have HGB:=Lib.hid G11
        have HOB:=Lib.hid O
        have HS : Hid (∀ w',Below u14.heap.size u14 w' → (Below u14.heap.size u14 w' ∧ (∀ p,w'.cell? ⟨g27,p,none⟩ = (#[.slice Aw ys.length cw,.slice Bw gs.length dw] : Array Value).toList[p]?) ∧ (∀ p,w'.cell? ⟨w.heap.size + 1,p,none⟩ = (#[.slice A ys.length ca,.slice B gs.length cb] : Array Value).toList[p]?) ∧ (∀ p,w'.cell? ⟨w.heap.size,p,none⟩ = (#[.int .u32 (id : Int),.int .i64 m,.int .i64 c,.int .i64 r,.int .i64 l,.int .i64 h] : Array Value).toList[p]?) ∧ (∀ p,w'.cell? ⟨g11,p,none⟩ = (#[.slice A' ys.length c',.slice B' gs.length d'] : Array Value).toList[p]?) ∧ (∀ p,w'.cell? ⟨w.heap.size + 2,p,none⟩ = (#[.slice U us.length uc,.slice F fs.length fc] : Array Value).toList[p]?))):=fun w' b=>⟨b,(HW27.out.next b).cell,(HPB.out.next b).cell,(HCB.out.next b).cell,(HGB.out.next b).cell,(HOB.out.next b).cell⟩
        refine wp_region_held_drew (S:=fun w'=>Below u14.heap.size u14 w' ∧ (∀ p,w'.cell? ⟨g27,p,none⟩ = (#[.slice Aw ys.length cw,.slice Bw gs.length dw] : Array Value).toList[p]?) ∧ (∀ p,w'.cell? ⟨w.heap.size + 1,p,none⟩ = (#[.slice A ys.length ca,.slice B gs.length cb] : Array Value).toList[p]?) ∧ (∀ p,w'.cell? ⟨w.heap.size,p,none⟩ = (#[.int .u32 (id : Int),.int .i64 m,.int .i64 c,.int .i64 r,.int .i64 l,.int .i64 h] : Array Value).toList[p]?) ∧ (∀ p,w'.cell? ⟨g11,p,none⟩ = (#[.slice A' ys.length c',.slice B' gs.length d'] : Array Value).toList[p]?) ∧ (∀ p,w'.cell? ⟨w.heap.size + 2,p,none⟩ = (#[.slice U us.length uc,.slice F fs.length fc] : Array Value).toList[p]?)) (by kernel_rfl) (HS.out _ (Ext.drew (Below.refl _ _))) (fun hS=>?_)
        refine wpAnyH_take (i:=0) (v:=?_) rfl (by kernel_rfl) (by kernel_rfl) (by kernel_rfl) (fun _ _ _ h=>h) (Or.inl ⟨by rfl,?_⟩) hS ?_
        rotate_left
        · (intro w hSw;(try dsimp only at hSw);go_simp;(try with_reducible rfl))
        rotate_left
        simp only [Act.put,zq0,zq1,zq2,zq3,zq4,zq5]
        refine wpAnyH_take (i:=1) (v:=?_) rfl (by kernel_rfl) (by kernel_rfl) (by kernel_rfl) (fun _ _ _ h=>h) (Or.inl ⟨by rfl,?_⟩) hS ?_
        rotate_left
        · (intro w hSw;(try dsimp only at hSw);go_simp;(try with_reducible rfl))
        rotate_left
        simp only [Act.put,zq0,zq1,zq2,zq3,zq4,zq5]
        refine wpAnyH_ready (rs:=[2]) (by kernel_rfl) (by simp) ?_
        refine AllReadyH.cons rfl (fun K hK=>?_) AllReadyH.nil
        rw [if_pos (by rfl)]
        go_simp
        refine (J2.out _ hS.1).mono ?_
        rintro e w3 ⟨rfl,k3⟩
        refine hK.out _ _ (HS.out _ (Ext.trans hS.1 k3)) (fun hS'=>?_)
        clear hK K hS k3
        have hS:=hS'
        clear hS'
        try simp only [Act.put,zq0,zq1,zq2,zq3,zq4,zq5]
        refine wpAnyH_take (i:=3) (v:=?_) rfl (by kernel_rfl) (by kernel_rfl) (by kernel_rfl) (fun _ _ _ h=>h) (Or.inl ⟨by rfl,?_⟩) hS ?_
        rotate_left
        · (intro w hSw;(try dsimp only at hSw);go_simp;(try with_reducible rfl))
        rotate_left
        simp only [Act.put,zq0,zq1,zq2,zq3,zq4,zq5]
        refine wpAnyH_take (i:=4) (v:=?_) rfl (by kernel_rfl) (by kernel_rfl) (by kernel_rfl) (fun _ _ _ h=>h) (Or.inl ⟨by rfl,?_⟩) hS ?_
        rotate_left
        · (intro w hSw;(try dsimp only at hSw);go_simp;(try with_reducible rfl))
        rotate_left
        simp only [Act.put,zq0,zq1,zq2,zq3,zq4,zq5]
        refine wpAnyH_take (i:=5) (v:=?_) rfl (by kernel_rfl) (by kernel_rfl) (by kernel_rfl) (fun _ _ _ h=>h) (Or.inl ⟨by rfl,?_⟩) hS ?_
        rotate_left
        · (intro w hSw;(try dsimp only at hSw);go_simp;(try with_reducible rfl))
        rotate_left
        simp only [Act.put,zq0,zq1,zq2,zq3,zq4,zq5]
        refine wpAnyH_take (i:=6) (v:=?_) rfl (by kernel_rfl) (by kernel_rfl) (by kernel_rfl) (fun _ _ _ h=>h) (Or.inl ⟨by rfl,?_⟩) hS ?_
        rotate_left
        · (intro w hSw;(try dsimp only at hSw);go_simp;(try with_reducible rfl))
        rotate_left
        simp only [Act.put,zq0,zq1,zq2,zq3,zq4,zq5]
        refine wpAnyH_take (i:=8) (v:=?_) rfl (by kernel_rfl) (by kernel_rfl) (by kernel_rfl) (fun _ _ _ h=>h) (Or.inl ⟨by rfl,?_⟩) hS ?_
        rotate_left
        · (intro w hSw;(try dsimp only at hSw);go_simp;(try with_reducible rfl))
        rotate_left
        simp only [Act.put,zq0,zq1,zq2,zq3,zq4,zq5]
        refine wpAnyH_take (i:=9) (v:=?_) rfl (by kernel_rfl) (by kernel_rfl) (by kernel_rfl) (fun _ _ _ h=>h) (Or.inl ⟨by rfl,?_⟩) hS ?_
        rotate_left
        · (intro w hSw;(try dsimp only at hSw);go_simp;(try with_reducible rfl))
        rotate_left
        simp only [Act.put,zq0,zq1,zq2,zq3,zq4,zq5]
        refine wpAnyH_ready (rs:=[7]) (by kernel_rfl) (by simp) ?_
        refine AllReadyH.cons rfl (fun K hK=>?_) AllReadyH.nil
        rw [if_pos (by rfl)]
        go_simp
        refine (J7.out _ hS.1).mono ?_
        rintro e w3 ⟨rfl,k3⟩
        refine hK.out _ _ (HS.out _ (Ext.trans hS.1 k3)) (fun hS'=>?_)
        clear hK K hS k3
        have hS:=hS'
        clear hS'
        try simp only [Act.put,zq0,zq1,zq2,zq3,zq4,zq5]
        refine wpAnyH_ready (rs:=[10]) (by kernel_rfl) (by simp) ?_
        refine AllReadyH.cons rfl (fun K hK=>?_) AllReadyH.nil
        rw [if_pos (by rfl)]
        go_simp
        refine (J10.out _ hS.1).mono ?_
        rintro e w3 ⟨rfl,k3⟩
        refine hK.out _ _ (HS.out _ (Ext.trans hS.1 k3)) (fun hS'=>?_)
        clear hK K hS k3
        have hS:=hS'
        clear hS'
        try simp only [Act.put,zq0,zq1,zq2,zq3,zq4,zq5]
        refine wpAnyH_take (i:=11) (v:=?_) rfl (by kernel_rfl) (by kernel_rfl) (by kernel_rfl) (fun _ _ _ h=>h) (Or.inl ⟨by rfl,?_⟩) hS ?_
        rotate_left
        · (intro w hSw;(try dsimp only at hSw);go_simp;(try with_reducible rfl))
        rotate_left
        simp only [Act.put,zq0,zq1,zq2,zq3,zq4,zq5]
        refine wpAnyH_take (i:=12) (v:=?_) rfl (by kernel_rfl) (by kernel_rfl) (by kernel_rfl) (fun _ _ _ h=>h) (Or.inl ⟨by rfl,?_⟩) hS ?_
        rotate_left
        · (intro w hSw;(try dsimp only at hSw);go_simp;(try with_reducible rfl))
        rotate_left
        simp only [Act.put,zq0,zq1,zq2,zq3,zq4,zq5]
        refine wpAnyH_take (i:=13) (v:=?_) rfl (by kernel_rfl) (by kernel_rfl) (by kernel_rfl) (fun _ _ _ h=>h) (Or.inl ⟨by rfl,?_⟩) hS ?_
        rotate_left
        · (intro w hSw;(try dsimp only at hSw);go_simp;(try with_reducible rfl))
        rotate_left
        simp only [Act.put,zq0,zq1,zq2,zq3,zq4,zq5]
        refine wpAnyH_take (i:=14) (v:=?_) rfl (by kernel_rfl) (by kernel_rfl) (by kernel_rfl) (fun _ _ _ h=>h) (Or.inl ⟨by rfl,?_⟩) hS ?_
        rotate_left
        · (intro w hSw;(try dsimp only at hSw);go_simp;(try with_reducible rfl))
        rotate_left
        simp only [Act.put,zq0,zq1,zq2,zq3,zq4,zq5]
        refine wpAnyH_take (i:=15) (v:=?_) rfl (by kernel_rfl) (by kernel_rfl) (by kernel_rfl) (fun _ _ _ h=>h) (Or.inl ⟨by rfl,?_⟩) hS ?_
        rotate_left
        · (intro w hSw;(try dsimp only at hSw);go_simp;(try with_reducible rfl))
        rotate_left
        simp only [Act.put,zq0,zq1,zq2,zq3,zq4,zq5]
        refine wpAnyH_take (i:=17) (v:=?_) rfl (by kernel_rfl) (by kernel_rfl) (by kernel_rfl) (fun _ _ _ h=>h) (Or.inl ⟨by rfl,?_⟩) hS ?_
        rotate_left
        · (intro w hSw;(try dsimp only at hSw);go_simp;(try with_reducible rfl))
        rotate_left
        simp only [Act.put,zq0,zq1,zq2,zq3,zq4,zq5]
        refine wpAnyH_take (i:=18) (v:=?_) rfl (by kernel_rfl) (by kernel_rfl) (by kernel_rfl) (fun _ _ _ h=>h) (Or.inl ⟨by rfl,?_⟩) hS ?_
        rotate_left
        · (intro w hSw;(try dsimp only at hSw);go_simp;(try with_reducible rfl))
        rotate_left
        simp only [Act.put,zq0,zq1,zq2,zq3,zq4,zq5]
        refine wpAnyH_ready (rs:=[16]) (by kernel_rfl) (by simp) ?_
        refine AllReadyH.cons rfl (fun K hK=>?_) AllReadyH.nil
        rw [if_pos (by rfl)]
        go_simp
        refine (J16.out _ hS.1).mono ?_
        rintro e w3 ⟨rfl,k3⟩
        refine hK.out _ _ (HS.out _ (Ext.trans hS.1 k3)) (fun hS'=>?_)
        clear hK K hS k3
        have hS:=hS'
        clear hS'
        try simp only [Act.put,zq0,zq1,zq2,zq3,zq4,zq5]
        refine wpAnyH_ready (rs:=[19]) (by kernel_rfl) (by simp) ?_
        refine AllReadyH.cons rfl (fun K hK=>?_) AllReadyH.nil
        rw [if_pos (by rfl)]
        go_simp
        refine (J19.out _ hS.1).mono ?_
        rintro e w3 ⟨rfl,k3⟩
        refine hK.out _ _ (HS.out _ (Ext.trans hS.1 k3)) (fun hS'=>?_)
        clear hK K hS k3
        have hS:=hS'
        clear hS'
        try simp only [Act.put,zq0,zq1,zq2,zq3,zq4,zq5]
        refine wpAnyH_take (i:=20) (v:=?_) rfl (by kernel_rfl) (by kernel_rfl) (by kernel_rfl) (fun _ _ _ h=>h) (Or.inl ⟨by rfl,?_⟩) hS ?_
        rotate_left
        · (intro w hSw;(try dsimp only at hSw);go_simp;(try with_reducible rfl))
        rotate_left
        simp only [Act.put,zq0,zq1,zq2,zq3,zq4,zq5]
        refine wpAnyH_take (i:=21) (v:=?_) rfl (by kernel_rfl) (by kernel_rfl) (by kernel_rfl) (fun _ _ _ h=>h) (Or.inl ⟨by rfl,?_⟩) hS ?_
        rotate_left
        · (intro w hSw;(try dsimp only at hSw);go_simp;(try with_reducible rfl))
        rotate_left
        simp only [Act.put,zq0,zq1,zq2,zq3,zq4,zq5]
        refine wpAnyH_done (by kernel_rfl) ?_ _
        have bb:=hS.1
        clear hS HS hkk hqq J2 J7 J10 J16 J19 HW27 HPB HCB HGB HOB tC
        replace t:=Ext.trans t bb
        replace P:=P.next bb
        replace K:=K.next bb
        replace C:=C.next bb
        replace O:=O.next bb
        replace G11:=G11.next bb
        replace G12:=G12.next bb
        replace HOY:=Lib.hid (HOY.out.below bb)
        replace HOG:=Lib.hid (HOG.out.below bb)
        replace HOI:=Lib.hid (HOI.out.below bb)
        replace hm:=Nat.le_trans hm bb.size
        (try replace N13:=N13.next bb)
        (try replace M15:=M15.next bb)
        (try replace X17:=X17.next bb)
        (try replace Y19:=Y19.next bb)
        (try replace S21:=S21.next bb)
        (try replace R22:=R22.next bb)
        (try replace T24:=T24.next bb)
        (try replace Q25:=Q25.next bb)
        (try replace W27:=W27.next bb)
        (try replace HNY:=Lib.hid (HNY.out.below bb))
        (try replace HMY:=Lib.hid (HMY.out.below bb))
        (try replace HXY:=Lib.hid (HXY.out.below bb))
        (try replace HXG:=Lib.hid (HXG.out.below bb))
        (try replace SXY:=Lib.hid (SXY.out.below bb))
        (try replace SXG:=Lib.hid (SXG.out.below bb))
        (try replace HYY:=Lib.hid (HYY.out.below bb))
        (try replace HYG:=Lib.hid (HYG.out.below bb))
        (try replace HSY:=Lib.hid (HSY.out.below bb))
        (try replace HSG:=Lib.hid (HSG.out.below bb))
        (try replace HRD:=Lib.hid (HRD.out.below bb))
        (try replace SSY:=Lib.hid (SSY.out.below bb))
        (try replace SSG:=Lib.hid (SSG.out.below bb))
        (try replace SRD:=Lib.hid (SRD.out.below bb))
        (try replace HTY:=Lib.hid (HTY.out.below bb))
        (try replace HTG:=Lib.hid (HTG.out.below bb))
        (try replace HQD:=Lib.hid (HQD.out.below bb))
        (try replace HWY:=Lib.hid (HWY.out.below bb))
        (try replace HWG:=Lib.hid (HWG.out.below bb))
        (try replace SWY:=Lib.hid (SWY.out.below bb))
        (try replace SWG:=Lib.hid (SWG.out.below bb))
        (try replace hxle:=Nat.le_trans hxle bb.size)
        (try replace hsle:=Nat.le_trans hsle bb.size)
        (try replace hwle:=Nat.le_trans hwle bb.size)
        clear bb
        have h0:=HG0.out
        have hx0:=HX.out
        have hs0:=HSX.out
        have hw0:=HWX.out
        have hrl:=HRL.out
        have q21:=Hg21.out
        have q27:=Hg27.out
        have HALL:=Lib.hid (And.intro h0 (And.intro hx0 (And.intro hs0 (And.intro hw0 (And.intro hrl (And.intro q21 q27))))))
        clear h0 hx0 hs0 hw0 hrl q21 q27 C O
        have cla:=X17.cell
        go_wp2_with fail
        refine (turnS_any u5.heap.size v6.heap.size Ax zx.length cx Bx hx.length dx w3 SXY.out SXG.out HX.out.2 hxle).mono ?_
        rintro e u15 ⟨⟨vt,rfl⟩,hw⟩
        have hall:=HALL.out
        replace P:=P.within hw.within (.inl (by omega))
        replace K:=K.within hw.within (.inl (by omega))
        replace G11:=G11.within hw.within (.inl (by omega))
        replace G12:=G12.within hw.within (.inl (by omega))
        replace S21:=S21.within hw.within (.inr (by omega))
        replace R22:=R22.within hw.within (.inr (by omega))
        replace W27:=W27.within hw.within (.inr (by omega))
        replace HOY:=Lib.hid (HOY.out.within hw.within (fun b hb=>.inl (by have:=hb.2;omega)))
        replace HOG:=Lib.hid (HOG.out.within hw.within (fun b hb=>.inl (by have:=hb.2;omega)))
        replace HOI:=Lib.hid (HOI.out.within hw.within (fun b hb=>.inl (by have:=hb.2;omega)))
        replace t:=Below.trans t (Below.mono hw.within.below (by omega))
        replace SSY:=Lib.hid (SSY.out.within hw.within (.inr (by omega)))
        replace SSG:=Lib.hid (SSG.out.within hw.within (.inr (by omega)))
        replace SRD:=Lib.hid (SRD.out.within hw.within (.inr (by omega)))
        replace SWY:=Lib.hid (SWY.out.within hw.within (.inr (by omega)))
        replace SWG:=Lib.hid (SWG.out.within hw.within (.inr (by omega)))
        replace hsle:=Nat.le_trans hsle hw.within.below.size
        replace hwle:=Nat.le_trans hwle hw.within.below.size
        clear cla hw X17 SXY SXG hxle hall
        have cla:=S21.cell
        go_wp2_with fail
        refine (turnS_any u7.heap.size v8.heap.size As zs.length cs Bs' hs.length ds u15 SSY.out SSG.out HSX.out.2 hsle).mono ?_
        rintro e u16 ⟨⟨vt2,rfl⟩,hw⟩
        have hall:=HALL.out
        replace P:=P.within hw.within (.inl (by omega))
        replace K:=K.within hw.within (.inl (by omega))
        replace G11:=G11.within hw.within (.inl (by omega))
        replace G12:=G12.within hw.within (.inl (by omega))
        replace R22:=R22.within hw.within (.inr (by omega))
        replace W27:=W27.within hw.within (.inr (by omega))
        replace HOY:=Lib.hid (HOY.out.within hw.within (fun b hb=>.inl (by have:=hb.2;omega)))
        replace HOG:=Lib.hid (HOG.out.within hw.within (fun b hb=>.inl (by have:=hb.2;omega)))
        replace HOI:=Lib.hid (HOI.out.within hw.within (fun b hb=>.inl (by have:=hb.2;omega)))
        replace t:=Below.trans t (Below.mono hw.within.below (by omega))
        replace SRD:=Lib.hid (hw.shapes _ _ SRD.out)
        replace SWY:=Lib.hid (SWY.out.within hw.within (.inr (by omega)))
        replace SWG:=Lib.hid (SWG.out.within hw.within (.inr (by omega)))
        replace hsle:=Nat.le_trans hsle hw.within.below.size
        replace hwle:=Nat.le_trans hwle hw.within.below.size
        clear cla hw S21 SSY SSG hall
        have cla:=W27.cell
        go_wp2_with fail
        refine (turnS_any u9.heap.size v10.heap.size Aw ys.length cw Bw gs.length dw u16 SWY.out SWG.out HWX.out.2 hwle).mono ?_
        rintro e u17 ⟨⟨vt3,rfl⟩,hw⟩
        have hall:=HALL.out
        replace P:=P.within hw.within (.inl (by omega))
        replace K:=K.within hw.within (.inl (by omega))
        replace G11:=G11.within hw.within (.inl (by omega))
        replace G12:=G12.within hw.within (.inl (by omega))
        replace R22:=R22.within hw.within (.inl (by omega))
        replace HOY:=Lib.hid (HOY.out.within hw.within (fun b hb=>.inl (by have:=hb.2;omega)))
        replace HOG:=Lib.hid (HOG.out.within hw.within (fun b hb=>.inl (by have:=hb.2;omega)))
        replace HOI:=Lib.hid (HOI.out.within hw.within (fun b hb=>.inl (by have:=hb.2;omega)))
        replace t:=Below.trans t (Below.mono hw.within.below (by omega))
        replace SRD:=Lib.hid (SRD.out.within hw.within (.inl (by omega)))
        replace hsle:=Nat.le_trans hsle hw.within.below.size
        clear cla hw W27 SWY SWG hwle hall
        have HLD : Hid (dat.length ≤ maxLen):=by
         obtain ⟨xd,hxd⟩:=SRD.out
         obtain ⟨A1,c1,e1,h1,h2,_⟩:=rdin_sl.1 hxd
         injection e1 with e1 _
         injection e1 with _ e2 _
         show _ ≤ _
         rw [e2]
         exact Nat.le_trans h1 h2
        have cla:=R22.cell
        go_wp2
        clear cla
        go_loopw [28] (fun i wr=>∃ (j : Nat),j ≤ dat.length ∧ i = .int .i64 j ∧ Turns u7.heap.size v8.heap.size u17 wr) (fun i _=>dat.length - (intOf i).toNat)
        case atStart=>exact ⟨0,by omega,rfl,Turns.refl _ _ _⟩
        case round=>
         obtain ⟨j,hj,rfl,hT⟩:=hrel
         have hall:=HALL.out
         have RX:=R22.within hT.within (.inr (by omega))
         have rxc:=RX.cell
         by_cases hlt : j < dat.length
         · obtain ⟨b,o,xv,rfl,hbl,hbv,hbc⟩:=byte_shape (hT.shapes _ _ SRD.out) hlt
           have HWJ:=next_wrap HLD.out hlt
           have HLJ:=Lib.hid hlt
           have hTd:=hT.drew
           have RXd:=RX.drew
           have hbd : wr.drew.cell? ⟨b,o + j,none⟩ = some (.int .u8 xv):=hbc
           have hbf : ∀ p,wr.drew.frozen? ⟨b,p,none⟩ = false:=fun p=>(hbv.below (Ext.drew (Below.refl wr.heap.size wr))).free p
           have hne : g21 + 1 ≠ b:=by omega
           have HBL:=Lib.hid hbl
           clear hT RX hbl hbv hbc hj hall
           go_upto_region 21 with fail
           clear rxc
           refine wp_region_held_drew (S:=fun w'=>∀ p,w'.cell? ⟨g21 + 1,p,none⟩ = (#[.int .i64 rn,.int .i64 0,.slice (some ⟨b,o,none⟩) dat.length qs,.int .i64 many] : Array Value).toList[p]?) (by kernel_rfl) RXd.cell (fun hS=>?_)
           generalize wr.drew = vv at *
           refine wpAnyH_take (i:=0) (v:=?_) rfl (by kernel_rfl) (by kernel_rfl) (by kernel_rfl) (fun _ _ _ h=>h) (Or.inl ⟨by rfl,?_⟩) hS ?_
           rotate_left
           · (intro w hSw;(try dsimp only at hSw);go_simp;(try with_reducible rfl))
           rotate_left
           simp only [Act.put,zq0,zq1,zq2,zq3,zq4,zq5]
           refine wpAnyH_take (i:=1) (v:=?_) rfl (by kernel_rfl) (by kernel_rfl) (by kernel_rfl) (fun _ _ _ h=>h) (Or.inl ⟨by rfl,?_⟩) hS ?_
           rotate_left
           · (intro w hSw;(try dsimp only at hSw);go_simp;(try with_reducible rfl))
           rotate_left
           simp only [Act.put,zq0,zq1,zq2,zq3,zq4,zq5]
           refine wpAnyH_take (i:=2) (v:=?_) rfl (by kernel_rfl) (by kernel_rfl) (by kernel_rfl) (fun _ _ _ h=>h) (Or.inl ⟨by rfl,?_⟩) hS ?_
           rotate_left
           · (intro w hSw;(try dsimp only at hSw);go_simp;(try with_reducible rfl))
           rotate_left
           simp only [Act.put,zq0,zq1,zq2,zq3,zq4,zq5]
           refine wpAnyH_take (i:=3) (v:=?_) rfl (by kernel_rfl) (by kernel_rfl) (by kernel_rfl) (fun _ _ _ h=>h) (Or.inl ⟨by rfl,?_⟩) hS ?_
           rotate_left
           · (intro w hSw;(try dsimp only at hSw);go_simp;(try with_reducible rfl))
           rotate_left
           simp only [Act.put,zq0,zq1,zq2,zq3,zq4,zq5]
           refine wpAnyH_take (i:=4) (v:=?_) rfl (by kernel_rfl) (by kernel_rfl) (by kernel_rfl) (fun _ _ _ h=>h) (Or.inl ⟨by rfl,?_⟩) hS ?_
           rotate_left
           · (intro w hSw;(try dsimp only at hSw);go_simp;(try with_reducible rfl))
           rotate_left
           simp only [Act.put,zq0,zq1,zq2,zq3,zq4,zq5]
           refine wpAnyH_take (i:=5) (v:=?_) rfl (by kernel_rfl) (by kernel_rfl) (by kernel_rfl) (fun _ _ _ h=>h) (Or.inl ⟨by rfl,?_⟩) hS ?_
           rotate_left
           · (intro w hSw;(try dsimp only at hSw);go_simp;(try with_reducible rfl))
           rotate_left
           simp only [Act.put,zq0,zq1,zq2,zq3,zq4,zq5]
           refine wpAnyH_take (i:=6) (v:=?_) rfl (by kernel_rfl) (by kernel_rfl) (by kernel_rfl) (fun _ _ _ h=>h) (Or.inl ⟨by rfl,?_⟩) hS ?_
           rotate_left
           · (intro w hSw;(try dsimp only at hSw);go_simp;(try with_reducible rfl))
           rotate_left
           simp only [Act.put,zq0,zq1,zq2,zq3,zq4,zq5]
           refine wpAnyH_ready (rs:=[7]) (by kernel_rfl) (by simp) ?_
           refine AllReadyH.cons rfl (fun K hK=>?_) AllReadyH.nil
           rw [if_pos (by rfl)]
           go_simp
           refine hK.out _ _ hS (fun hS'=>?_)
           clear hK K hS
           have hS:=hS'
           clear hS'
           try simp only [Act.put,zq0,zq1,zq2,zq3,zq4,zq5]
           refine wpAnyH_take (i:=8) (v:=?_) rfl (by kernel_rfl) (by kernel_rfl) (by kernel_rfl) (fun _ _ _ h=>h) (Or.inl ⟨by rfl,?_⟩) hS ?_
           rotate_left
           · (intro w hSw;(try dsimp only at hSw);go_simp;(try with_reducible rfl))
           rotate_left
           simp only [Act.put,zq0,zq1,zq2,zq3,zq4,zq5]
           refine wpAnyH_take (i:=9) (v:=?_) rfl (by kernel_rfl) (by kernel_rfl) (by kernel_rfl) (fun _ _ _ h=>h) (Or.inl ⟨by rfl,?_⟩) hS ?_
           rotate_left
           · (intro w hSw;(try dsimp only at hSw);go_simp;(try with_reducible rfl))
           rotate_left
           simp only [Act.put,zq0,zq1,zq2,zq3,zq4,zq5]
           refine wpAnyH_ready (rs:=[10]) (by kernel_rfl) (by simp) ?_
           refine AllReadyH.cons rfl (fun K hK=>?_) AllReadyH.nil
           rw [if_pos (by rfl)]
           go_simp
           have RXe:=mbox_else RXd hne (o + j) (.int .u8 (IntKind.u8.wrap (xv + 1)))
           have hTe:=Turns.num (p:=⟨b,o + j,none⟩) hTd HBL.out hbd (wrap_u8 (xv + 1))
           refine hK.out _ _ RXe.cell (fun hS'=>?_)
           clear hK K hS hS'
           try simp only [Act.put,zq0,zq1,zq2,zq3,zq4,zq5]
           refine wpAnyH_done (by kernel_rfl) ?_ _
           have HTE:=Lib.hid hTe
           clear hTe hTd RXd RXe hbd hbf hne
           generalize vv.setCell ⟨b,o + j,none⟩ (.int .u8 (IntKind.u8.wrap (xv + 1))) = vz at *
           go_wp2
           go_roundw
           case rel=>exact ⟨j + 1,HLJ.out,by first | exact round_same HWJ | go_num,HTE.out⟩
           case measure=>first | exact round_less HWJ HLJ.out | (have h:=HLJ.out;simp [intOf];omega)
         · have hw:=hT.within
           replace P:=P.within hw (.inl (by omega))
           replace K:=K.within hw (.inl (by omega))
           replace G11:=G11.within hw (.inl (by omega))
           replace G12:=G12.within hw (.inl (by omega))
           replace HOY:=Lib.hid (HOY.out.within hw (fun b hb=>.inl (by have:=hb.2;omega)))
           replace HOG:=Lib.hid (HOG.out.within hw (fun b hb=>.inl (by have:=hb.2;omega)))
           replace HOI:=Lib.hid (HOI.out.within hw (fun b hb=>.inl (by have:=hb.2;omega)))
           replace t:=Below.trans t (Below.mono hw.below (by omega))
           clear hw hT hall RX SRD
           have cla:=G11.cell
           have clb:=P.cell
           go_wp2_with fail
           refine (rsame_any (fun _=>True) (fun _=>True) ys gs A' c' B' d' ys gs A ca B cb wr HOY.out.tt HOG.out.tt (HY.out.below t).tt (HG.out.below t).tt).mono ?_
           rintro e u18 ⟨⟨bt,rfl,hbt⟩,bb⟩
           obtain rfl : bt = true:=hbt.2 (by first | exact ⟨rfl,rfl⟩ | simp)
           clear cla clb hbt
           replace t:=Ext.trans t bb
           have cla:=(G12.next bb).cell
           have clb:=(K.next bb).cell
           have HS8:=Lib.hid (rsame8_any (ki.toNat : Int) a y Dn dn bs (ki.toNat : Int) a y D dc bs u18 (HOI.out.below bb).bytes_bs (HD.out.below t).bytes_bs)
           go_wp2_with fail
           refine HS8.out.mono ?_
           rintro e u19 ⟨⟨bt,rfl,hbt⟩,b19⟩
           obtain rfl : bt = true:=hbt.2 (by first | exact ⟨rfl,rfl,rfl,rfl⟩ | simp)
           replace t:=Ext.trans t b19
           have HT:=Lib.hid t
           clear cla clb hbt bb b19 t
           go_wp2
           go_ret
           exact ⟨rfl,HT.out⟩
theorem modelgoes_walk (w : World) (c0 : List Value) (x0 : (Ty.st (.prod .u32 (.prod .int (.prod .int (.prod .int (.prod .int (.prod .int .unit))))))).T) (h0 : RdIn w (fun b=>b < w.heap.size) (Ty.st (.prod .u32 (.prod .int (.prod .int (.prod .int (.prod .int (.prod .int .unit))))))) x0 c0) (c1 : List Value) (x1 : PlTy.T) (h1 : RdIn w (fun b=>b < w.heap.size) PlTy x1 c1) (c2 : List Value) (x2 : PlTy.T) (h2 : RdIn w (fun b=>b < w.heap.size) PlTy x2 c2) (v3 : Value) (x3 : Ty.int.T) (h3 : RdIn w (fun b=>b < w.heap.size) .int x3 [v3]) (c4 : List Value) (x4 : AskTy.T) (h4 : RdIn w (fun b=>b < w.heap.size) AskTy x4 c4) :
 Calls Try.prog 7 #[.agg c0.toArray,.agg c1.toArray,.agg c2.toArray,v3,.agg c4.toArray] w fun e w'=>e = .returned (.bool true) ∧ Below w.heap.size w w':=by
 obtain ⟨x,hx⟩:=cfg_deep h0
 rw [hx]
 obtain ⟨ys,gs,vy,vg,rfl,rfl,hy,hg⟩:=plain_view h1
 obtain ⟨A,ca,rfl⟩:=sl_deep hy
 obtain ⟨B,cb,rfl⟩:=sl_deep hg
 obtain ⟨us,fs,vu,vf,rfl,rfl,hu,hf⟩:=plain_view h2
 obtain ⟨U,uc,rfl⟩:=sl_deep hu
 obtain ⟨F,fc,rfl⟩:=sl_deep hf
 obtain ⟨n,rfl,hn⟩:=int_deep h3
 obtain ⟨ki,a,y,bs,v,rfl,rfl,_,_,hd⟩:=ask_view h4
 obtain ⟨D,dc,rfl⟩:=sl_deep hd
 exact goes_core x ys gs A ca B cb us fs U uc F fc n hn ki a y bs D dc w hy hg hu hf hd
end Go.Proofs.Ytclbihcggjjgaaa
