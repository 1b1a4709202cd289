/- What this claim needs of my texts, merged and shortened by a program (part 3). -/
import Derived.OwnWalk
import Derived.BigQuiet
import Derived.Lib.SliceRun
import Derived.Deep.RegionLaw
import Derived.Test.YthapabjlhooglaaZFlightOrder2
namespace Go.Proofs.Ythapabjlhooglaa
open Go Go.RowKit
set_option linter.unusedSimpArgs false
set_option linter.unusedVariables false
theorem check1_any (s : Int) (w : World) : Calls Try.prog 53 #[.int .u8 s] w fun e w'=>e = .returned (.bool (s != 0)) ∧ w = w':=by
 go_enter Try.func53,Try.ntmps53
 go_wp2
 go_ret
 exact ⟨rfl,rfl⟩
def onB (s : UInt8) : Bool:=((s.toNat : Int) != 0)
theorem onB_is (s : UInt8) : onB s = (s != 0):=by
 unfold onB
 by_cases h : s = 0
 · rw [h];rfl
 · have h1 : s.toNat ≠ 0:=fun e=>h (UInt8.toNat_inj.1 e)
   rw [Bool.eq_iff_iff]
   simp only [bne_iff_ne,ne_eq]
   exact ⟨fun _=>h,fun _=>by omega⟩
theorem onB_any {f : FlTy.T} : (fS f).any onB = goesB f:=by
 unfold goesB
 rw [show onB = fun s=>s != 0 from funext onB_is]
set_option maxRecDepth 100000 in
set_option maxHeartbeats 2000000 in
theorem idxu_any (S : Nat → Prop) (ss : List UInt8) (A : Option Addr) (n c : Nat) (hn : ss.length = n) (w : World) (hg : RdIn w S (.sl .byte) ss [.slice A n c]) :
 Calls Try.prog 80 #[.slice A n c,.func (.func 53) #[] #[]] w fun e w'=>IdxIs onB ss e ∧ Below w.heap.size w w':=by
 have HG:=Lib.hid hg
 have HGM : Hid (n ≤ maxLen):=by have:=byte_max hg;show n ≤ maxLen;omega
 have HNL:=Lib.hid hn
 clear hg hn
 go_enter Try.func80,Try.ntmps80
 go_upto_region 1 with fail
 go_wp2
 obtain ⟨W,hW⟩ : ∃ z : World,z = w:=⟨_,rfl⟩
 have b0 : Below W.heap.size W w:=by rw [hW];exact Below.refl _ _
 have HWW:=Lib.hid hW
 rw [← hW] at HG
 clear hW
 go_loopw [5,8] (fun v i wr=>∃ (j : Nat),j ≤ n ∧ i = .int .i64 j ∧ Below W.heap.size W wr ∧ Hid (∀ i,i < j → NotAt onB ss i)) (fun _ i _=>n - (intOf i).toNat)
 case atStart=>exact ⟨0,by omega,rfl,b0,fun i h=>absurd h (Nat.not_lt_zero _)⟩
 case round=>
  obtain ⟨j,hj,rfl,b1,HA⟩:=hrel
  clear b0
  have bw : Below w.heap.size w wr:=by have:=HWW.out;subst this;exact b1
  by_cases hlt : j < n
  · have hlf : j < ss.length:=by have:=HNL.out;omega
    obtain ⟨b,off,rfl,ks⟩:=st_at (HG.out.below b1) hlf
    have HSK : Hid (NotAt onB ss j ↔ onB ss[j] = false):=⟨fun h=>h hlf,fun h _=>h⟩
    have HSY : Hid (onB ss[j] = true → IdxIs onB ss (.returned (.int .i64 (j : Int)))):=fun h=>IdxIs.at hlf h HA.out
    unfold onB at HSK HSY
    generalize ss[j].toNat = sn at *
    have HWJ:=next_wrap HGM.out hlt
    have HLJ:=Lib.hid hlt
    rcases Bool.eq_false_or_eq_true ((sn : Int) != 0) with e1 | e1
    · have HF:=Lib.hid (HSY.out e1)
      go_wp2_with (go_at_call 53;refine (check1_any _ _).mono ?_;rintro e w3 ⟨rfl,rfl⟩)
      go_ret
      exact ⟨HF.out,bw⟩
    · have HA' : Hid (∀ i,i < j + 1 → NotAt onB ss i):=by
       intro i hi
       by_cases h : i = j
       · subst h
         exact HSK.out.2 e1
       · exact HA.out i (by omega)
      go_wp2_with (go_at_call 53;refine (check1_any _ _).mono ?_;rintro e w3 ⟨rfl,rfl⟩)
      go_roundw
      case rel=>exact ⟨j + 1,HLJ.out,by first | exact round_same HWJ | go_num,b1,HA'⟩
      case measure=>first | exact round_less HWJ HLJ.out | (have h:=HLJ.out;simp [intOf];omega)
  · have HN:=Lib.hid (IdxIs.none (p:=onB) (fs:=ss) (j:=j) HA.out (by have:=HNL.out;omega))
    go_wp2
    go_ret
    exact ⟨HN.out,bw⟩
theorem idxI_any {α : Type} (p : α → Bool) (xs : List α) : decide (0 ≤ idxI p xs) = xs.any p:=by
 unfold idxI
 cases h : xs.findIdx? p with
 | none=>
   rw [List.findIdx?_eq_none_iff] at h
   symm
   simp
   exact h
 | some i=>
   rw [List.findIdx?_eq_some_iff_getElem] at h
   obtain ⟨hi,h1,_⟩:=h
   have : xs.any p = true:=List.any_eq_true.2 ⟨_,List.getElem_mem hi,h1⟩
   rw [this]
   simp
set_option maxRecDepth 100000 in
theorem hasu_any (S : Nat → Prop) (f : FlTy.T) (A : Option Addr) (c : Nat) (w : World) (hg : RdIn w S (.sl .byte) (fS f) [.slice A (fS f).length c]) :
 Calls Try.prog 52 #[.slice A (fS f).length c,.func (.func 53) #[] #[]] w fun e w'=>e = .returned (.bool (goesB f)) ∧ Below w.heap.size w w':=by
 have HC:=idxu_any S (fS f) A (fS f).length c rfl w hg
 unfold IdxIs at HC
 have HV:=Lib.hid (idxI_any onB (fS f))
 rw [onB_any] at HV
 generalize idxI onB (fS f) = iv at *
 have HC2:=Lib.hid HC
 clear HC hg
 go_enter Try.func52,Try.ntmps52
 go_wp2_with fail
 refine HC2.out.mono ?_
 rintro e w1 ⟨rfl,b1⟩
 go_wp2
 go_ret
 exact ⟨by rw [← HV.out];rfl,b1⟩
theorem oneB_code {x : Cfg} {f : FlTy.T} (h : oneB x f = true) : codeF x f = 0:=(oneB_iff.1 h).1
def CodeTo (x : Cfg) (fs : List FlTy.T) (j : Nat) : Prop:=∀ i (h : i < fs.length),i < j → codeF x fs[i] = 0
theorem CodeTo.next {x : Cfg} {fs : List FlTy.T} {j : Nat} (h : CodeTo x fs j) (hj : j < fs.length) (hc : codeF x fs[j] = 0) : CodeTo x fs (j + 1):=fun i hi hi2=>by
 by_cases e : i = j
 · subst e;exact hc
 · exact h i hi (by omega)
set_option maxRecDepth 100000 in
set_option maxHeartbeats 4000000 in
theorem fcheck_any (S : Nat → Prop) (x : Cfg) (fs : List FlTy.T) (n d : Nat) (B : Option Addr) (hn : fs.length = n) (w : World) (hg : RdIn w S (.sl FlTy) fs [.slice B n d]) :
 Calls Try.prog 19 #[x.val,.slice B n d] w fun e w'=>OkBad (flB x fs = true) e ∧ Below w.heap.size w w':=by
 have HX:=Lib.hid (check_any x)
 have HXO : Hid (flB x fs = true → x.code = 0):=fun h=>Cfg.code_ok (flB_iff.1 h).1
 have HXC : Hid (x.code = 0 → x.Ok):=fun h=>by
  by_cases hx : x.Ok
  · exact hx
  · rw [Cfg.code_bad hx] at h;cases h
 have HN:=Lib.hid hn
 have HNM : Hid (n ≤ maxLen):=by have:=fl_max hg;show n ≤ maxLen;omega
 have HONE : Hid (∀ (w : World) (g : FlTy.T) (Ab : Option Addr) (cb : Nat) (As : Option Addr) (cs : Nat) (Aq : Option Addr) (cq : Nat) (Ax : Option Addr) (cx : Nat),RdIn w S (.sl .byte) (fS g) [.slice As (fS g).length cs] → RdIn w S (.sl .u32) (fQ g) [.slice Aq (fQ g).length cq] → RdIn w S (.sl (.sl .byte)) (fB g) [.slice Ax (fB g).length cx] → Calls Try.prog 51 #[x.val,.agg #[.int .i64 (fN g),.int .u8 (kI g),.int .i64 (fA g),.int .i64 (fM g),.slice Ab (fD g).length cb,.slice As (fS g).length cs,.slice Aq (fQ g).length cq,.slice Ax (fB g).length cx]] w fun e w'=>e = .returned (.bool (oneB x g)) ∧ Below w.heap.size w w'):=fun w g Ab cb As cs Aq cq Ax cx h1 h2 h3=>fone_any S x g Ab cb As cs Aq cq Ax cx w h1 h2 h3
 have HFIR : Hid (∀ (w : World) (k : Nat) (_ : k < fs.length) (_ : CodeTo x fs (k + 1)) (_ : RdIn w S (.sl FlTy) fs [.slice B n d]),Calls Try.prog 40 #[x.val,.slice B n d,.int .i64 (k : Int)] w fun e w'=>e = .returned (.bool (firstB fs k)) ∧ Below w.heap.size w w'):=fun w k hk hc hr=>first_any S x fs n d k B hk HN.out (fun i hi hik=>hc i hi (by omega)) w hr
 obtain ⟨id,m,c,r,l,h⟩:=x
 unfold Cfg.val at *
 dsimp only at *
 generalize Cfg.code ⟨id,m,c,r,l,h⟩ = xc at *
 have C0:=BoxOf.new w #[.int .u32 (id : Int),.int .i64 m,.int .i64 c,.int .i64 r,.int .i64 l,.int .i64 h] 24
 have t0:=Ext.alloc (Below.refl w.heap.size w) (.cells #[.int .u32 (id : Int),.int .i64 m,.int .i64 c,.int .i64 r,.int .i64 l,.int .i64 h] 24)
 have HG:=Lib.hid (hg.below t0)
 clear hg hn
 go_enter Try.func19,Try.ntmps19
 go_upto_region 1 with fail
 generalize w.alloc (.cells #[.int .u32 (id : Int),.int .i64 m,.int .i64 c,.int .i64 r,.int .i64 l,.int .i64 h] 24) = W at *
 have x0:=C0.cell
 rcases Bool.eq_false_or_eq_true (xc != 0) with e1 | e1
 · go_wp2_with fail
   refine (HX.out _).mono ?_
   rintro e w1 ⟨rfl,b1⟩
   go_wp2
   go_ret
   exact ⟨OkBad.bad fun h=>by rw [HXO.out h] at e1;simp at e1,Ext.trans t0 b1⟩
 have HXK : Hid (Cfg.Ok ⟨id,m,c,r,l,h⟩):=HXC.out (by simpa using e1)
 rcases Bool.eq_false_or_eq_true (decide ((8 : Int) < (n : Int))) with e2 | e2
 · go_wp2_with fail
   refine (HX.out _).mono ?_
   rintro e w1 ⟨rfl,b1⟩
   go_wp2
   go_ret
   exact ⟨OkBad.bad fun h=>by have:=(flB_iff.1 h).2.1;have:=HN.out;have:=of_decide_eq_true e2;omega,Ext.trans t0 b1⟩
 have HN8 : Hid (n ≤ 8):=by have:=of_decide_eq_false e2;show n ≤ 8;omega
 go_wp2_with fail
 refine (HX.out _).mono ?_
 rintro e w1 ⟨rfl,b1⟩
 have C1:=C0.next b1
 have t1:=Ext.trans t0 b1
 have HG1:=Lib.hid (HG.out.below b1)
 clear C0 HG t0 x0 b1
 go_wp2
 clear e1 e2
 obtain ⟨wo,hwo⟩ : ∃ z : World,z = w1:=⟨_,rfl⟩
 rw [← hwo] at C1 t1 HG1
 have bo : Below wo.heap.size wo w1:=by rw [hwo];exact Below.refl _ _
 clear hwo
 go_loopw [5,6,7,18] (fun s5 s6 s7 i wr=>∃ (j : Nat),j ≤ n ∧ i = .int .i64 (j : Int) ∧ Below wo.heap.size wo wr ∧ Hid ((∀ i,i < j → stB ⟨id,m,c,r,l,h⟩ fs i = true) ∧ CodeTo ⟨id,m,c,r,l,h⟩ fs j)) (fun _ _ _ i _=>n - (intOf i).toNat)
 case atStart=>exact ⟨0,by omega,rfl,bo,fun i h=>absurd h (Nat.not_lt_zero _),fun i _ h=>absurd h (Nat.not_lt_zero _)⟩
 case round=>
  obtain ⟨j,hj,rfl,b2,HA⟩:=hrel
  clear bo
  have C2:=C1.next b2
  have t2:=Ext.trans t1 b2
  by_cases hlt : j < n
  · have hlf : j < fs.length:=by have:=HN.out;omega
    obtain ⟨b,off,Ab,cb,As,cs,Aq,cq,Ax,cx,rfl,q0,q1,q2,q3,q4,q5,q6,q7,hi,r1,r2,r3,r4⟩:=fl_at (HG1.out.below b2) hlf
    have HST:=Lib.hid (stB_iff (x:=⟨id,m,c,r,l,h⟩) hlf)
    have HCG : Hid (codeF ⟨id,m,c,r,l,h⟩ fs[j] = 0 → CodeTo ⟨id,m,c,r,l,h⟩ fs (j + 1)):=fun hc=>HA.out.2.next hlf hc
    have HLF:=Lib.hid hlf
    have HWJ:=next_wrap HNM.out hlt
    have HLJ:=Lib.hid hlt
    have bA:=fun (g : FlTy.T)=>Ext.alloc (Below.refl wr.heap.size wr) (.cells #[.int .i64 (fN g),.int .u8 (kI g),.int .i64 (fA g),.int .i64 (fM g),.slice Ab (fD g).length cb,.slice As (fS g).length cs,.slice Aq (fQ g).length cq,.slice Ax (fB g).length cx] 67)
    by_cases hj0 : j = 0
    · have HJ0:=Lib.hid hj0
      clear hj0
      generalize fs[j] = g at *
      have bA:=bA g
      have G3:=BoxOf.new wr #[.int .i64 (fN g),.int .u8 (kI g),.int .i64 (fA g),.int .i64 (fM g),.slice Ab (fD g).length cb,.slice As (fS g).length cs,.slice Aq (fQ g).length cq,.slice Ax (fB g).length cx] 67
      have C3:=C2.next bA
      have t3:=Ext.trans t2 bA
      have b3:=Ext.trans b2 bA
      have HRS:=Lib.hid (r2.below bA)
      have HC1 : Hid (∀ w',Below (wr.alloc (.cells #[.int .i64 (fN g),.int .u8 (kI g),.int .i64 (fA g),.int .i64 (fM g),.slice Ab (fD g).length cb,.slice As (fS g).length cs,.slice Aq (fQ g).length cq,.slice Ax (fB g).length cx] 67)).heap.size (wr.alloc (.cells #[.int .i64 (fN g),.int .u8 (kI g),.int .i64 (fA g),.int .i64 (fM g),.slice Ab (fD g).length cb,.slice As (fS g).length cs,.slice Aq (fQ g).length cq,.slice Ax (fB g).length cx] 67)) w' → Calls Try.prog 51 #[.agg #[.int .u32 (id : Int),.int .i64 m,.int .i64 c,.int .i64 r,.int .i64 l,.int .i64 h],.agg #[.int .i64 (fN g),.int .u8 (kI g),.int .i64 (fA g),.int .i64 (fM g),.slice Ab (fD g).length cb,.slice As (fS g).length cs,.slice Aq (fQ g).length cq,.slice Ax (fB g).length cx]] w' fun e w''=>e = .returned (.bool (oneB ⟨id,m,c,r,l,h⟩ g)) ∧ Below w'.heap.size w' w''):=fun w' bb=>HONE.out w' g Ab cb As cs Aq cq Ax cx ((r2.below bA).below bb) ((r3.below bA).below bb) ((r4.below bA).below bb)
      clear r1 r2 r3 r4 hi bA
      go_upto_region 6 with fail
      obtain ⟨gn,hgn⟩ : ∃ z : Nat,z = wr.heap.size:=⟨_,rfl⟩
      rw [← hgn] at G3 ⊢
      generalize wr.alloc (.cells #[.int .i64 (fN g),.int .u8 (kI g),.int .i64 (fA g),.int .i64 (fM g),.slice Ab (fD g).length cb,.slice As (fS g).length cs,.slice Aq (fQ g).length cq,.slice Ax (fB g).length cx] 67) = Wg at *
      have x3:=G3.cell
      clear q1 q2 q3 q4 q5 q6 q7 hgn C2 t2 b2
      have HS : Hid (∀ w',Below Wg.heap.size Wg w' → Below Wg.heap.size Wg w' ∧ (∀ p,w'.cell? ⟨w.heap.size,p,none⟩ = (#[.int .u32 (id : Int),.int .i64 m,.int .i64 c,.int .i64 r,.int .i64 l,.int .i64 h] : Array Value).toList[p]?) ∧ (∀ p,w'.cell? ⟨gn,p,none⟩ = (#[.int .i64 (fN g),.int .u8 (kI g),.int .i64 (fA g),.int .i64 (fM g),.slice Ab (fD g).length cb,.slice As (fS g).length cs,.slice Aq (fQ g).length cq,.slice Ax (fB g).length cx] : Array Value).toList[p]?) ∧ True):=fun w' bb=>⟨bb,(C3.next bb).cell,(G3.next bb).cell,trivial⟩
      have bv:=Ext.drew (Below.refl Wg.heap.size Wg)
      have hS0:=HS.out _ bv
      clear q0 x3
      cases hone : oneB ⟨id,m,c,r,l,h⟩ g with
      | false=>
        have HNO : Hid (flB ⟨id,m,c,r,l,h⟩ fs = true → False):=fun ht=>by have h1:=(HST.out.1 ((flB_iff.1 ht).2.2 j HLF.out)).1;rw [hone] at h1;cases h1
        rw [hone] at HC1
        refine wp_region_held_drew (S:=fun w'=>Below Wg.heap.size Wg w' ∧ (∀ p,w'.cell? ⟨w.heap.size,p,none⟩ = (#[.int .u32 (id : Int),.int .i64 m,.int .i64 c,.int .i64 r,.int .i64 l,.int .i64 h] : Array Value).toList[p]?) ∧ (∀ p,w'.cell? ⟨gn,p,none⟩ = (#[.int .i64 (fN g),.int .u8 (kI g),.int .i64 (fA g),.int .i64 (fM g),.slice Ab (fD g).length cb,.slice As (fS g).length cs,.slice Aq (fQ g).length cq,.slice Ax (fB g).length cx] : Array Value).toList[p]?) ∧ True) (by kernel_rfl) hS0 (fun hS=>?_)
        clear bv hS0
        refine wpAnyH_take (i:=0) (v:=?_) rfl (by kernel_rfl) (by kernel_rfl) (by kernel_rfl) (fun _ _ _ h=>h) (Or.inl ⟨by rfl,?_⟩) hS ?_
        rotate_left
        · (intro w hSw;(try dsimp only at hSw);go_simp;(try with_reducible rfl))
        rotate_left
        simp only [Act.put,zq0,zq1,zq2,zq3,zq4,zq5]
        refine wpAnyH_take (i:=1) (v:=?_) rfl (by kernel_rfl) (by kernel_rfl) (by kernel_rfl) (fun _ _ _ h=>h) (Or.inl ⟨by rfl,?_⟩) hS ?_
        rotate_left
        · (intro w hSw;(try dsimp only at hSw);go_simp;(try with_reducible rfl))
        rotate_left
        simp only [Act.put,zq0,zq1,zq2,zq3,zq4,zq5]
        refine wpAnyH_ready (rs:=[2]) (by kernel_rfl) (by simp) ?_
        refine AllReadyH.cons rfl (fun K hK=>?_) AllReadyH.nil
        rw [if_pos (by rfl)]
        go_simp
        refine (HC1.out _ hS.1).mono ?_
        rintro e w3 ⟨rfl,k3⟩
        refine hK.out _ _ (HS.out _ (Ext.trans hS.1 k3)) (fun hS'=>?_)
        clear hK K hS k3
        have hS:=hS'
        clear hS'
        try simp only [Act.put,zq0,zq1,zq2,zq3,zq4,zq5]
        refine wpAnyH_take (i:=3) (v:=?_) rfl (by kernel_rfl) (by kernel_rfl) (by kernel_rfl) (fun _ _ _ h=>h) (Or.inl ⟨by rfl,?_⟩) hS ?_
        rotate_left
        · (intro w hSw;(try dsimp only at hSw);go_simp;(try with_reducible rfl))
        rotate_left
        simp only [Act.put,zq0,zq1,zq2,zq3,zq4,zq5]
        refine wpAnyH_take (i:=4) (v:=?_) rfl (by kernel_rfl) (by kernel_rfl) (by kernel_rfl) (fun _ _ _ h=>h) (Or.inl ⟨by rfl,?_⟩) hS ?_
        rotate_left
        · (intro w hSw;(try dsimp only at hSw);go_simp;(try with_reducible rfl))
        rotate_left
        simp only [Act.put,zq0,zq1,zq2,zq3,zq4,zq5]
        refine wpAnyH_take (i:=5) (v:=?_) rfl (by kernel_rfl) (by kernel_rfl) (by kernel_rfl) (fun _ _ _ h=>h) (Or.inr ⟨by rfl,?_⟩) hS ?_
        rotate_left
        · rfl
        rotate_left
        simp only [Act.put,zq0,zq1,zq2,zq3,zq4,zq5]
        refine wpAnyH_take (i:=6) (v:=?_) rfl (by kernel_rfl) (by kernel_rfl) (by kernel_rfl) (fun _ _ _ h=>h) (Or.inr ⟨by rfl,?_⟩) hS ?_
        rotate_left
        · rfl
        rotate_left
        simp only [Act.put,zq0,zq1,zq2,zq3,zq4,zq5]
        refine wpAnyH_take (i:=7) (v:=?_) rfl (by kernel_rfl) (by kernel_rfl) (by kernel_rfl) (fun _ _ _ h=>h) (Or.inr ⟨by rfl,?_⟩) hS ?_
        rotate_left
        · rfl
        rotate_left
        simp only [Act.put,zq0,zq1,zq2,zq3,zq4,zq5]
        refine wpAnyH_take (i:=8) (v:=?_) rfl (by kernel_rfl) (by kernel_rfl) (by kernel_rfl) (fun _ _ _ h=>h) (Or.inr ⟨by rfl,?_⟩) hS ?_
        rotate_left
        · rfl
        rotate_left
        simp only [Act.put,zq0,zq1,zq2,zq3,zq4,zq5]
        refine wpAnyH_take (i:=9) (v:=?_) rfl (by kernel_rfl) (by kernel_rfl) (by kernel_rfl) (fun _ _ _ h=>h) (Or.inr ⟨by rfl,?_⟩) hS ?_
        rotate_left
        · rfl
        rotate_left
        simp only [Act.put,zq0,zq1,zq2,zq3,zq4,zq5]
        refine wpAnyH_take (i:=10) (v:=?_) rfl (by kernel_rfl) (by kernel_rfl) (by kernel_rfl) (fun _ _ _ h=>h) (Or.inr ⟨by rfl,?_⟩) hS ?_
        rotate_left
        · rfl
        rotate_left
        simp only [Act.put,zq0,zq1,zq2,zq3,zq4,zq5]
        refine wpAnyH_take (i:=11) (v:=?_) rfl (by kernel_rfl) (by kernel_rfl) (by kernel_rfl) (fun _ _ _ h=>h) (Or.inr ⟨by rfl,?_⟩) hS ?_
        rotate_left
        · rfl
        rotate_left
        simp only [Act.put,zq0,zq1,zq2,zq3,zq4,zq5]
        refine wpAnyH_take (i:=12) (v:=?_) rfl (by kernel_rfl) (by kernel_rfl) (by kernel_rfl) (fun _ _ _ h=>h) (Or.inr ⟨by rfl,?_⟩) hS ?_
        rotate_left
        · rfl
        rotate_left
        simp only [Act.put,zq0,zq1,zq2,zq3,zq4,zq5]
        refine wpAnyH_take (i:=13) (v:=?_) rfl (by kernel_rfl) (by kernel_rfl) (by kernel_rfl) (fun _ _ _ h=>h) (Or.inr ⟨by rfl,?_⟩) hS ?_
        rotate_left
        · rfl
        rotate_left
        simp only [Act.put,zq0,zq1,zq2,zq3,zq4,zq5]
        refine wpAnyH_take (i:=14) (v:=?_) rfl (by kernel_rfl) (by kernel_rfl) (by kernel_rfl) (fun _ _ _ h=>h) (Or.inr ⟨by rfl,?_⟩) hS ?_
        rotate_left
        · rfl
        rotate_left
        simp only [Act.put,zq0,zq1,zq2,zq3,zq4,zq5]
        refine wpAnyH_take (i:=15) (v:=?_) rfl (by kernel_rfl) (by kernel_rfl) (by kernel_rfl) (fun _ _ _ h=>h) (Or.inr ⟨by rfl,?_⟩) hS ?_
        rotate_left
        · rfl
        rotate_left
        simp only [Act.put,zq0,zq1,zq2,zq3,zq4,zq5]
        refine wpAnyH_take (i:=16) (v:=?_) rfl (by kernel_rfl) (by kernel_rfl) (by kernel_rfl) (fun _ _ _ h=>h) (Or.inr ⟨by rfl,?_⟩) hS ?_
        rotate_left
        · rfl
        rotate_left
        simp only [Act.put,zq0,zq1,zq2,zq3,zq4,zq5]
        refine wpAnyH_take (i:=17) (v:=?_) rfl (by kernel_rfl) (by kernel_rfl) (by kernel_rfl) (fun _ _ _ h=>h) (Or.inr ⟨by rfl,?_⟩) hS ?_
        rotate_left
        · rfl
        rotate_left
        simp only [Act.put,zq0,zq1,zq2,zq3,zq4,zq5]
        refine wpAnyH_take (i:=18) (v:=?_) rfl (by kernel_rfl) (by kernel_rfl) (by kernel_rfl) (fun _ _ _ h=>h) (Or.inl ⟨by rfl,?_⟩) hS ?_
        rotate_left
        · (intro w hSw;(try dsimp only at hSw);go_simp;(try with_reducible rfl))
        rotate_left
        simp only [Act.put,zq0,zq1,zq2,zq3,zq4,zq5]
        refine wpAnyH_done (by kernel_rfl) ?_ _
        have t4:=Ext.trans t3 hS.1
        clear hS
        go_wp2
        go_ret
        exact ⟨OkBad.bad HNO.out,t4⟩
      | true=>
        rw [hone] at HC1
        have HCD : Hid (CodeTo ⟨id,m,c,r,l,h⟩ fs (j + 1)):=HCG.out (oneB_code hone)
        have HLS : Hid (∀ (h : 0 < j),fN (fs[j - 1]'(by have:=HLF.out;omega)) < fN g):=fun h=>by have:=HJ0.out;omega
        have hjz : (decide ((0 : Int) < (j : Int))) = false:=by have:=HJ0.out;simp;omega
        have hjn : decide (0 < j) = false:=by have:=HJ0.out;simp;omega
        refine wp_region_held_drew (S:=fun w'=>Below Wg.heap.size Wg w' ∧ (∀ p,w'.cell? ⟨w.heap.size,p,none⟩ = (#[.int .u32 (id : Int),.int .i64 m,.int .i64 c,.int .i64 r,.int .i64 l,.int .i64 h] : Array Value).toList[p]?) ∧ (∀ p,w'.cell? ⟨gn,p,none⟩ = (#[.int .i64 (fN g),.int .u8 (kI g),.int .i64 (fA g),.int .i64 (fM g),.slice Ab (fD g).length cb,.slice As (fS g).length cs,.slice Aq (fQ g).length cq,.slice Ax (fB g).length cx] : Array Value).toList[p]?) ∧ True) (by kernel_rfl) hS0 (fun hS=>?_)
        clear bv hS0
        refine wpAnyH_take (i:=0) (v:=?_) rfl (by kernel_rfl) (by kernel_rfl) (by kernel_rfl) (fun _ _ _ h=>h) (Or.inl ⟨by rfl,?_⟩) hS ?_
        rotate_left
        · (intro w hSw;(try dsimp only at hSw);go_simp;(try with_reducible rfl))
        rotate_left
        simp only [Act.put,zq0,zq1,zq2,zq3,zq4,zq5]
        refine wpAnyH_take (i:=1) (v:=?_) rfl (by kernel_rfl) (by kernel_rfl) (by kernel_rfl) (fun _ _ _ h=>h) (Or.inl ⟨by rfl,?_⟩) hS ?_
        rotate_left
        · (intro w hSw;(try dsimp only at hSw);go_simp;(try with_reducible rfl))
        rotate_left
        simp only [Act.put,zq0,zq1,zq2,zq3,zq4,zq5]
        refine wpAnyH_ready (rs:=[2]) (by kernel_rfl) (by simp) ?_
        refine AllReadyH.cons rfl (fun K hK=>?_) AllReadyH.nil
        rw [if_pos (by rfl)]
        go_simp
        refine (HC1.out _ hS.1).mono ?_
        rintro e w3 ⟨rfl,k3⟩
        refine hK.out _ _ (HS.out _ (Ext.trans hS.1 k3)) (fun hS'=>?_)
        clear hK K hS k3
        have hS:=hS'
        clear hS'
        try simp only [Act.put,zq0,zq1,zq2,zq3,zq4,zq5]
        refine wpAnyH_take (i:=3) (v:=?_) rfl (by kernel_rfl) (by kernel_rfl) (by kernel_rfl) (fun _ _ _ h=>h) (Or.inl ⟨by rfl,?_⟩) hS ?_
        rotate_left
        · (intro w hSw;(try dsimp only at hSw);go_simp;(try with_reducible rfl))
        rotate_left
        simp only [Act.put,zq0,zq1,zq2,zq3,zq4,zq5]
        refine wpAnyH_take (i:=4) (v:=?_) rfl (by kernel_rfl) (by kernel_rfl) (by kernel_rfl) (fun _ _ _ h=>h) (Or.inl ⟨by rfl,?_⟩) hS ?_
        rotate_left
        · (intro w hSw;(try dsimp only at hSw);go_simp;(try with_reducible rfl))
        rotate_left
        simp only [Act.put,zq0,zq1,zq2,zq3,zq4,zq5]
        refine wpAnyH_take (i:=5) (v:=?_) rfl (by kernel_rfl) (by kernel_rfl) (by kernel_rfl) (fun _ _ _ h=>h) (Or.inl ⟨by rfl,?_⟩) hS ?_
        rotate_left
        · (intro w hSw;(try dsimp only at hSw);go_simp;(try with_reducible rfl))
        rotate_left
        simp only [Act.put,zq0,zq1,zq2,zq3,zq4,zq5]
        refine wpAnyH_take (i:=6) (v:=?_) rfl (by kernel_rfl) (by kernel_rfl) (by kernel_rfl) (fun _ _ _ h=>h) (Or.inl ⟨by rfl,?_⟩) hS ?_
        rotate_left
        · (intro w hSw;(try dsimp only at hSw);go_simp;(try with_reducible rfl))
        rotate_left
        simp only [Act.put,zq0,zq1,zq2,zq3,zq4,zq5]
        refine wpAnyH_take (i:=7) (v:=?_) rfl (by kernel_rfl) (by kernel_rfl) (by kernel_rfl) (fun _ _ _ h=>h) (Or.inl ⟨by rfl,?_⟩) hS ?_
        rotate_left
        · (intro w hSw;(try dsimp only at hSw);go_simp;(try with_reducible rfl))
        rotate_left
        simp only [Act.put,zq0,zq1,zq2,zq3,zq4,zq5]
        refine wpAnyH_take (i:=8) (v:=?_) rfl (by kernel_rfl) (by kernel_rfl) (by kernel_rfl) (fun _ _ _ h=>h) (Or.inr ⟨by rfl,?_⟩) hS ?_
        rotate_left
        · rfl
        rotate_left
        simp only [Act.put,zq0,zq1,zq2,zq3,zq4,zq5]
        refine wpAnyH_take (i:=9) (v:=?_) rfl (by kernel_rfl) (by kernel_rfl) (by kernel_rfl) (fun _ _ _ h=>h) (Or.inr ⟨by rfl,?_⟩) hS ?_
        rotate_left
        · rfl
        rotate_left
        simp only [Act.put,zq0,zq1,zq2,zq3,zq4,zq5]
        refine wpAnyH_take (i:=10) (v:=?_) rfl (by kernel_rfl) (by kernel_rfl) (by kernel_rfl) (fun _ _ _ h=>h) (Or.inr ⟨by rfl,?_⟩) hS ?_
        rotate_left
        · rfl
        rotate_left
        simp only [Act.put,zq0,zq1,zq2,zq3,zq4,zq5]
        refine wpAnyH_take (i:=11) (v:=?_) rfl (by kernel_rfl) (by kernel_rfl) (by kernel_rfl) (fun _ _ _ h=>h) (Or.inr ⟨by rfl,?_⟩) hS ?_
        rotate_left
        · rfl
        rotate_left
        simp only [Act.put,zq0,zq1,zq2,zq3,zq4,zq5]
        refine wpAnyH_take (i:=12) (v:=?_) rfl (by kernel_rfl) (by kernel_rfl) (by kernel_rfl) (fun _ _ _ h=>h) (Or.inr ⟨by rfl,?_⟩) hS ?_
        rotate_left
        · rfl
        rotate_left
        simp only [Act.put,zq0,zq1,zq2,zq3,zq4,zq5]
        refine wpAnyH_take (i:=13) (v:=?_) rfl (by kernel_rfl) (by kernel_rfl) (by kernel_rfl) (fun _ _ _ h=>h) (Or.inr ⟨by rfl,?_⟩) hS ?_
        rotate_left
        · rfl
        rotate_left
        simp only [Act.put,zq0,zq1,zq2,zq3,zq4,zq5]
        refine wpAnyH_take (i:=14) (v:=?_) rfl (by kernel_rfl) (by kernel_rfl) (by kernel_rfl) (fun _ _ _ h=>h) (Or.inr ⟨by rfl,?_⟩) hS ?_
        rotate_left
        · rfl
        rotate_left
        simp only [Act.put,zq0,zq1,zq2,zq3,zq4,zq5]
        refine wpAnyH_take (i:=15) (v:=?_) rfl (by kernel_rfl) (by kernel_rfl) (by kernel_rfl) (fun _ _ _ h=>h) (Or.inr ⟨by rfl,?_⟩) hS ?_
        rotate_left
        · rfl
        rotate_left
        simp only [Act.put,zq0,zq1,zq2,zq3,zq4,zq5]
        refine wpAnyH_take (i:=16) (v:=?_) rfl (by kernel_rfl) (by kernel_rfl) (by kernel_rfl) (fun _ _ _ h=>h) (Or.inr ⟨by rfl,?_⟩) hS ?_
        rotate_left
        · rfl
        rotate_left
        simp only [Act.put,zq0,zq1,zq2,zq3,zq4,zq5]
        refine wpAnyH_take (i:=17) (v:=?_) rfl (by kernel_rfl) (by kernel_rfl) (by kernel_rfl) (fun _ _ _ h=>h) (Or.inl ⟨by rfl,?_⟩) hS ?_
        rotate_left
        · (intro w hSw;(try dsimp only at hSw);go_simp;(try with_reducible rfl))
        rotate_left
        simp only [Act.put,zq0,zq1,zq2,zq3,zq4,zq5]
        refine wpAnyH_take (i:=18) (v:=?_) rfl (by kernel_rfl) (by kernel_rfl) (by kernel_rfl) (fun _ _ _ h=>h) (Or.inl ⟨by rfl,?_⟩) hS ?_
        rotate_left
        · (intro w hSw;(try dsimp only at hSw);go_simp;(try with_reducible rfl))
        rotate_left
        simp only [Act.put,zq0,zq1,zq2,zq3,zq4,zq5]
        refine wpAnyH_done (by kernel_rfl) ?_ _
        clear hjz hjn
        have t4:=Ext.trans t3 hS.1
        have b4:=Ext.trans b3 hS.1
        have C4:=C3.next hS.1
        have G4:=G3.next hS.1
        have HU:=Lib.hid (hasu_any S g As cs _ ((HRS.out.below hS.1)))
        have x4:=G4.cell
        clear hS C3 G3 HS
        go_wp2_with fail
        refine HU.out.mono ?_
        rintro e w5 ⟨rfl,b5⟩
        have t5:=Ext.trans t4 b5
        have b6:=Ext.trans b4 b5
        have C5:=C4.next b5
        clear x4 HU G4 C4
        cases hgo : goesB g with
        | false=>
          have HA' : Hid ((∀ i,i < j + 1 → stB ⟨id,m,c,r,l,h⟩ fs i = true) ∧ CodeTo ⟨id,m,c,r,l,h⟩ fs (j + 1)):=⟨fun i hi=>by
           by_cases e : i = j
           · subst e
             exact HST.out.2 ⟨hone,HLS.out,fun hh=>by rw [hgo] at hh;cases hh⟩
           · exact HA.out.1 i (by omega),HCD.out⟩
          go_wp2
          go_roundw
          case rel=>exact ⟨j + 1,HLJ.out,by first | exact round_same HWJ | go_num,b6,HA'⟩
          case measure=>first | exact round_less HWJ HLJ.out | (have h:=HLJ.out;simp [intOf];omega)
        | true=>
          have HF:=Lib.hid (HFIR.out w5 j HLF.out HCD.out (HG1.out.below b6))
          have x5:=C5.cell
          have HFV : Hid (stB ⟨id,m,c,r,l,h⟩ fs j = true ↔ firstB fs j = true):=HST.out.trans ⟨fun hh=>hh.2.2 hgo,fun hh=>⟨hone,HLS.out,fun _=>hh⟩⟩
          generalize firstB fs j = fj at *
          go_wp2_with fail
          refine HF.out.mono ?_
          rintro e w7 ⟨rfl,b7⟩
          have t7:=Ext.trans t5 b7
          have b8:=Ext.trans b6 b7
          clear x5 HF
          cases fj with
          | false=>
            go_wp2
            go_ret
            exact ⟨OkBad.bad fun ht=>absurd (HFV.out.1 ((flB_iff.1 ht).2.2 j HLF.out)) (by decide),t7⟩
          | true=>
            have HA' : Hid ((∀ i,i < j + 1 → stB ⟨id,m,c,r,l,h⟩ fs i = true) ∧ CodeTo ⟨id,m,c,r,l,h⟩ fs (j + 1)):=⟨fun i hi=>by
             by_cases e : i = j
             · subst e
               exact HFV.out.2 (by first | rfl | trivial)
             · exact HA.out.1 i (by omega),HCD.out⟩
            go_wp2
            go_roundw
            case rel=>exact ⟨j + 1,HLJ.out,by first | exact round_same HWJ | go_num,b8,HA'⟩
            case measure=>first | exact round_less HWJ HLJ.out | (have h:=HLJ.out;simp [intOf];omega)
    · obtain ⟨p,hp⟩ : ∃ p,j = p + 1:=⟨j - 1,by omega⟩
      have hpf : p < fs.length:=by omega
      obtain ⟨_,_,_,_,_,_,_,_,_,_,ep,k0,_⟩:=fl_at (HG1.out.below b2) hpf
      injection ep with ep
      injection ep with ep1 ep2 _
      rw [← ep1,← ep2] at k0
      have HPV : Hid (fN (fs[j - 1]'(Nat.lt_of_le_of_lt (Nat.sub_le j 1) hlf)) = fN fs[p]):=by show _ = _;congr 1;congr 1;omega
      have HJ0:=Lib.hid hp
      clear hj0 hp ep1 ep2
      generalize fN fs[p] = pv at *
      generalize fs[j] = g at *
      have bA:=bA g
      have G3:=BoxOf.new wr #[.int .i64 (fN g),.int .u8 (kI g),.int .i64 (fA g),.int .i64 (fM g),.slice Ab (fD g).length cb,.slice As (fS g).length cs,.slice Aq (fQ g).length cq,.slice Ax (fB g).length cx] 67
      have C3:=C2.next bA
      have t3:=Ext.trans t2 bA
      have b3:=Ext.trans b2 bA
      have k0':=(bA.cell (p:=⟨b,off + p * 8,none⟩) (block_lt_of_cell k0)).trans k0
      clear k0
      have HRS:=Lib.hid (r2.below bA)
      have HC1 : Hid (∀ w',Below (wr.alloc (.cells #[.int .i64 (fN g),.int .u8 (kI g),.int .i64 (fA g),.int .i64 (fM g),.slice Ab (fD g).length cb,.slice As (fS g).length cs,.slice Aq (fQ g).length cq,.slice Ax (fB g).length cx] 67)).heap.size (wr.alloc (.cells #[.int .i64 (fN g),.int .u8 (kI g),.int .i64 (fA g),.int .i64 (fM g),.slice Ab (fD g).length cb,.slice As (fS g).length cs,.slice Aq (fQ g).length cq,.slice Ax (fB g).length cx] 67)) w' → Calls Try.prog 51 #[.agg #[.int .u32 (id : Int),.int .i64 m,.int .i64 c,.int .i64 r,.int .i64 l,.int .i64 h],.agg #[.int .i64 (fN g),.int .u8 (kI g),.int .i64 (fA g),.int .i64 (fM g),.slice Ab (fD g).length cb,.slice As (fS g).length cs,.slice Aq (fQ g).length cq,.slice Ax (fB g).length cx]] w' fun e w''=>e = .returned (.bool (oneB ⟨id,m,c,r,l,h⟩ g)) ∧ Below w'.heap.size w' w''):=fun w' bb=>HONE.out w' g Ab cb As cs Aq cq Ax cx ((r2.below bA).below bb) ((r3.below bA).below bb) ((r4.below bA).below bb)
      clear r1 r2 r3 r4 hi bA
      go_upto_region 6 with fail
      obtain ⟨gn,hgn⟩ : ∃ z : Nat,z = wr.heap.size:=⟨_,rfl⟩
      rw [← hgn] at G3 ⊢
      generalize wr.alloc (.cells #[.int .i64 (fN g),.int .u8 (kI g),.int .i64 (fA g),.int .i64 (fM g),.slice Ab (fD g).length cb,.slice As (fS g).length cs,.slice Aq (fQ g).length cq,.slice Ax (fB g).length cx] 67) = Wg at *
      have x3:=G3.cell
      clear q1 q2 q3 q4 q5 q6 q7 hgn C2 t2 b2
      have HS : Hid (∀ w',Below Wg.heap.size Wg w' → Below Wg.heap.size Wg w' ∧ (∀ p,w'.cell? ⟨w.heap.size,p,none⟩ = (#[.int .u32 (id : Int),.int .i64 m,.int .i64 c,.int .i64 r,.int .i64 l,.int .i64 h] : Array Value).toList[p]?) ∧ (∀ p,w'.cell? ⟨gn,p,none⟩ = (#[.int .i64 (fN g),.int .u8 (kI g),.int .i64 (fA g),.int .i64 (fM g),.slice Ab (fD g).length cb,.slice As (fS g).length cs,.slice Aq (fQ g).length cq,.slice Ax (fB g).length cx] : Array Value).toList[p]?) ∧ w'.cell? ⟨b,off + p * 8,none⟩ = some (.int .i64 pv)):=fun w' bb=>⟨bb,(C3.next bb).cell,(G3.next bb).cell,(bb.cell (p:=⟨b,off + p * 8,none⟩) (block_lt_of_cell k0')).trans k0'⟩
      have bv:=Ext.drew (Below.refl Wg.heap.size Wg)
      have hS0:=HS.out _ bv
      clear q0 x3
      cases hone : oneB ⟨id,m,c,r,l,h⟩ g with
      | false=>
        have HNO : Hid (flB ⟨id,m,c,r,l,h⟩ fs = true → False):=fun ht=>by have h1:=(HST.out.1 ((flB_iff.1 ht).2.2 j HLF.out)).1;rw [hone] at h1;cases h1
        rw [hone] at HC1
        refine wp_region_held_drew (S:=fun w'=>Below Wg.heap.size Wg w' ∧ (∀ p,w'.cell? ⟨w.heap.size,p,none⟩ = (#[.int .u32 (id : Int),.int .i64 m,.int .i64 c,.int .i64 r,.int .i64 l,.int .i64 h] : Array Value).toList[p]?) ∧ (∀ p,w'.cell? ⟨gn,p,none⟩ = (#[.int .i64 (fN g),.int .u8 (kI g),.int .i64 (fA g),.int .i64 (fM g),.slice Ab (fD g).length cb,.slice As (fS g).length cs,.slice Aq (fQ g).length cq,.slice Ax (fB g).length cx] : Array Value).toList[p]?) ∧ w'.cell? ⟨b,off + p * 8,none⟩ = some (.int .i64 pv)) (by kernel_rfl) hS0 (fun hS=>?_)
        clear bv hS0
        refine wpAnyH_take (i:=0) (v:=?_) rfl (by kernel_rfl) (by kernel_rfl) (by kernel_rfl) (fun _ _ _ h=>h) (Or.inl ⟨by rfl,?_⟩) hS ?_
        rotate_left
        · (intro w hSw;(try dsimp only at hSw);go_simp;(try with_reducible rfl))
        rotate_left
        simp only [Act.put,zq0,zq1,zq2,zq3,zq4,zq5]
        refine wpAnyH_take (i:=1) (v:=?_) rfl (by kernel_rfl) (by kernel_rfl) (by kernel_rfl) (fun _ _ _ h=>h) (Or.inl ⟨by rfl,?_⟩) hS ?_
        rotate_left
        · (intro w hSw;(try dsimp only at hSw);go_simp;(try with_reducible rfl))
        rotate_left
        simp only [Act.put,zq0,zq1,zq2,zq3,zq4,zq5]
        refine wpAnyH_ready (rs:=[2]) (by kernel_rfl) (by simp) ?_
        refine AllReadyH.cons rfl (fun K hK=>?_) AllReadyH.nil
        rw [if_pos (by rfl)]
        go_simp
        refine (HC1.out _ hS.1).mono ?_
        rintro e w3 ⟨rfl,k3⟩
        refine hK.out _ _ (HS.out _ (Ext.trans hS.1 k3)) (fun hS'=>?_)
        clear hK K hS k3
        have hS:=hS'
        clear hS'
        try simp only [Act.put,zq0,zq1,zq2,zq3,zq4,zq5]
        refine wpAnyH_take (i:=3) (v:=?_) rfl (by kernel_rfl) (by kernel_rfl) (by kernel_rfl) (fun _ _ _ h=>h) (Or.inl ⟨by rfl,?_⟩) hS ?_
        rotate_left
        · (intro w hSw;(try dsimp only at hSw);go_simp;(try with_reducible rfl))
        rotate_left
        simp only [Act.put,zq0,zq1,zq2,zq3,zq4,zq5]
        refine wpAnyH_take (i:=4) (v:=?_) rfl (by kernel_rfl) (by kernel_rfl) (by kernel_rfl) (fun _ _ _ h=>h) (Or.inl ⟨by rfl,?_⟩) hS ?_
        rotate_left
        · (intro w hSw;(try dsimp only at hSw);go_simp;(try with_reducible rfl))
        rotate_left
        simp only [Act.put,zq0,zq1,zq2,zq3,zq4,zq5]
        refine wpAnyH_take (i:=5) (v:=?_) rfl (by kernel_rfl) (by kernel_rfl) (by kernel_rfl) (fun _ _ _ h=>h) (Or.inr ⟨by rfl,?_⟩) hS ?_
        rotate_left
        · rfl
        rotate_left
        simp only [Act.put,zq0,zq1,zq2,zq3,zq4,zq5]
        refine wpAnyH_take (i:=6) (v:=?_) rfl (by kernel_rfl) (by kernel_rfl) (by kernel_rfl) (fun _ _ _ h=>h) (Or.inr ⟨by rfl,?_⟩) hS ?_
        rotate_left
        · rfl
        rotate_left
        simp only [Act.put,zq0,zq1,zq2,zq3,zq4,zq5]
        refine wpAnyH_take (i:=7) (v:=?_) rfl (by kernel_rfl) (by kernel_rfl) (by kernel_rfl) (fun _ _ _ h=>h) (Or.inr ⟨by rfl,?_⟩) hS ?_
        rotate_left
        · rfl
        rotate_left
        simp only [Act.put,zq0,zq1,zq2,zq3,zq4,zq5]
        refine wpAnyH_take (i:=8) (v:=?_) rfl (by kernel_rfl) (by kernel_rfl) (by kernel_rfl) (fun _ _ _ h=>h) (Or.inr ⟨by rfl,?_⟩) hS ?_
        rotate_left
        · rfl
        rotate_left
        simp only [Act.put,zq0,zq1,zq2,zq3,zq4,zq5]
        refine wpAnyH_take (i:=9) (v:=?_) rfl (by kernel_rfl) (by kernel_rfl) (by kernel_rfl) (fun _ _ _ h=>h) (Or.inr ⟨by rfl,?_⟩) hS ?_
        rotate_left
        · rfl
        rotate_left
        simp only [Act.put,zq0,zq1,zq2,zq3,zq4,zq5]
        refine wpAnyH_take (i:=10) (v:=?_) rfl (by kernel_rfl) (by kernel_rfl) (by kernel_rfl) (fun _ _ _ h=>h) (Or.inr ⟨by rfl,?_⟩) hS ?_
        rotate_left
        · rfl
        rotate_left
        simp only [Act.put,zq0,zq1,zq2,zq3,zq4,zq5]
        refine wpAnyH_take (i:=11) (v:=?_) rfl (by kernel_rfl) (by kernel_rfl) (by kernel_rfl) (fun _ _ _ h=>h) (Or.inr ⟨by rfl,?_⟩) hS ?_
        rotate_left
        · rfl
        rotate_left
        simp only [Act.put,zq0,zq1,zq2,zq3,zq4,zq5]
        refine wpAnyH_take (i:=12) (v:=?_) rfl (by kernel_rfl) (by kernel_rfl) (by kernel_rfl) (fun _ _ _ h=>h) (Or.inr ⟨by rfl,?_⟩) hS ?_
        rotate_left
        · rfl
        rotate_left
        simp only [Act.put,zq0,zq1,zq2,zq3,zq4,zq5]
        refine wpAnyH_take (i:=13) (v:=?_) rfl (by kernel_rfl) (by kernel_rfl) (by kernel_rfl) (fun _ _ _ h=>h) (Or.inr ⟨by rfl,?_⟩) hS ?_
        rotate_left
        · rfl
        rotate_left
        simp only [Act.put,zq0,zq1,zq2,zq3,zq4,zq5]
        refine wpAnyH_take (i:=14) (v:=?_) rfl (by kernel_rfl) (by kernel_rfl) (by kernel_rfl) (fun _ _ _ h=>h) (Or.inr ⟨by rfl,?_⟩) hS ?_
        rotate_left
        · rfl
        rotate_left
        simp only [Act.put,zq0,zq1,zq2,zq3,zq4,zq5]
        refine wpAnyH_take (i:=15) (v:=?_) rfl (by kernel_rfl) (by kernel_rfl) (by kernel_rfl) (fun _ _ _ h=>h) (Or.inr ⟨by rfl,?_⟩) hS ?_
        rotate_left
        · rfl
        rotate_left
        simp only [Act.put,zq0,zq1,zq2,zq3,zq4,zq5]
        refine wpAnyH_take (i:=16) (v:=?_) rfl (by kernel_rfl) (by kernel_rfl) (by kernel_rfl) (fun _ _ _ h=>h) (Or.inr ⟨by rfl,?_⟩) hS ?_
        rotate_left
        · rfl
        rotate_left
        simp only [Act.put,zq0,zq1,zq2,zq3,zq4,zq5]
        refine wpAnyH_take (i:=17) (v:=?_) rfl (by kernel_rfl) (by kernel_rfl) (by kernel_rfl) (fun _ _ _ h=>h) (Or.inr ⟨by rfl,?_⟩) hS ?_
        rotate_left
        · rfl
        rotate_left
        simp only [Act.put,zq0,zq1,zq2,zq3,zq4,zq5]
        refine wpAnyH_take (i:=18) (v:=?_) rfl (by kernel_rfl) (by kernel_rfl) (by kernel_rfl) (fun _ _ _ h=>h) (Or.inl ⟨by rfl,?_⟩) hS ?_
        rotate_left
        · (intro w hSw;(try dsimp only at hSw);go_simp;(try with_reducible rfl))
        rotate_left
        simp only [Act.put,zq0,zq1,zq2,zq3,zq4,zq5]
        refine wpAnyH_done (by kernel_rfl) ?_ _
        have t4:=Ext.trans t3 hS.1
        clear hS
        go_wp2
        go_ret
        exact ⟨OkBad.bad HNO.out,t4⟩
      | true=>
        rw [hone] at HC1
        have HCD : Hid (CodeTo ⟨id,m,c,r,l,h⟩ fs (j + 1)):=HCG.out (oneB_code hone)
        clear k0'
        have hjp : (decide ((0 : Int) < (j : Int))) = true:=by have:=HJ0.out;simp;omega
        have hjn : decide (0 < j) = true:=by have:=HJ0.out;simp;omega
        have hjw : IntKind.i64.wrap ((j : Int) - 1) = (p : Int):=by have:=HJ0.out;rw [IntWalk.i64_in _ (by have:=HLJ.out;have:=HNM.out;unfold maxLen at this;omega)];omega
        have hp0 : (0 : Int) ≤ (p : Int):=by omega
        have hpn : (p : Int) < (n : Int):=by have:=HJ0.out;have:=HLJ.out;omega
        have hpn' : p < n:=by omega
        refine wp_region_held_drew (S:=fun w'=>Below Wg.heap.size Wg w' ∧ (∀ p,w'.cell? ⟨w.heap.size,p,none⟩ = (#[.int .u32 (id : Int),.int .i64 m,.int .i64 c,.int .i64 r,.int .i64 l,.int .i64 h] : Array Value).toList[p]?) ∧ (∀ p,w'.cell? ⟨gn,p,none⟩ = (#[.int .i64 (fN g),.int .u8 (kI g),.int .i64 (fA g),.int .i64 (fM g),.slice Ab (fD g).length cb,.slice As (fS g).length cs,.slice Aq (fQ g).length cq,.slice Ax (fB g).length cx] : Array Value).toList[p]?) ∧ w'.cell? ⟨b,off + p * 8,none⟩ = some (.int .i64 pv)) (by kernel_rfl) hS0 (fun hS=>?_)
        clear bv hS0
        refine wpAnyH_take (i:=0) (v:=?_) rfl (by kernel_rfl) (by kernel_rfl) (by kernel_rfl) (fun _ _ _ h=>h) (Or.inl ⟨by rfl,?_⟩) hS ?_
        rotate_left
        · (intro w hSw;(try dsimp only at hSw);go_simp;(try with_reducible rfl))
        rotate_left
        simp only [Act.put,zq0,zq1,zq2,zq3,zq4,zq5]
        refine wpAnyH_take (i:=1) (v:=?_) rfl (by kernel_rfl) (by kernel_rfl) (by kernel_rfl) (fun _ _ _ h=>h) (Or.inl ⟨by rfl,?_⟩) hS ?_
        rotate_left
        · (intro w hSw;(try dsimp only at hSw);go_simp;(try with_reducible rfl))
        rotate_left
        simp only [Act.put,zq0,zq1,zq2,zq3,zq4,zq5]
        refine wpAnyH_ready (rs:=[2]) (by kernel_rfl) (by simp) ?_
        refine AllReadyH.cons rfl (fun K hK=>?_) AllReadyH.nil
        rw [if_pos (by rfl)]
        go_simp
        refine (HC1.out _ hS.1).mono ?_
        rintro e w3 ⟨rfl,k3⟩
        refine hK.out _ _ (HS.out _ (Ext.trans hS.1 k3)) (fun hS'=>?_)
        clear hK K hS k3
        have hS:=hS'
        clear hS'
        try simp only [Act.put,zq0,zq1,zq2,zq3,zq4,zq5]
        refine wpAnyH_take (i:=3) (v:=?_) rfl (by kernel_rfl) (by kernel_rfl) (by kernel_rfl) (fun _ _ _ h=>h) (Or.inl ⟨by rfl,?_⟩) hS ?_
        rotate_left
        · (intro w hSw;(try dsimp only at hSw);go_simp;(try with_reducible rfl))
        rotate_left
        simp only [Act.put,zq0,zq1,zq2,zq3,zq4,zq5]
        refine wpAnyH_take (i:=4) (v:=?_) rfl (by kernel_rfl) (by kernel_rfl) (by kernel_rfl) (fun _ _ _ h=>h) (Or.inl ⟨by rfl,?_⟩) hS ?_
        rotate_left
        · (intro w hSw;(try dsimp only at hSw);go_simp;(try with_reducible rfl))
        rotate_left
        simp only [Act.put,zq0,zq1,zq2,zq3,zq4,zq5]
        refine wpAnyH_take (i:=5) (v:=?_) rfl (by kernel_rfl) (by kernel_rfl) (by kernel_rfl) (fun _ _ _ h=>h) (Or.inl ⟨by rfl,?_⟩) hS ?_
        rotate_left
        · (intro w hSw;(try dsimp only at hSw);go_simp;(try with_reducible rfl))
        rotate_left
        simp only [Act.put,zq0,zq1,zq2,zq3,zq4,zq5]
        refine wpAnyH_take (i:=6) (v:=?_) rfl (by kernel_rfl) (by kernel_rfl) (by kernel_rfl) (fun _ _ _ h=>h) (Or.inl ⟨by rfl,?_⟩) hS ?_
        rotate_left
        · (intro w hSw;(try dsimp only at hSw);go_simp;(try with_reducible rfl))
        rotate_left
        simp only [Act.put,zq0,zq1,zq2,zq3,zq4,zq5]
        refine wpAnyH_take (i:=7) (v:=?_) rfl (by kernel_rfl) (by kernel_rfl) (by kernel_rfl) (fun _ _ _ h=>h) (Or.inl ⟨by rfl,?_⟩) hS ?_
        rotate_left
        · (intro w hSw;(try dsimp only at hSw);go_simp;(try with_reducible rfl))
        rotate_left
        simp only [Act.put,zq0,zq1,zq2,zq3,zq4,zq5]
        refine wpAnyH_take (i:=8) (v:=?_) rfl (by kernel_rfl) (by kernel_rfl) (by kernel_rfl) (fun _ _ _ h=>h) (Or.inl ⟨by rfl,?_⟩) hS ?_
        rotate_left
        · (intro w hSw;(try dsimp only at hSw);go_simp;(try with_reducible rfl))
        rotate_left
        simp only [Act.put,zq0,zq1,zq2,zq3,zq4,zq5]
        refine wpAnyH_take (i:=9) (v:=?_) rfl (by kernel_rfl) (by kernel_rfl) (by kernel_rfl) (fun _ _ _ h=>h) (Or.inl ⟨by rfl,?_⟩) hS ?_
        rotate_left
        · (intro w hSw;(try dsimp only at hSw);go_simp;(try with_reducible rfl))
        rotate_left
        simp only [Act.put,zq0,zq1,zq2,zq3,zq4,zq5]
        refine wpAnyH_take (i:=10) (v:=?_) rfl (by kernel_rfl) (by kernel_rfl) (by kernel_rfl) (fun _ _ _ h=>h) (Or.inl ⟨by rfl,?_⟩) hS ?_
        rotate_left
        · (intro w hSw;(try dsimp only at hSw);go_simp;(try with_reducible rfl))
        rotate_left
        simp only [Act.put,zq0,zq1,zq2,zq3,zq4,zq5]
        refine wpAnyH_take (i:=11) (v:=?_) rfl (by kernel_rfl) (by kernel_rfl) (by kernel_rfl) (fun _ _ _ h=>h) (Or.inl ⟨by rfl,?_⟩) hS ?_
        rotate_left
        · (intro w hSw;(try dsimp only at hSw);go_simp;(try with_reducible rfl))
        rotate_left
        simp only [Act.put,zq0,zq1,zq2,zq3,zq4,zq5]
        refine wpAnyH_take (i:=12) (v:=?_) rfl (by kernel_rfl) (by kernel_rfl) (by kernel_rfl) (fun _ _ _ h=>h) (Or.inl ⟨by rfl,?_⟩) hS ?_
        rotate_left
        · (intro w hSw;(try dsimp only at hSw);go_simp;(try with_reducible rfl))
        rotate_left
        simp only [Act.put,zq0,zq1,zq2,zq3,zq4,zq5]
        refine wpAnyH_ready (rs:=[13]) (by kernel_rfl) (by simp) ?_
        refine AllReadyH.cons rfl (fun K hK=>?_) AllReadyH.nil
        rw [if_pos (by rfl)]
        go_simp
        refine hK.out _ _ hS (fun hS'=>?_)
        clear hK K hS
        have hS:=hS'
        clear hS'
        try simp only [Act.put,zq0,zq1,zq2,zq3,zq4,zq5]
        rcases Bool.eq_false_or_eq_true (decide (fN g ≤ pv)) with e9 | e9
        · have HNO : Hid (flB ⟨id,m,c,r,l,h⟩ fs = true → False):=fun ht=>by
           have h1:=(HST.out.1 ((flB_iff.1 ht).2.2 j HLF.out)).2.1 (by have:=HJ0.out;omega)
           have h2:=HPV.out
           have h3:=of_decide_eq_true e9
           omega
          refine wpAnyH_take (i:=14) (v:=?_) rfl (by kernel_rfl) (by kernel_rfl) (by kernel_rfl) (fun _ _ _ h=>h) (Or.inl ⟨by rfl,?_⟩) hS ?_
          rotate_left
          · (intro w hSw;(try dsimp only at hSw);go_simp;(try with_reducible rfl))
          rotate_left
          simp only [Act.put,zq0,zq1,zq2,zq3,zq4,zq5]
          refine wpAnyH_take (i:=15) (v:=?_) rfl (by kernel_rfl) (by kernel_rfl) (by kernel_rfl) (fun _ _ _ h=>h) (Or.inl ⟨by rfl,?_⟩) hS ?_
          rotate_left
          · (intro w hSw;(try dsimp only at hSw);go_simp;(try with_reducible rfl))
          rotate_left
          simp only [Act.put,zq0,zq1,zq2,zq3,zq4,zq5]
          refine wpAnyH_take (i:=16) (v:=?_) rfl (by kernel_rfl) (by kernel_rfl) (by kernel_rfl) (fun _ _ _ h=>h) (Or.inl ⟨by rfl,?_⟩) hS ?_
          rotate_left
          · (intro w hSw;(try dsimp only at hSw);go_simp;(try with_reducible rfl))
          rotate_left
          simp only [Act.put,zq0,zq1,zq2,zq3,zq4,zq5]
          refine wpAnyH_take (i:=17) (v:=?_) rfl (by kernel_rfl) (by kernel_rfl) (by kernel_rfl) (fun _ _ _ h=>h) (Or.inl ⟨by rfl,?_⟩) hS ?_
          rotate_left
          · (intro w hSw;(try dsimp only at hSw);go_simp;(try with_reducible rfl))
          rotate_left
          simp only [Act.put,zq0,zq1,zq2,zq3,zq4,zq5]
          refine wpAnyH_take (i:=18) (v:=?_) rfl (by kernel_rfl) (by kernel_rfl) (by kernel_rfl) (fun _ _ _ h=>h) (Or.inl ⟨by rfl,?_⟩) hS ?_
          rotate_left
          · (intro w hSw;(try dsimp only at hSw);go_simp;(try with_reducible rfl))
          rotate_left
          simp only [Act.put,zq0,zq1,zq2,zq3,zq4,zq5]
          refine wpAnyH_done (by kernel_rfl) ?_ _
          have t4:=Ext.trans t3 hS.1
          clear hS
          go_wp2
          go_ret
          exact ⟨OkBad.bad HNO.out,t4⟩
        · have HLS : Hid (∀ (h : 0 < j),fN (fs[j - 1]'(by have:=HLF.out;omega)) < fN g):=fun h=>by
           have h2:=HPV.out
           have h3:=of_decide_eq_false e9
           omega
          refine wpAnyH_take (i:=14) (v:=?_) rfl (by kernel_rfl) (by kernel_rfl) (by kernel_rfl) (fun _ _ _ h=>h) (Or.inl ⟨by rfl,?_⟩) hS ?_
          rotate_left
          · (intro w hSw;(try dsimp only at hSw);go_simp;(try with_reducible rfl))
          rotate_left
          simp only [Act.put,zq0,zq1,zq2,zq3,zq4,zq5]
          refine wpAnyH_take (i:=15) (v:=?_) rfl (by kernel_rfl) (by kernel_rfl) (by kernel_rfl) (fun _ _ _ h=>h) (Or.inl ⟨by rfl,?_⟩) hS ?_
          rotate_left
          · (intro w hSw;(try dsimp only at hSw);go_simp;(try with_reducible rfl))
          rotate_left
          simp only [Act.put,zq0,zq1,zq2,zq3,zq4,zq5]
          refine wpAnyH_take (i:=16) (v:=?_) rfl (by kernel_rfl) (by kernel_rfl) (by kernel_rfl) (fun _ _ _ h=>h) (Or.inl ⟨by rfl,?_⟩) hS ?_
          rotate_left
          · (intro w hSw;(try dsimp only at hSw);go_simp;(try with_reducible rfl))
          rotate_left
          simp only [Act.put,zq0,zq1,zq2,zq3,zq4,zq5]
          refine wpAnyH_take (i:=17) (v:=?_) rfl (by kernel_rfl) (by kernel_rfl) (by kernel_rfl) (fun _ _ _ h=>h) (Or.inl ⟨by rfl,?_⟩) hS ?_
          rotate_left
          · (intro w hSw;(try dsimp only at hSw);go_simp;(try with_reducible rfl))
          rotate_left
          simp only [Act.put,zq0,zq1,zq2,zq3,zq4,zq5]
          refine wpAnyH_take (i:=18) (v:=?_) rfl (by kernel_rfl) (by kernel_rfl) (by kernel_rfl) (fun _ _ _ h=>h) (Or.inl ⟨by rfl,?_⟩) hS ?_
          rotate_left
          · (intro w hSw;(try dsimp only at hSw);go_simp;(try with_reducible rfl))
          rotate_left
          simp only [Act.put,zq0,zq1,zq2,zq3,zq4,zq5]
          refine wpAnyH_done (by kernel_rfl) ?_ _
          clear hjp hjn hjw hp0 hpn hpn' e9
          have t4:=Ext.trans t3 hS.1
          have b4:=Ext.trans b3 hS.1
          have C4:=C3.next hS.1
          have G4:=G3.next hS.1
          have HU:=Lib.hid (hasu_any S g As cs _ ((HRS.out.below hS.1)))
          have x4:=G4.cell
          clear hS C3 G3 HS
          go_wp2_with fail
          refine HU.out.mono ?_
          rintro e w5 ⟨rfl,b5⟩
          have t5:=Ext.trans t4 b5
          have b6:=Ext.trans b4 b5
          have C5:=C4.next b5
          clear x4 HU G4 C4
          cases hgo : goesB g with
          | false=>
            have HA' : Hid ((∀ i,i < j + 1 → stB ⟨id,m,c,r,l,h⟩ fs i = true) ∧ CodeTo ⟨id,m,c,r,l,h⟩ fs (j + 1)):=⟨fun i hi=>by
              by_cases e : i = j
              · subst e
                exact HST.out.2 ⟨hone,HLS.out,fun hh=>by rw [hgo] at hh;cases hh⟩
              · exact HA.out.1 i (by omega),HCD.out⟩
            go_wp2
            go_roundw
            case rel=>exact ⟨j + 1,HLJ.out,by first | exact round_same HWJ | go_num,b6,HA'⟩
            case measure=>first | exact round_less HWJ HLJ.out | (have h:=HLJ.out;simp [intOf];omega)
          | true=>
            have HF:=Lib.hid (HFIR.out w5 j HLF.out HCD.out (HG1.out.below b6))
            have x5:=C5.cell
            have HFV : Hid (stB ⟨id,m,c,r,l,h⟩ fs j = true ↔ firstB fs j = true):=HST.out.trans ⟨fun hh=>hh.2.2 hgo,fun hh=>⟨hone,HLS.out,fun _=>hh⟩⟩
            generalize firstB fs j = fj at *
            go_wp2_with fail
            refine HF.out.mono ?_
            rintro e w7 ⟨rfl,b7⟩
            have t7:=Ext.trans t5 b7
            have b8:=Ext.trans b6 b7
            clear x5 HF
            cases fj with
            | false=>
              go_wp2
              go_ret
              exact ⟨OkBad.bad fun ht=>absurd (HFV.out.1 ((flB_iff.1 ht).2.2 j HLF.out)) (by decide),t7⟩
            | true=>
              have HA' : Hid ((∀ i,i < j + 1 → stB ⟨id,m,c,r,l,h⟩ fs i = true) ∧ CodeTo ⟨id,m,c,r,l,h⟩ fs (j + 1)):=⟨fun i hi=>by
               by_cases e : i = j
               · subst e
                 exact HFV.out.2 (by first | rfl | trivial)
               · exact HA.out.1 i (by omega),HCD.out⟩
              go_wp2
              go_roundw
              case rel=>exact ⟨j + 1,HLJ.out,by first | exact round_same HWJ | go_num,b8,HA'⟩
              case measure=>first | exact round_less HWJ HLJ.out | (have h:=HLJ.out;simp [intOf];omega)
  · go_wp2
    go_ret
    exact ⟨OkBad.ok (flB_iff.2 ⟨HXK.out,by have:=HN8.out;have:=HN.out;omega,fun i hi=>HA.out.1 i (by have:=HN.out;omega)⟩),t2⟩
end Go.Proofs.Ythapabjlhooglaa
namespace Go.Proofs.Ythapabjlhooglaa
open Go Go.RowKit
set_option linter.unusedSimpArgs false
set_option linter.unusedVariables false
def fndP (fs : List FlTy.T) (n b : Int) : Option Nat:=match fs.findIdx? (numF n) with
 | some k=>(match fs[k]? with | some f=>if fA f ≤ b ∧ b < fA f + fM f then some k else none | none=>none)
 | none=>none
theorem fndP_none {fs : List FlTy.T} {n b : Int} (h : fs.findIdx? (numF n) = none) : fndP fs n b = none:=by unfold fndP;rw [h]
theorem fndP_at {fs : List FlTy.T} {n b : Int} {k : Nat} (h : fs.findIdx? (numF n) = some k) (hk : k < fs.length) : fndP fs n b = if fA fs[k] ≤ b ∧ b < fA fs[k] + fM fs[k] then some k else none:=by
 unfold fndP
 rw [h]
 simp only [List.getElem?_eq_getElem hk]
theorem fndP_some {fs : List FlTy.T} {n b : Int} {k : Nat} (h : fndP fs n b = some k) : ∃ hk : k < fs.length,fN fs[k] = n ∧ fA fs[k] ≤ b ∧ b < fA fs[k] + fM fs[k]:=by
 unfold fndP at h
 cases h1 : fs.findIdx? (numF n) with
 | none=>rw [h1] at h;cases h
 | some j=>
   rw [h1] at h
   obtain ⟨hj,h2,_⟩:=List.findIdx?_eq_some_iff_getElem.1 h1
   simp only [List.getElem?_eq_getElem hj] at h
   split at h
   · rename_i h3
     injection h with h
     subst h
     refine ⟨hj,?_,h3⟩
     unfold numF at h2
     simpa using h2
   · cases h
def FindIs (fs : List FlTy.T) (n b : Int) (e : Ending) : Prop:=∃ (a i : Int) (is : Bool),e = .returned (.tuple #[.int .i64 a,.int .i64 i,.bool is]) ∧ (is = false → fndP fs n b = none) ∧ (is = true → ∃ k,fndP fs n b = some k ∧ a = (k : Int) ∧ ∃ hk : k < fs.length,∃ q : Nat,i = (q : Int) ∧ b = fA fs[k] + (q : Int) ∧ (q : Int) < fM fs[k])
def Fit8 (fs : List FlTy.T) : Prop:=∀ i (h : i < fs.length),(0 ≤ fA fs[i] ∧ fA fs[i] ≤ 1000) ∧ (0 ≤ fM fs[i] ∧ fM fs[i] ≤ 8)
set_option maxRecDepth 100000 in
set_option maxHeartbeats 2000000 in
theorem ffind_any (S : Nat → Prop) (fs : List FlTy.T) (N d : Nat) (B : Option Addr) (hN : fs.length = N) (n b : Int) (hb : IsInt b) (hfit : Fit8 fs) (w : World) (hr : RdIn w S (.sl FlTy) fs [.slice B N d]) :
 Calls Try.prog 39 #[.slice B N d,.int .i64 n,.int .i64 b] w fun e w'=>FindIs fs n b e ∧ Below w.heap.size w w':=by
 have t0:=Ext.alloc (Below.refl w.heap.size w) (.cells #[.int .i64 n] 3)
 have N0:=BoxOf.new w #[.int .i64 n] 3
 have HC:=Lib.hid (idx_find S fs B N d hN n w.heap.size _ (hr.below t0) N0)
 have HR:=Lib.hid (hr.below t0)
 have HNM : Hid (N ≤ maxLen):=by have:=fl_max hr;show N ≤ maxLen;omega
 unfold IdxIs at HC
 clear hr N0
 go_enter Try.func39,Try.ntmps39
 go_upto_region 1 with fail
 generalize w.alloc (.cells #[.int .i64 n] 3) = W at *
 go_wp2_with fail
 refine HC.out.mono ?_
 rintro e w1 ⟨rfl,b1⟩
 have t1:=Ext.trans t0 b1
 clear HC
 cases hidx : fs.findIdx? (numF n) with
 | none=>
   have hv : idxI (numF n) fs = -1:=by unfold idxI;rw [hidx]
   rw [hv]
   go_wp2
   go_ret3
   exact ⟨⟨0,0,false,rfl,fun _=>fndP_none hidx,fun h=>by cases h⟩,t1⟩
 | some k=>
   have hv : idxI (numF n) fs = (k : Int):=by unfold idxI;rw [hidx]
   rw [hv]
   obtain ⟨hk,_,_⟩:=List.findIdx?_eq_some_iff_getElem.1 hidx
   obtain ⟨bb,off,Ab,cb,As,cs,Aq,cq,Ax,cx,rfl,q0,q1,q2,q3,q4,q5,q6,q7,hi,_⟩:=fl_at (HR.out.below b1) hk
   have HF:=Lib.hid (hfit k hk)
   have HP:=Lib.hid (fndP_at (b:=b) hidx hk)
   have HIS : Hid (∀ q : Nat,b = fA fs[k] + (q : Int) → (q : Int) < fM fs[k] → ∃ hk : k < fs.length,∃ q' : Nat,(q : Int) = (q' : Int) ∧ b = fA fs[k] + (q' : Int) ∧ (q' : Int) < fM fs[k]):=fun q h1 h2=>⟨hk,q,rfl,h1,h2⟩
   generalize fs[k] = f at *
   have hkN : k < N:=by omega
   have hB:=Lib.hid hb
   clear hidx hv hi HR hb hfit
   have bA:=Ext.alloc (Below.refl w1.heap.size w1) (.cells #[.int .u8 (kI f),.int .i64 (fA f),.int .i64 (fM f),.slice Ab (fD f).length cb] 28)
   have A1:=BoxOf.new w1 #[.int .u8 (kI f),.int .i64 (fA f),.int .i64 (fM f),.slice Ab (fD f).length cb] 28
   have t2:=Ext.trans t1 bA
   go_upto_region 5 with fail
   generalize w1.alloc (.cells #[.int .u8 (kI f),.int .i64 (fA f),.int .i64 (fM f),.slice Ab (fD f).length cb] 28) = W1 at *
   have x1:=A1.cell
   clear q0 q1 q2 q3 q4 q5 q6 q7 bA t1 t0 b1
   obtain ⟨sv,hsv⟩ : ∃ z : Int,wrap64 (b - fA f) = z:=⟨_,rfl⟩
   have hsv' : IntKind.i64.wrap (b - fA f) = sv:=by rw [← hsv,IntKind.wrap_i64];unfold wrap64;rfl
   rcases Bool.eq_false_or_eq_true (decide (fA f ≤ b)) with e1 | e1
   · have h1:=of_decide_eq_true e1
     obtain ⟨q,hq⟩ : ∃ q : Nat,b - fA f = (q : Int):=⟨(b - fA f).toNat,by omega⟩
     have hsq : sv = (q : Int):=by rw [← hsv,hq];exact IntWalk.wrap64_in _ (by have:=HF.out;have:=hB.out;omega)
     have HQ:=Lib.hid (show b = fA f + (q : Int) by omega)
     subst hsq
     clear hq h1
     rcases Bool.eq_false_or_eq_true (decide ((q : Int) < fM f)) with e2 | e2
     · have h2:=Lib.hid (of_decide_eq_true e2)
       go_quiet (fail)
       have t3:=below_drewN' t2 nq
       go_wp2
       go_ret3
       refine ⟨⟨(k : Int),(q : Int),true,rfl,(fun h=>by cases h),fun _=>⟨k,?_,rfl,HIS.out q HQ.out h2.out⟩⟩,t3⟩
       rw [HP.out,if_pos]
       have:=HQ.out;have:=h2.out;omega
     · have h2:=Lib.hid (of_decide_eq_false e2)
       go_quiet (fail)
       have t3:=below_drewN' t2 nq
       go_wp2
       go_ret3
       refine ⟨⟨(k : Int),(q : Int),false,rfl,(fun _=>?_),fun h=>by cases h⟩,t3⟩
       rw [HP.out,if_neg]
       have:=HQ.out;have:=h2.out;omega
   · have h1:=Lib.hid (of_decide_eq_false e1)
     go_quiet (fail)
     have t3:=below_drewN' t2 nq
     go_wp2
     go_ret3
     refine ⟨⟨(k : Int),sv,false,rfl,(fun _=>?_),fun h=>by cases h⟩,t3⟩
     rw [HP.out,if_neg]
     have:=h1.out;omega
theorem flB_code {x : Cfg} {fs : List FlTy.T} (h : flB x fs = true) : ∀ i (hi : i < fs.length),codeF x fs[i] = 0:=fun i hi=>oneB_code ((stB_iff hi).1 ((flB_iff.1 h).2.2 i hi)).1
theorem flB_fit {x : Cfg} {fs : List FlTy.T} (h : flB x fs = true) : Fit8 fs:=fun i hi=>by
 obtain ⟨_,_,_,h1,h2,_⟩:=askCode_0 (flB_code h i hi)
 exact ⟨h2,h1⟩
def mayP (x : Cfg) (fs : List FlTy.T) (n b : Int) : Bool × Int:=if flB x fs then (match fndP fs n b with | some k=>(firstB fs k,0) | none=>(false,6)) else (false,8)
theorem okbad_cases {P : Prop} {e : Ending} (h : OkBad P e) : (P ∧ e = .returned (.int .i64 0)) ∨ (¬ P ∧ e = .returned (.int .i64 8)):=h
set_option maxRecDepth 100000 in
set_option maxHeartbeats 2000000 in
theorem fmay_any (S : Nat → Prop) (x : Cfg) (fs : List FlTy.T) (N d : Nat) (B : Option Addr) (hN : fs.length = N) (n b : Int) (hb : IsInt b) (w : World) (hr : RdIn w S (.sl FlTy) fs [.slice B N d]) :
 Calls Try.prog 13 #[x.val,.slice B N d,.int .i64 n,.int .i64 b] w fun e w'=>e = .returned (.tuple #[.bool (mayP x fs n b).1,.int .i64 (mayP x fs n b).2]) ∧ Below w.heap.size w w':=by
 have HX:=Lib.hid (fun (w : World) (hr : RdIn w S (.sl FlTy) fs [.slice B N d])=>fcheck_any S x fs N d B hN w hr)
 have HF:=Lib.hid (fun (w : World) (hr : RdIn w S (.sl FlTy) fs [.slice B N d]) (hf : Fit8 fs)=>ffind_any S fs N d B hN n b hb hf w hr)
 have HFI:=Lib.hid (fun (w : World) (hr : RdIn w S (.sl FlTy) fs [.slice B N d]) (k : Nat) (hk : k < fs.length) (hc : flB x fs = true)=>first_any S x fs N d k B hk hN (fun i hi _=>flB_code hc i hi) w hr)
 obtain ⟨mv,hmv⟩ : ∃ z,z = mayP x fs n b:=⟨_,rfl⟩
 rw [← hmv]
 have HMV:=Lib.hid hmv
 clear hmv hb
 obtain ⟨id,m,c,r,l,h⟩:=x
 unfold Cfg.val at *
 dsimp only at *
 have C0:=BoxOf.new w #[.int .u32 (id : Int),.int .i64 m,.int .i64 c,.int .i64 r,.int .i64 l,.int .i64 h] 24
 have t0:=Ext.alloc (Below.refl w.heap.size w) (.cells #[.int .u32 (id : Int),.int .i64 m,.int .i64 c,.int .i64 r,.int .i64 l,.int .i64 h] 24)
 have HR:=Lib.hid (hr.below t0)
 clear hr hN
 go_enter Try.func13,Try.ntmps13
 go_upto_region 1 with fail
 generalize w.alloc (.cells #[.int .u32 (id : Int),.int .i64 m,.int .i64 c,.int .i64 r,.int .i64 l,.int .i64 h] 24) = W at *
 have x0:=C0.cell
 go_wp2_with fail
 refine (HX.out _ HR.out).mono ?_
 rintro e w1 ⟨he,b1⟩
 have t1:=Ext.trans t0 b1
 have C1:=C0.next b1
 clear x0
 rcases okbad_cases he with ⟨hk,rfl⟩ | ⟨hk,rfl⟩
 rotate_left
 · have hm : mv = (false,8):=by rw [HMV.out];unfold mayP;rw [if_neg hk]
   subst hm
   go_wp2
   go_ret2
   exact ⟨rfl,t1⟩
 have HK:=Lib.hid hk
 have HFC:=Lib.hid (HF.out w1 (HR.out.below b1) (flB_fit hk))
 have HR1:=Lib.hid (HR.out.below b1)
 clear he hk HX HF HR C0 t0 b1
 go_wp2_with fail
 refine HFC.out.mono ?_
 rintro e w2 ⟨⟨av,iv,is,rfl,hno,hyes⟩,b2⟩
 have t2:=Ext.trans t1 b2
 have C2:=C1.next b2
 have x2:=C2.cell
 cases is with
 | false=>
   have hm : mv = (false,6):=by rw [HMV.out];unfold mayP;rw [if_pos HK.out,hno rfl]
   subst hm
   clear hno hyes
   go_wp2
   go_ret2
   exact ⟨rfl,t2⟩
 | true=>
   obtain ⟨k,hf,rfl,hk,hqq⟩:=hyes rfl
   have hm : mv = (firstB fs k,0):=by rw [HMV.out];unfold mayP;rw [if_pos HK.out,hf]
   have HFK:=Lib.hid (HFI.out w2 (HR1.out.below b2) k hk HK.out)
   subst hm
   clear hqq hno hyes hf hk
   go_wp2_with fail
   refine HFK.out.mono ?_
   rintro e w3 ⟨rfl,b3⟩
   have t3:=Ext.trans t2 b3
   clear x2
   go_wp2
   go_ret2
   exact ⟨rfl,t3⟩
end Go.Proofs.Ythapabjlhooglaa
namespace Go.Proofs.Ythapabjlhooglaa
open Go Go.RowKit
set_option linter.unusedSimpArgs false
set_option linter.unusedVariables false
def MayRel (x : Cfg) (ys : List (List (List UInt8))) (gs : List GoTy.T) (n : Int) (bs : List UInt8) (b : Bool) (v : Int) : Prop:=
 (¬ PlainOk x ys gs ∧ b = false ∧ v = 8) ∨ (PlainOk x ys gs ∧ ¬ (0 ≤ n ∧ n < (ys.length : Int)) ∧ b = false ∧ v = 2) ∨
 (PlainOk x ys gs ∧ (0 ≤ n ∧ n < (ys.length : Int)) ∧ ¬ bs.length = 128 ∧ b = false ∧ v = 3) ∨ (PlainOk x ys gs ∧ (0 ≤ n ∧ n < (ys.length : Int)) ∧ bs.length = 128 ∧ (b = true ↔ LeftP ys gs n.toNat bs) ∧ v = 0)
theorem MayRel.one {x : Cfg} {ys : List (List (List UInt8))} {gs : List GoTy.T} {n : Int} {bs : List UInt8} {b b' : Bool} {v v' : Int} (h : MayRel x ys gs n bs b v) (h' : MayRel x ys gs n bs b' v') : b = b' ∧ v = v':=by
 rcases h with ⟨h1,rfl,rfl⟩ | ⟨h1,h2,rfl,rfl⟩ | ⟨h1,h2,h3,rfl,rfl⟩ | ⟨h1,h2,h3,h4,rfl⟩ <;> rcases h' with ⟨k1,rfl,rfl⟩ | ⟨k1,k2,rfl,rfl⟩ | ⟨k1,k2,k3,rfl,rfl⟩ | ⟨k1,k2,k3,k4,rfl⟩ <;> first | exact ⟨rfl,rfl⟩ | exact absurd h1 k1 | exact absurd k1 h1 | exact absurd h2 k2 | exact absurd k2 h2 | exact absurd h3 k3 | exact absurd k3 h3 | exact ⟨Bool.eq_iff_iff.2 (h4.trans k4.symm),rfl⟩
end Go.Proofs.Ythapabjlhooglaa
namespace Go.Proofs.Ythapabjlhooglaa
open Go Go.RowKit
set_option linter.unusedSimpArgs false
set_option linter.unusedVariables false
def ones (bl : List (List UInt8)) : List (List (List UInt8)):=bl.map fun b=>[b]
def CrashRel (x : Cfg) (ys : List (List (List UInt8))) (gs : List GoTy.T) (bl : List (List UInt8)) (v : Int) : Prop:=
 (¬ PlainOk x ys gs ∧ v = 8) ∨ (PlainOk x ys gs ∧ ¬ bl.length = ys.length ∧ v = 2) ∨ (PlainOk x ys gs ∧ bl.length = ys.length ∧ (∃ i,∃ h : i < bl.length,¬ (bl[i]).length = 128) ∧ v = 3) ∨
 (PlainOk x ys gs ∧ bl.length = ys.length ∧ (∀ i (h : i < bl.length),(bl[i]).length = 128) ∧ (∃ i,∃ h : i < bl.length,¬ LeftP ys gs i bl[i]) ∧ v = 8) ∨
 (PlainOk x ys gs ∧ bl.length = ys.length ∧ (∀ i (h : i < bl.length),(bl[i]).length = 128) ∧ (∀ i (h : i < bl.length),LeftP ys gs i bl[i]) ∧ v = 0)
theorem CrashRel.one {x : Cfg} {ys : List (List (List UInt8))} {gs : List GoTy.T} {bl : List (List UInt8)} {v v' : Int} (h : CrashRel x ys gs bl v) (h' : CrashRel x ys gs bl v') : v = v':=by
 rcases h with ⟨h1,rfl⟩ | ⟨h1,h2,rfl⟩ | ⟨h1,h2,⟨i,hi,h3⟩,rfl⟩ | ⟨h1,h2,h3,⟨i,hi,h4⟩,rfl⟩ | ⟨h1,h2,h3,h4,rfl⟩ <;> rcases h' with ⟨k1,rfl⟩ | ⟨k1,k2,rfl⟩ | ⟨k1,k2,⟨j,hj,k3⟩,rfl⟩ | ⟨k1,k2,k3,⟨j,hj,k4⟩,rfl⟩ | ⟨k1,k2,k3,k4,rfl⟩ <;>
  first | rfl | exact absurd h1 k1 | exact absurd k1 h1 | exact absurd h2 k2 | exact absurd k2 h2 | exact absurd (k3 i hi) h3 | exact absurd (h3 j hj) k3 | exact absurd (k4 i hi) h4 | exact absurd (h4 j hj) k4
def crashVal (v : Int) (bl : List (List UInt8)) : List (List (List UInt8)):=if v = 0 then ones bl else []
def CrashIs (base : Nat) (x : Cfg) (ys : List (List (List UInt8))) (gs : List GoTy.T) (bl : List (List UInt8)) (e : Ending) (w : World) : Prop:=
 ∃ (v : Int) (A' : Option Addr) (c' : Nat),e = .returned (.tuple #[.agg #[.slice A' (crashVal v bl).length c',.slice none 0 0],.int .i64 v]) ∧ CrashRel x ys gs bl v ∧ RdIn w (NewB base w) (.sl (.sl (.sl .byte))) (crashVal v bl) [.slice A' (crashVal v bl).length c']
theorem CrashIs.ok {base : Nat} {x : Cfg} {ys : List (List (List UInt8))} {gs : List GoTy.T} {bl : List (List UInt8)} {w : World} {A' : Option Addr} {c' n : Nat} (h : CrashRel x ys gs bl 0) (hn : n = (ones bl).length) (hr : RdIn w (NewB base w) (.sl (.sl (.sl .byte))) (ones bl) [.slice A' (ones bl).length c']) : CrashIs base x ys gs bl (.returned (.tuple #[.agg #[.slice A' n c',.slice none 0 0],.int .i64 0])) w:=by
 have e : crashVal 0 bl = ones bl:=if_pos rfl
 exact ⟨0,A',c',by rw [e,hn],h,by rw [e];exact hr⟩
end Go.Proofs.Ythapabjlhooglaa
namespace Go.Proofs.Ythapabjlhooglaa
open Go Go.RowKit
set_option linter.unusedSimpArgs false
set_option linter.unusedVariables false
theorem MarksO.slice {w : World} {S : Nat → Prop} {tid : TypeId} {u : Value} {ms : List Int} (h : MarksO w S tid u ms) : ∃ A c,u = .slice A ms.length c:=by
 rcases h with ⟨rfl,A,c,rfl,_⟩ | ⟨g,cap,cur,rfl,_⟩
 · exact ⟨A,c,rfl⟩
 · exact ⟨_,_,rfl⟩
theorem MarksO.mono {w : World} {S S' : Nat → Prop} {tid : TypeId} {u : Value} {ms : List Int} (h : MarksO w S tid u ms) (hS : ∀ b,S b → S' b) : MarksO w S' tid u ms:=by
 rcases h with h | ⟨g,cap,cur,e,hg,hr⟩
 · exact .inl h
 · exact .inr ⟨g,cap,cur,e,hS g hg,hr⟩
theorem MarksO.frame {w w' : World} {S : Nat → Prop} {tid : TypeId} {u : Value} {ms : List Int} (h : MarksO w S tid u ms) (hf : ∀ b,S b → w'.heap[b]? = w.heap[b]?) : MarksO w' S tid u ms:=by
 rcases h with h | ⟨g,cap,cur,e,hg,hh,hr⟩
 · exact .inl h
 · exact .inr ⟨g,cap,cur,e,hg,by rw [hf g hg];exact hh,hr⟩
theorem MarksO.setLo {w : World} {lo : Nat} {tid : TypeId} {u : Value} {ms : List Int} (h : MarksO w (Iv (lo + 1) w.heap.size) tid u ms) (i : Nat) (v : Value) : MarksO (w.setCell ⟨lo,i,none⟩ v) (Iv (lo + 1) (w.setCell ⟨lo,i,none⟩ v).heap.size) tid u ms:=by
 rw [msize]
 exact h.frame fun b hb=>Below.heap_setCell _ _ _ _ (show b ≠ lo by have:=hb.1;omega)
theorem RdIn.setLo {w : World} {lo : Nat} {Q : Nat → Prop} {t : Ty} {x : t.T} {cs : List Value} (h : RdIn w (fun b=>(Iv (lo + 1) w.heap.size b ∧ Live w b) ∧ Q b) t x cs) (i : Nat) (v : Value) : RdIn (w.setCell ⟨lo,i,none⟩ v) (fun b=>(Iv (lo + 1) (w.setCell ⟨lo,i,none⟩ v).heap.size b ∧ Live (w.setCell ⟨lo,i,none⟩ v) b) ∧ Q b) t x cs:=by
 rw [msize]
 exact (h.frame fun b hb=>Below.heap_setCell _ _ _ _ (show b ≠ lo by have:=hb.1.1.1;omega)).mono fun b hb=>⟨⟨hb.1.1,hb.1.2.set _ _⟩,hb.2⟩
end Go.Proofs.Ythapabjlhooglaa
namespace Go.Proofs.Ythapabjlhooglaa
open Go Go.RowKit
set_option linter.unusedSimpArgs false
set_option linter.unusedVariables false
def cfgTwo : Cfg:=⟨0,3,1,2,12,2⟩
theorem Own.rdin {w : World} {base g : Nat} {l : List UInt8} (h : Own w base g l) (hl : l.length = 128) : RdIn w (NewB base w) (.sl .byte) l [.slice (some ⟨g,0,none⟩) 128 128]:=by
 unfold Own at h
 exact (OwnL.of_bytes (bs:=l) (by rw [hl];exact h)).bytes_rdin (by rw [hl];decide)
theorem wp_make_full {P : Program} (w : World) {o : Oper} {a : Act} {K : Act → World → Prop} {Q : Exit → Act → World → Prop}
 (l c : Operand) (t : TypeId) (hop : o.op = Op.makeSlice t l c)
 (base : Nat) (e : TypeId) (i : TypeInfo) (z : Value) (size : Nat) (h1 : P.underlying t = some (.slice e)) (h2 : P.info? e = some i) (h3 : i.zero = some z) (h4 : i.size = size)
 (kl kc : IntKind) (L C : Int) (n : Nat) (hl : a.eval l = .int kl L) (hc : a.eval c = .int kc C) (hL : L = (n : Int)) (hC : C = (n : Int)) (b2 : i.bytes * n ≤ 281474976710656) (b3 : n ≤ maxLen) (b4 : base ≤ w.heap.size)
 (hK : ∀ w',w'.ownsRow base e size (.slice (some ⟨w.heap.size,0,none⟩) n n) n (madeCells z.cells (n * size)).toList → w.grownBy w' none → K (a.put o.dst (.slice (some ⟨w.heap.size,0,none⟩) n n)) w') :
 o.wp P a w K Q:=by
 obtain ⟨w',hrun,r1,r2⟩:=run_make_full (P:=P) w base t e i z size h1 h2 h3 h4 kl kc n b2 b3 b4
 subst hL
 subst hC
 unfold Oper.wp
 simp [execOp,hop,hl,hc,hrun,Result.andThen]
 exact hK w' r1 r2
def nulls (n : Nat) : List (List (List UInt8)):=List.replicate n [zeros]
def NewRel (x : Cfg) (v : Int) (ys : List (List (List UInt8))) : Prop:=(¬ x.Ok ∧ v = 8 ∧ ys = []) ∨ (x.Ok ∧ v = 0 ∧ ys = nulls (x.c * x.r * (x.m - 1)).toNat)
theorem NewRel.one {x : Cfg} {v v' : Int} {ys zs : List (List (List UInt8))} (h : NewRel x v ys) (h' : NewRel x v' zs) : v = v' ∧ ys = zs:=by
 rcases h with ⟨h1,rfl,rfl⟩ | ⟨h1,rfl,rfl⟩ <;> rcases h' with ⟨k1,rfl,rfl⟩ | ⟨k1,rfl,rfl⟩ <;> first | exact ⟨rfl,rfl⟩ | exact absurd h1 k1 | exact absurd k1 h1
end Go.Proofs.Ythapabjlhooglaa
namespace Go.Proofs.Ythapabjlhooglaa
open Go Go.RowKit
set_option linter.unusedSimpArgs false
set_option linter.unusedVariables false
def numB (n : Int) (g : GoTy.T) : Bool:=decide (n ≤ nuOf g)
def lastOf (ys : List (List (List UInt8))) : List Int:=ys.map fun l=>(l.length : Int) - 1
def mkOf (ki : UInt8) (ys : List (List (List UInt8))) : List Int:=if ki = 4 then lastOf ys else []
def newGo (number : Int) (ki : UInt8) (a y : Int) (bs : List UInt8) (ys : List (List (List UInt8))) : GoTy.T:=(number,(ki,a,y,bs,()),mkOf ki ys,())
def BegRel (x : Cfg) (ys : List (List (List UInt8))) (gs : List GoTy.T) (number : Int) (ki : UInt8) (a y : Int) (bs : List UInt8) (v : Int) (zs : List (List (List UInt8))) (hs : List GoTy.T) : Prop:=
 (¬ PlainOk x ys gs ∧ v = 8 ∧ zs = [] ∧ hs = []) ∨
 (PlainOk x ys gs ∧ ¬ askCode x (ki.toNat : Int) a y bs.length = 0 ∧ v = askCode x (ki.toNat : Int) a y bs.length ∧ zs = [] ∧ hs = []) ∨
 (PlainOk x ys gs ∧ askCode x (ki.toNat : Int) a y bs.length = 0 ∧ ¬ (1 ≤ number ∧ ¬ SomeIs (numB number) gs) ∧ v = 2 ∧ zs = [] ∧ hs = []) ∨
 (PlainOk x ys gs ∧ askCode x (ki.toNat : Int) a y bs.length = 0 ∧ (1 ≤ number ∧ ¬ SomeIs (numB number) gs) ∧ gs.length = 8 ∧ v = 9 ∧ zs = [] ∧ hs = []) ∨
 (PlainOk x ys gs ∧ askCode x (ki.toNat : Int) a y bs.length = 0 ∧ (1 ≤ number ∧ ¬ SomeIs (numB number) gs) ∧ ¬ gs.length = 8 ∧ v = 0 ∧ zs = ys ∧ hs = gs ++ [newGo number ki a y bs ys])
theorem BegRel.one {x : Cfg} {ys : List (List (List UInt8))} {gs : List GoTy.T} {number : Int} {ki : UInt8} {a y : Int} {bs : List UInt8} {v v' : Int} {zs zs' : List (List (List UInt8))} {hs hs' : List GoTy.T} (h : BegRel x ys gs number ki a y bs v zs hs) (h' : BegRel x ys gs number ki a y bs v' zs' hs') : v = v' ∧ zs = zs' ∧ hs = hs':=by
 rcases h with ⟨h1,rfl,rfl,rfl⟩ | ⟨h1,h2,rfl,rfl,rfl⟩ | ⟨h1,h2,h3,rfl,rfl,rfl⟩ | ⟨h1,h2,h3,h4,rfl,rfl,rfl⟩ | ⟨h1,h2,h3,h4,rfl,rfl,rfl⟩ <;> rcases h' with ⟨k1,rfl,rfl,rfl⟩ | ⟨k1,k2,rfl,rfl,rfl⟩ | ⟨k1,k2,k3,rfl,rfl,rfl⟩ | ⟨k1,k2,k3,k4,rfl,rfl,rfl⟩ | ⟨k1,k2,k3,k4,rfl,rfl,rfl⟩ <;>
  first | exact ⟨rfl,rfl,rfl⟩ | exact absurd h1 k1 | exact absurd k1 h1 | exact absurd h2 k2 | exact absurd k2 h2 | exact absurd h3 k3 | exact absurd k3 h3 | exact absurd h4 k4 | exact absurd k4 h4
theorem MarksO.of_own {w : World} {base : Nat} {tid : TypeId} {v : Value} {ms : List Int} (h : w.ownsRow base tid 1 v ms.length (ms.map fun x=>Value.int .i64 x)) : MarksO w (Iv base w.heap.size) tid v ms:=by
 rcases h.2 with ⟨rfl,h0⟩ | ⟨g,cap,cur,rfl,hg,hh,h5,h6,h7,h8⟩
 · exact .inl ⟨List.eq_nil_of_length_eq_zero h0,none,0,rfl,by unfold maxLen;omega⟩
 · exact .inr ⟨g,cap,cur,rfl,⟨hg,(Array.getElem?_eq_some_iff.1 hh).1⟩,hh,h5,h6,by rw [h7,Nat.mul_one],by rw [Nat.mul_one] at h8;exact h8⟩
theorem own_form {w : World} {base : Nat} {e : TypeId} {size : Nat} {v : Value} {n : Nat} {xs : List Value} (h : w.ownsRow base e size v n xs) : ∃ A c,v = .slice A n c:=by
 rcases h.2 with ⟨rfl,h0⟩ | ⟨g,cap,cur,rfl,_⟩
 · exact ⟨none,0,by rw [h0]⟩
 · exact ⟨_,_,rfl⟩
theorem OwnE.box_ne {α : Type} {n : Nat} {P : ElemP α n} {w : World} {F : Nat → Prop} {base g : Nat} {tid t : TypeId} {v : Value} {xs : List α} {cs : Array Value} (h : OwnE P w F base tid v xs) (hb : BoxOf w g cs t) (ht : t ≠ tid) : v.ownBlock ≠ some g:=by
 obtain ⟨ess,_,ho⟩:=h.own
 rcases ho.2 with ⟨rfl,_⟩ | ⟨g',cap,cur,rfl,_,hh,_⟩
 · intro e;cases e
 · intro e
   have e' : g' = g:=Option.some.inj e
   subst e'
   unfold BoxOf at hb
   rw [hb] at hh
   have h1:=Option.some.inj hh
   injection h1 with _ h2
   exact ht h2
end Go.Proofs.Ythapabjlhooglaa
namespace Go.Proofs.Ythapabjlhooglaa
open Go Go.RowKit
set_option linter.unusedSimpArgs false
set_option linter.unusedVariables false
theorem cell_lt {w : World} {b o : Nat} {v : Value} (h : w.cell? ⟨b,o,none⟩ = some v) : b < w.heap.size:=by
 rcases Nat.lt_or_ge b w.heap.size with h1 | h1
 · exact h1
 · have h2 : w.heap[b]? = none:=Array.getElem?_eq_none h1
   unfold World.cell? at h
   simp [h2] at h
end Go.Proofs.Ythapabjlhooglaa
namespace Go.Proofs.Ythapabjlhooglaa
open Go Go.RowKit
set_option linter.unusedSimpArgs false
set_option linter.unusedVariables false
def Pick (ys : List (List (List UInt8))) (left : List (List UInt8)) : Prop:=∀ i (h : i < left.length) (h' : i < ys.length),∃ k,∃ hk : k < (ys[i]).length,left[i] = (ys[i])[k]
theorem Pick.nil (ys : List (List (List UInt8))) : Pick ys []:=fun i h=>absurd h (Nat.not_lt_zero _)
theorem Pick.push {ys : List (List (List UInt8))} {left : List (List UInt8)} {z : List UInt8} (h : Pick ys left) (hz : ∀ h' : left.length < ys.length,∃ k,∃ hk : k < (ys[left.length]).length,z = (ys[left.length])[k]) : Pick ys (left ++ [z]):=by
 intro i hi h'
 by_cases hl : i < left.length
 · rw [List.getElem_append_left hl]
   exact h i hl h'
 · have he : i = left.length:=by rw [List.length_append] at hi;simp at hi;omega
   subst he
   rw [List.getElem_append_right (Nat.le_refl _)]
   simp only [Nat.sub_self,List.getElem_cons_zero]
   exact hz h'
def Vals (w : World) (S : Nat → Prop) (left : List (List UInt8)) (vals : List Value) : Prop:=vals.length = left.length ∧ ∀ i (h : i < left.length) (h' : i < vals.length),RdIn w S (.sl .byte) left[i] [vals[i]]
theorem Vals.nil (w : World) (S : Nat → Prop) : Vals w S [] []:=⟨rfl,fun i h=>absurd h (Nat.not_lt_zero _)⟩
theorem Vals.push {w : World} {S : Nat → Prop} {left : List (List UInt8)} {vals : List Value} {z : List UInt8} {v : Value} (h : Vals w S left vals) (hz : RdIn w S (.sl .byte) z [v]) : Vals w S (left ++ [z]) (vals ++ [v]):=by
 refine ⟨by simp [h.1],fun i hi h'=>?_⟩
 by_cases hl : i < left.length
 · have hl' : i < vals.length:=by rw [h.1];exact hl
   rw [List.getElem_append_left hl,List.getElem_append_left hl']
   exact h.2 i hl hl'
 · have he : i = left.length:=by rw [List.length_append] at hi;simp at hi;omega
   subst he
   have h1 : (left ++ [z])[left.length] = z:=by simp
   have h2 : (vals ++ [v])[left.length] = v:=by simp [← h.1]
   rw [h1,h2]
   exact hz
end Go.Proofs.Ythapabjlhooglaa
namespace Go.Proofs.Ythapabjlhooglaa
open Go Go.RowKit
set_option linter.unusedVariables false
theorem box_diff {w : World} {b b' : Nat} {cs ds : Array Value} {t t' : TypeId} (h : BoxOf w b cs t) (h' : BoxOf w b' ds t') (ht : t ≠ t') : b ≠ b':=by
 intro e
 subst e
 unfold BoxOf at *
 rw [h] at h'
 injection h' with e
 injection e with _ e
 exact ht e
def RowS (w : World) (By : Nat → Prop) (lo g o c : Nat) (zs : List (List UInt8)) : Prop:=
 ∃ cur : Array Value,BoxOf w g cur 26 ∧ zs.length ≤ c ∧ c ≤ maxLen ∧ o + c ≤ cur.size ∧ (lo ≤ g ∧ ¬ By g) ∧
  ∀ k (h : k < zs.length),∃ u,cur.toList[o + k]? = some u ∧ RdIn w By (.sl .byte) zs[k] [u]
def MayS (w : World) (By : Nat → Prop) (lo R : Nat) (ys : List (List (List UInt8))) : Prop:=
 ∃ (cells : Array Value) (gf of cf : Nat → Nat),BoxOf w R cells 65 ∧ (lo ≤ R ∧ ¬ By R) ∧
  (∀ i (h : i < ys.length),cells.toList[i]? = some (.slice (some ⟨gf i,of i,none⟩) (ys[i]).length (cf i)) ∧ RowS w By lo (gf i) (of i) (cf i) ys[i]) ∧
  (∀ i j,i < ys.length → j < ys.length → gf i = gf j → i = j)
theorem RowS.frame {w w' : World} {By By' : Nat → Prop} {lo g o c : Nat} {zs : List (List UInt8)} (h : RowS w By lo g o c zs) (hg : w'.heap[g]? = w.heap[g]?) (hb : ∀ b,By b → w'.heap[b]? = w.heap[b]?) (hB : ∀ b,By b → By' b) (hn : ¬ By' g) : RowS w' By' lo g o c zs:=by
 obtain ⟨cur,h1,h2,h3,h4,h5,h6⟩:=h
 refine ⟨cur,by unfold BoxOf at *;rw [hg];exact h1,h2,h3,h4,⟨h5.1,hn⟩,fun k hk=>?_⟩
 obtain ⟨u,h7,h8⟩:=h6 k hk
 exact ⟨u,h7,(h8.frame hb).mono hB⟩
theorem MayS.row {w : World} {By : Nat → Prop} {lo R : Nat} {ys : List (List (List UInt8))} (h : MayS w By lo R ys) {k : Nat} (hk : k < ys.length) :
 ∃ (cells : Array Value) (g o c : Nat),BoxOf w R cells 65 ∧ (lo ≤ R ∧ ¬ By R) ∧ cells.toList[k]? = some (.slice (some ⟨g,o,none⟩) (ys[k]).length c) ∧ RowS w By lo g o c ys[k] ∧
  ∀ (w' : World) (By' : Nat → Prop) (g' o' c' : Nat) (zs : List (List UInt8)),(∀ b,b < w.heap.size → b ≠ R → b ≠ g → w'.heap[b]? = w.heap[b]?) →
     BoxOf w' R (cells.setIfInBounds k (.slice (some ⟨g',o',none⟩) zs.length c')) 65 → RowS w' By' lo g' o' c' zs → (g' = g ∨ w.heap.size ≤ g') →
     (∀ b,By b → b < w.heap.size ∧ By' b) → (∀ b,b < w.heap.size → By' b → By b) → MayS w' By' lo R (ys.set k zs):=by
 obtain ⟨cells,gf,of,cf,h1,h2,h3,h4⟩:=h
 refine ⟨cells,gf k,of k,cf k,h1,h2,(h3 k hk).1,(h3 k hk).2,?_⟩
 intro w' By' g' o' c' zs hf hR hrow hg hB hB'
 have hlt : ∀ i,i < ys.length → gf i < w.heap.size:=fun i hi=>by
  obtain ⟨cur,k1,_⟩:=(h3 i hi).2
  exact k1.lt
 have hnB : ∀ i,i < ys.length → ¬ By (gf i):=fun i hi=>by
  obtain ⟨cur,_,_,_,_,k5,_⟩:=(h3 i hi).2
  exact k5.2
 have hkc : k < cells.toList.length:=(List.getElem?_eq_some_iff.1 (h3 k hk).1).1
 refine ⟨_,fun i=>if i = k then g' else gf i,fun i=>if i = k then o' else of i,fun i=>if i = k then c' else cf i,hR,⟨h2.1,fun h=>h2.2 (hB' R h1.lt h)⟩,fun i hi=>?_,fun i j hi hj e=>?_⟩
 · rw [List.length_set] at hi
   by_cases e : i = k
   · subst e
     simp only [if_true,List.getElem_set_self]
     exact ⟨by rw [Array.toList_setIfInBounds,List.getElem?_set_self hkc],hrow⟩
   · simp only [if_neg e,List.getElem_set_ne (fun h=>e h.symm)]
     refine ⟨?_,?_⟩
     · rw [Array.toList_setIfInBounds,List.getElem?_set_ne (fun h=>e h.symm)]
       exact (h3 i hi).1
     · have hne : gf i ≠ gf k:=fun h=>e (h4 i k hi hk h)
       have hneR : gf i ≠ R:=by
        obtain ⟨cur,k1,_⟩:=(h3 i hi).2
        exact box_diff k1 h1 (by decide)
       refine (h3 i hi).2.frame (hf _ (hlt i hi) hneR hne) (fun b hb=>hf b (hB b hb).1 (fun e=>h2.2 (e ▸ hb)) (fun e=>hnB k hk (e ▸ hb))) (fun b hb=>(hB b hb).2) (fun h=>hnB i hi (hB' _ (hlt i hi) h))
 · rw [List.length_set] at hi hj
   by_cases ei : i = k <;> by_cases ej : j = k
   · rw [ei,ej]
   · subst ei
     simp only [if_true,if_neg ej] at e
     rcases hg with hg | hg
     · exact h4 i j hi hj (hg.symm.trans e)
     · have:=hlt j hj;omega
   · subst ej
     simp only [if_true,if_neg ei] at e
     rcases hg with hg | hg
     · exact h4 i j hi hj (e.trans hg)
     · have:=hlt i hi;omega
   · simp only [if_neg ei,if_neg ej] at e
     exact h4 i j hi hj e
theorem MayS.lt {w : World} {By : Nat → Prop} {lo R : Nat} {ys : List (List (List UInt8))} (h : MayS w By lo R ys) : R < w.heap.size:=by
 obtain ⟨cells,gf,of,cf,h1,h2,h3,h4⟩:=h
 exact h1.lt
theorem RowS.lt {w : World} {By : Nat → Prop} {lo g o c : Nat} {zs : List (List UInt8)} (h : RowS w By lo g o c zs) : g < w.heap.size:=by
 obtain ⟨cur,h1,_⟩:=h
 exact h1.lt
theorem RowS.rdin {w : World} {By : Nat → Prop} {lo g o c : Nat} {zs : List (List UInt8)} (h : RowS w By lo g o c zs) (hB : ∀ b,By b → NewB lo w b) (hz : zs.length ≤ 1000) : RdIn w (NewB lo w) (.sl (.sl .byte)) zs [.slice (some ⟨g,o,none⟩) zs.length c]:=by
 obtain ⟨cur,h1,h2,h3,h4,h5,h6⟩:=h
 refine rdin_sl.2 ⟨_,_,rfl,h2,h3,by show zs.length * 24 ≤ _;omega,.inr ⟨g,o,rfl,⟨h5.1,h1.lt,_,_,h1⟩,fun i hi=>?_⟩⟩
 obtain ⟨u,h7,h8⟩:=h6 i hi
 refine ⟨[u],fun j hj=>?_,h8.mono hB⟩
 have hj0 : j = 0:=by have : j < 1:=hj;omega
 subst hj0
 show w.cell? ⟨g,o + i * 1 + 0,none⟩ = some u
 rw [Nat.mul_one,Nat.add_zero,h1.cell]
 exact h7
theorem MayS.rdin {w : World} {By : Nat → Prop} {lo R : Nat} {ys : List (List (List UInt8))} (h : MayS w By lo R ys) {cR : Nat} (hc : ys.length ≤ cR ∧ cR ≤ maxLen) (hl : ys.length ≤ 1000) (hB : ∀ b,By b → NewB lo w b) (hz : ∀ i (hi : i < ys.length),(ys[i]).length ≤ 1000) : RdIn w (NewB lo w) (.sl (.sl (.sl .byte))) ys [.slice (some ⟨R,0,none⟩) ys.length cR]:=by
 obtain ⟨cells,gf,of,cf,h1,h2,h3,h4⟩:=h
 refine rdin_sl.2 ⟨_,_,rfl,hc.1,hc.2,by show ys.length * 24 ≤ _;omega,.inr ⟨R,0,rfl,⟨h2.1,h1.lt,_,_,h1⟩,fun i hi=>?_⟩⟩
 refine ⟨_,fun j hj=>?_,(h3 i hi).2.rdin hB (hz i hi)⟩
 have hj0 : j = 0:=by have : j < 1:=hj;omega
 subst hj0
 show w.cell? ⟨R,0 + i * 1 + 0,none⟩ = some _
 rw [Nat.mul_one,Nat.add_zero,Nat.zero_add,h1.cell]
 exact (h3 i hi).1
def MkS (w : World) (By : Nat → Prop) (lo : Nat) (v : Value) (b : Nat) (ms : List Int) : Prop:=
 (∀ x ∈ ms,IsInt x) ∧ ∃ A c,v = .slice A ms.length c ∧ ms.length ≤ c ∧ c ≤ maxLen ∧ ms.length * 8 ≤ 140737488355328 ∧
   (ms = [] ∨ ∃ o cur,A = some ⟨b,o,none⟩ ∧ BoxOf w b cur 3 ∧ (lo ≤ b ∧ ¬ By b) ∧ ∀ q (h : q < ms.length),cur.toList[o + q]? = some (.int .i64 ms[q]))
def GoE (w : World) (By : Nat → Prop) (lo : Nat) (at' : Nat → Option Value) (b : Nat) (g : GoTy.T) : Prop:=
 ∃ vd vm,(at' 0 = some (.int .i64 (nuOf g)) ∧ at' 1 = some (.int .u8 ((kiOf g).toNat : Int)) ∧ at' 2 = some (.int .i64 (atOf g)) ∧ at' 3 = some (.int .i64 (manyOf g)) ∧ at' 4 = some vd ∧ at' 5 = some vm) ∧
  (IsInt (nuOf g) ∧ IsInt (atOf g) ∧ IsInt (manyOf g)) ∧ RdIn w By (.sl .byte) (datOf g) [vd] ∧ MkS w By lo vm b (mksOf g)
theorem MkS.frame {w w' : World} {By By' : Nat → Prop} {lo : Nat} {v : Value} {b : Nat} {ms : List Int} (h : MkS w By lo v b ms) (hf : ms ≠ [] → w'.heap[b]? = w.heap[b]?) (hB : b < w.heap.size → By' b → By b) : MkS w' By' lo v b ms:=by
 obtain ⟨h0,A,c,h1,h2,h3,h4,h5⟩:=h
 refine ⟨h0,A,c,h1,h2,h3,h4,?_⟩
 rcases h5 with h5 | ⟨o,cur,h6,h7,h8,h9⟩
 · exact .inl h5
 · by_cases he : ms = []
   · exact .inl he
   · exact .inr ⟨o,cur,h6,by have:=hf he;unfold BoxOf at *;rw [this];exact h7,⟨h8.1,fun h=>h8.2 (hB h7.lt h)⟩,h9⟩
theorem GoE.frame {w w' : World} {By By' : Nat → Prop} {lo : Nat} {at' at2 : Nat → Option Value} {b : Nat} {g : GoTy.T} (h : GoE w By lo at' b g) (ha : ∀ q,q < 6 → at2 q = at' q) (hf : mksOf g ≠ [] → w'.heap[b]? = w.heap[b]?) (hb : ∀ b,By b → w'.heap[b]? = w.heap[b]?) (hB : ∀ b,By b → By' b) (hB' : ∀ b,b < w.heap.size → By' b → By b) : GoE w' By' lo at2 b g:=by
 obtain ⟨vd,vm,⟨h0,h1,h2,h3,h4,h5⟩,h6,h7,h8⟩:=h
 exact ⟨vd,vm,⟨by rw [ha 0 (by decide)];exact h0,by rw [ha 1 (by decide)];exact h1,by rw [ha 2 (by decide)];exact h2,by rw [ha 3 (by decide)];exact h3,by rw [ha 4 (by decide)];exact h4,by rw [ha 5 (by decide)];exact h5⟩,h6,(h7.frame hb).mono hB,h8.frame hf (hB' b)⟩
theorem MayS.mono {w w' : World} {By By' : Nat → Prop} {lo R : Nat} {ys : List (List (List UInt8))} (h : MayS w By lo R ys) (hb : Below w.heap.size w w') (hlt : ∀ b,By b → b < w.heap.size) (hBB : ∀ b,By b → By' b) (hBn : ∀ b,b < w.heap.size → By' b → By b) : MayS w' By' lo R ys:=by
 obtain ⟨cells,gf,of,cf,h1,h2,h3,h4⟩:=h
 refine ⟨cells,gf,of,cf,h1.next hb,⟨h2.1,fun h=>h2.2 (hBn _ h1.lt h)⟩,fun i hi=>⟨(h3 i hi).1,?_⟩,h4⟩
 have hl:=(h3 i hi).2.lt
 refine (h3 i hi).2.frame (hb.block _ hl) (fun b hb'=>hb.block b (hlt b hb')) hBB (fun h=>?_)
 obtain ⟨cur,_,_,_,_,k5,_⟩:=(h3 i hi).2
 exact k5.2 (hBn _ hl h)
theorem MkS.rdin {w : World} {By : Nat → Prop} {lo : Nat} {v : Value} {b : Nat} {ms : List Int} (h : MkS w By lo v b ms) : RdIn w (NewB lo w) (.sl .int) ms [v]:=by
 obtain ⟨h0,A,c,rfl,h2,h3,h4,h5⟩:=h
 refine rdin_sl.2 ⟨_,_,rfl,h2,h3,h4,?_⟩
 rcases h5 with rfl | ⟨o,cur,h6,h7,h8,h9⟩
 · exact .inl rfl
 · refine .inr ⟨b,o,h6,⟨h8.1,h7.lt,_,_,h7⟩,fun i hi=>⟨[.int .i64 (ms[i]'hi)],fun j hj=>?_,rdin_int.2 ⟨rfl,h0 _ (List.getElem_mem hi)⟩⟩⟩
   have hj0 : j = 0:=by have : j < 1:=hj;omega
   subst hj0
   show w.cell? ⟨b,o + i * 1 + 0,none⟩ = _
   rw [Nat.mul_one,Nat.add_zero,h7.cell]
   exact h9 i hi
end Go.Proofs.Ythapabjlhooglaa
namespace Go.Proofs.Ythapabjlhooglaa
open Go Go.RowKit
set_option linter.unusedVariables false
theorem own_view {w : World} {base e size n : Nat} {v : Value} {xs : List Value} (h : w.ownsRow base e size v n xs) (hn : 0 < n) : ∃ g cap cur,v = .slice (some ⟨g,0,none⟩) n cap ∧ base ≤ g ∧ BoxOf w g cur e ∧ n ≤ cap ∧ cap ≤ maxLen ∧ cur.size = cap * size ∧ ∀ q,q < n * size → cur.toList[q]? = xs[q]?:=by
 rcases h.2 with ⟨_,h0⟩ | ⟨g,cap,cur,e,h1,h2,h3,h4,h5,h6⟩
 · omega
 · refine ⟨g,cap,cur,e,h1,h2,h3,h4,h5,fun q hq=>?_⟩
   rw [← h6,List.getElem?_take,if_pos hq]
end Go.Proofs.Ythapabjlhooglaa
namespace Go.Proofs.Ythapabjlhooglaa
open Go Go.RowKit
set_option linter.unusedSimpArgs false
set_option linter.unusedVariables false
def seqV (n : Nat) : Value:=.int .u32 (n : Int)
def NumRow (w : World) (F : Nat → Prop) (tid : TypeId) (v : Value) (xs : List Value) : Prop:=
 ∃ A cap,v = .slice A xs.length cap ∧ xs.length ≤ cap ∧ cap ≤ maxLen ∧ (∀ g,v.ownBlock = some g → F g) ∧ (xs = [] ∨ ∃ g cur,A = some ⟨g,0,none⟩ ∧ BoxOf w g cur tid ∧ cur.toList.take xs.length = xs)
section
variable {w w' : World} {F F' : Nat → Prop} {tid : TypeId} {v : Value} {xs : List Value}
theorem NumRow.frame (h : NumRow w F tid v xs) (hf : ∀ b,F b → w'.heap[b]? = w.heap[b]?) : NumRow w' F tid v xs:=by
 obtain ⟨A,cap,rfl,h1,h2,h3,h4⟩:=h
 refine ⟨A,cap,rfl,h1,h2,h3,?_⟩
 rcases h4 with h4 | ⟨g,cur,rfl,h5,h6⟩
 · exact .inl h4
 · exact .inr ⟨g,cur,rfl,by unfold BoxOf at *;rw [hf g (h3 g rfl)];exact h5,h6⟩
theorem NumRow.mono (h : NumRow w F tid v xs) (hF : ∀ b,F b → F' b) : NumRow w F' tid v xs:=by
 obtain ⟨A,cap,h0,h1,h2,h3,h4⟩:=h
 exact ⟨A,cap,h0,h1,h2,fun g hg=>hF g (h3 g hg),h4⟩
theorem NumRow.slice (h : NumRow w F tid v xs) : ∃ A c,v = .slice A xs.length c:=by
 obtain ⟨A,cap,h0,_⟩:=h
 exact ⟨A,cap,h0⟩
theorem NumRow.at (h : NumRow w F tid v xs) {i : Nat} (hi : i < xs.length) : ∃ g cap cur,v = .slice (some ⟨g,0,none⟩) xs.length cap ∧ F g ∧ BoxOf w g cur tid ∧ i < cur.size:=by
 obtain ⟨A,cap,rfl,h1,h2,h3,h4⟩:=h
 rcases h4 with h4 | ⟨g,cur,rfl,h5,h6⟩
 · rw [h4] at hi;exact absurd hi (by simp)
 · refine ⟨g,cap,cur,rfl,h3 g rfl,h5,?_⟩
   have h7:=congrArg List.length h6
   rw [List.length_take] at h7
   have h8 : cur.toList.length = cur.size:=by simp
   omega
theorem NumRow.cell (h : NumRow w F tid v xs) {i : Nat} (hi : i < xs.length) : ∃ g cap,v = .slice (some ⟨g,0,none⟩) xs.length cap ∧ w.cell? ⟨g,i,none⟩ = some (xs[i]'hi):=by
 obtain ⟨A,cap,rfl,h1,h2,h3,h4⟩:=h
 rcases h4 with h4 | ⟨g,cur,rfl,h5,h6⟩
 · rw [h4] at hi;exact absurd hi (by simp)
 · refine ⟨g,cap,rfl,?_⟩
   rw [h5.cell]
   have h7 : (cur.toList.take xs.length)[i]? = xs[i]?:=by rw [h6]
   rw [List.getElem?_take,if_pos hi,List.getElem?_eq_getElem hi] at h7
   exact h7
theorem NumRow.set {g c n : Nat} (h : NumRow w F tid (.slice (some ⟨g,0,none⟩) n c) xs) {i : Nat} (hi : i < xs.length) (u : Value) : NumRow (w.setCell ⟨g,i,none⟩ u) F tid (.slice (some ⟨g,0,none⟩) n c) (xs.set i u):=by
 obtain ⟨A,cap,h0,h1,h2,h3,h4⟩:=h
 injection h0 with h01 h02 h03
 subst h01 h03
 refine ⟨_,c,by rw [List.length_set,h02],by rw [List.length_set];exact h1,h2,h3,?_⟩
 rcases h4 with h4 | ⟨g',cur,e,h5,h6⟩
 · rw [h4] at hi;exact absurd hi (by simp)
 · injection e with e
   injection e with e _ _
   subst e
   refine .inr ⟨_,_,rfl,mbox_self h5 i u,?_⟩
   rw [Array.toList_setIfInBounds,List.length_set,List.take_set,h6]
theorem NumRow.setElse (h : NumRow w F tid v xs) {k : Nat} {cs : Array Value} {t : TypeId} (hk : BoxOf w k cs t) (ht : tid ≠ t) (i : Nat) (u : Value) : NumRow (w.setCell ⟨k,i,none⟩ u) F tid v xs:=by
 obtain ⟨A,cap,h0,h1,h2,h3,h4⟩:=h
 refine ⟨A,cap,h0,h1,h2,h3,?_⟩
 rcases h4 with h4 | ⟨g,cur,e,h5,h6⟩
 · exact .inl h4
 · exact .inr ⟨g,cur,e,mbox_else h5 (box_diff h5 hk ht) i u,h6⟩
theorem NumRow.rd {xs : List UInt8} (h : NumRow w F tid v (xs.map byteV)) (hz : xs.length ≤ 140737488355328) : RdIn w (fun b=>F b ∧ Live w b) (.sl .byte) xs [v]:=by
 obtain ⟨A,cap,h0,h1,h2,h3,h4⟩:=h
 subst h0
 rw [List.length_map] at *
 refine rdin_sl.2 ⟨A,cap,by rfl,h1,h2,by show xs.length * 1 ≤ _;omega,?_⟩
 rcases h4 with h4 | ⟨g,cur,rfl,h5,h6⟩
 · exact .inl (List.map_eq_nil_iff.1 h4)
 · refine .inr ⟨g,0,rfl,⟨h3 g rfl,_,_,h5⟩,fun i hi=>⟨[byteV (xs[i]'hi)],fun j hj=>?_,rdin_byte.2 rfl⟩⟩
   have hj0 : j = 0:=by have : j < 1:=hj;omega
   subst hj0
   show w.cell? ⟨g,0 + i * 1 + 0,none⟩ = some _
   rw [Nat.mul_one,Nat.add_zero,Nat.zero_add,h5.cell]
   have h7 : (cur.toList.take xs.length)[i]? = (xs.map byteV)[i]?:=by rw [h6]
   rw [List.getElem?_take,if_pos (show i < xs.length from hi)] at h7
   rw [h7]
   have hi' : i < xs.length:=hi
   simp [hi']
   rfl
theorem NumRow.rdq {xs : List Nat} (h : NumRow w F tid v (xs.map seqV)) (hz : xs.length * 4 ≤ 140737488355328) (hq : ∀ q ∈ xs,q < 2 ^ 32) : RdIn w (fun b=>F b ∧ Live w b) (.sl .u32) xs [v]:=by
 obtain ⟨A,cap,h0,h1,h2,h3,h4⟩:=h
 subst h0
 rw [List.length_map] at *
 refine rdin_sl.2 ⟨A,cap,by rfl,h1,h2,by show xs.length * 4 ≤ _;omega,?_⟩
 rcases h4 with h4 | ⟨g,cur,rfl,h5,h6⟩
 · exact .inl (List.map_eq_nil_iff.1 h4)
 · refine .inr ⟨g,0,rfl,⟨h3 g rfl,_,_,h5⟩,fun i hi=>⟨[seqV (xs[i]'hi)],fun j hj=>?_,rdin_u32.2 ⟨rfl,hq _ (List.getElem_mem hi)⟩⟩⟩
   have hj0 : j = 0:=by have : j < 1:=hj;omega
   subst hj0
   show w.cell? ⟨g,0 + i * 1 + 0,none⟩ = some _
   rw [Nat.mul_one,Nat.add_zero,Nat.zero_add,h5.cell]
   have h7 : (cur.toList.take xs.length)[i]? = (xs.map seqV)[i]?:=by rw [h6]
   rw [List.getElem?_take,if_pos (show i < xs.length from hi)] at h7
   rw [h7]
   have hi' : i < xs.length:=hi
   simp [hi']
   rfl
theorem NumRow.rdb {hs : List Value} {T : Nat → Prop} {ds : List (List UInt8)} (h : NumRow w F tid v hs) (hl : hs.length = ds.length) (hz : ds.length * 24 ≤ 140737488355328) (hr : ∀ i (h : i < hs.length) (h' : i < ds.length),RdIn w T (.sl .byte) ds[i] [hs[i]]) : RdIn w (fun b=>(F b ∧ Live w b) ∨ T b) (.sl (.sl .byte)) ds [v]:=by
 obtain ⟨A,cap,h0,h1,h2,h3,h4⟩:=h
 subst h0
 refine rdin_sl.2 ⟨A,cap,by rw [hl];rfl,by show ds.length ≤ cap;omega,h2,hz,?_⟩
 rcases h4 with h4 | ⟨g,cur,rfl,h5,h6⟩
 · exact .inl (List.eq_nil_of_length_eq_zero (by rw [← hl,h4];rfl))
 · refine .inr ⟨g,0,rfl,.inl ⟨h3 g rfl,_,_,h5⟩,fun i hi=>?_⟩
   have hi' : i < ds.length:=hi
   refine ⟨[hs[i]'(by omega)],fun j hj=>?_,(hr i (by omega) hi').mono fun b hb=>.inr hb⟩
   have hj0 : j = 0:=by have : j < 1:=hj;omega
   subst hj0
   show w.cell? ⟨g,0 + i * 1 + 0,none⟩ = some _
   rw [Nat.mul_one,Nat.add_zero,Nat.zero_add,h5.cell]
   have h7 : (cur.toList.take hs.length)[i]? = hs[i]?:=by rw [h6]
   rw [List.getElem?_take,if_pos (show i < hs.length by omega)] at h7
   rw [h7,List.getElem?_eq_getElem (show i < hs.length by omega)]
end
def fSetS (f : FlTy.T) (i : Nat) (s : UInt8) : FlTy.T:=mkFl (fN f) (fK f) (fA f) (fM f) (fD f) ((fS f).set i s) (fQ f) (fB f)
def fSetQ (f : FlTy.T) (i : Nat) (q : Nat) : FlTy.T:=mkFl (fN f) (fK f) (fA f) (fM f) (fD f) (fS f) ((fQ f).set i q) (fB f)
def fSetB (f : FlTy.T) (i : Nat) (d : List UInt8) : FlTy.T:=mkFl (fN f) (fK f) (fA f) (fM f) (fD f) (fS f) (fQ f) ((fB f).set i d)
structure FlEs (w : World) (S : Nat → Prop) (f : FlTy.T) (vd vs vq vx : Value) (hs : List Value) (T : Nat → Prop) : Prop where
 ints : IsInt (fN f) ∧ IsInt (fA f) ∧ IsInt (fM f)
 small : ∀ q ∈ fQ f,q < 2 ^ 32
 size : (fS f).length ≤ 140737488355328 ∧ (fQ f).length * 4 ≤ 140737488355328 ∧ (fB f).length * 24 ≤ 140737488355328
 st : NumRow w S 5 vs ((fS f).map byteV)
 sq : NumRow w S 22 vq ((fQ f).map seqV)
 row : NumRow w S 26 vx hs
 len : hs.length = (fB f).length
 dat : RdIn w T (.sl .byte) (fD f) [vd]
 each : ∀ i (h : i < hs.length) (h' : i < (fB f).length),RdIn w T (.sl .byte) (fB f)[i] [hs[i]]
 byt : ∀ b,T b → S b ∧ Live w b ∧ vs.ownBlock ≠ some b ∧ vq.ownBlock ≠ some b ∧ vx.ownBlock ≠ some b
def flCells (f : FlTy.T) (vd vs vq vx : Value) : List Value:=[.int .i64 (fN f),.int .u8 (kI f),.int .i64 (fA f),.int .i64 (fM f),vd,vs,vq,vx]
def FlE (w : World) (S : Nat → Prop) (f : FlTy.T) (es : List Value) : Prop:=∃ vd vs vq vx hs T,es = flCells f vd vs vq vx ∧ FlEs w S f vd vs vq vx hs T
section
variable {w w' : World} {S S' : Nat → Prop} {f : FlTy.T} {vd vs vq vx : Value} {hs : List Value} {T : Nat → Prop} {es : List Value}
theorem FlEs.frame (h : FlEs w S f vd vs vq vx hs T) (hf : ∀ b,S b → w'.heap[b]? = w.heap[b]?) : FlEs w' S f vd vs vq vx hs T where
 ints:=h.ints
 small:=h.small
 size:=h.size
 st:=h.st.frame hf
 sq:=h.sq.frame hf
 row:=h.row.frame hf
 len:=h.len
 dat:=h.dat.frame fun b hb=>hf b (h.byt b hb).1
 each:=fun i h1 h2=>(h.each i h1 h2).frame fun b hb=>hf b (h.byt b hb).1
 byt:=fun b hb=>by
  obtain ⟨h1,⟨cs,t,h2⟩,h3⟩:=h.byt b hb
  exact ⟨h1,⟨cs,t,by rw [hf b h1];exact h2⟩,h3⟩
theorem FlEs.mono (h : FlEs w S f vd vs vq vx hs T) (hS : ∀ b,S b → S' b) : FlEs w S' f vd vs vq vx hs T where
 ints:=h.ints
 small:=h.small
 size:=h.size
 st:=h.st.mono hS
 sq:=h.sq.mono hS
 row:=h.row.mono hS
 len:=h.len
 dat:=h.dat
 each:=h.each
 byt:=fun b hb=>⟨hS b (h.byt b hb).1,(h.byt b hb).2⟩
def flE : ElemP FlTy.T 8 where
 E:=FlE
 frame:=by
  rintro w w' S x es ⟨vd,vs,vq,vx,hs,T,rfl,h⟩ hf
  exact ⟨vd,vs,vq,vx,hs,T,rfl,h.frame hf⟩
 mono:=by
  rintro w S S' x es ⟨vd,vs,vq,vx,hs,T,rfl,h⟩ hS
  exact ⟨vd,vs,vq,vx,hs,T,rfl,h.mono hS⟩
 len:=by rintro w S x es ⟨vd,vs,vq,vx,hs,T,rfl,h⟩;rfl
 plain:=by
  rintro w S x es ⟨vd,vs,vq,vx,hs,T,rfl,h⟩ u hu
  obtain ⟨A1,c1,rfl,_⟩:=h.dat.bytes
  obtain ⟨A2,c2,rfl⟩:=h.st.slice
  obtain ⟨A3,c3,rfl⟩:=h.sq.slice
  obtain ⟨A4,c4,rfl⟩:=h.row.slice
  unfold flCells at hu
  simp only [List.mem_cons,List.not_mem_nil,or_false] at hu
  rcases hu with rfl | rfl | rfl | rfl | rfl | rfl | rfl | rfl <;> rfl
theorem FlEs.rd (h : FlEs w S f vd vs vq vx hs T) : RdIn w (fun b=>S b ∧ Live w b) FlTy f (flCells f vd vs vq vx):=
 fl_mk h.ints (h.dat.mono fun b hb=>⟨(h.byt b hb).1,(h.byt b hb).2.1⟩) (h.st.rd h.size.1) (h.sq.rdq h.size.2.1 h.small) ((h.row.rdb h.len h.size.2.2 h.each).mono fun b hb=>by
  rcases hb with hb | hb
  · exact hb
  · exact ⟨(h.byt b hb).1,(h.byt b hb).2.1⟩)
theorem FlEs.bytes_set (h : FlEs w S f vd vs vq vx hs T) {g i : Nat} {u : Value} (hg : ∀ b,T b → b ≠ g) {bs : List UInt8} {v : Value} (hr : RdIn w T (.sl .byte) bs [v]) : RdIn (w.setCell ⟨g,i,none⟩ u) T (.sl .byte) bs [v]:=
 hr.frame fun b hb=>Below.heap_setCell _ _ _ _ (hg b hb)
theorem live_set {b : Nat} (h : Live w b) (a : Addr) (u : Value) : Live (w.setCell a u) b:=h.set _ _
theorem FlEs.setS {g n c i : Nat} (h : FlEs w S f vd (.slice (some ⟨g,0,none⟩) n c) vq vx hs T) (hi : i < (fS f).length) (s : UInt8) : FlEs (w.setCell ⟨g,i,none⟩ (byteV s)) S (fSetS f i s) vd (.slice (some ⟨g,0,none⟩) n c) vq vx hs T:=by
 have hg : ∀ b,T b → b ≠ g:=fun b hb e=>(h.byt b hb).2.2.1 (by rw [e];rfl)
 obtain ⟨g',cap,cur,e,_,hB,_⟩:=h.st.at (i:=i) (by simpa using hi)
 injection e with e1 _ _
 injection e1 with e1
 injection e1 with e1 _ _
 subst e1
 exact {
  ints:=h.ints
  small:=h.small
  size:=⟨by show ((fS f).set i s).length ≤ _;rw [List.length_set];exact h.size.1,h.size.2⟩
  st:=by
   have h1:=h.st.set (i:=i) (by simpa using hi) (byteV s)
   show NumRow _ _ _ _ (((fS f).set i s).map byteV)
   rw [List.map_set]
   exact h1
  sq:=h.sq.setElse hB (by decide) i _
  row:=h.row.setElse hB (by decide) i _
  len:=h.len
  dat:=h.bytes_set hg h.dat
  each:=fun k h1 h2=>h.bytes_set hg (h.each k h1 h2)
  byt:=fun b hb=>⟨(h.byt b hb).1,live_set (h.byt b hb).2.1 _ _,(h.byt b hb).2.2⟩ }
theorem FlEs.setQ {g n c i : Nat} (h : FlEs w S f vd vs (.slice (some ⟨g,0,none⟩) n c) vx hs T) (hi : i < (fQ f).length) (q : Nat) (hq : q < 2 ^ 32) : FlEs (w.setCell ⟨g,i,none⟩ (seqV q)) S (fSetQ f i q) vd vs (.slice (some ⟨g,0,none⟩) n c) vx hs T:=by
 have hg : ∀ b,T b → b ≠ g:=fun b hb e=>(h.byt b hb).2.2.2.1 (by rw [e];rfl)
 obtain ⟨g',cap,cur,e,_,hB,_⟩:=h.sq.at (i:=i) (by simpa using hi)
 injection e with e1 _ _
 injection e1 with e1
 injection e1 with e1 _ _
 subst e1
 exact {
  ints:=h.ints
  small:=fun z hz=>by
   have hz' : z ∈ (fQ f).set i q:=hz
   rcases List.mem_or_eq_of_mem_set hz' with h1 | h1
   · exact h.small z h1
   · rw [h1];exact hq
  size:=⟨h.size.1,by show ((fQ f).set i q).length * 4 ≤ _;rw [List.length_set];exact h.size.2.1,h.size.2.2⟩
  st:=h.st.setElse hB (by decide) i _
  sq:=by
   have h1:=h.sq.set (i:=i) (by simpa using hi) (seqV q)
   show NumRow _ _ _ _ (((fQ f).set i q).map seqV)
   rw [List.map_set]
   exact h1
  row:=h.row.setElse hB (by decide) i _
  len:=h.len
  dat:=h.bytes_set hg h.dat
  each:=fun k h1 h2=>h.bytes_set hg (h.each k h1 h2)
  byt:=fun b hb=>⟨(h.byt b hb).1,live_set (h.byt b hb).2.1 _ _,(h.byt b hb).2.2⟩ }
theorem FlEs.setB {g n c i : Nat} (h : FlEs w S f vd vs vq (.slice (some ⟨g,0,none⟩) n c) hs T) (hi : i < (fB f).length) {d : List UInt8} {u : Value} {S' : Nat → Prop} (hr : RdIn w S' (.sl .byte) d [u]) (hS : ∀ b,S' b → ¬ S b ∧ Live w b) (hown : ∀ b,(vs.ownBlock = some b ∨ vq.ownBlock = some b) → S b) : FlEs (w.setCell ⟨g,i,none⟩ u) (fun b=>S b ∨ S' b) (fSetB f i d) vd vs vq (.slice (some ⟨g,0,none⟩) n c) (hs.set i u) (fun b=>T b ∨ S' b):=by
 have hlen:=h.len
 have hih : i < hs.length:=by omega
 obtain ⟨g',cap,cur,e,hSg,hB,_⟩:=h.row.at hih
 injection e with e1 _ _
 injection e1 with e1
 injection e1 with e1 _ _
 subst e1
 have hg : ∀ b,T b → b ≠ g:=fun b hb e=>(h.byt b hb).2.2.2.2 (by rw [e];rfl)
 have hg' : ∀ b,S' b → b ≠ g:=fun b hb e=>(hS b hb).1 (by rw [e];exact hSg)
 exact {
  ints:=h.ints
  small:=h.small
  size:=⟨h.size.1,h.size.2.1,by show ((fB f).set i d).length * 24 ≤ _;rw [List.length_set];exact h.size.2.2⟩
  st:=(h.st.setElse hB (by decide) i _).mono fun b hb=>.inl hb
  sq:=(h.sq.setElse hB (by decide) i _).mono fun b hb=>.inl hb
  row:=(h.row.set hih u).mono fun b hb=>.inl hb
  len:=by show (hs.set i u).length = ((fB f).set i d).length;rw [List.length_set,List.length_set];exact h.len
  dat:=(h.bytes_set hg h.dat).mono fun b hb=>.inl hb
  each:=fun k h1 h2=>by
   have h1' : k < hs.length:=by rw [List.length_set] at h1;exact h1
   have h2' : k < (fB f).length:=by omega
   show RdIn _ _ (.sl .byte) (((fB f).set i d)[k]'(by rw [List.length_set];exact h2')) [(hs.set i u)[k]]
   by_cases hk : i = k
   · subst hk
     rw [List.getElem_set_self,List.getElem_set_self]
     exact (hr.frame fun b hb=>Below.heap_setCell _ _ _ _ (hg' b hb)).mono fun b hb=>.inr hb
   · rw [List.getElem_set_ne hk,List.getElem_set_ne hk]
     exact (h.bytes_set hg (h.each k h1' h2')).mono fun b hb=>.inl hb
  byt:=fun b hb=>by
   rcases hb with hb | hb
   · exact ⟨.inl (h.byt b hb).1,live_set (h.byt b hb).2.1 _ _,(h.byt b hb).2.2⟩
   · refine ⟨.inr hb,live_set (hS b hb).2 _ _,fun e=>(hS b hb).1 (hown b (.inl e)),fun e=>(hS b hb).1 (hown b (.inr e)),fun e=>hg' b hb ?_⟩
     exact (Option.some.inj e).symm }
theorem FlEs.own (h : FlEs w S f vd vs vq vx hs T) : ∀ b,(vs.ownBlock = some b ∨ vq.ownBlock = some b) → S b:=by
 rintro b (e | e)
 · obtain ⟨_,_,_,_,_,h3,_⟩:=h.st
   exact h3 b e
 · obtain ⟨_,_,_,_,_,h3,_⟩:=h.sq
   exact h3 b e
end
section
variable {α : Type} {n : Nat} {P : ElemP α n} {w : World} {F : Nat → Prop} {base : Nat} {tid : TypeId} {v : Value} {xs : List α}
theorem OwnE.at (h : OwnE P w F base tid v xs) {j : Nat} (hj : j < xs.length) : ∃ (g cap : Nat) (es : List Value) (Sj : Nat → Prop),v = .slice (some ⟨g,0,none⟩) xs.length cap ∧ (F g ∧ base ≤ g ∧ g < w.heap.size) ∧ (∀ q,q < n → w.cell? ⟨g,j * n + q,none⟩ = es[q]?) ∧ P.E w Sj xs[j] es ∧ (∀ b,Sj b → F b ∧ b ≠ g) ∧
 ∀ (w' : World) (S' : Nat → Prop) (y : α),P.E w' (fun b=>Sj b ∨ S' b) y es → (∀ b,F b → ¬ Sj b → w'.heap[b]? = w.heap[b]?) → (∀ b,S' b → ¬ F b) → OwnE P w' (fun b=>F b ∨ S' b) base tid v (xs.set j y):=by
 obtain ⟨ess,Sf,h1,h2,h3,h4,h5,h6⟩:=h
 obtain ⟨g,cap,cur,rfl,hg,hB,hc1,hc2,hc3,hc4⟩:=own_view h6 (by omega)
 have hes : ∀ es ∈ ess,es.length = n:=by
  intro es he
  obtain ⟨i,hi,rfl⟩:=List.getElem_of_mem he
  exact P.len (h2 i (by omega) hi)
 have hjl : j < ess.length:=by omega
 refine ⟨g,cap,ess[j],Sf j,rfl,⟨h5 g rfl,hg,hB.lt⟩,fun q hq=>?_,h2 j hj hjl,fun b hb=>⟨(h3 j b hb).1,fun e=>(h3 j b hb).2 (by rw [e];rfl)⟩,fun w' S' y hy hf hS'=>?_⟩
 · have h7:=flatten_at ess hes j q hq
   rw [List.getElem?_eq_getElem hjl] at h7
   rw [hB.cell]
   have h9 : j * n + q < xs.length * n:=by
    have h10 : j * n + n ≤ xs.length * n:=by
     rw [← Nat.succ_mul]
     exact Nat.mul_le_mul_right n hj
    omega
   rw [hc4 _ h9,h7]
   rfl
 · refine ⟨ess,fun i b=>if i = j then Sf j b ∨ S' b else Sf i b,by rw [List.length_set];exact h1,fun i hi hi'=>?_,fun i b hb=>?_,fun i k b hi hk=>?_,fun r hr=>.inl (h5 r hr),?_⟩
   · rw [List.length_set] at hi
     by_cases e : i = j
     · subst e
       rw [List.getElem_set_self]
       simp only [if_true]
       exact hy
     · rw [List.getElem_set_ne (fun h=>e h.symm)]
       simp only [if_neg e]
       refine P.frame (h2 i hi hi') fun b hb=>hf b (h3 i b hb).1 fun hb'=>e (h4 i j b hb hb')
   · by_cases e : i = j
     · simp only [if_pos e] at hb
       rcases hb with hb | hb
       · exact ⟨.inl (h3 j b hb).1,(h3 j b hb).2⟩
       · exact ⟨.inr hb,fun e'=>hS' b hb (h5 b e')⟩
     · simp only [if_neg e] at hb
       exact ⟨.inl (h3 i b hb).1,(h3 i b hb).2⟩
   · have hFS : ∀ i b,Sf i b → S' b → False:=fun i b h1 h2=>hS' b h2 (h3 i b h1).1
     by_cases ei : i = j <;> by_cases ek : k = j
     · rw [ei,ek]
     · simp only [if_pos ei,if_neg ek] at hi hk
       rcases hi with hi | hi
       · exact ei.trans (h4 j k b hi hk)
       · exact (hFS k b hk hi).elim
     · simp only [if_neg ei,if_pos ek] at hi hk
       rcases hk with hk | hk
       · exact (h4 i j b hi hk).trans ek.symm
       · exact (hFS i b hi hk).elim
     · simp only [if_neg ei,if_neg ek] at hi hk
       exact h4 i k b hi hk
   · rw [List.length_set]
     exact own_frame h6 fun r hr=>hf r (h5 r hr) fun h=>(h3 j r h).2 hr
end
theorem OwnE.fl_rd {w : World} {lo base : Nat} {v : Value} {fs : List FlTy.T} (h : OwnE flE w (Iv lo w.heap.size) base 67 v fs) (hz : fs.length * 128 ≤ 140737488355328) : RdIn w (NewB lo w) (.sl FlTy) fs [v]:=by
 obtain ⟨A,c,e⟩:=h.slice
 rcases Nat.eq_zero_or_pos fs.length with h0 | h0
 · subst e
   have hc : fs.length ≤ c ∧ c ≤ maxLen:=by
    obtain ⟨_,_,ho⟩:=h.own
    rcases ho.2 with ⟨e1,_⟩ | ⟨g,cap,cur,e1,_,_,h1,h2,_⟩
    · injection e1 with _ _ e1
      subst e1
      exact ⟨by omega,by unfold maxLen;omega⟩
    · injection e1 with _ _ e1
      subst e1
      exact ⟨h1,h2⟩
   exact rdin_sl.2 ⟨A,c,rfl,hc.1,hc.2,hz,.inl (List.eq_nil_of_length_eq_zero h0)⟩
 · obtain ⟨ess,Sf,h1,h2,h3,h4,h5,h6⟩:=h
   obtain ⟨g,cap,cur,rfl,hg,hB,hc1,hc2,hc3,hc4⟩:=own_view h6 h0
   have hes : ∀ es ∈ ess,es.length = 8:=by
    intro es he
    obtain ⟨i,hi,rfl⟩:=List.getElem_of_mem he
    exact flE.len (h2 i (by omega) hi)
   refine rdin_sl.2 ⟨_,cap,rfl,hc1,hc2,hz,.inr ⟨g,0,rfl,⟨(h5 g rfl).1,(h5 g rfl).2,_,_,hB⟩,fun i hi=>?_⟩⟩
   have hi' : i < fs.length:=hi
   refine ⟨ess[i]'(by omega),fun q hq=>?_,?_⟩
   · have hq8 : q < 8:=hq
     have h7:=flatten_at ess hes i q hq8
     rw [List.getElem?_eq_getElem (show i < ess.length by omega)] at h7
     show w.cell? ⟨g,0 + i * 8 + q,none⟩ = _
     rw [Nat.zero_add,hB.cell,hc4 _ (by omega),h7]
     rfl
   · obtain ⟨vd,vs,vq,vx,hs,T,e,hE⟩:=h2 i hi' (by omega)
     rw [e]
     exact hE.rd.mono fun b hb=>⟨(h3 i b hb.1).1.1,(h3 i b hb.1).1.2,hb.2⟩
end Go.Proofs.Ythapabjlhooglaa
namespace Go.Proofs.Ythapabjlhooglaa
open Go Go.RowKit
set_option linter.unusedSimpArgs false
set_option linter.unusedVariables false
theorem minfo_u32 : ∃ i,Try.prog.info? 22 = some i ∧ i.zero = some (.int .u32 0) ∧ i.size = 1 ∧ i.bytes = 4:=info_parts (by kernel_rfl)
theorem minfo_flight : ∃ i,Try.prog.info? 67 = some i ∧ i.zero = some (.agg #[.int .i64 0,.int .u8 0,.int .i64 0,.int .i64 0,.slice none 0 0,.slice none 0 0,.slice none 0 0,.slice none 0 0]) ∧ i.size = 8 ∧ i.bytes = 128:=info_parts (by kernel_rfl)
set_option maxRecDepth 100000 in
set_option maxHeartbeats 1000000 in
theorem cln_u8 (xs : List Value) (A : Option Addr) (n c : Nat) (hn : xs.length = n) (hm : n ≤ maxLen) (hz : n * 1 ≤ 140737488355328) (hpl : ∀ u ∈ xs,u.oneCell' = true) (w : World) (hr : Rd w A xs) :
 Calls Try.prog 46 #[.slice A n c] w fun e w'=>(∃ v,e = .returned v ∧ NumRow w' (Iv w.heap.size w'.heap.size) 5 v xs) ∧ Below w.heap.size w w':=by
 obtain ⟨i0,hi,hz0,hz1,hz2⟩:=minfo_u8
 have HM:=Lib.hid (And.intro hm hz)
 have HPL:=Lib.hid hpl
 clear hm hz hpl
 subst hn
 cases A with
 | none=>
   have hb0 : xs = []:=by
    rcases hr with h0 | ⟨b,off,e,_⟩
    · exact h0
    · cases e
   subst hb0
   have HE : ∀ (w : World) (c : Nat),(binOp .eql 26 (.slice none 0 c) (.slice none 0 0)).run Try.prog w = .ok (.bool true) w:=fun w c=>by kernel_rfl
   clear hr
   go_enter Try.func46,Try.ntmps46
   go_wp2
   go_ret
   exact ⟨⟨_,rfl,none,0,rfl,Nat.le_refl _,by unfold maxLen;omega,fun g h=>(by cases h),.inl rfl⟩,Below.refl _ _⟩
 | some a=>
   have t0:=Ext.alloc (Below.refl w.heap.size w) (.cells #[] 5)
   have hrd : Rd (w.alloc (.cells #[] 5)) (some a) xs:=hr.below t0
   have own0 : (w.alloc (.cells #[] 5)).ownsRow w.heap.size 5 1 (.slice (some ⟨w.heap.size,0,none⟩) 0 0) 0 []:=⟨rfl,.inr ⟨w.heap.size,0,#[],rfl,Nat.le_refl _,heap_alloc_new _ _,Nat.le_refl _,by unfold maxLen;omega,rfl,rfl⟩⟩
   have HE : ∀ (w : World) (n c : Nat),(binOp .eql 26 (.slice (some a) n c) (.slice none 0 0)).run Try.prog w = .ok (.bool false) w:=fun w n c=>by kernel_rfl
   clear hr
   go_enter Try.func46,Try.ntmps46
   go_upto_region 3 with fail
   go_wp2_with (at_builtin;refine wpList_append_rd _ rfl (.tmp 5) (.tmp 6) 26 rfl w.heap.size 5 i0 _ 1 1 Try.underlying26 hi hz0 hz1 hz2 rfl (by decide) _ 0 [] rfl own0 (some a) xs.length c xs rfl (by simp) hrd HPL.out (by have:=HM.out.1;omega) (by have:=HM.out.2;omega) (by simp) ?_;intro v1 w1 h2 h3 h4)
   rw [Nat.zero_add,List.nil_append] at h2
   have b1:=Below.grown t0 h3 (by simp) (fun k e=>by cases e;exact Nat.le_refl _)
   have hm : NumRow w1 (Iv w.heap.size w1.heap.size) 5 v1 xs:=by
    rcases h2.2 with ⟨rfl,h0⟩ | ⟨g,cap,cur,rfl,hg,hh,h5,h6,h7,h8⟩
    · exact ⟨none,0,by rw [h0],by omega,by unfold maxLen;omega,fun g h=>(by cases h),.inl (List.eq_nil_of_length_eq_zero h0)⟩
    · exact ⟨_,cap,rfl,h5,h6,fun g' e=>by cases e;exact ⟨hg,(Array.getElem?_eq_some_iff.1 hh).1⟩,.inr ⟨g,cur,rfl,hh,by rw [Nat.mul_one] at h8;exact h8⟩⟩
   go_ret
   exact ⟨⟨_,rfl,hm⟩,b1⟩
set_option maxRecDepth 100000 in
set_option maxHeartbeats 1000000 in
theorem cln_u32 (xs : List Value) (A : Option Addr) (n c : Nat) (hn : xs.length = n) (hm : n ≤ maxLen) (hz : n * 4 ≤ 140737488355328) (hpl : ∀ u ∈ xs,u.oneCell' = true) (w : World) (hr : Rd w A xs) :
 Calls Try.prog 47 #[.slice A n c] w fun e w'=>(∃ v,e = .returned v ∧ NumRow w' (Iv w.heap.size w'.heap.size) 22 v xs) ∧ Below w.heap.size w w':=by
 obtain ⟨i0,hi,hz0,hz1,hz2⟩:=minfo_u32
 have HM:=Lib.hid (And.intro hm hz)
 have HPL:=Lib.hid hpl
 clear hm hz hpl
 subst hn
 cases A with
 | none=>
   have hb0 : xs = []:=by
    rcases hr with h0 | ⟨b,off,e,_⟩
    · exact h0
    · cases e
   subst hb0
   have HE : ∀ (w : World) (c : Nat),(binOp .eql 64 (.slice none 0 c) (.slice none 0 0)).run Try.prog w = .ok (.bool true) w:=fun w c=>by kernel_rfl
   clear hr
   go_enter Try.func47,Try.ntmps47
   go_wp2
   go_ret
   exact ⟨⟨_,rfl,none,0,rfl,Nat.le_refl _,by unfold maxLen;omega,fun g h=>(by cases h),.inl rfl⟩,Below.refl _ _⟩
 | some a=>
   have t0:=Ext.alloc (Below.refl w.heap.size w) (.cells #[] 22)
   have hrd : Rd (w.alloc (.cells #[] 22)) (some a) xs:=hr.below t0
   have own0 : (w.alloc (.cells #[] 22)).ownsRow w.heap.size 22 1 (.slice (some ⟨w.heap.size,0,none⟩) 0 0) 0 []:=⟨rfl,.inr ⟨w.heap.size,0,#[],rfl,Nat.le_refl _,heap_alloc_new _ _,Nat.le_refl _,by unfold maxLen;omega,rfl,rfl⟩⟩
   have HE : ∀ (w : World) (n c : Nat),(binOp .eql 64 (.slice (some a) n c) (.slice none 0 0)).run Try.prog w = .ok (.bool false) w:=fun w n c=>by kernel_rfl
   clear hr
   go_enter Try.func47,Try.ntmps47
   go_upto_region 3 with fail
   go_wp2_with (at_builtin;refine wpList_append_rd _ rfl (.tmp 5) (.tmp 6) 64 rfl w.heap.size 22 i0 _ 1 4 Try.underlying64 hi hz0 hz1 hz2 rfl (by decide) _ 0 [] rfl own0 (some a) xs.length c xs rfl (by simp) hrd HPL.out (by have:=HM.out.1;omega) (by have:=HM.out.2;omega) (by simp) ?_;intro v1 w1 h2 h3 h4)
   rw [Nat.zero_add,List.nil_append] at h2
   have b1:=Below.grown t0 h3 (by simp) (fun k e=>by cases e;exact Nat.le_refl _)
   have hm : NumRow w1 (Iv w.heap.size w1.heap.size) 22 v1 xs:=by
    rcases h2.2 with ⟨rfl,h0⟩ | ⟨g,cap,cur,rfl,hg,hh,h5,h6,h7,h8⟩
    · exact ⟨none,0,by rw [h0],by omega,by unfold maxLen;omega,fun g h=>(by cases h),.inl (List.eq_nil_of_length_eq_zero h0)⟩
    · exact ⟨_,cap,rfl,h5,h6,fun g' e=>by cases e;exact ⟨hg,(Array.getElem?_eq_some_iff.1 hh).1⟩,.inr ⟨g,cur,rfl,hh,by rw [Nat.mul_one] at h8;exact h8⟩⟩
   go_ret
   exact ⟨⟨_,rfl,hm⟩,b1⟩
set_option maxRecDepth 100000 in
set_option maxHeartbeats 1000000 in
theorem cln_row (xs : List Value) (A : Option Addr) (n c : Nat) (hn : xs.length = n) (hm : n ≤ maxLen) (hz : n * 24 ≤ 140737488355328) (hpl : ∀ u ∈ xs,u.oneCell' = true) (w : World) (hr : Rd w A xs) :
 Calls Try.prog 48 #[.slice A n c] w fun e w'=>(∃ v,e = .returned v ∧ NumRow w' (Iv w.heap.size w'.heap.size) 26 v xs) ∧ Below w.heap.size w w':=by
 obtain ⟨i0,hi,hz0,hz1,hz2⟩:=minfo_bytes
 have HM:=Lib.hid (And.intro hm hz)
 have HPL:=Lib.hid hpl
 clear hm hz hpl
 subst hn
 cases A with
 | none=>
   have hb0 : xs = []:=by
    rcases hr with h0 | ⟨b,off,e,_⟩
    · exact h0
    · cases e
   subst hb0
   have HE : ∀ (w : World) (c : Nat),(binOp .eql 65 (.slice none 0 c) (.slice none 0 0)).run Try.prog w = .ok (.bool true) w:=fun w c=>by kernel_rfl
   clear hr
   go_enter Try.func48,Try.ntmps48
   go_wp2
   go_ret
   exact ⟨⟨_,rfl,none,0,rfl,Nat.le_refl _,by unfold maxLen;omega,fun g h=>(by cases h),.inl rfl⟩,Below.refl _ _⟩
 | some a=>
   have t0:=Ext.alloc (Below.refl w.heap.size w) (.cells #[] 26)
   have hrd : Rd (w.alloc (.cells #[] 26)) (some a) xs:=hr.below t0
   have own0 : (w.alloc (.cells #[] 26)).ownsRow w.heap.size 26 1 (.slice (some ⟨w.heap.size,0,none⟩) 0 0) 0 []:=⟨rfl,.inr ⟨w.heap.size,0,#[],rfl,Nat.le_refl _,heap_alloc_new _ _,Nat.le_refl _,by unfold maxLen;omega,rfl,rfl⟩⟩
   have HE : ∀ (w : World) (n c : Nat),(binOp .eql 65 (.slice (some a) n c) (.slice none 0 0)).run Try.prog w = .ok (.bool false) w:=fun w n c=>by kernel_rfl
   clear hr
   go_enter Try.func48,Try.ntmps48
   go_upto_region 3 with fail
   go_wp2_with (at_builtin;refine wpList_append_rd _ rfl (.tmp 5) (.tmp 6) 65 rfl w.heap.size 26 i0 _ 1 24 Try.underlying65 hi hz0 hz1 hz2 rfl (by decide) _ 0 [] rfl own0 (some a) xs.length c xs rfl (by simp) hrd HPL.out (by have:=HM.out.1;omega) (by have:=HM.out.2;omega) (by simp) ?_;intro v1 w1 h2 h3 h4)
   rw [Nat.zero_add,List.nil_append] at h2
   have b1:=Below.grown t0 h3 (by simp) (fun k e=>by cases e;exact Nat.le_refl _)
   have hm : NumRow w1 (Iv w.heap.size w1.heap.size) 26 v1 xs:=by
    rcases h2.2 with ⟨rfl,h0⟩ | ⟨g,cap,cur,rfl,hg,hh,h5,h6,h7,h8⟩
    · exact ⟨none,0,by rw [h0],by omega,by unfold maxLen;omega,fun g h=>(by cases h),.inl (List.eq_nil_of_length_eq_zero h0)⟩
    · exact ⟨_,cap,rfl,h5,h6,fun g' e=>by cases e;exact ⟨hg,(Array.getElem?_eq_some_iff.1 hh).1⟩,.inr ⟨g,cur,rfl,hh,by rw [Nat.mul_one] at h8;exact h8⟩⟩
   go_ret
   exact ⟨⟨_,rfl,hm⟩,b1⟩
theorem heads_of {w : World} {S : Nat → Prop} {ds : List (List UInt8)} {A : Option Addr} {n c : Nat} (h : RdIn w S (.sl (.sl .byte)) ds [.slice A n c]) : ∃ hs : List Value,hs.length = ds.length ∧ ds.length = n ∧ Rd w A hs ∧ (∀ u ∈ hs,u.oneCell' = true) ∧ ∀ i (h : i < hs.length) (h' : i < ds.length),RdIn w S (.sl .byte) ds[i] [hs[i]]:=by
 have each : ∀ i,i < ds.length → ∃ u : Value,∃ h' : i < ds.length,RdIn w S (.sl .byte) ds[i] [u] ∧ ∀ b off,A = some ⟨b,off,none⟩ → w.cell? ⟨b,off + i,none⟩ = some u:=by
  intro i hi
  have hn : n = ds.length:=by
   obtain ⟨_,_,h0,_⟩:=rdin_sl.1 h
   injection h0 with h0 _
   injection h0
  rw [hn] at h
  obtain ⟨b,off,A2,c2,rfl,k1,k2⟩:=val_at h hi
  exact ⟨_,hi,k2,fun b' off' e=>by
   injection e with e
   injection e with e1 e2 _
   rw [← e1,← e2];exact k1⟩
 obtain ⟨hs,hl,hh⟩:=choose_list (R:=fun i u=>∃ h' : i < ds.length,RdIn w S (.sl .byte) ds[i] [u] ∧ ∀ b off,A = some ⟨b,off,none⟩ → w.cell? ⟨b,off + i,none⟩ = some u) ds.length each
 obtain ⟨A',c',h0,_,_,_,h4⟩:=rdin_sl.1 h
 injection h0 with h0 _
 injection h0 with h01 h02 h03
 refine ⟨hs,hl,h02.symm,?_,fun u hu=>?_,fun i h1 h2=>by obtain ⟨_,h3,_⟩:=hh i h1;exact h3⟩
 · rcases h4 with h4 | ⟨b,off,hA,_⟩
   · have h5 : ds = []:=h4
     exact .inl (List.eq_nil_of_length_eq_zero (by rw [hl,h5];rfl))
   · refine .inr ⟨b,off,h01.trans hA,fun j hj=>?_⟩
     obtain ⟨_,_,h5⟩:=hh j hj
     rw [List.getElem?_eq_getElem hj]
     exact h5 b off (h01.trans hA)
 · obtain ⟨i,hi,rfl⟩:=List.getElem_of_mem hu
   obtain ⟨_,h3,_⟩:=hh i hi
   obtain ⟨A2,c2,e2⟩:=bytesV h3
   rw [e2];rfl
def TW (w : World) (lo : Nat) (vs vq vx : Value) (b : Nat) : Prop:=(Iv (lo + 1) w.heap.size b ∧ Live w b) ∧ vs.ownBlock ≠ some b ∧ vq.ownBlock ≠ some b ∧ vx.ownBlock ≠ some b
structure TwIn (w : World) (lo : Nat) (g : FlTy.T) (vd vs vq vx : Value) (hs0 hs : List Value) (j : Nat) : Prop where
 st : NumRow w (Iv (lo + 1) w.heap.size) 5 vs ((fS g).map byteV)
 sq : NumRow w (Iv (lo + 1) w.heap.size) 22 vq ((fQ g).map seqV)
 row : NumRow w (Iv (lo + 1) w.heap.size) 26 vx hs
 len : hs.length = (fB g).length
 old : ∀ i,j ≤ i → hs[i]? = hs0[i]?
 dat : RdIn w (TW w lo vs vq vx) (.sl .byte) (fD g) [vd]
 new : ∀ i (h : i < hs.length) (h' : i < (fB g).length),i < j → RdIn w (TW w lo vs vq vx) (.sl .byte) (fB g)[i] [hs[i]]
theorem NumRow.below {w w' : World} {lo : Nat} {tid : TypeId} {v : Value} {xs : List Value} (h : NumRow w (Iv lo w.heap.size) tid v xs) (hb : Below w.heap.size w w') : NumRow w' (Iv lo w'.heap.size) tid v xs:=
 (h.frame fun b hb'=>hb.block b hb'.2).mono fun b hb'=>⟨hb'.1,Nat.lt_of_lt_of_le hb'.2 hb.size⟩
theorem TW.below {w w' : World} {lo : Nat} {vs vq vx : Value} {b : Nat} (h : TW w lo vs vq vx b) (hb : Below w.heap.size w w') : TW w' lo vs vq vx b:=
 ⟨⟨⟨h.1.1.1,Nat.lt_of_lt_of_le h.1.1.2 hb.size⟩,h.1.2.below hb⟩,h.2⟩
section
variable {w : World} {lo : Nat} {g : FlTy.T} {vd vs vq vx : Value} {hs0 hs : List Value} {j : Nat}
theorem TwIn.next (h : TwIn w lo g vd vs vq vx hs0 hs j) {w' : World} (hb : Below w.heap.size w w') : TwIn w' lo g vd vs vq vx hs0 hs j where
 st:=h.st.below hb
 sq:=h.sq.below hb
 row:=h.row.below hb
 len:=h.len
 old:=h.old
 dat:=(h.dat.below hb).mono fun b hb'=>hb'.below hb
 new:=fun i h1 h2 h3=>((h.new i h1 h2 h3).below hb).mono fun b hb'=>hb'.below hb
theorem NumRow.own_lt {w : World} {lo hi : Nat} {tid : TypeId} {v : Value} {xs : List Value} (h : NumRow w (Iv lo hi) tid v xs) {b : Nat} (hb : hi ≤ b) : v.ownBlock ≠ some b:=fun e=>by
 obtain ⟨_,_,_,_,_,h3,_⟩:=h
 have:=(h3 b e).2
 omega
theorem TwIn.put {R c n : Nat} (h : TwIn w lo g vd vs vq (.slice (some ⟨R,0,none⟩) n c) hs0 hs j) {w' : World} (hb : Below w.heap.size w w') {u : Value} (hj : j < hs.length) (hj' : j < (fB g).length) (hu : RdIn w' (NewB w.heap.size w') (.sl .byte) (fB g)[j] [u]) (hlo : lo < w.heap.size) :
 TwIn (w'.setCell ⟨R,j,none⟩ u) lo g vd vs vq (.slice (some ⟨R,0,none⟩) n c) hs0 (hs.set j u) (j + 1):=by
 have hn:=h.next hb
 obtain ⟨R',cap,cur,e,hR,hB,_⟩:=hn.row.at hj
 injection e with e1 _ _
 injection e1 with e1
 injection e1 with e1 _ _
 subst e1
 obtain ⟨R2,cap2,cur2,e2,hR2,_⟩:=h.row.at hj
 injection e2 with e1 _ _
 injection e1 with e1
 injection e1 with e1 _ _
 subst e1
 have hne : ∀ b,TW w' lo vs vq (.slice (some ⟨R,0,none⟩) n c) b → b ≠ R:=fun b hb' e=>hb'.2.2.2 (by rw [e];rfl)
 have htw : ∀ b,TW w' lo vs vq (.slice (some ⟨R,0,none⟩) n c) b → TW (w'.setCell ⟨R,j,none⟩ u) lo vs vq (.slice (some ⟨R,0,none⟩) n c) b:=fun b hb'=>⟨⟨⟨hb'.1.1.1,by rw [msize];exact hb'.1.1.2⟩,live_set hb'.1.2 _ _⟩,hb'.2⟩
 have hIv : ∀ b,Iv (lo + 1) w'.heap.size b → Iv (lo + 1) (w'.setCell ⟨R,j,none⟩ u).heap.size b:=fun b hb'=>by rw [msize];exact hb'
 exact {
  st:=(hn.st.setElse hB (by decide) j u).mono hIv
  sq:=(hn.sq.setElse hB (by decide) j u).mono hIv
  row:=(hn.row.set hj u).mono hIv
  len:=by rw [List.length_set];exact h.len
  old:=fun i hi=>by rw [List.getElem?_set_ne (by omega)];exact h.old i (by omega)
  dat:=(hn.dat.frame fun b hb'=>Below.heap_setCell _ _ _ _ (hne b hb')).mono htw
  new:=fun i h1 h2 h3=>by
   by_cases e : j = i
   · subst e
     rw [List.getElem_set_self]
     refine (hu.frame fun b hb'=>Below.heap_setCell _ _ _ _ (show b ≠ R by have:=hb'.1;have:=hR2.2;omega)).mono fun b hb'=>?_
     refine ⟨⟨⟨by have:=hb'.1;omega,by rw [msize];exact hb'.2.1⟩,live_set hb'.2.2 _ _⟩,h.st.own_lt hb'.1,h.sq.own_lt hb'.1,h.row.own_lt hb'.1⟩
   · rw [List.getElem_set_ne e]
     have h1' : i < hs.length:=by rw [List.length_set] at h1;exact h1
     exact ((hn.new i h1' h2 (by omega)).frame fun b hb'=>Below.heap_setCell _ _ _ _ (hne b hb')).mono htw }
theorem TwIn.done (h : TwIn w lo g vd vs vq vx hs0 hs j) (hj : (fB g).length ≤ j) (hi : IsInt (fN g) ∧ IsInt (fA g) ∧ IsInt (fM g)) (hq : ∀ q ∈ fQ g,q < 2 ^ 32) (hz : (fS g).length ≤ 140737488355328 ∧ (fQ g).length * 4 ≤ 140737488355328 ∧ (fB g).length * 24 ≤ 140737488355328) : FlEs w (Iv lo w.heap.size) g vd vs vq vx hs (TW w lo vs vq vx) where
 ints:=hi
 small:=hq
 size:=hz
 st:=h.st.mono fun b hb=>⟨by have:=hb.1;omega,hb.2⟩
 sq:=h.sq.mono fun b hb=>⟨by have:=hb.1;omega,hb.2⟩
 row:=h.row.mono fun b hb=>⟨by have:=hb.1;omega,hb.2⟩
 len:=h.len
 dat:=h.dat
 each:=fun i h1 h2=>h.new i h1 h2 (by omega)
 byt:=fun b hb=>⟨⟨by have:=hb.1.1.1;omega,hb.1.1.2⟩,hb.1.2,hb.2⟩
end
end Go.Proofs.Ythapabjlhooglaa
