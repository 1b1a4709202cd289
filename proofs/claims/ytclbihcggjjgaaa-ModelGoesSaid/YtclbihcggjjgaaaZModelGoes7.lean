/- What this claim needs of my texts, merged and shortened by a program (part 7). -/
import Derived.Deep.CutRange
import Derived.Test.YtclbihcggjjgaaaZModelGoes6
namespace Go.Proofs.Ytclbihcggjjgaaa
open Go Go.RowKit
set_option linter.unusedSimpArgs false
set_option linter.unusedVariables false
theorem results_row3 {P : Program} {fn : Func} {p u z : Tmp} {ty : TypeId} (h : fn.results = #[.cell p ty,.tmp u,.tmp z]) (tmps : Array Value) (w : World) (g : Nat) (t : TypeId) (cs : Array Value) (fr : Nat × Nat) (d : TypeDesc)
 (hp : tmps.getD p undef = .pointer (some ⟨g,0,none⟩)) (hg : w.heap[g]? = some (.cells cs t fr))
 (hu : P.underlying ty = some d) (hd : (match d with | .struct _ | .array _ _=>true | _=>false) = true) (hi : (P.info? ty).map (·.size) = some cs.size) :
 (results fn tmps).run P w = .ok (.tuple #[.agg cs,tmps.getD u undef,tmps.getD z undef]) w:=by
 have e : (results fn tmps).run P w = ((asAddr (tmps.getD p undef)).run P w).andThen fun a w₁=>((loadVar ty a).run P w₁).andThen fun v w₂=>.ok (.tuple #[v,tmps.getD u undef,tmps.getD z undef]) w₂:=by
  simp only [results,h]
  simp [Sem.run_bind,Result.andThen]
 rw [e,hp]
 simp [asAddr,run_loadVar_row w g t ty cs fr d hg hu hd hi,Result.andThen]
theorem rdin_two' {w : World} {S : Nat → Prop} {t : Ty} {x : t.T} {cs : List Value} (h : RdIn w S t x cs) {k : Nat} (hk : ∀ b,S b → b ≠ k) (u v : Value) : RdIn ((w.setCell ⟨k,0,none⟩ u).setCell ⟨k,1,none⟩ v) S t x cs:=(h.setElse hk 0 u).setElse hk 1 v
theorem toldBlk_len' {k : Int} {bs : List UInt8} {j : Nat} (h : kBytes k = true → j * 128 + 128 ≤ bs.length) : (blk k bs j).length = 128:=by
 unfold blk
 split
 · rename_i h1
   exact part128_len (h h1)
 · exact zeros_len
theorem Kp.box2 {lo : Nat} {w w' : World} (h : Kp lo w w') {k : Nat} (hk : w.heap.size ≤ k) (hlo : lo ≤ w.heap.size) (u v : Value) : Kp lo w ((w'.setCell ⟨k,0,none⟩ u).setCell ⟨k,1,none⟩ v) where
 below:=Below.setCell (p:=⟨k,1,none⟩) (Below.setCell (p:=⟨k,0,none⟩) h.below (by show lo ≤ k;omega) u) (by show lo ≤ k;omega) v
 box:=fun b cs t h1 h2 h3 h4=>mbox_else (mbox_else (h.box b cs t h1 h2 h3 h4) (show b ≠ k by have:=h1.lt;omega) 0 u) (show b ≠ k by have:=h1.lt;omega) 1 v
def RendIs (By : Nat → Prop) (lo R : Nat) (B : Option Addr) (d : Nat) (p : Value) (r : Option ((Ys × List GoTy.T) × List UInt8)) (e : Ending) (w w' : World) : Prop:=
 (r = none ∧ e = .returned (.tuple #[p,.slice none 0 0,.bool false])) ∨ ∃ t dat D q,r = some (t,dat) ∧ e = .returned (.tuple #[p,.slice D dat.length q,.bool true]) ∧ RdIn w' (NewB lo w') (.sl .byte) dat [.slice D dat.length q] ∧ ESt By lo R B d t w w'
set_option maxRecDepth 100000 in
set_option maxHeartbeats 2000000 in
theorem rended_any (x : Cfg) (By : Nat → Prop) (lo R cR : Nat) (B : Option Addr) (d : Nat) (s : Ys × List GoTy.T) (nu : Int) (ki : UInt8) (a y : Nat) (bs : List UInt8) (ms : List Int) (Ab : Option Addr) (cb : Nat) (Am : Option Addr) (cm : Nat) (w : World)
 (hM : MayS w By lo R s.1) (hG : GoS w By lo B d s.2) (hBy : ∀ b,By b → NewB lo w b) (hlo : lo ≤ w.heap.size) (hok : PlainOk x s.1 s.2) (hy : y ≤ 8) (hay : a + y ≤ s.1.length) (hbs : kBytes (ki.toNat : Int) = true → y * 128 ≤ bs.length)
 (hml : ms.length ≤ s.1.length) (hmk : ∀ q (hq : q < ms.length),∃ hq' : q < s.1.length,0 ≤ ms[q] ∧ ms[q] < ((s.1[q]).length : Int)) (hd : RdIn w By (.sl .byte) bs [.slice Ab bs.length cb]) (hm : RdIn w By (.sl .int) ms [.slice Am ms.length cm]) :
 Calls Try.prog 65 #[.agg #[.slice (some ⟨R,0,none⟩) s.1.length cR,.slice B s.2.length d],.agg #[.int .i64 nu,.int .u8 (ki.toNat : Int),.int .i64 (a : Int),.int .i64 (y : Int),.slice Ab bs.length cb,.slice Am ms.length cm]] w fun e w'=>RendIs By lo R B d (.agg #[.slice (some ⟨R,0,none⟩) s.1.length cR,.slice B s.2.length d]) (endS (ki.toNat : Int) bs a y (marksS ms ms.length s)) e w w' ∧ Kp lo w w':=by
 have HES:=Lib.hid (ESt.start hM hG hBy)
 have HMS:=Lib.hid (marksS_ok hok hml hmk)
 have HMK:=Lib.hid hmk
 have HML:=Lib.hid hml
 have HOK:=Lib.hid hok
 have HYS:=Lib.hid hok.short
 have HAY:=Lib.hid (And.intro hy hay)
 have HBS:=Lib.hid hbs
 have HD:=Lib.hid hd
 have HM:=Lib.hid hm
 have HLO:=Lib.hid hlo
 have HBY:=Lib.hid hBy
 have HMX:=Lib.hid (mark_max hm)
 have HB0 : Hid (∀ b,By b → b < w.heap.size):=fun b hb=>(hBy b hb).2.1
 clear hM hG hBy hok hml hmk hy hay hbs hd hm hlo
 obtain ⟨N,hN⟩ : ∃ N,N = s.1.length:=⟨_,rfl⟩
 obtain ⟨M,hM⟩ : ∃ M,M = s.2.length:=⟨_,rfl⟩
 rw [← hN,← hM]
 have HN:=Lib.hid hN
 have HMM:=Lib.hid hM
 clear hN hM
 have P2:=BoxOf.alloc (BoxOf.alloc (BoxOf.new w #[.slice (some ⟨R,0,none⟩) N cR,.slice B M d] 28) (.cells #[.int .i64 nu,.int .u8 (ki.toNat : Int),.int .i64 (a : Int),.int .i64 (y : Int),.slice Ab bs.length cb,.slice Am ms.length cm] 64)) (.cells #[.slice none 0 0,.slice none 0 0] 28)
 have X3:=BoxOf.alloc (BoxOf.new' (w.alloc (.cells #[.slice (some ⟨R,0,none⟩) N cR,.slice B M d] 28)) (w.heap.size + 1) #[.int .i64 nu,.int .u8 (ki.toNat : Int),.int .i64 (a : Int),.int .i64 (y : Int),.slice Ab bs.length cb,.slice Am ms.length cm] 64 (by simp)) (.cells #[.slice none 0 0,.slice none 0 0] 28)
 have Z4:=BoxOf.new' ((w.alloc (.cells #[.slice (some ⟨R,0,none⟩) N cR,.slice B M d] 28)).alloc (.cells #[.int .i64 nu,.int .u8 (ki.toNat : Int),.int .i64 (a : Int),.int .i64 (y : Int),.slice Ab bs.length cb,.slice Am ms.length cm] 64)) (w.heap.size + 1 + 1) #[.slice none 0 0,.slice none 0 0] 28 (by simp)
 have t0:=Ext.alloc (Ext.alloc (Ext.alloc (Below.refl w.heap.size w) (.cells #[.slice (some ⟨R,0,none⟩) N cR,.slice B M d] 28)) (.cells #[.int .i64 nu,.int .u8 (ki.toNat : Int),.int .i64 (a : Int),.int .i64 (y : Int),.slice Ab bs.length cb,.slice Am ms.length cm] 64)) (.cells #[.slice none 0 0,.slice none 0 0] 28)
 go_enter Try.func65,Try.ntmps65
 go_upto_region 1 with fail
 have HE0:=Lib.hid (HES.out.next t0 HLO.out)
 have HKP:=Lib.hid (Kp.of_below (lo:=lo) t0 HLO.out)
 have HT0:=Lib.hid t0
 obtain ⟨il,hil,hl0,hl1,hl2⟩:=minfo_bytes
 have HP2 : Hid (w.heap.size ≤ w.heap.size + 1 + 1):=by show _ ≤ _;omega
 clear t0
 generalize ((w.alloc (.cells #[.slice (some ⟨R,0,none⟩) N cR,.slice B M d] 28)).alloc (.cells #[.int .i64 nu,.int .u8 (ki.toNat : Int),.int .i64 (a : Int),.int .i64 (y : Int),.slice Ab bs.length cb,.slice Am ms.length cm] 64)).alloc (.cells #[.slice none 0 0,.slice none 0 0] 28) = W at *
 have x3:=X3.cell
 go_wp2
 clear x3
 go_loopw [8] (fun i wr=>∃ (j : Nat),j ≤ ms.length ∧ i = .int .i64 j ∧ ESt By lo R B d (marksS ms j s) w wr ∧ Kp lo W wr) (fun i _=>ms.length - (intOf i).toNat)
 case atStart=>exact ⟨0,by omega,rfl,HE0.out,Kp.refl _ _⟩
 case round=>
  obtain ⟨j,hj,rfl,hE,hK⟩:=hrel
  have hX1:=hK.box _ _ _ X3 (by decide) (by decide) (by decide)
  have hP1:=hK.box _ _ _ P2 (by decide) (by decide) (by decide)
  have hZ1:=hK.box _ _ _ Z4 (by decide) (by decide) (by decide)
  have x1:=hX1.cell
  by_cases hlt : j < ms.length
  · have hlr : lo ≤ wr.heap.size:=by have:=hK.below.size;have:=HT0.out.size;have:=HLO.out;omega
    have bd:=Ext.drew (Below.refl wr.heap.size wr)
    have hEd:=hE.next bd hlr
    have hKd:=hK.trans (Kp.of_below bd hlr)
    have hmr : RdIn wr.drew By (.sl .int) ms [.slice Am ms.length cm]:=by
     obtain ⟨By',h1,h2,h3,h4,h5,h6⟩:=hEd
     exact HM.out.frame h6
    obtain ⟨mb,mo,rfl,m1,m2⟩:=mark_at hmr hlt
    obtain ⟨hq',m3,m4⟩:=HMK.out j hlt
    obtain ⟨k1,k2,k3,k4,k5⟩:=HMS.out j hj
    have hjs : j < (marksS ms j s).1.length:=by rw [k2];exact hq'
    have e1 : (marksS ms j s).1[j] = s.1[j]:=by rw [← getD_lt hjs,k4 j (Nat.le_refl _),getD_lt hq']
    have e2 : ms.getD j 0 = ms[j]:=by rw [List.getD_eq_getElem?_getD,List.getElem?_eq_getElem hlt];rfl
    obtain ⟨mn,hmn⟩ : ∃ mn : Nat,ms[j] = (mn : Int):=⟨(ms[j]).toNat,by omega⟩
    have HST : Hid (marksS ms (j + 1) s = dropS j mn (marksS ms j s)):=by
     show dropS j (ms.getD j 0).toNat (marksS ms j s) = _
     rw [e2,hmn,Int.toNat_natCast]
    have hrow:=(HOK.out.row hq').2.1
    have hc:=rwithout_est (cR:=cR) hEd hlr k1.fits hjs (many:=mn) (by rw [e1];rw [hmn] at m4;omega)
    rw [k2,k3,← HN.out,← HMM.out] at hc
    have HC:=Lib.hid hc
    have HWJ:=next_wrap HMX.out hlt
    have HLJ:=Lib.hid hlt
    have HKR:=Lib.hid hKd
    rw [hmn] at m1
    have Pd:=Lib.hid hP1.drew
    have Xd:=Lib.hid hX1.drew
    clear hE hK hEd hKd hmr m2 m3 m4 k1 k2 k3 k4 k5 e1 e2 hmn hrow hq' hjs hj hlr bd hc hP1 hX1 hZ1
    go_upto_region 5 with fail
    clear x1
    refine wp_region_held_drew (S:=fun w'=>(∀ p,w'.cell? ⟨w.heap.size,p,none⟩ = (#[.slice (some ⟨R,0,none⟩) N cR,.slice B M d] : Array Value).toList[p]?) ∧ (∀ p,w'.cell? ⟨w.heap.size + 1,p,none⟩ = (#[.int .i64 nu,.int .u8 (ki.toNat : Int),.int .i64 (a : Int),.int .i64 (y : Int),.slice Ab bs.length cb,.slice (some ⟨mb,mo,none⟩) ms.length cm] : Array Value).toList[p]?)) (by kernel_rfl) ⟨Pd.out.cell,Xd.out.cell⟩ (fun hS=>?_)
    generalize wr.drew = wd at *
    refine wpAnyH_take (i:=0) (v:=?_) rfl (by kernel_rfl) (by kernel_rfl) (by kernel_rfl) (fun _ _ _ h=>h) (Or.inl ⟨by rfl,?_⟩) hS ?_
    rotate_left
    · (intro w hSw;(try dsimp only at hSw);go_simp;(try with_reducible rfl))
    rotate_left
    simp only [Act.put,zq0,zq1,zq2,zq3,zq4,zq5]
    refine wpAnyH_take (i:=1) (v:=?_) rfl (by kernel_rfl) (by kernel_rfl) (by kernel_rfl) (fun _ _ _ h=>h) (Or.inl ⟨by rfl,?_⟩) hS ?_
    rotate_left
    · (intro w hSw;(try dsimp only at hSw);go_simp;(try with_reducible rfl))
    rotate_left
    simp only [Act.put,zq0,zq1,zq2,zq3,zq4,zq5]
    refine wpAnyH_take (i:=2) (v:=?_) rfl (by kernel_rfl) (by kernel_rfl) (by kernel_rfl) (fun _ _ _ h=>h) (Or.inl ⟨by rfl,?_⟩) hS ?_
    rotate_left
    · (intro w hSw;(try dsimp only at hSw);go_simp;(try with_reducible rfl))
    rotate_left
    simp only [Act.put,zq0,zq1,zq2,zq3,zq4,zq5]
    refine wpAnyH_take (i:=3) (v:=?_) rfl (by kernel_rfl) (by kernel_rfl) (by kernel_rfl) (fun _ _ _ h=>h) (Or.inl ⟨by rfl,?_⟩) hS ?_
    rotate_left
    · (intro w hSw;(try dsimp only at hSw);go_simp;(try with_reducible rfl))
    rotate_left
    simp only [Act.put,zq0,zq1,zq2,zq3,zq4,zq5]
    refine wpAnyH_take (i:=4) (v:=?_) rfl (by kernel_rfl) (by kernel_rfl) (by kernel_rfl) (fun _ _ _ h=>h) (Or.inl ⟨by rfl,?_⟩) hS ?_
    rotate_left
    · (intro w hSw;(try dsimp only at hSw);go_simp;(try with_reducible rfl))
    rotate_left
    simp only [Act.put,zq0,zq1,zq2,zq3,zq4,zq5]
    refine wpAnyH_take (i:=5) (v:=?_) rfl (by kernel_rfl) (by kernel_rfl) (by kernel_rfl) (fun _ _ _ h=>h) (Or.inl ⟨by rfl,?_⟩) hS ?_
    rotate_left
    · (intro w hSw;(try dsimp only at hSw);go_simp;(try with_reducible rfl))
    rotate_left
    simp only [Act.put,zq0,zq1,zq2,zq3,zq4,zq5]
    refine wpAnyH_ready (rs:=[6]) (by kernel_rfl) (by simp) ?_
    refine AllReadyH.cons rfl (fun K hK=>?_) AllReadyH.nil
    rw [if_pos (by rfl)]
    go_simp
    refine hK.out _ _ hS (fun hS'=>?_)
    clear hK K hS
    have hS:=hS'
    clear hS'
    try simp only [Act.put,zq0,zq1,zq2,zq3,zq4,zq5]
    refine wpAnyH_ready (rs:=[7]) (by kernel_rfl) (by simp) ?_
    refine AllReadyH.cons rfl (fun K hK=>?_) AllReadyH.nil
    rw [if_pos (by rfl)]
    go_simp
    refine HC.out.mono ?_
    rintro e w2 ⟨rfl,hE2,hK2⟩
    have Pw:=hK2.box _ _ _ Pd.out (by decide) (by decide) (by decide)
    have Xw:=Lib.hid (hK2.box _ _ _ Xd.out (by decide) (by decide) (by decide))
    have HE2:=Lib.hid (hE2.cast HST.out.symm)
    have HK2:=Lib.hid (HKR.out.trans hK2)
    refine hK.out _ _ ⟨Pw.cell,Xw.out.cell⟩ (fun hS'=>?_)
    clear hK K hS hE2 hK2 m1
    have hS:=hS'
    clear hS'
    try simp only [Act.put,zq0,zq1,zq2,zq3,zq4,zq5]
    refine wpAnyH_ready (rs:=[8]) (by kernel_rfl) (by simp) ?_
    refine AllReadyH.cons rfl (fun K hK=>?_) AllReadyH.nil
    rw [if_pos (by rfl)]
    have pw:=Pw.cell
    have pf:=Pw.free
    have hss:=two_same Pw
    go_simp
    try rw [hss]
    clear pw pf hss
    refine hK.out _ _ ⟨Pw.cell,Xw.out.cell⟩ (fun hS'=>?_)
    clear hK K hS hS'
    try simp only [Act.put,zq0,zq1,zq2,zq3,zq4,zq5]
    refine wpAnyH_done (by kernel_rfl) ?_ _
    clear Pw Xw Pd Xd HC
    go_wp2
    go_roundw
    case rel=>exact ⟨j + 1,HLJ.out,by first | exact round_same HWJ | go_num,HE2.out,HK2.out⟩
    case measure=>first | exact round_less HWJ HLJ.out | (have h:=HLJ.out;simp [intOf];omega)
  · have hjl : j = ms.length:=by omega
    have HJL:=Lib.hid hjl
    have hok1:=(HMS.out ms.length (Nat.le_refl _)).1
    have hlen1:=(HMS.out ms.length (Nat.le_refl _)).2.1
    have hlen2:=(HMS.out ms.length (Nat.le_refl _)).2.2.1
    rw [hjl] at hE
    have hlr : lo ≤ wr.heap.size:=by have:=hK.below.size;have:=HT0.out.size;have:=HLO.out;omega
    have hbsr : RdIn wr By (.sl .byte) bs [.slice Ab bs.length cb]:=by
     obtain ⟨By',h1,h2,h3,h4,h5,h6⟩:=hE
     exact HD.out.frame h6
    have HN1 : Hid ((marksS ms ms.length s).1.length = N ∧ (marksS ms ms.length s).2.length = M):=⟨hlen1.trans HN.out.symm,hlen2.trans HMM.out.symm⟩
    have HA1 : Hid (a + y ≤ N):=by show _ ≤ _;rw [HN.out];exact HAY.out.2
    have HNS : Hid (N ≤ 1000):=by show _ ≤ _;rw [HN.out];exact HYS.out
    have HOK1:=Lib.hid hok1
    have HE1:=Lib.hid hE
    have HK1:=Lib.hid (HKP.out.trans hK)
    have HLR:=Lib.hid hlr
    have HBR:=Lib.hid hbsr
    generalize hs1 : marksS ms ms.length s = s1 at *
    have HS1:=Lib.hid hs1
    clear hs1
    clear hok1 hlen1 hlen2 hE hlr hbsr hjl hK HMS HES HE0 P2 X3 Z4
    obtain ⟨E1,hE1⟩ : ∃ z : Nat,z = a + y:=⟨_,rfl⟩
    have HEE:=Lib.hid hE1
    have hwE : wrap64 ((a : Int) + (y : Int)) = (E1 : Int):=by have:=HA1.out;have:=HNS.out;rw [IntWalk.wrap64_in _ (by omega)];omega
    clear hE1
    rcases Bool.eq_false_or_eq_true (kWrites (ki.toNat : Int)) with hkw | hkw
    · have HKW:=Lib.hid hkw
      clear hkw
      go_wp2
      clear hlt hj x1
      go_loopw [7,9] (fun dv i w2=>∃ (n q : Nat) (t : Ys × List GoTy.T),n = a + q ∧ q ≤ y ∧ i = .int .i64 n ∧ dv = .slice none 0 0 ∧ Hid (endS (ki.toNat : Int) bs a q s1 = some (t,[])) ∧ ESt By lo R B d t w w2 ∧ BoxOf w2 w.heap.size #[.slice (some ⟨R,0,none⟩) N cR,.slice B M d] 28 ∧ BoxOf w2 (w.heap.size + 1) #[.int .i64 nu,.int .u8 (ki.toNat : Int),.int .i64 (a : Int),.int .i64 (y : Int),.slice Ab bs.length cb,.slice Am ms.length cm] 64 ∧ BoxOf w2 (w.heap.size + 1 + 1) #[.slice none 0 0,.slice none 0 0] 28 ∧ Kp lo w w2) (fun _ i _=>E1 - (intOf i).toNat)
      case atStart=>exact ⟨a,0,s1,rfl,by omega,rfl,rfl,rfl,HE1.out,hP1,hX1,hZ1,HK1.out⟩
      case round=>
       clear hP1 hX1 hZ1
       obtain ⟨n,q,t,hn,hq,rfl,rfl,hen,hEt,hPt,hXt,hZt,hKt⟩:=hrel
       have HQN:=Lib.hid hn
       have xt:=hXt.cell
       by_cases hqy : n < E1
       · have HQL : Hid (q < y):=by have:=HEE.out;show _ < _;omega
         obtain ⟨hokt,hlt1,hlt2⟩:=endS_ok HOK1.out (by rw [HN1.out.1];exact HA1.out) HBS.out q (Nat.le_of_lt HQL.out) _ hen.out
         have hnN : n < N:=by have:=HA1.out;have:=HQL.out;omega
         have hb : n < t.1.length:=by rw [hlt1,HN1.out.1];exact hnN
         have hlr : lo ≤ wr.heap.size:=by have:=hKt.below.size;have:=HLO.out;omega
         have HPB : Hid (kBytes (ki.toNat : Int) = true → q * 128 + 128 ≤ bs.length):=fun hk=>by have:=HBS.out hk;have:=HQL.out;omega
         have HEN:=Lib.hid hen
         have HOKT:=Lib.hid hokt
         have HLT : Hid (t.1.length = N ∧ t.2.length = M):=⟨hlt1.trans HN1.out.1,hlt2.trans HN1.out.2⟩
         have HWJ:=next_wrap (show E1 ≤ maxLen by have:=HEE.out;have:=HA1.out;have:=HNS.out;unfold maxLen;omega) hqy
         have bd:=Ext.drew (Below.refl wr.heap.size wr)
         have HED:=Lib.hid (hEt.next bd hlr)
         have HKD:=Lib.hid (hKt.trans (Kp.of_below bd hlr))
         have HLD : Hid (lo ≤ wr.drew.heap.size):=hlr
         have HDA : Hid (∀ w',Below wr.drew.heap.size wr.drew w' → Calls Try.prog 73 #[.agg #[.int .u8 (ki.toNat : Int),.int .i64 (a : Int),.int .i64 (y : Int),.slice Ab bs.length cb],.int .i64 n] w' fun e w''=>(∃ D q',e = .returned (.slice D (datB (ki.toNat : Int) bs q).length q') ∧ RdIn w'' (NewB w'.heap.size w'') (.sl .byte) (datB (ki.toNat : Int) bs q) [.slice D (datB (ki.toNat : Int) bs q).length q']) ∧ Below w'.heap.size w' w''):=by
          intro w' bb
          have hbr : RdIn w' By (.sl .byte) bs [.slice Ab bs.length cb]:=by
           obtain ⟨By',h1,h2,h3,h4,h5,h6⟩:=HED.out
           exact (HD.out.frame h6).below bb
          exact rdata_any By (ki.toNat : Int) (a : Int) (y : Int) bs Ab cb (n : Int) q (by have:=HQN.out;omega) w' hbr HPB.out (by have:=HQL.out;have:=HAY.out.1;omega)
         have P2D:=Lib.hid hPt.drew
         have X3D:=Lib.hid hXt.drew
         have Z4D:=Lib.hid hZt.drew
         have hrow:=HOKT.out.row hb
         have HZL : Hid (1 ≤ (t.1[n]'hb).length ∧ (t.1[n]'hb).length ≤ 512):=⟨hrow.1,hrow.2.1⟩
         have hm7 : ∃ g o c,wr.drew.cell? ⟨R,n,none⟩ = some (.slice (some ⟨g,o,none⟩) (t.1[n]'hb).length c):=by
          obtain ⟨By2,_,_,_,h4,_⟩:=HED.out
          exact h4.cell hb
         obtain ⟨g,o,c,q7⟩:=hm7
         have Q7 : Hid (∀ w',Below wr.drew.heap.size wr.drew w' → w'.cell? ⟨R,n,none⟩ = some (.slice (some ⟨g,o,none⟩) (t.1[n]'hb).length c)):=fun w' bb=>(bb.cell (block_lt_of_cell q7)).trans q7
         clear hokt hlt1 hlt2 hEt hKt hlr bd hen hPt hXt hZt hrow q7 hn hq
         go_wp2_with fail
         refine (rwrites_any (ki.toNat : Int) _).mono ?_
         rintro e w2 ⟨rfl,rfl⟩
         rw [HKW.out]
         clear xt
         go_upto_region 11 with fail
         go_cut [7] from 28 to 86 (fun s7 wx=>s7 = .slice none 0 0 ∧ ESt By lo R B d (pushY n (blk (ki.toNat : Int) bs q) t.1,t.2) w wx ∧ BoxOf wx w.heap.size #[.slice (some ⟨R,0,none⟩) N cR,.slice B M d] 28 ∧ BoxOf wx (w.heap.size + 1) #[.int .i64 nu,.int .u8 (ki.toNat : Int),.int .i64 (a : Int),.int .i64 (y : Int),.slice Ab bs.length cb,.slice Am ms.length cm] 64 ∧ BoxOf wx (w.heap.size + 1 + 1) #[.slice none 0 0,.slice none 0 0] 28 ∧ Kp lo w wx)
         case first=>
          have HS : Hid (∀ w',Below wr.drew.heap.size wr.drew w' → ((∀ p,w'.cell? ⟨w.heap.size,p,none⟩ = (#[.slice (some ⟨R,0,none⟩) N cR,.slice B M d] : Array Value).toList[p]?) ∧ (∀ p,w'.cell? ⟨w.heap.size + 1,p,none⟩ = (#[.int .i64 nu,.int .u8 (ki.toNat : Int),.int .i64 (a : Int),.int .i64 (y : Int),.slice Ab bs.length cb,.slice Am ms.length cm] : Array Value).toList[p]?))):=fun w' b=>⟨(P2D.out.next b).cell,(X3D.out.next b).cell⟩
          refine wp_region_held_drew (S:=fun w'=>(∀ p,w'.cell? ⟨w.heap.size,p,none⟩ = (#[.slice (some ⟨R,0,none⟩) N cR,.slice B M d] : Array Value).toList[p]?) ∧ (∀ p,w'.cell? ⟨w.heap.size + 1,p,none⟩ = (#[.int .i64 nu,.int .u8 (ki.toNat : Int),.int .i64 (a : Int),.int .i64 (y : Int),.slice Ab bs.length cb,.slice Am ms.length cm] : Array Value).toList[p]?)) (by kernel_rfl) (HS.out _ (Below.refl _ _)) (fun hS=>?_)
          generalize wr.drew = wd at *
          refine wpAnyH_take (i:=0) (v:=?_) rfl (by kernel_rfl) (by kernel_rfl) (by kernel_rfl) (fun _ _ _ h=>h) (Or.inl ⟨by rfl,?_⟩) hS ?_
          rotate_left
          · (intro w hSw;(try dsimp only at hSw);go_simp;(try with_reducible rfl))
          rotate_left
          simp only [Act.put,zq0,zq1,zq2,zq3,zq4,zq5]
          refine wpAnyH_take (i:=1) (v:=?_) rfl (by kernel_rfl) (by kernel_rfl) (by kernel_rfl) (fun _ _ _ h=>h) (Or.inl ⟨by rfl,?_⟩) hS ?_
          rotate_left
          · (intro w hSw;(try dsimp only at hSw);go_simp;(try with_reducible rfl))
          rotate_left
          simp only [Act.put,zq0,zq1,zq2,zq3,zq4,zq5]
          refine wpAnyH_take (i:=2) (v:=?_) rfl (by kernel_rfl) (by kernel_rfl) (by kernel_rfl) (fun _ _ _ h=>h) (Or.inl ⟨by rfl,?_⟩) hS ?_
          rotate_left
          · (intro w hSw;(try dsimp only at hSw);go_simp;(try with_reducible rfl))
          rotate_left
          simp only [Act.put,zq0,zq1,zq2,zq3,zq4,zq5]
          refine wpAnyH_take (i:=3) (v:=?_) rfl (by kernel_rfl) (by kernel_rfl) (by kernel_rfl) (fun _ _ _ h=>h) (Or.inl ⟨by rfl,?_⟩) hS ?_
          rotate_left
          · (intro w hSw;(try dsimp only at hSw);go_simp;(try with_reducible rfl))
          rotate_left
          simp only [Act.put,zq0,zq1,zq2,zq3,zq4,zq5]
          refine wpAnyH_take (i:=4) (v:=?_) rfl (by kernel_rfl) (by kernel_rfl) (by kernel_rfl) (fun _ _ _ h=>h) (Or.inl ⟨by rfl,?_⟩) hS ?_
          rotate_left
          · (intro w hSw;(try dsimp only at hSw);go_simp;(try with_reducible rfl))
          rotate_left
          simp only [Act.put,zq0,zq1,zq2,zq3,zq4,zq5]
          refine wpAnyH_take (i:=5) (v:=?_) rfl (by kernel_rfl) (by kernel_rfl) (by kernel_rfl) (fun _ _ _ h=>h) (Or.inl ⟨by rfl,?_⟩) hS ?_
          rotate_left
          · (intro w hSw;(try dsimp only at hSw);go_simp;(try with_reducible rfl))
          rotate_left
          simp only [Act.put,zq0,zq1,zq2,zq3,zq4,zq5]
          refine wpAnyH_take (i:=6) (v:=?_) rfl (by kernel_rfl) (by kernel_rfl) (by kernel_rfl) (fun _ _ _ h=>h) (Or.inl ⟨by rfl,?_⟩) hS ?_
          rotate_left
          · (intro w hSw;(try dsimp only at hSw);go_simp;(try with_reducible rfl))
          rotate_left
          simp only [Act.put,zq0,zq1,zq2,zq3,zq4,zq5]
          refine wpAnyH_take (i:=8) (v:=?_) rfl (by kernel_rfl) (by kernel_rfl) (by kernel_rfl) (fun _ _ _ h=>h) (Or.inl ⟨by rfl,?_⟩) hS ?_
          rotate_left
          · (intro w hSw;(try dsimp only at hSw);go_simp;(try with_reducible rfl))
          rotate_left
          simp only [Act.put,zq0,zq1,zq2,zq3,zq4,zq5]
          refine wpAnyH_take (i:=9) (v:=?_) rfl (by kernel_rfl) (by kernel_rfl) (by kernel_rfl) (fun _ _ _ h=>h) (Or.inl ⟨by rfl,?_⟩) hS ?_
          rotate_left
          · (intro w hSw;(try dsimp only at hSw);go_simp;(try with_reducible rfl))
          rotate_left
          simp only [Act.put,zq0,zq1,zq2,zq3,zq4,zq5]
          refine wpAnyH_take (i:=10) (v:=?_) rfl (by kernel_rfl) (by kernel_rfl) (by kernel_rfl) (fun _ _ _ h=>h) (Or.inl ⟨by rfl,?_⟩) hS ?_
          rotate_left
          · (intro w hSw;(try dsimp only at hSw);go_simp;(try with_reducible rfl))
          rotate_left
          simp only [Act.put,zq0,zq1,zq2,zq3,zq4,zq5]
          obtain ⟨vv,hvv⟩ : ∃ z : World,z = wd:=⟨_,rfl⟩
          have bv : Hid (Below wd.heap.size wd vv):=by rw [hvv];exact Below.refl _ _
          rw [← hvv]
          clear hvv
          refine wpAnyH_ready (rs:=[7,11]) (by kernel_rfl) (by simp) ?_
          refine AllReadyH.cons rfl (fun K hK=>?_) (AllReadyH.cons rfl (fun K hK=>?_) AllReadyH.nil)
          · rw [if_pos (by rfl)]
            have q7:=Q7.out vv bv.out
            go_simp
            clear q7
            refine hK.out _ _ (HS.out _ bv.out) (fun hS'=>?_)
            clear hK K hS
            have hS:=hS'
            clear hS'
            try simp only [Act.put,zq0,zq1,zq2,zq3,zq4,zq5]
            refine wpAnyH_ready (rs:=[11]) (by kernel_rfl) (by simp) ?_
            refine AllReadyH.cons rfl (fun K hK=>?_) AllReadyH.nil
            rw [if_pos (by rfl)]
            go_simp
            refine (HDA.out vv bv.out).mono ?_
            rintro e v5 ⟨⟨DD,dq,rfl,rD⟩,bw⟩
            have bv5 : Hid (Below wd.heap.size wd v5):=Ext.trans bv.out bw
            have RD:=Lib.hid rD
            have HVS:=Lib.hid bv5.out.size
            refine hK.out _ _ (HS.out _ bv5.out) (fun hS'=>?_)
            clear hK K hS bw rD bv
            have bv:=bv5
            have hS:=hS'
            clear hS' bv5
            try simp only [Act.put,zq0,zq1,zq2,zq3,zq4,zq5]
            obtain ⟨vv,hvv⟩ : ∃ z : World,z = v5:=⟨_,rfl⟩
            subst hvv
            refine wpAnyH_ready (rs:=[12]) (by kernel_rfl) (by simp) ?_
            refine AllReadyH.cons rfl (fun K hK=>?_) AllReadyH.nil
            rw [if_pos (by rfl)]
            go_simp
            refine (rwhole_pad DD _ dq _ (pad_datB (k:=(ki.toNat : Int)) (bs:=bs) (i:=q) HPB.out).2 vv RD.out.bytes_bs).mono ?_
            rintro e v5 ⟨g6,rfl,_,own6,bw⟩
            have r6:=Own.rdin own6 (by rw [(pad_datB (k:=(ki.toNat : Int)) (bs:=bs) (i:=q) HPB.out).1];exact toldBlk_len' HPB.out)
            rw [(pad_datB (k:=(ki.toNat : Int)) (bs:=bs) (i:=q) HPB.out).1] at r6
            have R6 : Hid (RdIn v5 (NewB wd.heap.size v5) (.sl .byte) (blk (ki.toNat : Int) bs q) [.slice (some ⟨g6,0,none⟩) 128 128]):=r6.mono fun b hb=>⟨by have:=hb.1;have:=bv.out.size;omega,hb.2⟩
            have bv5 : Hid (Below wd.heap.size wd v5):=Ext.trans bv.out bw
            refine hK.out _ _ (HS.out _ bv5.out) (fun hS'=>?_)
            clear hK K hS bw own6 r6 bv RD HVS
            have bv:=bv5
            have hS:=hS'
            clear hS' bv5
            try simp only [Act.put,zq0,zq1,zq2,zq3,zq4,zq5]
            obtain ⟨vv,hvv⟩ : ∃ z : World,z = v5:=⟨_,rfl⟩
            subst hvv
            refine wpAnyH_ready (rs:=[13]) (by kernel_rfl) (by simp) ?_
            refine AllReadyH.cons rfl (fun K hK=>?_) AllReadyH.nil
            rw [if_pos (by rfl)]
            go_simp
            have bw:=Ext.alloc (Below.refl vv.heap.size vv) (.cells #[.slice (some ⟨g6,0,none⟩) 128 128] 29)
            have q8 : (vv.alloc (.cells #[.slice (some ⟨g6,0,none⟩) 128 128] 29)).cell? ⟨vv.heap.size,0,none⟩ = some (.slice (some ⟨g6,0,none⟩) 128 128):=(BoxOf.new vv #[.slice (some ⟨g6,0,none⟩) 128 128] 29).cell 0
            have HV8:=Lib.hid ((HED.out.val bv.out HLD.out R6.out).next bw (Nat.le_trans HLD.out bv.out.size))
            have bv5 : Hid (Below wd.heap.size wd (vv.alloc (.cells #[.slice (some ⟨g6,0,none⟩) 128 128] 29))):=Ext.trans bv.out bw
            obtain ⟨g8,hg8⟩ : ∃ z : Nat,z = vv.heap.size:=⟨_,rfl⟩
            rw [← hg8] at q8
            refine hK.out _ _ (HS.out _ bv5.out) (fun hS'=>?_)
            rw [← hg8]
            clear hK K hS bw bv hg8 R6
            have bv:=bv5
            have hS:=hS'
            clear hS' bv5
            try simp only [Act.put,zq0,zq1,zq2,zq3,zq4,zq5]
            generalize vv.alloc (.cells #[.slice (some ⟨g6,0,none⟩) 128 128] 29) = v8 at *
            obtain ⟨vv,hvv⟩ : ∃ z : World,z = v8:=⟨_,rfl⟩
            subst hvv
            refine wpAnyH_ready (rs:=[14]) (by kernel_rfl) (by simp) ?_
            refine AllReadyH.cons rfl (fun K hK=>?_) AllReadyH.nil
            rw [if_pos (by rfl)]
            obtain ⟨g',o',c',v0,By',v1,v2,v3,v4⟩:=HV8.out.push hb
            have hv0:=(Q7.out vv bv.out).symm.trans v0
            injection hv0 with hv0
            injection hv0 with hv01 _ hv03
            injection hv01 with hv01
            injection hv01 with hv01 hv02
            subst hv01 hv02 hv03
            refine wp_pushS (.tmp 56) (.tmp 62) 30 rfl il _ Try.underlying30 hil hl0 hl1 hl2 rfl By' lo g o c (t.1[n]'hb) v1 rfl g8 1 _ rfl q8 _ v2 v3 (by have:=HZL.out;omega) (Nat.le_trans HLD.out bv.out.size) ?_
            intro w4 g4 o4 c4 hrow4 hg4 hgr4
            obtain ⟨cs4,r4,hb4,hE4,hK4⟩:=v4 w4 g4 o4 c4 hrow4 hg4 hgr4
            obtain ⟨curg,hcg,_⟩:=v1
            have P4:=(P2D.out.next bv.out).grown hgr4 (fun e=>box_diff hcg (P2D.out.next bv.out) (by decide) (Option.some.inj e))
            have X4:=(X3D.out.next bv.out).grown hgr4 (fun e=>box_diff hcg (X3D.out.next bv.out) (by decide) (Option.some.inj e))
            have rf4:=r4.free
            have rc4 : w4.cell? ⟨R,n,none⟩ = some (cs4[n]'hb4):=by rw [r4.cell,List.getElem?_eq_getElem (by rw [Array.length_toList];exact hb4)];rfl
            have HE4:=Lib.hid hE4
            have HK4:=Lib.hid ((HKD.out.trans (Kp.of_below bv.out HLD.out)).trans hK4)
            have P5:=Lib.hid (hK4.box _ _ _ (P2D.out.next bv.out) (by decide) (by decide) (by decide))
            have X5:=Lib.hid (hK4.box _ _ _ (X3D.out.next bv.out) (by decide) (by decide) (by decide))
            have Z5:=Lib.hid (hK4.box _ _ _ (Z4D.out.next bv.out) (by decide) (by decide) (by decide))
            generalize cs4[n]'hb4 = old4 at rc4
            refine hK.out _ _ ⟨P4.cell,X4.cell⟩ (fun hS'=>?_)
            clear hK K hS v0 v2 v3 v4 hcg hrow4 hg4 hgr4 r4 hE4 hK4 P4 X4 q8 HV8
            have hS:=hS'
            clear hS'
            try simp only [Act.put,zq0,zq1,zq2,zq3,zq4,zq5]
            refine wpAnyH_take (i:=15) (v:=?_) rfl (by kernel_rfl) (by kernel_rfl) (by kernel_rfl) (fun _ _ _ h=>h) (Or.inl ⟨by rfl,?_⟩) hS ?_
            rotate_left
            · (intro w hSw;(try dsimp only at hSw);go_simp;(try with_reducible rfl))
            rotate_left
            simp only [Act.put,zq0,zq1,zq2,zq3,zq4,zq5]
            refine wpAnyH_ready (rs:=[16]) (by kernel_rfl) (by simp) ?_
            refine AllReadyH.cons rfl (fun K hK=>?_) AllReadyH.nil
            rw [if_pos (by rfl)]
            go_simp
            refine hK.out _ _ ⟨P5.out.cell,X5.out.cell⟩ (fun hS'=>?_)
            clear hK K hS hS' rf4 rc4
            try simp only [Act.put,zq0,zq1,zq2,zq3,zq4,zq5]
            refine wpAnyH_done (by kernel_rfl) ?_ _
            generalize w4.setCell ⟨R,n,none⟩ (.slice (some ⟨g4,o4,none⟩) ((t.1[n]'hb).length + 1) c4) = w5 at *
            clear bv HED HKD HDA Q7
            go_wp2_with fail
            go_meet
            exact ⟨rfl,HE4.out,P5.out,X5.out,Z5.out,HK4.out⟩
          · rw [if_pos (by rfl)]
            go_simp
            refine (HDA.out vv bv.out).mono ?_
            rintro e v5 ⟨⟨DD,dq,rfl,rD⟩,bw⟩
            have bv5 : Hid (Below wd.heap.size wd v5):=Ext.trans bv.out bw
            have RD:=Lib.hid rD
            have HVS:=Lib.hid bv5.out.size
            refine hK.out _ _ (HS.out _ bv5.out) (fun hS'=>?_)
            clear hK K hS bw rD bv
            have bv:=bv5
            have hS:=hS'
            clear hS' bv5
            try simp only [Act.put,zq0,zq1,zq2,zq3,zq4,zq5]
            obtain ⟨vv,hvv⟩ : ∃ z : World,z = v5:=⟨_,rfl⟩
            subst hvv
            refine wpAnyH_ready (rs:=[7,12]) (by kernel_rfl) (by simp) ?_
            refine AllReadyH.cons rfl (fun K hK=>?_) (AllReadyH.cons rfl (fun K hK=>?_) AllReadyH.nil)
            · rw [if_pos (by rfl)]
              have q7:=Q7.out vv bv.out
              go_simp
              clear q7
              refine hK.out _ _ (HS.out _ bv.out) (fun hS'=>?_)
              clear hK K hS
              have hS:=hS'
              clear hS'
              try simp only [Act.put,zq0,zq1,zq2,zq3,zq4,zq5]
              refine wpAnyH_ready (rs:=[12]) (by kernel_rfl) (by simp) ?_
              refine AllReadyH.cons rfl (fun K hK=>?_) AllReadyH.nil
              rw [if_pos (by rfl)]
              go_simp
              refine (rwhole_pad DD _ dq _ (pad_datB (k:=(ki.toNat : Int)) (bs:=bs) (i:=q) HPB.out).2 vv RD.out.bytes_bs).mono ?_
              rintro e v5 ⟨g6,rfl,_,own6,bw⟩
              have r6:=Own.rdin own6 (by rw [(pad_datB (k:=(ki.toNat : Int)) (bs:=bs) (i:=q) HPB.out).1];exact toldBlk_len' HPB.out)
              rw [(pad_datB (k:=(ki.toNat : Int)) (bs:=bs) (i:=q) HPB.out).1] at r6
              have R6 : Hid (RdIn v5 (NewB wd.heap.size v5) (.sl .byte) (blk (ki.toNat : Int) bs q) [.slice (some ⟨g6,0,none⟩) 128 128]):=r6.mono fun b hb=>⟨by have:=hb.1;have:=bv.out.size;omega,hb.2⟩
              have bv5 : Hid (Below wd.heap.size wd v5):=Ext.trans bv.out bw
              refine hK.out _ _ (HS.out _ bv5.out) (fun hS'=>?_)
              clear hK K hS bw own6 r6 bv RD HVS
              have bv:=bv5
              have hS:=hS'
              clear hS' bv5
              try simp only [Act.put,zq0,zq1,zq2,zq3,zq4,zq5]
              obtain ⟨vv,hvv⟩ : ∃ z : World,z = v5:=⟨_,rfl⟩
              subst hvv
              refine wpAnyH_ready (rs:=[13]) (by kernel_rfl) (by simp) ?_
              refine AllReadyH.cons rfl (fun K hK=>?_) AllReadyH.nil
              rw [if_pos (by rfl)]
              go_simp
              have bw:=Ext.alloc (Below.refl vv.heap.size vv) (.cells #[.slice (some ⟨g6,0,none⟩) 128 128] 29)
              have q8 : (vv.alloc (.cells #[.slice (some ⟨g6,0,none⟩) 128 128] 29)).cell? ⟨vv.heap.size,0,none⟩ = some (.slice (some ⟨g6,0,none⟩) 128 128):=(BoxOf.new vv #[.slice (some ⟨g6,0,none⟩) 128 128] 29).cell 0
              have HV8:=Lib.hid ((HED.out.val bv.out HLD.out R6.out).next bw (Nat.le_trans HLD.out bv.out.size))
              have bv5 : Hid (Below wd.heap.size wd (vv.alloc (.cells #[.slice (some ⟨g6,0,none⟩) 128 128] 29))):=Ext.trans bv.out bw
              obtain ⟨g8,hg8⟩ : ∃ z : Nat,z = vv.heap.size:=⟨_,rfl⟩
              rw [← hg8] at q8
              refine hK.out _ _ (HS.out _ bv5.out) (fun hS'=>?_)
              rw [← hg8]
              clear hK K hS bw bv hg8 R6
              have bv:=bv5
              have hS:=hS'
              clear hS' bv5
              try simp only [Act.put,zq0,zq1,zq2,zq3,zq4,zq5]
              generalize vv.alloc (.cells #[.slice (some ⟨g6,0,none⟩) 128 128] 29) = v8 at *
              obtain ⟨vv,hvv⟩ : ∃ z : World,z = v8:=⟨_,rfl⟩
              subst hvv
              refine wpAnyH_ready (rs:=[14]) (by kernel_rfl) (by simp) ?_
              refine AllReadyH.cons rfl (fun K hK=>?_) AllReadyH.nil
              rw [if_pos (by rfl)]
              obtain ⟨g',o',c',v0,By',v1,v2,v3,v4⟩:=HV8.out.push hb
              have hv0:=(Q7.out vv bv.out).symm.trans v0
              injection hv0 with hv0
              injection hv0 with hv01 _ hv03
              injection hv01 with hv01
              injection hv01 with hv01 hv02
              subst hv01 hv02 hv03
              refine wp_pushS (.tmp 56) (.tmp 62) 30 rfl il _ Try.underlying30 hil hl0 hl1 hl2 rfl By' lo g o c (t.1[n]'hb) v1 rfl g8 1 _ rfl q8 _ v2 v3 (by have:=HZL.out;omega) (Nat.le_trans HLD.out bv.out.size) ?_
              intro w4 g4 o4 c4 hrow4 hg4 hgr4
              obtain ⟨cs4,r4,hb4,hE4,hK4⟩:=v4 w4 g4 o4 c4 hrow4 hg4 hgr4
              obtain ⟨curg,hcg,_⟩:=v1
              have P4:=(P2D.out.next bv.out).grown hgr4 (fun e=>box_diff hcg (P2D.out.next bv.out) (by decide) (Option.some.inj e))
              have X4:=(X3D.out.next bv.out).grown hgr4 (fun e=>box_diff hcg (X3D.out.next bv.out) (by decide) (Option.some.inj e))
              have rf4:=r4.free
              have rc4 : w4.cell? ⟨R,n,none⟩ = some (cs4[n]'hb4):=by rw [r4.cell,List.getElem?_eq_getElem (by rw [Array.length_toList];exact hb4)];rfl
              have HE4:=Lib.hid hE4
              have HK4:=Lib.hid ((HKD.out.trans (Kp.of_below bv.out HLD.out)).trans hK4)
              have P5:=Lib.hid (hK4.box _ _ _ (P2D.out.next bv.out) (by decide) (by decide) (by decide))
              have X5:=Lib.hid (hK4.box _ _ _ (X3D.out.next bv.out) (by decide) (by decide) (by decide))
              have Z5:=Lib.hid (hK4.box _ _ _ (Z4D.out.next bv.out) (by decide) (by decide) (by decide))
              generalize cs4[n]'hb4 = old4 at rc4
              refine hK.out _ _ ⟨P4.cell,X4.cell⟩ (fun hS'=>?_)
              clear hK K hS v0 v2 v3 v4 hcg hrow4 hg4 hgr4 r4 hE4 hK4 P4 X4 q8 HV8
              have hS:=hS'
              clear hS'
              try simp only [Act.put,zq0,zq1,zq2,zq3,zq4,zq5]
              refine wpAnyH_take (i:=15) (v:=?_) rfl (by kernel_rfl) (by kernel_rfl) (by kernel_rfl) (fun _ _ _ h=>h) (Or.inl ⟨by rfl,?_⟩) hS ?_
              rotate_left
              · (intro w hSw;(try dsimp only at hSw);go_simp;(try with_reducible rfl))
              rotate_left
              simp only [Act.put,zq0,zq1,zq2,zq3,zq4,zq5]
              refine wpAnyH_ready (rs:=[16]) (by kernel_rfl) (by simp) ?_
              refine AllReadyH.cons rfl (fun K hK=>?_) AllReadyH.nil
              rw [if_pos (by rfl)]
              go_simp
              refine hK.out _ _ ⟨P5.out.cell,X5.out.cell⟩ (fun hS'=>?_)
              clear hK K hS hS' rf4 rc4
              try simp only [Act.put,zq0,zq1,zq2,zq3,zq4,zq5]
              refine wpAnyH_done (by kernel_rfl) ?_ _
              generalize w4.setCell ⟨R,n,none⟩ (.slice (some ⟨g4,o4,none⟩) ((t.1[n]'hb).length + 1) c4) = w5 at *
              clear bv HED HKD HDA Q7
              go_wp2_with fail
              go_meet
              exact ⟨rfl,HE4.out,P5.out,X5.out,Z5.out,HK4.out⟩
            · rw [if_pos (by rfl)]
              go_simp
              refine (rwhole_pad DD _ dq _ (pad_datB (k:=(ki.toNat : Int)) (bs:=bs) (i:=q) HPB.out).2 vv RD.out.bytes_bs).mono ?_
              rintro e v5 ⟨g6,rfl,_,own6,bw⟩
              have r6:=Own.rdin own6 (by rw [(pad_datB (k:=(ki.toNat : Int)) (bs:=bs) (i:=q) HPB.out).1];exact toldBlk_len' HPB.out)
              rw [(pad_datB (k:=(ki.toNat : Int)) (bs:=bs) (i:=q) HPB.out).1] at r6
              have R6 : Hid (RdIn v5 (NewB wd.heap.size v5) (.sl .byte) (blk (ki.toNat : Int) bs q) [.slice (some ⟨g6,0,none⟩) 128 128]):=r6.mono fun b hb=>⟨by have:=hb.1;have:=bv.out.size;omega,hb.2⟩
              have bv5 : Hid (Below wd.heap.size wd v5):=Ext.trans bv.out bw
              refine hK.out _ _ (HS.out _ bv5.out) (fun hS'=>?_)
              clear hK K hS bw own6 r6 bv RD HVS
              have bv:=bv5
              have hS:=hS'
              clear hS' bv5
              try simp only [Act.put,zq0,zq1,zq2,zq3,zq4,zq5]
              obtain ⟨vv,hvv⟩ : ∃ z : World,z = v5:=⟨_,rfl⟩
              subst hvv
              refine wpAnyH_ready (rs:=[7,13]) (by kernel_rfl) (by simp) ?_
              refine AllReadyH.cons rfl (fun K hK=>?_) (AllReadyH.cons rfl (fun K hK=>?_) AllReadyH.nil)
              · rw [if_pos (by rfl)]
                have q7:=Q7.out vv bv.out
                go_simp
                clear q7
                refine hK.out _ _ (HS.out _ bv.out) (fun hS'=>?_)
                clear hK K hS
                have hS:=hS'
                clear hS'
                try simp only [Act.put,zq0,zq1,zq2,zq3,zq4,zq5]
                refine wpAnyH_ready (rs:=[13]) (by kernel_rfl) (by simp) ?_
                refine AllReadyH.cons rfl (fun K hK=>?_) AllReadyH.nil
                rw [if_pos (by rfl)]
                go_simp
                have bw:=Ext.alloc (Below.refl vv.heap.size vv) (.cells #[.slice (some ⟨g6,0,none⟩) 128 128] 29)
                have q8 : (vv.alloc (.cells #[.slice (some ⟨g6,0,none⟩) 128 128] 29)).cell? ⟨vv.heap.size,0,none⟩ = some (.slice (some ⟨g6,0,none⟩) 128 128):=(BoxOf.new vv #[.slice (some ⟨g6,0,none⟩) 128 128] 29).cell 0
                have HV8:=Lib.hid ((HED.out.val bv.out HLD.out R6.out).next bw (Nat.le_trans HLD.out bv.out.size))
                have bv5 : Hid (Below wd.heap.size wd (vv.alloc (.cells #[.slice (some ⟨g6,0,none⟩) 128 128] 29))):=Ext.trans bv.out bw
                obtain ⟨g8,hg8⟩ : ∃ z : Nat,z = vv.heap.size:=⟨_,rfl⟩
                rw [← hg8] at q8
                refine hK.out _ _ (HS.out _ bv5.out) (fun hS'=>?_)
                rw [← hg8]
                clear hK K hS bw bv hg8 R6
                have bv:=bv5
                have hS:=hS'
                clear hS' bv5
                try simp only [Act.put,zq0,zq1,zq2,zq3,zq4,zq5]
                generalize vv.alloc (.cells #[.slice (some ⟨g6,0,none⟩) 128 128] 29) = v8 at *
                obtain ⟨vv,hvv⟩ : ∃ z : World,z = v8:=⟨_,rfl⟩
                subst hvv
                refine wpAnyH_ready (rs:=[14]) (by kernel_rfl) (by simp) ?_
                refine AllReadyH.cons rfl (fun K hK=>?_) AllReadyH.nil
                rw [if_pos (by rfl)]
                obtain ⟨g',o',c',v0,By',v1,v2,v3,v4⟩:=HV8.out.push hb
                have hv0:=(Q7.out vv bv.out).symm.trans v0
                injection hv0 with hv0
                injection hv0 with hv01 _ hv03
                injection hv01 with hv01
                injection hv01 with hv01 hv02
                subst hv01 hv02 hv03
                refine wp_pushS (.tmp 56) (.tmp 62) 30 rfl il _ Try.underlying30 hil hl0 hl1 hl2 rfl By' lo g o c (t.1[n]'hb) v1 rfl g8 1 _ rfl q8 _ v2 v3 (by have:=HZL.out;omega) (Nat.le_trans HLD.out bv.out.size) ?_
                intro w4 g4 o4 c4 hrow4 hg4 hgr4
                obtain ⟨cs4,r4,hb4,hE4,hK4⟩:=v4 w4 g4 o4 c4 hrow4 hg4 hgr4
                obtain ⟨curg,hcg,_⟩:=v1
                have P4:=(P2D.out.next bv.out).grown hgr4 (fun e=>box_diff hcg (P2D.out.next bv.out) (by decide) (Option.some.inj e))
                have X4:=(X3D.out.next bv.out).grown hgr4 (fun e=>box_diff hcg (X3D.out.next bv.out) (by decide) (Option.some.inj e))
                have rf4:=r4.free
                have rc4 : w4.cell? ⟨R,n,none⟩ = some (cs4[n]'hb4):=by rw [r4.cell,List.getElem?_eq_getElem (by rw [Array.length_toList];exact hb4)];rfl
                have HE4:=Lib.hid hE4
                have HK4:=Lib.hid ((HKD.out.trans (Kp.of_below bv.out HLD.out)).trans hK4)
                have P5:=Lib.hid (hK4.box _ _ _ (P2D.out.next bv.out) (by decide) (by decide) (by decide))
                have X5:=Lib.hid (hK4.box _ _ _ (X3D.out.next bv.out) (by decide) (by decide) (by decide))
                have Z5:=Lib.hid (hK4.box _ _ _ (Z4D.out.next bv.out) (by decide) (by decide) (by decide))
                generalize cs4[n]'hb4 = old4 at rc4
                refine hK.out _ _ ⟨P4.cell,X4.cell⟩ (fun hS'=>?_)
                clear hK K hS v0 v2 v3 v4 hcg hrow4 hg4 hgr4 r4 hE4 hK4 P4 X4 q8 HV8
                have hS:=hS'
                clear hS'
                try simp only [Act.put,zq0,zq1,zq2,zq3,zq4,zq5]
                refine wpAnyH_take (i:=15) (v:=?_) rfl (by kernel_rfl) (by kernel_rfl) (by kernel_rfl) (fun _ _ _ h=>h) (Or.inl ⟨by rfl,?_⟩) hS ?_
                rotate_left
                · (intro w hSw;(try dsimp only at hSw);go_simp;(try with_reducible rfl))
                rotate_left
                simp only [Act.put,zq0,zq1,zq2,zq3,zq4,zq5]
                refine wpAnyH_ready (rs:=[16]) (by kernel_rfl) (by simp) ?_
                refine AllReadyH.cons rfl (fun K hK=>?_) AllReadyH.nil
                rw [if_pos (by rfl)]
                go_simp
                refine hK.out _ _ ⟨P5.out.cell,X5.out.cell⟩ (fun hS'=>?_)
                clear hK K hS hS' rf4 rc4
                try simp only [Act.put,zq0,zq1,zq2,zq3,zq4,zq5]
                refine wpAnyH_done (by kernel_rfl) ?_ _
                generalize w4.setCell ⟨R,n,none⟩ (.slice (some ⟨g4,o4,none⟩) ((t.1[n]'hb).length + 1) c4) = w5 at *
                clear bv HED HKD HDA Q7
                go_wp2_with fail
                go_meet
                exact ⟨rfl,HE4.out,P5.out,X5.out,Z5.out,HK4.out⟩
              · rw [if_pos (by rfl)]
                go_simp
                have bw:=Ext.alloc (Below.refl vv.heap.size vv) (.cells #[.slice (some ⟨g6,0,none⟩) 128 128] 29)
                have q8 : (vv.alloc (.cells #[.slice (some ⟨g6,0,none⟩) 128 128] 29)).cell? ⟨vv.heap.size,0,none⟩ = some (.slice (some ⟨g6,0,none⟩) 128 128):=(BoxOf.new vv #[.slice (some ⟨g6,0,none⟩) 128 128] 29).cell 0
                have HV8:=Lib.hid ((HED.out.val bv.out HLD.out R6.out).next bw (Nat.le_trans HLD.out bv.out.size))
                have bv5 : Hid (Below wd.heap.size wd (vv.alloc (.cells #[.slice (some ⟨g6,0,none⟩) 128 128] 29))):=Ext.trans bv.out bw
                obtain ⟨g8,hg8⟩ : ∃ z : Nat,z = vv.heap.size:=⟨_,rfl⟩
                rw [← hg8] at q8
                refine hK.out _ _ (HS.out _ bv5.out) (fun hS'=>?_)
                rw [← hg8]
                clear hK K hS bw bv hg8 R6
                have bv:=bv5
                have hS:=hS'
                clear hS' bv5
                try simp only [Act.put,zq0,zq1,zq2,zq3,zq4,zq5]
                generalize vv.alloc (.cells #[.slice (some ⟨g6,0,none⟩) 128 128] 29) = v8 at *
                obtain ⟨vv,hvv⟩ : ∃ z : World,z = v8:=⟨_,rfl⟩
                subst hvv
                refine wpAnyH_ready (rs:=[7]) (by kernel_rfl) (by simp) ?_
                refine AllReadyH.cons rfl (fun K hK=>?_) AllReadyH.nil
                rw [if_pos (by rfl)]
                have q7:=Q7.out vv bv.out
                go_simp
                clear q7
                refine hK.out _ _ (HS.out _ bv.out) (fun hS'=>?_)
                clear hK K hS
                have hS:=hS'
                clear hS'
                try simp only [Act.put,zq0,zq1,zq2,zq3,zq4,zq5]
                refine wpAnyH_ready (rs:=[14]) (by kernel_rfl) (by simp) ?_
                refine AllReadyH.cons rfl (fun K hK=>?_) AllReadyH.nil
                rw [if_pos (by rfl)]
                obtain ⟨g',o',c',v0,By',v1,v2,v3,v4⟩:=HV8.out.push hb
                have hv0:=(Q7.out vv bv.out).symm.trans v0
                injection hv0 with hv0
                injection hv0 with hv01 _ hv03
                injection hv01 with hv01
                injection hv01 with hv01 hv02
                subst hv01 hv02 hv03
                refine wp_pushS (.tmp 56) (.tmp 62) 30 rfl il _ Try.underlying30 hil hl0 hl1 hl2 rfl By' lo g o c (t.1[n]'hb) v1 rfl g8 1 _ rfl q8 _ v2 v3 (by have:=HZL.out;omega) (Nat.le_trans HLD.out bv.out.size) ?_
                intro w4 g4 o4 c4 hrow4 hg4 hgr4
                obtain ⟨cs4,r4,hb4,hE4,hK4⟩:=v4 w4 g4 o4 c4 hrow4 hg4 hgr4
                obtain ⟨curg,hcg,_⟩:=v1
                have P4:=(P2D.out.next bv.out).grown hgr4 (fun e=>box_diff hcg (P2D.out.next bv.out) (by decide) (Option.some.inj e))
                have X4:=(X3D.out.next bv.out).grown hgr4 (fun e=>box_diff hcg (X3D.out.next bv.out) (by decide) (Option.some.inj e))
                have rf4:=r4.free
                have rc4 : w4.cell? ⟨R,n,none⟩ = some (cs4[n]'hb4):=by rw [r4.cell,List.getElem?_eq_getElem (by rw [Array.length_toList];exact hb4)];rfl
                have HE4:=Lib.hid hE4
                have HK4:=Lib.hid ((HKD.out.trans (Kp.of_below bv.out HLD.out)).trans hK4)
                have P5:=Lib.hid (hK4.box _ _ _ (P2D.out.next bv.out) (by decide) (by decide) (by decide))
                have X5:=Lib.hid (hK4.box _ _ _ (X3D.out.next bv.out) (by decide) (by decide) (by decide))
                have Z5:=Lib.hid (hK4.box _ _ _ (Z4D.out.next bv.out) (by decide) (by decide) (by decide))
                generalize cs4[n]'hb4 = old4 at rc4
                refine hK.out _ _ ⟨P4.cell,X4.cell⟩ (fun hS'=>?_)
                clear hK K hS v0 v2 v3 v4 hcg hrow4 hg4 hgr4 r4 hE4 hK4 P4 X4 q8 HV8
                have hS:=hS'
                clear hS'
                try simp only [Act.put,zq0,zq1,zq2,zq3,zq4,zq5]
                refine wpAnyH_take (i:=15) (v:=?_) rfl (by kernel_rfl) (by kernel_rfl) (by kernel_rfl) (fun _ _ _ h=>h) (Or.inl ⟨by rfl,?_⟩) hS ?_
                rotate_left
                · (intro w hSw;(try dsimp only at hSw);go_simp;(try with_reducible rfl))
                rotate_left
                simp only [Act.put,zq0,zq1,zq2,zq3,zq4,zq5]
                refine wpAnyH_ready (rs:=[16]) (by kernel_rfl) (by simp) ?_
                refine AllReadyH.cons rfl (fun K hK=>?_) AllReadyH.nil
                rw [if_pos (by rfl)]
                go_simp
                refine hK.out _ _ ⟨P5.out.cell,X5.out.cell⟩ (fun hS'=>?_)
                clear hK K hS hS' rf4 rc4
                try simp only [Act.put,zq0,zq1,zq2,zq3,zq4,zq5]
                refine wpAnyH_done (by kernel_rfl) ?_ _
                generalize w4.setCell ⟨R,n,none⟩ (.slice (some ⟨g4,o4,none⟩) ((t.1[n]'hb).length + 1) c4) = w5 at *
                clear bv HED HKD HDA Q7
                go_wp2_with fail
                go_meet
                exact ⟨rfl,HE4.out,P5.out,X5.out,Z5.out,HK4.out⟩
         case rest=>
          obtain ⟨rfl,hE5,P5,X5,Z5,hK5⟩:=hcut
          have HE5:=Lib.hid hE5
          have HK5:=Lib.hid hK5
          have hlp : (pushY n (blk (ki.toNat : Int) bs q) t.1).length = t.1.length:=List.length_set
          have hbp : n < (pushY n (blk (ki.toNat : Int) bs q) t.1).length:=by rw [hlp];exact hb
          have hgp : (pushY n (blk (ki.toNat : Int) bs q) t.1)[n]'hbp = t.1[n]'hb ++ [blk (ki.toNat : Int) bs q]:=by
           have e1 : (pushY n (blk (ki.toNat : Int) bs q) t.1)[n]? = some (t.1.getD n [] ++ [blk (ki.toNat : Int) bs q]):=List.getElem?_set_self hb
           rw [getD_lt hb,List.getElem?_eq_getElem hbp] at e1
           exact Option.some.inj e1
          have x4:=X5.cell
          clear hE5 hK5 Q7 HDA HED HKD P2D X3D Z4D HLD
          by_cases hk3 : (ki.toNat : Int) = 3
          · have e3 : ((ki.toNat : Int) == 3) = true:=by rw [hk3];rfl
            have hlr5 : lo ≤ wc.heap.size:=by have:=HK5.out.below.size;have:=HLO.out;omega
            have bd:=Ext.drew (Below.refl wc.heap.size wc)
            have hEd:=HE5.out.next bd hlr5
            obtain ⟨z,hz⟩ : ∃ z,z = (t.1[n]'hb).length:=⟨_,rfl⟩
            have hm5 : ∃ g o c,wc.drew.cell? ⟨R,n,none⟩ = some (.slice (some ⟨g,o,none⟩) (z + 1) c):=by
             obtain ⟨By2,_,_,_,h4,_⟩:=hEd
             obtain ⟨g,o,c,h⟩:=h4.cell hbp
             rw [hgp,List.length_append,List.length_singleton,← hz] at h
             exact ⟨g,o,c,h⟩
            obtain ⟨g5,o5,c5,m5⟩:=hm5
            have hzl : z ≤ 512:=by rw [hz];exact HZL.out.2
            have hc:=rwithout_est (cR:=cR) (many:=z) hEd hlr5 ⟨HOKT.out.few,by rw [show (pushY n (blk (ki.toNat : Int) bs q) t.1,t.2).1.length = t.1.length from hlp];exact HOKT.out.short,by rw [show (pushY n (blk (ki.toNat : Int) bs q) t.1,t.2).1.length = t.1.length from hlp];exact HOKT.out.fits.2.2⟩ hbp ⟨by rw [show (pushY n (blk (ki.toNat : Int) bs q) t.1,t.2).1[n]'hbp = _ from hgp,List.length_append,← hz];exact Nat.lt_succ_self _,by omega⟩
            rw [show (pushY n (blk (ki.toNat : Int) bs q) t.1,t.2).1.length = N from hlp.trans HLT.out.1,show (pushY n (blk (ki.toNat : Int) bs q) t.1,t.2).2.length = M from HLT.out.2] at hc
            have HC:=Lib.hid hc
            have e6 : IntKind.i64.wrap (((z + 1 : Nat) : Int) - 1) = (z : Int):=by rw [i64_fit (by omega)];omega
            have HZ:=Lib.hid hz
            obtain ⟨z1,hz1⟩ : ∃ z1,z1 = z + 1:=⟨_,rfl⟩
            rw [← hz1] at m5 e6
            have HK3:=Lib.hid hk3
            have Pd:=Lib.hid P5.drew
            have Xd:=Lib.hid X5.drew
            have Zd:=Lib.hid Z5.drew
            have HKd:=Lib.hid (HK5.out.trans (Kp.of_below bd hlr5))
            clear hk3 hgp hbp hlp hc hEd hz hz1 hzl bd hlr5
            go_upto_region 13 with fail
            refine wp_region_held_drew (S:=fun w'=>(∀ p,w'.cell? ⟨w.heap.size,p,none⟩ = (#[.slice (some ⟨R,0,none⟩) N cR,.slice B M d] : Array Value).toList[p]?)) (by kernel_rfl) Pd.out.cell (fun hS=>?_)
            generalize wc.drew = wd at *
            refine wpAnyH_take (i:=0) (v:=?_) rfl (by kernel_rfl) (by kernel_rfl) (by kernel_rfl) (fun _ _ _ h=>h) (Or.inl ⟨by rfl,?_⟩) hS ?_
            rotate_left
            · (intro w hSw;(try dsimp only at hSw);go_simp;(try with_reducible rfl))
            rotate_left
            simp only [Act.put,zq0,zq1,zq2,zq3,zq4,zq5]
            refine wpAnyH_take (i:=1) (v:=?_) rfl (by kernel_rfl) (by kernel_rfl) (by kernel_rfl) (fun _ _ _ h=>h) (Or.inl ⟨by rfl,?_⟩) hS ?_
            rotate_left
            · (intro w hSw;(try dsimp only at hSw);go_simp;(try with_reducible rfl))
            rotate_left
            simp only [Act.put,zq0,zq1,zq2,zq3,zq4,zq5]
            refine wpAnyH_take (i:=2) (v:=?_) rfl (by kernel_rfl) (by kernel_rfl) (by kernel_rfl) (fun _ _ _ h=>h) (Or.inl ⟨by rfl,?_⟩) hS ?_
            rotate_left
            · (intro w hSw;(try dsimp only at hSw);go_simp;(try with_reducible rfl))
            rotate_left
            simp only [Act.put,zq0,zq1,zq2,zq3,zq4,zq5]
            refine wpAnyH_take (i:=3) (v:=?_) rfl (by kernel_rfl) (by kernel_rfl) (by kernel_rfl) (fun _ _ _ h=>h) (Or.inl ⟨by rfl,?_⟩) hS ?_
            rotate_left
            · (intro w hSw;(try dsimp only at hSw);go_simp;(try with_reducible rfl))
            rotate_left
            simp only [Act.put,zq0,zq1,zq2,zq3,zq4,zq5]
            refine wpAnyH_take (i:=4) (v:=?_) rfl (by kernel_rfl) (by kernel_rfl) (by kernel_rfl) (fun _ _ _ h=>h) (Or.inl ⟨by rfl,?_⟩) hS ?_
            rotate_left
            · (intro w hSw;(try dsimp only at hSw);go_simp;(try with_reducible rfl))
            rotate_left
            simp only [Act.put,zq0,zq1,zq2,zq3,zq4,zq5]
            refine wpAnyH_take (i:=5) (v:=?_) rfl (by kernel_rfl) (by kernel_rfl) (by kernel_rfl) (fun _ _ _ h=>h) (Or.inl ⟨by rfl,?_⟩) hS ?_
            rotate_left
            · (intro w hSw;(try dsimp only at hSw);go_simp;(try with_reducible rfl))
            rotate_left
            simp only [Act.put,zq0,zq1,zq2,zq3,zq4,zq5]
            refine wpAnyH_ready (rs:=[6]) (by kernel_rfl) (by simp) ?_
            refine AllReadyH.cons rfl (fun K hK=>?_) AllReadyH.nil
            rw [if_pos (by rfl)]
            go_simp
            refine hK.out _ _ hS (fun hS'=>?_)
            clear hK K hS
            have hS:=hS'
            clear hS'
            try simp only [Act.put,zq0,zq1,zq2,zq3,zq4,zq5]
            refine wpAnyH_take (i:=7) (v:=?_) rfl (by kernel_rfl) (by kernel_rfl) (by kernel_rfl) (fun _ _ _ h=>h) (Or.inl ⟨by rfl,?_⟩) hS ?_
            rotate_left
            · (intro w hSw;(try dsimp only at hSw);go_simp;(try with_reducible rfl))
            rotate_left
            simp only [Act.put,zq0,zq1,zq2,zq3,zq4,zq5]
            refine wpAnyH_take (i:=8) (v:=?_) rfl (by kernel_rfl) (by kernel_rfl) (by kernel_rfl) (fun _ _ _ h=>h) (Or.inl ⟨by rfl,?_⟩) hS ?_
            rotate_left
            · (intro w hSw;(try dsimp only at hSw);go_simp;(try with_reducible rfl))
            rotate_left
            simp only [Act.put,zq0,zq1,zq2,zq3,zq4,zq5]
            refine wpAnyH_ready (rs:=[9]) (by kernel_rfl) (by simp) ?_
            refine AllReadyH.cons rfl (fun K hK=>?_) AllReadyH.nil
            rw [if_pos (by rfl)]
            go_simp
            refine HC.out.mono ?_
            rintro e w6 ⟨rfl,hE6,hK6⟩
            have HE6 : Hid (ESt By lo R B d (putS (ki.toNat : Int) n (blk (ki.toNat : Int) bs q) t) w w6):=by
             refine hE6.cast ?_
             unfold putS
             rw [if_pos HK3.out,getD_lt hb]
             congr 1
             rw [List.length_append,List.length_singleton,HZ.out]
             omega
            have Pw:=hK6.box _ _ _ Pd.out (by decide) (by decide) (by decide)
            have X6:=Lib.hid (hK6.box _ _ _ Xd.out (by decide) (by decide) (by decide))
            have Z6:=Lib.hid (hK6.box _ _ _ Zd.out (by decide) (by decide) (by decide))
            have HK6:=Lib.hid (HKd.out.trans hK6)
            refine hK.out _ _ Pw.cell (fun hS'=>?_)
            clear hK K hS hE6 hK6 m5
            have hS:=hS'
            clear hS'
            try simp only [Act.put,zq0,zq1,zq2,zq3,zq4,zq5]
            refine wpAnyH_ready (rs:=[10]) (by kernel_rfl) (by simp) ?_
            refine AllReadyH.cons rfl (fun K hK=>?_) AllReadyH.nil
            rw [if_pos (by rfl)]
            have pw:=Pw.cell
            have pf:=Pw.free
            have hss:=two_same Pw
            go_simp
            try rw [hss]
            clear pw pf hss
            refine hK.out _ _ Pw.cell (fun hS'=>?_)
            clear hK K hS hS'
            try simp only [Act.put,zq0,zq1,zq2,zq3,zq4,zq5]
            refine wpAnyH_done (by kernel_rfl) ?_ _
            have P6:=Lib.hid Pw
            clear Pw Pd Xd Zd HC P5 X5 Z5 x4 HKd e6
            have HLT6 : Hid ((putS (ki.toNat : Int) n (blk (ki.toNat : Int) bs q) t).1.length = t.1.length ∧ (putS (ki.toNat : Int) n (blk (ki.toNat : Int) bs q) t).2.length = t.2.length):=putS_len _ _ _ _
            have HST6 : Hid (endS (ki.toNat : Int) bs a (q + 1) s1 = if 512 < ((putS (ki.toNat : Int) n (blk (ki.toNat : Int) bs q) t).1.getD n []).length then none else some (putS (ki.toNat : Int) n (blk (ki.toNat : Int) bs q) t,[])):=by
             rw [HQN.out]
             show (endS (ki.toNat : Int) bs a q s1).bind (stepS (ki.toNat : Int) bs a q) = _
             rw [HEN.out]
             show stepS (ki.toNat : Int) bs a q (t,[]) = _
             unfold stepS
             rw [if_pos HKW.out]
            generalize putS (ki.toNat : Int) n (blk (ki.toNat : Int) bs q) t = t6 at *
            have hb6 : n < t6.1.length:=by rw [HLT6.out.1];exact hb
            have hm6 : ∃ g o c,w6.cell? ⟨R,n,none⟩ = some (.slice (some ⟨g,o,none⟩) (t6.1.getD n []).length c):=by
             obtain ⟨By2,_,_,_,h4,_⟩:=HE6.out
             obtain ⟨g,o,c,h⟩:=h4.cell hb6
             rw [getD_lt hb6]
             exact ⟨g,o,c,h⟩
            obtain ⟨g6,o6,c6,m6⟩:=hm6
            generalize (t6.1.getD n []).length = L6 at *
            have p6:=P6.out.cell
            clear hb6
            rcases Bool.eq_false_or_eq_true (decide ((512 : Int) < (L6 : Int))) with e6 | e6
            · have HBIG : Hid (512 < L6):=by have:=of_decide_eq_true e6;show _ < _;omega
              have e6' : decide (512 < L6) = true:=decide_eq_true HBIG.out
              have z6:=Z6.out.cell
              have z6f:=Z6.out.free
              go_wp2
              refine bodyPost_ret (v:=.tuple #[.agg #[.slice (some ⟨R,0,none⟩) N cR,.slice B M d],.slice none 0 0,.bool false]) (Eq.trans (results_row3 (P:=Try.prog) (fn:=Try.f65) (p:=4) (u:=5) (z:=6) (ty:=28) rfl _ _ (w.heap.size + 1 + 1) 28 #[.slice (some ⟨R,0,none⟩) N cR,.slice B M d] (0,0) _ rfl (box_self2 Z6.out (.slice (some ⟨R,0,none⟩) N cR) (.slice B M d)) Try.underlying28 rfl (by kernel_rfl)) rfl) rfl ⟨.inl ⟨?_,rfl⟩,HK6.out.box2 HP2.out HLO.out _ _⟩
              rw [HS1.out]
              refine endS_none (i:=q + 1) ?_ y HQL.out
              rw [HST6.out,if_pos HBIG.out]
            · have HSML : Hid (¬ 512 < L6):=by have:=of_decide_eq_false e6;show ¬ _;omega
              have e6' : decide (512 < L6) = false:=decide_eq_false HSML.out
              have HEQ : Hid (endS (ki.toNat : Int) bs a (q + 1) s1 = some (t6,[])):=by
                    show _ = _
                    rw [HST6.out,if_neg HSML.out]
              have HNQ : Hid (n + 1 = a + (q + 1)):=by have:=HQN.out;show _ = _;omega
              have HLE:=Lib.hid hqy
              clear hqy
              go_wp2
              go_roundw
              case rel=>exact ⟨n + 1,q + 1,t6,HNQ.out,HQL.out,by first | exact round_same HWJ | go_num,rfl,HEQ,HE6.out,P6.out,X6.out,Z6.out,HK6.out⟩
              case measure=>first | exact round_less HWJ HLE.out | (have h:=HLE.out;simp [intOf];omega)
          · have e3 : ((ki.toNat : Int) == 3) = false:=by simpa using hk3
            have HE6 : Hid (ESt By lo R B d (putS (ki.toNat : Int) n (blk (ki.toNat : Int) bs q) t) w wc):=by
             refine HE5.out.cast ?_
             unfold putS
             rw [if_neg hk3]
            have HK3:=Lib.hid hk3
            have P6:=Lib.hid P5
            have X6:=Lib.hid X5
            have Z6:=Lib.hid Z5
            have HK6:=HK5
            clear hk3 hgp hbp hlp HE5 P5 X5 Z5 HK5
            obtain ⟨w6,hw6⟩ : ∃ z : World,z = wc:=⟨_,rfl⟩
            rw [← hw6] at HE6 x4 P6 X6 Z6 HK6 ⊢
            clear hw6
            have HLT6 : Hid ((putS (ki.toNat : Int) n (blk (ki.toNat : Int) bs q) t).1.length = t.1.length ∧ (putS (ki.toNat : Int) n (blk (ki.toNat : Int) bs q) t).2.length = t.2.length):=putS_len _ _ _ _
            have HST6 : Hid (endS (ki.toNat : Int) bs a (q + 1) s1 = if 512 < ((putS (ki.toNat : Int) n (blk (ki.toNat : Int) bs q) t).1.getD n []).length then none else some (putS (ki.toNat : Int) n (blk (ki.toNat : Int) bs q) t,[])):=by
             rw [HQN.out]
             show (endS (ki.toNat : Int) bs a q s1).bind (stepS (ki.toNat : Int) bs a q) = _
             rw [HEN.out]
             show stepS (ki.toNat : Int) bs a q (t,[]) = _
             unfold stepS
             rw [if_pos HKW.out]
            generalize putS (ki.toNat : Int) n (blk (ki.toNat : Int) bs q) t = t6 at *
            have hb6 : n < t6.1.length:=by rw [HLT6.out.1];exact hb
            have hm6 : ∃ g o c,w6.cell? ⟨R,n,none⟩ = some (.slice (some ⟨g,o,none⟩) (t6.1.getD n []).length c):=by
             obtain ⟨By2,_,_,_,h4,_⟩:=HE6.out
             obtain ⟨g,o,c,h⟩:=h4.cell hb6
             rw [getD_lt hb6]
             exact ⟨g,o,c,h⟩
            obtain ⟨g6,o6,c6,m6⟩:=hm6
            generalize (t6.1.getD n []).length = L6 at *
            have p6:=P6.out.cell
            clear hb6
            rcases Bool.eq_false_or_eq_true (decide ((512 : Int) < (L6 : Int))) with e6 | e6
            · have HBIG : Hid (512 < L6):=by have:=of_decide_eq_true e6;show _ < _;omega
              have e6' : decide (512 < L6) = true:=decide_eq_true HBIG.out
              have z6:=Z6.out.cell
              have z6f:=Z6.out.free
              go_wp2
              refine bodyPost_ret (v:=.tuple #[.agg #[.slice (some ⟨R,0,none⟩) N cR,.slice B M d],.slice none 0 0,.bool false]) (Eq.trans (results_row3 (P:=Try.prog) (fn:=Try.f65) (p:=4) (u:=5) (z:=6) (ty:=28) rfl _ _ (w.heap.size + 1 + 1) 28 #[.slice (some ⟨R,0,none⟩) N cR,.slice B M d] (0,0) _ rfl (box_self2 Z6.out (.slice (some ⟨R,0,none⟩) N cR) (.slice B M d)) Try.underlying28 rfl (by kernel_rfl)) rfl) rfl ⟨.inl ⟨?_,rfl⟩,HK6.out.box2 HP2.out HLO.out _ _⟩
              rw [HS1.out]
              refine endS_none (i:=q + 1) ?_ y HQL.out
              rw [HST6.out,if_pos HBIG.out]
            · have HSML : Hid (¬ 512 < L6):=by have:=of_decide_eq_false e6;show ¬ _;omega
              have e6' : decide (512 < L6) = false:=decide_eq_false HSML.out
              have HEQ : Hid (endS (ki.toNat : Int) bs a (q + 1) s1 = some (t6,[])):=by
                    show _ = _
                    rw [HST6.out,if_neg HSML.out]
              have HNQ : Hid (n + 1 = a + (q + 1)):=by have:=HQN.out;show _ = _;omega
              have HLE:=Lib.hid hqy
              clear hqy
              go_wp2
              go_roundw
              case rel=>exact ⟨n + 1,q + 1,t6,HNQ.out,HQL.out,by first | exact round_same HWJ | go_num,rfl,HEQ,HE6.out,P6.out,X6.out,Z6.out,HK6.out⟩
              case measure=>first | exact round_less HWJ HLE.out | (have h:=HLE.out;simp [intOf];omega)
       · have hqe : q = y:=by have:=HEE.out;omega
         have HENY : Hid (endS (ki.toNat : Int) bs a y s1 = some (t,[])):=by rw [← hqe];exact hen.out
         have HEY:=Lib.hid hEt
         have HKY:=Lib.hid hKt
         have HZY:=Lib.hid hZt
         have p6:=hPt.cell
         have z6:=hZt.cell
         have z6f:=hZt.free
         clear hen hEt hXt hPt hKt hqe hn hZt
         go_wp2
         refine bodyPost_ret (v:=.tuple #[.agg #[.slice (some ⟨R,0,none⟩) N cR,.slice B M d],.slice none 0 0,.bool true]) (Eq.trans (results_row3 (P:=Try.prog) (fn:=Try.f65) (p:=4) (u:=5) (z:=6) (ty:=28) rfl _ _ (w.heap.size + 1 + 1) 28 #[.slice (some ⟨R,0,none⟩) N cR,.slice B M d] (0,0) _ rfl (box_self2 HZY.out (.slice (some ⟨R,0,none⟩) N cR) (.slice B M d)) Try.underlying28 rfl (by kernel_rfl)) rfl) rfl ⟨.inr ⟨t,[],none,0,by rw [HS1.out];exact HENY.out,rfl,rdin_nilb (by unfold maxLen;omega) _,HEY.out.box2 HB0.out HZY.out HP2.out HLO.out _ _⟩,HKY.out.box2 HP2.out HLO.out _ _⟩
    · have HKW:=Lib.hid hkw
      clear hkw
      have HRD : Hid (∀ i,endS (ki.toNat : Int) bs a i s1 = some (s1,readS s1 a i)):=fun i=>endS_read HKW.out bs a s1 i
      obtain ⟨iu,hu,hu0,hu1,hu2⟩:=minfo_u8
      obtain ⟨wo,rfl⟩ : ∃ z : World,z = wr:=⟨_,rfl⟩
      go_wp2
      clear hlt hj x1
      go_loopw [7,9] (fun dv i w2=>∃ (n q : Nat),n = a + q ∧ q ≤ y ∧ i = .int .i64 n ∧ Below wo.heap.size wo w2 ∧ w2.ownsRow wo.heap.size 5 1 dv (readS s1 a q).length ((readS s1 a q).map byteV) ∧ Hid ((readS s1 a q).length = 128 * q)) (fun _ i _=>E1 - (intOf i).toNat)
      case atStart=>exact ⟨a,0,rfl,by omega,rfl,Below.refl _ _,⟨rfl,.inl ⟨rfl,rfl⟩⟩,rfl⟩
      case round=>
       obtain ⟨n,q,hn,hq,rfl,b2,own2,hrl⟩:=hrel
       have HQN:=Lib.hid hn
       have xt:=(hX1.next b2).cell
       have pt:=(hP1.next b2).cell
       by_cases hqy : n < E1
       · have HQL : Hid (q < y):=by have:=HEE.out;show _ < _;omega
         have hnN : n < N:=by have:=HA1.out;have:=HQL.out;omega
         have hb : n < s1.1.length:=by rw [HN1.out.1];exact hnN
         obtain ⟨r1,r2,r3⟩:=HOK1.out.row hb
         obtain ⟨By2,z1,z2,z3,z4,z5,z6⟩:=HE1.out
         obtain ⟨g,o,c,A',c',m1,m2,m3⟩:=z4.last hb (by omega)
         have m4 : wr.cell? ⟨R,n,none⟩ = some (.slice (some ⟨g,o,none⟩) (s1.1[n]'hb).length c):=(b2.cell (p:=⟨R,n,none⟩) z4.lt).trans m1
         have m5 : wr.cell? ⟨g,o + ((s1.1[n]'hb).length - 1),none⟩ = some (.slice A' ((s1.1.getD n []).getLastD []).length c'):=(b2.cell (p:=⟨g,o + ((s1.1[n]'hb).length - 1),none⟩) (block_lt_of_cell m2)).trans m2
         have HLA:=Lib.hid (m3.below b2)
         have HST : Hid (readS s1 a (q + 1) = readS s1 a q ++ (s1.1.getD n []).getLastD []):=by rw [hn];rfl
         have HL8 : Hid (((s1.1.getD n []).getLastD []).length = 128):=by
          show _ = _
          rw [getD_lt hb,List.getLastD_eq_getLast?,List.getLast?_eq_getElem?,List.getElem?_eq_getElem (by omega)]
          exact r3 _ _
         obtain ⟨L0,hL0⟩ : ∃ L0,(s1.1[n]'hb).length = L0 + 1:=⟨(s1.1[n]'hb).length - 1,by omega⟩
         rw [hL0] at m4 m5
         have HVA:=Lib.hid (rvalue_any R cR N M d n g o L0 c ((s1.1.getD n []).getLastD []).length c' B A' wr hnN m4 (by have e : L0 + 1 - 1 = L0:=rfl;rw [e] at m5;exact m5) (by omega))
         generalize (s1.1.getD n []).getLastD [] = lv at *
         have HWJ:=next_wrap (show E1 ≤ maxLen by have:=HEE.out;have:=HA1.out;have:=HNS.out;unfold maxLen;omega) hqy
         have HB2:=Lib.hid b2
         have HOW:=Lib.hid own2
         have HLE:=Lib.hid hqy
         clear r1 r2 r3 m1 m2 m3 m4 m5 z1 z2 z3 z4 z5 z6 hL0 b2 own2 hn hq
         go_wp2_with fail
         refine (rwrites_any (ki.toNat : Int) _).mono ?_
         rintro e w2 ⟨rfl,rfl⟩
         rw [HKW.out]
         go_wp2_with fail
         refine HVA.out.mono ?_
         rintro e w3 ⟨rfl,b3⟩
         have HB3:=Lib.hid (Ext.trans HB2.out b3)
         have HOW3:=Lib.hid (own_next HOW.out b3)
         have HLA3:=Lib.hid (HLA.out.below b3)
         have HLL : Hid ((readS s1 a q).length + lv.length ≤ 100000):=by have:=HAY.out.1;have:=HQL.out;have:=hrl.out;have:=HL8.out;show _ ≤ _;omega
         clear HVA b3 xt pt hqy hnN hb
         go_wp2_with (at_builtin;refine wpList_append_rd _ rfl (.tmp 44) (.tmp 47) 29 rfl wo.heap.size 5 iu _ 1 1 Try.underlying29 hu hu0 hu1 hu2 rfl (by decide) _ (readS s1 a q).length ((readS s1 a q).map byteV) rfl HOW3.out A' lv.length c' (lv.map byteV) rfl (by simp) HLA3.out.bytes_bs.2 (byteV_one _) (by have:=HLL.out;unfold maxLen;omega) (by have:=HLL.out;omega) HB3.out.size ?_;intro dv' w4 hown4 hgr4 hat4;have HO4:=Lib.hid hown4;have HB4:=Lib.hid (Below.grown HB3.out hgr4 HB3.out.size (fun k e=>own_block HOW3.out e));clear hown4 hgr4 hat4)
         have HOWN : Hid (w4.ownsRow wo.heap.size 5 1 dv' (readS s1 a (q + 1)).length ((readS s1 a (q + 1)).map byteV)):=by
          show World.ownsRow _ _ _ _ _ _ _
          rw [HST.out,List.length_append,List.map_append]
          exact HO4.out
         have HRL : Hid ((readS s1 a (q + 1)).length = 128 * (q + 1)):=by
          show _ = _
          rw [HST.out,List.length_append,hrl.out,HL8.out]
          omega
         have HNQ : Hid (n + 1 = a + (q + 1)):=by have:=HQN.out;show _ = _;omega
         go_roundw
         case rel=>exact ⟨n + 1,q + 1,HNQ.out,HQL.out,by first | exact round_same HWJ | go_num,HB4.out,HOWN.out,HRL⟩
         case measure=>first | exact round_less HWJ HLE.out | (have h:=HLE.out;simp [intOf];omega)
       · have hqe : q = y:=by have:=HEE.out;omega
         obtain ⟨DD,dq,hdv⟩:=own_form own2
         subst hdv
         have HRN : Hid (RdIn wr (NewB wo.heap.size wr) (.sl .byte) (readS s1 a y) [.slice DD (readS s1 a y).length dq]):=by
          have h1:=OwnL.bytes_rdin (OwnL.of_bytes own2) (by have:=hrl.out;have:=HAY.out.1;omega)
          rw [hqe] at h1
          exact h1
         rw [hqe]
         have HB4:=Lib.hid b2
         have HZY:=Lib.hid (hZ1.next b2)
         have z6:=HZY.out.cell
         have z6f:=HZY.out.free
         have hzo : w.heap.size + 1 + 1 < wo.heap.size:=hZ1.lt
         have HZO:=Lib.hid hzo
         have HRF:=Lib.hid (rdin_two' HRN.out (k:=w.heap.size + 1 + 1) (fun b hb e=>by have:=hb.1;have:=HZO.out;omega) (.slice (some ⟨R,0,none⟩) N cR) (.slice B M d))
         have HRG:=Lib.hid (HRF.out.mono (S':=NewB lo ((wr.setCell ⟨w.heap.size + 1 + 1,0,none⟩ (.slice (some ⟨R,0,none⟩) N cR)).setCell ⟨w.heap.size + 1 + 1,1,none⟩ (.slice B M d))) (fun b hb=>⟨by have:=hb.1;have:=HLR.out;omega,by rw [msize,msize];exact hb.2.1,(hb.2.2.set _ _).set _ _⟩))
         clear own2 b2 hrl hn hqe hzo
         go_wp2
         refine bodyPost_ret (v:=.tuple #[.agg #[.slice (some ⟨R,0,none⟩) N cR,.slice B M d],.slice DD (readS s1 a y).length dq,.bool true]) (Eq.trans (results_row3 (P:=Try.prog) (fn:=Try.f65) (p:=4) (u:=5) (z:=6) (ty:=28) rfl _ _ (w.heap.size + 1 + 1) 28 #[.slice (some ⟨R,0,none⟩) N cR,.slice B M d] (0,0) _ rfl (box_self2 HZY.out (.slice (some ⟨R,0,none⟩) N cR) (.slice B M d)) Try.underlying28 rfl (by kernel_rfl)) rfl) rfl ⟨.inr ⟨s1,readS s1 a y,DD,dq,by rw [HS1.out];exact HRD.out y,rfl,HRG.out,(HE1.out.next HB4.out HLR.out).box2 HB0.out HZY.out HP2.out HLO.out _ _⟩,(HK1.out.trans (Kp.of_below HB4.out HLR.out)).box2 HP2.out HLO.out _ _⟩
end Go.Proofs.Ytclbihcggjjgaaa
namespace Go.Proofs.Ytclbihcggjjgaaa
open Go Go.RowKit
set_option linter.unusedSimpArgs false
set_option linter.unusedVariables false
def FoundIs (p : GoTy.T → Bool) (gs : List GoTy.T) (e : Ending) : Prop:=(∃ j,∃ h : j < gs.length,e = .returned (.int .i64 (j : Int)) ∧ p gs[j] = true) ∨ (e = .returned (.int .i64 (-1)) ∧ ∀ j (h : j < gs.length),p gs[j] = false)
def numE (n : Int) (g : GoTy.T) : Bool:=nuOf g == n
theorem end1_any (g : GoTy.T) (Ab : Option Addr) (cg : Nat) (Am : Option Addr) (lm cm : Nat) (number : Int) (gn : Nat) (w : World) (B1 : BoxOf w gn #[.int .i64 number] 3) :
 Calls Try.prog 57 #[.agg #[.int .i64 (nuOf g),.int .u8 ((kiOf g).toNat : Int),.int .i64 (atOf g),.int .i64 (manyOf g),.slice Ab (datOf g).length cg,.slice Am lm cm],.pointer (some ⟨gn,0,none⟩)] w fun e w'=>e = .returned (.bool (numE number g)) ∧ Below w.heap.size w w':=by
 have P0:=BoxOf.new w #[.int .i64 (nuOf g),.int .u8 ((kiOf g).toNat : Int),.int .i64 (atOf g),.int .i64 (manyOf g),.slice Ab (datOf g).length cg,.slice Am lm cm] 64
 have t0:=Ext.alloc (Below.refl w.heap.size w) (.cells #[.int .i64 (nuOf g),.int .u8 ((kiOf g).toNat : Int),.int .i64 (atOf g),.int .i64 (manyOf g),.slice Ab (datOf g).length cg,.slice Am lm cm] 64)
 have C1:=B1.alloc (.cells #[.int .i64 (nuOf g),.int .u8 ((kiOf g).toNat : Int),.int .i64 (atOf g),.int .i64 (manyOf g),.slice Ab (datOf g).length cg,.slice Am lm cm] 64)
 unfold numE
 clear B1
 go_enter Try.func57,Try.ntmps57
 go_upto_region 1 with fail
 generalize w.alloc (.cells #[.int .i64 (nuOf g),.int .u8 ((kiOf g).toNat : Int),.int .i64 (atOf g),.int .i64 (manyOf g),.slice Ab (datOf g).length cg,.slice Am lm cm] 64) = W at *
 have x0:=P0.cell
 have y1:=C1.cell
 go_wp2
 go_ret
 exact ⟨rfl,t0⟩
set_option maxRecDepth 100000 in
set_option maxHeartbeats 2000000 in
theorem idxf_end (S : Nat → Prop) (gs : List GoTy.T) (B : Option Addr) (d : Nat) (number : Int) (gn : Nat) (w : World) (hg : RdIn w S (.sl GoTy) gs [.slice B gs.length d]) (B1 : BoxOf w gn #[.int .i64 number] 3) :
 Calls Try.prog 56 #[.slice B gs.length d,.func (.func 57) #[] #[.pointer (some ⟨gn,0,none⟩)]] w fun e w'=>FoundIs (numE number) gs e ∧ Below w.heap.size w w':=by
 have HG:=Lib.hid hg
 have HGM:=Lib.hid (go_max hg)
 have HLE : Hid (∀ w',Below w.heap.size w w' → ∀ (g : GoTy.T) (Ab : Option Addr) (cg : Nat) (Am : Option Addr) (lm cm : Nat),Calls Try.prog 57 #[.agg #[.int .i64 (nuOf g),.int .u8 ((kiOf g).toNat : Int),.int .i64 (atOf g),.int .i64 (manyOf g),.slice Ab (datOf g).length cg,.slice Am lm cm],.pointer (some ⟨gn,0,none⟩)] w' fun e w''=>e = .returned (.bool (numE number g)) ∧ Below w'.heap.size w' w''):=fun w' bb g Ab cg Am lm cm=>end1_any g Ab cg Am lm cm number gn w' (B1.next bb)
 clear hg
 go_enter Try.func56,Try.ntmps56
 go_upto_region 1 with fail
 obtain ⟨W,hW⟩ : ∃ z : World,z = w:=⟨_,rfl⟩
 have b0 : Below W.heap.size W w:=by rw [hW];exact Below.refl _ _
 have HWW:=Lib.hid hW
 rw [← hW] at HG
 clear hW
 go_wp2
 go_loopw [5,8] (fun v i wr=>∃ (j : Nat),j ≤ gs.length ∧ i = .int .i64 j ∧ Below W.heap.size W wr ∧ Hid (∀ i,i < j → NotAt (numE number) gs i)) (fun _ i _=>gs.length - (intOf i).toNat)
 case atStart=>exact ⟨0,by omega,rfl,b0,fun i h=>absurd h (Nat.not_lt_zero _)⟩
 case round=>
  obtain ⟨j,hj,rfl,b1,HA⟩:=hrel
  clear b0
  have bw : Below w.heap.size w wr:=by have:=HWW.out;subst this;exact b1
  by_cases hlt : j < gs.length
  · obtain ⟨b,off,Ab,cg,Am,cm,rfl,q0,q1,q2,q3,q4,q5,i0,i1,i2,rb,rm⟩:=go_at (HG.out.below b1) hlt
    have HSK : Hid (NotAt (numE number) gs j ↔ (numE number) gs[j] = false):=⟨fun h=>h hlt,fun h _=>h⟩
    have HSY : Hid ((numE number) gs[j] = true → FoundIs (numE number) gs (.returned (.int .i64 (j : Int)))):=fun h=>.inl ⟨j,hlt,rfl,h⟩
    generalize gs[j] = g at *
    have HWJ:=next_wrap HGM.out hlt
    have HLJ:=Lib.hid hlt
    have HRB:=Lib.hid rb
    clear rb rm i0 i1 i2
    rcases Bool.eq_false_or_eq_true ((numE number) g) with e1 | e1
    · have HF:=Lib.hid (HSY.out e1)
      go_wp2_with (go_at_call 57;refine (HLE.out _ bw _ _ _ _ _ _).mono ?_;rintro e w3 ⟨rfl,b3⟩)
      go_ret
      exact ⟨HF.out,Ext.trans bw b3⟩
    · have HA' : Hid (∀ i,i < j + 1 → NotAt (numE number) gs i):=by
       intro i hi
       by_cases h : i = j
       · subst h
         exact HSK.out.2 e1
       · exact HA.out i (by omega)
      go_wp2_with (go_at_call 57;refine (HLE.out _ bw _ _ _ _ _ _).mono ?_;rintro e w3 ⟨rfl,b3⟩)
      have b5:=Ext.trans b1 b3
      go_roundw
      case rel=>exact ⟨j + 1,HLJ.out,by first | exact round_same HWJ | go_num,b5,HA'⟩
      case measure=>first | exact round_less HWJ HLJ.out | (have h:=HLJ.out;simp [intOf];omega)
  · have HN : Hid (∀ i (h : i < gs.length),(numE number) gs[i] = false):=fun i hi=>HA.out i (by omega) hi
    go_wp2
    go_ret
    exact ⟨.inr ⟨rfl,HN.out⟩,bw⟩
theorem MayS.more {w : World} {By By' : Nat → Prop} {lo R : Nat} {ys : Ys} (h : MayS w By lo R ys) (hB : ∀ b,By b → By' b) (hn : ∀ b cs,BoxOf w b cs 30 ∨ BoxOf w b cs 29 → By' b → By b) : MayS w By' lo R ys:=by
 obtain ⟨cells,gf,of,cf,h1,h2,h3,h4⟩:=h
 refine ⟨cells,gf,of,cf,h1,⟨h2.1,fun h=>h2.2 (hn R _ (.inl h1) h)⟩,fun i hi=>⟨(h3 i hi).1,?_⟩,h4⟩
 obtain ⟨cur,k1,k2,k3,k4,k5,k6⟩:=(h3 i hi).2
 exact ⟨cur,k1,k2,k3,k4,⟨k5.1,fun h=>k5.2 (hn _ _ (.inr k1) h)⟩,fun k hk=>by
  obtain ⟨u,e1,e2⟩:=k6 k hk
  exact ⟨u,e1,e2.mono hB⟩⟩
theorem GoE.frame2 {w w' : World} {By By' : Nat → Prop} {lo : Nat} {at' at2 : Nat → Option Value} {b : Nat} {g : GoTy.T} (h : GoE w By lo at' b g) (ha : ∀ q,q < 6 → at2 q = at' q) (hf : mksOf g ≠ [] → w'.heap[b]? = w.heap[b]?) (hb : ∀ b,By b → w'.heap[b]? = w.heap[b]?) (hB : ∀ b,By b → By' b) (hB' : mksOf g ≠ [] → By' b → By b) : GoE w' By' lo at2 b g:=by
 obtain ⟨vd,vm,⟨h0,h1,h2,h3,h4,h5⟩,h6,h7,m0,A,c,m1,m2,m3,m4,m5⟩:=h
 refine ⟨vd,vm,⟨by rw [ha 0 (by decide)];exact h0,by rw [ha 1 (by decide)];exact h1,by rw [ha 2 (by decide)];exact h2,by rw [ha 3 (by decide)];exact h3,by rw [ha 4 (by decide)];exact h4,by rw [ha 5 (by decide)];exact h5⟩,h6,(h7.frame hb).mono hB,m0,A,c,m1,m2,m3,m4,?_⟩
 by_cases he : mksOf g = []
 · exact .inl he
 · rcases m5 with m5 | ⟨o,cur,m6,m7,m8,m9⟩
   · exact .inl m5
   · exact .inr ⟨o,cur,m6,by have:=hf he;unfold BoxOf at *;rw [this];exact m7,⟨m8.1,fun h=>m8.2 (hB' he h)⟩,m9⟩
theorem eraseIdx_at {gs : List GoTy.T} {j : Nat} (hj : j < gs.length) {i : Nat} (hi : i < (gs.eraseIdx j).length) : ∃ h : (if i < j then i else i + 1) < gs.length,(gs.eraseIdx j)[i] = gs[if i < j then i else i + 1]:=by
 have h1 : (if i < j then i else i + 1) < gs.length:=by rw [List.length_eraseIdx_of_lt hj] at hi;split <;> omega
 refine ⟨h1,?_⟩
 rw [List.getElem_eraseIdx]
 split <;> simp [*]
theorem GoS.del {w : World} {By : Nat → Prop} {lo : Nat} {B : Option Addr} {d : Nat} {gs : List GoTy.T} (h : GoS w By lo B d gs) (hBy : ∀ b,By b → b < w.heap.size) (hd : gs.length ≤ d) {j : Nat} (hj : j < gs.length) :
 ∃ (G o : Nat) (cells : Array Value) (Ab : Option Addr) (cb : Nat) (Am : Option Addr) (cm : Nat) (By' : Nat → Prop),B = some ⟨G,o,none⟩ ∧ BoxOf w G cells 64 ∧ o + d * 6 ≤ cells.size ∧
  (w.cell? ⟨G,o + j * 6,none⟩ = some (.int .i64 (nuOf gs[j])) ∧ w.cell? ⟨G,o + j * 6 + 1,none⟩ = some (.int .u8 ((kiOf gs[j]).toNat : Int)) ∧ w.cell? ⟨G,o + j * 6 + 2,none⟩ = some (.int .i64 (atOf gs[j])) ∧ w.cell? ⟨G,o + j * 6 + 3,none⟩ = some (.int .i64 (manyOf gs[j])) ∧ w.cell? ⟨G,o + j * 6 + 4,none⟩ = some (.slice Ab (datOf gs[j]).length cb) ∧ w.cell? ⟨G,o + j * 6 + 5,none⟩ = some (.slice Am (mksOf gs[j]).length cm)) ∧
  (∀ q,q < gs.length * 6 → ∃ u,cells.toList[o + q]? = some u ∧ u.oneCell' = true) ∧ (∀ b,By b → By' b) ∧ (∀ b,By' b → By b ∨ ∃ cs,lo ≤ b ∧ BoxOf w b cs 3) ∧ RdIn w By' (.sl .byte) (datOf gs[j]) [.slice Ab (datOf gs[j]).length cb] ∧ RdIn w By' (.sl .int) (mksOf gs[j]) [.slice Am (mksOf gs[j]).length cm] ∧
  ∀ wa w',Below w.heap.size w wa → DelIs G o 6 gs.length j (j + 1) cells 64 wa w' → GoS w' By' lo (some ⟨G,o,none⟩) d (gs.eraseIdx j) ∧ ∀ b,By' b → w'.heap[b]? = w.heap[b]?:=by
 rcases h with h | ⟨G,o,cells,bf,h1,h2,h3,h4,h5⟩
 · rw [h] at hj;simp at hj
 · have hcell : ∀ q,q < gs.length * 6 → ∃ u,cells.toList[o + q]? = some u ∧ u.oneCell' = true:=by
    intro q hq
    have hq1 : q / 6 < gs.length:=by omega
    obtain ⟨vd,vm,⟨k0,k1,k2,k3,k4,k5⟩,k6,k7,m0,Am,cm,m1,_⟩:=h4 (q / 6) hq1
    have e6 : q = q / 6 * 6 + q % 6:=by omega
    have hm : q % 6 = 0 ∨ q % 6 = 1 ∨ q % 6 = 2 ∨ q % 6 = 3 ∨ q % 6 = 4 ∨ q % 6 = 5:=by omega
    rw [e6,← Nat.add_assoc]
    obtain ⟨Ad,cd,ed,_⟩:=k7.bytes
    rcases hm with hm | hm | hm | hm | hm | hm <;> rw [hm]
    · exact ⟨_,k0,rfl⟩
    · exact ⟨_,k1,rfl⟩
    · exact ⟨_,k2,rfl⟩
    · exact ⟨_,k3,rfl⟩
    · exact ⟨_,k4,by rw [ed];rfl⟩
    · exact ⟨_,k5,by rw [m1];rfl⟩
   have h4j:=h4 j hj
   obtain ⟨vd,vm,⟨k0,k1,k2,k3,k4,k5⟩,k6,k7,m0,Am,cm,rfl,m2,m3,m4,m5⟩:=h4j
   obtain ⟨Ab,cb,rfl,_⟩:=k7.bytes
   have hmk : ∀ i (hi : i < gs.length),mksOf gs[i] ≠ [] → ∃ cur,BoxOf w (bf i) cur 3 ∧ lo ≤ bf i ∧ ¬ By (bf i):=by
    intro i hi hne
    obtain ⟨_,_,_,_,_,_,_,_,_,_,_,_,hh⟩:=h4 i hi
    rcases hh with hh | ⟨_,cur,_,hh,hh2,_⟩
    · exact absurd hh hne
    · exact ⟨cur,hh,hh2.1,hh2.2⟩
   refine ⟨G,o,cells,Ab,cb,Am,cm,fun b=>By b ∨ (mksOf gs[j] ≠ [] ∧ b = bf j),h1,h2,h3.2.2,⟨by rw [h2.cell];exact k0,by rw [h2.cell];exact k1,by rw [h2.cell];exact k2,by rw [h2.cell];exact k3,by rw [h2.cell];exact k4,by rw [h2.cell];exact k5⟩,hcell,fun b hb=>.inl hb,fun b hb=>?_,k7.mono fun b hb=>.inl hb,?_,fun wa w' hwa hD=>?_⟩
   · rcases hb with hb | ⟨hne,rfl⟩
     · exact .inl hb
     · obtain ⟨cur,e1,e2,_⟩:=hmk j hj hne
       exact .inr ⟨cur,e2,e1⟩
   · refine rdin_sl.2 ⟨_,_,rfl,m2,m3,m4,?_⟩
     rcases m5 with m5 | ⟨o',cur,m6,m7,m8,m9⟩
     · exact .inl m5
     · by_cases hne : mksOf gs[j] = []
       · exact .inl hne
       · refine .inr ⟨bf j,o',m6,.inr ⟨hne,rfl⟩,fun i hi=>⟨[.int .i64 ((mksOf gs[j])[i]'hi)],fun q hq=>?_,rdin_int.2 ⟨rfl,m0 _ (List.getElem_mem hi)⟩⟩⟩
         have hq0 : q = 0:=by have : q < 1:=hq;omega
         subst hq0
         show w.cell? ⟨bf j,o' + i * 1 + 0,none⟩ = _
         rw [Nat.mul_one,Nat.add_zero,m7.cell]
         exact m9 i hi
   · obtain ⟨hg,cells',d1,d2,d3⟩:=hD
     have hB2 : ∀ b,(By b ∨ (mksOf gs[j] ≠ [] ∧ b = bf j)) → b < w.heap.size ∧ b ≠ G:=by
      intro b hb
      rcases hb with hb | ⟨hne,rfl⟩
      · exact ⟨hBy b hb,fun e=>h3.2.1 (e ▸ hb)⟩
      · obtain ⟨cur,e1,_,_⟩:=hmk j hj hne
        exact ⟨e1.lt,box_diff e1 h2 (by decide)⟩
     have hfr : ∀ b,b < w.heap.size → b ≠ G → w'.heap[b]? = w.heap[b]?:=fun b h1 h2=>(hg.block b (Nat.lt_of_lt_of_le h1 hwa.size) (fun e=>h2 (Option.some.inj e))).trans (hwa.block b h1)
     refine ⟨.inr ⟨G,o,cells',fun i=>bf (if i < j then i else i + 1),rfl,d1,⟨h3.1,fun h=>(hB2 G h).2 rfl,by rw [d2];exact h3.2.2⟩,fun i hi=>?_,fun i i' hi hi' e1 e2 e=>?_⟩,fun b hb=>hfr b (hB2 b hb).1 (hB2 b hb).2⟩
     · obtain ⟨hlt,he⟩:=eraseIdx_at hj hi
       rw [he]
       have hil : i < gs.length - 1:=by rw [List.length_eraseIdx_of_lt hj] at hi;exact hi
       refine (h4 _ hlt).frame2 (fun q hq=>?_) (fun hne=>?_) (fun b hb=>?_) (fun b hb=>.inl hb) (fun hne hb=>?_)
       · show cells'.toList[o + i * 6 + q]? = cells.toList[o + (if i < j then i else i + 1) * 6 + q]?
         rw [Nat.add_assoc,d3 (i * 6 + q) (by omega)]
         congr 1
         by_cases h : i < j
         · rw [if_pos h,if_pos (by omega)];omega
         · rw [if_neg h,if_neg (by omega)];omega
       · obtain ⟨cur,e1,_,_⟩:=hmk _ hlt hne
         exact hfr _ e1.lt (box_diff e1 h2 (by decide))
       · exact hfr _ (hB2 b (.inl hb)).1 (hB2 b (.inl hb)).2
       · rcases hb with hb | ⟨hne2,e⟩
         · exact hb
         · have:=h5 _ _ hlt hj hne hne2 e
           split at this <;> omega
     · obtain ⟨hlt,he⟩:=eraseIdx_at hj hi
       obtain ⟨hlt',he'⟩:=eraseIdx_at hj hi'
       rw [he] at e1
       rw [he'] at e2
       have:=h5 _ _ hlt hlt' e1 e2 e
       split at this <;> split at this <;> omega
end Go.Proofs.Ytclbihcggjjgaaa
namespace Go.Proofs.Ytclbihcggjjgaaa
open Go Go.RowKit
set_option linter.unusedSimpArgs false
set_option linter.unusedVariables false
theorem results_rows3 {P : Program} {fn : Func} {p q u : Tmp} {ty ty2 : TypeId} (h : fn.results = #[.cell p ty,.cell q ty2,.tmp u]) (tmps : Array Value) (w : World) (g : Nat) (t : TypeId) (cs : Array Value) (g2 : Nat) (t2 : TypeId) (cs2 : Array Value)
 (hp : tmps.getD p undef = .pointer (some ⟨g,0,none⟩)) (hq : tmps.getD q undef = .pointer (some ⟨g2,0,none⟩)) (hg : BoxOf w g cs t) (hg2 : BoxOf w g2 cs2 t2) (d d2 : TypeDesc)
 (hu : P.underlying ty = some d) (hu2 : P.underlying ty2 = some d2) (hd : (match d with | .struct _ | .array _ _=>true | _=>false) = true) (hd2 : (match d2 with | .struct _ | .array _ _=>true | _=>false) = true) (hi : (P.info? ty).map (·.size) = some cs.size) (hi2 : (P.info? ty2).map (·.size) = some cs2.size) :
 (results fn tmps).run P w = .ok (.tuple #[.agg cs,.agg cs2,tmps.getD u undef]) w:=by
 have l1:=run_loadVar_row (P:=P) w g t ty cs (0,0) d hg hu hd hi
 have l2:=run_loadVar_row (P:=P) w g2 t2 ty2 cs2 (0,0) d2 hg2 hu2 hd2 hi2
 rw [Array.getD_eq_getD_getElem?] at hp hq
 simp only [results,h]
 simp [Sem.run_bind,Result.andThen,hp,hq,asAddr,l1,l2]
def EndIs (base : Nat) (x : Cfg) (ys : Ys) (gs : List GoTy.T) (number : Int) (e : Ending) (w : World) : Prop:=
 ∃ (v : Int) (zs : Ys) (hs : List GoTy.T) (rn : Int) (dat : List UInt8) (many : Int) (A' : Option Addr) (c' : Nat) (B' : Option Addr) (d' : Nat) (D : Option Addr) (q : Nat),e = .returned (.tuple #[.agg #[.slice A' zs.length c',.slice B' hs.length d'],.agg #[.int .i64 rn,.int .i64 0,.slice D dat.length q,.int .i64 many],.int .i64 v]) ∧
  EndRel x ys gs number v zs hs rn dat many ∧ RdIn w (NewB base w) (.sl (.sl (.sl .byte))) zs [.slice A' zs.length c'] ∧ RdIn w (NewB base w) (.sl GoTy) hs [.slice B' hs.length d'] ∧ RdIn w (NewB base w) (.sl .byte) dat [.slice D dat.length q]
theorem EndIs.err {base : Nat} {x : Cfg} {ys : Ys} {gs : List GoTy.T} {number v : Int} {w : World} (h : EndRel x ys gs number v [] [] 0 [] 0) : EndIs base x ys gs number (.returned (.tuple #[.agg #[.slice none 0 0,.slice none 0 0],.agg #[.int .i64 0,.int .i64 0,.slice none 0 0,.int .i64 0],.int .i64 v])) w:=
 ⟨v,[],[],0,[],0,none,0,none,0,none,0,rfl,h,rdin_nil3 _ _,rdin_nilg _ _,rdin_nilb (by unfold maxLen;omega) _⟩
theorem numE_eq {n : Int} {g : GoTy.T} : numE n g = true ↔ nuOf g = n:=by unfold numE;exact beq_iff_eq
theorem numE_ne {n : Int} {g : GoTy.T} : numE n g = false ↔ ¬ nuOf g = n:=by unfold numE;exact beq_eq_false_iff_ne
theorem RdIn.rest {w w' : World} {lo base : Nat} {t : Ty} {x : t.T} {cs : List Value} (h : RdIn w (NewB lo w) t x cs) (hs : w'.heap.size = w.heap.size) (hf : ∀ b,lo ≤ b → w'.heap[b]? = w.heap[b]?) (hb : base ≤ lo) : RdIn w' (NewB base w') t x cs:=
 (h.frame fun b hB=>hf b hB.1).mono fun b hB=>by
   obtain ⟨h1,h2,cs,t,h3⟩:=hB
   exact ⟨Nat.le_trans hb h1,by rw [hs];exact h2,cs,t,by rw [hf b h1];exact h3⟩
theorem endAll_ok {x : Cfg} {ys : Ys} {gs : List GoTy.T} (h : PlainOk x ys gs) {j : Nat} (hj : j < gs.length) {t : (Ys × List GoTy.T) × List UInt8} (he : endAll ys gs j = some t) : PlainOk x t.1.1 t.1.2 ∧ t.1.1.length = ys.length ∧ t.1.2.length = (gs.eraseIdx j).length:=by
 unfold endAll at he
 rw [List.getElem?_eq_getElem hj] at he
 obtain ⟨aok1,aok2,aok3,aok4,aok5,_⟩:=askCode_0 (h.goes j hj).1.2.1
 have hm:=h.marks hj
 have hml : (mksOf gs[j]).length ≤ ys.length:=by
  rcases hm.1 with e | e
  · rw [e];exact Nat.zero_le _
  · exact Nat.le_of_eq e
 have h1:=marksS_ok (s:=(ys,gs.eraseIdx j)) (h.erase hj) hml hm.2 _ (Nat.le_refl _)
 have hl:=h.len
 have h2:=endS_ok h1.1 (k:=((kiOf gs[j]).toNat : Int)) (bs:=datOf gs[j]) (a:=(atOf gs[j]).toNat) (y:=(manyOf gs[j]).toNat) (by
  rw [h1.2.1]
  unfold Placed at aok2
  show _ ≤ ys.length
  rcases aok2 with h2 | h2
  · have:=h2.2.2.2.2;omega
  · have:=h2.2.2;omega) (fun hk=>by
  unfold kWant at aok3
  rw [if_pos hk] at aok3
  omega) _ (Nat.le_refl _) t he
 exact ⟨h2.1,h2.2.1.trans h1.2.1,h2.2.2.trans h1.2.2.1⟩
set_option maxRecDepth 100000 in
set_option maxHeartbeats 1000000 in
theorem send0_any (S : Nat → Prop) (x : Cfg) (ys : Ys) (gs : List GoTy.T) (A : Option Addr) (ca : Nat) (B : Option Addr) (cb : Nat) (number : Int) (w : World) (hy : RdIn w S (.sl (.sl (.sl .byte))) ys [.slice A ys.length ca]) (hg : RdIn w S (.sl GoTy) gs [.slice B gs.length cb]) :
 Calls Try.prog 23 #[x.val,.agg #[.slice A ys.length ca,.slice B gs.length cb],.int .i64 number] w fun e w'=>EndIs w.heap.size x ys gs number e w' ∧ Below w.heap.size w w':=by
 have HPC : Hid (∀ w',Below w.heap.size w w' → Calls Try.prog 18 #[x.val,.agg #[.slice A ys.length ca,.slice B gs.length cb]] w' fun e w''=>OkBad (PlainOk x ys gs) e ∧ Below w'.heap.size w' w''):=fun w' bb=>spcheck_any S x ys gs A ca B cb w' (hy.below bb) (hg.below bb)
 have HTW : Hid (∀ w',Below w.heap.size w w' → Calls Try.prog 33 #[.agg #[.slice A ys.length ca,.slice B gs.length cb]] w' fun e w''=>TwinIs w'.heap.size ys gs e w'' ∧ Below w'.heap.size w' w''):=fun w' bb=>stwin_any S ys gs A ca B cb w' (hy.below bb) (hg.below bb)
 clear hy hg
 have hmf : ∀ (fn : Fn) (first cap : Array Value) (w : World),(Instr.makeFunc fn first cap).run Try.prog w = .ok (.func fn first cap) w:=fun _ _ _ _=>rfl
 obtain ⟨id,m,c,r,l,h⟩:=x
 unfold Cfg.val at *
 dsimp only at *
 have C0:=BoxOf.alloc (BoxOf.alloc (BoxOf.alloc (BoxOf.alloc (BoxOf.new w #[.int .u32 (id : Int),.int .i64 m,.int .i64 c,.int .i64 r,.int .i64 l,.int .i64 h] 24) (.cells #[.slice A ys.length ca,.slice B gs.length cb] 28)) (.cells #[.int .i64 number] 3)) (.cells #[.slice none 0 0,.slice none 0 0] 28)) (.cells #[.int .i64 0,.int .i64 0,.slice none 0 0,.int .i64 0] 53)
 have P0:=BoxOf.alloc (BoxOf.alloc (BoxOf.alloc (BoxOf.new' (w.alloc (.cells #[.int .u32 (id : Int),.int .i64 m,.int .i64 c,.int .i64 r,.int .i64 l,.int .i64 h] 24)) (w.heap.size + 1) #[.slice A ys.length ca,.slice B gs.length cb] 28 (by simp)) (.cells #[.int .i64 number] 3)) (.cells #[.slice none 0 0,.slice none 0 0] 28)) (.cells #[.int .i64 0,.int .i64 0,.slice none 0 0,.int .i64 0] 53)
 have N0:=BoxOf.alloc (BoxOf.alloc (BoxOf.new' ((w.alloc (.cells #[.int .u32 (id : Int),.int .i64 m,.int .i64 c,.int .i64 r,.int .i64 l,.int .i64 h] 24)).alloc (.cells #[.slice A ys.length ca,.slice B gs.length cb] 28)) (w.heap.size + 2) #[.int .i64 number] 3 (by simp)) (.cells #[.slice none 0 0,.slice none 0 0] 28)) (.cells #[.int .i64 0,.int .i64 0,.slice none 0 0,.int .i64 0] 53)
 have Z0:=BoxOf.alloc (BoxOf.new' (((w.alloc (.cells #[.int .u32 (id : Int),.int .i64 m,.int .i64 c,.int .i64 r,.int .i64 l,.int .i64 h] 24)).alloc (.cells #[.slice A ys.length ca,.slice B gs.length cb] 28)).alloc (.cells #[.int .i64 number] 3)) (w.heap.size + 3) #[.slice none 0 0,.slice none 0 0] 28 (by simp)) (.cells #[.int .i64 0,.int .i64 0,.slice none 0 0,.int .i64 0] 53)
 have Y0:=BoxOf.new' ((((w.alloc (.cells #[.int .u32 (id : Int),.int .i64 m,.int .i64 c,.int .i64 r,.int .i64 l,.int .i64 h] 24)).alloc (.cells #[.slice A ys.length ca,.slice B gs.length cb] 28)).alloc (.cells #[.int .i64 number] 3)).alloc (.cells #[.slice none 0 0,.slice none 0 0] 28)) (w.heap.size + 4) #[.int .i64 0,.int .i64 0,.slice none 0 0,.int .i64 0] 53 (by simp)
 have t0:=Ext.alloc (Ext.alloc (Ext.alloc (Ext.alloc (Ext.alloc (Below.refl w.heap.size w) (.cells #[.int .u32 (id : Int),.int .i64 m,.int .i64 c,.int .i64 r,.int .i64 l,.int .i64 h] 24)) (.cells #[.slice A ys.length ca,.slice B gs.length cb] 28)) (.cells #[.int .i64 number] 3)) (.cells #[.slice none 0 0,.slice none 0 0] 28)) (.cells #[.int .i64 0,.int .i64 0,.slice none 0 0,.int .i64 0] 53)
 go_enter Try.func23,Try.ntmps23
 go_upto_region 1 with fail
 generalize ((((w.alloc (.cells #[.int .u32 (id : Int),.int .i64 m,.int .i64 c,.int .i64 r,.int .i64 l,.int .i64 h] 24)).alloc (.cells #[.slice A ys.length ca,.slice B gs.length cb] 28)).alloc (.cells #[.int .i64 number] 3)).alloc (.cells #[.slice none 0 0,.slice none 0 0] 28)).alloc (.cells #[.int .i64 0,.int .i64 0,.slice none 0 0,.int .i64 0] 53) = W at *
 have c0:=C0.cell
 have p0:=P0.cell
 have n0:=N0.cell
 have z0:=Z0.cell
 have zf0:=Z0.free
 have yc0:=Y0.cell
 have yf0:=Y0.free
 go_wp2_with fail
 refine (HPC.out _ t0).mono ?_
 rintro e w1 ⟨h1,b1⟩
 clear c0 p0 n0 z0 zf0 yc0 yf0
 have C1:=C0.next b1
 have P1:=P0.next b1
 have N1:=N0.next b1
 have Z1:=Z0.next b1
 have Y1:=Y0.next b1
 have t1:=Ext.trans t0 b1
 clear C0 P0 N0 Z0 Y0 t0
 clear b1
 rcases h1 with ⟨hok,rfl⟩ | ⟨hno,rfl⟩
 · have HOK:=Lib.hid hok
   clear hok
   have c1:=C1.cell
   have p1:=P1.cell
   have n1:=N1.cell
   have z1:=Z1.cell
   have zf1:=Z1.free
   have yc1:=Y1.cell
   have yf1:=Y1.free
   go_wp2_with fail
   refine (HTW.out _ t1).mono ?_
   rintro e w2 ⟨h2,b2⟩
   obtain ⟨R,cR,B',d',By,rfl,hcR,hd',hM,hG,hBy⟩:=h2.state (by have h3:=Cfg.crm HOK.out.cfg;have h4:=HOK.out.len;omega) (fun i hi=>by have:=(HOK.out.row hi).1;omega)
   clear c1 p1 n1 z1 zf1 yc1 yf1
   obtain ⟨lo,hlo⟩ : ∃ z : Nat,z = w1.heap.size:=⟨_,rfl⟩
   rw [← hlo] at hM hG hBy
   have hlw : w.heap.size + 4 < lo:=by have:=Y1.lt;omega
   have hl2 : lo ≤ w2.heap.size:=by rw [hlo];exact b2.size
   have C2:=C1.next b2
   have P2:=P1.next b2
   have N2:=N1.next b2
   have Z2:=Z1.next b2
   have Y2:=Y1.next b2
   have t2:=Ext.trans t1 b2
   clear C1 P1 N1 Z1 Y1 t1
   have b4:=Ext.alloc (Below.refl w2.heap.size w2) (.cells #[.slice (some ⟨R,0,none⟩) ys.length cR,.slice B' gs.length d'] 28)
   have O4:=BoxOf.new w2 #[.slice (some ⟨R,0,none⟩) ys.length cR,.slice B' gs.length d'] 28
   have hBl : ∀ b,By b → b < w2.heap.size:=fun b hb=>(hBy b hb).2.1
   have hM4:=hM.mono b4 hBl (fun _ h=>h) (fun _ _ h=>h)
   have hG4:=hG.mono b4 hBl (fun _ h=>h) (fun _ _ h=>h)
   have hBy4 : ∀ b,By b → NewB lo (w2.alloc (.cells #[.slice (some ⟨R,0,none⟩) ys.length cR,.slice B' gs.length d'] 28)) b:=fun b hb=>newB_next (hBy b hb) b4.size (b4.block b (hBl b hb))
   have HLW:=Lib.hid (And.intro hlw hl2)
   have HBl:=Lib.hid hBl
   clear b2 h2 hM hG hBy hBl hlo hlw hl2
   go_upto_region 5 with fail
   obtain ⟨go,hgo⟩ : ∃ z : Nat,z = w2.heap.size:=⟨_,rfl⟩
   rw [← hgo] at O4 ⊢
   have HGO:=Lib.hid hgo
   have HBG4 : Hid (∀ b,By b → b < go):=fun b hb=>by have:=HBl.out b hb;omega
   have hl4:=b4.size
   rw [← hgo] at hl4
   clear hgo
   have C4:=C2.next b4
   have P4:=P2.next b4
   have N4:=N2.next b4
   have Z4:=Z2.next b4
   have Y4:=Y2.next b4
   have t4:=Ext.trans t2 b4
   clear C2 P2 N2 Z2 Y2 t2
   generalize w2.alloc (.cells #[.slice (some ⟨R,0,none⟩) ys.length cR,.slice B' gs.length d'] 28) = w4 at *
   have HRG:=Lib.hid (hG4.rdin hd' (by have:=HOK.out.few;omega) hBy4)
   have HM4:=Lib.hid hM4
   have HG4:=Lib.hid hG4
   have HBY4:=Lib.hid hBy4
   have HCR:=Lib.hid hcR
   have HD':=Lib.hid hd'
   clear hM4 hG4 hBy4 hcR hd' b4
   have o4:=O4.cell
   have c4:=C4.cell
   have p4:=P4.cell
   have n4:=N4.cell
   have z4:=Z4.cell
   have zf4:=Z4.free
   have yc4:=Y4.cell
   have yf4:=Y4.free
   have HIF:=Lib.hid (idxf_end (NewB lo w4) gs B' d' number (w.heap.size + 2) w4 HRG.out N4)
   go_wp2_with fail
   refine HIF.out.mono ?_
   rintro e w5 ⟨hf,b5⟩
   clear c4 p4 n4 z4 zf4 yc4 yf4 o4
   have O5:=O4.next b5
   have hl45:=b5.size
   have HL45 : Hid (w2.heap.size ≤ w5.heap.size):=by show _ ≤ _;have:=HGO.out;omega
   have HO5:=Lib.hid O5
   have HBG : Hid (∀ b,By b → b < go):=HBG4
   have hM5:=Lib.hid (HM4.out.mono b5 (fun b hb=>(HBY4.out b hb).2.1) (fun _ h=>h) (fun _ _ h=>h))
   have hG5:=Lib.hid (HG4.out.mono b5 (fun b hb=>(HBY4.out b hb).2.1) (fun _ h=>h) (fun _ _ h=>h))
   have hBy5 : Hid (∀ b,By b → NewB lo w5 b):=fun b hb=>newB_next (HBY4.out b hb) b5.size (b5.block b (HBY4.out b hb).2.1)
   have C5:=C4.next b5
   have P5:=P4.next b5
   have N5:=N4.next b5
   have Z5:=Z4.next b5
   have Y5:=Y4.next b5
   have t5:=Ext.trans t4 b5
   clear C4 P4 N4 Z4 Y4 t4
   clear HM4 HG4 HBY4 b5 HRG HIF O4
   have o5:=O5.cell
   have of5:=O5.free
   have c5:=C5.cell
   have p5:=P5.cell
   have n5:=N5.cell
   have z5:=Z5.cell
   have zf5:=Z5.free
   have yc5:=Y5.cell
   have yf5:=Y5.free
   rcases hf with ⟨j,hj,rfl,hnum⟩ | ⟨rfl,hnone⟩
   · have hnu:=numE_eq.1 hnum
     obtain ⟨G,o,cells,Ab,cb',Am,cm,By',rfl,g1,g2,⟨q0,q1,q2,q3,q4,q5⟩,g3,g4,g5,g6,g7,g8⟩:=hG5.out.del (fun b hb=>(hBy5.out b hb).2.1) HD'.out.1 hj
     have HONE:=Lib.hid (HOK.out.goes j hj).1
     have HMKS:=Lib.hid (HOK.out.marks hj)
     have HERA:=Lib.hid (HOK.out.erase hj)
     have HLE : Hid ((gs.eraseIdx j).length = gs.length - 1):=List.length_eraseIdx_of_lt hj
     have HEA : Hid (endAll ys gs j = endS ((kiOf gs[j]).toNat : Int) (datOf gs[j]) (atOf gs[j]).toNat (manyOf gs[j]).toNat (marksS (mksOf gs[j]) (mksOf gs[j]).length (ys,gs.eraseIdx j))):=by
      show endAll ys gs j = _
      unfold endAll
      rw [List.getElem?_eq_getElem hj]
     have HNU : Hid (∃ h : j < gs.length,nuOf gs[j] = number):=⟨hj,hnu⟩
     generalize hgj : gs[j] = gj at *
     obtain ⟨aok1,aok2,aok3,aok4,aok5,_⟩:=askCode_0 HONE.out.2.1
     obtain ⟨a,ha⟩ : ∃ a : Nat,atOf gj = (a : Int):=⟨(atOf gj).toNat,by omega⟩
     obtain ⟨y,hy⟩ : ∃ y : Nat,manyOf gj = (y : Int):=⟨(manyOf gj).toNat,by omega⟩
     have HAYL : Hid (y ≤ 8 ∧ a + y ≤ ys.length ∧ (kBytes ((kiOf gj).toNat : Int) = true → y * 128 ≤ (datOf gj).length)):=by
      have h1:=HOK.out.len
      unfold Placed at aok2
      unfold kWant at aok3
      refine ⟨by omega,?_,fun hk=>?_⟩
      · rw [ha,hy] at aok2
        rcases aok2 with h2 | h2
        · have:=h2.2.2.2.2;omega
        · have:=h2.2.2;omega
      · rw [if_pos hk,hy] at aok3
        omega
     rw [ha,hy,Int.toNat_natCast,Int.toNat_natCast] at HEA
     rw [ha] at q2
     rw [hy] at q3
     have HHY:=Lib.hid hy
     clear aok1 aok2 aok3 aok4 aok5
     have HGJ:=Lib.hid hgj
     have HJ:=Lib.hid hj
     have HGR:=Lib.hid (And.intro g1 (And.intro g2 g3))
     have HBB:=Lib.hid (And.intro g4 g5)
     have HGG : Hid (lo ≤ G):=by
      rcases hG5.out with h | ⟨G2,o2,_,_,e,_,h,_⟩
      · rw [h] at hj;simp at hj
      · injection e with e;injection e with e;show lo ≤ G;rw [e];exact h.1
     have HRB:=Lib.hid g6
     have HRM:=Lib.hid g7
     have HDEL:=Lib.hid g8
     have hj0 : decide ((j : Int) < 0) = false:=decide_eq_false (by omega)
     clear ha hy hgj hnu hnum g1 g2 g3 g4 g5 g6 g7 g8
     have X6:=BoxOf.new w5 #[.int .i64 (nuOf gj),.int .u8 ((kiOf gj).toNat : Int),.int .i64 (a : Int),.int .i64 (y : Int),.slice Ab (datOf gj).length cb',.slice Am (mksOf gj).length cm] 64
     have b6:=Ext.alloc (Below.refl w5.heap.size w5) (.cells #[.int .i64 (nuOf gj),.int .u8 ((kiOf gj).toNat : Int),.int .i64 (a : Int),.int .i64 (y : Int),.slice Ab (datOf gj).length cb',.slice Am (mksOf gj).length cm] 64)
     go_upto_region 9 with fail
     obtain ⟨gx,hgx⟩ : ∃ z : Nat,z = w5.heap.size:=⟨_,rfl⟩
     rw [← hgx] at X6 ⊢
     have HGX:=Lib.hid hgx
     clear hgx c5 p5 n5 z5 zf5 yc5 yf5 o5 of5 q0 q1 q2 q3 q4 q5
     have HB6:=Lib.hid b6
     have hl56:=b6.size
     have O6:=O5.next b6
     have C6:=C5.next b6
     have P6:=P5.next b6
     have N6:=N5.next b6
     have Z6:=Z5.next b6
     have Y6:=Y5.next b6
     have t6:=Ext.trans t5 b6
     clear C5 P5 N5 Z5 Y5 t5
     generalize w5.alloc (.cells #[.int .i64 (nuOf gj),.int .u8 ((kiOf gj).toNat : Int),.int .i64 (a : Int),.int .i64 (y : Int),.slice Ab (datOf gj).length cb',.slice Am (mksOf gj).length cm] 64) = w6 at *
     clear b6 O5
     have o6:=O6.cell
     have hw1 : wrap64 ((j : Int) + 1) = ((j + 1 : Nat) : Int):=by
      have:=HOK.out.few
      have:=HJ.out
      rw [IntWalk.wrap64_in _ (by omega)]
      rfl
     have HDC:=Lib.hid (delG_any G o gs.length d' j (j + 1) cells w6 (HGR.out.1.next HB6.out) HD'.out.1 HD'.out.2 HGR.out.2.1 (by omega) HJ.out HGR.out.2.2)
     go_wp2_with fail
     refine HDC.out.mono ?_
     rintro e w7 ⟨rfl,hD7⟩
     have hG6 : BoxOf w6 G cells 64:=HGR.out.1.next HB6.out
     have hBut : But 64 w6 w7:=But.grown hG6 hD7.1
     have hGlt:=HGR.out.1.lt
     have C7:=C6.but hBut (by decide)
     have P7:=P6.but hBut (by decide)
     have N7:=N6.but hBut (by decide)
     have Z7:=Z6.but hBut (by decide)
     have Y7:=Y6.but hBut (by decide)
     have O7:=O6.but hBut (by decide)
     have X7:=X6.grown hD7.1 (fun e=>by have:=Option.some.inj e;have:=HGX.out;omega)
     have ej : gs.length - (j + 1 - j) = (gs.eraseIdx j).length:=by rw [HLE.out];omega
     rw [ej]
     have hdel:=HDEL.out w6 w7 HB6.out hD7
     have hM7 : MayS w7 By' lo R ys:=by
      refine MayS.but (t:=64) (MayS.mono (hM5.out.more HBB.out.1 (fun b cs hb h=>?_)) HB6.out (fun b hb=>?_) (fun _ h=>h) (fun _ _ h=>h)) (by decide) (by decide) hBut (fun b hb=>?_)
      · rcases HBB.out.2 b h with h | ⟨cs2,_,h⟩
        · exact h
        · rcases hb with hb | hb
          · exact absurd rfl (box_diff h hb (by decide))
          · exact absurd rfl (box_diff h hb (by decide))
      · rcases HBB.out.2 b hb with h | ⟨cs2,_,h⟩
        · exact (hBy5.out b h).2.1
        · exact h.lt
      · have hlt5 : b < w5.heap.size:=by
         rcases HBB.out.2 b hb with h | ⟨cs2,_,h⟩
         · exact (hBy5.out b h).2.1
         · exact h.lt
        rw [hdel.2 b hb,HB6.out.block b hlt5]
     have hBy7 : ∀ b,By' b → NewB lo w7 b:=by
      intro b hb
      have hs : w5.heap.size ≤ w7.heap.size:=Nat.le_trans HB6.out.size hD7.1.size
      rcases HBB.out.2 b hb with h | ⟨cs2,h1,h⟩
      · exact newB_next (hBy5.out b h) hs (hdel.2 b hb)
      · exact newB_next ⟨h1,h.lt,cs2,_,h⟩ hs (hdel.2 b hb)
     have hgo : ∀ b,By' b → b ≠ go:=by
      intro b hb
      rcases HBB.out.2 b hb with h | ⟨cs2,_,h⟩
      · have:=HBG.out b h;omega
      · exact box_diff h HO5.out (by decide)
     have f7:=O7.free
     have o7:=O7.cell
     have HM7:=Lib.hid hM7
     have HG7:=Lib.hid hdel.1
     have HBY7:=Lib.hid hBy7
     have HGOB:=Lib.hid hgo
     have HRB7 : Hid (RdIn w7 By' (.sl .byte) (datOf gj) [.slice Ab (datOf gj).length cb']):=HRB.out.frame hdel.2
     have HRM7 : Hid (RdIn w7 By' (.sl .int) (mksOf gj) [.slice Am (mksOf gj).length cm]):=HRM.out.frame hdel.2
     have HG67:=Lib.hid hD7.1
     clear hM7 hBy7 hgo hdel hG6 hBut hGlt ej hD7 o6
     go_upto_region 10 with fail
     have O8 : BoxOf (w7.setCell ⟨go,1,none⟩ (.slice (some ⟨G,o,none⟩) (gs.eraseIdx j).length d')) go #[.slice (some ⟨R,0,none⟩) ys.length cR,.slice (some ⟨G,o,none⟩) (gs.eraseIdx j).length d'] 28:=mbox_self O7 1 (.slice (some ⟨G,o,none⟩) (gs.eraseIdx j).length d')
     have hB8 : But 28 w7 (w7.setCell ⟨go,1,none⟩ (.slice (some ⟨G,o,none⟩) (gs.eraseIdx j).length d')):=But.setCell O7 _
     have hne3 : go ≠ w.heap.size + 3:=by have:=HGO.out;have:=HLW.out;omega
     have C8:=C7.but hB8 (by decide)
     have N8:=N7.but hB8 (by decide)
     have X8:=X7.but hB8 (by decide)
     have Y8:=Y7.but hB8 (by decide)
     have Z8:=mbox_else Z7 hne3.symm 1 (.slice (some ⟨G,o,none⟩) (gs.eraseIdx j).length d')
     have hs8 : (w7.setCell ⟨go,1,none⟩ (.slice (some ⟨G,o,none⟩) (gs.eraseIdx j).length d')).heap.size = w7.heap.size:=msize _ _ _
     have hbk : ∀ b,By' b → (w7.setCell ⟨go,1,none⟩ (.slice (some ⟨G,o,none⟩) (gs.eraseIdx j).length d')).heap[b]? = w7.heap[b]?:=fun b hb=>Below.heap_setCell _ _ _ _ (HGOB.out b hb)
     have hM8:=Lib.hid (HM7.out.but (t:=28) (by decide) (by decide) hB8 hbk)
     have hG8:=Lib.hid (HG7.out.but (t:=28) (by decide) (by decide) hB8 hbk (fun _ h=>h) (fun _ _ h=>h))
     have hBy8 : Hid (∀ b,By' b → NewB lo (w7.setCell ⟨go,1,none⟩ (.slice (some ⟨G,o,none⟩) (gs.eraseIdx j).length d')) b):=fun b hb=>newB_next (HBY7.out b hb) (by rw [hs8];exact Nat.le_refl _) (hbk b hb)
     have hD8:=Lib.hid (HRB7.out.frame hbk)
     have hR8:=Lib.hid (HRM7.out.frame hbk)
     have T8 : Hid (Below w.heap.size w (w7.setCell ⟨go,1,none⟩ (.slice (some ⟨G,o,none⟩) (gs.eraseIdx j).length d')) ∧ lo ≤ (w7.setCell ⟨go,1,none⟩ (.slice (some ⟨G,o,none⟩) (gs.eraseIdx j).length d')).heap.size):=by
      have hgl:=HGR.out.1.lt
      have h1 : w.heap.size ≤ G:=by have:=(HGG.out);have:=HLW.out;omega
      have h2:=HG67.out.size
      have h3:=HB6.out.size
      refine ⟨Below.setCell (Below.grown t6 HG67.out t6.size (fun k e=>by have:=Option.some.inj e;omega)) (by have:=HGO.out;have:=HLW.out;show w.heap.size ≤ go;omega) _,?_⟩
      rw [hs8]
      have:=HLW.out
      have:=HL45.out
      omega
     clear C7 P7 N7 Z7 Y7 O7 X7 hB8 hs8 hbk HM7 HG7 HBY7 HRB7 HRM7 f7 o7 t6 hne3
     generalize w7.setCell ⟨go,1,none⟩ (.slice (some ⟨G,o,none⟩) (gs.eraseIdx j).length d') = w8 at *
     have x8:=X8.cell
     have HSE:=Lib.hid (send_any ⟨id,m,c,r,l,h⟩ By' lo R cR (some ⟨G,o,none⟩) d' (ys,gs.eraseIdx j) go (nuOf gj) (kiOf gj) a y (datOf gj) (mksOf gj) Ab cb' Am cm w8 O8 hM8.out hG8.out hBy8.out T8.out.2 HERA.out HAYL.out.1 HAYL.out.2.1 HAYL.out.2.2 (by
      rcases HMKS.out.1 with h | h
      · rw [h];simp
      · exact Nat.le_of_eq h) (fun q hq=>HMKS.out.2 q hq) hD8.out hR8.out)
     clear O6 hM5 hG5
     go_wp2_with fail
     refine HSE.out.mono ?_
     rintro e w9 ⟨hsd,hkp⟩
     have t9:=Below.trans T8.out.1 (Below.mono hkp.below (by have:=HLW.out;omega))
     have Z9:=hkp.box _ _ _ Z8 (by decide) (by decide) (by decide)
     have Y9:=hkp.box _ _ _ Y8 (by decide) (by decide) (by decide)
     have X9:=hkp.box _ _ _ X8 (by decide) (by decide) (by decide)
     have O9:=hkp.box _ _ _ O8 (by decide) (by decide) (by decide)
     have N9 : BoxOf w9 (w.heap.size + 2) #[.int .i64 number] 3:=by
      unfold BoxOf at *
      rw [hkp.below.block _ (by have:=HLW.out;omega)]
      exact N8
     have hl9:=hkp.below.size
     clear x8 X8 O8 Z8 Y8 N8 C8 hkp HSE
     have z9:=Z9.cell
     have zf9:=Z9.free
     have yc9:=Y9.cell
     have yf9:=Y9.free
     rcases hsd with ⟨hno,rfl⟩ | ⟨tt,dat,DD,dq,hsome,rfl,hdat,hE⟩
     · have HNONE : Hid (endAll ys gs j = none):=HEA.out.trans hno
       clear hno X9 O9 N9
       go_wp2
       have B5:=mbox_self (mbox_self Z9 0 (.slice none 0 0)) 1 (.slice none 0 0)
       have B6:=mbox_self (mbox_self (mbox_self (mbox_self (mbox_else (mbox_else Y9 (show w.heap.size + 4 ≠ w.heap.size + 3 by omega) 0 (.slice none 0 0)) (show w.heap.size + 4 ≠ w.heap.size + 3 by omega) 1 (.slice none 0 0)) 0 (.int .i64 0)) 1 (.int .i64 0)) 2 (.slice none 0 0)) 3 (.int .i64 0)
       have B7:=mbox_else (mbox_else (mbox_else (mbox_else B5 (show w.heap.size + 3 ≠ w.heap.size + 4 by omega) 0 (.int .i64 0)) (show w.heap.size + 3 ≠ w.heap.size + 4 by omega) 1 (.int .i64 0)) (show w.heap.size + 3 ≠ w.heap.size + 4 by omega) 2 (.slice none 0 0)) (show w.heap.size + 3 ≠ w.heap.size + 4 by omega) 3 (.int .i64 0)
       have T5:=Below.setCell (p:=⟨w.heap.size + 4,3,none⟩) (Below.setCell (p:=⟨w.heap.size + 4,2,none⟩) (Below.setCell (p:=⟨w.heap.size + 4,1,none⟩) (Below.setCell (p:=⟨w.heap.size + 4,0,none⟩) (Below.setCell (p:=⟨w.heap.size + 3,1,none⟩) (Below.setCell (p:=⟨w.heap.size + 3,0,none⟩) t9 (show w.heap.size ≤ w.heap.size + 3 by omega) (.slice none 0 0)) (show w.heap.size ≤ w.heap.size + 3 by omega) (.slice none 0 0)) (show w.heap.size ≤ w.heap.size + 4 by omega) (.int .i64 0)) (show w.heap.size ≤ w.heap.size + 4 by omega) (.int .i64 0)) (show w.heap.size ≤ w.heap.size + 4 by omega) (.slice none 0 0)) (show w.heap.size ≤ w.heap.size + 4 by omega) (.int .i64 0)
       exact bodyPost_ret (v:=.tuple #[.agg #[.slice none 0 0,.slice none 0 0],.agg #[.int .i64 0,.int .i64 0,.slice none 0 0,.int .i64 0],.int .i64 9]) (Eq.trans (results_rows3 (P:=Try.prog) (fn:=Try.f23) (p:=6) (q:=7) (u:=8) rfl _ _ (w.heap.size + 3) 28 #[.slice none 0 0,.slice none 0 0] (w.heap.size + 4) 53 #[.int .i64 0,.int .i64 0,.slice none 0 0,.int .i64 0] rfl rfl B7 B6 _ _ Try.underlying28 Try.underlying53 rfl rfl (by kernel_rfl) (by kernel_rfl)) rfl) rfl ⟨EndIs.err (.inr (.inr (.inl ⟨HOK.out,⟨j,HJ.out,(by obtain ⟨_,h⟩:=HNU.out;exact h),HNONE.out⟩,rfl,rfl,rfl,rfl,rfl,rfl⟩))),T5⟩
     · have HSOME : Hid (endAll ys gs j = some (tt,dat)):=HEA.out.trans hsome
       have HE:=Lib.hid hE
       have HDAT:=Lib.hid hdat
       clear hsome hE hdat
       go_upto_region 13 with fail
       refine wp_region_held_drew (S:=fun w'=>(∀ p,w'.cell? ⟨go,p,none⟩ = (#[.slice (some ⟨R,0,none⟩) ys.length cR,.slice (some ⟨G,o,none⟩) (gs.eraseIdx j).length d'] : Array Value).toList[p]?) ∧ (∀ p,w'.cell? ⟨w.heap.size + 1 + 1,p,none⟩ = (#[.int .i64 number] : Array Value).toList[p]?) ∧ ∀ p,w'.cell? ⟨gx,p,none⟩ = (#[.int .i64 (nuOf gj),.int .u8 ((kiOf gj).toNat : Int),.int .i64 (a : Int),.int .i64 (y : Int),.slice Ab (datOf gj).length cb',.slice Am (mksOf gj).length cm] : Array Value).toList[p]?) (by kernel_rfl) ⟨O9.drew.cell,N9.drew.cell,X9.drew.cell⟩ (fun hS=>?_)
       clear z9 yc9 zf9 yf9
       refine wpAnyH_take (i:=0) (v:=?_) rfl (by kernel_rfl) (by kernel_rfl) (by kernel_rfl) (fun _ _ _ h=>h) (Or.inl ⟨by rfl,?_⟩) hS ?_
       rotate_left
       · (intro w hSw;(try dsimp only at hSw);go_simp;(try with_reducible rfl))
       rotate_left
       simp only [Act.put,zq0,zq1,zq2,zq3,zq4,zq5]
       refine wpAnyH_take (i:=1) (v:=?_) rfl (by kernel_rfl) (by kernel_rfl) (by kernel_rfl) (fun _ _ _ h=>h) (Or.inl ⟨by rfl,?_⟩) hS ?_
       rotate_left
       · (intro w hSw;(try dsimp only at hSw);go_simp;(try with_reducible rfl))
       rotate_left
       simp only [Act.put,zq0,zq1,zq2,zq3,zq4,zq5]
       refine wpAnyH_take (i:=2) (v:=?_) rfl (by kernel_rfl) (by kernel_rfl) (by kernel_rfl) (fun _ _ _ h=>h) (Or.inl ⟨by rfl,?_⟩) hS ?_
       rotate_left
       · (intro w hSw;(try dsimp only at hSw);go_simp;(try with_reducible rfl))
       rotate_left
       simp only [Act.put,zq0,zq1,zq2,zq3,zq4,zq5]
       refine wpAnyH_take (i:=3) (v:=?_) rfl (by kernel_rfl) (by kernel_rfl) (by kernel_rfl) (fun _ _ _ h=>h) (Or.inl ⟨by rfl,?_⟩) hS ?_
       rotate_left
       · (intro w hSw;(try dsimp only at hSw);go_simp;(try with_reducible rfl))
       rotate_left
       simp only [Act.put,zq0,zq1,zq2,zq3,zq4,zq5]
       refine wpAnyH_take (i:=4) (v:=?_) rfl (by kernel_rfl) (by kernel_rfl) (by kernel_rfl) (fun _ _ _ h=>h) (Or.inl ⟨by rfl,?_⟩) hS ?_
       rotate_left
       · (intro w hSw;(try dsimp only at hSw);go_simp;(try with_reducible rfl))
       rotate_left
       simp only [Act.put,zq0,zq1,zq2,zq3,zq4,zq5]
       refine wpAnyH_take (i:=5) (v:=?_) rfl (by kernel_rfl) (by kernel_rfl) (by kernel_rfl) (fun _ _ _ h=>h) (Or.inl ⟨by rfl,?_⟩) hS ?_
       rotate_left
       · (intro w hSw;(try dsimp only at hSw);go_simp;(try with_reducible rfl))
       rotate_left
       simp only [Act.put,zq0,zq1,zq2,zq3,zq4,zq5]
       refine wpAnyH_take (i:=6) (v:=?_) rfl (by kernel_rfl) (by kernel_rfl) (by kernel_rfl) (fun _ _ _ h=>h) (Or.inl ⟨by rfl,?_⟩) hS ?_
       rotate_left
       · (intro w hSw;(try dsimp only at hSw);go_simp;(try with_reducible rfl))
       rotate_left
       simp only [Act.put,zq0,zq1,zq2,zq3,zq4,zq5]
       have Zd:=Z9.drew
       have Yd:=Y9.drew
       have Od:=O9.drew
       have Nd:=N9.drew
       have Xd:=X9.drew
       have td:=Ext.drew t9
       have HED:=Lib.hid (HE.out.next (Ext.drew (Below.refl w9.heap.size w9)) (by have:=T8.out.2;omega))
       have HDD:=Lib.hid (HDAT.out.below (Ext.drew (Below.refl w9.heap.size w9)))
       have hld : Hid (w9.heap.size = w9.drew.heap.size):=rfl
       have hDW : Hid (∀ b : Nat,w9.drew.heap[b]? = w9.heap[b]?):=fun b=>rfl
       clear Z9 Y9 O9 N9 X9 t9 HE HDAT
       generalize w9.drew = wd at *
       refine wpAnyH_ready (rs:=[7]) (by kernel_rfl) (by simp) ?_
       refine AllReadyH.cons rfl (fun K hK=>?_) AllReadyH.nil
       rw [if_pos (by rfl)]
       have zf:=Zd.free
       have zc:=Zd.cell
       go_simp
       clear zf zc
       have hg3 : go ≠ w.heap.size + 3:=by have:=HGO.out;have:=HLW.out;omega
       have hg4 : go ≠ w.heap.size + 4:=by have:=HGO.out;have:=HLW.out;omega
       have hx3 : gx ≠ w.heap.size + 3:=by have:=HGX.out;have:=HLW.out;have:=HL45.out;omega
       have hx4 : gx ≠ w.heap.size + 4:=by have:=HGX.out;have:=HLW.out;have:=HL45.out;omega
       have Ze : BoxOf _ (w.heap.size + 3) #[.slice (some ⟨R,0,none⟩) ys.length cR,.slice (some ⟨G,o,none⟩) (gs.eraseIdx j).length d'] 28:=mbox_self (mbox_self Zd 0 (.slice (some ⟨R,0,none⟩) ys.length cR)) 1 (.slice (some ⟨G,o,none⟩) (gs.eraseIdx j).length d')
       have Ye:=mbox_else (mbox_else Yd (show w.heap.size + 4 ≠ w.heap.size + 3 by omega) 0 (.slice (some ⟨R,0,none⟩) ys.length cR)) (show w.heap.size + 4 ≠ w.heap.size + 3 by omega) 1 (.slice (some ⟨G,o,none⟩) (gs.eraseIdx j).length d')
       have Oe:=mbox_else (mbox_else Od hg3 0 (.slice (some ⟨R,0,none⟩) ys.length cR)) hg3 1 (.slice (some ⟨G,o,none⟩) (gs.eraseIdx j).length d')
       have Ne:=mbox_else (mbox_else Nd (show w.heap.size + 2 ≠ w.heap.size + 3 by omega) 0 (.slice (some ⟨R,0,none⟩) ys.length cR)) (show w.heap.size + 2 ≠ w.heap.size + 3 by omega) 1 (.slice (some ⟨G,o,none⟩) (gs.eraseIdx j).length d')
       have Xe:=mbox_else (mbox_else Xd hx3 0 (.slice (some ⟨R,0,none⟩) ys.length cR)) hx3 1 (.slice (some ⟨G,o,none⟩) (gs.eraseIdx j).length d')
       refine hK.out _ _ ⟨Oe.cell,Ne.cell,Xe.cell⟩ (fun hS'=>?_)
       clear hK K hS
       have hS:=hS'
       clear hS'
       try simp only [Act.put,zq0,zq1,zq2,zq3,zq4,zq5]
       refine wpAnyH_ready (rs:=[8]) (by kernel_rfl) (by simp) ?_
       refine AllReadyH.cons rfl (fun K hK=>?_) AllReadyH.nil
       rw [if_pos (by rfl)]
       have yf:=Ye.free
       have yc:=Ye.cell
       go_simp
       clear yf yc
       have Yf : BoxOf _ (w.heap.size + 4) #[.int .i64 number,.int .i64 0,.slice DD dat.length dq,.int .i64 (y : Int)] 53:=mbox_self (mbox_self (mbox_self (mbox_self Ye 0 (.int .i64 number)) 1 (.int .i64 0)) 2 (.slice DD dat.length dq)) 3 (.int .i64 (y : Int))
       have Zf:=mbox_else (mbox_else (mbox_else (mbox_else Ze (show w.heap.size + 3 ≠ w.heap.size + 4 by omega) 0 (.int .i64 number)) (show w.heap.size + 3 ≠ w.heap.size + 4 by omega) 1 (.int .i64 0)) (show w.heap.size + 3 ≠ w.heap.size + 4 by omega) 2 (.slice DD dat.length dq)) (show w.heap.size + 3 ≠ w.heap.size + 4 by omega) 3 (.int .i64 (y : Int))
       have Of:=mbox_else (mbox_else (mbox_else (mbox_else Oe hg4 0 (.int .i64 number)) hg4 1 (.int .i64 0)) hg4 2 (.slice DD dat.length dq)) hg4 3 (.int .i64 (y : Int))
       have Nf:=mbox_else (mbox_else (mbox_else (mbox_else Ne (show w.heap.size + 2 ≠ w.heap.size + 4 by omega) 0 (.int .i64 number)) (show w.heap.size + 2 ≠ w.heap.size + 4 by omega) 1 (.int .i64 0)) (show w.heap.size + 2 ≠ w.heap.size + 4 by omega) 2 (.slice DD dat.length dq)) (show w.heap.size + 2 ≠ w.heap.size + 4 by omega) 3 (.int .i64 (y : Int))
       have Xf:=mbox_else (mbox_else (mbox_else (mbox_else Xe hx4 0 (.int .i64 number)) hx4 1 (.int .i64 0)) hx4 2 (.slice DD dat.length dq)) hx4 3 (.int .i64 (y : Int))
       have tf:=Below.setCell (p:=⟨w.heap.size + 4,3,none⟩) (Below.setCell (p:=⟨w.heap.size + 4,2,none⟩) (Below.setCell (p:=⟨w.heap.size + 4,1,none⟩) (Below.setCell (p:=⟨w.heap.size + 4,0,none⟩) (Below.setCell (p:=⟨w.heap.size + 3,1,none⟩) (Below.setCell (p:=⟨w.heap.size + 3,0,none⟩) td (show w.heap.size ≤ w.heap.size + 3 by omega) (.slice (some ⟨R,0,none⟩) ys.length cR)) (show w.heap.size ≤ w.heap.size + 3 by omega) (.slice (some ⟨G,o,none⟩) (gs.eraseIdx j).length d')) (show w.heap.size ≤ w.heap.size + 4 by omega) (.int .i64 number)) (show w.heap.size ≤ w.heap.size + 4 by omega) (.int .i64 0)) (show w.heap.size ≤ w.heap.size + 4 by omega) (.slice DD dat.length dq)) (show w.heap.size ≤ w.heap.size + 4 by omega) (.int .i64 (y : Int))
       refine hK.out _ _ ⟨Of.cell,Nf.cell,Xf.cell⟩ (fun hS'=>?_)
       clear hK K hS
       have hS:=hS'
       clear hS'
       try simp only [Act.put,zq0,zq1,zq2,zq3,zq4,zq5]
       refine wpAnyH_take (i:=9) (v:=?_) rfl (by kernel_rfl) (by kernel_rfl) (by kernel_rfl) (fun _ _ _ h=>h) (Or.inl ⟨by rfl,?_⟩) hS ?_
       rotate_left
       · (intro w hSw;(try dsimp only at hSw);go_simp;(try with_reducible rfl))
       rotate_left
       simp only [Act.put,zq0,zq1,zq2,zq3,zq4,zq5]
       refine wpAnyH_done (by kernel_rfl) ?_ _
       clear hS
       go_wp2
       obtain ⟨p1,p2,p3⟩:=endAll_ok HOK.out HJ.out HSOME.out
       obtain ⟨By3,s1,s2,s3,s4,s5,s6⟩:=HED.out
       have hfr : ∀ b : Nat,lo ≤ b → ((((((wd.setCell ⟨w.heap.size + 3,0,none⟩ (.slice (some ⟨R,0,none⟩) ys.length cR)).setCell ⟨w.heap.size + 3,1,none⟩ (.slice (some ⟨G,o,none⟩) (gs.eraseIdx j).length d')).setCell ⟨w.heap.size + 4,0,none⟩ (.int .i64 number)).setCell ⟨w.heap.size + 4,1,none⟩ (.int .i64 0)).setCell ⟨w.heap.size + 4,2,none⟩ (.slice DD dat.length dq)).setCell ⟨w.heap.size + 4,3,none⟩ (.int .i64 (y : Int))).heap[b]? = wd.heap[b]?:=by
        intro b hb
        have:=HLW.out
        rw [Below.heap_setCell _ _ _ _ (show b ≠ w.heap.size + 4 from fun e=>by have:=HLW.out;omega),Below.heap_setCell _ _ _ _ (show b ≠ w.heap.size + 4 from fun e=>by have:=HLW.out;omega),Below.heap_setCell _ _ _ _ (show b ≠ w.heap.size + 4 from fun e=>by have:=HLW.out;omega),Below.heap_setCell _ _ _ _ (show b ≠ w.heap.size + 4 from fun e=>by have:=HLW.out;omega),Below.heap_setCell _ _ _ _ (show b ≠ w.heap.size + 3 from fun e=>by have:=HLW.out;omega),Below.heap_setCell _ _ _ _ (show b ≠ w.heap.size + 3 from fun e=>by have:=HLW.out;omega)]
       have hsz : ((((((wd.setCell ⟨w.heap.size + 3,0,none⟩ (.slice (some ⟨R,0,none⟩) ys.length cR)).setCell ⟨w.heap.size + 3,1,none⟩ (.slice (some ⟨G,o,none⟩) (gs.eraseIdx j).length d')).setCell ⟨w.heap.size + 4,0,none⟩ (.int .i64 number)).setCell ⟨w.heap.size + 4,1,none⟩ (.int .i64 0)).setCell ⟨w.heap.size + 4,2,none⟩ (.slice DD dat.length dq)).setCell ⟨w.heap.size + 4,3,none⟩ (.int .i64 (y : Int))).heap.size = wd.heap.size:=by
        rw [msize,msize,msize,msize,msize,msize]
       have hbl : w.heap.size ≤ lo:=by have:=HLW.out;omega
       have RY:=(s4.rdin (cR:=cR) (by rw [p2];exact HCR.out) p1.short s2 (fun i hi=>Nat.le_trans (p1.row hi).2.1 (by decide))).rest hsz hfr hbl
       have RG:=(s5.rdin (by rw [p3];have:=HD'.out;have:=HLE.out;omega) (Nat.le_trans p1.few (by decide)) s2).rest hsz hfr hbl
       have RD : RdIn _ (NewB w.heap.size _) (.sl .byte) dat [.slice DD dat.length dq]:=RdIn.rest (HDD.out.mono (S':=NewB lo wd) fun b hb=>newB_next hb (by have:=hld.out;omega) (hDW.out b)) hsz hfr hbl
       rw [p2] at RY
       rw [p3] at RG
       exact bodyPost_ret (v:=.tuple #[.agg #[.slice (some ⟨R,0,none⟩) ys.length cR,.slice (some ⟨G,o,none⟩) (gs.eraseIdx j).length d'],.agg #[.int .i64 number,.int .i64 0,.slice DD dat.length dq,.int .i64 (y : Int)],.int .i64 0]) (Eq.trans (results_rows3 (P:=Try.prog) (fn:=Try.f23) (p:=6) (q:=7) (u:=8) rfl _ _ (w.heap.size + 3) 28 _ (w.heap.size + 4) 53 _ rfl rfl Zf Yf _ _ Try.underlying28 Try.underlying53 rfl rfl (by kernel_rfl) (by kernel_rfl)) rfl) rfl ⟨⟨0,tt.1,tt.2,number,dat,(y : Int),some ⟨R,0,none⟩,cR,some ⟨G,o,none⟩,d',DD,dq,by rw [p2,p3],.inr (.inr (.inr ⟨HOK.out,⟨j,HJ.out,by obtain ⟨_,h⟩:=HNU.out;exact h,HSOME.out,by rw [HGJ.out];exact HHY.out.symm⟩,rfl,rfl⟩)),by rw [p2];exact RY,by rw [p3];exact RG,RD⟩,tf⟩
   · have HNO : Hid (∀ j (h : j < gs.length),¬ nuOf gs[j] = number):=fun j hj=>numE_ne.1 (hnone j hj)
     clear hnone
     go_wp2
     have B5:=mbox_self (mbox_self Z5 0 (.slice none 0 0)) 1 (.slice none 0 0)
     have B6:=mbox_self (mbox_self (mbox_self (mbox_self (mbox_else (mbox_else Y5 (show w.heap.size + 4 ≠ w.heap.size + 3 by omega) 0 (.slice none 0 0)) (show w.heap.size + 4 ≠ w.heap.size + 3 by omega) 1 (.slice none 0 0)) 0 (.int .i64 0)) 1 (.int .i64 0)) 2 (.slice none 0 0)) 3 (.int .i64 0)
     have B7:=mbox_else (mbox_else (mbox_else (mbox_else B5 (show w.heap.size + 3 ≠ w.heap.size + 4 by omega) 0 (.int .i64 0)) (show w.heap.size + 3 ≠ w.heap.size + 4 by omega) 1 (.int .i64 0)) (show w.heap.size + 3 ≠ w.heap.size + 4 by omega) 2 (.slice none 0 0)) (show w.heap.size + 3 ≠ w.heap.size + 4 by omega) 3 (.int .i64 0)
     have T5:=Below.setCell (p:=⟨w.heap.size + 4,3,none⟩) (Below.setCell (p:=⟨w.heap.size + 4,2,none⟩) (Below.setCell (p:=⟨w.heap.size + 4,1,none⟩) (Below.setCell (p:=⟨w.heap.size + 4,0,none⟩) (Below.setCell (p:=⟨w.heap.size + 3,1,none⟩) (Below.setCell (p:=⟨w.heap.size + 3,0,none⟩) t5 (show w.heap.size ≤ w.heap.size + 3 by omega) (.slice none 0 0)) (show w.heap.size ≤ w.heap.size + 3 by omega) (.slice none 0 0)) (show w.heap.size ≤ w.heap.size + 4 by omega) (.int .i64 0)) (show w.heap.size ≤ w.heap.size + 4 by omega) (.int .i64 0)) (show w.heap.size ≤ w.heap.size + 4 by omega) (.slice none 0 0)) (show w.heap.size ≤ w.heap.size + 4 by omega) (.int .i64 0)
     exact bodyPost_ret (v:=.tuple #[.agg #[.slice none 0 0,.slice none 0 0],.agg #[.int .i64 0,.int .i64 0,.slice none 0 0,.int .i64 0],.int .i64 6]) (Eq.trans (results_rows3 (P:=Try.prog) (fn:=Try.f23) (p:=6) (q:=7) (u:=8) rfl _ _ (w.heap.size + 3) 28 #[.slice none 0 0,.slice none 0 0] (w.heap.size + 4) 53 #[.int .i64 0,.int .i64 0,.slice none 0 0,.int .i64 0] rfl rfl B7 B6 _ _ Try.underlying28 Try.underlying53 rfl rfl (by kernel_rfl) (by kernel_rfl)) rfl) rfl ⟨EndIs.err (.inr (.inl ⟨HOK.out,HNO.out,rfl,rfl,rfl,rfl,rfl,rfl⟩)),T5⟩
 · have c1:=C1.cell
   have p1:=P1.cell
   have n1:=N1.cell
   have z1:=Z1.cell
   have zf1:=Z1.free
   have yc1:=Y1.cell
   have yf1:=Y1.free
   go_wp2
   have B5:=mbox_self (mbox_self Z1 0 (.slice none 0 0)) 1 (.slice none 0 0)
   have B6:=mbox_self (mbox_self (mbox_self (mbox_self (mbox_else (mbox_else Y1 (show w.heap.size + 4 ≠ w.heap.size + 3 by omega) 0 (.slice none 0 0)) (show w.heap.size + 4 ≠ w.heap.size + 3 by omega) 1 (.slice none 0 0)) 0 (.int .i64 0)) 1 (.int .i64 0)) 2 (.slice none 0 0)) 3 (.int .i64 0)
   have B7:=mbox_else (mbox_else (mbox_else (mbox_else B5 (show w.heap.size + 3 ≠ w.heap.size + 4 by omega) 0 (.int .i64 0)) (show w.heap.size + 3 ≠ w.heap.size + 4 by omega) 1 (.int .i64 0)) (show w.heap.size + 3 ≠ w.heap.size + 4 by omega) 2 (.slice none 0 0)) (show w.heap.size + 3 ≠ w.heap.size + 4 by omega) 3 (.int .i64 0)
   have T5:=Below.setCell (p:=⟨w.heap.size + 4,3,none⟩) (Below.setCell (p:=⟨w.heap.size + 4,2,none⟩) (Below.setCell (p:=⟨w.heap.size + 4,1,none⟩) (Below.setCell (p:=⟨w.heap.size + 4,0,none⟩) (Below.setCell (p:=⟨w.heap.size + 3,1,none⟩) (Below.setCell (p:=⟨w.heap.size + 3,0,none⟩) t1 (show w.heap.size ≤ w.heap.size + 3 by omega) (.slice none 0 0)) (show w.heap.size ≤ w.heap.size + 3 by omega) (.slice none 0 0)) (show w.heap.size ≤ w.heap.size + 4 by omega) (.int .i64 0)) (show w.heap.size ≤ w.heap.size + 4 by omega) (.int .i64 0)) (show w.heap.size ≤ w.heap.size + 4 by omega) (.slice none 0 0)) (show w.heap.size ≤ w.heap.size + 4 by omega) (.int .i64 0)
   exact bodyPost_ret (v:=.tuple #[.agg #[.slice none 0 0,.slice none 0 0],.agg #[.int .i64 0,.int .i64 0,.slice none 0 0,.int .i64 0],.int .i64 8]) (Eq.trans (results_rows3 (P:=Try.prog) (fn:=Try.f23) (p:=6) (q:=7) (u:=8) rfl _ _ (w.heap.size + 3) 28 #[.slice none 0 0,.slice none 0 0] (w.heap.size + 4) 53 #[.int .i64 0,.int .i64 0,.slice none 0 0,.int .i64 0] rfl rfl B7 B6 _ _ Try.underlying28 Try.underlying53 rfl rfl (by kernel_rfl) (by kernel_rfl)) rfl) rfl ⟨EndIs.err (.inl ⟨hno,rfl,rfl,rfl,rfl,rfl,rfl⟩),T5⟩
end Go.Proofs.Ytclbihcggjjgaaa
