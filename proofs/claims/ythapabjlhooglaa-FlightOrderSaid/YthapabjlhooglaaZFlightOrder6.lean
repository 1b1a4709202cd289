/- What this claim needs of my texts, merged and shortened by a program (part 6). -/
import Derived.Maps.OwnSet
import Derived.Maps.OwnIn
import Derived.BigQuiet
import Derived.Test.YthapabjlhooglaaZFlightOrder5
namespace Go.Proofs.Ythapabjlhooglaa
open Go Go.RowKit
set_option linter.unusedSimpArgs false
set_option linter.unusedVariables false
def fPut (f : FlTy.T) (i : Nat) (s : UInt8) (q : Nat) (d : List UInt8) : FlTy.T:=fSetB (fSetQ (fSetS f i s) i q) i d
def goP (x : Cfg) (fs : List FlTy.T) (n b : Int) (s : UInt8) (q : Nat) (dat : List UInt8) : List FlTy.T × Int:=
 if flB x fs = true then (match fndP fs n b with
  | none=>([],6)
  | some k=>match fs[k]? with
    | none=>([],6)
    | some f=>if firstB fs k = true ∧ ((fS f)[(b - fA f).toNat]?.getD 0).toNat < s.toNat then (if blkB (kI f) s q dat.length = true then (fs.set k (fPut f (b - fA f).toNat s q dat),0) else ([],2)) else ([],6))
 else ([],8)
theorem goP_at {x : Cfg} {fs : List FlTy.T} {n b : Int} {s : UInt8} {q : Nat} {dat : List UInt8} {k i : Nat} (h : flB x fs = true) (h2 : fndP fs n b = some k) (hk : k < fs.length) (hb : b = fA fs[k] + (i : Int)) (hi : i < (fS fs[k]).length) :
 goP x fs n b s q dat = if firstB fs k = true ∧ ((fS fs[k])[i]).toNat < s.toNat then (if blkB (kI fs[k]) s q dat.length = true then (fs.set k (fPut fs[k] i s q dat),0) else ([],2)) else ([],6):=by
 unfold goP
 rw [if_pos h,h2]
 simp only [List.getElem?_eq_getElem hk]
 have e : (b - fA fs[k]).toNat = i:=by omega
 rw [e,List.getElem?_eq_getElem hi]
 rfl
theorem oneB_len {x : Cfg} {f : FlTy.T} (h : oneB x f = true) {i : Nat} (hi : (i : Int) < fM f) : ∃ m : Nat,fM f = (m : Int) ∧ m ≤ 8 ∧ i < m ∧ (fS f).length = m ∧ (fQ f).length = m ∧ (fB f).length = m:=by
 obtain ⟨h1,_,h3,h4,h5,_⟩:=oneB_iff.1 h
 obtain ⟨_,hpl,_,hy,_,_⟩:=askCode_0 h1
 obtain ⟨m,hm⟩ : ∃ m : Nat,fM f = (m : Int):=⟨(fM f).toNat,by omega⟩
 have hk4 : kI f ≠ 4:=by
  intro h4
  unfold Placed at hpl
  rw [h4] at hpl
  rcases hpl with h1 | h1
  · exact absurd h1.1 (by decide)
  · omega
 rw [if_neg hk4] at h5
 exact ⟨m,hm,by omega,by omega,by omega,by omega,by omega⟩
section
variable {w w' : World} {F : Nat → Prop} {tid : TypeId} {xs : List Value} {g n c : Nat}
theorem NumRow.slot (h : NumRow w F tid (.slice (some ⟨g,0,none⟩) n c) xs) {i : Nat} (hi : i < xs.length) : F g ∧ w.cell? ⟨g,i,none⟩ = some xs[i] ∧ (∀ o,w.frozen? ⟨g,o,none⟩ = false) ∧ g < w.heap.size:=by
 obtain ⟨g',cap,e,h1⟩:=h.cell hi
 injection e with e1 _ _
 injection e1 with e1
 injection e1 with e1 _ _
 subst e1
 obtain ⟨g',cap',cur,e,h2,h3,_⟩:=h.at hi
 injection e with e1 _ _
 injection e1 with e1
 injection e1 with e1 _ _
 subst e1
 exact ⟨h2,h1,h3.free,h3.lt⟩
end
theorem set_byteV {l : List UInt8} {i : Nat} {s : UInt8} (h : i < (l.set i s).length) : some (byteV ((l.set i s)[i]'h)) = some (.int .u8 ((s.toNat : Nat) : Int)):=by rw [List.getElem_set_self];rfl
theorem set_seqV {l : List Nat} {i q : Nat} (h : i < (l.set i q).length) : some (seqV ((l.set i q)[i]'h)) = some (.int .u32 (q : Int)):=by rw [List.getElem_set_self];rfl
theorem cell_heap {w w' : World} {g : Nat} (h : w'.heap[g]? = w.heap[g]?) (o : Nat) : w'.cell? ⟨g,o,none⟩ = w.cell? ⟨g,o,none⟩:=World.cell?_of_block (w:=w) (a:=⟨g,o,none⟩) h
set_option maxRecDepth 100000 in
set_option maxHeartbeats 8000000 in
theorem fgo_any (S : Nat → Prop) (x : Cfg) (fs : List FlTy.T) (N d : Nat) (B : Option Addr) (hN : fs.length = N) (n b : Int) (hb : IsInt b) (sv : UInt8) (q : Nat) (hq : q < 2 ^ 32) (D : Option Addr) (dq : Nat) (dat : List UInt8) (w : World) (hr : RdIn w S (.sl FlTy) fs [.slice B N d]) (hd : RdIn w S (.sl .byte) dat [.slice D dat.length dq]) :
 Calls Try.prog 15 #[x.val,.slice B N d,.int .i64 n,.int .i64 b,.int .u8 ((sv.toNat : Nat) : Int),.int .u32 (q : Int),.slice D dat.length dq] w fun e w'=>FlRes w.heap.size (goP x fs n b sv q dat) e w' ∧ Below w.heap.size w w':=by
 have HX:=Lib.hid (fun (w : World) (hr : RdIn w S (.sl FlTy) fs [.slice B N d])=>fcheck_any S x fs N d B hN w hr)
 have HF:=Lib.hid (fun (w : World) (hr : RdIn w S (.sl FlTy) fs [.slice B N d]) (hf : Fit8 fs)=>ffind_any S fs N d B hN n b hb hf w hr)
 have HFI:=Lib.hid (fun (w : World) (hr : RdIn w S (.sl FlTy) fs [.slice B N d]) (k : Nat) (hk : k < fs.length) (hc : flB x fs = true)=>first_any S x fs N d k B hk hN (fun i hi _=>flB_code hc i hi) w hr)
 have HON:=Lib.hid (fun (hc : flB x fs = true) (k : Nat) (hk : k < fs.length)=>((stB_iff hk).1 ((flB_iff.1 hc).2.2 k hk)).1)
 have HGP:=Lib.hid (fun (k i : Nat) (h : flB x fs = true) (h2 : fndP fs n b = some k) (hk : k < fs.length) (hb : b = fA fs[k] + (i : Int)) (hi : i < (fS fs[k]).length)=>goP_at (s:=sv) (q:=q) (dat:=dat) h h2 hk hb hi)
 have HG6 : Hid (flB x fs = true → fndP fs n b = none → goP x fs n b sv q dat = ([],6)):=fun h1 h2=>by unfold goP;rw [if_pos h1,h2]
 have HG8 : Hid (¬ flB x fs = true → goP x fs n b sv q dat = ([],8)):=fun h1=>by unfold goP;rw [if_neg h1]
 obtain ⟨mv,hmv⟩ : ∃ z,z = goP x fs n b sv q dat:=⟨_,rfl⟩
 rw [← hmv] at HG6 HG8 HGP ⊢
 have HQ32:=Lib.hid hq
 clear hmv hb hq
 obtain ⟨id,m',c,r,l,h⟩:=x
 unfold Cfg.val at *
 dsimp only at *
 have C0:=BoxOf.new w #[.int .u32 (id : Int),.int .i64 m',.int .i64 c,.int .i64 r,.int .i64 l,.int .i64 h] 24
 have t0:=Ext.alloc (Below.refl w.heap.size w) (.cells #[.int .u32 (id : Int),.int .i64 m',.int .i64 c,.int .i64 r,.int .i64 l,.int .i64 h] 24)
 have HR:=Lib.hid (hr.below t0)
 have HD:=Lib.hid (hd.below t0)
 have HNL:=Lib.hid hN
 clear hr hd hN
 go_enter Try.func15,Try.ntmps15
 go_upto_region 1 with fail
 generalize w.alloc (.cells #[.int .u32 (id : Int),.int .i64 m',.int .i64 c,.int .i64 r,.int .i64 l,.int .i64 h] 24) = W at *
 have x0:=C0.cell
 go_wp2_with fail
 refine (HX.out _ HR.out).mono ?_
 rintro e w1 ⟨he,b1⟩
 have t1:=Ext.trans t0 b1
 have C1:=C0.next b1
 clear x0
 rcases okbad_cases he with ⟨hk,rfl⟩ | ⟨hk,rfl⟩
 rotate_left
 · have hm:=HG8.out hk
   subst hm
   clear he hk
   go_wp2
   go_ret2
   exact ⟨FlRes.bad,t1⟩
 have HK:=Lib.hid hk
 have HFC:=Lib.hid (HF.out w1 (HR.out.below b1) (flB_fit hk))
 have HR1:=Lib.hid (HR.out.below b1)
 have HD1:=Lib.hid (HD.out.below b1)
 clear he hk HX HF HR HD C0 t0 b1 HG8
 go_wp2_with fail
 refine HFC.out.mono ?_
 rintro e w2 ⟨⟨av,iv,is,rfl,hno,hyes⟩,b2⟩
 have t2:=Ext.trans t1 b2
 have C2:=C1.next b2
 have x2:=C2.cell
 clear HFC
 cases is with
 | false=>
   have hm:=HG6.out HK.out (hno rfl)
   subst hm
   clear hno hyes
   go_wp2
   go_ret2
   exact ⟨FlRes.bad,t2⟩
 | true=>
 obtain ⟨k,hf,rfl,hk,i,rfl,hbi,hiM⟩:=hyes rfl
 obtain ⟨m,hfm,hm8,him,hls,hlq,hlb⟩:=oneB_len (HON.out HK.out k hk) hiM
 have hil0 : i < (fS (fs[k]'hk)).length:=by omega
 have HP:=HGP.out k i HK.out hf hk hbi hil0
 have HFK:=Lib.hid (HFI.out w2 (HR1.out.below b2) k hk HK.out)
 have HKL:=Lib.hid hk
 have HR2:=Lib.hid (HR1.out.below b2)
 have HD2:=Lib.hid (HD1.out.below b2)
 have HMV:=Lib.hid HP
 have HL:=Lib.hid (And.intro hm8 (And.intro him (And.intro hls (And.intro hlq hlb))))
 have HFE : Hid (fs[k]'hk = fs[k]'hk):=rfl
 clear hno hyes hf HGP HG6 hbi hiM HP HFI HR1 HD1 HON hfm hm8 him hls hlq hlb HFE
 go_wp2_with fail
 refine HFK.out.mono ?_
 rintro e w3 ⟨rfl,b3⟩
 have t3:=Ext.trans t2 b3
 have HR3:=Lib.hid (HR2.out.below b3)
 have HD3:=Lib.hid (HD2.out.below b3)
 clear x2 HR2 HD2 t1 t2 b2 HFK C1 C2
 obtain ⟨fi,hfi⟩ : ∃ z : Bool,z = firstB fs k:=⟨_,rfl⟩
 rw [← hfi] at HMV ⊢
 clear hfi
 cases fi with
 | false=>
   have hm : mv = ([],6):=by rw [HMV.out,if_neg (fun h=>by cases h.1)]
   subst hm
   go_wp2
   go_ret2
   exact ⟨FlRes.bad,t3⟩
 | true=>
 obtain ⟨bb,off,Ab,cb,As,cs,Aq,cq,Ax,cx,rfl,q0,q1,q2,q3,q4,q5,q6,q7,hints,rD,rS,rQ,rX⟩:=fl_at HR3.out HKL.out
 have hil : i < (fS (fs[k]'HKL.out)).length:=by have:=HL.out;omega
 obtain ⟨bs,os,rfl,k1⟩:=st_at rS hil
 have HST : Hid (mv = if ((fS (fs[k]'HKL.out))[i]'hil).toNat < sv.toNat then (if blkB (kI (fs[k]'HKL.out)) sv q dat.length = true then (fs.set k (fPut (fs[k]'HKL.out) i sv q dat),0) else ([],2)) else ([],6)):=by
  show _ = _
  rw [HMV.out]
  simp only [true_and]
 obtain ⟨st,hst⟩ : ∃ z : Nat,z = ((fS (fs[k]'HKL.out))[i]'hil).toNat:=⟨_,rfl⟩
 rw [← hst] at HST k1
 have HIL:=Lib.hid hil
 have hlS : (fS (fs[k]'HKL.out)).length = m:=HL.out.2.2.1
 rw [hlS] at q5
 have him : i < m:=HL.out.2.1
 have hkN : k < N:=by have:=HKL.out;have:=HNL.out;omega
 clear q0 q1 q2 q3 q4 q6 q7 hints rD rS rQ rX hst hlS HMV
 rcases Bool.eq_false_or_eq_true (decide (sv.toNat ≤ st)) with e1 | e1
 · have hm : mv = ([],6):=by rw [HST.out,if_neg];have:=of_decide_eq_true e1;omega
   subst hm
   go_wp2
   go_ret2
   exact ⟨FlRes.bad,t3⟩
 have HMV : Hid (mv = if blkB (kI (fs[k]'HKL.out)) sv q dat.length = true then (fs.set k (fPut (fs[k]'HKL.out) i sv q dat),0) else ([],2)):=by
  show _ = _
  rw [HST.out,if_pos];have:=of_decide_eq_false e1;omega
 have HTW:=Lib.hid (ftwin_any S fs N d (some ⟨bb,off,none⟩) HNL.out w3 HR3.out)
 clear HST
 go_wp2_with fail
 refine HTW.out.mono ?_
 rintro e w4 ⟨⟨v4,rfl,fn4⟩,b4⟩
 have t4:=Ext.trans t3 b4
 have HD4:=Lib.hid (HD3.out.below b4)
 clear q5 k1 e1 HTW HR3 HD3
 obtain ⟨g,cap,es,Sj,rfl,⟨hFg,hgb,hgl⟩,hcell,⟨vd,vs,vq,vx,hs,T,rfl,hE⟩,hSj,hclose⟩:=OwnE.at fn4 HKL.out
 have hlen : hs.length = m:=by have:=hE.len;have:=HL.out;omega
 have hkl:=HKL.out
 have hcB:=hclose
 clear hclose
 generalize fs[k] = f at *
 have hlS:=HL.out.2.2.1
 have hlQ:=HL.out.2.2.2.1
 have hlB:=HL.out.2.2.2.2
 obtain ⟨gs,cs',cur1,ee1,hSs,_⟩:=hE.st.at (i:=i) (by rw [List.length_map];omega)
 obtain ⟨gq,cq',cur2,ee2,hSq,_⟩:=hE.sq.at (i:=i) (by rw [List.length_map];omega)
 obtain ⟨gx,cx',cur3,ee3,hSx,_⟩:=hE.row.at (i:=i) (by omega)
 rw [List.length_map,hlS] at ee1
 rw [List.length_map,hlQ] at ee2
 rw [hlen] at ee3
 subst ee1 ee2 ee3
 obtain ⟨Ad,cd',eed⟩:=bytesV hE.dat
 subst eed
 have HSJ : Hid (∀ b,Sj b → (w3.heap.size ≤ b ∧ b < w4.heap.size) ∧ b ≠ g):=fun b hb=>⟨(hSj b hb).1,(hSj b hb).2⟩
 have HGS:=Lib.hid (hSj gs hSs).2
 have HGQ:=Lib.hid (hSj gq hSq).2
 have HGX:=Lib.hid (hSj gx hSx).2
 have HSS:=Lib.hid (And.intro hSs (And.intro hSq hSx))
 have HC8 : Hid (∀ w' : World,w'.heap[g]? = w4.heap[g]? → ∀ p,p < 8 → w'.cell? ⟨g,k * 8 + p,none⟩ = (flCells f (.slice Ad (fD f).length cd') (.slice (some ⟨gs,0,none⟩) m cs') (.slice (some ⟨gq,0,none⟩) m cq') (.slice (some ⟨gx,0,none⟩) m cx'))[p]?):=fun w' hw p hp=>by rw [cell_heap hw];exact hcell p hp
 have HS2 : Hid (∀ w' : World,w'.heap[g]? = w4.heap[g]? → (w'.cell? ⟨g,k * 8 + 2 + 3,none⟩ = some (.slice (some ⟨gs,0,none⟩) m cs') ∧ w'.cell? ⟨g,k * 8 + 3 + 3,none⟩ = some (.slice (some ⟨gq,0,none⟩) m cq') ∧ w'.cell? ⟨g,k * 8 + 4 + 3,none⟩ = some (.slice (some ⟨gx,0,none⟩) m cx'))):=fun w' hw=>⟨HC8.out w' hw 5 (by decide),HC8.out w' hw 6 (by decide),HC8.out w' hw 7 (by decide)⟩
 have HE4:=Lib.hid hE
 have HCL:=Lib.hid hcB
 have HHL:=Lib.hid hlen
 clear hcell hSj hcB fn4 hE hSs hSq hSx hFg hlen hlS hlQ hlB
 go_upto_region 9 with fail
 have HGL:=Lib.hid hgl
 clear hkl hgb hgl
 refine wp_region_held_drew (S:=fun w'=>w'.cell? ⟨g,k * 8 + 2 + 3,none⟩ = some (.slice (some ⟨gs,0,none⟩) m cs') ∧ w'.cell? ⟨g,k * 8 + 3 + 3,none⟩ = some (.slice (some ⟨gq,0,none⟩) m cq') ∧ w'.cell? ⟨g,k * 8 + 4 + 3,none⟩ = some (.slice (some ⟨gx,0,none⟩) m cx')) (by kernel_rfl) (HS2.out _ ((Ext.drew (Below.refl w4.heap.size w4)).block g HGL.out)) (fun hS=>?_)
 have bd:=Ext.drew (Below.refl w4.heap.size w4)
 have HDD:=Lib.hid (HD4.out.below bd)
 generalize w4.drew = wd at *
 refine wpAnyH_take (i:=0) (v:=?_) rfl (by kernel_rfl) (by kernel_rfl) (by kernel_rfl) (fun _ _ _ h=>h) (Or.inl ⟨by rfl,?_⟩) hS ?_
 rotate_left
 · (intro w hSw;(try dsimp only at hSw);go_simp;(try with_reducible rfl))
 rotate_left
 simp only [Act.put,zq0,zq1,zq2,zq3,zq4,zq5]
 refine wpAnyH_take (i:=1) (v:=?_) rfl (by kernel_rfl) (by kernel_rfl) (by kernel_rfl) (fun _ _ _ h=>h) (Or.inl ⟨by rfl,?_⟩) hS ?_
 rotate_left
 · (intro w hSw;(try dsimp only at hSw);go_simp;(try with_reducible rfl))
 rotate_left
 simp only [Act.put,zq0,zq1,zq2,zq3,zq4,zq5]
 refine wpAnyH_take (i:=2) (v:=?_) rfl (by kernel_rfl) (by kernel_rfl) (by kernel_rfl) (fun _ _ _ h=>h) (Or.inl ⟨by rfl,?_⟩) hS ?_
 rotate_left
 · (intro w hSw;(try dsimp only at hSw);go_simp;(try with_reducible rfl))
 rotate_left
 simp only [Act.put,zq0,zq1,zq2,zq3,zq4,zq5]
 refine wpAnyH_take (i:=3) (v:=?_) rfl (by kernel_rfl) (by kernel_rfl) (by kernel_rfl) (fun _ _ _ h=>h) (Or.inl ⟨by rfl,?_⟩) hS ?_
 rotate_left
 · (intro w hSw;(try dsimp only at hSw);go_simp;(try with_reducible rfl))
 rotate_left
 simp only [Act.put,zq0,zq1,zq2,zq3,zq4,zq5]
 refine wpAnyH_take (i:=4) (v:=?_) rfl (by kernel_rfl) (by kernel_rfl) (by kernel_rfl) (fun _ _ _ h=>h) (Or.inl ⟨by rfl,?_⟩) hS ?_
 rotate_left
 · (intro w hSw;(try dsimp only at hSw);go_simp;(try with_reducible rfl))
 rotate_left
 simp only [Act.put,zq0,zq1,zq2,zq3,zq4,zq5]
 refine wpAnyH_take (i:=5) (v:=?_) rfl (by kernel_rfl) (by kernel_rfl) (by kernel_rfl) (fun _ _ _ h=>h) (Or.inl ⟨by rfl,?_⟩) hS ?_
 rotate_left
 · (intro w hSw;(try dsimp only at hSw);go_simp;(try with_reducible rfl))
 rotate_left
 simp only [Act.put,zq0,zq1,zq2,zq3,zq4,zq5]
 refine wpAnyH_take (i:=6) (v:=?_) rfl (by kernel_rfl) (by kernel_rfl) (by kernel_rfl) (fun _ _ _ h=>h) (Or.inl ⟨by rfl,?_⟩) hS ?_
 rotate_left
 · (intro w hSw;(try dsimp only at hSw);go_simp;(try with_reducible rfl))
 rotate_left
 simp only [Act.put,zq0,zq1,zq2,zq3,zq4,zq5]
 refine wpAnyH_take (i:=7) (v:=?_) rfl (by kernel_rfl) (by kernel_rfl) (by kernel_rfl) (fun _ _ _ h=>h) (Or.inl ⟨by rfl,?_⟩) hS ?_
 rotate_left
 · (intro w hSw;(try dsimp only at hSw);go_simp;(try with_reducible rfl))
 rotate_left
 simp only [Act.put,zq0,zq1,zq2,zq3,zq4,zq5]
 refine wpAnyH_take (i:=8) (v:=?_) rfl (by kernel_rfl) (by kernel_rfl) (by kernel_rfl) (fun _ _ _ h=>h) (Or.inl ⟨by rfl,?_⟩) hS ?_
 rotate_left
 · (intro w hSw;(try dsimp only at hSw);go_simp;(try with_reducible rfl))
 rotate_left
 simp only [Act.put,zq0,zq1,zq2,zq3,zq4,zq5]
 refine wpAnyH_take (i:=9) (v:=?_) rfl (by kernel_rfl) (by kernel_rfl) (by kernel_rfl) (fun _ _ _ h=>h) (Or.inl ⟨by rfl,?_⟩) hS ?_
 rotate_left
 · (intro w hSw;(try dsimp only at hSw);go_simp;(try with_reducible rfl))
 rotate_left
 simp only [Act.put,zq0,zq1,zq2,zq3,zq4,zq5]
 refine wpAnyH_take (i:=10) (v:=?_) rfl (by kernel_rfl) (by kernel_rfl) (by kernel_rfl) (fun _ _ _ h=>h) (Or.inl ⟨by rfl,?_⟩) hS ?_
 rotate_left
 · (intro w hSw;(try dsimp only at hSw);go_simp;(try with_reducible rfl))
 rotate_left
 simp only [Act.put,zq0,zq1,zq2,zq3,zq4,zq5]
 refine wpAnyH_take (i:=11) (v:=?_) rfl (by kernel_rfl) (by kernel_rfl) (by kernel_rfl) (fun _ _ _ h=>h) (Or.inl ⟨by rfl,?_⟩) hS ?_
 rotate_left
 · (intro w hSw;(try dsimp only at hSw);go_simp;(try with_reducible rfl))
 rotate_left
 simp only [Act.put,zq0,zq1,zq2,zq3,zq4,zq5]
 refine wpAnyH_take (i:=12) (v:=?_) rfl (by kernel_rfl) (by kernel_rfl) (by kernel_rfl) (fun _ _ _ h=>h) (Or.inl ⟨by rfl,?_⟩) hS ?_
 rotate_left
 · (intro w hSw;(try dsimp only at hSw);go_simp;(try with_reducible rfl))
 rotate_left
 simp only [Act.put,zq0,zq1,zq2,zq3,zq4,zq5]
 refine wpAnyH_take (i:=13) (v:=?_) rfl (by kernel_rfl) (by kernel_rfl) (by kernel_rfl) (fun _ _ _ h=>h) (Or.inl ⟨by rfl,?_⟩) hS ?_
 rotate_left
 · (intro w hSw;(try dsimp only at hSw);go_simp;(try with_reducible rfl))
 rotate_left
 simp only [Act.put,zq0,zq1,zq2,zq3,zq4,zq5]
 refine wpAnyH_take (i:=14) (v:=?_) rfl (by kernel_rfl) (by kernel_rfl) (by kernel_rfl) (fun _ _ _ h=>h) (Or.inl ⟨by rfl,?_⟩) hS ?_
 rotate_left
 · (intro w hSw;(try dsimp only at hSw);go_simp;(try with_reducible rfl))
 rotate_left
 simp only [Act.put,zq0,zq1,zq2,zq3,zq4,zq5]
 refine wpAnyH_take (i:=15) (v:=?_) rfl (by kernel_rfl) (by kernel_rfl) (by kernel_rfl) (fun _ _ _ h=>h) (Or.inl ⟨by rfl,?_⟩) hS ?_
 rotate_left
 · (intro w hSw;(try dsimp only at hSw);go_simp;(try with_reducible rfl))
 rotate_left
 simp only [Act.put,zq0,zq1,zq2,zq3,zq4,zq5]
 refine wpAnyH_take (i:=16) (v:=?_) rfl (by kernel_rfl) (by kernel_rfl) (by kernel_rfl) (fun _ _ _ h=>h) (Or.inl ⟨by rfl,?_⟩) hS ?_
 rotate_left
 · (intro w hSw;(try dsimp only at hSw);go_simp;(try with_reducible rfl))
 rotate_left
 simp only [Act.put,zq0,zq1,zq2,zq3,zq4,zq5]
 refine wpAnyH_take (i:=17) (v:=?_) rfl (by kernel_rfl) (by kernel_rfl) (by kernel_rfl) (fun _ _ _ h=>h) (Or.inl ⟨by rfl,?_⟩) hS ?_
 rotate_left
 · (intro w hSw;(try dsimp only at hSw);go_simp;(try with_reducible rfl))
 rotate_left
 simp only [Act.put,zq0,zq1,zq2,zq3,zq4,zq5]
 refine wpAnyH_ready (rs:=[18]) (by kernel_rfl) (by simp) ?_
 refine AllReadyH.cons rfl (fun K hK=>?_) AllReadyH.nil
 rw [if_pos (by rfl)]
 go_simp
 refine (clone_any S dat D dq _ HDD.out).mono ?_
 rintro e w5 ⟨⟨vdd,rfl,rd5⟩,b5⟩
 obtain ⟨Au,cu,eu⟩:=bytesV rd5
 subst eu
 have b45:=Ext.trans bd b5
 have h5:=b45.block g HGL.out
 have E5:=HE4.out.frame (w':=w5) (fun b hb=>b45.block b (HSJ.out b hb).1.2)
 have F5 : Hid (∀ b,b < w4.heap.size → w5.heap[b]? = w4.heap[b]?):=fun b hb=>b45.block b hb
 have HB5:=Lib.hid b45
 have HLD:=Lib.hid (show w4.heap.size ≤ wd.heap.size from bd.size)
 have HRD:=Lib.hid rd5
 clear bd b5 rd5 b45 HE4
 refine hK.out _ _ (HS2.out _ h5) (fun hS'=>?_)
 clear hK K hS
 have hS:=hS'
 clear hS'
 try simp only [Act.put,zq0,zq1,zq2,zq3,zq4,zq5]
 refine wpAnyH_take (i:=19) (v:=?_) rfl (by kernel_rfl) (by kernel_rfl) (by kernel_rfl) (fun _ _ _ h=>h) (Or.inl ⟨by rfl,?_⟩) hS ?_
 rotate_left
 · (intro w hSw;(try dsimp only at hSw);go_simp;(try with_reducible rfl))
 rotate_left
 simp only [Act.put,zq0,zq1,zq2,zq3,zq4,zq5]
 refine wpAnyH_ready (rs:=[20]) (by kernel_rfl) (by simp) ?_
 refine AllReadyH.cons rfl (fun K hK=>?_) AllReadyH.nil
 rw [if_pos (by rfl)]
 obtain ⟨_,kc,kf,kl⟩:=E5.st.slot (i:=i) (by rw [List.length_map];exact HIL.out)
 go_simp
 have E6 : FlEs (w5.setCell ⟨gs,i,none⟩ (.int .u8 ((sv.toNat : Nat) : Int))) _ _ _ _ _ _ _ _:=E5.setS HIL.out sv
 have h6 : (w5.setCell ⟨gs,i,none⟩ (.int .u8 ((sv.toNat : Nat) : Int))).heap[g]? = w4.heap[g]?:=(Below.heap_setCell _ _ _ _ (show g ≠ gs from fun e=>HGS.out e.symm)).trans h5
 have F6 : Hid (∀ b,b < w4.heap.size → b ≠ gs → (w5.setCell ⟨gs,i,none⟩ (.int .u8 ((sv.toNat : Nat) : Int))).heap[b]? = w4.heap[b]?):=fun b hb hn=>(Below.heap_setCell _ _ _ _ hn).trans (F5.out b hb)
 have HB6:=Lib.hid (Below.setCell (p:=⟨gs,i,none⟩) (Ext.trans t4 HB5.out) (Nat.le_trans t3.size (HSJ.out gs HSS.out.1).1.1) (.int .u8 ((sv.toNat : Nat) : Int)))
 have R6:=HRD.out.frame (w':=w5.setCell ⟨gs,i,none⟩ (.int .u8 ((sv.toNat : Nat) : Int))) (fun b hb=>Below.heap_setCell _ _ _ _ (show b ≠ gs by have:=hb.1;have:=(HSJ.out gs HSS.out.1).1.2;have:=HLD.out;omega))
 have L6 : Hid (∀ b,NewB wd.heap.size w5 b → Live (w5.setCell ⟨gs,i,none⟩ (.int .u8 ((sv.toNat : Nat) : Int))) b):=fun b hb=>live_set hb.2.2 _ _
 have Z6 : (w5.setCell ⟨gs,i,none⟩ (.int .u8 ((sv.toNat : Nat) : Int))).heap.size = w5.heap.size:=msize _ _ _
 refine hK.out _ _ (HS2.out _ h6) (fun hS'=>?_)
 clear hK K hS kc kf kl E5 h5 F5
 have hS:=hS'
 clear hS'
 try simp only [Act.put,zq0,zq1,zq2,zq3,zq4,zq5]
 generalize w5.setCell ⟨gs,i,none⟩ (.int .u8 ((sv.toNat : Nat) : Int)) = w6 at *
 refine wpAnyH_take (i:=21) (v:=?_) rfl (by kernel_rfl) (by kernel_rfl) (by kernel_rfl) (fun _ _ _ h=>h) (Or.inl ⟨by rfl,?_⟩) hS ?_
 rotate_left
 · (intro w hSw;(try dsimp only at hSw);go_simp;(try with_reducible rfl))
 rotate_left
 simp only [Act.put,zq0,zq1,zq2,zq3,zq4,zq5]
 refine wpAnyH_ready (rs:=[22]) (by kernel_rfl) (by simp) ?_
 refine AllReadyH.cons rfl (fun K hK=>?_) AllReadyH.nil
 rw [if_pos (by rfl)]
 obtain ⟨_,kc,kf,kl⟩:=E6.sq.slot (i:=i) (by rw [List.length_map];have h1:=HL.out;show i < (fQ f).length;omega)
 go_simp
 have E7 : FlEs (w6.setCell ⟨gq,i,none⟩ (.int .u32 (q : Int))) _ _ _ _ _ _ _ _:=E6.setQ (show i < (fQ f).length by have h1:=HL.out;omega) q HQ32.out
 have h7 : (w6.setCell ⟨gq,i,none⟩ (.int .u32 (q : Int))).heap[g]? = w4.heap[g]?:=(Below.heap_setCell _ _ _ _ (show g ≠ gq from fun e=>HGQ.out e.symm)).trans h6
 have F7 : Hid (∀ b,b < w4.heap.size → b ≠ gs → b ≠ gq → (w6.setCell ⟨gq,i,none⟩ (.int .u32 (q : Int))).heap[b]? = w4.heap[b]?):=fun b hb hn hn2=>(Below.heap_setCell _ _ _ _ hn2).trans (F6.out b hb hn)
 have HB7:=Lib.hid (Below.setCell (p:=⟨gq,i,none⟩) HB6.out (Nat.le_trans t3.size (HSJ.out gq HSS.out.2.1).1.1) (.int .u32 (q : Int)))
 have R7:=R6.frame (w':=w6.setCell ⟨gq,i,none⟩ (.int .u32 (q : Int))) (fun b hb=>Below.heap_setCell _ _ _ _ (show b ≠ gq by have:=hb.1;have:=(HSJ.out gq HSS.out.2.1).1.2;have:=HLD.out;omega))
 have L7 : Hid (∀ b,NewB wd.heap.size w5 b → Live (w6.setCell ⟨gq,i,none⟩ (.int .u32 (q : Int))) b):=fun b hb=>live_set (L6.out b hb) _ _
 have Z7 : (w6.setCell ⟨gq,i,none⟩ (.int .u32 (q : Int))).heap.size = w5.heap.size:=(msize _ _ _).trans Z6
 refine hK.out _ _ (HS2.out _ h7) (fun hS'=>?_)
 clear hK K hS kc kf kl E6 h6 F6 R6 L6 Z6 HB6
 have hS:=hS'
 clear hS'
 try simp only [Act.put,zq0,zq1,zq2,zq3,zq4,zq5]
 generalize w6.setCell ⟨gq,i,none⟩ (.int .u32 (q : Int)) = w7 at *
 refine wpAnyH_take (i:=23) (v:=?_) rfl (by kernel_rfl) (by kernel_rfl) (by kernel_rfl) (fun _ _ _ h=>h) (Or.inl ⟨by rfl,?_⟩) hS ?_
 rotate_left
 · (intro w hSw;(try dsimp only at hSw);go_simp;(try with_reducible rfl))
 rotate_left
 simp only [Act.put,zq0,zq1,zq2,zq3,zq4,zq5]
 refine wpAnyH_ready (rs:=[24]) (by kernel_rfl) (by simp) ?_
 refine AllReadyH.cons rfl (fun K hK=>?_) AllReadyH.nil
 rw [if_pos (by rfl)]
 obtain ⟨_,kc,kf,kl⟩:=E7.row.slot (i:=i) (by have h1:=HL.out;have:=HHL.out;omega)
 go_simp
 have E8:=E7.setB (show i < (fB f).length by have h1:=HL.out;omega) R7 (fun b hb=>⟨fun hj=>by have:=hb.1;have:=(HSJ.out b hj).1.2;have:=HLD.out;omega,L7.out b hb⟩) E7.own
 have h8 : (w7.setCell ⟨gx,i,none⟩ (.slice Au dat.length cu)).heap[g]? = w4.heap[g]?:=(Below.heap_setCell _ _ _ _ (show g ≠ gx from fun e=>HGX.out e.symm)).trans h7
 have F8 : Hid (∀ b,b < w4.heap.size → b ≠ gs → b ≠ gq → b ≠ gx → (w7.setCell ⟨gx,i,none⟩ (.slice Au dat.length cu)).heap[b]? = w4.heap[b]?):=fun b hb hn hn2 hn3=>(Below.heap_setCell _ _ _ _ hn3).trans (F7.out b hb hn hn2)
 have t8:=Below.setCell (p:=⟨gx,i,none⟩) HB7.out (Nat.le_trans t3.size (HSJ.out gx HSS.out.2.2).1.1) (.slice Au dat.length cu)
 have Z8 : (w7.setCell ⟨gx,i,none⟩ (.slice Au dat.length cu)).heap.size = w5.heap.size:=(msize _ _ _).trans Z7
 refine hK.out _ _ (HS2.out _ h8) (fun hS'=>?_)
 clear hK K hS kc kf kl E7 h7 F7 R7 L7 Z7 HB7 hS'
 try simp only [Act.put,zq0,zq1,zq2,zq3,zq4,zq5]
 generalize w7.setCell ⟨gx,i,none⟩ (.slice Au dat.length cu) = w8 at *
 refine wpAnyH_done (by kernel_rfl) ?_ _
 have FNF:=HCL.out w8 (NewB wd.heap.size w5) (fPut f i sv q dat) ⟨_,_,_,_,_,_,rfl,E8⟩ (fun b hb hnb=>F8.out b hb.2 (fun e=>hnb (by rw [e];exact HSS.out.1)) (fun e=>hnb (by rw [e];exact HSS.out.2.1)) (fun e=>hnb (by rw [e];exact HSS.out.2.2))) (fun b hb hF=>by have:=hb.1;have:=hF.2;have:=HLD.out;omega)
 have HFN : Hid (FlNew w3.heap.size (fs.set k (fPut f i sv q dat)) (.slice (some ⟨g,0,none⟩) fs.length cap) w8):=FNF.mono fun b hb=>by
  have h1:=HB5.out.size
  rcases hb with hb | hb
  · exact ⟨hb.1,by rw [Z8];have:=hb.2;omega⟩
  · exact ⟨by have:=hb.1;have:=HLD.out;have:=b4.size;omega,by rw [Z8];exact hb.2.1⟩
 have ks : w8.cell? ⟨gs,0 + i,none⟩ = some (.int .u8 ((sv.toNat : Nat) : Int)):=by
  rw [Nat.zero_add]
  refine (E8.st.slot (i:=i) (by rw [List.length_map];show i < ((fS f).set i sv).length;rw [List.length_set];exact HIL.out)).2.1.trans ?_
  rw [List.getElem_map]
  exact set_byteV (l:=fS f) _
 have kq : w8.cell? ⟨gq,0 + i,none⟩ = some (.int .u32 (q : Int)):=by
  rw [Nat.zero_add]
  refine (E8.sq.slot (i:=i) (by rw [List.length_map];show i < ((fQ f).set i q).length;rw [List.length_set];have h1:=HL.out;omega)).2.1.trans ?_
  rw [List.getElem_map]
  exact set_seqV (l:=fQ f) _
 have kx : w8.cell? ⟨gx,0 + i,none⟩ = some (.slice Au dat.length cu):=by
  rw [Nat.zero_add]
  refine (E8.row.slot (i:=i) (by rw [List.length_set];have h1:=HL.out;have:=HHL.out;omega)).2.1.trans ?_
  rw [List.getElem_set_self]
 have him2 : i < m:=HL.out.2.1
 have HBK:=Lib.hid (fblock_any (fN f) (kI f) (fA f) (fM f) Ad (fD f).length cd' m cs' m cq' m cx' i sv.toNat q dat.length cu gs 0 gq 0 gx 0 Au w8 him2 him2 him2 (by unfold maxLen;have:=HL.out.1;omega) ks kq kx)
 have y0 : w8.cell? ⟨g,k * 8,none⟩ = some (.int .i64 (fN f)):=HC8.out w8 h8 0 (by decide)
 have y1 : w8.cell? ⟨g,k * 8 + 1,none⟩ = some (.int .u8 (kI f)):=HC8.out w8 h8 1 (by decide)
 have y2 : w8.cell? ⟨g,k * 8 + 2,none⟩ = some (.int .i64 (fA f)):=HC8.out w8 h8 2 (by decide)
 have y3 : w8.cell? ⟨g,k * 8 + 3,none⟩ = some (.int .i64 (fM f)):=HC8.out w8 h8 3 (by decide)
 have y4 : w8.cell? ⟨g,k * 8 + 4,none⟩ = some (.slice Ad (fD f).length cd'):=HC8.out w8 h8 4 (by decide)
 have y5 : w8.cell? ⟨g,k * 8 + 5,none⟩ = some (.slice (some ⟨gs,0,none⟩) m cs'):=HC8.out w8 h8 5 (by decide)
 have y6 : w8.cell? ⟨g,k * 8 + 6,none⟩ = some (.slice (some ⟨gq,0,none⟩) m cq'):=HC8.out w8 h8 6 (by decide)
 have y7 : w8.cell? ⟨g,k * 8 + 7,none⟩ = some (.slice (some ⟨gx,0,none⟩) m cx'):=HC8.out w8 h8 7 (by decide)
 have HBL : Hid (blkP (kI f) sv.toNat q dat.length = blkB (kI f) sv q dat.length):=rfl
 have HT3:=Lib.hid t3.size
 have HNL2 : Hid ((fs.set k (fPut f i sv q dat)).length = fs.length):=by show _ = _;rw [List.length_set]
 clear E8 F8 h8 Z8 FNF ks kq kx HB5 HSJ HGS HGQ HGX HSS HRD HLD t3 t4 b4 b3 HS2 HC8
 go_wp2_with fail
 refine HBK.out.mono ?_
 rintro e w9 ⟨rfl,b9⟩
 have t9:=Ext.trans t8 b9
 have HFN9 : Hid (FlNew w3.heap.size (fs.set k (fPut f i sv q dat)) (.slice (some ⟨g,0,none⟩) fs.length cap) w9):=OwnE.step HFN.out b9
 clear y0 y1 y2 y3 y4 y5 y6 y7 HBK HFN t8
 obtain ⟨bk,hbk⟩ : ∃ z : Bool,z = blkP (kI f) sv.toNat q dat.length:=⟨_,rfl⟩
 rw [← hbk] at HBL ⊢
 clear hbk
 cases bk with
 | false=>
   have hm : mv = ([],2):=by rw [HMV.out,if_neg];rw [← HBL.out];exact Bool.false_ne_true
   subst hm
   go_wp2
   go_ret2
   exact ⟨FlRes.bad,t9⟩
 | true=>
   have hm : mv = (fs.set k (fPut f i sv q dat),0):=by rw [HMV.out,if_pos HBL.out.symm]
   subst hm
   go_wp2
   go_ret2
   exact ⟨FlRes.mk HNL2.out (HFN9.out.low HT3.out),t9⟩
end Go.Proofs.Ythapabjlhooglaa
namespace Go.Proofs.Ythapabjlhooglaa
open Go Go.RowKit Go.Maps
set_option linter.unusedSimpArgs false
set_option linter.unusedVariables false
abbrev LvTy : Ty:=.st (.prod .u32 (.prod .int (.prod .int (.prod .bool (.prod .bool (.prod .bool .unit))))))
abbrev LvRaw : Type:=Nat × Int × Int × Bool × Bool × Bool × Unit
def lvQ (x : LvTy.T) : Nat:=(show LvRaw from x).1
def lvS (x : LvTy.T) : Int:=(show LvRaw from x).2.1
def lvN (x : LvTy.T) : Int:=(show LvRaw from x).2.2.1
def lvP (x : LvTy.T) : Bool:=(show LvRaw from x).2.2.2.1
def lvU (x : LvTy.T) : Bool:=(show LvRaw from x).2.2.2.2.1
def lvH (x : LvTy.T) : Bool:=(show LvRaw from x).2.2.2.2.2.1
abbrev LogTy : Ty:=.st (.prod .u32 (.prod .u32 (.prod .int (.prod .int (.prod (.sl LvTy) .unit)))))
abbrev LogRaw : Type:=Nat × Nat × Int × Int × List LvTy.T × Unit
def lgA (g : LogTy.T) : Nat:=(show LogRaw from g).1
def lgQ (g : LogTy.T) : Nat:=(show LogRaw from g).2.1
def lgT (g : LogTy.T) : Int:=(show LogRaw from g).2.2.1
def lgU (g : LogTy.T) : Int:=(show LogRaw from g).2.2.2.1
def lgL (g : LogTy.T) : List LvTy.T:=(show LogRaw from g).2.2.2.2.1
section
variable {w : World} {S : Nat → Prop}
theorem lv_view {x : LvTy.T} {cs : List Value} (h : RdIn w S LvTy x cs) : cs = (#[.int .u32 (lvQ x : Int),.int .i64 (lvS x),.int .i64 (lvN x),.bool (lvP x),.bool (lvU x),.bool (lvH x)] : Array Value).toList ∧ lvQ x < 2 ^ 32 ∧ IsInt (lvS x) ∧ IsInt (lvN x):=by
 obtain ⟨q,s,n,p,u,k,z⟩:=x
 obtain ⟨c0,d0,rfl,r0,h⟩:=rdin_prod.1 (rdin_st.1 h)
 obtain ⟨c1,d1,rfl,r1,h⟩:=rdin_prod.1 h
 obtain ⟨c2,d2,rfl,r2,h⟩:=rdin_prod.1 h
 obtain ⟨c3,d3,rfl,r3,h⟩:=rdin_prod.1 h
 obtain ⟨c4,d4,rfl,r4,h⟩:=rdin_prod.1 h
 obtain ⟨c5,d5,rfl,r5,h⟩:=rdin_prod.1 h
 obtain rfl:=rdin_unit.1 h
 obtain ⟨rfl,i0⟩:=rdin_u32.1 r0
 obtain ⟨rfl,i1⟩:=rdin_int.1 r1
 obtain ⟨rfl,i2⟩:=rdin_int.1 r2
 obtain rfl:=rdin_bool.1 r3
 obtain rfl:=rdin_bool.1 r4
 obtain rfl:=rdin_bool.1 r5
 exact ⟨rfl,i0,i1,i2⟩
theorem lg_view {g : LogTy.T} {cs : List Value} (h : RdIn w S LogTy g cs) : ∃ L c,cs = [.int .u32 (lgA g : Int),.int .u32 (lgQ g : Int),.int .i64 (lgT g),.int .i64 (lgU g),.slice L (lgL g).length c] ∧ (lgA g < 2 ^ 32 ∧ lgQ g < 2 ^ 32 ∧ IsInt (lgT g) ∧ IsInt (lgU g)) ∧ RdIn w S (.sl LvTy) (lgL g) [.slice L (lgL g).length c]:=by
 obtain ⟨a,q,t,u,ls,z⟩:=g
 obtain ⟨c0,d0,rfl,r0,h⟩:=rdin_prod.1 (rdin_st.1 h)
 obtain ⟨c1,d1,rfl,r1,h⟩:=rdin_prod.1 h
 obtain ⟨c2,d2,rfl,r2,h⟩:=rdin_prod.1 h
 obtain ⟨c3,d3,rfl,r3,h⟩:=rdin_prod.1 h
 obtain ⟨c4,d4,rfl,r4,h⟩:=rdin_prod.1 h
 obtain rfl:=rdin_unit.1 h
 obtain ⟨rfl,i0⟩:=rdin_u32.1 r0
 obtain ⟨rfl,i1⟩:=rdin_u32.1 r1
 obtain ⟨rfl,i2⟩:=rdin_int.1 r2
 obtain ⟨rfl,i3⟩:=rdin_int.1 r3
 obtain ⟨L,c,e,_⟩:=rdin_sl.1 r4
 subst e
 exact ⟨L,c,rfl,⟨i0,i1,i2,i3⟩,r4⟩
theorem lv_max {ls : List LvTy.T} {v : Value} (h : RdIn w S (.sl LvTy) ls [v]) : ls.length ≤ maxLen:=by
 obtain ⟨A,c,_,h2,h3,_⟩:=list_view h
 exact Nat.le_trans h2 h3
theorem lv_at {ls : List LvTy.T} {B : Option Addr} {n d : Nat} (h : RdIn w S (.sl LvTy) ls [.slice B n d]) {j : Nat} (hj : j < ls.length) :
 ∃ b off,B = some ⟨b,off,none⟩ ∧ w.cell? ⟨b,off + j * 6,none⟩ = some (.int .u32 (lvQ (ls[j]'hj) : Int)) ∧ w.cell? ⟨b,off + j * 6 + 1,none⟩ = some (.int .i64 (lvS (ls[j]'hj))) ∧ w.cell? ⟨b,off + j * 6 + 2,none⟩ = some (.int .i64 (lvN (ls[j]'hj))) ∧ w.cell? ⟨b,off + j * 6 + 3,none⟩ = some (.bool (lvP (ls[j]'hj))) ∧ w.cell? ⟨b,off + j * 6 + 4,none⟩ = some (.bool (lvU (ls[j]'hj))) ∧ w.cell? ⟨b,off + j * 6 + 5,none⟩ = some (.bool (lvH (ls[j]'hj))) ∧ (lvQ (ls[j]'hj) < 2 ^ 32 ∧ IsInt (lvS (ls[j]'hj)) ∧ IsInt (lvN (ls[j]'hj))):=by
 obtain ⟨A1,c1,e1,_,_,_,hr1⟩:=list_view h
 injection e1 with e11 e12 e13
 obtain ⟨b,off,e2,_,hrow⟩:=hr1 (by omega)
 obtain ⟨es,hc,rg⟩:=hrow j hj
 obtain ⟨rfl,hi⟩:=lv_view rg
 exact ⟨b,off,e11.trans e2,hc 0 (by decide),hc 1 (by decide),hc 2 (by decide),hc 3 (by decide),hc 4 (by decide),hc 5 (by decide),hi⟩
end
def dirtyD : List LvTy.T → DataW Unit → DataW Unit
 | [],D=>D
 | x :: xs,D=>dirtyD xs (if lvP x then (D.put (.int .i64 (lvS x)) (.lit (.bool true))).del (.int .i64 (lvS x)) else D.put (.int .i64 (lvS x)) (.lit (.bool true)))
theorem dirtyD_step : ∀ (xs : List LvTy.T) (x : LvTy.T) (D : DataW Unit),dirtyD (xs ++ [x]) D = if lvP x then ((dirtyD xs D).put (.int .i64 (lvS x)) (.lit (.bool true))).del (.int .i64 (lvS x)) else (dirtyD xs D).put (.int .i64 (lvS x)) (.lit (.bool true))
 | [],x,D=>by simp [dirtyD]
 | y :: xs,x,D=>by
   rw [List.cons_append]
   unfold dirtyD
   rw [dirtyD_step xs x]
def dirtyN (ls : List LvTy.T) : Int:=Maps.size (dirtyD ls (.map []))
theorem plainB : plainElem (H:=Unit) Try.prog 4 (.bool true) = some (.lit (.bool true),[]):=by kernel_rfl
set_option maxRecDepth 100000 in
set_option maxHeartbeats 4000000 in
theorem ldirty_any (S : Nat → Prop) (ls : List LvTy.T) (n lc : Nat) (L : Option Addr) (hn : ls.length = n) (hn9 : n ≤ 1000) (gR : Nat) (ga gq : Nat) (gt gu : Int) (id : Nat) (m c r l h : Int) (w : World) (hb : BoxOf w gR #[.int .u32 (ga : Int),.int .u32 (gq : Int),.int .i64 gt,.int .i64 gu,.slice L n lc,.int .u32 (id : Int),.int .i64 m,.int .i64 c,.int .i64 r,.int .i64 l,.int .i64 h] 120) (hr : RdIn w S (.sl LvTy) ls [.slice L n lc]) :
 Calls Try.prog 99 #[.pointer (some ⟨gR,0,none⟩)] w fun e w'=>e = .returned (.int .i64 (dirtyN ls)) ∧ Below w.heap.size w w':=by
 have hmm:=@run_makeMap Try.prog
 have m0:=World.ownsMap_made w Try.prog 3 (plainElem (H:=Unit) Try.prog 4)
 have t0:=Ext.alloc (Below.refl w.heap.size w) (.map #[] 0)
 have hlb:=hb.lt
 have B0:=hb.next t0
 have HR:=Lib.hid hr
 have HNL:=Lib.hid hn
 have HN9:=Lib.hid hn9
 have HLB:=Lib.hid hlb
 have HM0:=Lib.hid m0
 clear hr hn hb hlb m0 hn9
 go_enter Try.func99,Try.ntmps99
 go_upto_region 2 with fail
 have hsz : (w.alloc (.map #[] 0)).heap.size = w.heap.size + 1:=by simp
 have HSZ:=Lib.hid hsz
 clear hmm hsz
 generalize w.alloc (.map #[] 0) = W at *
 have x0:=B0.cell
 go_wp2
 go_loopw [13] (fun i wr=>∃ j : Nat,j ≤ n ∧ i = .int .i64 j ∧ wr.ownsMap Try.prog 3 (plainElem (H:=Unit) Try.prog 4) w.heap.size j (dirtyD (ls.take j) (.map [])) ∧ Below w.heap.size w wr) (fun i _=>n - (intOf i).toNat)
 case atStart=>exact ⟨0,Nat.zero_le _,rfl,HM0.out,t0⟩
 case round=>
  obtain ⟨j,hj,rfl,hown,bj⟩:=hrel
  by_cases hlt : j < n
  · have hlf : j < ls.length:=by have:=HNL.out;omega
    obtain ⟨b,off,rfl,q0,q1,q2,q3,q4,q5,hi⟩:=lv_at (HR.out.below bj) hlf
    have HST:=Lib.hid (show ls.take (j + 1) = ls.take j ++ [ls[j]] from List.take_succ_eq_append_getElem hlf)
    have HDS:=Lib.hid (dirtyD_step (ls.take j) (ls[j]) (.map []))
    have HI:=Lib.hid hi
    generalize ls[j] = x at *
    have HWJ:=IntWalk.wrap64_in ((j : Int) + 1) (by have:=HN9.out;omega)
    have bA:=Ext.alloc bj (.cells #[.int .u32 (lvQ x : Int),.int .i64 (lvS x),.int .i64 (lvN x),.bool (lvP x),.bool (lvU x),.bool (lvH x)] 73)
    have G1:=BoxOf.new wr #[.int .u32 (lvQ x : Int),.int .i64 (lvS x),.int .i64 (lvN x),.bool (lvP x),.bool (lvU x),.bool (lvH x)] 73
    have HM1:=Lib.hid (hown.alloc (.cells #[.int .u32 (lvQ x : Int),.int .i64 (lvS x),.int .i64 (lvN x),.bool (lvP x),.bool (lvU x),.bool (lvH x)] 73))
    have hne : wr.heap.size ≠ w.heap.size:=by have:=hown.lt;omega
    have HNE:=Lib.hid hne
    have HK:=Lib.hid (keyOf_int_mk Try.underlying3 (WalkArith.wf_i64 (n:=lvS x) HI.out.2.1))
    have HJ9 : Hid (j < maxLen):=by have:=HN9.out;unfold maxLen;show _ < _;omega
    have HBL:=Lib.hid bj.size
    clear hown hlf hi hne bj
    go_upto_region 5 with fail
    clear q0 q1 q2 q3 q4 q5
    obtain ⟨gl,hgl⟩ : ∃ z : Nat,z = wr.heap.size:=⟨_,rfl⟩
    rw [← hgl] at G1 HNE ⊢
    clear hgl
    generalize wr.alloc (.cells #[.int .u32 (lvQ x : Int),.int .i64 (lvS x),.int .i64 (lvN x),.bool (lvP x),.bool (lvU x),.bool (lvH x)] 73) = W1 at *
    have x1:=G1.cell
    have HFIN : Hid (∀ W2 : World,Below w.heap.size w W2 → W2.ownsMap Try.prog 3 (plainElem (H:=Unit) Try.prog 4) w.heap.size (j + 1) (dirtyD (ls.take (j + 1)) (.map [])) → ∃ j' : Nat,j' ≤ n ∧ (Value.int .i64 ((j : Int) + 1)) = .int .i64 j' ∧ W2.ownsMap Try.prog 3 (plainElem (H:=Unit) Try.prog 4) w.heap.size j' (dirtyD (ls.take j') (.map [])) ∧ Below w.heap.size w W2):=fun W2 h1 h2=>⟨j + 1,hlt,rfl,h2,h1⟩
    have HLT:=Lib.hid hlt
    rw [HST.out] at HFIN
    clear HST
    rcases Bool.eq_false_or_eq_true (lvP x) with e1 | e1
    · have HDS2:=Lib.hid (HDS.out.trans (if_pos e1))
      rw [HDS2.out] at HFIN
      clear HDS
      go_wp2_with (first | (at_mapUpdate;go_loud (refine wpList_mapUpdate_own _ rfl _ _ _ 152 rfl 3 4 lawI Try.underlying152 _ w.heap.size j _ rfl HM1.out HJ9.out _ _ _ rfl rfl HK.out (.lit (.bool true)) [] plainB ?_);intro w7 hown7 hg7;have G2:=G1.grown hg7 (fun e=>HNE.out (Option.some.inj e).symm);have x2:=G2.cell;have b7:=Below.grown bA hg7 bA.size (fun k hk=>by cases hk;exact Nat.le_refl _);have HM7:=Lib.hid hown7;clear hown7 hg7 x1 bA) | (at_delete;refine wpList_delete_own _ rfl _ _ 152 3 rfl 4 lawI Try.underlying152 _ w.heap.size (j + 1) _ rfl HM7.out _ _ rfl HK.out ?_;intro w8 hown8 ht8;have b8:=Below.grown b7 ht8.grown b7.size (fun k hk=>by cases hk;exact Nat.le_refl _);have HM9:=Lib.hid hown8;clear hown8 ht8))
      go_roundw
      case rel=>rw [HWJ];exact HFIN.out _ b8 HM9.out
      case measure=>rw [HWJ];have h:=HLT.out;simp only [intOf];omega
    · have HDS2:=Lib.hid (HDS.out.trans (if_neg (by rw [e1];exact Bool.false_ne_true)))
      rw [HDS2.out] at HFIN
      clear HDS
      go_wp2_with (at_mapUpdate;go_loud (refine wpList_mapUpdate_own _ rfl _ _ _ 152 rfl 3 4 lawI Try.underlying152 _ w.heap.size j _ rfl HM1.out HJ9.out _ _ _ rfl rfl HK.out (.lit (.bool true)) [] plainB ?_);intro w7 hown7 hg7;have G2:=G1.grown hg7 (fun e=>HNE.out (Option.some.inj e).symm);have x2:=G2.cell;have b7:=Below.grown bA hg7 bA.size (fun k hk=>by cases hk;exact Nat.le_refl _);have HM7:=Lib.hid hown7;clear hown7 hg7 x1 bA)
      go_roundw
      case rel=>rw [HWJ];exact HFIN.out _ b7 HM7.out
      case measure=>rw [HWJ];have h:=HLT.out;simp only [intOf];omega
  · have hj' : j = n:=by omega
    have hall : ls.take j = ls:=List.take_of_length_le (by have:=HNL.out;omega)
    rw [hall] at hown
    have HOW:=Lib.hid hown
    clear hall hj' hown
    have HBJ:=Lib.hid bj
    clear bj
    go_wp2_with (at_len;refine wpList_len_own _ rfl _ 152 rfl 3 4 Try.underlying152 _ w.heap.size j _ rfl HOW.out ?_)
    go_ret
    exact ⟨rfl,HBJ.out⟩
end Go.Proofs.Ythapabjlhooglaa
namespace Go.Proofs.Ythapabjlhooglaa
open Go Go.RowKit Go.Shelf Go.Maps
set_option linter.unusedSimpArgs false
set_option linter.unusedVariables false
attribute [local go_sem] Oper.semAt_some
def takenD : List Int → DataW Unit
 | []=>.map []
 | s :: T=>(takenD T).put (.int .i64 s) (.lit (.int .i64 1))
theorem takenD_is (T : List Int) : IsMap (takenD T):=by
 induction T with
 | nil=>exact isMap_empty
 | cons s T ih=>exact ih.put _ _
theorem takenD_at (n : Int) (T : List Int) : (takenD T).atKey (.int .i64 n) (.lit (.int .i64 0)) = .lit (.int .i64 (if n ∈ T then 1 else 0)):=by
 induction T with
 | nil=>rw [if_neg (by simp)];rfl
 | cons s T ih=>
   unfold takenD
   by_cases h : n = s
   · subst h
     rw [atKey_put_same (k:=.int .i64 n) (takenD_is T) (show True from trivial),if_pos (List.mem_cons_self ..)]
   · rw [atKey_put_other (by simp;exact h),ih]
     congr 3
     simp [h]
def homesT (x : LvTy.T) (T : List Int) : List Int:=if lvH x = true ∧ lvP x = true then lvS x :: T else T
def homesX (x : LvTy.T) (T : List Int) : Bool:=lvH x && (!lvU x || !decide (lvS x ∈ T))
def homesF : List LvTy.T → List Int → Option (List Int)
 | [],T=>some T
 | x :: xs,T=>if homesX x (homesT x T) = true then none else homesF xs (homesT x T)
theorem homesF_step : ∀ (xs : List LvTy.T) (x : LvTy.T) (T : List Int),homesF (xs ++ [x]) T = (homesF xs T).bind fun T'=>if homesX x (homesT x T') = true then none else some (homesT x T')
 | [],x,T=>by simp [homesF]
 | y :: xs,x,T=>by
   rw [List.cons_append]
   unfold homesF
   split
   · rfl
   · exact homesF_step xs x _
theorem homesF_none : ∀ (xs ys : List LvTy.T) (T : List Int),homesF xs T = none → homesF (xs ++ ys) T = none
 | [],ys,T,h=>by cases h
 | x :: xs,ys,T,h=>by
   rw [List.cons_append]
   unfold homesF at h ⊢
   split at h
   · rename_i h1;rw [if_pos h1]
   · rename_i h1;rw [if_neg h1];exact homesF_none xs ys _ h
def homesB (ls : List LvTy.T) : Bool:=(homesF ls.reverse []).isSome
def lvCells (x : LvTy.T) : Array Value:=#[.int .u32 (lvQ x : Int),.int .i64 (lvS x),.int .i64 (lvN x),.bool (lvP x),.bool (lvU x),.bool (lvH x)]
def encR (rs : List LvTy.T) {n : Nat} (hn : rs.length = n) (x : Fin n) : Array Value:=#[.int .i64 ((n - 1 - x.val : Nat) : Int),.agg (lvCells (rs[x.val]'(by rw [hn];exact x.isLt)))]
def KeepB (B : Nat → Prop) (W W' : World) : Prop:=∀ (p : Addr) (v : Value),B p.block → W.cell? p = some v → W'.cell? p = some v
theorem KeepB.refl (B : Nat → Prop) (W : World) : KeepB B W W:=fun _ _ _ h=>h
theorem KeepB.trans {B : Nat → Prop} {A C D : World} (h : KeepB B A C) (k : KeepB B C D) : KeepB B A D:=fun p v hp hv=>k p v hp (h p v hp hv)
theorem keepB_b {w : World} (B : Nat → Prop) (W : World) (l : Nat) (o o' : Obj) (hl : w.heap.size ≤ l) (h : W.heap[l]? = some o) (hc : o.isCells = false) (_ : o.isWalk = false) : KeepB B W (W.putObj l o'):=by
 intro p v hp hv
 by_cases e : p.block = l
 · exfalso
   have h1 : W.cell? p = none:=by
    subst e
    cases o <;> simp_all [World.cell?,Obj.isCells]
   rw [h1] at hv
   cases hv
 · rw [World.cell?_of_block (w:=W) (a:=p) (World.putObj_heap_other (fun h=>e h))]
   exact hv
theorem keepB_grown {B : Nat → Prop} {W W' : World} {row : Option Nat} (hg : W.grownBy W' row) (hr : ∀ r,row = some r → ¬ B r) : KeepB B W W':=fun p v hp hv=>by
 have hl : p.block < W.heap.size:=block_lt_of_cell hv
 rw [World.cell?_of_block (w:=W) (a:=p) (hg.block p.block hl (fun e=>hr _ e.symm hp))]
 exact hv
set_option maxRecDepth 100000 in
set_option maxHeartbeats 2000000 in
theorem back1_in (F : Fence) (nn : Nat) (h33 : F.fn 102) (hro : F.round = none) (hnn : 1 ≤ nn) (l Bx n lc : Nat) (B : Nat → Prop) (ls rs : List LvTy.T) (L : Option Addr) (hrs : rs = ls.reverse) (hn : rs.length = n) (hn9 : n ≤ 1000) (J Jx : List (Fin n) → World → Prop)
 (hY : ∀ pre x W,J pre W → pre.length < n → YieldAt F (nn - 1) Try.prog l (encR rs hn x) W fun e W'=>
   (e = .returned (.bool true) ∧ J (pre ++ [x]) W' ∧ KeepB B W W') ∨ (e = .returned (.bool false) ∧ Jx (pre ++ [x]) W'))
 (W : World) (S : Nat → Prop) (hB : B Bx) (hBS : ∀ b off,L = some ⟨b,off,none⟩ → 0 < n → B b) (hBs : W.cell? ⟨Bx,0,none⟩ = some (.slice L n lc)) (hr : RdIn W S (.sl LvTy) ls [.slice L n lc]) (h0 : J [] W) :
 CallsIn F nn Try.prog 102 #[.func (.yield l) #[] #[],.pointer (some ⟨Bx,0,none⟩)] W fun e W'=>(∃ v,e = .returned v) ∧
  ((∃ ys,ys = List.finRange n ∧ J ys W') ∨ (∃ pre,pre <+: List.finRange n ∧ Jx pre W')):=by
 refine callsIn_of_wp Try.func102 rfl h33 ?_ hro
 simp only [Try.ntmps102,List.size_toArray,List.length_cons,List.length_nil,Nat.reduceAdd,Nat.reduceSub,Array.replicate_succ,Array.replicate_zero,List.push_toArray,List.append_toArray,List.nil_append,List.cons_append]
 have HN9:=Lib.hid hn9
 obtain ⟨z0,hz0⟩ : ∃ z : Int,z = (n : Int) - 1:=⟨_,rfl⟩
 have HZ0:=Lib.hid hz0
 clear hz0
 gi_wp2
 rw [show (n : Int) - 1 = z0 from HZ0.out.symm]
 clear hn9
 gi_loopw [3] (fun i wr=>∃ (k : Nat) (z : Int),i = .int .i64 z ∧ Hid (z = (n : Int) - 1 - (k : Int) ∧ k ≤ n) ∧ J ((List.finRange n).take k) wr ∧ KeepB B W wr) (fun i _=>(intOf i + 1).toNat)
 case atStart=>exact ⟨0,z0,rfl,⟨by have:=HZ0.out;omega,Nat.zero_le _⟩,h0,KeepB.refl _ _⟩
 case round=>
  obtain ⟨k,z,rfl,HZ,hJs,hkp⟩:=hrel
  by_cases hlt : k < n
  · have hstep : (List.finRange n).take (k + 1) = (List.finRange n).take k ++ [⟨k,hlt⟩]:=by
     rw [List.take_succ_eq_append_getElem (by simpa using hlt)]
     simp
    obtain ⟨p,hp⟩ : ∃ p : Nat,p = n - 1 - k:=⟨_,rfl⟩
    have hzp : z = (p : Int):=by have:=HZ.out.1;omega
    have hpl : p < ls.length:=by rw [hrs,List.length_reverse] at hn;omega
    obtain ⟨b,off,hL,q0,q1,q2,q3,q4,q5,hi⟩:=lv_at hr hpl
    have hBb:=hBS b off hL (by omega)
    have hel : ls[p] = rs[k]'(by omega):=by
     subst hrs
     rw [List.getElem_reverse]
     congr 1
     rw [List.length_reverse] at hn
     omega
    rw [hel] at q0 q1 q2 q3 q4 q5
    obtain ⟨fn,tmps,assign,body,hy,hR⟩:=hY _ ⟨k,hlt⟩ wr hJs (by simp;omega)
    unfold encR lvCells at hy
    dsimp only at hy
    rw [← hp] at hy
    generalize rs[k] = x at *
    have x0:=hkp _ _ hB hBs
    have y0:=hkp _ _ hBb q0
    have y1:=hkp _ _ hBb q1
    have y2:=hkp _ _ hBb q2
    have y3:=hkp _ _ hBb q3
    have y4:=hkp _ _ hBb q4
    have y5:=hkp _ _ hBb q5
    have HST:=Lib.hid hstep
    have HKP:=Lib.hid hkp
    have HP : Hid (p < n ∧ p = n - 1 - k ∧ k < n):=⟨by omega,hp,hlt⟩
    have hpn : p < n:=HP.out.1
    have e0 : decide ((0 : Int) ≤ (p : Int)) = true:=decide_eq_true (by omega)
    have hw : wrap64 ((p : Int) - 1) = (p : Int) - 1:=IntWalk.wrap64_in _ (by have:=HN9.out;omega)
    subst hzp hL
    clear hstep hY hkp q0 q1 q2 q3 q4 q5 hi hp hr hBs hBS hBb hpl hel
    gi_wp2
    refine hR.mono ?_
    rintro e W3 (⟨rfl,hJ3,hk3⟩ | ⟨rfl,hJx3⟩)
    · gi_wp2
      go_roundw
      case rel=>exact ⟨k + 1,wrap64 ((p : Int) - 1),by first | rfl | rw [hw],⟨by rw [hw];have:=HP.out;omega,by have:=HP.out;omega⟩,by rw [HST.out];exact hJ3,KeepB.trans HKP.out hk3⟩
      case measure=>first | (rw [hw];simp [intOf];omega) | (simp [intOf];omega)
    · gi_wp2
      first | go_end0 | (refine bodyPost_ret (results_none rfl _ _ _) rfl ?_)
      exact ⟨⟨_,rfl⟩,.inr ⟨_,by rw [← HST.out];exact List.take_prefix _ _,hJx3⟩⟩
  · have hkm : k = n:=by have:=HZ.out.2;omega
    have hz1 : z = -1:=by have:=HZ.out.1;omega
    have hall : (List.finRange n).take k = List.finRange n:=by rw [hkm];exact List.take_of_length_le (by simp)
    rw [hall] at hJs
    have HJ:=Lib.hid hJs
    subst hz1
    clear hall hJs hY
    gi_wp2
    all_goals
     try refine ⟨fun _ h=>(by cases h),?_⟩
     gi_wp2
     go_end0
     exact ⟨⟨_,rfl⟩,.inl ⟨_,rfl,HJ.out⟩⟩
set_option maxHeartbeats 1000000 in
theorem back_in (F : Fence) (nn : Nat) (h22 : F.fn 98) (hro : F.round = none) (L : Option Addr) (n lc : Nat) (w : World) :
 CallsIn F nn Try.prog 98 #[.slice L n lc] w fun e w'=>e = .returned (.func (.func 102) #[] #[.pointer (some ⟨w.heap.size,0,none⟩)]) ∧ w' = w.alloc (.cells #[.slice L n lc] 58):=by
 have hmf : ∀ (fn : Fn) (first cap : Array Value) (w : World),(Instr.makeFunc fn first cap).run Try.prog w = .ok (.func fn first cap) w:=fun _ _ _ _=>rfl
 refine callsIn_of_wp Try.func98 rfl h22 ?_ hro
 simp only [Try.ntmps98,List.size_toArray,List.length_cons,List.length_nil,Nat.reduceAdd,Nat.reduceSub,Array.replicate_succ,Array.replicate_zero,List.push_toArray,List.append_toArray,List.nil_append,List.cons_append]
 gi_wp2
 go_ret
 exact ⟨rfl,rfl⟩
theorem back_stops (F : Fence) (nn : Nat) (h33 : F.fn 102) (hro : F.round = none) (hnn : 1 ≤ nn) (Bx n lc : Nat) (B : Nat → Prop) (ls rs : List LvTy.T) (L : Option Addr) (hrs : rs = ls.reverse) (hn : rs.length = n) (hn9 : n ≤ 1000) (w : World) (S : Nat → Prop) (hB : B Bx) (hBS : ∀ b off,L = some ⟨b,off,none⟩ → 0 < n → B b) (hBl : Bx < w.heap.size) (hBs : w.cell? ⟨Bx,0,none⟩ = some (.slice L n lc)) (hr : RdIn w S (.sl LvTy) ls [.slice L n lc]) :
 SeqStopsK F nn Try.prog 102 #[.pointer (some ⟨Bx,0,none⟩)] (encR rs hn) (KeepB B) (fun ys=>ys = List.finRange n) (fun pre=>pre <+: List.finRange n) n w:=fun l J Jx W hW hJ _ hY h0=>
 back1_in F nn h33 hro hnn l Bx n lc B ls rs L hrs hn hn9 J Jx hY W S hB hBS ((hW.cell (p:=⟨Bx,0,none⟩) hBl).trans hBs) (hr.below hW) h0
def UPL (gl : Nat) (e t : Array Value) : Array Value:=((t.setIfInBounds 13 (e.getD 0 undef)).setIfInBounds 14 (e.getD 1 undef)).setIfInBounds 5 (.pointer (some ⟨gl,0,none⟩))
theorem back_loop {rs : List LvTy.T} {n Bx : Nat} {hn : rs.length = n} {B : Nat → Prop} {g : Operand} {ps : Array Tmp} {assign body : Code} {Q : Exit → Act → World → Prop} {a : Act} {w : World} (hg : a.eval g = .func (.func 102) #[] #[.pointer (some ⟨Bx,0,none⟩)])
 {S Sp : List (Fin n) → Prop} (hseq : SeqStopsK Fence.wide (3 - 1) Try.prog 102 #[.pointer (some ⟨Bx,0,none⟩)] (encR rs hn) (KeepB B) S Sp n w) (hps : ps.size = 2)
 (I : List (Fin n) → World → Prop) (Ix : Code → List (Fin n) → World → Prop) (hI : OwnFrom w.heap.size I) (hIx : ∀ c,OwnFrom w.heap.size (Ix c)) (h0 : I [] w) (Px : Nat → Fin n → World → Prop) (hPx : ∀ gl x,OwnFrom w.heap.size (fun (_ : Unit) W=>Px gl x W))
 (hassign : ∀ (l : Nat) (pre : List (Fin n)) (x : Fin n) (W : World) (K : Act → World → Prop),I pre W → (∀ gl W',KeepsFrom w.heap.size W W' → KeepB B W W' → I pre W' → Px gl x W' → K { tmps:=UPL gl (encR rs hn x) a.tmps,defers:=[] } W') →
   assign.wpIn (Fence.wide.inRound l) (3 - 1 - 1) Try.prog (Exit.then K (fun _ _ _=>False)) { tmps:=(ps.zip (encR rs hn x)).foldl (fun t (p,v)=>t.setIfInBounds p v) a.tmps,defers:=[] } W)
 (hbody : ∀ (l : Nat) (pre : List (Fin n)) (x : Fin n) (gl : Nat) (W : World),I pre W → Px gl x W → pre.length < n → body.wpIn (Fence.wide.inRound l) (3 - 1 - 1) Try.prog (ownPostG w.heap.size (KeepB B) I Ix (pre ++ [x]) W) { tmps:=UPL gl (encR rs hn x) a.tmps,defers:=[] } W)
 (hdone : ∀ (D : Nat) (xs : List (Fin n)) (W : World),w.heap.size ≤ D → S xs → I xs W → W.heap[D]? = some (.deferred (some [])) → Q .normal { a with defers:={ target:=.collected D,args:=#[] } :: a.defers } W)
 (hstop : ∀ (D : Nat) (c : Code) (pre : List (Fin n)) (W : World),w.heap.size ≤ D → Sp pre → Ix c pre W → W.heap[D]? = some (.deferred (some [])) → c.wpIn Fence.wide 3 Try.prog Q { a with defers:={ target:=.collected D,args:=#[] } :: a.defers } W) :
 (Code.rangeFunc g ps assign body).wpIn Fence.wide 3 Try.prog Q a w:=
 wpIn_rangeFunc_ownH rfl (by decide) hg trivial (enters_of Try.func102 (by kernel_rfl) rfl) hseq (fun h k=>h.trans k) (keepB_b B) (Below.refl _ _) (fun x=>by rw [hps];rfl) I Ix hI hIx h0
  (fun x a' W=>∃ gl,a' = { tmps:=UPL gl (encR rs hn x) a.tmps,defers:=[] } ∧ Px gl x W)
  (fun x a' _ W W' row hs hgr hr=>by obtain ⟨gl,e,h⟩:=hs;exact ⟨gl,e,hPx gl x () W W' row h hgr hr⟩)
  (fun l pre x W K hi hk=>hassign l pre x W K hi fun gl W' h1 h2 h3 h4=>hk _ W' h1 h2 h3 ⟨gl,rfl,h4⟩)
  (fun l pre x a' W _ _ hi hax hlt=>by obtain ⟨gl,rfl,h⟩:=hax;exact hbody l pre x gl W hi h hlt) hdone hstop
def atR (rs : List LvTy.T) {n : Nat} (hn : rs.length = n) (x : Fin n) : LvTy.T:=rs[x.val]'(by rw [hn];exact x.isLt)
theorem atR_all (rs : List LvTy.T) {n : Nat} (hn : rs.length = n) : (List.finRange n).map (atR rs hn) = rs:=by
 subst hn
 refine List.ext_getElem (by simp) fun i h1 h2=>?_
 simp [atR]
theorem homesF_prefix {xs ys : List LvTy.T} (h : xs <+: ys) (hx : homesF xs [] = none) : homesF ys [] = none:=by
 obtain ⟨t,rfl⟩:=h
 exact homesF_none _ _ _ hx
set_option maxRecDepth 100000 in
set_option maxHeartbeats 4000000 in
theorem lhomes_any (S : Nat → Prop) (ls : List LvTy.T) (n lc : Nat) (L : Option Addr) (hn : ls.length = n) (hn9 : n ≤ 1000) (gR : Nat) (ga gq : Nat) (gt gu : Int) (id : Nat) (m c r l h : Int) (w : World) (hb : BoxOf w gR #[.int .u32 (ga : Int),.int .u32 (gq : Int),.int .i64 gt,.int .i64 gu,.slice L n lc,.int .u32 (id : Int),.int .i64 m,.int .i64 c,.int .i64 r,.int .i64 l,.int .i64 h] 120) (hr : RdIn w S (.sl LvTy) ls [.slice L n lc]) :
 Calls Try.prog 86 #[.pointer (some ⟨gR,0,none⟩)] w fun e w'=>e = .returned (.bool (homesB ls)) ∧ Below w.heap.size w w':=by
 obtain ⟨rs,hrs⟩ : ∃ rs,rs = ls.reverse:=⟨_,rfl⟩
 have hrn : rs.length = n:=by rw [hrs,List.length_reverse];exact hn
 have hHB : homesB ls = (homesF rs []).isSome:=by rw [hrs];rfl
 have hLb : ∀ b off,L = some ⟨b,off,none⟩ → 0 < n → b < w.heap.size:=fun b off e h0=>by
  obtain ⟨b',off',e',q,_⟩:=lv_at hr (show 0 < ls.length by omega)
  rw [e] at e'
  injection e' with e'
  injection e' with e' _ _
  rw [e']
  exact block_lt_of_cell q
 refine (callsIn_wide (n:=3)).1 ?_
 refine callsIn_of_wp_marks Try.func86 rfl trivial ?_ rfl
 simp only [Try.ntmps86,List.size_toArray,List.length_cons,List.length_nil,Nat.reduceAdd,Nat.reduceSub,Array.replicate_succ,Array.replicate_zero,List.push_toArray,List.append_toArray,List.nil_append,List.cons_append]
 have hmm:=@run_makeMap Try.prog
 have t0:=Ext.alloc (Ext.alloc (Ext.alloc (Below.refl w.heap.size w) (.cells #[.bool false] 4)) (.map #[] 0)) (.cells #[.map (some (w.heap.size + 1))] 117)
 have R0:=BoxOf.alloc (BoxOf.alloc (BoxOf.new w #[.bool false] 4) (.map #[] 0)) (.cells #[.map (some (w.heap.size + 1))] 117)
 have M0:=(World.ownsMap_made (w.alloc (.cells #[.bool false] 4)) Try.prog 3 (plainElem (H:=Unit) Try.prog 3)).alloc (.cells #[.map (some (w.heap.size + 1))] 117)
 have G0:=BoxOf.new' ((w.alloc (.cells #[.bool false] 4)).alloc (.map #[] 0)) (w.heap.size + 2) #[.map (some (w.heap.size + 1))] 117 (by simp)
 rw [show (w.alloc (.cells #[.bool false] 4)).heap.size = w.heap.size + 1 by simp] at M0
 have hsz : (((w.alloc (.cells #[.bool false] 4)).alloc (.map #[] 0)).alloc (.cells #[.map (some (w.heap.size + 1))] 117)).heap.size = w.heap.size + 3:=by simp
 have B0:=hb.next t0
 have x0:=B0.cell
 have HSZ:=Lib.hid hsz
 have HM0:=Lib.hid M0
 have HR:=Lib.hid (hr.below t0)
 have HLB:=Lib.hid hLb
 have HIS : Hid (∀ x : Fin n,IsInt (lvS (atR rs hrn x))):=fun x=>by
  have h1 : atR rs hrn x ∈ ls:=by rw [← List.mem_reverse,← hrs];exact List.getElem_mem _
  obtain ⟨i,hi,e⟩:=List.getElem_of_mem h1
  obtain ⟨_,_,_,_,_,_,_,_,_,_,h2,_⟩:=lv_at hr hi
  rw [e] at h2
  exact h2
 have HHB:=Lib.hid hHB
 have HNN:=Lib.hid (And.intro hrs (And.intro hn hn9))
 clear hsz M0 hr hb hLb hHB hrs hn9 hn
 gi_wp2_with fail
 clear hmm x0
 generalize ((w.alloc (.cells #[.bool false] 4)).alloc (.map #[] 0)).alloc (.cells #[.map (some (w.heap.size + 1))] 117) = W at *
 refine ⟨trivial,(back_in Fence.wide 2 trivial rfl L n lc W).mono ?_⟩
 rintro e w7 ⟨rfl,rfl⟩
 have R1:=R0.alloc (.cells #[.slice L n lc] 58)
 have HM1:=Lib.hid (HM0.out.alloc (.cells #[.slice L n lc] 58))
 have G1:=G0.alloc (.cells #[.slice L n lc] 58)
 have X1:=BoxOf.new W #[.slice L n lc] 58
 have t1:=Ext.alloc t0 (.cells #[.slice L n lc] 58)
 have HR1:=Lib.hid (HR.out.below (Ext.alloc (Below.refl W.heap.size W) (.cells #[.slice L n lc] 58)))
 have hsz2 : (W.alloc (.cells #[.slice L n lc] 58)).heap.size = w.heap.size + 4:=by simp [HSZ.out]
 rw [HSZ.out] at X1 ⊢
 generalize W.alloc (.cells #[.slice L n lc] 58) = V at *
 clear R0 HM0 G0 t0 HR B0
 have hseq:=back_stops Fence.wide (3 - 1) trivial rfl (by decide) (w.heap.size + 3) n lc (fun b=>b < w.heap.size ∨ b = w.heap.size + 3) ls rs L HNN.out.1 hrn HNN.out.2.2 V S (.inr rfl) (fun b off e h0=>.inl (HLB.out b off e h0)) X1.lt ((X1.cell 0).trans rfl) HR1.out
 have HSV:=Lib.hid hsz2
 have HSS:=Lib.hid (show w.heap.size + 4 ≤ V.heap.size by omega)
 clear hsz2 X1 HSZ
 gi_wp2_with fail
 refine back_loop rfl hseq rfl
  (fun pre W=>BoxOf W (w.heap.size + 2) #[.map (some (w.heap.size + 1))] 117 ∧ (∃ T,homesF (pre.map (atR rs hrn)) [] = some T ∧ W.ownsMap Try.prog 3 (plainElem (H:=Unit) Try.prog 3) (w.heap.size + 1) pre.length (takenD T)) ∧ BoxOf W w.heap.size #[.bool false] 4 ∧ Below w.heap.size w W ∧ w.heap.size + 4 ≤ W.heap.size)
  (fun c pre W=>c = .ret ∧ homesF (pre.map (atR rs hrn)) [] = none ∧ BoxOf W w.heap.size #[.bool false] 4 ∧ Below w.heap.size w W) ?own ?ownx ⟨G1,⟨[],rfl,HM1.out⟩,R1,t1,HSS.out⟩ (fun gl x W=>BoxOf W gl (lvCells (atR rs hrn x)) 73 ∧ w.heap.size + 4 ≤ gl) ?ownax ?assign ?body ?done ?stop
 case own=>
  rintro pre W W' row ⟨h1,⟨T,h2,h3⟩,h4,h5,h6⟩ hgr hr
  exact ⟨own_cells h1 hgr hr,⟨T,h2,h3.kept hgr (fun e=>by have:=(hr _ e.symm).1;have:=HSS.out;omega)⟩,own_cells h4 hgr hr,h5.grown hgr h5.size (fun k e=>by have:=(hr k e).1;have:=HSS.out;omega),Nat.le_trans h6 hgr.size⟩
 case ownx=>
  rintro c pre W W' row ⟨h1,h2,h3,h4⟩ hgr hr
  exact ⟨h1,h2,own_cells h3 hgr hr,h4.grown hgr h4.size (fun k e=>by have:=(hr k e).1;have:=HSS.out;omega)⟩
 case ownax=>
  rintro gl x _ W W' row ⟨h1,h2⟩ hgr hr
  exact ⟨own_cells h1 hgr hr,h2⟩
 case assign=>
  intro l pre x W K hI hK
  have HK:=Lib.hid hK
  have HI:=Lib.hid hI
  have hal:=World.grownBy_alloc W (.cells #[.int .u32 (lvQ (atR rs hrn x) : Int),.int .i64 (lvS (atR rs hrn x)),.int .i64 (lvN (atR rs hrn x)),.bool (lvP (atR rs hrn x)),.bool (lvU (atR rs hrn x)),.bool (lvH (atR rs hrn x))] 73) none
  have HFIN:=Lib.hid (hK W.heap.size (W.alloc (.cells #[.int .u32 (lvQ (atR rs hrn x) : Int),.int .i64 (lvS (atR rs hrn x)),.int .i64 (lvN (atR rs hrn x)),.bool (lvP (atR rs hrn x)),.bool (lvU (atR rs hrn x)),.bool (lvH (atR rs hrn x))] 73)) (KeepsFrom.of_grownBy hal (fun j e=>by cases e)) (keepB_grown hal (fun r e=>by cases e))
   (by obtain ⟨h1,⟨T,h2,h3⟩,h4,h5,h6⟩:=hI;exact ⟨h1.alloc _,⟨T,h2,h3.alloc _⟩,h4.alloc _,Ext.alloc h5 _,Nat.le_trans h6 hal.size⟩) ⟨BoxOf.new W _ _,hI.2.2.2.2⟩)
  clear hK hI hal
  simp only [encR]
  unfold lvCells
  rw [show rs[x.val]'(by rw [hrn];exact x.isLt) = atR rs hrn x from rfl]
  gi_wp2
  exact HFIN.out
 case stop=>
  rintro D c pre W hD hpre ⟨rfl,hno,hR,hbw⟩ hDW
  have hpm : pre.map (atR rs hrn) <+: rs:=by
   have h1:=List.IsPrefix.map (atR rs hrn) hpre
   have h2:=atR_all rs hrn
   rw [h2] at h1
   exact h1
  have HNO:=Lib.hid (homesF_prefix hpm hno)
  clear hno hpre hpm
  gi_wp2
  refine ⟨by simp,.inl ⟨_,_,rfl,run_takeDeferred hDW,?_⟩⟩
  have hg:=grownBy_putObj' W D (.deferred none)
  have R2:=own_cells (B:=V.heap.size) hR hg (fun r e=>by cases e;exact ⟨hD,_,hDW,rfl⟩)
  have t2:=hbw.grown hg hbw.size (fun k e=>by cases e;have:=HSS.out;omega)
  refine ⟨_,results_bool rfl _ _ w.heap.size (.bool false) rfl ((R2.cell 0).trans rfl),?_,t2⟩
  rw [HHB.out,HNO.out]
  rfl
 case body=>
  rintro l pre x gl W ⟨hG,⟨T,hT,hM⟩,hR,hbw,hsw⟩ ⟨hL,hgl⟩ hlt
  simp only [UPL,encR,List.setIfInBounds_toArray,List.set_cons_zero,List.set_cons_succ,Array.getD_eq_getD_getElem?,List.getElem?_toArray,List.getElem?_cons_zero,List.getElem?_cons_succ,Option.getD_some]
  have HST:=homesF_step (pre.map (atR rs hrn)) (atR rs hrn x) []
  rw [hT] at HST
  have HPM : Hid ((pre ++ [x]).map (atR rs hrn) = pre.map (atR rs hrn) ++ [atR rs hrn x]):=by show _ = _;simp
  have HPL : Hid ((pre ++ [x]).length = pre.length + 1):=by show _ = _;simp
  have hIs : IsInt (lvS (atR rs hrn x)):=HIS.out x
  rw [show rs[x.val]'(by rw [hrn];exact x.isLt) = atR rs hrn x from rfl]
  unfold lvCells at hL ⊢
  generalize atR rs hrn x = y at *
  have HS2 : Hid (homesF (pre.map (atR rs hrn) ++ [y]) [] = if homesX y (homesT y T) = true then none else some (homesT y T)):=HST
  have HK:=Lib.hid (keyOf_int_mk Try.underlying3 (WalkArith.wf_i64 (n:=lvS y) hIs))
  have HPN : Hid (pre.length < maxLen):=by have:=HNN.out.2.2;unfold maxLen;show _ < _;omega
  have HM:=Lib.hid hM
  have HGL : Hid (gl ≠ w.heap.size + 1 ∧ gl ≠ w.heap.size ∧ gl ≠ w.heap.size + 2):=⟨by omega,by omega,by omega⟩
  have xL:=hL.cell
  have xG:=hG.cell
  have rR:=hR.cell
  have fR:=hR.free
  have HSW:=Lib.hid hsw
  have HH : Hid (∀ c : Int,(takenD T).atKey (.int .i64 (lvS y)) (.lit (.int .i64 0)) = .lit (.int .i64 c) → c = if lvS y ∈ T then 1 else 0):=fun c hc=>by
   rw [takenD_at] at hc
   simpa using hc.symm
  have HT1 : Hid (∀ c : Int,(takenD (lvS y :: T)).atKey (.int .i64 (lvS y)) (.lit (.int .i64 0)) = .lit (.int .i64 c) → c = 1):=fun c hc=>by
   rw [takenD_at,if_pos (List.mem_cons_self ..)] at hc
   simpa using hc.symm
  have HFIN : Hid (∀ (W2 : World) (aa : Act),KeepsFrom V.heap.size W W2 → KeepB (fun b=>b < w.heap.size ∨ b = w.heap.size + 3) W W2 → BoxOf W2 (w.heap.size + 2) #[.map (some (w.heap.size + 1))] 117 → homesX y (homesT y T) = false → W2.ownsMap Try.prog 3 (plainElem (H:=Unit) Try.prog 3) (w.heap.size + 1) (pre.length + 1) (takenD (homesT y T)) → BoxOf W2 w.heap.size #[.bool false] 4 → Below w.heap.size w W2 → w.heap.size + 4 ≤ W2.heap.size → ownPostG V.heap.size (KeepB (fun b=>b < w.heap.size ∨ b = w.heap.size + 3)) (fun pre W=>BoxOf W (w.heap.size + 2) #[.map (some (w.heap.size + 1))] 117 ∧ (∃ T,homesF (pre.map (atR rs hrn)) [] = some T ∧ W.ownsMap Try.prog 3 (plainElem (H:=Unit) Try.prog 3) (w.heap.size + 1) pre.length (takenD T)) ∧ BoxOf W w.heap.size #[.bool false] 4 ∧ Below w.heap.size w W ∧ w.heap.size + 4 ≤ W.heap.size)
  (fun c pre W=>c = .ret ∧ homesF (pre.map (atR rs hrn)) [] = none ∧ BoxOf W w.heap.size #[.bool false] 4 ∧ Below w.heap.size w W) (pre ++ [x]) W .normal aa W2):=fun W2 aa a1 a2 a3 a4 a5 a6 a7 a8=>⟨a1,a2,a3,⟨homesT y T,by rw [HPM.out,HS2.out,if_neg (by rw [a4];exact Bool.false_ne_true)],by rw [HPL.out];exact a5⟩,a6,a7,a8⟩
  have HBAD : Hid (homesX y (homesT y T) = true → homesF ((pre ++ [x]).map (atR rs hrn)) [] = none):=fun a4=>by rw [HPM.out,HS2.out,if_pos a4]
  clear HST hT hM hIs hgl hlt hsw
  have hHX : homesX y (homesT y T) = (lvH y && (!lvU y || !decide (lvS y ∈ homesT y T))):=rfl
  have hHT : homesT y T = if lvH y = true ∧ lvP y = true then lvS y :: T else T:=rfl
  have HHX:=Lib.hid hHX
  have HHT:=Lib.hid hHT
  clear hHX hHT
  rcases Bool.eq_false_or_eq_true (lvH y) with e1 | e1
  rotate_left
  · have hT1 : homesT y T = T:=by rw [HHT.out,if_neg (by rw [e1];simp)]
    have hX1 : homesX y (homesT y T) = false:=by rw [HHX.out,e1];rfl
    have HF:=Lib.hid (fun aa=>HFIN.out W aa (KeepsFrom.refl _ _) (KeepB.refl _ _) hG hX1 (by rw [hT1];exact HM.out.mono (Nat.le_succ _)) hR hbw HSW.out)
    clear hT1 hX1
    gi_wp2
    exact HF.out _
  rcases Bool.eq_false_or_eq_true (lvP y) with e2 | e2
  · have hT1 : homesT y T = lvS y :: T:=by rw [HHT.out,if_pos ⟨e1,e2⟩]
    have HT2:=Lib.hid hT1
    clear hT1
    rcases Bool.eq_false_or_eq_true (lvU y) with e3 | e3
    · have hX1 : homesX y (homesT y T) = false:=by rw [HHX.out,HT2.out,e1,e3,decide_eq_true (List.mem_cons_self ..)];rfl
      have HX1:=Lib.hid hX1
      clear hX1
      gi_wp2_with (gi_at_mapUpdate;refine wpListIn_mapUpdate_own _ rfl _ _ _ 117 rfl 3 3 lawI Try.underlying117 _ (w.heap.size + 1) pre.length _ rfl HM.out HPN.out _ _ _ rfl rfl HK.out (.lit (.int .i64 1)) [] (plainElem_int Try.underlying3 (by decide)) ?_;intro w7 hown7 hg7;have L7:=hL.grown hg7 (fun e=>HGL.out.1 (Option.some.inj e).symm);have G7:=hG.grown hg7 (fun e=>absurd (Option.some.inj e) (by omega));have R7:=hR.grown hg7 (fun e=>absurd (Option.some.inj e) (by omega));have t7:=Below.grown hbw hg7 hbw.size (fun k hk=>by cases hk;exact Nat.le_succ _);have xL7:=L7.cell;have xG7:=G7.cell;have rR7:=R7.cell;have fR7:=R7.free;clear xL xG rR fR;obtain ⟨cc,hrun,hat,_⟩:=hown7.lookup_int lawI Try.underlying117 Try.underlying3 (zeroI _) HK.out;have hcc:=HT1.out cc hat;subst hcc;have HM7:=Lib.hid hown7;clear hown7 hat)
      exact HFIN.out w7 _ (KeepsFrom.of_grownBy hg7 (fun j e=>by cases e;have:=HSS.out;omega)) (keepB_grown hg7 (fun r e=>by cases e;omega)) G7 HX1.out (by rw [HT2.out];exact HM7.out) R7 t7 (Nat.le_trans HSW.out hg7.size)
    · have hX1 : homesX y (homesT y T) = true:=by rw [HHX.out,e1,e3];rfl
      have HX1:=Lib.hid hX1
      clear hX1
      gi_wp2_with (gi_at_mapUpdate;refine wpListIn_mapUpdate_own _ rfl _ _ _ 117 rfl 3 3 lawI Try.underlying117 _ (w.heap.size + 1) pre.length _ rfl HM.out HPN.out _ _ _ rfl rfl HK.out (.lit (.int .i64 1)) [] (plainElem_int Try.underlying3 (by decide)) ?_;intro w7 hown7 hg7;have L7:=hL.grown hg7 (fun e=>HGL.out.1 (Option.some.inj e).symm);have G7:=hG.grown hg7 (fun e=>absurd (Option.some.inj e) (by omega));have R7:=hR.grown hg7 (fun e=>absurd (Option.some.inj e) (by omega));have t7:=Below.grown hbw hg7 hbw.size (fun k hk=>by cases hk;exact Nat.le_succ _);have xL7:=L7.cell;have xG7:=G7.cell;have rR7:=R7.cell;have fR7:=R7.free;clear xL xG rR fR;clear hown7)
      exact ⟨KeepsFrom.trans (KeepsFrom.of_grownBy hg7 (fun j e=>by cases e;have:=HSS.out;omega)) (KeepsFrom.of_grownBy (grownBy_setCell' w7 w.heap.size (.bool false)) (fun j e=>by cases e;have:=HSS.out;omega)),rfl,HBAD.out HX1.out,(show BoxOf _ _ #[.bool false] _ from mbox_self R7 0 (.bool false)),Below.setCell (p:=⟨w.heap.size,0,none⟩) t7 (Nat.le_refl _) _⟩
  · have hT1 : homesT y T = T:=by rw [HHT.out,if_neg (by rw [e2];simp)]
    have HT2:=Lib.hid hT1
    clear hT1
    rcases Bool.eq_false_or_eq_true (lvU y) with e3 | e3
    · obtain ⟨cc,hrun,hat,_⟩:=HM.out.lookup_int lawI Try.underlying117 Try.underlying3 (zeroI _) HK.out
      have hcc:=HH.out cc hat
      by_cases hmem : lvS y ∈ T
      · rw [if_pos hmem] at hcc
        have hX1 : homesX y (homesT y T) = false:=by rw [HHX.out,HT2.out,e1,e3,decide_eq_true hmem];rfl
        have HF:=Lib.hid (fun aa=>HFIN.out W aa (KeepsFrom.refl _ _) (KeepB.refl _ _) hG hX1 (by rw [HT2.out];exact HM.out.mono (Nat.le_succ _)) hR hbw HSW.out)
        subst hcc
        clear hX1 hat hmem
        gi_wp2
        exact HF.out _
      · rw [if_neg hmem] at hcc
        have hX1 : homesX y (homesT y T) = true:=by rw [HHX.out,HT2.out,e1,e3,decide_eq_false hmem];rfl
        have HX1:=Lib.hid hX1
        subst hcc
        clear hX1 hat hmem
        gi_wp2
        exact ⟨KeepsFrom.of_grownBy (grownBy_setCell' W w.heap.size (.bool false)) (fun j e=>by cases e;have:=HSS.out;omega),rfl,HBAD.out HX1.out,(show BoxOf _ _ #[.bool false] _ from mbox_self hR 0 (.bool false)),Below.setCell (p:=⟨w.heap.size,0,none⟩) hbw (Nat.le_refl _) _⟩
    · have hX1 : homesX y (homesT y T) = true:=by rw [HHX.out,e1,e3];rfl
      have HX1:=Lib.hid hX1
      clear hX1
      gi_wp2
      exact ⟨KeepsFrom.of_grownBy (grownBy_setCell' W w.heap.size (.bool false)) (fun j e=>by cases e;have:=HSS.out;omega),rfl,HBAD.out HX1.out,(show BoxOf _ _ #[.bool false] _ from mbox_self hR 0 (.bool false)),Below.setCell (p:=⟨w.heap.size,0,none⟩) hbw (Nat.le_refl _) _⟩
 case done=>
  rintro D xs W hD rfl ⟨hG,⟨T,hT,hM⟩,hR,hbw,_⟩ hDW
  rw [atR_all] at hT
  have HT:=Lib.hid hT
  have fr:=hR.free
  have yr:=hR.cell
  have HDW:=Lib.hid hDW
  clear hT hDW hM hG
  gi_wp2
  have hne : D ≠ w.heap.size:=by have:=HSS.out;omega
  have R3 : BoxOf _ w.heap.size #[.bool true] 4:=mbox_self hR 0 (.bool true)
  have hDW3 : (W.setCell ⟨w.heap.size,0,none⟩ (.bool true)).heap[D]? = some (.deferred (some [])):=(Below.heap_setCell _ _ _ _ hne).trans HDW.out
  have t3:=Below.setCell (p:=⟨w.heap.size,0,none⟩) hbw (Nat.le_refl _) (.bool true)
  generalize W.setCell ⟨w.heap.size,0,none⟩ (.bool true) = W3 at *
  refine ⟨by simp,.inl ⟨_,_,rfl,run_takeDeferred hDW3,?_⟩⟩
  have hg:=grownBy_putObj' W3 D (.deferred none)
  have R4:=own_cells (B:=V.heap.size) R3 hg (fun r e=>by cases e;exact ⟨hD,_,hDW3,rfl⟩)
  have t4:=t3.grown hg t3.size (fun k e=>by cases e;have:=HSS.out;omega)
  refine ⟨_,results_bool rfl _ _ w.heap.size (.bool true) rfl ((R4.cell 0).trans rfl),?_,t4⟩
  rw [HHB.out,HT.out]
  rfl
end Go.Proofs.Ythapabjlhooglaa
namespace Go.Proofs.Ythapabjlhooglaa
open Go Go.RowKit Go.Maps
set_option linter.unusedSimpArgs false
set_option linter.unusedVariables false
def ageB (q : Nat) : Bool:=decide (1 ≤ q) && decide (q ≤ 2147483648)
set_option maxRecDepth 100000 in
theorem number_any (q : Nat) (w : World) : Calls Try.prog 85 #[.int .u32 (q : Int)] w fun e w'=>e = .returned (.bool (ageB q)) ∧ w' = w:=by
 rcases Bool.eq_false_or_eq_true (decide (1 ≤ q)) with e1 | e1
 · rcases Bool.eq_false_or_eq_true (decide (q ≤ 2147483648)) with e2 | e2
   · have hr : ageB q = true:=by unfold ageB;rw [e1,e2];rfl
     rw [hr]
     have e3 : decide ((1 : Int) ≤ (q : Int)) = true:=decide_eq_true (by have:=of_decide_eq_true e1;omega)
     have e4 : decide ((q : Int) ≤ 2147483648) = true:=decide_eq_true (by have:=of_decide_eq_true e2;omega)
     go_enter Try.func85,Try.ntmps85
     go_wp2
     go_ret
     exact ⟨rfl,rfl⟩
   · have hr : ageB q = false:=by unfold ageB;rw [e1,e2];rfl
     rw [hr]
     have e3 : decide ((1 : Int) ≤ (q : Int)) = true:=decide_eq_true (by have:=of_decide_eq_true e1;omega)
     have e4 : decide ((q : Int) ≤ 2147483648) = false:=decide_eq_false (by have:=of_decide_eq_false e2;omega)
     go_enter Try.func85,Try.ntmps85
     go_wp2
     go_ret
     exact ⟨rfl,rfl⟩
 · have hr : ageB q = false:=by unfold ageB;rw [e1];rfl
   rw [hr]
   have e3 : decide ((1 : Int) ≤ (q : Int)) = false:=decide_eq_false (by have:=of_decide_eq_false e1;omega)
   go_enter Try.func85,Try.ntmps85
   go_wp2
   go_ret
   exact ⟨rfl,rfl⟩
def roomB (m l gu : Int) (ls : List LvTy.T) : Bool:=decide (gu ≤ l) && decide (IntKind.i64.wrap ((m + 1) * dirtyN ls) ≤ IntKind.i64.wrap (l - gu))
set_option maxRecDepth 100000 in
set_option maxHeartbeats 4000000 in
theorem lroom_any (S : Nat → Prop) (ls : List LvTy.T) (n lc : Nat) (L : Option Addr) (hn : ls.length = n) (hn9 : n ≤ 1000) (gR : Nat) (ga gq : Nat) (gt gu : Int) (id : Nat) (m c r l h : Int) (hx : (⟨id,m,c,r,l,h⟩ : Cfg).Ok) (w : World) (hb : BoxOf w gR #[.int .u32 (ga : Int),.int .u32 (gq : Int),.int .i64 gt,.int .i64 gu,.slice L n lc,.int .u32 (id : Int),.int .i64 m,.int .i64 c,.int .i64 r,.int .i64 l,.int .i64 h] 120) (hr : RdIn w S (.sl LvTy) ls [.slice L n lc]) :
 Calls Try.prog 87 #[.pointer (some ⟨gR,0,none⟩)] w fun e w'=>e = .returned (.bool (roomB m l gu ls)) ∧ Below w.heap.size w w':=by
 have HN:=Lib.hid (need_ok ⟨id,m,c,r,l,h⟩ hx)
 have HD:=Lib.hid (fun (w : World) (hb : BoxOf w gR #[.int .u32 (ga : Int),.int .u32 (gq : Int),.int .i64 gt,.int .i64 gu,.slice L n lc,.int .u32 (id : Int),.int .i64 m,.int .i64 c,.int .i64 r,.int .i64 l,.int .i64 h] 120) (hr : RdIn w S (.sl LvTy) ls [.slice L n lc])=>ldirty_any S ls n lc L hn hn9 gR ga gq gt gu id m c r l h w hb hr)
 have HR:=Lib.hid hr
 have hRB : roomB m l gu ls = (decide (gu ≤ l) && decide (IntKind.i64.wrap ((m + 1) * dirtyN ls) ≤ IntKind.i64.wrap (l - gu))):=rfl
 have HRB:=Lib.hid hRB
 unfold Cfg.val at HN
 dsimp only at HN
 have x0:=hb.cell
 clear hn hn9 hx hr hRB
 go_enter Try.func87,Try.ntmps87
 go_wp2_with fail
 refine (HN.out _).mono ?_
 rintro e w1 ⟨rfl,b1⟩
 have B1:=hb.next b1
 have HR1:=Lib.hid (HR.out.below b1)
 clear x0 HN hb HR
 go_upto_region 2 with fail
 refine wp_region_held_drew (S:=fun w'=>Below w1.heap.size w1 w' ∧ ∀ o,w'.cell? ⟨gR,o,none⟩ = (#[.int .u32 (ga : Int),.int .u32 (gq : Int),.int .i64 gt,.int .i64 gu,.slice L n lc,.int .u32 (id : Int),.int .i64 m,.int .i64 c,.int .i64 r,.int .i64 l,.int .i64 h] : Array Value).toList[o]?) (by kernel_rfl) ⟨Ext.drew (Below.refl _ _),B1.drew.cell⟩ (fun hS=>?_)
 rcases Bool.eq_false_or_eq_true (decide (gu ≤ l)) with e1 | e1
 · skip
   refine wpAnyH_take (i:=0) (v:=?_) rfl (by kernel_rfl) (by kernel_rfl) (by kernel_rfl) (fun _ _ _ h=>h) (Or.inl ⟨by rfl,?_⟩) hS ?_
   rotate_left
   · (intro w hSw;(try dsimp only at hSw);go_simp;(try with_reducible rfl))
   rotate_left
   simp only [Act.put,zq0,zq1,zq2,zq3,zq4,zq5]
   refine wpAnyH_take (i:=1) (v:=?_) rfl (by kernel_rfl) (by kernel_rfl) (by kernel_rfl) (fun _ _ _ h=>h) (Or.inl ⟨by rfl,?_⟩) hS ?_
   rotate_left
   · (intro w hSw;(try dsimp only at hSw);go_simp;(try with_reducible rfl))
   rotate_left
   simp only [Act.put,zq0,zq1,zq2,zq3,zq4,zq5]
   refine wpAnyH_take (i:=2) (v:=?_) rfl (by kernel_rfl) (by kernel_rfl) (by kernel_rfl) (fun _ _ _ h=>h) (Or.inl ⟨by rfl,?_⟩) hS ?_
   rotate_left
   · (intro w hSw;(try dsimp only at hSw);go_simp;(try with_reducible rfl))
   rotate_left
   simp only [Act.put,zq0,zq1,zq2,zq3,zq4,zq5]
   refine wpAnyH_take (i:=3) (v:=?_) rfl (by kernel_rfl) (by kernel_rfl) (by kernel_rfl) (fun _ _ _ h=>h) (Or.inl ⟨by rfl,?_⟩) hS ?_
   rotate_left
   · (intro w hSw;(try dsimp only at hSw);go_simp;(try with_reducible rfl))
   rotate_left
   simp only [Act.put,zq0,zq1,zq2,zq3,zq4,zq5]
   refine wpAnyH_take (i:=4) (v:=?_) rfl (by kernel_rfl) (by kernel_rfl) (by kernel_rfl) (fun _ _ _ h=>h) (Or.inl ⟨by rfl,?_⟩) hS ?_
   rotate_left
   · (intro w hSw;(try dsimp only at hSw);go_simp;(try with_reducible rfl))
   rotate_left
   simp only [Act.put,zq0,zq1,zq2,zq3,zq4,zq5]
   refine wpAnyH_take (i:=5) (v:=?_) rfl (by kernel_rfl) (by kernel_rfl) (by kernel_rfl) (fun _ _ _ h=>h) (Or.inl ⟨by rfl,?_⟩) hS ?_
   rotate_left
   · (intro w hSw;(try dsimp only at hSw);go_simp;(try with_reducible rfl))
   rotate_left
   simp only [Act.put,zq0,zq1,zq2,zq3,zq4,zq5]
   refine wpAnyH_take (i:=6) (v:=?_) rfl (by kernel_rfl) (by kernel_rfl) (by kernel_rfl) (fun _ _ _ h=>h) (Or.inl ⟨by rfl,?_⟩) hS ?_
   rotate_left
   · (intro w hSw;(try dsimp only at hSw);go_simp;(try with_reducible rfl))
   rotate_left
   simp only [Act.put,zq0,zq1,zq2,zq3,zq4,zq5]
   refine wpAnyH_take (i:=7) (v:=?_) rfl (by kernel_rfl) (by kernel_rfl) (by kernel_rfl) (fun _ _ _ h=>h) (Or.inl ⟨by rfl,?_⟩) hS ?_
   rotate_left
   · (intro w hSw;(try dsimp only at hSw);go_simp;(try with_reducible rfl))
   rotate_left
   simp only [Act.put,zq0,zq1,zq2,zq3,zq4,zq5]
   refine wpAnyH_take (i:=8) (v:=?_) rfl (by kernel_rfl) (by kernel_rfl) (by kernel_rfl) (fun _ _ _ h=>h) (Or.inl ⟨by rfl,?_⟩) hS ?_
   rotate_left
   · (intro w hSw;(try dsimp only at hSw);go_simp;(try with_reducible rfl))
   rotate_left
   simp only [Act.put,zq0,zq1,zq2,zq3,zq4,zq5]
   refine wpAnyH_take (i:=9) (v:=?_) rfl (by kernel_rfl) (by kernel_rfl) (by kernel_rfl) (fun _ _ _ h=>h) (Or.inl ⟨by rfl,?_⟩) hS ?_
   rotate_left
   · (intro w hSw;(try dsimp only at hSw);go_simp;(try with_reducible rfl))
   rotate_left
   simp only [Act.put,zq0,zq1,zq2,zq3,zq4,zq5]
   refine wpAnyH_take (i:=10) (v:=?_) rfl (by kernel_rfl) (by kernel_rfl) (by kernel_rfl) (fun _ _ _ h=>h) (Or.inl ⟨by rfl,?_⟩) hS ?_
   rotate_left
   · (intro w hSw;(try dsimp only at hSw);go_simp;(try with_reducible rfl))
   rotate_left
   simp only [Act.put,zq0,zq1,zq2,zq3,zq4,zq5]
   refine wpAnyH_take (i:=11) (v:=?_) rfl (by kernel_rfl) (by kernel_rfl) (by kernel_rfl) (fun _ _ _ h=>h) (Or.inl ⟨by rfl,?_⟩) hS ?_
   rotate_left
   · (intro w hSw;(try dsimp only at hSw);go_simp;(try with_reducible rfl))
   rotate_left
   simp only [Act.put,zq0,zq1,zq2,zq3,zq4,zq5]
   refine wpAnyH_take (i:=12) (v:=?_) rfl (by kernel_rfl) (by kernel_rfl) (by kernel_rfl) (fun _ _ _ h=>h) (Or.inl ⟨by rfl,?_⟩) hS ?_
   rotate_left
   · (intro w hSw;(try dsimp only at hSw);go_simp;(try with_reducible rfl))
   rotate_left
   simp only [Act.put,zq0,zq1,zq2,zq3,zq4,zq5]
   refine wpAnyH_take (i:=13) (v:=?_) rfl (by kernel_rfl) (by kernel_rfl) (by kernel_rfl) (fun _ _ _ h=>h) (Or.inl ⟨by rfl,?_⟩) hS ?_
   rotate_left
   · (intro w hSw;(try dsimp only at hSw);go_simp;(try with_reducible rfl))
   rotate_left
   simp only [Act.put,zq0,zq1,zq2,zq3,zq4,zq5]
   refine wpAnyH_take (i:=14) (v:=?_) rfl (by kernel_rfl) (by kernel_rfl) (by kernel_rfl) (fun _ _ _ h=>h) (Or.inl ⟨by rfl,?_⟩) hS ?_
   rotate_left
   · (intro w hSw;(try dsimp only at hSw);go_simp;(try with_reducible rfl))
   rotate_left
   simp only [Act.put,zq0,zq1,zq2,zq3,zq4,zq5]
   refine wpAnyH_take (i:=15) (v:=?_) rfl (by kernel_rfl) (by kernel_rfl) (by kernel_rfl) (fun _ _ _ h=>h) (Or.inl ⟨by rfl,?_⟩) hS ?_
   rotate_left
   · (intro w hSw;(try dsimp only at hSw);go_simp;(try with_reducible rfl))
   rotate_left
   simp only [Act.put,zq0,zq1,zq2,zq3,zq4,zq5]
   refine wpAnyH_take (i:=16) (v:=?_) rfl (by kernel_rfl) (by kernel_rfl) (by kernel_rfl) (fun _ _ _ h=>h) (Or.inl ⟨by rfl,?_⟩) hS ?_
   rotate_left
   · (intro w hSw;(try dsimp only at hSw);go_simp;(try with_reducible rfl))
   rotate_left
   simp only [Act.put,zq0,zq1,zq2,zq3,zq4,zq5]
   refine wpAnyH_take (i:=17) (v:=?_) rfl (by kernel_rfl) (by kernel_rfl) (by kernel_rfl) (fun _ _ _ h=>h) (Or.inl ⟨by rfl,?_⟩) hS ?_
   rotate_left
   · (intro w hSw;(try dsimp only at hSw);go_simp;(try with_reducible rfl))
   rotate_left
   simp only [Act.put,zq0,zq1,zq2,zq3,zq4,zq5]
   refine wpAnyH_take (i:=18) (v:=?_) rfl (by kernel_rfl) (by kernel_rfl) (by kernel_rfl) (fun _ _ _ h=>h) (Or.inl ⟨by rfl,?_⟩) hS ?_
   rotate_left
   · (intro w hSw;(try dsimp only at hSw);go_simp;(try with_reducible rfl))
   rotate_left
   simp only [Act.put,zq0,zq1,zq2,zq3,zq4,zq5]
   refine wpAnyH_take (i:=19) (v:=?_) rfl (by kernel_rfl) (by kernel_rfl) (by kernel_rfl) (fun _ _ _ h=>h) (Or.inl ⟨by rfl,?_⟩) hS ?_
   rotate_left
   · (intro w hSw;(try dsimp only at hSw);go_simp;(try with_reducible rfl))
   rotate_left
   simp only [Act.put,zq0,zq1,zq2,zq3,zq4,zq5]
   refine wpAnyH_take (i:=20) (v:=?_) rfl (by kernel_rfl) (by kernel_rfl) (by kernel_rfl) (fun _ _ _ h=>h) (Or.inl ⟨by rfl,?_⟩) hS ?_
   rotate_left
   · (intro w hSw;(try dsimp only at hSw);go_simp;(try with_reducible rfl))
   rotate_left
   simp only [Act.put,zq0,zq1,zq2,zq3,zq4,zq5]
   refine wpAnyH_take (i:=21) (v:=?_) rfl (by kernel_rfl) (by kernel_rfl) (by kernel_rfl) (fun _ _ _ h=>h) (Or.inl ⟨by rfl,?_⟩) hS ?_
   rotate_left
   · (intro w hSw;(try dsimp only at hSw);go_simp;(try with_reducible rfl))
   rotate_left
   simp only [Act.put,zq0,zq1,zq2,zq3,zq4,zq5]
   refine wpAnyH_take (i:=22) (v:=?_) rfl (by kernel_rfl) (by kernel_rfl) (by kernel_rfl) (fun _ _ _ h=>h) (Or.inl ⟨by rfl,?_⟩) hS ?_
   rotate_left
   · (intro w hSw;(try dsimp only at hSw);go_simp;(try with_reducible rfl))
   rotate_left
   simp only [Act.put,zq0,zq1,zq2,zq3,zq4,zq5]
   refine wpAnyH_take (i:=23) (v:=?_) rfl (by kernel_rfl) (by kernel_rfl) (by kernel_rfl) (fun _ _ _ h=>h) (Or.inl ⟨by rfl,?_⟩) hS ?_
   rotate_left
   · (intro w hSw;(try dsimp only at hSw);go_simp;(try with_reducible rfl))
   rotate_left
   simp only [Act.put,zq0,zq1,zq2,zq3,zq4,zq5]
   refine wpAnyH_take (i:=24) (v:=?_) rfl (by kernel_rfl) (by kernel_rfl) (by kernel_rfl) (fun _ _ _ h=>h) (Or.inl ⟨by rfl,?_⟩) hS ?_
   rotate_left
   · (intro w hSw;(try dsimp only at hSw);go_simp;(try with_reducible rfl))
   rotate_left
   simp only [Act.put,zq0,zq1,zq2,zq3,zq4,zq5]
   refine wpAnyH_ready (rs:=[25]) (by kernel_rfl) (by simp) ?_
   refine AllReadyH.cons rfl (fun K hK=>?_) AllReadyH.nil
   rw [if_pos (by rfl)]
   go_simp
   refine (HD.out _ (B1.next hS.1) (HR1.out.below hS.1)).mono ?_
   rintro e w3 ⟨rfl,k3⟩
   refine hK.out _ _ ⟨Ext.trans hS.1 k3,(B1.next (Ext.trans hS.1 k3)).cell⟩ (fun hS'=>?_)
   clear hK K hS k3
   have hS:=hS'
   clear hS'
   try simp only [Act.put,zq0,zq1,zq2,zq3,zq4,zq5]
   refine wpAnyH_take (i:=26) (v:=?_) rfl (by kernel_rfl) (by kernel_rfl) (by kernel_rfl) (fun _ _ _ h=>h) (Or.inl ⟨by rfl,?_⟩) hS ?_
   rotate_left
   · (intro w hSw;(try dsimp only at hSw);go_simp;(try with_reducible rfl))
   rotate_left
   simp only [Act.put,zq0,zq1,zq2,zq3,zq4,zq5]
   refine wpAnyH_take (i:=27) (v:=?_) rfl (by kernel_rfl) (by kernel_rfl) (by kernel_rfl) (fun _ _ _ h=>h) (Or.inl ⟨by rfl,?_⟩) hS ?_
   rotate_left
   · (intro w hSw;(try dsimp only at hSw);go_simp;(try with_reducible rfl))
   rotate_left
   simp only [Act.put,zq0,zq1,zq2,zq3,zq4,zq5]
   refine wpAnyH_take (i:=28) (v:=?_) rfl (by kernel_rfl) (by kernel_rfl) (by kernel_rfl) (fun _ _ _ h=>h) (Or.inl ⟨by rfl,?_⟩) hS ?_
   rotate_left
   · (intro w hSw;(try dsimp only at hSw);go_simp;(try with_reducible rfl))
   rotate_left
   simp only [Act.put,zq0,zq1,zq2,zq3,zq4,zq5]
   refine wpAnyH_take (i:=29) (v:=?_) rfl (by kernel_rfl) (by kernel_rfl) (by kernel_rfl) (fun _ _ _ h=>h) (Or.inl ⟨by rfl,?_⟩) hS ?_
   rotate_left
   · (intro w hSw;(try dsimp only at hSw);go_simp;(try with_reducible rfl))
   rotate_left
   simp only [Act.put,zq0,zq1,zq2,zq3,zq4,zq5]
   refine wpAnyH_done (by kernel_rfl) ?_ _
   have HT:=Lib.hid (Ext.trans b1 hS.1)
   clear hS
   go_wp2
   go_ret
   refine ⟨?_,HT.out⟩
   rw [HRB.out,e1]
   first | rfl | (rw [Bool.true_and];rfl)
 · skip
   refine wpAnyH_take (i:=0) (v:=?_) rfl (by kernel_rfl) (by kernel_rfl) (by kernel_rfl) (fun _ _ _ h=>h) (Or.inl ⟨by rfl,?_⟩) hS ?_
   rotate_left
   · (intro w hSw;(try dsimp only at hSw);go_simp;(try with_reducible rfl))
   rotate_left
   simp only [Act.put,zq0,zq1,zq2,zq3,zq4,zq5]
   refine wpAnyH_take (i:=1) (v:=?_) rfl (by kernel_rfl) (by kernel_rfl) (by kernel_rfl) (fun _ _ _ h=>h) (Or.inl ⟨by rfl,?_⟩) hS ?_
   rotate_left
   · (intro w hSw;(try dsimp only at hSw);go_simp;(try with_reducible rfl))
   rotate_left
   simp only [Act.put,zq0,zq1,zq2,zq3,zq4,zq5]
   refine wpAnyH_take (i:=2) (v:=?_) rfl (by kernel_rfl) (by kernel_rfl) (by kernel_rfl) (fun _ _ _ h=>h) (Or.inl ⟨by rfl,?_⟩) hS ?_
   rotate_left
   · (intro w hSw;(try dsimp only at hSw);go_simp;(try with_reducible rfl))
   rotate_left
   simp only [Act.put,zq0,zq1,zq2,zq3,zq4,zq5]
   refine wpAnyH_take (i:=3) (v:=?_) rfl (by kernel_rfl) (by kernel_rfl) (by kernel_rfl) (fun _ _ _ h=>h) (Or.inl ⟨by rfl,?_⟩) hS ?_
   rotate_left
   · (intro w hSw;(try dsimp only at hSw);go_simp;(try with_reducible rfl))
   rotate_left
   simp only [Act.put,zq0,zq1,zq2,zq3,zq4,zq5]
   refine wpAnyH_take (i:=4) (v:=?_) rfl (by kernel_rfl) (by kernel_rfl) (by kernel_rfl) (fun _ _ _ h=>h) (Or.inl ⟨by rfl,?_⟩) hS ?_
   rotate_left
   · (intro w hSw;(try dsimp only at hSw);go_simp;(try with_reducible rfl))
   rotate_left
   simp only [Act.put,zq0,zq1,zq2,zq3,zq4,zq5]
   refine wpAnyH_take (i:=5) (v:=?_) rfl (by kernel_rfl) (by kernel_rfl) (by kernel_rfl) (fun _ _ _ h=>h) (Or.inl ⟨by rfl,?_⟩) hS ?_
   rotate_left
   · (intro w hSw;(try dsimp only at hSw);go_simp;(try with_reducible rfl))
   rotate_left
   simp only [Act.put,zq0,zq1,zq2,zq3,zq4,zq5]
   refine wpAnyH_take (i:=6) (v:=?_) rfl (by kernel_rfl) (by kernel_rfl) (by kernel_rfl) (fun _ _ _ h=>h) (Or.inl ⟨by rfl,?_⟩) hS ?_
   rotate_left
   · (intro w hSw;(try dsimp only at hSw);go_simp;(try with_reducible rfl))
   rotate_left
   simp only [Act.put,zq0,zq1,zq2,zq3,zq4,zq5]
   refine wpAnyH_take (i:=7) (v:=?_) rfl (by kernel_rfl) (by kernel_rfl) (by kernel_rfl) (fun _ _ _ h=>h) (Or.inl ⟨by rfl,?_⟩) hS ?_
   rotate_left
   · (intro w hSw;(try dsimp only at hSw);go_simp;(try with_reducible rfl))
   rotate_left
   simp only [Act.put,zq0,zq1,zq2,zq3,zq4,zq5]
   refine wpAnyH_take (i:=8) (v:=?_) rfl (by kernel_rfl) (by kernel_rfl) (by kernel_rfl) (fun _ _ _ h=>h) (Or.inl ⟨by rfl,?_⟩) hS ?_
   rotate_left
   · (intro w hSw;(try dsimp only at hSw);go_simp;(try with_reducible rfl))
   rotate_left
   simp only [Act.put,zq0,zq1,zq2,zq3,zq4,zq5]
   refine wpAnyH_take (i:=9) (v:=?_) rfl (by kernel_rfl) (by kernel_rfl) (by kernel_rfl) (fun _ _ _ h=>h) (Or.inl ⟨by rfl,?_⟩) hS ?_
   rotate_left
   · (intro w hSw;(try dsimp only at hSw);go_simp;(try with_reducible rfl))
   rotate_left
   simp only [Act.put,zq0,zq1,zq2,zq3,zq4,zq5]
   refine wpAnyH_take (i:=10) (v:=?_) rfl (by kernel_rfl) (by kernel_rfl) (by kernel_rfl) (fun _ _ _ h=>h) (Or.inl ⟨by rfl,?_⟩) hS ?_
   rotate_left
   · (intro w hSw;(try dsimp only at hSw);go_simp;(try with_reducible rfl))
   rotate_left
   simp only [Act.put,zq0,zq1,zq2,zq3,zq4,zq5]
   refine wpAnyH_take (i:=11) (v:=?_) rfl (by kernel_rfl) (by kernel_rfl) (by kernel_rfl) (fun _ _ _ h=>h) (Or.inl ⟨by rfl,?_⟩) hS ?_
   rotate_left
   · (intro w hSw;(try dsimp only at hSw);go_simp;(try with_reducible rfl))
   rotate_left
   simp only [Act.put,zq0,zq1,zq2,zq3,zq4,zq5]
   refine wpAnyH_take (i:=12) (v:=?_) rfl (by kernel_rfl) (by kernel_rfl) (by kernel_rfl) (fun _ _ _ h=>h) (Or.inr ⟨by rfl,?_⟩) hS ?_
   rotate_left
   · rfl
   rotate_left
   simp only [Act.put,zq0,zq1,zq2,zq3,zq4,zq5]
   refine wpAnyH_take (i:=13) (v:=?_) rfl (by kernel_rfl) (by kernel_rfl) (by kernel_rfl) (fun _ _ _ h=>h) (Or.inr ⟨by rfl,?_⟩) hS ?_
   rotate_left
   · rfl
   rotate_left
   simp only [Act.put,zq0,zq1,zq2,zq3,zq4,zq5]
   refine wpAnyH_take (i:=14) (v:=?_) rfl (by kernel_rfl) (by kernel_rfl) (by kernel_rfl) (fun _ _ _ h=>h) (Or.inr ⟨by rfl,?_⟩) hS ?_
   rotate_left
   · rfl
   rotate_left
   simp only [Act.put,zq0,zq1,zq2,zq3,zq4,zq5]
   refine wpAnyH_take (i:=15) (v:=?_) rfl (by kernel_rfl) (by kernel_rfl) (by kernel_rfl) (fun _ _ _ h=>h) (Or.inr ⟨by rfl,?_⟩) hS ?_
   rotate_left
   · rfl
   rotate_left
   simp only [Act.put,zq0,zq1,zq2,zq3,zq4,zq5]
   refine wpAnyH_take (i:=16) (v:=?_) rfl (by kernel_rfl) (by kernel_rfl) (by kernel_rfl) (fun _ _ _ h=>h) (Or.inr ⟨by rfl,?_⟩) hS ?_
   rotate_left
   · rfl
   rotate_left
   simp only [Act.put,zq0,zq1,zq2,zq3,zq4,zq5]
   refine wpAnyH_take (i:=17) (v:=?_) rfl (by kernel_rfl) (by kernel_rfl) (by kernel_rfl) (fun _ _ _ h=>h) (Or.inr ⟨by rfl,?_⟩) hS ?_
   rotate_left
   · rfl
   rotate_left
   simp only [Act.put,zq0,zq1,zq2,zq3,zq4,zq5]
   refine wpAnyH_take (i:=18) (v:=?_) rfl (by kernel_rfl) (by kernel_rfl) (by kernel_rfl) (fun _ _ _ h=>h) (Or.inr ⟨by rfl,?_⟩) hS ?_
   rotate_left
   · rfl
   rotate_left
   simp only [Act.put,zq0,zq1,zq2,zq3,zq4,zq5]
   refine wpAnyH_take (i:=19) (v:=?_) rfl (by kernel_rfl) (by kernel_rfl) (by kernel_rfl) (fun _ _ _ h=>h) (Or.inr ⟨by rfl,?_⟩) hS ?_
   rotate_left
   · rfl
   rotate_left
   simp only [Act.put,zq0,zq1,zq2,zq3,zq4,zq5]
   refine wpAnyH_take (i:=20) (v:=?_) rfl (by kernel_rfl) (by kernel_rfl) (by kernel_rfl) (fun _ _ _ h=>h) (Or.inr ⟨by rfl,?_⟩) hS ?_
   rotate_left
   · rfl
   rotate_left
   simp only [Act.put,zq0,zq1,zq2,zq3,zq4,zq5]
   refine wpAnyH_take (i:=21) (v:=?_) rfl (by kernel_rfl) (by kernel_rfl) (by kernel_rfl) (fun _ _ _ h=>h) (Or.inr ⟨by rfl,?_⟩) hS ?_
   rotate_left
   · rfl
   rotate_left
   simp only [Act.put,zq0,zq1,zq2,zq3,zq4,zq5]
   refine wpAnyH_take (i:=22) (v:=?_) rfl (by kernel_rfl) (by kernel_rfl) (by kernel_rfl) (fun _ _ _ h=>h) (Or.inr ⟨by rfl,?_⟩) hS ?_
   rotate_left
   · rfl
   rotate_left
   simp only [Act.put,zq0,zq1,zq2,zq3,zq4,zq5]
   refine wpAnyH_take (i:=23) (v:=?_) rfl (by kernel_rfl) (by kernel_rfl) (by kernel_rfl) (fun _ _ _ h=>h) (Or.inr ⟨by rfl,?_⟩) hS ?_
   rotate_left
   · rfl
   rotate_left
   simp only [Act.put,zq0,zq1,zq2,zq3,zq4,zq5]
   refine wpAnyH_take (i:=24) (v:=?_) rfl (by kernel_rfl) (by kernel_rfl) (by kernel_rfl) (fun _ _ _ h=>h) (Or.inr ⟨by rfl,?_⟩) hS ?_
   rotate_left
   · rfl
   rotate_left
   simp only [Act.put,zq0,zq1,zq2,zq3,zq4,zq5]
   refine wpAnyH_take (i:=25) (v:=?_) rfl (by kernel_rfl) (by kernel_rfl) (by kernel_rfl) (fun _ _ _ h=>h) (Or.inr ⟨by rfl,?_⟩) hS ?_
   rotate_left
   · rfl
   rotate_left
   simp only [Act.put,zq0,zq1,zq2,zq3,zq4,zq5]
   refine wpAnyH_take (i:=26) (v:=?_) rfl (by kernel_rfl) (by kernel_rfl) (by kernel_rfl) (fun _ _ _ h=>h) (Or.inr ⟨by rfl,?_⟩) hS ?_
   rotate_left
   · rfl
   rotate_left
   simp only [Act.put,zq0,zq1,zq2,zq3,zq4,zq5]
   refine wpAnyH_take (i:=27) (v:=?_) rfl (by kernel_rfl) (by kernel_rfl) (by kernel_rfl) (fun _ _ _ h=>h) (Or.inr ⟨by rfl,?_⟩) hS ?_
   rotate_left
   · rfl
   rotate_left
   simp only [Act.put,zq0,zq1,zq2,zq3,zq4,zq5]
   refine wpAnyH_take (i:=28) (v:=?_) rfl (by kernel_rfl) (by kernel_rfl) (by kernel_rfl) (fun _ _ _ h=>h) (Or.inl ⟨by rfl,?_⟩) hS ?_
   rotate_left
   · (intro w hSw;(try dsimp only at hSw);go_simp;(try with_reducible rfl))
   rotate_left
   simp only [Act.put,zq0,zq1,zq2,zq3,zq4,zq5]
   refine wpAnyH_take (i:=29) (v:=?_) rfl (by kernel_rfl) (by kernel_rfl) (by kernel_rfl) (fun _ _ _ h=>h) (Or.inl ⟨by rfl,?_⟩) hS ?_
   rotate_left
   · (intro w hSw;(try dsimp only at hSw);go_simp;(try with_reducible rfl))
   rotate_left
   simp only [Act.put,zq0,zq1,zq2,zq3,zq4,zq5]
   refine wpAnyH_done (by kernel_rfl) ?_ _
   have HT:=Lib.hid (Ext.trans b1 hS.1)
   clear hS
   go_wp2
   go_ret
   refine ⟨?_,HT.out⟩
   rw [HRB.out,e1]
   first | rfl | (rw [Bool.true_and];rfl)
end Go.Proofs.Ythapabjlhooglaa
