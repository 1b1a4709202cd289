/- What this claim needs of my texts, merged and shortened by a program (part 8). -/
import Derived.Test.YthapabjlhooglaaZFlightAdds7
namespace Go.Proofs.Ythapabjlhooglaa
open Go Go.RowKit
set_option linter.unusedSimpArgs false
set_option linter.unusedVariables false
theorem built_fl5 (n : Int) (k a m : Int) (Ad As Aq Ax : Option Addr) (d s q x cd cs cq cx : Nat) : Try.prog.built 67 [(0,.int .i64 n),(1,.agg #[.int .u8 k,.int .i64 a,.int .i64 m,.slice Ad d cd]),(2,.slice As s cs),(3,.slice Aq q cq),(4,.slice Ax x cx)] = some #[.int .i64 n,.int .u8 k,.int .i64 a,.int .i64 m,.slice Ad d cd,.slice As s cs,.slice Aq q cq,.slice Ax x cx]:=by
 kernel_rfl
def RRes (r : List FlTy.T × Int) (e : Ending) (w : World) : Prop:=∃ A c,e = .returned (.tuple #[.slice A r.1.length c,.int .i64 r.2]) ∧ RdIn w (fun _=>True) (.sl FlTy) r.1 [.slice A r.1.length c]
theorem RRes.bad {v : Int} {w : World} : RRes ([],v) (.returned (.tuple #[.slice none 0 0,.int .i64 v])) w:=⟨none,0,rfl,rdin_sl.2 ⟨none,0,rfl,by simp,by simp [maxLen],by simp,.inl rfl⟩⟩
theorem RRes.mk {L c : Nat} {outs : List FlTy.T} {A : Option Addr} {v : Int} {w : World} (hl : outs.length = L) (hf : RdIn w (fun _=>True) (.sl FlTy) outs [.slice A L c]) : RRes (outs,v) (.returned (.tuple #[.slice A L c,.int .i64 v])) w:=by
 subst hl
 exact ⟨A,c,rfl,hf⟩
def AddR (ki : UInt8) (a : Int) (m : Nat) (bs : List UInt8) (i : Nat) (v : Value) (lo hi : Nat) (w : World) : Prop:=
 match i with
 | 2=>∃ A c,v = .agg #[.int .u8 ((ki.toNat : Nat) : Int),.int .i64 a,.int .i64 (m : Int),.slice A bs.length c] ∧ RdIn w (InL w lo hi) (.sl .byte) bs [.slice A bs.length c]
 | 5=>∃ g,v = .slice (some ⟨g,0,none⟩) m m ∧ NumRow w (Iv 0 hi) 5 (.slice (some ⟨g,0,none⟩) m m) (List.replicate m (.int .u8 0))
 | 8=>∃ g,v = .slice (some ⟨g,0,none⟩) m m ∧ NumRow w (Iv 0 hi) 22 (.slice (some ⟨g,0,none⟩) m m) (List.replicate m (.int .u32 0))
 | 11=>∃ g,v = .slice (some ⟨g,0,none⟩) m m ∧ NumRow w (Iv 0 hi) 26 (.slice (some ⟨g,0,none⟩) m m) (List.replicate m (.slice none 0 0))
 | _=>∃ gx,v = .pointer (some ⟨gx,0,none⟩) ∧ BoxOf w gx #[.int .i64 0,.int .u8 0,.int .i64 0,.int .i64 0,.slice none 0 0,.slice none 0 0,.slice none 0 0,.slice none 0 0] 67 ∧ lo ≤ gx ∧ gx < hi
theorem AddR.keep {ki : UInt8} {a : Int} {m : Nat} {bs : List UInt8} {i : Nat} (v : Value) (lo hi : Nat) (w w' : World) (h : AddR ki a m bs i v lo hi w) (hb : Below w.heap.size w w') (hh : hi ≤ w.heap.size) : AddR ki a m bs i v lo hi w':=by
 unfold AddR at *
 split at h
 · obtain ⟨A,c,e,r⟩:=h
   exact ⟨A,c,e,(r.below hb).mono fun b hb'=>⟨hb'.1,hb'.2.below hb⟩⟩
 · obtain ⟨g,e,r⟩:=h
   exact ⟨g,e,r.frame fun b hb'=>hb.block b (Nat.lt_of_lt_of_le hb'.2 hh)⟩
 · obtain ⟨g,e,r⟩:=h
   exact ⟨g,e,r.frame fun b hb'=>hb.block b (Nat.lt_of_lt_of_le hb'.2 hh)⟩
 · obtain ⟨g,e,r⟩:=h
   exact ⟨g,e,r.frame fun b hb'=>hb.block b (Nat.lt_of_lt_of_le hb'.2 hh)⟩
 · obtain ⟨gx,e,h1,h2,h3⟩:=h
   exact ⟨gx,e,h1.next hb,h2,h3⟩
def AddT (fs : List FlTy.T) (cs : Array Value) (i : Nat) (v : Value) (lo hi : Nat) (w : World) : Prop:=
 match i with
 | 1=>OwnE flE w (Iv lo hi) lo 67 v fs
 | _=>∃ gx,v = .slice (some ⟨gx,0,none⟩) 1 1 ∧ BoxOf w gx cs 67 ∧ lo ≤ gx ∧ gx < hi
theorem AddT.keep {fs : List FlTy.T} {cs : Array Value} {i : Nat} (v : Value) (lo hi : Nat) (w w' : World) (h : AddT fs cs i v lo hi w) (hb : Below w.heap.size w w') (hh : hi ≤ w.heap.size) : AddT fs cs i v lo hi w':=by
 unfold AddT at *
 split at h
 · exact h.next (fun b hb'=>Nat.lt_of_lt_of_le hb'.2 hh) hb
 · obtain ⟨gx,e,h1,h2,h3⟩:=h
   exact ⟨gx,e,h1.next hb,h2,h3⟩
def RAddMk (w : World) (n : Int) (ki : UInt8) (a : Int) (bs : List UInt8) (m : Nat) (s : Value) (wx : World) : Prop:=∃ g3 g5 g7 gf A4 c4,s = .pointer (some ⟨gf,0,none⟩) ∧ BoxOf wx gf #[.int .i64 n,.int .u8 ((ki.toNat : Nat) : Int),.int .i64 a,.int .i64 (m : Int),.slice A4 bs.length c4,.slice (some ⟨g3,0,none⟩) m m,.slice (some ⟨g5,0,none⟩) m m,.slice (some ⟨g7,0,none⟩) m m] 67 ∧ NumRow wx (Iv 0 wx.heap.size) 5 (.slice (some ⟨g3,0,none⟩) m m) (List.replicate m (.int .u8 0)) ∧ NumRow wx (Iv 0 wx.heap.size) 22 (.slice (some ⟨g5,0,none⟩) m m) (List.replicate m (.int .u32 0)) ∧ NumRow wx (Iv 0 wx.heap.size) 26 (.slice (some ⟨g7,0,none⟩) m m) (List.replicate m (.slice none 0 0)) ∧ RdIn wx (fun b=>b ≠ gf) (.sl .byte) bs [.slice A4 bs.length c4] ∧ Below w.heap.size w wx ∧ w.heap.size ≤ gf
set_option maxRecDepth 100000 in
set_option maxHeartbeats 8000000 in
theorem radd24_any (S : Nat → Prop) (x : Cfg) (fs : List FlTy.T) (N d : Nat) (B : Option Addr) (hN : fs.length = N) (n : Int) (hn : IsInt n) (ki : UInt8) (a y : Int) (D : Option Addr) (dq : Nat) (bs : List UInt8) (last : Nat) (hlast : last < 2 ^ 32) (w : World) (hr : RdIn w S (.sl FlTy) fs [.slice B N d]) (hd : RdIn w S (.sl .byte) bs [.slice D bs.length dq]) :
 Calls Try.prog 12 #[x.val,.slice B N d,.int .i64 n,.agg #[.int .u8 ((ki.toNat : Nat) : Int),.int .i64 a,.int .i64 y,.slice D bs.length dq],.int .u32 (last : Int)] w fun e w'=>RRes (addP x fs n ki a y bs last) e w' ∧ Below w.heap.size w w':=by
 obtain ⟨iu,hu,hu0,hu1,hu2⟩:=minfo_u8
 obtain ⟨iq,hq,hq0,hq1,hq2⟩:=minfo_u32
 obtain ⟨ix,hx,hx0,hx1,hx2⟩:=minfo_bytes
 obtain ⟨ig,hig,hg0,hg1,hg2⟩:=minfo_flight
 have HX:=Lib.hid (fun (w : World) (hr : RdIn w S (.sl FlTy) fs [.slice B N d])=>rmay24_any S x fs N d B hN w hr)
 have HCK:=Lib.hid (fun (w : World)=>rcheck_all x ((ki.toNat : Nat) : Int) a y D bs.length dq w)
 have HC0:=Lib.hid (fun (hc : askCode x ((ki.toNat : Nat) : Int) a y bs.length = 0)=>askCode_0 hc)
 have HF8:=Lib.hid (fun (h : flB x fs = true)=>(flB_iff.1 h).2.1)
 obtain ⟨ok,hok⟩ : ∃ z,z = flB x fs:=⟨_,rfl⟩
 obtain ⟨code,hcd⟩ : ∃ z,z = askCode x ((ki.toNat : Nat) : Int) a y bs.length:=⟨_,rfl⟩
 obtain ⟨mv,hmv⟩ : ∃ z,z = addP x fs n ki a y bs last:=⟨_,rfl⟩
 rw [← hmv]
 have HMV : Hid (mv = if ok = true then (if code = 0 then (if n < 1 ∨ n ≤ lastN fs then ([],2) else if fs.length = 8 then ([],9) else (fs ++ [newFl n ki a y.toNat bs last],0)) else ([],code)) else ([],8)):=by rw [hok,hcd];exact hmv
 have HOK:=Lib.hid hok
 have HCD:=Lib.hid hcd
 rw [← hok] at HX HF8
 rw [← hcd] at HCK HC0
 clear hmv hok hcd HOK HCD
 have HINT:=Lib.hid hn
 have HLAST:=Lib.hid hlast
 obtain ⟨id,m',c,r,l,h⟩:=x
 unfold Cfg.val at *
 dsimp only at *
 have C0:=BoxOf.alloc (BoxOf.new w #[.int .u32 (id : Int),.int .i64 m',.int .i64 c,.int .i64 r,.int .i64 l,.int .i64 h] 24) (.cells #[.int .u8 ((ki.toNat : Nat) : Int),.int .i64 a,.int .i64 y,.slice D bs.length dq] 28)
 have A0:=BoxOf.new' (w.alloc (.cells #[.int .u32 (id : Int),.int .i64 m',.int .i64 c,.int .i64 r,.int .i64 l,.int .i64 h] 24)) (w.heap.size + 1) #[.int .u8 ((ki.toNat : Nat) : Int),.int .i64 a,.int .i64 y,.slice D bs.length dq] 28 (by simp)
 have t0:=Ext.alloc (Ext.alloc (Below.refl w.heap.size w) (.cells #[.int .u32 (id : Int),.int .i64 m',.int .i64 c,.int .i64 r,.int .i64 l,.int .i64 h] 24)) (.cells #[.int .u8 ((ki.toNat : Nat) : Int),.int .i64 a,.int .i64 y,.slice D bs.length dq] 28)
 have HR:=Lib.hid (hr.below t0)
 have HD:=Lib.hid (hd.below t0)
 have HNL:=Lib.hid hN
 clear hr hN hd hn hlast
 go_enter Try.func12,Try.ntmps12
 go_upto_region 1 with fail
 generalize (w.alloc (.cells #[.int .u32 (id : Int),.int .i64 m',.int .i64 c,.int .i64 r,.int .i64 l,.int .i64 h] 24)).alloc (.cells #[.int .u8 ((ki.toNat : Nat) : Int),.int .i64 a,.int .i64 y,.slice D bs.length dq] 28) = W at *
 have x0:=C0.cell
 go_wp2_with fail
 refine (HX.out _ HR.out).mono ?_
 rintro e w1 ⟨rfl,b1⟩
 have t1:=Ext.trans t0 b1
 have C1:=C0.next b1
 have A1:=A0.next b1
 clear x0
 cases ok with
 | false=>
   have hm : mv = ([],8):=by rw [HMV.out,if_neg Bool.false_ne_true]
   subst hm
   clear C1 A1
   go_wp2
   go_ret2
   exact ⟨RRes.bad,t1⟩
 | true=>
 have HN8 : Hid (N ≤ 8):=by have:=HF8.out rfl;have:=HNL.out;show _ ≤ _;omega
 have HR1:=Lib.hid (HR.out.below b1)
 have HD1:=Lib.hid (HD.out.below b1)
 clear HX HF8 HR HD C0 A0 t0 b1
 have x1:=C1.cell
 have y1:=A1.cell
 have HB:=Lib.hid (HCK.out w1)
 go_wp2_with fail
 refine HB.out.mono ?_
 rintro e w2 ⟨rfl,b2⟩
 have t2:=Ext.trans t1 b2
 have A2:=A1.next b2
 have HR2:=Lib.hid (HR1.out.below b2)
 have HD2:=Lib.hid (HD1.out.below b2)
 clear x1 y1 HB HR1 HD1 t1 b2 C1 A1 HCK
 by_cases hcode : code = 0
 rotate_left
 · have e1 : (code != 0) = true:=by simpa using hcode
   have hm : mv = ([],code):=by rw [HMV.out,if_pos trivial,if_neg hcode]
   subst hm
   clear hcode
   go_wp2
   go_ret2
   exact ⟨RRes.bad,t2⟩
 obtain ⟨_,hpl,_,hy,ha,_⟩:=HC0.out hcode
 obtain ⟨m,hm⟩ : ∃ m : Nat,y = (m : Int):=⟨y.toNat,by omega⟩
 have HM8 : Hid (m ≤ 8):=by show _ ≤ _;omega
 have HA : Hid (0 ≤ a ∧ a ≤ 1000):=ha
 have HMV2 : Hid (mv = if n < 1 ∨ n ≤ lastN fs then ([],2) else if fs.length = 8 then ([],9) else (fs ++ [newFl n ki a m bs last],0)):=by
  show _ = _
  rw [HMV.out,if_pos trivial,if_pos hcode,hm,Int.toNat_natCast]
 subst hm hcode
 clear hpl hy ha HC0 HMV
 obtain ⟨bad,hbad⟩ : ∃ z : Bool,z = decide (n < 1 ∨ n ≤ lastN fs):=⟨_,rfl⟩
 have HBAD:=Lib.hid hbad
 clear hbad
 go_upto_region 6 with fail
 go_cut [41] (fun s49 wx=>s49 = .bool bad ∧ wx = w2)
 case first=>
  rcases Bool.eq_false_or_eq_true (decide (n < 1)) with e1 | e1
  · have hb : Hid (true = bad):=by (show _ = _);rw [HBAD.out];symm;exact decide_eq_true (.inl (of_decide_eq_true e1))
    go_wp2_with fail
    go_meet
    exact ⟨by rw [← hb.out],rfl⟩
  have HE1:=Lib.hid (of_decide_eq_false e1)
  rcases Nat.eq_zero_or_pos N with h0 | h0
  · have hb : Hid (false = bad):=by
     show _ = _
     rw [HBAD.out];symm
     refine decide_eq_false fun h=>?_
     have h1:=HE1.out
     have h2 : lastN fs = 0:=by
      have h3 : fs = []:=List.eq_nil_of_length_eq_zero (by rw [HNL.out,h0])
      rw [h3];rfl
     omega
    subst h0
    go_wp2_with fail
    go_meet
    exact ⟨by rw [← hb.out],rfl⟩
  · obtain ⟨K,hK⟩ : ∃ K,N = K + 1:=⟨N - 1,by omega⟩
    have hKf : K < fs.length:=by have:=HNL.out;omega
    have HLV:=Lib.hid (lastN_at (fs:=fs) (K:=K) (by have:=HNL.out;omega))
    obtain ⟨b,off,Ab,cb,As,cs,Aq,cq,Ax,cx,hB,q0,_⟩:=fl_at HR2.out hKf
    subst hB
    generalize fs[K] = g at *
    have hKN : K < N:=by omega
    have HW : wrap64 ((N : Int) - 1) = (K : Int):=by rw [show (N : Int) - 1 = (K : Int) by omega];exact IntWalk.wrap64_in _ (by have:=HN8.out;omega)
    have e0 : decide (0 < N) = true:=decide_eq_true h0
    have HKK:=Lib.hid hK
    clear hKf hK h0
    rcases Bool.eq_false_or_eq_true (decide (n ≤ fN g)) with e2 | e2
    · have hb : Hid (true = bad):=by (show _ = _);rw [HBAD.out];symm;exact decide_eq_true (.inr (by rw [HLV.out];exact of_decide_eq_true e2))
      go_wp2_with fail
      go_meet
      exact ⟨by rw [← hb.out],rfl⟩
    · have hb : Hid (false = bad):=by
       show _ = _
       rw [HBAD.out];symm
       refine decide_eq_false fun h=>?_
       have h1:=HE1.out
       have h2:=of_decide_eq_false e2
       rw [HLV.out] at h
       omega
      go_wp2_with fail
      go_meet
      exact ⟨by rw [← hb.out],rfl⟩
 case rest=>
  obtain ⟨rfl,rfl⟩:=hcut
  cases bad with
  | true=>
    have hm : mv = ([],2):=by rw [HMV2.out,if_pos (of_decide_eq_true HBAD.out.symm)]
    subst hm
    go_wp2
    go_ret2
    exact ⟨RRes.bad,t2⟩
  | false=>
  have HMV3 : Hid (mv = if fs.length = 8 then ([],9) else (fs ++ [newFl n ki a m bs last],0)):=by
   show _ = _
   rw [HMV2.out,if_neg (of_decide_eq_false HBAD.out.symm)]
  clear HMV2 HBAD
  rcases Bool.eq_false_or_eq_true (decide ((8 : Int) ≤ (N : Int))) with e1 | e1
  · have hm : mv = ([],9):=by rw [HMV3.out,if_pos];have:=HNL.out;have:=HN8.out;have:=of_decide_eq_true e1;omega
    subst hm
    go_wp2
    go_ret2
    exact ⟨RRes.bad,t2⟩
  have HMV : Hid (mv = (fs ++ [newFl n ki a m bs last],0)):=by
   show _ = _
   rw [HMV3.out,if_neg];have:=HNL.out;have:=of_decide_eq_false e1;omega
  clear HMV3
  go_upto_region 10 with fail
  clear e1
  obtain ⟨gA,hgA⟩ : ∃ z : Nat,z = w.heap.size + 1:=⟨_,rfl⟩
  rw [← hgA] at A2 ⊢
  clear hgA
  go_cut [13] (fun s16 wx=>RAddMk wc n ki a bs m s16 wx)
  case first=>
   as_aux_lemma=>
   have AD:=A2.drew
   refine wp_region_G (S:=fun w'=>∀ o,w'.cell? ⟨gA,o,none⟩ = (#[.int .u8 ((ki.toNat : Nat) : Int),.int .i64 a,.int .i64 (m : Int),.slice D bs.length dq] : Array Value).toList[o]?) (by kernel_rfl) AD.cell (fun hS=>?_)
   have bd:=Ext.drew (Below.refl wc.heap.size wc)
   have RDD:=HD2.out.below bd
   generalize wc.drew = wd at *
   refine wpAnyG.take (i:=0) (o:=_) (v:=?_) rfl (by kernel_rfl) (by kernel_rfl) (by kernel_rfl) (fun _ _ _ h=>h) (Or.inl ⟨by rfl,?_⟩) hS ?_
   rotate_left
   · (intro w hSw;(try dsimp only at hSw);go_simp;(try with_reducible rfl))
   rotate_left
   simp only [Act.put,zq0,zq1,zq2,zq3,zq4,zq5]
   refine wpAnyG.take (i:=1) (o:=_) (v:=?_) rfl (by kernel_rfl) (by kernel_rfl) (by kernel_rfl) (fun _ _ _ h=>h) (Or.inl ⟨by rfl,?_⟩) hS ?_
   rotate_left
   · (intro w hSw;(try dsimp only at hSw);go_simp;(try with_reducible rfl))
   rotate_left
   simp only [Act.put,zq0,zq1,zq2,zq3,zq4,zq5]
   refine wpAnyG.take (i:=3) (o:=_) (v:=?_) rfl (by kernel_rfl) (by kernel_rfl) (by kernel_rfl) (fun _ _ _ h=>h) (Or.inl ⟨by rfl,?_⟩) hS ?_
   rotate_left
   · (intro w hSw;(try dsimp only at hSw);go_simp;(try with_reducible rfl))
   rotate_left
   simp only [Act.put,zq0,zq1,zq2,zq3,zq4,zq5]
   refine wpAnyG.take (i:=4) (o:=_) (v:=?_) rfl (by kernel_rfl) (by kernel_rfl) (by kernel_rfl) (fun _ _ _ h=>h) (Or.inl ⟨by rfl,?_⟩) hS ?_
   rotate_left
   · (intro w hSw;(try dsimp only at hSw);go_simp;(try with_reducible rfl))
   rotate_left
   simp only [Act.put,zq0,zq1,zq2,zq3,zq4,zq5]
   refine wpAnyG.take (i:=6) (o:=_) (v:=?_) rfl (by kernel_rfl) (by kernel_rfl) (by kernel_rfl) (fun _ _ _ h=>h) (Or.inl ⟨by rfl,?_⟩) hS ?_
   rotate_left
   · (intro w hSw;(try dsimp only at hSw);go_simp;(try with_reducible rfl))
   rotate_left
   simp only [Act.put,zq0,zq1,zq2,zq3,zq4,zq5]
   refine wpAnyG.take (i:=7) (o:=_) (v:=?_) rfl (by kernel_rfl) (by kernel_rfl) (by kernel_rfl) (fun _ _ _ h=>h) (Or.inl ⟨by rfl,?_⟩) hS ?_
   rotate_left
   · (intro w hSw;(try dsimp only at hSw);go_simp;(try with_reducible rfl))
   rotate_left
   simp only [Act.put,zq0,zq1,zq2,zq3,zq4,zq5]
   refine wpAnyG.take (i:=9) (o:=_) (v:=?_) rfl (by kernel_rfl) (by kernel_rfl) (by kernel_rfl) (fun _ _ _ h=>h) (Or.inl ⟨by rfl,?_⟩) hS ?_
   rotate_left
   · (intro w hSw;(try dsimp only at hSw);go_simp;(try with_reducible rfl))
   rotate_left
   simp only [Act.put,zq0,zq1,zq2,zq3,zq4,zq5]
   refine wpAnyG.take (i:=10) (o:=_) (v:=?_) rfl (by kernel_rfl) (by kernel_rfl) (by kernel_rfl) (fun _ _ _ h=>h) (Or.inl ⟨by rfl,?_⟩) hS ?_
   rotate_left
   · (intro w hSw;(try dsimp only at hSw);go_simp;(try with_reducible rfl))
   rotate_left
   simp only [Act.put,zq0,zq1,zq2,zq3,zq4,zq5]
   refine wpAnyG.loose [2,5,8,11] [13] [(2,47),(5,50),(8,53),(11,56),(13,13)] (AddR ki a m bs) (by kernel_rfl) (fun w' hb=>(AD.next hb).cell) (loose_cons ?_ (loose_cons ?_ (loose_cons ?_ (loose_cons ?_ (loose_cons ?_ loose_nil))))) ?_
   · refine LooseAt.mk _ 47 rfl rfl (by kernel_rfl) (by kernel_rfl) (fun w4 bb K hK=>?_) AddR.keep
     go_simp
     refine (rasktwin_any S ki a (m : Int) bs D dq w4 (RDD.below bb)).mono ?_
     rintro e w5 ⟨A4,c4,rfl,rd4,b5⟩
     exact hK.out (.agg #[.int .u8 ((ki.toNat : Nat) : Int),.int .i64 a,.int .i64 (m : Int),.slice A4 bs.length c4]) _ b5 ⟨A4,c4,rfl,rd4.mono fun b hb=>⟨⟨hb.1,hb.2.1⟩,hb.2.2⟩⟩
   · refine LooseAt.mk _ 50 rfl rfl (by kernel_rfl) (by kernel_rfl) (fun w4 bb K hK=>?_) AddR.keep
     refine wp_make_full w4 (.tmp 49) (.tmp 49) 26 rfl w4.heap.size 5 iu (.int .u8 0) 1 Try.underlying26 hu hu0 hu1 .i64 .i64 (m : Int) (m : Int) m rfl rfl rfl rfl (by rw [hu2];have:=HM8.out;omega) (by have:=HM8.out;unfold maxLen;omega) (Nat.le_refl _) ?_
     intro vn own gr
     exact hK.out (.slice (some ⟨w4.heap.size,0,none⟩) m m) vn (Ext.grown (Below.refl _ _) gr (by simp)) ⟨w4.heap.size,rfl,NumRow.of_make own⟩
   · refine LooseAt.mk _ 53 rfl rfl (by kernel_rfl) (by kernel_rfl) (fun w4 bb K hK=>?_) AddR.keep
     refine wp_make_full w4 (.tmp 52) (.tmp 52) 64 rfl w4.heap.size 22 iq (.int .u32 0) 1 Try.underlying64 hq hq0 hq1 .i64 .i64 (m : Int) (m : Int) m rfl rfl rfl rfl (by rw [hq2];have:=HM8.out;omega) (by have:=HM8.out;unfold maxLen;omega) (Nat.le_refl _) ?_
     intro vn own gr
     exact hK.out (.slice (some ⟨w4.heap.size,0,none⟩) m m) vn (Ext.grown (Below.refl _ _) gr (by simp)) ⟨w4.heap.size,rfl,NumRow.of_make own⟩
   · refine LooseAt.mk _ 56 rfl rfl (by kernel_rfl) (by kernel_rfl) (fun w4 bb K hK=>?_) AddR.keep
     refine wp_make_full w4 (.tmp 55) (.tmp 55) 65 rfl w4.heap.size 26 ix (.slice none 0 0) 1 Try.underlying65 hx hx0 hx1 .i64 .i64 (m : Int) (m : Int) m rfl rfl rfl rfl (by rw [hx2];have:=HM8.out;omega) (by have:=HM8.out;unfold maxLen;omega) (Nat.le_refl _) ?_
     intro vn own gr
     exact hK.out (.slice (some ⟨w4.heap.size,0,none⟩) m m) vn (Ext.grown (Below.refl _ _) gr (by simp)) ⟨w4.heap.size,rfl,NumRow.of_make own⟩
   · refine LooseAt.mk _ 13 rfl rfl (by kernel_rfl) (by kernel_rfl) (fun w4 bb K hK=>?_) AddR.keep
     go_simp
     exact hK.out (.pointer (some ⟨w4.heap.size,0,none⟩)) _ (Ext.alloc (Below.refl _ _) _) ⟨w4.heap.size,rfl,BoxOf.new w4 #[.int .i64 0,.int .u8 0,.int .i64 0,.int .i64 0,.slice none 0 0,.slice none 0 0,.slice none 0 0,.slice none 0 0] 67,Nat.le_refl _,BoxOf.lt (BoxOf.new w4 #[.int .i64 0,.int .u8 0,.int .i64 0,.int .i64 0,.slice none 0 0,.slice none 0 0,.slice none 0 0,.slice none 0 0] 67)⟩
   intro done f lo hi w5 hc hb hR hD fuel hf
   have d2:=hc 2 (by decide)
   have d5:=hc 5 (by decide)
   have d8:=hc 8 (by decide)
   have d11:=hc 11 (by decide)
   obtain ⟨⟨A4,c4,e2,RD⟩,l2,m2,n2⟩:=hR 2 (by decide) d2
   obtain ⟨⟨g3,e5,R3'⟩,l5,m5,n5⟩:=hR 5 (by decide) d5
   obtain ⟨⟨g5,e8,R5'⟩,l8,m8,n8⟩:=hR 8 (by decide) d8
   obtain ⟨⟨g7,e11,R7'⟩,l11,m11,n11⟩:=hR 11 (by decide) d11
   have R3:=R3'.mono (F':=Iv 0 w5.heap.size) (fun b hb=>⟨hb.1,Nat.lt_of_lt_of_le hb.2 n5⟩)
   have R5:=R5'.mono (F':=Iv 0 w5.heap.size) (fun b hb=>⟨hb.1,Nat.lt_of_lt_of_le hb.2 n8⟩)
   have R7:=R7'.mono (F':=Iv 0 w5.heap.size) (fun b hb=>⟨hb.1,Nat.lt_of_lt_of_le hb.2 n11⟩)
   have D213:=fun h=>hD 2 (by decide) 13 (by decide) (by decide) d2 h
   have R13:=hR 13 (by decide)
   obtain ⟨t1,ht1⟩ : ∃ z,z = lo 2:=⟨_,rfl⟩
   obtain ⟨t2,ht2⟩ : ∃ z,z = hi 2:=⟨_,rfl⟩
   rw [← ht1] at RD l2 m2 D213
   rw [← ht2] at RD m2 n2 D213
   have AD5:=AD.next hb
   have hgA:=AD.lt
   clear R3' R5' R7' l5 m5 n5 l8 m8 n8 l11 m11 n11
   cases hd13 : done 13 with
   | false=>
     have hfu : fuel = 3:=by
      simp [d2,d5,d8,d11,hd13] at hf
      omega
     subst hfu
     simp only [looseL,looseP,List.foldl_cons,List.foldl_nil,List.cons_append,List.nil_append,d2,d5,d8,d11,hd13,if_true,if_false,Bool.false_eq_true,e2,e5,e8,e11]
     clear hR hD hf hc e2 e5 e8 e11 d2 d5 d8 d11 hd13 D213 R13 ht1 ht2
     try simp only [Act.put,zq0,zq1,zq2,zq3,zq4,zq5]
     have hS:=AD5.cell
     refine wpAnyG.take (i:=12) (o:=_) (v:=.agg #[.int .i64 n,.int .u8 ((ki.toNat : Nat) : Int),.int .i64 a,.int .i64 (m : Int),.slice A4 bs.length c4,.slice (some ⟨g3,0,none⟩) m m,.slice (some ⟨g5,0,none⟩) m m,.slice (some ⟨g7,0,none⟩) m m]) rfl (by kernel_rfl) (by kernel_rfl) (by kernel_rfl) (fun _ _ _ h=>h) (Or.inl ⟨by rfl,?_⟩) hS ?_
     · intro w hSw
       have hbf:=run_build w 67 #[(0,.int .i64 n),(1,.agg #[.int .u8 ((ki.toNat : Nat) : Int),.int .i64 a,.int .i64 (m : Int),.slice A4 bs.length c4]),(2,.slice (some ⟨g3,0,none⟩) m m),(3,.slice (some ⟨g5,0,none⟩) m m),(4,.slice (some ⟨g7,0,none⟩) m m)] _ (built_fl5 n ((ki.toNat : Nat) : Int) a (m : Int) A4 (some ⟨g3,0,none⟩) (some ⟨g5,0,none⟩) (some ⟨g7,0,none⟩) bs.length m m m c4 m m m)
       clear hSw
       simp only [List.getElem_toArray,List.getElem_cons_zero,List.getElem_cons_succ,execOp,Sem.run_bind,List.map_toArray,List.map_cons,List.map_nil,Act.eval,Array.getD_eq_getD_getElem?,List.getElem?_toArray,List.getElem?_cons_succ,List.getElem?_cons_zero,Option.getD_some]
       rw [hbf]
       rfl
     try simp only [Act.put,zq0,zq1,zq2,zq3,zq4,zq5]
     refine wpAnyG.next (rs:=[13]) (by kernel_rfl) (by simp) ?_
     refine NextG.cons rfl (fun K hK=>?_) NextG.nil
     rw [if_pos (by rfl)]
     go_simp
     have bb:=Ext.alloc (Below.refl w5.heap.size w5) (.cells #[.int .i64 0,.int .u8 0,.int .i64 0,.int .i64 0,.slice none 0 0,.slice none 0 0,.slice none 0 0,.slice none 0 0] 67)
     have BF:=BoxOf.new w5 #[.int .i64 0,.int .u8 0,.int .i64 0,.int .i64 0,.slice none 0 0,.slice none 0 0,.slice none 0 0,.slice none 0 0] 67
     have AD6:=AD5.next bb
     obtain ⟨gf,hgf⟩ : ∃ z : Nat,z = w5.heap.size:=⟨_,rfl⟩
     have HGW : Hid (wd.heap.size ≤ gf):=by have:=hb.size;show _ ≤ _;omega
     have HGT : Hid (∀ b,Iv t1 t2 b → b ≠ gf):=fun b hb9=>by have h1:=hb9.2;omega
     have RDa : RdIn (w5.alloc (.cells #[.int .i64 0,.int .u8 0,.int .i64 0,.int .i64 0,.slice none 0 0,.slice none 0 0,.slice none 0 0,.slice none 0 0] 67)) (InL _ t1 t2) (.sl .byte) bs [.slice A4 bs.length c4]:=(RD.below bb).mono fun b hb=>⟨hb.1,hb.2.below bb⟩
     have R3a:=R3.below bb
     have R5a:=R5.below bb
     have R7a:=R7.below bb
     have bv:=Ext.trans hb bb
     rw [← hgf] at BF ⊢
     clear RD R3 R5 R7 AD5 l2 m2 n2 hb
     have RD:=RDa
     have R3:=R3a
     have R5:=R5a
     have R7:=R7a
     refine hK.out _ _ (fun _=>AD6.cell) (fun hS'=>?_)
     clear hK K hS hS' RDa R3a R5a R7a hgf bb
     have hS:=AD6.cell
     try simp only [Act.put,zq0,zq1,zq2,zq3,zq4,zq5]
     generalize w5.alloc (.cells #[.int .i64 0,.int .u8 0,.int .i64 0,.int .i64 0,.slice none 0 0,.slice none 0 0,.slice none 0 0,.slice none 0 0] 67) = w6 at *
     refine wpAnyG.next (rs:=[14]) (by kernel_rfl) (by simp) ?_
     refine NextG.last rfl (by kernel_rfl) (fun K hK=>?_) NextG.nil
     rw [if_pos (by rfl)]
     refine wp_store_row 67 (.tmp 13) (.tmp 57) rfl gf #[.int .i64 n,.int .u8 ((ki.toNat : Nat) : Int),.int .i64 a,.int .i64 (m : Int),.slice A4 bs.length c4,.slice (some ⟨g3,0,none⟩) m m,.slice (some ⟨g5,0,none⟩) m m,.slice (some ⟨g7,0,none⟩) m m] rfl rfl 67 #[.int .i64 0,.int .u8 0,.int .i64 0,.int .i64 0,.slice none 0 0,.slice none 0 0,.slice none 0 0,.slice none 0 0] BF (by kernel_rfl) rfl (by rw [← Array.all_toList];rfl) ?_
     have BG:=BF.set #[.int .i64 n,.int .u8 ((ki.toNat : Nat) : Int),.int .i64 a,.int .i64 (m : Int),.slice A4 bs.length c4,.slice (some ⟨g3,0,none⟩) m m,.slice (some ⟨g5,0,none⟩) m m,.slice (some ⟨g7,0,none⟩) m m]
     have S3:=R3.setRow BF (by decide) #[.int .i64 n,.int .u8 ((ki.toNat : Nat) : Int),.int .i64 a,.int .i64 (m : Int),.slice A4 bs.length c4,.slice (some ⟨g3,0,none⟩) m m,.slice (some ⟨g5,0,none⟩) m m,.slice (some ⟨g7,0,none⟩) m m]
     have S5:=R5.setRow BF (by decide) #[.int .i64 n,.int .u8 ((ki.toNat : Nat) : Int),.int .i64 a,.int .i64 (m : Int),.slice A4 bs.length c4,.slice (some ⟨g3,0,none⟩) m m,.slice (some ⟨g5,0,none⟩) m m,.slice (some ⟨g7,0,none⟩) m m]
     have S7:=R7.setRow BF (by decide) #[.int .i64 n,.int .u8 ((ki.toNat : Nat) : Int),.int .i64 a,.int .i64 (m : Int),.slice A4 bs.length c4,.slice (some ⟨g3,0,none⟩) m m,.slice (some ⟨g5,0,none⟩) m m,.slice (some ⟨g7,0,none⟩) m m]
     have SD : RdIn ((w6).setRow gf #[.int .i64 n,.int .u8 ((ki.toNat : Nat) : Int),.int .i64 a,.int .i64 (m : Int),.slice A4 bs.length c4,.slice (some ⟨g3,0,none⟩) m m,.slice (some ⟨g5,0,none⟩) m m,.slice (some ⟨g7,0,none⟩) m m]) (fun b=>b ≠ gf) (.sl .byte) bs [.slice A4 bs.length c4]:=(RD.frame fun b hb=>setRow_other _ _ _ _ (HGT.out b hb.1)).mono fun b hb=>HGT.out b hb.1
     have bw:=Ext.setRow bv HGW.out #[.int .i64 n,.int .u8 ((ki.toNat : Nat) : Int),.int .i64 a,.int .i64 (m : Int),.slice A4 bs.length c4,.slice (some ⟨g3,0,none⟩) m m,.slice (some ⟨g5,0,none⟩) m m,.slice (some ⟨g7,0,none⟩) m m]
     refine hK.out _ _ ?_
     clear hK K BF R3 R5 R7 RD bv
     try simp only [Act.put,zq0,zq1,zq2,zq3,zq4,zq5]
     generalize (w6).setRow gf #[.int .i64 n,.int .u8 ((ki.toNat : Nat) : Int),.int .i64 a,.int .i64 (m : Int),.slice A4 bs.length c4,.slice (some ⟨g3,0,none⟩) m m,.slice (some ⟨g5,0,none⟩) m m,.slice (some ⟨g7,0,none⟩) m m] = vw at *
     refine wpAnyG.done (by kernel_rfl) ?_ _
     have HX9 : Hid (RAddMk wc n ki a bs m (.pointer (some ⟨gf,0,none⟩)) vw):=⟨g3,g5,g7,gf,A4,c4,rfl,BG,S3,S5,S7,SD,Ext.trans bd bw,Nat.le_trans bd.size HGW.out⟩
     clear BG S3 S5 S7 SD bw AD bd
     go_wp2_with fail
     go_meet
     exact HX9.out
   | true=>
     have hfu : fuel = 2:=by
      simp [d2,d5,d8,d11,hd13] at hf
      omega
     subst hfu
     obtain ⟨⟨gf,e13,BF,k13,k13'⟩,l13,m13,n13⟩:=R13 hd13
     have D213':=D213 hd13
     simp only [looseL,looseP,List.foldl_cons,List.foldl_nil,List.cons_append,List.nil_append,d2,d5,d8,d11,hd13,if_true,if_false,Bool.false_eq_true,e2,e5,e8,e11,e13]
     have HGW : Hid (wd.heap.size ≤ gf):=by show _ ≤ _;omega
     have HGT : Hid (∀ b,Iv t1 t2 b → b ≠ gf):=fun b hb9=>by have h1:=hb9.1;have h2:=hb9.2;omega
     clear hR hD hf hc e2 e5 e8 e11 e13 d2 d5 d8 d11 hd13 D213 D213' R13 ht1 ht2 k13 k13' l13 m13 n13 l2 m2 n2
     try simp only [Act.put,zq0,zq1,zq2,zq3,zq4,zq5]
     have hS:=AD5.cell
     have bv:=hb
     clear hb
     refine wpAnyG.take (i:=12) (o:=_) (v:=.agg #[.int .i64 n,.int .u8 ((ki.toNat : Nat) : Int),.int .i64 a,.int .i64 (m : Int),.slice A4 bs.length c4,.slice (some ⟨g3,0,none⟩) m m,.slice (some ⟨g5,0,none⟩) m m,.slice (some ⟨g7,0,none⟩) m m]) rfl (by kernel_rfl) (by kernel_rfl) (by kernel_rfl) (fun _ _ _ h=>h) (Or.inl ⟨by rfl,?_⟩) hS ?_
     · intro w hSw
       have hbf:=run_build w 67 #[(0,.int .i64 n),(1,.agg #[.int .u8 ((ki.toNat : Nat) : Int),.int .i64 a,.int .i64 (m : Int),.slice A4 bs.length c4]),(2,.slice (some ⟨g3,0,none⟩) m m),(3,.slice (some ⟨g5,0,none⟩) m m),(4,.slice (some ⟨g7,0,none⟩) m m)] _ (built_fl5 n ((ki.toNat : Nat) : Int) a (m : Int) A4 (some ⟨g3,0,none⟩) (some ⟨g5,0,none⟩) (some ⟨g7,0,none⟩) bs.length m m m c4 m m m)
       clear hSw
       simp only [List.getElem_toArray,List.getElem_cons_zero,List.getElem_cons_succ,execOp,Sem.run_bind,List.map_toArray,List.map_cons,List.map_nil,Act.eval,Array.getD_eq_getD_getElem?,List.getElem?_toArray,List.getElem?_cons_succ,List.getElem?_cons_zero,Option.getD_some]
       rw [hbf]
       rfl
     try simp only [Act.put,zq0,zq1,zq2,zq3,zq4,zq5]
     refine wpAnyG.next (rs:=[14]) (by kernel_rfl) (by simp) ?_
     refine NextG.last rfl (by kernel_rfl) (fun K hK=>?_) NextG.nil
     rw [if_pos (by rfl)]
     refine wp_store_row 67 (.tmp 13) (.tmp 57) rfl gf #[.int .i64 n,.int .u8 ((ki.toNat : Nat) : Int),.int .i64 a,.int .i64 (m : Int),.slice A4 bs.length c4,.slice (some ⟨g3,0,none⟩) m m,.slice (some ⟨g5,0,none⟩) m m,.slice (some ⟨g7,0,none⟩) m m] rfl rfl 67 #[.int .i64 0,.int .u8 0,.int .i64 0,.int .i64 0,.slice none 0 0,.slice none 0 0,.slice none 0 0,.slice none 0 0] BF (by kernel_rfl) rfl (by rw [← Array.all_toList];rfl) ?_
     have BG:=BF.set #[.int .i64 n,.int .u8 ((ki.toNat : Nat) : Int),.int .i64 a,.int .i64 (m : Int),.slice A4 bs.length c4,.slice (some ⟨g3,0,none⟩) m m,.slice (some ⟨g5,0,none⟩) m m,.slice (some ⟨g7,0,none⟩) m m]
     have S3:=R3.setRow BF (by decide) #[.int .i64 n,.int .u8 ((ki.toNat : Nat) : Int),.int .i64 a,.int .i64 (m : Int),.slice A4 bs.length c4,.slice (some ⟨g3,0,none⟩) m m,.slice (some ⟨g5,0,none⟩) m m,.slice (some ⟨g7,0,none⟩) m m]
     have S5:=R5.setRow BF (by decide) #[.int .i64 n,.int .u8 ((ki.toNat : Nat) : Int),.int .i64 a,.int .i64 (m : Int),.slice A4 bs.length c4,.slice (some ⟨g3,0,none⟩) m m,.slice (some ⟨g5,0,none⟩) m m,.slice (some ⟨g7,0,none⟩) m m]
     have S7:=R7.setRow BF (by decide) #[.int .i64 n,.int .u8 ((ki.toNat : Nat) : Int),.int .i64 a,.int .i64 (m : Int),.slice A4 bs.length c4,.slice (some ⟨g3,0,none⟩) m m,.slice (some ⟨g5,0,none⟩) m m,.slice (some ⟨g7,0,none⟩) m m]
     have SD : RdIn ((w5).setRow gf #[.int .i64 n,.int .u8 ((ki.toNat : Nat) : Int),.int .i64 a,.int .i64 (m : Int),.slice A4 bs.length c4,.slice (some ⟨g3,0,none⟩) m m,.slice (some ⟨g5,0,none⟩) m m,.slice (some ⟨g7,0,none⟩) m m]) (fun b=>b ≠ gf) (.sl .byte) bs [.slice A4 bs.length c4]:=(RD.frame fun b hb=>setRow_other _ _ _ _ (HGT.out b hb.1)).mono fun b hb=>HGT.out b hb.1
     have bw:=Ext.setRow bv HGW.out #[.int .i64 n,.int .u8 ((ki.toNat : Nat) : Int),.int .i64 a,.int .i64 (m : Int),.slice A4 bs.length c4,.slice (some ⟨g3,0,none⟩) m m,.slice (some ⟨g5,0,none⟩) m m,.slice (some ⟨g7,0,none⟩) m m]
     refine hK.out _ _ ?_
     clear hK K BF R3 R5 R7 RD bv
     try simp only [Act.put,zq0,zq1,zq2,zq3,zq4,zq5]
     generalize (w5).setRow gf #[.int .i64 n,.int .u8 ((ki.toNat : Nat) : Int),.int .i64 a,.int .i64 (m : Int),.slice A4 bs.length c4,.slice (some ⟨g3,0,none⟩) m m,.slice (some ⟨g5,0,none⟩) m m,.slice (some ⟨g7,0,none⟩) m m] = vw at *
     refine wpAnyG.done (by kernel_rfl) ?_ _
     have HX9 : Hid (RAddMk wc n ki a bs m (.pointer (some ⟨gf,0,none⟩)) vw):=⟨g3,g5,g7,gf,A4,c4,rfl,BG,S3,S5,S7,SD,Ext.trans bd bw,Nat.le_trans bd.size HGW.out⟩
     clear BG S3 S5 S7 SD bw AD bd
     go_wp2_with fail
     go_meet
     exact HX9.out
  case rest=>
   obtain ⟨g3,g5,g7,gf,A4,c4,rfl,FX0,S3,S5,S7,SD,bw,hgf⟩:=hcut
   have HLN : Hid ((fs ++ [newFl n ki a m bs last]).length = N + 1):=by show _ = _;rw [List.length_append,List.length_singleton,HNL.out]
   have A3:=A2.next bw
   have y3:=A3.cell
   by_cases h4 : ((ki.toNat : Nat) : Int) = 4
   · have e4 : (((ki.toNat : Nat) : Int) == 4) = true:=by simpa using h4
     have ba:=Ext.alloc (Below.refl wc.heap.size wc) (.cells #[.int .u32 (last : Int)] 22)
     have BQ:=BoxOf.new wc #[.int .u32 (last : Int)] 22
     have FY:=FX0.next ba
     have hlf:=FX0.lt
     have fy:=FY.cell
     have ff:=FY.free
     have hne : ¬ gf = wc.heap.size:=by omega
     have hne' : ¬ wc.heap.size = gf:=by omega
     have HX0 : BoxOf ((wc.alloc (.cells #[.int .u32 (last : Int)] 22)).setCell ⟨gf,6,none⟩ (.slice (some ⟨wc.heap.size,0,none⟩) 1 1)) gf #[.int .i64 n,.int .u8 ((ki.toNat : Nat) : Int),.int .i64 a,.int .i64 (m : Int),.slice A4 bs.length c4,.slice (some ⟨g3,0,none⟩) m m,.slice (some ⟨wc.heap.size,0,none⟩) 1 1,.slice (some ⟨g7,0,none⟩) m m] 67:=mbox_self FY 6 (.slice (some ⟨wc.heap.size,0,none⟩) 1 1)
     have BQ1:=mbox_else BQ hne' 6 (.slice (some ⟨wc.heap.size,0,none⟩) 1 1)
     have b6:=Below.setCell (p:=⟨gf,6,none⟩) (Ext.trans bw ba) hgf (.slice (some ⟨wc.heap.size,0,none⟩) 1 1)
     have Z3:=((S3.below ba).setElse FY (by decide) 6 (.slice (some ⟨wc.heap.size,0,none⟩) 1 1)).mono (F':=Iv 0 ((wc.alloc (.cells #[.int .u32 (last : Int)] 22)).setCell ⟨gf,6,none⟩ (.slice (some ⟨wc.heap.size,0,none⟩) 1 1)).heap.size) (fun b hb=>by rw [msize];exact hb)
     have Z7:=((S7.below ba).setElse FY (by decide) 6 (.slice (some ⟨wc.heap.size,0,none⟩) 1 1)).mono (F':=Iv 0 ((wc.alloc (.cells #[.int .u32 (last : Int)] 22)).setCell ⟨gf,6,none⟩ (.slice (some ⟨wc.heap.size,0,none⟩) 1 1)).heap.size) (fun b hb=>by rw [msize];exact hb)
     have HALL : Hid (RdIn ((wc.alloc (.cells #[.int .u32 (last : Int)] 22)).setCell ⟨gf,6,none⟩ (.slice (some ⟨wc.heap.size,0,none⟩) 1 1)) (fun _=>True) FlTy (newFl n ki a m bs last) (#[.int .i64 n,.int .u8 ((ki.toNat : Nat) : Int),.int .i64 a,.int .i64 (m : Int),.slice A4 bs.length c4,.slice (some ⟨g3,0,none⟩) m m,.slice (some ⟨wc.heap.size,0,none⟩) 1 1,.slice (some ⟨g7,0,none⟩) m m] : Array Value).toList):=newFl_rd (n:=n) (a:=a) (ki:=ki) (last:=last) HINT.out ⟨by have:=HA.out;omega,by have:=HA.out;omega⟩ HM8.out (((SD.below ba).setElse (fun b hb=>hb) 6 (.slice (some ⟨wc.heap.size,0,none⟩) 1 1)).mono fun _ _=>trivial) Z3 (newSq_rd4 HLAST.out h4 BQ1) Z7
     have HRR:=Lib.hid (HR2.out.below b6)
     have HTT:=Lib.hid (Ext.trans t2 b6)
     have HXX:=Lib.hid HX0
     clear Z3 Z7 BQ1 BQ HX0 b6 S3 S5 S7 SD h4 hlf ba FY FX0 bw t2 hgf
     go_upto_region 13 with fail
     clear fy ff y3 hne hne' e4
     have FX0:=HXX.out
     have RD0:=HALL.out
     have HR0:=HRR.out
     have t40:=HTT.out
     clear HXX HALL HRR HTT A3 A2
     generalize (wc.alloc (.cells #[.int .u32 (last : Int)] 22)).setCell ⟨gf,6,none⟩ (.slice (some ⟨wc.heap.size,0,none⟩) 1 1) = wf at *
     generalize wc.heap.size = gq at *
     refine wp_region_G (S:=fun w'=>∀ o,w'.cell? ⟨gf,o,none⟩ = (#[.int .i64 n,.int .u8 ((ki.toNat : Nat) : Int),.int .i64 a,.int .i64 (m : Int),.slice A4 bs.length c4,.slice (some ⟨g3,0,none⟩) m m,.slice (some ⟨gq,0,none⟩) 1 1,.slice (some ⟨g7,0,none⟩) m m] : Array Value).toList[o]?) (by kernel_rfl) FX0.drew.cell (fun hS=>?_)
     have bd:=Ext.drew (Below.refl wf.heap.size wf)
     have FX:=FX0.next bd
     have RD:=RD0.below bd
     have HR:=HR0.below bd
     have t4:=Ext.trans t40 bd
     clear FX0 RD0 HR0 t40 bd
     generalize wf.drew = vd at *
     refine wpAnyG.take (i:=0) (o:=_) (v:=?_) rfl (by kernel_rfl) (by kernel_rfl) (by kernel_rfl) (fun _ _ _ h=>h) (Or.inl ⟨by rfl,?_⟩) hS ?_
     rotate_left
     · (intro w hSw;(try dsimp only at hSw);go_simp;(try with_reducible rfl))
     rotate_left
     simp only [Act.put,zq0,zq1,zq2,zq3,zq4,zq5]
     refine wpAnyG.take (i:=2) (o:=_) (v:=?_) rfl (by kernel_rfl) (by kernel_rfl) (by kernel_rfl) (fun _ _ _ h=>h) (Or.inl ⟨by rfl,?_⟩) hS ?_
     rotate_left
     · (intro w hSw;(try dsimp only at hSw);go_simp;(try with_reducible rfl))
     rotate_left
     simp only [Act.put,zq0,zq1,zq2,zq3,zq4,zq5]
     refine wpAnyG.loose [1,3] [] [(1,65),(3,67)] (AddT fs #[.int .i64 n,.int .u8 ((ki.toNat : Nat) : Int),.int .i64 a,.int .i64 (m : Int),.slice A4 bs.length c4,.slice (some ⟨g3,0,none⟩) m m,.slice (some ⟨gq,0,none⟩) 1 1,.slice (some ⟨g7,0,none⟩) m m]) (by kernel_rfl) (fun w' hb=>(FX.next hb).cell) (loose_cons ?_ (loose_cons ?_ loose_nil)) ?_
     · refine LooseAt.mk _ 65 rfl rfl (by kernel_rfl) (by kernel_rfl) (fun w4 bb K hK=>?_) AddT.keep
       go_simp
       refine (rftwin24_any S fs N d B HNL.out w4 (HR.below bb)).mono ?_
       rintro e w5 ⟨⟨v5,rfl,fn5⟩,b5⟩
       exact hK.out v5 _ b5 fn5
     · refine LooseAt.mk _ 67 rfl rfl (by kernel_rfl) (by kernel_rfl) (fun w4 bb K hK=>?_) AddT.keep
       go_simp
       exact hK.out (.slice (some ⟨w4.heap.size,0,none⟩) 1 1) _ (Ext.alloc (Below.refl _ _) _) ⟨w4.heap.size,rfl,BoxOf.new w4 #[.int .i64 n,.int .u8 ((ki.toNat : Nat) : Int),.int .i64 a,.int .i64 (m : Int),.slice A4 bs.length c4,.slice (some ⟨g3,0,none⟩) m m,.slice (some ⟨gq,0,none⟩) 1 1,.slice (some ⟨g7,0,none⟩) m m] 67,Nat.le_refl _,BoxOf.lt (BoxOf.new w4 #[.int .i64 n,.int .u8 ((ki.toNat : Nat) : Int),.int .i64 a,.int .i64 (m : Int),.slice A4 bs.length c4,.slice (some ⟨g3,0,none⟩) m m,.slice (some ⟨gq,0,none⟩) 1 1,.slice (some ⟨g7,0,none⟩) m m] 67)⟩
     intro done f lo hi w5 hc hb hR hD fuel hf
     have d1:=hc 1 (by decide)
     have d3:=hc 3 (by decide)
     obtain ⟨O1,l1,m1,n1⟩:=hR 1 (by decide) d1
     obtain ⟨⟨gb,e3,BX,k3,k3'⟩,l3,m3,n3⟩:=hR 3 (by decide) d3
     obtain ⟨v1,hv1⟩ : ∃ z,z = f 1:=⟨_,rfl⟩
     rw [← hv1] at O1
     have hfu : fuel = 3:=by
      simp [d1,d3] at hf
      omega
     subst hfu
     simp only [looseL,looseP,List.foldl_cons,List.foldl_nil,List.cons_append,List.nil_append,d1,d3,if_true,e3,← hv1]
     clear hR hD hf hc e3 hv1 d1 d3
     try simp only [Act.put,zq0,zq1,zq2,zq3,zq4,zq5]
     have hS:=(FX.next hb).cell
     refine wpAnyG.next (rs:=[4]) (by kernel_rfl) (by simp) ?_
     refine NextG.cons rfl (fun K hK=>?_) NextG.nil
     rw [if_pos (by rfl)]
     obtain ⟨ess,Sf,hl1,heach,hSf,_,_,hown⟩:=O1
     refine wp_append_rd w5 (.tmp 65) (.tmp 67) 25 rfl (lo 1) 67 ig _ 8 128 Try.underlying25 hig hg0 hg1 hg2 rfl (by decide) v1 fs.length ess.flatten rfl hown (some ⟨gb,0,none⟩) 1 1 (#[.int .i64 n,.int .u8 ((ki.toNat : Nat) : Int),.int .i64 a,.int .i64 (m : Int),.slice A4 bs.length c4,.slice (some ⟨g3,0,none⟩) m m,.slice (some ⟨gq,0,none⟩) 1 1,.slice (some ⟨g7,0,none⟩) m m] : Array Value).toList rfl (by rfl) (.inr ⟨gb,0,rfl,fun j hj=>by rw [Nat.zero_add,BX.cell]⟩) (by intro u hu;simp at hu;rcases hu with rfl | rfl | rfl | rfl | rfl | rfl | rfl | rfl <;> rfl) (by have:=HNL.out;have:=HN8.out;unfold maxLen;omega) (by have:=HNL.out;have:=HN8.out;omega) (Nat.le_trans m1 n1) ?_
     intro v6 w6 own6 gr6 kb6
     have hk6 : ∀ r,v1.ownBlock = some r → vd.heap.size ≤ r:=fun r hr=>Nat.le_trans l1 (own_block hown hr)
     have b6:=Below.grown hb gr6 hb.size hk6
     have R6 : RdIn w6 (fun _=>True) (.sl FlTy) (fs ++ [newFl n ki a m bs last]) [v6]:=by
      refine rdin_own8 (base:=lo 1) (T:=fun _=>True) (ess:=ess ++ [(#[.int .i64 n,.int .u8 ((ki.toNat : Nat) : Int),.int .i64 a,.int .i64 (m : Int),.slice A4 bs.length c4,.slice (some ⟨g3,0,none⟩) m m,.slice (some ⟨gq,0,none⟩) 1 1,.slice (some ⟨g7,0,none⟩) m m] : Array Value).toList]) (by simp [hl1]) ?_ (fun i h1 h2=>?_) ?_
      · rw [List.length_append,List.length_singleton,List.flatten_append]
        simpa using own6
      · by_cases hi : i < fs.length
        · rw [List.getElem_append_left hi,List.getElem_append_left (by omega)]
          obtain ⟨vd',vs',vq',vx',hs',T',e',hE⟩:=flE.frame (heach i hi (by omega)) (w':=w6) (fun b hb9=>gr6.block b (Nat.lt_of_lt_of_le (hSf i b hb9).1.2 n1) (fun e=>(hSf i b hb9).2 e.symm))
          rw [e']
          exact hE.rd.mono fun _ _=>trivial
        · have hi2 : i = fs.length:=by rw [List.length_append,List.length_singleton] at h1;omega
          subst hi2
          simp only [List.getElem_append_right (Nat.le_refl _),← hl1,Nat.sub_self,List.getElem_singleton]
          rw [show (fs ++ [newFl n ki a m bs last])[ess.length]'(by rw [List.length_append,List.length_singleton];omega) = newFl n ki a m bs last from by simp [hl1]]
          exact RD.below b6
      · rw [List.length_append,List.length_singleton];have:=HN8.out;have:=HNL.out;omega
     have t6:=Ext.trans t4 b6
     obtain ⟨A6,c6,e6⟩:=own_form own6
     subst e6
     have FX6:=FX.next b6
     refine hK.out _ _ (fun _=>FX6.cell) (fun hS'=>?_)
     clear hK K hS
     have hS:=hS' (by kernel_rfl)
     clear hS'
     try simp only [Act.put,zq0,zq1,zq2,zq3,zq4,zq5]
     refine wpAnyG.take (i:=5) (o:=_) (v:=?_) rfl (by kernel_rfl) (by kernel_rfl) (by kernel_rfl) (fun _ _ _ h=>h) (Or.inl ⟨by rfl,?_⟩) hS ?_
     rotate_left
     · (intro w hSw;(try dsimp only at hSw);go_simp;(try with_reducible rfl))
     rotate_left
     simp only [Act.put,zq0,zq1,zq2,zq3,zq4,zq5]
     refine wpAnyG.take (i:=6) (o:=_) (v:=?_) rfl (by kernel_rfl) (by kernel_rfl) (by kernel_rfl) (fun _ _ _ h=>h) (Or.inl ⟨by rfl,?_⟩) hS ?_
     rotate_left
     · (intro w hSw;(try dsimp only at hSw);go_simp;(try with_reducible rfl))
     rotate_left
     simp only [Act.put,zq0,zq1,zq2,zq3,zq4,zq5]
     refine wpAnyG.done (by kernel_rfl) ?_ _
     have HR6:=Lib.hid R6
     clear hS FX6 FX R6 own6 gr6 kb6 hk6 b6 hown hSf heach ess hl1 BX k3 k3' l1 m1 n1 l3 m3 n3 hb RD HR t4
     go_wp2
     go_ret2
     rw [HMV.out]
     exact ⟨RRes.mk (by have h1:=HLN.out;have h2:=HNL.out;omega) HR6.out,t6⟩
   · have e4 : (((ki.toNat : Nat) : Int) == 4) = false:=by simpa using h4
     have t40:=Ext.trans t2 bw
     have HR0:=HR2.out.below bw
     have RD0 : RdIn wc (fun _=>True) FlTy (newFl n ki a m bs last) (#[.int .i64 n,.int .u8 ((ki.toNat : Nat) : Int),.int .i64 a,.int .i64 (m : Int),.slice A4 bs.length c4,.slice (some ⟨g3,0,none⟩) m m,.slice (some ⟨g5,0,none⟩) m m,.slice (some ⟨g7,0,none⟩) m m] : Array Value).toList:=newFl_rd (n:=n) (a:=a) (ki:=ki) (last:=last) HINT.out ⟨by have:=HA.out;omega,by have:=HA.out;omega⟩ HM8.out (SD.mono fun _ _=>trivial) S3 (newSq_rd HM8.out h4 S5) S7
     clear S3 S5 S7 SD h4 bw t2 hgf
     go_upto_region 13 with fail
     clear y3 e4 A3 A2
     generalize wc = wf at *
     refine wp_region_G (S:=fun w'=>∀ o,w'.cell? ⟨gf,o,none⟩ = (#[.int .i64 n,.int .u8 ((ki.toNat : Nat) : Int),.int .i64 a,.int .i64 (m : Int),.slice A4 bs.length c4,.slice (some ⟨g3,0,none⟩) m m,.slice (some ⟨g5,0,none⟩) m m,.slice (some ⟨g7,0,none⟩) m m] : Array Value).toList[o]?) (by kernel_rfl) FX0.drew.cell (fun hS=>?_)
     have bd:=Ext.drew (Below.refl wf.heap.size wf)
     have FX:=FX0.next bd
     have RD:=RD0.below bd
     have HR:=HR0.below bd
     have t4:=Ext.trans t40 bd
     clear FX0 RD0 HR0 t40 bd
     generalize wf.drew = vd at *
     refine wpAnyG.take (i:=0) (o:=_) (v:=?_) rfl (by kernel_rfl) (by kernel_rfl) (by kernel_rfl) (fun _ _ _ h=>h) (Or.inl ⟨by rfl,?_⟩) hS ?_
     rotate_left
     · (intro w hSw;(try dsimp only at hSw);go_simp;(try with_reducible rfl))
     rotate_left
     simp only [Act.put,zq0,zq1,zq2,zq3,zq4,zq5]
     refine wpAnyG.take (i:=2) (o:=_) (v:=?_) rfl (by kernel_rfl) (by kernel_rfl) (by kernel_rfl) (fun _ _ _ h=>h) (Or.inl ⟨by rfl,?_⟩) hS ?_
     rotate_left
     · (intro w hSw;(try dsimp only at hSw);go_simp;(try with_reducible rfl))
     rotate_left
     simp only [Act.put,zq0,zq1,zq2,zq3,zq4,zq5]
     refine wpAnyG.loose [1,3] [] [(1,65),(3,67)] (AddT fs #[.int .i64 n,.int .u8 ((ki.toNat : Nat) : Int),.int .i64 a,.int .i64 (m : Int),.slice A4 bs.length c4,.slice (some ⟨g3,0,none⟩) m m,.slice (some ⟨g5,0,none⟩) m m,.slice (some ⟨g7,0,none⟩) m m]) (by kernel_rfl) (fun w' hb=>(FX.next hb).cell) (loose_cons ?_ (loose_cons ?_ loose_nil)) ?_
     · refine LooseAt.mk _ 65 rfl rfl (by kernel_rfl) (by kernel_rfl) (fun w4 bb K hK=>?_) AddT.keep
       go_simp
       refine (rftwin24_any S fs N d B HNL.out w4 (HR.below bb)).mono ?_
       rintro e w5 ⟨⟨v5,rfl,fn5⟩,b5⟩
       exact hK.out v5 _ b5 fn5
     · refine LooseAt.mk _ 67 rfl rfl (by kernel_rfl) (by kernel_rfl) (fun w4 bb K hK=>?_) AddT.keep
       go_simp
       exact hK.out (.slice (some ⟨w4.heap.size,0,none⟩) 1 1) _ (Ext.alloc (Below.refl _ _) _) ⟨w4.heap.size,rfl,BoxOf.new w4 #[.int .i64 n,.int .u8 ((ki.toNat : Nat) : Int),.int .i64 a,.int .i64 (m : Int),.slice A4 bs.length c4,.slice (some ⟨g3,0,none⟩) m m,.slice (some ⟨g5,0,none⟩) m m,.slice (some ⟨g7,0,none⟩) m m] 67,Nat.le_refl _,BoxOf.lt (BoxOf.new w4 #[.int .i64 n,.int .u8 ((ki.toNat : Nat) : Int),.int .i64 a,.int .i64 (m : Int),.slice A4 bs.length c4,.slice (some ⟨g3,0,none⟩) m m,.slice (some ⟨g5,0,none⟩) m m,.slice (some ⟨g7,0,none⟩) m m] 67)⟩
     intro done f lo hi w5 hc hb hR hD fuel hf
     have d1:=hc 1 (by decide)
     have d3:=hc 3 (by decide)
     obtain ⟨O1,l1,m1,n1⟩:=hR 1 (by decide) d1
     obtain ⟨⟨gb,e3,BX,k3,k3'⟩,l3,m3,n3⟩:=hR 3 (by decide) d3
     obtain ⟨v1,hv1⟩ : ∃ z,z = f 1:=⟨_,rfl⟩
     rw [← hv1] at O1
     have hfu : fuel = 3:=by
      simp [d1,d3] at hf
      omega
     subst hfu
     simp only [looseL,looseP,List.foldl_cons,List.foldl_nil,List.cons_append,List.nil_append,d1,d3,if_true,e3,← hv1]
     clear hR hD hf hc e3 hv1 d1 d3
     try simp only [Act.put,zq0,zq1,zq2,zq3,zq4,zq5]
     have hS:=(FX.next hb).cell
     refine wpAnyG.next (rs:=[4]) (by kernel_rfl) (by simp) ?_
     refine NextG.cons rfl (fun K hK=>?_) NextG.nil
     rw [if_pos (by rfl)]
     obtain ⟨ess,Sf,hl1,heach,hSf,_,_,hown⟩:=O1
     refine wp_append_rd w5 (.tmp 65) (.tmp 67) 25 rfl (lo 1) 67 ig _ 8 128 Try.underlying25 hig hg0 hg1 hg2 rfl (by decide) v1 fs.length ess.flatten rfl hown (some ⟨gb,0,none⟩) 1 1 (#[.int .i64 n,.int .u8 ((ki.toNat : Nat) : Int),.int .i64 a,.int .i64 (m : Int),.slice A4 bs.length c4,.slice (some ⟨g3,0,none⟩) m m,.slice (some ⟨g5,0,none⟩) m m,.slice (some ⟨g7,0,none⟩) m m] : Array Value).toList rfl (by rfl) (.inr ⟨gb,0,rfl,fun j hj=>by rw [Nat.zero_add,BX.cell]⟩) (by intro u hu;simp at hu;rcases hu with rfl | rfl | rfl | rfl | rfl | rfl | rfl | rfl <;> rfl) (by have:=HNL.out;have:=HN8.out;unfold maxLen;omega) (by have:=HNL.out;have:=HN8.out;omega) (Nat.le_trans m1 n1) ?_
     intro v6 w6 own6 gr6 kb6
     have hk6 : ∀ r,v1.ownBlock = some r → vd.heap.size ≤ r:=fun r hr=>Nat.le_trans l1 (own_block hown hr)
     have b6:=Below.grown hb gr6 hb.size hk6
     have R6 : RdIn w6 (fun _=>True) (.sl FlTy) (fs ++ [newFl n ki a m bs last]) [v6]:=by
      refine rdin_own8 (base:=lo 1) (T:=fun _=>True) (ess:=ess ++ [(#[.int .i64 n,.int .u8 ((ki.toNat : Nat) : Int),.int .i64 a,.int .i64 (m : Int),.slice A4 bs.length c4,.slice (some ⟨g3,0,none⟩) m m,.slice (some ⟨g5,0,none⟩) m m,.slice (some ⟨g7,0,none⟩) m m] : Array Value).toList]) (by simp [hl1]) ?_ (fun i h1 h2=>?_) ?_
      · rw [List.length_append,List.length_singleton,List.flatten_append]
        simpa using own6
      · by_cases hi : i < fs.length
        · rw [List.getElem_append_left hi,List.getElem_append_left (by omega)]
          obtain ⟨vd',vs',vq',vx',hs',T',e',hE⟩:=flE.frame (heach i hi (by omega)) (w':=w6) (fun b hb9=>gr6.block b (Nat.lt_of_lt_of_le (hSf i b hb9).1.2 n1) (fun e=>(hSf i b hb9).2 e.symm))
          rw [e']
          exact hE.rd.mono fun _ _=>trivial
        · have hi2 : i = fs.length:=by rw [List.length_append,List.length_singleton] at h1;omega
          subst hi2
          simp only [List.getElem_append_right (Nat.le_refl _),← hl1,Nat.sub_self,List.getElem_singleton]
          rw [show (fs ++ [newFl n ki a m bs last])[ess.length]'(by rw [List.length_append,List.length_singleton];omega) = newFl n ki a m bs last from by simp [hl1]]
          exact RD.below b6
      · rw [List.length_append,List.length_singleton];have:=HN8.out;have:=HNL.out;omega
     have t6:=Ext.trans t4 b6
     obtain ⟨A6,c6,e6⟩:=own_form own6
     subst e6
     have FX6:=FX.next b6
     refine hK.out _ _ (fun _=>FX6.cell) (fun hS'=>?_)
     clear hK K hS
     have hS:=hS' (by kernel_rfl)
     clear hS'
     try simp only [Act.put,zq0,zq1,zq2,zq3,zq4,zq5]
     refine wpAnyG.take (i:=5) (o:=_) (v:=?_) rfl (by kernel_rfl) (by kernel_rfl) (by kernel_rfl) (fun _ _ _ h=>h) (Or.inl ⟨by rfl,?_⟩) hS ?_
     rotate_left
     · (intro w hSw;(try dsimp only at hSw);go_simp;(try with_reducible rfl))
     rotate_left
     simp only [Act.put,zq0,zq1,zq2,zq3,zq4,zq5]
     refine wpAnyG.take (i:=6) (o:=_) (v:=?_) rfl (by kernel_rfl) (by kernel_rfl) (by kernel_rfl) (fun _ _ _ h=>h) (Or.inl ⟨by rfl,?_⟩) hS ?_
     rotate_left
     · (intro w hSw;(try dsimp only at hSw);go_simp;(try with_reducible rfl))
     rotate_left
     simp only [Act.put,zq0,zq1,zq2,zq3,zq4,zq5]
     refine wpAnyG.done (by kernel_rfl) ?_ _
     have HR6:=Lib.hid R6
     clear hS FX6 FX R6 own6 gr6 kb6 hk6 b6 hown hSf heach ess hl1 BX k3 k3' l1 m1 n1 l3 m3 n3 hb RD HR t4
     go_wp2
     go_ret2
     rw [HMV.out]
     exact ⟨RRes.mk (by have h1:=HLN.out;have h2:=HNL.out;omega) HR6.out,t6⟩
end Go.Proofs.Ythapabjlhooglaa
namespace Go.Proofs.Ythapabjlhooglaa
open Go Go.RowKit
set_option linter.unusedSimpArgs false
set_option linter.unusedVariables false
set_option maxRecDepth 100000 in
set_option maxHeartbeats 8000000 in
theorem rgo24_any (S : Nat → Prop) (x : Cfg) (fs : List FlTy.T) (N d : Nat) (B : Option Addr) (hN : fs.length = N) (n b : Int) (hb : IsInt b) (sv : UInt8) (q : Nat) (hq : q < 2 ^ 32) (D : Option Addr) (dq : Nat) (dat : List UInt8) (w : World) (hr : RdIn w S (.sl FlTy) fs [.slice B N d]) (hd : RdIn w S (.sl .byte) dat [.slice D dat.length dq]) :
 Calls Try.prog 16 #[x.val,.slice B N d,.int .i64 n,.int .i64 b,.int .u8 ((sv.toNat : Nat) : Int),.int .u32 (q : Int),.slice D dat.length dq] w fun e w'=>RRes (goP x fs n b sv q dat) e w' ∧ Below w.heap.size w w':=by
 obtain ⟨iu,hu,hu0,hu1,hu2⟩:=minfo_u8
 have HX:=Lib.hid (fun (w : World) (hr : RdIn w S (.sl FlTy) fs [.slice B N d])=>rmay24_any S x fs N d B hN w hr)
 have HF:=Lib.hid (fun (w : World) (hr : RdIn w S (.sl FlTy) fs [.slice B N d]) (hf : Fit8 fs)=>rfind_any S fs N d B hN n b hf w hr)
 have HFI:=Lib.hid (fun (w : World) (hr : RdIn w S (.sl FlTy) fs [.slice B N d]) (k : Nat) (hk : k < fs.length) (hc : flB x fs = true)=>rfirst_any S x fs N d k B hk hN (fun i hi _=>flB_code hc i hi) w hr)
 have HFH:=Lib.hid (fun (hc : flB x fs = true)=>fnd_has (n:=n) (b:=b) hc)
 have HON:=Lib.hid (fun (hc : flB x fs = true) (k : Nat) (hk : k < fs.length)=>((stB_iff hk).1 ((flB_iff.1 hc).2.2 k hk)).1)
 have HF8:=Lib.hid (fun (h : flB x fs = true)=>(flB_iff.1 h).2.1)
 have HFT:=Lib.hid (fun (h : flB x fs = true)=>flB_fit h)
 have HGP:=Lib.hid (fun (k i : Nat) (h : flB x fs = true) (h2 : fndP fs n b = some k) (hk : k < fs.length) (hb : b = fA fs[k] + (i : Int)) (hi : i < (fS fs[k]).length)=>goP_at (s:=sv) (q:=q) (dat:=dat) h h2 hk hb hi)
 have HG6 : Hid (flB x fs = true → fndP fs n b = none → goP x fs n b sv q dat = ([],6)):=fun h1 h2=>by unfold goP;rw [if_pos h1,h2]
 have HG8 : Hid (¬ flB x fs = true → goP x fs n b sv q dat = ([],8)):=fun h1=>by unfold goP;rw [if_neg h1]
 obtain ⟨mv,hmv⟩ : ∃ z,z = goP x fs n b sv q dat:=⟨_,rfl⟩
 rw [← hmv] at HG6 HG8 HGP ⊢
 have HQ32:=Lib.hid hq
 have HNL:=Lib.hid hN
 clear hmv hb hq
 obtain ⟨id,m',c,r,l,h⟩:=x
 unfold Cfg.val at *
 dsimp only at *
 have C0:=BoxOf.new w #[.int .u32 (id : Int),.int .i64 m',.int .i64 c,.int .i64 r,.int .i64 l,.int .i64 h] 24
 have t0:=Ext.alloc (Below.refl w.heap.size w) (.cells #[.int .u32 (id : Int),.int .i64 m',.int .i64 c,.int .i64 r,.int .i64 l,.int .i64 h] 24)
 have HR:=Lib.hid (hr.below t0)
 have HD:=Lib.hid (hd.below t0)
 clear hr hd hN
 go_enter Try.func16,Try.ntmps16
 go_upto_region 1 with fail
 generalize w.alloc (.cells #[.int .u32 (id : Int),.int .i64 m',.int .i64 c,.int .i64 r,.int .i64 l,.int .i64 h] 24) = W at *
 have x0:=C0.cell
 go_wp2_with fail
 refine (HX.out _ HR.out).mono ?_
 rintro e w1 ⟨rfl,b1⟩
 have t1:=Ext.trans t0 b1
 have HR1:=Lib.hid (HR.out.below b1)
 have HD1:=Lib.hid (HD.out.below b1)
 clear x0 C0 HR HD t0 b1 HX
 cases hfb : flB ⟨id,m',c,r,l,h⟩ fs with
 | false=>
   have hm : mv = ([],8):=HG8.out (by rw [hfb];exact Bool.false_ne_true)
   subst hm
   clear hfb
   go_wp2
   go_ret2
   exact ⟨RRes.bad,t1⟩
 | true=>
 have HK:=Lib.hid hfb
 have HFC:=Lib.hid (HF.out w1 HR1.out (HFT.out hfb))
 unfold IdxIs idxI at HFC
 rw [HFH.out hfb] at HFC
 clear hfb HG8
 cases hf : fndP fs n b with
 | none=>
   rw [hf] at HFC
   have hm : mv = ([],6):=HG6.out HK.out hf
   subst hm
   clear hf
   go_wp2_with fail
   refine HFC.out.mono ?_
   rintro e w2 ⟨rfl,b2⟩
   have t2:=Ext.trans t1 b2
   go_wp2
   go_ret2
   exact ⟨RRes.bad,t2⟩
 | some k=>
 rw [hf] at HFC
 obtain ⟨hk,-,hb1,hb2⟩:=fndP_some hf
 obtain ⟨i,hi⟩ : ∃ i : Nat,b = fA (fs[k]'hk) + (i : Int):=⟨(b - fA (fs[k]'hk)).toNat,by omega⟩
 have hiM : (i : Int) < fM (fs[k]'hk):=by omega
 have hfit:=HFT.out HK.out k hk
 obtain ⟨m,hfm,hm8,him,hls,hlq,hlb⟩:=oneB_len (HON.out HK.out k hk) hiM
 have hil0 : i < (fS (fs[k]'hk)).length:=by omega
 have HP:=HGP.out k i HK.out hf hk hi hil0
 have HKL:=Lib.hid hk
 have HMV:=Lib.hid HP
 have HL:=Lib.hid (And.intro hm8 (And.intro him (And.intro hls (And.intro hlq hlb))))
 have HBI : Hid (wrap64 (b - fA (fs[k]'hk)) = (i : Int)):=by
  have e : b - fA (fs[k]'hk) = (i : Int):=by omega
  show _ = _
  rw [e]
  exact IntWalk.wrap64_in _ (by omega)
 have hk0 : ¬ (k : Int) < 0:=by omega
 clear hf HGP HG6 hiM HP HON hfm hm8 him hls hlq hlb hb1 hb2 hi hfit HFT HFH
 go_wp2_with fail
 refine HFC.out.mono ?_
 rintro e w2 ⟨rfl,b2⟩
 have t2:=Ext.trans t1 b2
 have HR2:=Lib.hid (HR1.out.below b2)
 have HD2:=Lib.hid (HD1.out.below b2)
 have HFK:=Lib.hid (HFI.out w2 HR2.out k hk HK.out)
 clear HFC HR1 HD1 t1 b2 HFI HF
 go_wp2_with fail
 refine HFK.out.mono ?_
 rintro e w3 ⟨rfl,b3⟩
 have t3:=Ext.trans t2 b3
 have HR3:=Lib.hid (HR2.out.below b3)
 have HD3:=Lib.hid (HD2.out.below b3)
 have HD3' : Hid (∀ w',Below w3.heap.size w3 w' → RdIn w' S (.sl .byte) dat [.slice D dat.length dq]):=fun w' hb=>HD3.out.below hb
 clear HR2 HD2 t2 HFK
 obtain ⟨fi,hfi⟩ : ∃ z : Bool,z = firstB fs k:=⟨_,rfl⟩
 rw [← hfi] at HMV ⊢
 clear hfi
 cases fi with
 | false=>
   have hm : mv = ([],6):=by rw [HMV.out,if_neg (fun h=>by cases h.1)]
   subst hm
   go_wp2
   go_ret2
   exact ⟨RRes.bad,t3⟩
 | true=>
 obtain ⟨bb,off,Ab,cb,As,cs,Aq,cq,Ax,cx,rfl,q0,q1,q2,q3,q4,q5,q6,q7,hints,rD,rS,rQ,rX⟩:=fl_at HR3.out HKL.out
 have hil : i < (fS (fs[k]'HKL.out)).length:=by have:=HL.out;omega
 obtain ⟨bs,os,rfl,k1⟩:=st_at rS hil
 have HST : Hid (mv = if ((fS (fs[k]'HKL.out))[i]'hil).toNat < sv.toNat then (if blkB (kI (fs[k]'HKL.out)) sv q dat.length = true then (fs.set k (fPut (fs[k]'HKL.out) i sv q dat),0) else ([],2)) else ([],6)):=by
  show _ = _
  rw [HMV.out]
  simp only [true_and]
 obtain ⟨st,hst⟩ : ∃ z : Nat,z = ((fS (fs[k]'HKL.out))[i]'hil).toNat:=⟨_,rfl⟩
 rw [← hst] at HST k1
 have HIL:=Lib.hid hil
 have hlS : (fS (fs[k]'HKL.out)).length = m:=HL.out.2.2.1
 rw [hlS] at q5
 have him : i < m:=HL.out.2.1
 have hkN : k < N:=by have:=HKL.out;have:=HNL.out;omega
 clear q0 q1 q3 q4 q6 q7 hints rD rS rQ rX hst hlS HMV hil0
 obtain ⟨av,hav⟩ : ∃ z : Int,z = fA (fs[k]'HKL.out):=⟨_,rfl⟩
 have HBI2 : Hid (wrap64 (b - av) = (i : Int)):=by show _ = _;rw [hav];exact HBI.out
 rw [← hav] at q2
 have hbi:=HBI2.out
 clear HBI hav
 rcases Bool.eq_false_or_eq_true (decide (sv.toNat ≤ st)) with e1 | e1
 · have hm : mv = ([],6):=by rw [HST.out,if_neg];have:=of_decide_eq_true e1;omega
   subst hm
   go_wp2
   go_ret2
   exact ⟨RRes.bad,t3⟩
 have HMV : Hid (mv = if blkB (kI (fs[k]'HKL.out)) sv q dat.length = true then (fs.set k (fPut (fs[k]'HKL.out) i sv q dat),0) else ([],2)):=by
  show _ = _
  rw [HST.out,if_pos];have:=of_decide_eq_false e1;omega
 have HTW:=Lib.hid (rftwin24_any S fs N d (some ⟨bb,off,none⟩) HNL.out w3 HR3.out)
 clear HST
 go_wp2_with fail
 refine HTW.out.mono ?_
 rintro e w4 ⟨⟨v4,rfl,fn4⟩,b4⟩
 simp only [HBI2.out]
 have t4:=Ext.trans t3 b4
 have HW34 : Hid (w3.heap.size ≤ w4.heap.size):=b4.size
 have HD4:=Lib.hid (HD3.out.below b4)
 clear q2 q5 k1 e1 HTW HR3 HD3 hbi
 obtain ⟨g,cap,es,Sj,rfl,⟨hFg,hgb,hgl⟩,hcell,⟨vd,vs,vq,vx,hs,T,rfl,hE⟩,hSj,hclose⟩:=OwnE.at fn4 HKL.out
 have hlen : hs.length = m:=by have:=hE.len;have:=HL.out;omega
 have hkl:=HKL.out
 have hcB:=hclose
 clear hclose
 generalize fs[k] = f at *
 have hlS:=HL.out.2.2.1
 have hlQ:=HL.out.2.2.2.1
 have hlB:=HL.out.2.2.2.2
 obtain ⟨gs,cs',cur1,ee1,hSs,_⟩:=hE.st.at (i:=i) (by rw [List.length_map];omega)
 obtain ⟨gq,cq',cur2,ee2,hSq,_⟩:=hE.sq.at (i:=i) (by rw [List.length_map];omega)
 obtain ⟨gx,cx',cur3,ee3,hSx,_⟩:=hE.row.at (i:=i) (by omega)
 rw [List.length_map,hlS] at ee1
 rw [List.length_map,hlQ] at ee2
 rw [hlen] at ee3
 subst ee1 ee2 ee3
 obtain ⟨Ad,cd',eed⟩:=bytesV hE.dat
 subst eed
 have HSJ : Hid (∀ b,Sj b → (w3.heap.size ≤ b ∧ b < w4.heap.size) ∧ b ≠ g):=fun b hb=>⟨(hSj b hb).1,(hSj b hb).2⟩
 have HGS:=Lib.hid (hSj gs hSs).2
 have HGQ:=Lib.hid (hSj gq hSq).2
 have HGX:=Lib.hid (hSj gx hSx).2
 have HSS:=Lib.hid (And.intro hSs (And.intro hSq hSx))
 have HC8 : Hid (∀ w' : World,w'.heap[g]? = w4.heap[g]? → ∀ p,p < 8 → w'.cell? ⟨g,k * 8 + p,none⟩ = (flCells f (.slice Ad (fD f).length cd') (.slice (some ⟨gs,0,none⟩) m cs') (.slice (some ⟨gq,0,none⟩) m cq') (.slice (some ⟨gx,0,none⟩) m cx'))[p]?):=fun w' hw p hp=>by rw [cell_heap hw];exact hcell p hp
 have HE4:=Lib.hid hE
 have HCL:=Lib.hid hcB
 have HHL:=Lib.hid hlen
 have HGL:=Lib.hid hgl
 have HKL' : k < fs.length:=HKL.out
 clear hcell hSj hcB fn4 hE hSs hSq hSx hFg hlen hlS hlQ hlB hkl hgb hgl
 have z5 : w4.cell? ⟨g,k * 8 + 5,none⟩ = some (.slice (some ⟨gs,0,none⟩) m cs'):=HC8.out w4 rfl 5 (by decide)
 obtain ⟨_,kc,kf,kl⟩:=HE4.out.st.slot (i:=i) (by rw [List.length_map];exact HIL.out)
 have kf':=kf i
 clear kl
 go_upto_region 11 with fail
 clear kc kf' z5
 have E5 : FlEs (w4.setCell ⟨gs,i,none⟩ (.int .u8 ((sv.toNat : Nat) : Int))) _ _ _ _ _ _ _ _:=HE4.out.setS HIL.out sv
 have h5 : (w4.setCell ⟨gs,i,none⟩ (.int .u8 ((sv.toNat : Nat) : Int))).heap[g]? = w4.heap[g]?:=Below.heap_setCell _ _ _ _ (show g ≠ gs from fun e=>HGS.out e.symm)
 have F5 : Hid (∀ b,b ≠ gs → (w4.setCell ⟨gs,i,none⟩ (.int .u8 ((sv.toNat : Nat) : Int))).heap[b]? = w4.heap[b]?):=fun b hn=>Below.heap_setCell _ _ _ _ hn
 have HB5:=Lib.hid (Below.setCell (p:=⟨gs,i,none⟩) t4 (Nat.le_trans t3.size (HSJ.out gs HSS.out.1).1.1) (.int .u8 ((sv.toNat : Nat) : Int)))
 have Z5 : Hid ((w4.setCell ⟨gs,i,none⟩ (.int .u8 ((sv.toNat : Nat) : Int))).heap.size = w4.heap.size):=msize _ _ _
 have HD5:=Lib.hid (HD3'.out _ (Below.setCell (p:=⟨gs,i,none⟩) b4 (HSJ.out gs HSS.out.1).1.1 (.int .u8 ((sv.toNat : Nat) : Int))))
 have b5:=Below.setCell (p:=⟨gs,i,none⟩) b4 (HSJ.out gs HSS.out.1).1.1 (.int .u8 ((sv.toNat : Nat) : Int))
 generalize w4.setCell ⟨gs,i,none⟩ (.int .u8 ((sv.toNat : Nat) : Int)) = w5 at *
 have z6 : w5.cell? ⟨g,k * 8 + 6,none⟩ = some (.slice (some ⟨gq,0,none⟩) m cq'):=HC8.out w5 h5 6 (by decide)
 obtain ⟨_,kc,kf,kl⟩:=E5.sq.slot (i:=i) (by rw [List.length_map];have h1:=HL.out;show i < (fQ f).length;omega)
 have kf':=kf i
 clear kl
 have HE5:=Lib.hid E5
 have H5:=Lib.hid h5
 clear E5 h5 HD4 b4 t4
 go_upto_region 12 with fail
 clear kc kf kf' z6
 have E6 : FlEs (w5.setCell ⟨gq,i,none⟩ (.int .u32 (q : Int))) _ _ _ _ _ _ _ _:=HE5.out.setQ (show i < (fQ f).length by have h1:=HL.out;omega) q HQ32.out
 have h6 : (w5.setCell ⟨gq,i,none⟩ (.int .u32 (q : Int))).heap[g]? = w4.heap[g]?:=(Below.heap_setCell _ _ _ _ (show g ≠ gq from fun e=>HGQ.out e.symm)).trans H5.out
 have F6 : Hid (∀ b,b ≠ gs → b ≠ gq → (w5.setCell ⟨gq,i,none⟩ (.int .u32 (q : Int))).heap[b]? = w4.heap[b]?):=fun b hn hn2=>(Below.heap_setCell _ _ _ _ hn2).trans (F5.out b hn)
 have HB6:=Lib.hid (Below.setCell (p:=⟨gq,i,none⟩) HB5.out (Nat.le_trans t3.size (HSJ.out gq HSS.out.2.1).1.1) (.int .u32 (q : Int)))
 have Z6 : Hid ((w5.setCell ⟨gq,i,none⟩ (.int .u32 (q : Int))).heap.size = w4.heap.size):=(msize _ _ _).trans Z5.out
 have b6:=Below.setCell (p:=⟨gq,i,none⟩) b5 (HSJ.out gq HSS.out.2.1).1.1 (.int .u32 (q : Int))
 have HD6:=Lib.hid (HD3'.out _ b6)
 have HE6:=Lib.hid E6
 clear HE5 F5 HB5 Z5 HD5 b5 E6
 generalize w5.setCell ⟨gq,i,none⟩ (.int .u32 (q : Int)) = w6 at *
 have HGL6 : Hid (g < w6.heap.size):=by rw [Z6.out];exact HGL.out
 have HS2 : Hid (∀ w' : World,w'.heap[g]? = w4.heap[g]? → w'.cell? ⟨g,k * 8 + 7,none⟩ = some (.slice (some ⟨gx,0,none⟩) m cx')):=fun w' hw=>HC8.out w' hw 7 (by decide)
 have hdrew:=(Ext.drew (Below.refl w6.heap.size w6)).block g HGL6.out
 refine wp_region_G (S:=fun w'=>w'.cell? ⟨g,k * 8 + 7,none⟩ = some (.slice (some ⟨gx,0,none⟩) m cx')) (by kernel_rfl) (HS2.out _ (hdrew.trans h6)) (fun hS=>?_)
 have bd:=Ext.drew (Below.refl w6.heap.size w6)
 have HDD:=HD6.out.below bd
 generalize w6.drew = wd at *
 refine wpAnyG.take (i:=0) (o:=_) (v:=?_) rfl (by kernel_rfl) (by kernel_rfl) (by kernel_rfl) (fun _ _ _ h=>h) (Or.inl ⟨by rfl,?_⟩) hS ?_
 rotate_left
 · (intro w hSw;(try dsimp only at hSw);go_simp;(try with_reducible rfl))
 rotate_left
 simp only [Act.put,zq0,zq1,zq2,zq3,zq4,zq5]
 refine wpAnyG.take (i:=1) (o:=_) (v:=?_) rfl (by kernel_rfl) (by kernel_rfl) (by kernel_rfl) (fun _ _ _ h=>h) (Or.inl ⟨by rfl,?_⟩) hS ?_
 rotate_left
 · (intro w hSw;(try dsimp only at hSw);go_simp;(try with_reducible rfl))
 rotate_left
 simp only [Act.put,zq0,zq1,zq2,zq3,zq4,zq5]
 refine wpAnyG.take (i:=2) (o:=_) (v:=?_) rfl (by kernel_rfl) (by kernel_rfl) (by kernel_rfl) (fun _ _ _ h=>h) (Or.inl ⟨by rfl,?_⟩) hS ?_
 rotate_left
 · (intro w hSw;(try dsimp only at hSw);go_simp;(try with_reducible rfl))
 rotate_left
 simp only [Act.put,zq0,zq1,zq2,zq3,zq4,zq5]
 refine wpAnyG.take (i:=3) (o:=_) (v:=?_) rfl (by kernel_rfl) (by kernel_rfl) (by kernel_rfl) (fun _ _ _ h=>h) (Or.inl ⟨by rfl,?_⟩) hS ?_
 rotate_left
 · (intro w hSw;(try dsimp only at hSw);go_simp;(try with_reducible rfl))
 rotate_left
 simp only [Act.put,zq0,zq1,zq2,zq3,zq4,zq5]
 refine wpAnyG.take (i:=4) (o:=_) (v:=?_) rfl (by kernel_rfl) (by kernel_rfl) (by kernel_rfl) (fun _ _ _ h=>h) (Or.inl ⟨by rfl,?_⟩) hS ?_
 rotate_left
 · (intro w hSw;(try dsimp only at hSw);go_simp;(try with_reducible rfl))
 rotate_left
 simp only [Act.put,zq0,zq1,zq2,zq3,zq4,zq5]
 refine wpAnyG.take (i:=5) (o:=_) (v:=?_) rfl (by kernel_rfl) (by kernel_rfl) (by kernel_rfl) (fun _ _ _ h=>h) (Or.inl ⟨by rfl,?_⟩) hS ?_
 rotate_left
 · (intro w hSw;(try dsimp only at hSw);go_simp;(try with_reducible rfl))
 rotate_left
 simp only [Act.put,zq0,zq1,zq2,zq3,zq4,zq5]
 refine wpAnyG.take (i:=6) (o:=_) (v:=?_) rfl (by kernel_rfl) (by kernel_rfl) (by kernel_rfl) (fun _ _ _ h=>h) (Or.inl ⟨by rfl,?_⟩) hS ?_
 rotate_left
 · (intro w hSw;(try dsimp only at hSw);go_simp;(try with_reducible rfl))
 rotate_left
 simp only [Act.put,zq0,zq1,zq2,zq3,zq4,zq5]
 refine wpAnyG.next (rs:=[7]) (by kernel_rfl) (by simp) ?_
 refine NextG.cons rfl (fun K hK=>?_) NextG.nil
 rw [if_pos (by rfl)]
 refine wp_copyL (.const (.slice none 0 0)) (.tmp 77) 26 rfl 5 iu (.int .u8 0) .byte rfl Try.underlying26 hu hu0 hu1 hu2 rfl rfl S dat D dat.length dq rfl HDD ?_
 intro u w7 rd7 b7
 obtain ⟨Au,cu,eu⟩:=bytesV rd7
 subst eu
 have b67:=bd.trans (b7.mono bd.size)
 have h7:=(b67.block g HGL6.out).trans h6
 refine hK.out _ _ (fun _=>HS2.out _ h7) (fun hS'=>?_)
 clear hK K hS
 have hS:=hS' (by kernel_rfl)
 clear hS'
 try simp only [Act.put,zq0,zq1,zq2,zq3,zq4,zq5]
 refine wpAnyG.take (i:=8) (o:=_) (v:=?_) rfl (by kernel_rfl) (by kernel_rfl) (by kernel_rfl) (fun _ _ _ h=>h) (Or.inl ⟨by rfl,?_⟩) hS ?_
 rotate_left
 · (intro w hSw;(try dsimp only at hSw);go_simp;(try with_reducible rfl))
 rotate_left
 simp only [Act.put,zq0,zq1,zq2,zq3,zq4,zq5]
 refine wpAnyG.next (rs:=[9]) (by kernel_rfl) (by simp) ?_
 refine NextG.last rfl (by kernel_rfl) (fun K hK=>?_) NextG.nil
 rw [if_pos (by rfl)]
 have E7:=HE6.out.frame (w':=w7) (fun b hb=>b67.block b (by rw [Z6.out];exact (HSJ.out b hb).1.2))
 obtain ⟨_,kc,kf,kl⟩:=E7.row.slot (i:=i) (by have h1:=HL.out;have:=HHL.out;omega)
 have kf':=kf i
 go_simp
 have E8:=E7.setB (show i < (fB f).length by have h1:=HL.out;omega) rd7 (fun b hb=>⟨fun hj=>by have:=hb.1;have:=(HSJ.out b hj).1.2;have:=bd.size;have:=Z6.out;omega,hb.2.2⟩) E7.own
 have h8 : (w7.setCell ⟨gx,i,none⟩ (.slice Au dat.length cu)).heap[g]? = w4.heap[g]?:=(Below.heap_setCell _ _ _ _ (show g ≠ gx from fun e=>HGX.out e.symm)).trans h7
 have F8 : Hid (∀ b,b < w4.heap.size → b ≠ gs → b ≠ gq → b ≠ gx → (w7.setCell ⟨gx,i,none⟩ (.slice Au dat.length cu)).heap[b]? = w4.heap[b]?):=fun b hb hn hn2 hn3=>(Below.heap_setCell _ _ _ _ hn3).trans ((b67.block b (by rw [Z6.out];exact hb)).trans (F6.out b hn hn2))
 have t7:=Ext.trans HB6.out (show Below w6.heap.size w6 w7 from b67)
 have t8:=Below.setCell (p:=⟨gx,i,none⟩) t7 (Nat.le_trans t3.size (HSJ.out gx HSS.out.2.2).1.1) (.slice Au dat.length cu)
 have Z8 : (w7.setCell ⟨gx,i,none⟩ (.slice Au dat.length cu)).heap.size = w7.heap.size:=msize _ _ _
 have HWD : Hid (w4.heap.size ≤ wd.heap.size):=by rw [← Z6.out];exact bd.size
 have HW7 : Hid (w4.heap.size ≤ w7.heap.size):=by rw [← Z6.out];exact b67.size
 refine hK.out _ _ ?_
 clear hK K kc kf kl kf' E7 h7 rd7 h6 HDD b7 b67 t7
 try simp only [Act.put,zq0,zq1,zq2,zq3,zq4,zq5]
 generalize w7.setCell ⟨gx,i,none⟩ (.slice Au dat.length cu) = w8 at *
 refine wpAnyG.done (by kernel_rfl) ?_ _
 have FNF:=HCL.out w8 (NewB wd.heap.size w7) (fPut f i sv q dat) ⟨_,_,_,_,_,_,rfl,E8⟩ (fun b hb hnb=>F8.out b hb.2 (fun e=>hnb (by rw [e];exact HSS.out.1)) (fun e=>hnb (by rw [e];exact HSS.out.2.1)) (fun e=>hnb (by rw [e];exact HSS.out.2.2))) (fun b hb hF=>by have:=hb.1;have:=hF.2;have:=HWD.out;omega)
 have HFN : Hid (FlNew w3.heap.size (fs.set k (fPut f i sv q dat)) (.slice (some ⟨g,0,none⟩) fs.length cap) w8):=FNF.mono fun b hb=>by
  have h1:=HW7.out
  rcases hb with hb | hb
  · exact ⟨hb.1,by rw [Z8];have:=hb.2;omega⟩
  · exact ⟨by have:=hb.1;have:=HWD.out;have:=HW34.out;omega,by rw [Z8];exact hb.2.1⟩
 have ks : w8.cell? ⟨gs,0 + i,none⟩ = some (.int .u8 ((sv.toNat : Nat) : Int)):=by
  rw [Nat.zero_add]
  refine (E8.st.slot (i:=i) (by rw [List.length_map];show i < ((fS f).set i sv).length;rw [List.length_set];exact HIL.out)).2.1.trans ?_
  rw [List.getElem_map]
  exact set_byteV (l:=fS f) _
 have kq : w8.cell? ⟨gq,0 + i,none⟩ = some (.int .u32 (q : Int)):=by
  rw [Nat.zero_add]
  refine (E8.sq.slot (i:=i) (by rw [List.length_map];show i < ((fQ f).set i q).length;rw [List.length_set];have h1:=HL.out;omega)).2.1.trans ?_
  rw [List.getElem_map]
  exact set_seqV (l:=fQ f) _
 have kx : w8.cell? ⟨gx,0 + i,none⟩ = some (.slice Au dat.length cu):=by
  rw [Nat.zero_add]
  refine (E8.row.slot (i:=i) (by rw [List.length_set];have h1:=HL.out;have:=HHL.out;omega)).2.1.trans ?_
  rw [List.getElem_set_self]
 have him2 : i < m:=HL.out.2.1
 have HBK:=Lib.hid (rpart_any (fN f) (kI f) (fA f) (fM f) Ad (fD f).length cd' m cs' m cq' m cx' i sv.toNat q dat.length cu gs 0 gq 0 gx 0 Au w8 him2 him2 him2 ks kq kx)
 have y0 : w8.cell? ⟨g,k * 8,none⟩ = some (.int .i64 (fN f)):=HC8.out w8 h8 0 (by decide)
 have y1 : w8.cell? ⟨g,k * 8 + 1,none⟩ = some (.int .u8 (kI f)):=HC8.out w8 h8 1 (by decide)
 have y2 : w8.cell? ⟨g,k * 8 + 2,none⟩ = some (.int .i64 (fA f)):=HC8.out w8 h8 2 (by decide)
 have y3 : w8.cell? ⟨g,k * 8 + 3,none⟩ = some (.int .i64 (fM f)):=HC8.out w8 h8 3 (by decide)
 have y4 : w8.cell? ⟨g,k * 8 + 4,none⟩ = some (.slice Ad (fD f).length cd'):=HC8.out w8 h8 4 (by decide)
 have y5 : w8.cell? ⟨g,k * 8 + 5,none⟩ = some (.slice (some ⟨gs,0,none⟩) m cs'):=HC8.out w8 h8 5 (by decide)
 have y6 : w8.cell? ⟨g,k * 8 + 6,none⟩ = some (.slice (some ⟨gq,0,none⟩) m cq'):=HC8.out w8 h8 6 (by decide)
 have y7 : w8.cell? ⟨g,k * 8 + 7,none⟩ = some (.slice (some ⟨gx,0,none⟩) m cx'):=HC8.out w8 h8 7 (by decide)
 have HBL : Hid (blkP (kI f) sv.toNat q dat.length = blkB (kI f) sv q dat.length):=rfl
 have HNL2 : Hid ((fs.set k (fPut f i sv q dat)).length = fs.length):=by show _ = _;rw [List.length_set]
 have HF8' : Hid (fs.length ≤ 8):=HF8.out HK.out
 clear E8 F8 h8 Z8 FNF ks kq kx HSJ HGS HGQ HGX HSS HS2 HC8 t3 b3 HB6 Z6 F6 b6 bd HE6 HE4 HD6 HF8
 go_wp2_with fail
 refine HBK.out.mono ?_
 rintro e w9 ⟨rfl,b9⟩
 have t9:=Ext.trans t8 b9
 have HFN9 : Hid (FlNew w3.heap.size (fs.set k (fPut f i sv q dat)) (.slice (some ⟨g,0,none⟩) fs.length cap) w9):=OwnE.step HFN.out b9
 clear y0 y1 y2 y3 y4 y5 y6 y7 HBK HFN t8
 obtain ⟨bk,hbk⟩ : ∃ z : Bool,z = blkP (kI f) sv.toNat q dat.length:=⟨_,rfl⟩
 rw [← hbk] at HBL ⊢
 clear hbk
 cases bk with
 | false=>
   have hm : mv = ([],2):=by rw [HMV.out,if_neg];rw [← HBL.out];exact Bool.false_ne_true
   subst hm
   go_wp2
   go_ret2
   exact ⟨RRes.bad,t9⟩
 | true=>
   have hm : mv = (fs.set k (fPut f i sv q dat),0):=by rw [HMV.out,if_pos HBL.out.symm]
   subst hm
   go_wp2
   go_ret2
   exact ⟨RRes.mk HNL2.out ((OwnE.fl_rd HFN9.out (by have h1:=HNL2.out;have h2:=HF8'.out;omega)).mono fun _ _=>trivial),t9⟩
end Go.Proofs.Ythapabjlhooglaa
namespace Go.Proofs.Ythapabjlhooglaa
open Go Go.RowKit
set_option linter.unusedSimpArgs false
set_option linter.unusedVariables false
set_option linter.unusedSectionVars false
theorem cfg_deep {w : World} {S : Nat → Prop} {cs : List Value} {x : (Ty.st (.prod .u32 (.prod .int (.prod .int (.prod .int (.prod .int (.prod .int .unit))))))).T} (h : RdIn w S (Ty.st (.prod .u32 (.prod .int (.prod .int (.prod .int (.prod .int (.prod .int .unit))))))) x cs) : ∃ y : Cfg,Value.agg cs.toArray = y.val:=by
 obtain ⟨id,m,c,r,l,h',u⟩:=x
 obtain ⟨c0,d0,rfl,r0,h⟩:=rdin_prod.1 (rdin_st.1 h)
 obtain ⟨c1,d1,rfl,r1,h⟩:=rdin_prod.1 h
 obtain ⟨c2,d2,rfl,r2,h⟩:=rdin_prod.1 h
 obtain ⟨c3,d3,rfl,r3,h⟩:=rdin_prod.1 h
 obtain ⟨c4,d4,rfl,r4,h⟩:=rdin_prod.1 h
 obtain ⟨c5,d5,rfl,r5,h⟩:=rdin_prod.1 h
 obtain rfl:=rdin_unit.1 h
 obtain ⟨rfl,_⟩:=rdin_u32.1 r0
 obtain ⟨rfl,_⟩:=rdin_int.1 r1
 obtain ⟨rfl,_⟩:=rdin_int.1 r2
 obtain ⟨rfl,_⟩:=rdin_int.1 r3
 obtain ⟨rfl,_⟩:=rdin_int.1 r4
 obtain ⟨rfl,_⟩:=rdin_int.1 r5
 exact ⟨⟨id,m,c,r,l,h'⟩,rfl⟩
theorem int_deep {w : World} {S : Nat → Prop} {v : Value} {x : Ty.int.T} (h : RdIn w S .int x [v]) : ∃ n : Int,v = .int .i64 n ∧ IsInt n:=by
 obtain ⟨e,hi⟩:=rdin_int.1 h
 exact ⟨x,(List.cons.inj e).1,hi⟩
theorem sl_deep {w : World} {S : Nat → Prop} {e : Ty} {xs : List e.T} {v : Value} (h : RdIn w S (.sl e) xs [v]) : ∃ A c,v = .slice A xs.length c:=by
 obtain ⟨A,c,e,_⟩:=rdin_sl.1 h
 exact ⟨A,c,(List.cons.inj e).1⟩
end Go.Proofs.Ythapabjlhooglaa
namespace Go.Proofs.Ythapabjlhooglaa
open Go Go.RowKit
set_option linter.unusedSimpArgs false
set_option linter.unusedVariables false
def AdR (fs : List FlTy.T) (ki : UInt8) (a y : Int) (bs : List UInt8) (i : Nat) (v : Value) (lo hi : Nat) (w : World) : Prop:=
 match i with
 | 1=>OwnE flE w (Iv lo hi) lo 67 v fs
 | 3=>∃ A c,v = .agg #[.int .u8 ((ki.toNat : Nat) : Int),.int .i64 a,.int .i64 y,.slice A bs.length c] ∧ RdIn w (Iv lo hi) (.sl .byte) bs [.slice A bs.length c]
 | _=>∃ gx,v = .pointer (some ⟨gx,0,none⟩) ∧ BoxOf w gx #[.int .u8 0,.int .i64 0,.int .i64 0,.slice none 0 0] 28 ∧ lo ≤ gx ∧ gx < hi
theorem AdR.keep {fs : List FlTy.T} {ki : UInt8} {a y : Int} {bs : List UInt8} {i : Nat} (v : Value) (lo hi : Nat) (w w' : World) (h : AdR fs ki a y bs i v lo hi w) (hb : Below w.heap.size w w') (hh : hi ≤ w.heap.size) : AdR fs ki a y bs i v lo hi w':=by
 unfold AdR at *
 split at h
 · exact h.next (fun b hb'=>Nat.lt_of_lt_of_le hb'.2 hh) hb
 · obtain ⟨A,c,e,r⟩:=h
   exact ⟨A,c,e,r.below hb⟩
 · obtain ⟨gx,e,h1,h2,h3⟩:=h
   exact ⟨gx,e,h1.next hb,h2,h3⟩
def AdMid (wc : World) (fs : List FlTy.T) (ki : UInt8) (a y : Int) (bs : List UInt8) (s13 s14 : Value) (wx : World) : Prop:=∃ Ao co gI A4 c4,s13 = .slice Ao fs.length co ∧ s14 = .pointer (some ⟨gI,0,none⟩) ∧ BoxOf wx gI #[.int .u8 ((ki.toNat : Nat) : Int),.int .i64 a,.int .i64 y,.slice A4 bs.length c4] 28 ∧ RdIn wx (fun b=>b < wx.heap.size) (.sl FlTy) fs [.slice Ao fs.length co] ∧ RdIn wx (fun b=>b < wx.heap.size) (.sl .byte) bs [.slice A4 bs.length c4] ∧ Below wc.heap.size wc wx
theorem rsame8_self (k a y : Int) (A : Option Addr) (c : Nat) (bs : List UInt8) (A' : Option Addr) (c' : Nat) (w : World) (h1 : Bs w A bs.length bs) (h2 : Bs w A' bs.length bs) :
 Calls Try.prog 23 #[.agg #[.int .u8 k,.int .i64 a,.int .i64 y,.slice A bs.length c],.agg #[.int .u8 k,.int .i64 a,.int .i64 y,.slice A' bs.length c']] w fun e w'=>e = .returned (.bool true) ∧ Below w.heap.size w w':=by
 refine (rsame8_any k a y A c bs k a y A' c' bs w h1 h2).mono ?_
 rintro e w' ⟨h3,h4⟩
 exact ⟨h3.is (b:=true) ⟨fun _=>⟨rfl,rfl,rfl,rfl⟩,fun _=>rfl⟩,h4⟩
theorem addP_len {x : Cfg} {fs : List FlTy.T} {n : Int} {ki : UInt8} {a y : Int} {bs : List UInt8} {last : Nat} : (addP x fs n ki a y bs last).1.length * 128 ≤ 140737488355328:=by
 have h8 : (addP x fs n ki a y bs last).1.length ≤ 8:=by
  unfold addP
  by_cases h : flB x fs = true
  · have h1:=(flB_iff.1 h).2.1
    rw [if_pos h]
    split
    · split
      · exact Nat.zero_le _
      · split
        · exact Nat.zero_le _
        · rename_i h8
          show (fs ++ [_]).length ≤ 8
          rw [List.length_append,List.length_singleton]
          omega
    · exact Nat.zero_le _
  · rw [if_neg h]
    exact Nat.zero_le _
 omega
theorem goP_len {x : Cfg} {fs : List FlTy.T} {n b : Int} {s : UInt8} {q : Nat} {dat : List UInt8} : (goP x fs n b s q dat).1.length * 128 ≤ 140737488355328:=by
 have h8 : (goP x fs n b s q dat).1.length ≤ 8:=by
  unfold goP
  by_cases h : flB x fs = true
  · have h1:=(flB_iff.1 h).2.1
    rw [if_pos h]
    split
    · exact Nat.zero_le _
    · split
      · exact Nat.zero_le _
      · split
        · split
          · show (fs.set _ _).length ≤ 8
            rw [List.length_set]
            exact h1
          · exact Nat.zero_le _
        · exact Nat.zero_le _
  · rw [if_neg h]
    exact Nat.zero_le _
 omega
theorem shp_within {w w' : World} {lo hi l h : Nat} {t : Ty} {x : t.T} {cs : List Value} (hw : Within lo hi w w') (hr : RdIn w (InL w l h) t x cs) (hl : hi ≤ l) : RdIn w' (InL w' l h) t x cs:=
 (hr.within hw (fun b hb=>.inr (Nat.le_trans hl hb.1.1))).mono fun b hb=>⟨hb.1,by
   obtain ⟨cs9,t9,e⟩:=hb.2
   have hlt : b < w.heap.size:=(Array.getElem?_eq_some_iff.1 e).1
   exact ⟨cs9,t9,by rw [hw.above b (Nat.le_trans hl hb.1.1) hlt];exact e⟩⟩
theorem low_within {w w' : World} {lo hi k : Nat} {t : Ty} {x : t.T} {cs : List Value} (hw : Within lo hi w w') (hr : RdIn w (fun b=>b < k) t x cs) (hk : k ≤ lo) : RdIn w' (fun b=>b < k) t x cs:=
 hr.within hw fun b hb=>.inl (Nat.lt_of_lt_of_le hb hk)
theorem new_shp {w w' : World} {lo : Nat} {fs : List FlTy.T} {v : Value} (h : FlNew lo fs v w) (hz : fs.length * 128 ≤ 140737488355328) (hb : Below w.heap.size w w') : RdIn w' (InL w' lo w.heap.size) (.sl FlTy) fs [v]:=
 ((OwnE.fl_rd h hz).below hb).mono fun b hb'=>⟨⟨hb'.1,hb'.2.1⟩,hb'.2.2.below hb⟩
theorem box_keep {w w' : World} {g k : Nat} {cs : Array Value} {t : TypeId} (h : BoxOf w g cs t) (hb : Below k w w') (hg : g < k) : BoxOf w' g cs t:=by
 unfold BoxOf at *
 rw [hb.block g hg];exact h
set_option maxRecDepth 100000 in
set_option maxHeartbeats 8000000 in
theorem addslaw_core (x : Cfg) (fs os : List FlTy.T) (N d : Nat) (B : Option Addr) (hN : fs.length = N) (N2 d2 : Nat) (B2 : Option Addr) (hN2 : os.length = N2) (n : Int) (hn : IsInt n) (ki : UInt8) (a y : Int) (D : Option Addr) (dq : Nat) (bs : List UInt8) (gn gb : Int) (hgb : IsInt gb) (sv : UInt8) (q : Nat) (hq : q < 2 ^ 32) (E : Option Addr) (de : Nat) (dat : List UInt8) (w : World)
 (hr : RdIn w (fun b=>b < w.heap.size) (.sl FlTy) fs [.slice B N d]) (hr2 : RdIn w (fun b=>b < w.heap.size) (.sl FlTy) os [.slice B2 N2 d2]) (hd : RdIn w (fun b=>b < w.heap.size) (.sl .byte) bs [.slice D bs.length dq]) (hdd : RdIn w (fun b=>b < w.heap.size) (.sl .byte) dat [.slice E dat.length de]) :
 Calls Try.prog 3 #[x.val,.slice B N d,.slice B2 N2 d2,.int .i64 n,.agg #[.int .u8 ((ki.toNat : Nat) : Int),.int .i64 a,.int .i64 y,.slice D bs.length dq],.agg #[.int .i64 gn,.int .i64 gb,.int .u8 ((sv.toNat : Nat) : Int),.int .u32 (q : Int),.slice E dat.length de]] w fun e w'=>e = .returned (.bool true) ∧ Below w.heap.size w w':=by
 obtain ⟨S,hS⟩ : ∃ S : Nat → Prop,S = fun b=>b < w.heap.size:=⟨_,rfl⟩
 have HSS : Hid (∀ b,S b → b < w.heap.size):=fun b hb=>by rw [hS] at hb;exact hb
 rw [← hS] at hr hr2 hd hdd
 clear hS
 have HG1:=Lib.hid (fun w' (hr : RdIn w' S (.sl FlTy) fs [.slice B N d])=>fgreat_any S fs N d B hN w' hr)
 have HG2:=Lib.hid (fun w' (hr : RdIn w' S (.sl FlTy) os [.slice B2 N2 d2])=>fgreat_any S os N2 d2 B2 hN2 w' hr)
 have HTW:=Lib.hid (fun w' (hr : RdIn w' S (.sl FlTy) fs [.slice B N d])=>rftwin24_any S fs N d B hN w' hr)
 have HAS:=Lib.hid (fun w' (hr : RdIn w' S (.sl .byte) bs [.slice D bs.length dq])=>rasktwin_any S ki a y bs D dq w' hr)
 have HADR:=Lib.hid (fun w' (hr : RdIn w' S (.sl FlTy) fs [.slice B N d]) (hd : RdIn w' S (.sl .byte) bs [.slice D bs.length dq])=>radd24_any S x fs N d B hN n hn ki a y D dq bs q hq w' hr hd)
 have HADP:=Lib.hid (fun w' (T : Nat → Prop) Ao co A4 c4 (hr : RdIn w' T (.sl FlTy) fs [.slice Ao fs.length co]) (hd : RdIn w' T (.sl .byte) bs [.slice A4 bs.length c4])=>fadd_any T x fs fs.length co Ao rfl n hn ki a y A4 c4 bs q hq w' hr hd)
 have HMAP:=Lib.hid (fun w' (T : Nat → Prop) Ao co (hr : RdIn w' T (.sl FlTy) fs [.slice Ao fs.length co])=>fmay_any T x fs fs.length co Ao rfl gn gb hgb w' hr)
 have HMAR:=Lib.hid (fun w' (hr : RdIn w' S (.sl FlTy) fs [.slice B N d])=>rgoes_any S x fs N d B hN gn gb w' hr)
 have HGOP:=Lib.hid (fun w' (T : Nat → Prop) Ao co (hr : RdIn w' T (.sl FlTy) fs [.slice Ao fs.length co]) (hd : RdIn w' T (.sl .byte) dat [.slice E dat.length de])=>fgo_any T x fs fs.length co Ao rfl gn gb hgb sv q hq E de dat w' hr hd)
 have HGOR:=Lib.hid (fun w' (hr : RdIn w' S (.sl FlTy) fs [.slice B N d]) (hd : RdIn w' S (.sl .byte) dat [.slice E dat.length de])=>rgo24_any S x fs N d B hN gn gb hgb sv q hq E de dat w' hr hd)
 have HTWP:=Lib.hid (fun w' (T : Nat → Prop) Ao co (hr : RdIn w' T (.sl FlTy) fs [.slice Ao fs.length co])=>ftwin_any T fs fs.length co Ao rfl w' hr)
 obtain ⟨chk,hchk⟩ : ∃ z : Int,z = if flB x fs = true then 0 else 8:=⟨_,rfl⟩
 have HCKP : Hid (∀ w' (T : Nat → Prop) Ao co,RdIn w' T (.sl FlTy) fs [.slice Ao fs.length co] → Calls Try.prog 19 #[x.val,.slice Ao fs.length co] w' fun e w''=>e = .returned (.int .i64 chk) ∧ Below w'.heap.size w' w''):=fun w' T Ao co hr=>(fcheck_any T x fs fs.length co Ao rfl w' hr).mono (by
  rintro e w'' ⟨h1,h2⟩
  refine ⟨?_,h2⟩
  rcases okbad_cases h1 with ⟨h,e1⟩ | ⟨h,e1⟩
  · rw [e1,hchk,if_pos h]
  · rw [e1,hchk,if_neg h])
 have HCKR : Hid (∀ w',RdIn w' S (.sl FlTy) fs [.slice B N d] → Calls Try.prog 20 #[x.val,.slice B N d] w' fun e w''=>e = .returned (.int .i64 chk) ∧ Below w'.heap.size w' w''):=fun w' hr=>(rcheck24_any S x fs N d B hN w' hr).mono (by
  rintro e w'' ⟨h1,h2⟩
  refine ⟨?_,h2⟩
  rcases okbad_cases h1 with ⟨h,e1⟩ | ⟨h,e1⟩
  · rw [e1,hchk,if_pos h]
  · rw [e1,hchk,if_neg h])
 clear hchk
 have HSM : Hid (∀ w' (T U : Nat → Prop) (xs : List FlTy.T) A (n : Nat) c D (e : Nat) dc,xs.length = n → xs.length = e → RdIn w' T (.sl FlTy) xs [.slice A n c] → RdIn w' U (.sl FlTy) xs [.slice D e dc] → Calls Try.prog 18 #[.slice A n c,.slice D e dc] w' fun en w''=>en = .returned (.bool true) ∧ Below w'.heap.size w' w''):=fun w' T U xs A n c D e dc hn he h1 h2=>(rsame24_any T U xs xs A n c D e dc hn he w' h1 h2).mono (by
  rintro e w'' ⟨h1,h2⟩
  exact ⟨h1.is (b:=true) (by simp),h2⟩)
 obtain ⟨sm,hsm⟩ : ∃ z : Bool,(z = true ↔ fs = os):=⟨@decide (fs = os) (Classical.propDecidable _),by simp⟩
 have HSP : Hid (∀ w' (T : Nat → Prop) Ao co,RdIn w' T (.sl FlTy) fs [.slice Ao fs.length co] → RdIn w' S (.sl FlTy) os [.slice B2 N2 d2] → Calls Try.prog 21 #[.slice Ao fs.length co,.slice B2 N2 d2] w' fun en w''=>en = .returned (.bool sm) ∧ Below w'.heap.size w' w''):=fun w' T Ao co h1 h2=>(fsame24_any T S fs os Ao fs.length co B2 N2 d2 rfl hN2 w' h1 h2).mono (by
  rintro e w'' ⟨h1,h2⟩
  exact ⟨h1.is hsm,h2⟩)
 have HSR : Hid (∀ w',RdIn w' S (.sl FlTy) fs [.slice B N d] → RdIn w' S (.sl FlTy) os [.slice B2 N2 d2] → Calls Try.prog 18 #[.slice B N d,.slice B2 N2 d2] w' fun en w''=>en = .returned (.bool sm) ∧ Below w'.heap.size w' w''):=fun w' h1 h2=>(rsame24_any S S fs os B N d B2 N2 d2 hN hN2 w' h1 h2).mono (by
  rintro e w'' ⟨h1,h2⟩
  exact ⟨h1.is hsm,h2⟩)
 clear hsm
 have HZ8 : Hid (fs.length * 128 ≤ 140737488355328):=by
  obtain ⟨_,_,_,_,h1,_⟩:=viewF hr
  exact h1
 have HNL:=Lib.hid hN
 obtain ⟨r1,hr1⟩ : ∃ z,z = addP x fs n ki a y bs q:=⟨_,rfl⟩
 obtain ⟨r2,hr2'⟩ : ∃ z,z = goP x fs gn gb sv q dat:=⟨_,rfl⟩
 obtain ⟨r3,hr3⟩ : ∃ z,z = mayP x fs gn gb:=⟨_,rfl⟩
 have HL1 : Hid (r1.1.length * 128 ≤ 140737488355328):=by show _ ≤ _;rw [hr1];exact addP_len
 have HL2 : Hid (r2.1.length * 128 ≤ 140737488355328):=by show _ ≤ _;rw [hr2'];exact goP_len
 rw [← hr1] at HADR HADP
 rw [← hr2'] at HGOP HGOR
 rw [← hr3] at HMAP HMAR
 clear hr1 hr2' hr3 hN hN2 hn hgb hq
 obtain ⟨id,m',c,r,l,h⟩:=x
 unfold Cfg.val at *
 dsimp only at *
 have C0:=BoxOf.alloc (BoxOf.alloc (BoxOf.new w #[.int .u32 (id : Int),.int .i64 m',.int .i64 c,.int .i64 r,.int .i64 l,.int .i64 h] 24) (.cells #[.int .u8 ((ki.toNat : Nat) : Int),.int .i64 a,.int .i64 y,.slice D bs.length dq] 28)) (.cells #[.int .i64 gn,.int .i64 gb,.int .u8 ((sv.toNat : Nat) : Int),.int .u32 (q : Int),.slice E dat.length de] 30)
 have A0:=BoxOf.alloc (BoxOf.new' (w.alloc (.cells #[.int .u32 (id : Int),.int .i64 m',.int .i64 c,.int .i64 r,.int .i64 l,.int .i64 h] 24)) (w.heap.size + 1) #[.int .u8 ((ki.toNat : Nat) : Int),.int .i64 a,.int .i64 y,.slice D bs.length dq] 28 (by simp)) (.cells #[.int .i64 gn,.int .i64 gb,.int .u8 ((sv.toNat : Nat) : Int),.int .u32 (q : Int),.slice E dat.length de] 30)
 have G0:=BoxOf.new' ((w.alloc (.cells #[.int .u32 (id : Int),.int .i64 m',.int .i64 c,.int .i64 r,.int .i64 l,.int .i64 h] 24)).alloc (.cells #[.int .u8 ((ki.toNat : Nat) : Int),.int .i64 a,.int .i64 y,.slice D bs.length dq] 28)) (w.heap.size + 2) #[.int .i64 gn,.int .i64 gb,.int .u8 ((sv.toNat : Nat) : Int),.int .u32 (q : Int),.slice E dat.length de] 30 (by simp)
 have t0:=Ext.alloc (Ext.alloc (Ext.alloc (Below.refl w.heap.size w) (.cells #[.int .u32 (id : Int),.int .i64 m',.int .i64 c,.int .i64 r,.int .i64 l,.int .i64 h] 24)) (.cells #[.int .u8 ((ki.toNat : Nat) : Int),.int .i64 a,.int .i64 y,.slice D bs.length dq] 28)) (.cells #[.int .i64 gn,.int .i64 gb,.int .u8 ((sv.toNat : Nat) : Int),.int .u32 (q : Int),.slice E dat.length de] 30)
 have HR:=Lib.hid (hr.below t0)
 have HR2:=Lib.hid (hr2.below t0)
 have HD:=Lib.hid (hd.below t0)
 have HDD:=Lib.hid (hdd.below t0)
 clear hr hr2 hd hdd
 go_enter Try.func3,Try.ntmps3
 go_upto_region 1 with fail
 obtain ⟨gG,hgG⟩ : ∃ z : Nat,z = w.heap.size + 1 + 1:=⟨_,rfl⟩
 rw [← hgG] at G0
 rw [← hgG]
 obtain ⟨gA,hgA⟩ : ∃ z : Nat,z = w.heap.size + 1:=⟨_,rfl⟩
 rw [← hgA] at A0
 rw [← hgA]
 have HGA:=Lib.hid hgA
 have HGG:=Lib.hid hgG
 clear hgA hgG
 generalize ((w.alloc (.cells #[.int .u32 (id : Int),.int .i64 m',.int .i64 c,.int .i64 r,.int .i64 l,.int .i64 h] 24)).alloc (.cells #[.int .u8 ((ki.toNat : Nat) : Int),.int .i64 a,.int .i64 y,.slice D bs.length dq] 28)).alloc (.cells #[.int .i64 gn,.int .i64 gb,.int .u8 ((sv.toNat : Nat) : Int),.int .u32 (q : Int),.slice E dat.length de] 30) = W at *
 go_wp2_with fail
 refine (HG1.out _ HR.out).mono ?_
 rintro e w1 ⟨⟨g1,rfl⟩,b1⟩
 have t1:=Ext.trans t0 b1
 have C1:=C0.next b1
 have A1:=A0.next b1
 have G1:=G0.next b1
 have HR1:=Lib.hid (HR.out.below b1)
 have HR21:=Lib.hid (HR2.out.below b1)
 have HD1:=Lib.hid (HD.out.below b1)
 have HDD1:=Lib.hid (HDD.out.below b1)
 have t1s:=t1.size
 clear HR HR2 HD HDD C0 A0 G0 t0 b1 HG1
 cases g1 with
 | true=>
   have x1:=A1.cell
   have y1:=G1.cell
   go_wp2
   go_ret
   exact ⟨rfl,t1⟩
 | false=>
 go_wp2_with fail
 refine (HG2.out _ HR21.out).mono ?_
 rintro e w2 ⟨⟨g2,rfl⟩,b2⟩
 have t2:=Ext.trans t1 b2
 have C2:=C1.next b2
 have A2:=A1.next b2
 have G2:=G1.next b2
 have HR:=Lib.hid (HR1.out.below b2)
 have HR2:=Lib.hid (HR21.out.below b2)
 have HD:=Lib.hid (HD1.out.below b2)
 have HDD:=Lib.hid (HDD1.out.below b2)
 clear HR1 HR21 HD1 HDD1 C1 A1 G1 t1 t1s b2 HG2
 cases g2 with
 | true=>
   go_wp2
   go_ret
   exact ⟨rfl,t2⟩
 | false=>
 have x2:=A2.cell
 have y2:=G2.cell
 rcases Bool.eq_false_or_eq_true (decide ((5000 : Int) < (bs.length : Int))) with e1 | e1
 · go_wp2
   go_ret
   exact ⟨rfl,t2⟩
 rcases Bool.eq_false_or_eq_true (decide ((1000 : Int) < (dat.length : Int))) with e2 | e2
 · go_wp2
   go_ret
   exact ⟨rfl,t2⟩
 go_upto_region 3 with fail
 clear x2 y2 e1 e2
 have HT2:=Lib.hid t2
 have HC2:=Lib.hid C2
 have HG2:=Lib.hid G2
 clear t2 C2 G2
 go_cut [13,14] (fun s13 s14 wx=>AdMid w2 fs ki a y bs s13 s14 wx)
 case first=>
  as_aux_lemma=>
  have AD:=A2.drew
  refine wp_region_G (S:=fun w'=>∀ o,w'.cell? ⟨gA,o,none⟩ = (#[.int .u8 ((ki.toNat : Nat) : Int),.int .i64 a,.int .i64 y,.slice D bs.length dq] : Array Value).toList[o]?) (by kernel_rfl) AD.cell (fun hS=>?_)
  have bd:=Ext.drew (Below.refl w2.heap.size w2)
  have HRd:=HR.out.below bd
  have HDd:=HD.out.below bd
  generalize w2.drew = wd at *
  refine wpAnyG.take (i:=0) (o:=_) (v:=?_) rfl (by kernel_rfl) (by kernel_rfl) (by kernel_rfl) (fun _ _ _ h=>h) (Or.inl ⟨by rfl,?_⟩) hS ?_
  rotate_left
  · (intro w hSw;(try dsimp only at hSw);go_simp;(try with_reducible rfl))
  rotate_left
  simp only [Act.put,zq0,zq1,zq2,zq3,zq4,zq5]
  refine wpAnyG.take (i:=2) (o:=_) (v:=?_) rfl (by kernel_rfl) (by kernel_rfl) (by kernel_rfl) (fun _ _ _ h=>h) (Or.inl ⟨by rfl,?_⟩) hS ?_
  rotate_left
  · (intro w hSw;(try dsimp only at hSw);go_simp;(try with_reducible rfl))
  rotate_left
  simp only [Act.put,zq0,zq1,zq2,zq3,zq4,zq5]
  refine wpAnyG.loose [1,3] [4] [(1,47),(3,49),(4,14)] (AdR fs ki a y bs) (by kernel_rfl) (fun w' hb=>(AD.next hb).cell) (loose_cons ?_ (loose_cons ?_ (loose_cons ?_ loose_nil))) ?_
  · refine LooseAt.mk _ 47 rfl rfl (by kernel_rfl) (by kernel_rfl) (fun w4 bb K hK=>?_) AdR.keep
    go_simp
    refine (HTW.out w4 (HRd.below bb)).mono ?_
    rintro e w5 ⟨⟨v5,rfl,fn5⟩,b5⟩
    exact hK.out v5 _ b5 fn5
  · refine LooseAt.mk _ 49 rfl rfl (by kernel_rfl) (by kernel_rfl) (fun w4 bb K hK=>?_) AdR.keep
    go_simp
    refine (HAS.out w4 (HDd.below bb)).mono ?_
    rintro e w5 ⟨A4,c4,rfl,rd4,b5⟩
    exact hK.out (.agg #[.int .u8 ((ki.toNat : Nat) : Int),.int .i64 a,.int .i64 y,.slice A4 bs.length c4]) _ b5 ⟨A4,c4,rfl,rd4.mono fun b hb=>⟨hb.1,hb.2.1⟩⟩
  · refine LooseAt.mk _ 14 rfl rfl (by kernel_rfl) (by kernel_rfl) (fun w4 bb K hK=>?_) AdR.keep
    go_simp
    exact hK.out (.pointer (some ⟨w4.heap.size,0,none⟩)) _ (Ext.alloc (Below.refl _ _) _) ⟨w4.heap.size,rfl,BoxOf.new w4 #[.int .u8 0,.int .i64 0,.int .i64 0,.slice none 0 0] 28,Nat.le_refl _,BoxOf.lt (BoxOf.new w4 #[.int .u8 0,.int .i64 0,.int .i64 0,.slice none 0 0] 28)⟩
  intro done f lo hi w5 hc hb hR hD fuel hf
  have d1:=hc 1 (by decide)
  have d3:=hc 3 (by decide)
  obtain ⟨OW,l1,m1,n1⟩:=hR 1 (by decide) d1
  obtain ⟨⟨A4,c4,e3,RD⟩,l3,m3,n3⟩:=hR 3 (by decide) d3
  obtain ⟨Ao,co,e1⟩:=OwnE.slice OW
  rw [e1] at OW
  have D14:=fun h=>hD 1 (by decide) 4 (by decide) (by decide) d1 h
  have D34:=fun h=>hD 3 (by decide) 4 (by decide) (by decide) d3 h
  have R4:=hR 4 (by decide)
  obtain ⟨p1,hp1⟩ : ∃ z,z = lo 1:=⟨_,rfl⟩
  obtain ⟨u1,hu1⟩ : ∃ z,z = hi 1:=⟨_,rfl⟩
  rw [← hp1] at OW l1 m1 D14
  rw [← hu1] at OW m1 n1 D14
  obtain ⟨p3,hp3⟩ : ∃ z,z = lo 3:=⟨_,rfl⟩
  obtain ⟨u3,hu3⟩ : ∃ z,z = hi 3:=⟨_,rfl⟩
  rw [← hp3] at RD l3 m3 D34
  rw [← hu3] at RD m3 n3 D34
  have AD5:=AD.next hb
  have hS:=AD5.cell
  cases hd4 : done 4 with
  | false=>
    have hfu : fuel = 3:=by
     simp [d1,d3,hd4] at hf
     omega
    subst hfu
    simp only [looseL,looseP,List.foldl_cons,List.foldl_nil,List.cons_append,List.nil_append,d1,d3,hd4,if_true,if_false,Bool.false_eq_true,e1,e3]
    clear hR hD hf hc e1 e3 d1 d3 hd4 D14 D34 R4 hp1 hu1 hp3 hu3
    try simp only [Act.put,zq0,zq1,zq2,zq3,zq4,zq5]
    refine wpAnyG.next (rs:=[4]) (by kernel_rfl) (by simp) ?_
    refine NextG.cons rfl (fun K hK=>?_) NextG.nil
    rw [if_pos (by rfl)]
    go_simp
    have bb:=Ext.alloc (Below.refl w5.heap.size w5) (.cells #[.int .u8 0,.int .i64 0,.int .i64 0,.slice none 0 0] 28)
    have BI:=BoxOf.new w5 #[.int .u8 0,.int .i64 0,.int .i64 0,.slice none 0 0] 28
    have AD6:=AD5.next bb
    obtain ⟨gI,hgI⟩ : ∃ z : Nat,z = w5.heap.size:=⟨_,rfl⟩
    have HGW : Hid (wd.heap.size ≤ gI):=by have:=hb.size;show _ ≤ _;omega
    have HGB : Hid (∀ b,Iv p3 u3 b → b ≠ gI):=fun b hb9=>by have h1:=hb9.2;omega
    have HGF : Hid (∀ b,Iv p1 u1 b → b ≠ gI):=fun b hb9=>by have h1:=hb9.2;omega
    have RDa:=RD.below bb
    have OWa : OwnE flE (w5.alloc (.cells #[.int .u8 0,.int .i64 0,.int .i64 0,.slice none 0 0] 28)) (Iv p1 u1) p1 67 (.slice Ao fs.length co) fs:=OW.next (fun b hb'=>Nat.lt_of_lt_of_le hb'.2 n1) bb
    have n1a:=Nat.le_trans n1 bb.size
    have n3a:=Nat.le_trans n3 bb.size
    have bv:=Ext.trans hb bb
    rw [← hgI] at BI ⊢
    refine hK.out _ _ (fun _=>AD6.cell) (fun hS'=>?_)
    clear hK K hS hS' RD OW n1 n3 AD5 hb l1 l3 m1 m3 hgI bb
    have hS:=AD6.cell
    have RD:=RDa
    have OW:=OWa
    have n1:=n1a
    have n3:=n3a
    have AD5:=AD6
    have hb:=True.intro
    clear RDa OWa n1a n3a AD6
    try simp only [Act.put,zq0,zq1,zq2,zq3,zq4,zq5]
    generalize w5.alloc (.cells #[.int .u8 0,.int .i64 0,.int .i64 0,.slice none 0 0] 28) = w6 at *
    refine wpAnyG.take (i:=5) (o:=_) (v:=?_) rfl (by kernel_rfl) (by kernel_rfl) (by kernel_rfl) (fun _ _ _ h=>h) (Or.inl ⟨by rfl,?_⟩) hS ?_
    rotate_left
    · (intro w hSw;(try dsimp only at hSw);go_simp;(try with_reducible rfl))
    rotate_left
    simp only [Act.put,zq0,zq1,zq2,zq3,zq4,zq5]
    refine wpAnyG.next (rs:=[6]) (by kernel_rfl) (by simp) ?_
    refine NextG.last rfl (by kernel_rfl) (fun K hK=>?_) NextG.nil
    rw [if_pos (by rfl)]
    refine wp_store_row 28 (.tmp 14) (.tmp 49) rfl gI #[.int .u8 ((ki.toNat : Nat) : Int),.int .i64 a,.int .i64 y,.slice A4 bs.length c4] rfl rfl 28 #[.int .u8 0,.int .i64 0,.int .i64 0,.slice none 0 0] BI (by kernel_rfl) rfl (by rw [← Array.all_toList];rfl) ?_
    have BI6:=BI.set #[.int .u8 ((ki.toNat : Nat) : Int),.int .i64 a,.int .i64 y,.slice A4 bs.length c4]
    have RD6 : RdIn ((w6).setRow gI #[.int .u8 ((ki.toNat : Nat) : Int),.int .i64 a,.int .i64 y,.slice A4 bs.length c4]) (fun b=>b < ((w6).setRow gI #[.int .u8 ((ki.toNat : Nat) : Int),.int .i64 a,.int .i64 y,.slice A4 bs.length c4]).heap.size) (.sl .byte) bs [.slice A4 bs.length c4]:=(RD.frame fun b hb=>setRow_other _ _ _ _ (HGB.out b hb)).mono fun b hb=>by rw [setRow_size];exact Nat.lt_of_lt_of_le hb.2 n3
    have OW6 : OwnE flE ((w6).setRow gI #[.int .u8 ((ki.toNat : Nat) : Int),.int .i64 a,.int .i64 y,.slice A4 bs.length c4]) (Iv p1 u1) p1 67 (.slice Ao fs.length co) fs:=OW.frame fun b hb=>setRow_other _ _ _ _ (HGF.out b hb)
    have bw6:=Ext.setRow bv HGW.out #[.int .u8 ((ki.toNat : Nat) : Int),.int .i64 a,.int .i64 y,.slice A4 bs.length c4]
    have hsz : ((w6).setRow gI #[.int .u8 ((ki.toNat : Nat) : Int),.int .i64 a,.int .i64 y,.slice A4 bs.length c4]).heap.size = (w6).heap.size:=setRow_size _ _ _
    refine hK.out _ _ ?_
    clear hK K hS
    try simp only [Act.put,zq0,zq1,zq2,zq3,zq4,zq5]
    generalize (w6).setRow gI #[.int .u8 ((ki.toNat : Nat) : Int),.int .i64 a,.int .i64 y,.slice A4 bs.length c4] = vw at *
    refine wpAnyG.done (by kernel_rfl) ?_ _
    have HX9 : Hid (AdMid w2 fs ki a y bs (.slice Ao fs.length co) (.pointer (some ⟨gI,0,none⟩)) vw):=⟨Ao,co,gI,A4,c4,rfl,rfl,BI6,(OwnE.fl_rd (lo:=p1) (OW6.mono fun b hb=>⟨hb.1,by rw [hsz];exact Nat.lt_of_lt_of_le hb.2 n1⟩) HZ8.out).mono fun b hb=>hb.2.1,RD6,Ext.trans bd bw6⟩
    clear BI6 RD6 OW6 bw6 BI RD OW AD5 bv hb bd n1 n3 hsz
    go_wp2_with fail
    go_meet
    exact HX9.out
  | true=>
    have hfu : fuel = 2:=by
     simp [d1,d3,hd4] at hf
     omega
    subst hfu
    obtain ⟨⟨gI,e4,BI,k4,k4'⟩,l4,m4,n4⟩:=R4 hd4
    have D14':=D14 hd4
    have D34':=D34 hd4
    simp only [looseL,looseP,List.foldl_cons,List.foldl_nil,List.cons_append,List.nil_append,d1,d3,hd4,if_true,if_false,Bool.false_eq_true,e1,e3,e4]
    have HGW : Hid (wd.heap.size ≤ gI):=by show _ ≤ _;omega
    have HGB : Hid (∀ b,Iv p3 u3 b → b ≠ gI):=fun b hb9=>by have h1:=hb9.1;have h2:=hb9.2;omega
    have HGF : Hid (∀ b,Iv p1 u1 b → b ≠ gI):=fun b hb9=>by have h1:=hb9.1;have h2:=hb9.2;omega
    clear hR hD hf hc e1 e3 e4 d1 d3 hd4 D14 D34 D14' D34' R4 hp1 hu1 hp3 hu3 k4 k4' l4 m4 n4 l1 m1 l3 m3
    try simp only [Act.put,zq0,zq1,zq2,zq3,zq4,zq5]
    have bv:=hb
    refine wpAnyG.take (i:=5) (o:=_) (v:=?_) rfl (by kernel_rfl) (by kernel_rfl) (by kernel_rfl) (fun _ _ _ h=>h) (Or.inl ⟨by rfl,?_⟩) hS ?_
    rotate_left
    · (intro w hSw;(try dsimp only at hSw);go_simp;(try with_reducible rfl))
    rotate_left
    simp only [Act.put,zq0,zq1,zq2,zq3,zq4,zq5]
    refine wpAnyG.next (rs:=[6]) (by kernel_rfl) (by simp) ?_
    refine NextG.last rfl (by kernel_rfl) (fun K hK=>?_) NextG.nil
    rw [if_pos (by rfl)]
    refine wp_store_row 28 (.tmp 14) (.tmp 49) rfl gI #[.int .u8 ((ki.toNat : Nat) : Int),.int .i64 a,.int .i64 y,.slice A4 bs.length c4] rfl rfl 28 #[.int .u8 0,.int .i64 0,.int .i64 0,.slice none 0 0] BI (by kernel_rfl) rfl (by rw [← Array.all_toList];rfl) ?_
    have BI6:=BI.set #[.int .u8 ((ki.toNat : Nat) : Int),.int .i64 a,.int .i64 y,.slice A4 bs.length c4]
    have RD6 : RdIn ((w5).setRow gI #[.int .u8 ((ki.toNat : Nat) : Int),.int .i64 a,.int .i64 y,.slice A4 bs.length c4]) (fun b=>b < ((w5).setRow gI #[.int .u8 ((ki.toNat : Nat) : Int),.int .i64 a,.int .i64 y,.slice A4 bs.length c4]).heap.size) (.sl .byte) bs [.slice A4 bs.length c4]:=(RD.frame fun b hb=>setRow_other _ _ _ _ (HGB.out b hb)).mono fun b hb=>by rw [setRow_size];exact Nat.lt_of_lt_of_le hb.2 n3
    have OW6 : OwnE flE ((w5).setRow gI #[.int .u8 ((ki.toNat : Nat) : Int),.int .i64 a,.int .i64 y,.slice A4 bs.length c4]) (Iv p1 u1) p1 67 (.slice Ao fs.length co) fs:=OW.frame fun b hb=>setRow_other _ _ _ _ (HGF.out b hb)
    have bw6:=Ext.setRow bv HGW.out #[.int .u8 ((ki.toNat : Nat) : Int),.int .i64 a,.int .i64 y,.slice A4 bs.length c4]
    have hsz : ((w5).setRow gI #[.int .u8 ((ki.toNat : Nat) : Int),.int .i64 a,.int .i64 y,.slice A4 bs.length c4]).heap.size = (w5).heap.size:=setRow_size _ _ _
    refine hK.out _ _ ?_
    clear hK K hS
    try simp only [Act.put,zq0,zq1,zq2,zq3,zq4,zq5]
    generalize (w5).setRow gI #[.int .u8 ((ki.toNat : Nat) : Int),.int .i64 a,.int .i64 y,.slice A4 bs.length c4] = vw at *
    refine wpAnyG.done (by kernel_rfl) ?_ _
    have HX9 : Hid (AdMid w2 fs ki a y bs (.slice Ao fs.length co) (.pointer (some ⟨gI,0,none⟩)) vw):=⟨Ao,co,gI,A4,c4,rfl,rfl,BI6,(OwnE.fl_rd (lo:=p1) (OW6.mono fun b hb=>⟨hb.1,by rw [hsz];exact Nat.lt_of_lt_of_le hb.2 n1⟩) HZ8.out).mono fun b hb=>hb.2.1,RD6,Ext.trans bd bw6⟩
    clear BI6 RD6 OW6 bw6 BI RD OW AD5 bv hb bd n1 n3 hsz
    go_wp2_with fail
    go_meet
    exact HX9.out
 case rest=>
 as_aux_lemma=>
 obtain ⟨Ao,co,gI,A4,c4,rfl,rfl,BI,RO,RI,bc⟩:=hcut
 generalize wc = wA at *
 have hwA:=bc.size
 have HTA:=Lib.hid (Ext.trans HT2.out bc)
 have hw2:=HT2.out.size
 have HGI : Hid (gI < wA.heap.size):=BI.lt
 have HK0 : Hid (∀ b,S b → b < wA.heap.size):=fun b hb=>Nat.lt_of_lt_of_le (HSS.out b hb) (Nat.le_trans hw2 hwA)
 have AA:=A2.next bc
 have CA:=HC2.out.next bc
 have GA:=HG2.out.next bc
 have HRO : Hid (∀ w',Below wA.heap.size wA w' → RdIn w' (fun b=>b < wA.heap.size) (.sl FlTy) fs [.slice Ao fs.length co]):=fun w' hb=>RO.below hb
 have HRI : Hid (∀ w',Below wA.heap.size wA w' → RdIn w' (fun b=>b < wA.heap.size) (.sl .byte) bs [.slice A4 bs.length c4]):=fun w' hb=>RI.below hb
 have HRl : Hid (∀ w',Below wA.heap.size wA w' → RdIn w' S (.sl FlTy) fs [.slice B N d]):=fun w' hb=>(HR.out.below bc).below hb
 have HRo : Hid (∀ w',Below wA.heap.size wA w' → RdIn w' S (.sl FlTy) os [.slice B2 N2 d2]):=fun w' hb=>(HR2.out.below bc).below hb
 have HRa : Hid (∀ w',Below wA.heap.size wA w' → RdIn w' S (.sl .byte) bs [.slice D bs.length dq]):=fun w' hb=>(HD.out.below bc).below hb
 have HRg : Hid (∀ w',Below wA.heap.size wA w' → RdIn w' S (.sl .byte) dat [.slice E dat.length de]):=fun w' hb=>(HDD.out.below bc).below hb
 have HBC : Hid (∀ w',Below wA.heap.size wA w' → BoxOf w' w.heap.size #[.int .u32 (id : Int),.int .i64 m',.int .i64 c,.int .i64 r,.int .i64 l,.int .i64 h] 24):=fun w' hb=>CA.next hb
 have HBA : Hid (∀ w',Below wA.heap.size wA w' → BoxOf w' gA #[.int .u8 ((ki.toNat : Nat) : Int),.int .i64 a,.int .i64 y,.slice D bs.length dq] 28):=fun w' hb=>AA.next hb
 have HBG : Hid (∀ w',Below wA.heap.size wA w' → BoxOf w' gG #[.int .i64 gn,.int .i64 gb,.int .u8 ((sv.toNat : Nat) : Int),.int .u32 (q : Int),.slice E dat.length de] 30):=fun w' hb=>GA.next hb
 have HBI : Hid (∀ w',Below wA.heap.size wA w' → BoxOf w' gI #[.int .u8 ((ki.toNat : Nat) : Int),.int .i64 a,.int .i64 y,.slice A4 bs.length c4] 28):=fun w' hb=>BI.next hb
 have HGA9 : Hid (gA < wA.heap.size):=AA.lt
 have HGC9 : Hid (w.heap.size < wA.heap.size):=CA.lt
 have xC:=CA.cell
 have xG:=GA.cell
 have xI:=BI.cell
 have xA:=AA.cell
 clear bc HR HR2 HD HDD HT2 HC2 HG2 hwA hw2 A2 RO RI HTW HAS
 go_wp2_with fail
 refine (HADP.out wA _ Ao co A4 c4 (HRO.out _ (Below.refl _ _)) (HRI.out _ (Below.refl _ _))).mono ?_
 rintro e w4 ⟨⟨Ax,cx,rfl,fx⟩,b4⟩
 have t4 : Below wA.heap.size wA w4:=b4
 have H4A : Hid (wA.heap.size ≤ w4.heap.size):=b4.size
 have HX : Hid (∀ w',Below w4.heap.size w4 w' → RdIn w' (InL w' wA.heap.size w4.heap.size) (.sl FlTy) r1.1 [.slice Ax r1.1.length cx]):=fun w' hb=>new_shp fx HL1.out hb
 clear xC xG xI xA fx b4
 have xC:=(HBC.out _ t4).cell
 have xA:=(HBA.out _ t4).cell
 have xG:=(HBG.out _ t4).cell
 go_wp2_with fail
 refine (HADR.out w4 (HRl.out _ t4) (HRa.out _ t4)).mono ?_
 rintro e w5 ⟨⟨Ay,cy,rfl,ry⟩,b5⟩
 have t5:=Ext.trans t4 b5
 have c5 : Below w4.heap.size w4 w5:=b5
 have HY : Hid (∀ w',Below w5.heap.size w5 w' → RdIn w' (fun _=>True) (.sl FlTy) r1.1 [.slice Ay r1.1.length cy]):=fun w' hb=>ry.below hb
 clear xC xA xG ry b5
 have xC:=(HBC.out _ t5).cell
 have xG:=(HBG.out _ t5).cell
 go_wp2_with fail
 refine (HMAP.out w5 _ Ao co (HRO.out _ t5)).mono ?_
 rintro e w6 ⟨rfl,b6⟩
 have t6:=Ext.trans t5 b6
 have c6:=Ext.trans c5 b6
 have d6 : Below w5.heap.size w5 w6:=b6
 clear xC xG b6
 have xC:=(HBC.out _ t6).cell
 have xG:=(HBG.out _ t6).cell
 go_wp2_with fail
 refine (HMAR.out w6 (HRl.out _ t6)).mono ?_
 rintro e w7 ⟨rfl,b7⟩
 have t7:=Ext.trans t6 b7
 have c7:=Ext.trans c6 b7
 have d7:=Ext.trans d6 b7
 clear xC xG b7
 have xC:=(HBC.out _ t7).cell
 have xG:=(HBG.out _ t7).cell
 go_wp2_with fail
 refine (HGOP.out w7 (fun b=>b < wA.heap.size) Ao co (HRO.out _ t7) ((HRg.out _ t7).mono HK0.out)).mono ?_
 rintro e w8 ⟨⟨Au,cu,rfl,fu⟩,b8⟩
 have t8:=Ext.trans t7 b8
 have c8:=Ext.trans c7 b8
 have d8:=Ext.trans d7 b8
 have HU : Hid (∀ w',Below w8.heap.size w8 w' → RdIn w' (InL w' w7.heap.size w8.heap.size) (.sl FlTy) r2.1 [.slice Au r2.1.length cu]):=fun w' hb=>new_shp fu HL2.out hb
 have HXU : Hid (w4.heap.size ≤ w7.heap.size):=c7.size
 have HU78 : Hid (w7.heap.size ≤ w8.heap.size):=b8.size
 clear xC xG fu b8
 have xC:=(HBC.out _ t8).cell
 have xG:=(HBG.out _ t8).cell
 go_wp2_with fail
 refine (HGOR.out w8 (HRl.out _ t8) (HRg.out _ t8)).mono ?_
 rintro e w9 ⟨⟨Av,cv,rfl,rv⟩,b9⟩
 have t9:=Ext.trans t8 b9
 have c9:=Ext.trans c8 b9
 have d9:=Ext.trans d8 b9
 have e9 : Below w8.heap.size w8 w9:=b9
 have HV : Hid (∀ w',Below w9.heap.size w9 w' → RdIn w' (fun _=>True) (.sl FlTy) r2.1 [.slice Av r2.1.length cv]):=fun w' hb=>rv.below hb
 clear xC xG rv b9
 go_wp2_with fail
 refine (HTWP.out w9 _ Ao co (HRO.out _ t9)).mono ?_
 rintro e w10 ⟨⟨vw,rfl,fw⟩,b10⟩
 obtain ⟨Aw,cw,ew⟩:=OwnE.slice fw
 subst ew
 have t10:=Ext.trans t9 b10
 have c10:=Ext.trans c9 b10
 have d10:=Ext.trans d9 b10
 have e10:=Ext.trans e9 b10
 have f10 : Below w9.heap.size w9 w10:=b10
 have HW : Hid (∀ w',Below w10.heap.size w10 w' → RdIn w' (InL w' w9.heap.size w10.heap.size) (.sl FlTy) fs [.slice Aw fs.length cw]):=fun w' hb=>new_shp fw HZ8.out hb
 have HUW : Hid (w8.heap.size ≤ w9.heap.size):=e9.size
 clear fw b10 HADR HADP HMAP HMAR HGOP HGOR HTWP t4 t5 t6 t7 t8 t9 c5 c6 c7 c8 c9 d6 d7 d8 d9 e9
 go_upto_region 11 with fail
 go_cut [177] (fun s177 wx=>s177 = .bool false ∧ Below w10.heap.size w10 wx)
 case first=>
  as_aux_lemma=>
  have gv:=Ext.drew (Below.refl w10.heap.size w10)
  refine wp_region_G (S:=fun w'=>∀ o,w'.cell? ⟨w.heap.size,o,none⟩ = (#[.int .u32 (id : Int),.int .i64 m',.int .i64 c,.int .i64 r,.int .i64 l,.int .i64 h] : Array Value).toList[o]?) (by kernel_rfl) (HBC.out _ (Ext.trans t10 gv)).cell (fun hS=>?_)
  generalize w10.drew = vd at *
  refine wpAnyG.take (i:=0) (o:=_) (v:=?_) rfl (by kernel_rfl) (by kernel_rfl) (by kernel_rfl) (fun _ _ _ h=>h) (Or.inl ⟨by rfl,?_⟩) hS ?_
  rotate_left
  · (intro w hSw;(try dsimp only at hSw);go_simp;(try with_reducible rfl))
  rotate_left
  simp only [Act.put,zq0,zq1,zq2,zq3,zq4,zq5]
  refine wpAnyG.take (i:=1) (o:=_) (v:=?_) rfl (by kernel_rfl) (by kernel_rfl) (by kernel_rfl) (fun _ _ _ h=>h) (Or.inl ⟨by rfl,?_⟩) hS ?_
  rotate_left
  · (intro w hSw;(try dsimp only at hSw);go_simp;(try with_reducible rfl))
  rotate_left
  simp only [Act.put,zq0,zq1,zq2,zq3,zq4,zq5]
  refine wpAnyG.next (rs:=[2]) (by kernel_rfl) (by simp) ?_
  refine NextG.cons rfl (fun K hK=>?_) NextG.nil
  rw [if_pos (by rfl)]
  go_simp
  refine (HSM.out _ _ _ r1.1 Ax r1.1.length cx Ay r1.1.length cy rfl rfl (HX.out _ (Ext.trans c10 gv)) (HY.out _ (Ext.trans d10 gv))).mono ?_
  rintro e v3 ⟨rfl,k3⟩
  have g9:=Ext.trans gv k3
  refine hK.out _ _ (fun _=>(HBC.out _ (Ext.trans t10 g9)).cell) (fun hS'=>?_)
  clear hK K hS k3 gv
  have hS:=hS' (by kernel_rfl)
  have gv:=g9
  clear hS' g9
  try simp only [Act.put,zq0,zq1,zq2,zq3,zq4,zq5]
  refine wpAnyG.take (i:=3) (o:=_) (v:=?_) rfl (by kernel_rfl) (by kernel_rfl) (by kernel_rfl) (fun _ _ _ h=>h) (Or.inl ⟨by rfl,?_⟩) hS ?_
  rotate_left
  · (intro w hSw;(try dsimp only at hSw);go_simp;(try with_reducible rfl))
  rotate_left
  simp only [Act.put,zq0,zq1,zq2,zq3,zq4,zq5]
  refine wpAnyG.take (i:=4) (o:=_) (v:=?_) rfl (by kernel_rfl) (by kernel_rfl) (by kernel_rfl) (fun _ _ _ h=>h) (Or.inl ⟨by rfl,?_⟩) hS ?_
  rotate_left
  · (intro w hSw;(try dsimp only at hSw);go_simp;(try with_reducible rfl))
  rotate_left
  simp only [Act.put,zq0,zq1,zq2,zq3,zq4,zq5]
  refine wpAnyG.take (i:=5) (o:=_) (v:=?_) rfl (by kernel_rfl) (by kernel_rfl) (by kernel_rfl) (fun _ _ _ h=>h) (Or.inl ⟨by rfl,?_⟩) hS ?_
  rotate_left
  · (intro w hSw;(try dsimp only at hSw);go_simp;(try with_reducible rfl))
  rotate_left
  simp only [Act.put,zq0,zq1,zq2,zq3,zq4,zq5]
  refine wpAnyG.take (i:=6) (o:=_) (v:=?_) rfl (by kernel_rfl) (by kernel_rfl) (by kernel_rfl) (fun _ _ _ h=>h) (Or.inl ⟨by rfl,?_⟩) hS ?_
  rotate_left
  · (intro w hSw;(try dsimp only at hSw);go_simp;(try with_reducible rfl))
  rotate_left
  simp only [Act.put,zq0,zq1,zq2,zq3,zq4,zq5]
  refine wpAnyG.take (i:=7) (o:=_) (v:=?_) rfl (by kernel_rfl) (by kernel_rfl) (by kernel_rfl) (fun _ _ _ h=>h) (Or.inl ⟨by rfl,?_⟩) hS ?_
  rotate_left
  · (intro w hSw;(try dsimp only at hSw);go_simp;(try with_reducible rfl))
  rotate_left
  simp only [Act.put,zq0,zq1,zq2,zq3,zq4,zq5]
  refine wpAnyG.take (i:=8) (o:=_) (v:=?_) rfl (by kernel_rfl) (by kernel_rfl) (by kernel_rfl) (fun _ _ _ h=>h) (Or.inl ⟨by rfl,?_⟩) hS ?_
  rotate_left
  · (intro w hSw;(try dsimp only at hSw);go_simp;(try with_reducible rfl))
  rotate_left
  simp only [Act.put,zq0,zq1,zq2,zq3,zq4,zq5]
  refine wpAnyG.take (i:=9) (o:=_) (v:=?_) rfl (by kernel_rfl) (by kernel_rfl) (by kernel_rfl) (fun _ _ _ h=>h) (Or.inl ⟨by rfl,?_⟩) hS ?_
  rotate_left
  · (intro w hSw;(try dsimp only at hSw);go_simp;(try with_reducible rfl))
  rotate_left
  simp only [Act.put,zq0,zq1,zq2,zq3,zq4,zq5]
  refine wpAnyG.take (i:=10) (o:=_) (v:=?_) rfl (by kernel_rfl) (by kernel_rfl) (by kernel_rfl) (fun _ _ _ h=>h) (Or.inl ⟨by rfl,?_⟩) hS ?_
  rotate_left
  · (intro w hSw;(try dsimp only at hSw);go_simp;(try with_reducible rfl))
  rotate_left
  simp only [Act.put,zq0,zq1,zq2,zq3,zq4,zq5]
  refine wpAnyG.take (i:=11) (o:=_) (v:=?_) rfl (by kernel_rfl) (by kernel_rfl) (by kernel_rfl) (fun _ _ _ h=>h) (Or.inl ⟨by rfl,?_⟩) hS ?_
  rotate_left
  · (intro w hSw;(try dsimp only at hSw);go_simp;(try with_reducible rfl))
  rotate_left
  simp only [Act.put,zq0,zq1,zq2,zq3,zq4,zq5]
  refine wpAnyG.take (i:=12) (o:=_) (v:=?_) rfl (by kernel_rfl) (by kernel_rfl) (by kernel_rfl) (fun _ _ _ h=>h) (Or.inl ⟨by rfl,?_⟩) hS ?_
  rotate_left
  · (intro w hSw;(try dsimp only at hSw);go_simp;(try with_reducible rfl))
  rotate_left
  simp only [Act.put,zq0,zq1,zq2,zq3,zq4,zq5]
  refine wpAnyG.take (i:=13) (o:=_) (v:=?_) rfl (by kernel_rfl) (by kernel_rfl) (by kernel_rfl) (fun _ _ _ h=>h) (Or.inl ⟨by rfl,?_⟩) hS ?_
  rotate_left
  · (intro w hSw;(try dsimp only at hSw);go_simp;(try with_reducible rfl))
  rotate_left
  simp only [Act.put,zq0,zq1,zq2,zq3,zq4,zq5]
  refine wpAnyG.take (i:=14) (o:=_) (v:=?_) rfl (by kernel_rfl) (by kernel_rfl) (by kernel_rfl) (fun _ _ _ h=>h) (Or.inl ⟨by rfl,?_⟩) hS ?_
  rotate_left
  · (intro w hSw;(try dsimp only at hSw);go_simp;(try with_reducible rfl))
  rotate_left
  simp only [Act.put,zq0,zq1,zq2,zq3,zq4,zq5]
  refine wpAnyG.take (i:=15) (o:=_) (v:=?_) rfl (by kernel_rfl) (by kernel_rfl) (by kernel_rfl) (fun _ _ _ h=>h) (Or.inl ⟨by rfl,?_⟩) hS ?_
  rotate_left
  · (intro w hSw;(try dsimp only at hSw);go_simp;(try with_reducible rfl))
  rotate_left
  simp only [Act.put,zq0,zq1,zq2,zq3,zq4,zq5]
  refine wpAnyG.take (i:=16) (o:=_) (v:=?_) rfl (by kernel_rfl) (by kernel_rfl) (by kernel_rfl) (fun _ _ _ h=>h) (Or.inl ⟨by rfl,?_⟩) hS ?_
  rotate_left
  · (intro w hSw;(try dsimp only at hSw);go_simp;(try with_reducible rfl))
  rotate_left
  simp only [Act.put,zq0,zq1,zq2,zq3,zq4,zq5]
  refine wpAnyG.take (i:=17) (o:=_) (v:=?_) rfl (by kernel_rfl) (by kernel_rfl) (by kernel_rfl) (fun _ _ _ h=>h) (Or.inl ⟨by rfl,?_⟩) hS ?_
  rotate_left
  · (intro w hSw;(try dsimp only at hSw);go_simp;(try with_reducible rfl))
  rotate_left
  simp only [Act.put,zq0,zq1,zq2,zq3,zq4,zq5]
  refine wpAnyG.take (i:=18) (o:=_) (v:=?_) rfl (by kernel_rfl) (by kernel_rfl) (by kernel_rfl) (fun _ _ _ h=>h) (Or.inl ⟨by rfl,?_⟩) hS ?_
  rotate_left
  · (intro w hSw;(try dsimp only at hSw);go_simp;(try with_reducible rfl))
  rotate_left
  simp only [Act.put,zq0,zq1,zq2,zq3,zq4,zq5]
  refine wpAnyG.take (i:=19) (o:=_) (v:=?_) rfl (by kernel_rfl) (by kernel_rfl) (by kernel_rfl) (fun _ _ _ h=>h) (Or.inl ⟨by rfl,?_⟩) hS ?_
  rotate_left
  · (intro w hSw;(try dsimp only at hSw);go_simp;(try with_reducible rfl))
  rotate_left
  simp only [Act.put,zq0,zq1,zq2,zq3,zq4,zq5]
  refine wpAnyG.take (i:=20) (o:=_) (v:=?_) rfl (by kernel_rfl) (by kernel_rfl) (by kernel_rfl) (fun _ _ _ h=>h) (Or.inl ⟨by rfl,?_⟩) hS ?_
  rotate_left
  · (intro w hSw;(try dsimp only at hSw);go_simp;(try with_reducible rfl))
  rotate_left
  simp only [Act.put,zq0,zq1,zq2,zq3,zq4,zq5]
  refine wpAnyG.take (i:=21) (o:=_) (v:=?_) rfl (by kernel_rfl) (by kernel_rfl) (by kernel_rfl) (fun _ _ _ h=>h) (Or.inl ⟨by rfl,?_⟩) hS ?_
  rotate_left
  · (intro w hSw;(try dsimp only at hSw);go_simp;(try with_reducible rfl))
  rotate_left
  simp only [Act.put,zq0,zq1,zq2,zq3,zq4,zq5]
  refine wpAnyG.next (rs:=[22]) (by kernel_rfl) (by simp) ?_
  refine NextG.cons rfl (fun K hK=>?_) NextG.nil
  rw [if_pos (by rfl)]
  go_simp
  refine (HSM.out _ _ _ r2.1 Au r2.1.length cu Av r2.1.length cv rfl rfl (HU.out _ (Ext.trans e10 gv)) (HV.out _ (Ext.trans f10 gv))).mono ?_
  rintro e v3 ⟨rfl,k3⟩
  have g9:=Ext.trans gv k3
  refine hK.out _ _ (fun _=>(HBC.out _ (Ext.trans t10 g9)).cell) (fun hS'=>?_)
  clear hK K hS k3 gv
  have hS:=hS' (by kernel_rfl)
  have gv:=g9
  clear hS' g9
  try simp only [Act.put,zq0,zq1,zq2,zq3,zq4,zq5]
  refine wpAnyG.take (i:=23) (o:=_) (v:=?_) rfl (by kernel_rfl) (by kernel_rfl) (by kernel_rfl) (fun _ _ _ h=>h) (Or.inl ⟨by rfl,?_⟩) hS ?_
  rotate_left
  · (intro w hSw;(try dsimp only at hSw);go_simp;(try with_reducible rfl))
  rotate_left
  simp only [Act.put,zq0,zq1,zq2,zq3,zq4,zq5]
  refine wpAnyG.take (i:=24) (o:=_) (v:=?_) rfl (by kernel_rfl) (by kernel_rfl) (by kernel_rfl) (fun _ _ _ h=>h) (Or.inl ⟨by rfl,?_⟩) hS ?_
  rotate_left
  · (intro w hSw;(try dsimp only at hSw);go_simp;(try with_reducible rfl))
  rotate_left
  simp only [Act.put,zq0,zq1,zq2,zq3,zq4,zq5]
  refine wpAnyG.take (i:=25) (o:=_) (v:=?_) rfl (by kernel_rfl) (by kernel_rfl) (by kernel_rfl) (fun _ _ _ h=>h) (Or.inl ⟨by rfl,?_⟩) hS ?_
  rotate_left
  · (intro w hSw;(try dsimp only at hSw);go_simp;(try with_reducible rfl))
  rotate_left
  simp only [Act.put,zq0,zq1,zq2,zq3,zq4,zq5]
  refine wpAnyG.take (i:=26) (o:=_) (v:=?_) rfl (by kernel_rfl) (by kernel_rfl) (by kernel_rfl) (fun _ _ _ h=>h) (Or.inl ⟨by rfl,?_⟩) hS ?_
  rotate_left
  · (intro w hSw;(try dsimp only at hSw);go_simp;(try with_reducible rfl))
  rotate_left
  simp only [Act.put,zq0,zq1,zq2,zq3,zq4,zq5]
  refine wpAnyG.take (i:=27) (o:=_) (v:=?_) rfl (by kernel_rfl) (by kernel_rfl) (by kernel_rfl) (fun _ _ _ h=>h) (Or.inl ⟨by rfl,?_⟩) hS ?_
  rotate_left
  · (intro w hSw;(try dsimp only at hSw);go_simp;(try with_reducible rfl))
  rotate_left
  simp only [Act.put,zq0,zq1,zq2,zq3,zq4,zq5]
  refine wpAnyG.take (i:=28) (o:=_) (v:=?_) rfl (by kernel_rfl) (by kernel_rfl) (by kernel_rfl) (fun _ _ _ h=>h) (Or.inl ⟨by rfl,?_⟩) hS ?_
  rotate_left
  · (intro w hSw;(try dsimp only at hSw);go_simp;(try with_reducible rfl))
  rotate_left
  simp only [Act.put,zq0,zq1,zq2,zq3,zq4,zq5]
  refine wpAnyG.take (i:=29) (o:=_) (v:=?_) rfl (by kernel_rfl) (by kernel_rfl) (by kernel_rfl) (fun _ _ _ h=>h) (Or.inl ⟨by rfl,?_⟩) hS ?_
  rotate_left
  · (intro w hSw;(try dsimp only at hSw);go_simp;(try with_reducible rfl))
  rotate_left
  simp only [Act.put,zq0,zq1,zq2,zq3,zq4,zq5]
  refine wpAnyG.take (i:=30) (o:=_) (v:=?_) rfl (by kernel_rfl) (by kernel_rfl) (by kernel_rfl) (fun _ _ _ h=>h) (Or.inl ⟨by rfl,?_⟩) hS ?_
  rotate_left
  · (intro w hSw;(try dsimp only at hSw);go_simp;(try with_reducible rfl))
  rotate_left
  simp only [Act.put,zq0,zq1,zq2,zq3,zq4,zq5]
  refine wpAnyG.take (i:=31) (o:=_) (v:=?_) rfl (by kernel_rfl) (by kernel_rfl) (by kernel_rfl) (fun _ _ _ h=>h) (Or.inl ⟨by rfl,?_⟩) hS ?_
  rotate_left
  · (intro w hSw;(try dsimp only at hSw);go_simp;(try with_reducible rfl))
  rotate_left
  simp only [Act.put,zq0,zq1,zq2,zq3,zq4,zq5]
  refine wpAnyG.take (i:=32) (o:=_) (v:=?_) rfl (by kernel_rfl) (by kernel_rfl) (by kernel_rfl) (fun _ _ _ h=>h) (Or.inl ⟨by rfl,?_⟩) hS ?_
  rotate_left
  · (intro w hSw;(try dsimp only at hSw);go_simp;(try with_reducible rfl))
  rotate_left
  simp only [Act.put,zq0,zq1,zq2,zq3,zq4,zq5]
  refine wpAnyG.next (rs:=[33]) (by kernel_rfl) (by simp) ?_
  refine NextG.cons rfl (fun K hK=>?_) NextG.nil
  rw [if_pos (by rfl)]
  go_simp
  refine (HSM.out _ _ _ fs Aw fs.length cw B N d rfl HNL.out (HW.out _ gv) (HRl.out _ (Ext.trans t10 gv))).mono ?_
  rintro e v3 ⟨rfl,k3⟩
  have g9:=Ext.trans gv k3
  refine hK.out _ _ (fun _=>(HBC.out _ (Ext.trans t10 g9)).cell) (fun hS'=>?_)
  clear hK K hS k3 gv
  have hS:=hS' (by kernel_rfl)
  have gv:=g9
  clear hS' g9
  try simp only [Act.put,zq0,zq1,zq2,zq3,zq4,zq5]
  refine wpAnyG.take (i:=34) (o:=_) (v:=?_) rfl (by kernel_rfl) (by kernel_rfl) (by kernel_rfl) (fun _ _ _ h=>h) (Or.inl ⟨by rfl,?_⟩) hS ?_
  rotate_left
  · (intro w hSw;(try dsimp only at hSw);go_simp;(try with_reducible rfl))
  rotate_left
  simp only [Act.put,zq0,zq1,zq2,zq3,zq4,zq5]
  refine wpAnyG.take (i:=35) (o:=_) (v:=?_) rfl (by kernel_rfl) (by kernel_rfl) (by kernel_rfl) (fun _ _ _ h=>h) (Or.inl ⟨by rfl,?_⟩) hS ?_
  rotate_left
  · (intro w hSw;(try dsimp only at hSw);go_simp;(try with_reducible rfl))
  rotate_left
  simp only [Act.put,zq0,zq1,zq2,zq3,zq4,zq5]
  refine wpAnyG.take (i:=36) (o:=_) (v:=?_) rfl (by kernel_rfl) (by kernel_rfl) (by kernel_rfl) (fun _ _ _ h=>h) (Or.inl ⟨by rfl,?_⟩) hS ?_
  rotate_left
  · (intro w hSw;(try dsimp only at hSw);go_simp;(try with_reducible rfl))
  rotate_left
  simp only [Act.put,zq0,zq1,zq2,zq3,zq4,zq5]
  refine wpAnyG.take (i:=37) (o:=_) (v:=?_) rfl (by kernel_rfl) (by kernel_rfl) (by kernel_rfl) (fun _ _ _ h=>h) (Or.inl ⟨by rfl,?_⟩) hS ?_
  rotate_left
  · (intro w hSw;(try dsimp only at hSw);go_simp;(try with_reducible rfl))
  rotate_left
  simp only [Act.put,zq0,zq1,zq2,zq3,zq4,zq5]
  refine wpAnyG.take (i:=38) (o:=_) (v:=?_) rfl (by kernel_rfl) (by kernel_rfl) (by kernel_rfl) (fun _ _ _ h=>h) (Or.inl ⟨by rfl,?_⟩) hS ?_
  rotate_left
  · (intro w hSw;(try dsimp only at hSw);go_simp;(try with_reducible rfl))
  rotate_left
  simp only [Act.put,zq0,zq1,zq2,zq3,zq4,zq5]
  refine wpAnyG.take (i:=40) (o:=_) (v:=?_) rfl (by kernel_rfl) (by kernel_rfl) (by kernel_rfl) (fun _ _ _ h=>h) (Or.inl ⟨by rfl,?_⟩) hS ?_
  rotate_left
  · (intro w hSw;(try dsimp only at hSw);go_simp;(try with_reducible rfl))
  rotate_left
  simp only [Act.put,zq0,zq1,zq2,zq3,zq4,zq5]
  refine wpAnyG.take (i:=41) (o:=_) (v:=?_) rfl (by kernel_rfl) (by kernel_rfl) (by kernel_rfl) (fun _ _ _ h=>h) (Or.inl ⟨by rfl,?_⟩) hS ?_
  rotate_left
  · (intro w hSw;(try dsimp only at hSw);go_simp;(try with_reducible rfl))
  rotate_left
  simp only [Act.put,zq0,zq1,zq2,zq3,zq4,zq5]
  refine wpAnyG.next (rs:=[39]) (by kernel_rfl) (by simp) ?_
  refine NextG.cons rfl (fun K hK=>?_) NextG.nil
  rw [if_pos (by rfl)]
  go_simp
  refine (HCKP.out _ _ Ao co (HRO.out _ (Ext.trans t10 gv))).mono ?_
  rintro e v3 ⟨rfl,k3⟩
  have g9:=Ext.trans gv k3
  refine hK.out _ _ (fun _=>(HBC.out _ (Ext.trans t10 g9)).cell) (fun hS'=>?_)
  clear hK K hS k3 gv
  have hS:=hS' (by kernel_rfl)
  have gv:=g9
  clear hS' g9
  try simp only [Act.put,zq0,zq1,zq2,zq3,zq4,zq5]
  refine wpAnyG.next (rs:=[42]) (by kernel_rfl) (by simp) ?_
  refine NextG.cons rfl (fun K hK=>?_) NextG.nil
  rw [if_pos (by rfl)]
  go_simp
  refine (HCKR.out _ (HRl.out _ (Ext.trans t10 gv))).mono ?_
  rintro e v3 ⟨rfl,k3⟩
  have g9:=Ext.trans gv k3
  refine hK.out _ _ (fun _=>(HBC.out _ (Ext.trans t10 g9)).cell) (fun hS'=>?_)
  clear hK K hS k3 gv
  have hS:=hS' (by kernel_rfl)
  have gv:=g9
  clear hS' g9
  try simp only [Act.put,zq0,zq1,zq2,zq3,zq4,zq5]
  refine wpAnyG.take (i:=43) (o:=_) (v:=?_) rfl (by kernel_rfl) (by kernel_rfl) (by kernel_rfl) (fun _ _ _ h=>h) (Or.inl ⟨by rfl,?_⟩) hS ?_
  rotate_left
  · (intro w hSw;(try dsimp only at hSw);go_simp;(try with_reducible rfl))
  rotate_left
  simp only [Act.put,zq0,zq1,zq2,zq3,zq4,zq5]
  refine wpAnyG.take (i:=44) (o:=_) (v:=?_) rfl (by kernel_rfl) (by kernel_rfl) (by kernel_rfl) (fun _ _ _ h=>h) (Or.inl ⟨by rfl,?_⟩) hS ?_
  rotate_left
  · (intro w hSw;(try dsimp only at hSw);go_simp;(try with_reducible rfl))
  rotate_left
  simp only [Act.put,zq0,zq1,zq2,zq3,zq4,zq5]
  refine wpAnyG.take (i:=45) (o:=_) (v:=?_) rfl (by kernel_rfl) (by kernel_rfl) (by kernel_rfl) (fun _ _ _ h=>h) (Or.inl ⟨by rfl,?_⟩) hS ?_
  rotate_left
  · (intro w hSw;(try dsimp only at hSw);go_simp;(try with_reducible rfl))
  rotate_left
  simp only [Act.put,zq0,zq1,zq2,zq3,zq4,zq5]
  refine wpAnyG.take (i:=46) (o:=_) (v:=?_) rfl (by kernel_rfl) (by kernel_rfl) (by kernel_rfl) (fun _ _ _ h=>h) (Or.inl ⟨by rfl,?_⟩) hS ?_
  rotate_left
  · (intro w hSw;(try dsimp only at hSw);go_simp;(try with_reducible rfl))
  rotate_left
  simp only [Act.put,zq0,zq1,zq2,zq3,zq4,zq5]
  refine wpAnyG.take (i:=47) (o:=_) (v:=?_) rfl (by kernel_rfl) (by kernel_rfl) (by kernel_rfl) (fun _ _ _ h=>h) (Or.inl ⟨by rfl,?_⟩) hS ?_
  rotate_left
  · (intro w hSw;(try dsimp only at hSw);go_simp;(try with_reducible rfl))
  rotate_left
  simp only [Act.put,zq0,zq1,zq2,zq3,zq4,zq5]
  refine wpAnyG.take (i:=49) (o:=_) (v:=?_) rfl (by kernel_rfl) (by kernel_rfl) (by kernel_rfl) (fun _ _ _ h=>h) (Or.inl ⟨by rfl,?_⟩) hS ?_
  rotate_left
  · (intro w hSw;(try dsimp only at hSw);go_simp;(try with_reducible rfl))
  rotate_left
  simp only [Act.put,zq0,zq1,zq2,zq3,zq4,zq5]
  refine wpAnyG.take (i:=50) (o:=_) (v:=?_) rfl (by kernel_rfl) (by kernel_rfl) (by kernel_rfl) (fun _ _ _ h=>h) (Or.inl ⟨by rfl,?_⟩) hS ?_
  rotate_left
  · (intro w hSw;(try dsimp only at hSw);go_simp;(try with_reducible rfl))
  rotate_left
  simp only [Act.put,zq0,zq1,zq2,zq3,zq4,zq5]
  refine wpAnyG.next (rs:=[48]) (by kernel_rfl) (by simp) ?_
  refine NextG.cons rfl (fun K hK=>?_) NextG.nil
  rw [if_pos (by rfl)]
  go_simp
  refine (HSP.out _ _ Ao co (HRO.out _ (Ext.trans t10 gv)) (HRo.out _ (Ext.trans t10 gv))).mono ?_
  rintro e v3 ⟨rfl,k3⟩
  have g9:=Ext.trans gv k3
  refine hK.out _ _ (fun _=>(HBC.out _ (Ext.trans t10 g9)).cell) (fun hS'=>?_)
  clear hK K hS k3 gv
  have hS:=hS' (by kernel_rfl)
  have gv:=g9
  clear hS' g9
  try simp only [Act.put,zq0,zq1,zq2,zq3,zq4,zq5]
  refine wpAnyG.next (rs:=[51]) (by kernel_rfl) (by simp) ?_
  refine NextG.cons rfl (fun K hK=>?_) NextG.nil
  rw [if_pos (by rfl)]
  go_simp
  refine (HSR.out _ (HRl.out _ (Ext.trans t10 gv)) (HRo.out _ (Ext.trans t10 gv))).mono ?_
  rintro e v3 ⟨rfl,k3⟩
  have g9:=Ext.trans gv k3
  refine hK.out _ _ (fun _=>(HBC.out _ (Ext.trans t10 g9)).cell) (fun hS'=>?_)
  clear hK K hS k3 gv
  have hS:=hS' (by kernel_rfl)
  have gv:=g9
  clear hS' g9
  try simp only [Act.put,zq0,zq1,zq2,zq3,zq4,zq5]
  refine wpAnyG.take (i:=52) (o:=_) (v:=?_) rfl (by kernel_rfl) (by kernel_rfl) (by kernel_rfl) (fun _ _ _ h=>h) (Or.inl ⟨by rfl,?_⟩) hS ?_
  rotate_left
  · (intro w hSw;(try dsimp only at hSw);go_simp;(try with_reducible rfl))
  rotate_left
  simp only [Act.put,zq0,zq1,zq2,zq3,zq4,zq5]
  refine wpAnyG.take (i:=53) (o:=_) (v:=?_) rfl (by kernel_rfl) (by kernel_rfl) (by kernel_rfl) (fun _ _ _ h=>h) (Or.inl ⟨by rfl,?_⟩) hS ?_
  rotate_left
  · (intro w hSw;(try dsimp only at hSw);go_simp;(try with_reducible rfl))
  rotate_left
  simp only [Act.put,zq0,zq1,zq2,zq3,zq4,zq5]
  refine wpAnyG.done (by kernel_rfl) ?_ _
  clear hS HX HY HU HV HW HRO HRI HRl HRo HRa HRg HBC HBA HBG HBI t10 c10 d10 e10 f10 HCKP HCKR HSP HSR HSM
  go_wp2_with fail
  go_meet
  exact ⟨rfl,gv⟩
 case rest=>
 as_aux_lemma=>
 obtain ⟨rfl,gv⟩:=hcut
 have tB:=Ext.trans t10 gv
 have XB:=HX.out _ (Ext.trans c10 gv)
 have UB:=HU.out _ (Ext.trans e10 gv)
 have WB:=HW.out _ gv
 have ROB:=HRO.out _ tB
 have RIB:=HRI.out _ tB
 have RLB:=(HRl.out _ tB).mono HK0.out
 have RAB:=(HRa.out _ tB).mono HK0.out
 have BAB:=HBA.out _ tB
 have BIB:=HBI.out _ tB
 have L0 : Hid (wA.heap.size ≤ w7.heap.size ∧ wA.heap.size ≤ w9.heap.size):=⟨Nat.le_trans H4A.out HXU.out,Nat.le_trans H4A.out (Nat.le_trans HXU.out (Nat.le_trans HU78.out HUW.out))⟩
 clear HX HY HU HV HW HRO HRI HRl HRo HRa HRg HBC HBA HBG HBI t10 c10 d10 e10 f10 gv HCKP HCKR HSP HSR
 go_wp2_with fail
 refine (turn24_any wA.heap.size w4.heap.size Ax r1.1.length cx _ ⟨r1.1,XB⟩).mono ?_
 rintro e v1 ⟨⟨z1,rfl⟩,W1⟩
 have U1:=shp_within W1 UB HXU.out
 have W1':=shp_within W1 WB (Nat.le_trans HXU.out (Nat.le_trans HU78.out HUW.out))
 have RO1:=low_within W1 ROB (Nat.le_refl _)
 have RI1:=low_within W1 RIB (Nat.le_refl _)
 have RL1:=low_within W1 RLB (Nat.le_refl _)
 have RA1:=low_within W1 RAB (Nat.le_refl _)
 have BA1:=box_keep BAB W1.below HGA9.out
 have BI1:=box_keep BIB W1.below HGI.out
 have T1:=tB.trans W1.below
 clear XB UB WB ROB RIB RLB RAB BAB BIB W1 tB
 go_wp2_with fail
 refine (turn24_any w7.heap.size w8.heap.size Au r2.1.length cu _ ⟨r2.1,U1⟩).mono ?_
 rintro e v2 ⟨⟨z2,rfl⟩,W2⟩
 have W2':=shp_within W2 W1' HUW.out
 have RO2:=low_within W2 RO1 L0.out.1
 have RI2:=low_within W2 RI1 L0.out.1
 have RL2:=low_within W2 RL1 L0.out.1
 have RA2:=low_within W2 RA1 L0.out.1
 have BA2:=box_keep BA1 (W2.below.mono L0.out.1) HGA9.out
 have BI2:=box_keep BI1 (W2.below.mono L0.out.1) HGI.out
 have T2:=T1.trans (W2.below.mono L0.out.1)
 clear U1 W1' RO1 RI1 RL1 RA1 BA1 BI1 W2 T1
 go_wp2_with fail
 refine (turn24_any w9.heap.size w10.heap.size Aw fs.length cw _ ⟨fs,W2'⟩).mono ?_
 rintro e v3 ⟨⟨z3,rfl⟩,W3⟩
 have RO3:=low_within W3 RO2 L0.out.2
 have RI3:=low_within W3 RI2 L0.out.2
 have RL3:=low_within W3 RL2 L0.out.2
 have RA3:=low_within W3 RA2 L0.out.2
 have BA3:=box_keep BA2 (W3.below.mono L0.out.2) HGA9.out
 have BI3:=box_keep BI2 (W3.below.mono L0.out.2) HGI.out
 have T3:=T2.trans (W3.below.mono L0.out.2)
 clear W2' RO2 RI2 RL2 RA2 BA2 BI2 W3 T2
 go_wp2_with fail
 refine (HSM.out v3 _ _ fs Ao fs.length co B N d rfl HNL.out RO3 RL3).mono ?_
 rintro e v4 ⟨rfl,k4⟩
 have HS8:=Lib.hid (rsame8_self ((ki.toNat : Nat) : Int) a y A4 c4 bs D dq v4 (RI3.below k4).bytes_bs (RA3.below k4).bytes_bs)
 have xI:=(BI3.next k4).cell
 have xA:=(BA3.next k4).cell
 have T4:=T3.trans (k4.mono T3.size)
 clear RO3 RI3 RL3 RA3 BA3 BI3 k4 HSM
 go_wp2_with fail
 refine HS8.out.mono ?_
 rintro e v5 ⟨rfl,k5⟩
 have T5:=HTA.out.trans ((T4.trans (k5.mono T4.size)).mono HTA.out.size)
 clear xI xA T4 k5 T3
 go_wp2
 go_ret
 exact ⟨rfl,T5⟩
end Go.Proofs.Ythapabjlhooglaa
namespace Go.Proofs.Ythapabjlhooglaa
open Go Go.RowKit
set_option linter.unusedSimpArgs false
set_option linter.unusedVariables false
theorem ask_deep {w : World} {S : Nat → Prop} {cs : List Value} {x : (Ty.st (.prod .byte (.prod .int (.prod .int (.prod (.sl .byte) .unit))))).T} (h : RdIn w S (Ty.st (.prod .byte (.prod .int (.prod .int (.prod (.sl .byte) .unit))))) x cs) : ∃ (ki : UInt8) (a y : Int) (D : Option Addr) (dq : Nat) (bs : List UInt8),Value.agg cs.toArray = .agg #[.int .u8 ((ki.toNat : Nat) : Int),.int .i64 a,.int .i64 y,.slice D bs.length dq] ∧ RdIn w S (.sl .byte) bs [.slice D bs.length dq]:=by
 obtain ⟨ki,a,y,bs,u⟩:=x
 obtain ⟨c0,d0,rfl,r0,h⟩:=rdin_prod.1 (rdin_st.1 h)
 obtain ⟨c1,d1,rfl,r1,h⟩:=rdin_prod.1 h
 obtain ⟨c2,d2,rfl,r2,h⟩:=rdin_prod.1 h
 obtain ⟨c3,d3,rfl,r3,h⟩:=rdin_prod.1 h
 obtain rfl:=rdin_unit.1 h
 obtain rfl:=rdin_byte.1 r0
 obtain ⟨rfl,_⟩:=rdin_int.1 r1
 obtain ⟨rfl,_⟩:=rdin_int.1 r2
 obtain ⟨A,c,e,_⟩:=rdin_sl.1 r3
 subst e
 exact ⟨ki,a,y,A,c,bs,rfl,r3⟩
theorem going_deep {w : World} {S : Nat → Prop} {cs : List Value} {x : (Ty.st (.prod .int (.prod .int (.prod .byte (.prod .u32 (.prod (.sl .byte) .unit)))))).T} (h : RdIn w S (Ty.st (.prod .int (.prod .int (.prod .byte (.prod .u32 (.prod (.sl .byte) .unit)))))) x cs) : ∃ (gn gb : Int) (sv : UInt8) (q : Nat) (E : Option Addr) (de : Nat) (dat : List UInt8),Value.agg cs.toArray = .agg #[.int .i64 gn,.int .i64 gb,.int .u8 ((sv.toNat : Nat) : Int),.int .u32 (q : Int),.slice E dat.length de] ∧ IsInt gb ∧ q < 2 ^ 32 ∧ RdIn w S (.sl .byte) dat [.slice E dat.length de]:=by
 obtain ⟨gn,gb,sv,q,dat,u⟩:=x
 obtain ⟨c0,d0,rfl,r0,h⟩:=rdin_prod.1 (rdin_st.1 h)
 obtain ⟨c1,d1,rfl,r1,h⟩:=rdin_prod.1 h
 obtain ⟨c2,d2,rfl,r2,h⟩:=rdin_prod.1 h
 obtain ⟨c3,d3,rfl,r3,h⟩:=rdin_prod.1 h
 obtain ⟨c4,d4,rfl,r4,h⟩:=rdin_prod.1 h
 obtain rfl:=rdin_unit.1 h
 obtain ⟨rfl,_⟩:=rdin_int.1 r0
 obtain ⟨rfl,hb⟩:=rdin_int.1 r1
 obtain rfl:=rdin_byte.1 r2
 obtain ⟨rfl,hq⟩:=rdin_u32.1 r3
 obtain ⟨A,c,e,_⟩:=rdin_sl.1 r4
 subst e
 exact ⟨gn,gb,sv,q,A,c,dat,rfl,hb,hq,r4⟩
theorem flightadds_walk (w : World) (c0 : List Value) (x0 : (Ty.st (.prod .u32 (.prod .int (.prod .int (.prod .int (.prod .int (.prod .int .unit))))))).T) (h0 : RdIn w (fun b=>b < w.heap.size) (Ty.st (.prod .u32 (.prod .int (.prod .int (.prod .int (.prod .int (.prod .int .unit))))))) x0 c0) (v1 : Value) (x1 : (Ty.sl FlTy).T) (h1 : RdIn w (fun b=>b < w.heap.size) (.sl FlTy) x1 [v1]) (v2 : Value) (x2 : (Ty.sl FlTy).T) (h2 : RdIn w (fun b=>b < w.heap.size) (.sl FlTy) x2 [v2]) (v3 : Value) (x3 : Ty.int.T) (h3 : RdIn w (fun b=>b < w.heap.size) .int x3 [v3])
 (c4 : List Value) (x4 : (Ty.st (.prod .byte (.prod .int (.prod .int (.prod (.sl .byte) .unit))))).T) (h4 : RdIn w (fun b=>b < w.heap.size) (Ty.st (.prod .byte (.prod .int (.prod .int (.prod (.sl .byte) .unit))))) x4 c4)
 (c5 : List Value) (x5 : (Ty.st (.prod .int (.prod .int (.prod .byte (.prod .u32 (.prod (.sl .byte) .unit)))))).T) (h5 : RdIn w (fun b=>b < w.heap.size) (Ty.st (.prod .int (.prod .int (.prod .byte (.prod .u32 (.prod (.sl .byte) .unit)))))) x5 c5) :
 Calls Try.prog 3 #[.agg c0.toArray,v1,v2,v3,.agg c4.toArray,.agg c5.toArray] w fun e w'=>e = .returned (.bool true) ∧ Below w.heap.size w w':=by
 obtain ⟨x,hx⟩:=cfg_deep h0
 rw [hx]
 obtain ⟨A,ca,rfl⟩:=sl_deep h1
 obtain ⟨A2,ca2,rfl⟩:=sl_deep h2
 obtain ⟨n,rfl,hn⟩:=int_deep h3
 obtain ⟨ki,a,y,D,dq,bs,e4,rb⟩:=ask_deep h4
 rw [e4]
 obtain ⟨gn,gb,sv,q,E,de,dat,e5,hgb,hq,rg⟩:=going_deep h5
 rw [e5]
 exact addslaw_core x x1 x2 _ ca A rfl _ ca2 A2 rfl n hn ki a y D dq bs gn gb hgb sv q hq E de dat w h1 h2 rb rg
end Go.Proofs.Ythapabjlhooglaa
