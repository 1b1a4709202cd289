/- What this claim needs of my texts, merged and shortened by a program (part 5). -/
import Derived.ArgAppend
import Derived.Test.YthapabjlhooglaaZFlightAdds4
namespace Go.Proofs.Ythapabjlhooglaa
open Go Go.RowKit
set_option linter.unusedSimpArgs false
set_option linter.unusedVariables false
def newSq (ki : UInt8) (m last : Nat) : List Nat:=if ((ki.toNat : Nat) : Int) = 4 then [last] else List.replicate m 0
def newFl (n : Int) (ki : UInt8) (a : Int) (m : Nat) (bs : List UInt8) (last : Nat) : FlTy.T:=mkFl n ki a (m : Int) bs (List.replicate m 0) (newSq ki m last) (List.replicate m [])
def lastN (fs : List FlTy.T) : Int:=match fs.getLast? with | some f=>fN f | none=>0
def addP (x : Cfg) (fs : List FlTy.T) (n : Int) (ki : UInt8) (a y : Int) (bs : List UInt8) (last : Nat) : List FlTy.T × Int:=
 if flB x fs = true then (if askCode x ((ki.toNat : Nat) : Int) a y bs.length = 0 then (if n < 1 ∨ n ≤ lastN fs then ([],2) else if fs.length = 8 then ([],9) else (fs ++ [newFl n ki a y.toNat bs last],0)) else ([],askCode x ((ki.toNat : Nat) : Int) a y bs.length)) else ([],8)
def FlRes (lo : Nat) (r : List FlTy.T × Int) (e : Ending) (w : World) : Prop:=∃ A c,e = .returned (.tuple #[.slice A r.1.length c,.int .i64 r.2]) ∧ FlNew lo r.1 (.slice A r.1.length c) w
theorem FlRes.bad {lo : Nat} {v : Int} {w : World} : FlRes lo ([],v) (.returned (.tuple #[.slice none 0 0,.int .i64 v])) w:=⟨none,0,rfl,OwnE.nil _ _ _ _ _⟩
theorem FlRes.mk {lo L c : Nat} {outs : List FlTy.T} {A : Option Addr} {v : Int} {w : World} (hl : outs.length = L) (hf : FlNew lo outs (.slice A L c) w) : FlRes lo (outs,v) (.returned (.tuple #[.slice A L c,.int .i64 v])) w:=by
 subst hl
 exact ⟨A,c,rfl,hf⟩
theorem lastN_at {fs : List FlTy.T} {K : Nat} (h : fs.length = K + 1) : lastN fs = fN (fs[K]'(by omega)):=by
 unfold lastN
 have h1 : fs.length - 1 = K:=by omega
 rw [List.getLast?_eq_getElem?,h1,List.getElem?_eq_getElem (by omega)]
theorem FlNew.low {lo lo' : Nat} {fs : List FlTy.T} {v : Value} {w : World} (h : FlNew lo fs v w) (hl : lo' ≤ lo) : FlNew lo' fs v w:=by
 obtain ⟨ess,Sf,h1,h2,h3,h4,h5,h6⟩:=h
 refine ⟨ess,Sf,h1,h2,fun i b hb=>⟨⟨Nat.le_trans hl (h3 i b hb).1.1,(h3 i b hb).1.2⟩,(h3 i b hb).2⟩,h4,fun r hr=>⟨Nat.le_trans hl (h5 r hr).1,(h5 r hr).2⟩,h6.1,?_⟩
 rcases h6.2 with h | ⟨g,cap,cur,e,hg,hrest⟩
 · exact .inl h
 · exact .inr ⟨g,cap,cur,e,Nat.le_trans hl hg,hrest⟩
section
variable {w w' : World} {F : Nat → Prop} {tid : TypeId} {v : Value} {xs : List Value}
theorem NumRow.of_make {base g m : Nat} {z : Value} (h : w.ownsRow base tid 1 (.slice (some ⟨g,0,none⟩) m m) m (madeCells #[z] (m * 1)).toList) : NumRow w (Iv 0 w.heap.size) tid (.slice (some ⟨g,0,none⟩) m m) (List.replicate m z):=by
 rw [Nat.mul_one,toList_madeCells_one] at h
 have hl : (List.replicate m z).length = m:=List.length_replicate
 rcases h.2 with ⟨e,_⟩ | ⟨g',cap,cur,e,_,hg,h1,h2,_,h3⟩
 · cases e
 · injection e with e1 _ e2
   injection e1 with e1
   injection e1 with e1 _ _
   subst e1 e2
   refine ⟨_,m,by rw [hl],by rw [hl];exact Nat.le_refl _,h2,fun k hk=>?_,.inr ⟨g,cur,rfl,hg,?_⟩⟩
   · have e3 : g = k:=Option.some.inj hk
     subst e3
     exact ⟨Nat.zero_le _,(Array.getElem?_eq_some_iff.1 hg).1⟩
   · rw [hl]
     rw [Nat.mul_one] at h3
     exact h3
theorem NumRow.setRow (h : NumRow w (Iv 0 w.heap.size) tid v xs) {k : Nat} {cs : Array Value} {t : TypeId} (hk : BoxOf w k cs t) (ht : tid ≠ t) (ds : Array Value) : NumRow (w.setRow k ds) (Iv 0 (w.setRow k ds).heap.size) tid v xs:=by
 obtain ⟨A,cap,h0,h1,h2,h3,h4⟩:=h
 refine ⟨A,cap,h0,h1,h2,fun g hg=>by rw [setRow_size];exact h3 g hg,?_⟩
 rcases h4 with h4 | ⟨g,cur,e,h5,h6⟩
 · exact .inl h4
 · refine .inr ⟨g,cur,e,h5.other (fun e2=>?_) ds,h6⟩
   subst e2
   unfold BoxOf at h5 hk
   rw [h5] at hk
   injection hk with hk
   injection hk with _ hk _
   exact ht hk
end
theorem heads8 {w : World} {S : Nat → Prop} {fs : List FlTy.T} {A : Option Addr} {n c : Nat} (h : RdIn w S (.sl FlTy) fs [.slice A n c]) : ∃ ess : List (List Value),ess.length = fs.length ∧ fs.length = n ∧ (∀ es ∈ ess,es.length = 8) ∧ (∀ b,A = some b → ∀ j u,ess.flatten[j]? = some u → w.cell? (b.add j) = some u) ∧ (A = none → n = 0) ∧ ∀ i (h : i < fs.length) (h' : i < ess.length),RdIn w S FlTy fs[i] ess[i]:=by
 obtain ⟨A',c',h0,_,_,hrow⟩:=viewF h
 injection h0 with h01 h02 h03
 subst h01 h02
 by_cases hz : fs.length = 0
 · exact ⟨[],hz.symm,rfl,by simp,by simp,fun _=>hz,fun i h=>absurd h (by omega)⟩
 obtain ⟨b,off,hA,_,hc⟩:=hrow (by omega)
 obtain ⟨ess,hl,hh⟩:=choose_list (R:=fun i es=>∃ h' : i < fs.length,(∀ j,j < 8 → w.cell? ⟨b,off + i * 8 + j,none⟩ = es[j]?) ∧ RdIn w S FlTy fs[i] es) fs.length (fun i hi=>by
  obtain ⟨es,k1,k2⟩:=hc i hi
  exact ⟨es,hi,k1,k2⟩)
 have hes : ∀ es ∈ ess,es.length = 8:=by
  intro es he
  obtain ⟨i,hi,rfl⟩:=List.getElem_of_mem he
  obtain ⟨_,_,h3⟩:=hh i hi
  exact h3.len
 refine ⟨ess,hl,rfl,hes,fun a ha j u hj=>?_,fun hn=>absurd (hn.symm.trans hA) (by simp),fun i h1 h2=>by obtain ⟨_,_,h3⟩:=hh i h2;exact h3⟩
 rw [ha] at hA
 injection hA with hA
 subst hA
 have hjl : j < ess.flatten.length:=(List.getElem?_eq_some_iff.1 hj).1
 have hfl : ess.flatten.length = ess.length * 8:=by
  clear hh hl hj hjl hc
  induction ess with
  | nil=>rfl
  | cons e es ih=>rw [List.flatten_cons,List.length_append,List.length_cons,ih (fun x hx=>hes x (List.mem_cons_of_mem _ hx)),hes e (List.mem_cons_self ..)];omega
 have hq : j / 8 < ess.length:=by omega
 have h7:=flatten_at ess hes (j / 8) (j % 8) (Nat.mod_lt _ (by decide))
 have hjj : j / 8 * 8 + j % 8 = j:=by omega
 rw [hjj,List.getElem?_eq_getElem hq] at h7
 obtain ⟨_,h8,_⟩:=hh (j / 8) hq
 have h9:=h8 (j % 8) (Nat.mod_lt _ (by decide))
 rw [h7] at hj
 rw [show off + j / 8 * 8 + j % 8 = off + j by omega] at h9
 rw [add_plain,h9]
 exact hj
theorem rdin_own8 {w : World} {base : Nat} {T : Nat → Prop} {v : Value} {fs : List FlTy.T} {ess : List (List Value)} (hl : ess.length = fs.length) (ho : w.ownsRow base 67 8 v fs.length ess.flatten) (hr : ∀ i (h : i < fs.length) (h' : i < ess.length),RdIn w T FlTy fs[i] ess[i]) (hz : fs.length * 128 ≤ 140737488355328) : RdIn w (fun _=>True) (.sl FlTy) fs [v]:=by
 have hes : ∀ es ∈ ess,es.length = 8:=by
  intro es he
  obtain ⟨i,hi,rfl⟩:=List.getElem_of_mem he
  exact (hr i (by omega) hi).len
 rcases ho.2 with ⟨rfl,h0⟩ | ⟨g,cap,cur,rfl,hb,hg,hn,hm,hsz,htk⟩
 · have hx : fs = []:=List.eq_nil_of_length_eq_zero h0
   subst hx
   exact rdin_sl.2 ⟨none,0,rfl,by simp,by simp [maxLen],by simp,.inl rfl⟩
 · refine rdin_sl.2 ⟨some ⟨g,0,none⟩,cap,rfl,hn,hm,hz,.inr ⟨g,0,rfl,trivial,fun i hi=>⟨ess[i]'(by have hi' : i < fs.length:=hi;omega),fun j hj=>?_,(hr i hi (by have hi' : i < fs.length:=hi;omega)).mono fun b hb=>trivial⟩⟩⟩
   have hi' : i < fs.length:=hi
   have hj' : j < 8:=hj
   have h1:=flatten_at ess hes i j hj'
   rw [List.getElem?_eq_getElem (show i < ess.length by omega)] at h1
   show w.cell? ⟨g,0 + i * 8 + j,none⟩ = _
   rw [Nat.zero_add,cell_of_row w g _ cur 67 (0,0) hg]
   have h2 : i * 8 + j < fs.length * 8:=by omega
   rw [← htk,List.getElem?_take,if_pos h2] at h1
   simpa using h1
section
variable {P : Program} (w : World)
theorem wp_append_full {o : Oper} {a : Act} {K : Act → World → Prop} {Q : Exit → Act → World → Prop}
 (s x : Operand) (t : TypeId) (hop : o.op = Op.call { callee:=Callee.builtin Builtin.append,args:=#[s,x],argTypes:=#[t,t] })
 (e : TypeId) (i : TypeInfo) (z : Value) (size bytes : Nat) (h1 : P.underlying t = some (.slice e)) (h2 : P.info? e = some i) (h3 : i.zero = some z) (h4 : i.size = size) (h5 : i.bytes = bytes) (h6 : z.cells.size = size) (h7 : 0 < size)
 (ao : Option Addr) (n cap : Nat) (olds : List Value) (hs : a.eval s = .slice ao n cap) (hnone : ao = none → n = 0 ∧ cap = 0) (hlo : olds.length = n * size) (holds : ∀ b,ao = some b → ∀ j u,olds[j]? = some u → w.cell? (b.add j) = some u)
 (ad : Addr) (m c : Nat) (news : List Value) (hx : a.eval x = .slice (some ad) m c) (hn : news.length = m * size) (hc : ∀ j u,news[j]? = some u → w.cell? (ad.add j) = some u) (h1c : ∀ u ∈ news,u.oneCell' = true)
 (hfull : cap < n + m) (b1 : n + m ≤ maxLen) (b2 : (n + m) * bytes ≤ 140737488355328)
 (hK : ∀ v' w',w'.ownsRow w.heap.size e size v' (n + m) (olds ++ news) → w.grownBy w' none → K (a.put o.dst v') w') :
 o.wp P a w K Q:=by
 cases ao with
 | some b=>
   obtain ⟨v',w',hrun,r1,r2⟩:=run_append_arg_grows (P:=P) w t o.type e i z size bytes h1 h2 h3 h4 h5 h6 h7 b n cap olds hlo (holds b rfl) ad m c news hn hc hfull b1 b2
   unfold Oper.wp
   simp [execOp,hop,resolve,invoke,builtin,hs,hx,hrun,Result.andThen]
   exact hK v' w' r1 r2
 | none=>
   obtain ⟨rfl,rfl⟩:=hnone rfl
   obtain rfl : olds = []:=List.eq_nil_of_length_eq_zero (by simpa using hlo)
   obtain ⟨v',w',hrun,r1,r2,_⟩:=run_append_own (P:=P) w w.heap.size t o.type e i z size bytes h1 h2 h3 h4 h5 h6 h7 (.slice none 0 0) 0 [] (World.ownsRow_nil w _ e size) ad m c news hn hc h1c b1 b2 (Nat.le_refl _)
   unfold Oper.wp
   simp [execOp,hop,resolve,invoke,builtin,hs,hx,hrun,Result.andThen]
   exact hK v' w' r1 r2
end
set_option maxRecDepth 100000 in
theorem clip_any (B : Option Addr) (n d : Nat) (hB : B = none → n = 0) (hn : n ≤ d) (hm : d ≤ maxLen) (w : World) :
 Calls Try.prog 36 #[.slice B n d] w fun e w'=>e = .returned (.slice B n n) ∧ w' = w:=by
 cases B with
 | none=>
   obtain rfl:=hB rfl
   go_enter Try.func36,Try.ntmps36
   go_wp2
   go_ret
   exact ⟨rfl,rfl⟩
 | some a=>
   go_enter Try.func36,Try.ntmps36
   go_wp2
   go_ret
   exact ⟨rfl,rfl⟩
theorem flat8 {ess : List (List Value)} (h : ∀ es ∈ ess,es.length = 8) : ess.flatten.length = ess.length * 8:=by
 induction ess with
 | nil=>rfl
 | cons e es ih=>rw [List.flatten_cons,List.length_append,List.length_cons,ih (fun x hx=>h x (List.mem_cons_of_mem _ hx)),h e (List.mem_cons_self ..)];omega
def AddMk (w : World) (n : Int) (ki : UInt8) (a y : Int) (D : Option Addr) (bs : List UInt8) (dq m : Nat) (s : Value) (wx : World) : Prop:=∃ g3 g5 g7 gf,s = .pointer (some ⟨gf,0,none⟩) ∧ BoxOf wx gf #[.int .i64 n,.int .u8 ((ki.toNat : Nat) : Int),.int .i64 a,.int .i64 (m : Int),.slice D bs.length dq,.slice (some ⟨g3,0,none⟩) m m,.slice (some ⟨g5,0,none⟩) m m,.slice (some ⟨g7,0,none⟩) m m] 67 ∧ NumRow wx (Iv 0 wx.heap.size) 5 (.slice (some ⟨g3,0,none⟩) m m) (List.replicate m (.int .u8 0)) ∧ NumRow wx (Iv 0 wx.heap.size) 22 (.slice (some ⟨g5,0,none⟩) m m) (List.replicate m (.int .u32 0)) ∧ NumRow wx (Iv 0 wx.heap.size) 26 (.slice (some ⟨g7,0,none⟩) m m) (List.replicate m (.slice none 0 0)) ∧ Below w.heap.size w wx ∧ w.heap.size ≤ gf
theorem newFl_rd {w : World} {n a : Int} {ki : UInt8} {m last : Nat} {bs : List UInt8} {D : Option Addr} {dq g3 g7 : Nat} {qv : Value} (hn : IsInt n) (ha : IsInt a) (hm : m ≤ 8) (hd : RdIn w (fun _=>True) (.sl .byte) bs [.slice D bs.length dq])
 (h3 : NumRow w (Iv 0 w.heap.size) 5 (.slice (some ⟨g3,0,none⟩) m m) (List.replicate m (.int .u8 0))) (hq : RdIn w (fun _=>True) (.sl .u32) (newSq ki m last) [qv]) (h7 : NumRow w (Iv 0 w.heap.size) 26 (.slice (some ⟨g7,0,none⟩) m m) (List.replicate m (.slice none 0 0))) :
 RdIn w (fun _=>True) FlTy (newFl n ki a m bs last) [.int .i64 n,.int .u8 ((ki.toNat : Nat) : Int),.int .i64 a,.int .i64 (m : Int),.slice D bs.length dq,.slice (some ⟨g3,0,none⟩) m m,qv,.slice (some ⟨g7,0,none⟩) m m]:=by
 refine fl_mk (f:=newFl n ki a m bs last) ⟨hn,ha,⟨by show _ ≤ (m : Int);omega,by show (m : Int) ≤ _;omega⟩⟩ hd ?_ hq ?_
 · have e : List.replicate m (Value.int .u8 0) = (List.replicate m (0 : UInt8)).map byteV:=by rw [List.map_replicate];rfl
   rw [e] at h3
   exact (h3.rd (by rw [List.length_replicate];omega)).mono fun _ _=>trivial
 · refine (h7.rdb (T:=fun _=>True) (ds:=List.replicate m []) (by rw [List.length_replicate,List.length_replicate]) (by rw [List.length_replicate];omega) (fun i h1 h2=>?_)).mono fun _ _=>trivial
   rw [List.getElem_replicate,List.getElem_replicate]
   exact rdin_nilb (by unfold maxLen;omega) _
theorem newSq_rd {w : World} {ki : UInt8} {m last g5 : Nat} (hm : m ≤ 8) (h4 : ((ki.toNat : Nat) : Int) ≠ 4) (h5 : NumRow w (Iv 0 w.heap.size) 22 (.slice (some ⟨g5,0,none⟩) m m) (List.replicate m (.int .u32 0))) : RdIn w (fun _=>True) (.sl .u32) (newSq ki m last) [.slice (some ⟨g5,0,none⟩) m m]:=by
 unfold newSq
 rw [if_neg h4]
 have e : List.replicate m (Value.int .u32 0) = (List.replicate m 0).map seqV:=by rw [List.map_replicate];rfl
 rw [e] at h5
 refine (h5.rdq (by rw [List.length_replicate];omega) (fun q hq=>?_)).mono fun _ _=>trivial
 rw [(List.mem_replicate.1 hq).2]
 decide
theorem newSq_rd4 {w : World} {ki : UInt8} {m last g : Nat} (hl : last < 2 ^ 32) (h4 : ((ki.toNat : Nat) : Int) = 4) (hb : BoxOf w g #[.int .u32 (last : Int)] 22) : RdIn w (fun _=>True) (.sl .u32) (newSq ki m last) [.slice (some ⟨g,0,none⟩) 1 1]:=by
 unfold newSq
 rw [if_pos h4]
 refine rdin_sl.2 ⟨_,1,rfl,Nat.le_refl _,by unfold maxLen;omega,by show 1 * 4 ≤ _;omega,.inr ⟨g,0,rfl,trivial,fun i hi=>⟨[.int .u32 (last : Int)],fun j hj=>?_,?_⟩⟩⟩
 · have hj0 : j = 0:=by have : j < 1:=hj;omega
   have hi0 : i = 0:=by have : i < 1:=hi;omega
   subst hj0 hi0
   exact hb.cell 0
 · have hi0 : i = 0:=by have : i < 1:=hi;omega
   subst hi0
   exact rdin_u32.2 ⟨rfl,hl⟩
set_option maxRecDepth 100000 in
set_option maxHeartbeats 8000000 in
theorem fadd_any (S : Nat → Prop) (x : Cfg) (fs : List FlTy.T) (N d : Nat) (B : Option Addr) (hN : fs.length = N) (n : Int) (hn : IsInt n) (ki : UInt8) (a y : Int) (D : Option Addr) (dq : Nat) (bs : List UInt8) (last : Nat) (hlast : last < 2 ^ 32) (w : World) (hr : RdIn w S (.sl FlTy) fs [.slice B N d]) (hd : RdIn w S (.sl .byte) bs [.slice D bs.length dq]) :
 Calls Try.prog 11 #[x.val,.slice B N d,.int .i64 n,.agg #[.int .u8 ((ki.toNat : Nat) : Int),.int .i64 a,.int .i64 y,.slice D bs.length dq],.int .u32 (last : Int)] w fun e w'=>FlRes w.heap.size (addP x fs n ki a y bs last) e w' ∧ Below w.heap.size w w':=by
 obtain ⟨iu,hu,hu0,hu1,hu2⟩:=minfo_u8
 obtain ⟨iq,hq,hq0,hq1,hq2⟩:=minfo_u32
 obtain ⟨ix,hx,hx0,hx1,hx2⟩:=minfo_bytes
 obtain ⟨ig,hig,hg0,hg1,hg2⟩:=minfo_flight
 have HX:=Lib.hid (fun (w : World) (hr : RdIn w S (.sl FlTy) fs [.slice B N d])=>fcheck_any S x fs N d B hN w hr)
 have HBC:=Lib.hid (fun (w : World) (hc : askCode x ((ki.toNat : Nat) : Int) a y bs.length = 0) (m : Nat) (hm : y = (m : Int))=>blocks_0 x ((ki.toNat : Nat) : Int) a y D bs.length dq m hc hm w)
 have HBN':=Lib.hid (fun (w : World) (hc : askCode x ((ki.toNat : Nat) : Int) a y bs.length ≠ 0)=>blocks_ne x ((ki.toNat : Nat) : Int) a y D bs.length dq hc w)
 have HC0:=Lib.hid (fun (hc : askCode x ((ki.toNat : Nat) : Int) a y bs.length = 0)=>askCode_0 hc)
 have HF8:=Lib.hid (fun (h : flB x fs = true)=>(flB_iff.1 h).2.1)
 obtain ⟨ok,hok⟩ : ∃ z,z = flB x fs:=⟨_,rfl⟩
 obtain ⟨code,hcd⟩ : ∃ z,z = askCode x ((ki.toNat : Nat) : Int) a y bs.length:=⟨_,rfl⟩
 obtain ⟨mv,hmv⟩ : ∃ z,z = addP x fs n ki a y bs last:=⟨_,rfl⟩
 rw [← hmv]
 have HMV : Hid (mv = if ok = true then (if code = 0 then (if n < 1 ∨ n ≤ lastN fs then ([],2) else if fs.length = 8 then ([],9) else (fs ++ [newFl n ki a y.toNat bs last],0)) else ([],code)) else ([],8)):=by rw [hok,hcd];exact hmv
 have HOK:=Lib.hid hok
 have HCD:=Lib.hid hcd
 clear hmv hok hcd
 have HBD : Hid ((B = none → N = 0) ∧ N ≤ d ∧ d ≤ maxLen):=by
  obtain ⟨_,_,_,_,_,h5,_⟩:=heads8 hr
  obtain ⟨A',c',e,h1,h2,_⟩:=rdin_sl.1 hr
  injection e with e _
  injection e with e1 e2 e3
  subst e3
  exact ⟨h5,by rw [e2];exact h1,h2⟩
 have HINT:=Lib.hid hn
 have HLAST:=Lib.hid hlast
 obtain ⟨id,m',c,r,l,h⟩:=x
 unfold Cfg.val at *
 dsimp only at *
 have C0:=BoxOf.alloc (BoxOf.new w #[.int .u32 (id : Int),.int .i64 m',.int .i64 c,.int .i64 r,.int .i64 l,.int .i64 h] 24) (.cells #[.int .u8 ((ki.toNat : Nat) : Int),.int .i64 a,.int .i64 y,.slice D bs.length dq] 28)
 have A0:=BoxOf.new' (w.alloc (.cells #[.int .u32 (id : Int),.int .i64 m',.int .i64 c,.int .i64 r,.int .i64 l,.int .i64 h] 24)) (w.heap.size + 1) #[.int .u8 ((ki.toNat : Nat) : Int),.int .i64 a,.int .i64 y,.slice D bs.length dq] 28 (by simp)
 have t0:=Ext.alloc (Ext.alloc (Below.refl w.heap.size w) (.cells #[.int .u32 (id : Int),.int .i64 m',.int .i64 c,.int .i64 r,.int .i64 l,.int .i64 h] 24)) (.cells #[.int .u8 ((ki.toNat : Nat) : Int),.int .i64 a,.int .i64 y,.slice D bs.length dq] 28)
 have HR:=Lib.hid (hr.below t0)
 have HD:=Lib.hid (hd.below t0)
 have HNL:=Lib.hid hN
 clear hr hN hd hn hlast
 go_enter Try.func11,Try.ntmps11
 go_upto_region 1 with fail
 generalize (w.alloc (.cells #[.int .u32 (id : Int),.int .i64 m',.int .i64 c,.int .i64 r,.int .i64 l,.int .i64 h] 24)).alloc (.cells #[.int .u8 ((ki.toNat : Nat) : Int),.int .i64 a,.int .i64 y,.slice D bs.length dq] 28) = W at *
 have x0:=C0.cell
 go_wp2_with fail
 refine (HX.out _ HR.out).mono ?_
 rintro e w1 ⟨he,b1⟩
 have t1:=Ext.trans t0 b1
 have C1:=C0.next b1
 have A1:=A0.next b1
 clear x0
 rcases okbad_cases he with ⟨hk,rfl⟩ | ⟨hk,rfl⟩
 rotate_left
 · have hm : mv = ([],8):=by rw [HMV.out,if_neg];rw [HOK.out];exact hk
   subst hm
   clear he hk C1 A1
   go_wp2
   go_ret2
   exact ⟨FlRes.bad,t1⟩
 have HK : Hid (ok = true):=HOK.out.trans hk
 have HN8 : Hid (N ≤ 8):=by have:=HF8.out hk;have:=HNL.out;show _ ≤ _;omega
 have HR1:=Lib.hid (HR.out.below b1)
 have HD1:=Lib.hid (HD.out.below b1)
 clear he hk HX HF8 HR HD HOK C0 A0 t0 b1
 have x1:=C1.cell
 have y1:=A1.cell
 by_cases hcode : code = 0
 rotate_left
 · have HB:=Lib.hid (HBN'.out w1 (by rw [← HCD.out];exact hcode))
   rw [← HCD.out] at HB
   have e1 : (code != 0) = true:=by simpa using hcode
   go_wp2_with fail
   refine HB.out.mono ?_
   rintro e w2 ⟨rfl,b2⟩
   have t2:=Ext.trans t1 b2
   have hm : mv = ([],code):=by rw [HMV.out,if_pos HK.out,if_neg hcode]
   subst hm
   clear x1 y1 HB hcode b2 t1
   go_wp2
   go_ret2
   exact ⟨FlRes.bad,t2⟩
 obtain ⟨_,hpl,_,hy,ha,_⟩:=HC0.out (HCD.out.symm.trans hcode)
 obtain ⟨m,hm⟩ : ∃ m : Nat,y = (m : Int):=⟨y.toNat,by omega⟩
 have HB:=Lib.hid (HBC.out w1 (HCD.out.symm.trans hcode) m hm)
 have HM8 : Hid (m ≤ 8):=by show _ ≤ _;omega
 have HA : Hid (0 ≤ a ∧ a ≤ 1000):=ha
 have HMV2 : Hid (mv = if n < 1 ∨ n ≤ lastN fs then ([],2) else if fs.length = 8 then ([],9) else (fs ++ [newFl n ki a m bs last],0)):=by
  show _ = _
  rw [HMV.out,if_pos HK.out,if_pos hcode,hm,Int.toNat_natCast]
 subst hm
 clear hpl hy ha hcode HCD HBC HBN' HC0 HMV
 go_wp2_with fail
 refine HB.out.mono ?_
 rintro e w2 ⟨⟨Bk,ck,rfl⟩,b2⟩
 have t2:=Ext.trans t1 b2
 have C2:=C1.next b2
 have A2:=A1.next b2
 have HR2:=Lib.hid (HR1.out.below b2)
 have HD2:=Lib.hid (HD1.out.below b2)
 clear x1 y1 HB HR1 HD1 t1 b2 C1 A1 C2
 obtain ⟨bad,hbad⟩ : ∃ z : Bool,z = decide (n < 1 ∨ n ≤ lastN fs):=⟨_,rfl⟩
 have HBAD:=Lib.hid hbad
 clear hbad
 go_upto_region 7 with fail
 go_cut [49] (fun s49 wx=>s49 = .bool bad ∧ wx = w2)
 case first=>
  rcases Bool.eq_false_or_eq_true (decide (n < 1)) with e1 | e1
  · have hb : Hid (true = bad):=by (show _ = _);rw [HBAD.out];symm;exact decide_eq_true (.inl (of_decide_eq_true e1))
    go_wp2_with fail
    go_meet
    exact ⟨by rw [← hb.out],rfl⟩
  have HE1:=Lib.hid (of_decide_eq_false e1)
  rcases Nat.eq_zero_or_pos N with h0 | h0
  · have hb : Hid (false = bad):=by
     show _ = _
     rw [HBAD.out];symm
     refine decide_eq_false fun h=>?_
     have h1:=HE1.out
     have h2 : lastN fs = 0:=by
      have h3 : fs = []:=List.eq_nil_of_length_eq_zero (by rw [HNL.out,h0])
      rw [h3];rfl
     omega
    subst h0
    go_wp2_with fail
    go_meet
    exact ⟨by rw [← hb.out],rfl⟩
  · obtain ⟨K,hK⟩ : ∃ K,N = K + 1:=⟨N - 1,by omega⟩
    have hKf : K < fs.length:=by have:=HNL.out;omega
    have HLV:=Lib.hid (lastN_at (fs:=fs) (K:=K) (by have:=HNL.out;omega))
    obtain ⟨b,off,Ab,cb,As,cs,Aq,cq,Ax,cx,hB,q0,_⟩:=fl_at HR2.out hKf
    subst hB
    generalize fs[K] = g at *
    have hKN : K < N:=by omega
    have HW : wrap64 ((N : Int) - 1) = (K : Int):=by rw [show (N : Int) - 1 = (K : Int) by omega];exact IntWalk.wrap64_in _ (by have:=HN8.out;omega)
    have e0 : decide (0 < N) = true:=decide_eq_true h0
    have HKK:=Lib.hid hK
    clear hKf hK h0
    rcases Bool.eq_false_or_eq_true (decide (n ≤ fN g)) with e2 | e2
    · have hb : Hid (true = bad):=by (show _ = _);rw [HBAD.out];symm;exact decide_eq_true (.inr (by rw [HLV.out];exact of_decide_eq_true e2))
      go_wp2_with fail
      go_meet
      exact ⟨by rw [← hb.out],rfl⟩
    · have hb : Hid (false = bad):=by
       show _ = _
       rw [HBAD.out];symm
       refine decide_eq_false fun h=>?_
       have h1:=HE1.out
       have h2:=of_decide_eq_false e2
       rw [HLV.out] at h
       omega
      go_wp2_with fail
      go_meet
      exact ⟨by rw [← hb.out],rfl⟩
 case rest=>
  obtain ⟨rfl,rfl⟩:=hcut
  cases bad with
  | true=>
    have hm : mv = ([],2):=by rw [HMV2.out,if_pos (of_decide_eq_true HBAD.out.symm)]
    subst hm
    go_wp2
    go_ret2
    exact ⟨FlRes.bad,t2⟩
  | false=>
  have HMV3 : Hid (mv = if fs.length = 8 then ([],9) else (fs ++ [newFl n ki a m bs last],0)):=by
   show _ = _
   rw [HMV2.out,if_neg (of_decide_eq_false HBAD.out.symm)]
  clear HMV2 HBAD
  rcases Bool.eq_false_or_eq_true ((N : Int) == 8) with e1 | e1
  · have hm : mv = ([],9):=by rw [HMV3.out,if_pos];have:=HNL.out;simp at e1;omega
    subst hm
    go_wp2
    go_ret2
    exact ⟨FlRes.bad,t2⟩
  have HMV : Hid (mv = (fs ++ [newFl n ki a m bs last],0)):=by
   show _ = _
   rw [HMV3.out,if_neg];have:=HNL.out;simp at e1;omega
  clear HMV3
  go_upto_region 12 with fail
  clear e1
  obtain ⟨gA,hgA⟩ : ∃ z : Nat,z = w.heap.size + 1:=⟨_,rfl⟩
  rw [← hgA] at A2 ⊢
  clear hgA
  go_cut [16] (fun s16 wx=>AddMk wc n ki a (m : Int) D bs dq m s16 wx)
  case first=>
   have AD:=A2.drew
   refine wp_region_held_drew (S:=fun w'=>∀ o,w'.cell? ⟨gA,o,none⟩ = (#[.int .u8 ((ki.toNat : Nat) : Int),.int .i64 a,.int .i64 (m : Int),.slice D bs.length dq] : Array Value).toList[o]?) (by kernel_rfl) AD.cell (fun hS=>?_)
   have bd:=Ext.drew (Below.refl wc.heap.size wc)
   generalize wc.drew = wd at *
   have HS : Hid (∀ w',Below wd.heap.size wd w' → ∀ o,w'.cell? ⟨gA,o,none⟩ = (#[.int .u8 ((ki.toNat : Nat) : Int),.int .i64 a,.int .i64 (m : Int),.slice D bs.length dq] : Array Value).toList[o]?):=fun w' bb=>(AD.next bb).cell
   clear AD
   refine wpAnyH_take (i:=0) (v:=?_) rfl (by kernel_rfl) (by kernel_rfl) (by kernel_rfl) (fun _ _ _ h=>h) (Or.inl ⟨by rfl,?_⟩) hS ?_
   rotate_left
   · (intro w hSw;(try dsimp only at hSw);go_simp;(try with_reducible rfl))
   rotate_left
   simp only [Act.put,zq0,zq1,zq2,zq3,zq4,zq5]
   refine wpAnyH_take (i:=1) (v:=?_) rfl (by kernel_rfl) (by kernel_rfl) (by kernel_rfl) (fun _ _ _ h=>h) (Or.inl ⟨by rfl,?_⟩) hS ?_
   rotate_left
   · (intro w hSw;(try dsimp only at hSw);go_simp;(try with_reducible rfl))
   rotate_left
   simp only [Act.put,zq0,zq1,zq2,zq3,zq4,zq5]
   refine wpAnyH_take (i:=2) (v:=?_) rfl (by kernel_rfl) (by kernel_rfl) (by kernel_rfl) (fun _ _ _ h=>h) (Or.inl ⟨by rfl,?_⟩) hS ?_
   rotate_left
   · (intro w hSw;(try dsimp only at hSw);go_simp;(try with_reducible rfl))
   rotate_left
   simp only [Act.put,zq0,zq1,zq2,zq3,zq4,zq5]
   refine wpAnyH_take (i:=4) (v:=?_) rfl (by kernel_rfl) (by kernel_rfl) (by kernel_rfl) (fun _ _ _ h=>h) (Or.inl ⟨by rfl,?_⟩) hS ?_
   rotate_left
   · (intro w hSw;(try dsimp only at hSw);go_simp;(try with_reducible rfl))
   rotate_left
   simp only [Act.put,zq0,zq1,zq2,zq3,zq4,zq5]
   refine wpAnyH_take (i:=6) (v:=?_) rfl (by kernel_rfl) (by kernel_rfl) (by kernel_rfl) (fun _ _ _ h=>h) (Or.inl ⟨by rfl,?_⟩) hS ?_
   rotate_left
   · (intro w hSw;(try dsimp only at hSw);go_simp;(try with_reducible rfl))
   rotate_left
   simp only [Act.put,zq0,zq1,zq2,zq3,zq4,zq5]
   obtain ⟨vv,hvv⟩ : ∃ z : World,z = wd:=⟨_,rfl⟩
   have bv : Below wd.heap.size wd vv:=by rw [hvv];exact Below.refl _ _
   rw [← hvv] at hS ⊢
   clear hvv
   refine wpAnyH_ready (rs:=[3,5,7,9]) (by kernel_rfl) (by simp) ?_
   refine AllReadyH.cons rfl (fun K hK=>?_) (AllReadyH.cons rfl (fun K hK=>?_) (AllReadyH.cons rfl (fun K hK=>?_) (AllReadyH.cons rfl (fun K hK=>?_) AllReadyH.nil)))
   · rw [if_pos (by rfl)]
     refine wp_make_full vv (.tmp 57) (.tmp 57) 26 rfl vv.heap.size 5 iu (.int .u8 0) 1 Try.underlying26 hu hu0 hu1 .i64 .i64 (m : Int) (m : Int) m rfl rfl rfl rfl (by rw [hu2];have:=HM8.out;omega) (by have:=HM8.out;unfold maxLen;omega) (Nat.le_refl _) ?_
     intro vn own gr
     have bb:=Ext.grown (Below.refl _ _) gr (by simp)
     have R3:=NumRow.of_make own
     have Z:=Ext.trans bv bb
     clear bv
     have bv:=Z
     clear Z
     refine hK.out _ _ (HS.out _ bv) (fun hS'=>?_)
     clear hK K hS
     have hS:=hS'
     clear hS'
     try simp only [Act.put,zq0,zq1,zq2,zq3,zq4,zq5]
     clear bb own gr
     obtain ⟨g3,hgg⟩ : ∃ z : Nat,z = vv.heap.size:=⟨_,rfl⟩
     rw [← hgg] at R3 ⊢
     clear hgg vv
     obtain ⟨vv,hvv⟩ : ∃ z : World,z = vn:=⟨_,rfl⟩
     subst hvv
     refine wpAnyH_ready (rs:=[5,7,9]) (by kernel_rfl) (by simp) ?_
     refine AllReadyH.cons rfl (fun K hK=>?_) (AllReadyH.cons rfl (fun K hK=>?_) (AllReadyH.cons rfl (fun K hK=>?_) AllReadyH.nil))
     · rw [if_pos (by rfl)]
       refine wp_make_full vv (.tmp 59) (.tmp 59) 64 rfl vv.heap.size 22 iq (.int .u32 0) 1 Try.underlying64 hq hq0 hq1 .i64 .i64 (m : Int) (m : Int) m rfl rfl rfl rfl (by rw [hq2];have:=HM8.out;omega) (by have:=HM8.out;unfold maxLen;omega) (Nat.le_refl _) ?_
       intro vn own gr
       have bb:=Ext.grown (Below.refl _ _) gr (by simp)
       have R5:=NumRow.of_make own
       have Z:=R3.below bb
       clear R3
       have R3:=Z
       clear Z
       have Z:=Ext.trans bv bb
       clear bv
       have bv:=Z
       clear Z
       refine hK.out _ _ (HS.out _ bv) (fun hS'=>?_)
       clear hK K hS
       have hS:=hS'
       clear hS'
       try simp only [Act.put,zq0,zq1,zq2,zq3,zq4,zq5]
       clear bb own gr
       obtain ⟨g5,hgg⟩ : ∃ z : Nat,z = vv.heap.size:=⟨_,rfl⟩
       rw [← hgg] at R5 ⊢
       clear hgg vv
       obtain ⟨vv,hvv⟩ : ∃ z : World,z = vn:=⟨_,rfl⟩
       subst hvv
       refine wpAnyH_ready (rs:=[7,9]) (by kernel_rfl) (by simp) ?_
       refine AllReadyH.cons rfl (fun K hK=>?_) (AllReadyH.cons rfl (fun K hK=>?_) AllReadyH.nil)
       · rw [if_pos (by rfl)]
         refine wp_make_full vv (.tmp 61) (.tmp 61) 65 rfl vv.heap.size 26 ix (.slice none 0 0) 1 Try.underlying65 hx hx0 hx1 .i64 .i64 (m : Int) (m : Int) m rfl rfl rfl rfl (by rw [hx2];have:=HM8.out;omega) (by have:=HM8.out;unfold maxLen;omega) (Nat.le_refl _) ?_
         intro vn own gr
         have bb:=Ext.grown (Below.refl _ _) gr (by simp)
         have R7:=NumRow.of_make own
         have Z:=R3.below bb
         clear R3
         have R3:=Z
         clear Z
         have Z:=R5.below bb
         clear R5
         have R5:=Z
         clear Z
         have Z:=Ext.trans bv bb
         clear bv
         have bv:=Z
         clear Z
         refine hK.out _ _ (HS.out _ bv) (fun hS'=>?_)
         clear hK K hS
         have hS:=hS'
         clear hS'
         try simp only [Act.put,zq0,zq1,zq2,zq3,zq4,zq5]
         clear bb own gr
         obtain ⟨g7,hgg⟩ : ∃ z : Nat,z = vv.heap.size:=⟨_,rfl⟩
         rw [← hgg] at R7 ⊢
         clear hgg vv
         obtain ⟨vv,hvv⟩ : ∃ z : World,z = vn:=⟨_,rfl⟩
         subst hvv
         refine wpAnyH_take (i:=8) (v:=?_) rfl (by kernel_rfl) (by kernel_rfl) (by kernel_rfl) (fun _ _ _ h=>h) (Or.inl ⟨by rfl,?_⟩) hS ?_
         rotate_left
         · (intro w hSw;(try dsimp only at hSw);go_simp;(try with_reducible rfl))
         rotate_left
         simp only [Act.put,zq0,zq1,zq2,zq3,zq4,zq5]
         refine wpAnyH_ready (rs:=[9]) (by kernel_rfl) (by simp) ?_
         refine AllReadyH.cons rfl (fun K hK=>?_) AllReadyH.nil
         · rw [if_pos (by rfl)]
           go_simp
           have hgs:=bv.size
           have bb:=Ext.alloc (Below.refl vv.heap.size vv) (.cells #[.int .i64 0,.int .u8 0,.int .i64 0,.int .i64 0,.slice none 0 0,.slice none 0 0,.slice none 0 0,.slice none 0 0] 67)
           have BF:=BoxOf.new vv #[.int .i64 0,.int .u8 0,.int .i64 0,.int .i64 0,.slice none 0 0,.slice none 0 0,.slice none 0 0,.slice none 0 0] 67
           have Z:=R3.below bb
           clear R3
           have R3:=Z
           clear Z
           have Z:=R5.below bb
           clear R5
           have R5:=Z
           clear Z
           have Z:=R7.below bb
           clear R7
           have R7:=Z
           clear Z
           have Z:=Ext.trans bv bb
           clear bv
           have bv:=Z
           clear Z
           refine hK.out _ _ (HS.out _ bv) (fun hS'=>?_)
           clear hK K hS
           have hS:=hS'
           clear hS'
           try simp only [Act.put,zq0,zq1,zq2,zq3,zq4,zq5]
           clear bb
           obtain ⟨gf,hgf⟩ : ∃ z : Nat,z = vv.heap.size:=⟨_,rfl⟩
           rw [← hgf] at BF hgs ⊢
           clear hgf
           generalize vv.alloc (.cells #[.int .i64 0,.int .u8 0,.int .i64 0,.int .i64 0,.slice none 0 0,.slice none 0 0,.slice none 0 0,.slice none 0 0] 67) = vv at *
           refine wpAnyH_ready (rs:=[10]) (by kernel_rfl) (by simp) ?_
           refine AllReadyH.cons rfl (fun K hK=>?_) AllReadyH.nil
           rw [if_pos (by rfl)]
           refine wp_store_row 67 (.tmp 16) (.tmp 63) rfl gf #[.int .i64 n,.int .u8 ((ki.toNat : Nat) : Int),.int .i64 a,.int .i64 (m : Int),.slice D bs.length dq,.slice (some ⟨g3,0,none⟩) m m,.slice (some ⟨g5,0,none⟩) m m,.slice (some ⟨g7,0,none⟩) m m] rfl rfl 67 #[.int .i64 0,.int .u8 0,.int .i64 0,.int .i64 0,.slice none 0 0,.slice none 0 0,.slice none 0 0,.slice none 0 0] BF (by kernel_rfl) rfl (by kernel_rfl) ?_
           have BG:=BF.set #[.int .i64 n,.int .u8 ((ki.toNat : Nat) : Int),.int .i64 a,.int .i64 (m : Int),.slice D bs.length dq,.slice (some ⟨g3,0,none⟩) m m,.slice (some ⟨g5,0,none⟩) m m,.slice (some ⟨g7,0,none⟩) m m]
           have S3:=R3.setRow BF (by decide) #[.int .i64 n,.int .u8 ((ki.toNat : Nat) : Int),.int .i64 a,.int .i64 (m : Int),.slice D bs.length dq,.slice (some ⟨g3,0,none⟩) m m,.slice (some ⟨g5,0,none⟩) m m,.slice (some ⟨g7,0,none⟩) m m]
           have S5:=R5.setRow BF (by decide) #[.int .i64 n,.int .u8 ((ki.toNat : Nat) : Int),.int .i64 a,.int .i64 (m : Int),.slice D bs.length dq,.slice (some ⟨g3,0,none⟩) m m,.slice (some ⟨g5,0,none⟩) m m,.slice (some ⟨g7,0,none⟩) m m]
           have S7:=R7.setRow BF (by decide) #[.int .i64 n,.int .u8 ((ki.toNat : Nat) : Int),.int .i64 a,.int .i64 (m : Int),.slice D bs.length dq,.slice (some ⟨g3,0,none⟩) m m,.slice (some ⟨g5,0,none⟩) m m,.slice (some ⟨g7,0,none⟩) m m]
           have bw:=Ext.setRow bv hgs #[.int .i64 n,.int .u8 ((ki.toNat : Nat) : Int),.int .i64 a,.int .i64 (m : Int),.slice D bs.length dq,.slice (some ⟨g3,0,none⟩) m m,.slice (some ⟨g5,0,none⟩) m m,.slice (some ⟨g7,0,none⟩) m m]
           clear BF R3 R5 R7 bv
           have hgs:=hgs
           generalize vv.setRow gf #[.int .i64 n,.int .u8 ((ki.toNat : Nat) : Int),.int .i64 a,.int .i64 (m : Int),.slice D bs.length dq,.slice (some ⟨g3,0,none⟩) m m,.slice (some ⟨g5,0,none⟩) m m,.slice (some ⟨g7,0,none⟩) m m] = vw at *
           refine hK.out _ _ (HS.out _ bw) (fun hS'=>?_)
           clear hK K hS hS'
           try simp only [Act.put,zq0,zq1,zq2,zq3,zq4,zq5]
           refine wpAnyH_done (by kernel_rfl) ?_ _
           go_wp2_with fail
           go_meet
           exact ⟨g3,g5,g7,gf,rfl,BG,S3,S5,S7,Ext.trans bd bw,Nat.le_trans bd.size hgs⟩
       · rw [if_pos (by rfl)]
         go_simp
         have hgs:=bv.size
         have bb:=Ext.alloc (Below.refl vv.heap.size vv) (.cells #[.int .i64 0,.int .u8 0,.int .i64 0,.int .i64 0,.slice none 0 0,.slice none 0 0,.slice none 0 0,.slice none 0 0] 67)
         have BF:=BoxOf.new vv #[.int .i64 0,.int .u8 0,.int .i64 0,.int .i64 0,.slice none 0 0,.slice none 0 0,.slice none 0 0,.slice none 0 0] 67
         have Z:=R3.below bb
         clear R3
         have R3:=Z
         clear Z
         have Z:=R5.below bb
         clear R5
         have R5:=Z
         clear Z
         have Z:=Ext.trans bv bb
         clear bv
         have bv:=Z
         clear Z
         refine hK.out _ _ (HS.out _ bv) (fun hS'=>?_)
         clear hK K hS
         have hS:=hS'
         clear hS'
         try simp only [Act.put,zq0,zq1,zq2,zq3,zq4,zq5]
         clear bb
         obtain ⟨gf,hgf⟩ : ∃ z : Nat,z = vv.heap.size:=⟨_,rfl⟩
         rw [← hgf] at BF hgs ⊢
         clear hgf
         generalize vv.alloc (.cells #[.int .i64 0,.int .u8 0,.int .i64 0,.int .i64 0,.slice none 0 0,.slice none 0 0,.slice none 0 0,.slice none 0 0] 67) = vv at *
         refine wpAnyH_ready (rs:=[7]) (by kernel_rfl) (by simp) ?_
         refine AllReadyH.cons rfl (fun K hK=>?_) AllReadyH.nil
         · rw [if_pos (by rfl)]
           refine wp_make_full vv (.tmp 61) (.tmp 61) 65 rfl vv.heap.size 26 ix (.slice none 0 0) 1 Try.underlying65 hx hx0 hx1 .i64 .i64 (m : Int) (m : Int) m rfl rfl rfl rfl (by rw [hx2];have:=HM8.out;omega) (by have:=HM8.out;unfold maxLen;omega) (Nat.le_refl _) ?_
           intro vn own gr
           have bb:=Ext.grown (Below.refl _ _) gr (by simp)
           have R7:=NumRow.of_make own
           have Z:=R3.below bb
           clear R3
           have R3:=Z
           clear Z
           have Z:=R5.below bb
           clear R5
           have R5:=Z
           clear Z
           have Z:=BF.next bb
           clear BF
           have BF:=Z
           clear Z
           have Z:=Ext.trans bv bb
           clear bv
           have bv:=Z
           clear Z
           refine hK.out _ _ (HS.out _ bv) (fun hS'=>?_)
           clear hK K hS
           have hS:=hS'
           clear hS'
           try simp only [Act.put,zq0,zq1,zq2,zq3,zq4,zq5]
           clear bb own gr
           obtain ⟨g7,hgg⟩ : ∃ z : Nat,z = vv.heap.size:=⟨_,rfl⟩
           rw [← hgg] at R7 ⊢
           clear hgg vv
           obtain ⟨vv,hvv⟩ : ∃ z : World,z = vn:=⟨_,rfl⟩
           subst hvv
           refine wpAnyH_take (i:=8) (v:=?_) rfl (by kernel_rfl) (by kernel_rfl) (by kernel_rfl) (fun _ _ _ h=>h) (Or.inl ⟨by rfl,?_⟩) hS ?_
           rotate_left
           · (intro w hSw;(try dsimp only at hSw);go_simp;(try with_reducible rfl))
           rotate_left
           simp only [Act.put,zq0,zq1,zq2,zq3,zq4,zq5]
           refine wpAnyH_ready (rs:=[10]) (by kernel_rfl) (by simp) ?_
           refine AllReadyH.cons rfl (fun K hK=>?_) AllReadyH.nil
           rw [if_pos (by rfl)]
           refine wp_store_row 67 (.tmp 16) (.tmp 63) rfl gf #[.int .i64 n,.int .u8 ((ki.toNat : Nat) : Int),.int .i64 a,.int .i64 (m : Int),.slice D bs.length dq,.slice (some ⟨g3,0,none⟩) m m,.slice (some ⟨g5,0,none⟩) m m,.slice (some ⟨g7,0,none⟩) m m] rfl rfl 67 #[.int .i64 0,.int .u8 0,.int .i64 0,.int .i64 0,.slice none 0 0,.slice none 0 0,.slice none 0 0,.slice none 0 0] BF (by kernel_rfl) rfl (by kernel_rfl) ?_
           have BG:=BF.set #[.int .i64 n,.int .u8 ((ki.toNat : Nat) : Int),.int .i64 a,.int .i64 (m : Int),.slice D bs.length dq,.slice (some ⟨g3,0,none⟩) m m,.slice (some ⟨g5,0,none⟩) m m,.slice (some ⟨g7,0,none⟩) m m]
           have S3:=R3.setRow BF (by decide) #[.int .i64 n,.int .u8 ((ki.toNat : Nat) : Int),.int .i64 a,.int .i64 (m : Int),.slice D bs.length dq,.slice (some ⟨g3,0,none⟩) m m,.slice (some ⟨g5,0,none⟩) m m,.slice (some ⟨g7,0,none⟩) m m]
           have S5:=R5.setRow BF (by decide) #[.int .i64 n,.int .u8 ((ki.toNat : Nat) : Int),.int .i64 a,.int .i64 (m : Int),.slice D bs.length dq,.slice (some ⟨g3,0,none⟩) m m,.slice (some ⟨g5,0,none⟩) m m,.slice (some ⟨g7,0,none⟩) m m]
           have S7:=R7.setRow BF (by decide) #[.int .i64 n,.int .u8 ((ki.toNat : Nat) : Int),.int .i64 a,.int .i64 (m : Int),.slice D bs.length dq,.slice (some ⟨g3,0,none⟩) m m,.slice (some ⟨g5,0,none⟩) m m,.slice (some ⟨g7,0,none⟩) m m]
           have bw:=Ext.setRow bv hgs #[.int .i64 n,.int .u8 ((ki.toNat : Nat) : Int),.int .i64 a,.int .i64 (m : Int),.slice D bs.length dq,.slice (some ⟨g3,0,none⟩) m m,.slice (some ⟨g5,0,none⟩) m m,.slice (some ⟨g7,0,none⟩) m m]
           clear BF R3 R5 R7 bv
           have hgs:=hgs
           generalize vv.setRow gf #[.int .i64 n,.int .u8 ((ki.toNat : Nat) : Int),.int .i64 a,.int .i64 (m : Int),.slice D bs.length dq,.slice (some ⟨g3,0,none⟩) m m,.slice (some ⟨g5,0,none⟩) m m,.slice (some ⟨g7,0,none⟩) m m] = vw at *
           refine hK.out _ _ (HS.out _ bw) (fun hS'=>?_)
           clear hK K hS hS'
           try simp only [Act.put,zq0,zq1,zq2,zq3,zq4,zq5]
           refine wpAnyH_done (by kernel_rfl) ?_ _
           go_wp2_with fail
           go_meet
           exact ⟨g3,g5,g7,gf,rfl,BG,S3,S5,S7,Ext.trans bd bw,Nat.le_trans bd.size hgs⟩
     · rw [if_pos (by rfl)]
       refine wp_make_full vv (.tmp 61) (.tmp 61) 65 rfl vv.heap.size 26 ix (.slice none 0 0) 1 Try.underlying65 hx hx0 hx1 .i64 .i64 (m : Int) (m : Int) m rfl rfl rfl rfl (by rw [hx2];have:=HM8.out;omega) (by have:=HM8.out;unfold maxLen;omega) (Nat.le_refl _) ?_
       intro vn own gr
       have bb:=Ext.grown (Below.refl _ _) gr (by simp)
       have R7:=NumRow.of_make own
       have Z:=R3.below bb
       clear R3
       have R3:=Z
       clear Z
       have Z:=Ext.trans bv bb
       clear bv
       have bv:=Z
       clear Z
       refine hK.out _ _ (HS.out _ bv) (fun hS'=>?_)
       clear hK K hS
       have hS:=hS'
       clear hS'
       try simp only [Act.put,zq0,zq1,zq2,zq3,zq4,zq5]
       clear bb own gr
       obtain ⟨g7,hgg⟩ : ∃ z : Nat,z = vv.heap.size:=⟨_,rfl⟩
       rw [← hgg] at R7 ⊢
       clear hgg vv
       obtain ⟨vv,hvv⟩ : ∃ z : World,z = vn:=⟨_,rfl⟩
       subst hvv
       refine wpAnyH_ready (rs:=[5,9]) (by kernel_rfl) (by simp) ?_
       refine AllReadyH.cons rfl (fun K hK=>?_) (AllReadyH.cons rfl (fun K hK=>?_) AllReadyH.nil)
       · rw [if_pos (by rfl)]
         refine wp_make_full vv (.tmp 59) (.tmp 59) 64 rfl vv.heap.size 22 iq (.int .u32 0) 1 Try.underlying64 hq hq0 hq1 .i64 .i64 (m : Int) (m : Int) m rfl rfl rfl rfl (by rw [hq2];have:=HM8.out;omega) (by have:=HM8.out;unfold maxLen;omega) (Nat.le_refl _) ?_
         intro vn own gr
         have bb:=Ext.grown (Below.refl _ _) gr (by simp)
         have R5:=NumRow.of_make own
         have Z:=R3.below bb
         clear R3
         have R3:=Z
         clear Z
         have Z:=R7.below bb
         clear R7
         have R7:=Z
         clear Z
         have Z:=Ext.trans bv bb
         clear bv
         have bv:=Z
         clear Z
         refine hK.out _ _ (HS.out _ bv) (fun hS'=>?_)
         clear hK K hS
         have hS:=hS'
         clear hS'
         try simp only [Act.put,zq0,zq1,zq2,zq3,zq4,zq5]
         clear bb own gr
         obtain ⟨g5,hgg⟩ : ∃ z : Nat,z = vv.heap.size:=⟨_,rfl⟩
         rw [← hgg] at R5 ⊢
         clear hgg vv
         obtain ⟨vv,hvv⟩ : ∃ z : World,z = vn:=⟨_,rfl⟩
         subst hvv
         refine wpAnyH_take (i:=8) (v:=?_) rfl (by kernel_rfl) (by kernel_rfl) (by kernel_rfl) (fun _ _ _ h=>h) (Or.inl ⟨by rfl,?_⟩) hS ?_
         rotate_left
         · (intro w hSw;(try dsimp only at hSw);go_simp;(try with_reducible rfl))
         rotate_left
         simp only [Act.put,zq0,zq1,zq2,zq3,zq4,zq5]
         refine wpAnyH_ready (rs:=[9]) (by kernel_rfl) (by simp) ?_
         refine AllReadyH.cons rfl (fun K hK=>?_) AllReadyH.nil
         · rw [if_pos (by rfl)]
           go_simp
           have hgs:=bv.size
           have bb:=Ext.alloc (Below.refl vv.heap.size vv) (.cells #[.int .i64 0,.int .u8 0,.int .i64 0,.int .i64 0,.slice none 0 0,.slice none 0 0,.slice none 0 0,.slice none 0 0] 67)
           have BF:=BoxOf.new vv #[.int .i64 0,.int .u8 0,.int .i64 0,.int .i64 0,.slice none 0 0,.slice none 0 0,.slice none 0 0,.slice none 0 0] 67
           have Z:=R3.below bb
           clear R3
           have R3:=Z
           clear Z
           have Z:=R5.below bb
           clear R5
           have R5:=Z
           clear Z
           have Z:=R7.below bb
           clear R7
           have R7:=Z
           clear Z
           have Z:=Ext.trans bv bb
           clear bv
           have bv:=Z
           clear Z
           refine hK.out _ _ (HS.out _ bv) (fun hS'=>?_)
           clear hK K hS
           have hS:=hS'
           clear hS'
           try simp only [Act.put,zq0,zq1,zq2,zq3,zq4,zq5]
           clear bb
           obtain ⟨gf,hgf⟩ : ∃ z : Nat,z = vv.heap.size:=⟨_,rfl⟩
           rw [← hgf] at BF hgs ⊢
           clear hgf
           generalize vv.alloc (.cells #[.int .i64 0,.int .u8 0,.int .i64 0,.int .i64 0,.slice none 0 0,.slice none 0 0,.slice none 0 0,.slice none 0 0] 67) = vv at *
           refine wpAnyH_ready (rs:=[10]) (by kernel_rfl) (by simp) ?_
           refine AllReadyH.cons rfl (fun K hK=>?_) AllReadyH.nil
           rw [if_pos (by rfl)]
           refine wp_store_row 67 (.tmp 16) (.tmp 63) rfl gf #[.int .i64 n,.int .u8 ((ki.toNat : Nat) : Int),.int .i64 a,.int .i64 (m : Int),.slice D bs.length dq,.slice (some ⟨g3,0,none⟩) m m,.slice (some ⟨g5,0,none⟩) m m,.slice (some ⟨g7,0,none⟩) m m] rfl rfl 67 #[.int .i64 0,.int .u8 0,.int .i64 0,.int .i64 0,.slice none 0 0,.slice none 0 0,.slice none 0 0,.slice none 0 0] BF (by kernel_rfl) rfl (by kernel_rfl) ?_
           have BG:=BF.set #[.int .i64 n,.int .u8 ((ki.toNat : Nat) : Int),.int .i64 a,.int .i64 (m : Int),.slice D bs.length dq,.slice (some ⟨g3,0,none⟩) m m,.slice (some ⟨g5,0,none⟩) m m,.slice (some ⟨g7,0,none⟩) m m]
           have S3:=R3.setRow BF (by decide) #[.int .i64 n,.int .u8 ((ki.toNat : Nat) : Int),.int .i64 a,.int .i64 (m : Int),.slice D bs.length dq,.slice (some ⟨g3,0,none⟩) m m,.slice (some ⟨g5,0,none⟩) m m,.slice (some ⟨g7,0,none⟩) m m]
           have S5:=R5.setRow BF (by decide) #[.int .i64 n,.int .u8 ((ki.toNat : Nat) : Int),.int .i64 a,.int .i64 (m : Int),.slice D bs.length dq,.slice (some ⟨g3,0,none⟩) m m,.slice (some ⟨g5,0,none⟩) m m,.slice (some ⟨g7,0,none⟩) m m]
           have S7:=R7.setRow BF (by decide) #[.int .i64 n,.int .u8 ((ki.toNat : Nat) : Int),.int .i64 a,.int .i64 (m : Int),.slice D bs.length dq,.slice (some ⟨g3,0,none⟩) m m,.slice (some ⟨g5,0,none⟩) m m,.slice (some ⟨g7,0,none⟩) m m]
           have bw:=Ext.setRow bv hgs #[.int .i64 n,.int .u8 ((ki.toNat : Nat) : Int),.int .i64 a,.int .i64 (m : Int),.slice D bs.length dq,.slice (some ⟨g3,0,none⟩) m m,.slice (some ⟨g5,0,none⟩) m m,.slice (some ⟨g7,0,none⟩) m m]
           clear BF R3 R5 R7 bv
           have hgs:=hgs
           generalize vv.setRow gf #[.int .i64 n,.int .u8 ((ki.toNat : Nat) : Int),.int .i64 a,.int .i64 (m : Int),.slice D bs.length dq,.slice (some ⟨g3,0,none⟩) m m,.slice (some ⟨g5,0,none⟩) m m,.slice (some ⟨g7,0,none⟩) m m] = vw at *
           refine hK.out _ _ (HS.out _ bw) (fun hS'=>?_)
           clear hK K hS hS'
           try simp only [Act.put,zq0,zq1,zq2,zq3,zq4,zq5]
           refine wpAnyH_done (by kernel_rfl) ?_ _
           go_wp2_with fail
           go_meet
           exact ⟨g3,g5,g7,gf,rfl,BG,S3,S5,S7,Ext.trans bd bw,Nat.le_trans bd.size hgs⟩
       · rw [if_pos (by rfl)]
         go_simp
         have hgs:=bv.size
         have bb:=Ext.alloc (Below.refl vv.heap.size vv) (.cells #[.int .i64 0,.int .u8 0,.int .i64 0,.int .i64 0,.slice none 0 0,.slice none 0 0,.slice none 0 0,.slice none 0 0] 67)
         have BF:=BoxOf.new vv #[.int .i64 0,.int .u8 0,.int .i64 0,.int .i64 0,.slice none 0 0,.slice none 0 0,.slice none 0 0,.slice none 0 0] 67
         have Z:=R3.below bb
         clear R3
         have R3:=Z
         clear Z
         have Z:=R7.below bb
         clear R7
         have R7:=Z
         clear Z
         have Z:=Ext.trans bv bb
         clear bv
         have bv:=Z
         clear Z
         refine hK.out _ _ (HS.out _ bv) (fun hS'=>?_)
         clear hK K hS
         have hS:=hS'
         clear hS'
         try simp only [Act.put,zq0,zq1,zq2,zq3,zq4,zq5]
         clear bb
         obtain ⟨gf,hgf⟩ : ∃ z : Nat,z = vv.heap.size:=⟨_,rfl⟩
         rw [← hgf] at BF hgs ⊢
         clear hgf
         generalize vv.alloc (.cells #[.int .i64 0,.int .u8 0,.int .i64 0,.int .i64 0,.slice none 0 0,.slice none 0 0,.slice none 0 0,.slice none 0 0] 67) = vv at *
         refine wpAnyH_ready (rs:=[5]) (by kernel_rfl) (by simp) ?_
         refine AllReadyH.cons rfl (fun K hK=>?_) AllReadyH.nil
         · rw [if_pos (by rfl)]
           refine wp_make_full vv (.tmp 59) (.tmp 59) 64 rfl vv.heap.size 22 iq (.int .u32 0) 1 Try.underlying64 hq hq0 hq1 .i64 .i64 (m : Int) (m : Int) m rfl rfl rfl rfl (by rw [hq2];have:=HM8.out;omega) (by have:=HM8.out;unfold maxLen;omega) (Nat.le_refl _) ?_
           intro vn own gr
           have bb:=Ext.grown (Below.refl _ _) gr (by simp)
           have R5:=NumRow.of_make own
           have Z:=R3.below bb
           clear R3
           have R3:=Z
           clear Z
           have Z:=R7.below bb
           clear R7
           have R7:=Z
           clear Z
           have Z:=BF.next bb
           clear BF
           have BF:=Z
           clear Z
           have Z:=Ext.trans bv bb
           clear bv
           have bv:=Z
           clear Z
           refine hK.out _ _ (HS.out _ bv) (fun hS'=>?_)
           clear hK K hS
           have hS:=hS'
           clear hS'
           try simp only [Act.put,zq0,zq1,zq2,zq3,zq4,zq5]
           clear bb own gr
           obtain ⟨g5,hgg⟩ : ∃ z : Nat,z = vv.heap.size:=⟨_,rfl⟩
           rw [← hgg] at R5 ⊢
           clear hgg vv
           obtain ⟨vv,hvv⟩ : ∃ z : World,z = vn:=⟨_,rfl⟩
           subst hvv
           refine wpAnyH_take (i:=8) (v:=?_) rfl (by kernel_rfl) (by kernel_rfl) (by kernel_rfl) (fun _ _ _ h=>h) (Or.inl ⟨by rfl,?_⟩) hS ?_
           rotate_left
           · (intro w hSw;(try dsimp only at hSw);go_simp;(try with_reducible rfl))
           rotate_left
           simp only [Act.put,zq0,zq1,zq2,zq3,zq4,zq5]
           refine wpAnyH_ready (rs:=[10]) (by kernel_rfl) (by simp) ?_
           refine AllReadyH.cons rfl (fun K hK=>?_) AllReadyH.nil
           rw [if_pos (by rfl)]
           refine wp_store_row 67 (.tmp 16) (.tmp 63) rfl gf #[.int .i64 n,.int .u8 ((ki.toNat : Nat) : Int),.int .i64 a,.int .i64 (m : Int),.slice D bs.length dq,.slice (some ⟨g3,0,none⟩) m m,.slice (some ⟨g5,0,none⟩) m m,.slice (some ⟨g7,0,none⟩) m m] rfl rfl 67 #[.int .i64 0,.int .u8 0,.int .i64 0,.int .i64 0,.slice none 0 0,.slice none 0 0,.slice none 0 0,.slice none 0 0] BF (by kernel_rfl) rfl (by kernel_rfl) ?_
           have BG:=BF.set #[.int .i64 n,.int .u8 ((ki.toNat : Nat) : Int),.int .i64 a,.int .i64 (m : Int),.slice D bs.length dq,.slice (some ⟨g3,0,none⟩) m m,.slice (some ⟨g5,0,none⟩) m m,.slice (some ⟨g7,0,none⟩) m m]
           have S3:=R3.setRow BF (by decide) #[.int .i64 n,.int .u8 ((ki.toNat : Nat) : Int),.int .i64 a,.int .i64 (m : Int),.slice D bs.length dq,.slice (some ⟨g3,0,none⟩) m m,.slice (some ⟨g5,0,none⟩) m m,.slice (some ⟨g7,0,none⟩) m m]
           have S5:=R5.setRow BF (by decide) #[.int .i64 n,.int .u8 ((ki.toNat : Nat) : Int),.int .i64 a,.int .i64 (m : Int),.slice D bs.length dq,.slice (some ⟨g3,0,none⟩) m m,.slice (some ⟨g5,0,none⟩) m m,.slice (some ⟨g7,0,none⟩) m m]
           have S7:=R7.setRow BF (by decide) #[.int .i64 n,.int .u8 ((ki.toNat : Nat) : Int),.int .i64 a,.int .i64 (m : Int),.slice D bs.length dq,.slice (some ⟨g3,0,none⟩) m m,.slice (some ⟨g5,0,none⟩) m m,.slice (some ⟨g7,0,none⟩) m m]
           have bw:=Ext.setRow bv hgs #[.int .i64 n,.int .u8 ((ki.toNat : Nat) : Int),.int .i64 a,.int .i64 (m : Int),.slice D bs.length dq,.slice (some ⟨g3,0,none⟩) m m,.slice (some ⟨g5,0,none⟩) m m,.slice (some ⟨g7,0,none⟩) m m]
           clear BF R3 R5 R7 bv
           have hgs:=hgs
           generalize vv.setRow gf #[.int .i64 n,.int .u8 ((ki.toNat : Nat) : Int),.int .i64 a,.int .i64 (m : Int),.slice D bs.length dq,.slice (some ⟨g3,0,none⟩) m m,.slice (some ⟨g5,0,none⟩) m m,.slice (some ⟨g7,0,none⟩) m m] = vw at *
           refine hK.out _ _ (HS.out _ bw) (fun hS'=>?_)
           clear hK K hS hS'
           try simp only [Act.put,zq0,zq1,zq2,zq3,zq4,zq5]
           refine wpAnyH_done (by kernel_rfl) ?_ _
           go_wp2_with fail
           go_meet
           exact ⟨g3,g5,g7,gf,rfl,BG,S3,S5,S7,Ext.trans bd bw,Nat.le_trans bd.size hgs⟩
     · rw [if_pos (by rfl)]
       go_simp
       have hgs:=bv.size
       have bb:=Ext.alloc (Below.refl vv.heap.size vv) (.cells #[.int .i64 0,.int .u8 0,.int .i64 0,.int .i64 0,.slice none 0 0,.slice none 0 0,.slice none 0 0,.slice none 0 0] 67)
       have BF:=BoxOf.new vv #[.int .i64 0,.int .u8 0,.int .i64 0,.int .i64 0,.slice none 0 0,.slice none 0 0,.slice none 0 0,.slice none 0 0] 67
       have Z:=R3.below bb
       clear R3
       have R3:=Z
       clear Z
       have Z:=Ext.trans bv bb
       clear bv
       have bv:=Z
       clear Z
       refine hK.out _ _ (HS.out _ bv) (fun hS'=>?_)
       clear hK K hS
       have hS:=hS'
       clear hS'
       try simp only [Act.put,zq0,zq1,zq2,zq3,zq4,zq5]
       clear bb
       obtain ⟨gf,hgf⟩ : ∃ z : Nat,z = vv.heap.size:=⟨_,rfl⟩
       rw [← hgf] at BF hgs ⊢
       clear hgf
       generalize vv.alloc (.cells #[.int .i64 0,.int .u8 0,.int .i64 0,.int .i64 0,.slice none 0 0,.slice none 0 0,.slice none 0 0,.slice none 0 0] 67) = vv at *
       refine wpAnyH_ready (rs:=[5,7]) (by kernel_rfl) (by simp) ?_
       refine AllReadyH.cons rfl (fun K hK=>?_) (AllReadyH.cons rfl (fun K hK=>?_) AllReadyH.nil)
       · rw [if_pos (by rfl)]
         refine wp_make_full vv (.tmp 59) (.tmp 59) 64 rfl vv.heap.size 22 iq (.int .u32 0) 1 Try.underlying64 hq hq0 hq1 .i64 .i64 (m : Int) (m : Int) m rfl rfl rfl rfl (by rw [hq2];have:=HM8.out;omega) (by have:=HM8.out;unfold maxLen;omega) (Nat.le_refl _) ?_
         intro vn own gr
         have bb:=Ext.grown (Below.refl _ _) gr (by simp)
         have R5:=NumRow.of_make own
         have Z:=R3.below bb
         clear R3
         have R3:=Z
         clear Z
         have Z:=BF.next bb
         clear BF
         have BF:=Z
         clear Z
         have Z:=Ext.trans bv bb
         clear bv
         have bv:=Z
         clear Z
         refine hK.out _ _ (HS.out _ bv) (fun hS'=>?_)
         clear hK K hS
         have hS:=hS'
         clear hS'
         try simp only [Act.put,zq0,zq1,zq2,zq3,zq4,zq5]
         clear bb own gr
         obtain ⟨g5,hgg⟩ : ∃ z : Nat,z = vv.heap.size:=⟨_,rfl⟩
         rw [← hgg] at R5 ⊢
         clear hgg vv
         obtain ⟨vv,hvv⟩ : ∃ z : World,z = vn:=⟨_,rfl⟩
         subst hvv
         refine wpAnyH_ready (rs:=[7]) (by kernel_rfl) (by simp) ?_
         refine AllReadyH.cons rfl (fun K hK=>?_) AllReadyH.nil
         · rw [if_pos (by rfl)]
           refine wp_make_full vv (.tmp 61) (.tmp 61) 65 rfl vv.heap.size 26 ix (.slice none 0 0) 1 Try.underlying65 hx hx0 hx1 .i64 .i64 (m : Int) (m : Int) m rfl rfl rfl rfl (by rw [hx2];have:=HM8.out;omega) (by have:=HM8.out;unfold maxLen;omega) (Nat.le_refl _) ?_
           intro vn own gr
           have bb:=Ext.grown (Below.refl _ _) gr (by simp)
           have R7:=NumRow.of_make own
           have Z:=R3.below bb
           clear R3
           have R3:=Z
           clear Z
           have Z:=R5.below bb
           clear R5
           have R5:=Z
           clear Z
           have Z:=BF.next bb
           clear BF
           have BF:=Z
           clear Z
           have Z:=Ext.trans bv bb
           clear bv
           have bv:=Z
           clear Z
           refine hK.out _ _ (HS.out _ bv) (fun hS'=>?_)
           clear hK K hS
           have hS:=hS'
           clear hS'
           try simp only [Act.put,zq0,zq1,zq2,zq3,zq4,zq5]
           clear bb own gr
           obtain ⟨g7,hgg⟩ : ∃ z : Nat,z = vv.heap.size:=⟨_,rfl⟩
           rw [← hgg] at R7 ⊢
           clear hgg vv
           obtain ⟨vv,hvv⟩ : ∃ z : World,z = vn:=⟨_,rfl⟩
           subst hvv
           refine wpAnyH_take (i:=8) (v:=?_) rfl (by kernel_rfl) (by kernel_rfl) (by kernel_rfl) (fun _ _ _ h=>h) (Or.inl ⟨by rfl,?_⟩) hS ?_
           rotate_left
           · (intro w hSw;(try dsimp only at hSw);go_simp;(try with_reducible rfl))
           rotate_left
           simp only [Act.put,zq0,zq1,zq2,zq3,zq4,zq5]
           refine wpAnyH_ready (rs:=[10]) (by kernel_rfl) (by simp) ?_
           refine AllReadyH.cons rfl (fun K hK=>?_) AllReadyH.nil
           rw [if_pos (by rfl)]
           refine wp_store_row 67 (.tmp 16) (.tmp 63) rfl gf #[.int .i64 n,.int .u8 ((ki.toNat : Nat) : Int),.int .i64 a,.int .i64 (m : Int),.slice D bs.length dq,.slice (some ⟨g3,0,none⟩) m m,.slice (some ⟨g5,0,none⟩) m m,.slice (some ⟨g7,0,none⟩) m m] rfl rfl 67 #[.int .i64 0,.int .u8 0,.int .i64 0,.int .i64 0,.slice none 0 0,.slice none 0 0,.slice none 0 0,.slice none 0 0] BF (by kernel_rfl) rfl (by kernel_rfl) ?_
           have BG:=BF.set #[.int .i64 n,.int .u8 ((ki.toNat : Nat) : Int),.int .i64 a,.int .i64 (m : Int),.slice D bs.length dq,.slice (some ⟨g3,0,none⟩) m m,.slice (some ⟨g5,0,none⟩) m m,.slice (some ⟨g7,0,none⟩) m m]
           have S3:=R3.setRow BF (by decide) #[.int .i64 n,.int .u8 ((ki.toNat : Nat) : Int),.int .i64 a,.int .i64 (m : Int),.slice D bs.length dq,.slice (some ⟨g3,0,none⟩) m m,.slice (some ⟨g5,0,none⟩) m m,.slice (some ⟨g7,0,none⟩) m m]
           have S5:=R5.setRow BF (by decide) #[.int .i64 n,.int .u8 ((ki.toNat : Nat) : Int),.int .i64 a,.int .i64 (m : Int),.slice D bs.length dq,.slice (some ⟨g3,0,none⟩) m m,.slice (some ⟨g5,0,none⟩) m m,.slice (some ⟨g7,0,none⟩) m m]
           have S7:=R7.setRow BF (by decide) #[.int .i64 n,.int .u8 ((ki.toNat : Nat) : Int),.int .i64 a,.int .i64 (m : Int),.slice D bs.length dq,.slice (some ⟨g3,0,none⟩) m m,.slice (some ⟨g5,0,none⟩) m m,.slice (some ⟨g7,0,none⟩) m m]
           have bw:=Ext.setRow bv hgs #[.int .i64 n,.int .u8 ((ki.toNat : Nat) : Int),.int .i64 a,.int .i64 (m : Int),.slice D bs.length dq,.slice (some ⟨g3,0,none⟩) m m,.slice (some ⟨g5,0,none⟩) m m,.slice (some ⟨g7,0,none⟩) m m]
           clear BF R3 R5 R7 bv
           have hgs:=hgs
           generalize vv.setRow gf #[.int .i64 n,.int .u8 ((ki.toNat : Nat) : Int),.int .i64 a,.int .i64 (m : Int),.slice D bs.length dq,.slice (some ⟨g3,0,none⟩) m m,.slice (some ⟨g5,0,none⟩) m m,.slice (some ⟨g7,0,none⟩) m m] = vw at *
           refine hK.out _ _ (HS.out _ bw) (fun hS'=>?_)
           clear hK K hS hS'
           try simp only [Act.put,zq0,zq1,zq2,zq3,zq4,zq5]
           refine wpAnyH_done (by kernel_rfl) ?_ _
           go_wp2_with fail
           go_meet
           exact ⟨g3,g5,g7,gf,rfl,BG,S3,S5,S7,Ext.trans bd bw,Nat.le_trans bd.size hgs⟩
       · rw [if_pos (by rfl)]
         refine wp_make_full vv (.tmp 61) (.tmp 61) 65 rfl vv.heap.size 26 ix (.slice none 0 0) 1 Try.underlying65 hx hx0 hx1 .i64 .i64 (m : Int) (m : Int) m rfl rfl rfl rfl (by rw [hx2];have:=HM8.out;omega) (by have:=HM8.out;unfold maxLen;omega) (Nat.le_refl _) ?_
         intro vn own gr
         have bb:=Ext.grown (Below.refl _ _) gr (by simp)
         have R7:=NumRow.of_make own
         have Z:=R3.below bb
         clear R3
         have R3:=Z
         clear Z
         have Z:=BF.next bb
         clear BF
         have BF:=Z
         clear Z
         have Z:=Ext.trans bv bb
         clear bv
         have bv:=Z
         clear Z
         refine hK.out _ _ (HS.out _ bv) (fun hS'=>?_)
         clear hK K hS
         have hS:=hS'
         clear hS'
         try simp only [Act.put,zq0,zq1,zq2,zq3,zq4,zq5]
         clear bb own gr
         obtain ⟨g7,hgg⟩ : ∃ z : Nat,z = vv.heap.size:=⟨_,rfl⟩
         rw [← hgg] at R7 ⊢
         clear hgg vv
         obtain ⟨vv,hvv⟩ : ∃ z : World,z = vn:=⟨_,rfl⟩
         subst hvv
         refine wpAnyH_ready (rs:=[5]) (by kernel_rfl) (by simp) ?_
         refine AllReadyH.cons rfl (fun K hK=>?_) AllReadyH.nil
         · rw [if_pos (by rfl)]
           refine wp_make_full vv (.tmp 59) (.tmp 59) 64 rfl vv.heap.size 22 iq (.int .u32 0) 1 Try.underlying64 hq hq0 hq1 .i64 .i64 (m : Int) (m : Int) m rfl rfl rfl rfl (by rw [hq2];have:=HM8.out;omega) (by have:=HM8.out;unfold maxLen;omega) (Nat.le_refl _) ?_
           intro vn own gr
           have bb:=Ext.grown (Below.refl _ _) gr (by simp)
           have R5:=NumRow.of_make own
           have Z:=R3.below bb
           clear R3
           have R3:=Z
           clear Z
           have Z:=R7.below bb
           clear R7
           have R7:=Z
           clear Z
           have Z:=BF.next bb
           clear BF
           have BF:=Z
           clear Z
           have Z:=Ext.trans bv bb
           clear bv
           have bv:=Z
           clear Z
           refine hK.out _ _ (HS.out _ bv) (fun hS'=>?_)
           clear hK K hS
           have hS:=hS'
           clear hS'
           try simp only [Act.put,zq0,zq1,zq2,zq3,zq4,zq5]
           clear bb own gr
           obtain ⟨g5,hgg⟩ : ∃ z : Nat,z = vv.heap.size:=⟨_,rfl⟩
           rw [← hgg] at R5 ⊢
           clear hgg vv
           obtain ⟨vv,hvv⟩ : ∃ z : World,z = vn:=⟨_,rfl⟩
           subst hvv
           refine wpAnyH_take (i:=8) (v:=?_) rfl (by kernel_rfl) (by kernel_rfl) (by kernel_rfl) (fun _ _ _ h=>h) (Or.inl ⟨by rfl,?_⟩) hS ?_
           rotate_left
           · (intro w hSw;(try dsimp only at hSw);go_simp;(try with_reducible rfl))
           rotate_left
           simp only [Act.put,zq0,zq1,zq2,zq3,zq4,zq5]
           refine wpAnyH_ready (rs:=[10]) (by kernel_rfl) (by simp) ?_
           refine AllReadyH.cons rfl (fun K hK=>?_) AllReadyH.nil
           rw [if_pos (by rfl)]
           refine wp_store_row 67 (.tmp 16) (.tmp 63) rfl gf #[.int .i64 n,.int .u8 ((ki.toNat : Nat) : Int),.int .i64 a,.int .i64 (m : Int),.slice D bs.length dq,.slice (some ⟨g3,0,none⟩) m m,.slice (some ⟨g5,0,none⟩) m m,.slice (some ⟨g7,0,none⟩) m m] rfl rfl 67 #[.int .i64 0,.int .u8 0,.int .i64 0,.int .i64 0,.slice none 0 0,.slice none 0 0,.slice none 0 0,.slice none 0 0] BF (by kernel_rfl) rfl (by kernel_rfl) ?_
           have BG:=BF.set #[.int .i64 n,.int .u8 ((ki.toNat : Nat) : Int),.int .i64 a,.int .i64 (m : Int),.slice D bs.length dq,.slice (some ⟨g3,0,none⟩) m m,.slice (some ⟨g5,0,none⟩) m m,.slice (some ⟨g7,0,none⟩) m m]
           have S3:=R3.setRow BF (by decide) #[.int .i64 n,.int .u8 ((ki.toNat : Nat) : Int),.int .i64 a,.int .i64 (m : Int),.slice D bs.length dq,.slice (some ⟨g3,0,none⟩) m m,.slice (some ⟨g5,0,none⟩) m m,.slice (some ⟨g7,0,none⟩) m m]
           have S5:=R5.setRow BF (by decide) #[.int .i64 n,.int .u8 ((ki.toNat : Nat) : Int),.int .i64 a,.int .i64 (m : Int),.slice D bs.length dq,.slice (some ⟨g3,0,none⟩) m m,.slice (some ⟨g5,0,none⟩) m m,.slice (some ⟨g7,0,none⟩) m m]
           have S7:=R7.setRow BF (by decide) #[.int .i64 n,.int .u8 ((ki.toNat : Nat) : Int),.int .i64 a,.int .i64 (m : Int),.slice D bs.length dq,.slice (some ⟨g3,0,none⟩) m m,.slice (some ⟨g5,0,none⟩) m m,.slice (some ⟨g7,0,none⟩) m m]
           have bw:=Ext.setRow bv hgs #[.int .i64 n,.int .u8 ((ki.toNat : Nat) : Int),.int .i64 a,.int .i64 (m : Int),.slice D bs.length dq,.slice (some ⟨g3,0,none⟩) m m,.slice (some ⟨g5,0,none⟩) m m,.slice (some ⟨g7,0,none⟩) m m]
           clear BF R3 R5 R7 bv
           have hgs:=hgs
           generalize vv.setRow gf #[.int .i64 n,.int .u8 ((ki.toNat : Nat) : Int),.int .i64 a,.int .i64 (m : Int),.slice D bs.length dq,.slice (some ⟨g3,0,none⟩) m m,.slice (some ⟨g5,0,none⟩) m m,.slice (some ⟨g7,0,none⟩) m m] = vw at *
           refine hK.out _ _ (HS.out _ bw) (fun hS'=>?_)
           clear hK K hS hS'
           try simp only [Act.put,zq0,zq1,zq2,zq3,zq4,zq5]
           refine wpAnyH_done (by kernel_rfl) ?_ _
           go_wp2_with fail
           go_meet
           exact ⟨g3,g5,g7,gf,rfl,BG,S3,S5,S7,Ext.trans bd bw,Nat.le_trans bd.size hgs⟩
   · rw [if_pos (by rfl)]
     refine wp_make_full vv (.tmp 59) (.tmp 59) 64 rfl vv.heap.size 22 iq (.int .u32 0) 1 Try.underlying64 hq hq0 hq1 .i64 .i64 (m : Int) (m : Int) m rfl rfl rfl rfl (by rw [hq2];have:=HM8.out;omega) (by have:=HM8.out;unfold maxLen;omega) (Nat.le_refl _) ?_
     intro vn own gr
     have bb:=Ext.grown (Below.refl _ _) gr (by simp)
     have R5:=NumRow.of_make own
     have Z:=Ext.trans bv bb
     clear bv
     have bv:=Z
     clear Z
     refine hK.out _ _ (HS.out _ bv) (fun hS'=>?_)
     clear hK K hS
     have hS:=hS'
     clear hS'
     try simp only [Act.put,zq0,zq1,zq2,zq3,zq4,zq5]
     clear bb own gr
     obtain ⟨g5,hgg⟩ : ∃ z : Nat,z = vv.heap.size:=⟨_,rfl⟩
     rw [← hgg] at R5 ⊢
     clear hgg vv
     obtain ⟨vv,hvv⟩ : ∃ z : World,z = vn:=⟨_,rfl⟩
     subst hvv
     refine wpAnyH_ready (rs:=[3,7,9]) (by kernel_rfl) (by simp) ?_
     refine AllReadyH.cons rfl (fun K hK=>?_) (AllReadyH.cons rfl (fun K hK=>?_) (AllReadyH.cons rfl (fun K hK=>?_) AllReadyH.nil))
     · rw [if_pos (by rfl)]
       refine wp_make_full vv (.tmp 57) (.tmp 57) 26 rfl vv.heap.size 5 iu (.int .u8 0) 1 Try.underlying26 hu hu0 hu1 .i64 .i64 (m : Int) (m : Int) m rfl rfl rfl rfl (by rw [hu2];have:=HM8.out;omega) (by have:=HM8.out;unfold maxLen;omega) (Nat.le_refl _) ?_
       intro vn own gr
       have bb:=Ext.grown (Below.refl _ _) gr (by simp)
       have R3:=NumRow.of_make own
       have Z:=R5.below bb
       clear R5
       have R5:=Z
       clear Z
       have Z:=Ext.trans bv bb
       clear bv
       have bv:=Z
       clear Z
       refine hK.out _ _ (HS.out _ bv) (fun hS'=>?_)
       clear hK K hS
       have hS:=hS'
       clear hS'
       try simp only [Act.put,zq0,zq1,zq2,zq3,zq4,zq5]
       clear bb own gr
       obtain ⟨g3,hgg⟩ : ∃ z : Nat,z = vv.heap.size:=⟨_,rfl⟩
       rw [← hgg] at R3 ⊢
       clear hgg vv
       obtain ⟨vv,hvv⟩ : ∃ z : World,z = vn:=⟨_,rfl⟩
       subst hvv
       refine wpAnyH_ready (rs:=[7,9]) (by kernel_rfl) (by simp) ?_
       refine AllReadyH.cons rfl (fun K hK=>?_) (AllReadyH.cons rfl (fun K hK=>?_) AllReadyH.nil)
       · rw [if_pos (by rfl)]
         refine wp_make_full vv (.tmp 61) (.tmp 61) 65 rfl vv.heap.size 26 ix (.slice none 0 0) 1 Try.underlying65 hx hx0 hx1 .i64 .i64 (m : Int) (m : Int) m rfl rfl rfl rfl (by rw [hx2];have:=HM8.out;omega) (by have:=HM8.out;unfold maxLen;omega) (Nat.le_refl _) ?_
         intro vn own gr
         have bb:=Ext.grown (Below.refl _ _) gr (by simp)
         have R7:=NumRow.of_make own
         have Z:=R3.below bb
         clear R3
         have R3:=Z
         clear Z
         have Z:=R5.below bb
         clear R5
         have R5:=Z
         clear Z
         have Z:=Ext.trans bv bb
         clear bv
         have bv:=Z
         clear Z
         refine hK.out _ _ (HS.out _ bv) (fun hS'=>?_)
         clear hK K hS
         have hS:=hS'
         clear hS'
         try simp only [Act.put,zq0,zq1,zq2,zq3,zq4,zq5]
         clear bb own gr
         obtain ⟨g7,hgg⟩ : ∃ z : Nat,z = vv.heap.size:=⟨_,rfl⟩
         rw [← hgg] at R7 ⊢
         clear hgg vv
         obtain ⟨vv,hvv⟩ : ∃ z : World,z = vn:=⟨_,rfl⟩
         subst hvv
         refine wpAnyH_take (i:=8) (v:=?_) rfl (by kernel_rfl) (by kernel_rfl) (by kernel_rfl) (fun _ _ _ h=>h) (Or.inl ⟨by rfl,?_⟩) hS ?_
         rotate_left
         · (intro w hSw;(try dsimp only at hSw);go_simp;(try with_reducible rfl))
         rotate_left
         simp only [Act.put,zq0,zq1,zq2,zq3,zq4,zq5]
         refine wpAnyH_ready (rs:=[9]) (by kernel_rfl) (by simp) ?_
         refine AllReadyH.cons rfl (fun K hK=>?_) AllReadyH.nil
         · rw [if_pos (by rfl)]
           go_simp
           have hgs:=bv.size
           have bb:=Ext.alloc (Below.refl vv.heap.size vv) (.cells #[.int .i64 0,.int .u8 0,.int .i64 0,.int .i64 0,.slice none 0 0,.slice none 0 0,.slice none 0 0,.slice none 0 0] 67)
           have BF:=BoxOf.new vv #[.int .i64 0,.int .u8 0,.int .i64 0,.int .i64 0,.slice none 0 0,.slice none 0 0,.slice none 0 0,.slice none 0 0] 67
           have Z:=R3.below bb
           clear R3
           have R3:=Z
           clear Z
           have Z:=R5.below bb
           clear R5
           have R5:=Z
           clear Z
           have Z:=R7.below bb
           clear R7
           have R7:=Z
           clear Z
           have Z:=Ext.trans bv bb
           clear bv
           have bv:=Z
           clear Z
           refine hK.out _ _ (HS.out _ bv) (fun hS'=>?_)
           clear hK K hS
           have hS:=hS'
           clear hS'
           try simp only [Act.put,zq0,zq1,zq2,zq3,zq4,zq5]
           clear bb
           obtain ⟨gf,hgf⟩ : ∃ z : Nat,z = vv.heap.size:=⟨_,rfl⟩
           rw [← hgf] at BF hgs ⊢
           clear hgf
           generalize vv.alloc (.cells #[.int .i64 0,.int .u8 0,.int .i64 0,.int .i64 0,.slice none 0 0,.slice none 0 0,.slice none 0 0,.slice none 0 0] 67) = vv at *
           refine wpAnyH_ready (rs:=[10]) (by kernel_rfl) (by simp) ?_
           refine AllReadyH.cons rfl (fun K hK=>?_) AllReadyH.nil
           rw [if_pos (by rfl)]
           refine wp_store_row 67 (.tmp 16) (.tmp 63) rfl gf #[.int .i64 n,.int .u8 ((ki.toNat : Nat) : Int),.int .i64 a,.int .i64 (m : Int),.slice D bs.length dq,.slice (some ⟨g3,0,none⟩) m m,.slice (some ⟨g5,0,none⟩) m m,.slice (some ⟨g7,0,none⟩) m m] rfl rfl 67 #[.int .i64 0,.int .u8 0,.int .i64 0,.int .i64 0,.slice none 0 0,.slice none 0 0,.slice none 0 0,.slice none 0 0] BF (by kernel_rfl) rfl (by kernel_rfl) ?_
           have BG:=BF.set #[.int .i64 n,.int .u8 ((ki.toNat : Nat) : Int),.int .i64 a,.int .i64 (m : Int),.slice D bs.length dq,.slice (some ⟨g3,0,none⟩) m m,.slice (some ⟨g5,0,none⟩) m m,.slice (some ⟨g7,0,none⟩) m m]
           have S3:=R3.setRow BF (by decide) #[.int .i64 n,.int .u8 ((ki.toNat : Nat) : Int),.int .i64 a,.int .i64 (m : Int),.slice D bs.length dq,.slice (some ⟨g3,0,none⟩) m m,.slice (some ⟨g5,0,none⟩) m m,.slice (some ⟨g7,0,none⟩) m m]
           have S5:=R5.setRow BF (by decide) #[.int .i64 n,.int .u8 ((ki.toNat : Nat) : Int),.int .i64 a,.int .i64 (m : Int),.slice D bs.length dq,.slice (some ⟨g3,0,none⟩) m m,.slice (some ⟨g5,0,none⟩) m m,.slice (some ⟨g7,0,none⟩) m m]
           have S7:=R7.setRow BF (by decide) #[.int .i64 n,.int .u8 ((ki.toNat : Nat) : Int),.int .i64 a,.int .i64 (m : Int),.slice D bs.length dq,.slice (some ⟨g3,0,none⟩) m m,.slice (some ⟨g5,0,none⟩) m m,.slice (some ⟨g7,0,none⟩) m m]
           have bw:=Ext.setRow bv hgs #[.int .i64 n,.int .u8 ((ki.toNat : Nat) : Int),.int .i64 a,.int .i64 (m : Int),.slice D bs.length dq,.slice (some ⟨g3,0,none⟩) m m,.slice (some ⟨g5,0,none⟩) m m,.slice (some ⟨g7,0,none⟩) m m]
           clear BF R3 R5 R7 bv
           have hgs:=hgs
           generalize vv.setRow gf #[.int .i64 n,.int .u8 ((ki.toNat : Nat) : Int),.int .i64 a,.int .i64 (m : Int),.slice D bs.length dq,.slice (some ⟨g3,0,none⟩) m m,.slice (some ⟨g5,0,none⟩) m m,.slice (some ⟨g7,0,none⟩) m m] = vw at *
           refine hK.out _ _ (HS.out _ bw) (fun hS'=>?_)
           clear hK K hS hS'
           try simp only [Act.put,zq0,zq1,zq2,zq3,zq4,zq5]
           refine wpAnyH_done (by kernel_rfl) ?_ _
           go_wp2_with fail
           go_meet
           exact ⟨g3,g5,g7,gf,rfl,BG,S3,S5,S7,Ext.trans bd bw,Nat.le_trans bd.size hgs⟩
       · rw [if_pos (by rfl)]
         go_simp
         have hgs:=bv.size
         have bb:=Ext.alloc (Below.refl vv.heap.size vv) (.cells #[.int .i64 0,.int .u8 0,.int .i64 0,.int .i64 0,.slice none 0 0,.slice none 0 0,.slice none 0 0,.slice none 0 0] 67)
         have BF:=BoxOf.new vv #[.int .i64 0,.int .u8 0,.int .i64 0,.int .i64 0,.slice none 0 0,.slice none 0 0,.slice none 0 0,.slice none 0 0] 67
         have Z:=R3.below bb
         clear R3
         have R3:=Z
         clear Z
         have Z:=R5.below bb
         clear R5
         have R5:=Z
         clear Z
         have Z:=Ext.trans bv bb
         clear bv
         have bv:=Z
         clear Z
         refine hK.out _ _ (HS.out _ bv) (fun hS'=>?_)
         clear hK K hS
         have hS:=hS'
         clear hS'
         try simp only [Act.put,zq0,zq1,zq2,zq3,zq4,zq5]
         clear bb
         obtain ⟨gf,hgf⟩ : ∃ z : Nat,z = vv.heap.size:=⟨_,rfl⟩
         rw [← hgf] at BF hgs ⊢
         clear hgf
         generalize vv.alloc (.cells #[.int .i64 0,.int .u8 0,.int .i64 0,.int .i64 0,.slice none 0 0,.slice none 0 0,.slice none 0 0,.slice none 0 0] 67) = vv at *
         refine wpAnyH_ready (rs:=[7]) (by kernel_rfl) (by simp) ?_
         refine AllReadyH.cons rfl (fun K hK=>?_) AllReadyH.nil
         · rw [if_pos (by rfl)]
           refine wp_make_full vv (.tmp 61) (.tmp 61) 65 rfl vv.heap.size 26 ix (.slice none 0 0) 1 Try.underlying65 hx hx0 hx1 .i64 .i64 (m : Int) (m : Int) m rfl rfl rfl rfl (by rw [hx2];have:=HM8.out;omega) (by have:=HM8.out;unfold maxLen;omega) (Nat.le_refl _) ?_
           intro vn own gr
           have bb:=Ext.grown (Below.refl _ _) gr (by simp)
           have R7:=NumRow.of_make own
           have Z:=R3.below bb
           clear R3
           have R3:=Z
           clear Z
           have Z:=R5.below bb
           clear R5
           have R5:=Z
           clear Z
           have Z:=BF.next bb
           clear BF
           have BF:=Z
           clear Z
           have Z:=Ext.trans bv bb
           clear bv
           have bv:=Z
           clear Z
           refine hK.out _ _ (HS.out _ bv) (fun hS'=>?_)
           clear hK K hS
           have hS:=hS'
           clear hS'
           try simp only [Act.put,zq0,zq1,zq2,zq3,zq4,zq5]
           clear bb own gr
           obtain ⟨g7,hgg⟩ : ∃ z : Nat,z = vv.heap.size:=⟨_,rfl⟩
           rw [← hgg] at R7 ⊢
           clear hgg vv
           obtain ⟨vv,hvv⟩ : ∃ z : World,z = vn:=⟨_,rfl⟩
           subst hvv
           refine wpAnyH_take (i:=8) (v:=?_) rfl (by kernel_rfl) (by kernel_rfl) (by kernel_rfl) (fun _ _ _ h=>h) (Or.inl ⟨by rfl,?_⟩) hS ?_
           rotate_left
           · (intro w hSw;(try dsimp only at hSw);go_simp;(try with_reducible rfl))
           rotate_left
           simp only [Act.put,zq0,zq1,zq2,zq3,zq4,zq5]
           refine wpAnyH_ready (rs:=[10]) (by kernel_rfl) (by simp) ?_
           refine AllReadyH.cons rfl (fun K hK=>?_) AllReadyH.nil
           rw [if_pos (by rfl)]
           refine wp_store_row 67 (.tmp 16) (.tmp 63) rfl gf #[.int .i64 n,.int .u8 ((ki.toNat : Nat) : Int),.int .i64 a,.int .i64 (m : Int),.slice D bs.length dq,.slice (some ⟨g3,0,none⟩) m m,.slice (some ⟨g5,0,none⟩) m m,.slice (some ⟨g7,0,none⟩) m m] rfl rfl 67 #[.int .i64 0,.int .u8 0,.int .i64 0,.int .i64 0,.slice none 0 0,.slice none 0 0,.slice none 0 0,.slice none 0 0] BF (by kernel_rfl) rfl (by kernel_rfl) ?_
           have BG:=BF.set #[.int .i64 n,.int .u8 ((ki.toNat : Nat) : Int),.int .i64 a,.int .i64 (m : Int),.slice D bs.length dq,.slice (some ⟨g3,0,none⟩) m m,.slice (some ⟨g5,0,none⟩) m m,.slice (some ⟨g7,0,none⟩) m m]
           have S3:=R3.setRow BF (by decide) #[.int .i64 n,.int .u8 ((ki.toNat : Nat) : Int),.int .i64 a,.int .i64 (m : Int),.slice D bs.length dq,.slice (some ⟨g3,0,none⟩) m m,.slice (some ⟨g5,0,none⟩) m m,.slice (some ⟨g7,0,none⟩) m m]
           have S5:=R5.setRow BF (by decide) #[.int .i64 n,.int .u8 ((ki.toNat : Nat) : Int),.int .i64 a,.int .i64 (m : Int),.slice D bs.length dq,.slice (some ⟨g3,0,none⟩) m m,.slice (some ⟨g5,0,none⟩) m m,.slice (some ⟨g7,0,none⟩) m m]
           have S7:=R7.setRow BF (by decide) #[.int .i64 n,.int .u8 ((ki.toNat : Nat) : Int),.int .i64 a,.int .i64 (m : Int),.slice D bs.length dq,.slice (some ⟨g3,0,none⟩) m m,.slice (some ⟨g5,0,none⟩) m m,.slice (some ⟨g7,0,none⟩) m m]
           have bw:=Ext.setRow bv hgs #[.int .i64 n,.int .u8 ((ki.toNat : Nat) : Int),.int .i64 a,.int .i64 (m : Int),.slice D bs.length dq,.slice (some ⟨g3,0,none⟩) m m,.slice (some ⟨g5,0,none⟩) m m,.slice (some ⟨g7,0,none⟩) m m]
           clear BF R3 R5 R7 bv
           have hgs:=hgs
           generalize vv.setRow gf #[.int .i64 n,.int .u8 ((ki.toNat : Nat) : Int),.int .i64 a,.int .i64 (m : Int),.slice D bs.length dq,.slice (some ⟨g3,0,none⟩) m m,.slice (some ⟨g5,0,none⟩) m m,.slice (some ⟨g7,0,none⟩) m m] = vw at *
           refine hK.out _ _ (HS.out _ bw) (fun hS'=>?_)
           clear hK K hS hS'
           try simp only [Act.put,zq0,zq1,zq2,zq3,zq4,zq5]
           refine wpAnyH_done (by kernel_rfl) ?_ _
           go_wp2_with fail
           go_meet
           exact ⟨g3,g5,g7,gf,rfl,BG,S3,S5,S7,Ext.trans bd bw,Nat.le_trans bd.size hgs⟩
     · rw [if_pos (by rfl)]
       refine wp_make_full vv (.tmp 61) (.tmp 61) 65 rfl vv.heap.size 26 ix (.slice none 0 0) 1 Try.underlying65 hx hx0 hx1 .i64 .i64 (m : Int) (m : Int) m rfl rfl rfl rfl (by rw [hx2];have:=HM8.out;omega) (by have:=HM8.out;unfold maxLen;omega) (Nat.le_refl _) ?_
       intro vn own gr
       have bb:=Ext.grown (Below.refl _ _) gr (by simp)
       have R7:=NumRow.of_make own
       have Z:=R5.below bb
       clear R5
       have R5:=Z
       clear Z
       have Z:=Ext.trans bv bb
       clear bv
       have bv:=Z
       clear Z
       refine hK.out _ _ (HS.out _ bv) (fun hS'=>?_)
       clear hK K hS
       have hS:=hS'
       clear hS'
       try simp only [Act.put,zq0,zq1,zq2,zq3,zq4,zq5]
       clear bb own gr
       obtain ⟨g7,hgg⟩ : ∃ z : Nat,z = vv.heap.size:=⟨_,rfl⟩
       rw [← hgg] at R7 ⊢
       clear hgg vv
       obtain ⟨vv,hvv⟩ : ∃ z : World,z = vn:=⟨_,rfl⟩
       subst hvv
       refine wpAnyH_ready (rs:=[3,9]) (by kernel_rfl) (by simp) ?_
       refine AllReadyH.cons rfl (fun K hK=>?_) (AllReadyH.cons rfl (fun K hK=>?_) AllReadyH.nil)
       · rw [if_pos (by rfl)]
         refine wp_make_full vv (.tmp 57) (.tmp 57) 26 rfl vv.heap.size 5 iu (.int .u8 0) 1 Try.underlying26 hu hu0 hu1 .i64 .i64 (m : Int) (m : Int) m rfl rfl rfl rfl (by rw [hu2];have:=HM8.out;omega) (by have:=HM8.out;unfold maxLen;omega) (Nat.le_refl _) ?_
         intro vn own gr
         have bb:=Ext.grown (Below.refl _ _) gr (by simp)
         have R3:=NumRow.of_make own
         have Z:=R5.below bb
         clear R5
         have R5:=Z
         clear Z
         have Z:=R7.below bb
         clear R7
         have R7:=Z
         clear Z
         have Z:=Ext.trans bv bb
         clear bv
         have bv:=Z
         clear Z
         refine hK.out _ _ (HS.out _ bv) (fun hS'=>?_)
         clear hK K hS
         have hS:=hS'
         clear hS'
         try simp only [Act.put,zq0,zq1,zq2,zq3,zq4,zq5]
         clear bb own gr
         obtain ⟨g3,hgg⟩ : ∃ z : Nat,z = vv.heap.size:=⟨_,rfl⟩
         rw [← hgg] at R3 ⊢
         clear hgg vv
         obtain ⟨vv,hvv⟩ : ∃ z : World,z = vn:=⟨_,rfl⟩
         subst hvv
         refine wpAnyH_take (i:=8) (v:=?_) rfl (by kernel_rfl) (by kernel_rfl) (by kernel_rfl) (fun _ _ _ h=>h) (Or.inl ⟨by rfl,?_⟩) hS ?_
         rotate_left
         · (intro w hSw;(try dsimp only at hSw);go_simp;(try with_reducible rfl))
         rotate_left
         simp only [Act.put,zq0,zq1,zq2,zq3,zq4,zq5]
         refine wpAnyH_ready (rs:=[9]) (by kernel_rfl) (by simp) ?_
         refine AllReadyH.cons rfl (fun K hK=>?_) AllReadyH.nil
         · rw [if_pos (by rfl)]
           go_simp
           have hgs:=bv.size
           have bb:=Ext.alloc (Below.refl vv.heap.size vv) (.cells #[.int .i64 0,.int .u8 0,.int .i64 0,.int .i64 0,.slice none 0 0,.slice none 0 0,.slice none 0 0,.slice none 0 0] 67)
           have BF:=BoxOf.new vv #[.int .i64 0,.int .u8 0,.int .i64 0,.int .i64 0,.slice none 0 0,.slice none 0 0,.slice none 0 0,.slice none 0 0] 67
           have Z:=R3.below bb
           clear R3
           have R3:=Z
           clear Z
           have Z:=R5.below bb
           clear R5
           have R5:=Z
           clear Z
           have Z:=R7.below bb
           clear R7
           have R7:=Z
           clear Z
           have Z:=Ext.trans bv bb
           clear bv
           have bv:=Z
           clear Z
           refine hK.out _ _ (HS.out _ bv) (fun hS'=>?_)
           clear hK K hS
           have hS:=hS'
           clear hS'
           try simp only [Act.put,zq0,zq1,zq2,zq3,zq4,zq5]
           clear bb
           obtain ⟨gf,hgf⟩ : ∃ z : Nat,z = vv.heap.size:=⟨_,rfl⟩
           rw [← hgf] at BF hgs ⊢
           clear hgf
           generalize vv.alloc (.cells #[.int .i64 0,.int .u8 0,.int .i64 0,.int .i64 0,.slice none 0 0,.slice none 0 0,.slice none 0 0,.slice none 0 0] 67) = vv at *
           refine wpAnyH_ready (rs:=[10]) (by kernel_rfl) (by simp) ?_
           refine AllReadyH.cons rfl (fun K hK=>?_) AllReadyH.nil
           rw [if_pos (by rfl)]
           refine wp_store_row 67 (.tmp 16) (.tmp 63) rfl gf #[.int .i64 n,.int .u8 ((ki.toNat : Nat) : Int),.int .i64 a,.int .i64 (m : Int),.slice D bs.length dq,.slice (some ⟨g3,0,none⟩) m m,.slice (some ⟨g5,0,none⟩) m m,.slice (some ⟨g7,0,none⟩) m m] rfl rfl 67 #[.int .i64 0,.int .u8 0,.int .i64 0,.int .i64 0,.slice none 0 0,.slice none 0 0,.slice none 0 0,.slice none 0 0] BF (by kernel_rfl) rfl (by kernel_rfl) ?_
           have BG:=BF.set #[.int .i64 n,.int .u8 ((ki.toNat : Nat) : Int),.int .i64 a,.int .i64 (m : Int),.slice D bs.length dq,.slice (some ⟨g3,0,none⟩) m m,.slice (some ⟨g5,0,none⟩) m m,.slice (some ⟨g7,0,none⟩) m m]
           have S3:=R3.setRow BF (by decide) #[.int .i64 n,.int .u8 ((ki.toNat : Nat) : Int),.int .i64 a,.int .i64 (m : Int),.slice D bs.length dq,.slice (some ⟨g3,0,none⟩) m m,.slice (some ⟨g5,0,none⟩) m m,.slice (some ⟨g7,0,none⟩) m m]
           have S5:=R5.setRow BF (by decide) #[.int .i64 n,.int .u8 ((ki.toNat : Nat) : Int),.int .i64 a,.int .i64 (m : Int),.slice D bs.length dq,.slice (some ⟨g3,0,none⟩) m m,.slice (some ⟨g5,0,none⟩) m m,.slice (some ⟨g7,0,none⟩) m m]
           have S7:=R7.setRow BF (by decide) #[.int .i64 n,.int .u8 ((ki.toNat : Nat) : Int),.int .i64 a,.int .i64 (m : Int),.slice D bs.length dq,.slice (some ⟨g3,0,none⟩) m m,.slice (some ⟨g5,0,none⟩) m m,.slice (some ⟨g7,0,none⟩) m m]
           have bw:=Ext.setRow bv hgs #[.int .i64 n,.int .u8 ((ki.toNat : Nat) : Int),.int .i64 a,.int .i64 (m : Int),.slice D bs.length dq,.slice (some ⟨g3,0,none⟩) m m,.slice (some ⟨g5,0,none⟩) m m,.slice (some ⟨g7,0,none⟩) m m]
           clear BF R3 R5 R7 bv
           have hgs:=hgs
           generalize vv.setRow gf #[.int .i64 n,.int .u8 ((ki.toNat : Nat) : Int),.int .i64 a,.int .i64 (m : Int),.slice D bs.length dq,.slice (some ⟨g3,0,none⟩) m m,.slice (some ⟨g5,0,none⟩) m m,.slice (some ⟨g7,0,none⟩) m m] = vw at *
           refine hK.out _ _ (HS.out _ bw) (fun hS'=>?_)
           clear hK K hS hS'
           try simp only [Act.put,zq0,zq1,zq2,zq3,zq4,zq5]
           refine wpAnyH_done (by kernel_rfl) ?_ _
           go_wp2_with fail
           go_meet
           exact ⟨g3,g5,g7,gf,rfl,BG,S3,S5,S7,Ext.trans bd bw,Nat.le_trans bd.size hgs⟩
       · rw [if_pos (by rfl)]
         go_simp
         have hgs:=bv.size
         have bb:=Ext.alloc (Below.refl vv.heap.size vv) (.cells #[.int .i64 0,.int .u8 0,.int .i64 0,.int .i64 0,.slice none 0 0,.slice none 0 0,.slice none 0 0,.slice none 0 0] 67)
         have BF:=BoxOf.new vv #[.int .i64 0,.int .u8 0,.int .i64 0,.int .i64 0,.slice none 0 0,.slice none 0 0,.slice none 0 0,.slice none 0 0] 67
         have Z:=R5.below bb
         clear R5
         have R5:=Z
         clear Z
         have Z:=R7.below bb
         clear R7
         have R7:=Z
         clear Z
         have Z:=Ext.trans bv bb
         clear bv
         have bv:=Z
         clear Z
         refine hK.out _ _ (HS.out _ bv) (fun hS'=>?_)
         clear hK K hS
         have hS:=hS'
         clear hS'
         try simp only [Act.put,zq0,zq1,zq2,zq3,zq4,zq5]
         clear bb
         obtain ⟨gf,hgf⟩ : ∃ z : Nat,z = vv.heap.size:=⟨_,rfl⟩
         rw [← hgf] at BF hgs ⊢
         clear hgf
         generalize vv.alloc (.cells #[.int .i64 0,.int .u8 0,.int .i64 0,.int .i64 0,.slice none 0 0,.slice none 0 0,.slice none 0 0,.slice none 0 0] 67) = vv at *
         refine wpAnyH_ready (rs:=[3]) (by kernel_rfl) (by simp) ?_
         refine AllReadyH.cons rfl (fun K hK=>?_) AllReadyH.nil
         · rw [if_pos (by rfl)]
           refine wp_make_full vv (.tmp 57) (.tmp 57) 26 rfl vv.heap.size 5 iu (.int .u8 0) 1 Try.underlying26 hu hu0 hu1 .i64 .i64 (m : Int) (m : Int) m rfl rfl rfl rfl (by rw [hu2];have:=HM8.out;omega) (by have:=HM8.out;unfold maxLen;omega) (Nat.le_refl _) ?_
           intro vn own gr
           have bb:=Ext.grown (Below.refl _ _) gr (by simp)
           have R3:=NumRow.of_make own
           have Z:=R5.below bb
           clear R5
           have R5:=Z
           clear Z
           have Z:=R7.below bb
           clear R7
           have R7:=Z
           clear Z
           have Z:=BF.next bb
           clear BF
           have BF:=Z
           clear Z
           have Z:=Ext.trans bv bb
           clear bv
           have bv:=Z
           clear Z
           refine hK.out _ _ (HS.out _ bv) (fun hS'=>?_)
           clear hK K hS
           have hS:=hS'
           clear hS'
           try simp only [Act.put,zq0,zq1,zq2,zq3,zq4,zq5]
           clear bb own gr
           obtain ⟨g3,hgg⟩ : ∃ z : Nat,z = vv.heap.size:=⟨_,rfl⟩
           rw [← hgg] at R3 ⊢
           clear hgg vv
           obtain ⟨vv,hvv⟩ : ∃ z : World,z = vn:=⟨_,rfl⟩
           subst hvv
           refine wpAnyH_take (i:=8) (v:=?_) rfl (by kernel_rfl) (by kernel_rfl) (by kernel_rfl) (fun _ _ _ h=>h) (Or.inl ⟨by rfl,?_⟩) hS ?_
           rotate_left
           · (intro w hSw;(try dsimp only at hSw);go_simp;(try with_reducible rfl))
           rotate_left
           simp only [Act.put,zq0,zq1,zq2,zq3,zq4,zq5]
           refine wpAnyH_ready (rs:=[10]) (by kernel_rfl) (by simp) ?_
           refine AllReadyH.cons rfl (fun K hK=>?_) AllReadyH.nil
           rw [if_pos (by rfl)]
           refine wp_store_row 67 (.tmp 16) (.tmp 63) rfl gf #[.int .i64 n,.int .u8 ((ki.toNat : Nat) : Int),.int .i64 a,.int .i64 (m : Int),.slice D bs.length dq,.slice (some ⟨g3,0,none⟩) m m,.slice (some ⟨g5,0,none⟩) m m,.slice (some ⟨g7,0,none⟩) m m] rfl rfl 67 #[.int .i64 0,.int .u8 0,.int .i64 0,.int .i64 0,.slice none 0 0,.slice none 0 0,.slice none 0 0,.slice none 0 0] BF (by kernel_rfl) rfl (by kernel_rfl) ?_
           have BG:=BF.set #[.int .i64 n,.int .u8 ((ki.toNat : Nat) : Int),.int .i64 a,.int .i64 (m : Int),.slice D bs.length dq,.slice (some ⟨g3,0,none⟩) m m,.slice (some ⟨g5,0,none⟩) m m,.slice (some ⟨g7,0,none⟩) m m]
           have S3:=R3.setRow BF (by decide) #[.int .i64 n,.int .u8 ((ki.toNat : Nat) : Int),.int .i64 a,.int .i64 (m : Int),.slice D bs.length dq,.slice (some ⟨g3,0,none⟩) m m,.slice (some ⟨g5,0,none⟩) m m,.slice (some ⟨g7,0,none⟩) m m]
           have S5:=R5.setRow BF (by decide) #[.int .i64 n,.int .u8 ((ki.toNat : Nat) : Int),.int .i64 a,.int .i64 (m : Int),.slice D bs.length dq,.slice (some ⟨g3,0,none⟩) m m,.slice (some ⟨g5,0,none⟩) m m,.slice (some ⟨g7,0,none⟩) m m]
           have S7:=R7.setRow BF (by decide) #[.int .i64 n,.int .u8 ((ki.toNat : Nat) : Int),.int .i64 a,.int .i64 (m : Int),.slice D bs.length dq,.slice (some ⟨g3,0,none⟩) m m,.slice (some ⟨g5,0,none⟩) m m,.slice (some ⟨g7,0,none⟩) m m]
           have bw:=Ext.setRow bv hgs #[.int .i64 n,.int .u8 ((ki.toNat : Nat) : Int),.int .i64 a,.int .i64 (m : Int),.slice D bs.length dq,.slice (some ⟨g3,0,none⟩) m m,.slice (some ⟨g5,0,none⟩) m m,.slice (some ⟨g7,0,none⟩) m m]
           clear BF R3 R5 R7 bv
           have hgs:=hgs
           generalize vv.setRow gf #[.int .i64 n,.int .u8 ((ki.toNat : Nat) : Int),.int .i64 a,.int .i64 (m : Int),.slice D bs.length dq,.slice (some ⟨g3,0,none⟩) m m,.slice (some ⟨g5,0,none⟩) m m,.slice (some ⟨g7,0,none⟩) m m] = vw at *
           refine hK.out _ _ (HS.out _ bw) (fun hS'=>?_)
           clear hK K hS hS'
           try simp only [Act.put,zq0,zq1,zq2,zq3,zq4,zq5]
           refine wpAnyH_done (by kernel_rfl) ?_ _
           go_wp2_with fail
           go_meet
           exact ⟨g3,g5,g7,gf,rfl,BG,S3,S5,S7,Ext.trans bd bw,Nat.le_trans bd.size hgs⟩
     · rw [if_pos (by rfl)]
       go_simp
       have hgs:=bv.size
       have bb:=Ext.alloc (Below.refl vv.heap.size vv) (.cells #[.int .i64 0,.int .u8 0,.int .i64 0,.int .i64 0,.slice none 0 0,.slice none 0 0,.slice none 0 0,.slice none 0 0] 67)
       have BF:=BoxOf.new vv #[.int .i64 0,.int .u8 0,.int .i64 0,.int .i64 0,.slice none 0 0,.slice none 0 0,.slice none 0 0,.slice none 0 0] 67
       have Z:=R5.below bb
       clear R5
       have R5:=Z
       clear Z
       have Z:=Ext.trans bv bb
       clear bv
       have bv:=Z
       clear Z
       refine hK.out _ _ (HS.out _ bv) (fun hS'=>?_)
       clear hK K hS
       have hS:=hS'
       clear hS'
       try simp only [Act.put,zq0,zq1,zq2,zq3,zq4,zq5]
       clear bb
       obtain ⟨gf,hgf⟩ : ∃ z : Nat,z = vv.heap.size:=⟨_,rfl⟩
       rw [← hgf] at BF hgs ⊢
       clear hgf
       generalize vv.alloc (.cells #[.int .i64 0,.int .u8 0,.int .i64 0,.int .i64 0,.slice none 0 0,.slice none 0 0,.slice none 0 0,.slice none 0 0] 67) = vv at *
       refine wpAnyH_ready (rs:=[3,7]) (by kernel_rfl) (by simp) ?_
       refine AllReadyH.cons rfl (fun K hK=>?_) (AllReadyH.cons rfl (fun K hK=>?_) AllReadyH.nil)
       · rw [if_pos (by rfl)]
         refine wp_make_full vv (.tmp 57) (.tmp 57) 26 rfl vv.heap.size 5 iu (.int .u8 0) 1 Try.underlying26 hu hu0 hu1 .i64 .i64 (m : Int) (m : Int) m rfl rfl rfl rfl (by rw [hu2];have:=HM8.out;omega) (by have:=HM8.out;unfold maxLen;omega) (Nat.le_refl _) ?_
         intro vn own gr
         have bb:=Ext.grown (Below.refl _ _) gr (by simp)
         have R3:=NumRow.of_make own
         have Z:=R5.below bb
         clear R5
         have R5:=Z
         clear Z
         have Z:=BF.next bb
         clear BF
         have BF:=Z
         clear Z
         have Z:=Ext.trans bv bb
         clear bv
         have bv:=Z
         clear Z
         refine hK.out _ _ (HS.out _ bv) (fun hS'=>?_)
         clear hK K hS
         have hS:=hS'
         clear hS'
         try simp only [Act.put,zq0,zq1,zq2,zq3,zq4,zq5]
         clear bb own gr
         obtain ⟨g3,hgg⟩ : ∃ z : Nat,z = vv.heap.size:=⟨_,rfl⟩
         rw [← hgg] at R3 ⊢
         clear hgg vv
         obtain ⟨vv,hvv⟩ : ∃ z : World,z = vn:=⟨_,rfl⟩
         subst hvv
         refine wpAnyH_ready (rs:=[7]) (by kernel_rfl) (by simp) ?_
         refine AllReadyH.cons rfl (fun K hK=>?_) AllReadyH.nil
         · rw [if_pos (by rfl)]
           refine wp_make_full vv (.tmp 61) (.tmp 61) 65 rfl vv.heap.size 26 ix (.slice none 0 0) 1 Try.underlying65 hx hx0 hx1 .i64 .i64 (m : Int) (m : Int) m rfl rfl rfl rfl (by rw [hx2];have:=HM8.out;omega) (by have:=HM8.out;unfold maxLen;omega) (Nat.le_refl _) ?_
           intro vn own gr
           have bb:=Ext.grown (Below.refl _ _) gr (by simp)
           have R7:=NumRow.of_make own
           have Z:=R3.below bb
           clear R3
           have R3:=Z
           clear Z
           have Z:=R5.below bb
           clear R5
           have R5:=Z
           clear Z
           have Z:=BF.next bb
           clear BF
           have BF:=Z
           clear Z
           have Z:=Ext.trans bv bb
           clear bv
           have bv:=Z
           clear Z
           refine hK.out _ _ (HS.out _ bv) (fun hS'=>?_)
           clear hK K hS
           have hS:=hS'
           clear hS'
           try simp only [Act.put,zq0,zq1,zq2,zq3,zq4,zq5]
           clear bb own gr
           obtain ⟨g7,hgg⟩ : ∃ z : Nat,z = vv.heap.size:=⟨_,rfl⟩
           rw [← hgg] at R7 ⊢
           clear hgg vv
           obtain ⟨vv,hvv⟩ : ∃ z : World,z = vn:=⟨_,rfl⟩
           subst hvv
           refine wpAnyH_take (i:=8) (v:=?_) rfl (by kernel_rfl) (by kernel_rfl) (by kernel_rfl) (fun _ _ _ h=>h) (Or.inl ⟨by rfl,?_⟩) hS ?_
           rotate_left
           · (intro w hSw;(try dsimp only at hSw);go_simp;(try with_reducible rfl))
           rotate_left
           simp only [Act.put,zq0,zq1,zq2,zq3,zq4,zq5]
           refine wpAnyH_ready (rs:=[10]) (by kernel_rfl) (by simp) ?_
           refine AllReadyH.cons rfl (fun K hK=>?_) AllReadyH.nil
           rw [if_pos (by rfl)]
           refine wp_store_row 67 (.tmp 16) (.tmp 63) rfl gf #[.int .i64 n,.int .u8 ((ki.toNat : Nat) : Int),.int .i64 a,.int .i64 (m : Int),.slice D bs.length dq,.slice (some ⟨g3,0,none⟩) m m,.slice (some ⟨g5,0,none⟩) m m,.slice (some ⟨g7,0,none⟩) m m] rfl rfl 67 #[.int .i64 0,.int .u8 0,.int .i64 0,.int .i64 0,.slice none 0 0,.slice none 0 0,.slice none 0 0,.slice none 0 0] BF (by kernel_rfl) rfl (by kernel_rfl) ?_
           have BG:=BF.set #[.int .i64 n,.int .u8 ((ki.toNat : Nat) : Int),.int .i64 a,.int .i64 (m : Int),.slice D bs.length dq,.slice (some ⟨g3,0,none⟩) m m,.slice (some ⟨g5,0,none⟩) m m,.slice (some ⟨g7,0,none⟩) m m]
           have S3:=R3.setRow BF (by decide) #[.int .i64 n,.int .u8 ((ki.toNat : Nat) : Int),.int .i64 a,.int .i64 (m : Int),.slice D bs.length dq,.slice (some ⟨g3,0,none⟩) m m,.slice (some ⟨g5,0,none⟩) m m,.slice (some ⟨g7,0,none⟩) m m]
           have S5:=R5.setRow BF (by decide) #[.int .i64 n,.int .u8 ((ki.toNat : Nat) : Int),.int .i64 a,.int .i64 (m : Int),.slice D bs.length dq,.slice (some ⟨g3,0,none⟩) m m,.slice (some ⟨g5,0,none⟩) m m,.slice (some ⟨g7,0,none⟩) m m]
           have S7:=R7.setRow BF (by decide) #[.int .i64 n,.int .u8 ((ki.toNat : Nat) : Int),.int .i64 a,.int .i64 (m : Int),.slice D bs.length dq,.slice (some ⟨g3,0,none⟩) m m,.slice (some ⟨g5,0,none⟩) m m,.slice (some ⟨g7,0,none⟩) m m]
           have bw:=Ext.setRow bv hgs #[.int .i64 n,.int .u8 ((ki.toNat : Nat) : Int),.int .i64 a,.int .i64 (m : Int),.slice D bs.length dq,.slice (some ⟨g3,0,none⟩) m m,.slice (some ⟨g5,0,none⟩) m m,.slice (some ⟨g7,0,none⟩) m m]
           clear BF R3 R5 R7 bv
           have hgs:=hgs
           generalize vv.setRow gf #[.int .i64 n,.int .u8 ((ki.toNat : Nat) : Int),.int .i64 a,.int .i64 (m : Int),.slice D bs.length dq,.slice (some ⟨g3,0,none⟩) m m,.slice (some ⟨g5,0,none⟩) m m,.slice (some ⟨g7,0,none⟩) m m] = vw at *
           refine hK.out _ _ (HS.out _ bw) (fun hS'=>?_)
           clear hK K hS hS'
           try simp only [Act.put,zq0,zq1,zq2,zq3,zq4,zq5]
           refine wpAnyH_done (by kernel_rfl) ?_ _
           go_wp2_with fail
           go_meet
           exact ⟨g3,g5,g7,gf,rfl,BG,S3,S5,S7,Ext.trans bd bw,Nat.le_trans bd.size hgs⟩
       · rw [if_pos (by rfl)]
         refine wp_make_full vv (.tmp 61) (.tmp 61) 65 rfl vv.heap.size 26 ix (.slice none 0 0) 1 Try.underlying65 hx hx0 hx1 .i64 .i64 (m : Int) (m : Int) m rfl rfl rfl rfl (by rw [hx2];have:=HM8.out;omega) (by have:=HM8.out;unfold maxLen;omega) (Nat.le_refl _) ?_
         intro vn own gr
         have bb:=Ext.grown (Below.refl _ _) gr (by simp)
         have R7:=NumRow.of_make own
         have Z:=R5.below bb
         clear R5
         have R5:=Z
         clear Z
         have Z:=BF.next bb
         clear BF
         have BF:=Z
         clear Z
         have Z:=Ext.trans bv bb
         clear bv
         have bv:=Z
         clear Z
         refine hK.out _ _ (HS.out _ bv) (fun hS'=>?_)
         clear hK K hS
         have hS:=hS'
         clear hS'
         try simp only [Act.put,zq0,zq1,zq2,zq3,zq4,zq5]
         clear bb own gr
         obtain ⟨g7,hgg⟩ : ∃ z : Nat,z = vv.heap.size:=⟨_,rfl⟩
         rw [← hgg] at R7 ⊢
         clear hgg vv
         obtain ⟨vv,hvv⟩ : ∃ z : World,z = vn:=⟨_,rfl⟩
         subst hvv
         refine wpAnyH_ready (rs:=[3]) (by kernel_rfl) (by simp) ?_
         refine AllReadyH.cons rfl (fun K hK=>?_) AllReadyH.nil
         · rw [if_pos (by rfl)]
           refine wp_make_full vv (.tmp 57) (.tmp 57) 26 rfl vv.heap.size 5 iu (.int .u8 0) 1 Try.underlying26 hu hu0 hu1 .i64 .i64 (m : Int) (m : Int) m rfl rfl rfl rfl (by rw [hu2];have:=HM8.out;omega) (by have:=HM8.out;unfold maxLen;omega) (Nat.le_refl _) ?_
           intro vn own gr
           have bb:=Ext.grown (Below.refl _ _) gr (by simp)
           have R3:=NumRow.of_make own
           have Z:=R5.below bb
           clear R5
           have R5:=Z
           clear Z
           have Z:=R7.below bb
           clear R7
           have R7:=Z
           clear Z
           have Z:=BF.next bb
           clear BF
           have BF:=Z
           clear Z
           have Z:=Ext.trans bv bb
           clear bv
           have bv:=Z
           clear Z
           refine hK.out _ _ (HS.out _ bv) (fun hS'=>?_)
           clear hK K hS
           have hS:=hS'
           clear hS'
           try simp only [Act.put,zq0,zq1,zq2,zq3,zq4,zq5]
           clear bb own gr
           obtain ⟨g3,hgg⟩ : ∃ z : Nat,z = vv.heap.size:=⟨_,rfl⟩
           rw [← hgg] at R3 ⊢
           clear hgg vv
           obtain ⟨vv,hvv⟩ : ∃ z : World,z = vn:=⟨_,rfl⟩
           subst hvv
           refine wpAnyH_take (i:=8) (v:=?_) rfl (by kernel_rfl) (by kernel_rfl) (by kernel_rfl) (fun _ _ _ h=>h) (Or.inl ⟨by rfl,?_⟩) hS ?_
           rotate_left
           · (intro w hSw;(try dsimp only at hSw);go_simp;(try with_reducible rfl))
           rotate_left
           simp only [Act.put,zq0,zq1,zq2,zq3,zq4,zq5]
           refine wpAnyH_ready (rs:=[10]) (by kernel_rfl) (by simp) ?_
           refine AllReadyH.cons rfl (fun K hK=>?_) AllReadyH.nil
           rw [if_pos (by rfl)]
           refine wp_store_row 67 (.tmp 16) (.tmp 63) rfl gf #[.int .i64 n,.int .u8 ((ki.toNat : Nat) : Int),.int .i64 a,.int .i64 (m : Int),.slice D bs.length dq,.slice (some ⟨g3,0,none⟩) m m,.slice (some ⟨g5,0,none⟩) m m,.slice (some ⟨g7,0,none⟩) m m] rfl rfl 67 #[.int .i64 0,.int .u8 0,.int .i64 0,.int .i64 0,.slice none 0 0,.slice none 0 0,.slice none 0 0,.slice none 0 0] BF (by kernel_rfl) rfl (by kernel_rfl) ?_
           have BG:=BF.set #[.int .i64 n,.int .u8 ((ki.toNat : Nat) : Int),.int .i64 a,.int .i64 (m : Int),.slice D bs.length dq,.slice (some ⟨g3,0,none⟩) m m,.slice (some ⟨g5,0,none⟩) m m,.slice (some ⟨g7,0,none⟩) m m]
           have S3:=R3.setRow BF (by decide) #[.int .i64 n,.int .u8 ((ki.toNat : Nat) : Int),.int .i64 a,.int .i64 (m : Int),.slice D bs.length dq,.slice (some ⟨g3,0,none⟩) m m,.slice (some ⟨g5,0,none⟩) m m,.slice (some ⟨g7,0,none⟩) m m]
           have S5:=R5.setRow BF (by decide) #[.int .i64 n,.int .u8 ((ki.toNat : Nat) : Int),.int .i64 a,.int .i64 (m : Int),.slice D bs.length dq,.slice (some ⟨g3,0,none⟩) m m,.slice (some ⟨g5,0,none⟩) m m,.slice (some ⟨g7,0,none⟩) m m]
           have S7:=R7.setRow BF (by decide) #[.int .i64 n,.int .u8 ((ki.toNat : Nat) : Int),.int .i64 a,.int .i64 (m : Int),.slice D bs.length dq,.slice (some ⟨g3,0,none⟩) m m,.slice (some ⟨g5,0,none⟩) m m,.slice (some ⟨g7,0,none⟩) m m]
           have bw:=Ext.setRow bv hgs #[.int .i64 n,.int .u8 ((ki.toNat : Nat) : Int),.int .i64 a,.int .i64 (m : Int),.slice D bs.length dq,.slice (some ⟨g3,0,none⟩) m m,.slice (some ⟨g5,0,none⟩) m m,.slice (some ⟨g7,0,none⟩) m m]
           clear BF R3 R5 R7 bv
           have hgs:=hgs
           generalize vv.setRow gf #[.int .i64 n,.int .u8 ((ki.toNat : Nat) : Int),.int .i64 a,.int .i64 (m : Int),.slice D bs.length dq,.slice (some ⟨g3,0,none⟩) m m,.slice (some ⟨g5,0,none⟩) m m,.slice (some ⟨g7,0,none⟩) m m] = vw at *
           refine hK.out _ _ (HS.out _ bw) (fun hS'=>?_)
           clear hK K hS hS'
           try simp only [Act.put,zq0,zq1,zq2,zq3,zq4,zq5]
           refine wpAnyH_done (by kernel_rfl) ?_ _
           go_wp2_with fail
           go_meet
           exact ⟨g3,g5,g7,gf,rfl,BG,S3,S5,S7,Ext.trans bd bw,Nat.le_trans bd.size hgs⟩
   · rw [if_pos (by rfl)]
     refine wp_make_full vv (.tmp 61) (.tmp 61) 65 rfl vv.heap.size 26 ix (.slice none 0 0) 1 Try.underlying65 hx hx0 hx1 .i64 .i64 (m : Int) (m : Int) m rfl rfl rfl rfl (by rw [hx2];have:=HM8.out;omega) (by have:=HM8.out;unfold maxLen;omega) (Nat.le_refl _) ?_
     intro vn own gr
     have bb:=Ext.grown (Below.refl _ _) gr (by simp)
     have R7:=NumRow.of_make own
     have Z:=Ext.trans bv bb
     clear bv
     have bv:=Z
     clear Z
     refine hK.out _ _ (HS.out _ bv) (fun hS'=>?_)
     clear hK K hS
     have hS:=hS'
     clear hS'
     try simp only [Act.put,zq0,zq1,zq2,zq3,zq4,zq5]
     clear bb own gr
     obtain ⟨g7,hgg⟩ : ∃ z : Nat,z = vv.heap.size:=⟨_,rfl⟩
     rw [← hgg] at R7 ⊢
     clear hgg vv
     obtain ⟨vv,hvv⟩ : ∃ z : World,z = vn:=⟨_,rfl⟩
     subst hvv
     refine wpAnyH_ready (rs:=[3,5,9]) (by kernel_rfl) (by simp) ?_
     refine AllReadyH.cons rfl (fun K hK=>?_) (AllReadyH.cons rfl (fun K hK=>?_) (AllReadyH.cons rfl (fun K hK=>?_) AllReadyH.nil))
     · rw [if_pos (by rfl)]
       refine wp_make_full vv (.tmp 57) (.tmp 57) 26 rfl vv.heap.size 5 iu (.int .u8 0) 1 Try.underlying26 hu hu0 hu1 .i64 .i64 (m : Int) (m : Int) m rfl rfl rfl rfl (by rw [hu2];have:=HM8.out;omega) (by have:=HM8.out;unfold maxLen;omega) (Nat.le_refl _) ?_
       intro vn own gr
       have bb:=Ext.grown (Below.refl _ _) gr (by simp)
       have R3:=NumRow.of_make own
       have Z:=R7.below bb
       clear R7
       have R7:=Z
       clear Z
       have Z:=Ext.trans bv bb
       clear bv
       have bv:=Z
       clear Z
       refine hK.out _ _ (HS.out _ bv) (fun hS'=>?_)
       clear hK K hS
       have hS:=hS'
       clear hS'
       try simp only [Act.put,zq0,zq1,zq2,zq3,zq4,zq5]
       clear bb own gr
       obtain ⟨g3,hgg⟩ : ∃ z : Nat,z = vv.heap.size:=⟨_,rfl⟩
       rw [← hgg] at R3 ⊢
       clear hgg vv
       obtain ⟨vv,hvv⟩ : ∃ z : World,z = vn:=⟨_,rfl⟩
       subst hvv
       refine wpAnyH_ready (rs:=[5,9]) (by kernel_rfl) (by simp) ?_
       refine AllReadyH.cons rfl (fun K hK=>?_) (AllReadyH.cons rfl (fun K hK=>?_) AllReadyH.nil)
       · rw [if_pos (by rfl)]
         refine wp_make_full vv (.tmp 59) (.tmp 59) 64 rfl vv.heap.size 22 iq (.int .u32 0) 1 Try.underlying64 hq hq0 hq1 .i64 .i64 (m : Int) (m : Int) m rfl rfl rfl rfl (by rw [hq2];have:=HM8.out;omega) (by have:=HM8.out;unfold maxLen;omega) (Nat.le_refl _) ?_
         intro vn own gr
         have bb:=Ext.grown (Below.refl _ _) gr (by simp)
         have R5:=NumRow.of_make own
         have Z:=R3.below bb
         clear R3
         have R3:=Z
         clear Z
         have Z:=R7.below bb
         clear R7
         have R7:=Z
         clear Z
         have Z:=Ext.trans bv bb
         clear bv
         have bv:=Z
         clear Z
         refine hK.out _ _ (HS.out _ bv) (fun hS'=>?_)
         clear hK K hS
         have hS:=hS'
         clear hS'
         try simp only [Act.put,zq0,zq1,zq2,zq3,zq4,zq5]
         clear bb own gr
         obtain ⟨g5,hgg⟩ : ∃ z : Nat,z = vv.heap.size:=⟨_,rfl⟩
         rw [← hgg] at R5 ⊢
         clear hgg vv
         obtain ⟨vv,hvv⟩ : ∃ z : World,z = vn:=⟨_,rfl⟩
         subst hvv
         refine wpAnyH_take (i:=8) (v:=?_) rfl (by kernel_rfl) (by kernel_rfl) (by kernel_rfl) (fun _ _ _ h=>h) (Or.inl ⟨by rfl,?_⟩) hS ?_
         rotate_left
         · (intro w hSw;(try dsimp only at hSw);go_simp;(try with_reducible rfl))
         rotate_left
         simp only [Act.put,zq0,zq1,zq2,zq3,zq4,zq5]
         refine wpAnyH_ready (rs:=[9]) (by kernel_rfl) (by simp) ?_
         refine AllReadyH.cons rfl (fun K hK=>?_) AllReadyH.nil
         · rw [if_pos (by rfl)]
           go_simp
           have hgs:=bv.size
           have bb:=Ext.alloc (Below.refl vv.heap.size vv) (.cells #[.int .i64 0,.int .u8 0,.int .i64 0,.int .i64 0,.slice none 0 0,.slice none 0 0,.slice none 0 0,.slice none 0 0] 67)
           have BF:=BoxOf.new vv #[.int .i64 0,.int .u8 0,.int .i64 0,.int .i64 0,.slice none 0 0,.slice none 0 0,.slice none 0 0,.slice none 0 0] 67
           have Z:=R3.below bb
           clear R3
           have R3:=Z
           clear Z
           have Z:=R5.below bb
           clear R5
           have R5:=Z
           clear Z
           have Z:=R7.below bb
           clear R7
           have R7:=Z
           clear Z
           have Z:=Ext.trans bv bb
           clear bv
           have bv:=Z
           clear Z
           refine hK.out _ _ (HS.out _ bv) (fun hS'=>?_)
           clear hK K hS
           have hS:=hS'
           clear hS'
           try simp only [Act.put,zq0,zq1,zq2,zq3,zq4,zq5]
           clear bb
           obtain ⟨gf,hgf⟩ : ∃ z : Nat,z = vv.heap.size:=⟨_,rfl⟩
           rw [← hgf] at BF hgs ⊢
           clear hgf
           generalize vv.alloc (.cells #[.int .i64 0,.int .u8 0,.int .i64 0,.int .i64 0,.slice none 0 0,.slice none 0 0,.slice none 0 0,.slice none 0 0] 67) = vv at *
           refine wpAnyH_ready (rs:=[10]) (by kernel_rfl) (by simp) ?_
           refine AllReadyH.cons rfl (fun K hK=>?_) AllReadyH.nil
           rw [if_pos (by rfl)]
           refine wp_store_row 67 (.tmp 16) (.tmp 63) rfl gf #[.int .i64 n,.int .u8 ((ki.toNat : Nat) : Int),.int .i64 a,.int .i64 (m : Int),.slice D bs.length dq,.slice (some ⟨g3,0,none⟩) m m,.slice (some ⟨g5,0,none⟩) m m,.slice (some ⟨g7,0,none⟩) m m] rfl rfl 67 #[.int .i64 0,.int .u8 0,.int .i64 0,.int .i64 0,.slice none 0 0,.slice none 0 0,.slice none 0 0,.slice none 0 0] BF (by kernel_rfl) rfl (by kernel_rfl) ?_
           have BG:=BF.set #[.int .i64 n,.int .u8 ((ki.toNat : Nat) : Int),.int .i64 a,.int .i64 (m : Int),.slice D bs.length dq,.slice (some ⟨g3,0,none⟩) m m,.slice (some ⟨g5,0,none⟩) m m,.slice (some ⟨g7,0,none⟩) m m]
           have S3:=R3.setRow BF (by decide) #[.int .i64 n,.int .u8 ((ki.toNat : Nat) : Int),.int .i64 a,.int .i64 (m : Int),.slice D bs.length dq,.slice (some ⟨g3,0,none⟩) m m,.slice (some ⟨g5,0,none⟩) m m,.slice (some ⟨g7,0,none⟩) m m]
           have S5:=R5.setRow BF (by decide) #[.int .i64 n,.int .u8 ((ki.toNat : Nat) : Int),.int .i64 a,.int .i64 (m : Int),.slice D bs.length dq,.slice (some ⟨g3,0,none⟩) m m,.slice (some ⟨g5,0,none⟩) m m,.slice (some ⟨g7,0,none⟩) m m]
           have S7:=R7.setRow BF (by decide) #[.int .i64 n,.int .u8 ((ki.toNat : Nat) : Int),.int .i64 a,.int .i64 (m : Int),.slice D bs.length dq,.slice (some ⟨g3,0,none⟩) m m,.slice (some ⟨g5,0,none⟩) m m,.slice (some ⟨g7,0,none⟩) m m]
           have bw:=Ext.setRow bv hgs #[.int .i64 n,.int .u8 ((ki.toNat : Nat) : Int),.int .i64 a,.int .i64 (m : Int),.slice D bs.length dq,.slice (some ⟨g3,0,none⟩) m m,.slice (some ⟨g5,0,none⟩) m m,.slice (some ⟨g7,0,none⟩) m m]
           clear BF R3 R5 R7 bv
           have hgs:=hgs
           generalize vv.setRow gf #[.int .i64 n,.int .u8 ((ki.toNat : Nat) : Int),.int .i64 a,.int .i64 (m : Int),.slice D bs.length dq,.slice (some ⟨g3,0,none⟩) m m,.slice (some ⟨g5,0,none⟩) m m,.slice (some ⟨g7,0,none⟩) m m] = vw at *
           refine hK.out _ _ (HS.out _ bw) (fun hS'=>?_)
           clear hK K hS hS'
           try simp only [Act.put,zq0,zq1,zq2,zq3,zq4,zq5]
           refine wpAnyH_done (by kernel_rfl) ?_ _
           go_wp2_with fail
           go_meet
           exact ⟨g3,g5,g7,gf,rfl,BG,S3,S5,S7,Ext.trans bd bw,Nat.le_trans bd.size hgs⟩
       · rw [if_pos (by rfl)]
         go_simp
         have hgs:=bv.size
         have bb:=Ext.alloc (Below.refl vv.heap.size vv) (.cells #[.int .i64 0,.int .u8 0,.int .i64 0,.int .i64 0,.slice none 0 0,.slice none 0 0,.slice none 0 0,.slice none 0 0] 67)
         have BF:=BoxOf.new vv #[.int .i64 0,.int .u8 0,.int .i64 0,.int .i64 0,.slice none 0 0,.slice none 0 0,.slice none 0 0,.slice none 0 0] 67
         have Z:=R3.below bb
         clear R3
         have R3:=Z
         clear Z
         have Z:=R7.below bb
         clear R7
         have R7:=Z
         clear Z
         have Z:=Ext.trans bv bb
         clear bv
         have bv:=Z
         clear Z
         refine hK.out _ _ (HS.out _ bv) (fun hS'=>?_)
         clear hK K hS
         have hS:=hS'
         clear hS'
         try simp only [Act.put,zq0,zq1,zq2,zq3,zq4,zq5]
         clear bb
         obtain ⟨gf,hgf⟩ : ∃ z : Nat,z = vv.heap.size:=⟨_,rfl⟩
         rw [← hgf] at BF hgs ⊢
         clear hgf
         generalize vv.alloc (.cells #[.int .i64 0,.int .u8 0,.int .i64 0,.int .i64 0,.slice none 0 0,.slice none 0 0,.slice none 0 0,.slice none 0 0] 67) = vv at *
         refine wpAnyH_ready (rs:=[5]) (by kernel_rfl) (by simp) ?_
         refine AllReadyH.cons rfl (fun K hK=>?_) AllReadyH.nil
         · rw [if_pos (by rfl)]
           refine wp_make_full vv (.tmp 59) (.tmp 59) 64 rfl vv.heap.size 22 iq (.int .u32 0) 1 Try.underlying64 hq hq0 hq1 .i64 .i64 (m : Int) (m : Int) m rfl rfl rfl rfl (by rw [hq2];have:=HM8.out;omega) (by have:=HM8.out;unfold maxLen;omega) (Nat.le_refl _) ?_
           intro vn own gr
           have bb:=Ext.grown (Below.refl _ _) gr (by simp)
           have R5:=NumRow.of_make own
           have Z:=R3.below bb
           clear R3
           have R3:=Z
           clear Z
           have Z:=R7.below bb
           clear R7
           have R7:=Z
           clear Z
           have Z:=BF.next bb
           clear BF
           have BF:=Z
           clear Z
           have Z:=Ext.trans bv bb
           clear bv
           have bv:=Z
           clear Z
           refine hK.out _ _ (HS.out _ bv) (fun hS'=>?_)
           clear hK K hS
           have hS:=hS'
           clear hS'
           try simp only [Act.put,zq0,zq1,zq2,zq3,zq4,zq5]
           clear bb own gr
           obtain ⟨g5,hgg⟩ : ∃ z : Nat,z = vv.heap.size:=⟨_,rfl⟩
           rw [← hgg] at R5 ⊢
           clear hgg vv
           obtain ⟨vv,hvv⟩ : ∃ z : World,z = vn:=⟨_,rfl⟩
           subst hvv
           refine wpAnyH_take (i:=8) (v:=?_) rfl (by kernel_rfl) (by kernel_rfl) (by kernel_rfl) (fun _ _ _ h=>h) (Or.inl ⟨by rfl,?_⟩) hS ?_
           rotate_left
           · (intro w hSw;(try dsimp only at hSw);go_simp;(try with_reducible rfl))
           rotate_left
           simp only [Act.put,zq0,zq1,zq2,zq3,zq4,zq5]
           refine wpAnyH_ready (rs:=[10]) (by kernel_rfl) (by simp) ?_
           refine AllReadyH.cons rfl (fun K hK=>?_) AllReadyH.nil
           rw [if_pos (by rfl)]
           refine wp_store_row 67 (.tmp 16) (.tmp 63) rfl gf #[.int .i64 n,.int .u8 ((ki.toNat : Nat) : Int),.int .i64 a,.int .i64 (m : Int),.slice D bs.length dq,.slice (some ⟨g3,0,none⟩) m m,.slice (some ⟨g5,0,none⟩) m m,.slice (some ⟨g7,0,none⟩) m m] rfl rfl 67 #[.int .i64 0,.int .u8 0,.int .i64 0,.int .i64 0,.slice none 0 0,.slice none 0 0,.slice none 0 0,.slice none 0 0] BF (by kernel_rfl) rfl (by kernel_rfl) ?_
           have BG:=BF.set #[.int .i64 n,.int .u8 ((ki.toNat : Nat) : Int),.int .i64 a,.int .i64 (m : Int),.slice D bs.length dq,.slice (some ⟨g3,0,none⟩) m m,.slice (some ⟨g5,0,none⟩) m m,.slice (some ⟨g7,0,none⟩) m m]
           have S3:=R3.setRow BF (by decide) #[.int .i64 n,.int .u8 ((ki.toNat : Nat) : Int),.int .i64 a,.int .i64 (m : Int),.slice D bs.length dq,.slice (some ⟨g3,0,none⟩) m m,.slice (some ⟨g5,0,none⟩) m m,.slice (some ⟨g7,0,none⟩) m m]
           have S5:=R5.setRow BF (by decide) #[.int .i64 n,.int .u8 ((ki.toNat : Nat) : Int),.int .i64 a,.int .i64 (m : Int),.slice D bs.length dq,.slice (some ⟨g3,0,none⟩) m m,.slice (some ⟨g5,0,none⟩) m m,.slice (some ⟨g7,0,none⟩) m m]
           have S7:=R7.setRow BF (by decide) #[.int .i64 n,.int .u8 ((ki.toNat : Nat) : Int),.int .i64 a,.int .i64 (m : Int),.slice D bs.length dq,.slice (some ⟨g3,0,none⟩) m m,.slice (some ⟨g5,0,none⟩) m m,.slice (some ⟨g7,0,none⟩) m m]
           have bw:=Ext.setRow bv hgs #[.int .i64 n,.int .u8 ((ki.toNat : Nat) : Int),.int .i64 a,.int .i64 (m : Int),.slice D bs.length dq,.slice (some ⟨g3,0,none⟩) m m,.slice (some ⟨g5,0,none⟩) m m,.slice (some ⟨g7,0,none⟩) m m]
           clear BF R3 R5 R7 bv
           have hgs:=hgs
           generalize vv.setRow gf #[.int .i64 n,.int .u8 ((ki.toNat : Nat) : Int),.int .i64 a,.int .i64 (m : Int),.slice D bs.length dq,.slice (some ⟨g3,0,none⟩) m m,.slice (some ⟨g5,0,none⟩) m m,.slice (some ⟨g7,0,none⟩) m m] = vw at *
           refine hK.out _ _ (HS.out _ bw) (fun hS'=>?_)
           clear hK K hS hS'
           try simp only [Act.put,zq0,zq1,zq2,zq3,zq4,zq5]
           refine wpAnyH_done (by kernel_rfl) ?_ _
           go_wp2_with fail
           go_meet
           exact ⟨g3,g5,g7,gf,rfl,BG,S3,S5,S7,Ext.trans bd bw,Nat.le_trans bd.size hgs⟩
     · rw [if_pos (by rfl)]
       refine wp_make_full vv (.tmp 59) (.tmp 59) 64 rfl vv.heap.size 22 iq (.int .u32 0) 1 Try.underlying64 hq hq0 hq1 .i64 .i64 (m : Int) (m : Int) m rfl rfl rfl rfl (by rw [hq2];have:=HM8.out;omega) (by have:=HM8.out;unfold maxLen;omega) (Nat.le_refl _) ?_
       intro vn own gr
       have bb:=Ext.grown (Below.refl _ _) gr (by simp)
       have R5:=NumRow.of_make own
       have Z:=R7.below bb
       clear R7
       have R7:=Z
       clear Z
       have Z:=Ext.trans bv bb
       clear bv
       have bv:=Z
       clear Z
       refine hK.out _ _ (HS.out _ bv) (fun hS'=>?_)
       clear hK K hS
       have hS:=hS'
       clear hS'
       try simp only [Act.put,zq0,zq1,zq2,zq3,zq4,zq5]
       clear bb own gr
       obtain ⟨g5,hgg⟩ : ∃ z : Nat,z = vv.heap.size:=⟨_,rfl⟩
       rw [← hgg] at R5 ⊢
       clear hgg vv
       obtain ⟨vv,hvv⟩ : ∃ z : World,z = vn:=⟨_,rfl⟩
       subst hvv
       refine wpAnyH_ready (rs:=[3,9]) (by kernel_rfl) (by simp) ?_
       refine AllReadyH.cons rfl (fun K hK=>?_) (AllReadyH.cons rfl (fun K hK=>?_) AllReadyH.nil)
       · rw [if_pos (by rfl)]
         refine wp_make_full vv (.tmp 57) (.tmp 57) 26 rfl vv.heap.size 5 iu (.int .u8 0) 1 Try.underlying26 hu hu0 hu1 .i64 .i64 (m : Int) (m : Int) m rfl rfl rfl rfl (by rw [hu2];have:=HM8.out;omega) (by have:=HM8.out;unfold maxLen;omega) (Nat.le_refl _) ?_
         intro vn own gr
         have bb:=Ext.grown (Below.refl _ _) gr (by simp)
         have R3:=NumRow.of_make own
         have Z:=R5.below bb
         clear R5
         have R5:=Z
         clear Z
         have Z:=R7.below bb
         clear R7
         have R7:=Z
         clear Z
         have Z:=Ext.trans bv bb
         clear bv
         have bv:=Z
         clear Z
         refine hK.out _ _ (HS.out _ bv) (fun hS'=>?_)
         clear hK K hS
         have hS:=hS'
         clear hS'
         try simp only [Act.put,zq0,zq1,zq2,zq3,zq4,zq5]
         clear bb own gr
         obtain ⟨g3,hgg⟩ : ∃ z : Nat,z = vv.heap.size:=⟨_,rfl⟩
         rw [← hgg] at R3 ⊢
         clear hgg vv
         obtain ⟨vv,hvv⟩ : ∃ z : World,z = vn:=⟨_,rfl⟩
         subst hvv
         refine wpAnyH_take (i:=8) (v:=?_) rfl (by kernel_rfl) (by kernel_rfl) (by kernel_rfl) (fun _ _ _ h=>h) (Or.inl ⟨by rfl,?_⟩) hS ?_
         rotate_left
         · (intro w hSw;(try dsimp only at hSw);go_simp;(try with_reducible rfl))
         rotate_left
         simp only [Act.put,zq0,zq1,zq2,zq3,zq4,zq5]
         refine wpAnyH_ready (rs:=[9]) (by kernel_rfl) (by simp) ?_
         refine AllReadyH.cons rfl (fun K hK=>?_) AllReadyH.nil
         · rw [if_pos (by rfl)]
           go_simp
           have hgs:=bv.size
           have bb:=Ext.alloc (Below.refl vv.heap.size vv) (.cells #[.int .i64 0,.int .u8 0,.int .i64 0,.int .i64 0,.slice none 0 0,.slice none 0 0,.slice none 0 0,.slice none 0 0] 67)
           have BF:=BoxOf.new vv #[.int .i64 0,.int .u8 0,.int .i64 0,.int .i64 0,.slice none 0 0,.slice none 0 0,.slice none 0 0,.slice none 0 0] 67
           have Z:=R3.below bb
           clear R3
           have R3:=Z
           clear Z
           have Z:=R5.below bb
           clear R5
           have R5:=Z
           clear Z
           have Z:=R7.below bb
           clear R7
           have R7:=Z
           clear Z
           have Z:=Ext.trans bv bb
           clear bv
           have bv:=Z
           clear Z
           refine hK.out _ _ (HS.out _ bv) (fun hS'=>?_)
           clear hK K hS
           have hS:=hS'
           clear hS'
           try simp only [Act.put,zq0,zq1,zq2,zq3,zq4,zq5]
           clear bb
           obtain ⟨gf,hgf⟩ : ∃ z : Nat,z = vv.heap.size:=⟨_,rfl⟩
           rw [← hgf] at BF hgs ⊢
           clear hgf
           generalize vv.alloc (.cells #[.int .i64 0,.int .u8 0,.int .i64 0,.int .i64 0,.slice none 0 0,.slice none 0 0,.slice none 0 0,.slice none 0 0] 67) = vv at *
           refine wpAnyH_ready (rs:=[10]) (by kernel_rfl) (by simp) ?_
           refine AllReadyH.cons rfl (fun K hK=>?_) AllReadyH.nil
           rw [if_pos (by rfl)]
           refine wp_store_row 67 (.tmp 16) (.tmp 63) rfl gf #[.int .i64 n,.int .u8 ((ki.toNat : Nat) : Int),.int .i64 a,.int .i64 (m : Int),.slice D bs.length dq,.slice (some ⟨g3,0,none⟩) m m,.slice (some ⟨g5,0,none⟩) m m,.slice (some ⟨g7,0,none⟩) m m] rfl rfl 67 #[.int .i64 0,.int .u8 0,.int .i64 0,.int .i64 0,.slice none 0 0,.slice none 0 0,.slice none 0 0,.slice none 0 0] BF (by kernel_rfl) rfl (by kernel_rfl) ?_
           have BG:=BF.set #[.int .i64 n,.int .u8 ((ki.toNat : Nat) : Int),.int .i64 a,.int .i64 (m : Int),.slice D bs.length dq,.slice (some ⟨g3,0,none⟩) m m,.slice (some ⟨g5,0,none⟩) m m,.slice (some ⟨g7,0,none⟩) m m]
           have S3:=R3.setRow BF (by decide) #[.int .i64 n,.int .u8 ((ki.toNat : Nat) : Int),.int .i64 a,.int .i64 (m : Int),.slice D bs.length dq,.slice (some ⟨g3,0,none⟩) m m,.slice (some ⟨g5,0,none⟩) m m,.slice (some ⟨g7,0,none⟩) m m]
           have S5:=R5.setRow BF (by decide) #[.int .i64 n,.int .u8 ((ki.toNat : Nat) : Int),.int .i64 a,.int .i64 (m : Int),.slice D bs.length dq,.slice (some ⟨g3,0,none⟩) m m,.slice (some ⟨g5,0,none⟩) m m,.slice (some ⟨g7,0,none⟩) m m]
           have S7:=R7.setRow BF (by decide) #[.int .i64 n,.int .u8 ((ki.toNat : Nat) : Int),.int .i64 a,.int .i64 (m : Int),.slice D bs.length dq,.slice (some ⟨g3,0,none⟩) m m,.slice (some ⟨g5,0,none⟩) m m,.slice (some ⟨g7,0,none⟩) m m]
           have bw:=Ext.setRow bv hgs #[.int .i64 n,.int .u8 ((ki.toNat : Nat) : Int),.int .i64 a,.int .i64 (m : Int),.slice D bs.length dq,.slice (some ⟨g3,0,none⟩) m m,.slice (some ⟨g5,0,none⟩) m m,.slice (some ⟨g7,0,none⟩) m m]
           clear BF R3 R5 R7 bv
           have hgs:=hgs
           generalize vv.setRow gf #[.int .i64 n,.int .u8 ((ki.toNat : Nat) : Int),.int .i64 a,.int .i64 (m : Int),.slice D bs.length dq,.slice (some ⟨g3,0,none⟩) m m,.slice (some ⟨g5,0,none⟩) m m,.slice (some ⟨g7,0,none⟩) m m] = vw at *
           refine hK.out _ _ (HS.out _ bw) (fun hS'=>?_)
           clear hK K hS hS'
           try simp only [Act.put,zq0,zq1,zq2,zq3,zq4,zq5]
           refine wpAnyH_done (by kernel_rfl) ?_ _
           go_wp2_with fail
           go_meet
           exact ⟨g3,g5,g7,gf,rfl,BG,S3,S5,S7,Ext.trans bd bw,Nat.le_trans bd.size hgs⟩
       · rw [if_pos (by rfl)]
         go_simp
         have hgs:=bv.size
         have bb:=Ext.alloc (Below.refl vv.heap.size vv) (.cells #[.int .i64 0,.int .u8 0,.int .i64 0,.int .i64 0,.slice none 0 0,.slice none 0 0,.slice none 0 0,.slice none 0 0] 67)
         have BF:=BoxOf.new vv #[.int .i64 0,.int .u8 0,.int .i64 0,.int .i64 0,.slice none 0 0,.slice none 0 0,.slice none 0 0,.slice none 0 0] 67
         have Z:=R5.below bb
         clear R5
         have R5:=Z
         clear Z
         have Z:=R7.below bb
         clear R7
         have R7:=Z
         clear Z
         have Z:=Ext.trans bv bb
         clear bv
         have bv:=Z
         clear Z
         refine hK.out _ _ (HS.out _ bv) (fun hS'=>?_)
         clear hK K hS
         have hS:=hS'
         clear hS'
         try simp only [Act.put,zq0,zq1,zq2,zq3,zq4,zq5]
         clear bb
         obtain ⟨gf,hgf⟩ : ∃ z : Nat,z = vv.heap.size:=⟨_,rfl⟩
         rw [← hgf] at BF hgs ⊢
         clear hgf
         generalize vv.alloc (.cells #[.int .i64 0,.int .u8 0,.int .i64 0,.int .i64 0,.slice none 0 0,.slice none 0 0,.slice none 0 0,.slice none 0 0] 67) = vv at *
         refine wpAnyH_ready (rs:=[3]) (by kernel_rfl) (by simp) ?_
         refine AllReadyH.cons rfl (fun K hK=>?_) AllReadyH.nil
         · rw [if_pos (by rfl)]
           refine wp_make_full vv (.tmp 57) (.tmp 57) 26 rfl vv.heap.size 5 iu (.int .u8 0) 1 Try.underlying26 hu hu0 hu1 .i64 .i64 (m : Int) (m : Int) m rfl rfl rfl rfl (by rw [hu2];have:=HM8.out;omega) (by have:=HM8.out;unfold maxLen;omega) (Nat.le_refl _) ?_
           intro vn own gr
           have bb:=Ext.grown (Below.refl _ _) gr (by simp)
           have R3:=NumRow.of_make own
           have Z:=R5.below bb
           clear R5
           have R5:=Z
           clear Z
           have Z:=R7.below bb
           clear R7
           have R7:=Z
           clear Z
           have Z:=BF.next bb
           clear BF
           have BF:=Z
           clear Z
           have Z:=Ext.trans bv bb
           clear bv
           have bv:=Z
           clear Z
           refine hK.out _ _ (HS.out _ bv) (fun hS'=>?_)
           clear hK K hS
           have hS:=hS'
           clear hS'
           try simp only [Act.put,zq0,zq1,zq2,zq3,zq4,zq5]
           clear bb own gr
           obtain ⟨g3,hgg⟩ : ∃ z : Nat,z = vv.heap.size:=⟨_,rfl⟩
           rw [← hgg] at R3 ⊢
           clear hgg vv
           obtain ⟨vv,hvv⟩ : ∃ z : World,z = vn:=⟨_,rfl⟩
           subst hvv
           refine wpAnyH_take (i:=8) (v:=?_) rfl (by kernel_rfl) (by kernel_rfl) (by kernel_rfl) (fun _ _ _ h=>h) (Or.inl ⟨by rfl,?_⟩) hS ?_
           rotate_left
           · (intro w hSw;(try dsimp only at hSw);go_simp;(try with_reducible rfl))
           rotate_left
           simp only [Act.put,zq0,zq1,zq2,zq3,zq4,zq5]
           refine wpAnyH_ready (rs:=[10]) (by kernel_rfl) (by simp) ?_
           refine AllReadyH.cons rfl (fun K hK=>?_) AllReadyH.nil
           rw [if_pos (by rfl)]
           refine wp_store_row 67 (.tmp 16) (.tmp 63) rfl gf #[.int .i64 n,.int .u8 ((ki.toNat : Nat) : Int),.int .i64 a,.int .i64 (m : Int),.slice D bs.length dq,.slice (some ⟨g3,0,none⟩) m m,.slice (some ⟨g5,0,none⟩) m m,.slice (some ⟨g7,0,none⟩) m m] rfl rfl 67 #[.int .i64 0,.int .u8 0,.int .i64 0,.int .i64 0,.slice none 0 0,.slice none 0 0,.slice none 0 0,.slice none 0 0] BF (by kernel_rfl) rfl (by kernel_rfl) ?_
           have BG:=BF.set #[.int .i64 n,.int .u8 ((ki.toNat : Nat) : Int),.int .i64 a,.int .i64 (m : Int),.slice D bs.length dq,.slice (some ⟨g3,0,none⟩) m m,.slice (some ⟨g5,0,none⟩) m m,.slice (some ⟨g7,0,none⟩) m m]
           have S3:=R3.setRow BF (by decide) #[.int .i64 n,.int .u8 ((ki.toNat : Nat) : Int),.int .i64 a,.int .i64 (m : Int),.slice D bs.length dq,.slice (some ⟨g3,0,none⟩) m m,.slice (some ⟨g5,0,none⟩) m m,.slice (some ⟨g7,0,none⟩) m m]
           have S5:=R5.setRow BF (by decide) #[.int .i64 n,.int .u8 ((ki.toNat : Nat) : Int),.int .i64 a,.int .i64 (m : Int),.slice D bs.length dq,.slice (some ⟨g3,0,none⟩) m m,.slice (some ⟨g5,0,none⟩) m m,.slice (some ⟨g7,0,none⟩) m m]
           have S7:=R7.setRow BF (by decide) #[.int .i64 n,.int .u8 ((ki.toNat : Nat) : Int),.int .i64 a,.int .i64 (m : Int),.slice D bs.length dq,.slice (some ⟨g3,0,none⟩) m m,.slice (some ⟨g5,0,none⟩) m m,.slice (some ⟨g7,0,none⟩) m m]
           have bw:=Ext.setRow bv hgs #[.int .i64 n,.int .u8 ((ki.toNat : Nat) : Int),.int .i64 a,.int .i64 (m : Int),.slice D bs.length dq,.slice (some ⟨g3,0,none⟩) m m,.slice (some ⟨g5,0,none⟩) m m,.slice (some ⟨g7,0,none⟩) m m]
           clear BF R3 R5 R7 bv
           have hgs:=hgs
           generalize vv.setRow gf #[.int .i64 n,.int .u8 ((ki.toNat : Nat) : Int),.int .i64 a,.int .i64 (m : Int),.slice D bs.length dq,.slice (some ⟨g3,0,none⟩) m m,.slice (some ⟨g5,0,none⟩) m m,.slice (some ⟨g7,0,none⟩) m m] = vw at *
           refine hK.out _ _ (HS.out _ bw) (fun hS'=>?_)
           clear hK K hS hS'
           try simp only [Act.put,zq0,zq1,zq2,zq3,zq4,zq5]
           refine wpAnyH_done (by kernel_rfl) ?_ _
           go_wp2_with fail
           go_meet
           exact ⟨g3,g5,g7,gf,rfl,BG,S3,S5,S7,Ext.trans bd bw,Nat.le_trans bd.size hgs⟩
     · rw [if_pos (by rfl)]
       go_simp
       have hgs:=bv.size
       have bb:=Ext.alloc (Below.refl vv.heap.size vv) (.cells #[.int .i64 0,.int .u8 0,.int .i64 0,.int .i64 0,.slice none 0 0,.slice none 0 0,.slice none 0 0,.slice none 0 0] 67)
       have BF:=BoxOf.new vv #[.int .i64 0,.int .u8 0,.int .i64 0,.int .i64 0,.slice none 0 0,.slice none 0 0,.slice none 0 0,.slice none 0 0] 67
       have Z:=R7.below bb
       clear R7
       have R7:=Z
       clear Z
       have Z:=Ext.trans bv bb
       clear bv
       have bv:=Z
       clear Z
       refine hK.out _ _ (HS.out _ bv) (fun hS'=>?_)
       clear hK K hS
       have hS:=hS'
       clear hS'
       try simp only [Act.put,zq0,zq1,zq2,zq3,zq4,zq5]
       clear bb
       obtain ⟨gf,hgf⟩ : ∃ z : Nat,z = vv.heap.size:=⟨_,rfl⟩
       rw [← hgf] at BF hgs ⊢
       clear hgf
       generalize vv.alloc (.cells #[.int .i64 0,.int .u8 0,.int .i64 0,.int .i64 0,.slice none 0 0,.slice none 0 0,.slice none 0 0,.slice none 0 0] 67) = vv at *
       refine wpAnyH_ready (rs:=[3,5]) (by kernel_rfl) (by simp) ?_
       refine AllReadyH.cons rfl (fun K hK=>?_) (AllReadyH.cons rfl (fun K hK=>?_) AllReadyH.nil)
       · rw [if_pos (by rfl)]
         refine wp_make_full vv (.tmp 57) (.tmp 57) 26 rfl vv.heap.size 5 iu (.int .u8 0) 1 Try.underlying26 hu hu0 hu1 .i64 .i64 (m : Int) (m : Int) m rfl rfl rfl rfl (by rw [hu2];have:=HM8.out;omega) (by have:=HM8.out;unfold maxLen;omega) (Nat.le_refl _) ?_
         intro vn own gr
         have bb:=Ext.grown (Below.refl _ _) gr (by simp)
         have R3:=NumRow.of_make own
         have Z:=R7.below bb
         clear R7
         have R7:=Z
         clear Z
         have Z:=BF.next bb
         clear BF
         have BF:=Z
         clear Z
         have Z:=Ext.trans bv bb
         clear bv
         have bv:=Z
         clear Z
         refine hK.out _ _ (HS.out _ bv) (fun hS'=>?_)
         clear hK K hS
         have hS:=hS'
         clear hS'
         try simp only [Act.put,zq0,zq1,zq2,zq3,zq4,zq5]
         clear bb own gr
         obtain ⟨g3,hgg⟩ : ∃ z : Nat,z = vv.heap.size:=⟨_,rfl⟩
         rw [← hgg] at R3 ⊢
         clear hgg vv
         obtain ⟨vv,hvv⟩ : ∃ z : World,z = vn:=⟨_,rfl⟩
         subst hvv
         refine wpAnyH_ready (rs:=[5]) (by kernel_rfl) (by simp) ?_
         refine AllReadyH.cons rfl (fun K hK=>?_) AllReadyH.nil
         · rw [if_pos (by rfl)]
           refine wp_make_full vv (.tmp 59) (.tmp 59) 64 rfl vv.heap.size 22 iq (.int .u32 0) 1 Try.underlying64 hq hq0 hq1 .i64 .i64 (m : Int) (m : Int) m rfl rfl rfl rfl (by rw [hq2];have:=HM8.out;omega) (by have:=HM8.out;unfold maxLen;omega) (Nat.le_refl _) ?_
           intro vn own gr
           have bb:=Ext.grown (Below.refl _ _) gr (by simp)
           have R5:=NumRow.of_make own
           have Z:=R3.below bb
           clear R3
           have R3:=Z
           clear Z
           have Z:=R7.below bb
           clear R7
           have R7:=Z
           clear Z
           have Z:=BF.next bb
           clear BF
           have BF:=Z
           clear Z
           have Z:=Ext.trans bv bb
           clear bv
           have bv:=Z
           clear Z
           refine hK.out _ _ (HS.out _ bv) (fun hS'=>?_)
           clear hK K hS
           have hS:=hS'
           clear hS'
           try simp only [Act.put,zq0,zq1,zq2,zq3,zq4,zq5]
           clear bb own gr
           obtain ⟨g5,hgg⟩ : ∃ z : Nat,z = vv.heap.size:=⟨_,rfl⟩
           rw [← hgg] at R5 ⊢
           clear hgg vv
           obtain ⟨vv,hvv⟩ : ∃ z : World,z = vn:=⟨_,rfl⟩
           subst hvv
           refine wpAnyH_take (i:=8) (v:=?_) rfl (by kernel_rfl) (by kernel_rfl) (by kernel_rfl) (fun _ _ _ h=>h) (Or.inl ⟨by rfl,?_⟩) hS ?_
           rotate_left
           · (intro w hSw;(try dsimp only at hSw);go_simp;(try with_reducible rfl))
           rotate_left
           simp only [Act.put,zq0,zq1,zq2,zq3,zq4,zq5]
           refine wpAnyH_ready (rs:=[10]) (by kernel_rfl) (by simp) ?_
           refine AllReadyH.cons rfl (fun K hK=>?_) AllReadyH.nil
           rw [if_pos (by rfl)]
           refine wp_store_row 67 (.tmp 16) (.tmp 63) rfl gf #[.int .i64 n,.int .u8 ((ki.toNat : Nat) : Int),.int .i64 a,.int .i64 (m : Int),.slice D bs.length dq,.slice (some ⟨g3,0,none⟩) m m,.slice (some ⟨g5,0,none⟩) m m,.slice (some ⟨g7,0,none⟩) m m] rfl rfl 67 #[.int .i64 0,.int .u8 0,.int .i64 0,.int .i64 0,.slice none 0 0,.slice none 0 0,.slice none 0 0,.slice none 0 0] BF (by kernel_rfl) rfl (by kernel_rfl) ?_
           have BG:=BF.set #[.int .i64 n,.int .u8 ((ki.toNat : Nat) : Int),.int .i64 a,.int .i64 (m : Int),.slice D bs.length dq,.slice (some ⟨g3,0,none⟩) m m,.slice (some ⟨g5,0,none⟩) m m,.slice (some ⟨g7,0,none⟩) m m]
           have S3:=R3.setRow BF (by decide) #[.int .i64 n,.int .u8 ((ki.toNat : Nat) : Int),.int .i64 a,.int .i64 (m : Int),.slice D bs.length dq,.slice (some ⟨g3,0,none⟩) m m,.slice (some ⟨g5,0,none⟩) m m,.slice (some ⟨g7,0,none⟩) m m]
           have S5:=R5.setRow BF (by decide) #[.int .i64 n,.int .u8 ((ki.toNat : Nat) : Int),.int .i64 a,.int .i64 (m : Int),.slice D bs.length dq,.slice (some ⟨g3,0,none⟩) m m,.slice (some ⟨g5,0,none⟩) m m,.slice (some ⟨g7,0,none⟩) m m]
           have S7:=R7.setRow BF (by decide) #[.int .i64 n,.int .u8 ((ki.toNat : Nat) : Int),.int .i64 a,.int .i64 (m : Int),.slice D bs.length dq,.slice (some ⟨g3,0,none⟩) m m,.slice (some ⟨g5,0,none⟩) m m,.slice (some ⟨g7,0,none⟩) m m]
           have bw:=Ext.setRow bv hgs #[.int .i64 n,.int .u8 ((ki.toNat : Nat) : Int),.int .i64 a,.int .i64 (m : Int),.slice D bs.length dq,.slice (some ⟨g3,0,none⟩) m m,.slice (some ⟨g5,0,none⟩) m m,.slice (some ⟨g7,0,none⟩) m m]
           clear BF R3 R5 R7 bv
           have hgs:=hgs
           generalize vv.setRow gf #[.int .i64 n,.int .u8 ((ki.toNat : Nat) : Int),.int .i64 a,.int .i64 (m : Int),.slice D bs.length dq,.slice (some ⟨g3,0,none⟩) m m,.slice (some ⟨g5,0,none⟩) m m,.slice (some ⟨g7,0,none⟩) m m] = vw at *
           refine hK.out _ _ (HS.out _ bw) (fun hS'=>?_)
           clear hK K hS hS'
           try simp only [Act.put,zq0,zq1,zq2,zq3,zq4,zq5]
           refine wpAnyH_done (by kernel_rfl) ?_ _
           go_wp2_with fail
           go_meet
           exact ⟨g3,g5,g7,gf,rfl,BG,S3,S5,S7,Ext.trans bd bw,Nat.le_trans bd.size hgs⟩
       · rw [if_pos (by rfl)]
         refine wp_make_full vv (.tmp 59) (.tmp 59) 64 rfl vv.heap.size 22 iq (.int .u32 0) 1 Try.underlying64 hq hq0 hq1 .i64 .i64 (m : Int) (m : Int) m rfl rfl rfl rfl (by rw [hq2];have:=HM8.out;omega) (by have:=HM8.out;unfold maxLen;omega) (Nat.le_refl _) ?_
         intro vn own gr
         have bb:=Ext.grown (Below.refl _ _) gr (by simp)
         have R5:=NumRow.of_make own
         have Z:=R7.below bb
         clear R7
         have R7:=Z
         clear Z
         have Z:=BF.next bb
         clear BF
         have BF:=Z
         clear Z
         have Z:=Ext.trans bv bb
         clear bv
         have bv:=Z
         clear Z
         refine hK.out _ _ (HS.out _ bv) (fun hS'=>?_)
         clear hK K hS
         have hS:=hS'
         clear hS'
         try simp only [Act.put,zq0,zq1,zq2,zq3,zq4,zq5]
         clear bb own gr
         obtain ⟨g5,hgg⟩ : ∃ z : Nat,z = vv.heap.size:=⟨_,rfl⟩
         rw [← hgg] at R5 ⊢
         clear hgg vv
         obtain ⟨vv,hvv⟩ : ∃ z : World,z = vn:=⟨_,rfl⟩
         subst hvv
         refine wpAnyH_ready (rs:=[3]) (by kernel_rfl) (by simp) ?_
         refine AllReadyH.cons rfl (fun K hK=>?_) AllReadyH.nil
         · rw [if_pos (by rfl)]
           refine wp_make_full vv (.tmp 57) (.tmp 57) 26 rfl vv.heap.size 5 iu (.int .u8 0) 1 Try.underlying26 hu hu0 hu1 .i64 .i64 (m : Int) (m : Int) m rfl rfl rfl rfl (by rw [hu2];have:=HM8.out;omega) (by have:=HM8.out;unfold maxLen;omega) (Nat.le_refl _) ?_
           intro vn own gr
           have bb:=Ext.grown (Below.refl _ _) gr (by simp)
           have R3:=NumRow.of_make own
           have Z:=R5.below bb
           clear R5
           have R5:=Z
           clear Z
           have Z:=R7.below bb
           clear R7
           have R7:=Z
           clear Z
           have Z:=BF.next bb
           clear BF
           have BF:=Z
           clear Z
           have Z:=Ext.trans bv bb
           clear bv
           have bv:=Z
           clear Z
           refine hK.out _ _ (HS.out _ bv) (fun hS'=>?_)
           clear hK K hS
           have hS:=hS'
           clear hS'
           try simp only [Act.put,zq0,zq1,zq2,zq3,zq4,zq5]
           clear bb own gr
           obtain ⟨g3,hgg⟩ : ∃ z : Nat,z = vv.heap.size:=⟨_,rfl⟩
           rw [← hgg] at R3 ⊢
           clear hgg vv
           obtain ⟨vv,hvv⟩ : ∃ z : World,z = vn:=⟨_,rfl⟩
           subst hvv
           refine wpAnyH_take (i:=8) (v:=?_) rfl (by kernel_rfl) (by kernel_rfl) (by kernel_rfl) (fun _ _ _ h=>h) (Or.inl ⟨by rfl,?_⟩) hS ?_
           rotate_left
           · (intro w hSw;(try dsimp only at hSw);go_simp;(try with_reducible rfl))
           rotate_left
           simp only [Act.put,zq0,zq1,zq2,zq3,zq4,zq5]
           refine wpAnyH_ready (rs:=[10]) (by kernel_rfl) (by simp) ?_
           refine AllReadyH.cons rfl (fun K hK=>?_) AllReadyH.nil
           rw [if_pos (by rfl)]
           refine wp_store_row 67 (.tmp 16) (.tmp 63) rfl gf #[.int .i64 n,.int .u8 ((ki.toNat : Nat) : Int),.int .i64 a,.int .i64 (m : Int),.slice D bs.length dq,.slice (some ⟨g3,0,none⟩) m m,.slice (some ⟨g5,0,none⟩) m m,.slice (some ⟨g7,0,none⟩) m m] rfl rfl 67 #[.int .i64 0,.int .u8 0,.int .i64 0,.int .i64 0,.slice none 0 0,.slice none 0 0,.slice none 0 0,.slice none 0 0] BF (by kernel_rfl) rfl (by kernel_rfl) ?_
           have BG:=BF.set #[.int .i64 n,.int .u8 ((ki.toNat : Nat) : Int),.int .i64 a,.int .i64 (m : Int),.slice D bs.length dq,.slice (some ⟨g3,0,none⟩) m m,.slice (some ⟨g5,0,none⟩) m m,.slice (some ⟨g7,0,none⟩) m m]
           have S3:=R3.setRow BF (by decide) #[.int .i64 n,.int .u8 ((ki.toNat : Nat) : Int),.int .i64 a,.int .i64 (m : Int),.slice D bs.length dq,.slice (some ⟨g3,0,none⟩) m m,.slice (some ⟨g5,0,none⟩) m m,.slice (some ⟨g7,0,none⟩) m m]
           have S5:=R5.setRow BF (by decide) #[.int .i64 n,.int .u8 ((ki.toNat : Nat) : Int),.int .i64 a,.int .i64 (m : Int),.slice D bs.length dq,.slice (some ⟨g3,0,none⟩) m m,.slice (some ⟨g5,0,none⟩) m m,.slice (some ⟨g7,0,none⟩) m m]
           have S7:=R7.setRow BF (by decide) #[.int .i64 n,.int .u8 ((ki.toNat : Nat) : Int),.int .i64 a,.int .i64 (m : Int),.slice D bs.length dq,.slice (some ⟨g3,0,none⟩) m m,.slice (some ⟨g5,0,none⟩) m m,.slice (some ⟨g7,0,none⟩) m m]
           have bw:=Ext.setRow bv hgs #[.int .i64 n,.int .u8 ((ki.toNat : Nat) : Int),.int .i64 a,.int .i64 (m : Int),.slice D bs.length dq,.slice (some ⟨g3,0,none⟩) m m,.slice (some ⟨g5,0,none⟩) m m,.slice (some ⟨g7,0,none⟩) m m]
           clear BF R3 R5 R7 bv
           have hgs:=hgs
           generalize vv.setRow gf #[.int .i64 n,.int .u8 ((ki.toNat : Nat) : Int),.int .i64 a,.int .i64 (m : Int),.slice D bs.length dq,.slice (some ⟨g3,0,none⟩) m m,.slice (some ⟨g5,0,none⟩) m m,.slice (some ⟨g7,0,none⟩) m m] = vw at *
           refine hK.out _ _ (HS.out _ bw) (fun hS'=>?_)
           clear hK K hS hS'
           try simp only [Act.put,zq0,zq1,zq2,zq3,zq4,zq5]
           refine wpAnyH_done (by kernel_rfl) ?_ _
           go_wp2_with fail
           go_meet
           exact ⟨g3,g5,g7,gf,rfl,BG,S3,S5,S7,Ext.trans bd bw,Nat.le_trans bd.size hgs⟩
   · rw [if_pos (by rfl)]
     go_simp
     have hgs:=bv.size
     have bb:=Ext.alloc (Below.refl vv.heap.size vv) (.cells #[.int .i64 0,.int .u8 0,.int .i64 0,.int .i64 0,.slice none 0 0,.slice none 0 0,.slice none 0 0,.slice none 0 0] 67)
     have BF:=BoxOf.new vv #[.int .i64 0,.int .u8 0,.int .i64 0,.int .i64 0,.slice none 0 0,.slice none 0 0,.slice none 0 0,.slice none 0 0] 67
     have Z:=Ext.trans bv bb
     clear bv
     have bv:=Z
     clear Z
     refine hK.out _ _ (HS.out _ bv) (fun hS'=>?_)
     clear hK K hS
     have hS:=hS'
     clear hS'
     try simp only [Act.put,zq0,zq1,zq2,zq3,zq4,zq5]
     clear bb
     obtain ⟨gf,hgf⟩ : ∃ z : Nat,z = vv.heap.size:=⟨_,rfl⟩
     rw [← hgf] at BF hgs ⊢
     clear hgf
     generalize vv.alloc (.cells #[.int .i64 0,.int .u8 0,.int .i64 0,.int .i64 0,.slice none 0 0,.slice none 0 0,.slice none 0 0,.slice none 0 0] 67) = vv at *
     refine wpAnyH_ready (rs:=[3,5,7]) (by kernel_rfl) (by simp) ?_
     refine AllReadyH.cons rfl (fun K hK=>?_) (AllReadyH.cons rfl (fun K hK=>?_) (AllReadyH.cons rfl (fun K hK=>?_) AllReadyH.nil))
     · rw [if_pos (by rfl)]
       refine wp_make_full vv (.tmp 57) (.tmp 57) 26 rfl vv.heap.size 5 iu (.int .u8 0) 1 Try.underlying26 hu hu0 hu1 .i64 .i64 (m : Int) (m : Int) m rfl rfl rfl rfl (by rw [hu2];have:=HM8.out;omega) (by have:=HM8.out;unfold maxLen;omega) (Nat.le_refl _) ?_
       intro vn own gr
       have bb:=Ext.grown (Below.refl _ _) gr (by simp)
       have R3:=NumRow.of_make own
       have Z:=BF.next bb
       clear BF
       have BF:=Z
       clear Z
       have Z:=Ext.trans bv bb
       clear bv
       have bv:=Z
       clear Z
       refine hK.out _ _ (HS.out _ bv) (fun hS'=>?_)
       clear hK K hS
       have hS:=hS'
       clear hS'
       try simp only [Act.put,zq0,zq1,zq2,zq3,zq4,zq5]
       clear bb own gr
       obtain ⟨g3,hgg⟩ : ∃ z : Nat,z = vv.heap.size:=⟨_,rfl⟩
       rw [← hgg] at R3 ⊢
       clear hgg vv
       obtain ⟨vv,hvv⟩ : ∃ z : World,z = vn:=⟨_,rfl⟩
       subst hvv
       refine wpAnyH_ready (rs:=[5,7]) (by kernel_rfl) (by simp) ?_
       refine AllReadyH.cons rfl (fun K hK=>?_) (AllReadyH.cons rfl (fun K hK=>?_) AllReadyH.nil)
       · rw [if_pos (by rfl)]
         refine wp_make_full vv (.tmp 59) (.tmp 59) 64 rfl vv.heap.size 22 iq (.int .u32 0) 1 Try.underlying64 hq hq0 hq1 .i64 .i64 (m : Int) (m : Int) m rfl rfl rfl rfl (by rw [hq2];have:=HM8.out;omega) (by have:=HM8.out;unfold maxLen;omega) (Nat.le_refl _) ?_
         intro vn own gr
         have bb:=Ext.grown (Below.refl _ _) gr (by simp)
         have R5:=NumRow.of_make own
         have Z:=R3.below bb
         clear R3
         have R3:=Z
         clear Z
         have Z:=BF.next bb
         clear BF
         have BF:=Z
         clear Z
         have Z:=Ext.trans bv bb
         clear bv
         have bv:=Z
         clear Z
         refine hK.out _ _ (HS.out _ bv) (fun hS'=>?_)
         clear hK K hS
         have hS:=hS'
         clear hS'
         try simp only [Act.put,zq0,zq1,zq2,zq3,zq4,zq5]
         clear bb own gr
         obtain ⟨g5,hgg⟩ : ∃ z : Nat,z = vv.heap.size:=⟨_,rfl⟩
         rw [← hgg] at R5 ⊢
         clear hgg vv
         obtain ⟨vv,hvv⟩ : ∃ z : World,z = vn:=⟨_,rfl⟩
         subst hvv
         refine wpAnyH_ready (rs:=[7]) (by kernel_rfl) (by simp) ?_
         refine AllReadyH.cons rfl (fun K hK=>?_) AllReadyH.nil
         · rw [if_pos (by rfl)]
           refine wp_make_full vv (.tmp 61) (.tmp 61) 65 rfl vv.heap.size 26 ix (.slice none 0 0) 1 Try.underlying65 hx hx0 hx1 .i64 .i64 (m : Int) (m : Int) m rfl rfl rfl rfl (by rw [hx2];have:=HM8.out;omega) (by have:=HM8.out;unfold maxLen;omega) (Nat.le_refl _) ?_
           intro vn own gr
           have bb:=Ext.grown (Below.refl _ _) gr (by simp)
           have R7:=NumRow.of_make own
           have Z:=R3.below bb
           clear R3
           have R3:=Z
           clear Z
           have Z:=R5.below bb
           clear R5
           have R5:=Z
           clear Z
           have Z:=BF.next bb
           clear BF
           have BF:=Z
           clear Z
           have Z:=Ext.trans bv bb
           clear bv
           have bv:=Z
           clear Z
           refine hK.out _ _ (HS.out _ bv) (fun hS'=>?_)
           clear hK K hS
           have hS:=hS'
           clear hS'
           try simp only [Act.put,zq0,zq1,zq2,zq3,zq4,zq5]
           clear bb own gr
           obtain ⟨g7,hgg⟩ : ∃ z : Nat,z = vv.heap.size:=⟨_,rfl⟩
           rw [← hgg] at R7 ⊢
           clear hgg vv
           obtain ⟨vv,hvv⟩ : ∃ z : World,z = vn:=⟨_,rfl⟩
           subst hvv
           refine wpAnyH_take (i:=8) (v:=?_) rfl (by kernel_rfl) (by kernel_rfl) (by kernel_rfl) (fun _ _ _ h=>h) (Or.inl ⟨by rfl,?_⟩) hS ?_
           rotate_left
           · (intro w hSw;(try dsimp only at hSw);go_simp;(try with_reducible rfl))
           rotate_left
           simp only [Act.put,zq0,zq1,zq2,zq3,zq4,zq5]
           refine wpAnyH_ready (rs:=[10]) (by kernel_rfl) (by simp) ?_
           refine AllReadyH.cons rfl (fun K hK=>?_) AllReadyH.nil
           rw [if_pos (by rfl)]
           refine wp_store_row 67 (.tmp 16) (.tmp 63) rfl gf #[.int .i64 n,.int .u8 ((ki.toNat : Nat) : Int),.int .i64 a,.int .i64 (m : Int),.slice D bs.length dq,.slice (some ⟨g3,0,none⟩) m m,.slice (some ⟨g5,0,none⟩) m m,.slice (some ⟨g7,0,none⟩) m m] rfl rfl 67 #[.int .i64 0,.int .u8 0,.int .i64 0,.int .i64 0,.slice none 0 0,.slice none 0 0,.slice none 0 0,.slice none 0 0] BF (by kernel_rfl) rfl (by kernel_rfl) ?_
           have BG:=BF.set #[.int .i64 n,.int .u8 ((ki.toNat : Nat) : Int),.int .i64 a,.int .i64 (m : Int),.slice D bs.length dq,.slice (some ⟨g3,0,none⟩) m m,.slice (some ⟨g5,0,none⟩) m m,.slice (some ⟨g7,0,none⟩) m m]
           have S3:=R3.setRow BF (by decide) #[.int .i64 n,.int .u8 ((ki.toNat : Nat) : Int),.int .i64 a,.int .i64 (m : Int),.slice D bs.length dq,.slice (some ⟨g3,0,none⟩) m m,.slice (some ⟨g5,0,none⟩) m m,.slice (some ⟨g7,0,none⟩) m m]
           have S5:=R5.setRow BF (by decide) #[.int .i64 n,.int .u8 ((ki.toNat : Nat) : Int),.int .i64 a,.int .i64 (m : Int),.slice D bs.length dq,.slice (some ⟨g3,0,none⟩) m m,.slice (some ⟨g5,0,none⟩) m m,.slice (some ⟨g7,0,none⟩) m m]
           have S7:=R7.setRow BF (by decide) #[.int .i64 n,.int .u8 ((ki.toNat : Nat) : Int),.int .i64 a,.int .i64 (m : Int),.slice D bs.length dq,.slice (some ⟨g3,0,none⟩) m m,.slice (some ⟨g5,0,none⟩) m m,.slice (some ⟨g7,0,none⟩) m m]
           have bw:=Ext.setRow bv hgs #[.int .i64 n,.int .u8 ((ki.toNat : Nat) : Int),.int .i64 a,.int .i64 (m : Int),.slice D bs.length dq,.slice (some ⟨g3,0,none⟩) m m,.slice (some ⟨g5,0,none⟩) m m,.slice (some ⟨g7,0,none⟩) m m]
           clear BF R3 R5 R7 bv
           have hgs:=hgs
           generalize vv.setRow gf #[.int .i64 n,.int .u8 ((ki.toNat : Nat) : Int),.int .i64 a,.int .i64 (m : Int),.slice D bs.length dq,.slice (some ⟨g3,0,none⟩) m m,.slice (some ⟨g5,0,none⟩) m m,.slice (some ⟨g7,0,none⟩) m m] = vw at *
           refine hK.out _ _ (HS.out _ bw) (fun hS'=>?_)
           clear hK K hS hS'
           try simp only [Act.put,zq0,zq1,zq2,zq3,zq4,zq5]
           refine wpAnyH_done (by kernel_rfl) ?_ _
           go_wp2_with fail
           go_meet
           exact ⟨g3,g5,g7,gf,rfl,BG,S3,S5,S7,Ext.trans bd bw,Nat.le_trans bd.size hgs⟩
       · rw [if_pos (by rfl)]
         refine wp_make_full vv (.tmp 61) (.tmp 61) 65 rfl vv.heap.size 26 ix (.slice none 0 0) 1 Try.underlying65 hx hx0 hx1 .i64 .i64 (m : Int) (m : Int) m rfl rfl rfl rfl (by rw [hx2];have:=HM8.out;omega) (by have:=HM8.out;unfold maxLen;omega) (Nat.le_refl _) ?_
         intro vn own gr
         have bb:=Ext.grown (Below.refl _ _) gr (by simp)
         have R7:=NumRow.of_make own
         have Z:=R3.below bb
         clear R3
         have R3:=Z
         clear Z
         have Z:=BF.next bb
         clear BF
         have BF:=Z
         clear Z
         have Z:=Ext.trans bv bb
         clear bv
         have bv:=Z
         clear Z
         refine hK.out _ _ (HS.out _ bv) (fun hS'=>?_)
         clear hK K hS
         have hS:=hS'
         clear hS'
         try simp only [Act.put,zq0,zq1,zq2,zq3,zq4,zq5]
         clear bb own gr
         obtain ⟨g7,hgg⟩ : ∃ z : Nat,z = vv.heap.size:=⟨_,rfl⟩
         rw [← hgg] at R7 ⊢
         clear hgg vv
         obtain ⟨vv,hvv⟩ : ∃ z : World,z = vn:=⟨_,rfl⟩
         subst hvv
         refine wpAnyH_ready (rs:=[5]) (by kernel_rfl) (by simp) ?_
         refine AllReadyH.cons rfl (fun K hK=>?_) AllReadyH.nil
         · rw [if_pos (by rfl)]
           refine wp_make_full vv (.tmp 59) (.tmp 59) 64 rfl vv.heap.size 22 iq (.int .u32 0) 1 Try.underlying64 hq hq0 hq1 .i64 .i64 (m : Int) (m : Int) m rfl rfl rfl rfl (by rw [hq2];have:=HM8.out;omega) (by have:=HM8.out;unfold maxLen;omega) (Nat.le_refl _) ?_
           intro vn own gr
           have bb:=Ext.grown (Below.refl _ _) gr (by simp)
           have R5:=NumRow.of_make own
           have Z:=R3.below bb
           clear R3
           have R3:=Z
           clear Z
           have Z:=R7.below bb
           clear R7
           have R7:=Z
           clear Z
           have Z:=BF.next bb
           clear BF
           have BF:=Z
           clear Z
           have Z:=Ext.trans bv bb
           clear bv
           have bv:=Z
           clear Z
           refine hK.out _ _ (HS.out _ bv) (fun hS'=>?_)
           clear hK K hS
           have hS:=hS'
           clear hS'
           try simp only [Act.put,zq0,zq1,zq2,zq3,zq4,zq5]
           clear bb own gr
           obtain ⟨g5,hgg⟩ : ∃ z : Nat,z = vv.heap.size:=⟨_,rfl⟩
           rw [← hgg] at R5 ⊢
           clear hgg vv
           obtain ⟨vv,hvv⟩ : ∃ z : World,z = vn:=⟨_,rfl⟩
           subst hvv
           refine wpAnyH_take (i:=8) (v:=?_) rfl (by kernel_rfl) (by kernel_rfl) (by kernel_rfl) (fun _ _ _ h=>h) (Or.inl ⟨by rfl,?_⟩) hS ?_
           rotate_left
           · (intro w hSw;(try dsimp only at hSw);go_simp;(try with_reducible rfl))
           rotate_left
           simp only [Act.put,zq0,zq1,zq2,zq3,zq4,zq5]
           refine wpAnyH_ready (rs:=[10]) (by kernel_rfl) (by simp) ?_
           refine AllReadyH.cons rfl (fun K hK=>?_) AllReadyH.nil
           rw [if_pos (by rfl)]
           refine wp_store_row 67 (.tmp 16) (.tmp 63) rfl gf #[.int .i64 n,.int .u8 ((ki.toNat : Nat) : Int),.int .i64 a,.int .i64 (m : Int),.slice D bs.length dq,.slice (some ⟨g3,0,none⟩) m m,.slice (some ⟨g5,0,none⟩) m m,.slice (some ⟨g7,0,none⟩) m m] rfl rfl 67 #[.int .i64 0,.int .u8 0,.int .i64 0,.int .i64 0,.slice none 0 0,.slice none 0 0,.slice none 0 0,.slice none 0 0] BF (by kernel_rfl) rfl (by kernel_rfl) ?_
           have BG:=BF.set #[.int .i64 n,.int .u8 ((ki.toNat : Nat) : Int),.int .i64 a,.int .i64 (m : Int),.slice D bs.length dq,.slice (some ⟨g3,0,none⟩) m m,.slice (some ⟨g5,0,none⟩) m m,.slice (some ⟨g7,0,none⟩) m m]
           have S3:=R3.setRow BF (by decide) #[.int .i64 n,.int .u8 ((ki.toNat : Nat) : Int),.int .i64 a,.int .i64 (m : Int),.slice D bs.length dq,.slice (some ⟨g3,0,none⟩) m m,.slice (some ⟨g5,0,none⟩) m m,.slice (some ⟨g7,0,none⟩) m m]
           have S5:=R5.setRow BF (by decide) #[.int .i64 n,.int .u8 ((ki.toNat : Nat) : Int),.int .i64 a,.int .i64 (m : Int),.slice D bs.length dq,.slice (some ⟨g3,0,none⟩) m m,.slice (some ⟨g5,0,none⟩) m m,.slice (some ⟨g7,0,none⟩) m m]
           have S7:=R7.setRow BF (by decide) #[.int .i64 n,.int .u8 ((ki.toNat : Nat) : Int),.int .i64 a,.int .i64 (m : Int),.slice D bs.length dq,.slice (some ⟨g3,0,none⟩) m m,.slice (some ⟨g5,0,none⟩) m m,.slice (some ⟨g7,0,none⟩) m m]
           have bw:=Ext.setRow bv hgs #[.int .i64 n,.int .u8 ((ki.toNat : Nat) : Int),.int .i64 a,.int .i64 (m : Int),.slice D bs.length dq,.slice (some ⟨g3,0,none⟩) m m,.slice (some ⟨g5,0,none⟩) m m,.slice (some ⟨g7,0,none⟩) m m]
           clear BF R3 R5 R7 bv
           have hgs:=hgs
           generalize vv.setRow gf #[.int .i64 n,.int .u8 ((ki.toNat : Nat) : Int),.int .i64 a,.int .i64 (m : Int),.slice D bs.length dq,.slice (some ⟨g3,0,none⟩) m m,.slice (some ⟨g5,0,none⟩) m m,.slice (some ⟨g7,0,none⟩) m m] = vw at *
           refine hK.out _ _ (HS.out _ bw) (fun hS'=>?_)
           clear hK K hS hS'
           try simp only [Act.put,zq0,zq1,zq2,zq3,zq4,zq5]
           refine wpAnyH_done (by kernel_rfl) ?_ _
           go_wp2_with fail
           go_meet
           exact ⟨g3,g5,g7,gf,rfl,BG,S3,S5,S7,Ext.trans bd bw,Nat.le_trans bd.size hgs⟩
     · rw [if_pos (by rfl)]
       refine wp_make_full vv (.tmp 59) (.tmp 59) 64 rfl vv.heap.size 22 iq (.int .u32 0) 1 Try.underlying64 hq hq0 hq1 .i64 .i64 (m : Int) (m : Int) m rfl rfl rfl rfl (by rw [hq2];have:=HM8.out;omega) (by have:=HM8.out;unfold maxLen;omega) (Nat.le_refl _) ?_
       intro vn own gr
       have bb:=Ext.grown (Below.refl _ _) gr (by simp)
       have R5:=NumRow.of_make own
       have Z:=BF.next bb
       clear BF
       have BF:=Z
       clear Z
       have Z:=Ext.trans bv bb
       clear bv
       have bv:=Z
       clear Z
       refine hK.out _ _ (HS.out _ bv) (fun hS'=>?_)
       clear hK K hS
       have hS:=hS'
       clear hS'
       try simp only [Act.put,zq0,zq1,zq2,zq3,zq4,zq5]
       clear bb own gr
       obtain ⟨g5,hgg⟩ : ∃ z : Nat,z = vv.heap.size:=⟨_,rfl⟩
       rw [← hgg] at R5 ⊢
       clear hgg vv
       obtain ⟨vv,hvv⟩ : ∃ z : World,z = vn:=⟨_,rfl⟩
       subst hvv
       refine wpAnyH_ready (rs:=[3,7]) (by kernel_rfl) (by simp) ?_
       refine AllReadyH.cons rfl (fun K hK=>?_) (AllReadyH.cons rfl (fun K hK=>?_) AllReadyH.nil)
       · rw [if_pos (by rfl)]
         refine wp_make_full vv (.tmp 57) (.tmp 57) 26 rfl vv.heap.size 5 iu (.int .u8 0) 1 Try.underlying26 hu hu0 hu1 .i64 .i64 (m : Int) (m : Int) m rfl rfl rfl rfl (by rw [hu2];have:=HM8.out;omega) (by have:=HM8.out;unfold maxLen;omega) (Nat.le_refl _) ?_
         intro vn own gr
         have bb:=Ext.grown (Below.refl _ _) gr (by simp)
         have R3:=NumRow.of_make own
         have Z:=R5.below bb
         clear R5
         have R5:=Z
         clear Z
         have Z:=BF.next bb
         clear BF
         have BF:=Z
         clear Z
         have Z:=Ext.trans bv bb
         clear bv
         have bv:=Z
         clear Z
         refine hK.out _ _ (HS.out _ bv) (fun hS'=>?_)
         clear hK K hS
         have hS:=hS'
         clear hS'
         try simp only [Act.put,zq0,zq1,zq2,zq3,zq4,zq5]
         clear bb own gr
         obtain ⟨g3,hgg⟩ : ∃ z : Nat,z = vv.heap.size:=⟨_,rfl⟩
         rw [← hgg] at R3 ⊢
         clear hgg vv
         obtain ⟨vv,hvv⟩ : ∃ z : World,z = vn:=⟨_,rfl⟩
         subst hvv
         refine wpAnyH_ready (rs:=[7]) (by kernel_rfl) (by simp) ?_
         refine AllReadyH.cons rfl (fun K hK=>?_) AllReadyH.nil
         · rw [if_pos (by rfl)]
           refine wp_make_full vv (.tmp 61) (.tmp 61) 65 rfl vv.heap.size 26 ix (.slice none 0 0) 1 Try.underlying65 hx hx0 hx1 .i64 .i64 (m : Int) (m : Int) m rfl rfl rfl rfl (by rw [hx2];have:=HM8.out;omega) (by have:=HM8.out;unfold maxLen;omega) (Nat.le_refl _) ?_
           intro vn own gr
           have bb:=Ext.grown (Below.refl _ _) gr (by simp)
           have R7:=NumRow.of_make own
           have Z:=R3.below bb
           clear R3
           have R3:=Z
           clear Z
           have Z:=R5.below bb
           clear R5
           have R5:=Z
           clear Z
           have Z:=BF.next bb
           clear BF
           have BF:=Z
           clear Z
           have Z:=Ext.trans bv bb
           clear bv
           have bv:=Z
           clear Z
           refine hK.out _ _ (HS.out _ bv) (fun hS'=>?_)
           clear hK K hS
           have hS:=hS'
           clear hS'
           try simp only [Act.put,zq0,zq1,zq2,zq3,zq4,zq5]
           clear bb own gr
           obtain ⟨g7,hgg⟩ : ∃ z : Nat,z = vv.heap.size:=⟨_,rfl⟩
           rw [← hgg] at R7 ⊢
           clear hgg vv
           obtain ⟨vv,hvv⟩ : ∃ z : World,z = vn:=⟨_,rfl⟩
           subst hvv
           refine wpAnyH_take (i:=8) (v:=?_) rfl (by kernel_rfl) (by kernel_rfl) (by kernel_rfl) (fun _ _ _ h=>h) (Or.inl ⟨by rfl,?_⟩) hS ?_
           rotate_left
           · (intro w hSw;(try dsimp only at hSw);go_simp;(try with_reducible rfl))
           rotate_left
           simp only [Act.put,zq0,zq1,zq2,zq3,zq4,zq5]
           refine wpAnyH_ready (rs:=[10]) (by kernel_rfl) (by simp) ?_
           refine AllReadyH.cons rfl (fun K hK=>?_) AllReadyH.nil
           rw [if_pos (by rfl)]
           refine wp_store_row 67 (.tmp 16) (.tmp 63) rfl gf #[.int .i64 n,.int .u8 ((ki.toNat : Nat) : Int),.int .i64 a,.int .i64 (m : Int),.slice D bs.length dq,.slice (some ⟨g3,0,none⟩) m m,.slice (some ⟨g5,0,none⟩) m m,.slice (some ⟨g7,0,none⟩) m m] rfl rfl 67 #[.int .i64 0,.int .u8 0,.int .i64 0,.int .i64 0,.slice none 0 0,.slice none 0 0,.slice none 0 0,.slice none 0 0] BF (by kernel_rfl) rfl (by kernel_rfl) ?_
           have BG:=BF.set #[.int .i64 n,.int .u8 ((ki.toNat : Nat) : Int),.int .i64 a,.int .i64 (m : Int),.slice D bs.length dq,.slice (some ⟨g3,0,none⟩) m m,.slice (some ⟨g5,0,none⟩) m m,.slice (some ⟨g7,0,none⟩) m m]
           have S3:=R3.setRow BF (by decide) #[.int .i64 n,.int .u8 ((ki.toNat : Nat) : Int),.int .i64 a,.int .i64 (m : Int),.slice D bs.length dq,.slice (some ⟨g3,0,none⟩) m m,.slice (some ⟨g5,0,none⟩) m m,.slice (some ⟨g7,0,none⟩) m m]
           have S5:=R5.setRow BF (by decide) #[.int .i64 n,.int .u8 ((ki.toNat : Nat) : Int),.int .i64 a,.int .i64 (m : Int),.slice D bs.length dq,.slice (some ⟨g3,0,none⟩) m m,.slice (some ⟨g5,0,none⟩) m m,.slice (some ⟨g7,0,none⟩) m m]
           have S7:=R7.setRow BF (by decide) #[.int .i64 n,.int .u8 ((ki.toNat : Nat) : Int),.int .i64 a,.int .i64 (m : Int),.slice D bs.length dq,.slice (some ⟨g3,0,none⟩) m m,.slice (some ⟨g5,0,none⟩) m m,.slice (some ⟨g7,0,none⟩) m m]
           have bw:=Ext.setRow bv hgs #[.int .i64 n,.int .u8 ((ki.toNat : Nat) : Int),.int .i64 a,.int .i64 (m : Int),.slice D bs.length dq,.slice (some ⟨g3,0,none⟩) m m,.slice (some ⟨g5,0,none⟩) m m,.slice (some ⟨g7,0,none⟩) m m]
           clear BF R3 R5 R7 bv
           have hgs:=hgs
           generalize vv.setRow gf #[.int .i64 n,.int .u8 ((ki.toNat : Nat) : Int),.int .i64 a,.int .i64 (m : Int),.slice D bs.length dq,.slice (some ⟨g3,0,none⟩) m m,.slice (some ⟨g5,0,none⟩) m m,.slice (some ⟨g7,0,none⟩) m m] = vw at *
           refine hK.out _ _ (HS.out _ bw) (fun hS'=>?_)
           clear hK K hS hS'
           try simp only [Act.put,zq0,zq1,zq2,zq3,zq4,zq5]
           refine wpAnyH_done (by kernel_rfl) ?_ _
           go_wp2_with fail
           go_meet
           exact ⟨g3,g5,g7,gf,rfl,BG,S3,S5,S7,Ext.trans bd bw,Nat.le_trans bd.size hgs⟩
       · rw [if_pos (by rfl)]
         refine wp_make_full vv (.tmp 61) (.tmp 61) 65 rfl vv.heap.size 26 ix (.slice none 0 0) 1 Try.underlying65 hx hx0 hx1 .i64 .i64 (m : Int) (m : Int) m rfl rfl rfl rfl (by rw [hx2];have:=HM8.out;omega) (by have:=HM8.out;unfold maxLen;omega) (Nat.le_refl _) ?_
         intro vn own gr
         have bb:=Ext.grown (Below.refl _ _) gr (by simp)
         have R7:=NumRow.of_make own
         have Z:=R5.below bb
         clear R5
         have R5:=Z
         clear Z
         have Z:=BF.next bb
         clear BF
         have BF:=Z
         clear Z
         have Z:=Ext.trans bv bb
         clear bv
         have bv:=Z
         clear Z
         refine hK.out _ _ (HS.out _ bv) (fun hS'=>?_)
         clear hK K hS
         have hS:=hS'
         clear hS'
         try simp only [Act.put,zq0,zq1,zq2,zq3,zq4,zq5]
         clear bb own gr
         obtain ⟨g7,hgg⟩ : ∃ z : Nat,z = vv.heap.size:=⟨_,rfl⟩
         rw [← hgg] at R7 ⊢
         clear hgg vv
         obtain ⟨vv,hvv⟩ : ∃ z : World,z = vn:=⟨_,rfl⟩
         subst hvv
         refine wpAnyH_ready (rs:=[3]) (by kernel_rfl) (by simp) ?_
         refine AllReadyH.cons rfl (fun K hK=>?_) AllReadyH.nil
         · rw [if_pos (by rfl)]
           refine wp_make_full vv (.tmp 57) (.tmp 57) 26 rfl vv.heap.size 5 iu (.int .u8 0) 1 Try.underlying26 hu hu0 hu1 .i64 .i64 (m : Int) (m : Int) m rfl rfl rfl rfl (by rw [hu2];have:=HM8.out;omega) (by have:=HM8.out;unfold maxLen;omega) (Nat.le_refl _) ?_
           intro vn own gr
           have bb:=Ext.grown (Below.refl _ _) gr (by simp)
           have R3:=NumRow.of_make own
           have Z:=R5.below bb
           clear R5
           have R5:=Z
           clear Z
           have Z:=R7.below bb
           clear R7
           have R7:=Z
           clear Z
           have Z:=BF.next bb
           clear BF
           have BF:=Z
           clear Z
           have Z:=Ext.trans bv bb
           clear bv
           have bv:=Z
           clear Z
           refine hK.out _ _ (HS.out _ bv) (fun hS'=>?_)
           clear hK K hS
           have hS:=hS'
           clear hS'
           try simp only [Act.put,zq0,zq1,zq2,zq3,zq4,zq5]
           clear bb own gr
           obtain ⟨g3,hgg⟩ : ∃ z : Nat,z = vv.heap.size:=⟨_,rfl⟩
           rw [← hgg] at R3 ⊢
           clear hgg vv
           obtain ⟨vv,hvv⟩ : ∃ z : World,z = vn:=⟨_,rfl⟩
           subst hvv
           refine wpAnyH_take (i:=8) (v:=?_) rfl (by kernel_rfl) (by kernel_rfl) (by kernel_rfl) (fun _ _ _ h=>h) (Or.inl ⟨by rfl,?_⟩) hS ?_
           rotate_left
           · (intro w hSw;(try dsimp only at hSw);go_simp;(try with_reducible rfl))
           rotate_left
           simp only [Act.put,zq0,zq1,zq2,zq3,zq4,zq5]
           refine wpAnyH_ready (rs:=[10]) (by kernel_rfl) (by simp) ?_
           refine AllReadyH.cons rfl (fun K hK=>?_) AllReadyH.nil
           rw [if_pos (by rfl)]
           refine wp_store_row 67 (.tmp 16) (.tmp 63) rfl gf #[.int .i64 n,.int .u8 ((ki.toNat : Nat) : Int),.int .i64 a,.int .i64 (m : Int),.slice D bs.length dq,.slice (some ⟨g3,0,none⟩) m m,.slice (some ⟨g5,0,none⟩) m m,.slice (some ⟨g7,0,none⟩) m m] rfl rfl 67 #[.int .i64 0,.int .u8 0,.int .i64 0,.int .i64 0,.slice none 0 0,.slice none 0 0,.slice none 0 0,.slice none 0 0] BF (by kernel_rfl) rfl (by kernel_rfl) ?_
           have BG:=BF.set #[.int .i64 n,.int .u8 ((ki.toNat : Nat) : Int),.int .i64 a,.int .i64 (m : Int),.slice D bs.length dq,.slice (some ⟨g3,0,none⟩) m m,.slice (some ⟨g5,0,none⟩) m m,.slice (some ⟨g7,0,none⟩) m m]
           have S3:=R3.setRow BF (by decide) #[.int .i64 n,.int .u8 ((ki.toNat : Nat) : Int),.int .i64 a,.int .i64 (m : Int),.slice D bs.length dq,.slice (some ⟨g3,0,none⟩) m m,.slice (some ⟨g5,0,none⟩) m m,.slice (some ⟨g7,0,none⟩) m m]
           have S5:=R5.setRow BF (by decide) #[.int .i64 n,.int .u8 ((ki.toNat : Nat) : Int),.int .i64 a,.int .i64 (m : Int),.slice D bs.length dq,.slice (some ⟨g3,0,none⟩) m m,.slice (some ⟨g5,0,none⟩) m m,.slice (some ⟨g7,0,none⟩) m m]
           have S7:=R7.setRow BF (by decide) #[.int .i64 n,.int .u8 ((ki.toNat : Nat) : Int),.int .i64 a,.int .i64 (m : Int),.slice D bs.length dq,.slice (some ⟨g3,0,none⟩) m m,.slice (some ⟨g5,0,none⟩) m m,.slice (some ⟨g7,0,none⟩) m m]
           have bw:=Ext.setRow bv hgs #[.int .i64 n,.int .u8 ((ki.toNat : Nat) : Int),.int .i64 a,.int .i64 (m : Int),.slice D bs.length dq,.slice (some ⟨g3,0,none⟩) m m,.slice (some ⟨g5,0,none⟩) m m,.slice (some ⟨g7,0,none⟩) m m]
           clear BF R3 R5 R7 bv
           have hgs:=hgs
           generalize vv.setRow gf #[.int .i64 n,.int .u8 ((ki.toNat : Nat) : Int),.int .i64 a,.int .i64 (m : Int),.slice D bs.length dq,.slice (some ⟨g3,0,none⟩) m m,.slice (some ⟨g5,0,none⟩) m m,.slice (some ⟨g7,0,none⟩) m m] = vw at *
           refine hK.out _ _ (HS.out _ bw) (fun hS'=>?_)
           clear hK K hS hS'
           try simp only [Act.put,zq0,zq1,zq2,zq3,zq4,zq5]
           refine wpAnyH_done (by kernel_rfl) ?_ _
           go_wp2_with fail
           go_meet
           exact ⟨g3,g5,g7,gf,rfl,BG,S3,S5,S7,Ext.trans bd bw,Nat.le_trans bd.size hgs⟩
     · rw [if_pos (by rfl)]
       refine wp_make_full vv (.tmp 61) (.tmp 61) 65 rfl vv.heap.size 26 ix (.slice none 0 0) 1 Try.underlying65 hx hx0 hx1 .i64 .i64 (m : Int) (m : Int) m rfl rfl rfl rfl (by rw [hx2];have:=HM8.out;omega) (by have:=HM8.out;unfold maxLen;omega) (Nat.le_refl _) ?_
       intro vn own gr
       have bb:=Ext.grown (Below.refl _ _) gr (by simp)
       have R7:=NumRow.of_make own
       have Z:=BF.next bb
       clear BF
       have BF:=Z
       clear Z
       have Z:=Ext.trans bv bb
       clear bv
       have bv:=Z
       clear Z
       refine hK.out _ _ (HS.out _ bv) (fun hS'=>?_)
       clear hK K hS
       have hS:=hS'
       clear hS'
       try simp only [Act.put,zq0,zq1,zq2,zq3,zq4,zq5]
       clear bb own gr
       obtain ⟨g7,hgg⟩ : ∃ z : Nat,z = vv.heap.size:=⟨_,rfl⟩
       rw [← hgg] at R7 ⊢
       clear hgg vv
       obtain ⟨vv,hvv⟩ : ∃ z : World,z = vn:=⟨_,rfl⟩
       subst hvv
       refine wpAnyH_ready (rs:=[3,5]) (by kernel_rfl) (by simp) ?_
       refine AllReadyH.cons rfl (fun K hK=>?_) (AllReadyH.cons rfl (fun K hK=>?_) AllReadyH.nil)
       · rw [if_pos (by rfl)]
         refine wp_make_full vv (.tmp 57) (.tmp 57) 26 rfl vv.heap.size 5 iu (.int .u8 0) 1 Try.underlying26 hu hu0 hu1 .i64 .i64 (m : Int) (m : Int) m rfl rfl rfl rfl (by rw [hu2];have:=HM8.out;omega) (by have:=HM8.out;unfold maxLen;omega) (Nat.le_refl _) ?_
         intro vn own gr
         have bb:=Ext.grown (Below.refl _ _) gr (by simp)
         have R3:=NumRow.of_make own
         have Z:=R7.below bb
         clear R7
         have R7:=Z
         clear Z
         have Z:=BF.next bb
         clear BF
         have BF:=Z
         clear Z
         have Z:=Ext.trans bv bb
         clear bv
         have bv:=Z
         clear Z
         refine hK.out _ _ (HS.out _ bv) (fun hS'=>?_)
         clear hK K hS
         have hS:=hS'
         clear hS'
         try simp only [Act.put,zq0,zq1,zq2,zq3,zq4,zq5]
         clear bb own gr
         obtain ⟨g3,hgg⟩ : ∃ z : Nat,z = vv.heap.size:=⟨_,rfl⟩
         rw [← hgg] at R3 ⊢
         clear hgg vv
         obtain ⟨vv,hvv⟩ : ∃ z : World,z = vn:=⟨_,rfl⟩
         subst hvv
         refine wpAnyH_ready (rs:=[5]) (by kernel_rfl) (by simp) ?_
         refine AllReadyH.cons rfl (fun K hK=>?_) AllReadyH.nil
         · rw [if_pos (by rfl)]
           refine wp_make_full vv (.tmp 59) (.tmp 59) 64 rfl vv.heap.size 22 iq (.int .u32 0) 1 Try.underlying64 hq hq0 hq1 .i64 .i64 (m : Int) (m : Int) m rfl rfl rfl rfl (by rw [hq2];have:=HM8.out;omega) (by have:=HM8.out;unfold maxLen;omega) (Nat.le_refl _) ?_
           intro vn own gr
           have bb:=Ext.grown (Below.refl _ _) gr (by simp)
           have R5:=NumRow.of_make own
           have Z:=R3.below bb
           clear R3
           have R3:=Z
           clear Z
           have Z:=R7.below bb
           clear R7
           have R7:=Z
           clear Z
           have Z:=BF.next bb
           clear BF
           have BF:=Z
           clear Z
           have Z:=Ext.trans bv bb
           clear bv
           have bv:=Z
           clear Z
           refine hK.out _ _ (HS.out _ bv) (fun hS'=>?_)
           clear hK K hS
           have hS:=hS'
           clear hS'
           try simp only [Act.put,zq0,zq1,zq2,zq3,zq4,zq5]
           clear bb own gr
           obtain ⟨g5,hgg⟩ : ∃ z : Nat,z = vv.heap.size:=⟨_,rfl⟩
           rw [← hgg] at R5 ⊢
           clear hgg vv
           obtain ⟨vv,hvv⟩ : ∃ z : World,z = vn:=⟨_,rfl⟩
           subst hvv
           refine wpAnyH_take (i:=8) (v:=?_) rfl (by kernel_rfl) (by kernel_rfl) (by kernel_rfl) (fun _ _ _ h=>h) (Or.inl ⟨by rfl,?_⟩) hS ?_
           rotate_left
           · (intro w hSw;(try dsimp only at hSw);go_simp;(try with_reducible rfl))
           rotate_left
           simp only [Act.put,zq0,zq1,zq2,zq3,zq4,zq5]
           refine wpAnyH_ready (rs:=[10]) (by kernel_rfl) (by simp) ?_
           refine AllReadyH.cons rfl (fun K hK=>?_) AllReadyH.nil
           rw [if_pos (by rfl)]
           refine wp_store_row 67 (.tmp 16) (.tmp 63) rfl gf #[.int .i64 n,.int .u8 ((ki.toNat : Nat) : Int),.int .i64 a,.int .i64 (m : Int),.slice D bs.length dq,.slice (some ⟨g3,0,none⟩) m m,.slice (some ⟨g5,0,none⟩) m m,.slice (some ⟨g7,0,none⟩) m m] rfl rfl 67 #[.int .i64 0,.int .u8 0,.int .i64 0,.int .i64 0,.slice none 0 0,.slice none 0 0,.slice none 0 0,.slice none 0 0] BF (by kernel_rfl) rfl (by kernel_rfl) ?_
           have BG:=BF.set #[.int .i64 n,.int .u8 ((ki.toNat : Nat) : Int),.int .i64 a,.int .i64 (m : Int),.slice D bs.length dq,.slice (some ⟨g3,0,none⟩) m m,.slice (some ⟨g5,0,none⟩) m m,.slice (some ⟨g7,0,none⟩) m m]
           have S3:=R3.setRow BF (by decide) #[.int .i64 n,.int .u8 ((ki.toNat : Nat) : Int),.int .i64 a,.int .i64 (m : Int),.slice D bs.length dq,.slice (some ⟨g3,0,none⟩) m m,.slice (some ⟨g5,0,none⟩) m m,.slice (some ⟨g7,0,none⟩) m m]
           have S5:=R5.setRow BF (by decide) #[.int .i64 n,.int .u8 ((ki.toNat : Nat) : Int),.int .i64 a,.int .i64 (m : Int),.slice D bs.length dq,.slice (some ⟨g3,0,none⟩) m m,.slice (some ⟨g5,0,none⟩) m m,.slice (some ⟨g7,0,none⟩) m m]
           have S7:=R7.setRow BF (by decide) #[.int .i64 n,.int .u8 ((ki.toNat : Nat) : Int),.int .i64 a,.int .i64 (m : Int),.slice D bs.length dq,.slice (some ⟨g3,0,none⟩) m m,.slice (some ⟨g5,0,none⟩) m m,.slice (some ⟨g7,0,none⟩) m m]
           have bw:=Ext.setRow bv hgs #[.int .i64 n,.int .u8 ((ki.toNat : Nat) : Int),.int .i64 a,.int .i64 (m : Int),.slice D bs.length dq,.slice (some ⟨g3,0,none⟩) m m,.slice (some ⟨g5,0,none⟩) m m,.slice (some ⟨g7,0,none⟩) m m]
           clear BF R3 R5 R7 bv
           have hgs:=hgs
           generalize vv.setRow gf #[.int .i64 n,.int .u8 ((ki.toNat : Nat) : Int),.int .i64 a,.int .i64 (m : Int),.slice D bs.length dq,.slice (some ⟨g3,0,none⟩) m m,.slice (some ⟨g5,0,none⟩) m m,.slice (some ⟨g7,0,none⟩) m m] = vw at *
           refine hK.out _ _ (HS.out _ bw) (fun hS'=>?_)
           clear hK K hS hS'
           try simp only [Act.put,zq0,zq1,zq2,zq3,zq4,zq5]
           refine wpAnyH_done (by kernel_rfl) ?_ _
           go_wp2_with fail
           go_meet
           exact ⟨g3,g5,g7,gf,rfl,BG,S3,S5,S7,Ext.trans bd bw,Nat.le_trans bd.size hgs⟩
       · rw [if_pos (by rfl)]
         refine wp_make_full vv (.tmp 59) (.tmp 59) 64 rfl vv.heap.size 22 iq (.int .u32 0) 1 Try.underlying64 hq hq0 hq1 .i64 .i64 (m : Int) (m : Int) m rfl rfl rfl rfl (by rw [hq2];have:=HM8.out;omega) (by have:=HM8.out;unfold maxLen;omega) (Nat.le_refl _) ?_
         intro vn own gr
         have bb:=Ext.grown (Below.refl _ _) gr (by simp)
         have R5:=NumRow.of_make own
         have Z:=R7.below bb
         clear R7
         have R7:=Z
         clear Z
         have Z:=BF.next bb
         clear BF
         have BF:=Z
         clear Z
         have Z:=Ext.trans bv bb
         clear bv
         have bv:=Z
         clear Z
         refine hK.out _ _ (HS.out _ bv) (fun hS'=>?_)
         clear hK K hS
         have hS:=hS'
         clear hS'
         try simp only [Act.put,zq0,zq1,zq2,zq3,zq4,zq5]
         clear bb own gr
         obtain ⟨g5,hgg⟩ : ∃ z : Nat,z = vv.heap.size:=⟨_,rfl⟩
         rw [← hgg] at R5 ⊢
         clear hgg vv
         obtain ⟨vv,hvv⟩ : ∃ z : World,z = vn:=⟨_,rfl⟩
         subst hvv
         refine wpAnyH_ready (rs:=[3]) (by kernel_rfl) (by simp) ?_
         refine AllReadyH.cons rfl (fun K hK=>?_) AllReadyH.nil
         · rw [if_pos (by rfl)]
           refine wp_make_full vv (.tmp 57) (.tmp 57) 26 rfl vv.heap.size 5 iu (.int .u8 0) 1 Try.underlying26 hu hu0 hu1 .i64 .i64 (m : Int) (m : Int) m rfl rfl rfl rfl (by rw [hu2];have:=HM8.out;omega) (by have:=HM8.out;unfold maxLen;omega) (Nat.le_refl _) ?_
           intro vn own gr
           have bb:=Ext.grown (Below.refl _ _) gr (by simp)
           have R3:=NumRow.of_make own
           have Z:=R5.below bb
           clear R5
           have R5:=Z
           clear Z
           have Z:=R7.below bb
           clear R7
           have R7:=Z
           clear Z
           have Z:=BF.next bb
           clear BF
           have BF:=Z
           clear Z
           have Z:=Ext.trans bv bb
           clear bv
           have bv:=Z
           clear Z
           refine hK.out _ _ (HS.out _ bv) (fun hS'=>?_)
           clear hK K hS
           have hS:=hS'
           clear hS'
           try simp only [Act.put,zq0,zq1,zq2,zq3,zq4,zq5]
           clear bb own gr
           obtain ⟨g3,hgg⟩ : ∃ z : Nat,z = vv.heap.size:=⟨_,rfl⟩
           rw [← hgg] at R3 ⊢
           clear hgg vv
           obtain ⟨vv,hvv⟩ : ∃ z : World,z = vn:=⟨_,rfl⟩
           subst hvv
           refine wpAnyH_take (i:=8) (v:=?_) rfl (by kernel_rfl) (by kernel_rfl) (by kernel_rfl) (fun _ _ _ h=>h) (Or.inl ⟨by rfl,?_⟩) hS ?_
           rotate_left
           · (intro w hSw;(try dsimp only at hSw);go_simp;(try with_reducible rfl))
           rotate_left
           simp only [Act.put,zq0,zq1,zq2,zq3,zq4,zq5]
           refine wpAnyH_ready (rs:=[10]) (by kernel_rfl) (by simp) ?_
           refine AllReadyH.cons rfl (fun K hK=>?_) AllReadyH.nil
           rw [if_pos (by rfl)]
           refine wp_store_row 67 (.tmp 16) (.tmp 63) rfl gf #[.int .i64 n,.int .u8 ((ki.toNat : Nat) : Int),.int .i64 a,.int .i64 (m : Int),.slice D bs.length dq,.slice (some ⟨g3,0,none⟩) m m,.slice (some ⟨g5,0,none⟩) m m,.slice (some ⟨g7,0,none⟩) m m] rfl rfl 67 #[.int .i64 0,.int .u8 0,.int .i64 0,.int .i64 0,.slice none 0 0,.slice none 0 0,.slice none 0 0,.slice none 0 0] BF (by kernel_rfl) rfl (by kernel_rfl) ?_
           have BG:=BF.set #[.int .i64 n,.int .u8 ((ki.toNat : Nat) : Int),.int .i64 a,.int .i64 (m : Int),.slice D bs.length dq,.slice (some ⟨g3,0,none⟩) m m,.slice (some ⟨g5,0,none⟩) m m,.slice (some ⟨g7,0,none⟩) m m]
           have S3:=R3.setRow BF (by decide) #[.int .i64 n,.int .u8 ((ki.toNat : Nat) : Int),.int .i64 a,.int .i64 (m : Int),.slice D bs.length dq,.slice (some ⟨g3,0,none⟩) m m,.slice (some ⟨g5,0,none⟩) m m,.slice (some ⟨g7,0,none⟩) m m]
           have S5:=R5.setRow BF (by decide) #[.int .i64 n,.int .u8 ((ki.toNat : Nat) : Int),.int .i64 a,.int .i64 (m : Int),.slice D bs.length dq,.slice (some ⟨g3,0,none⟩) m m,.slice (some ⟨g5,0,none⟩) m m,.slice (some ⟨g7,0,none⟩) m m]
           have S7:=R7.setRow BF (by decide) #[.int .i64 n,.int .u8 ((ki.toNat : Nat) : Int),.int .i64 a,.int .i64 (m : Int),.slice D bs.length dq,.slice (some ⟨g3,0,none⟩) m m,.slice (some ⟨g5,0,none⟩) m m,.slice (some ⟨g7,0,none⟩) m m]
           have bw:=Ext.setRow bv hgs #[.int .i64 n,.int .u8 ((ki.toNat : Nat) : Int),.int .i64 a,.int .i64 (m : Int),.slice D bs.length dq,.slice (some ⟨g3,0,none⟩) m m,.slice (some ⟨g5,0,none⟩) m m,.slice (some ⟨g7,0,none⟩) m m]
           clear BF R3 R5 R7 bv
           have hgs:=hgs
           generalize vv.setRow gf #[.int .i64 n,.int .u8 ((ki.toNat : Nat) : Int),.int .i64 a,.int .i64 (m : Int),.slice D bs.length dq,.slice (some ⟨g3,0,none⟩) m m,.slice (some ⟨g5,0,none⟩) m m,.slice (some ⟨g7,0,none⟩) m m] = vw at *
           refine hK.out _ _ (HS.out _ bw) (fun hS'=>?_)
           clear hK K hS hS'
           try simp only [Act.put,zq0,zq1,zq2,zq3,zq4,zq5]
           refine wpAnyH_done (by kernel_rfl) ?_ _
           go_wp2_with fail
           go_meet
           exact ⟨g3,g5,g7,gf,rfl,BG,S3,S5,S7,Ext.trans bd bw,Nat.le_trans bd.size hgs⟩
  case rest=>
   obtain ⟨g3,g5,g7,gf,rfl,FX0,S3,S5,S7,bw,hgf⟩:=hcut
   have HLN : Hid ((fs ++ [newFl n ki a m bs last]).length = N + 1):=by show _ = _;rw [List.length_append,List.length_singleton,HNL.out]
   have A3:=A2.next bw
   have y3:=A3.cell
   by_cases h4 : ((ki.toNat : Nat) : Int) = 4
   · have e4 : (((ki.toNat : Nat) : Int) == 4) = true:=by simpa using h4
     have HR0:=HR2.out.below bw
     have t3:=Ext.trans t2 bw
     have ba:=Ext.alloc (Below.refl wc.heap.size wc) (.cells #[.int .u32 (last : Int)] 22)
     have BQ:=BoxOf.new wc #[.int .u32 (last : Int)] 22
     have FY:=FX0.next ba
     have hlf:=FX0.lt
     have fy:=FY.cell
     have ff:=FY.free
     have hne : ¬ gf = wc.heap.size:=by omega
     have hne' : ¬ wc.heap.size = gf:=by omega
     have HX0 : BoxOf ((wc.alloc (.cells #[.int .u32 (last : Int)] 22)).setCell ⟨gf,6,none⟩ (.slice (some ⟨wc.heap.size,0,none⟩) 1 1)) gf #[.int .i64 n,.int .u8 ((ki.toNat : Nat) : Int),.int .i64 a,.int .i64 (m : Int),.slice D bs.length dq,.slice (some ⟨g3,0,none⟩) m m,.slice (some ⟨wc.heap.size,0,none⟩) 1 1,.slice (some ⟨g7,0,none⟩) m m] 67:=mbox_self FY 6 (.slice (some ⟨wc.heap.size,0,none⟩) 1 1)
     have BQ1:=mbox_else BQ hne' 6 (.slice (some ⟨wc.heap.size,0,none⟩) 1 1)
     have b6:=Below.setCell (p:=⟨gf,6,none⟩) (Ext.trans bw ba) hgf (.slice (some ⟨wc.heap.size,0,none⟩) 1 1)
     have Z3:=((S3.below ba).setElse FY (by decide) 6 (.slice (some ⟨wc.heap.size,0,none⟩) 1 1)).mono (F':=Iv 0 ((wc.alloc (.cells #[.int .u32 (last : Int)] 22)).setCell ⟨gf,6,none⟩ (.slice (some ⟨wc.heap.size,0,none⟩) 1 1)).heap.size) (fun b hb=>by rw [msize];exact hb)
     have Z7:=((S7.below ba).setElse FY (by decide) 6 (.slice (some ⟨wc.heap.size,0,none⟩) 1 1)).mono (F':=Iv 0 ((wc.alloc (.cells #[.int .u32 (last : Int)] 22)).setCell ⟨gf,6,none⟩ (.slice (some ⟨wc.heap.size,0,none⟩) 1 1)).heap.size) (fun b hb=>by rw [msize];exact hb)
     have HALL : Hid (RdIn ((wc.alloc (.cells #[.int .u32 (last : Int)] 22)).setCell ⟨gf,6,none⟩ (.slice (some ⟨wc.heap.size,0,none⟩) 1 1)) (fun _=>True) FlTy (newFl n ki a m bs last) (#[.int .i64 n,.int .u8 ((ki.toNat : Nat) : Int),.int .i64 a,.int .i64 (m : Int),.slice D bs.length dq,.slice (some ⟨g3,0,none⟩) m m,.slice (some ⟨wc.heap.size,0,none⟩) 1 1,.slice (some ⟨g7,0,none⟩) m m] : Array Value).toList):=newFl_rd (n:=n) (a:=a) (ki:=ki) (last:=last) HINT.out ⟨by have:=HA.out;omega,by have:=HA.out;omega⟩ HM8.out ((HD2.out.below b6).mono fun _ _=>trivial) Z3 (newSq_rd4 HLAST.out h4 BQ1) Z7
     have HRR:=Lib.hid (HR2.out.below b6)
     have HTT:=Lib.hid (Ext.trans t2 b6)
     have HXX:=Lib.hid HX0
     clear Z3 Z7 BQ1 BQ HX0 b6 S3 S5 S7 h4 hlf ba FY FX0 bw HR0 t3 t2 hgf
     go_upto_region 15 with fail
     clear fy ff y3 hne hne' e4
     have FX0:=HXX.out
     have RD0:=HALL.out
     have HR0:=HRR.out
     have t40:=HTT.out
     clear HXX HALL HRR HTT A3 A2
     generalize (wc.alloc (.cells #[.int .u32 (last : Int)] 22)).setCell ⟨gf,6,none⟩ (.slice (some ⟨wc.heap.size,0,none⟩) 1 1) = wf at *
     generalize wc.heap.size = gq at *
     refine wp_region_held_drew (S:=fun w'=>∀ o,w'.cell? ⟨gf,o,none⟩ = (#[.int .i64 n,.int .u8 ((ki.toNat : Nat) : Int),.int .i64 a,.int .i64 (m : Int),.slice D bs.length dq,.slice (some ⟨g3,0,none⟩) m m,.slice (some ⟨gq,0,none⟩) 1 1,.slice (some ⟨g7,0,none⟩) m m] : Array Value).toList[o]?) (by kernel_rfl) FX0.drew.cell (fun hS=>?_)
     have bd:=Ext.drew (Below.refl wf.heap.size wf)
     have FX:=FX0.next bd
     have RD:=RD0.below bd
     have HR:=HR0.below bd
     have t4:=Ext.trans t40 bd
     clear FX0 RD0 HR0 t40 bd
     generalize wf.drew = vd at *
     refine wpAnyH_take (i:=0) (v:=?_) rfl (by kernel_rfl) (by kernel_rfl) (by kernel_rfl) (fun _ _ _ h=>h) (Or.inl ⟨by rfl,?_⟩) hS ?_
     rotate_left
     · (intro w hSw;(try dsimp only at hSw);go_simp;(try with_reducible rfl))
     rotate_left
     simp only [Act.put,zq0,zq1,zq2,zq3,zq4,zq5]
     refine wpAnyH_take (i:=2) (v:=?_) rfl (by kernel_rfl) (by kernel_rfl) (by kernel_rfl) (fun _ _ _ h=>h) (Or.inl ⟨by rfl,?_⟩) hS ?_
     rotate_left
     · (intro w hSw;(try dsimp only at hSw);go_simp;(try with_reducible rfl))
     rotate_left
     simp only [Act.put,zq0,zq1,zq2,zq3,zq4,zq5]
     refine wpAnyH_ready (rs:=[1,3]) (by kernel_rfl) (by simp) ?_
     refine AllReadyH.cons rfl (fun K hK=>?_) (AllReadyH.cons rfl (fun K hK=>?_) AllReadyH.nil)
     · rw [if_pos (by rfl)]
       go_simp
       refine (clip_any B N d HBD.out.1 HBD.out.2.1 HBD.out.2.2 _).mono ?_
       rintro e w9 ⟨rfl,hw9⟩
       have hw8:=hw9.symm
       clear hw9
       subst hw8
       refine hK.out _ _ hS (fun hS'=>?_)
       clear hK K hS
       have hS:=hS'
       clear hS'
       try simp only [Act.put,zq0,zq1,zq2,zq3,zq4,zq5]
       refine wpAnyH_ready (rs:=[3]) (by kernel_rfl) (by simp) ?_
       refine AllReadyH.cons rfl (fun K hK=>?_) AllReadyH.nil
       rw [if_pos (by rfl)]
       go_simp
       have bb:=Ext.alloc (Below.refl vd.heap.size vd) (.cells #[.int .i64 n,.int .u8 ((ki.toNat : Nat) : Int),.int .i64 a,.int .i64 (m : Int),.slice D bs.length dq,.slice (some ⟨g3,0,none⟩) m m,.slice (some ⟨gq,0,none⟩) 1 1,.slice (some ⟨g7,0,none⟩) m m] 67)
       have Z:=BoxOf.new vd #[.int .i64 n,.int .u8 ((ki.toNat : Nat) : Int),.int .i64 a,.int .i64 (m : Int),.slice D bs.length dq,.slice (some ⟨g3,0,none⟩) m m,.slice (some ⟨gq,0,none⟩) 1 1,.slice (some ⟨g7,0,none⟩) m m] 67
       have RD1:=RD.below bb
       have HR1:=HR.below bb
       have FX1:=FX.next bb
       have t5:=Ext.trans t4 bb
       clear RD HR FX t4
       refine hK.out _ _ FX1.cell (fun hS'=>?_)
       clear hK K hS
       have hS:=hS'
       clear hS'
       try simp only [Act.put,zq0,zq1,zq2,zq3,zq4,zq5]
       clear bb
       obtain ⟨gb,hgb⟩ : ∃ z : Nat,z = vd.heap.size:=⟨_,rfl⟩
       rw [← hgb] at Z ⊢
       clear hgb
       generalize vd.alloc (.cells #[.int .i64 n,.int .u8 ((ki.toNat : Nat) : Int),.int .i64 a,.int .i64 (m : Int),.slice D bs.length dq,.slice (some ⟨g3,0,none⟩) m m,.slice (some ⟨gq,0,none⟩) 1 1,.slice (some ⟨g7,0,none⟩) m m] 67) = va at *
       refine wpAnyH_ready (rs:=[4]) (by kernel_rfl) (by simp) ?_
       refine AllReadyH.cons rfl (fun K hK=>?_) AllReadyH.nil
       rw [if_pos (by rfl)]
       obtain ⟨ess,hl1,hl2,hes,holds,hnone,heach⟩:=heads8 HR1
       refine wp_append_full va (.tmp 71) (.tmp 73) 25 rfl 67 ig _ 8 128 Try.underlying25 hig hg0 hg1 hg2 rfl (by decide) B N N ess.flatten rfl (fun h=>⟨hnone h,hnone h⟩) (by rw [flat8 hes];omega) holds ⟨gb,0,none⟩ 1 1 (#[.int .i64 n,.int .u8 ((ki.toNat : Nat) : Int),.int .i64 a,.int .i64 (m : Int),.slice D bs.length dq,.slice (some ⟨g3,0,none⟩) m m,.slice (some ⟨gq,0,none⟩) 1 1,.slice (some ⟨g7,0,none⟩) m m]).toList rfl (by rfl) (fun j u hj=>by rw [add_plain,Nat.zero_add,Z.cell];exact hj) (by intro u hu;simp at hu;rcases hu with rfl | rfl | rfl | rfl | rfl | rfl | rfl | rfl <;> rfl) (by omega) (by have:=HN8.out;unfold maxLen;omega) (by have:=HN8.out;omega) ?_
       intro v5 w5 own5 gr5
       have b5:=Ext.grown (Below.refl _ _) gr5 (by simp)
       have R5 : RdIn w5 (fun _=>True) (.sl FlTy) (fs ++ [newFl n ki a m bs last]) [v5]:=by
        refine rdin_own8 (base:=va.heap.size) (T:=fun _=>True) (ess:=ess ++ [(#[.int .i64 n,.int .u8 ((ki.toNat : Nat) : Int),.int .i64 a,.int .i64 (m : Int),.slice D bs.length dq,.slice (some ⟨g3,0,none⟩) m m,.slice (some ⟨gq,0,none⟩) 1 1,.slice (some ⟨g7,0,none⟩) m m]).toList]) (by simp [hl1]) ?_ (fun i h1 h2=>?_) ?_
        · rw [List.length_append,List.length_singleton,List.flatten_append,hl2]
          simpa using own5
        · by_cases hi : i < fs.length
          · rw [List.getElem_append_left hi,List.getElem_append_left (by omega)]
            exact ((heach i hi (by omega)).below b5).mono fun _ _=>trivial
          · have hi2 : i = fs.length:=by rw [List.length_append,List.length_singleton] at h1;omega
            subst hi2
            simp only [List.getElem_append_right (Nat.le_refl _),← hl1,Nat.sub_self,List.getElem_singleton]
            rw [show (fs ++ [newFl n ki a m bs last])[ess.length]'(by rw [List.length_append,List.length_singleton];omega) = newFl n ki a m bs last from by simp [hl1]]
            exact RD1.below b5
        · rw [List.length_append,List.length_singleton,hl2];have:=HN8.out;omega
       have t6:=Ext.trans t5 b5
       obtain ⟨A5,c5,e5⟩:=own_form own5
       subst e5
       have HT:=Lib.hid (ftwin_any (fun _=>True) (fs ++ [newFl n ki a m bs last]) (N + 1) c5 A5 (by rw [List.length_append,List.length_singleton,hl2]) w5 R5)
       have FX2:=FX1.next b5
       clear R5 own5 gr5 holds heach hes hnone hl1 hl2 Z RD1 HR1 FX1 b5
       refine hK.out _ _ FX2.cell (fun hS'=>?_)
       clear hK K hS
       have hS:=hS'
       clear hS'
       try simp only [Act.put,zq0,zq1,zq2,zq3,zq4,zq5]
       refine wpAnyH_ready (rs:=[5]) (by kernel_rfl) (by simp) ?_
       refine AllReadyH.cons rfl (fun K hK=>?_) AllReadyH.nil
       rw [if_pos (by rfl)]
       go_simp
       refine HT.out.mono ?_
       rintro e w6 ⟨⟨v6,rfl,fn6⟩,b6⟩
       obtain ⟨A6,c6,e6⟩:=OwnE.slice fn6
       rw [HLN.out] at e6
       subst e6
       have FX3:=FX2.next b6
       have t7:=Ext.trans t6 b6
       refine hK.out _ _ FX3.cell (fun hS'=>?_)
       clear hK K hS FX2 HT
       have hS:=hS'
       clear hS'
       try simp only [Act.put,zq0,zq1,zq2,zq3,zq4,zq5]
       refine wpAnyH_take (i:=6) (v:=?_) rfl (by kernel_rfl) (by kernel_rfl) (by kernel_rfl) (fun _ _ _ h=>h) (Or.inl ⟨by rfl,?_⟩) hS ?_
       rotate_left
       · (intro w hSw;(try dsimp only at hSw);go_simp;(try with_reducible rfl))
       rotate_left
       simp only [Act.put,zq0,zq1,zq2,zq3,zq4,zq5]
       refine wpAnyH_take (i:=7) (v:=?_) rfl (by kernel_rfl) (by kernel_rfl) (by kernel_rfl) (fun _ _ _ h=>h) (Or.inl ⟨by rfl,?_⟩) hS ?_
       rotate_left
       · (intro w hSw;(try dsimp only at hSw);go_simp;(try with_reducible rfl))
       rotate_left
       simp only [Act.put,zq0,zq1,zq2,zq3,zq4,zq5]
       refine wpAnyH_done (by kernel_rfl) ?_ _
       have HFN:=Lib.hid fn6
       clear hS FX3 b6 fn6
       have HT7:=Lib.hid (Nat.le_trans t6.size (Nat.le_refl _))
       clear t5 t6
       go_wp2
       go_ret2
       rw [HMV.out]
       exact ⟨FlRes.mk HLN.out (HFN.out.low HT7.out),t7⟩
     · rw [if_pos (by rfl)]
       go_simp
       have bb:=Ext.alloc (Below.refl vd.heap.size vd) (.cells #[.int .i64 n,.int .u8 ((ki.toNat : Nat) : Int),.int .i64 a,.int .i64 (m : Int),.slice D bs.length dq,.slice (some ⟨g3,0,none⟩) m m,.slice (some ⟨gq,0,none⟩) 1 1,.slice (some ⟨g7,0,none⟩) m m] 67)
       have Z:=BoxOf.new vd #[.int .i64 n,.int .u8 ((ki.toNat : Nat) : Int),.int .i64 a,.int .i64 (m : Int),.slice D bs.length dq,.slice (some ⟨g3,0,none⟩) m m,.slice (some ⟨gq,0,none⟩) 1 1,.slice (some ⟨g7,0,none⟩) m m] 67
       have RD1:=RD.below bb
       have HR1:=HR.below bb
       have FX1:=FX.next bb
       have t5:=Ext.trans t4 bb
       clear RD HR FX t4
       refine hK.out _ _ FX1.cell (fun hS'=>?_)
       clear hK K hS
       have hS:=hS'
       clear hS'
       try simp only [Act.put,zq0,zq1,zq2,zq3,zq4,zq5]
       clear bb
       obtain ⟨gb,hgb⟩ : ∃ z : Nat,z = vd.heap.size:=⟨_,rfl⟩
       rw [← hgb] at Z ⊢
       clear hgb
       generalize vd.alloc (.cells #[.int .i64 n,.int .u8 ((ki.toNat : Nat) : Int),.int .i64 a,.int .i64 (m : Int),.slice D bs.length dq,.slice (some ⟨g3,0,none⟩) m m,.slice (some ⟨gq,0,none⟩) 1 1,.slice (some ⟨g7,0,none⟩) m m] 67) = va at *
       refine wpAnyH_ready (rs:=[1]) (by kernel_rfl) (by simp) ?_
       refine AllReadyH.cons rfl (fun K hK=>?_) AllReadyH.nil
       rw [if_pos (by rfl)]
       go_simp
       refine (clip_any B N d HBD.out.1 HBD.out.2.1 HBD.out.2.2 _).mono ?_
       rintro e w9 ⟨rfl,hw9⟩
       have hw8:=hw9.symm
       clear hw9
       subst hw8
       refine hK.out _ _ hS (fun hS'=>?_)
       clear hK K hS
       have hS:=hS'
       clear hS'
       try simp only [Act.put,zq0,zq1,zq2,zq3,zq4,zq5]
       refine wpAnyH_ready (rs:=[4]) (by kernel_rfl) (by simp) ?_
       refine AllReadyH.cons rfl (fun K hK=>?_) AllReadyH.nil
       rw [if_pos (by rfl)]
       obtain ⟨ess,hl1,hl2,hes,holds,hnone,heach⟩:=heads8 HR1
       refine wp_append_full va (.tmp 71) (.tmp 73) 25 rfl 67 ig _ 8 128 Try.underlying25 hig hg0 hg1 hg2 rfl (by decide) B N N ess.flatten rfl (fun h=>⟨hnone h,hnone h⟩) (by rw [flat8 hes];omega) holds ⟨gb,0,none⟩ 1 1 (#[.int .i64 n,.int .u8 ((ki.toNat : Nat) : Int),.int .i64 a,.int .i64 (m : Int),.slice D bs.length dq,.slice (some ⟨g3,0,none⟩) m m,.slice (some ⟨gq,0,none⟩) 1 1,.slice (some ⟨g7,0,none⟩) m m]).toList rfl (by rfl) (fun j u hj=>by rw [add_plain,Nat.zero_add,Z.cell];exact hj) (by intro u hu;simp at hu;rcases hu with rfl | rfl | rfl | rfl | rfl | rfl | rfl | rfl <;> rfl) (by omega) (by have:=HN8.out;unfold maxLen;omega) (by have:=HN8.out;omega) ?_
       intro v5 w5 own5 gr5
       have b5:=Ext.grown (Below.refl _ _) gr5 (by simp)
       have R5 : RdIn w5 (fun _=>True) (.sl FlTy) (fs ++ [newFl n ki a m bs last]) [v5]:=by
        refine rdin_own8 (base:=va.heap.size) (T:=fun _=>True) (ess:=ess ++ [(#[.int .i64 n,.int .u8 ((ki.toNat : Nat) : Int),.int .i64 a,.int .i64 (m : Int),.slice D bs.length dq,.slice (some ⟨g3,0,none⟩) m m,.slice (some ⟨gq,0,none⟩) 1 1,.slice (some ⟨g7,0,none⟩) m m]).toList]) (by simp [hl1]) ?_ (fun i h1 h2=>?_) ?_
        · rw [List.length_append,List.length_singleton,List.flatten_append,hl2]
          simpa using own5
        · by_cases hi : i < fs.length
          · rw [List.getElem_append_left hi,List.getElem_append_left (by omega)]
            exact ((heach i hi (by omega)).below b5).mono fun _ _=>trivial
          · have hi2 : i = fs.length:=by rw [List.length_append,List.length_singleton] at h1;omega
            subst hi2
            simp only [List.getElem_append_right (Nat.le_refl _),← hl1,Nat.sub_self,List.getElem_singleton]
            rw [show (fs ++ [newFl n ki a m bs last])[ess.length]'(by rw [List.length_append,List.length_singleton];omega) = newFl n ki a m bs last from by simp [hl1]]
            exact RD1.below b5
        · rw [List.length_append,List.length_singleton,hl2];have:=HN8.out;omega
       have t6:=Ext.trans t5 b5
       obtain ⟨A5,c5,e5⟩:=own_form own5
       subst e5
       have HT:=Lib.hid (ftwin_any (fun _=>True) (fs ++ [newFl n ki a m bs last]) (N + 1) c5 A5 (by rw [List.length_append,List.length_singleton,hl2]) w5 R5)
       have FX2:=FX1.next b5
       clear R5 own5 gr5 holds heach hes hnone hl1 hl2 Z RD1 HR1 FX1 b5
       refine hK.out _ _ FX2.cell (fun hS'=>?_)
       clear hK K hS
       have hS:=hS'
       clear hS'
       try simp only [Act.put,zq0,zq1,zq2,zq3,zq4,zq5]
       refine wpAnyH_ready (rs:=[5]) (by kernel_rfl) (by simp) ?_
       refine AllReadyH.cons rfl (fun K hK=>?_) AllReadyH.nil
       rw [if_pos (by rfl)]
       go_simp
       refine HT.out.mono ?_
       rintro e w6 ⟨⟨v6,rfl,fn6⟩,b6⟩
       obtain ⟨A6,c6,e6⟩:=OwnE.slice fn6
       rw [HLN.out] at e6
       subst e6
       have FX3:=FX2.next b6
       have t7:=Ext.trans t6 b6
       refine hK.out _ _ FX3.cell (fun hS'=>?_)
       clear hK K hS FX2 HT
       have hS:=hS'
       clear hS'
       try simp only [Act.put,zq0,zq1,zq2,zq3,zq4,zq5]
       refine wpAnyH_take (i:=6) (v:=?_) rfl (by kernel_rfl) (by kernel_rfl) (by kernel_rfl) (fun _ _ _ h=>h) (Or.inl ⟨by rfl,?_⟩) hS ?_
       rotate_left
       · (intro w hSw;(try dsimp only at hSw);go_simp;(try with_reducible rfl))
       rotate_left
       simp only [Act.put,zq0,zq1,zq2,zq3,zq4,zq5]
       refine wpAnyH_take (i:=7) (v:=?_) rfl (by kernel_rfl) (by kernel_rfl) (by kernel_rfl) (fun _ _ _ h=>h) (Or.inl ⟨by rfl,?_⟩) hS ?_
       rotate_left
       · (intro w hSw;(try dsimp only at hSw);go_simp;(try with_reducible rfl))
       rotate_left
       simp only [Act.put,zq0,zq1,zq2,zq3,zq4,zq5]
       refine wpAnyH_done (by kernel_rfl) ?_ _
       have HFN:=Lib.hid fn6
       clear hS FX3 b6 fn6
       have HT7:=Lib.hid (Nat.le_trans t6.size (Nat.le_refl _))
       clear t5 t6
       go_wp2
       go_ret2
       rw [HMV.out]
       exact ⟨FlRes.mk HLN.out (HFN.out.low HT7.out),t7⟩
   · have e4 : (((ki.toNat : Nat) : Int) == 4) = false:=by simpa using h4
     have t40:=Ext.trans t2 bw
     have HR0:=HR2.out.below bw
     have RD0 : RdIn wc (fun _=>True) FlTy (newFl n ki a m bs last) (#[.int .i64 n,.int .u8 ((ki.toNat : Nat) : Int),.int .i64 a,.int .i64 (m : Int),.slice D bs.length dq,.slice (some ⟨g3,0,none⟩) m m,.slice (some ⟨g5,0,none⟩) m m,.slice (some ⟨g7,0,none⟩) m m] : Array Value).toList:=newFl_rd (n:=n) (a:=a) (ki:=ki) (last:=last) HINT.out ⟨by have:=HA.out;omega,by have:=HA.out;omega⟩ HM8.out ((HD2.out.below bw).mono fun _ _=>trivial) S3 (newSq_rd HM8.out h4 S5) S7
     clear S3 S5 S7 h4 bw t2 hgf
     go_upto_region 15 with fail
     clear y3 e4 A3 A2
     generalize wc = wf at *
     refine wp_region_held_drew (S:=fun w'=>∀ o,w'.cell? ⟨gf,o,none⟩ = (#[.int .i64 n,.int .u8 ((ki.toNat : Nat) : Int),.int .i64 a,.int .i64 (m : Int),.slice D bs.length dq,.slice (some ⟨g3,0,none⟩) m m,.slice (some ⟨g5,0,none⟩) m m,.slice (some ⟨g7,0,none⟩) m m] : Array Value).toList[o]?) (by kernel_rfl) FX0.drew.cell (fun hS=>?_)
     have bd:=Ext.drew (Below.refl wf.heap.size wf)
     have FX:=FX0.next bd
     have RD:=RD0.below bd
     have HR:=HR0.below bd
     have t4:=Ext.trans t40 bd
     clear FX0 RD0 HR0 t40 bd
     generalize wf.drew = vd at *
     refine wpAnyH_take (i:=0) (v:=?_) rfl (by kernel_rfl) (by kernel_rfl) (by kernel_rfl) (fun _ _ _ h=>h) (Or.inl ⟨by rfl,?_⟩) hS ?_
     rotate_left
     · (intro w hSw;(try dsimp only at hSw);go_simp;(try with_reducible rfl))
     rotate_left
     simp only [Act.put,zq0,zq1,zq2,zq3,zq4,zq5]
     refine wpAnyH_take (i:=2) (v:=?_) rfl (by kernel_rfl) (by kernel_rfl) (by kernel_rfl) (fun _ _ _ h=>h) (Or.inl ⟨by rfl,?_⟩) hS ?_
     rotate_left
     · (intro w hSw;(try dsimp only at hSw);go_simp;(try with_reducible rfl))
     rotate_left
     simp only [Act.put,zq0,zq1,zq2,zq3,zq4,zq5]
     refine wpAnyH_ready (rs:=[1,3]) (by kernel_rfl) (by simp) ?_
     refine AllReadyH.cons rfl (fun K hK=>?_) (AllReadyH.cons rfl (fun K hK=>?_) AllReadyH.nil)
     · rw [if_pos (by rfl)]
       go_simp
       refine (clip_any B N d HBD.out.1 HBD.out.2.1 HBD.out.2.2 _).mono ?_
       rintro e w9 ⟨rfl,hw9⟩
       have hw8:=hw9.symm
       clear hw9
       subst hw8
       refine hK.out _ _ hS (fun hS'=>?_)
       clear hK K hS
       have hS:=hS'
       clear hS'
       try simp only [Act.put,zq0,zq1,zq2,zq3,zq4,zq5]
       refine wpAnyH_ready (rs:=[3]) (by kernel_rfl) (by simp) ?_
       refine AllReadyH.cons rfl (fun K hK=>?_) AllReadyH.nil
       rw [if_pos (by rfl)]
       go_simp
       have bb:=Ext.alloc (Below.refl vd.heap.size vd) (.cells #[.int .i64 n,.int .u8 ((ki.toNat : Nat) : Int),.int .i64 a,.int .i64 (m : Int),.slice D bs.length dq,.slice (some ⟨g3,0,none⟩) m m,.slice (some ⟨g5,0,none⟩) m m,.slice (some ⟨g7,0,none⟩) m m] 67)
       have Z:=BoxOf.new vd #[.int .i64 n,.int .u8 ((ki.toNat : Nat) : Int),.int .i64 a,.int .i64 (m : Int),.slice D bs.length dq,.slice (some ⟨g3,0,none⟩) m m,.slice (some ⟨g5,0,none⟩) m m,.slice (some ⟨g7,0,none⟩) m m] 67
       have RD1:=RD.below bb
       have HR1:=HR.below bb
       have FX1:=FX.next bb
       have t5:=Ext.trans t4 bb
       clear RD HR FX t4
       refine hK.out _ _ FX1.cell (fun hS'=>?_)
       clear hK K hS
       have hS:=hS'
       clear hS'
       try simp only [Act.put,zq0,zq1,zq2,zq3,zq4,zq5]
       clear bb
       obtain ⟨gb,hgb⟩ : ∃ z : Nat,z = vd.heap.size:=⟨_,rfl⟩
       rw [← hgb] at Z ⊢
       clear hgb
       generalize vd.alloc (.cells #[.int .i64 n,.int .u8 ((ki.toNat : Nat) : Int),.int .i64 a,.int .i64 (m : Int),.slice D bs.length dq,.slice (some ⟨g3,0,none⟩) m m,.slice (some ⟨g5,0,none⟩) m m,.slice (some ⟨g7,0,none⟩) m m] 67) = va at *
       refine wpAnyH_ready (rs:=[4]) (by kernel_rfl) (by simp) ?_
       refine AllReadyH.cons rfl (fun K hK=>?_) AllReadyH.nil
       rw [if_pos (by rfl)]
       obtain ⟨ess,hl1,hl2,hes,holds,hnone,heach⟩:=heads8 HR1
       refine wp_append_full va (.tmp 71) (.tmp 73) 25 rfl 67 ig _ 8 128 Try.underlying25 hig hg0 hg1 hg2 rfl (by decide) B N N ess.flatten rfl (fun h=>⟨hnone h,hnone h⟩) (by rw [flat8 hes];omega) holds ⟨gb,0,none⟩ 1 1 (#[.int .i64 n,.int .u8 ((ki.toNat : Nat) : Int),.int .i64 a,.int .i64 (m : Int),.slice D bs.length dq,.slice (some ⟨g3,0,none⟩) m m,.slice (some ⟨g5,0,none⟩) m m,.slice (some ⟨g7,0,none⟩) m m]).toList rfl (by rfl) (fun j u hj=>by rw [add_plain,Nat.zero_add,Z.cell];exact hj) (by intro u hu;simp at hu;rcases hu with rfl | rfl | rfl | rfl | rfl | rfl | rfl | rfl <;> rfl) (by omega) (by have:=HN8.out;unfold maxLen;omega) (by have:=HN8.out;omega) ?_
       intro v5 w5 own5 gr5
       have b5:=Ext.grown (Below.refl _ _) gr5 (by simp)
       have R5 : RdIn w5 (fun _=>True) (.sl FlTy) (fs ++ [newFl n ki a m bs last]) [v5]:=by
        refine rdin_own8 (base:=va.heap.size) (T:=fun _=>True) (ess:=ess ++ [(#[.int .i64 n,.int .u8 ((ki.toNat : Nat) : Int),.int .i64 a,.int .i64 (m : Int),.slice D bs.length dq,.slice (some ⟨g3,0,none⟩) m m,.slice (some ⟨g5,0,none⟩) m m,.slice (some ⟨g7,0,none⟩) m m]).toList]) (by simp [hl1]) ?_ (fun i h1 h2=>?_) ?_
        · rw [List.length_append,List.length_singleton,List.flatten_append,hl2]
          simpa using own5
        · by_cases hi : i < fs.length
          · rw [List.getElem_append_left hi,List.getElem_append_left (by omega)]
            exact ((heach i hi (by omega)).below b5).mono fun _ _=>trivial
          · have hi2 : i = fs.length:=by rw [List.length_append,List.length_singleton] at h1;omega
            subst hi2
            simp only [List.getElem_append_right (Nat.le_refl _),← hl1,Nat.sub_self,List.getElem_singleton]
            rw [show (fs ++ [newFl n ki a m bs last])[ess.length]'(by rw [List.length_append,List.length_singleton];omega) = newFl n ki a m bs last from by simp [hl1]]
            exact RD1.below b5
        · rw [List.length_append,List.length_singleton,hl2];have:=HN8.out;omega
       have t6:=Ext.trans t5 b5
       obtain ⟨A5,c5,e5⟩:=own_form own5
       subst e5
       have HT:=Lib.hid (ftwin_any (fun _=>True) (fs ++ [newFl n ki a m bs last]) (N + 1) c5 A5 (by rw [List.length_append,List.length_singleton,hl2]) w5 R5)
       have FX2:=FX1.next b5
       clear R5 own5 gr5 holds heach hes hnone hl1 hl2 Z RD1 HR1 FX1 b5
       refine hK.out _ _ FX2.cell (fun hS'=>?_)
       clear hK K hS
       have hS:=hS'
       clear hS'
       try simp only [Act.put,zq0,zq1,zq2,zq3,zq4,zq5]
       refine wpAnyH_ready (rs:=[5]) (by kernel_rfl) (by simp) ?_
       refine AllReadyH.cons rfl (fun K hK=>?_) AllReadyH.nil
       rw [if_pos (by rfl)]
       go_simp
       refine HT.out.mono ?_
       rintro e w6 ⟨⟨v6,rfl,fn6⟩,b6⟩
       obtain ⟨A6,c6,e6⟩:=OwnE.slice fn6
       rw [HLN.out] at e6
       subst e6
       have FX3:=FX2.next b6
       have t7:=Ext.trans t6 b6
       refine hK.out _ _ FX3.cell (fun hS'=>?_)
       clear hK K hS FX2 HT
       have hS:=hS'
       clear hS'
       try simp only [Act.put,zq0,zq1,zq2,zq3,zq4,zq5]
       refine wpAnyH_take (i:=6) (v:=?_) rfl (by kernel_rfl) (by kernel_rfl) (by kernel_rfl) (fun _ _ _ h=>h) (Or.inl ⟨by rfl,?_⟩) hS ?_
       rotate_left
       · (intro w hSw;(try dsimp only at hSw);go_simp;(try with_reducible rfl))
       rotate_left
       simp only [Act.put,zq0,zq1,zq2,zq3,zq4,zq5]
       refine wpAnyH_take (i:=7) (v:=?_) rfl (by kernel_rfl) (by kernel_rfl) (by kernel_rfl) (fun _ _ _ h=>h) (Or.inl ⟨by rfl,?_⟩) hS ?_
       rotate_left
       · (intro w hSw;(try dsimp only at hSw);go_simp;(try with_reducible rfl))
       rotate_left
       simp only [Act.put,zq0,zq1,zq2,zq3,zq4,zq5]
       refine wpAnyH_done (by kernel_rfl) ?_ _
       have HFN:=Lib.hid fn6
       clear hS FX3 b6 fn6
       have HT7:=Lib.hid (Nat.le_trans t6.size (Nat.le_refl _))
       clear t5 t6
       go_wp2
       go_ret2
       rw [HMV.out]
       exact ⟨FlRes.mk HLN.out (HFN.out.low HT7.out),t7⟩
     · rw [if_pos (by rfl)]
       go_simp
       have bb:=Ext.alloc (Below.refl vd.heap.size vd) (.cells #[.int .i64 n,.int .u8 ((ki.toNat : Nat) : Int),.int .i64 a,.int .i64 (m : Int),.slice D bs.length dq,.slice (some ⟨g3,0,none⟩) m m,.slice (some ⟨g5,0,none⟩) m m,.slice (some ⟨g7,0,none⟩) m m] 67)
       have Z:=BoxOf.new vd #[.int .i64 n,.int .u8 ((ki.toNat : Nat) : Int),.int .i64 a,.int .i64 (m : Int),.slice D bs.length dq,.slice (some ⟨g3,0,none⟩) m m,.slice (some ⟨g5,0,none⟩) m m,.slice (some ⟨g7,0,none⟩) m m] 67
       have RD1:=RD.below bb
       have HR1:=HR.below bb
       have FX1:=FX.next bb
       have t5:=Ext.trans t4 bb
       clear RD HR FX t4
       refine hK.out _ _ FX1.cell (fun hS'=>?_)
       clear hK K hS
       have hS:=hS'
       clear hS'
       try simp only [Act.put,zq0,zq1,zq2,zq3,zq4,zq5]
       clear bb
       obtain ⟨gb,hgb⟩ : ∃ z : Nat,z = vd.heap.size:=⟨_,rfl⟩
       rw [← hgb] at Z ⊢
       clear hgb
       generalize vd.alloc (.cells #[.int .i64 n,.int .u8 ((ki.toNat : Nat) : Int),.int .i64 a,.int .i64 (m : Int),.slice D bs.length dq,.slice (some ⟨g3,0,none⟩) m m,.slice (some ⟨g5,0,none⟩) m m,.slice (some ⟨g7,0,none⟩) m m] 67) = va at *
       refine wpAnyH_ready (rs:=[1]) (by kernel_rfl) (by simp) ?_
       refine AllReadyH.cons rfl (fun K hK=>?_) AllReadyH.nil
       rw [if_pos (by rfl)]
       go_simp
       refine (clip_any B N d HBD.out.1 HBD.out.2.1 HBD.out.2.2 _).mono ?_
       rintro e w9 ⟨rfl,hw9⟩
       have hw8:=hw9.symm
       clear hw9
       subst hw8
       refine hK.out _ _ hS (fun hS'=>?_)
       clear hK K hS
       have hS:=hS'
       clear hS'
       try simp only [Act.put,zq0,zq1,zq2,zq3,zq4,zq5]
       refine wpAnyH_ready (rs:=[4]) (by kernel_rfl) (by simp) ?_
       refine AllReadyH.cons rfl (fun K hK=>?_) AllReadyH.nil
       rw [if_pos (by rfl)]
       obtain ⟨ess,hl1,hl2,hes,holds,hnone,heach⟩:=heads8 HR1
       refine wp_append_full va (.tmp 71) (.tmp 73) 25 rfl 67 ig _ 8 128 Try.underlying25 hig hg0 hg1 hg2 rfl (by decide) B N N ess.flatten rfl (fun h=>⟨hnone h,hnone h⟩) (by rw [flat8 hes];omega) holds ⟨gb,0,none⟩ 1 1 (#[.int .i64 n,.int .u8 ((ki.toNat : Nat) : Int),.int .i64 a,.int .i64 (m : Int),.slice D bs.length dq,.slice (some ⟨g3,0,none⟩) m m,.slice (some ⟨g5,0,none⟩) m m,.slice (some ⟨g7,0,none⟩) m m]).toList rfl (by rfl) (fun j u hj=>by rw [add_plain,Nat.zero_add,Z.cell];exact hj) (by intro u hu;simp at hu;rcases hu with rfl | rfl | rfl | rfl | rfl | rfl | rfl | rfl <;> rfl) (by omega) (by have:=HN8.out;unfold maxLen;omega) (by have:=HN8.out;omega) ?_
       intro v5 w5 own5 gr5
       have b5:=Ext.grown (Below.refl _ _) gr5 (by simp)
       have R5 : RdIn w5 (fun _=>True) (.sl FlTy) (fs ++ [newFl n ki a m bs last]) [v5]:=by
        refine rdin_own8 (base:=va.heap.size) (T:=fun _=>True) (ess:=ess ++ [(#[.int .i64 n,.int .u8 ((ki.toNat : Nat) : Int),.int .i64 a,.int .i64 (m : Int),.slice D bs.length dq,.slice (some ⟨g3,0,none⟩) m m,.slice (some ⟨g5,0,none⟩) m m,.slice (some ⟨g7,0,none⟩) m m]).toList]) (by simp [hl1]) ?_ (fun i h1 h2=>?_) ?_
        · rw [List.length_append,List.length_singleton,List.flatten_append,hl2]
          simpa using own5
        · by_cases hi : i < fs.length
          · rw [List.getElem_append_left hi,List.getElem_append_left (by omega)]
            exact ((heach i hi (by omega)).below b5).mono fun _ _=>trivial
          · have hi2 : i = fs.length:=by rw [List.length_append,List.length_singleton] at h1;omega
            subst hi2
            simp only [List.getElem_append_right (Nat.le_refl _),← hl1,Nat.sub_self,List.getElem_singleton]
            rw [show (fs ++ [newFl n ki a m bs last])[ess.length]'(by rw [List.length_append,List.length_singleton];omega) = newFl n ki a m bs last from by simp [hl1]]
            exact RD1.below b5
        · rw [List.length_append,List.length_singleton,hl2];have:=HN8.out;omega
       have t6:=Ext.trans t5 b5
       obtain ⟨A5,c5,e5⟩:=own_form own5
       subst e5
       have HT:=Lib.hid (ftwin_any (fun _=>True) (fs ++ [newFl n ki a m bs last]) (N + 1) c5 A5 (by rw [List.length_append,List.length_singleton,hl2]) w5 R5)
       have FX2:=FX1.next b5
       clear R5 own5 gr5 holds heach hes hnone hl1 hl2 Z RD1 HR1 FX1 b5
       refine hK.out _ _ FX2.cell (fun hS'=>?_)
       clear hK K hS
       have hS:=hS'
       clear hS'
       try simp only [Act.put,zq0,zq1,zq2,zq3,zq4,zq5]
       refine wpAnyH_ready (rs:=[5]) (by kernel_rfl) (by simp) ?_
       refine AllReadyH.cons rfl (fun K hK=>?_) AllReadyH.nil
       rw [if_pos (by rfl)]
       go_simp
       refine HT.out.mono ?_
       rintro e w6 ⟨⟨v6,rfl,fn6⟩,b6⟩
       obtain ⟨A6,c6,e6⟩:=OwnE.slice fn6
       rw [HLN.out] at e6
       subst e6
       have FX3:=FX2.next b6
       have t7:=Ext.trans t6 b6
       refine hK.out _ _ FX3.cell (fun hS'=>?_)
       clear hK K hS FX2 HT
       have hS:=hS'
       clear hS'
       try simp only [Act.put,zq0,zq1,zq2,zq3,zq4,zq5]
       refine wpAnyH_take (i:=6) (v:=?_) rfl (by kernel_rfl) (by kernel_rfl) (by kernel_rfl) (fun _ _ _ h=>h) (Or.inl ⟨by rfl,?_⟩) hS ?_
       rotate_left
       · (intro w hSw;(try dsimp only at hSw);go_simp;(try with_reducible rfl))
       rotate_left
       simp only [Act.put,zq0,zq1,zq2,zq3,zq4,zq5]
       refine wpAnyH_take (i:=7) (v:=?_) rfl (by kernel_rfl) (by kernel_rfl) (by kernel_rfl) (fun _ _ _ h=>h) (Or.inl ⟨by rfl,?_⟩) hS ?_
       rotate_left
       · (intro w hSw;(try dsimp only at hSw);go_simp;(try with_reducible rfl))
       rotate_left
       simp only [Act.put,zq0,zq1,zq2,zq3,zq4,zq5]
       refine wpAnyH_done (by kernel_rfl) ?_ _
       have HFN:=Lib.hid fn6
       clear hS FX3 b6 fn6
       have HT7:=Lib.hid (Nat.le_trans t6.size (Nat.le_refl _))
       clear t5 t6
       go_wp2
       go_ret2
       rw [HMV.out]
       exact ⟨FlRes.mk HLN.out (HFN.out.low HT7.out),t7⟩
end Go.Proofs.Ythapabjlhooglaa
