/- Parts of a proof, joined: P3 P4 P5 P6 K13 LB LC P7 K15 K16 K17 K18 K19 K20 K21 K22 K23 K24 K25 K26. No statement of the seed is proved here. -/
import Derived.Test.YtmapgnepfgnphaaGreatDoorH7
set_option linter.unusedSimpArgs false
set_option linter.unusedVariables false
set_option linter.unusedSectionVars false
namespace Go.Proofs.YtmapgnepfgnphaaGreatDoor
open Go Go.DL
theorem aJJ (n:Nat) (f:List Nat):sR n f<9973:=Nat.mod_lt _ (by decide)
theorem aJg {f:List Nat} (h:pM f=true) {i x:Nat} (hx:f[i]?=some x):32≤x∧x≤126:=by
 have:=List.all_eq_true.1 h x (List.mem_of_getElem? hx)
 simpa using this
theorem aHh {f:List Nat} (h:pM f=true):wQ f:=fun i x hx=>by
 have:=aJg h hx;omega
theorem uL {n:Nat} {f:List Nat} (h:f.length=40):(iU n f).length=45:=by simp[iU,nH,h]
theorem aFQ {s:ByteArray} (h:lnE s=0):s.size≤40∧s.size≠0∧iK s.data.toList=false∧Lib.hasSuffix s.data.toList [32]=false:=by
 unfold lnE at h
 split at h
 ·exact absurd h (by decide)
 ·rename_i h1
  split at h
  ·exact absurd h (by decide)
  ·rename_i h2
   simp only[Bool.or_eq_true,not_or,Bool.not_eq_true,decide_eq_false_iff_not]at h2
   exact⟨by omega,h2.1,h2.2.1,h2.2.2⟩
theorem aDk {s:ByteArray} (h:lnE s=0):pM (bN s)=true:=by
 have h1:=(aFQ h).2.2.1
 rw[nS]at h1
 have:pM (s.data.toList.map UInt8.toNat)=true:=by
  cases hx:pM (s.data.toList.map UInt8.toNat)with
  | true=>rfl
  | false=>rw[hx]at h1;cases h1
 exact this
theorem aDf {l:List Nat} (h:pM l=true):pM (bO l)=true:=by
 unfold bO pM at *
 rw[List.all_append,Bool.and_eq_true]
 refine⟨List.all_eq_true.2 fun x hx=>List.all_eq_true.1 h x (List.mem_of_mem_take hx),List.all_eq_true.2 fun x hx=>?_⟩
 rw[List.eq_of_mem_replicate hx];rfl
theorem aJP (s:ByteArray):(bN s).map UInt8.ofNat=s.data.toList:=by
 have:=aAd s
 unfold fP at this
 have h:=congrArg (fun x=>x.data.toList) this
 exact h
theorem aIX {C:List Nat} {n k:Nat} (hC:n*40≤C.length) (hk:k≤n):pM (bZ C k)=true:=by
 refine List.all_eq_true.2 fun x hx=>?_
 obtain⟨j,hj⟩:=List.getElem?_of_mem hx
 have lj:j<(bZ C k).length:=(List.getElem?_eq_some_iff.1 hj).1
 rw[cY hC k hk]at lj
 rw[rA hC lj hk]at hj
 simp only[oSI]at hj
 have:=Nat.mod_lt (dX C j k) (show 0<95 by decide)
 simp;omega
theorem aCp {ls:List ByteArray}:∀ {n i:Nat} {s:ByteArray},n≤ls.length→i<n→ls[i]?=some s→dB (Cn ls n) i=jL s
 | 0,_,_,_,h,_=>absurd h (by omega)
 | n+1,i,s,hn,h,hs=>by
   obtain⟨u,hu⟩:=eC (l:=ls) (i:=n) (by omega)
   rw[aHG hu]
   by_cases hi:i<n
   ·rw[aDs (hZ (by omega)) hi]
    exact aCp (by omega) hi hs
   ·have:i=n:=by omega
    subst this
    rw[hs]at hu
    cases hu
    exact aBr (hZ (by omega)) (iZ s)
theorem aDr {C f:List Nat} {n k:Nat} (hC:C.length=n*40) (hk:k<n) (hf:f.length=40) {i:Nat} (hi:i<n):dB (fI C k f) i=if i=k then f else dB C i:=by
 have h1:(k+1)*40≤n*40:=Nat.mul_le_mul_right _ hk
 have h2:(i+1)*40≤n*40:=Nat.mul_le_mul_right _ hi
 unfold dB fI
 by_cases h:i=k
 ·subst h
  rw[if_pos rfl,List.drop_append,List.drop_eq_nil_of_le (by simp;omega),List.nil_append,List.length_take,Nat.min_eq_left (by omega),Nat.sub_self,List.drop_zero,List.take_append_of_le_length (by omega),List.take_of_length_le (by omega)]
 ·rw[if_neg h]
  by_cases hlt:i<k
  ·have h3:(i+1)*40≤k*40:=Nat.mul_le_mul_right _ hlt
   rw[List.drop_append_of_le_length (by simp;omega),List.take_append_of_le_length (by simp;omega),List.drop_take,List.take_take,Nat.min_eq_left (by omega)]
  ·have h3:(k+1)*40≤i*40:=Nat.mul_le_mul_right _ (by omega)
   rw[List.drop_append,List.drop_eq_nil_of_le (by simp;omega),List.nil_append,List.length_take,Nat.min_eq_left (by omega),List.drop_append,List.drop_eq_nil_of_le (by omega),List.nil_append,hf,List.drop_drop]
   congr 2;omega
section
variable {ls:List ByteArray} {n:Nat} {s:ByteArray}
end
section
variable {ls:List ByteArray} {n:Nat}
end
end Go.Proofs.YtmapgnepfgnphaaGreatDoor
namespace Go.Proofs.YtmapgnepfgnphaaGreatDoor
open Go Go.DL
set_option maxRecDepth 100000
set_option maxHeartbeats 4000000
end Go.Proofs.YtmapgnepfgnphaaGreatDoor
namespace Go.Proofs.YtmapgnepfgnphaaGreatDoor
open Go Go.DL Go.ChangeShapes Go.WideShapes Go.ChangeAt Go.RowKit
set_option maxRecDepth 100000
theorem uR {H:Type} {enc:TypeId×Value→H} {a:Assume} {C:Checked} {os:Os} {f:FuncId} {fn:Func} {s:ChangeSpec} {X:World→Array Value→Prop}
 (hX:∀ (w w':World) (args:Array Value),w.heap=w'.heap→X w args→X w' args)
 (own:ownKnob C.prog.godebug=none) (started:os.Started) (noInit:C.prog.inits.idxOf? f=none) (hfn:C.prog.funcs[f]?=some fn)
 (witness:∃ (w:World) (tape:Tape) (i:Input),w.os=os∧(w.forCall tape i).Shaped C.prog∧i.vars=[]∧Input.okWide C.prog (w.forCall tape i) .any w.heap.size f i ∧
  ((s.pre enc C.prog fn [] false (w.forCall tape i).memory i.args∧X (w.forCall tape i).memory i.args)∧sizedMet enc C.prog fn (OpenSpec.ofChange s) false (w.forCall tape i).memory i.args)∧a.holds C.prog (lone (Frame.enter C.prog f i.args .normal) [] (w.forCall tape i)))
 (contract:∀ (W:World) (base:Nat) (args:Array Value) (ds gs:List (DataW H)) (before:List MemPlace),
  (∀ (j:Nat) t v,fn.params[j]?=some t→args[j]?=some v→Value.okWide C.prog W .any base t v) →
  DataW.Whole enc C.prog fn.params.toList s.vars false W args.toList ds gs before→X W args→W.ShapedOpen C.prog →
  Calls C.prog f args W fun e W'=>∃ v,e = .returned v∧s.post enc C.prog fn false true false false W args v W') :
 ReturnsInHanded a C os f .any (fun w args=>(s.pre enc C.prog fn [] false w args∧X w args)∧sizedMet enc C.prog fn (OpenSpec.ofChange s) false w args) (s.post enc C.prog fn false true false false):=by
 refine returnsInHanded_of_calls own started noInit witness ?_
 rintro w tape i _ hsh _ ⟨_,_,_,fn',hfn',_,_,_,_,hval⟩ ⟨⟨⟨ds,gs,before,hw,_⟩,hx⟩,_⟩ _
 cases hfn'.symm.trans hfn
 exact(contract _ _ _ ds gs before hval (DataW.Whole.of_heap (by rfl) hw) (hX _ _ _ (by rfl) hx) hsh).mono fun e W' ⟨v,he,hp⟩=>by
  subst he
  exact ChangeSpec.post_blind hp
theorem aJu {k:IntKind} {a:AV} (h:Sh (.int k) a):∃ n,a = .int k n∧(Lit.int k n).wf=true:=by cases h;exact⟨_,rfl,by assumption⟩
theorem aAN {α:Type} {f:α→List AV} {r:List CT} (key:∀ row:List AV,row.length=r.length→(∀ (i:Nat) (c:CT) (a:AV),r[i]?=some c→row[i]?=some a→Sh c a)→∃ x,row=f x):∀ {rows:List (List AV)},(∀ row∈rows,row.length=r.length) →
 (∀ row∈rows,∀ (i:Nat) (c:CT) (a:AV),r[i]?=some c→row[i]?=some a→Sh c a)→∃ l:List α,rows=l.map f
 | [],_,_=>⟨[],rfl⟩
 | a::rows,h1,h2=>by
   obtain⟨l,rfl⟩:=aAN key (rows:=rows) (fun row hr=>h1 row (by simp[hr])) (fun row hr=>h2 row (by simp[hr]))
   obtain⟨x,rfl⟩:=key a (h1 a (by simp)) (h2 a (by simp))
   exact⟨x::l,rfl⟩
theorem aLB {α:Type} {f:α→List AV} {r:List CT} (key:∀ row:List AV,row.length=r.length→(∀ (i:Nat) (c:CT) (a:AV),r[i]?=some c→row[i]?=some a→Sh c a)→∃ x,row=f x) {a:AV} (h:Sh (.sl r) a):∃ l:List α,a = .fs (l.map f)∧l.length≤maxLen:=by
 cases h with
 | sl _ rows h1 hn h2 =>
   obtain⟨l,rfl⟩:=aAN key h1 h2
   exact⟨l,rfl,by simpa using hn⟩
theorem aGu {F:Nat→Prop} {w:World}:Args F w [] #[]:=⟨rfl,fun i a' v' h1 h2=>by simp at h1⟩
theorem rP {F:Nat→Prop} {w:World} {a:AV} {v:Value} {xs:List AV} {vs:List Value} (h:Rv F w a v) (hs:Args F w xs vs.toArray):Args F w (a::xs) (v::vs).toArray:=by
 refine⟨by have:=hs.1;simp at this ⊢;exact this,fun i a' v' h1 h2=>?_⟩
 match i with
 | 0=>simp at h1 h2;rw[←h1,←h2];exact h
 | i+1 =>
   simp at h1 h2
   exact hs.2 i a' v' h1 (by simpa using h2)
theorem aIq:Flat Tryz.prog 9 [.str]:=.str Tryz.underlying9
theorem aJD:Flat Tryz.prog 22 [.sl [.str]]:=.sl Tryz.underlying22 aIq (by kernel_rfl) (by decide)
theorem aEV {a:AV} (h:Sh .str a):∃ s:ByteArray,a = .str s∧s.size≤9223372036854775807:=by
 cases h with
 | str s h=>exact⟨s,rfl,h⟩
theorem aLs:∀ row:List AV,row.length=([.str]:List CT).length→(∀ (i:Nat) (c:CT) (a:AV),([.str]:List CT)[i]?=some c→row[i]?=some a→Sh c a)→∃ x:ByteArray,row=[.str x]:=by
 intro row hl h
 match row,hl with
 | [a0],_ =>
   obtain⟨s,rfl,_⟩:=aEV (h 0 _ _ rfl rfl)
   exact⟨s,rfl⟩
theorem aGL {a:AV} (h:Sh (.sl [.str]) a):∃ ls:List ByteArray,a = .fs (rS ls)∧ls.length≤9223372036854775807:=by
 obtain⟨ls,rfl,hn⟩:=aLB aLs h
 exact⟨ls,rfl,hn⟩
end Go.Proofs.YtmapgnepfgnphaaGreatDoor
namespace Go.Proofs.YtmapgnepfgnphaaGreatDoor
open Go Go.DL
section
variable {ls:List ByteArray} {n:Nat}
end
end Go.Proofs.YtmapgnepfgnphaaGreatDoor
namespace Go.Proofs.YtmapgnepfgnphaaGreatDoor
open Go Go.DL
set_option maxRecDepth 100000
set_option maxHeartbeats 4000000
theorem q39 {vs:List AV} {h:XH} (hl:vs.length≤15):runW aH 39 vs h=cR none x39.res x39.ownR h.length (execW aH 39 h.length none x39.body (aP (if x39.ownA then vs else fY vs)) h):=bG rfl hl h rfl
theorem q40 {vs:List AV} {h:XH} (hl:vs.length≤16):runW aH 40 vs h=cR none x40.res x40.ownR h.length (execW aH 40 h.length none x40.body (aP (if x40.ownA then vs else fY vs)) h):=bG rfl hl h rfl
theorem q78 {vs:List AV} {h:XH} (hl:vs.length≤9):runW aH 78 vs h=cR none x78.res x78.ownR h.length (execW aH 78 h.length none x78.body (aP (if x78.ownA then vs else fY vs)) h):=bG rfl hl h rfl
theorem q79 {vs:List AV} {h:XH} (hl:vs.length≤49):runW aH 79 vs h=cR none x79.res x79.ownR h.length (execW aH 79 h.length none x79.body (aP (if x79.ownA then vs else fY vs)) h):=bG rfl hl h rfl
theorem w39 (n lo hi:Int):runW aH 39 [I n,I lo,I hi] []=some (.bool (decide (lo≤n)&&decide (n≤hi)),[]):=by
 rw[q39 (by simp)];unfold x39;dsimp only
 rcases tE (lo≤n)with h1|h1
 ·have d1:decide (lo≤n)=true:=by simp[h1]
  (sym=>(simp[aE,aF,aL,Za,Zb,Zf,Zh,Zl,Zm,Zp,Zq,Zu,Zw,Z0,Yc,Yv,Yx,YH,Xb,Xm,XK,XL,Wl,Wt,Wx,Wy,WB,WC,Ve,Vm,Vn,Vo,Vp,Vq,Vr,Vs,Vu,Vv,Vw,Vx,Vz,VB,VD,VG,VI,VK,VM,VY,Uc,Ud,Ue,Un,Uo,UN,UP,UQ,UU,Tb,Tc,Ty,h1,d1];all_goals tactic=>exact rfl))
 ·have d1:decide (lo≤n)=false:=by simp[h1]
  (sym=>(simp[aE,aF,aL,Za,Zb,Zf,Zh,Zl,Zm,Zp,Zs,Zu,Zw,Z0,Yd,Yx,YH,Xb,Xm,XK,XL,Wl,Wt,Wx,Wy,WB,WC,Ve,Vm,Vn,Vo,Vp,Vq,Vr,Vs,Vu,Vv,Vw,Vx,Vz,VB,VD,VG,VI,VK,VO,VZ,Uc,Ud,Ue,Un,Uo,UN,UP,UQ,UU,Tb,Tc,Ty,h1,d1];all_goals tactic=>exact rfl))
theorem oC (p:Nat→Bool):∀ n,∃ m,m≤n∧(∀ i,i<m→p i=true)∧(m=n∨(m<n∧p m=false))
 | 0=>⟨0,Nat.le_refl _,fun i hi=>absurd hi (by omega),.inl rfl⟩
 | n+1=>by
   obtain⟨m,h1,h2,h3⟩:=oC p n
   rcases h3 with rfl|⟨h3,h4⟩
   ·cases hp:p m with
    | true=>exact⟨m+1,Nat.le_refl _,fun i hi=>by
     by_cases him:i=m
     ·subst him;exact hp
     ·exact h2 i (by omega),.inl rfl⟩
    | false=>exact⟨m,by omega,h2,.inr ⟨by omega,hp⟩⟩
   ·exact⟨m,by omega,h2,.inr ⟨by omega,h4⟩⟩
theorem aBE {s:ByteArray} {i:Nat} (h:i<s.size):∃ x,(bN s)[i]?=some x∧x<256∧((s.data.toList.getD i 0).toNat:Int)=(x:Int):=by
 have hl:i<s.data.toList.length:=by rw[Array.length_toList];exact h
 have h0:s.data.toList[i]?=some (s.data.toList[i]'hl):=List.getElem?_eq_getElem hl
 refine⟨(s.data.toList[i]'hl).toNat,?_,UInt8.toNat_lt _,?_⟩
 ·unfold bN;rw[List.getElem?_map,h0];rfl
 ·rw[List.getD_eq_getElem?_getD,h0];rfl
def okB (x:Nat):Bool:=decide (32≤x)&&decide (x≤126)
theorem aFG (x:Nat):(decide ((32:Int)≤(x:Int))&&decide ((x:Int)≤126))=okB x:=by
 unfold okB
 congr 1<;>exact decide_eq_decide.2 (by omega)
theorem aJf {f:List Nat} {m:Nat} (h1:m≤f.length) (h2:∀ i,i<m→okB (f.getD i 0)=true) (h3:m=f.length∨(m<f.length∧okB (f.getD m 0)=false)):pM f=decide (m=f.length):=by
 rcases h3 with h3|⟨h3,h4⟩
 ·rw[decide_eq_true h3]
  unfold pM
  rw[List.all_eq_true]
  intro x hx
  obtain⟨i,hi⟩:=List.mem_iff_getElem?.1 hx
  have:=h2 i (by have:=(List.getElem?_eq_some_iff.1 hi).1;omega)
  rw[List.getD_eq_getElem?_getD,hi]at this
  exact this
 ·rw[decide_eq_false (by omega)]
  unfold pM
  rw[List.all_eq_false]
  refine⟨f.getD m 0,?_,by simp only[okB]at h4;rw[h4];decide⟩
  rw[List.getD_eq_getElem?_getD,List.getElem?_eq_getElem h3]
  exact List.getElem_mem h3
theorem w40 {s:ByteArray} (hs:s.size≤1000000):runW aH 40 [.str s] []=some (.bool (pM (bN s)),[]):=by
 rw[q40 (by simp)];unfold x40;dsimp only
 have bl:=jO s
 obtain⟨m,m1,m2,m3⟩:=oC (fun i=>okB ((bN s).getD i 0)) s.size
 have hp:=aJf (f:=bN s) (m:=m) (by omega) m2 (by rw[bl];exact m3)
 rw[bl]at hp
 rw[hp]
 have e0:((s.size:Int)<(s.size:Int))=False:=eq_false (by omega)
 have at0:∀ i,i<s.size→∃ x,(bN s).getD i 0=x∧x<256∧((s.data.toList.getD i 0).toNat:Int)=(x:Int):=fun i hi=>by
  obtain⟨x,h1,h2,h3⟩:=aBE hi
  exact⟨x,by rw[List.getD_eq_getElem?_getD,h1];rfl,h2,h3⟩
 have bad:m<s.size→okB ((bN s).getD m 0)=false:=fun h=>m3.elim (fun e=>by omega) fun h=>h.2
 sym =>
  simp[aE,aF,aL,Zb,Zf,Zh,Zl,Zu,XM,VB,VK,Un,Uo,UP,UT,UU,Tc,e0]
  tactic =>
   unfold aHU
   rw[aY m (fun i=>[.str s,I (i:Nat)]) (fun _=>[])]
   ·by_cases hm:m=s.size
    ·rw[decide_eq_true hm,hm]
     (sym=>(simp[aE,aF,aL,Za,Zb,Zf,Zh,Zl,Zm,Zu,Z0,ZK,Yk,Yu,YH,Xb,Xm,XL,Wt,Wx,Wy,WB,WC,Ve,Vm,Vn,Vo,Vp,Vq,Vr,Vs,Vu,Vv,Vw,Vx,V0,V6,V8,VD,VG,VI,VZ,Uc,Ud,Ue,U9,UN,UP,UQ,US,UU,UV,UZ,Tb,Tc,Ty,e0];all_goals tactic=>exact rfl))
    ·rw[decide_eq_false hm]
     have hm':m<s.size:=by omega
     obtain⟨x,x1,x2,x3⟩:=at0 m hm'
     have hb:=bad hm'
     rw[x1]at hb
     have c:=w39 (x:Int) 32 126
     rw[aFG,hb]at c
     have i1:((m:Int)<(s.size:Int))=True:=eq_true (by omega)
     have w1:IntKind.i64.wrap (x:Int)=(x:Int):=aG (by omega) (by omega)
     (sym=>(simp[aE,aF,aL,Za,Zb,Zf,Zh,Zl,Zm,Zu,Z0,Z8,ZA,ZF,ZK,ZT,ZV,Ya,Yb,Yf,Yg,Yk,Yu,Yz,Y2,YF,YG,YH,Xa,Xb,Xm,XL,Wk,Wt,Ww,Wx,Wy,WB,WC,WF,WG,WQ,WR,WS,Ve,Vm,Vn,Vo,Vp,Vq,Vr,Vs,Vu,Vv,Vw,Vx,V0,V6,V7,VC,VD,VF,VG,VI,VK,VR,VU,VY,Uc,Ud,Ue,Uf,Ug,UN,UP,UQ,UR,UT,UU,UW,UY,Tb,Tc,Ty,i1,x3,c,w1];all_goals tactic=>exact rfl))
   ·(sym=>(simp[aE,aF,aL,Za,Y7,YG,YJ,Xa,Xc,Wl,Wt,Wx,Wy,WB,WC,Vz,V4,V5,VC,VD,VG,VI,Uc,Ud,Ue,Uf,Ug,Ta];all_goals tactic=>exact rfl))
   ·intro i hi
    have hi':i<s.size:=by omega
    obtain⟨x,x1,x2,x3⟩:=at0 i hi'
    have hb:=m2 i hi
    rw[x1]at hb
    have c:=w39 (x:Int) 32 126
    rw[aFG,hb]at c
    have i1:((i:Int)<(s.size:Int))=True:=eq_true (by omega)
    have w1:IntKind.i64.wrap (x:Int)=(x:Int):=aG (by omega) (by omega)
    have a2:=eS (n:=s.size) (i:=i) (by omega) (by omega)
    (sym=>(simp[aE,aF,aL,Za,Zb,Zf,Zh,Zl,Zm,Zu,Z0,Z8,ZA,ZF,ZK,ZT,ZV,Ya,Yb,Yf,Yg,Yk,Yp,Yu,Yz,Y2,YF,YG,YJ,Xa,Xb,Xc,Wk,Wt,Ww,Wx,Wy,WB,WC,WF,WG,WQ,WR,WS,V0,V4,V5,V6,V7,V8,VC,VD,VF,VG,VI,VK,VQ,VU,VY,Uc,Ud,Ue,Uf,Ug,UN,UP,UR,UT,UU,UX,Ta,Tb,Tc,i1,x3,c,w1,a2];all_goals tactic=>exact rfl))
   ·by_cases hm:m=s.size
    ·rw[hm]
     (sym=>(simp[aE,aF,aL,Za,Zb,Zf,Zh,Zl,Zm,Zu,Z0,ZK,Yk,Yu,V0,V6,V8,V9,VZ,U9,UN,UP,US,UU,UV,Tb,e0];all_goals tactic=>exact rfl))
    ·have hm':m<s.size:=by omega
     obtain⟨x,x1,x2,x3⟩:=at0 m hm'
     have hb:=bad hm'
     rw[x1]at hb
     have c:=w39 (x:Int) 32 126
     rw[aFG,hb]at c
     have i1:((m:Int)<(s.size:Int))=True:=eq_true (by omega)
     have w1:IntKind.i64.wrap (x:Int)=(x:Int):=aG (by omega) (by omega)
     (sym=>(simp[aE,aF,aL,Za,Zb,Zf,Zh,Zl,Zm,Zu,Z0,Z8,ZA,ZF,ZK,ZT,ZV,Ya,Yb,Yf,Yg,Yk,Yu,Yz,Y2,YF,YG,Xa,Xb,Wk,Wt,Ww,Wy,WF,WG,WQ,WR,WS,V0,V6,V7,VA,VC,VD,VF,VG,VK,VR,VU,VY,Uc,Ud,Ue,Uf,Ug,UN,UP,UQ,UR,UT,UU,UW,UY,Tb,Tc,i1,x3,c,w1];all_goals tactic=>exact rfl))
def spS (s:ByteArray) (i:Nat):ByteArray:=fP (bN s++List.replicate i 32)
theorem iO (l:List Nat):(fP l).size=l.length:=by
 show (l.map UInt8.ofNat).length=l.length
 simp
theorem aEY (s:ByteArray) (i:Nat):(spS s i).size=s.size+i:=by
 unfold spS;rw[iO,List.length_append,jO,List.length_replicate]
theorem aLw (s:ByteArray):spS s 0=s:=by unfold spS;rw[List.replicate_zero,List.append_nil,aAd]
theorem aLv (s:ByteArray) (i:Nat):spS s i++⟨#[32]⟩=spS s (i+1):=by
 have:(⟨#[32]⟩:ByteArray)=fP [32]:=rfl
 rw[this]
 unfold spS
 rw[aAe,List.append_assoc]
 congr 2
 exact(List.replicate_succ' (n:=i) (a:=32)).symm
theorem aGP {s:ByteArray} (h:s.size≤40):spS s (40-s.size)=fP (bO (bN s)):=by
 unfold spS bO
 rw[jO,List.take_of_length_le (by rw[jO];exact h)]
theorem w78 {s:ByteArray} (hs:s.size≤40):runW aH 78 [.str s] []=some (.str (fP (bO (bN s))),[]):=by
 rw[q78 (by simp)];unfold x78;dsimp only
 have hz:=aEY s
 have e:=aGP hs
 sym =>
  simp[aE,aF,aL,Zb,Zf,Zh,Zl,Zu,XM,VB,VK,Un,Uo,UP,UT,UU,Tc,e]
  tactic =>
   unfold aHL
   rw[aY (40-s.size) (fun i=>[.str (spS s i)]) (fun _=>[])]
   ·have z:=hz (40-s.size)
    have i1:(((spS s (40-s.size)).size:Int)<40)=False:=eq_false (by omega)
    rw[e]at i1
    (sym=>(simp[aE,aF,aL,Za,Zb,Zf,Zh,Zl,Zm,Zu,Z0,ZK,Yk,Yu,YJ,Xc,Xn,XM,Wt,Wx,Wy,WB,WC,Ve,Vm,Vn,Vo,Vp,Vq,Vr,Vs,Vu,Vv,Vw,Vx,V0,V6,V8,VD,VG,VI,VZ,Uc,Ud,Ue,UN,UP,UQ,US,UU,UV,UZ,Tb,Tc,Ty,i1,e];all_goals tactic=>exact rfl))
   ·have z:=aLw s
    (sym=>(simp[aE,aF,aL,Za,YJ,Xc,Wl,Wt,Wx,Wy,WB,WC,Vz,V4,V5,VC,VD,VG,VI,Uc,Ud,Ue,Uf,Ug,Ta,z];all_goals tactic=>exact rfl))
   ·intro i hi
    have z:=hz i
    have i1:(((spS s i).size:Int)<40)=True:=eq_true (by omega)
    have a:=gS (a:=spS s i) (b:=⟨#[32]⟩) (by rw[z];show s.size+i+1≤_;omega)
    rw[aLv]at a
    (sym=>(simp[aE,aF,aL,Za,Zb,Zf,Zh,Zl,Zm,Zu,Z0,ZK,Yk,Yu,YJ,Xc,Wt,Wx,Wy,WB,WC,V0,V4,V5,V6,V7,VC,VD,VG,VI,VY,Uc,Ud,Ue,Uf,Ug,UN,UO,UP,UR,UT,UU,UX,Ta,Tb,Tc,i1,a];all_goals tactic=>exact rfl))
   ·have z:=hz (40-s.size)
    have i1:(((spS s (40-s.size)).size:Int)<40)=False:=eq_false (by omega)
    (sym=>(simp[aE,aF,aL,Za,Zb,Zf,Zh,Zl,Zm,Zu,Z0,ZK,Yk,Yu,V0,V6,V8,V9,VZ,UN,UP,US,UU,UV,Tb,Tc,i1];all_goals tactic=>exact rfl))
theorem aCz {x:Nat} (h:okB x=true):dY x=x-32∧32≤x∧x≤126:=by
 simp only[okB,Bool.and_eq_true,decide_eq_true_eq]at h
 unfold dY;omega
theorem zX {f:List Nat} (h:pM f=true) {i x:Nat} (hx:f[i]?=some x):okB x=true:=by
 unfold pM at h
 exact List.all_eq_true.1 h x (List.mem_of_getElem? hx)
theorem aHx {d:Nat} (h:d≤200):IntKind.u8.wrap ((48+d:Nat):Int)=((48+d:Nat):Int):=by simp[IntKind.wrap,IntKind.bits,IntKind.signed];omega
theorem aHa {s:ByteArray} {c:Nat}:(⟨⟨([48+c/1000,48+c/100%10,48+c/10%10,48+c%10]:List Nat).map UInt8.ofNat⟩⟩++s)++⟨#[10]⟩=fP (nH c++(bN s++[10])):=by
 have h1:(⟨#[10]⟩:ByteArray)=fP [10]:=rfl
 have h2:(⟨⟨([48+c/1000,48+c/100%10,48+c/10%10,48+c%10]:List Nat).map UInt8.ofNat⟩⟩:ByteArray)=fP (nH c):=rfl
 rw[h1,h2]
 conv=>lhs;rw[←aAd s]
 rw[aAe,aAe,List.append_assoc]
theorem w79 {s:ByteArray} {row:Nat} (hs:s.size=40) (hp:pM (bN s)=true) (hr:row≤1000000):runW aH 79 [.str s,I (row:Int)] []=some (.str (fP (iU row (bN s))),[]):=by
 rw[q79 (by simp)];unfold x79;dsimp only
 have e0:((40:Int)<40)=False:=eq_false (by omega)
 have bl:=jO s
 sym =>
  simp[aE,aF,aL,Za,Zb,Zf,Zh,Zl,Zu,XK,XM,Wl,Vz,VB,VK,Un,Uo,UP,UT,UU,Tb,Tc,e0]
  tactic =>
   unfold aHK
   rw[aY 40 (fun i=>[.str s,I (iT row (bN s) i:Nat),I (i:Nat)]) (fun _=>[])]
   ·have hc:iT row (bN s) 40%9973=sR row (bN s):=aGz (by omega)
    have hc':sR row (bN s)<9973:=aJJ _ _
    have hR:iU row (bN s)=nH (sR row (bN s))++(bN s++[10]):=rfl
    have t0:tmZ (iT row (bN s) 40:Int) 9973=_:=jH (iT row (bN s) 40) 9973
    rw[hc]at t0
    rw[hR]
    generalize sR row (bN s)=c at *
    have t1:tdZ ((c:Nat):Int) 1000=_:=tX c 1000
    have t2:tdZ ((c:Nat):Int) 100=_:=tX c 100
    have t3:tdZ ((c:Nat):Int) 10=_:=tX c 10
    have t4:tmZ ((c/100:Nat):Int) 10=_:=jH (c/100) 10
    have t5:tmZ ((c/10:Nat):Int) 10=_:=jH (c/10) 10
    have t6:tmZ ((c:Nat):Int) 10=_:=jH c 10
    have v1:IntKind.i64.wrap ((c/1000:Nat):Int)=((c/1000:Nat):Int):=aG (by omega) (by omega)
    have v2:IntKind.i64.wrap ((c/100:Nat):Int)=((c/100:Nat):Int):=aG (by omega) (by omega)
    have v3:IntKind.i64.wrap ((c/10:Nat):Int)=((c/10:Nat):Int):=aG (by omega) (by omega)
    have u1:IntKind.i64.wrap (48+((c/1000:Nat):Int))=((48+c/1000:Nat):Int):=by rw[aG (by omega) (by omega)];omega
    have u2:IntKind.i64.wrap (48+((c/100%10:Nat):Int))=((48+c/100%10:Nat):Int):=by rw[aG (by omega) (by omega)];omega
    have u3:IntKind.i64.wrap (48+((c/10%10:Nat):Int))=((48+c/10%10:Nat):Int):=by rw[aG (by omega) (by omega)];omega
    have u4:IntKind.i64.wrap (48+((c%10:Nat):Int))=((48+c%10:Nat):Int):=by rw[aG (by omega) (by omega)];omega
    have b1:=aHx (d:=c/1000) (by omega)
    have b2:=aHx (d:=c/100%10) (by omega)
    have b3:=aHx (d:=c/10%10) (by omega)
    have b4:=aHx (d:=c%10) (by omega)
    have hb:=kN (f:=[48+c/1000,48+c/100%10,48+c/10%10,48+c%10])
    have hE:=aHa (s:=s) (c:=c)
    have hz:(⟨⟨([48+c/1000,48+c/100%10,48+c/10%10,48+c%10]:List Nat).map UInt8.ofNat⟩⟩:ByteArray).size=4:=rfl
    unfold bE at hb
    simp only[List.map_cons,List.map_nil]at hb hE hz
    generalize 48+c/1000=d1 at *
    generalize 48+c/100%10=d2 at *
    generalize 48+c/10%10=d3 at *
    generalize 48+c%10=d4 at *
    have a1:=gS (a:=⟨⟨[UInt8.ofNat d1,UInt8.ofNat d2,UInt8.ofNat d3,UInt8.ofNat d4]⟩⟩) (b:=s) (by rw[hz];omega)
    have a2:=gS (a:=(⟨⟨[UInt8.ofNat d1,UInt8.ofNat d2,UInt8.ofNat d3,UInt8.ofNat d4]⟩⟩:ByteArray)++s) (b:=⟨#[10]⟩) (by rw[ByteArray.size_append,hz,hs];decide)
    rw[hE]at a2
    generalize fP (nH c++(bN s++[10]))=R at *
    generalize (⟨⟨[UInt8.ofNat d1,UInt8.ofNat d2,UInt8.ofNat d3,UInt8.ofNat d4]⟩⟩:ByteArray)++s=T at *
    (sym=>(simp[aE,aF,aL,Za,Zb,Zd,Ze,Zf,Zh,Zl,Zm,Zo,Zu,Zy,Z0,ZA,Yg,Yp,Yu,YJ,YV,Xc,Xn,XM,XZ,Wd,We,Wf,Wh,Wi,Wj,Wk,Wt,Wx,Wz,WB,WC,Ve,Vm,Vn,Vo,Vp,Vq,Vr,Vs,Vu,Vv,Vw,Vx,V0,V6,V8,VC,VD,VE,VF,VG,VI,VJ,VK,VL,VN,VU,VZ,Ua,Ub,Ud,Ue,Uh,Ui,Uq,Ur,Us,Ut,Uz,U0,U1,U2,U3,U4,UI,UN,UO,UP,UQ,US,UU,UV,UZ,Tb,Tc,Tw,Ty,T5,TR,TS,TT,e0,t0,t1,t2,t3,t4,t5,t6,v1,v2,v3,u1,u2,u3,u4,b1,b2,b3,b4,hb,a1,a2];all_goals tactic=>exact rfl))
   ·have z:=aIu row (bN s)
    have w1:IntKind.i64.wrap (row:Int)=(row:Int):=aG (by omega) (by omega)
    (sym=>(simp[aE,aF,aL,Za,Y7,YG,YJ,Xa,Xc,Wl,Wt,Wx,Wy,WB,WC,Vz,V4,V5,VC,VD,VG,VI,Uc,Ud,Ue,Uf,Ug,Ta,z,w1];all_goals tactic=>exact rfl))
   ·intro i hi
    obtain⟨x,x1,x2,x3⟩:=aBE (s:=s) (i:=i) (by omega)
    obtain⟨y1,y2,y3⟩:=aCz (zX hp x1)
    have hA:=aIt (row:=row) x1
    have hle:=aGy (row:=row) (f:=bN s) (by omega) i
    have i1:((i:Int)<40)=True:=eq_true (by omega)
    have i2:((i:Int)<(s.size:Int))=True:=eq_true (by omega)
    have a2:=eS (n:=40) (i:=i) (by omega) (by omega)
    have c1:IntKind.i64.wrap (x:Int)=(x:Int):=aG (by omega) (by omega)
    have c2:IntKind.i64.wrap ((x:Int)-32)=(dY x:Int):=by rw[aG (by omega) (by omega)];omega
    have hm:(i+1)*dY x≤40*94:=Nat.mul_le_mul (by omega) (by omega)
    have c3:IntKind.i64.wrap (((i:Int)+1)*(dY x:Int))=(((i+1)*dY x:Nat):Int):=by
     rw[show ((i:Int)+1)*(dY x:Int)=(((i+1)*dY x:Nat):Int) by simp,aG (by omega) (by omega)]
    have c4:IntKind.i64.wrap ((iT row (bN s) i:Int)+(((i+1)*dY x:Nat):Int))=(iT row (bN s) (i+1):Int):=by
     rw[aG (by omega) (by omega)];omega
    generalize (i+1)*dY x=P at *
    generalize iT row (bN s) (i+1)=A1 at *
    generalize iT row (bN s) i=A0 at *
    generalize dY x=cx at *
    (sym=>(simp[aE,aF,aL,Za,Zb,Zf,Zh,Zl,Zm,Zu,Z0,ZA,ZF,Yg,Yp,Yq,Yr,Yu,Yz,Y2,YF,YG,YJ,Xa,Xc,Wt,Wx,Wy,WB,WC,V0,V4,V5,V6,V7,VC,VD,VG,VI,VU,VY,Uc,Ud,Ue,Uf,Ug,UN,UP,UR,UT,UU,UX,Ta,Tb,Tc,i1,i2,a2,x3,c1,c2,c3,c4];all_goals tactic=>exact rfl))
   ·(sym=>(simp[aE,aF,aL,Za,Zb,Zf,Zh,Zl,Zm,Zu,Z0,Yu,V0,V6,V8,V9,VZ,UN,UP,US,UU,UV,Tb,Tc,T5,e0];all_goals tactic=>exact rfl))
theorem q51 {vs:List AV} {h:XH} (hl:vs.length≤20):runW aH 51 vs h=cR none x51.res x51.ownR h.length (execW aH 51 h.length none x51.body (aP (if x51.ownA then vs else fY vs)) h):=bG rfl hl h rfl
theorem q48 {vs:List AV} {h:XH} (hl:vs.length≤17):runW aH 48 vs h=cR none x48.res x48.ownR h.length (execW aH 48 h.length none x48.body (aP (if x48.ownA then vs else fY vs)) h):=bG rfl hl h rfl
theorem w51 {s:ByteArray} (hs:s.size≤1000000):runW aH 51 [.str s] []=some (.str (sG (bN s)),[]):=by
 rw[q51 (by simp)];unfold x51;dsimp only
 obtain⟨m,m1,m2,m3⟩:=oC (fun i=>decide ((bN s).getD (s.size-1-i) 0=32)) s.size
 have bl:=jO s
 have at0:∀ i,i<s.size→∃ x,(bN s)[i]?=some x∧(bN s).getD i 0=x∧x<256∧((s.data.toList.getD i 0).toNat:Int)=(x:Int):=fun i hi=>by
  obtain⟨x,h1,h2,h3⟩:=aBE hi
  exact⟨x,h1,by rw[List.getD_eq_getElem?_getD,h1];rfl,h2,h3⟩
 have hT:sG (bN s)=mA s 0 (s.size-m):=by
  unfold sG
  rw[aJP,Lib.trimRightB_take s.data.toList 32 (s.size-m) (by rw[Array.length_toList];show _≤s.size;omega) (fun j b hj hb=>?_) (fun b hk hb=>?_)]
  ·rfl
  ·have hj2:j<s.size:=(List.getElem?_eq_some_iff.1 hb).1
   obtain⟨x,x1,x2,x3,x4⟩:=at0 j hj2
   have:=m2 (s.size-1-j) (by omega)
   rw[show s.size-1-(s.size-1-j)=j by omega,x2,decide_eq_true_eq]at this
   subst this
   unfold bN at x1
   rw[List.getElem?_map,hb]at x1
   simp only[Option.map_some,oSI]at x1
   exact UInt8.toNat_inj.1 x1
  ·have hk2:s.size-m-1<s.size:=by omega
   rcases m3 with m3|⟨m3,m4⟩
   ·omega
   obtain⟨x,x1,x2,x3,x4⟩:=at0 (s.size-m-1) hk2
   rw[show s.size-1-m=s.size-m-1 by omega,x2,decide_eq_false_iff_not]at m4
   intro e
   subst e
   unfold bN at x1
   rw[List.getElem?_map,hb]at x1
   simp only[Option.map_some,oSI]at x1
   exact m4 x1.symm
 rw[hT]
 have e0:((0:Int)<0)=False:=eq_false (by omega)
 have hfin:m<s.size→∃ x:Nat,((s.data.toList.getD (s.size-m-1) 0).toNat:Int)=(x:Int)∧x≠32:=fun h=>by
  obtain⟨x,x1,x2,x3,x4⟩:=at0 (s.size-m-1) (by omega)
  refine⟨x,x4,fun e=>?_⟩
  rcases m3 with m3|⟨m3,m4⟩
  ·omega
  rw[show s.size-1-m=s.size-m-1 by omega,x2,decide_eq_false_iff_not]at m4
  exact m4 e
 sym =>
  simp[aE,aF,aL,Za,Zb,Zf,Zh,Zl,Zm,Zu,ZK,Yk,XM,Wl,Vz,VB,VK,Un,Uo,UP,UT,UU,Tb,Tc,e0]
  tactic =>
   unfold aHM
   rw[aY m (fun i=>[.str s,I ((s.size-i:Nat):Int)]) (fun _=>[])]
   ·by_cases hm:m=s.size
    ·have z:s.size-m=0:=by omega
     rw[z]
     (sym=>(simp[aE,aF,aL,Za,Zb,Zf,Zh,Zl,Zm,Zn,Zp,Zs,Zu,Zw,Z0,ZI,Yd,Yw,Yz,Y6,Y7,YJ,Xc,Xn,XM,Wt,Wx,Wy,WB,WC,Ve,Vm,Vn,Vo,Vp,Vq,Vr,Vs,Vu,Vv,Vw,Vx,V0,V6,V8,VD,VG,VI,VU,VZ,Uc,Ud,Ue,Uu,Uv,Uw,UN,UP,UQ,US,UU,UV,UZ,Tb,Tc,Tl,Tm,Tn,Tp,Ty,e0];all_goals tactic=>exact rfl))
    ·obtain⟨x,x1,x2⟩:=hfin (by omega)
     have i1:((0:Int)<((s.size-m:Nat):Int))=True:=eq_true (by omega)
     have i0:((0:Int)≤((s.size-m-1:Nat):Int))=True:=eq_true (by omega)
     have i2:(((s.size-m-1:Nat):Int)<(s.size:Int))=True:=eq_true (by omega)
     have w1:IntKind.i64.wrap (((s.size-m:Nat):Int)-1)=((s.size-m-1:Nat):Int):=by rw[aG (by omega) (by omega)];omega
     have y1:((x:Int)=32)=False:=eq_false (by omega)
     have l1:(((s.size-m:Nat):Int)≤(s.size:Int))=True:=eq_true (by omega)
     have l0:((0:Int)≤((s.size-m:Nat):Int))=True:=eq_true (by omega)
     generalize s.size-m-1=a at *
     generalize s.size-m=b at *
     (sym=>(simp[aE,aF,aL,Za,Zb,Zf,Zh,Zl,Zm,Zn,Zp,Zq,Zu,Zw,Z0,ZF,ZI,Yc,Yq,Ys,Yw,Yz,Y2,YF,YJ,Xc,Xn,XM,Wt,Wx,Wy,WB,WC,Ve,Vm,Vn,Vo,Vp,Vq,Vr,Vs,Vu,Vv,Vw,Vx,V0,V6,V8,VD,VG,VI,VU,VY,VZ,Uc,Ud,Ue,Uu,Uv,Uw,UN,UP,UQ,US,UU,UV,UZ,Tb,Tc,Tl,Tm,Tn,Tp,Ty,i0,i1,i2,w1,x1,y1,l1,l0];all_goals tactic=>exact rfl))
   ·(sym=>(simp[aE,aF,aL,Za,YG,YJ,Xa,Xc,Wl,Wt,Wx,Wy,WB,WC,Vz,V4,V5,VC,VD,VG,VI,Uc,Ud,Ue,Uf,Ug,Ta,Tu];all_goals tactic=>exact rfl))
   ·intro i hi
    obtain⟨x,x0,x1,x2,x3⟩:=at0 (s.size-1-i) (by omega)
    have hb:=m2 i hi
    rw[x1,decide_eq_true_eq]at hb
    subst hb
    rw[show s.size-1-i=s.size-i-1 by omega]at x3
    have i1:((0:Int)<((s.size-i:Nat):Int))=True:=eq_true (by omega)
    have i0:((0:Int)≤((s.size-i-1:Nat):Int))=True:=eq_true (by omega)
    have i2:(((s.size-i-1:Nat):Int)<(s.size:Int))=True:=eq_true (by omega)
    have w1:IntKind.i64.wrap (((s.size-i:Nat):Int)-1)=((s.size-i-1:Nat):Int):=by rw[aG (by omega) (by omega)];omega
    have w2:s.size-(i+1)=s.size-i-1:=by omega
    have y1:(((32:Nat):Int)=32)=True:=eq_true rfl
    rw[w2]
    generalize s.size-i-1=a at *
    generalize s.size-i=b at *
    (sym=>(simp[aE,aF,aL,Za,Zb,Zf,Zh,Zl,Zm,Zp,Zq,Zu,Zw,Z0,ZF,Yc,Yq,Ys,Yw,Yz,Y2,YF,YG,YJ,Xa,Xc,Wt,Wx,Wy,WB,WC,V0,V4,V5,V6,V7,VC,VD,VG,VI,VU,VY,Uc,Ud,Ue,Uf,Ug,UN,UP,UR,UT,UU,UX,Ta,Tb,Tc,T4,i0,i1,i2,w1,x3,y1];all_goals tactic=>exact rfl))
   ·by_cases hm:m=s.size
    ·have z:s.size-m=0:=by omega
     rw[z]
     (sym=>(simp[aE,aF,aL,Za,Zb,Zf,Zh,Zl,Zm,Zp,Zs,Zu,Zw,Z0,Yd,Yw,Y7,V0,V6,V8,V9,VZ,UN,UP,US,UU,UV,Tb,Tc,e0];all_goals tactic=>exact rfl))
    ·obtain⟨x,x1,x2⟩:=hfin (by omega)
     have i1:((0:Int)<((s.size-m:Nat):Int))=True:=eq_true (by omega)
     have i0:((0:Int)≤((s.size-m-1:Nat):Int))=True:=eq_true (by omega)
     have i2:(((s.size-m-1:Nat):Int)<(s.size:Int))=True:=eq_true (by omega)
     have w1:IntKind.i64.wrap (((s.size-m:Nat):Int)-1)=((s.size-m-1:Nat):Int):=by rw[aG (by omega) (by omega)];omega
     have y1:((x:Int)=32)=False:=eq_false (by omega)
     generalize s.size-m-1=a at *
     generalize s.size-m=b at *
     (sym=>(simp[aE,aF,aL,Za,Zb,Zf,Zh,Zl,Zm,Zp,Zq,Zu,Zw,Z0,ZF,Yc,Yq,Ys,Yw,Yz,Y2,YF,V0,V6,V8,V9,VU,VY,VZ,UN,UP,US,UU,UV,Tb,Tc,i0,i1,i2,w1,x1,y1];all_goals tactic=>exact rfl))
theorem aEz (a b:List UInt8):(a==b)=(b==a):=by
 by_cases h:a=b
 ·subst h;rfl
 ·rw[beq_eq_false_iff_ne.2 h,beq_eq_false_iff_ne.2 (fun e=>h e.symm)]
theorem sZ {s:ByteArray} (h:s.size=45):(dT s).size=40:=by
 unfold dT mA
 show ((s.data.toList.drop 4).take 40).length=40
 rw[List.length_take,List.length_drop,Array.length_toList]
 show min 40 (s.size-4)=40
 omega
theorem w48 {s:ByteArray} {n:Nat} (hs:s.size=45) (hn:n≤1000000):runW aH 48 [.str s,I (n:Int)] []=some (.bool (sK s n),[]):=by
 rw[q48 (by simp)];unfold x48;dsimp only
 have hz:=sZ hs
 have c1:=w40 (s:=dT s) (by omega)
 have hx:mA s 4 44=dT s:=rfl
 have n44:Int.toNat 44=44:=rfl
 have n4:Int.toNat 4=4:=rfl
 have n45:((4:Int)≤((44:Nat):Int))=True:=eq_true (by omega)
 have hu:iK (dT s).data.toList = !pM (bN (dT s)):=nS _
 have hr:wX s=bN (dT s):=by
  unfold wX
  rw[tH (by rw[jO];exact hz)]
 unfold sK
 rw[hu,Bool.not_not,hr]
 cases hp:pM (bN (dT s))with
 | false =>
   rw[hp]at c1
   (sym=>(simp[aE,aF,aL,Za,Zb,Zf,Zg,Zh,Zj,Zl,Zm,Zn,Zp,Zs,Zu,Zw,ZI,ZT,ZV,Ya,Yb,Yd,Y9,YH,YJ,Xb,Xc,Xl,Xm,XK,XL,XM,Wk,Wl,Wt,Ww,Wx,Wy,WB,WC,WF,WG,WQ,WR,WS,Ve,Vg,Vh,Vi,Vm,Vn,Vo,Vp,Vq,Vr,Vs,Vu,Vv,Vw,Vx,Vz,VB,VC,VD,VF,VG,VI,VK,VO,VU,Uc,Ud,Ue,Uf,Ug,Un,Uo,Uv,Uw,UP,UQ,UU,Tb,Tc,Tl,Tm,Tn,Tp,Ty,T6,T7,T8,T9,TA,TB,TC,hs,hx,n44,n4,n45,c1];all_goals tactic=>exact rfl))
 | true =>
   rw[hp]at c1
   have c2:=w79 hz hp hn
   have e1:=eI s (fP (iU n (bN (dT s))))
   rw[aEz]at e1
   (sym=>(simp[aE,aF,aL,Za,Zb,Zf,Zg,Zh,Zj,Zl,Zm,Zn,Zp,Zq,Zu,Zw,Z0,ZI,ZT,ZV,Ya,Yb,Yc,Y9,YG,YH,YJ,Xa,Xb,Xc,Xl,Xm,XK,XL,XM,Wk,Wl,Wt,Ww,Wx,Wy,WB,WC,WF,WG,WQ,WR,WS,Ve,Vg,Vh,Vi,Vm,Vn,Vo,Vp,Vq,Vr,Vs,Vu,Vv,Vw,Vx,Vz,VB,VC,VD,VF,VG,VI,VK,VM,VU,Uc,Ud,Ue,Uf,Ug,Un,Uo,Uv,Uw,UO,UP,UQ,UU,Tb,Tc,Tl,Tm,Tn,Tp,Ty,T6,T7,T8,T9,TA,TB,TC,hs,hx,n44,n4,n45,c1,c2,e1];all_goals tactic=>exact rfl))
theorem q49 {vs:List AV} {h:XH} (hl:vs.length≤36):runW aH 49 vs h=cR none x49.res x49.ownR h.length (execW aH 49 h.length none x49.body (aP (if x49.ownA then vs else fY vs)) h):=bG rfl hl h rfl
theorem q50 {vs:List AV} {h:XH} (hl:vs.length≤44):runW aH 50 vs h=cR none x50.res x50.ownR h.length (execW aH 50 h.length none x50.body (aP (if x50.ownA then vs else fY vs)) h):=bG rfl hl h rfl
def Flds (ls:List ByteArray):Prop:=∀ s∈ls,s.size=40∧pM (bN s)=true
theorem Flds.at {ls:List ByteArray} (h:Flds ls) {k:Nat} {s:ByteArray} (hk:ls[k]?=some s):dB (Cn ls ls.length) k=bN s:=by
 rw[aCp (Nat.le_refl _) (List.getElem?_eq_some_iff.1 hk).1 hk]
 unfold jL
 exact tH (by rw[jO];exact(h s (List.mem_of_getElem? hk)).1)
theorem Flds.byte {ls:List ByteArray} (h:Flds ls) {k j:Nat} {s:ByteArray} (hk:ls[k]?=some s) (hj:j<40):∃ x:Nat,(dB (Cn ls ls.length) k).getD j 0=x∧32≤x∧x≤126∧dY x=x-32∧((s.data.toList.getD j 0).toNat:Int)=(x:Int):=by
 obtain⟨h1,h2⟩:=h s (List.mem_of_getElem? hk)
 obtain⟨x,x1,x2,x3⟩:=aBE (s:=s) (i:=j) (by omega)
 obtain⟨y1,y2,y3⟩:=aCz (zX h2 x1)
 exact⟨x,by rw[h.at hk,List.getD_eq_getElem?_getD,x1];rfl,y2,y3,y1,x3⟩
theorem aAp {ls:List ByteArray} (h:Flds ls) {j:Nat} (hj:j<40):∀ {k},k≤ls.length→dX (Cn ls ls.length) j k≤k*94
 | 0,_=>Nat.le_refl _
 | k+1,hk=>by
   obtain⟨s,hs⟩:=eC (l:=ls) (i:=k) (by omega)
   obtain⟨x,x1,x2,x3,x4,_⟩:=h.byte hs hj
   rw[dX,x1,x4]
   have:=aAp h hj (k:=k) (by omega)
   omega
def vD (i:Nat):AV:=if i=0 then .nilsl else .sl 0 0 1 i
def yC (l:List Nat) (i:Nat):XH:=if i=0 then [] else [some (.blk true (.cells true (bE (l.take i))))]
theorem aLm {l:List Nat} {i x:Nat} (h:l[i]?=some x):bE (l.take i)++[.int .u8 (x:Int)]=bE (l.take (i+1)):=by
 rw[List.take_add_one,h]
 unfold bE
 simp
theorem aET {l:List Nat} {i:Nat} (hl:l.length=40) (h:i≤40):(bE (l.take i)).length=i:=by rw[aM,List.length_take];omega
theorem w49 {ls:List ByteArray} (hf:Flds ls) (hn:ls.length≤1000):runW aH 49 [.fs (rS ls)] []=some (.str (fP (bZ (Cn ls ls.length) ls.length)),[]):=by
 rw[q49 (by simp)];unfold x49;dsimp only
 have rl:=jK ls
 have e0:((40:Int)<40)=False:=eq_false (by omega)
 have lc:=hZ (ls:=ls) (Nat.le_refl _)
 have lS:=cY (C:=Cn ls ls.length) (n:=ls.length) (by omega) ls.length (Nat.le_refl _)
 have bB:=fun j hj=>rA (C:=Cn ls ls.length) (n:=ls.length) (j:=j) (by omega) hj (k:=ls.length) (Nat.le_refl _)
 have hcl:=fun {j} hj=>fun {k}=>aAp hf (j:=j) hj (k:=k)
 have hby:=fun {k j s} h1 h2=>hf.byte (k:=k) (j:=j) (s:=s) h1 h2
 have hcs:∀ j k,dX (Cn ls ls.length) j (k+1)=dX (Cn ls ls.length) j k+dY ((dB (Cn ls ls.length) k).getD j 0):=fun _ _=>rfl
 have hc0:∀ j,dX (Cn ls ls.length) j 0=0:=fun _=>rfl
 generalize bZ (Cn ls ls.length) ls.length=M at *
 generalize Cn ls ls.length=C at *
 sym =>
  simp[aE,aF,aL,Zb,Zf,Zh,Zl,Zu,XV,VB,VK,Un,Uo,UP,UT,UU,Tc,e0]
  tactic =>
   unfold aHO
   rw[aY 40 (fun i=>[.fs (rS ls),vD i,I (i:Nat)]) (fun i=>yC M i)]
   ·have s0:vD 40 = .sl 0 0 1 40:=rfl
    have g0:yC M 40=[some (.blk true (.cells true (bE (M.take 40))))]:=rfl
    have t0:M.take 40=M:=List.take_of_length_le (by omega)
    rw[t0]at g0
    have lu:=aM M
    rw[lS]at lu
    have bu:eV (bE M)=some (M.map UInt8.ofNat):=kN
    have tk:=eA lS
    have td:=fN lS
    have hE:(⟨⟨M.map UInt8.ofNat⟩⟩:ByteArray)=fP M:=rfl
    (sym=>(simp[aE,aF,aL,Za,Zb,Zf,Zh,Zl,Zm,Zu,Z0,Yu,YJ,Xc,Xn,XM,Wd,We,Wf,Wt,Wx,Wz,WB,WC,Ve,Vm,Vn,Vo,Vp,Vq,Vr,Vs,Vu,Vv,Vw,Vx,V0,V6,V8,VD,VG,VI,VL,VU,VZ,Ud,Ue,U3,U4,UN,UP,UQ,US,UU,UV,UZ,Tb,Tc,Ty,T5,TR,TS,TT,e0,s0,g0,lu,bu,tk,td,hE];all_goals tactic=>exact rfl))
   ·have s0:vD 0 = .nilsl:=rfl
    have g0:yC M 0=[]:=rfl
    (sym=>(simp[aE,aF,aL,Za,Y7,YG,YM,YP,Xa,Xf,Xi,Wl,Wt,Wx,Wy,WB,WC,Vz,V4,V5,VC,VD,VG,VI,Uc,Ud,Ue,Uf,Ug,Ta,s0,g0];all_goals tactic=>exact rfl))
   ·intro i hi
    have i1:((i:Int)<40)=True:=eq_true (by omega)
    have a2:=eS (n:=40) (i:=i) (by omega) (by omega)
    have ln:=aET lS (i:=i) (by omega)
    have gr:=bD (M.take i)
    have gr1:=bD (M.take (i+1))
    have hx:=bB i hi
    have ts:=aLm hx
    have hle:=hcl hi (k:=ls.length) (Nat.le_refl _)
    have r95:=Nat.mod_lt (dX C i ls.length) (show 0<95 by decide)
    have c1:tmZ (dX C i ls.length:Int) 95=((dX C i ls.length%95:Nat):Int):=jH _ 95
    have c2:IntKind.i64.wrap (32+((dX C i ls.length%95:Nat):Int))=((32+dX C i ls.length%95:Nat):Int):=by rw[aG (by omega) (by omega)];omega
    have c3:IntKind.u8.wrap ((32+dX C i ls.length%95:Nat):Int)=((32+dX C i ls.length%95:Nat):Int):=by simp[IntKind.wrap,IntKind.bits,IntKind.signed];omega
    have z1:(i+1≤1099511627776)=True:=eq_true (by omega)
    have z2:((i+1)*1≤1099511627776)=True:=eq_true (by omega)
    have nn:((ls.length:Int)<(ls.length:Int))=False:=eq_false (by omega)
    have fin:∀ k:Nat,k=ls.length→dX C i k=dX C i ls.length:=fun k hk=>by rw[hk]
    sym =>
     simp[aE,aF,aL,Za,Zb,Zf,Zh,Zl,Zm,Zu,Z0,Yu,V0,V6,V7,VY,UN,UP,UR,UT,UU,Tb,Tc,i1,rl]
     tactic =>
      unfold aHP
      rw[aY ls.length (fun k=>[.fs (rS ls),vD i,I (i:Nat),I (dX C i k:Nat),I (k:Nat)]) (fun _=>yC M i)]
      ·generalize 32+dX C i ls.length%95=v at *
       generalize dX C i ls.length%95=v95 at *
       generalize dX C i ls.length=w at *
       by_cases h0:i=0
       ·subst h0
        have s0:vD 0 = .nilsl:=rfl
        have g0:yC M 0=[]:=rfl
        have s1:vD 1 = .sl 0 0 1 1:=rfl
        have g1:yC M 1=[some (.blk true (.cells true (bE (M.take 1))))]:=rfl
        have ts0:bE (M.take 0)=[]:=rfl
        rw[ts0]at ts
        simp only[List.nil_append]at ts
        rw[←ts]at g1
        (sym=>(simp[aE,aF,aL,Za,Zb,Zd,Ze,Zf,Zh,Zl,Zm,Zo,Zu,Zy,Z0,ZA,ZK,ZZ,Yg,Yi,Yp,Yu,Y4,Y7,Y8,YG,YM,YN,YV,Xa,Xf,Xg,XZ,Wd,We,Wf,Wh,Wi,Wj,Wk,Wn,Wq,Wr,Wt,Wu,Wv,Wx,Wz,WB,WC,WE,WJ,WK,WO,V0,V4,V5,V6,V8,VC,VD,VE,VF,VG,VI,VJ,VK,VL,VN,VU,VX,VZ,Ua,Ub,Ud,Ue,Uf,Ug,Uh,Ui,Uq,Ur,Us,Ut,Uz,U0,U1,U2,U3,U4,U5,U6,U9,UI,UK,UL,UM,UN,UP,US,UU,UV,UX,UZ,Ta,Tb,Tc,Ts,Tv,i1,rl,nn,c1,c2,c3,s0,g0,s1,g1,a2];all_goals tactic=>exact rfl))
       ·have s0:vD i = .sl 0 0 1 i:=if_neg h0
        have g0:yC M i=[some (.blk true (.cells true (bE (M.take i))))]:=if_neg h0
        have s1:vD (i+1) = .sl 0 0 1 (i+1):=if_neg (by omega)
        have g1:yC M (i+1)=[some (.blk true (.cells true (bE (M.take (i+1)))))]:=if_neg (by omega)
        generalize bE (M.take (i+1))=T1 at *
        generalize bE (M.take i)=T0 at *
        (sym=>(simp[aE,aF,aL,Za,Zb,Zd,Ze,Zf,Zh,Zl,Zm,Zo,Zu,Zy,Z0,ZA,ZK,ZZ,Yg,Yi,Yp,Yu,YG,YM,YN,YV,Xa,Xf,Xg,XZ,Wd,We,Wf,Wg,Wh,Wi,Wj,Wk,Wn,Wq,Wr,Wt,Wu,Wv,Wx,Wz,WB,WC,WE,WJ,WK,WO,V0,V4,V5,V6,V8,VC,VD,VE,VF,VG,VI,VJ,VK,VL,VN,VU,VX,VZ,Ua,Ub,Ud,Ue,Uf,Ug,Uh,Ui,Uq,Ur,Us,Ut,Uz,U0,U1,U2,U3,U4,U5,U7,U8,U9,UI,UJ,UK,UL,UN,UP,US,UU,UV,UX,UZ,Ta,Tb,Tc,Tq,Ts,Tv,i1,rl,nn,c1,c2,c3,s0,g0,s1,g1,ts,gr,gr1,ln,a2,z1,z2];all_goals tactic=>exact rfl))
      ·have s0:vD i = .nilsl∨vD i = .sl 0 0 1 i:=by unfold vD;split<;>simp
       have z:=hc0 i
       by_cases h0:i=0
       ·subst h0
        have s0:vD 0 = .nilsl:=rfl
        have g0:yC M 0=[]:=rfl
        (sym=>(simp[aE,aF,aL,Za,Y7,YG,YM,YP,Xa,Xf,Xi,Wt,Wx,Wy,WB,WC,V0,V4,V5,VC,VD,VG,VI,Uc,Ud,Ue,Uf,Ug,Ta,rl,i1,s0,g0,z];all_goals tactic=>exact rfl))
       ·have s0:vD i = .sl 0 0 1 i:=if_neg h0
        have g0:yC M i=[some (.blk true (.cells true (bE (M.take i))))]:=if_neg h0
        (sym=>(simp[aE,aF,aL,Za,Y7,YG,YM,YN,Xa,Xf,Xg,Wd,Wn,Wq,Wr,Wt,Wu,Wv,Wx,Wz,WB,WC,WE,WJ,WK,WO,V0,V4,V5,VC,VD,VF,VG,VI,VL,VX,Ud,Ue,Uf,Ug,Ta,Ts,rl,i1,s0,g0,z,gr,bT];all_goals tactic=>exact rfl))
      ·intro k hk
       obtain⟨s,hs⟩:=eC (l:=ls) (i:=k) (by omega)
       have sx:=gI hs
       obtain⟨x,x1,x2,x3,x4,x5⟩:=hby hs hi
       have hz:=(hf s (List.mem_of_getElem? hs)).1
       have hcz:=hcs i k
       rw[x1,x4]at hcz
       have hle:=hcl hi (k:=k) (by omega)
       have j1:((k:Int)<(ls.length:Int))=True:=eq_true (by omega)
       have j2:((i:Int)<(s.size:Int))=True:=eq_true (by omega)
       have j3:(k<(rS ls).length)=True:=eq_true (by omega)
       have b2:=eS (n:=ls.length) (i:=k) (by omega) (by omega)
       have d1:IntKind.i64.wrap (x:Int)=(x:Int):=aG (by omega) (by omega)
       have d2:IntKind.i64.wrap ((x:Int)-32)=((x-32:Nat):Int):=by rw[aG (by omega) (by omega)];omega
       have d3:IntKind.i64.wrap ((dX C i k:Int)+((x-32:Nat):Int))=(dX C i (k+1):Int):=by rw[aG (by omega) (by omega)];omega
       generalize dX C i (k+1)=A1 at *
       generalize dX C i k=A0 at *
       by_cases h0:i=0
       ·subst h0
        have s0:vD 0 = .nilsl:=rfl
        have g0:yC M 0=[]:=rfl
        have n0:Int.toNat 0=0:=rfl
        have j0:((0:Int)<(s.size:Int))=True:=eq_true (by omega)
        (sym=>(simp[aE,aF,aL,Za,Zb,Zf,Zh,Zl,Zm,Zu,Z0,ZA,ZD,ZF,ZK,ZL,Yg,Yi,Ym,Yn,Yp,Yq,Yu,Yz,Y2,Y6,Y7,YF,YG,YM,YP,Xa,Xf,Xi,Wm,Wt,Wx,Wy,WB,WC,V0,V4,V5,V6,V7,VC,VD,VG,VI,VJ,VK,VU,VY,Uc,Ud,Ue,Uf,Ug,UC,UD,UF,UN,UP,UR,UT,UU,UX,Ta,Tb,Tc,rl,sx,j0,j1,j3,b2,d1,d2,d3,n0,x5,s0,g0];all_goals tactic=>exact rfl))
       ·have s0:vD i = .sl 0 0 1 i:=if_neg h0
        have g0:yC M i=[some (.blk true (.cells true (bE (M.take i))))]:=if_neg h0
        (sym=>(simp[aE,aF,aL,Za,Zb,Zf,Zh,Zl,Zm,Zu,Z0,ZA,ZD,ZF,ZK,ZL,Yg,Yi,Ym,Yn,Yp,Yq,Yu,Yz,Y2,YF,YG,YM,YN,Xa,Xf,Xg,Wd,Wm,Wn,Wq,Wr,Wt,Wu,Wv,Wx,Wz,WB,WC,WE,WJ,WK,WO,V0,V4,V5,V6,V7,VC,VD,VF,VG,VI,VJ,VK,VL,VU,VX,VY,Ud,Ue,Uf,Ug,UC,UD,UF,UN,UP,UR,UT,UU,UX,Ta,Tb,Tc,Ts,rl,sx,j1,j2,j3,b2,d1,d2,d3,x5,s0,g0,gr,bT];all_goals tactic=>exact rfl))
      ·(sym=>(simp[aE,aF,aL,Za,Zb,Zf,Zh,Zl,Zm,Zu,Z0,ZK,Yi,Yu,V0,V6,V8,V9,VZ,U9,UN,UP,US,UU,UV,Tb,nn,rl];all_goals tactic=>exact rfl))
   ·(sym=>(simp[aE,aF,aL,Za,Zb,Zf,Zh,Zl,Zm,Zu,Z0,Yu,V0,V6,V8,V9,VZ,UN,UP,US,UU,UV,Tb,Tc,T5,e0];all_goals tactic=>exact rfl))
def nY (z:List Nat) (C:List Nat) (j k:Nat):Nat:=dY (z.getD j 0)+(95*k-dX C j k)
theorem aHe (x n w:Nat) (h:w≤n*94):32+(dY x+(95*n-w))%95=pv 94 x (32+w%95):=by
 unfold pv
 rw[aGq (Nat.mod_lt _ (by decide))]
 have e1:=Nat.div_add_mod w 95
 have e2:=Nat.mod_lt w (show 0<95 by decide)
 generalize w%95=a at *
 generalize w/95=b at *
 generalize dY x=c
 have:c+94*a+95*n=(c+(95*n-w))+95*(a+b):=by omega
 have h1:(c+94*a+95*n)%95=(c+94*a)%95:=Nat.add_mul_mod_self_left _ _ _
 have h2:((c+(95*n-w))+95*(a+b))%95=(c+(95*n-w))%95:=Nat.add_mul_mod_self_left _ _ _
 omega
theorem w50 {ls:List ByteArray} {t:ByteArray} (hf:Flds ls) (hn:ls.length≤1000) (ht:t.size=40) (hp:pM (bN t)=true) :
 runW aH 50 [.fs (rS ls),.str t] []=some (.str (fP (bU 94 (bN t) (bZ (Cn ls ls.length) ls.length))),[]):=by
 rw[q50 (by simp)];unfold x50;dsimp only
 have rl:=jK ls
 have e0:((40:Int)<40)=False:=eq_false (by omega)
 have lc:=hZ (ls:=ls) (Nat.le_refl _)
 have bt:=jO t
 have lS0:=cY (C:=Cn ls ls.length) (n:=ls.length) (by omega) ls.length (Nat.le_refl _)
 have lS:(bU 94 (bN t) (bZ (Cn ls ls.length) ls.length)).length=40:=by rw[gJ (by omega)];omega
 have hcl:=fun {j} hj=>fun {k}=>aAp hf (j:=j) hj (k:=k)
 have tby:∀ j,j<40→∃ x:Nat,(bN t)[j]?=some x∧(bN t).getD j 0=x∧32≤x∧x≤126∧dY x=x-32∧((t.data.toList.getD j 0).toNat:Int)=(x:Int):=fun j hj=>by
  obtain⟨x,x1,x2,x3⟩:=aBE (s:=t) (i:=j) (by omega)
  obtain⟨y1,y2,y3⟩:=aCz (zX hp x1)
  exact⟨x,x1,by rw[List.getD_eq_getElem?_getD,x1];rfl,y2,y3,y1,x3⟩
 have bB:∀ j,j<40→(bU 94 (bN t) (bZ (Cn ls ls.length) ls.length))[j]?=some (32+nY (bN t) (Cn ls ls.length) j ls.length%95):=fun j hj=>by
  obtain⟨x,x0,x1,_,_,_,_⟩:=tby j hj
  have h2:=rA (C:=Cn ls ls.length) (n:=ls.length) (j:=j) (by omega) hj (k:=ls.length) (Nat.le_refl _)
  rw[uZ x0 h2,←aHe x ls.length _ (hcl hj (Nat.le_refl _))]
  unfold nY;rw[x1]
 have hby:=fun {k j s} h1 h2=>hf.byte (k:=k) (j:=j) (s:=s) h1 h2
 have hcs:∀ j k,dX (Cn ls ls.length) j (k+1)=dX (Cn ls ls.length) j k+dY ((dB (Cn ls ls.length) k).getD j 0):=fun _ _=>rfl
 have hc0:∀ j,dX (Cn ls ls.length) j 0=0:=fun _=>rfl
 generalize bU 94 (bN t) (bZ (Cn ls ls.length) ls.length)=M at *
 generalize Cn ls ls.length=C at *
 sym =>
  simp[aE,aF,aL,Zb,Zf,Zh,Zl,Zu,XM,XV,VB,VK,Un,Uo,UP,UT,UU,Tc,e0]
  tactic =>
   unfold aHN
   rw[aY 40 (fun i=>[.fs (rS ls),.str t,vD i,I (i:Nat)]) (fun i=>yC M i)]
   ·have s0:vD 40 = .sl 0 0 1 40:=rfl
    have g0:yC M 40=[some (.blk true (.cells true (bE (M.take 40))))]:=rfl
    have t0:M.take 40=M:=List.take_of_length_le (by omega)
    rw[t0]at g0
    have lu:=aM M
    rw[lS]at lu
    have bu:eV (bE M)=some (M.map UInt8.ofNat):=kN
    have tk:=eA lS
    have td:=fN lS
    have hE:(⟨⟨M.map UInt8.ofNat⟩⟩:ByteArray)=fP M:=rfl
    (sym=>(simp[aE,aF,aL,Za,Zb,Zf,Zh,Zl,Zm,Zu,Z0,Yu,YJ,Xc,Xn,XM,Wd,We,Wf,Wt,Wx,Wz,WB,WC,Ve,Vm,Vn,Vo,Vp,Vq,Vr,Vs,Vu,Vv,Vw,Vx,V0,V6,V8,VD,VG,VI,VL,VU,VZ,Ud,Ue,U3,U4,UN,UP,UQ,US,UU,UV,UZ,Tb,Tc,Ty,T5,TR,TS,TT,e0,s0,g0,lu,bu,tk,td,hE];all_goals tactic=>exact rfl))
   ·have s0:vD 0 = .nilsl:=rfl
    have g0:yC M 0=[]:=rfl
    (sym=>(simp[aE,aF,aL,Za,Y7,YG,YJ,YM,YP,Xa,Xc,Xf,Xi,Wl,Wt,Wx,Wy,WB,WC,Vz,V4,V5,VC,VD,VG,VI,Uc,Ud,Ue,Uf,Ug,Ta,s0,g0];all_goals tactic=>exact rfl))
   ·intro i hi
    have i1:((i:Int)<40)=True:=eq_true (by omega)
    have a2:=eS (n:=40) (i:=i) (by omega) (by omega)
    have ln:=aET lS (i:=i) (by omega)
    have gr:=bD (M.take i)
    have gr1:=bD (M.take (i+1))
    have hx:=bB i hi
    have ts:=aLm hx
    obtain⟨y,_,y1,y2,y3,y4,y5⟩:=tby i hi
    have hle:=hcl hi (k:=ls.length) (Nat.le_refl _)
    have hlo:nY (bN t) C i ls.length≤1000000:=by unfold nY;rw[y1];omega
    have r95:=Nat.mod_lt (nY (bN t) C i ls.length) (show 0<95 by decide)
    have c1:tmZ (nY (bN t) C i ls.length:Int) 95=((nY (bN t) C i ls.length%95:Nat):Int):=jH _ 95
    have c2:IntKind.i64.wrap (32+((nY (bN t) C i ls.length%95:Nat):Int))=((32+nY (bN t) C i ls.length%95:Nat):Int):=by rw[aG (by omega) (by omega)];omega
    have c3:IntKind.u8.wrap ((32+nY (bN t) C i ls.length%95:Nat):Int)=((32+nY (bN t) C i ls.length%95:Nat):Int):=by simp[IntKind.wrap,IntKind.bits,IntKind.signed];omega
    have z1:(i+1≤1099511627776)=True:=eq_true (by omega)
    have z2:((i+1)*1≤1099511627776)=True:=eq_true (by omega)
    have nn:((ls.length:Int)<(ls.length:Int))=False:=eq_false (by omega)
    have f1:IntKind.i64.wrap (y:Int)=(y:Int):=aG (by omega) (by omega)
    have f2:IntKind.i64.wrap ((y:Int)-32)=(nY (bN t) C i 0:Int):=by rw[aG (by omega) (by omega)];unfold nY;rw[y1,hc0];omega
    have j2:((i:Int)<(t.size:Int))=True:=eq_true (by omega)
    have n0:Int.toNat 0=0:=rfl
    have j0:((0:Int)<(t.size:Int))=True:=eq_true (by omega)
    have hls:∀ k,k<ls.length→∀ (x:Nat),dX C i (k+1)=dX C i k+(x-32)→32≤x→x≤126→nY (bN t) C i (k+1)=nY (bN t) C i k+(95-(x-32)):=fun k hk x h1 h2 h3=>by
     have:=hcl hi (k:=k) (by omega)
     unfold nY
     rw[h1];omega
    have hl1:∀ k,k≤ls.length→nY (bN t) C i k≤1000000:=fun k hk=>by unfold nY;rw[y1];omega
    have main:∀ (s0:AV) (h0:XH),vD i=s0→yC M i=h0→True:=fun _ _ _ _=>trivial
    by_cases h0:i=0
    ·subst h0
     have s0:vD 0 = .nilsl:=rfl
     have g0:yC M 0=[]:=rfl
     have s1:vD 1 = .sl 0 0 1 1:=rfl
     have g1:yC M 1=[some (.blk true (.cells true (bE (M.take 1))))]:=rfl
     have ts0:bE (M.take 0)=[]:=rfl
     rw[ts0]at ts
     simp only[List.nil_append]at ts
     rw[←ts]at g1
     sym =>
      simp[aE,aF,aL,Za,Zb,Zf,Zh,Zl,Zm,Zu,Z0,ZA,ZF,Yg,Yq,Yu,Y6,Y7,Y8,YF,V0,V6,V7,VU,VY,UN,UP,UR,UT,UU,Tb,Tc,i1,rl,s0,g0,j0,n0,y5,f1,f2]
      tactic =>
       unfold aEH
       rw[aY ls.length (fun k=>[.fs (rS ls),.str t,.nilsl,I 0,I (nY (bN t) C 0 k:Nat),I (k:Nat)]) (fun _=>[])]
       ·generalize 32+nY (bN t) C 0 ls.length%95=v at *
        generalize nY (bN t) C 0 ls.length%95=v95 at *
        generalize nY (bN t) C 0 ls.length=w at *
        (sym=>(simp[aE,aF,aL,Za,Zb,Zd,Ze,Zf,Zh,Zl,Zm,Zo,Zu,Zy,Z0,ZA,ZK,ZZ,Yg,Yi,Yp,Yu,Y4,YG,YJ,YM,YN,YV,Xa,Xc,Xf,Xg,XZ,Wd,We,Wf,Wh,Wi,Wj,Wk,Wn,Wq,Wr,Wt,Wu,Wv,Wx,Wz,WB,WC,WE,WJ,WK,WO,V0,V4,V5,V6,V8,VC,VD,VE,VF,VG,VI,VJ,VK,VL,VN,VU,VX,VZ,Ua,Ub,Ud,Ue,Uf,Ug,Uh,Ui,Uq,Ur,Us,Ut,Uz,U0,U1,U2,U3,U4,U5,U6,U9,UI,UK,UL,UM,UN,UP,US,UU,UV,UX,UZ,Ta,Tb,Tc,Ts,Tv,i1,rl,nn,c1,c2,c3,s0,g0,s1,g1,a2];all_goals tactic=>exact rfl))
       ·(sym=>(simp[aE,aF,aL,Za,Y7,YG,YJ,YM,YP,Xa,Xc,Xf,Xi,Wt,Wx,Wy,WB,WC,V0,V4,V5,VC,VD,VG,VI,Uc,Ud,Ue,Uf,Ug,Ta,rl];all_goals tactic=>exact rfl))
       ·intro k hk
        obtain⟨s,hs⟩:=eC (l:=ls) (i:=k) (by omega)
        have sx:=gI hs
        obtain⟨x,x1,x2,x3,x4,x5⟩:=hby hs hi
        have hz:=(hf s (List.mem_of_getElem? hs)).1
        have hcz:=hcs 0 k
        rw[x1,x4]at hcz
        have hlz:=hls k hk x hcz x2 x3
        have hl2:=hl1 (k+1) (by omega)
        have j1:((k:Int)<(ls.length:Int))=True:=eq_true (by omega)
        have j3:(k<(rS ls).length)=True:=eq_true (by omega)
        have b2:=eS (n:=ls.length) (i:=k) (by omega) (by omega)
        have d1:IntKind.i64.wrap (x:Int)=(x:Int):=aG (by omega) (by omega)
        have d2:IntKind.i64.wrap ((x:Int)-32)=((x-32:Nat):Int):=by rw[aG (by omega) (by omega)];omega
        have d3:IntKind.i64.wrap (95-((x-32:Nat):Int))=((95-(x-32):Nat):Int):=by rw[aG (by omega) (by omega)];omega
        have d4:IntKind.i64.wrap ((nY (bN t) C 0 k:Int)+((95-(x-32):Nat):Int))=(nY (bN t) C 0 (k+1):Int):=by rw[aG (by omega) (by omega)];omega
        generalize 95-(x-32)=X at *
        generalize nY (bN t) C 0 (k+1)=A1 at *
        generalize nY (bN t) C 0 k=A0 at *
        have k0:((0:Int)<(s.size:Int))=True:=eq_true (by omega)
        (sym=>(simp[aE,aF,aL,Za,Zb,Zf,Zh,Zl,Zm,Zu,Z0,ZA,ZD,ZF,ZK,ZL,Yg,Yi,Ym,Yn,Yp,Yq,Yu,Yz,Y2,Y6,YF,YG,YJ,YM,YP,Xa,Xc,Xf,Xi,Wm,Wt,Wx,Wy,WB,WC,V0,V4,V5,V6,V7,VC,VD,VG,VI,VJ,VK,VU,VY,Uc,Ud,Ue,Uf,Ug,UC,UD,UF,UN,UP,UR,UT,UU,UX,Ta,Tb,Tc,rl,sx,k0,j1,j3,b2,d1,d2,d3,d4,n0,x5];all_goals tactic=>exact rfl))
       ·(sym=>(simp[aE,aF,aL,Za,Zb,Zf,Zh,Zl,Zm,Zu,Z0,ZK,Yi,Yu,V0,V6,V8,V9,VZ,U9,UN,UP,US,UU,UV,Tb,nn,rl];all_goals tactic=>exact rfl))
    ·have s0:vD i = .sl 0 0 1 i:=if_neg h0
     have g0:yC M i=[some (.blk true (.cells true (bE (M.take i))))]:=if_neg h0
     have s1:vD (i+1) = .sl 0 0 1 (i+1):=if_neg (by omega)
     have g1:yC M (i+1)=[some (.blk true (.cells true (bE (M.take (i+1)))))]:=if_neg (by omega)
     generalize bE (M.take (i+1))=T1 at *
     have nmT:=bT (M.take i)
     generalize bE (M.take i)=T0 at *
     sym =>
      simp[aE,aF,aL,Za,Zb,Zf,Zh,Zl,Zm,Zu,Z0,ZA,ZF,Yg,Yq,Yu,Yz,Y2,YF,V0,V6,V7,VU,VY,UN,UP,UR,UT,UU,Tb,Tc,i1,rl,s0,g0,j2,y5,f1,f2]
      tactic =>
       unfold aEH
       rw[aY ls.length (fun k=>[.fs (rS ls),.str t,.sl 0 0 1 i,I (i:Nat),I (nY (bN t) C i k:Nat),I (k:Nat)]) (fun _=>[some (.blk true (.cells true T0))])]
       ·generalize 32+nY (bN t) C i ls.length%95=v at *
        generalize nY (bN t) C i ls.length%95=v95 at *
        generalize nY (bN t) C i ls.length=w at *
        (sym=>(simp[aE,aF,aL,Za,Zb,Zd,Ze,Zf,Zh,Zl,Zm,Zo,Zu,Zy,Z0,ZA,ZK,ZZ,Yg,Yi,Yp,Yu,YG,YJ,YM,YN,YV,Xa,Xc,Xf,Xg,XZ,Wd,We,Wf,Wg,Wh,Wi,Wj,Wk,Wn,Wq,Wr,Wt,Wu,Wv,Wx,Wz,WB,WC,WE,WJ,WK,WO,V0,V4,V5,V6,V8,VC,VD,VE,VF,VG,VI,VJ,VK,VL,VN,VU,VX,VZ,Ua,Ub,Ud,Ue,Uf,Ug,Uh,Ui,Uq,Ur,Us,Ut,Uz,U0,U1,U2,U3,U4,U5,U7,U8,U9,UI,UJ,UK,UL,UN,UP,US,UU,UV,UX,UZ,Ta,Tb,Tc,Tq,Ts,Tv,i1,rl,nn,c1,c2,c3,s0,g0,s1,g1,ts,gr,gr1,ln,a2,z1,z2];all_goals tactic=>exact rfl))
       ·(sym=>(simp[aE,aF,aL,Za,Y7,YG,YJ,YM,YN,Xa,Xc,Xf,Xg,Wd,Wn,Wq,Wr,Wt,Wu,Wv,Wx,Wz,WB,WC,WE,WJ,WK,WO,V0,V4,V5,VC,VD,VF,VG,VI,VL,VX,Ud,Ue,Uf,Ug,Ta,Ts,rl,gr];all_goals tactic=>exact rfl))
       ·intro k hk
        obtain⟨s,hs⟩:=eC (l:=ls) (i:=k) (by omega)
        have sx:=gI hs
        obtain⟨x,x1,x2,x3,x4,x5⟩:=hby hs hi
        have hz:=(hf s (List.mem_of_getElem? hs)).1
        have hcz:=hcs i k
        rw[x1,x4]at hcz
        have hlz:=hls k hk x hcz x2 x3
        have hl2:=hl1 (k+1) (by omega)
        have j1:((k:Int)<(ls.length:Int))=True:=eq_true (by omega)
        have j3:(k<(rS ls).length)=True:=eq_true (by omega)
        have b2:=eS (n:=ls.length) (i:=k) (by omega) (by omega)
        have d1:IntKind.i64.wrap (x:Int)=(x:Int):=aG (by omega) (by omega)
        have d2:IntKind.i64.wrap ((x:Int)-32)=((x-32:Nat):Int):=by rw[aG (by omega) (by omega)];omega
        have d3:IntKind.i64.wrap (95-((x-32:Nat):Int))=((95-(x-32):Nat):Int):=by rw[aG (by omega) (by omega)];omega
        have d4:IntKind.i64.wrap ((nY (bN t) C i k:Int)+((95-(x-32):Nat):Int))=(nY (bN t) C i (k+1):Int):=by rw[aG (by omega) (by omega)];omega
        generalize 95-(x-32)=X at *
        generalize nY (bN t) C i (k+1)=A1 at *
        generalize nY (bN t) C i k=A0 at *
        have k2:((i:Int)<(s.size:Int))=True:=eq_true (by omega)
        (sym=>(simp[aE,aF,aL,Za,Zb,Zf,Zh,Zl,Zm,Zu,Z0,ZA,ZD,ZF,ZK,ZL,Yg,Yi,Ym,Yn,Yp,Yq,Yu,Yz,Y2,YF,YG,YJ,YM,YN,Xa,Xc,Xf,Xg,Wd,Wm,Wn,Wq,Wr,Wt,Wu,Wv,Wx,Wz,WB,WC,WE,WJ,WK,WO,V0,V4,V5,V6,V7,VC,VD,VF,VG,VI,VJ,VK,VL,VU,VX,VY,Ud,Ue,Uf,Ug,UC,UD,UF,UN,UP,UR,UT,UU,UX,Ta,Tb,Tc,Ts,rl,sx,k2,j1,j3,b2,d1,d2,d3,d4,x5,gr];all_goals tactic=>exact rfl))
       ·(sym=>(simp[aE,aF,aL,Za,Zb,Zf,Zh,Zl,Zm,Zu,Z0,ZK,Yi,Yu,V0,V6,V8,V9,VZ,U9,UN,UP,US,UU,UV,Tb,nn,rl];all_goals tactic=>exact rfl))
   ·(sym=>(simp[aE,aF,aL,Za,Zb,Zf,Zh,Zl,Zm,Zu,Z0,Yu,V0,V6,V8,V9,VZ,UN,UP,US,UU,UV,Tb,Tc,T5,e0];all_goals tactic=>exact rfl))
theorem q41 {vs:List AV} {h:XH} (hl:vs.length≤41):runW aH 41 vs h=cR none x41.res x41.ownR h.length (execW aH 41 h.length none x41.body (aP (if x41.ownA then vs else fY vs)) h):=bG rfl hl h rfl
theorem q15 {vs:List AV} {h:XH} (hl:vs.length≤48):runW aH 15 vs h=cR none x15.res x15.ownR h.length (execW aH 15 h.length none x15.body (aP (if x15.ownA then vs else fY vs)) h):=bG rfl hl h rfl
def fS (ls:List ByteArray) (i:Nat):List ByteArray:=(ls.take i).map fun s=>fP (jL s)
theorem aCo {ls:List ByteArray} {i:Nat} (h:i≤ls.length):(fS ls i).length=i:=by simp[fS];omega
theorem aQu {ls:List ByteArray} {i:Nat} {s:ByteArray} (h:ls[i]?=some s):fS ls (i+1)=fS ls i++[fP (jL s)]:=by
 unfold fS
 rw[List.take_add_one,h];simp
theorem aNf {ls:List ByteArray} {i n:Nat} {s:ByteArray} (hn:i<n) (h:ls[i]?=some s):(fS ls n)[i]?=some (fP (jL s)):=by
 unfold fS
 rw[List.getElem?_map,List.getElem?_take_of_lt hn,h];rfl
theorem aNe {ls:List ByteArray} (hg:∀ s∈ls,pM (bN s)=true) (n:Nat):Flds (fS ls n):=by
 intro t ht
 unfold fS at ht
 obtain⟨s,hs,rfl⟩:=List.mem_map.1 ht
 exact⟨by rw[iO,iZ],by rw[rO (tK s)];exact aDf (hg s (List.mem_of_mem_take hs))⟩
theorem aJr (s:ByteArray):jL (fP (jL s))=jL s:=by
 conv=>lhs;unfold jL
 rw[rO (iN (aAs s))]
 exact tH (eK _)
theorem aNg (ls:List ByteArray):Cn (fS ls ls.length) ls.length=Cn ls ls.length:=by
 unfold Cn fS
 rw[List.take_length,List.take_of_length_le (by simp),List.map_map]
 congr 1
 exact List.map_congr_left fun s _=>aJr s
def fT (i:Nat):AV:=if i=0 then .nilsl else .sl 0 0 1 i
def fG (ls:List ByteArray) (i:Nat):XH:=if i=0 then [] else [some (.blk true (.cells true (eB (fS ls i))))]
theorem w41 {ls:List ByteArray} {row:Nat} (h0:1≤ls.length) (h1:ls.length≤1000) (hr:row≤10000) (hg:∀ s∈ls,s.size≤40∧pM (bN s)=true):runW aH 41 [.fs (rS ls),I (row:Int)] []=some (.str (pgB ls row),[]):=by
 rw[q41 (by simp)];unfold x41;dsimp only
 have rl:=jK ls
 have nn:((ls.length:Int)<(ls.length:Int))=False:=eq_false (by omega)
 sym =>
  simp[Zb,Zf,Zh,Zl,Zu,XK,XV,VB,VK,Un,Uo,UP,UT,UU,Tc,rl]
  tactic =>
   unfold aHT
   rw[aY ls.length (fun i=>[.fs (rS ls),I (row:Int),.str (Bn ls row i),fT i,I (i:Nat)]) (fun i=>fG ls i)]
   ·have hn0:¬ls.length=0:=by omega
    have s0:fT ls.length = .sl 0 0 1 ls.length:=if_neg hn0
    have g0:fG ls ls.length=[some (.blk true (.cells true (eB (fS ls ls.length))))]:=if_neg hn0
    have lf:=aCo (ls:=ls) (Nat.le_refl _)
    have lc:=cX (fS ls ls.length)
    rw[lf]at lc
    have ch:=zL (fS ls ls.length)
    rw[lf]at ch
    have gr:=dP (fS ls ls.length)
    have p1:(ls.length*1≤ls.length)=True:=eq_true (by omega)
    have fl:=aNe (fun s hs=>(hg s hs).2) ls.length
    have c1:=w49 fl (by omega)
    rw[lf,aNg]at c1
    have lS:=cY (C:=Cn ls ls.length) (n:=ls.length) (by rw[hZ (Nat.le_refl _)];exact Nat.le_refl _) ls.length (Nat.le_refl _)
    have pS:=aIX (C:=Cn ls ls.length) (n:=ls.length) (k:=ls.length) (by rw[hZ (Nat.le_refl _)];exact Nat.le_refl _) (Nat.le_refl _)
    have bS:=rO (aHh pS)
    have c2:=w79 (s:=fP (bZ (Cn ls ls.length) ls.length)) (row:=row+ls.length) (by rw[iO,lS]) (by rw[bS];exact pS) (by omega)
    rw[bS]at c2
    have r1:IntKind.i64.wrap ((row:Int)+(ls.length:Int))=((row+ls.length:Nat):Int):=by rw[aG (by omega) (by omega)];omega
    have a1:=gS (a:=Bn ls row ls.length) (b:=fP (iU (row+ls.length) (bZ (Cn ls ls.length) ls.length))) (by rw[qX,iO,uL lS];omega)
    have hE:Bn ls row ls.length++fP (iU (row+ls.length) (bZ (Cn ls ls.length) ls.length))=pgB ls row:=rfl
    rw[hE]at a1
    generalize fP (iU (row+ls.length) (bZ (Cn ls ls.length) ls.length))=R at *
    generalize fP (bZ (Cn ls ls.length) ls.length)=SM at *
    generalize pgB ls row=PG at *
    generalize Bn ls row ls.length=B0 at *
    generalize fS ls ls.length=F0 at *
    (sym=>(simp[Za,Zb,Zf,Zg,Zh,Zj,Zl,Zm,Zu,Z0,ZK,ZT,ZV,Ya,Yb,Yi,Yp,Yu,YG,YJ,YM,Xa,Xc,Xf,Xn,Xr,Xx,Xy,X0,XI,XM,XV,Wd,Wg,Wk,Wt,Ww,Wx,Wy,Wz,WB,WC,WF,WG,WQ,WR,WS,Vb,Vc,Vd,Ve,Vf,Vg,Vh,Vi,Vj,Vl,Vm,Vn,Vo,Vp,Vq,Vr,Vs,Vu,Vv,Vw,Vx,V0,V6,V8,VC,VD,VF,VG,VI,VJ,VK,VU,VZ,Uc,Ud,Ue,Uf,Ug,U9,UN,UO,UP,UQ,US,UU,UV,UZ,Tb,Tc,Tq,Tr,Tt,Ty,Tz,T2,T7,T8,T9,TA,TB,TC,rl,nn,s0,g0,lc,ch,gr,p1,c1,c2,r1,a1,cL,cJ,cK];all_goals tactic=>exact rfl))
   ·have s0:fT 0 = .nilsl:=rfl
    have g0:fG ls 0=[]:=rfl
    have b0:Bn ls row 0=⟨#[]⟩:=rfl
    (sym=>(simp[Za,Y7,YG,YJ,YM,YP,Xa,Xc,Xf,Xi,Wl,Wt,Wx,Wy,WB,WC,Vz,V4,V5,VC,VD,VG,VI,Uc,Ud,Ue,Uf,Ug,Ta,s0,g0,b0];all_goals tactic=>exact rfl))
   ·intro i hi
    obtain⟨s,hs⟩:=eC hi
    have sx:=gI hs
    obtain⟨YA,hp⟩:=hg s (List.mem_of_getElem? hs)
    have i1:((i:Int)<(ls.length:Int))=True:=eq_true (by omega)
    have i2:(i<(rS ls).length)=True:=eq_true (by omega)
    have a2:=eS hi (by omega)
    have c1:=w78 YA
    have hF:fP (bO (bN s))=fP (jL s):=rfl
    rw[hF]at c1
    have bF:=rO (tK s)
    have c2:=w79 (s:=fP (jL s)) (row:=row+i) (by rw[iO,iZ]) (by rw[bF];exact aDf hp) (by omega)
    rw[bF]at c2
    have r1:IntKind.i64.wrap ((row:Int)+(i:Int))=((row+i:Nat):Int):=by rw[aG (by omega) (by omega)];omega
    have hB:=aJW (ls:=ls) (row:=row) hs
    have a1:=gS (a:=Bn ls row i) (b:=fP (iU (row+i) (jL s))) (by rw[qX,iO,uL (iZ s)];omega)
    have hE:Bn ls row i++fP (iU (row+i) (jL s))=Bn ls row (i+1):=by rw[hB];rfl
    rw[hE]at a1
    have fs1:=aQu hs
    have lf:=aCo (ls:=ls) (i:=i) (by omega)
    have lf1:=aCo (ls:=ls) (i:=i+1) (by omega)
    have lc:=cX (fS ls i)
    rw[lf]at lc
    have lc1:=cX (fS ls (i+1))
    rw[lf1]at lc1
    have so:eB (fS ls i)++[.str (fP (jL s))]=eB (fS ls (i+1)):=by rw[fs1];simp[eB]
    have gr:=dP (fS ls i)
    have gr1:=dP (fS ls (i+1))
    have at1:(eB (fS ls (i+1)))[i]?=some (.str (fP (jL s))):=by
     unfold eB
     rw[List.getElem?_map,aNf (by omega) hs];rfl
    have z3:(i+1≤1099511627776)=True:=eq_true (by omega)
    have z4:((i+1)*16≤1099511627776)=True:=eq_true (by omega)
    have z5:(i<i+1)=True:=eq_true (by omega)
    have z6:((i:Int)<((i+1:Nat):Int))=True:=eq_true (by omega)
    have s1:fT (i+1) = .sl 0 0 1 (i+1):=if_neg (by omega)
    have g1:fG ls (i+1)=[some (.blk true (.cells true (eB (fS ls (i+1)))))]:=if_neg (by omega)
    by_cases h0:i=0
    ·subst h0
     have s0:fT 0 = .nilsl:=rfl
     have g0:fG ls 0=[]:=rfl
     have F0:fS ls 0=[]:=rfl
     rw[F0]at so
     have h1':eB []=[]:=rfl
     rw[h1',List.nil_append]at so
     rw[←so]at g1
     have n0:Int.toNat 0=0:=rfl
     have i00:((0:Int)<(ls.length:Int))=True:=eq_true (by omega)
     generalize fP (iU (row+0) (jL s))=R at *
     generalize fP (jL s)=FL at *
     generalize Bn ls row (0+1)=B1 at *
     generalize Bn ls row 0=B0 at *
     have r0:IntKind.i64.wrap ((row:Int)+0)=((row+0:Nat):Int):=by have:=r1;simpa using this
     have i20:(0<(rS ls).length)=True:=i2
     have sx0:(rS ls)[0]?=some [.str s]:=sx
     (sym=>(simp[Za,Zb,Zd,Ze,Zf,Zh,Zl,Zm,Zo,Zu,Zy,Z0,ZD,ZK,ZL,ZT,ZV,ZZ,Ya,Yb,Yi,Yl,Ym,Yn,Yp,Yu,Y4,Y6,Y7,Y8,YG,YJ,YM,YN,YX,Xa,Xc,Xf,Xg,Wa,Wd,We,Wf,Wh,Wi,Wj,Wk,Wm,Wn,Wq,Wr,Wt,Wu,Wv,Ww,Wx,Wy,Wz,WB,WC,WE,WF,WG,WJ,WK,WO,WQ,WR,WS,V0,V4,V5,V6,V7,VC,VD,VE,VF,VG,VI,VJ,VK,VL,VN,VU,VX,VY,Ua,Ub,Uc,Ud,Ue,Uf,Ug,Uh,Ui,Uq,Ur,Us,Ut,Uz,U0,U1,U2,U3,U4,U5,U6,UA,UB,UC,UD,UF,UI,UK,UL,UM,UN,UO,UP,UR,UT,UU,UX,Ta,Tb,Tc,Ts,Tv,rl,i00,i20,sx0,c1,c2,r0,a1,s0,g0,s1,g1,n0];all_goals tactic=>exact rfl))
    ·have s0:fT i = .sl 0 0 1 i:=if_neg h0
     have g0:fG ls i=[some (.blk true (.cells true (eB (fS ls i))))]:=if_neg h0
     generalize fP (iU (row+i) (jL s))=R at *
     generalize fP (jL s)=FL at *
     generalize Bn ls row (i+1)=B1 at *
     generalize Bn ls row i=B0 at *
     generalize hT1:fS ls (i+1)=T1 at *
     generalize fS ls i=T0 at *
     (sym=>(simp[Za,Zb,Zd,Ze,Zf,Zh,Zl,Zm,Zo,Zu,Zy,Z0,ZD,ZK,ZL,ZT,ZV,ZZ,Ya,Yb,Yi,Yl,Ym,Yn,Yp,Yu,Yz,Y2,YG,YJ,YM,YN,YX,Xa,Xc,Xf,Xg,Wa,Wd,We,Wf,Wg,Wh,Wi,Wj,Wk,Wm,Wn,Wq,Wr,Wt,Wu,Wv,Ww,Wx,Wy,Wz,WB,WC,WE,WF,WG,WJ,WK,WO,WQ,WR,WS,V0,V4,V5,V6,V7,VC,VD,VE,VF,VG,VI,VJ,VK,VL,VN,VU,VX,VY,Ua,Ub,Uc,Ud,Ue,Uf,Ug,Uh,Ui,Uq,Ur,Us,Ut,Uz,U0,U1,U2,U3,U4,U5,U7,U8,UA,UB,UC,UD,UF,UI,UJ,UK,UL,UN,UO,UP,UR,UT,UU,UX,Ta,Tb,Tc,Tq,Tr,Ts,Tv,rl,i1,i2,a2,sx,c1,c2,r1,a1,s0,g0,s1,g1,lc,lc1,so,gr,gr1,at1,z3,z4,z5,z6,cL,cJ,cK];all_goals tactic=>exact rfl))
   ·(sym=>(simp[Za,Zb,Zf,Zh,Zl,Zm,Zu,Z0,ZK,Yi,Yu,V0,V6,V8,V9,VZ,U9,UN,UP,US,UU,UV,Tb,rl,nn];all_goals tactic=>exact rfl))
theorem aAk {s:ByteArray} (h:s.size≠0):∃ x:Nat,((s.data.toList.getD (s.size-1) 0).toNat:Int)=(x:Int)∧Lib.hasSuffix s.data.toList [32]=decide (x=32):=by
 have hl:s.size-1<s.data.toList.length:=by rw[Array.length_toList];show _<s.size;omega
 have h0:s.data.toList[s.size-1]?=some (s.data.toList[s.size-1]'hl):=List.getElem?_eq_getElem hl
 refine⟨(s.data.toList[s.size-1]'hl).toNat,by rw[List.getD_eq_getElem?_getD,h0];rfl,?_⟩
 rw[←Lib.hasSuffix_of_drop]
 have hz:s.data.toList.length=s.size:=by rw[Array.length_toList];rfl
 have hd:s.data.toList.drop (s.data.toList.length-1)=[s.data.toList[s.size-1]'hl]:=by
  rw[hz,List.drop_eq_getElem_cons hl,List.drop_eq_nil_of_le (by omega)]
 show (decide (1≤s.data.toList.length)&&(s.data.toList.drop (s.data.toList.length-1)==[32]))=_
 rw[hd,decide_eq_true (show 1≤s.data.toList.length by omega),Bool.true_and]
 generalize s.data.toList[s.size-1]'hl=b
 show ((b==32)&&([]==([]:List UInt8)))=_
 by_cases hb:b=32
 ·subst hb;rfl
 ·rw[decide_eq_false (show ¬b.toNat=32 from fun e=>hb (UInt8.toNat_inj.1 e)),beq_eq_false_iff_ne.2 hb];rfl
theorem w15 {ls:List ByteArray} {row:Int} (hn:ls.length≤1000) (hz':∀ s∈ls,s.size≤1000000):runW aH 15 [.fs (rS ls),I row] []=some (.tup [.str (if pgE ls row=0 then pgB ls row.toNat else fM),I (pgE ls row)],[]):=by
 rw[q15 (by simp)];unfold x15;dsimp only
 have rl:=jK ls
 have c1:=w39 row 0 1000
 have hE:fM=⟨#[]⟩:=rfl
 unfold pgE
 cases hb:decide (0≤row)&&decide (row≤1000)with
 | false =>
   rw[hb]at c1
   (sym=>(simp[Za,Zb,Zf,Zg,Zh,Zj,Zl,Zm,Zu,Z8,ZT,ZV,Ya,Yb,Yf,YG,YJ,YL,Xa,Xb,Xc,Xe,Xl,Xn,Xp,XK,XM,XO,XV,Wk,Wl,Wt,Ww,Wx,Wy,WB,WC,WF,WG,WQ,WR,WS,Ve,Vg,Vh,Vi,Vm,Vn,Vo,Vp,Vq,Vr,Vt,Vu,Vv,Vw,Vx,Vz,V6,V7,VB,VC,VD,VF,VG,VI,VK,VR,Uc,Ud,Ue,Uf,Ug,Uj,Uk,Un,Uo,UP,UQ,UU,UW,Tb,Tc,Ty,T7,T8,T9,TA,TB,TC,c1,hE];all_goals tactic=>exact rfl))
 | true =>
   rw[hb]at c1
   rcases tE (ls.length=0)with h0|h0
   ·have h0':=of_eq_true h0
    have z0:((ls.length:Int)=0)=True:=eq_true (by omega)
    (sym=>(simp[Za,Zb,Zf,Zg,Zh,Zj,Zl,Zm,Zu,Z0,Z8,ZK,ZT,ZV,Ya,Yb,Yf,Yi,Ys,YG,YJ,YL,Xa,Xb,Xc,Xe,Xl,Xn,Xp,XK,XM,XO,XV,Wk,Wl,Wt,Ww,Wx,Wy,WB,WC,WF,WG,WQ,WR,WS,Ve,Vg,Vh,Vi,Vm,Vn,Vo,Vp,Vq,Vr,Vt,Vu,Vv,Vw,Vx,Vz,V6,V7,V8,VB,VC,VD,VF,VG,VI,VK,VQ,VY,Uc,Ud,Ue,Uf,Ug,Uj,Uk,Un,Uo,UN,UP,UQ,UR,UU,UW,Tb,Tc,Ty,T7,T8,T9,TA,TB,TC,c1,rl,h0,z0,hE];all_goals tactic=>exact rfl))
   ·have h0':=of_eq_false h0
    have z0:((ls.length:Int)=0)=False:=eq_false (by omega)
    rcases tE (5<ls.length)with h5|h5
    ·have h5':=of_eq_true h5
     have z5:((5:Int)<(ls.length:Int))=True:=eq_true (by omega)
     (sym=>(simp[Za,Zb,Zf,Zg,Zh,Zj,Zl,Zm,Zu,Z0,Z8,ZK,ZT,ZV,Ya,Yb,Yf,Yi,Ys,Yw,YG,YJ,YL,Xa,Xb,Xc,Xe,Xl,Xn,Xp,XK,XM,XO,XV,Wk,Wl,Wt,Ww,Wx,Wy,WB,WC,WF,WG,WQ,WR,WS,Ve,Vg,Vh,Vi,Vm,Vn,Vo,Vp,Vq,Vr,Vt,Vu,Vv,Vw,Vx,Vz,V6,V7,V8,VB,VC,VD,VF,VG,VI,VK,VQ,VY,VZ,Uc,Ud,Ue,Uf,Ug,Uj,Uk,Un,Uo,UN,UP,UQ,UR,UU,UW,Tb,Tc,Ty,T7,T8,T9,TA,TB,TC,c1,rl,h0,z0,h5,z5,hE];all_goals tactic=>exact rfl))
    ·have h5':=of_eq_false h5
     have z5:((5:Int)<(ls.length:Int))=False:=eq_false (by omega)
     unfold lsE
     obtain⟨m,m1,m2,m3⟩:=rJ (fun i=>lnE (ls.getD i fM)) ls.length
     have e0:((ls.length:Int)<(ls.length:Int))=False:=eq_false (by omega)
     simp only[Bool.and_eq_true,decide_eq_true_eq]at hb
     obtain⟨R,hR⟩:∃ R:Nat,row=(R:Int):=⟨row.toNat,by omega⟩
     have hR1:row.toNat=R:=by omega
     rw[hR1]
     subst hR
     have w:(∀ s∈ls,lnE s=0)→_:=fun hg=>w41 (ls:=ls) (row:=R) (by omega) (by omega) (by omega) fun s hs=>⟨(aFQ (hg s hs)).1,aDk (hg s hs)⟩
     generalize pgB ls R=P at *
     sym =>
      simp[Za,Zb,Zf,Zg,Zh,Zj,Zl,Zm,Zu,Z0,Z8,ZK,ZT,ZV,Ya,Yb,Yf,Yi,Ys,Yw,YG,Xa,Xb,Xl,XK,XV,Wk,Wl,Wt,Ww,Wy,WF,WG,WQ,WR,WS,Ve,Vg,Vh,Vi,Vz,V6,V8,VB,VC,VD,VF,VG,VK,VQ,VZ,Uc,Ud,Ue,Uf,Ug,Un,Uo,UN,UP,UR,UT,UU,Tb,Tc,Ty,T7,T8,T9,TA,TB,TC,c1,rl,h0,z0,h5,z5]
      tactic =>
       unfold aHX
       rw[aY m (fun i=>[.fs (rS ls),I (R:Int),I (i:Nat)]) (fun _=>[])]
       ·rcases m3 with ⟨rfl,hf⟩|⟨hm,hf,hF⟩
        ·rw[hf]
         have w':=w fun s hs=>by
          obtain⟨i,hi⟩:=List.mem_iff_getElem?.1 hs
          have:=m2 i (List.getElem?_eq_some_iff.1 hi).1
          rw[List.getD_eq_getElem?_getD,hi]at this
          exact this
         (sym=>(simp[Za,Zb,Zf,Zg,Zh,Zj,Zl,Zm,Zu,Z0,ZK,ZT,ZV,Ya,Yb,Yi,Yu,YG,YJ,YL,YM,Xa,Xc,Xe,Xf,Xl,Xn,Xp,Xq,XK,XM,XO,XV,Wk,Wt,Ww,Wx,Wy,WB,WC,WF,WG,WQ,WR,WS,Ve,Vg,Vh,Vi,Vm,Vn,Vo,Vp,Vq,Vr,Vt,Vu,Vv,Vw,Vx,V0,V6,V8,VC,VD,VF,VG,VI,VK,VZ,Uc,Ud,Ue,Uf,Ug,Uj,Uk,Un,Uo,U9,UN,UP,UQ,US,UU,UV,UZ,Tb,Tc,Ty,T7,T8,T9,TA,TB,TC,e0,rl,w'];all_goals tactic=>exact rfl))
        ·rw[hF]
         obtain⟨s,hs⟩:=eC hm
         have hx:=gI hs
         have g1:ls.getD m fM=s:=by rw[List.getD_eq_getElem?_getD,hs];rfl
         rw[g1]at hf ⊢
         have i1:((m:Int)<(ls.length:Int))=True:=eq_true (by omega)
         have i2:(m<(rS ls).length)=True:=eq_true (by omega)
         rcases tE (40<s.size)with k1|k1
         ·have k2:((40:Int)<(s.size:Int))=True:=eq_true (by have:=of_eq_true k1;omega)
          rw[aBf (of_eq_true k1)]
          (sym=>(simp[Za,Zb,Zf,Zh,Zl,Zm,Zu,Z0,ZD,ZK,ZL,Yi,Yk,Ym,Yn,Yu,Yw,Yz,Y2,YG,YJ,YL,Xa,Xc,Xe,Xl,Xn,Xp,XK,XM,XO,Wm,Wt,Wx,Wy,WB,WC,Ve,Vm,Vn,Vo,Vp,Vq,Vr,Vt,Vu,Vv,Vw,Vx,V0,V6,V7,VD,VG,VI,VJ,VK,VU,VY,Uc,Ud,Ue,Uf,Ug,Uj,Uk,Un,Uo,UC,UD,UF,UN,UP,UQ,UR,UT,UU,UW,UY,Tb,Tc,Ty,rl,i1,i2,hx,k2,hE];all_goals tactic=>exact rfl))
         ·have k2:((40:Int)<(s.size:Int))=False:=eq_false (by have:=of_eq_false k1;omega)
          have hL:lnE s=13:=by
           unfold lnE at hf ⊢
           rw[if_neg (of_eq_false k1)]at hf ⊢
           split
           ·rfl
           ·rename_i hc;rw[if_neg hc]at hf;exact absurd rfl hf
          rw[hL]
          unfold lnE at hf
          rw[if_neg (of_eq_false k1)]at hf
          by_cases hz:s.size=0
          ·have eq1:=eI s ⟨#[]⟩
           rw[lM s,decide_eq_true hz]at eq1
           (sym=>(simp[Za,Zb,Zf,Zh,Zl,Zm,Zp,Zt,Zu,Zw,Z0,ZD,ZK,ZL,Yc,Yi,Yk,Ym,Yn,Yu,Yw,Yz,Y2,YG,YJ,YL,Xa,Xc,Xe,Xl,Xn,Xp,XK,XM,XO,Wm,Wt,Wx,Wy,WB,WC,Ve,Vm,Vn,Vo,Vp,Vq,Vr,Vt,Vu,Vv,Vw,Vx,V0,V6,V7,V8,VD,VG,VI,VJ,VK,VU,VY,VZ,Uc,Ud,Ue,Uf,Ug,Uj,Uk,Un,Uo,UC,UD,UF,UN,UO,UP,UQ,UR,UT,UU,UW,UY,Tb,Tc,Ty,rl,i1,i2,hx,k2,hE,eq1];all_goals tactic=>exact rfl))
          ·have eq1:=eI s ⟨#[]⟩
           rw[lM s,decide_eq_false hz]at eq1
           have c2:=w40 (hz' s (List.mem_of_getElem? hs))
           have hu:iK s.data.toList = !pM (bN s):=nS _
           cases hp:pM (bN s)with
           | false =>
             rw[hp]at c2
             (sym=>(simp[Za,Zb,Zf,Zh,Zl,Zm,Zp,Zr,Zt,Zu,Zw,Z0,Z8,ZD,ZK,ZL,ZT,ZV,Ya,Yb,Yc,Yd,Yf,Yi,Yk,Ym,Yn,Yu,Yw,Yz,Y2,YG,YJ,YL,Xa,Xb,Xc,Xe,Xl,Xn,Xp,XK,XM,XO,Wk,Wm,Wt,Ww,Wx,Wy,WB,WC,WF,WG,WQ,WR,WS,Ve,Vm,Vn,Vo,Vp,Vq,Vr,Vt,Vu,Vv,Vw,Vx,V0,V6,V7,V8,VC,VD,VF,VG,VI,VJ,VK,VR,VU,VY,VZ,Uc,Ud,Ue,Uf,Ug,Uj,Uk,Un,Uo,UC,UD,UF,UN,UO,UP,UQ,UR,UT,UU,UW,UY,Tb,Tc,Ty,rl,i1,i2,hx,k2,hE,eq1,c2];all_goals tactic=>exact rfl))
           | true =>
             rw[hp]at c2 hu
             obtain⟨x,y1,y2⟩:=aAk hz
             rw[hu,y2,decide_eq_false hz]at hf
             have hsz:=hz' s (List.mem_of_getElem? hs)
             have l1:IntKind.i64.wrap ((s.size:Int)-1)=((s.size-1:Nat):Int):=by rw[aG (by omega) (by omega)];omega
             have l2:((0:Int)≤((s.size-1:Nat):Int))=True:=eq_true (by omega)
             have l3:(((s.size-1:Nat):Int)<(s.size:Int))=True:=eq_true (by omega)
             have y3:((x:Int)=32)=True:=by
              by_cases h:x=32
              ·exact eq_true (by omega)
              ·rw[decide_eq_false h]at hf;exact absurd rfl hf
             generalize s.size-1=a at *
             (sym=>(simp[Za,Zb,Zf,Zh,Zl,Zm,Zp,Zr,Zu,Zw,Z0,Z8,ZD,ZF,ZK,ZL,ZT,ZV,Ya,Yb,Yd,Yf,Yi,Yk,Ym,Yn,Yq,Ys,Yu,Yw,Yz,Y2,YF,YG,YJ,YL,Xa,Xb,Xc,Xe,Xl,Xn,Xp,XK,XM,XO,Wk,Wm,Wt,Ww,Wx,Wy,WB,WC,WF,WG,WQ,WR,WS,Ve,Vm,Vn,Vo,Vp,Vq,Vr,Vt,Vu,Vv,Vw,Vx,V0,V6,V7,V8,VC,VD,VF,VG,VI,VJ,VK,VQ,VU,VY,VZ,Uc,Ud,Ue,Uf,Ug,Uj,Uk,Un,Uo,UC,UD,UF,UN,UO,UP,UQ,UR,UT,UU,UW,UY,Tb,Tc,Ty,rl,i1,i2,hx,k2,hE,eq1,c2,l1,l2,l3,y1,y3];all_goals tactic=>exact rfl))
       ·(sym=>(simp[Za,Y7,YG,YM,Xa,Xf,XK,Wl,Wt,Wx,Wy,WB,WC,Vz,V4,V5,VC,VD,VG,VI,Uc,Ud,Ue,Uf,Ug,Ta,T8,T9,rl];all_goals tactic=>exact rfl))
       ·intro i hi
        obtain⟨s,hs⟩:=eC (l:=ls) (i:=i) (by omega)
        have hx:=gI hs
        have g1:ls.getD i fM=s:=by rw[List.getD_eq_getElem?_getD,hs];rfl
        have hf:=m2 i hi
        rw[g1]at hf
        have i1:((i:Int)<(ls.length:Int))=True:=eq_true (by omega)
        have a2:=eS (n:=ls.length) (i:=i) (by omega) (by omega)
        have i2:(i<(rS ls).length)=True:=eq_true (by omega)
        obtain⟨k1,k3,_,k5⟩:=aFQ hf
        have k2:((40:Int)<(s.size:Int))=False:=eq_false (by omega)
        have eq1:=eI s ⟨#[]⟩
        rw[lM s,decide_eq_false k3]at eq1
        have hsz:=hz' s (List.mem_of_getElem? hs)
        have c2:=w40 hsz
        rw[aDk hf]at c2
        obtain⟨x,y1,y2⟩:=aAk k3
        rw[k5]at y2
        have y3:((x:Int)=32)=False:=eq_false fun e=>by
         have:x=32:=by omega
         rw[decide_eq_true this]at y2;cases y2
        have l1:IntKind.i64.wrap ((s.size:Int)-1)=((s.size-1:Nat):Int):=by rw[aG (by omega) (by omega)];omega
        have l2:((0:Int)≤((s.size-1:Nat):Int))=True:=eq_true (by omega)
        have l3:(((s.size-1:Nat):Int)<(s.size:Int))=True:=eq_true (by omega)
        generalize s.size-1=a at *
        (sym=>(simp[Za,Zb,Zf,Zh,Zl,Zm,Zp,Zr,Zu,Zw,Z0,Z8,ZD,ZF,ZK,ZL,ZT,ZV,Ya,Yb,Yd,Yf,Yi,Yk,Ym,Yn,Yp,Yq,Ys,Yu,Yw,Yz,Y2,YF,YG,YJ,YM,Xa,Xb,Xc,Xf,Wk,Wm,Wt,Ww,Wx,Wy,WB,WC,WF,WG,WQ,WR,WS,V0,V4,V5,V6,V7,V8,VC,VD,VF,VG,VI,VJ,VK,VQ,VU,VY,VZ,Uc,Ud,Ue,Uf,Ug,UC,UD,UF,UN,UO,UP,UR,UT,UU,UX,Ta,Tb,Tc,rl,i1,i2,a2,hx,k2,eq1,c2,l1,l2,l3,y1,y3];all_goals tactic=>exact rfl))
       ·rcases m3 with ⟨rfl,hf⟩|⟨hm,hf,hF⟩
        ·(sym=>(simp[Za,Zb,Zf,Zh,Zl,Zm,Zu,Z0,ZK,Yi,Yu,V0,V6,V8,V9,VZ,U9,UN,UP,US,UU,UV,Tb,e0,rl];all_goals tactic=>exact rfl))
        ·obtain⟨s,hs⟩:=eC hm
         have hx:=gI hs
         have g1:ls.getD m fM=s:=by rw[List.getD_eq_getElem?_getD,hs];rfl
         rw[g1]at hf
         have i1:((m:Int)<(ls.length:Int))=True:=eq_true (by omega)
         have i2:(m<(rS ls).length)=True:=eq_true (by omega)
         rcases tE (40<s.size)with k1|k1
         ·have k2:((40:Int)<(s.size:Int))=True:=eq_true (by have:=of_eq_true k1;omega)
          (sym=>(simp[Za,Zb,Zf,Zh,Zl,Zm,Zu,Z0,ZD,ZK,ZL,Yi,Yk,Ym,Yn,Yu,Yw,Yz,Y2,Wm,V0,V6,V7,VA,VJ,VK,VU,VY,UC,UD,UF,UN,UP,UQ,UR,UT,UU,UW,UY,Tb,Tc,rl,i1,i2,hx,k2,hE];all_goals tactic=>exact rfl))
         ·have k2:((40:Int)<(s.size:Int))=False:=eq_false (by have:=of_eq_false k1;omega)
          unfold lnE at hf
          rw[if_neg (of_eq_false k1)]at hf
          by_cases hz:s.size=0
          ·have eq1:=eI s ⟨#[]⟩
           rw[lM s,decide_eq_true hz]at eq1
           (sym=>(simp[Za,Zb,Zf,Zh,Zl,Zm,Zp,Zt,Zu,Zw,Z0,ZD,ZK,ZL,Yc,Yi,Yk,Ym,Yn,Yu,Yw,Yz,Y2,Wm,V0,V6,V7,V8,VA,VJ,VK,VU,VY,VZ,UC,UD,UF,UN,UO,UP,UQ,UR,UT,UU,UW,UY,Tb,Tc,rl,i1,i2,hx,k2,hE,eq1];all_goals tactic=>exact rfl))
          ·have eq1:=eI s ⟨#[]⟩
           rw[lM s,decide_eq_false hz]at eq1
           have c2:=w40 (hz' s (List.mem_of_getElem? hs))
           have hu:iK s.data.toList = !pM (bN s):=nS _
           cases hp:pM (bN s)with
           | false =>
             rw[hp]at c2
             (sym=>(simp[Za,Zb,Zf,Zh,Zl,Zm,Zp,Zr,Zt,Zu,Zw,Z0,Z8,ZD,ZK,ZL,ZT,ZV,Ya,Yb,Yc,Yd,Yf,Yi,Yk,Ym,Yn,Yu,Yw,Yz,Y2,YJ,Xb,Xc,Wk,Wm,Wt,Ww,Wy,WF,WG,WQ,WR,WS,V0,V6,V7,V8,VA,VC,VD,VF,VG,VJ,VK,VR,VU,VY,VZ,Uc,Ud,Ue,Uf,Ug,UC,UD,UF,UN,UO,UP,UQ,UR,UT,UU,UW,UY,Tb,Tc,rl,i1,i2,hx,k2,hE,eq1,c2];all_goals tactic=>exact rfl))
           | true =>
             rw[hp]at c2 hu
             obtain⟨x,y1,y2⟩:=aAk hz
             rw[hu,y2,decide_eq_false hz]at hf
             have hsz:=hz' s (List.mem_of_getElem? hs)
             have l1:IntKind.i64.wrap ((s.size:Int)-1)=((s.size-1:Nat):Int):=by rw[aG (by omega) (by omega)];omega
             have l2:((0:Int)≤((s.size-1:Nat):Int))=True:=eq_true (by omega)
             have l3:(((s.size-1:Nat):Int)<(s.size:Int))=True:=eq_true (by omega)
             have y3:((x:Int)=32)=True:=by
              by_cases h:x=32
              ·exact eq_true (by omega)
              ·rw[decide_eq_false h]at hf;exact absurd rfl hf
             generalize s.size-1=a at *
             (sym=>(simp[Za,Zb,Zf,Zh,Zl,Zm,Zp,Zr,Zu,Zw,Z0,Z8,ZD,ZF,ZK,ZL,ZT,ZV,Ya,Yb,Yd,Yf,Yi,Yk,Ym,Yn,Yq,Ys,Yu,Yw,Yz,Y2,YF,YJ,Xb,Xc,Wk,Wm,Wt,Ww,Wy,WF,WG,WQ,WR,WS,V0,V6,V7,V8,VA,VC,VD,VF,VG,VJ,VK,VQ,VU,VY,VZ,Uc,Ud,Ue,Uf,Ug,UC,UD,UF,UN,UO,UP,UQ,UR,UT,UU,UW,UY,Tb,Tc,rl,i1,i2,hx,k2,hE,eq1,c2,l1,l2,l3,y1,y3];all_goals tactic=>exact rfl))
end Go.Proofs.YtmapgnepfgnphaaGreatDoor
namespace Go.Proofs.YtmapgnepfgnphaaGreatDoor
open Go Go.DL
def aS (s:ByteArray) (i:Nat):List ByteArray:=(List.range i).map fun k=>dT (dE s k)
def oLc (s:ByteArray) (row p k:Nat):Bool:=sW s row k&&decide (k<p)
def oL (s:ByteArray) (row p i:Nat):List ByteArray:=((List.range i).filter (oLc s row p)).map fun k=>dT (dE s k)
theorem aCH (s:ByteArray) (i:Nat):(aS s i).length=i:=by simp[aS]
theorem aQA (s:ByteArray) (i:Nat):aS s (i+1)=aS s i++[dT (dE s i)]:=by simp[aS,List.range_succ]
theorem aBH {s:ByteArray} {i n:Nat} (h:i<n):(aS s n)[i]?=some (dT (dE s i)):=by
 unfold aS
 rw[List.getElem?_map,List.getElem?_range h];rfl
theorem aPc (s:ByteArray) (row p i:Nat):oL s row p (i+1)=if oLc s row p i=true then oL s row p i++[dT (dE s i)] else oL s row p i:=by
 unfold oL
 rw[List.range_succ,List.filter_append,List.map_append]
 by_cases h:oLc s row p i=true
 ·rw[if_pos h];simp[h]
 ·rw[if_neg h];simp[h]
theorem aIp {s:ByteArray} {row k n:Nat} (hk:k<n) (hn:n*45≤s.size) (h:sW s row k=true):(dT (dE s k)).size=40∧pM (bN (dT (dE s k)))=true:=by
 have hz:(dE s k).size=45:=mH (Nat.le_trans (Nat.mul_le_mul_right _ hk) hn)
 refine⟨sZ hz,?_⟩
 unfold sW sK at h
 rw[Bool.and_eq_true]at h
 have:=nS (dT (dE s k)).data.toList
 rw[Bool.not_eq_true']at h
 rw[h.1]at this
 cases hp:pM (bN (dT (dE s k)))with
 | true=>rfl
 | false=>unfold bN at hp;rw[hp]at this;cases this
theorem aLP {s:ByteArray} {row p i n:Nat} (hi:i≤n) (hn:n*45≤s.size):Flds (oL s row p i):=by
 intro t ht
 unfold oL at ht
 obtain⟨k,hk,rfl⟩:=List.mem_map.1 ht
 obtain⟨h1,h2⟩:=List.mem_filter.1 hk
 unfold oLc at h2
 rw[Bool.and_eq_true]at h2
 exact aIp (Nat.lt_of_lt_of_le (List.mem_range.1 h1) hi) hn h2.1
theorem aIn (s:ByteArray) (row p i:Nat):(oL s row p i).length≤i:=by
 unfold oL
 rw[List.length_map]
 exact Nat.le_trans (List.length_filter_le _ _) (by simp)
theorem aJp {s:ByteArray} {row:Nat}:∀ {n},eG s row n=0→∀ i,i<n→sW s row i=true
 | 0,_,i,h=>absurd h (by omega)
 | n+1,h,i,hi=>by
   rw[eG]at h
   split at h
   ·rename_i hg
    by_cases hin:i=n
    ·subst hin;exact hg
    ·exact aJp h i (by omega)
   ·omega
theorem aLV {s:ByteArray} {row:Nat}:∀ {n},eG s row n=1→∃ r,r<n∧hG s row n=(r:Int)∧sW s row r=false∧∀ i,i<n→i≠r→sW s row i=true
 | 0,h=>by cases h
 | n+1,h=>by
   rw[eG]at h
   split at h
   ·rename_i hg
    obtain⟨r,h1,h2,h3,h4⟩:=aLV h
    refine⟨r,by omega,by rw[hG,if_pos hg];exact h2,h3,fun i hi hne=>?_⟩
    by_cases hin:i=n
    ·subst hin;exact hg
    ·exact h4 i (by omega) hne
   ·rename_i hg
    refine⟨n,by omega,by rw[hG,if_neg hg],by simpa using hg,fun i hi hne=>aJp (n:=n) (by omega) i (by omega)⟩
theorem aAx {s:ByteArray}:∀ {n k:Nat},k<n→dB (dK s n) k=wX (dE s k)
 | 0,_,h=>absurd h (by omega)
 | n+1,k,h=>by
   rw[dK]
   by_cases hk:k<n
   ·rw[aDs (lU s n) hk];exact aAx hk
   ·have:k=n:=by omega
    subst this
    exact aBr (lU s k) (zW _)
theorem aBw {ls:List ByteArray} {j:Nat}:∀ {k},k≤ls.length→dX (Cn ls ls.length) j k=((ls.take k).map fun s=>dY ((jL s).getD j 0)).sum
 | 0,_=>by simp[dX]
 | k+1,h=>by
   obtain⟨s,hs⟩:=eC (l:=ls) (i:=k) (by omega)
   rw[dX,aBw (k:=k) (by omega),aCp (Nat.le_refl _) (by omega) hs,List.take_add_one,hs]
   simp
theorem aBx {C:List Nat} {j:Nat}:∀ {k},dX C j k=((List.range k).map fun i=>dY ((dB C i).getD j 0)).sum
 | 0=>rfl
 | k+1=>by rw[dX,aBx (k:=k),List.range_succ];simp
theorem pA (p:Nat→Bool) (f:Nat→Nat):∀ l:List Nat,((l.filter p).map f).sum=(l.map fun i=>if p i=true then f i else 0).sum
 | []=>rfl
 | a::l=>by
   rw[List.filter_cons]
   by_cases h:p a=true
   ·rw[if_pos h];simp[pA p f l,h]
   ·rw[if_neg h];simp[pA p f l,h]
theorem aIW {C D:List Nat} {n m:Nat} (hC:n*40≤C.length) (hD:m*40≤D.length) (h:∀ j,j<40→dX C j n=dX D j m):bZ C n=bZ D m:=by
 have l1:=cY hC n (Nat.le_refl _)
 have l2:=cY hD m (Nat.le_refl _)
 apply List.ext_getElem?
 intro j
 by_cases hj:j<40
 ·rw[rA hC hj (Nat.le_refl _),rA hD hj (Nat.le_refl _),h j hj]
 ·rw[List.getElem?_eq_none (by omega),List.getElem?_eq_none (by omega)]
theorem xL {s:ByteArray} {row p:Nat} {C:List Nat} {q:Nat→Bool} (hq:∀ i,i<p→sW s row i=q i) (hC:C.length=(p+1)*40)
 (hf:∀ i,i<p→dB C i=if q i=true then wX (dE s i) else bO []):bZ (Cn (oL s row p (p+1)) (oL s row p (p+1)).length) (oL s row p (p+1)).length=bZ C p:=by
 refine aIW (by rw[hZ (Nat.le_refl _)];exact Nat.le_refl _) (by omega) fun j hj=>?_
 rw[aBw (Nat.le_refl _),List.take_length,aBx]
 unfold oL
 rw[List.map_map,pA]
 have hsplit:((List.range (p+1)).map fun i=>if oLc s row p i=true then ((fun s=>dY ((jL s).getD j 0))∘fun k=>dT (dE s k)) i else 0).sum=((List.range p).map fun i=>if oLc s row p i=true then ((fun s=>dY ((jL s).getD j 0))∘fun k=>dT (dE s k)) i else 0).sum:=by
  rw[List.range_succ,List.map_append,List.sum_append]
  have:oLc s row p p=false:=by unfold oLc;simp
  simp[this]
 rw[hsplit]
 congr 1
 apply List.map_congr_left
 intro i hi
 have hi:=List.mem_range.1 hi
 rw[hf i hi]
 have e:oLc s row p i=q i:=by unfold oLc;rw[hq i hi,decide_eq_true hi,Bool.and_true]
 rw[e]
 by_cases h:q i=true
 ·rw[if_pos h,if_pos h];rfl
 ·rw[if_neg h,if_neg h]
  have:(bO []).getD j 0=32:=by
   have e:bO []=List.replicate 40 32:=rfl
   rw[e,List.getD_eq_getElem?_getD,List.getElem?_replicate,if_pos hj];rfl
  rw[this];rfl
def LA (A:List ByteArray) (p:Nat):List ByteArray:=(List.range p).map fun i=>sG (bN (A.getD i fM))
theorem jP (A:List ByteArray) (p:Nat):(LA A p).length=p:=by simp[LA]
theorem aNm (A:List ByteArray) (i:Nat):LA A (i+1)=LA A i++[sG (bN (A.getD i fM))]:=by simp[LA,List.range_succ]
theorem aIx {A:List ByteArray} {C:List Nat} {p:Nat} (h:∀ i,i<p→bN (A.getD i fM)=dB C i):LA A p=qP C p:=by
 unfold LA qP
 exact List.map_congr_left fun i hi=>by rw[h i (List.mem_range.1 hi)]
end Go.Proofs.YtmapgnepfgnphaaGreatDoor
namespace Go.Proofs.YtmapgnepfgnphaaGreatDoor
open Go Go.DL
set_option maxRecDepth 100000
set_option maxHeartbeats 4000000
def aIA:XCode:=(.seq (.reg [] false [⟨0,(some 14),(.mv (.c .nilsl)),none⟩]) (.seq (.seq (.reg [] false [⟨0,(some 15),(.mv (.c (.int .i64 0))),none⟩]) (.block 2 aEI)) (.seq (.reg [] false [⟨0,(some 120),(.mv (.t 14)),none⟩,⟨0,(some 121),(.mv (.t 11)),none⟩,⟨0,(some 4),(.mv (.t 120)),none⟩,⟨0,(some 5),(.mv (.t 121)),none⟩,⟨0,(some 6),(.mv (.c (.int .i64 0))),none⟩]) .ret)))
def aJX:XCode:=(.seq (.reg [] false [⟨0,(some 4),(.mv (.c .nilsl)),none⟩,⟨0,(some 5),(.mv (.c (.int .i64 0))),none⟩,⟨0,(some 6),(.mv (.c (.int .i64 0))),none⟩]) (.seq (.seq (.reg [] false [⟨0,(some 16),(.mv (.t 1)),none⟩,⟨0,(some 17),(.callf false (.c (.fn (.func 39) [] [])) [(.t 16),(.c (.int .i64 0)),(.c (.int .i64 1000))] []),none⟩,⟨0,(some 18),(.not (.t 17)),none⟩]) (.cond (.t 18) (.seq (.reg [] false [⟨0,(some 4),(.mv (.c .nilsl)),none⟩,⟨0,(some 5),(.mv (.c (.int .i64 0))),none⟩,⟨0,(some 6),(.mv (.c (.int .i64 2))),none⟩]) .ret) .skip)) (.seq (.reg [] false [⟨0,(some 19),(.mv (.t 0)),none⟩,⟨0,(some 20),(.len true (.t 19)),none⟩,⟨0,(some 21),(.bin .quo (.t 20) (.c (.int .i64 45))),none⟩,⟨0,(some 7),(.mv (.t 21)),none⟩]) (.seq (.seq (.reg [] false [⟨0,(some 22),(.mv (.t 0)),none⟩,⟨0,(some 23),(.len true (.t 22)),none⟩,⟨0,(some 24),(.bin .rem (.t 23) (.c (.int .i64 45))),none⟩,⟨0,(some 25),(.bin .neq (.t 24) (.c (.int .i64 0))),none⟩,⟨0,(some 26),(.mv (.t 25)),none⟩,⟨0,(some 27),(.mv (.t 7)),(some (26,false))⟩,⟨0,(some 28),(.bin .lss (.t 27) (.c (.int .i64 2))),(some (26,false))⟩,⟨0,(some 29),(.pick (.t 26) (.c (.bool true)) (.t 28)),none⟩]) (.cond (.t 29) (.seq (.reg [] false [⟨0,(some 4),(.mv (.c .nilsl)),none⟩,⟨0,(some 5),(.mv (.c (.int .i64 0))),none⟩,⟨0,(some 6),(.mv (.c (.int .i64 20))),none⟩]) .ret) .skip)) (.seq (.seq (.reg [] false [⟨0,(some 30),(.mv (.t 7)),none⟩,⟨0,(some 31),(.bin .gtr (.t 30) (.c (.int .i64 6))),none⟩]) (.cond (.t 31) (.seq (.reg [] false [⟨0,(some 4),(.mv (.c .nilsl)),none⟩,⟨0,(some 5),(.mv (.c (.int .i64 0))),none⟩,⟨0,(some 6),(.mv (.c (.int .i64 1))),none⟩]) .ret) .skip)) (.seq (.reg [] false [⟨0,(some 8),(.mv (.c .nilsl)),none⟩,⟨0,(some 9),(.mv (.c .nilsl)),none⟩]) (.seq (.reg [] false [⟨0,(some 10),(.mv (.c (.int .i64 (-1)))),none⟩,⟨0,(some 11),(.mv (.c (.int .i64 0))),none⟩]) (.seq (.seq (.reg [] false [⟨0,(some 12),(.mv (.c (.int .i64 0))),none⟩]) (.block 0 rR)) (.seq (.seq (.reg [] false [⟨0,(some 69),(.mv (.t 11)),none⟩,⟨0,(some 70),(.bin .gtr (.t 69) (.c (.int .i64 1))),none⟩]) (.cond (.t 70) (.seq (.reg [] false [⟨0,(some 4),(.mv (.c .nilsl)),none⟩,⟨0,(some 5),(.mv (.c (.int .i64 0))),none⟩,⟨0,(some 6),(.mv (.c (.int .i64 19))),none⟩]) .ret) .skip)) (.seq (.seq (.reg [(9,false)] true [⟨0,(some 71),(.mv (.t 11)),none⟩,⟨1,(some 72),(.bin .eql (.t 71) (.c (.int .i64 0))),none⟩,⟨2,(some 73),(.mv (.t 72)),none⟩,⟨3,(some 74),(.mv (.t 9)),(some (73,true))⟩,⟨5,(some 76),(.mv (.t 8)),(some (73,true))⟩,⟨6,(some 77),(.mv (.t 7)),(some (73,true))⟩,⟨7,(some 78),(.bin .sub (.t 77) (.c (.int .i64 1))),(some (73,true))⟩,⟨8,(some 79),(.idx 1 (.t 76) (.t 78)),(some (73,true))⟩,⟨9,(some 80),(.load false 1 (.t 79)),(some (73,true))⟩,⟨4,(some 75),(.callf false (.c (.fn (.func 49) [] [])) [(.t 74)] [9]),(some (73,true))⟩,⟨10,(some 81),(.bin .neq (.t 75) (.t 80)),(some (73,true))⟩,⟨11,(some 82),(.pick (.t 73) (.t 81) (.c (.bool false))),none⟩]) (.cond (.t 82) (.seq (.reg [] false [⟨0,(some 4),(.mv (.c .nilsl)),none⟩,⟨0,(some 5),(.mv (.c (.int .i64 0))),none⟩,⟨0,(some 6),(.mv (.c (.int .i64 22))),none⟩]) .ret) .skip)) (.seq (.seq (.reg [] false [⟨0,(some 83),(.mv (.t 10)),none⟩,⟨0,(some 84),(.bin .geq (.t 83) (.c (.int .i64 0))),none⟩,⟨0,(some 85),(.mv (.t 84)),none⟩,⟨0,(some 86),(.mv (.t 10)),(some (85,true))⟩,⟨0,(some 87),(.mv (.t 7)),(some (85,true))⟩,⟨0,(some 88),(.bin .sub (.t 87) (.c (.int .i64 1))),(some (85,true))⟩,⟨0,(some 89),(.bin .lss (.t 86) (.t 88)),(some (85,true))⟩,⟨0,(some 90),(.pick (.t 85) (.t 89) (.c (.bool false))),none⟩]) (.cond (.t 90) (.reg [(9,false)] false [⟨0,(some 91),(.mv (.t 8)),none⟩,⟨0,(some 92),(.mv (.t 10)),none⟩,⟨0,(some 93),(.mv (.t 9)),none⟩,⟨0,(some 94),(.mv (.t 8)),none⟩,⟨0,(some 95),(.mv (.t 7)),none⟩,⟨0,(some 96),(.bin .sub (.t 95) (.c (.int .i64 1))),none⟩,⟨0,(some 97),(.idx 1 (.t 94) (.t 96)),none⟩,⟨0,(some 98),(.load false 1 (.t 97)),none⟩,⟨0,(some 99),(.callf false (.c (.fn (.func 50) [] [])) [(.t 93),(.t 98)] []),none⟩,⟨0,(some 100),(.idx 1 (.t 91) (.t 92)),none⟩,⟨0,none,(.store 1 (.t 100) (.t 99) []),none⟩]) .skip)) aIA)))))))))))
theorem aIB:x17=⟨122,[(4,none),(5,none),(6,none)],false,false,aJX,none,none⟩:=rfl
theorem q17 {vs:List AV} {h:XH} (hl:vs.length≤122):runW aH 17 vs h=cR none x17.res x17.ownR h.length (execW aH 17 h.length none x17.body (aP (if x17.ownA then vs else fY vs)) h):=bG rfl hl h rfl
def uS (i:Nat):AV:=if i=0 then .nilsl else .sl 1 0 1 i
def uG (A:List ByteArray) (i:Nat):XH:=if i=0 then [some (.blk true (.cells true (eB A)))] else [some (.blk true (.cells true (eB A))),some (.blk true (.cells true (eB (LA A i))))]
theorem aIT {A:List ByteArray} {i:Nat} (h:i<A.length):(eB A)[i]?=some (.str (A.getD i fM)):=by
 unfold eB
 rw[List.getElem?_map,List.getD_eq_getElem?_getD,List.getElem?_eq_getElem h];rfl
theorem aHu (s:ByteArray):(s.toList==(⟨#[]⟩:ByteArray).toList)=decide (s=fM):=by
 have:=jS s fM
 rw[lM]
 by_cases h:s=fM
 ·subst h;rfl
 ·rw[decide_eq_false h]
  refine decide_eq_false fun hz=>h ?_
  cases s with
  | mk d=>cases d with
    | mk l=>cases l with
      | nil=>rfl
      | cons a l=>exact absurd hz (by show ¬(a::l).length=0;simp)
theorem t17 {A:List ByteArray} {n p md:Nat} {e:aC} {H2:XH} (hn:n=p+1) (hA:A.length=n) (hz:∀ i,i<p→(A.getD i fM).size≤1000000) (h0:1≤p) (h1:p≤1000) (e7:e 7=I (n:Nat)) (e8:e 8 = .sl 0 0 1 n) (e11:e 11=I (md:Nat)) :
 cR none [(4,none),(5,none),(6,none)] false 0 (execW aH 17 0 none aIA e (some (.blk true (.cells true (eB A)))::H2))=some (if Lib.containsS (LA A p) fM then oH 13 else .tup [.fs (rS (LA A p)),I (md:Nat),I 0],[]):=by
 unfold aIA
 obtain⟨m,m1,m2,m3⟩:=oC (fun i => !decide (sG (bN (A.getD i fM))=fM)) p
 have wr:IntKind.i64.wrap ((n:Int)-1)=(p:Int):=by rw[aG (by omega) (by omega)];omega
 have lA:=cX A
 rw[hA]at lA
 have gA:=dP A
 have step:∀ i,i<p→((i:Int)<(p:Int))=True∧((i:Int)<(n:Int))=True∧(eB A)[i]?=some (.str (A.getD i fM))∧runW aH 51 [.str (A.getD i fM)] []=some (.str (sG (bN (A.getD i fM))),[])∧eB (LA A i)++[.str (sG (bN (A.getD i fM)))]=eB (LA A (i+1)) ∧
  (eB (LA A (i+1)))[i]?=some (.str (sG (bN (A.getD i fM))))∧sT BinOp.eql (sG (bN (A.getD i fM))) ⟨#[]⟩=some (.bool (decide (sG (bN (A.getD i fM))=fM))):=fun i hi =>
  ⟨eq_true (by omega),eq_true (by omega),aIT (by omega),w51 (hz i hi),by rw[aNm];simp[eB],by
   rw[aNm]
   unfold eB
   rw[List.getElem?_map,List.getElem?_append_right (by rw[jP];exact Nat.le_refl _),jP,Nat.sub_self];rfl,by rw[eI,aHu]⟩
 sym =>
  simp[aE,aF,aL,Zb,Zf,Zh,Zl,Zu,UP,UT,UU,Tc,e7,e8,e11,wr]
  tactic =>
   unfold aEI
   rw[aY m (fun i=>[I (n:Nat),.sl 0 0 1 n,I (md:Nat),uS i,I (i:Nat)]) (fun i=>uG A i)]
   ·by_cases hm:m=p
    ·subst hm
     have hc:Lib.containsS (LA A m) fM=false:=by
      rw[←Bool.not_eq_true,Lib.containsS_iff]
      intro hm
      unfold LA at hm
      obtain⟨i,hi,e⟩:=List.mem_map.1 hm
      have:=m2 i (List.mem_range.1 hi)
      rw[decide_eq_true e]at this
      cases this
     rw[hc]
     have s0:uS m = .sl 1 0 1 m:=if_neg (by omega)
     have g0:uG A m=[some (.blk true (.cells true (eB A))),some (.blk true (.cells true (eB (LA A m))))]:=if_neg (by omega)
     have x0:((m:Int)<(m:Int))=False:=eq_false (by omega)
     have lc:=cX (LA A m)
     rw[jP]at lc
     have ch:=zL (LA A m)
     rw[jP]at ch
     have gr:=dP (LA A m)
     have p1:(m*1≤m)=True:=eq_true (by omega)
     generalize LA A m=L at *
     (sym=>(simp[aE,aF,aL,Za,Zb,Zf,Zh,Zl,Zm,Zu,Z0,Yq,Yu,YG,YL,YM,Xa,Xe,Xf,Xl,Xp,Xr,Xx,Xz,XI,XK,XO,XV,Wd,Wg,Wt,Wx,Wz,WB,WC,Vb,Vc,Vd,Ve,Vf,Vj,Vl,Vm,Vn,Vo,Vp,Vq,Vr,Vt,Vu,Vv,Vw,Vx,V0,V6,V8,VB,VC,VD,VG,VI,VU,VZ,Ud,Ue,Uf,Ug,Uj,Uk,Ul,Um,Un,Uo,U9,UN,UP,UQ,US,UU,UV,UZ,Tb,Tc,Tq,Tr,Tt,Ty,Tz,T2,s0,g0,x0,wr,lc,ch,gr,gA,p1,cL,cJ,cK];all_goals tactic=>exact rfl))
    ·have hm':m<p:=by omega
     have hc:Lib.containsS (LA A p) fM=true:=by
      rw[Lib.containsS_iff]
      unfold LA
      refine List.mem_map.2 ⟨m,List.mem_range.2 hm',?_⟩
      rcases m3 with m3|⟨_,m3⟩
      ·exact absurd m3 hm
      ·simpa using m3
     rw[hc,if_pos rfl]
     unfold oH
     obtain⟨i1,i2,a1,c1,so,a2,eq1⟩:=step m hm'
     have hd:decide (sG (bN (A.getD m fM))=fM)=true:=by
      rcases m3 with m3|⟨_,m3⟩
      ·exact absurd m3 hm
      ·simpa using m3
     rw[hd]at eq1
     have lc:=cX (LA A m)
     rw[jP]at lc
     have lc1:=cX (LA A (m+1))
     rw[jP]at lc1
     have gr:=dP (LA A m)
     have gr1:=dP (LA A (m+1))
     have z3:(m+1≤1099511627776)=True:=eq_true (by omega)
     have z4:((m+1)*16≤1099511627776)=True:=eq_true (by omega)
     have z5:(m<m+1)=True:=eq_true (by omega)
     have z6:((m:Int)<((m+1:Nat):Int))=True:=eq_true (by omega)
     by_cases hm0:m=0
     ·subst hm0
      have s0:uS 0 = .nilsl:=rfl
      have g0:uG A 0=[some (.blk true (.cells true (eB A)))]:=rfl
      have n0:Int.toNat 0=0:=rfl
      have i10:((0:Int)<(p:Int))=True:=eq_true (by omega)
      have i20:((0:Int)<(n:Int))=True:=eq_true (by omega)
      have L0:LA A 0=[]:=rfl
      generalize sG (bN (A.getD 0 fM))=X at *
      generalize A.getD 0 fM=Y at *
      (sym=>(simp[aE,aF,aL,Za,Zb,Zd,Ze,Zf,Zh,Zl,Zm,Zo,Zu,Zy,Z0,ZD,ZL,ZT,ZV,ZZ,Ya,Yb,Yl,Yq,Yu,Y6,Y7,Y8,YG,YJ,YL,YM,YX,Xa,Xc,Xe,Xf,Xl,Xp,Xs,XK,XO,XX,Wa,Wd,We,Wf,Wh,Wi,Wj,Wk,Wm,Wt,Ww,Wx,Wy,Wz,WB,WC,WF,WG,WQ,WR,WS,Ve,Vm,Vn,Vo,Vp,Vq,Vr,Vt,Vu,Vv,Vw,Vx,V0,V6,V7,VC,VD,VE,VF,VG,VI,VJ,VK,VN,VU,VY,Ua,Ub,Uc,Ud,Ue,Uf,Ug,Uh,Ui,Uj,Uk,Un,Uo,Uq,Ur,Us,Ut,Uz,U0,U1,U2,U3,U4,U5,U6,UA,UB,UF,UI,UK,UL,UM,UN,UO,UP,UQ,UR,UT,UU,UW,UY,Tb,Tc,Tv,Ty,s0,g0,n0,i10,i20,wr,a1,c1,eq1,lA,gA,cL,cJ,cK];all_goals tactic=>exact rfl))
     ·have s0:uS m = .sl 1 0 1 m:=if_neg hm0
      have g0:uG A m=[some (.blk true (.cells true (eB A))),some (.blk true (.cells true (eB (LA A m))))]:=if_neg hm0
      generalize sG (bN (A.getD m fM))=X at *
      generalize A.getD m fM=Y at *
      generalize LA A (m+1)=L1 at *
      generalize LA A m=L0 at *
      (sym=>(simp[aE,aF,aL,Za,Zb,Zd,Ze,Zf,Zh,Zl,Zm,Zo,Zu,Zy,Z0,ZD,ZL,ZT,ZV,ZZ,Ya,Yb,Yl,Yq,Yu,Yz,Y2,YG,YJ,YL,YM,YX,Xa,Xc,Xe,Xf,Xl,Xp,Xs,XK,XO,XX,Wa,Wd,We,Wf,Wg,Wh,Wi,Wj,Wk,Wt,Ww,Wx,Wy,Wz,WB,WC,WF,WG,WQ,WR,WS,Ve,Vm,Vn,Vo,Vp,Vq,Vr,Vt,Vu,Vv,Vw,Vx,V0,V6,V7,VC,VD,VE,VF,VG,VI,VJ,VK,VN,VU,VY,Ua,Ub,Uc,Ud,Ue,Uf,Ug,Uh,Ui,Uj,Uk,Un,Uo,Uq,Ur,Us,Ut,Uz,U0,U1,U2,U3,U4,U5,U7,U8,UA,UB,UF,UI,UJ,UK,UL,UN,UO,UP,UQ,UR,UT,UU,UW,UY,Tb,Tc,Tq,Tr,Tv,Ty,s0,g0,i1,i2,wr,a1,a2,c1,so,eq1,lA,gA,lc,lc1,gr,gr1,z3,z4,z5,z6,cL,cJ,cK];all_goals tactic=>exact rfl))
   ·have s0:uS 0 = .nilsl:=rfl
    have g0:uG A 0=[some (.blk true (.cells true (eB A)))]:=rfl
    (sym=>(simp[aE,aF,aL,Za,Y7,YG,YN,YP,Xa,Xg,Xi,Wd,Wn,Wq,Wr,Wt,Wu,Wv,Wx,Wz,WB,WC,WE,WJ,WK,WO,V4,V5,VC,VD,VF,VG,VI,VL,VX,Ud,Ue,Uf,Ug,Ta,Ts,s0,g0,e7,e8,e11,gA,cL,cJ,cK];all_goals tactic=>exact rfl))
   ·intro i hi
    obtain⟨i1,i2,a1,c1,so,a2,eq1⟩:=step i (by omega)
    have hd:decide (sG (bN (A.getD i fM))=fM)=false:=by
     have:=m2 i hi
     simpa using this
    rw[hd]at eq1
    have b2:=eS (n:=p) (i:=i) (by omega) (by omega)
    have lc:=cX (LA A i)
    rw[jP]at lc
    have lc1:=cX (LA A (i+1))
    rw[jP]at lc1
    have gr:=dP (LA A i)
    have gr1:=dP (LA A (i+1))
    have z3:(i+1≤1099511627776)=True:=eq_true (by omega)
    have z4:((i+1)*16≤1099511627776)=True:=eq_true (by omega)
    have z5:(i<i+1)=True:=eq_true (by omega)
    have z6:((i:Int)<((i+1:Nat):Int))=True:=eq_true (by omega)
    have s1:uS (i+1) = .sl 1 0 1 (i+1):=if_neg (by omega)
    have g1:uG A (i+1)=[some (.blk true (.cells true (eB A))),some (.blk true (.cells true (eB (LA A (i+1)))))]:=if_neg (by omega)
    by_cases hm0:i=0
    ·subst hm0
     have s0:uS 0 = .nilsl:=rfl
     have g0:uG A 0=[some (.blk true (.cells true (eB A)))]:=rfl
     have n0:Int.toNat 0=0:=rfl
     have i10:((0:Int)<(p:Int))=True:=eq_true (by omega)
     have i20:((0:Int)<(n:Int))=True:=eq_true (by omega)
     have L0:eB (LA A 0)=[]:=rfl
     rw[L0,List.nil_append]at so
     rw[←so]at g1
     generalize sG (bN (A.getD 0 fM))=X at *
     generalize A.getD 0 fM=Y at *
     (sym=>(simp[aE,aF,aL,Za,Zb,Zd,Ze,Zf,Zh,Zl,Zm,Zo,Zu,Zy,Z0,ZD,ZL,ZT,ZV,ZZ,Ya,Yb,Yl,Yp,Yq,Yu,Y4,Y6,Y7,Y8,YG,YJ,YN,YX,Xa,Xc,Xg,Wa,Wd,We,Wf,Wh,Wi,Wj,Wk,Wm,Wn,Wo,Wq,Wr,Wt,Wu,Wv,Ww,Wx,Wy,Wz,WB,WC,WE,WF,WG,WJ,WK,WO,WQ,WR,WS,V0,V4,V5,V6,V7,V8,VC,VD,VE,VF,VG,VI,VJ,VK,VL,VN,VU,VX,VY,Ua,Ub,Uc,Ud,Ue,Uf,Ug,Uh,Ui,Uq,Ur,Us,Ut,Uz,U0,U1,U2,U3,U4,U5,U6,UA,UB,UF,UI,UK,UL,UM,UN,UO,UP,UR,UT,UU,UX,Ta,Tb,Tc,Ts,Tv,s0,g0,s1,g1,n0,i10,i20,wr,a1,c1,eq1,lA,gA,cL,cJ,cK];all_goals tactic=>exact rfl))
    ·have s0:uS i = .sl 1 0 1 i:=if_neg hm0
     have g0:uG A i=[some (.blk true (.cells true (eB A))),some (.blk true (.cells true (eB (LA A i))))]:=if_neg hm0
     generalize sG (bN (A.getD i fM))=X at *
     generalize A.getD i fM=Y at *
     generalize LA A (i+1)=L1 at *
     generalize LA A i=L0 at *
     (sym=>(simp[aE,aF,aL,Za,Zb,Zd,Ze,Zf,Zh,Zl,Zm,Zo,Zu,Zy,Z0,ZD,ZL,ZT,ZV,ZZ,Ya,Yb,Yl,Yp,Yq,Yu,Yz,Y2,YG,YJ,YN,YX,Xa,Xc,Xg,Wa,Wd,We,Wf,Wg,Wh,Wi,Wj,Wk,Wn,Wo,Wq,Wr,Wt,Wu,Wv,Ww,Wx,Wy,Wz,WB,WC,WE,WF,WG,WJ,WK,WO,WQ,WR,WS,V0,V4,V5,V6,V7,V8,VC,VD,VE,VF,VG,VI,VJ,VK,VL,VN,VU,VX,VY,Ua,Ub,Uc,Ud,Ue,Uf,Ug,Uh,Ui,Uq,Ur,Us,Ut,Uz,U0,U1,U2,U3,U4,U5,U7,U8,UA,UB,UF,UI,UJ,UK,UL,UN,UO,UP,UR,UT,UU,UX,Ta,Tb,Tc,Tq,Tr,Ts,Tv,s0,g0,s1,g1,i1,i2,wr,a1,a2,b2,c1,so,eq1,lA,gA,lc,lc1,gr,gr1,z3,z4,z5,z6,cL,cJ,cK];all_goals tactic=>exact rfl))
   ·by_cases hm:m=p
    ·subst hm
     have x0:((m:Int)<(m:Int))=False:=eq_false (by omega)
     (sym=>(simp[aE,aF,aL,Za,Zb,Zf,Zh,Zl,Zm,Zu,Z0,Yq,Yu,V0,V6,V8,V9,VZ,U9,UN,UP,US,UU,UV,Tb,Tc,x0,wr];all_goals tactic=>exact rfl))
    ·have hm':m<p:=by omega
     obtain⟨i1,i2,a1,c1,so,a2,eq1⟩:=step m hm'
     have hd:decide (sG (bN (A.getD m fM))=fM)=true:=by
      rcases m3 with m3|⟨_,m3⟩
      ·exact absurd m3 hm
      ·simpa using m3
     rw[hd]at eq1
     have lc:=cX (LA A m)
     rw[jP]at lc
     have lc1:=cX (LA A (m+1))
     rw[jP]at lc1
     have gr:=dP (LA A m)
     have gr1:=dP (LA A (m+1))
     have z3:(m+1≤1099511627776)=True:=eq_true (by omega)
     have z4:((m+1)*16≤1099511627776)=True:=eq_true (by omega)
     have z5:(m<m+1)=True:=eq_true (by omega)
     have z6:((m:Int)<((m+1:Nat):Int))=True:=eq_true (by omega)
     by_cases hm0:m=0
     ·subst hm0
      have s0:uS 0 = .nilsl:=rfl
      have g0:uG A 0=[some (.blk true (.cells true (eB A)))]:=rfl
      have n0:Int.toNat 0=0:=rfl
      have i10:((0:Int)<(p:Int))=True:=eq_true (by omega)
      have i20:((0:Int)<(n:Int))=True:=eq_true (by omega)
      generalize sG (bN (A.getD 0 fM))=X at *
      generalize A.getD 0 fM=Y at *
      (sym=>(simp[aE,aF,aL,Za,Zb,Zd,Ze,Zf,Zh,Zl,Zm,Zo,Zu,Zy,Z0,ZD,ZL,ZT,ZV,ZZ,Ya,Yb,Yl,Yq,Yu,Y6,Y7,Y8,YJ,YX,Xc,Wa,Wd,We,Wf,Wh,Wi,Wj,Wk,Wm,Wt,Ww,Wy,WF,WG,WQ,WR,WS,V0,V6,V7,VA,VC,VD,VE,VF,VG,VJ,VK,VN,VU,VY,Ua,Ub,Uc,Ud,Ue,Uf,Ug,Uh,Ui,Uq,Ur,Us,Ut,Uz,U0,U1,U2,U3,U4,U5,U6,UA,UB,UF,UI,UK,UL,UM,UN,UO,UP,UQ,UR,UT,UU,UW,UY,Tb,Tc,Tv,s0,g0,n0,i10,i20,wr,a1,c1,eq1,lA,gA,cL,cJ,cK];all_goals tactic=>exact rfl))
     ·have s0:uS m = .sl 1 0 1 m:=if_neg hm0
      have g0:uG A m=[some (.blk true (.cells true (eB A))),some (.blk true (.cells true (eB (LA A m))))]:=if_neg hm0
      generalize sG (bN (A.getD m fM))=X at *
      generalize A.getD m fM=Y at *
      generalize LA A (m+1)=L1 at *
      generalize LA A m=L0 at *
      (sym=>(simp[aE,aF,aL,Za,Zb,Zd,Ze,Zf,Zh,Zl,Zm,Zo,Zu,Zy,Z0,ZD,ZL,ZT,ZV,ZZ,Ya,Yb,Yl,Yq,Yu,Yz,Y2,YJ,YX,Xc,Wa,Wd,We,Wf,Wg,Wh,Wi,Wj,Wk,Wt,Ww,Wy,WF,WG,WQ,WR,WS,V0,V6,V7,VA,VC,VD,VE,VF,VG,VJ,VK,VN,VU,VY,Ua,Ub,Uc,Ud,Ue,Uf,Ug,Uh,Ui,Uq,Ur,Us,Ut,Uz,U0,U1,U2,U3,U4,U5,U7,U8,UA,UB,UF,UI,UJ,UK,UL,UN,UO,UP,UQ,UR,UT,UU,UW,UY,Tb,Tc,Tq,Tr,Tv,s0,g0,i1,i2,wr,a1,a2,c1,so,eq1,lA,gA,lc,lc1,gr,gr1,z3,z4,z5,z6,cL,cJ,cK];all_goals tactic=>exact rfl))
def vS (i:Nat):AV:=if i=0 then .nilsl else .sl 0 0 1 i
def wS (O:List ByteArray):AV:=if O.length=0 then .nilsl else .sl 1 0 1 O.length
def vG (A O:List ByteArray):XH:=if A.length=0 then [] else if O.length=0 then [some (.blk true (.cells true (eB A)))] else [some (.blk true (.cells true (eB A))),some (.blk true (.cells true (eB O)))]
theorem aBh {O:List ByteArray} (h:O.length=0):O=[]:=List.eq_nil_of_length_eq_zero h
theorem aCP (A:List ByteArray) (x:ByteArray):eB A++[.str x]=eB (A++[x]):=by simp[eB]
theorem aGM {A:List ByteArray} {r:Nat} {x:ByteArray} (h:r<A.length):bK (eB A) r [.str x]=eB (A.set r x):=by
 unfold bK eB
 rw[List.map_set,List.set_eq_take_append_cons_drop,if_pos (by simpa using h)]
 simp
theorem aHi {M:List Nat} {x:ByteArray} (h:wQ M):decide (fP M=x)=decide (M=bN x) :=
 decide_eq_decide.2 ⟨fun e=>by rw[←e,rO h],fun e=>by rw[e,aAd]⟩
theorem aNk {s:ByteArray} {n i:Nat} (hi:i<n) (hn:n*45≤s.size):bN ((aS s n).getD i fM)=dB (dK s n) i:=by
 rw[aAx hi,List.getD_eq_getElem?_getD,aBH hi]
 have:(dE s i).size=45:=mH (Nat.le_trans (Nat.mul_le_mul_right _ hi) hn)
 show bN (dT (dE s i))=wX (dE s i)
 unfold wX
 rw[tH (by rw[jO];exact sZ this)]
theorem aNj {s:ByteArray} {n i:Nat} (hi:i<n) (hn:n*45≤s.size):((aS s n).getD i fM).size≤1000000:=by
 rw[List.getD_eq_getElem?_getD,aBH hi]
 have:=sZ (mH (s:=s) (i:=i) (Nat.le_trans (Nat.mul_le_mul_right _ hi) hn))
 show (dT (dE s i)).size≤_
 omega
theorem aOX {s:ByteArray} {R p n i:Nat} (hR:R≤1000) (hn:n=p+1) (hp:1≤p) (hp6:p≤6) (hsz:n*45=s.size) (hi:i<n) :
 oY 0 [0,1,7,8,9,10,11,12] (execW aH 17 0 none (match rR with | .loop _ a=>a|c=>c) (lL [0,1,7,8,9,10,11,12] [.str s,I (R:Int),I (n:Nat),vS i,wS (oL s R p i),I (hG s R i),I (eG s R i:Nat),I (i:Nat)]) (vG (aS s i) (oL s R p i))) =
  some ([.str s,I (R:Int),I (n:Nat),vS (i+1),wS (oL s R p (i+1)),I (hG s R (i+1)),I (eG s R (i+1):Nat),I ((i+1:Nat):Int)],vG (aS s (i+1)) (oL s R p (i+1))):=by
 have i1:((i:Int)<(n:Int))=True:=eq_true (by omega)
 have a2:=eS (n:=n) (i:=i) hi (by omega)
 have a3:IntKind.i64.wrap ((i:Int)*45)=((i*45:Nat):Int):=by rw[aG (by omega) (by omega)];omega
 have a4:IntKind.i64.wrap (((i:Int)+1)*45)=(((i+1)*45:Nat):Int):=by rw[aG (by omega) (by omega)];omega
 have a5:IntKind.i64.wrap ((R:Int)+(i:Int))=((R+i:Nat):Int):=by rw[aG (by omega) (by omega)];omega
 have hle:(i+1)*45≤s.size:=by rw[←hsz];exact Nat.mul_le_mul_right _ hi
 have a6:((((i+1)*45:Nat):Int)≤(s.size:Int))=True:=eq_true (by omega)
 have a6b:(((i*45:Nat):Int)≤(((i+1)*45:Nat):Int))=True:=eq_true (by omega)
 have hx:mA s (i*45) ((i+1)*45)=dE s i:=rfl
 have YC:=mH hle
 have c2:=w48 (s:=dE s i) (n:=R+i) YC (by omega)
 have hg0:sK (dE s i) (R+i)=sW s R i:=rfl
 rw[hg0]at c2
 have hx4:mA (dE s i) 4 44=dT (dE s i):=rfl
 have n44:Int.toNat 44=44:=rfl
 have n4:Int.toNat 4=4:=rfl
 have n45:((4:Int)≤((44:Nat):Int))=True:=eq_true (by omega)
 have wr:IntKind.i64.wrap ((n:Int)-1)=(p:Int):=by rw[aG (by omega) (by omega)];omega
 have lA:=aCH s i
 have sA:=aQA s i
 have lA1:=aCH s (i+1)
 have sO:=aPc s R p i
 have lO:=aIn s R p i
 have hbd:=aCD s R i
 have hmd:=aAg s R i
 have a7:IntKind.i64.wrap (((eG s R i:Nat):Int)+1)=((eG s R i+1:Nat):Int):=by rw[aG (by omega) (by omega)];omega
 have s1:vS (i+1) = .sl 0 0 1 (i+1):=if_neg (by omega)
 have z2:(i+1≤1099511627776)=True:=eq_true (by omega)
 have z3:((i+1)*16≤1099511627776)=True:=eq_true (by omega)
 have z5:(i<i+1)=True:=eq_true (by omega)
 have z6:((i:Int)<((i+1:Nat):Int))=True:=eq_true (by omega)
 have bdF:sW s R i=false→hG s R (i+1)=(i:Int):=fun h=>by rw[hG,h];rfl
 have bdT:sW s R i=true→hG s R (i+1)=hG s R i:=fun h=>by rw[hG,h];rfl
 have mdF:sW s R i=false→eG s R (i+1)=eG s R i+1:=fun h=>by rw[eG,h];rfl
 have mdT:sW s R i=true→eG s R (i+1)=eG s R i:=fun h=>by rw[eG,h];rfl
 have oF:sW s R i=false→oL s R p (i+1)=oL s R p i:=fun h=>by rw[sO,if_neg (by unfold oLc;rw[h,Bool.false_and];decide)]
 have oN:i=p→oL s R p (i+1)=oL s R p i:=fun h=>by rw[sO,if_neg (by unfold oLc;rw[decide_eq_false (by omega),Bool.and_false];decide)]
 have oT:sW s R i=true→i<p→oL s R p (i+1)=oL s R p i++[dT (dE s i)]:=fun h h2=>by rw[sO,if_pos (by unfold oLc;rw[h,decide_eq_true h2];rfl)]
 have at1:(eB (aS s (i+1)))[i]?=some (.str (dT (dE s i))):=by
  unfold eB
  rw[List.getElem?_map,aBH (by omega)];rfl
 have soA:=aCP (aS s i) (dT (dE s i))
 rw[←sA]at soA
 have soO:=aCP (oL s R p i) (dT (dE s i))
 have lcA:=cX (aS s i)
 rw[lA]at lcA
 have lcA1:=cX (aS s (i+1))
 rw[lA1]at lcA1
 have lcO:=cX (oL s R p i)
 have eH:=dP (aS s i)
 have grA1:=dP (aS s (i+1))
 have grO:=dP (oL s R p i)
 have grO1:=dP (oL s R p i++[dT (dE s i)])
 have lO1:(oL s R p i++[dT (dE s i)]).length=(oL s R p i).length+1:=by simp
 have y2:((oL s R p i).length+1≤1099511627776)=True:=eq_true (by omega)
 have y3:(((oL s R p i).length+1)*16≤1099511627776)=True:=eq_true (by omega)
 have w1:wS (oL s R p i++[dT (dE s i)]) = .sl 1 0 1 ((oL s R p i).length+1):=by unfold wS;rw[lO1,if_neg (by omega)]
 have g1:∀ O,O.length=0→vG (aS s (i+1)) O=[some (.blk true (.cells true (eB (aS s (i+1)))))]:=fun O h=>by unfold vG;rw[if_neg (by omega),if_pos h]
 have g2:∀ O,O.length≠0→vG (aS s (i+1)) O=[some (.blk true (.cells true (eB (aS s (i+1))))),some (.blk true (.cells true (eB O)))]:=fun O h=>by unfold vG;rw[if_neg (by omega),if_neg h]
 unfold rR
 dsimp only
 by_cases hi0:i=0
 ·subst hi0
  have s0:vS 0 = .nilsl:=rfl
  have O0:oL s R p 0=[]:=rfl
  have A0:aS s 0=[]:=rfl
  have A1:aS s (0+1)=[dT (dE s 0)]:=rfl
  have w0:wS ([]:List ByteArray) = .nilsl:=rfl
  have g0:vG ([]:List ByteArray) []=[]:=rfl
  have b0:hG s R 0 = -1:=rfl
  have m0:eG s R 0=0:=rfl
  have j1:((0:Int)<(n:Int))=True:=eq_true (by omega)
  have j2:((0:Int)<(p:Int))=True:=eq_true (by omega)
  have hx':mA s 0 45=dE s 0:=rfl
  have a8:IntKind.i64.wrap ((R:Int)+0)=(R:Int):=aG (by omega) (by omega)
  have a9:((45:Int)≤(s.size:Int))=True:=eq_true (by omega)
  have wz:IntKind.i64.wrap 45=45:=rfl
  have tz:Int.toNat 45=45:=rfl
  have t0:Int.toNat 0=0:=rfl
  rw[Nat.add_zero]at c2
  cases hg:sW s R 0 with
  | false =>
    rw[hg]at c2
    rw[oF hg,bdF hg,mdF hg,s1,g1 _ rfl,O0,A1,w0]
    have u1:eB [dT (dE s 0)]=[.str (dT (dE s 0))]:=rfl
    rw[u1]
    generalize dT (dE s 0)=X at *
    (sym=>(simp[aE,aF,aL,Za,Zb,Zd,Ze,Zf,Zh,Zl,Zm,Zn,Zo,Zu,Zy,Z0,Z8,ZI,ZT,ZV,ZZ,Ya,Yb,Yf,Yp,Yr,Yu,Y3,Y4,Y6,Y7,Y8,Y9,YG,YJ,YN,YP,YX,Xa,Xb,Xc,Xg,Xi,Wa,Wd,We,Wf,Wh,Wi,Wj,Wk,Wn,Wq,Wr,Wt,Wu,Wv,Ww,Wx,Wy,Wz,WB,WC,WE,WF,WG,WJ,WK,WO,WQ,WR,WS,V0,V4,V5,V6,V7,VC,VD,VE,VF,VG,VI,VJ,VK,VL,VN,VR,VU,VX,VY,Ua,Ub,Uc,Ud,Ue,Uf,Ug,Uh,Ui,Uq,Ur,Us,Ut,Uv,Uw,Uz,U0,U1,U2,U3,U4,U5,U6,UI,UK,UL,UM,UN,UP,UR,UT,UU,UX,Ta,Tb,Tc,Tl,Tm,Tn,Tp,Ts,Tv,T6,s0,O0,A0,w0,g0,b0,m0,wz,tz,t0,j1,j2,hx',c2,a8,a9,hx4,YC,n44,n4,n45,wr];all_goals tactic=>exact rfl))
  | true =>
    rw[hg]at c2
    rw[oT hg (by omega),bdT hg,mdT hg,s1,O0,A1]
    have u0:([]:List ByteArray)++[dT (dE s 0)]=[dT (dE s 0)]:=rfl
    rw[u0]
    have w2:wS [dT (dE s 0)] = .sl 1 0 1 1:=rfl
    have g3:vG [dT (dE s 0)] [dT (dE s 0)]=[some (.blk true (.cells true [.str (dT (dE s 0))])),some (.blk true (.cells true [.str (dT (dE s 0))]))]:=rfl
    rw[w2,g3]
    generalize dT (dE s 0)=X at *
    (sym=>(simp[aE,aF,aL,Za,Zb,Zd,Ze,Zf,Zh,Zl,Zm,Zn,Zo,Zu,Zy,Z0,Z8,ZD,ZI,ZL,ZT,ZV,ZZ,Ya,Yb,Yf,Yl,Yp,Yq,Yr,Yu,Y3,Y4,Y6,Y7,Y8,Y9,YG,YJ,YN,YX,Xa,Xb,Xc,Xg,Wa,Wd,We,Wf,Wh,Wi,Wj,Wk,Wm,Wn,Wo,Wq,Wr,Wt,Wu,Wv,Ww,Wx,Wy,Wz,WB,WC,WE,WF,WG,WJ,WK,WO,WQ,WR,WS,V0,V4,V5,V6,V7,V8,VC,VD,VE,VF,VG,VI,VJ,VK,VL,VN,VQ,VU,VX,VY,Ua,Ub,Uc,Ud,Ue,Uf,Ug,Uh,Ui,Uq,Ur,Us,Ut,Uv,Uw,Uz,U0,U1,U2,U3,U4,U5,U6,UA,UB,UF,UI,UK,UL,UM,UN,UP,UR,UT,UU,UX,Ta,Tb,Tc,Tl,Tm,Tn,Tp,Ts,Tv,T6,s0,O0,A0,w0,g0,b0,m0,wz,tz,t0,j1,j2,hx',c2,a8,a9,hx4,YC,n44,n4,n45,wr];all_goals tactic=>exact rfl))
 ·have s0:vS i = .sl 0 0 1 i:=if_neg hi0
  have e45:(i+1)*45=i*45+45:=by omega
  have a3':((i*45:Nat):Int).toNat=i*45:=rfl
  have g4:∀ O,O.length=0→vG (aS s i) O=[some (.blk true (.cells true (eB (aS s i))))]:=fun O h=>by unfold vG;rw[if_neg (by omega),if_pos h]
  have g5:∀ O,O.length≠0→vG (aS s i) O=[some (.blk true (.cells true (eB (aS s i)))),some (.blk true (.cells true (eB O)))]:=fun O h=>by unfold vG;rw[if_neg (by omega),if_neg h]
  rw[s0,s1]
  rcases tE ((i:Int)<(p:Int))with hip|hip
  ·have hip2:=of_eq_true hip
   by_cases hO:(oL s R p i).length=0
   ·have e0:=aBh hO
    cases hg:sW s R i with
    | false =>
      rw[hg]at c2
      rw[oF hg,bdF hg,mdF hg]
      rw[g4 _ hO,e0]
      have w0:wS ([]:List ByteArray) = .nilsl:=rfl
      rw[g1 _ rfl,w0]
      generalize aS s (i+1)=A1 at *
      generalize aS s i=A0 at *
      generalize dT (dE s i)=X at *
      generalize hG s R i=bd at *
      generalize eG s R i=md at *
      (sym=>(simp[aE,aF,aL,Za,Zb,Zd,Ze,Zf,Zh,Zl,Zm,Zn,Zo,Zu,Zy,Z0,Z8,ZI,ZT,ZV,ZZ,Ya,Yb,Yf,Yp,Yr,Yu,Yz,Y2,Y9,YG,YJ,YN,YP,YX,Xa,Xb,Xc,Xg,Xi,Wa,Wd,We,Wf,Wg,Wh,Wi,Wj,Wk,Wn,Wq,Wr,Wt,Wu,Wv,Ww,Wx,Wy,Wz,WB,WC,WE,WF,WG,WJ,WK,WO,WQ,WR,WS,V0,V4,V5,V6,V7,VC,VD,VE,VF,VG,VI,VJ,VK,VL,VN,VR,VU,VX,VY,Ua,Ub,Uc,Ud,Ue,Uf,Ug,Uh,Ui,Uq,Ur,Us,Ut,Uv,Uw,Uz,U0,U1,U2,U3,U4,U5,U7,U8,UI,UJ,UK,UL,UN,UP,UR,UT,UU,UX,Ta,Tb,Tc,Tl,Tm,Tn,Tp,Tq,Ts,Tv,T6,i1,a2,a3,a4,a5,a6,a6b,hx,hx4,YC,n44,n4,n45,wr,hip,c2,soA,lcA,lcA1,eH,grA1,at1,z2,z3,z5,z6,cL,cJ,cK,a7];all_goals tactic=>exact rfl))
    | true =>
      rw[hg]at c2
      rw[oT hg (by omega),bdT hg,mdT hg]
      rw[g4 _ hO,e0]
      have w0:wS ([]:List ByteArray) = .nilsl:=rfl
      have u0:([]:List ByteArray)++[dT (dE s i)]=[dT (dE s i)]:=rfl
      rw[u0,g2 _ (by simp)]
      have w2:wS [dT (dE s i)] = .sl 1 0 1 1:=rfl
      have u1:eB [dT (dE s i)]=[.str (dT (dE s i))]:=rfl
      rw[w0,w2,u1]
      generalize aS s (i+1)=A1 at *
      generalize aS s i=A0 at *
      generalize dT (dE s i)=X at *
      generalize hG s R i=bd at *
      generalize eG s R i=md at *
      (sym=>(simp[aE,aF,aL,Za,Zb,Zd,Ze,Zf,Zh,Zl,Zm,Zn,Zo,Zu,Zy,Z0,Z8,ZD,ZI,ZL,ZT,ZV,ZZ,Ya,Yb,Yf,Yl,Yp,Yq,Yr,Yu,Yz,Y2,Y9,YG,YJ,YN,YX,Xa,Xb,Xc,Xg,Wa,Wd,We,Wf,Wg,Wh,Wi,Wj,Wk,Wn,Wo,Wq,Wr,Wt,Wu,Wv,Ww,Wx,Wy,Wz,WB,WC,WE,WF,WG,WJ,WK,WO,WQ,WR,WS,V0,V4,V5,V6,V7,V8,VC,VD,VE,VF,VG,VI,VJ,VK,VL,VN,VQ,VU,VX,VY,Ua,Ub,Uc,Ud,Ue,Uf,Ug,Uh,Ui,Uq,Ur,Us,Ut,Uv,Uw,Uz,U0,U1,U2,U3,U4,U5,U6,U7,U8,UA,UB,UF,UI,UJ,UK,UL,UM,UN,UP,UR,UT,UU,UX,Ta,Tb,Tc,Tl,Tm,Tn,Tp,Tq,Tr,Ts,Tv,T6,i1,a2,a3,a4,a5,a6,a6b,hx,hx4,YC,n44,n4,n45,wr,hip,c2,soA,lcA,lcA1,eH,grA1,at1,z2,z3,z5,z6,cL,cJ,cK];all_goals tactic=>exact rfl))
   ·skip
    cases hg:sW s R i with
    | false =>
      rw[hg]at c2
      rw[oF hg,bdF hg,mdF hg]
      have w0:wS (oL s R p i) = .sl 1 0 1 (oL s R p i).length:=if_neg hO
      rw[g5 _ hO,g2 _ hO,w0]
      generalize oL s R p i++[dT (dE s i)]=O1 at *
      generalize hOO:oL s R p i=O at *
      generalize O.length=lo at *
      generalize aS s (i+1)=A1 at *
      generalize aS s i=A0 at *
      generalize dT (dE s i)=X at *
      generalize hG s R i=bd at *
      generalize eG s R i=md at *
      (sym=>(simp[aE,aF,aL,Za,Zb,Zd,Ze,Zf,Zh,Zl,Zm,Zn,Zo,Zu,Zy,Z0,Z8,ZI,ZT,ZV,ZZ,Ya,Yb,Yf,Yp,Yr,Yu,Yz,Y2,Y9,YG,YJ,YN,YX,Xa,Xb,Xc,Xg,Wa,Wd,We,Wf,Wg,Wh,Wi,Wj,Wk,Wn,Wo,Wq,Wr,Wt,Wu,Wv,Ww,Wx,Wy,Wz,WB,WC,WE,WF,WG,WJ,WK,WO,WQ,WR,WS,V0,V4,V5,V6,V7,VC,VD,VE,VF,VG,VI,VJ,VK,VL,VN,VR,VU,VX,VY,Ua,Ub,Uc,Ud,Ue,Uf,Ug,Uh,Ui,Uq,Ur,Us,Ut,Uv,Uw,Uz,U0,U1,U2,U3,U4,U5,U7,U8,UI,UJ,UK,UL,UN,UP,UR,UT,UU,UX,Ta,Tb,Tc,Tl,Tm,Tn,Tp,Tq,Ts,Tv,T6,i1,a2,a3,a4,a5,a6,a6b,hx,hx4,YC,n44,n4,n45,wr,hip,c2,soA,lcA,lcA1,eH,grA1,at1,z2,z3,z5,z6,cL,cJ,cK,lcO,grO,a7];all_goals tactic=>exact rfl))
    | true =>
      rw[hg]at c2
      rw[oT hg (by omega),bdT hg,mdT hg]
      have w0:wS (oL s R p i) = .sl 1 0 1 (oL s R p i).length:=if_neg hO
      rw[g5 _ hO,g2 _ (by rw[lO1];omega),w0,w1]
      generalize oL s R p i++[dT (dE s i)]=O1 at *
      generalize hOO:oL s R p i=O at *
      generalize O.length=lo at *
      generalize aS s (i+1)=A1 at *
      generalize aS s i=A0 at *
      generalize dT (dE s i)=X at *
      generalize hG s R i=bd at *
      generalize eG s R i=md at *
      (sym=>(simp[aE,aF,aL,Za,Zb,Zd,Ze,Zf,Zh,Zl,Zm,Zn,Zo,Zu,Zy,Z0,Z8,ZD,ZI,ZL,ZT,ZV,ZZ,Ya,Yb,Yf,Yl,Yp,Yq,Yr,Yu,Yz,Y2,Y9,YG,YJ,YN,YX,Xa,Xb,Xc,Xg,Wa,Wd,We,Wf,Wg,Wh,Wi,Wj,Wk,Wn,Wo,Wq,Wr,Wt,Wu,Wv,Ww,Wx,Wy,Wz,WB,WC,WE,WF,WG,WJ,WK,WO,WQ,WR,WS,V0,V4,V5,V6,V7,V8,VC,VD,VE,VF,VG,VI,VJ,VK,VL,VN,VQ,VU,VX,VY,Ua,Ub,Uc,Ud,Ue,Uf,Ug,Uh,Ui,Uq,Ur,Us,Ut,Uv,Uw,Uz,U0,U1,U2,U3,U4,U5,U7,U8,UA,UB,UF,UI,UJ,UK,UL,UN,UP,UR,UT,UU,UX,Ta,Tb,Tc,Tl,Tm,Tn,Tp,Tq,Tr,Ts,Tv,T6,i1,a2,a3,a4,a5,a6,a6b,hx,hx4,YC,n44,n4,n45,wr,hip,c2,soA,lcA,lcA1,eH,grA1,at1,z2,z3,z5,z6,cL,cJ,cK,soO,grO1,y2,y3,lcO,grO];all_goals tactic=>exact rfl))
  ·have hip2:=of_eq_false hip
   by_cases hO:(oL s R p i).length=0
   ·have e0:=aBh hO
    cases hg:sW s R i with
    | false =>
      rw[hg]at c2
      rw[oF hg,bdF hg,mdF hg]
      rw[g4 _ hO,e0]
      have w0:wS ([]:List ByteArray) = .nilsl:=rfl
      rw[g1 _ rfl,w0]
      generalize aS s (i+1)=A1 at *
      generalize aS s i=A0 at *
      generalize dT (dE s i)=X at *
      generalize hG s R i=bd at *
      generalize eG s R i=md at *
      (sym=>(simp[aE,aF,aL,Za,Zb,Zd,Ze,Zf,Zh,Zl,Zm,Zn,Zo,Zu,Zy,Z0,Z8,ZI,ZT,ZV,ZZ,Ya,Yb,Yf,Yp,Yr,Yu,Yz,Y2,Y9,YG,YJ,YN,YP,YX,Xa,Xb,Xc,Xg,Xi,Wa,Wd,We,Wf,Wg,Wh,Wi,Wj,Wk,Wn,Wq,Wr,Wt,Wu,Wv,Ww,Wx,Wy,Wz,WB,WC,WE,WF,WG,WJ,WK,WO,WQ,WR,WS,V0,V4,V5,V6,V7,VC,VD,VE,VF,VG,VI,VJ,VK,VL,VN,VR,VU,VX,VY,Ua,Ub,Uc,Ud,Ue,Uf,Ug,Uh,Ui,Uq,Ur,Us,Ut,Uv,Uw,Uz,U0,U1,U2,U3,U4,U5,U7,U8,UI,UJ,UK,UL,UN,UP,UR,UT,UU,UX,Ta,Tb,Tc,Tl,Tm,Tn,Tp,Tq,Ts,Tv,T6,i1,a2,a3,a4,a5,a6,a6b,hx,hx4,YC,n44,n4,n45,wr,hip,c2,soA,lcA,lcA1,eH,grA1,at1,z2,z3,z5,z6,cL,cJ,cK,a7];all_goals tactic=>exact rfl))
    | true =>
      rw[hg]at c2
      rw[oN (by omega),bdT hg,mdT hg]
      rw[g4 _ hO,e0]
      have w0:wS ([]:List ByteArray) = .nilsl:=rfl
      rw[g1 _ rfl,w0]
      generalize aS s (i+1)=A1 at *
      generalize aS s i=A0 at *
      generalize dT (dE s i)=X at *
      generalize hG s R i=bd at *
      generalize eG s R i=md at *
      (sym=>(simp[aE,aF,aL,Za,Zb,Zd,Ze,Zf,Zh,Zl,Zm,Zn,Zo,Zu,Zy,Z0,Z8,ZI,ZT,ZV,ZZ,Ya,Yb,Yf,Yp,Yq,Yr,Yu,Yz,Y2,Y9,YG,YJ,YN,YP,YX,Xa,Xb,Xc,Xg,Xi,Wa,Wd,We,Wf,Wg,Wh,Wi,Wj,Wk,Wn,Wq,Wr,Wt,Wu,Wv,Ww,Wx,Wy,Wz,WB,WC,WE,WF,WG,WJ,WK,WO,WQ,WR,WS,V0,V4,V5,V6,V7,V8,VC,VD,VE,VF,VG,VI,VJ,VK,VL,VN,VQ,VU,VX,VY,VZ,Ua,Ub,Uc,Ud,Ue,Uf,Ug,Uh,Ui,Uq,Ur,Us,Ut,Uv,Uw,Uz,U0,U1,U2,U3,U4,U5,U7,U8,UI,UJ,UK,UL,UN,UP,UR,UT,UU,UX,Ta,Tb,Tc,Tl,Tm,Tn,Tp,Tq,Ts,Tv,T6,i1,a2,a3,a4,a5,a6,a6b,hx,hx4,YC,n44,n4,n45,wr,hip,c2,soA,lcA,lcA1,eH,grA1,at1,z2,z3,z5,z6,cL,cJ,cK];all_goals tactic=>exact rfl))
   ·skip
    cases hg:sW s R i with
    | false =>
      rw[hg]at c2
      rw[oF hg,bdF hg,mdF hg]
      have w0:wS (oL s R p i) = .sl 1 0 1 (oL s R p i).length:=if_neg hO
      rw[g5 _ hO,g2 _ hO,w0]
      generalize oL s R p i++[dT (dE s i)]=O1 at *
      generalize hOO:oL s R p i=O at *
      generalize O.length=lo at *
      generalize aS s (i+1)=A1 at *
      generalize aS s i=A0 at *
      generalize dT (dE s i)=X at *
      generalize hG s R i=bd at *
      generalize eG s R i=md at *
      (sym=>(simp[aE,aF,aL,Za,Zb,Zd,Ze,Zf,Zh,Zl,Zm,Zn,Zo,Zu,Zy,Z0,Z8,ZI,ZT,ZV,ZZ,Ya,Yb,Yf,Yp,Yr,Yu,Yz,Y2,Y9,YG,YJ,YN,YX,Xa,Xb,Xc,Xg,Wa,Wd,We,Wf,Wg,Wh,Wi,Wj,Wk,Wn,Wo,Wq,Wr,Wt,Wu,Wv,Ww,Wx,Wy,Wz,WB,WC,WE,WF,WG,WJ,WK,WO,WQ,WR,WS,V0,V4,V5,V6,V7,VC,VD,VE,VF,VG,VI,VJ,VK,VL,VN,VR,VU,VX,VY,Ua,Ub,Uc,Ud,Ue,Uf,Ug,Uh,Ui,Uq,Ur,Us,Ut,Uv,Uw,Uz,U0,U1,U2,U3,U4,U5,U7,U8,UI,UJ,UK,UL,UN,UP,UR,UT,UU,UX,Ta,Tb,Tc,Tl,Tm,Tn,Tp,Tq,Ts,Tv,T6,i1,a2,a3,a4,a5,a6,a6b,hx,hx4,YC,n44,n4,n45,wr,hip,c2,soA,lcA,lcA1,eH,grA1,at1,z2,z3,z5,z6,cL,cJ,cK,lcO,grO,a7];all_goals tactic=>exact rfl))
    | true =>
      rw[hg]at c2
      rw[oN (by omega),bdT hg,mdT hg]
      have w0:wS (oL s R p i) = .sl 1 0 1 (oL s R p i).length:=if_neg hO
      rw[g5 _ hO,g2 _ hO,w0]
      generalize oL s R p i++[dT (dE s i)]=O1 at *
      generalize hOO:oL s R p i=O at *
      generalize O.length=lo at *
      generalize aS s (i+1)=A1 at *
      generalize aS s i=A0 at *
      generalize dT (dE s i)=X at *
      generalize hG s R i=bd at *
      generalize eG s R i=md at *
      (sym=>(simp[aE,aF,aL,Za,Zb,Zd,Ze,Zf,Zh,Zl,Zm,Zn,Zo,Zu,Zy,Z0,Z8,ZI,ZT,ZV,ZZ,Ya,Yb,Yf,Yp,Yq,Yr,Yu,Yz,Y2,Y9,YG,YJ,YN,YX,Xa,Xb,Xc,Xg,Wa,Wd,We,Wf,Wg,Wh,Wi,Wj,Wk,Wn,Wo,Wq,Wr,Wt,Wu,Wv,Ww,Wx,Wy,Wz,WB,WC,WE,WF,WG,WJ,WK,WO,WQ,WR,WS,V0,V4,V5,V6,V7,V8,VC,VD,VE,VF,VG,VI,VJ,VK,VL,VN,VQ,VU,VX,VY,VZ,Ua,Ub,Uc,Ud,Ue,Uf,Ug,Uh,Ui,Uq,Ur,Us,Ut,Uv,Uw,Uz,U0,U1,U2,U3,U4,U5,U7,U8,UI,UJ,UK,UL,UN,UP,UR,UT,UU,UX,Ta,Tb,Tc,Tl,Tm,Tn,Tp,Tq,Ts,Tv,T6,i1,a2,a3,a4,a5,a6,a6b,hx,hx4,YC,n44,n4,n45,wr,hip,c2,soA,lcA,lcA1,eH,grA1,at1,z2,z3,z5,z6,cL,cJ,cK,lcO,grO];all_goals tactic=>exact rfl))
theorem aEJ:rR = .loop [0,1,7,8,9,10,11,12] (match rR with | .loop _ a=>a|c=>c):=rfl
theorem w17 {s:ByteArray} {row:Int} (hz:s.size≤1000000):runW aH 17 [.str s,I row] []=some (tI s row,[]):=by
 rw[q17 (by simp),aIB];unfold aJX;dsimp only
 have c1:=w39 row 0 1000
 have d1:tdZ (s.size:Int) 45=((s.size/45:Nat):Int):=tX s.size 45
 have d2:tmZ (s.size:Int) 45=((s.size%45:Nat):Int):=jH s.size 45
 have d3:IntKind.i64.wrap ((s.size/45:Nat):Int)=((s.size/45:Nat):Int):=aG (by omega) (by omega)
 cases hb:decide (0≤row)&&decide (row≤1000)with
 | false =>
   rw[hb]at c1
   have hv:tI s row=oH 2:=by unfold tI;rw[hb,if_neg (by decide)]
   rw[hv];unfold oH
   (sym=>(simp[aE,aF,aL,Za,Zb,Zf,Zh,Zl,Zm,Zu,Z8,ZT,ZV,Ya,Yb,Yf,YG,YL,YM,Xa,Xb,Xe,Xf,Xl,Xp,Xs,XK,XM,XO,XX,Wk,Wl,Wt,Ww,Wx,Wy,WB,WC,WF,WG,WQ,WR,WS,Ve,Vm,Vn,Vo,Vp,Vq,Vr,Vt,Vu,Vv,Vw,Vx,Vz,V6,V7,VB,VC,VD,VF,VG,VI,VK,VR,Uc,Ud,Ue,Uf,Ug,Uj,Uk,Un,Uo,UP,UQ,UU,UW,Tb,Tc,Ty,c1,d1,d2,d3];all_goals tactic=>exact rfl))
 | true =>
   rw[hb]at c1
   rcases tE (s.size%45=0)with h0|h0
   ·have h0':=of_eq_true h0
    have z0:(((s.size%45:Nat):Int)=0)=True:=eq_true (by omega)
    rcases tE (s.size/45<2)with h2|h2
    ·have h2':=of_eq_true h2
     have z2:(((s.size/45:Nat):Int)<2)=True:=eq_true (by omega)
     have hv:tI s row=oH 20:=by unfold tI;rw[hb,if_pos rfl,if_pos (Or.inr h2')]
     rw[hv];unfold oH
     generalize s.size%45=rm at *
     generalize s.size/45=n at *
     (sym=>(simp[aE,aF,aL,Za,Zb,Zf,Zh,Zl,Zm,Zp,Zr,Zu,Zw,Z0,Z8,ZK,ZT,ZV,Ya,Yb,Yd,Yf,Yk,Yt,Yu,YG,YL,YM,Xa,Xb,Xe,Xf,Xl,Xp,Xs,XK,XM,XO,XX,Wk,Wl,Wt,Ww,Wx,Wy,WB,WC,WF,WG,WQ,WR,WS,Ve,Vm,Vn,Vo,Vp,Vq,Vr,Vt,Vu,Vv,Vw,Vx,Vz,V6,V7,V8,VB,VC,VD,VF,VG,VI,VK,VQ,VY,VZ,Uc,Ud,Ue,Uf,Ug,Uj,Uk,Un,Uo,UN,UP,UQ,UR,UU,UW,Tb,Tc,Ty,c1,d1,d2,d3,z0,z2];all_goals tactic=>exact rfl))
    ·have h2':=of_eq_false h2
     have z2:(((s.size/45:Nat):Int)<2)=False:=eq_false (by omega)
     rcases tE (6<s.size/45)with h6|h6
     ·have h6':=of_eq_true h6
      have z6:((6:Int)<((s.size/45:Nat):Int))=True:=eq_true (by omega)
      have hv:tI s row=oH 1:=by unfold tI;rw[hb,if_pos rfl,if_neg (by omega),if_pos h6']
      rw[hv];unfold oH
      generalize s.size%45=rm at *
      generalize s.size/45=n at *
      (sym=>(simp[aE,aF,aL,Za,Zb,Zf,Zh,Zl,Zm,Zp,Zr,Zu,Zw,Z0,Z8,ZK,ZT,ZV,Ya,Yb,Yd,Yf,Yk,Yt,Yu,Yw,YG,YL,YM,Xa,Xb,Xe,Xf,Xl,Xp,Xs,XK,XM,XO,XX,Wk,Wl,Wt,Ww,Wx,Wy,WB,WC,WF,WG,WQ,WR,WS,Ve,Vm,Vn,Vo,Vp,Vq,Vr,Vt,Vu,Vv,Vw,Vx,Vz,V6,V7,V8,VB,VC,VD,VF,VG,VI,VK,VQ,VY,VZ,Uc,Ud,Ue,Uf,Ug,Uj,Uk,Un,Uo,UN,UP,UQ,UR,UU,UW,Tb,Tc,Ty,c1,d1,d2,d3,z0,z2,z6];all_goals tactic=>exact rfl))
     ·have h6':=of_eq_false h6
      have z6:((6:Int)<((s.size/45:Nat):Int))=False:=eq_false (by omega)
      have hv:tI s row=gY (dK s (s.size/45)) (s.size/45-1) (hG s row.toNat (s.size/45)) (eG s row.toNat (s.size/45)):=by unfold tI;rw[hb,if_pos rfl,if_neg (by omega),if_neg h6']
      rw[hv]
      have hsz:s.size/45*45=s.size:=by omega
      simp only[Bool.and_eq_true,decide_eq_true_eq]at hb
      obtain⟨R,hR⟩:∃ R:Nat,row=(R:Int):=⟨row.toNat,by omega⟩
      have hR1:row.toNat=R:=by omega
      rw[hR1]
      subst hR
      generalize s.size%45=rm at *
      generalize s.size/45=n at *
      obtain⟨p,hp⟩:∃ p,n=p+1:=⟨n-1,by omega⟩
      have hnp:n-1=p:=by omega
      rw[hnp]
      have x0:((n:Int)<(n:Int))=False:=eq_false (by omega)
      have wr:IntKind.i64.wrap ((n:Int)-1)=(p:Int):=by rw[aG (by omega) (by omega)];omega
      sym =>
       simp[aE,aF,aL,Za,Zb,Zf,Zh,Zl,Zm,Zp,Zr,Zu,Zw,Z0,Z8,ZK,ZT,ZV,Ya,Yb,Yd,Yf,Yk,Yt,Yu,Yw,YG,Xa,Xb,XK,XM,Wk,Wl,Wt,Ww,Wy,WF,WG,WQ,WR,WS,Vz,V6,V8,VB,VC,VD,VF,VG,VK,VQ,VY,VZ,Uc,Ud,Ue,Uf,Ug,Un,Uo,UN,UP,UR,UT,UU,Tb,Tc,c1,d1,d2,d3,z0,z2,z6]
       tactic =>
        rw[aEJ]
        rw[aY n (fun i=>[.str s,I (R:Int),I (n:Nat),vS i,wS (oL s R p i),I (hG s R i),I (eG s R i:Nat),I (i:Nat)]) (fun i=>vG (aS s i) (oL s R p i))]
        ·unfold rR
         dsimp only
         have s0:vS n = .sl 0 0 1 n:=if_neg (by omega)
         have lA:=aCH s n
         have lcA:=cX (aS s n)
         rw[lA]at lcA
         have eH:=dP (aS s n)
         have g4:∀ O,O.length=0→vG (aS s n) O=[some (.blk true (.cells true (eB (aS s n))))]:=fun O h=>by unfold vG;rw[if_neg (by omega),if_pos h]
         have g5:∀ O,O.length≠0→vG (aS s n) O=[some (.blk true (.cells true (eB (aS s n)))),some (.blk true (.cells true (eB O)))]:=fun O h=>by unfold vG;rw[if_neg (by omega),if_neg h]
         have flO:=aLP (s:=s) (row:=R) (p:=p) (i:=n) (n:=n) (Nat.le_refl _) (by omega)
         have leO:=aIn s R p n
         have lcO:=cX (oL s R p n)
         have grO:=dP (oL s R p n)
         have chO:=zL (oL s R p n)
         have pO:((oL s R p n).length*1≤(oL s R p n).length)=True:=eq_true (by omega)
         have hC:=lU s n
         have bA:=fun i hi=>aNk (s:=s) (n:=n) (i:=i) hi (by omega)
         have zA:=fun i hi=>aNj (s:=s) (n:=n) (i:=i) hi (by omega)
         have atp:(eB (aS s n))[p]?=some (.str (dT (dE s p))):=by
          unfold eB
          rw[List.getElem?_map,aBH (by omega)];rfl
         have y1:((p:Int)<(n:Int))=True:=eq_true (by omega)
         have gdp:=fun h=>aIp (s:=s) (row:=R) (k:=p) (n:=n) (by omega) (by omega) h
         have fp:bN (dT (dE s p))=dB (dK s n) p:=by
          have:=bA p (by omega)
          rw[List.getD_eq_getElem?_getD,aBH (by omega)]at this
          exact this
         have LAe:LA (aS s n) p=qP (dK s n) p:=aIx fun i hi=>bA i (by omega)
         rcases tE ((1:Int)<(eG s R n:Int))with k1|k1
         ·have hv:gY (dK s n) p (hG s R n) (eG s R n)=oH 19:=by unfold gY;rw[if_pos (by have:=of_eq_true k1;omega)]
          rw[hv];unfold oH
          generalize eG s R n=md at *
          generalize hG s R n=bd at *
          by_cases hO:(oL s R p n).length=0
          ·rw[g4 _ hO,aBh hO]
           have w0:wS ([]:List ByteArray) = .nilsl:=rfl
           (sym=>(simp[aE,aF,aL,Za,Zb,Zf,Zh,Zl,Zm,Zu,Z0,Yu,Yw,YG,YL,YM,Xa,Xe,Xf,Xl,Xp,Xs,XK,XO,XX,Wt,Wx,Wz,WB,WC,Ve,Vm,Vn,Vo,Vp,Vq,Vr,Vt,Vu,Vv,Vw,Vx,V0,V6,V7,V8,VD,VG,VI,VY,VZ,Ud,Ue,Uf,Ug,Uj,Uk,Un,Uo,U9,UN,UP,UQ,US,UU,UV,UW,UZ,Tb,Tc,Ty,s0,w0,x0,k1,eH,lcA];all_goals tactic=>exact rfl))
          ·have w0:wS (oL s R p n) = .sl 1 0 1 (oL s R p n).length:=if_neg hO
           rw[g5 _ hO]
           (sym=>(simp[aE,aF,aL,Za,Zb,Zf,Zh,Zl,Zm,Zu,Z0,Yu,Yw,YG,YL,YM,Xa,Xe,Xf,Xl,Xp,Xs,XK,XO,XX,Wt,Wx,Wz,WB,WC,Ve,Vm,Vn,Vo,Vp,Vq,Vr,Vt,Vu,Vv,Vw,Vx,V0,V6,V7,V8,VD,VG,VI,VY,VZ,Ud,Ue,Uf,Ug,Uj,Uk,Un,Uo,U9,UN,UP,UQ,US,UU,UV,UW,UZ,Tb,Tc,Ty,s0,w0,x0,k1,eH,lcA,grO,lcO];all_goals tactic=>exact rfl))
         ·have k1':¬1<eG s R n:=by have:=of_eq_false k1;omega
          rcases tE ((eG s R n:Int)=0)with k0|k0
          ·have k0':eG s R n=0:=by have:=of_eq_true k0;omega
           have all:=aJp k0'
           have sm:=xL (s:=s) (row:=R) (p:=p) (C:=dK s n) (q:=fun _=>true) (fun i hi=>all i (by omega)) (by rw[hC,hp]) (fun i hi=>by rw[if_pos rfl,aAx (by omega)])
           rw[←hp]at sm
           have c9:=w49 flO (by omega)
           rw[sm]at c9
           have by9:wQ (bZ (dK s n) p):=nT p
           have ne:=jS (fP (bZ (dK s n) p)) (dT (dE s p))
           rw[aHi by9,fp]at ne
           have hbd:∀ m,(∀ i,i<m→sW s R i=true)→hG s R m = -1:=fun m=>by
            induction m with
            | zero=>exact fun _=>rfl
            | succ m ih=>exact fun h=>by rw[hG,h m (by omega),if_pos rfl];exact ih fun i hi=>h i (by omega)
           have hbd':=hbd n all
           have hO:(oL s R p n).length≠0:=by
            have:0<(oL s R p n).length:=by
             unfold oL
             rw[List.length_map]
             refine List.length_pos_of_mem (a:=0) (List.mem_filter.2 ⟨List.mem_range.2 (by omega),?_⟩)
             unfold oLc
             rw[all 0 (by omega),decide_eq_true (show 0<p by omega)];rfl
            omega
           have w0:wS (oL s R p n) = .sl 1 0 1 (oL s R p n).length:=if_neg hO
           rw[g5 _ hO]
           rcases aDE (decide (bZ (dK s n) p=dB (dK s n) p))with hq|hq
           ·rw[hq]at ne
            have hv:gY (dK s n) p (hG s R n) (eG s R n)=oH 22:=by unfold gY;rw[if_neg k1',if_pos ⟨k0',of_decide_eq_false hq⟩]
            rw[hv];unfold oH
            generalize eG s R n=md at *
            generalize hG s R n=bd at *
            generalize oL s R p n=O at *
            generalize fP (bZ (dK s n) p)=NB at *
            generalize dT (dE s p)=X at *
            (sym=>(simp[aE,aF,aL,Za,Zb,Ze,Zf,Zg,Zh,Zk,Zl,Zm,Zp,Zq,Zu,Zw,Z0,ZD,ZM,ZO,ZR,ZW,ZX,Ya,Yb,Yc,Yl,Yq,Ys,Yu,Yw,Yz,Y2,YG,YL,YM,Xa,Xc,Xe,Xf,Xl,Xp,Xr,Xs,Xx,XI,XK,XO,XV,XX,Wd,We,Wf,Wg,Wk,Wt,Ww,Wx,Wy,Wz,WB,WC,WF,WG,WQ,WR,WS,WU,WV,WW,WX,Vb,Vc,Vd,Ve,Vf,Vg,Vh,Vi,Vj,Vl,Vm,Vn,Vo,Vp,Vq,Vr,Vt,Vu,Vv,Vw,Vx,V0,V6,V7,V8,VC,VD,VF,VG,VI,VJ,VK,VN,VR,VS,VT,VU,VV,VY,VZ,Ua,Ub,Uc,Ud,Ue,Uf,Ug,Uj,Uk,Un,Uo,U9,UA,UB,UF,UN,UO,UP,UQ,UR,US,UU,UV,UW,UZ,Tb,Tc,Tq,Tr,Tt,Ty,Tz,T2,T7,T8,T9,TA,TB,TC,s0,w0,x0,k1,k0,wr,eH,lcA,grO,lcO,chO,pO,c9,ne,atp,y1,cL,cJ,cK];all_goals tactic=>exact rfl))
           ·rw[hq]at ne
            have hz9:¬(eG s R n=0∧bZ (dK s n) p≠dB (dK s n) p):=fun hh=>hh.2 (of_decide_eq_true hq)
            have hv:gY (dK s n) p (hG s R n) (eG s R n)=oQ (dK s n) p (eG s R n):=by unfold gY;rw[if_neg k1',if_neg hz9,if_neg (by omega)]
            rw[hv,hbd']
            unfold oQ
            rw[←LAe]
            have t:=fun(e:aC) (H2:XH)=>t17 (A:=aS s n) (n:=n) (p:=p) (md:=eG s R n) (e:=e) (H2:=H2) hp lA (fun i hi=>zA i (by omega)) (by omega) (by omega)
            generalize eG s R n=md at *
            generalize oL s R p n=O at *
            generalize fP (bZ (dK s n) p)=NB at *
            generalize dT (dE s p)=X at *
            sym =>
             simp[aE,aF,aL,Za,Zb,Ze,Zf,Zg,Zh,Zk,Zl,Zm,Zp,Zq,Zs,Zu,Zw,Z0,ZD,ZM,ZO,ZR,ZW,ZX,Ya,Yb,Yc,Yd,Yl,Yq,Ys,Yu,Yw,Yx,Yz,Y2,YM,Xc,Xf,Xr,Xx,XI,XV,Wd,We,Wf,Wg,Wk,Wt,Ww,Wy,WF,WG,WQ,WR,WS,WU,WV,WW,WX,Vb,Vc,Vd,Ve,Vf,Vg,Vh,Vi,Vj,Vl,V0,V6,V8,VC,VD,VF,VG,VJ,VK,VN,VQ,VR,VS,VT,VU,VV,VY,VZ,Ua,Ub,Uc,Ud,Ue,Uf,Ug,U9,UA,UB,UF,UN,UO,UP,UR,US,UU,UV,UZ,Tb,Tc,Tq,Tr,Tt,Ty,Tz,T2,T7,T8,T9,TA,TB,TC,s0,w0,x0,k1,k0,wr,eH,lcA,grO,lcO,chO,pO,c9,ne,atp,y1,cL,cJ,cK]
             tactic=>exact t _ _ rfl rfl rfl
          ·have k0':eG s R n=1:=by have:=of_eq_false k0;omega
           obtain⟨r,r1,r2,r3,r4⟩:=aLV k0'
           have hz9:¬(eG s R n=0∧bZ (dK s n) p≠dB (dK s n) p):=fun hh=>by omega
           have rz:((0:Int)≤(r:Int))=True:=eq_true (by omega)
           rcases tE ((r:Int)<(p:Int))with hrp|hrp
           ·have hrp':r<p:=by have:=of_eq_true hrp;omega
            have hv:gY (dK s n) p (hG s R n) (eG s R n)=oQ (aBn (dK s n) p r) p (eG s R n):=by unfold gY;rw[if_neg k1',if_neg hz9,r2,if_pos (by omega)];rfl
            rw[hv,r2]
            unfold oQ
            have le0:=eK []
            have hC1:=mF (k:=r) hC (by omega) le0
            have hC1':(fI (dK s n) r (bO [])).length=(p+1)*40:=by rw[hC1,hp]
            have fs:=fun i hi=>aDr (C:=dK s n) (n:=n) (k:=r) (f:=bO []) hC (by omega) le0 (i:=i) hi
            have sm:=xL (s:=s) (row:=R) (p:=p) (C:=fI (dK s n) r (bO [])) (q:=fun i => !decide (i=r)) (fun i hi=>by
             by_cases h:i=r
             ·subst h;rw[r3,decide_eq_true rfl];rfl
             ·rw[r4 i (by omega) h,decide_eq_false h];rfl) hC1' (fun i hi=>by
             rw[fs i (by omega)]
             by_cases h:i=r
             ·rw[if_pos h,decide_eq_true h];rfl
             ·rw[if_neg h,decide_eq_false h,aAx (by omega)];rfl)
            rw[←hp]at sm
            have gp:=gdp (r4 p (by omega) (by omega))
            have c9:=w50 flO (by omega) gp.1 gp.2
            have f1:dB (fI (dK s n) r (bO [])) p=bN (dT (dE s p)):=by rw[fs p (by omega),if_neg (by omega),fp]
            rw[sm,←f1]at c9
            have lp:(bU 94 (dB (fI (dK s n) r (bO [])) p) (bZ (fI (dK s n) r (bO [])) p)).length=40:=by
             have l1:=qU hC1 hp
             rw[gJ (by rw[l1,cY (n:=p) (by omega) p (Nat.le_refl _)])];exact l1
            have bp:=jZ (t:=94) (l:=dB (fI (dK s n) r (bO [])) p) (m:=bZ (fI (dK s n) r (bO [])) p)
            have LAe2:LA ((aS s n).set r (fP (bU 94 (dB (fI (dK s n) r (bO [])) p) (bZ (fI (dK s n) r (bO [])) p)))) p=qP (aBn (dK s n) p r) p:=by
             refine aIx fun i hi=>?_
             unfold aBn
             rw[aDr hC1 (by omega) lp (by omega),List.getD_eq_getElem?_getD,List.getElem?_set]
             by_cases h:i=r
             ·subst h
              rw[if_pos rfl,if_pos (by omega),if_pos rfl]
              exact rO bp
             ·rw[if_neg (fun e=>h e.symm),if_neg h,fs i (by omega),if_neg h,←List.getD_eq_getElem?_getD]
              exact bA i (by omega)
            rw[←LAe2]
            have st:=aGM (A:=aS s n) (r:=r) (x:=fP (bU 94 (dB (fI (dK s n) r (bO [])) p) (bZ (fI (dK s n) r (bO [])) p))) (by omega)
            have zV:(fP (bU 94 (dB (fI (dK s n) r (bO [])) p) (bZ (fI (dK s n) r (bO [])) p))).size=40:=by rw[iO,lp]
            generalize fP (bU 94 (dB (fI (dK s n) r (bO [])) p) (bZ (fI (dK s n) r (bO [])) p))=V at *
            have t:=fun(e:aC) (H2:XH)=>t17 (A:=(aS s n).set r V) (n:=n) (p:=p) (md:=eG s R n) (e:=e) (H2:=H2) hp (by rw[List.length_set];exact lA) (fun i hi=>by
             rw[List.getD_eq_getElem?_getD,List.getElem?_set]
             by_cases h:r=i
             ·rw[if_pos h,if_pos (by omega)];show V.size≤_;omega
             ·rw[if_neg h,←List.getD_eq_getElem?_getD];exact zA i (by omega)) (by omega) (by omega)
            have j1:((r:Int)<(n:Int))=True:=eq_true (by omega)
            have j2:(r+1≤n)=True:=eq_true (by omega)
            have gA1:=dP ((aS s n).set r V)
            generalize (aS s n).set r V=A1 at *
            generalize eG s R n=md at *
            generalize hG s R n=bd at *
            by_cases hO:(oL s R p n).length=0
            ·rw[g4 _ hO]
             rw[aBh hO]at c9 ⊢
             have w0:wS ([]:List ByteArray) = .nilsl:=rfl
             have rn:rS ([]:List ByteArray)=[]:=rfl
             rw[rn]at c9
             generalize dT (dE s p)=X at *
             sym =>
              simp[aE,aF,aL,Za,Zb,Zc,Zf,Zg,Zh,Zj,Zk,Zl,Zm,Zp,Zq,Zs,Zu,Zw,Z0,ZD,ZL,ZP,ZQ,ZT,ZV,Ya,Yb,Yc,Yd,Yl,Yq,Ys,Yu,Yw,Yx,Yz,Y2,YJ,YM,YX,Xc,Xf,Xq,Xs,XV,XX,Wa,Wd,We,Wf,Wg,Wk,Wt,Ww,Wy,WF,WG,WQ,WR,WS,Ve,Vg,Vh,Vi,V0,V6,V7,V8,VC,VD,VF,VG,VJ,VK,VN,VU,VY,VZ,Uc,Ud,Ue,Uf,Ug,Uh,Ui,U9,UA,UB,UF,UG,UH,UN,UP,UR,US,UU,UV,UZ,Tb,Tc,Tq,Tr,Ty,T7,T8,T9,TA,TB,TC,s0,w0,x0,k1,k0,wr,rz,hrp,eH,lcA,gA1,c9,atp,y1,st,j1,j2,cL,cJ,cK]
              tactic=>exact t _ _ rfl rfl rfl
            ·have w0:wS (oL s R p n) = .sl 1 0 1 (oL s R p n).length:=if_neg hO
             rw[g5 _ hO]
             generalize oL s R p n=O at *
             generalize dT (dE s p)=X at *
             sym =>
              simp[aE,aF,aL,Za,Zb,Zc,Zf,Zg,Zh,Zj,Zk,Zl,Zm,Zp,Zq,Zs,Zu,Zw,Z0,ZD,ZL,ZP,ZQ,ZT,ZV,Ya,Yb,Yc,Yd,Yl,Yq,Ys,Yu,Yw,Yx,Yz,Y2,YJ,YM,YX,Xc,Xf,Xq,Xr,Xx,XI,XV,Wa,Wd,We,Wf,Wg,Wk,Wt,Ww,Wy,WF,WG,WQ,WR,WS,Vb,Vc,Vd,Ve,Vf,Vg,Vh,Vi,Vj,Vl,V0,V6,V7,V8,VC,VD,VF,VG,VJ,VK,VN,VU,VV,VY,VZ,Uc,Ud,Ue,Uf,Ug,Uh,Ui,U9,UA,UB,UF,UG,UH,UN,UP,UR,US,UU,UV,UZ,Tb,Tc,Tq,Tr,Tt,Ty,Tz,T2,T7,T8,T9,TA,TB,TC,s0,w0,x0,k1,k0,wr,rz,hrp,eH,lcA,gA1,grO,lcO,chO,pO,c9,atp,y1,st,j1,j2,cL,cJ,cK]
              tactic=>exact t _ _ rfl rfl rfl
           ·have hrp':¬r<p:=by have:=of_eq_false hrp;omega
            have hv:gY (dK s n) p (hG s R n) (eG s R n)=oQ (dK s n) p (eG s R n):=by unfold gY;rw[if_neg k1',if_neg hz9,r2,if_neg (by omega)]
            rw[hv,r2]
            unfold oQ
            rw[←LAe]
            have t:=fun(e:aC) (H2:XH)=>t17 (A:=aS s n) (n:=n) (p:=p) (md:=eG s R n) (e:=e) (H2:=H2) hp lA (fun i hi=>zA i (by omega)) (by omega) (by omega)
            generalize eG s R n=md at *
            generalize hG s R n=bd at *
            by_cases hO:(oL s R p n).length=0
            ·rw[g4 _ hO]
             rw[aBh hO]
             have w0:wS ([]:List ByteArray) = .nilsl:=rfl
             sym =>
              simp[aE,aF,aL,Za,Zb,Zf,Zg,Zh,Zk,Zl,Zm,Zp,Zq,Zs,Zu,Zw,Z0,Yc,Yd,Yq,Ys,Yu,Yw,Yx,Yz,Xs,Ve,Vg,Vh,Vi,V0,V6,V8,VG,VY,VZ,U9,UN,UP,UR,US,UU,UV,UZ,Tb,Tc,Ty,T7,T8,T9,TA,TB,TC,s0,w0,x0,k1,k0,wr,rz,hrp,eH,lcA,atp,y1,cL,cJ,cK]
              tactic=>exact t _ _ rfl rfl rfl
            ·have w0:wS (oL s R p n) = .sl 1 0 1 (oL s R p n).length:=if_neg hO
             rw[g5 _ hO]
             generalize oL s R p n=O at *
             sym =>
              simp[aE,aF,aL,Za,Zb,Zf,Zg,Zh,Zk,Zl,Zm,Zp,Zq,Zs,Zu,Zw,Z0,Yc,Yd,Yq,Ys,Yu,Yw,Yx,Yz,Xr,Xx,Wd,Wg,Vb,Vc,Vd,Ve,Vf,Vg,Vh,Vi,Vj,Vl,V0,V6,V8,VC,VD,VG,VY,VZ,U9,UN,UP,UR,US,UU,UV,UZ,Tb,Tc,Ty,Tz,T2,T7,T8,T9,TA,TB,TC,s0,w0,x0,k1,k0,wr,rz,hrp,eH,lcA,grO,lcO,chO,pO,atp,y1,cL,cJ,cK]
              tactic=>exact t _ _ rfl rfl rfl
        ·have s0:vS 0 = .nilsl:=rfl
         have O0:oL s R p 0=[]:=rfl
         have A0:aS s 0=[]:=rfl
         have w0:wS ([]:List ByteArray) = .nilsl:=rfl
         have g0:vG ([]:List ByteArray) []=[]:=rfl
         have b0:hG s R 0 = -1:=rfl
         have m0:eG s R 0=0:=rfl
         (sym=>(simp[aE,aF,aL,Za,Y7,YG,YJ,YP,Xa,Xc,Xi,Wl,Wt,Wx,Wy,WB,WC,Vz,V4,V5,VC,VD,VG,VI,Uc,Ud,Ue,Uf,Ug,Ta,s0,O0,A0,w0,g0,b0,m0];all_goals tactic=>exact rfl))
        ·intro i hi
         exact aOX (by omega) hp (by omega) (by omega) hsz hi
        ·unfold rR
         dsimp only
         (sym=>(simp[aE,aF,aL,Za,Zb,Zf,Zh,Zl,Zm,Zu,Z0,Yu,V0,V6,V8,V9,VZ,U9,UN,UP,US,UU,UV,Tb,x0];all_goals tactic=>exact rfl))
   ·have h0':=of_eq_false h0
    have z0:(((s.size%45:Nat):Int)=0)=False:=eq_false (by omega)
    have hv:tI s row=oH 20:=by unfold tI;rw[hb,if_pos rfl,if_pos (Or.inl h0')]
    rw[hv];unfold oH
    generalize s.size%45=rm at *
    generalize s.size/45=n at *
    (sym=>(simp[aE,aF,aL,Za,Zb,Zf,Zh,Zl,Zm,Zp,Zt,Zu,Zw,Z0,Z8,ZK,ZT,ZV,Ya,Yb,Yc,Yf,Yk,Yt,YG,YL,YM,Xa,Xb,Xe,Xf,Xl,Xp,Xs,XK,XM,XO,XX,Wk,Wl,Wt,Ww,Wx,Wy,WB,WC,WF,WG,WQ,WR,WS,Ve,Vm,Vn,Vo,Vp,Vq,Vr,Vt,Vu,Vv,Vw,Vx,Vz,V6,V7,V8,VB,VC,VD,VF,VG,VI,VK,VQ,VR,VZ,Uc,Ud,Ue,Uf,Ug,Uj,Uk,Un,Uo,UN,UP,UQ,UR,UU,UW,Tb,Tc,Ty,c1,d1,d2,d3,z0];all_goals tactic=>exact rfl))
theorem q12 {vs:List AV} {h:XH} (hl:vs.length≤24):runW aH 12 vs h=cR none x12.res x12.ownR h.length (execW aH 12 h.length none x12.body (aP (if x12.ownA then vs else fY vs)) h):=bG rfl hl h rfl
theorem q3 {vs:List AV} {h:XH} (hl:vs.length≤77):runW aH 3 vs h=cR none x3.res x3.ownR h.length (execW aH 3 h.length none x3.body (aP (if x3.ownA then vs else fY vs)) h):=bG rfl hl h rfl
def lgB (ls:List ByteArray):Nat→Bool
 | 0=>decide (40<ls.length)
 | i+1=>lgB ls i||decide (100<(ls.getD i fM).size)
theorem w12 {ls:List ByteArray} (hn:ls.length≤9223372036854775807):runW aH 12 [.fs (rS ls)] []=some (.bool (lgB ls ls.length),[]):=by
 rw[q12 (by simp)];unfold x12;dsimp only
 have rl:=jK ls
 have e0:((ls.length:Int)<(ls.length:Int))=False:=eq_false (by omega)
 have d40:decide ((40:Int)<(ls.length:Int))=decide (40<ls.length):=decide_eq_decide.2 (by omega)
 sym =>
  simp[Za,Zb,Zf,Zh,Zl,Zm,Zu,Z0,ZK,Yi,Yw,XV,Wl,Vz,VB,VK,Un,Uo,UN,UP,UT,UU,Tb,Tc,rl]
  tactic =>
   unfold aHZ
   rw[aY ls.length (fun i=>[.fs (rS ls),.bool (lgB ls i),I (i:Nat)]) (fun _=>[])]
   ·(sym=>(simp[Za,Zb,Zf,Zh,Zl,Zm,Zu,Z0,ZK,Yi,Yu,YH,Xb,Xm,XL,Wt,Wx,Wy,WB,WC,Ve,Vm,Vn,Vo,Vp,Vq,Vr,Vs,Vu,Vv,Vw,Vx,V0,V6,V8,VD,VG,VI,VZ,Uc,Ud,Ue,U9,UN,UP,UQ,US,UU,UV,UZ,Tb,Ty,e0,rl];all_goals tactic=>exact rfl))
   ·have l0:lgB ls 0=decide (40<ls.length):=rfl
    (sym=>(simp[Za,Y7,YG,YH,YM,Xa,Xb,Xf,Wl,Wt,Wx,Wy,WB,WC,Vz,V4,V5,VC,VD,VG,VI,Uc,Ud,Ue,Uf,Ug,Ta,rl,l0,d40];all_goals tactic=>exact rfl))
   ·intro i hi
    obtain⟨s,hs⟩:=eC (l:=ls) (i:=i) hi
    have sx:=gI hs
    have g1:ls.getD i fM=s:=by rw[List.getD_eq_getElem?_getD,hs];rfl
    have i1:((i:Int)<(ls.length:Int))=True:=eq_true (by omega)
    have i2:(i<(rS ls).length)=True:=eq_true (by omega)
    have a2:IntKind.i64.wrap ((i:Int)+1)=(i:Int)+1:=aG (by omega) (by omega)
    have ls1:lgB ls (i+1)=(lgB ls i||decide (100<s.size)):=by rw[lgB,g1]
    have d100:decide ((100:Int)<(s.size:Int))=decide (100<s.size):=decide_eq_decide.2 (by omega)
    rw[ls1]
    cases lgB ls i with
    | true =>
      rw[Bool.true_or]
      (sym=>(simp[Za,Zb,Zf,Zh,Zl,Zm,Zp,Zt,Zu,Zw,Z0,ZK,Yc,Yi,Yp,Yu,YG,YH,YM,Xa,Xb,Xf,Wt,Wx,Wy,WB,WC,V0,V4,V5,V6,V7,VC,VD,VG,VI,VY,Uc,Ud,Ue,Uf,Ug,UN,UP,UR,UT,UU,UX,Ta,Tb,Tc,rl,sx,i1,i2,a2];all_goals tactic=>exact rfl))
    | false =>
      rw[Bool.false_or]
      (sym=>(simp[Za,Zb,Zf,Zh,Zl,Zm,Zp,Zr,Zu,Zw,Z0,ZD,ZK,ZL,Yd,Yi,Yk,Ym,Yn,Yp,Yu,Yw,Yz,Y2,YG,YH,YM,Xa,Xb,Xf,Wm,Wt,Wx,Wy,WB,WC,V0,V4,V5,V6,V7,VC,VD,VG,VI,VJ,VK,VU,VY,Uc,Ud,Ue,Uf,Ug,UC,UD,UF,UN,UP,UR,UT,UU,UX,Ta,Tb,Tc,rl,sx,i1,i2,a2,d100];all_goals tactic=>exact rfl))
   ·(sym=>(simp[Za,Zb,Zf,Zh,Zl,Zm,Zu,Z0,ZK,Yi,Yu,V0,V6,V8,V9,VZ,U9,UN,UP,US,UU,UV,Tb,e0,rl];all_goals tactic=>exact rfl))
theorem aBg {ls:List ByteArray}:∀ {i},lgB ls i=false→ls.length≤40∧∀ k,k<i→(ls.getD k fM).size≤100
 | 0,h=>by
   unfold lgB at h
   exact⟨by simpa using h,fun k hk=>absurd hk (by omega)⟩
 | i+1,h=>by
   rw[lgB,Bool.or_eq_false_iff]at h
   obtain⟨h1,h2⟩:=aBg h.1
   refine⟨h1,fun k hk=>?_⟩
   by_cases hki:k=i
   ·subst hki;simpa using h.2
   ·exact h2 k (by omega)
theorem w13:runW aH 13 [] []=some (.bool true,[]):=(fW rfl rfl [] []).trans rfl
theorem aEh (C:List Nat) (n:Nat):(qP C n).length=n:=by simp[qP]
theorem aFJ {s:ByteArray} (hz:s.size≤1000000) (row:Int):∃ (l:List ByteArray) (m e:Int),tI s row = .tup [.fs (rS l),I m,I e]∧l.length≤1000:=by
 have er:∀ x:Int,∃ (l:List ByteArray) (m e:Int),oH x = .tup [.fs (rS l),I m,I e]∧l.length≤1000:=fun x=>⟨[],0,x,rfl,by simp⟩
 have ou:∀ (C:List Nat) (n md:Nat),n≤1000→∃ (l:List ByteArray) (m e:Int),oQ C n md = .tup [.fs (rS l),I m,I e]∧l.length≤1000:=fun C n md hn=>by
  unfold oQ
  split
  ·exact er _
  ·exact⟨_,_,_,rfl,by rw[aEh];exact hn⟩
 unfold tI
 split
 ·split
  ·exact er _
  ·split
   ·exact er _
   ·unfold gY
    split
    ·exact er _
    ·split
     ·exact er _
     ·split
      ·exact ou _ _ _ (by omega)
      ·exact ou _ _ _ (by omega)
 ·exact er _
theorem aEX (a b:ByteArray):sT BinOp.eql a b=some (.bool (decide (a=b))):=by
 have:=jS a b
 unfold sT at this
 simp only[oSI,AV.bool.injEq]at this
 show some (AV.bool (a.toList==b.toList))=_
 have h2:(!(a.toList==b.toList)) = !decide (a=b):=this
 rw[Bool.not_inj h2]
theorem w3 {ls:List ByteArray} {page:ByteArray} {row:Int} (hn:ls.length≤9223372036854775807) (hp:page.size≤9223372036854775807) (hr:(Lit.int .i64 row).wf=true):runW aH 3 [.fs (rS ls),.str page,I row] []=some (.bool true,[]):=by
 rw[q3 (by simp)];unfold x3;dsimp only
 have c12:=w12 hn
 have c13:=w13
 have rl:=jK ls
 cases hl:lgB ls ls.length with
 | true =>
   rw[hl]at c12
   (sym=>(simp[Za,Zb,Zf,Zg,Zh,Zj,Zl,Zm,Zp,Zt,Zu,Zw,ZT,ZV,Ya,Yb,Yc,YH,YM,Xb,Xf,Xm,Xq,XK,XL,XM,XV,Wk,Wl,Wt,Ww,Wx,Wy,WB,WC,WF,WG,WQ,WR,WS,Ve,Vg,Vh,Vi,Vm,Vn,Vo,Vp,Vq,Vr,Vs,Vu,Vv,Vw,Vx,Vz,V6,V7,VB,VC,VD,VF,VG,VI,VK,Uc,Ud,Ue,Uf,Ug,Un,Uo,UP,UQ,UU,UW,Tb,Tc,Ty,T7,T8,T9,TA,TB,TC,c12,c13];all_goals tactic=>exact rfl))
 | false =>
   rw[hl]at c12
   obtain⟨l1,l2⟩:=aBg hl
   rcases tE ((1000:Int)<(page.size:Int))with k1|k1
   ·(sym=>(simp[Za,Zb,Zf,Zg,Zh,Zj,Zl,Zm,Zp,Zr,Zu,Zw,Z0,ZK,ZT,ZV,Ya,Yb,Yd,Yk,Yw,YH,YM,Xb,Xf,Xm,Xq,XK,XL,XM,XV,Wk,Wl,Wt,Ww,Wx,Wy,WB,WC,WF,WG,WQ,WR,WS,Ve,Vg,Vh,Vi,Vm,Vn,Vo,Vp,Vq,Vr,Vs,Vu,Vv,Vw,Vx,Vz,V6,V7,VB,VC,VD,VF,VG,VI,VK,VY,Uc,Ud,Ue,Uf,Ug,Un,Uo,UN,UP,UQ,UU,UW,Tb,Tc,Ty,T7,T8,T9,TA,TB,TC,c12,c13,k1];all_goals tactic=>exact rfl))
   ·have k2:=of_eq_false k1
    have hz:∀ s∈ls,s.size≤1000000:=fun s hs=>by
     obtain⟨i,hi⟩:=List.mem_iff_getElem?.1 hs
     have:=l2 i (List.getElem?_eq_some_iff.1 hi).1
     rw[List.getD_eq_getElem?_getD,hi]at this
     have this:s.size≤100:=this
     omega
    have c14:=w14 (ls:=ls) (row:=row) (by omega) hz
    have c15:=w15 (ls:=ls) (row:=row) (by omega) hz
    have c16:=w16 (s:=page) (row:=row) (by omega)
    have c17:=w17 (s:=page) (row:=row) (by omega)
    obtain⟨l,m,e,hv,ln⟩:=aFJ (s:=page) (by omega) row
    rw[hv]at c16 c17
    have c18:=w18 (a:=l) (b:=l) (by omega)
    rw[decide_eq_true rfl]at c18
    generalize (if pgE ls row=0 then pgB ls row.toNat else fM)=PG at *
    generalize pgE ls row=E at *
    have eq1:=aEX PG PG
    rw[decide_eq_true rfl]at eq1
    (sym=>(simp[Za,Zb,Zf,Zg,Zh,Zj,Zl,Zm,Zp,Zq,Zr,Zu,Zw,Z0,ZJ,ZK,ZT,ZV,Ya,Yb,Yc,Yd,Yk,Yo,Ys,Yw,YG,YH,YJ,YM,Xa,Xb,Xc,Xe,Xf,Xl,Xm,Xn,Xq,XK,XL,XM,XV,Wk,Wl,Wm,Wt,Ww,Wx,Wy,WB,WC,WF,WG,WQ,WR,WS,Ve,Vg,Vh,Vi,Vm,Vn,Vo,Vp,Vq,Vr,Vs,Vu,Vv,Vw,Vx,Vz,V6,V8,VB,VC,VD,VF,VG,VI,VK,VY,VZ,Uc,Ud,Ue,Uf,Ug,Un,Uo,UN,UO,UP,UQ,UR,UU,Tb,Tc,Ty,T7,T8,T9,TA,TB,TC,c12,c13,k1,c14,c15,c16,c17,c18,eq1];all_goals tactic=>exact rfl))
end Go.Proofs.YtmapgnepfgnphaaGreatDoor
