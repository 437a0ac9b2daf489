/- Parts of a proof, joined: R2 R3 R4 R5 R6 R7 R8 R9 R10 R11 O3 T0 T1 T2 T3 T4 T5 T6 T7 T8 LE T9 T10 T11 T12 T13. No statement of the seed is proved here. -/
import Derived.KernelRfl
import Derived.Test.YtmapgnepfgnphaaGreatDoorH8
set_option linter.unusedSimpArgs false
set_option linter.unusedVariables false
set_option linter.unusedSectionVars false
set_option maxRecDepth 100000
set_option maxHeartbeats 4000000
namespace Go.Proofs.YtmapgnepfgnphaaGreatDoor
open Go Go.DL
abbrev cU(a:Nat):Option XB:=some (.blk true (.cells true [Uq a]))
structure aQh(n:Nat)(H:XH):Prop where
 hat:∀ a,hat (H++[cU a]) n=cU a
 set:∀ a b,(H++[cU a]).set n (cU b)=H++[cU b]
 len:∀ a,(H++[cU a]).length=n+1
 head:∀(a:Nat)(e:aH),e 0 = .fn (.yield 0) [] []→e 1 = .pt n 0→dL (n+1) [0,1] (some (.normal,e,H++[cU a]))=some ([.fn (.yield 0) [] [],.pt n 0],H++[cU a])
 fin:∀ a,iS false (n+1) (.tup []) (H++[cU a])=(.tup [],H++[cU a])
def Yd(H H':XH)(v:Nat)(b:Bool):Prop:=∀ a:Nat,eP (runW aD) (runYW aD) (.fn (.yield 0) [] []) [I v] (H++[cU a])=some (.bool b,H'++[cU a])
theorem aLo{n:Nat}{H H':XH}(g:aQh n H)(g':aQh n H'){a:Nat}(ha:a<1024)(h0:a≠0)(hy:Yd H H' (aMr a) true) :
 dL (n+1) [0,1] (execW aD 237 (n+1) none (match aDA with | .loop _ a=>a|c=>c) (bW [0,1] [.fn (.yield 0) [] [],.pt n 0]) (H++[cU a]))=some ([.fn (.yield 0) [] [],.pt n 0],H'++[cU (a&&&(a-1))]):=by
 have h1:=g.hat a;have h2:=g'.hat a;have h3:=g'.set a;have h4:=hy a;have t:=aXp ha h0;have n0:((a:Int)=0)=False:=AAb;have u1:IntKind.u64.wrap ((a:Int)-1)=((a-1:Nat):Int):=by
  rw[show (a:Int)-1=((a-1:Nat):Int) by omega];exact mM wO (by omega)
 have u2:=aNs wO (a:=a) (b:=a-1) (by omega) (by omega);have hd:=g'.head (a&&&(a-1));unfold aDA;dsimp only;sym =>
  simp[Za,Zb,Zc,Zf,Zg,Zh,Zj,Zl,Zm,Zv,ZA,ZE,ZW,Ya,Yb,Yf,Yi,Yn,Yo,Yt,YA,YD,YH,Xy,We,Wr,Vt,VB,VC,VE,VG,VH,VJ,VQ,VT,VV,Ua,Ub,Un,Uo,Ur,U1,U3,U4,U6,U7,U9,UW,UZ,Ta,Tb,Tf,Tg,Ti,Tj,Tn,Tp,Tu,Tx,Ty,TB,TG,TJ,TK,TL,TM,TN,TO,TP,TW,Sz,S2,S6,S7,S8,SG,SJ,SL,SN,SO,SS,SX,SY,Rz,QH,QI,QJ,QL,QM,QN,Pj,Pk,Pl,Pm,h1,h2,t,h4,n0,u1,u2,h3]
  tactic=>exact hd _ rfl rfl
theorem aNb{n:Nat}{G:Nat→XH}{a:Nat}(ha:a<1024)(g:∀ i,i≤(el a).length→aQh n (G i))(hy:∀ i v,(el a)[i]?=some v→Yd (G i) (G (i+1)) v true) :
 runW aD 237 [.fn (.yield 0) [] [],.pt n 0] (G 0++[cU a])=some (.tup [],G (el a).length++[cU 0]):=by
 have l0:=(g 0 (by omega)).len a;have g1:=g (el a).length (by omega);have h1:hat (G (el a).length++[some (.blk true (.cells true [.int .u64 0]))]) n=some (.blk true (.cells true [.int .u64 0])):=g1.hat 0;have hf:iS false (n+1) (.tup []) (G (el a).length++[some (.blk true (.cells true [.int .u64 0]))])=(.tup [],G (el a).length++[some (.blk true (.cells true [.int .u64 0]))]):=g1.fin 0;have c0:=aPQ ha;rw[qX 237 aNN rfl];unfold aNN;dsimp only;rw[l0];unfold aDA;sym =>
  simp[Za,Zb,Zf,Zh,Zl,Zm,ZA,ZW,YH,YV,Vm,Vq,VB,VC,VJ,UF,UH,UM,UO,UQ,UW,UZ,Tb,Tc,Te,Tx,TF,TU,TV,Sz,S2,S6,SG,SJ,SM,SN,SO,SP,SV,SX,SY]
  tactic =>
   rw[cS (el a).length (fun _=>[.fn (.yield 0) [] [],.pt n 0]) (fun i=>G i++[cU (zE a i)])]
   ·rw[c0]
    (sym=>(simp[Za,Zb,Zf,Zh,Zl,Zm,ZA,ZW,YH,YV,Vm,Vq,VB,VC,VJ,UF,UH,UM,UO,UQ,UW,UZ,Tb,Tc,Te,Tx,TF,TU,TV,Sz,S2,S6,SG,SJ,SM,SN,SO,SP,SV,SX,SY,h1,hf];all_goals tactic=>exact rfl))
   ·exact(g 0 (by omega)).head a _ rfl rfl
   ·intro i hi
    obtain⟨p1,p2⟩:=aSA ha hi;exact aLo (g i (by omega)) (g (i+1) (by omega)) (aBI ha i) p1 (hy i _ p2)
   ·rw[c0]
    (sym=>(simp[Za,Zb,Zf,Zh,Zl,Zm,ZA,ZW,YH,YV,Vm,Vq,VB,VC,VJ,UF,UH,UM,UO,UQ,UW,UZ,Tb,Tc,Te,Tx,TF,TU,TV,Sz,S2,S6,SG,SJ,SM,SN,SO,SP,SV,SX,SY,h1];all_goals tactic=>exact rfl))
def wr(W:List Int):List (List AV):=W.map fun v=>[I v]
theorem aAb(W:List Int):(wr W).length=W.length:=by simp[wr]
theorem aKo{W:List Int}{i:Nat}{v:Int}(h:W[i]?=some v):(wr W)[i]?=some [I v]:=by simp[wr,h]
def chA(q:Int)(W:List Int):AV:=.agg [.fs [[I q,.fs (wr W)]]]
def chB(q:Int)(W:List Int):AV:=.fs [[.ifc 203 (.agg [I q,.fs (wr W)])]]
def hsA(q:Int)(W:List Int):AV:=.agg [.fs [[I q,.fs (wr W)]],.ifc 283 (chB q W),I W.length,Uq (2^W.length-1)]
theorem aTD(lo n hi:Int):runW aD 212 [I lo,I n,I hi] []=some (.bool (decide (lo≤n)&&decide (n≤hi)),[]):=by
 rw[qX 212 aNS rfl];unfold aNS;dsimp only;rcases ptf (lo≤n)with h1|h1
 ·have d1:decide (lo≤n)=true:=by simp[h1]
  (exact RS2 h1 d1)
 ·have d1:decide (lo≤n)=false:=by simp[h1]
  (exact RS2 h1 d1)
theorem aXf{v:Int}(h0:0≤v)(h1:v≤1000000):runW aD 211 [I v] []=some (.bool false,[]):=by
 have c:=aTD 0 v 1000000;rw[show (decide (0≤v)&&decide (v≤1000000))=true by simp[h0,h1]]at c;rw[qX 211 aNT rfl];unfold aNT;dsimp only;(exact eD c)
theorem aXd{W:List Int}(hW:∀ v∈W,0≤v∧v≤1000000)(hl:W.length≤9):runW aD 215 [.fs (wr W),.fn (.func 211) [] []] []=some (I (-1),[]):=by
 rw[qX 215 aNQ rfl];unfold aNQ;dsimp only;have ln:=aAb W;have e0:((W.length:Int)<(W.length:Int))=False:=AAb;sym =>
  simp[Za,Zb,Zf,Zh,Zl,Zm,Zv,ZA,ZI,ZS,ZW,Yf,Yi,Yn,Yo,Yx,Y6,Y7,Y9,YJ,YO,YP,YV,Xy,XM,XY,Wr,Wt,Wx,WE,WJ,Vf,Vk,Vp,VH,VI,VJ,VQ,VT,VU,VV,VX,VY,Ua,Ub,Un,Uo,Ur,U1,UG,UH,UJ,UK,UL,UM,UN,UQ,UR,US,UT,UV,UW,UX,UY,UZ,Ta,Tb,Tc,Te,Tf,Tg,Ti,Tj,Tm,Tn,Tp,TB,TF,TG,TJ,TK,TL,TM,TN,TU,TV,Sy,S3,S4,S6,SG,SJ,SK,SL,SM,SN,SO,SP,SS,SV,SW,SX,SY,Qr,Pj,Pk,Pl,Pm,ln]
  tactic =>
   unfold aKh;rw[cS W.length (fun i=>[.fs (wr W),.fn (.func 211) [] [],I W.length,I (i:Nat)]) (fun _=>[])];·(exact RS2 e0 ln)
   ·(exact zF)
   ·intro i hi
    obtain⟨v,hv⟩:∃ v,W[i]?=some v:=⟨_,A7 hi⟩;have r1:=aKo hv;have hb:=hW v (A8 hv);have c:=aXf hb.1 hb.2;have t1:((i:Int)<(W.length:Int))=True:=AAa;have a2:IntKind.i64.wrap ((i:Int)+1)=((i+1:Nat):Int):=by rw[aJ (by omega) (by omega)];rfl
    (exact RS5 t1 r1 c a2 ln)
   ·(exact eD e0)
theorem aXe{W:List Int}(hW:∀ v∈W,0≤v∧v≤1000000)(hl:W.length≤9):runW aD 213 [.fs (wr W),.fn (.func 211) [] []] []=some (.bool false,[]):=by
 have c:=aXd hW hl;rw[qX 213 aNR rfl];unfold aNR;dsimp only;(exact eD c)
theorem aTE(q:Int)(W:List Int):runW aD 205 [chA q W] []=some (I W.length,[]):=by
 have ln:=aAb W;rw[qX 205 aNW rfl];unfold aNW chA;dsimp only;(exact eD ln)
theorem rK{D:Nat→Option XFn}{K k:Nat}{rd:Option Nat}{L:List Nat}{a:XCode}{e:aH}{h:XH}:execW D K k rd (.loop L a) e h=tI (execW D K k rd a (bW L (uN k L e h)) (jD k L e h)) (execW D K k rd (.loop L a)):=uJ
theorem aXj{q:Int}{W:List Int}(hq:1≤q∧q≤10000000)(hW:∀ v∈W,0≤v∧v≤1000000)(h1:1≤W.length)(hl:W.length≤9):runW aD 203 [chA q W] []=some (I 0,[]):=by
 have ln:=aAb W;have c1:=aTE q W;have c2:=aTD 1 q 10000000;rw[show (decide (1≤q)&&decide (q≤10000000))=true by simp[hq.1,hq.2]]at c2;have c3:=aXe hW hl;have t1:((W.length:Int)=0)=False:=AAb;have t2:((9:Int)<(W.length:Int))=False:=AAb;rw[qX 203 aNY rfl];unfold aNY aKl chA at *;dsimp only;(exact RS7 ln c1 c2 c3 t1 t2 @rK)
theorem aXi(q:Int)(W:List Int):runW aD 204 [chA q W,I (-1)] []=some (chB q W,[]):=by
 rw[qX 204 aNX rfl];unfold aNX aKk chA chB;dsimp only;(exact eD @rK)
theorem aXo{q:Int}{W:List Int}(hq:1≤q∧q≤10000000)(hW:∀ v∈W,0≤v∧v≤1000000)(h1:1≤W.length)(hl:W.length≤9):runW aD 182 [chA q W] []=some (.tup [hsA q W,I 0],[]):=by
 have c1:=aXj hq hW h1 hl;have c2:=aXi q W;have c3:=aTE q W;have n0:((W.length:Int)<0)=False:=AAb;have s1:=aDO wO (i:=W.length) (by omega);have p1:1≤2^W.length:=aD4;have p2:2^W.length≤2^9:=G9 (by omega) hl;have s2:IntKind.u64.wrap (((2^W.length:Nat):Int)-1)=((2^W.length-1:Nat):Int):=by
  rw[show ((2^W.length:Nat):Int)-1=((2^W.length-1:Nat):Int) by omega];exact mM wO (by omega)
 rw[qX 182 aOc rfl];unfold aOc chA hsA chB at *;dsimp only;(exact RS7 c1 c2 c3 n0 s1 s2 @rK)
def fT{α:Type}(f:α→Nat→α)(z:α)(ks:List Nat)(i:Nat):α:=(ks.take i).foldl f z
theorem aWE{α:Type}{f:α→Nat→α}{z:α}{ks:List Nat}{i v:Nat}(h:ks[i]?=some v):fT f z ks (i+1)=f (fT f z ks i) v:=by
 unfold fT;rw[O7,h];simp
theorem aSt{α:Type}{f:α→Nat→α}{z:α}{ks:List Nat}:fT f z ks ks.length=ks.foldl f z:=by
 unfold fT;rw[aA5]
theorem aWF{a n k:Nat}(h:a<2^n)(hk:k∈el a):k<n:=by
 have h2:=(aSv.1 hk).2;by_cases hc:k<n;·exact hc
 ·rw[aNt h (by omega)]at h2;simp at h2
theorem aSw(a:Nat):(el a).length≤10:=by
 unfold el;exact F8 (List.length_filter_le _ _) (by simp)
def wS(W:List Int)(n:Int)(k:Nat):Int:=n+W.getD k 0
def wgt(W:List Int)(a:Nat):Int:=(el a).foldl (wS W) 0
theorem aQr{W:List Int}(hW:∀ v∈W,0≤v∧v≤1000000):∀(ks:List Nat)(z:Int),z≤ks.foldl (wS W) z∧ks.foldl (wS W) z≤z+1000000*(ks.length:Int)
 | [],z=>by simp
 | k::ks,z=>by
   have ih:=aQr hW ks (wS W z k);have hv:0≤W.getD k 0∧W.getD k 0≤1000000:=by
    rw[A6];cases h:W[k]? with
    | none=>simp
    | some v=>exact hW v (A8 h)
   rw[aB0,C6];unfold wS at ih ⊢;omega
theorem aTu{W:List Int}(hW:∀ v∈W,0≤v∧v≤1000000)(a i:Nat):0≤fT (wS W) 0 (el a) i∧fT (wS W) 0 (el a) i≤10000000:=by
 have h:=aQr hW ((el a).take i) 0;have h3:=aSw a;have h4:((el a).take i).length≤10:=by rw[M6];omega
 unfold fT;omega
theorem aXa(a:Nat):runW aD 236 [Uq a] []=some (.fn (.func 237) [] [.pt 0 0],[cU a]):=by
 rw[qX 236 aNO rfl];unfold aNO;dsimp only;(exact zF)
section
variable{q:Int}{W:List Int}
abbrev aJD(q:Int)(W:List Int)(n:Int):XH:=[some (.loop 234 0 [.pt 1 0,.pt 2 0] .ready),some (.blk true (.cells true [I q,.fs (wr W)])),some (.blk true (.cells true [I n]))]
theorem aPA(n:Int):aQh 3 (aJD q W n):=by
 refine⟨fun _=>rfl,fun _ _=>rfl,fun _=>rfl,?_,?_⟩
 ·intro a e h0 h1
  (exact RS2 h0 h1)
 ·intro a
  (exact zF)
theorem aWP(n m:Int){k:Nat}{x:Int}(hl:W.length≤9)(hk:W[k]?=some x)(hm:IntKind.i64.wrap (n+x)=m):Yd (aJD q W n) (aJD q W m) k true:=by
 have hkl:=(A5.1 hk).1;have c1:((k:Int)<(W.length:Int))=True:=AAa;have ln:=aAb W;have r1:=aKo hk;have y:runYW aD (.fn (.yield 0) [] []) [I (k:Nat)] (aJD q W n)=some (.bool true,aJD q W m):=by
  rw[aFh (K:=234) (d:=aKg) (site:=0) (vs:=[.pt 1 0,.pt 2 0]) rfl rfl (by rfl) rfl];(exact zY c1 r1 ln hm)
 intro a;(exact eD y)
theorem aXc(hW:∀ v∈W,0≤v∧v≤1000000)(hl:W.length≤9){a:Nat}(ha:a<2^W.length):runW aD 234 [.agg [I q,.fs (wr W)],Uq a] []=some (I (wgt W a),[]):=by
 have ha2:a<1024:=E7 ha (G9 (n:=2) (by omega) (by omega:W.length≤10));have e236:=aXa a
 have e:runW aD 237 [.fn (.yield 0) [] [],.pt 3 0] [some (.loop 234 0 [.pt 1 0,.pt 2 0] .ready),some (.blk true (.cells true [I q,.fs (wr W)])),some (.blk true (.cells true [I 0])),cU a] =
  some (.tup [],[some (.loop 234 0 [.pt 1 0,.pt 2 0] .ready),some (.blk true (.cells true [I q,.fs (wr W)])),some (.blk true (.cells true [I (wgt W a)])),some (.blk true (.cells true [.int .u64 0]))]):=by
  have h:=aNb (n:=3) (G:=fun i=>aJD q W (fT (wS W) 0 (el a) i)) ha2 (fun i _=>aPA _) (by
   intro i v hv;have hvl:=aWF ha (A8 hv);obtain⟨x,hx⟩:∃ x,W[v]?=some x:=⟨_,A7 hvl⟩;have b1:=aTu hW a i;have b2:=hW x (A8 hx);refine aWP _ _ hl hx ?_;rw[aWE hv];show IntKind.i64.wrap (fT (wS W) 0 (el a) i+x)=fT (wS W) 0 (el a) i+W.getD v 0;rw[A6,hx];exact aJ (by omega) (by omega))
  unfold wgt;rw[aSt]at h;exact h
 rw[qX 234 aKg rfl];unfold aKg;dsimp only;(exact RS2 e236 e)
def tT(q:Int)(W:List Int)(a:Nat):Bool:=decide (q≤wgt W a)
theorem aXb(hW:∀ v∈W,0≤v∧v≤1000000)(hl:W.length≤9){a:Nat}(ha:a<2^W.length):runW aD 235 [.agg [I q,.fs (wr W)],Uq a] []=some (.bool (tT q W a),[]):=by
 have c1:=aXc (q:=q) hW hl ha;rw[qX 235 aNP rfl];unfold aNP tT;dsimp only;rcases ptf (q≤wgt W a)with h1|h1
 ·have d1:decide (q≤wgt W a)=true:=by simp[h1]
  rw[d1];(exact RS2 c1 h1)
 ·have d1:decide (q≤wgt W a)=false:=by simp[h1]
  rw[d1];(exact RS2 c1 h1)
end
theorem wX{e:aH}{tab:List (TypeId×FuncId)}{k:Nat}:aK e (.meth tab k)=aBj tab (e k):=rfl
theorem nK{v:AV}:aBj [(203,235),(283,242)] (.ifc 203 v) = .fn (.func 235) [v] []:=rfl
theorem nJ{v:AV}:aBj [(203,235),(283,242)] (.ifc 283 v) = .fn (.func 242) [v] []:=rfl
section
variable{q:Int}{W:List Int}
theorem aWY(hW:∀ v∈W,0≤v∧v≤1000000)(hl:W.length≤9){a:Nat}(ha:a<2^W.length):runW aD 244 [.ifc 203 (.agg [I q,.fs (wr W)]),.pt 0 0] [cU a]=some (.bool (!tT q W a),[cU a]):=by
 have c1:=aXb (q:=q) hW hl ha;rw[qX 244 aNK rfl];unfold aNK cU;dsimp only;(exact RS5 c1 @rK @wX @nK @nJ)
theorem aWX(hW:∀ v∈W,0≤v∧v≤1000000)(hl:W.length≤9){a:Nat}(ha:a<2^W.length):runW aD 245 [chB q W,.fn (.func 244) [] [.pt 0 0]] [cU a]=some (I (if tT q W a then -1 else 0),[cU a]):=by
 have c1:=aWY (q:=q) hW hl ha;rw[qX 245 aNJ rfl];unfold aNJ aKf chB cU at *;dsimp only;cases hb:tT q W a
 ·simp only[hb,I5,B8,AAd]at c1 ⊢
  (exact RS5 c1 @rK @wX @nK @nJ)
 ·simp only[hb,aA8,AAe]at c1 ⊢
  (exact RS5 c1 @rK @wX @nK @nJ)
theorem aWZ(hW:∀ v∈W,0≤v∧v≤1000000)(hl:W.length≤9){a:Nat}(ha:a<2^W.length):runW aD 243 [chB q W,.fn (.func 244) [] [.pt 0 0]] [cU a]=some (.bool (!tT q W a),[cU a]):=by
 have c1:=aWX (q:=q) hW hl ha;rw[qX 243 aNL rfl];unfold aNL chB cU at *;dsimp only;cases hb:tT q W a
 ·simp only[hb,I5,B8,AAd]at c1 ⊢
  (exact RS5 c1 @rK @wX @nK @nJ)
 ·simp only[hb,aA8,AAe]at c1 ⊢
  (exact RS5 c1 @rK @wX @nK @nJ)
theorem aTC(hW:∀ v∈W,0≤v∧v≤1000000)(hl:W.length≤9){a:Nat}(ha:a<2^W.length):runW aD 242 [chB q W,Uq a] []=some (.bool (tT q W a),[]):=by
 have c1:=aWZ (q:=q) hW hl ha;have nn:(!(!tT q W a))=tT q W a:=by cases tT q W a<;>rfl
 rw[qX 242 aNM rfl];unfold aNM chB cU at *;dsimp only;(exact RS7 c1 nn @rK @wX @nK @nJ aE)
theorem aXk{a:Nat}(ha:a<2^63){i:Nat}(hi:i<63):runW aD 186 [Uq a,I (i:Nat)] []=some (Uq (a|||2^i),[]):=by
 have n0:((i:Int)<0)=False:=AAb;have s1:=aDO wO hi;have o1:=aQb wO ha (b:=2^i) (N6 (by omega) hi);rw[qX 186 aNZ rfl];unfold aNZ;dsimp only;(exact RS7 n0 s1 o1 @rK @wX @nK @nJ)
theorem aXg{a:Nat}(ha:a<2^63){i:Nat}(hi:i<63):runW aD 207 [Uq a,.fs [[I (i:Nat)]]] []=some (Uq (dif a (2^i)),[]):=by
 have n0:((i:Int)<0)=False:=AAb;have s1:=aDO wO hi;have o1:=aNr wO ha (b:=2^i) (N6 (by omega) hi);rw[qX 207 aNU rfl];unfold aNU aKi;dsimp only;(exact RS7 n0 s1 o1 @rK @wX @nK @nJ)
end
def swB(q:Int)(W:List Int)(i m:Nat):Bool := !m.testBit i&&(!tT q W m&&tT q W (m|||2^i))
def swT(q:Int)(W:List Int)(i m:Nat):Nat:=((List.range m).filter (swB q W i)).length
theorem aKK(q:Int)(W:List Int)(i m:Nat):swT q W i (m+1)=swT q W i m+if swB q W i m then 1 else 0:=by
 unfold swT;rw[List.range_succ,List.filter_append,C2];cases h:swB q W i m<;>simp[h]
theorem aKL(q:Int)(W:List Int)(i m:Nat):swT q W i m≤m:=by
 unfold swT;exact F8 (List.length_filter_le _ _) (by simp)
section
variable{q:Int}{W:List Int}
abbrev hsC(q:Int)(W:List Int):List AV:=[.fs [[I q,.fs (wr W)]],.ifc 283 (.fs [[.ifc 203 (.agg [I q,.fs (wr W)])]]),I W.length,Uq (2^W.length-1)]
abbrev hsX(q:Int)(W:List Int):Option XB:=some (.blk true (.cells true (hsC q W)))
abbrev fnX:Option XB:=some (.blk true (.cells true [.fn (.func 160) [] []]))
abbrev aBr(q:Int)(W:List Int)(i:Nat)(n:Int):XH:=[some (.loop 184 0 [.pt 1 0,.pt 2 0,.pt 3 0,.pt 4 0] .ready),hsX q W,fnX,some (.blk true (.cells true [I (i:Nat)])),some (.blk true (.cells true [I n]))]
theorem aXq(v:AV)(m:Nat):runW aD 160 [hsA q W,Uq m] []=some (I 1,[]):=by
 rw[qX 160 aOd rfl];unfold aOd hsA chB;dsimp only;(exact RS3 @wX @nK @nJ)
theorem aWQ(hW:∀ v∈W,0≤v∧v≤1000000)(hl:W.length≤9){i m:Nat}(hi:i<W.length)(hm:m<2^W.length)(hb:m.testBit i=false){n:Int}(hn:0≤n∧n≤1000) :
 runYW aD (.fn (.yield 0) [] []) [Uq m] (aBr q W i n)=some (.bool true,aBr q W i (n+if swB q W i m then 1 else 0)):=by
 have p2:2^W.length≤2^9:=G9 (by omega) hl;have hor:=aVe hm hi;have c1:=aTC (q:=q) hW hl hm;have c2:=aXk (a:=m) (by omega) (i:=i) (by omega);have c3:=aTC (q:=q) hW hl hor;have c4:=aXq (q:=q) (W:=W) .any m;have a1:IntKind.i64.wrap (n+1)=n+1:=aJ (by omega) (by omega);rw[aFh (K:=184) (d:=aKm) (site:=0) (vs:=[.pt 1 0,.pt 2 0,.pt 3 0,.pt 4 0]) rfl rfl (by rfl) rfl];unfold swB;rw[hb];unfold hsA chB at *;cases e1:tT q W m with
 | true =>
   rw[e1]at c1;simp only[aA8,Bool.false_and,aF7,B8,AAd,aF1];(exact zY c1 @wX @nK @nJ)
 | false =>
   rw[e1]at c1;cases e2:tT q W (m|||2^i)with
   | true =>
     rw[e2]at c3;simp only[I5,aF9,AAe];(exact RS9 c1 c2 c3 c4 a1 @wX @nK @nJ aE)
   | false =>
     rw[e2]at c3;simp only[I5,Bool.true_and,B8,AAd,aF1];(exact RS7 c1 c2 c3 @wX @nK @nJ aE)
theorem aXl(i:Nat):runW aD 185 [hsA q W,.sl 0 0 1 1] [some (.blk true (.cells true [I (i:Nat)]))]=some (.fn (.func 206) [] [.pt 1 0,.pt 2 0],[some (.blk true (.cells true [I (i:Nat)])),hsX q W,some (.blk false (.cells true [.sl 0 0 1 1]))]):=by
 rw[qX 185 aOa rfl];unfold aOa hsA chB;dsimp only;(exact RS3 @wX @nK @nJ)
end
section
variable{q:Int}{W:List Int}
theorem aSz{m i:Nat}(hm:m<2^63)(hi:i<63):dif m (2^i)=m↔m.testBit i=false:=by
 have hp:2^i<2^64:=N6 (by omega) (by omega);constructor
 ·intro h
  have:=aIH (a:=m) hp (i:=i);rw[h,aD0]at this;simpa using this
 ·intro h
  apply Nat.eq_of_testBit_eq;intro j;rw[aIH hp,aD0];by_cases e:i=j;·subst e;rw[h];simp
  ·by_cases hj:j<64
   ·simp[e,hj]
   ·rw[aNt hm (by omega)];simp
abbrev tAc(q:Int)(W:List Int)(i:Nat):XH:=[hsX q W,some (.blk false (.cells true [.sl 7 0 1 1])),some (.blk true (.cells true [I (i:Nat)]))]
abbrev tBc(q:Int)(W:List Int)(i:Nat):XH:=[hsX q W,some (.blk true (.cells true [.fs [[I (i:Nat)]]])),none]
def aPD(q:Int)(W:List Int)(i:Nat):Nat→XH
 | 0=>aBr q W i 0++tAc q W i
 | m+1=>aBr q W i (swT q W i (m+1):Nat)++tBc q W i
theorem wG{i m:Nat}(hm:0<m):aPD q W i m=aBr q W i (swT q W i m:Nat)++tBc q W i:=by
 cases m with
 | zero=>omega
 | succ m=>rfl
theorem aXh(hW:∀ v∈W,0≤v∧v≤1000000)(hl:W.length≤9){i:Nat}(hi:i<W.length) :
 runW aD 206 [.fn (.yield 0) [] [],.pt 5 0,.pt 6 0] (aBr q W i 0++tAc q W i)=some (.tup [],aBr q W i (swT q W i (2^W.length):Nat)++tBc q W i):=by
 have p2:2^W.length≤2^9:=G9 (by omega) hl;have p1:1≤2^W.length:=aD4;have e0:(((2^W.length:Nat):Int)≤((2^W.length-1:Nat):Int))=False:=AAb;have stp:∀ m:Nat,m<2^W.length→(m.testBit i=true∧((m:Int)=((dif m (2^i):Nat):Int))=False∧swT q W i (m+1)=swT q W i m)∨(m.testBit i=false∧((m:Int)=((dif m (2^i):Nat):Int))=True∧runYW aD (.fn (.yield 0) [] []) [Uq m] (aBr q W i (swT q W i m:Nat))=some (.bool true,aBr q W i (swT q W i (m+1):Nat))):=fun m hm=>by
  have hd:=aSz (m:=m) (i:=i) (by omega) (by omega);cases hb:m.testBit i with
  | true =>
    refine .inl ⟨rfl,AAn fun e=>?_,?_⟩
    ·have:=hd.1 (by omega)
     rw[hb]at this;cases this
    ·rw[aKK,swB,hb];simp
  | false =>
    refine .inr ⟨rfl,AAm (by rw[hd.2 hb]),?_⟩;have hle:=aKL q W i m;have y:=aWQ (q:=q) hW hl hi hm hb (n:=(swT q W i m:Nat)) (by omega);rw[y,aKK];cases swB q W i m<;>simp
 rw[qX 206 aNV rfl];unfold aNV;dsimp only;sym =>
  simp[Za,Zb,Zf,Zg,Zh,Zj,Zl,Zm,Zp,Zq,Zs,Zv,Zy,ZA,ZE,ZG,ZW,Yf,Yi,Yn,Yo,Yp,Yq,Yt,Yv,Y9,YG,YK,YO,YV,YY,Xy,XL,XM,XN,XO,XZ,Wi,Wr,Wt,Ww,Wx,Wy,Wz,WF,WN,WP,WW,Vc,Vd,Ve,Vj,Vm,Vq,VA,VB,VC,VD,VE,VF,VG,VH,VI,VJ,VK,VL,VM,VN,VO,VP,VQ,VR,VS,VT,VU,VV,VW,VX,VY,Ua,Ub,Uc,Ud,Ue,Uf,Ug,Uh,Ui,Uj,Uk,Ul,Um,Un,Uo,Ur,Us,Uy,Uz,U0,U1,U2,U3,U4,U6,U7,U8,U9,UB,UC,UD,UE,UF,UH,UJ,UK,UL,UM,UO,UQ,UV,UW,UX,UY,UZ,Ta,Tb,Tc,Te,Tf,Tg,Th,Ti,Tj,Tl,Tm,Tn,Tp,Ts,Tu,Tx,TB,TE,TF,TG,TJ,TK,TL,TM,TN,TO,TP,TQ,TR,TS,TT,TU,TV,Sz,S2,S6,SG,SJ,SL,SM,SN,SO,SP,SS,SV,SW,SX,SY,RP,RQ,Qh,Qr,Qt,Qw,QH,QI,QJ,QL,QM,QN,Pj,Pk,Pl,Pm]
  tactic =>
   unfold aKj;rw[cS (2^W.length) (fun m=>[.fn (.yield 0) [] [],.pt 5 0,.pt 6 0,Uq m]) (aPD q W i)]
   ·rw[wG (by omega)]
    (exact eD e0)
   ·unfold aPD
    (exact zF)
   ·intro m hm
    have t1:((m:Int)≤((2^W.length-1:Nat):Int))=True:=AAa;have c7:=aXg (a:=m) (by omega) (i:=i) (by omega);have u1:IntKind.u64.wrap ((m:Int)+1)=((m+1:Nat):Int):=by
     rw[show (m:Int)+1=((m+1:Nat):Int) by omega];exact mM wO (by omega)
    cases m with
    | zero =>
      rcases stp 0 hm with ⟨hb,_⟩|⟨_,h2,h3⟩;·simp at hb
      ·have s0:swT q W i 0=0:=rfl
       rw[s0]at h3;unfold aPD;have t1:((0:Int)≤((2^W.length-1:Nat):Int))=True:=t1;have c7:runW aD 207 [.int .u64 0,.fs [[I (i:Nat)]]] []=some (.int .u64 ((dif 0 (2^i):Nat):Int),[]):=c7;have h2:((0:Int)=((dif 0 (2^i):Nat):Int))=True:=h2;have h3:runYW aD (.fn (.yield 0) [] []) [.int .u64 0] (aBr q W i 0)=some (.bool true,aBr q W i (swT q W i (0+1):Nat)):=h3;(exact zY t1 c7 h2 h3)
    | succ m =>
      rw[wG (aF2 m),wG (aF2 (m+1))];rcases stp (m+1) hm with ⟨_,h2,h3⟩|⟨_,h2,h3⟩
      ·rw[h3]
       (exact zY t1 c7 u1 h2)
      ·(exact RS5 t1 c7 u1 h2 h3)
   ·rw[wG (by omega)]
    (exact eD e0)
end
section
variable{q:Int}{W:List Int}
def swg(q:Int)(W:List Int)(i:Nat):Int:=(swT q W i (2^W.length):Nat)
theorem aXm(hW:∀ v∈W,0≤v∧v≤1000000)(hl:W.length≤9){i:Nat}(hi:i<W.length) :
 runW aD 184 [I (i:Nat),.pt 0 0,.pt 1 0] [hsX q W,fnX]=some (I (swg q W i),[hsX q W,fnX]):=by
 have c1:=aXl (q:=q) (W:=W) i
 have c2:runW aD 206 [.fn (.yield 0) [] [],.pt 5 0,.pt 6 0] [some (.loop 184 0 [.pt 1 0,.pt 2 0,.pt 3 0,.pt 4 0] .ready),hsX q W,fnX,some (.blk true (.cells true [I (i:Nat)])),some (.blk true (.cells true [I 0])),hsX q W,some (.blk false (.cells true [.sl 7 0 1 1])),some (.blk true (.cells true [I (i:Nat)]))] =
  some (.tup [],[some (.loop 184 0 [.pt 1 0,.pt 2 0,.pt 3 0,.pt 4 0] .ready),hsX q W,fnX,some (.blk true (.cells true [I (i:Nat)])),some (.blk true (.cells true [I (swT q W i (2^W.length):Nat)])),hsX q W,some (.blk true (.cells true [.fs [[I (i:Nat)]]])),none]):=aXh (q:=q) hW hl hi
 unfold hsA chB at *;rw[qX 184 aKm rfl];unfold aKm swg;dsimp only;(exact RS2 c1 c2)
def swL(q:Int)(W:List Int)(i:Nat):List Int:=(List.range i).map (swg q W)
theorem aRw(q:Int)(W:List Int)(i:Nat):swL q W (i+1)=swL q W i++[swg q W i]:=by
 unfold swL;rw[List.range_succ,F7];rfl
theorem aDK(q:Int)(W:List Int)(i:Nat):(swL q W i).length=i:=by simp[swL]
def aOW:Nat→AV
 | 0=>.nilsl
 | i+1=>.sl 2 0 1 (i+1)
def aPE(q:Int)(W:List Int):Nat→XH
 | 0=>[hsX q W,fnX]
 | i+1=>[hsX q W,fnX,some (.blk true (.cells true ((swL q W (i+1)).map I)))]
theorem qZ{i:Nat}(hi:0<i):aOW i = .sl 2 0 1 i:=by
 cases i with
 | zero=>omega
 | succ i=>rfl
theorem rP{i:Nat}(hi:0<i):aPE q W i=[hsX q W,fnX,some (.blk true (.cells true ((swL q W i).map I)))]:=by
 cases i with
 | zero=>omega
 | succ i=>rfl
theorem aRx(q:Int)(W:List Int)(n:Nat):dB ((swL q W n).map I) 0 1 n=wr (swL q W n):=by
 have h:=zW (f:=I) (swL q W n) [];rw[aDK]at h;exact h
theorem aXn(hW:∀ v∈W,0≤v∧v≤1000000)(h1:1≤W.length)(hl:W.length≤9) :
 runW aD 183 [hsA q W,.fn (.func 184) [] [.pt 0 0,.pt 1 0]] [hsX q W,fnX]=some (.fs (wr (swL q W W.length)),[hsX q W,fnX]):=by
 have e0:((W.length:Int)<(W.length:Int))=False:=AAb;have sl:=aDK q W;have ch:=aRx q W W.length;rw[qX 183 aOb rfl];unfold aOb hsA chB;dsimp only;sym =>
  simp[Za,Zb,Zd,Ze,Zf,Zh,Zl,Zm,Zo,Zv,Zz,Z8,ZA,ZG,ZW,Yf,Yi,Ym,Yn,Yo,Yv,Y9,YJ,YR,YV,YY,Xy,XM,XN,XO,XX,XY,We,Wh,Wi,Wp,Wr,Wx,Wy,Wz,WC,WE,WP,Vc,Vf,Vi,Vk,Vp,Vr,Vt,Vw,VA,VB,VC,VD,VE,VF,VG,VH,VI,VJ,VK,VL,VM,VN,VO,VQ,VR,VS,VT,VU,VV,VW,VX,VY,VZ,Ua,Ub,Uc,Ue,Uf,Uj,Uk,Un,Uo,Ur,Us,Uy,Uz,U0,U1,U2,UB,UD,UG,UH,UJ,UK,UL,UM,UN,UQ,UR,US,UT,UV,UW,UX,UY,UZ,Ta,Tb,Tc,Te,Tf,Tg,Th,Ti,Tj,Tl,Tm,Tn,Tp,Tq,Ts,Tu,TB,TE,TF,TG,TH,TI,TJ,TK,TL,TM,TN,TO,TP,TU,TV,TW,TX,TY,TZ,Sg,Si,Sj,Sk,Sl,Sm,Sr,Ss,Su,Sv,Sw,Sx,Sy,Sz,S2,S6,SB,SC,SD,SE,SF,SG,SJ,SK,SL,SM,SN,SO,SP,SS,SV,SW,SX,SY,R0,RA,RK,Qr,Qt,Qw,Pj,Pk,Pl,Pm]
  tactic =>
   unfold aKn;rw[cS W.length (fun i=>[.fn (.func 184) [] [.pt 0 0,.pt 1 0],aOW i,I W.length,I (i:Nat)]) (fun i=>aPE q W i)]
   ·have l0:(W.length≤(swL q W W.length).length)=True:=AAm (by rw[sl];omega)
    rw[qZ h1,rP h1];(exact RS3 e0 ch l0)
   ·unfold aOW aPE
    (exact zF)
   ·intro i hi
    have c:=aXm (q:=q) hW hl hi;have t1:((i:Int)<(W.length:Int))=True:=AAa;have a2:IntKind.i64.wrap ((i:Int)+1)=((i+1:Nat):Int):=by rw[aJ (by omega) (by omega)];rfl
    cases i with
    | zero =>
      have e1:(swL q W (0+1)).map I=[I (swg q W 0)]:=rfl;have z0:aOW 0 = .nilsl:=rfl;have z1:aPE q W 0=[hsX q W,fnX]:=rfl;have t1:((0:Int)<(W.length:Int))=True:=t1;have c:runW aD 184 [I 0,.pt 0 0,.pt 1 0] [hsX q W,fnX]=some (I (swg q W 0),[hsX q W,fnX]):=c;rw[z0,z1,qZ (aF2 0),rP (aF2 0),e1];(exact RS2 t1 c)
    | succ i =>
      have e1:(swL q W (i+1+1)).map I=(swL q W (i+1)).map I++[I (swg q W (i+1))]:=by rw[aRw q W (i+1),F7];rfl
      have l1:=sl (i+1);have b1:((i+1+1)*8≤1099511627776)=True:=AAa;have b2:(i+1+1≤1099511627776)=True:=AAa;have p1:0<i+1:=by omega
      have p2:0<i+1+1:=by omega
      rw[qZ p1,qZ p2,rP p1,rP p2,e1];generalize swL q W (i+1)=Z at *;(exact RS7 t1 c a2 l1 b1 b2 aE)
   ·rw[qZ h1,rP h1]
    (exact eD e0)
theorem aXr(hq:1≤q∧q≤10000000)(hW:∀ v∈W,0≤v∧v≤1000000)(h1:1≤W.length)(hl:W.length≤9) :
 runW aD 159 [.agg [.sl 0 0 2 1],.fn (.func 160) [] []] [some (.blk false (.cells true [I q,.sl 1 0 1 W.length])),some (.blk true (.cells true (W.map I)))]=some (.tup [.fs (wr (swL q W W.length)),I 0],[none,none]):=by
 have c1:=aXo hq hW h1 hl;have c2:=aXn (q:=q) hW h1 hl;have ch:(W.map fun v=>[AV.int .i64 v])=wr W:=rfl;unfold chA hsA chB at *;rw[qX 159 aOe rfl];unfold aOe;dsimp only;(exact RS3 c1 c2 ch)
theorem aXs(hq:1≤q∧q≤10000000)(hW:∀ v∈W,0≤v∧v≤1000000)(h1:1≤W.length)(hl:W.length≤9) :
 runW aD 137 [.agg [.sl 0 0 2 1]] [some (.blk false (.cells true [I q,.sl 1 0 1 W.length])),some (.blk true (.cells true (W.map I)))]=some (.tup [.fs (wr (swL q W W.length)),I 0],[none,none]):=by
 have c1:=aXr hq hW h1 hl;rw[qX 137 aOf rfl];unfold aOf;dsimp only;(exact eD c1)
end
end Go.Proofs.YtmapgnepfgnphaaGreatDoor
namespace Go.DL
theorem rD{h:XH}{k:Nat}{acc:List Nat}:∀(n:Nat)(l:List Nat),(∀ b∈l,b<k∨b∈acc)→cO h k n l acc=acc
 | 0,_,_=>rfl
 | n+1,[],_=>rfl
 | n+1,b::r,h1=>by
   unfold cO;rw[if_pos (h1 b (by simp))];exact rD n r fun c hc=>h1 c (by simp[hc])
theorem vT{h k:XH}(cd:Cd h):∀ b∈(bY h.length (h++k)).flatMap nmO,b<h.length:=by
 rw[kC];intro b hb;obtain⟨x,hx,hb⟩:=M7.1 hb;exact cd x hx b hb
theorem aMH{h k:XH}{n c:Nat}{r:List Nat}{x:XB}(hn:h.length=n)(cd:Cd h){L:List Nat}{e:aH}(hv:kW (L.map e)=c::n::r)(hc:c<n)(hr:∀ b∈r,b<n)(hx:hat (h++k) n=some x)(hx0:nmO (some x)=[]):dL n L (some (.normal,e,h++k))=some (L.map e,h++[some x]):=by
 subst hn;have hxb:nmB x=[]:=hx0;have h1:cP h.length (L.map e) (h++k)=[h.length]:=by
  unfold cP;have hf:=vT (k:=k) cd;rw[hv];generalize (bY h.length (h++k)).flatMap nmO=fl at hf;show cO (h++k) h.length 4096 (c::h.length::(r++fl)) []=_;rw[cO,if_pos (.inl hc),cO,if_neg (by simp),hx];dsimp only;rw[hxb];refine rD _ _ fun b hb=>?_;rw[J9,B2]at hb;exact .inl (hb.elim (hr b) (hf b))
 have hs:∀ b,b≤h.length→keepS h.length [h.length] b=some b:=fun b hb=>by
  unfold keepS;by_cases hb2:b<h.length;·rw[if_pos hb2]
  ·have:b=h.length:=by omega
   subst this;rw[if_neg hb2];simp[eX]
 rw[SW];unfold uN jD lD;rw[h1,kC,aEo cd];rw[hC _ _ fun b hb=>by
  rw[hv]at hb;rcases B4.1 hb with rfl|hb;·exact hs _ (by omega)
  ·rcases B4.1 hb with rfl|hb
   ·exact hs _ (by omega)
   ·exact hs _ (by have:=hr b hb;omega)]
 simp only[C4,aD1,hx];rw[aEb _ (some x) fun b hb=>by rw[hx0]at hb;cases hb]
theorem aMG{h k:XH}{n m c o z l:Nat}{r:List Nat}{y:XB}{q:AV}(hn:h.length=n)(cd:Cd h){L:List Nat}{e:aH}(hv:kW (L.map e)=c::n::r)(hc:c<n)(hr:∀ b∈r,b<n)(hq:∃ i,q = .int .i64 i)(hx:hat (h++k) n=some (.blk false (.cells true [q,.sl m o z l])))(hm:n<m)(hy:hat (h++k) m=some y)(hy0:nmO (some y)=[]) :
 dL n L (some (.normal,e,h++k))=some (L.map e,h++[some (.blk false (.cells true [q,.sl (n+1) o z l])),some y]):=by
 obtain⟨i,rfl⟩:=hq;subst hn;have hyb:nmB y=[]:=hy0;have h1:cP h.length (L.map e) (h++k)=[h.length,m]:=by
  unfold cP;have hf:=vT (k:=k) cd;rw[hv];generalize (bY h.length (h++k)).flatMap nmO=fl at hf;show cO (h++k) h.length 4096 (c::h.length::(r++fl)) []=_;rw[cO,if_pos (.inl hc),cO,if_neg (by simp),hx];dsimp only;show cO (h++k) h.length 4094 (m::(r++fl)) [h.length]=_;rw[cO,if_neg (by simp;omega),hy];dsimp only;rw[hyb];refine rD _ _ fun b hb=>?_;rw[J9,B2]at hb;exact .inl (hb.elim (hr b) (hf b))
 have hs:∀ b,b≤h.length→keepS h.length [h.length,m] b=some b:=fun b hb=>by
  unfold keepS;by_cases hb2:b<h.length;·rw[if_pos hb2]
  ·have:b=h.length:=by omega
   subst this;rw[if_neg hb2];simp[eX]
 have hsm:keepS h.length [h.length,m] m=some (h.length+1):=by
  unfold keepS;rw[if_neg (by omega)];have h2:¬m=h.length:=by omega
  have h3:eX m [h.length,m]=some 1:=by simp[eX,h2]
  rw[h3,B9,aC0]
 rw[SW];unfold uN jD lD;rw[h1,kC,aEo cd];rw[hC _ _ fun b hb=>by
  rw[hv]at hb;rcases B4.1 hb with rfl|hb;·exact hs _ (by omega)
  ·rcases B4.1 hb with rfl|hb
   ·exact hs _ (by omega)
   ·exact hs _ (by have:=hr b hb;omega)]
 simp only[C4,aD1,hx,hy];rw[aEb _ (some y) fun b hb=>by rw[hy0]at hb;cases hb];congr 2;show h++[some (XB.blk false (.cells true (lQ _ [.int .i64 i,.sl m o z l]))),_]=_;simp only[lQ,rnA,hsm]
end Go.DL
namespace Go.Proofs.YtmapgnepfgnphaaGreatDoor
open Go Go.DL
theorem aPP{h k:XH}{n c:Nat}{r:List Nat}{x:XB}(hn:h.length=n)(cd:Cd h){L:List Nat}{q:Option (DX×aH×XH)}{vs:List AV}(hq:qH L q=some (.normal,vs,h++k))(hv:kW vs=c::n::r)(hc:c<n)(hr:∀ b∈r,b<n)(hx:hat (h++k) n=some x)(hx0:nmO (some x)=[]):dL n L q=some (vs,h++[some x]):=by
 unfold qH at hq;rw[A0]at hq;obtain⟨⟨x,e,h2⟩,rfl,he⟩:=hq;simp only[B3]at he;obtain⟨rfl,rfl,rfl⟩:=he;exact aMH hn cd hv hc hr hx hx0
theorem aII{h k:XH}{n m c o z l:Nat}{r:List Nat}{y:XB}{a:AV}(hn:h.length=n)(cd:Cd h){L:List Nat}{q:Option (DX×aH×XH)}{vs:List AV}(hq:qH L q=some (.normal,vs,h++k))(hv:kW vs=c::n::r)(hc:c<n)(hr:∀ b∈r,b<n)(ha:∃ i,a = .int .i64 i)(hx:hat (h++k) n=some (.blk false (.cells true [a,.sl m o z l])))(hm:n<m)(hy:hat (h++k) m=some y)(hy0:nmO (some y)=[]) :
 dL n L q=some (vs,h++[some (.blk false (.cells true [a,.sl (n+1) o z l])),some y]):=by
 unfold qH at hq;rw[A0]at hq;obtain⟨⟨x,e,h2⟩,rfl,he⟩:=hq;simp only[B3]at he;obtain⟨rfl,rfl,rfl⟩:=he;exact aMG hn cd hv hc hr ha hx hm hy hy0
variable{h h' h1:XH}{L:CL}{s:dD}{x:ByteArray}
def bT(s:dD):List Int:=s.farmers.map fun p=>uV p.2 1000
def aAU(s:dD):Int:=uV (bT s).sum 2+1
def aCt(s:dD)(x:ByteArray):Int:=match dE (s.farmers.map (·.1)) x with
 | some i=>swg (aAU s) (bT s) i
 | none=>0
def atS(ix i:Nat):Int:=if ix<i then (ix:Int) else 0
def kS(n:Nat)(W:List Int):Nat→XH
 | 0=>[some (.blk true (.cells true [I 0,.nilsl]))]
 | i+1=>[some (.blk false (.cells true [I 0,.sl (n+1) 0 1 (i+1)])),some (.blk true (.cells true ((W.take (i+1)).map I)))]
theorem aEt{n i:Nat}{W:List Int}(hi:0<i):kS n W i=[some (.blk false (.cells true [I 0,.sl (n+1) 0 1 i])),some (.blk true (.cells true ((W.take i).map I)))]:=by
 cases i with
 | zero=>omega
 | succ i=>rfl
theorem aAe(s:dD):(bT s).length=s.farmers.length:=by simp[bT]
theorem aDH(gs:fD s):∀ v∈bT s,0≤v∧v≤30000:=by
 intro v hv;obtain⟨p,hp,rfl⟩:=D8.1 hv;have h1:=gs.fs p hp;have h2:=gs.bf p hp;have h3:=gs.book;have h0:0≤p.2:=by
  rw[h1];unfold iQ;have:∀ l:List CTk,(∀ k∈l,0≤k.net)→0≤(l.map fun k=>if k.farmer=p.1∧k.void=false then k.net else 0).sum:=by
   intro l;induction l with
   | nil=>intro _;simp
   | cons k l ih =>
     intro hk;have i1:=ih fun k' h'=>hk k' (C8 _ h');have i2:=hk k (by simp);rw[C4,J7];split<;>omega
  exact this _ fun k hk=>(gs.bt k hk).1
 unfold uV;rw[aA2 h0];omega
theorem aRy{l:List Int}{B:Int}(h:∀ v∈l,0≤v∧v≤B):0≤l.sum∧l.sum≤B*l.length:=by
 induction l with
 | nil=>simp
 | cons v r ih =>
   have h1:=h v (by simp);have h2:=ih fun w hw=>h w (C8 v hw);rw[J7,C6];have:B*((r.length+1:Nat):Int)=B*(r.length:Int)+B:=by
    rw[Int.natCast_add,Int.mul_add];simp
   omega
theorem aKG(gs:fD s)(i:Nat):0≤((bT s).take i).sum∧((bT s).take i).sum≤300000:=by
 have h1:=aRy (l:=(bT s).take i) (B:=30000) fun v hv=>aDH gs v (G8 hv);have h2:((bT s).take i).length≤9:=by
  rw[M6,aAe];have:=gs.lf;omega
 omega
theorem w98(ly:Lays h L s)(gs:fD s)(cd:Cd h){ix:Nat}(hx:dE (s.farmers.map (·.1)) x=some ix):∃ K,runW aD 98 [.pt L.c 0,.str x] h=some (I (aCt s x),h++K):=by
 obtain⟨n,hn⟩:∃ n,h.length=n:=⟨_,rfl⟩;obtain⟨g,hc⟩:=aB ly.hc;unfold cG at hc;have lc:L.c<n:=by rw[←hn];exact aF ly.hc
 have cn:(L.c<n)=True:=AAm lc;have hix:ix<s.farmers.length:=by
  have:=(A5.1 (eY hx)).1;simpa using this
 have hk:0<s.farmers.length:=by omega
 have hk9:=gs.lf;obtain⟨gw,hwo⟩:=ly.f.ho;rw[B0,eJ hk]at hwo;obtain⟨gb,hfb⟩:=ly.f.hb (by rw[B0];exact hk);have lo:L.f.o<n:=by rw[←hn];exact ly.f.lts.1
 have lb:L.f.b<n:=by rw[←hn];exact ly.f.lts.2.2.1 (by rw[B0];exact hk)
 have won:(L.f.o<n)=True:=AAm lo;have wbn:(L.f.b<n)=True:=AAm lb;obtain⟨e0,v0,_,_,_,call0⟩:=ly.f.getf hx;have hWl:=aAe s;have bd:=aKG gs;have klt:((s.farmers.length:Int)<(s.farmers.length:Int))=False:=AAb;have fin:((bT s).take s.farmers.length).sum=(bT s).sum:=by rw[I0 (by omega)]
 have fin2:(bT s).take s.farmers.length=bT s:=by rw[I0 (by omega)]
 have nm:∀ i:Nat,kW [.pt L.c 0,.str x,.pt n 0,I (atS ix i),I ((bT s).take i).sum,.sl L.f.b 0 1 s.farmers.length,I s.farmers.length,I (i:Nat)]=L.c::n::[L.f.b]:=fun i=>rfl;have hr:∀ b∈[L.f.b],b<n:=fun b hb=>by rw[B5.1 hb];exact lb
 refine⟨[some (.blk false (.cells true [I (aAU s),.sl (n+1) 0 1 s.farmers.length])),none,none],?_⟩;rw[qY 98 x98 rfl,hn];unfold x98;dsimp only;sym =>
  simp[fH,fI,lI,Za,Zb,Zc,Zf,Zh,Zl,Zm,Zv,Zw,Z0,Z9,ZG,ZS,ZW,Ya,Yb,Yf,Yi,Yn,Yv,Yy,Xu,Xx,We,Wm,Vh,Vm,Vw,VA,VB,VC,VD,VE,VG,VH,VI,VJ,UV,Te,Tf,Tg,Ti,Tj,Tn,Tp,Tu,TB,TO,TP,TU,TV,TW,TX,Sz,S2,S6,S7,S8,SJ,SN,SO,SX,SY,Ph,Pk,Pm,Pr,Ps,Pv,Px,hn,hc,cn,hwo,won,call0]
  tactic =>
   unfold aQm;rw[cS s.farmers.length (fun i=>[.pt L.c 0,.str x,.pt n 0,I (atS ix i),I ((bT s).take i).sum,.sl L.f.b 0 1 s.farmers.length,I s.farmers.length,I (i:Nat)]) (fun i=>h++kS n (bT s) i)]
   ·rw[aEt hk,fin2]
    have q0:aAU s=uV (bT s).sum 2+1:=rfl;have b0:=bd s.farmers.length;rw[fin]at b0;have td:0≤uV (bT s).sum 2∧uV (bT s).sum 2≤300000:=by
     unfold uV;rw[aA2 b0.1];omega
    have a1:IntKind.i64.wrap (uV (bT s).sum 2)=uV (bT s).sum 2:=aJ (by omega) (by omega);have a2:IntKind.i64.wrap (uV (bT s).sum 2+1)=aAU s:=by rw[aJ (by omega) (by omega)];rfl
    have c137:=aXs (q:=aAU s) (W:=bT s) (by omega) (fun v hv=>by have:=aDH gs v hv;omega) (by omega) (by omega);rw[hWl]at c137;have hat1:atS ix s.farmers.length=(ix:Int):=by unfold atS;rw[if_pos hix]
    have sl:=aDK (aAU s) (bT s) s.farmers.length;have wl:=aAb (swL (aAU s) (bT s) s.farmers.length);rw[sl]at wl;have sg:(swL (aAU s) (bT s) s.farmers.length)[ix]?=some (swg (aAU s) (bT s) ix):=by
     unfold swL;rw[A9,O0 hix];rfl
    have wg:=aKo sg;have pw:aCt s x=swg (aAU s) (bT s) ix:=by unfold aCt;rw[hx]
    have ixn:((ix:Int)<(s.farmers.length:Int))=True:=AAa;have m1:(n+1=n+2)=False:=AAb;have m2:(n+2=n+1)=False:=AAb;have m3:(n+1<0)=False:=AAb;have m4:(n+2<0)=False:=AAb;rw[hat1,pw];(exact xW hn klt a1 a2 c137 wl wg ixn m1 @m2 m3 m4 aE)
   ·exact aPP hn cd (k:=[some (.blk true (.cells true [I 0,.nilsl]))]) rfl (nm 0) lc hr (by rw[cF,if_neg (by omega),hn,aD2];rfl) rfl
   ·intro i hi
    obtain⟨⟨q,y⟩,hq⟩:∃ p,s.farmers[i]?=some p:=⟨_,A7 hi⟩;have hqk:(s.farmers.map (·.1))[i]?=some q:=by rw[A9,hq];rfl
    have hxq:=aDd gs.nf hqk;obtain⟨e,v,he,hv,hev,_⟩:=ly.f.getf hxq;obtain⟨e',v',he',_,_,call⟩:=(ly.ext (kS n (bT s) i)).f.getf hxq;rw[he]at he';cases he';rw[A9,hq]at hv;cases hv;have hev:aG h e=some (.cells true [I y]):=hev;have en:(e<n)=True:=AAm (by rw[←hn];exact aF hev);obtain⟨ge,hee⟩:=aB hev;have t1:((i:Int)<(s.farmers.length:Int))=True:=AAa;have hWi:(bT s)[i]?=some (uV y 1000):=by unfold bT;rw[A9,hq];rfl
    have tb:=aDH gs _ (A8 hWi);have hs1:((bT s).take (i+1)).sum=((bT s).take i).sum+uV y 1000:=by
     rw[O7,hWi];simp
    have b1:=bd (i+1);rw[hs1]at b1;have a1:IntKind.i64.wrap (uV y 1000)=uV y 1000:=aJ (by omega) (by omega);have a2:IntKind.i64.wrap (((bT s).take i).sum+uV y 1000)=((bT s).take i).sum+uV y 1000:=aJ (by omega) (by omega);have a3:IntKind.i64.wrap ((i:Int)+1)=((i+1:Nat):Int):=by rw[aJ (by omega) (by omega)];rfl
    have ht1:((bT s).take (i+1)).map I=((bT s).take i).map I++[I (uV y 1000)]:=by
     rw[O7,hWi,F7];rfl
    have mq1:Option.map Prod.fst (some (q,y))=some q:=rfl;have mq2:Option.map AV.str (some q)=some (.str q):=rfl;have key:(aP .eql q x=some (.bool true)∧atS ix (i+1)=(i:Int))∨(aP .eql q x=some (.bool false)∧atS ix (i+1)=atS ix i):=by
     by_cases hqx:q=x
     ·refine .inl ⟨by rw[oT,AAk hqx],?_⟩
      rw[hqx,hx]at hxq;cases hxq;unfold atS;rw[if_pos (by omega)]
     ·refine .inr ⟨by rw[oT,AAl hqx],?_⟩
      have hne:ix≠i:=fun q1=>by
       subst q1;have h2:=eY hx;rw[h2]at hqk;exact hqx (Option.some.inj hqk).symm
      unfold atS;by_cases h3:ix<i;·rw[if_pos h3,if_pos (by omega)]
      ·rw[if_neg h3,if_neg (by omega)]
    rw[aEt (Nat.zero_lt_succ i)];cases i with
    | zero =>
      have e1:((bT s).take (0+1)).map I=[I (uV y 1000)]:=by rw[ht1];rfl
      rw[e1];refine aII hn cd (k:=[some (.blk false (.cells true [I 0,.sl (n+2) 0 1 1])),some (.blk true (.cells true [I (uV y 1000)])),some (.blk true (.cells true [I (uV y 1000)]))]) ?_ (nm (0+1)) lc hr ⟨0,rfl⟩ (by rw[cF,if_neg (by omega),hn,aD2];rfl) (by omega) (by rw[cF,if_neg (by omega),show n+2-h.length=2 by omega];rfl) rfl;have t1:((0:Int)<(s.farmers.length:Int))=True:=t1;have s0:((bT s).take 0).sum=0:=rfl;rw[hs1,s0];rw[s0]at a2 b1;have a2:IntKind.i64.wrap (0+uV y 1000)=0+uV y 1000:=a2;have k0:kS n (bT s) 0=[some (.blk true (.cells true [I 0,.nilsl]))]:=rfl;rw[k0]at call ⊢;have z1:atS ix 0=0:=by unfold atS;rw[if_neg (by omega)]
      rcases key with ⟨k1,k2⟩|⟨k1,k2⟩
      ·rw[k2,z1]
       (exact aKb hn t1 hfb hq mq1 mq2 hc hwo call hee a1 a2 k1 cn won wbn en aE aE aE)
      ·rw[k2,z1]
       (exact aKb hn t1 hfb hq mq1 mq2 hc hwo call hee a1 a2 k1 cn won wbn en aE aE aE)
    | succ i =>
      have pi:0<i+1:=by omega
      rw[ht1,hs1];rw[aEt pi]at call ⊢;refine aII hn cd (k:=[some (.blk false (.cells true [I 0,.sl (n+3) 0 1 (i+1+1)])),none,some (.blk true (.cells true [I (uV y 1000)])),some (.blk true (.cells true (((bT s).take (i+1)).map I++[I (uV y 1000)])))]) ?_ (by rw[←hs1];exact nm (i+1+1)) lc hr ⟨0,rfl⟩ (by rw[cF,if_neg (by omega),hn,aD2];rfl) (by omega) (by rw[cF,if_neg (by omega),show n+3-h.length=3 by omega];rfl) rfl;have tl:((bT s).take (i+1)).length=i+1:=by rw[M6];omega
      have b2:((i+1+1)*8≤1099511627776)=True:=AAa;have b3:(i+1+1≤1099511627776)=True:=AAa;generalize ((bT s).take (i+1)).sum=S0 at *;generalize (bT s).take (i+1)=W0 at *;rcases key with ⟨k1,k2⟩|⟨k1,k2⟩
      ·rw[k2]
       (exact mN hn t1 hfb hq mq1 mq2 hc hwo call hee a1 a2 a3 k1 cn won wbn en tl b2 b3 aE aE aE aE aE)
      ·rw[k2]
       (exact mN hn t1 hfb hq mq1 mq2 hc hwo call hee a1 a2 a3 k1 cn won wbn en tl b2 b3 aE aE aE aE aE)
   ·rw[aEt hk]
    (exact RT2 hn klt)
variable{h h' h1:XH}{L:CL}{s:dD}{x:ByteArray}
theorem aRt{q:Int}{W:List Int}{i:Nat}(h:W.length≤9):0≤swg q W i∧swg q W i≤1000:=by
 have p2:2^W.length≤2^9:=G9 (by omega) h;have:=aKL q W i (2^W.length);unfold swg;omega
theorem aRR(gs:fD s) : -1000000≤aCt s x∧aCt s x≤1000000:=by
 unfold aCt;split
 ·have:=aRt (q:=aAU s) (W:=bT s) (i:=by assumption) (by rw[aAe];exact gs.lf)
  omega
 ·omega
theorem aPG(h k:XH):Frz h.length h (h++k):=fun j c hc _=>by
 rw[fA,if_pos (aF hc)];exact hc
theorem c98(ly:Lays h L s)(hx:dE (s.farmers.map (·.1)) x=none):CalP Tryz.prog aD 98 [.pt L.c 0,.str x] h (.ifc 110 (.agg [I 5])) h:=by
 obtain⟨n,hn⟩:∃ n,h.length=n:=⟨_,rfl⟩;obtain⟨g,hc⟩:=aB ly.hc;unfold cG at hc;have cn:(L.c<n)=True:=AAm (by rw[←hn];exact aF ly.hc);have call:=ly.f.nonef hx;refine CalP.of (d:=x98) (e':=bW [] []) aA rfl (by simp[x98]) rfl ?_;unfold x98;dsimp only;refine PanX.seqR (K:=98) aA rfl [0,1] (vs:=[.pt L.c 0,.str x]) (h1:=h) (by (exact zF)) ?_;refine PanX.seqL ?_;exact PanX.reg (p:=[⟨0,some 13,.mv (.t 0),none⟩,⟨0,some 14,.nilck (.t 13),none⟩,⟨0,some 15,.fld 0 (.t 14),none⟩,⟨0,some 16,.load false 1 (.t 15),none⟩,⟨0,some 17,.mv (.t 1),none⟩]) (post:=[]) aA [] (g:=95) (first:=[]) (cap:=[]) (args:=[.pt L.f.o 0,.str x]) (vs:=[]) (h1:=h) rfl rfl (by (exact RS3 hn hc cn)) call
theorem aRQ:aQY aCt:=by
 intro h L s x ly gs;cases hv:cT s.farmers x with
 | none=>exact⟨h,c98 ly (dZ.1 hv),(Fr.refl [] h).frz⟩
 | some v =>
   obtain⟨i,hi,_⟩:=dY hv;refine⟨aRR gs,fun cd=>?_⟩;obtain⟨K,hK⟩:=w98 ly gs cd hi;exact⟨_,hK,aPG h K⟩
variable{h h' h1:XH}{L:CL}{s:dD}{x line:ByteArray}{w:Wd}{v:AV}
def okN(s:dD)(w:Wd):Prop:=s.book.length≠300∧s.farmers.length≠9∧s.meters.length≠5∧s.pans.length≠5∧∀ x y a b,w = .wagon x y a b→b≤a
def aDx(s:dD)(line:ByteArray):Prop:=rd line = .inl 13∧CalP Tryz.prog aD 60 [.str line] [] (.ifc 110 (.agg [I 13])) [] ∨
 ∃ w v,rd line = .inr w∧runW aD 60 [.str line] []=some (v,[])∧IsW w v∧okN s w
noncomputable def sayA(s:dD)(line:ByteArray):ByteArray×dD:=aAp aCt s line (rd line)
theorem aFV{P:dD→ByteArray→Int}(gs:fD s)(hw:IsW w v)(hb:s.book.length≠300):fD (aAp P s line (.inr w)).2:=by
 have hbk:=gs.book;unfold aAp;dsimp only;cases ha:w.asks with
 | true =>
   simp only[AAe];split<;>exact gs
 | false =>
   simp only[B8,AAd];cases hc:dS s w with
   | some e=>exact gs
   | none =>
     dsimp only;rw[if_neg hb];have hlt:s.book.length<300:=by omega
     cases w with
     | farmer x=>exact aFW gs hw hc hlt
     | wagon x y a b=>exact aHj gs hw hc hlt
     | void i=>exact aJG gs hw hc hlt
     | close=>exact aHl gs hw hc hlt
     | meter x n=>exact aHk gs hw hc hlt
     | pan x a b=>exact aMN gs hw hc hlt
     | _=>cases ha
theorem aJI(hf:aDx s line)(ly:Lays h L s)(cd:Cd h)(gs:fD s):aEF h L line (sayA s line).2 (sayA s line).1∧fD (sayA s line).2:=by
 unfold sayA;rcases hf with ⟨hr,hp⟩|⟨w,v,hr,hp,hw,hb,h9,hm,h5,hle⟩
 ·rw[hr]
  exact⟨aLb ly (by decide) hp,gs⟩
 ·rw[hr]
  refine⟨aOT aRQ ly cd gs hp hw (fun e ha hc k=>?_) fun ha hc=>⟨hb,fun k=>?_⟩,aFV gs hw hb⟩
  ·cases w with
   | farmer x=>exact aCy (ly.ext k) h9 hw hc
   | wagon x y a b=>exact aEA (ly.ext k) gs (hle _ _ _ _ rfl) hw hc
   | void i=>exact aGj (ly.ext k) hw hc
   | close=>exact aEB (ly.ext k) hw hc
   | meter x n =>
     unfold dS at hc;dsimp only at hc;rw[if_neg fun q=>hm q.2]at hc;cases hc
   | pan x a b=>exact aGk (ly.ext k) h5 hw hc
   | _=>cases ha
  ·cases w with
   | farmer x=>exact aHA (ly.ext k) gs hw hc
   | wagon x y a b=>exact aJR (ly.ext k) gs hw hc
   | void i=>exact aNj (ly.ext k) gs hw hc
   | close=>exact aJT (ly.ext k) gs hw hc
   | meter x n=>exact aJS (ly.ext k) gs hw hc
   | pan x a b=>exact aPV (ly.ext k) gs hw hc
   | _=>cases ha
theorem aRO{D:Nat→Option XFn}:iT D 21 (pmSayG aDx sayA):=aRP fun _ _ _ _ hf ly cd gs=>aJI hf ly cd gs
end Go.Proofs.YtmapgnepfgnphaaGreatDoor
namespace Go.Proofs.YtmapgnepfgnphaaGreatDoor
open Go Go.DL Go.Proofs.Tryz
noncomputable def progG(K:Nat):Option XFn:=match K with
 | 19=>some (nZ aIk)
 | 21=>some (nZ (pmSayG aDx sayA))
 | K=>aD K
theorem aLP:XOk prog progG:=by
 refine XOk.over progX_ok fun K d hd=>?_;unfold progG at hd;split at hd;·cases hd;exact .inr ⟨_,_,rfl,aVc⟩
 ·cases hd;exact .inr ⟨_,_,rfl,aRO⟩
 ·unfold aD at hd
  split at hd;·cases hd;exact .inr ⟨_,_,rfl,aQR⟩
  ·cases hd;exact .inr ⟨_,_,rfl,aQQ⟩
  ·unfold aL at hd
   split at hd;·cases hd;exact .inr ⟨_,_,rfl,aLZ⟩
   ·cases hd;exact .inr ⟨_,_,rfl,aLY⟩
   ·cases hd;exact .inr ⟨_,_,rfl,aLX⟩
   ·cases hd;exact .inr ⟨_,_,rfl,aLW⟩
   ·cases hd;exact .inr ⟨_,_,rfl,aLV⟩
   ·cases hd;exact .inr ⟨_,_,rfl,aLU⟩
   ·cases hd;exact .inr ⟨_,_,rfl,aLT⟩
   ·cases hd;exact .inr ⟨_,_,rfl,aLS⟩
   ·cases hd;exact .inr ⟨_,_,rfl,aLR⟩
   ·cases hd;exact .inr ⟨_,_,rfl,aGT⟩
   ·cases hd;exact .inr ⟨_,_,rfl,aGS⟩
   ·cases hd;exact .inr ⟨_,_,rfl,aLQ⟩
   ·exact .inl ⟨hd,aPn hd⟩
noncomputable abbrev gK(s:dD):Option XB:=some (.gh s (IsClk s))
theorem g21(s:dD)(line:ByteArray)(hf:aDx s line):runW progG 21 [.pt 0 0,.str line] [gK s]=some (.str (sayA s line).1,[gK (sayA s line).2]):=by
 rw[mC (d:=nZ (pmSayG aDx sayA)) rfl rfl];show pmSayG aDx sayA [.pt 0 0,.str line] [gK s]=_;unfold pmSayG;exact if_pos ⟨rfl,hf⟩
theorem g19:runW progG 19 [] []=some (.pt 0 0,[gK pZ]):=by
 rw[mC (d:=nZ aIk) rfl rfl];rfl
theorem g13:runW progG 13 [] []=some (.bool true,[]):=by
 rw[mC (d:=nZ zO) rfl rfl];rfl
theorem aWy{vs:List AV}{h:XH}(hl:vs.length≤x33.N):runW progG 33 vs h=qA none x33.res x33.ownR h.length (execW progG 33 h.length none x33.body (bM (if x33.ownA then vs else qD vs)) h):=vM rfl hl h rfl
def oN:Nat→Nat→List UInt8
 | 0,_=>[]
 | f+1,n=>if n<10 then [UInt8.ofNat (48+n)] else oN f (n/10)++oN f (n%10)
theorem aHF{c:Nat}(h:c<256):Option.map (fun l=>AV.str { data:={ toList:=l } }) (gQ [.int .u8 (c:Int)])=some (.str ⟨⟨[UInt8.ofNat c]⟩⟩):=by
 simp only[gQ];first|rfl|simp
theorem aDB{c:Nat}(h:c<256):IntKind.u8.wrap (c:Int)=(c:Int):=by
 simp[IntKind.wrap,IntKind.bits,IntKind.signed];omega
theorem bAW{n:Nat}(h:n<10):runW progG 33 [I (n:Nat)] []=some (.str ⟨⟨[UInt8.ofNat (48+n)]⟩⟩,[]):=by
 rw[aWy (by simp[x33])];unfold x33;dsimp only;have t1:((n:Int)<10)=True:=AAa;have a1:IntKind.i64.wrap (48+(n:Int))=((48+n:Nat):Int):=by rw[aJ (by omega) (by omega)];omega
 have a2:=aDB (c:=48+n) (by omega);have a3:=aHF (c:=48+n) (by omega);(exact RT4 t1 a1 a2 a3)
theorem aHR(a b:List UInt8):(⟨⟨a⟩⟩:ByteArray)++⟨⟨b⟩⟩=⟨⟨a++b⟩⟩:=by
 apply ByteArray.ext;simp[ByteArray.data_append]
theorem g33:∀(f n:Nat),0<f→f≤10→n<10^f→(oN f n).length≤f∧runW progG 33 [I (n:Nat)] []=some (.str ⟨⟨oN f n⟩⟩,[])
 | 0,_,h,_,_=>by omega
 | f+1,n,_,hf,hn=>by
   by_cases h10:n<10
   ·unfold oN
    rw[if_pos h10];exact⟨by simp,bAW h10⟩
   ·have f0:0<f:=by
     rcases aB4 f with rfl|h;·simp at hn;omega
     ·exact h
    have hd:n/10<10^f:=by
     rw[aE8]at hn;omega
    obtain⟨l1,c1⟩:=g33 f (n/10) f0 (by omega) hd;have hm:n%10<10^f:=by
     have:10^1≤10^f:=G9 (by omega) f0;omega
    obtain⟨_,c2⟩:=g33 f (n%10) f0 (by omega) hm;have hdl:oN f (n%10)=[UInt8.ofNat (48+n%10)]:=by
     cases f with
     | zero=>omega
     | succ f=>unfold oN;rw[if_pos (by omega)]
    have e:oN (f+1) n=oN f (n/10)++oN f (n%10):=by rw[oN,if_neg h10]
    rw[e];have l2:(oN f (n%10)).length=1:=by rw[hdl];rfl
    refine⟨by rw[C2];omega,?_⟩;have t1:((n:Int)<10)=False:=AAb;have q1:uV (n:Int) 10=((n/10:Nat):Int):=aRo n 10;have q2:mR (n:Int) 10=((n%10:Nat):Int):=fR n 10;have big:(10:Nat)^(f+1)≤10^10:=G9 (by omega) hf;have q3:IntKind.i64.wrap ((n/10:Nat):Int)=((n/10:Nat):Int):=aJ (by omega) (by omega);have sa:=aEW (a:=⟨⟨oN f (n/10)⟩⟩) (b:=⟨⟨oN f (n%10)⟩⟩) (by rw[pQ,pQ];omega);rw[aHR]at sa;rw[aWy (by simp[x33])];unfold x33;dsimp only;(exact RT7 t1 q1 q2 q3 c1 c2 sa)
end Go.Proofs.YtmapgnepfgnphaaGreatDoor
namespace Go.Proofs.YtmapgnepfgnphaaGreatDoor
open Go Go.DL
theorem aDr{u:Nat}(h:u<10):(UInt8.ofNat (48+u)).toNat=48+u:=by
 simp[UInt8.toNat_ofNat'];omega
theorem aEy:∀(f u:Nat),u<10^f→∀ c∈Lib.decDigits u,48≤c.toNat∧c.toNat≤57
 | 0,u,h,c,hc=>by
   obtain rfl:u=0:=by simpa using h
   rw[Lib.decDigits,AAp (by omega)]at hc;have:c=48:=by simpa using hc
   rw[this];decide
 | f+1,u,h,c,hc=>by
   rw[Lib.decDigits]at hc;by_cases h10:u<10
   ·rw[AAp h10]at hc
    have e:=aDr h10;rw[B5.1 hc,e];omega
   ·rw[dif_neg h10,B2]at hc
    rcases hc with hc|hc;·exact aEy f (u/10) (by rw[aE8]at h;omega) c hc
    ·have e:=aDr (u:=u%10) (by omega)
     rw[B5.1 hc,e];omega
def dg(n:Nat):ByteArray:=⟨⟨Lib.decDigits n⟩⟩
theorem aMz(n:Nat):Lib.itoa (n:Int)=Lib.decDigits n:=by
 unfold Lib.itoa;rw[if_neg (by omega),Int.toNat_natCast]
theorem aPr(n:Nat):tG (n:Int)=dg n:=by unfold tG dg;rw[aMz]
theorem aBH:∀(f n:Nat),0<f→n<10^f→oN f n=Lib.decDigits n
 | 0,_,h,_=>by omega
 | f+1,n,_,hn=>by
   rw[oN,Lib.decDigits];by_cases h10:n<10;·rw[if_pos h10,AAp h10]
   ·rw[if_neg h10,dif_neg h10]
    have f0:0<f:=by
     rcases aB4 f with rfl|h;·simp at hn;omega
     ·exact h
    rw[aBH f (n/10) f0 (by rw[aE8]at hn;omega),aBH f (n%10) f0 (by have:10^1≤10^f:=G9 (by omega) f0;omega)];congr 1;rw[Lib.decDigits,AAp (by omega)]
theorem aAk:∀{a:List UInt8},32∉a→fF 32 a=[a]
 | [],_=>rfl
 | b::r,h=>by
   have hb:b≠32:=fun e=>h (by simp[e]);have ih:=aAk (a:=r) fun e=>h (C8 _ e);unfold fF;rw[if_neg hb,ih]
theorem aAl:∀{a b:List UInt8},32∉a→fF 32 (a++32::b)=a::fF 32 b
 | [],b,_=>by
   show fF 32 (32::b)=_;rw[fF,if_pos rfl]
 | c::r,b,h=>by
   have hc:c≠32:=fun e=>h (by simp[e]);have ih:=aAl (a:=r) (b:=b) fun e=>h (C8 _ e);show fF 32 (c::(r++32::b))=_;rw[fF,if_neg hc,ih]
abbrev dV(n:Nat):List UInt8:=oN 6 n
def lL(b:Nat):UInt8:=UInt8.ofNat (97+b%4)
def lnQ(b c:Nat):List UInt8:=match c%7 with
 | 0=>[110,101,116,32]++[lL b]
 | 1=>[116,111,116,97,108]
 | 2=>[116,105,99,107,101,116,32]++dV (c%8)
 | 3=>[117,115,101,100,32]++[lL b]
 | 4=>[108,111,115,115,32]++[lL b]
 | 5=>[112,111,119,101,114,32]++[lL b]
 | _=>[98,108,111,111,109]
def wA(a b c d:Nat):List UInt8:=match a%12 with
 | 0=>[102,97,114,109,101,114,32]++[lL b]
 | 1=>[102,97,114,109,101,114,32]++[lL b]
 | 6=>[118,111,105,100,32]++dV (c%8)
 | 7=>if c<64 then [99,108,111,115,101] else [118,111,105,100,32]++dV (c%8)
 | 8=>(([109,101,116,101,114,32]++[lL b])++[32])++dV (390*c)
 | 9=>(([109,101,116,101,114,32]++[lL b])++[32])++dV (390*c)
 | 10=>(((([112,97,110,32]++[lL b])++[32])++dV (10+c))++[32])++dV d
 | 11=>lnQ b c
 | _=>(((((([119,97,103,111,110,32,119]++dV (c%3))++[32])++dV (4000+5*d+40*c))++[32])++dV (4000+5*d))++[32])++[lL b]
theorem aHi{vs:List AV}{h:XH}(hl:vs.length≤x32.N):runW progG 32 vs h=qA none x32.res x32.ownR h.length (execW progG 32 h.length none x32.body (bM (if x32.ownA then vs else qD vs)) h):=vM rfl hl h rfl
theorem lB{a b:List UInt8}(h:a.length+b.length≤1000000):aP .add ⟨⟨a⟩⟩ ⟨⟨b⟩⟩=some (.str ⟨⟨a++b⟩⟩):=by
 rw[aEW (by rw[pQ,pQ];exact h),aHR]
theorem fJ{n:Nat}(h:n≤99999):(dV n).length≤6:=(g33 6 n (by omega) (by omega) (by omega)).1
theorem aFY{n:Nat}(h:n≤99999):runW progG 33 [I (n:Nat)] []=some (.str ⟨⟨dV n⟩⟩,[]):=(g33 6 n (by omega) (by omega) (by omega)).2
abbrev nA(a b c d:Nat):AV:=.agg [.int .u8 (a:Int),.int .u8 (b:Int),.int .u8 (c:Int),.int .u8 (d:Int)]
theorem aBS(b:Nat):Option.map (fun l=>AV.str { data:={ toList:=l } }) (gQ [.int .u8 ((97+b%4:Nat):Int)])=some (.str ⟨⟨[lL b]⟩⟩):=aHF (by omega)
section
variable{a b c d:Nat}
theorem aHe(b:Nat):mR (b:Int) 4=((b%4:Nat):Int):=fR b 4
theorem aHd(b:Nat):IntKind.u8.wrap (97+((b%4:Nat):Int))=((97+b%4:Nat):Int):=by
 have h:=aDB (c:=97+b%4) (by omega);rw[show ((97+b%4:Nat):Int)=97+((b%4:Nat):Int) by omega]at h ⊢;exact h
theorem a12{a k:Nat}(h:a%12=k):mR (a:Int) 12=(k:Int):=by rw[←h];exact fR a 12
theorem aQu(ha:a%12=0∨a%12=1):runW progG 32 [nA a b c d] []=some (.str ⟨⟨[102,97,114,109,101,114,32]++[lL b]⟩⟩,[]):=by
 have b1:=aHe b;have b2:=aHd b;have b3:=aBS b;have s1:=lB (a:=[102,97,114,109,101,114,32]) (b:=[lL b]) (by simp);generalize b%4=m at *;generalize lL b=q at *;rw[aHi (by simp[x32])];unfold x32;dsimp only;rcases ha with ha|ha
 ·have a1:mR (a:Int) 12=0:=a12 ha
  (exact RT5 a1 b1 b2 b3 s1)
 ·have a1:mR (a:Int) 12=1:=a12 ha
  (exact RT5 a1 b1 b2 b3 s1)
theorem aHK(ha:a%12=2∨a%12=3∨a%12=4∨a%12=5)(hc:c<256)(hd:d<256):runW progG 32 [nA a b c d] []=some (.str ⟨⟨(((((([119,97,103,111,110,32,119]++dV (c%3))++[32])++dV (4000+5*d+40*c))++[32])++dV (4000+5*d))++[32])++[lL b]⟩⟩,[]):=by
 have b1:=aHe b;have b2:=aHd b;have b3:=aBS b;have l1:=fJ (n:=c%3) (by omega);have l2:=fJ (n:=4000+5*d+40*c) (by omega);have l3:=fJ (n:=4000+5*d) (by omega);have g1:=aFY (n:=c%3) (by omega);have g2:=aFY (n:=4000+5*d+40*c) (by omega);have g3:=aFY (n:=4000+5*d) (by omega);have e1:IntKind.i64.wrap (d:Int)=(d:Int):=aJ (by omega) (by omega);have e2:IntKind.i64.wrap (5*(d:Int))=5*(d:Int):=aJ (by omega) (by omega);have e3:IntKind.i64.wrap (4000+5*(d:Int))=((4000+5*d:Nat):Int):=by rw[aJ (by omega) (by omega)];omega
 have e4:IntKind.i64.wrap (c:Int)=(c:Int):=aJ (by omega) (by omega);have e5:mR (c:Int) 3=((c%3:Nat):Int):=fR c 3;have e6:IntKind.i64.wrap (40*(c:Int))=40*(c:Int):=aJ (by omega) (by omega);have e7:IntKind.i64.wrap (((4000+5*d:Nat):Int)+40*(c:Int))=((4000+5*d+40*c:Nat):Int):=by rw[aJ (by omega) (by omega)];omega
 generalize dV (c%3)=z1 at *;generalize dV (4000+5*d+40*c)=z2 at *;generalize dV (4000+5*d)=z3 at *;obtain⟨y1,i1⟩:∃ y,[119,97,103,111,110,32,119]++z1=y:=⟨_,rfl⟩;obtain⟨y2,i2⟩:∃ y,y1++[32]=y:=⟨_,rfl⟩;obtain⟨y3,i3⟩:∃ y,y2++z2=y:=⟨_,rfl⟩;obtain⟨y4,i4⟩:∃ y,y3++[32]=y:=⟨_,rfl⟩;obtain⟨y5,i5⟩:∃ y,y4++z3=y:=⟨_,rfl⟩;obtain⟨y6,i6⟩:∃ y,y5++[32]=y:=⟨_,rfl⟩;have j1:=AAq List.length i1;have j2:=AAq List.length i2;have j3:=AAq List.length i3;have j4:=AAq List.length i4;have j5:=AAq List.length i5;have j6:=AAq List.length i6;simp only[C2,C6,I1]at j1 j2 j3 j4 j5 j6;have s1:=lB (a:=[119,97,103,111,110,32,119]) (b:=z1) (by simp;omega);have s2:=lB (a:=y1) (b:=[32]) (by simp;omega);have s3:=lB (a:=y2) (b:=z2) (by omega);have s4:=lB (a:=y3) (b:=[32]) (by simp;omega);have s5:=lB (a:=y4) (b:=z3) (by omega);have s6:=lB (a:=y5) (b:=[32]) (by simp;omega);have s7:=lB (a:=y6) (b:=[lL b]) (by simp;omega);rw[i1]at s1 ⊢;rw[i2]at s2 ⊢;rw[i3]at s3 ⊢;rw[i4]at s4 ⊢;rw[i5]at s5 ⊢;rw[i6]at s6 ⊢;clear i1 i2 i3 i4 i5 i6 j1 j2 j3 j4 j5 j6;generalize y6++[lL b]=y7 at *;generalize c%3=r at *;generalize 4000+5*d+40*c=u2 at *;generalize 4000+5*d=u3 at *;generalize b%4=m at *;generalize lL b=q at *;rw[aHi (by simp[x32])];unfold x32;dsimp only;rcases ha with ha|ha|ha|ha
 ·have a1:mR (a:Int) 12=2:=a12 ha
  (exact mN a1 b1 b2 b3 e1 e2 e3 e4 e5 e6 e7 g1 g2 g3 s1 s2 s3 s4 s5 s6 s7 aE aE aE aE aE)
 ·have a1:mR (a:Int) 12=3:=a12 ha
  (exact mN a1 b1 b2 b3 e1 e2 e3 e4 e5 e6 e7 g1 g2 g3 s1 s2 s3 s4 s5 s6 s7 aE aE aE aE aE)
 ·have a1:mR (a:Int) 12=4:=a12 ha
  (exact mN a1 b1 b2 b3 e1 e2 e3 e4 e5 e6 e7 g1 g2 g3 s1 s2 s3 s4 s5 s6 s7 aE aE aE aE aE)
 ·have a1:mR (a:Int) 12=5:=a12 ha
  (exact mN a1 b1 b2 b3 e1 e2 e3 e4 e5 e6 e7 g1 g2 g3 s1 s2 s3 s4 s5 s6 s7 aE aE aE aE aE)
theorem aQs(ha:a%12=6∨a%12=7∧¬c<64)(hc:c<256):runW progG 32 [nA a b c d] []=some (.str ⟨⟨[118,111,105,100,32]++dV (c%8)⟩⟩,[]):=by
 have b1:=aHe b;have b2:=aHd b;have b3:=aBS b;have l1:=fJ (n:=c%8) (by omega);have g1:=aFY (n:=c%8) (by omega);have e4:IntKind.i64.wrap (c:Int)=(c:Int):=aJ (by omega) (by omega);have e5:mR (c:Int) 8=((c%8:Nat):Int):=fR c 8;have s1:=lB (a:=[118,111,105,100,32]) (b:=dV (c%8)) (by simp;omega);generalize dV (c%8)=z1 at *;generalize c%8=r at *;generalize b%4=m at *;generalize lL b=q at *;rw[aHi (by simp[x32])];unfold x32;dsimp only;rcases ha with ha|⟨ha,h6⟩
 ·have a1:mR (a:Int) 12=6:=a12 ha
  (exact RT9 a1 b1 b2 b3 e4 e5 g1 s1 aE)
 ·have a1:mR (a:Int) 12=7:=a12 ha
  have e6:((c:Int)<64)=False:=AAb;(exact RT9 a1 b1 b2 b3 e4 e5 e6 g1 s1)
theorem aTB(ha:a%12=7)(h6:c<64):runW progG 32 [nA a b c d] []=some (.str AAu,[]):=by
 have b1:=aHe b;have b2:=aHd b;have b3:=aBS b;have e6:((c:Int)<64)=True:=AAa;generalize b%4=m at *;generalize lL b=q at *;rw[aHi (by simp[x32])];unfold x32;dsimp only;have a1:mR (a:Int) 12=7:=a12 ha;(exact RT5 a1 b1 b2 b3 e6)
theorem aQt(ha:a%12=8∨a%12=9)(hc:c<256):runW progG 32 [nA a b c d] []=some (.str ⟨⟨(([109,101,116,101,114,32]++[lL b])++[32])++dV (390*c)⟩⟩,[]):=by
 have b1:=aHe b;have b2:=aHd b;have b3:=aBS b;have l1:=fJ (n:=390*c) (by omega);have g1:=aFY (n:=390*c) (by omega);have e4:IntKind.i64.wrap (c:Int)=(c:Int):=aJ (by omega) (by omega);have e5:IntKind.i64.wrap (390*(c:Int))=((390*c:Nat):Int):=by rw[aJ (by omega) (by omega)];omega
 have s1:=lB (a:=[109,101,116,101,114,32]) (b:=[lL b]) (by simp);have s2:=lB (a:=[109,101,116,101,114,32]++[lL b]) (b:=[32]) (by simp);have s3:=lB (a:=([109,101,116,101,114,32]++[lL b])++[32]) (b:=dV (390*c)) (by simp;omega);generalize (([109,101,116,101,114,32]++[lL b])++[32])++dV (390*c)=y3 at *;generalize ([109,101,116,101,114,32]++[lL b])++[32]=y2 at *;generalize [109,101,116,101,114,32]++[lL b]=y1 at *;generalize dV (390*c)=z1 at *;generalize 390*c=r at *;generalize b%4=m at *;generalize lL b=q at *;rw[aHi (by simp[x32])];unfold x32;dsimp only;rcases ha with ha|ha
 ·have a1:mR (a:Int) 12=8:=a12 ha
  (exact aWN a1 b1 b2 b3 e4 e5 g1 s1 s2 s3)
 ·have a1:mR (a:Int) 12=9:=a12 ha
  (exact aWN a1 b1 b2 b3 e4 e5 g1 s1 s2 s3)
theorem aTA(ha:a%12=10)(hc:c<256)(hd:d<256):runW progG 32 [nA a b c d] []=some (.str ⟨⟨(((([112,97,110,32]++[lL b])++[32])++dV (10+c))++[32])++dV d⟩⟩,[]):=by
 have b1:=aHe b;have b2:=aHd b;have b3:=aBS b;have l1:=fJ (n:=10+c) (by omega);have l2:=fJ (n:=d) (by omega);have g1:=aFY (n:=10+c) (by omega);have g2:=aFY (n:=d) (by omega);have e4:IntKind.i64.wrap (c:Int)=(c:Int):=aJ (by omega) (by omega);have e5:IntKind.i64.wrap (10+(c:Int))=((10+c:Nat):Int):=by rw[aJ (by omega) (by omega)];omega
 have e6:IntKind.i64.wrap (d:Int)=(d:Int):=aJ (by omega) (by omega);have s1:=lB (a:=[112,97,110,32]) (b:=[lL b]) (by simp);have s2:=lB (a:=[112,97,110,32]++[lL b]) (b:=[32]) (by simp);have s3:=lB (a:=([112,97,110,32]++[lL b])++[32]) (b:=dV (10+c)) (by simp;omega);have s4:=lB (a:=(([112,97,110,32]++[lL b])++[32])++dV (10+c)) (b:=[32]) (by simp;omega);have s5:=lB (a:=((([112,97,110,32]++[lL b])++[32])++dV (10+c))++[32]) (b:=dV d) (by simp;omega);generalize (((([112,97,110,32]++[lL b])++[32])++dV (10+c))++[32])++dV d=y5 at *;generalize ((([112,97,110,32]++[lL b])++[32])++dV (10+c))++[32]=y4 at *;generalize (([112,97,110,32]++[lL b])++[32])++dV (10+c)=y3 at *;generalize ([112,97,110,32]++[lL b])++[32]=y2 at *;generalize [112,97,110,32]++[lL b]=y1 at *;generalize dV (10+c)=z1 at *;generalize dV d=z2 at *;generalize 10+c=r at *;generalize b%4=m at *;generalize lL b=q at *;rw[aHi (by simp[x32])];unfold x32;dsimp only;have a1:mR (a:Int) 12=10:=a12 ha;(exact aKb a1 b1 b2 b3 e4 e5 e6 g1 g2 s1 s2 s3 s4 s5 aE aE aE aE aE aE)
theorem aTz(ha:a%12=11)(hc:c<256):runW progG 32 [nA a b c d] []=some (.str ⟨⟨lnQ b c⟩⟩,[]):=by
 have b1:=aHe b;have b2:=aHd b;have b3:=aBS b;have l1:=fJ (n:=c%8) (by omega);have g1:=aFY (n:=c%8) (by omega);have e4:IntKind.i64.wrap (c:Int)=(c:Int):=aJ (by omega) (by omega);have e5:mR (c:Int) 8=((c%8:Nat):Int):=fR c 8;have a1:mR (a:Int) 12=11:=a12 ha;have e7:mR (c:Int) 7=((c%7:Nat):Int):=fR c 7;have s1:=lB (a:=[110,101,116,32]) (b:=[lL b]) (by simp);have s2:=lB (a:=[116,105,99,107,101,116,32]) (b:=dV (c%8)) (by simp;omega);have s3:=lB (a:=[117,115,101,100,32]) (b:=[lL b]) (by simp);have s4:=lB (a:=[108,111,115,115,32]) (b:=[lL b]) (by simp);have s5:=lB (a:=[112,111,119,101,114,32]) (b:=[lL b]) (by simp);unfold lnQ;have hj:c%7<7:=J4 _ (by decide);generalize dV (c%8)=z1 at *;generalize c%8=r at *;generalize b%4=m at *;generalize lL b=q at *;rw[aHi (by simp[x32])];unfold x32;dsimp only;generalize c%7=j at *;have hj:j=0∨j=1∨j=2∨j=3∨j=4∨j=5∨j=6:=by omega
 rcases hj with rfl|rfl|rfl|rfl|rfl|rfl|rfl
 ·have e7:mR (c:Int) 7=0:=e7
  (exact xW a1 b1 b2 b3 e4 e5 e7 g1 s1 s2 s3 s4 s5)
 ·have e7:mR (c:Int) 7=1:=e7
  (exact xW a1 b1 b2 b3 e4 e5 e7 g1 s1 s2 s3 s4 s5)
 ·have e7:mR (c:Int) 7=2:=e7
  (exact xW a1 b1 b2 b3 e4 e5 e7 g1 s1 s2 s3 s4 s5)
 ·have e7:mR (c:Int) 7=3:=e7
  (exact xW a1 b1 b2 b3 e4 e5 e7 g1 s1 s2 s3 s4 s5)
 ·have e7:mR (c:Int) 7=4:=e7
  (exact xW a1 b1 b2 b3 e4 e5 e7 g1 s1 s2 s3 s4 s5)
 ·have e7:mR (c:Int) 7=5:=e7
  (exact xW a1 b1 b2 b3 e4 e5 e7 g1 s1 s2 s3 s4 s5)
 ·have e7:mR (c:Int) 7=6:=e7
  (exact xW a1 b1 b2 b3 e4 e5 e7 g1 s1 s2 s3 s4 s5)
theorem w32(hb:b<256)(hc:c<256)(hd:d<256):runW progG 32 [nA a b c d] []=some (.str ⟨⟨wA a b c d⟩⟩,[]):=by
 have ha:a%12<12:=J4 _ (by decide);obtain⟨k,hk⟩:∃ k,a%12=k:=⟨_,rfl⟩;unfold wA;rw[hk]at ha ⊢;have h:k=0∨k=1∨k=2∨k=3∨k=4∨k=5∨k=6∨k=7∨k=8∨k=9∨k=10∨k=11:=by omega
 rcases h with rfl|rfl|rfl|rfl|rfl|rfl|rfl|rfl|rfl|rfl|rfl|rfl;·exact aQu (.inl hk)
 ·exact aQu (.inr hk)
 ·exact aHK (.inl hk) hc hd
 ·exact aHK (.inr (.inl hk)) hc hd
 ·exact aHK (.inr (.inr (.inl hk))) hc hd
 ·exact aHK (.inr (.inr (.inr hk))) hc hd
 ·exact aQs (.inl hk) hc
 ·by_cases h:c<64
  ·simp only[if_pos h];exact aTB hk h
  ·simp only[if_neg h];exact aQs (.inr ⟨hk,h⟩) hc
 ·exact aQt (.inl hk) hc
 ·exact aQt (.inr hk) hc
 ·exact aTA hk hc hd
 ·exact aTz hk hc
end
def dX(m:Nat):ByteArray:=⟨⟨[UInt8.ofNat (97+m)]⟩⟩
def wgF(k:Nat):ByteArray:=⟨⟨119::dV k⟩⟩
abbrev dgF(n:Nat):ByteArray:=⟨⟨dV n⟩⟩
def wQ(m c:Nat):Option Wd:=match c%7 with
 | 0=>some (.net (dX m))
 | 1=>some .total
 | 2=>some (.ticket (c%8))
 | 3=>some (.used (dX m))
 | 4=>some (.loss (dX m))
 | 5=>some (.power (dX m))
 | _=>none
def wN(a m c d:Nat):Option Wd:=match a with
 | 0=>some (.farmer (dX m))
 | 1=>some (.farmer (dX m))
 | 6=>some (.void (c%8))
 | 7=>some (if c<64 then .close else .void (c%8))
 | 8=>some (.meter (dX m) ((390*c:Nat):Int))
 | 9=>some (.meter (dX m) ((390*c:Nat):Int))
 | 10=>some (.pan (dX m) ((10+c:Nat):Int) (d:Int))
 | 11=>wQ m c
 | _=>some (.wagon (wgF (c%3)) (dX m) ((4000+5*d+40*c:Nat):Int) ((4000+5*d:Nat):Int))
def Rd(line:ByteArray):Option Wd→Prop
 | some w=>rd line = .inr w∧∃ v,runW aD 60 [.str line] []=some (v,[])∧IsW w v
 | none=>rd line = .inl 13∧CalP Tryz.prog aD 60 [.str line] [] (.ifc 110 (.agg [I 13])) []
theorem aDz{line:ByteArray}{v:AV}(hx:bV aD 400 60 [.str line] []=some (v,[])):runW aD 60 [.str line] []=some (v,[]):=eW.2 ⟨400,hx⟩
theorem mQ{p:Nat→Prop}(h:p 0∧p 1∧p 2∧p 3){m:Nat}(hm:m<4):p m:=by
 rcases (by omega:m=0∨m=1∨m=2∨m=3)with rfl|rfl|rfl|rfl;·exact h.1
 ·exact h.2.1
 ·exact h.2.2.1
 ·exact h.2.2.2
theorem aQf{p:Nat→Prop}(h:(p 0∧p 1∧p 2∧p 3)∧p 4∧p 5∧p 6∧p 7){m:Nat}(hm:m<8):p m:=by
 by_cases h4:m<4;·exact mQ h.1 h4
 ·obtain⟨k,rfl⟩:∃ k,m=k+4:=⟨m-4,by omega⟩
  exact mQ (p:=fun k=>p (k+4)) h.2 (by omega)
theorem aCU{m:Nat}(hm:m<4):Rd ⟨⟨[102,97,114,109,101,114,32]++[UInt8.ofNat (97+m)]⟩⟩ (some (.farmer (dX m))):=⟨mQ (p:=fun m=>rd ⟨⟨[102,97,114,109,101,114,32]++[UInt8.ofNat (97+m)]⟩⟩ = .inr (.farmer (dX m))) ⟨by kernel_rfl,by kernel_rfl,by kernel_rfl,by kernel_rfl⟩ hm,_,aDz (mQ (p:=fun m=>bV aD 400 60 [.str ⟨⟨[102,97,114,109,101,114,32]++[UInt8.ofNat (97+m)]⟩⟩] []=some (.agg [.str AAr,.fs [[.str (dX m)]],.fs [[I 0]]],[])) ⟨by kernel_rfl,by kernel_rfl,by kernel_rfl,by kernel_rfl⟩ hm),0,rfl⟩
theorem aLD{m:Nat}(hm:m<4):Rd ⟨⟨[110,101,116,32]++[UInt8.ofNat (97+m)]⟩⟩ (some (.net (dX m))):=⟨mQ (p:=fun m=>rd ⟨⟨[110,101,116,32]++[UInt8.ofNat (97+m)]⟩⟩ = .inr (.net (dX m))) ⟨by kernel_rfl,by kernel_rfl,by kernel_rfl,by kernel_rfl⟩ hm,_,aDz (mQ (p:=fun m=>bV aD 400 60 [.str ⟨⟨[110,101,116,32]++[UInt8.ofNat (97+m)]⟩⟩] []=some (.agg [.str AAx,.fs [[.str (dX m)]],.fs [[I 0]]],[])) ⟨by kernel_rfl,by kernel_rfl,by kernel_rfl,by kernel_rfl⟩ hm),0,rfl⟩
theorem aIb{m:Nat}(hm:m<4):Rd ⟨⟨[117,115,101,100,32]++[UInt8.ofNat (97+m)]⟩⟩ (some (.used (dX m))):=⟨mQ (p:=fun m=>rd ⟨⟨[117,115,101,100,32]++[UInt8.ofNat (97+m)]⟩⟩ = .inr (.used (dX m))) ⟨by kernel_rfl,by kernel_rfl,by kernel_rfl,by kernel_rfl⟩ hm,_,aDz (mQ (p:=fun m=>bV aD 400 60 [.str ⟨⟨[117,115,101,100,32]++[UInt8.ofNat (97+m)]⟩⟩] []=some (.agg [.str AAA,.fs [[.str (dX m)]],.fs [[I 0]]],[])) ⟨by kernel_rfl,by kernel_rfl,by kernel_rfl,by kernel_rfl⟩ hm),0,rfl⟩
theorem aId{m:Nat}(hm:m<4):Rd ⟨⟨[108,111,115,115,32]++[UInt8.ofNat (97+m)]⟩⟩ (some (.loss (dX m))):=⟨mQ (p:=fun m=>rd ⟨⟨[108,111,115,115,32]++[UInt8.ofNat (97+m)]⟩⟩ = .inr (.loss (dX m))) ⟨by kernel_rfl,by kernel_rfl,by kernel_rfl,by kernel_rfl⟩ hm,_,aDz (mQ (p:=fun m=>bV aD 400 60 [.str ⟨⟨[108,111,115,115,32]++[UInt8.ofNat (97+m)]⟩⟩] []=some (.agg [.str AAB,.fs [[.str (dX m)]],.fs [[I 0]]],[])) ⟨by kernel_rfl,by kernel_rfl,by kernel_rfl,by kernel_rfl⟩ hm),0,rfl⟩
theorem aLC{m:Nat}(hm:m<4):Rd ⟨⟨[112,111,119,101,114,32]++[UInt8.ofNat (97+m)]⟩⟩ (some (.power (dX m))):=⟨mQ (p:=fun m=>rd ⟨⟨[112,111,119,101,114,32]++[UInt8.ofNat (97+m)]⟩⟩ = .inr (.power (dX m))) ⟨by kernel_rfl,by kernel_rfl,by kernel_rfl,by kernel_rfl⟩ hm,_,aDz (mQ (p:=fun m=>bV aD 400 60 [.str ⟨⟨[112,111,119,101,114,32]++[UInt8.ofNat (97+m)]⟩⟩] []=some (.agg [.str AAC,.fs [[.str (dX m)]],.fs [[I 0]]],[])) ⟨by kernel_rfl,by kernel_rfl,by kernel_rfl,by kernel_rfl⟩ hm),0,rfl⟩
theorem aIa{k:Nat}(hk:k<8):Rd ⟨⟨[118,111,105,100,32]++dV k⟩⟩ (some (.void k)):=⟨aQf (p:=fun k=>rd ⟨⟨[118,111,105,100,32]++dV k⟩⟩ = .inr (.void k)) ⟨⟨by kernel_rfl,by kernel_rfl,by kernel_rfl,by kernel_rfl⟩,by kernel_rfl,by kernel_rfl,by kernel_rfl,by kernel_rfl⟩ hk,_,aDz (aQf (p:=fun k=>bV aD 400 60 [.str ⟨⟨[118,111,105,100,32]++dV k⟩⟩] []=some (.agg [.str AAt,.fs [[.str (dgF k)]],.fs [[I (k:Nat)]]],[])) ⟨⟨by kernel_rfl,by kernel_rfl,by kernel_rfl,by kernel_rfl⟩,by kernel_rfl,by kernel_rfl,by kernel_rfl,by kernel_rfl⟩ hk),dgF k,rfl⟩
theorem aJq{k:Nat}(hk:k<8):Rd ⟨⟨[116,105,99,107,101,116,32]++dV k⟩⟩ (some (.ticket k)):=⟨aQf (p:=fun k=>rd ⟨⟨[116,105,99,107,101,116,32]++dV k⟩⟩ = .inr (.ticket k)) ⟨⟨by kernel_rfl,by kernel_rfl,by kernel_rfl,by kernel_rfl⟩,by kernel_rfl,by kernel_rfl,by kernel_rfl,by kernel_rfl⟩ hk,_,aDz (aQf (p:=fun k=>bV aD 400 60 [.str ⟨⟨[116,105,99,107,101,116,32]++dV k⟩⟩] []=some (.agg [.str AAz,.fs [[.str (dgF k)]],.fs [[I (k:Nat)]]],[])) ⟨⟨by kernel_rfl,by kernel_rfl,by kernel_rfl,by kernel_rfl⟩,by kernel_rfl,by kernel_rfl,by kernel_rfl,by kernel_rfl⟩ hk),dgF k,rfl⟩
theorem aLE:Rd AAu (some .close):=⟨by kernel_rfl,_,aDz (v:=.agg [.str AAu,.fs [],.fs []]) (by kernel_rfl),rfl⟩
theorem aFr:Rd AAy (some .total):=⟨by kernel_rfl,_,aDz (v:=.agg [.str AAy,.fs [],.fs []]) (by kernel_rfl),rfl⟩
theorem aLF:Rd ⟨⟨[98,108,111,111,109]⟩⟩ none:=⟨by kernel_rfl,aPY (w0:=⟨⟨[98,108,111,111,109]⟩⟩) (xs:=[]) (f:=⟨⟨[]⟩⟩) (b:=false) (by decide) (by kernel_rfl) (by kernel_rfl) (by decide) (fun h=>by cases h)⟩
def ckN(n:Nat):Bool:=decide (gJ (dgF n)=some (n:Int))&&decide (32∉dV n)
theorem aPT:(List.range 266).all ckN=true:=by kernel_rfl
theorem aPS:((List.range 2296).all fun k=>ckN (4000+5*k))=true:=by kernel_rfl
theorem aPU:((List.range 256).all fun c=>ckN (390*c))=true:=by kernel_rfl
theorem aNh{n:Nat}(h:ckN n=true):gJ (dgF n)=some (n:Int)∧32∉dV n:=by
 unfold ckN at h;rw[A4,decide_eq_true_iff,decide_eq_true_iff]at h;exact h
theorem aNi{n:Nat}(h:n<266):gJ (dgF n)=some (n:Int)∧32∉dV n:=aNh (C3.1 aPT n (G4.2 h))
theorem aNg{k:Nat}(h:k<2296):gJ (dgF (4000+5*k))=some ((4000+5*k:Nat):Int)∧32∉dV (4000+5*k):=aNh (C3.1 aPS k (G4.2 h))
theorem aSC{c:Nat}(h:c<256):gJ (dgF (390*c))=some ((390*c:Nat):Int)∧32∉dV (390*c):=aNh (C3.1 aPU c (G4.2 h))
theorem fY{a b:List UInt8}(h:32∉a):fQ ⟨⟨a++32::b⟩⟩=⟨⟨a⟩⟩::fQ ⟨⟨b⟩⟩:=by
 unfold fQ;dsimp only;rw[aAl h];rfl
theorem wY{a:List UInt8}(h:32∉a):fQ ⟨⟨a⟩⟩=[⟨⟨a⟩⟩]:=by
 unfold fQ;dsimp only;rw[aAk h];rfl
theorem aMo{m:Nat}(hm:m<4):(32:UInt8)∉[UInt8.ofNat (97+m)]:=mQ (p:=fun m=>(32:UInt8)∉[UInt8.ofNat (97+m)]) (by decide) hm
theorem aMn{m:Nat}(hm:m<4):eZ (dX m)=true:=mQ (p:=fun m=>eZ (dX m)=true) ⟨by kernel_rfl,by kernel_rfl,by kernel_rfl,by kernel_rfl⟩ hm
theorem aGz{xs:List ByteArray}{F:ByteArray}{w:ByteArray}(hp:(w,F)∈fmL)(hl:xs.length=F.size)(hy:∀ y∈xs,y.size≤40):Ws F xs:=⟨hl,aPH _ hp,aPI _ hp,fun y h=>by have:=hy y h;omega⟩
theorem aGg{n:Nat}(h:n≤99999):(dgF n).size≤6:=fJ h
theorem aFs{m c:Nat}(hm:m<4)(hc:c<256):Rd ⟨⟨(([109,101,116,101,114,32]++[UInt8.ofNat (97+m)])++[32])++dV (390*c)⟩⟩ (some (.meter (dX m) ((390*c:Nat):Int))):=by
 obtain⟨n1,n2⟩:=aSC hc;have z:=fJ (n:=390*c) (by omega);have e:(([109,101,116,101,114,32]++[UInt8.ofNat (97+m)])++[32])++dV (390*c)=[109,101,116,101,114]++32::([UInt8.ofNat (97+m)]++32::dV (390*c)):=by simp
 have hw:fQ ⟨⟨(([109,101,116,101,114,32]++[UInt8.ofNat (97+m)])++[32])++dV (390*c)⟩⟩=[AAv,dX m,dgF (390*c)]:=by rw[e,fY (by decide),fY (aMo hm),wY n2];rfl
 have hs:(⟨⟨(([109,101,116,101,114,32]++[UInt8.ofNat (97+m)])++[32])++dV (390*c)⟩⟩:ByteArray).size≤40:=by rw[pQ];simp;omega
 generalize (⟨⟨(([109,101,116,101,114,32]++[UInt8.ofNat (97+m)])++[32])++dV (390*c)⟩⟩:ByteArray)=line at *;have hn:=aMn hm;refine⟨?_,_,f2c (F:=⟨⟨[109,110]⟩⟩) ⟨hs,hw,by kernel_rfl,aGz (w:=AAv) (by simp[fmL]) rfl fun y hy=>?_⟩ rfl (by rw[show dk ⟨⟨[109,110]⟩⟩ 0=109 by kernel_rfl];decide) (by kernel_rfl) hn n1,⟨by omega,by omega⟩,_,_,rfl⟩
 ·unfold rd aPs
  rw[if_neg (by omega),hw];dsimp only;rw[if_pos rfl,if_pos hn,n1]
 ·simp only[B4,D4,AAh]at hy
  rcases hy with rfl|rfl;·exact J2 rfl
  ·have:=aGg (n:=390*c) (by omega);omega
theorem aRK{m c d:Nat}(hm:m<4)(hc:c<256)(hd:d<256):Rd ⟨⟨(((([112,97,110,32]++[UInt8.ofNat (97+m)])++[32])++dV (10+c))++[32])++dV d⟩⟩ (some (.pan (dX m) ((10+c:Nat):Int) (d:Int))):=by
 obtain⟨n1,n2⟩:=aNi (n:=10+c) (by omega);obtain⟨n3,n4⟩:=aNi (n:=d) (by omega);have z1:=fJ (n:=10+c) (by omega);have z2:=fJ (n:=d) (by omega);have e:(((([112,97,110,32]++[UInt8.ofNat (97+m)])++[32])++dV (10+c))++[32])++dV d=[112,97,110]++32::([UInt8.ofNat (97+m)]++32::(dV (10+c)++32::dV d)):=by simp
 have hw:fQ ⟨⟨(((([112,97,110,32]++[UInt8.ofNat (97+m)])++[32])++dV (10+c))++[32])++dV d⟩⟩=[AAw,dX m,dgF (10+c),dgF d]:=by rw[e,fY (by decide),fY (aMo hm),fY n2,wY n4];rfl
 have hs:(⟨⟨(((([112,97,110,32]++[UInt8.ofNat (97+m)])++[32])++dV (10+c))++[32])++dV d⟩⟩:ByteArray).size≤40:=by rw[pQ];simp;omega
 generalize (⟨⟨(((([112,97,110,32]++[UInt8.ofNat (97+m)])++[32])++dV (10+c))++[32])++dV d⟩⟩:ByteArray)=line at *;have hn:=aMn hm;have k1:dk AAF 0=112:=by kernel_rfl
 refine⟨?_,_,f3c (F:=AAF) ⟨hs,hw,by kernel_rfl,aGz (w:=AAw) (by simp[fmL]) rfl fun y hy=>?_⟩ rfl (by rw[k1];decide) (by kernel_rfl) (by kernel_rfl) hn n1 n3,⟨by omega,by omega,by omega,by omega⟩,_,_,_,rfl⟩
 ·unfold rd
  rw[if_neg (by omega),hw];dsimp only;rw[if_pos rfl,if_pos hn,n1,n3]
 ·simp only[B4,D4,AAh]at hy
  rcases hy with rfl|rfl|rfl;·exact J2 rfl
  ·have:=aGg (n:=10+c) (by omega);omega
  ·have:=aGg (n:=d) (by omega);omega
theorem aLB{m k f g:Nat}(hm:m<4)(hk:k<3)(hf:f≤99999)(hg:g≤99999)(cf:gJ (dgF f)=some (f:Int)∧32∉dV f)(cg:gJ (dgF g)=some (g:Int)∧32∉dV g):Rd ⟨⟨(((((([119,97,103,111,110,32,119]++dV k)++[32])++dV f)++[32])++dV g)++[32])++[UInt8.ofNat (97+m)]⟩⟩ (some (.wagon (wgF k) (dX m) (f:Int) (g:Int))):=by
 obtain⟨n1,n2⟩:=cf;obtain⟨n3,n4⟩:=cg;have hq:(32:UInt8)∉119::dV k∧eZ (wgF k)=true∧(wgF k).size=2:=by
  rcases (by omega:k=0∨k=1∨k=2)with rfl|rfl|rfl;all_goals exact⟨by decide,by kernel_rfl,rfl⟩
 have z0:(dV k).length=1:=by have:=hq.2.2;unfold wgF at this;rw[pQ]at this;simpa using this
 have z1:=fJ (n:=f) (by omega);have z2:=fJ (n:=g) (by omega);have e:(((((([119,97,103,111,110,32,119]++dV k)++[32])++dV f)++[32])++dV g)++[32])++[UInt8.ofNat (97+m)]=[119,97,103,111,110]++32::((119::dV k)++32::(dV f++32::(dV g++32::[UInt8.ofNat (97+m)]))):=by simp
 have hw:fQ ⟨⟨(((((([119,97,103,111,110,32,119]++dV k)++[32])++dV f)++[32])++dV g)++[32])++[UInt8.ofNat (97+m)]⟩⟩=[AAs,wgF k,dgF f,dgF g,dX m]:=by rw[e,fY (by decide),fY hq.1,fY n2,fY n4,wY (aMo hm)];rfl
 have hs:(⟨⟨(((((([119,97,103,111,110,32,119]++dV k)++[32])++dV f)++[32])++dV g)++[32])++[UInt8.ofNat (97+m)]⟩⟩:ByteArray).size≤40:=by rw[pQ];simp;omega
 generalize (⟨⟨(((((([119,97,103,111,110,32,119]++dV k)++[32])++dV f)++[32])++dV g)++[32])++[UInt8.ofNat (97+m)]⟩⟩:ByteArray)=line at *;have hn:=aMn hm;have q0:dk AAE 0=119:=by kernel_rfl
 have q3:dk AAE 3=102:=by kernel_rfl
 refine⟨?_,_,f4c (F:=AAE) ⟨hs,hw,by kernel_rfl,aGz (w:=AAs) (by simp[fmL]) rfl fun y hy=>?_⟩ rfl (by rw[q0];decide) (by kernel_rfl) (by kernel_rfl) (by rw[q3];decide) hq.2.1 hn n1 n3,⟨by omega,by omega,by omega,by omega,by rw[hq.2.2];omega,by exact J2 rfl⟩,_,_,_,_,rfl⟩
 ·unfold rd
  rw[if_neg (by omega),hw];dsimp only;rw[if_pos rfl,hq.2.1,hn,n1,n3];rfl
 ·simp only[B4,D4,AAh]at hy
  rcases hy with rfl|rfl|rfl|rfl;·rw[hq.2.2];omega
  ·have:=aGg (n:=f) (by omega);omega
  ·have:=aGg (n:=g) (by omega);omega
  ·exact J2 rfl
theorem aIc{a b c d:Nat}(hb:b<256)(hc:c<256)(hd:d<256):Rd ⟨⟨wA a b c d⟩⟩ (wN (a%12) (b%4) c d):=by
 have hm:b%4<4:=J4 _ (by decide);have h8:c%8<8:=J4 _ (by decide);have h7:c%7<7:=J4 _ (by decide);have h12:a%12<12:=J4 _ (by decide);unfold wA wN lL;obtain⟨k,hk⟩:∃ k,a%12=k:=⟨_,rfl⟩;rw[hk]at h12 ⊢;have wag:=aLB (k:=c%3) (f:=4000+5*d+40*c) (g:=4000+5*d) hm (J4 _ (by decide)) (by omega) (by omega) (by have h:=aNg (k:=d+8*c) (by omega);rw[show 4000+5*(d+8*c)=4000+5*d+40*c by omega]at h;exact h) (aNg (by omega));rcases (by omega:k=0∨k=1∨k=2∨k=3∨k=4∨k=5∨k=6∨k=7∨k=8∨k=9∨k=10∨k=11)with rfl|rfl|rfl|rfl|rfl|rfl|rfl|rfl|rfl|rfl|rfl|rfl;·exact aCU hm
 ·exact aCU hm
 ·exact wag
 ·exact wag
 ·exact wag
 ·exact wag
 ·exact aIa h8
 ·by_cases h:c<64
  ·simp only[if_pos h];exact aLE
  ·simp only[if_neg h];exact aIa h8
 ·exact aFs hm hc
 ·exact aFs hm hc
 ·exact aRK hm hc hd
 ·unfold lnQ wQ lL
  generalize c%7=j at *;rcases (by omega:j=0∨j=1∨j=2∨j=3∨j=4∨j=5∨j=6)with rfl|rfl|rfl|rfl|rfl|rfl|rfl;·exact aLD hm
  ·exact aFr
  ·exact aJq h8
  ·exact aIb hm
  ·exact aId hm
  ·exact aLC hm
  ·exact aLF
variable{s:dD}{x line:ByteArray}{w:Wd}{n:Nat}
theorem lO{α:Type}{k x:ByteArray}{y:α}{r:List (ByteArray×α)}:cT ((k,y)::r) x=if k=x then some y else cT r x:=by
 unfold cT;show (if k=x then some 0 else (dE (r.map (·.1)) x).map (· + 1)).bind _=_;by_cases hk:k=x;·rw[if_pos hk,if_pos hk];rfl
 ·rw[if_neg hk,if_neg hk]
  cases dE (r.map (·.1)) x<;>rfl
theorem aEQ{α:Type}{f:α→α}{z:α}{x y:ByteArray}:∀ l:List (ByteArray×α),cT (gM f z x l) y=if x=y then some ((cT l x).elim z f) else cT l y
 | []=>by
   unfold gM;rw[lO];rfl
 | (k,v)::r=>by
   have ih:=aEQ (f:=f) (z:=z) (x:=x) (y:=y) r;unfold gM;rw[lO];by_cases hk:k=x
   ·rw[if_pos hk,lO,if_pos hk,lO,hk]
    by_cases hx:x=y<;>simp[hx]
   ·rw[if_neg hk,lO,ih,if_neg hk]
    by_cases hx:x=y;·rw[if_pos hx,if_neg (fun e=>hk (e.trans hx.symm)),if_pos hx]
    ·rw[if_neg hx,if_neg hx,lO]
def Nm(x:ByteArray):Prop:=∃ m,m<4∧x=dX m
theorem aIr:∀ i:Nat,i<4→∀ j:Nat,j<4→dX i=dX j→i=j:=by decide +kernel
def fx(x:ByteArray):Nat:=(x.data.toList.headD 97).toNat-97
theorem aQV{m:Nat}(hm:m<4):fx (dX m)=m:=mQ (p:=fun m=>fx (dX m)=m) (by decide) hm
theorem few{l:List ByteArray}(nd:l.Nodup)(h:∀ x∈l,Nm x):l.length≤4:=by
 have:=nd.length_le_of_subset (l₂:=[dX 0,dX 1,dX 2,dX 3]) fun x hx=>by
  obtain⟨m,hm,rfl⟩:=h x hx;exact mQ (p:=fun m=>dX m∈[dX 0,dX 1,dX 2,dX 3]) (by simp) hm
 exact this
structure Inv(s:dD)(n:Nat):Prop where
 gs:fD s
 bk:s.book.length≤n
 nf:∀ p∈s.farmers,Nm p.1
 nm:(s.meters.map (·.1)).Nodup∧∀ x∈s.meters.map (·.1),Nm x
 np:(s.pans.map (·.1)).Nodup∧∀ x∈s.pans.map (·.1),Nm x
theorem Inv.ok(v:Inv s n)(hn:n<100)(hw:∀ x y a b,w = .wagon x y a b→b≤a):okN s w:=by
 have h1:=few v.nm.1 v.nm.2;have h2:=few v.np.1 v.np.2;have h3:=few v.gs.nf fun x hx=>by obtain⟨p,hp,rfl⟩:=D8.1 hx;exact v.nf p hp
 have h4:=v.bk;rw[B0]at h1 h2 h3;exact⟨by omega,by omega,by omega,by omega,hw⟩
theorem Inv.tk(v:Inv s n){k:CTk}(hk:k∈s.tickets):Nm k.farmer∧0≤k.net∧k.net≤99999:=by
 obtain⟨a,b,c,_⟩:=v.gs.bt k hk;obtain⟨p,hp,e⟩:=D8.1 c;exact⟨by rw[←e];exact v.nf p hp,a,b⟩
theorem aFG{α:Type}{f:α→α}{z:α}{x:ByteArray}{l:List (ByteArray×α)}(hx:Nm x)(h:(l.map (·.1)).Nodup∧∀ y∈l.map (·.1),Nm y):((gM f z x l).map (·.1)).Nodup∧∀ y∈(gM f z x l).map (·.1),Nm y:=by
 cases hv:cT l x with
 | some y=>rw[xK hv];exact h
 | none =>
   rw[oH (dZ.1 hv),F7];refine⟨I3.2 ⟨h.1,by simp,fun a ha b hb e=>?_⟩,fun y hy=>?_⟩
   ·have:b=x:=by simpa using hb
    exact iM.1 (dZ.1 hv) (by rw[←this,←e];exact ha)
   ·rcases B2.1 hy with hy|hy
    ·exact h.2 y hy
    ·have:y=x:=by simpa using hy
     rw[this];exact hx
abbrev okY:ByteArray:=⟨⟨[111,107]⟩⟩
theorem aIw(v:Int)(c:UInt8)(hc:c∈Lib.itoa v):c=45∨48≤c.toNat∧c.toNat≤57:=by
 unfold Lib.itoa at hc;split at hc
 ·rcases B4.1 hc with h|h
  ·exact .inl h
  ·exact .inr (aEy v.natAbs v.natAbs (Nat.lt_pow_self (by omega)) c h)
 ·exact .inr (aEy v.toNat v.toNat (Nat.lt_pow_self (by omega)) c hc)
theorem aPq(v:Int):tG v≠okY:=fun e=>by
 have h:Lib.itoa v=[111,107]:=AAq (fun b:ByteArray=>b.data.toList) e;have:=aIw v 111 (by rw[h];simp);revert this;decide
theorem aGY(e:Int):noA e≠okY:=fun h=>by
 have h1:=AAq ByteArray.size h;unfold noA at h1;rw[ByteArray.size_append]at h1;have h2:(AAD:ByteArray).size=3:=rfl;have h3:okY.size=2:=rfl;omega
theorem aRn(k:CTk):tkT k≠okY:=fun e=>by
 have h:Lib.join ((tkL k).map (·.data.toList)) [32]=[111,107]:=AAq (fun b:ByteArray=>b.data.toList) e;have h2:(32:UInt8)∈Lib.join ((tkL k).map (·.data.toList)) [32]:=by
  unfold tkL Lib.join;split<;>simp[List.intercalate,List.intersperse]
 rw[h]at h2;revert h2;decide
theorem aSO{P:dD→ByteArray→Int}{a:ByteArray}(h:wT P s w = .inr a):a≠okY:=by
 unfold wT at h
 repeat' split at h
 all_goals first|(cases h;first|exact aPq _|exact aRn _)|cases h
theorem aLc(hr:rd line = .inr w)(hb:s.book.length≠300) :
 ((sayA s line).1≠okY∧(sayA s line).2=s∧(w.asks=true∨∃ e,dS s w=some e))∨(w.asks=false∧dS s w=none∧sayA s line=(okY,{ mY s w with book:=s.book++[line] })):=by
 unfold sayA;rw[hr];unfold aAp;dsimp only;cases ha:w.asks with
 | true =>
   refine .inl ?_;simp only[AAe];split;·exact⟨aGY _,rfl,.inl trivial⟩
   ·rename_i a h;exact⟨aSO h,rfl,.inl trivial⟩
 | false =>
   simp only[B8,AAd];cases hc:dS s w with
   | some e=>exact .inl ⟨aGY _,rfl,.inr ⟨e,rfl⟩⟩
   | none =>
     dsimp only;rw[if_neg hb];refine .inr ⟨?_,?_,?_⟩<;>first|rfl|trivial
variable{s:dD}{x line:ByteArray}{w:Wd}{n:Nat}
def WNm:Wd→Prop
 | .farmer x | .wagon _ x _ _ | .meter x _ | .pan x _ _=>Nm x
 | _=>True
theorem aMp{α:Type}{f:α→α}{z:α}{x:ByteArray}{l:List (ByteArray×α)}(hx:Nm x)(h:∀ p∈l,Nm p.1):∀ p∈gM f z x l,Nm p.1:=fun p hp=>by
 rcases mF hp with hp|hp|⟨y,hy,hp⟩;·exact h p hp
 ·rw[hp];exact hx
 ·rw[hp];exact hx
theorem Inv.step(v:Inv s n)(hn:n<100)(hr:rd line = .inr w)(hw:∃ u,IsW w u)(hnm:WNm w):Inv (sayA s line).2 (n+1):=by
 obtain⟨u,hu⟩:=hw;have bk:=v.bk;have gs:fD (sayA s line).2:=by
  unfold sayA;rw[hr];exact aFV v.gs hu (by omega)
 rcases aLc hr (by omega:s.book.length≠300)with ⟨_,e,_⟩|⟨ha,hc,e⟩;·rw[e];exact⟨v.gs,by omega,v.nf,v.nm,v.np⟩
 ·rw[e]at gs ⊢
  dsimp only at gs ⊢;have hb:(s.book++[line]).length≤n+1:=by simp;exact bk
  cases w with
  | farmer x=>exact⟨gs,hb,fun p hp=>by
   rcases B2.1 hp with hp|hp;·exact v.nf p hp
   ·rw[B5.1 hp];exact hnm,v.nm,v.np⟩
  | wagon x y a b=>exact⟨gs,hb,by
   show ∀ p∈eV s.farmers y (a-b),Nm p.1;rw[eN];exact aMp hnm v.nf,v.nm,v.np⟩
  | void i =>
    unfold mY at gs ⊢;dsimp only at gs ⊢;split;·rename_i hk;rw[hk]at gs;exact⟨gs,hb,v.nf,v.nm,v.np⟩
    ·rename_i k hk
     rw[hk]at gs;exact⟨gs,hb,by
      show ∀ p∈eV s.farmers k.farmer (-k.net),Nm p.1;rw[eN];exact aMp (v.tk (A8 hk)).1 v.nf,v.nm,v.np⟩
  | close=>exact⟨gs,hb,v.nf,v.nm,v.np⟩
  | meter x k=>exact⟨gs,hb,v.nf,aFG hnm v.nm,v.np⟩
  | pan x a b=>exact⟨gs,hb,v.nf,v.nm,by
   show ((eV s.pans x (a-b)).map (·.1)).Nodup∧∀ y∈(eV s.pans x (a-b)).map (·.1),Nm y;rw[eN];exact aFG hnm v.np⟩
  | _=>cases ha
def mP(g:Nat→Int):List AV:=[I (g 0),I (g 1),I (g 2),I (g 3)]
def pN(g:Nat→Bool):List AV:=[.bool (g 0),.bool (g 1),.bool (g 2),.bool (g 3)]
theorem lN{g:Nat→Int}{f:Nat}(hf:f<4):(mP g)[f]?=some (I (g f)):=mQ (p:=fun f=>(mP g)[f]?=some (I (g f))) ⟨rfl,rfl,rfl,rfl⟩ hf
theorem aIN{g:Nat→Bool}{f:Nat}(hf:f<4):(pN g)[f]?=some (.bool (g f)):=mQ (p:=fun f=>(pN g)[f]?=some (.bool (g f))) ⟨rfl,rfl,rfl,rfl⟩ hf
theorem aNu{g g':Nat→Int}{f:Nat}{y:Int}(hf:f<4)(h:∀ m,m<4→g' m=if m=f then y else g m):(mP g).set f (I y)=mP g':=by
 unfold mP;rw[h 0 (by omega),h 1 (by omega),h 2 (by omega),h 3 (by omega)];exact mQ (p:=fun f=>[I (g 0),I (g 1),I (g 2),I (g 3)].set f (I y)=[I (if 0=f then y else g 0),I (if 1=f then y else g 1),I (if 2=f then y else g 2),I (if 3=f then y else g 3)]) ⟨rfl,rfl,rfl,rfl⟩ hf
theorem aNv{g g':Nat→Bool}{f:Nat}{y:Bool}(hf:f<4)(h:∀ m,m<4→g' m=if m=f then y else g m):(pN g).set f (.bool y)=pN g':=by
 unfold pN;rw[h 0 (by omega),h 1 (by omega),h 2 (by omega),h 3 (by omega)];exact mQ (p:=fun f=>[AV.bool (g 0),.bool (g 1),.bool (g 2),.bool (g 3)].set f (.bool y)=[.bool (if 0=f then y else g 0),.bool (if 1=f then y else g 1),.bool (if 2=f then y else g 2),.bool (if 3=f then y else g 3)]) ⟨rfl,rfl,rfl,rfl⟩ hf
def gN(s:dD)(m:Nat):Int:=iQ s.tickets (dX m)
def gU(s:dD)(m:Nat):Int:=((cT s.meters (dX m)).map (·.2)).getD 0
def gL(s:dD)(m:Nat):Int:=((cT s.meters (dX m)).map (·.1)).getD 0
def gS(s:dD)(m:Nat):Bool:=(cT s.meters (dX m)).isSome
def gP(s:dD)(m:Nat):Int:=(cT s.pans (dX m)).getD 0
def iY(cl:Nat):Nat→List CTk→List AV
 | _,[]=>[]
 | i,k::r=>I (fx k.farmer:Nat)::I k.net :: .bool k.void :: .bool (decide (i<cl))::iY cl (i+1) r
variable{cl:Nat}
theorem sK:∀{i:Nat}{l:List CTk},(iY cl i l).length=l.length*4
 | _,[]=>rfl
 | i,k::r=>by
   have:=sK (i:=i+1) (l:=r);simp only[iY,C6,this];omega
theorem aEi:∀{i:Nat}{l:List CTk}{t:Nat}{k:CTk},l[t]?=some k→(iY cl i l)[t*4]?=some (I (fx k.farmer:Nat))∧(iY cl i l)[t*4+1]?=some (I k.net)∧(iY cl i l)[t*4+2]?=some (.bool k.void)∧(iY cl i l)[t*4+3]?=some (.bool (decide (i+t<cl)))
 | _,[],t,k,h=>by simp at h
 | i,k'::r,0,k,h=>by
   obtain rfl:k'=k:=by simpa using h
   exact⟨rfl,rfl,rfl,rfl⟩
 | i,k'::r,t+1,k,h=>by
   have ih:=aEi (i:=i+1) (l:=r) (t:=t) (k:=k) (by simpa using h);rw[show i+1+t=i+(t+1) by omega]at ih;rw[show (t+1)*4=t*4+4 by omega];exact ih
theorem aIo:∀{i:Nat}{l:List CTk}{k:CTk},iY cl i (l++[k])=iY cl i l++[I (fx k.farmer:Nat),I k.net,.bool k.void,.bool (decide (i+l.length<cl))]
 | _,[],_=>rfl
 | i,k'::r,k=>by
   have ih:=aIo (i:=i+1) (l:=r) (k:=k);rw[show i+1+r.length=i+(r.length+1) by omega]at ih;show _::_::_::_::iY cl (i+1) (r++[k])=_;rw[ih];rfl
theorem aFD:∀{i:Nat}{l:List CTk}{t:Nat}{k:CTk},l[t]?=some k→(iY cl i l).set (t*4+2) (.bool true)=iY cl i (l.set t { k with void:=true })
 | _,[],t,k,h=>by simp at h
 | i,k'::r,0,k,h=>by
   obtain rfl:k'=k:=by simpa using h
   rfl
 | i,k'::r,t+1,k,h=>by
   have ih:=aFD (i:=i+1) (l:=r) (t:=t) (k:=k) (by simpa using h);rw[show (t+1)*4+2=(t*4+2)+4 by omega];show _::_::_::_::(iY cl (i+1) r).set (t*4+2) (.bool true)=_;rw[ih];rfl
theorem aMl:∀{i c:Nat}{l:List CTk},(∀ j,i≤j→(j<cl↔j<c))→iY cl i l=iY c i l
 | _,_,[],_=>rfl
 | i,c,k::r,h=>by
   unfold iY;rw[aMl (i:=i+1) (c:=c) (l:=r) fun j hj=>h j (by omega)];by_cases hi:i<cl;·rw[AAk hi,AAk ((h i (B7 _)).1 hi)]
   ·rw[AAl hi,AAl fun q=>hi ((h i (B7 _)).2 q)]
theorem aDb:∀{i:Nat}{l:List CTk}{t:Nat},t<l.length→i+t≤cl→(iY cl i l).set (t*4+3) (.bool true)=iY (max cl (i+t+1)) i l
 | _,[],t,h,_=>by simp at h
 | i,k::r,0,_,hc=>by
   rw[J6]at hc ⊢;show _::_::_ :: .bool true::iY cl (i+1) r=_::_::_::_::iY _ (i+1) r;rw[aMl (cl:=cl) (c:=max cl (i+1)) (fun j hj=>by omega),AAk (by omega)]
 | i,k::r,t+1,h,hc=>by
   have ih:=aDb (i:=i+1) (l:=r) (t:=t) (by simpa using h) (by omega);rw[show i+1+t+1=i+(t+1)+1 by omega]at ih;rw[show (t+1)*4+3=(t*4+3)+4 by omega];show _::_::_::_::(iY cl (i+1) r).set (t*4+3) (.bool true)=_;rw[ih];show _=_::_::_::_::_;by_cases hi:i<cl;·rw[AAk hi,AAk (by omega)]
   ·omega
variable{s:dD}{x y line:ByteArray}{w:Wd}{n:Nat}{bk:List ByteArray}
theorem aIq{f m:Nat}(hf:f<4)(hm:m<4):(dX f=dX m)↔m=f:=⟨fun e=>(aIr f hf m hm e).symm,fun e=>by rw[e]⟩
theorem aSl{f m:Nat}{k:CTk}(hf:f<4)(hm:m<4)(hk:k.farmer=dX f)(hv:k.void=false):iQ (s.tickets++[k]) (dX m)=if m=f then gN s f+k.net else gN s m:=by
 rw[aET,hk,hv];unfold gN;by_cases e:m=f;·rw[if_pos e,e,if_pos ⟨rfl,rfl⟩]
 ·rw[if_neg e,if_neg fun q=>e ((aIq hf hm).1 q.1),aF1]
theorem aPC{f m t:Nat}{k:CTk}(hf:f<4)(hm:m<4)(ht:s.tickets[t]?=some k)(hk:k.farmer=dX f)(hv:k.void=false):iQ (s.tickets.set t { k with void:=true }) (dX m)=if m=f then gN s f-k.net else gN s m:=by
 rw[wZ ht hv,hk];unfold gN;by_cases e:m=f;·rw[if_pos e,e,if_pos rfl]
 ·rw[if_neg e,if_neg fun q=>e ((aIq hf hm).1 q),Int.sub_zero]
theorem aHL{α:Type}{g:α→α}{z:α}{l:List (ByteArray×α)}{f m:Nat}(hf:f<4)(hm:m<4):cT (gM g z (dX f) l) (dX m)=if m=f then some ((cT l (dX f)).elim z g) else cT l (dX m):=by
 rw[aEQ];by_cases e:m=f;·rw[if_pos e,if_pos ((aIq hf hm).2 e)]
 ·rw[if_neg e,if_neg fun q=>e ((aIq hf hm).1 q)]
theorem aSk{f m:Nat}{a b:Int}(hf:f<4)(hm:m<4):(cT (eV s.pans (dX f) (a-b)) (dX m)).getD 0=if m=f then gP s f+(a-b) else gP s m:=by
 rw[eN,aHL hf hm];unfold gP;by_cases e:m=f
 ·rw[if_pos e,if_pos e]
  cases cT s.pans (dX f)with
  | none=>show a-b=0+(a-b);omega
  | some v=>rfl
 ·rw[if_neg e,if_neg e]
theorem aSm{f m:Nat}{k:Int}(hf:f<4)(hm:m<4):((cT (gM (mtr k) (k,0) (dX f) s.meters) (dX m)).isSome=if m=f then true else gS s m)∧(((cT (gM (mtr k) (k,0) (dX f) s.meters) (dX m)).map (·.1)).getD 0=if m=f then k else gL s m) ∧
 (((cT (gM (mtr k) (k,0) (dX f) s.meters) (dX m)).map (·.2)).getD 0=if m=f then (if gS s f then gU s f+(k-gL s f+100000)%100000 else 0) else gU s m):=by
 rw[aHL hf hm];unfold gS gL gU;by_cases e:m=f
 ·rw[if_pos e,if_pos e,if_pos e,if_pos e]
  cases cT s.meters (dX f)with
  | none=>exact⟨rfl,rfl,rfl⟩
  | some v=>exact⟨rfl,rfl,rfl⟩
 ·rw[if_neg e,if_neg e,if_neg e,if_neg e];exact⟨rfl,rfl,rfl⟩
theorem aZ(g:Nat→Int):lA (mP g)=true:=rfl
theorem aY(g:Nat→Int):kW (mP g)=[]:=rfl
theorem aW(g:Nat→Int):slL (mP g)=[]:=rfl
theorem aX(r:Nat→Option Nat)(g:Nat→Int):lQ r (mP g)=mP g:=rfl
theorem cR(g:Nat→Int):(mP g).length=4:=rfl
theorem bE(g:Nat→Bool):lA (pN g)=true:=rfl
theorem bD(g:Nat→Bool):kW (pN g)=[]:=rfl
theorem bB(g:Nat→Bool):slL (pN g)=[]:=rfl
theorem bC(r:Nat→Option Nat)(g:Nat→Bool):lQ r (pN g)=pN g:=rfl
theorem fX(g:Nat→Bool):(pN g).length=4:=rfl
theorem aIn{cl:Nat}:∀{i:Nat}{l:List CTk}{v:AV},v∈iY cl i l→(∃ n,v=I n)∨∃ b,v = .bool b
 | _,[],v,h=>by cases h
 | i,k::r,v,h=>by
   simp only[iY,B4]at h;rcases h with h|h|h|h|h;·exact .inl ⟨_,h⟩
   ·exact .inl ⟨_,h⟩
   ·exact .inr ⟨_,h⟩
   ·exact .inr ⟨_,h⟩
   ·exact aIn h
theorem cZ(cl:Nat):∀(i:Nat)(l:List CTk),kW (iY cl i l)=[]
 | _,[]=>rfl
 | i,k::r=>cZ cl (i+1) r
theorem cX(cl:Nat):∀(i:Nat)(l:List CTk),slL (iY cl i l)=[]
 | _,[]=>rfl
 | i,k::r=>cX cl (i+1) r
theorem cY(g:Nat→Option Nat)(cl:Nat):∀(i:Nat)(l:List CTk),lQ g (iY cl i l)=iY cl i l
 | _,[]=>rfl
 | i,k::r=>by show _::_::_::_::lQ g (iY cl (i+1) r)=_;rw[cY g cl (i+1) r];rfl
theorem dC(cl i:Nat)(l:List CTk):lA (iY cl i l)=true:=eL fun v hv=>by
 rcases aIn hv with ⟨n,rfl⟩|⟨b,rfl⟩<;>rfl
def isVd(L:ByteArray)(b:Bool):Prop:=(5<L.size∧aP .eql (qF L 0 5) ⟨#[118,111,105,100,32]⟩=some (.bool b))∨(b=false∧¬5<L.size)
theorem lX{l:List UInt8}{b:Bool}(h:5<l.length)(e:decide (l.take 5=[118,111,105,100,32])=b):isVd ⟨⟨l⟩⟩ b:=by
 refine .inl ⟨h,?_⟩;have e2:qF ⟨⟨l⟩⟩ 0 5=⟨⟨l.take 5⟩⟩:=rfl;rw[e2,oT,←e];congr 2;refine decide_eq_decide.2 ⟨fun p=>AAq (fun b:ByteArray=>b.data.toList) p,fun p=>by rw[p]⟩
def isV:Option Wd→Bool
 | some (.void _)=>true
 | _=>false
theorem aHw(n:Nat):0<(dV n).length:=by
 unfold dV oN;split;·simp
 ·rw[C2]
  have:0<(oN 5 (n%10)).length:=by
   unfold oN;rw[if_pos (J4 _ (by decide))];simp
  omega
theorem aOm{a b c d:Nat}:isVd ⟨⟨wA a b c d⟩⟩ (isV (wN (a%12) (b%4) c d)):=by
 unfold wA wN;have h12:a%12<12:=J4 _ (by decide);have h7:c%7<7:=J4 _ (by decide);generalize a%12=k at *;generalize lL b=q;rcases (by omega:k=0∨k=1∨k=2∨k=3∨k=4∨k=5∨k=6∨k=7∨k=8∨k=9∨k=10∨k=11)with rfl|rfl|rfl|rfl|rfl|rfl|rfl|rfl|rfl|rfl|rfl|rfl;·exact lX (by simp) (by rfl)
 ·exact lX (by simp) (by rfl)
 ·exact lX (by simp) (by rfl)
 ·exact lX (by simp) (by rfl)
 ·exact lX (by simp) (by rfl)
 ·exact lX (by simp) (by rfl)
 ·exact lX (by simp;exact aHw _) (by rfl)
 ·by_cases h:c<64
  ·simp only[if_pos h];exact .inr ⟨rfl,by decide⟩
  ·simp only[if_neg h];exact lX (by simp;exact aHw _) (by rfl)
 ·exact lX (by simp) (by rfl)
 ·exact lX (by simp) (by rfl)
 ·exact lX (by simp) (by simp[isV])
 ·unfold lnQ wQ
  generalize c%7=j at *;generalize lL b=q;rcases (by omega:j=0∨j=1∨j=2∨j=3∨j=4∨j=5∨j=6)with rfl|rfl|rfl|rfl|rfl|rfl|rfl;·exact .inr ⟨rfl,by rw[pQ];exact aE2 5⟩
  ·exact .inr ⟨rfl,by rw[pQ];exact aE2 5⟩
  ·exact lX (by simp) (by rfl)
  ·exact lX (by simp) (by rfl)
  ·exact lX (by simp) (by rfl)
  ·exact lX (by simp) (by rfl)
  ·exact .inr ⟨rfl,by rw[pQ];exact aE2 5⟩
def rNt(l:List (Nat×Nat×Nat×Nat)):List (List AV):=l.map fun t=>[.int .u8 (t.1:Int),.int .u8 (t.2.1:Int),.int .u8 (t.2.2.1:Int),.int .u8 (t.2.2.2:Int)]
theorem lJ(l:List (Nat×Nat×Nat×Nat)):(rNt l).length=l.length:=by simp[rNt]
theorem rE{l:List (Nat×Nat×Nat×Nat)}{i a b c d:Nat}(h:l[i]?=some (a,b,c,d)):(rNt l)[i]?=some [.int .u8 (a:Int),.int .u8 (b:Int),.int .u8 (c:Int),.int .u8 (d:Int)]:=by
 unfold rNt;rw[A9,h];rfl
abbrev bI(g:Nat→Int):Option XB:=some (.blk true (.cells true (mP g)))
def uW(n:Nat):AV:=if n=0 then .nilsl else .sl 6 0 4 n
def iF(K:Option XB)(g1 g2 g3 g4:Nat→Int)(g5:Nat→Bool)(n:Nat)(T:List AV):XH:=if n=0 then [K,bI g1,bI g2,bI g3,bI g4,some (.blk true (.cells true (pN g5)))]
 else [K,bI g1,bI g2,bI g3,bI g4,some (.blk true (.cells true (pN g5))),some (.blk true (.cells true T))]
abbrev qG(l:List (Nat×Nat×Nat×Nat))(n i:Nat):List AV:=[.fs (rNt l),.pt 0 0,.pt 1 0,.pt 2 0,.pt 3 0,.pt 4 0,.pt 5 0,uW n,I (i:Nat)]
abbrev b10:XCode:=match nN with | .loop _ a=>a|c=>c
theorem rW(A:ByteArray):aP .eql A ⟨#[111,107]⟩=some (.bool (decide (A=okY))):=oT A okY
section
variable{l:List (Nat×Nat×Nat×Nat)}{i a b c d m t n cl:Nat}{L A:ByteArray}{p p2:dD}{P P2:Hp→Nat→Prop}{g1 g2 g3 g4 k1 k2 k3 k4:Nat→Int}{g5 k5:Nat→Bool}{tk tk2:List CTk}{k:CTk}{z:Int}
abbrev kU(l:List (Nat×Nat×Nat×Nat))(i:Nat)(n n2:Nat)(h h2:XH):Prop:=dL 0 [0,3,4,5,6,7,8,9,10] (execW progG 10 0 none b10 (bW [0,3,4,5,6,7,8,9,10] (qG l n i)) h)=some (qG l n2 (i+1),h2)
structure Beg(l:List (Nat×Nat×Nat×Nat))(i a b c d m:Nat)(L A:ByteArray)(p p2:dD)(P P2:Hp→Nat→Prop):Prop where
 hi:i<l.length
 h25:i<25
 ht:l[i]?=some (a,b,c,d)
 hb:b<256
 hc:c<256
 hd:d<256
 hm:b%4=m
 c32:runW progG 32 [nA a b c d] []=some (.str L,[])
 c21:runW progG 21 [.pt 0 0,.str L] [some (.gh p P)]=some (.str A,[some (.gh p2 P2)])
theorem aHY(hB:Beg l i a b c d m L A p p P P)(hA:A≠okY)(hv:isVd L false):kU l i n n (iF (some (.gh p P)) g1 g2 g3 g4 g5 n (iY cl 0 tk)) (iF (some (.gh p P)) g1 g2 g3 g4 g5 n (iY cl 0 tk)):=by
 obtain⟨hi,h25,ht,hb,hc,hd,hm,c32,c21⟩:=hB;have hr:=rE ht;have rl:=lJ l;have t1:((i:Int)<(l.length:Int))=True:=AAa;have t2:((i:Int)<25)=True:=AAa;have a1:IntKind.i64.wrap (b:Int)=(b:Int):=aJ (by omega) (by omega);have a2:mR (b:Int) 4=(m:Int):=by rw[←hm];exact fR b 4
 have e4:IntKind.i64.wrap (c:Int)=(c:Int):=aJ (by omega) (by omega);have hm4:m<4:=by omega
 have up:=pP (i:=i) (n:=30) (by omega) (by omega);have eo:aP .eql A ⟨#[111,107]⟩=some (.bool false):=by rw[rW,AAl hA]
 unfold kU qG uW iF b10 nN;dsimp only;rcases hv with ⟨v1,v2⟩|⟨_,v1⟩
 ·have v1:(5<(L.size:Int))=True:=AAa
  have v3:(5≤(L.size:Int))=True:=AAa;by_cases h0:n=0
  ·simp only[if_pos h0]
   (exact mN hr rl t1 t2 a1 a2 up c32 c21 aZ aY aW aX bE bD bB bC dC cZ cX cY eo v1 v2 v3 aE)
  ·simp only[if_neg h0]
   (exact mN hr rl t1 t2 a1 a2 up c32 c21 aZ aY aW aX bE bD bB bC dC cZ cX cY eo v1 v2 v3 aE)
 ·have v1:(5<(L.size:Int))=False:=AAb
  by_cases h0:n=0
  ·simp only[if_pos h0]
   (exact mN hr rl t1 t2 a1 a2 up c32 c21 aZ aY aW aX bE bD bB bC dC cZ cX cY eo v1 aE aE aE)
  ·simp only[if_neg h0]
   (exact mN hr rl t1 t2 a1 a2 up c32 c21 aZ aY aW aX bE bD bB bC dC cZ cX cY eo v1 aE aE aE)
theorem aPc(hB:Beg l i a b c d m L okY p p2 P P2)(hv:5<L.size∧aP .eql (qF L 0 5) ⟨#[118,111,105,100,32]⟩=some (.bool false))(ha:a%12=0∨a%12=1):kU l i n n (iF (some (.gh p P)) g1 g2 g3 g4 g5 n (iY cl 0 tk)) (iF (some (.gh p2 P2)) g1 g2 g3 g4 g5 n (iY cl 0 tk)):=by
 obtain⟨hi,h25,ht,hb,hc,hd,hm,c32,c21⟩:=hB;have hr:=rE ht;have rl:=lJ l;have t1:((i:Int)<(l.length:Int))=True:=AAa;have t2:((i:Int)<25)=True:=AAa;have a1:IntKind.i64.wrap (b:Int)=(b:Int):=aJ (by omega) (by omega);have a2:mR (b:Int) 4=(m:Int):=by rw[←hm];exact fR b 4
 have e4:IntKind.i64.wrap (c:Int)=(c:Int):=aJ (by omega) (by omega);have hm4:m<4:=by omega
 have up:=pP (i:=i) (n:=30) (by omega) (by omega);have eo:aP .eql okY ⟨#[111,107]⟩=some (.bool true):=by rw[rW,AAk rfl]
 obtain⟨v1,v2⟩:=hv;have v1:(5<(L.size:Int))=True:=AAa;have v3:(5≤(L.size:Int))=True:=AAa;obtain⟨q,hk,hq⟩:∃ q:Int,mR (a:Int) 12=q∧(q=0∨q=1):=by
  rcases ha with ha|ha;·exact⟨0,a12 ha,.inl rfl⟩
  ·exact⟨1,a12 ha,.inr rfl⟩
 unfold kU qG uW iF b10 nN;dsimp only;rcases hq with rfl|rfl
 all_goals
  by_cases h0:n=0
  ·simp only[if_pos h0]
   (exact mN hr rl t1 t2 a1 a2 up c32 c21 aZ aY aW aX bE bD bB bC dC cZ cX cY eo v1 v2 v3 hk)
  ·simp only[if_neg h0]
   (exact mN hr rl t1 t2 a1 a2 up c32 c21 aZ aY aW aX bE bD bB bC dC cZ cX cY eo v1 v2 v3 hk)
end
end Go.Proofs.YtmapgnepfgnphaaGreatDoor
namespace Go.Proofs.YtmapgnepfgnphaaGreatDoor
open Go Go.DL Go.ChangeShapes Go.WideShapes Go.ChangeAt Go.RowKit
abbrev a4T:List CT:=[.int .u8,.int .u8,.int .u8,.int .u8]
theorem aSq:Flat Tryz.prog 70 a4T:=.array (n:=4) Tryz.underlying70 aWB (by kernel_rfl) (by kernel_rfl)
theorem aSr:Flat Tryz.prog 61 [.sl a4T]:=.sl Tryz.underlying61 aSq (by kernel_rfl) (by decide)
abbrev N8(x:Nat×Nat×Nat×Nat):Prop:=x.1<256∧x.2.1<256∧x.2.2.1<256∧x.2.2.2<256
theorem aZb:∀ row:List AV,row.length=a4T.length→(∀(i:Nat)(c:CT)(a:AV),a4T[i]?=some c→row[i]?=some a→Sh c a)→∃ x:{ x:Nat×Nat×Nat×Nat // N8 x },row=[.int .u8 (x.1.1:Int),.int .u8 (x.1.2.1:Int),.int .u8 (x.1.2.2.1:Int),.int .u8 (x.1.2.2.2:Int)]:=by
 intro row hl h;match row,hl with
 | [a0,a1,a2,a3],_ =>
   cases h 0 _ _ rfl rfl with
   | int _ n0 q0 =>
   cases h 1 _ _ rfl rfl with
   | int _ n1 q1 =>
   cases h 2 _ _ rfl rfl with
   | int _ n2 q2 =>
   cases h 3 _ _ rfl rfl with
   | int _ n3 q3 =>
   obtain⟨m0,rfl,b0⟩:=aHN q0;obtain⟨m1,rfl,b1⟩:=aHN q1;obtain⟨m2,rfl,b2⟩:=aHN q2;obtain⟨m3,rfl,b3⟩:=aHN q3;exact⟨⟨(m0,m1,m2,m3),b0,b1,b2,b3⟩,rfl⟩
theorem aMm{a:AV}(h:Sh (.sl a4T) a):∃ us:List (Nat×Nat×Nat×Nat),(∀ v∈us,N8 v)∧a = .fs (rNt us):=by
 obtain⟨us,h1,_⟩:=aUS aZb h;refine⟨us.map (·.1),fun v hv=>?_,by rw[h1];unfold rNt;rw[List.map_map];rfl⟩;obtain⟨x,_,rfl⟩:=D8.1 hv;exact x.2
end Go.Proofs.YtmapgnepfgnphaaGreatDoor
namespace Go.Proofs.YtmapgnepfgnphaaGreatDoor
open Go Go.DL
section
variable{l:List (Nat×Nat×Nat×Nat)}{i a b c d m t n cl:Nat}{L A:ByteArray}{p p2:dD}{P P2:Hp→Nat→Prop}{g1 g2 g3 g4 k1 k2 k3 k4:Nat→Int}{g5 k5:Nat→Bool}{tk tk2:List CTk}{k:CTk}{z:Int}
theorem aGG{g g2:Nat→Int}(h:m<4)(e:∀ j,j<4→g2 j=if j=m then z else g j):bR (mP g) m [I z]=mP g2:=by
 rw[←aNu h e];exact mQ (p:=fun m=>bR (mP g) m [I z]=(mP g).set m (I z)) ⟨rfl,rfl,rfl,rfl⟩ h
theorem aXx{g g2:Nat→Bool}{z:Bool}(h:m<4)(e:∀ j,j<4→g2 j=if j=m then z else g j):bR (pN g) m [.bool z]=pN g2:=by
 rw[←aNv h e];exact mQ (p:=fun m=>bR (pN g) m [.bool z]=(pN g).set m (.bool z)) ⟨rfl,rfl,rfl,rfl⟩ h
theorem aPa(hB:Beg l i a b c d m L okY p p2 P P2)(hv:5<L.size∧aP .eql (qF L 0 5) ⟨#[118,111,105,100,32]⟩=some (.bool false))(ha:a%12=10)(hz:(10+(c:Int))-(d:Int)+g3 m=z)(hw:IntKind.i64.wrap z=z)(hk3:∀ j,j<4→k3 j=if j=m then z else g3 j):kU l i n n (iF (some (.gh p P)) g1 g2 g3 g4 g5 n (iY cl 0 tk)) (iF (some (.gh p2 P2)) g1 g2 k3 g4 g5 n (iY cl 0 tk)):=by
 obtain⟨hi,h25,ht,hb,hc,hd,hm,c32,c21⟩:=hB;have hr:=rE ht;have rl:=lJ l;have t1:((i:Int)<(l.length:Int))=True:=AAa;have t2:((i:Int)<25)=True:=AAa;have a1:IntKind.i64.wrap (b:Int)=(b:Int):=aJ (by omega) (by omega);have a2:mR (b:Int) 4=(m:Int):=by rw[←hm];exact fR b 4
 have e4:IntKind.i64.wrap (c:Int)=(c:Int):=aJ (by omega) (by omega);have hm4:m<4:=by omega
 have up:=pP (i:=i) (n:=30) (by omega) (by omega);have eo:aP .eql okY ⟨#[111,107]⟩=some (.bool true):=by rw[rW,AAk rfl]
 obtain⟨v1,v2⟩:=hv;have v1:(5<(L.size:Int))=True:=AAa;have v3:(5≤(L.size:Int))=True:=AAa;have hk:=a12 ha;have s3:=aGG (z:=z) hm4 hk3;have m1:=lN (g:=g3) hm4;have m4:((m:Int)<4)=True:=AAa;have ml:(m+1≤4)=True:=AAa;have w1:IntKind.i64.wrap (10+(c:Int))=10+(c:Int):=aJ (by omega) (by omega);have w2:IntKind.i64.wrap (d:Int)=(d:Int):=aJ (by omega) (by omega);have w3:IntKind.i64.wrap (10+(c:Int)-(d:Int))=10+(c:Int)-(d:Int):=aJ (by omega) (by omega);have w4:IntKind.i64.wrap (g3 m+(10+(c:Int)-(d:Int)))=z:=by rw[Int.add_comm,hz,hw]
 unfold kU qG uW iF b10 nN;dsimp only;by_cases h0:n=0
 ·simp only[if_pos h0]
  (sym=>(simp[fH,fI,lI,Za,Zb,Zc,Zf,Zg,Zh,Zi,Zj,Zl,Zm,Zn,Zp,Zq,Zv,Zw,Zy,ZA,ZE,ZF,ZH,ZI,ZO,ZS,ZW,ZX,ZZ,Ya,Yb,Yc,Ye,Yf,Yi,Yn,Yo,Yp,Yt,Yu,Yx,Y4,Y6,Y7,Y9,YA,YG,YJ,YL,YO,YP,YU,YX,YZ,Xb,Xe,Xf,Xj,Xy,XI,XJ,XM,XN,XO,XX,We,Wr,Wu,Wv,Wx,Wy,Wz,WC,WQ,Vm,Vt,Vw,V8,VA,VB,VC,VD,VE,VF,VG,VH,VJ,VK,VL,VM,VN,VO,VQ,VR,VS,VT,VU,VV,VW,VX,VY,VZ,Ua,Ub,Uc,Ue,Uf,Uk,Un,Uo,Ur,Us,Ut,U1,U3,U4,U5,UW,UX,UY,UZ,Ta,Tb,Tf,Tg,Th,Ti,Tj,Tm,Tn,Tp,Ts,Tu,Tx,Ty,Tz,TB,TE,TF,TG,TH,TI,TJ,TK,TL,TM,TN,TO,TP,TW,Sa,Sc,Sd,Sz,S2,S3,S4,S5,S6,S7,S8,SG,SI,SJ,SL,SN,SO,SS,SW,SX,SY,Rq,Rr,Rs,Rt,R0,RA,RC,Qo,Qr,QD,QH,QI,QK,QL,QM,QN,Pj,Pk,Pl,Pm,Po,Pp,hr,rl,t1,t2,a1,a2,up,c32,c21,aZ,aY,aW,aX,bE,bD,bB,bC,dC,cZ,cX,cY,eo,v1,v2,v3,hk,e4,s3,m1,m4,ml,cR,fX,w1,w2,w3,w4];all_goals tactic=>exact rfl))
 ·simp only[if_neg h0]
  (sym=>(simp[fH,fI,lI,Za,Zb,Zc,Zf,Zg,Zh,Zi,Zj,Zl,Zm,Zn,Zp,Zq,Zv,Zw,Zy,ZA,ZE,ZF,ZH,ZI,ZO,ZS,ZW,ZX,ZZ,Ya,Yb,Yc,Ye,Yf,Yi,Yn,Yo,Yp,Yt,Yu,Yx,Y4,Y6,Y7,Y9,YA,YG,YJ,YL,YO,YP,YU,YX,YZ,Xb,Xe,Xf,Xj,Xy,XI,XJ,XM,XN,XO,XX,We,Wr,Wu,Wv,Wx,Wy,Wz,WC,WQ,Vm,Vt,Vw,V8,VA,VB,VC,VD,VE,VF,VG,VH,VJ,VK,VL,VM,VN,VO,VQ,VR,VS,VT,VU,VV,VW,VX,VY,VZ,Ua,Ub,Uc,Ue,Uf,Uk,Un,Uo,Ur,Us,Ut,U1,U3,U4,U5,UW,UX,UY,UZ,Ta,Tb,Tf,Tg,Th,Ti,Tj,Tm,Tn,Tp,Ts,Tu,Tx,Ty,Tz,TB,TE,TF,TG,TH,TI,TJ,TK,TL,TM,TN,TO,TP,TW,Sa,Sc,Sd,Sz,S2,S3,S4,S5,S6,S7,S8,SG,SI,SJ,SL,SN,SO,SS,SW,SX,SY,Rq,Rr,Rs,Rt,R0,RA,RC,Qo,Qr,QD,QH,QI,QK,QL,QM,QN,Pj,Pk,Pl,Pm,Po,Pp,hr,rl,t1,t2,a1,a2,up,c32,c21,aZ,aY,aW,aX,bE,bD,bB,bC,dC,cZ,cX,cY,eo,v1,v2,v3,hk,e4,s3,m1,m4,ml,cR,fX,w1,w2,w3,w4];all_goals tactic=>exact rfl))
theorem aPb(hB:Beg l i a b c d m L okY p p2 P P2)(hv:5<L.size∧aP .eql (qF L 0 5) ⟨#[118,111,105,100,32]⟩=some (.bool false))(ha:a%12=8∨a%12=9)(hbd:0≤g4 m∧g4 m≤99999∧0≤g2 m∧g2 m≤1000000000)(hk2:∀ j,j<4→k2 j=if j=m then (if g5 m=true then g2 m+(((390*c:Nat):Int)-g4 m+100000)%100000 else g2 m) else g2 j)(hk4:∀ j,j<4→k4 j=if j=m then ((390*c:Nat):Int) else g4 j)(hk5:∀ j,j<4→k5 j=if j=m then true else g5 j):kU l i n n (iF (some (.gh p P)) g1 g2 g3 g4 g5 n (iY cl 0 tk)) (iF (some (.gh p2 P2)) g1 k2 g3 k4 k5 n (iY cl 0 tk)):=by
 obtain⟨hi,h25,ht,hb,hc,hd,hm,c32,c21⟩:=hB;have hr:=rE ht;have rl:=lJ l;have t1:((i:Int)<(l.length:Int))=True:=AAa;have t2:((i:Int)<25)=True:=AAa;have a1:IntKind.i64.wrap (b:Int)=(b:Int):=aJ (by omega) (by omega);have a2:mR (b:Int) 4=(m:Int):=by rw[←hm];exact fR b 4
 have e4:IntKind.i64.wrap (c:Int)=(c:Int):=aJ (by omega) (by omega);have hm4:m<4:=by omega
 have up:=pP (i:=i) (n:=30) (by omega) (by omega);have eo:aP .eql okY ⟨#[111,107]⟩=some (.bool true):=by rw[rW,AAk rfl]
 obtain⟨v1,v2⟩:=hv;have v1:(5<(L.size:Int))=True:=AAa;have v3:(5≤(L.size:Int))=True:=AAa;obtain⟨q,hk,hq⟩:∃ q:Int,mR (a:Int) 12=q∧(q=8∨q=9):=by
  rcases ha with ha|ha;·exact⟨8,a12 ha,.inl rfl⟩
  ·exact⟨9,a12 ha,.inr rfl⟩
 have s4:=aGG (g:=g4) (z:=((390*c:Nat):Int)) hm4 hk4;have s5:=aXx (g:=g5) (z:=true) hm4 hk5;have m2:=lN (g:=g2) hm4;have m3:=lN (g:=g4) hm4;have m5:=aIN (g:=g5) hm4;have m4:((m:Int)<4)=True:=AAa;have ml:(m+1≤4)=True:=AAa;have w1:IntKind.i64.wrap (390*(c:Int))=((390*c:Nat):Int):=by rw[aJ (by omega) (by omega)];omega
 have hc9:390*c≤99999:=by omega
 generalize 390*c=u at *;have w2:IntKind.i64.wrap ((u:Int)-g4 m)=(u:Int)-g4 m:=aJ (by omega) (by omega);have w3:IntKind.i64.wrap (g2 m+((u:Int)-g4 m))=g2 m+((u:Int)-g4 m):=aJ (by omega) (by omega);rcases hb5:g5 m with _|_
 ·have e2:mP k2=mP g2:=by
   unfold mP;rw[hk2 0 (by omega),hk2 1 (by omega),hk2 2 (by omega),hk2 3 (by omega),hb5];rcases (by omega:m=0∨m=1∨m=2∨m=3)with rfl|rfl|rfl|rfl<;>rfl
  rw[hb5]at m5;unfold kU qG uW iF b10 nN bI;rw[e2];dsimp only;rcases hq with rfl|rfl
  all_goals
   by_cases h0:n=0
   ·simp only[if_pos h0]
    (sym=>(simp[fH,fI,lI,Za,Zb,Zc,Zf,Zg,Zh,Zi,Zj,Zl,Zm,Zn,Zp,Zq,Zv,Zw,Zy,ZA,ZE,ZF,ZH,ZI,ZO,ZS,ZW,ZX,ZZ,Ya,Yb,Yc,Ye,Yf,Yi,Yn,Yo,Yp,Yt,Yu,Yx,Y4,Y6,Y7,Y9,YA,YB,YG,YJ,YL,YO,YP,YU,YX,YZ,Xe,Xf,Xj,Xy,XI,XJ,XM,XN,XO,XX,We,Wf,Wr,Wu,Wv,Wx,Wy,Wz,WC,WQ,Vm,Vt,Vu,Vw,V8,VA,VB,VC,VD,VE,VF,VG,VH,VJ,VK,VL,VM,VN,VO,VQ,VR,VS,VT,VU,VV,VW,VX,VY,VZ,Ua,Ub,Uc,Ue,Uf,Uk,Un,Uo,Ur,Us,Ut,U1,U3,U4,U5,UW,UX,UY,UZ,Ta,Tb,Tf,Tg,Th,Ti,Tj,Tm,Tn,Tp,Ts,Tu,Tx,Ty,Tz,TB,TE,TF,TG,TH,TI,TJ,TK,TL,TM,TN,TO,TP,TW,Sa,Sc,Sd,Sz,S2,S3,S4,S5,S6,S7,S8,SG,SI,SJ,SL,SN,SO,SS,SW,SX,SY,Rq,Rr,Rs,Rt,R0,RA,RC,Qo,Qr,QH,QI,QK,QL,QM,QN,Pj,Pk,Pl,Pm,Po,Pp,hr,rl,t1,t2,a1,a2,up,c32,c21,aZ,aY,aW,aX,bE,bD,bB,bC,dC,cZ,cX,cY,eo,v1,v2,v3,hk,e4,s4,s5,m3,m4,ml,cR,fX,m5,w1];all_goals tactic=>exact rfl))
   ·simp only[if_neg h0]
    (sym=>(simp[fH,fI,lI,Za,Zb,Zc,Zf,Zg,Zh,Zi,Zj,Zl,Zm,Zn,Zp,Zq,Zv,Zw,Zy,ZA,ZE,ZF,ZH,ZI,ZO,ZS,ZW,ZX,ZZ,Ya,Yb,Yc,Ye,Yf,Yi,Yn,Yo,Yp,Yt,Yu,Yx,Y4,Y6,Y7,Y9,YA,YB,YG,YJ,YL,YO,YP,YU,YX,YZ,Xe,Xf,Xj,Xy,XI,XJ,XM,XN,XO,XX,We,Wf,Wr,Wu,Wv,Wx,Wy,Wz,WC,WQ,Vm,Vt,Vu,Vw,V8,VA,VB,VC,VD,VE,VF,VG,VH,VJ,VK,VL,VM,VN,VO,VQ,VR,VS,VT,VU,VV,VW,VX,VY,VZ,Ua,Ub,Uc,Ue,Uf,Uk,Un,Uo,Ur,Us,Ut,U1,U3,U4,U5,UW,UX,UY,UZ,Ta,Tb,Tf,Tg,Th,Ti,Tj,Tm,Tn,Tp,Ts,Tu,Tx,Ty,Tz,TB,TE,TF,TG,TH,TI,TJ,TK,TL,TM,TN,TO,TP,TW,Sa,Sc,Sd,Sz,S2,S3,S4,S5,S6,S7,S8,SG,SI,SJ,SL,SN,SO,SS,SW,SX,SY,Rq,Rr,Rs,Rt,R0,RA,RC,Qo,Qr,QH,QI,QK,QL,QM,QN,Pj,Pk,Pl,Pm,Po,Pp,hr,rl,t1,t2,a1,a2,up,c32,c21,aZ,aY,aW,aX,bE,bD,bB,bC,dC,cZ,cX,cY,eo,v1,v2,v3,hk,e4,s4,s5,m3,m4,ml,cR,fX,m5,w1];all_goals tactic=>exact rfl))
 ·simp only[hb5,AAe]at hk2
  rw[hb5]at m5;by_cases hlt:(u:Int)<g4 m
  ·have s2:=aGG (g:=g2) (z:=g2 m+((u:Int)-g4 m)) (g2:=fun j=>if j=m then g2 m+((u:Int)-g4 m) else g2 j) hm4 fun j _=>rfl
   have n2:=lN (g:=fun j=>if j=m then g2 m+((u:Int)-g4 m) else g2 j) hm4;simp only[AAe]at n2;have s6:=aGG (g:=fun j=>if j=m then g2 m+((u:Int)-g4 m) else g2 j) (z:=g2 m+((u:Int)-g4 m)+100000) (g2:=k2) hm4 fun j hj=>by
    rw[hk2 j hj];by_cases e:j=m;·rw[if_pos e,if_pos e];omega
    ·rw[if_neg e,if_neg e,if_neg e]
   generalize (fun j=>if j=m then g2 m+((u:Int)-g4 m) else g2 j)=gq at *;have t5:((u:Int)<g4 m)=True:=AAm hlt;have w5:IntKind.i64.wrap (g2 m+((u:Int)-g4 m)+100000)=g2 m+((u:Int)-g4 m)+100000:=aJ (by omega) (by omega);unfold kU qG uW iF b10 nN bI;dsimp only;rcases hq with rfl|rfl
   all_goals
    by_cases h0:n=0
    ·simp only[if_pos h0]
     (sym=>(simp[fH,fI,lI,Za,Zb,Zc,Zf,Zg,Zh,Zi,Zj,Zl,Zm,Zn,Zp,Zq,Zv,Zw,Zy,ZA,ZE,ZF,ZH,ZI,ZO,ZS,ZW,ZX,ZZ,Ya,Yb,Yc,Ye,Yf,Yi,Yn,Yo,Yp,Yt,Yu,Yx,Y4,Y6,Y7,Y9,YA,YB,YG,YJ,YL,YO,YP,YU,YX,YZ,Xe,Xf,Xj,Xy,XI,XJ,XM,XN,XO,XX,We,Wf,Wr,Wu,Wv,Wx,Wy,Wz,WC,WQ,Vm,Vt,Vu,Vw,V8,VA,VB,VC,VD,VE,VF,VG,VH,VJ,VK,VL,VM,VN,VO,VQ,VR,VS,VT,VU,VV,VW,VX,VY,VZ,Ua,Ub,Uc,Ue,Uf,Uk,Un,Uo,Ur,Us,Ut,U1,U3,U4,U5,UW,UX,UY,UZ,Ta,Tb,Tf,Tg,Th,Ti,Tj,Tm,Tn,Tp,Ts,Tu,Tx,Ty,Tz,TB,TE,TF,TG,TH,TI,TJ,TK,TL,TM,TN,TO,TP,TW,Sa,Sc,Sd,Sz,S2,S3,S4,S5,S6,S7,S8,SG,SI,SJ,SL,SN,SO,SS,SW,SX,SY,Rq,Rr,Rs,Rt,R0,RA,RC,Qo,Qr,QH,QI,QK,QL,QM,QN,Pj,Pk,Pl,Pm,Po,Pp,hr,rl,t1,t2,a1,a2,up,c32,c21,aZ,aY,aW,aX,bE,bD,bB,bC,dC,cZ,cX,cY,eo,v1,v2,v3,hk,e4,s2,s4,s5,s6,m2,n2,m3,m4,ml,cR,fX,m5,w1,w2,w3,w5,t5];all_goals tactic=>exact rfl))
    ·simp only[if_neg h0]
     (sym=>(simp[fH,fI,lI,Za,Zb,Zc,Zf,Zg,Zh,Zi,Zj,Zl,Zm,Zn,Zp,Zq,Zv,Zw,Zy,ZA,ZE,ZF,ZH,ZI,ZO,ZS,ZW,ZX,ZZ,Ya,Yb,Yc,Ye,Yf,Yi,Yn,Yo,Yp,Yt,Yu,Yx,Y4,Y6,Y7,Y9,YA,YB,YG,YJ,YL,YO,YP,YU,YX,YZ,Xe,Xf,Xj,Xy,XI,XJ,XM,XN,XO,XX,We,Wf,Wr,Wu,Wv,Wx,Wy,Wz,WC,WQ,Vm,Vt,Vu,Vw,V8,VA,VB,VC,VD,VE,VF,VG,VH,VJ,VK,VL,VM,VN,VO,VQ,VR,VS,VT,VU,VV,VW,VX,VY,VZ,Ua,Ub,Uc,Ue,Uf,Uk,Un,Uo,Ur,Us,Ut,U1,U3,U4,U5,UW,UX,UY,UZ,Ta,Tb,Tf,Tg,Th,Ti,Tj,Tm,Tn,Tp,Ts,Tu,Tx,Ty,Tz,TB,TE,TF,TG,TH,TI,TJ,TK,TL,TM,TN,TO,TP,TW,Sa,Sc,Sd,Sz,S2,S3,S4,S5,S6,S7,S8,SG,SI,SJ,SL,SN,SO,SS,SW,SX,SY,Rq,Rr,Rs,Rt,R0,RA,RC,Qo,Qr,QH,QI,QK,QL,QM,QN,Pj,Pk,Pl,Pm,Po,Pp,hr,rl,t1,t2,a1,a2,up,c32,c21,aZ,aY,aW,aX,bE,bD,bB,bC,dC,cZ,cX,cY,eo,v1,v2,v3,hk,e4,s2,s4,s5,s6,m2,n2,m3,m4,ml,cR,fX,m5,w1,w2,w3,w5,t5];all_goals tactic=>exact rfl))
  ·have s2:=aGG (g:=g2) (z:=g2 m+((u:Int)-g4 m)) (g2:=k2) hm4 fun j hj=>by
    rw[hk2 j hj];by_cases e:j=m;·rw[if_pos e,if_pos e];omega
    ·rw[if_neg e,if_neg e]
   have t5:((u:Int)<g4 m)=False:=AAn hlt;unfold kU qG uW iF b10 nN bI;dsimp only;rcases hq with rfl|rfl
   all_goals
    by_cases h0:n=0
    ·simp only[if_pos h0]
     (sym=>(simp[fH,fI,lI,Za,Zb,Zc,Zf,Zg,Zh,Zi,Zj,Zl,Zm,Zn,Zp,Zq,Zv,Zw,Zy,ZA,ZE,ZF,ZH,ZI,ZO,ZS,ZW,ZX,ZZ,Ya,Yb,Yc,Ye,Yf,Yi,Yn,Yo,Yp,Yt,Yu,Yx,Y4,Y6,Y7,Y9,YA,YB,YG,YJ,YL,YO,YP,YU,YX,YZ,Xe,Xf,Xj,Xy,XI,XJ,XM,XN,XO,XX,We,Wf,Wr,Wu,Wv,Wx,Wy,Wz,WC,WQ,Vm,Vt,Vu,Vw,V8,VA,VB,VC,VD,VE,VF,VG,VH,VJ,VK,VL,VM,VN,VO,VQ,VR,VS,VT,VU,VV,VW,VX,VY,VZ,Ua,Ub,Uc,Ue,Uf,Uk,Un,Uo,Ur,Us,Ut,U1,U3,U4,U5,UW,UX,UY,UZ,Ta,Tb,Tf,Tg,Th,Ti,Tj,Tm,Tn,Tp,Ts,Tu,Tx,Ty,Tz,TB,TE,TF,TG,TH,TI,TJ,TK,TL,TM,TN,TO,TP,TW,Sa,Sc,Sd,Sz,S2,S3,S4,S5,S6,S7,S8,SG,SI,SJ,SL,SN,SO,SS,SW,SX,SY,Rq,Rr,Rs,Rt,R0,RA,RC,Qo,Qr,QH,QI,QK,QL,QM,QN,Pj,Pk,Pl,Pm,Po,Pp,hr,rl,t1,t2,a1,a2,up,c32,c21,aZ,aY,aW,aX,bE,bD,bB,bC,dC,cZ,cX,cY,eo,v1,v2,v3,hk,e4,s2,s4,s5,m2,m3,m4,ml,cR,fX,m5,w1,w2,w3,t5];all_goals tactic=>exact rfl))
    ·simp only[if_neg h0]
     (sym=>(simp[fH,fI,lI,Za,Zb,Zc,Zf,Zg,Zh,Zi,Zj,Zl,Zm,Zn,Zp,Zq,Zv,Zw,Zy,ZA,ZE,ZF,ZH,ZI,ZO,ZS,ZW,ZX,ZZ,Ya,Yb,Yc,Ye,Yf,Yi,Yn,Yo,Yp,Yt,Yu,Yx,Y4,Y6,Y7,Y9,YA,YB,YG,YJ,YL,YO,YP,YU,YX,YZ,Xe,Xf,Xj,Xy,XI,XJ,XM,XN,XO,XX,We,Wf,Wr,Wu,Wv,Wx,Wy,Wz,WC,WQ,Vm,Vt,Vu,Vw,V8,VA,VB,VC,VD,VE,VF,VG,VH,VJ,VK,VL,VM,VN,VO,VQ,VR,VS,VT,VU,VV,VW,VX,VY,VZ,Ua,Ub,Uc,Ue,Uf,Uk,Un,Uo,Ur,Us,Ut,U1,U3,U4,U5,UW,UX,UY,UZ,Ta,Tb,Tf,Tg,Th,Ti,Tj,Tm,Tn,Tp,Ts,Tu,Tx,Ty,Tz,TB,TE,TF,TG,TH,TI,TJ,TK,TL,TM,TN,TO,TP,TW,Sa,Sc,Sd,Sz,S2,S3,S4,S5,S6,S7,S8,SG,SI,SJ,SL,SN,SO,SS,SW,SX,SY,Rq,Rr,Rs,Rt,R0,RA,RC,Qo,Qr,QH,QI,QK,QL,QM,QN,Pj,Pk,Pl,Pm,Po,Pp,hr,rl,t1,t2,a1,a2,up,c32,c21,aZ,aY,aW,aX,bE,bD,bB,bC,dC,cZ,cX,cY,eo,v1,v2,v3,hk,e4,s2,s4,s5,m2,m3,m4,ml,cR,fX,m5,w1,w2,w3,t5];all_goals tactic=>exact rfl))
theorem aOY(hB:Beg l i a b c d m L okY p p2 P P2)(hv:5<L.size∧aP .eql (qF L 0 5) ⟨#[118,111,105,100,32]⟩=some (.bool false))(ha:a%12=2∨a%12=3∨a%12=4∨a%12=5)(hz:g1 m+40*(c:Int)=z)(hw:IntKind.i64.wrap z=z)(hk1:∀ j,j<4→k1 j=if j=m then z else g1 j)(hf:fx k.farmer=m)(hn:k.net=40*(c:Int))(hvd:k.void=false)(hcl:cl≤tk.length)(h30:tk.length<100):kU l i tk.length (tk.length+1) (iF (some (.gh p P)) g1 g2 g3 g4 g5 tk.length (iY cl 0 tk)) (iF (some (.gh p2 P2)) k1 g2 g3 g4 g5 (tk.length+1) (iY cl 0 (tk++[k]))):=by
 obtain⟨hi,h25,ht,hb,hc,hd,hm,c32,c21⟩:=hB;have hr:=rE ht;have rl:=lJ l;have t1:((i:Int)<(l.length:Int))=True:=AAa;have t2:((i:Int)<25)=True:=AAa;have a1:IntKind.i64.wrap (b:Int)=(b:Int):=aJ (by omega) (by omega);have a2:mR (b:Int) 4=(m:Int):=by rw[←hm];exact fR b 4
 have e4:IntKind.i64.wrap (c:Int)=(c:Int):=aJ (by omega) (by omega);have hm4:m<4:=by omega
 have up:=pP (i:=i) (n:=30) (by omega) (by omega);have eo:aP .eql okY ⟨#[111,107]⟩=some (.bool true):=by rw[rW,AAk rfl]
 obtain⟨v1,v2⟩:=hv;have v1:(5<(L.size:Int))=True:=AAa;have v3:(5≤(L.size:Int))=True:=AAa;obtain⟨q,hk,hq⟩:∃ q:Int,mR (a:Int) 12=q∧(q=2∨q=3∨q=4∨q=5):=by
  rcases ha with ha|ha|ha|ha;·exact⟨2,a12 ha,.inl rfl⟩
  ·exact⟨3,a12 ha,.inr (.inl rfl)⟩
  ·exact⟨4,a12 ha,.inr (.inr (.inl rfl))⟩
  ·exact⟨5,a12 ha,.inr (.inr (.inr rfl))⟩
 have s1:=aGG (z:=z) hm4 hk1;have m1:=lN (g:=g1) hm4;have m4:((m:Int)<4)=True:=AAa;have ml:(m+1≤4)=True:=AAa;have w1:IntKind.i64.wrap (40*(c:Int))=40*(c:Int):=aJ (by omega) (by omega);have w4:IntKind.i64.wrap (g1 m+40*(c:Int))=z:=by rw[hz,hw]
 have e5:iY cl 0 (tk++[k])=iY cl 0 tk++[I (m:Nat),I (40*(c:Int)),.bool false,.bool false]:=by
  rw[aIo,hf,hn,hvd,AAl (by omega)]
 unfold kU qG uW iF b10 nN;rw[e5];dsimp only;have hp1:¬(tk.length+1=0):=by omega
 have l4:=sK (cl:=cl) (i:=0) (l:=tk);by_cases h0:tk.length=0
 ·have e6:tk=[]:=C5 h0
  subst e6;simp only[if_neg hp1,I1,iY,J9,AAe];rcases hq with rfl|rfl|rfl|rfl;all_goals (sym=>(simp[fH,fI,lI,Za,Zb,Zc,Zd,Ze,Zf,Zg,Zh,Zi,Zj,Zl,Zm,Zn,Zo,Zp,Zq,Zv,Zw,Zy,Z0,Z8,ZA,ZE,ZF,ZH,ZI,ZO,ZS,ZW,ZX,ZZ,Ya,Yb,Yc,Ye,Yf,Yi,Ym,Yn,Yo,Yp,Yt,Yu,Yx,Y4,Y6,Y7,Y9,YB,YG,YJ,YL,YO,YP,YU,YX,YZ,Xe,Xf,Xj,Xu,Xy,XI,XJ,XM,XN,XO,We,Wf,Wh,Wr,Wu,Wv,Wx,Wy,Wz,WQ,Vm,Vt,Vw,V8,VA,VB,VC,VD,VE,VF,VG,VH,VJ,VK,VL,VM,VN,VO,VQ,VR,VS,VT,VU,VV,VW,VX,VY,VZ,Ua,Ub,Uc,Ue,Uf,Uk,Un,Uo,Ur,Us,Ut,U1,U3,U4,U5,UW,UX,UY,UZ,Ta,Tb,Tf,Tg,Th,Ti,Tj,Tm,Tn,Tp,Ts,Tu,Tx,Ty,Tz,TB,TE,TF,TG,TH,TI,TJ,TK,TL,TM,TN,TO,TP,TW,TX,TY,TZ,Sa,Sc,Sd,Sj,Sk,Sl,Sm,Sr,Ss,Su,Sv,Sw,Sx,Sz,S2,S3,S4,S5,S6,S7,S8,SB,SC,SD,SE,SF,SG,SI,SJ,SL,SN,SO,SS,SW,SX,SY,Rq,Rr,Rs,Rt,R0,RA,RC,RK,Qo,Qr,QH,QI,QK,QL,QM,QN,Pj,Pk,Pl,Pm,Po,Pp,hr,rl,t1,t2,a1,a2,up,c32,c21,aZ,aY,aW,aX,bE,bD,bB,bC,dC,cZ,cX,cY,eo,v1,v2,v3,hk,e4,s1,m1,m4,ml,cR,fX,w1,w4];all_goals tactic=>exact rfl))
 ·simp only[if_neg h0,if_neg hp1]
  generalize iY cl 0 tk=T at *;have ap1:((tk.length+1)*24≤1099511627776)=True:=AAa;have ap2:(tk.length+1≤1099511627776)=True:=AAa;generalize tk.length=n at *;rcases hq with rfl|rfl|rfl|rfl;all_goals (sym=>(simp[fH,fI,lI,Za,Zb,Zc,Zd,Ze,Zf,Zg,Zh,Zi,Zj,Zl,Zm,Zn,Zo,Zp,Zq,Zv,Zw,Zy,Z0,Z8,ZA,ZE,ZF,ZH,ZI,ZO,ZS,ZW,ZX,ZZ,Ya,Yb,Yc,Ye,Yf,Yi,Ym,Yn,Yo,Yp,Yt,Yu,Yx,Y4,Y6,Y7,Y9,YB,YG,YJ,YL,YO,YP,YU,YX,YZ,Xe,Xf,Xj,Xu,Xy,XI,XJ,XM,XN,XO,We,Wf,Wh,Wr,Wu,Wv,Wx,Wy,Wz,WQ,Vm,Vt,Vw,V8,VA,VB,VC,VD,VE,VF,VG,VH,VJ,VK,VL,VM,VN,VO,VQ,VR,VS,VT,VU,VV,VW,VX,VY,VZ,Ua,Ub,Uc,Ue,Uf,Uk,Un,Uo,Ur,Us,Ut,U1,U3,U4,U5,UW,UX,UY,UZ,Ta,Tb,Tf,Tg,Th,Ti,Tj,Tm,Tn,Tp,Ts,Tu,Tx,Ty,Tz,TB,TE,TF,TG,TH,TI,TJ,TK,TL,TM,TN,TO,TP,TW,TX,TY,TZ,Sa,Sc,Sd,Sj,Sk,Sl,Sm,Sr,Ss,Su,Sv,Sw,Sx,Sz,S2,S3,S4,S5,S6,S7,S8,SB,SC,SD,SE,SF,SG,SI,SJ,SL,SN,SO,SS,SW,SX,SY,Rq,Rr,Rs,Rt,R0,RA,RC,RK,Qo,Qr,QH,QI,QK,QL,QM,QN,Pj,Pk,Pl,Pm,Po,Pp,hr,rl,t1,t2,a1,a2,up,c32,c21,aZ,aY,aW,aX,bE,bD,bB,bC,dC,cZ,cX,cY,eo,v1,v2,v3,hk,e4,s1,m1,m4,ml,cR,fX,w1,w4,l4,ap1,ap2];all_goals tactic=>exact rfl))
end
theorem aAn{l:List AV}{o:Nat}{v:AV}(h:o<l.length):bR l o [v]=l.set o v:=by
 rw[aB7,if_pos h];simp[bR]
section
variable{l:List (Nat×Nat×Nat×Nat)}{i a b c d m m2 t n cl:Nat}{L A:ByteArray}{p p2:dD}{P P2:Hp→Nat→Prop}{g1 g2 g3 g4 k1 k2 k3 k4:Nat→Int}{g5 k5:Nat→Bool}{tk tk2:List CTk}{k:CTk}{z:Int}
theorem aLn(hB:Beg l i a b c d m L A p p P P)(hv:5<L.size∧aP .eql (qF L 0 5) ⟨#[118,111,105,100,32]⟩=some (.bool true))(hA:A≠okY)(htt:c%8=t)(hno:∀ k,tk[t]?=some k→k.void=true∨t<cl)(h30:tk.length<100):kU l i tk.length tk.length (iF (some (.gh p P)) g1 g2 g3 g4 g5 tk.length (iY cl 0 tk)) (iF (some (.gh p P)) g1 g2 g3 g4 g5 tk.length (iY cl 0 tk)):=by
 obtain⟨hi,h25,ht,hb,hc,hd,hm,c32,c21⟩:=hB;have hr:=rE ht;have rl:=lJ l;have t1:((i:Int)<(l.length:Int))=True:=AAa;have t2:((i:Int)<25)=True:=AAa;have a1:IntKind.i64.wrap (b:Int)=(b:Int):=aJ (by omega) (by omega);have a2:mR (b:Int) 4=(m:Int):=by rw[←hm];exact fR b 4
 have e4:IntKind.i64.wrap (c:Int)=(c:Int):=aJ (by omega) (by omega);have hm4:m<4:=by omega
 have up:=pP (i:=i) (n:=30) (by omega) (by omega);have eo:aP .eql A ⟨#[111,107]⟩=some (.bool false):=by rw[rW,AAl hA]
 obtain⟨v1,v2⟩:=hv;have v1:(5<(L.size:Int))=True:=AAa;have v3:(5≤(L.size:Int))=True:=AAa;have c8:mR (c:Int) 8=(t:Int):=by rw[←htt];exact fR c 8
 have l4:=sK (cl:=cl) (i:=0) (l:=tk);unfold kU qG uW iF b10 nN;dsimp only;by_cases h0:tk.length=0
 ·simp only[if_pos h0]
  have tf:((t:Int)<0)=False:=AAb;(sym=>(simp[fH,fI,lI,Za,Zb,Zc,Zf,Zg,Zh,Zj,Zl,Zm,Zn,Zp,Zq,Zs,Zv,Zw,Zy,ZA,ZB,ZE,ZF,ZG,ZH,ZI,ZO,ZS,ZT,ZW,Ya,Yb,Yf,Yi,Yn,Yo,Yp,Yq,Ys,Yt,Yu,Yv,Yx,Yy,Yz,Y4,Y5,Y6,Y7,Y9,YA,YJ,YL,YO,YP,YX,YZ,Xe,Xf,Xj,Xk,Xy,XI,XJ,XM,XN,XO,XX,We,Wr,Wu,Wv,Wx,Wy,Wz,WC,WQ,Vm,Vw,VA,VB,VC,VD,VE,VF,VG,VH,VJ,VK,VL,VM,VN,VO,VQ,VR,VS,VT,VU,VV,VW,VX,VY,VZ,Ua,Ub,Uc,Ue,Uf,Uk,Un,Uo,Ur,Us,U1,U3,U4,U5,UW,UX,UY,UZ,Ta,Tb,Tf,Tg,Th,Ti,Tj,Tm,Tn,Tp,Ts,Tu,Tx,Ty,TB,TE,TF,TG,TJ,TK,TL,TM,TN,TO,TP,TW,Sa,Sc,Sd,Sz,S2,S3,S4,S5,S6,S7,S8,SG,SI,SJ,SL,SM,SN,SO,SP,SV,SW,SX,SY,Rq,Rr,Rs,Rt,RA,RC,Qq,Qr,QH,QI,QK,QL,QM,QN,Pj,Pk,Pl,Pm,Po,Pp,hr,rl,t1,t2,a1,a2,up,c32,c21,aZ,aY,aW,aX,bE,bD,bB,bC,dC,cZ,cX,cY,eo,v1,v2,v3,e4,c8,tf];all_goals tactic=>exact rfl))
 ·simp only[if_neg h0]
  by_cases hlt:t<tk.length
  ·obtain⟨k,hk⟩:∃ k,tk[t]?=some k:=⟨_,A7 hlt⟩
   obtain⟨c1,c2,c3,c4⟩:=aEi (cl:=cl) (i:=0) hk;have tl:((t:Int)<(tk.length:Int))=True:=AAa;have wn:IntKind.i64.wrap ((tk.length:Int)-1)=(tk.length:Int)-1:=aJ (by omega) (by omega);have mn:((tk.length:Int)-1<(t:Int))=False:=AAb;have l5:(t*4+2+1≤tk.length*4)=True:=AAa;have l6:(t*4+2<tk.length*4)=True:=AAa;rw[H8]at c4;generalize tk.length=n at *;cases hvd:k.void with
   | true =>
     rw[hvd]at c3;(sym=>(simp[fH,fI,lI,Za,Zb,Zc,Zf,Zg,Zh,Zj,Zl,Zm,Zn,Zp,Zq,Zs,Zv,Zw,Zy,ZA,ZB,ZE,ZF,ZG,ZH,ZI,ZO,ZS,ZT,ZW,Ya,Yb,Yf,Yi,Yn,Yo,Yp,Yq,Ys,Yt,Yu,Yv,Yx,Yy,Yz,Y4,Y5,Y6,Y7,Y9,YA,YJ,YL,YO,YP,YX,YZ,Xe,Xf,Xj,Xk,Xy,XI,XJ,XM,XN,XO,XX,We,Wr,Wu,Wv,Wx,Wy,Wz,WC,WQ,Vm,Vw,VA,VB,VC,VD,VE,VF,VG,VH,VJ,VK,VL,VM,VN,VO,VQ,VR,VS,VT,VU,VV,VW,VX,VY,VZ,Ua,Ub,Uc,Ue,Uf,Uk,Un,Uo,Ur,Us,U1,U3,U4,U5,UW,UX,UY,UZ,Ta,Tb,Tf,Tg,Th,Ti,Tj,Tm,Tn,Tp,Ts,Tu,Tx,Ty,TB,TE,TF,TG,TJ,TK,TL,TM,TN,TO,TP,TW,Sa,Sc,Sd,Sz,S2,S3,S4,S5,S6,S7,S8,SG,SI,SJ,SL,SM,SN,SO,SP,SV,SW,SX,SY,Rq,Rr,Rs,Rt,RA,RC,Qq,Qr,QH,QI,QK,QL,QM,QN,Pj,Pk,Pl,Pm,Po,Pp,hr,rl,t1,t2,a1,a2,up,c32,c21,aZ,aY,aW,aX,bE,bD,bB,bC,dC,cZ,cX,cY,eo,v1,v2,v3,e4,c8,tl,wn,mn,c3,c4,l4,l5,l6];all_goals tactic=>exact rfl))
   | false =>
     have hcl:t<cl:=by
      rcases hno k hk with h|h;·rw[hvd]at h;cases h
      ·exact h
     rw[hvd]at c3;rw[AAk hcl]at c4;(sym=>(simp[fH,fI,lI,Za,Zb,Zc,Zf,Zg,Zh,Zj,Zl,Zm,Zn,Zp,Zq,Zs,Zv,Zw,Zy,ZA,ZB,ZE,ZF,ZG,ZH,ZI,ZO,ZS,ZT,ZW,Ya,Yb,Yf,Yi,Yn,Yo,Yp,Yq,Ys,Yt,Yu,Yv,Yx,Yy,Yz,Y4,Y5,Y6,Y7,Y9,YA,YJ,YL,YO,YP,YX,YZ,Xe,Xf,Xj,Xk,Xy,XI,XJ,XM,XN,XO,XX,We,Wr,Wu,Wv,Wx,Wy,Wz,WC,WQ,Vm,Vw,VA,VB,VC,VD,VE,VF,VG,VH,VJ,VK,VL,VM,VN,VO,VQ,VR,VS,VT,VU,VV,VW,VX,VY,VZ,Ua,Ub,Uc,Ue,Uf,Uk,Un,Uo,Ur,Us,U1,U3,U4,U5,UW,UX,UY,UZ,Ta,Tb,Tf,Tg,Th,Ti,Tj,Tm,Tn,Tp,Ts,Tu,Tx,Ty,TB,TE,TF,TG,TJ,TK,TL,TM,TN,TO,TP,TW,Sa,Sc,Sd,Sz,S2,S3,S4,S5,S6,S7,S8,SG,SI,SJ,SL,SM,SN,SO,SP,SV,SW,SX,SY,Rq,Rr,Rs,Rt,RA,RC,Qq,Qr,QH,QI,QK,QL,QM,QN,Pj,Pk,Pl,Pm,Po,Pp,hr,rl,t1,t2,a1,a2,up,c32,c21,aZ,aY,aW,aX,bE,bD,bB,bC,dC,cZ,cX,cY,eo,v1,v2,v3,e4,c8,tl,wn,mn,c3,c4,l4,l5,l6];all_goals tactic=>exact rfl))
  ·have tf:((t:Int)<(tk.length:Int))=False:=AAb
   generalize tk.length=n at *;(sym=>(simp[fH,fI,lI,Za,Zb,Zc,Zf,Zg,Zh,Zj,Zl,Zm,Zn,Zp,Zq,Zs,Zv,Zw,Zy,ZA,ZB,ZE,ZF,ZG,ZH,ZI,ZO,ZS,ZT,ZW,Ya,Yb,Yf,Yi,Yn,Yo,Yp,Yq,Ys,Yt,Yu,Yv,Yx,Yy,Yz,Y4,Y5,Y6,Y7,Y9,YA,YJ,YL,YO,YP,YX,YZ,Xe,Xf,Xj,Xk,Xy,XI,XJ,XM,XN,XO,XX,We,Wr,Wu,Wv,Wx,Wy,Wz,WC,WQ,Vm,Vw,VA,VB,VC,VD,VE,VF,VG,VH,VJ,VK,VL,VM,VN,VO,VQ,VR,VS,VT,VU,VV,VW,VX,VY,VZ,Ua,Ub,Uc,Ue,Uf,Uk,Un,Uo,Ur,Us,U1,U3,U4,U5,UW,UX,UY,UZ,Ta,Tb,Tf,Tg,Th,Ti,Tj,Tm,Tn,Tp,Ts,Tu,Tx,Ty,TB,TE,TF,TG,TJ,TK,TL,TM,TN,TO,TP,TW,Sa,Sc,Sd,Sz,S2,S3,S4,S5,S6,S7,S8,SG,SI,SJ,SL,SM,SN,SO,SP,SV,SW,SX,SY,Rq,Rr,Rs,Rt,RA,RC,Qq,Qr,QH,QI,QK,QL,QM,QN,Pj,Pk,Pl,Pm,Po,Pp,hr,rl,t1,t2,a1,a2,up,c32,c21,aZ,aY,aW,aX,bE,bD,bB,bC,dC,cZ,cX,cY,eo,v1,v2,v3,e4,c8,tf];all_goals tactic=>exact rfl))
theorem aOZ(hB:Beg l i a b c d m L okY p p2 P P2)(hv:5<L.size∧aP .eql (qF L 0 5) ⟨#[118,111,105,100,32]⟩=some (.bool true))(htt:c%8=t)(hk:tk[t]?=some k)(hvd:k.void=false)(hcl:¬t<cl)(hf:fx k.farmer=m2)(hm2:m2<4)(hz:g1 m2-k.net=z)(hw:IntKind.i64.wrap z=z)(hk1:∀ j,j<4→k1 j=if j=m2 then z else g1 j)(h30:tk.length<100):kU l i tk.length tk.length (iF (some (.gh p P)) g1 g2 g3 g4 g5 tk.length (iY cl 0 tk)) (iF (some (.gh p2 P2)) k1 g2 g3 g4 g5 tk.length (iY cl 0 (tk.set t { k with void:=true }))):=by
 obtain⟨hi,h25,ht,hb,hc,hd,hm,c32,c21⟩:=hB;have hr:=rE ht;have rl:=lJ l;have t1:((i:Int)<(l.length:Int))=True:=AAa;have t2:((i:Int)<25)=True:=AAa;have a1:IntKind.i64.wrap (b:Int)=(b:Int):=aJ (by omega) (by omega);have a2:mR (b:Int) 4=(m:Int):=by rw[←hm];exact fR b 4
 have e4:IntKind.i64.wrap (c:Int)=(c:Int):=aJ (by omega) (by omega);have hm4:m<4:=by omega
 have up:=pP (i:=i) (n:=30) (by omega) (by omega);have eo:aP .eql okY ⟨#[111,107]⟩=some (.bool true):=by rw[rW,AAk rfl]
 obtain⟨v1,v2⟩:=hv;have v1:(5<(L.size:Int))=True:=AAa;have v3:(5≤(L.size:Int))=True:=AAa;have c8:mR (c:Int) 8=(t:Int):=by rw[←htt];exact fR c 8
 have l4:=sK (cl:=cl) (i:=0) (l:=tk);have k4:=sK (cl:=cl) (i:=0) (l:=tk.set t { k with void:=true });rw[C0]at k4;have hlt:t<tk.length:=(A5.1 hk).1;obtain⟨c1,c2,c3,c4⟩:=aEi (cl:=cl) (i:=0) hk;obtain⟨b1,b2,_,_⟩:=aEi (cl:=cl) (i:=0) (l:=tk.set t { k with void:=true }) (t:=t) (k:={ k with void:=true }) (by rw[M5 hlt]);have sv:bR (iY cl 0 tk) (t*4+2) [.bool true]=iY cl 0 (tk.set t { k with void:=true }):=by
  rw[←aFD hk,aAn (by omega)]
 have tl:((t:Int)<(tk.length:Int))=True:=AAa;have wn:IntKind.i64.wrap ((tk.length:Int)-1)=(tk.length:Int)-1:=aJ (by omega) (by omega);have mn:((tk.length:Int)-1<(t:Int))=False:=AAb;have l5:(t*4+2+1≤tk.length*4)=True:=AAa;have l6:(t*4+2<tk.length*4)=True:=AAa;have l7:(t*4+1<tk.length*4)=True:=AAa;have l8:(t*4<tk.length*4)=True:=AAa;rw[H8,AAl hcl]at c4;rw[hvd]at c3;dsimp only at b1 b2;rw[hf]at b1;have s1:=aGG (z:=z) hm2 hk1;have m1:=lN (g:=g1) hm2;have m4:((m2:Int)<4)=True:=AAa;have ml:(m2+1≤4)=True:=AAa;have w4:IntKind.i64.wrap (g1 m2-k.net)=z:=by rw[hz,hw]
 unfold kU qG uW iF b10 nN;dsimp only;have h0:¬tk.length=0:=by omega
 simp only[if_neg h0];generalize tk.set t { k with void:=true }=tk2 at *;generalize tk.length=n at *;(sym=>(simp[fH,fI,lI,Za,Zb,Zc,Zf,Zg,Zh,Zi,Zj,Zl,Zm,Zn,Zp,Zq,Zv,Zw,Zy,ZA,ZB,ZE,ZF,ZG,ZH,ZI,ZO,ZS,ZT,ZW,ZX,ZZ,Ya,Yb,Yc,Ye,Yf,Yi,Yn,Yo,Yp,Ys,Yt,Yu,Yv,Yx,Yy,Y4,Y5,Y6,Y7,Y9,YA,YJ,YL,YO,YP,YX,YZ,Xe,Xf,Xj,Xk,Xy,XI,XJ,XM,XN,XO,We,Wf,Wr,Wu,Wv,Wx,Wy,Wz,WQ,Vm,Vt,Vu,Vw,V8,VA,VB,VC,VD,VE,VF,VG,VH,VJ,VK,VL,VM,VN,VO,VQ,VR,VS,VT,VU,VV,VW,VX,VY,VZ,Ua,Ub,Uc,Ue,Uf,Uk,Un,Uo,Ur,Us,Ut,U1,U3,U4,U5,UW,UX,UY,UZ,Ta,Tb,Tf,Tg,Th,Ti,Tj,Tm,Tn,Tp,Ts,Tu,Ty,Tz,TB,TE,TF,TG,TH,TI,TJ,TK,TL,TM,TN,TO,TP,TW,Sa,Sc,Sd,Sz,S2,S3,S4,S5,S6,S7,S8,SG,SI,SJ,SL,SM,SN,SO,SP,SV,SW,SX,SY,Rq,Rr,Rs,Rt,R0,RA,RC,Qo,Qp,Qr,QH,QI,QK,QL,QM,QN,Pj,Pk,Pl,Pm,Po,Pp,hr,rl,t1,t2,a1,a2,up,c32,c21,aZ,aY,aW,aX,bE,bD,bB,bC,dC,cZ,cX,cY,eo,v1,v2,v3,e4,c8,tl,wn,mn,c3,c4,b1,b2,l4,k4,l5,l6,l7,l8,sv,s1,m1,m4,ml,cR,fX,w4];all_goals tactic=>exact rfl))
theorem aPd(hB:Beg l i a b c d m L okY p p2 P P2)(hv:¬5<L.size)(ha:a%12=7)(hcl:cl<tk.length)(h30:tk.length<100):kU l i tk.length tk.length (iF (some (.gh p P)) g1 g2 g3 g4 g5 tk.length (iY cl 0 tk)) (iF (some (.gh p2 P2)) g1 g2 g3 g4 g5 tk.length (iY tk.length 0 tk)):=by
 obtain⟨hi,h25,ht,hb,hc,hd,hm,c32,c21⟩:=hB;have hr:=rE ht;have rl:=lJ l;have t1:((i:Int)<(l.length:Int))=True:=AAa;have t2:((i:Int)<25)=True:=AAa;have a1:IntKind.i64.wrap (b:Int)=(b:Int):=aJ (by omega) (by omega);have a2:mR (b:Int) 4=(m:Int):=by rw[←hm];exact fR b 4
 have e4:IntKind.i64.wrap (c:Int)=(c:Int):=aJ (by omega) (by omega);have hm4:m<4:=by omega
 have up:=pP (i:=i) (n:=30) (by omega) (by omega);have eo:aP .eql okY ⟨#[111,107]⟩=some (.bool true):=by rw[rW,AAk rfl]
 have v1:(5<(L.size:Int))=False:=AAb;have hk:=a12 ha;have h0:¬tk.length=0:=by omega
 have l4:=fun cl=>sK (cl:=cl) (i:=0) (l:=tk);have sv:∀ j,j<tk.length→bR (iY (max cl j) 0 tk) (j*4+3) [.bool true]=iY (max cl (j+1)) 0 tk:=fun j hj=>by
  rw[aAn (by rw[l4];omega),aDb hj (by omega)];congr 1;omega
 have e0:max cl 0=cl:=by omega
 have en:max cl tk.length=tk.length:=by omega
 unfold kU qG uW iF b10 nN;dsimp only;simp only[if_neg h0];sym =>
  simp[fH,fI,lI,Za,Zb,Zc,Zf,Zg,Zh,Zj,Zl,Zm,Zp,Zq,Zs,Zv,Zw,Zy,ZA,ZE,ZF,ZG,ZH,ZI,ZS,ZW,Ya,Yb,Yf,Yi,Yn,Yo,Yp,Yq,Yt,Yu,Yv,Yx,Yy,Y4,Y5,Y6,Y7,Y9,YG,YJ,YL,YO,YP,YU,YV,YX,Xe,Xh,Xj,Xy,XI,XJ,XM,XN,XO,We,Wf,Wr,Wu,Wv,Wx,Wy,Wz,WQ,Vm,Vu,Vw,VA,VB,VC,VD,VE,VF,VG,VH,VJ,VK,VL,VM,VN,VO,VQ,VR,VS,VT,VU,VV,VW,VX,VY,VZ,Ua,Ub,Uc,Ue,Uf,Uk,Un,Uo,Ur,Us,U1,U3,U4,U5,UW,UX,UY,UZ,Ta,Tb,Tc,Tf,Tg,Th,Ti,Tj,Tm,Tn,Tp,Ts,Tu,Tx,TB,TE,TF,TG,TJ,TK,TL,TM,TN,TO,TP,TW,Sy,Sz,S2,S3,S4,S5,S6,S7,S8,SG,SI,SJ,SL,SM,SN,SO,SP,SS,SV,SW,SX,SY,RA,RC,Qr,QH,QI,QK,QL,QM,QN,Pj,Pk,Pl,Pm,Po,Pp,hr,rl,t1,t2,a1,a2,up,c32,c21,aZ,aY,aW,aX,bE,bD,bB,bC,dC,cZ,cX,cY,eo,v1,hk]
  tactic =>
   unfold aQq;rw[cS tk.length (fun j=>[.fs (rNt l),.pt 0 0,.pt 1 0,.pt 2 0,.pt 3 0,.pt 4 0,.pt 5 0,.sl 6 0 4 tk.length,I (i:Nat),I (tk.length:Nat),I (j:Nat)]) (fun j=>[some (.gh p2 P2),bI g1,bI g2,bI g3,bI g4,some (.blk true (.cells true (pN g5))),some (.blk true (.cells true (iY (max cl j) 0 tk)))])]
   ·rw[en]
    have tn:((tk.length:Int)<(tk.length:Int))=False:=AAb;(exact aKb rl tn up aZ aY aW aX bE bD bB bC dC cZ cX cY aE aE aE aE aE)
   ·rw[e0]
    (exact xW rl aZ aY aW aX bE bD bB bC dC cZ cX cY)
   ·intro j hj
    have q1:=sv j hj;have q2:=l4 (max cl j);have tj:((j:Int)<(tk.length:Int))=True:=AAa;have wj:=pP (i:=j) (n:=100) (by omega) (by omega);have l5:(j*4+3+1≤tk.length*4)=True:=AAa;generalize max cl (j+1)=cj at *;generalize max cl j=ci at *;(exact aKb rl tj wj q1 q2 l5 aZ aY aW aX bE bD bB bC dC cZ cX cY aE aE)
   ·have tn:((tk.length:Int)<(tk.length:Int))=False:=AAb
    (exact aKb rl tn aZ aY aW aX bE bD bB bC dC cZ cX cY aE aE aE aE aE aE)
end
abbrev Nt:=Nat×Nat×Nat×Nat
noncomputable def stN(l:List Nt):Nat→dD
 | 0=>pZ
 | i+1=>match l[i]? with
   | none=>stN l i
   | some (a,b,c,d)=>(sayA (stN l i) ⟨⟨wA a b c d⟩⟩).2
def Nt8(l:List Nt):Prop:=∀ x∈l,x.1<256∧x.2.1<256∧x.2.2.1<256∧x.2.2.2<256
variable{l:List Nt}{s:dD}{i n m a b c d t:Nat}{w:Wd}{L:ByteArray}
theorem aTv(hm:m<4)(h:wN a m c d=some w):WNm w:=by
 have q:Nm (dX m):=⟨m,hm,rfl⟩;unfold wN wQ at h
 repeat' split at h
 all_goals cases h
 all_goals first|exact q|trivial|(split<;>trivial)
theorem aTw(h:wN a m c d=some w)(x y:ByteArray)(f e:Int)(hw:w = .wagon x y f e):e≤f:=by
 subst hw;unfold wN wQ at h
 repeat' split at h
 all_goals first
  | (injection h with h;injection h with _ _ h1 h2;omega)
  | (injection h with h;split at h<;>cases h)
  | cases h
theorem aLj:Inv pZ 0:=by
 refine⟨⟨?_,?_,?_,?_,?_,?_,?_,?_,?_,?_,?_,?_,?_,?_⟩,B7 _,?_,⟨?_,?_⟩,?_,?_⟩<;>simp[pZ]
theorem Inv.up(v:Inv s n):Inv s (n+1):=⟨v.gs,I2 v.bk,v.nf,v.nm,v.np⟩
theorem Inv.note(v:Inv s n)(hn:n<100)(hb:b<256)(hc:c<256)(hd:d<256):Inv (sayA s ⟨⟨wA a b c d⟩⟩).2 (n+1):=by
 have r:=aIc (a:=a) hb hc hd;cases hw:wN (a%12) (b%4) c d with
 | none =>
   rw[hw]at r;have e:sayA s ⟨⟨wA a b c d⟩⟩=(noA 13,s):=by unfold sayA;rw[r.1];rfl
   rw[e];exact v.up
 | some w =>
   rw[hw]at r;obtain⟨hr,u,_,hu⟩:=r;exact v.step hn hr ⟨u,hu⟩ (aTv (J4 _ (by decide)) hw)
theorem aHT(h:Nt8 l):∀ i,i<100→Inv (stN l i) i
 | 0,_=>aLj
 | i+1,hi=>by
   have ih:=aHT h i (by omega);unfold stN;split;·exact ih.up
   ·rename_i a b c d ht
    obtain⟨_,hb,hc,hd⟩:=h _ (A8 ht);exact ih.note (by omega) hb hc hd
theorem aHP{x:ByteArray}:∀{l:List CTk},(∀ k∈l,0≤k.net∧k.net≤99999)→0≤iQ l x∧iQ l x≤99999*(l.length:Int)
 | [],_=>by simp[iQ]
 | k::r,h=>by
   have ih:=aHP (x:=x) (l:=r) fun k hk=>h k (by simp[hk]);have hk:=h k (by simp);have e:iQ (k::r) x=(if k.farmer=x∧k.void=false then k.net else 0)+iQ r x:=by simp[iQ]
   rw[e,C6];split<;>omega
theorem Inv.xn(v:Inv s n)(m:Nat):0≤gN s m∧gN s m≤99999*(n:Int):=by
 have h:=aHP (x:=dX m) (l:=s.tickets) fun k hk=>⟨(v.gs.bt k hk).1,(v.gs.bt k hk).2.1⟩;have h1:=v.gs.lt;have h2:=v.bk;unfold gN;omega
theorem aDD{α:Type}{l:List (ByteArray×α)}{x:ByteArray}{y:α}(h:cT l x=some y):(x,y)∈l:=by
 obtain⟨i,_,h⟩:=dY h;exact A8 h
theorem Inv.xp(v:Inv s n)(m:Nat):0≤gP s m∧gP s m≤100000*(n:Int):=by
 unfold gP;have h2:=v.bk;cases h:cT s.pans (dX m)with
 | none=>simp;omega
 | some y=>have:=v.gs.bp _ (aDD h);dsimp only[Option.getD_some]at this ⊢;omega
theorem Inv.xm(v:Inv s n)(m:Nat):(0≤gL s m∧gL s m≤99999)∧0≤gU s m∧gU s m≤100000*(n:Int):=by
 unfold gL gU;have h2:=v.bk;cases h:cT s.meters (dX m)with
 | none=>simp;omega
 | some y=>have:=v.gs.bm _ (aDD h);dsimp only[Option.map_some,Option.getD_some]at this ⊢;omega
theorem isVd.lg{q:Bool}(h:isVd L q)(hl:5<L.size):5<L.size∧aP .eql (qF L 0 5) ⟨#[118,111,105,100,32]⟩=some (.bool q):=by
 rcases h with h|h;·exact h
 ·exact absurd hl h.2
theorem xM(h7:a%12=7→¬c<64)(h11:a%12≠11):5<(⟨⟨wA a b c d⟩⟩:ByteArray).size:=by
 rw[pQ];unfold wA;have p:=aHw (c%8);split;any_goals (simp;done)
 ·simp;omega
 ·rename_i h;rw[if_neg (h7 h)];simp;omega
 ·exact absurd ‹_› h11
noncomputable def hS(s:dD):XH:=iF (gK s) (gN s) (gU s) (gP s) (gL s) (gS s) s.tickets.length (iY s.closed 0 s.tickets)
theorem wr9{z:Int}(h1 : -1000000000≤z)(h2:z≤1000000000):IntKind.i64.wrap z=z:=aJ (by omega) (by omega)
theorem aPg(v:Inv s i)(hi:i<l.length)(h25:i<25)(ht:l[i]?=some (a,b,c,d))(hb:b<256)(hc:c<256)(hd:d<256):kU l i s.tickets.length (sayA s ⟨⟨wA a b c d⟩⟩).2.tickets.length (hS s) (hS (sayA s ⟨⟨wA a b c d⟩⟩).2):=by
 have r:=aIc (a:=a) hb hc hd;have c32:=w32 (a:=a) hb hc hd;have hv:=aOm (a:=a) (b:=b) (c:=c) (d:=d);have hm:b%4<4:=J4 _ (by decide);have bk:=v.bk;have lt:=v.gs.lt;have cl:=v.gs.cl;cases hw:wN (a%12) (b%4) c d with
 | none =>
   rw[hw]at r hv;obtain⟨hr,hp⟩:=r;have c21:=g21 s ⟨⟨wA a b c d⟩⟩ (.inl ⟨hr,hp⟩);have e:sayA s ⟨⟨wA a b c d⟩⟩=(noA 13,s):=by unfold sayA;rw[hr];rfl
   rw[e]at c21 ⊢;exact aHY ⟨hi,h25,ht,hb,hc,hd,rfl,c32,c21⟩ (aGY _) hv
 | some w =>
   rw[hw]at r hv;obtain⟨hr,u,hp,hu⟩:=r;have c21:=g21 s ⟨⟨wA a b c d⟩⟩ (.inr ⟨w,u,hr,hp,hu,v.ok (by omega) (aTw hw)⟩);rcases aLc hr (by omega:s.book.length≠300)with ⟨hA,e,he⟩|⟨ha,hck,e⟩
   ·rw[e]at c21 ⊢
    by_cases hq:∃ t,w = .void t
    ·obtain⟨t,rfl⟩:=hq
     have h8:c%8=t∧(a%12=7→¬c<64)∧a%12≠11:=by
      unfold wN wQ at hw
      repeat' split at hw
      all_goals first
       | (injection hw with hw;injection hw with hw;exact⟨hw,by omega,by omega⟩)
       | (injection hw with hw;split at hw;cases hw;injection hw with hw;exact⟨hw,fun _=>by assumption,by omega⟩)
       | cases hw
     refine aLn ⟨hi,h25,ht,hb,hc,hd,rfl,c32,c21⟩ (hv.lg (xM h8.2.1 h8.2.2)) hA h8.1 (fun k hk=>?_) (by omega);rcases he with he|⟨e,he⟩;·cases he
     ·unfold dS at he
      dsimp only at he;rw[hk]at he;dsimp only at he;split at he;·exact .inl ‹_›
      ·split at he
       ·exact .inr ‹_›
       ·cases he
    ·have hv:isVd ⟨⟨wA a b c d⟩⟩ false:=by
      cases w with
      | void t=>exact absurd ⟨t,rfl⟩ hq
      | _=>exact hv
     exact aHY ⟨hi,h25,ht,hb,hc,hd,rfl,c32,c21⟩ hA hv
   ·rw[e]at c21 ⊢
    dsimp only at c21 ⊢;have void_ok:∀ t,w = .void t→c%8=t→(a%12=7→¬c<64)→a%12≠11→kU l i s.tickets.length { mY s w with book:=s.book++[(⟨⟨wA a b c d⟩⟩:ByteArray)] }.tickets.length (hS s) (hS { mY s w with book:=s.book++[(⟨⟨wA a b c d⟩⟩:ByteArray)] }):=by
     rintro t rfl h8 h7 h11;have hv:=hv.lg (xM (b:=b) (d:=d) h7 h11);unfold dS at hck;dsimp only at hck;cases hk:s.tickets[t]? with
     | none=>rw[hk]at hck;cases hck
     | some k =>
       rw[hk]at hck;dsimp only at hck;split at hck;·cases hck
       ·rename_i hvd
        split at hck;·cases hck
        ·rename_i hcl
         have es:mY s (.void t)={ s with tickets:=s.tickets.set t { k with void:=true },farmers:=eV s.farmers k.farmer (-k.net) }:=by
          unfold mY;dsimp only;rw[hk]
         rw[es]at c21 ⊢;have hvd:k.void=false:=by simpa using hvd
         obtain⟨⟨m2,hm2,hf⟩,k1,k2⟩:=v.tk (A8 hk);have g:=v.xn m2;show kU l i s.tickets.length (s.tickets.set t { k with void:=true }).length _ _;rw[C0];unfold hS;dsimp only;rw[C0];exact aOZ ⟨hi,h25,ht,hb,hc,hd,rfl,c32,c21⟩ hv h8 hk hvd hcl (by rw[hf,aQV hm2]) hm2 rfl (wr9 (by omega) (by omega)) (fun j hj=>aPC hm2 hj hk hf hvd) (by omega)
    have h12:a%12<12:=J4 _ (by decide);obtain⟨q,hq⟩:∃ q,a%12=q:=⟨_,rfl⟩;rw[hq]at hw h12;have far:q=0∨q=1→kU l i s.tickets.length { mY s w with book:=s.book++[(⟨⟨wA a b c d⟩⟩:ByteArray)] }.tickets.length (hS s) (hS { mY s w with book:=s.book++[(⟨⟨wA a b c d⟩⟩:ByteArray)] }):=fun h=>by
     have hw:w = .farmer (dX (b%4)):=by rcases h with rfl|rfl<;>exact(Option.some.inj hw).symm
     subst hw;exact aPc ⟨hi,h25,ht,hb,hc,hd,rfl,c32,c21⟩ (hv.lg (xM (by omega) (by omega))) (by omega)
    have wag:q=2∨q=3∨q=4∨q=5→kU l i s.tickets.length { mY s w with book:=s.book++[(⟨⟨wA a b c d⟩⟩:ByteArray)] }.tickets.length (hS s) (hS { mY s w with book:=s.book++[(⟨⟨wA a b c d⟩⟩:ByteArray)] }):=fun h=>by
     have hw:w = .wagon (wgF (c%3)) (dX (b%4)) ((4000+5*d+40*c:Nat):Int) ((4000+5*d:Nat):Int):=by rcases h with rfl|rfl|rfl|rfl<;>exact(Option.some.inj hw).symm
     subst hw;have g:=v.xn (b%4);have hn:((4000+5*d+40*c:Nat):Int)-((4000+5*d:Nat):Int)=40*(c:Int):=by omega
     show kU l i s.tickets.length (s.tickets++[CTk.mk (wgF (c%3)) (dX (b%4)) (((4000+5*d+40*c:Nat):Int)-((4000+5*d:Nat):Int)) false]).length _ _;rw[C2,J1];unfold hS;show kU _ _ _ _ _ (iF _ _ _ _ _ _ (s.tickets++[CTk.mk (wgF (c%3)) (dX (b%4)) (((4000+5*d+40*c:Nat):Int)-((4000+5*d:Nat):Int)) false]).length _);rw[C2,J1];refine aOY ⟨hi,h25,ht,hb,hc,hd,rfl,c32,c21⟩ (hv.lg (xM (by omega) (by omega))) (by omega) rfl (wr9 (by omega) (by omega)) (fun j hj=>?_) (aQV hm) hn rfl cl (by omega);rw[←hn];exact aSl hm hj rfl rfl
    have met:q=8∨q=9→kU l i s.tickets.length { mY s w with book:=s.book++[(⟨⟨wA a b c d⟩⟩:ByteArray)] }.tickets.length (hS s) (hS { mY s w with book:=s.book++[(⟨⟨wA a b c d⟩⟩:ByteArray)] }):=fun h=>by
     have hw:w = .meter (dX (b%4)) ((390*c:Nat):Int):=by rcases h with rfl|rfl<;>exact(Option.some.inj hw).symm
     subst hw;have g:=v.xm (b%4);have e:=fun j (hj:j<4)=>aSm (s:=s) (k:=((390*c:Nat):Int)) hm hj;refine aPb ⟨hi,h25,ht,hb,hc,hd,rfl,c32,c21⟩ (hv.lg (xM (by omega) (by omega))) (by omega) (by omega) (fun j hj=>?_) (fun j hj=>(e j hj).2.1) fun j hj=>(e j hj).1;refine(e j hj).2.2.trans ?_;by_cases hs:gS s (b%4)=true;·rw[if_pos hs,if_pos hs]
     ·rw[if_neg hs,if_neg hs]
      have:gU s (b%4)=0:=by
       unfold gS at hs;unfold gU;cases hv:cT s.meters (dX (b%4))with
       | none=>rfl
       | some y=>rw[hv]at hs;exact absurd rfl hs
      rw[this]
    rcases (by omega:q=0∨q=1∨q=2∨q=3∨q=4∨q=5∨q=6∨q=7∨q=8∨q=9∨q=10∨q=11)with rfl|rfl|rfl|rfl|rfl|rfl|rfl|rfl|rfl|rfl|rfl|rfl;·exact far (by omega)
    ·exact far (by omega)
    ·exact wag (by omega)
    ·exact wag (by omega)
    ·exact wag (by omega)
    ·exact wag (by omega)
    ·exact void_ok _ (Option.some.inj hw).symm rfl (by omega) (by omega)
    ·by_cases h64:c<64
     ·have hw:w = .close:=by
       have:=Option.some.inj hw;rw[if_pos h64]at this;exact this.symm
      subst hw;have e1:(⟨⟨wA a b c d⟩⟩:ByteArray)=AAu:=by unfold wA;rw[hq];simp only[if_pos h64]
      unfold dS at hck;dsimp only at hck;split at hck
      ·rename_i hcl
       exact aPd ⟨hi,h25,ht,hb,hc,hd,rfl,c32,c21⟩ (by rw[e1];decide) hq hcl (by omega)
      ·cases hck
     ·have hw:w = .void (c%8):=by
       have:=Option.some.inj hw;rw[if_neg h64]at this;exact this.symm
      exact void_ok _ hw rfl (fun _=>h64) (by omega)
    ·exact met (by omega)
    ·exact met (by omega)
    ·have hw:w = .pan (dX (b%4)) ((10+c:Nat):Int) (d:Int):=(Option.some.inj hw).symm
     subst hw;have g:=v.xp (b%4);refine aPa ⟨hi,h25,ht,hb,hc,hd,rfl,c32,c21⟩ (hv.lg (xM (by omega) (by omega))) (by omega) rfl (wr9 (by omega) (by omega)) fun j hj=>?_;refine(aSk hm hj).trans ?_;by_cases ej:j=b%4;·rw[if_pos ej,if_pos ej];omega
     ·rw[if_neg ej,if_neg ej]
    ·exfalso
     change wQ (b%4) c=some w at hw;unfold wQ at hw
     repeat' split at hw
     all_goals cases hw
     all_goals cases ha
variable{l:List Nt}{s:dD}{i n m f:Nat}{w:Wd}{L A:ByteArray}
abbrev no5:ByteArray:=⟨⟨[110,111,32,53]⟩⟩
theorem aFC(v:Int):tG v≠no5:=fun e=>by
 have h:Lib.itoa v=[110,111,32,53]:=AAq (fun b:ByteArray=>b.data.toList) e;have:=aIw v 110 (by rw[h];simp);revert this;decide
theorem aSG{v:Int}(h0:0≤v)(h1:v<100000000):runW progG 33 [I v] []=some (.str (tG v),[]):=by
 obtain⟨k,rfl⟩:∃ k:Nat,v=k:=⟨v.toNat,by omega⟩;rw[aPr];have h:=(g33 8 k (by omega) (by omega) (by omega)).2;rw[aBH 8 k (by omega) (by omega)]at h;exact h
theorem aHX(v:Inv s n)(hn:n<100)(hr:Rd L (some w))(ha:w.asks=true):runW progG 21 [.pt 0 0,.str L] [gK s]=some (.str (match wT aCt s w with | .inl e=>noA e | .inr a=>a),[gK s]):=by
 obtain⟨hr,u,hp,hu⟩:=hr;rw[g21 s L (.inr ⟨w,u,hr,hp,hu,v.ok hn fun x y a b e=>by subst e;cases ha⟩)];unfold sayA;rw[hr];unfold aAp;simp only[if_pos ha];cases wT aCt s w<;>rfl
structure aNE(A:ByteArray)(v:Int)(q r:Bool):Prop where
 ne:aP .neq A ⟨#[110,111,32,53]⟩=some (.bool q)
 eq:aP .eql A ⟨#[110,111,32,53]⟩=some (.bool !q)
 dg:runW progG 33 [I v] []=some (.str (tG v),[])
 d2:aP .neq A (tG v)=some (.bool r)

theorem aEg{v:Int}(h0:0≤v)(h1:v<100000000):∃ r,aNE (noA 5) v false r:=⟨_,by kernel_rfl,by kernel_rfl,aSG h0 h1,uY _ _⟩
theorem aBd{v:Int}(h0:0≤v)(h1:v<100000000):aNE (tG v) v true false:=by
 refine⟨?_,?_,aSG h0 h1,?_⟩;·rw[uY];congr 2;rw[AAl (aFC v)];rfl
 ·rw[oT];congr 2;exact AAl (aFC v)
 ·rw[uY,AAk rfl];rfl
theorem aHO(gs:fD s){x:ByteArray}(h:cT s.farmers x=none):iQ s.tickets x=0:=xA fun k hk e=>by
 obtain⟨_,_,hf,_⟩:=gs.bt k hk;rw[e]at hf;exact iM.1 (dZ.1 h) hf
theorem aVa(v:Inv s n)(hn:n<100)(hm:m<4):∃ A q r,runW progG 21 [.pt 0 0,.str ⟨⟨[110,101,116,32]++[UInt8.ofNat (97+m)]⟩⟩] [gK s]=some (.str A,[gK s])∧aNE A (gN s m) q r∧(q=true∧r=false∨q=false∧gN s m=0):=by
 have h:=aHX v hn (aLD hm) rfl;have b:=v.xn m;unfold wT at h;dsimp only at h;cases hv:cT s.farmers (dX m)with
 | none =>
   rw[hv]at h;obtain⟨r,p⟩:=aEg (v:=gN s m) (by omega) (by omega);exact⟨_,_,_,h,p,.inr ⟨rfl,aHO v.gs hv⟩⟩
 | some y =>
   rw[hv]at h;have:y=gN s m:=v.gs.fs _ (aDD hv);subst this;exact⟨_,_,_,h,aBd (by omega) (by omega),.inl ⟨rfl,rfl⟩⟩
theorem aRM(v:Inv s n)(hn:n<100)(hm:m<4):∃ A q r,runW progG 21 [.pt 0 0,.str ⟨⟨[117,115,101,100,32]++[UInt8.ofNat (97+m)]⟩⟩] [gK s]=some (.str A,[gK s])∧aNE A (gU s m) q r∧(q=true∧r=false∨q=false∧gS s m=false):=by
 have h:=aHX v hn (aIb hm) rfl;have b:=v.xm m;unfold wT at h;dsimp only at h;cases hv:cT s.meters (dX m)with
 | none =>
   rw[hv]at h;obtain⟨r,p⟩:=aEg (v:=gU s m) (by omega) (by omega);exact⟨_,_,_,h,p,.inr ⟨rfl,by unfold gS;rw[hv];rfl⟩⟩
 | some y =>
   rw[hv]at h;have:y.2=gU s m:=by unfold gU;rw[hv];rfl
   dsimp only at h;rw[this]at h;exact⟨_,_,_,h,aBd (by omega) (by omega),.inl ⟨rfl,rfl⟩⟩
theorem aRN(v:Inv s n)(hn:n<100)(hm:m<4):∃ A q r,runW progG 21 [.pt 0 0,.str ⟨⟨[108,111,115,115,32]++[UInt8.ofNat (97+m)]⟩⟩] [gK s]=some (.str A,[gK s])∧aNE A (gP s m) q r∧(q=true∧r=false∨q=false∧gP s m=0):=by
 have h:=aHX v hn (aId hm) rfl;have b:=v.xp m;unfold wT at h;dsimp only at h;cases hv:cT s.pans (dX m)with
 | none =>
   rw[hv]at h;obtain⟨r,p⟩:=aEg (v:=gP s m) (by omega) (by omega);exact⟨_,_,_,h,p,.inr ⟨rfl,by unfold gP;rw[hv];rfl⟩⟩
 | some y =>
   rw[hv]at h;have:y=gP s m:=by unfold gP;rw[hv];rfl
   subst this;exact⟨_,_,_,h,aBd (by omega) (by omega),.inl ⟨rfl,rfl⟩⟩
theorem aZc{k x:ByteArray}{r:List ByteArray}:(dE (k::r) x).isSome=(decide (k=x)||(dE r x).isSome):=by
 show (if k=x then some 0 else (dE r x).map (· + 1)).isSome=_;by_cases h:k=x;·rw[if_pos h,AAk h];rfl
 ·rw[if_neg h,AAl h,Option.isSome_map];rfl
def aBW(l:List ByteArray)(tk:List CTk)(m:Nat):Int:=if (dE l (dX m)).isSome=true then iQ tk (dX m) else 0
theorem aKF:∀{l:List (ByteArray×Int)}{tk:List CTk},(l.map (·.1)).Nodup→(∀ p∈l,Nm p.1∧p.2=iQ tk p.1) →
 (l.map (·.2)).sum=aBW (l.map (·.1)) tk 0+aBW (l.map (·.1)) tk 1+aBW (l.map (·.1)) tk 2+aBW (l.map (·.1)) tk 3
 | [],_,_,_=>rfl
 | p::r,tk,nd,h=>by
   rw[C4,G1]at nd;have ih:=aKF (l:=r) (tk:=tk) nd.2 fun q hq=>h q (by simp[hq]);obtain⟨⟨m,hm,e⟩,e2⟩:=h p (by simp);have nm:(dE (r.map (·.1)) (dX m)).isSome=false:=by rw[iM.2 (by rw[←e];exact nd.1)];rfl
   have nj:∀ j,j<4→aBW (dX m::r.map (·.1)) tk j=if j=m then iQ tk (dX m) else aBW (r.map (·.1)) tk j:=fun j hj=>by
    unfold aBW;rw[aZc];by_cases ej:j=m;·rw[if_pos ej,ej,AAk rfl,Bool.true_or,if_pos rfl]
    ·rw[if_neg ej,AAl fun q=>ej (aIr j hj m hm q.symm),aG0]
   have n0:aBW (r.map (·.1)) tk m=0:=by unfold aBW;rw[nm];rfl
   rw[C4,J7,ih,e2,C4,e,nj 0 (by omega),nj 1 (by omega),nj 2 (by omega),nj 3 (by omega)];rcases (by omega:m=0∨m=1∨m=2∨m=3)with rfl|rfl|rfl|rfl
   all_goals
    rw[n0];simp;try omega
theorem aOB(v:Inv s n):aAg s=gN s 0+gN s 1+gN s 2+gN s 3:=by
 unfold aAg;rw[aKF v.gs.nf fun p hp=>⟨v.nf p hp,v.gs.fs p hp⟩];have h:∀ m,aBW (s.farmers.map (·.1)) s.tickets m=gN s m:=fun m=>by
  unfold aBW;split;·rfl
  ·rename_i hm
   refine(aHO v.gs (dZ.2 ?_)).symm;cases hx:dE (s.farmers.map (·.1)) (dX m)with
   | none=>rfl
   | some y=>rw[hx]at hm;exact absurd rfl hm
 rw[h,h,h,h]
def lH(s:dD):Nat→Int
 | 0=>0
 | f+1=>lH s f+gN s f
theorem aDG(v:Inv s n):∀ f,0≤lH s f∧lH s f≤99999*(n:Int)*f
 | 0=>by simp[lH]
 | f+1=>by
   have ih:=aDG v f;have h:=v.xn f;have e:99999*(n:Int)*((f+1:Nat):Int)=99999*(n:Int)*f+99999*(n:Int):=by
    push_cast;rw[Int.mul_add,Int.mul_one]
   unfold lH;rw[e];omega
abbrev c10:XCode:=match aAa with | .loop _ a=>a|c=>c
noncomputable abbrev e10f(s:dD)(f:Nat):List AV:=[.pt 0 0,.pt 1 0,.pt 2 0,.pt 3 0,I (lH s f),.agg (mP (gN s)),I (f:Nat)]
noncomputable abbrev h10f(s:dD):XH:=[gK s,bI (gU s),bI (gP s),some (.blk true (.cells true (pN (gS s))))]
theorem aWI(hf:f<4):Option.map (fun l=>AV.str { data:={ toList:=l } }) (gQ [.int .u8 ((97+f:Nat):Int)])=some (.str ⟨⟨[UInt8.ofNat (97+f)]⟩⟩):=aHF (by omega)
theorem aWD(v:Inv s n)(hn:n≤25)(hf:f<4):dL 0 [3,5,6,8,19,203,204] (execW progG 10 0 none c10 (bW [3,5,6,8,19,203,204] (e10f s f)) (h10f s))=some (e10f s (f+1),h10f s):=by
 obtain⟨A1,q1,r1,c1,⟨p1,p2,p3,p4⟩,z1⟩:=aVa v (by omega) hf;obtain⟨A2,q2,r2,c2,⟨p5,p6,p7,p8⟩,z2⟩:=aRM v (by omega) hf;obtain⟨A3,q3,r3,c3,⟨p9,pa,pb,pc⟩,z3⟩:=aRN v (by omega) hf;have b0:=aDG v f;have b1:=v.xn f;have m1:=lN (g:=gN s) hf;have m2:=lN (g:=gU s) hf;have m3:=lN (g:=gP s) hf;have m4:=aIN (g:=gS s) hf;have t4:((f:Int)<4)=True:=AAa;have w1:IntKind.i64.wrap (97+(f:Int))=((97+f:Nat):Int):=by rw[aJ (by omega) (by omega)];omega
 have w2:=aDB (c:=97+f) (by omega);have w3:=aWI hf;have w4:=pP (i:=f) (n:=4) (by omega) (by omega);have b2:99999*(n:Int)*f≤99999*25*4:=by
  have h1:(n:Int)*f≤25*4:=Int.mul_le_mul (by omega) (by omega) (by omega) (by omega);rw[Int.mul_assoc];omega
 have w5:IntKind.i64.wrap (lH s f+gN s f)=lH s (f+1):=aJ (n:=lH s f+gN s f) (by omega) (by omega);have s1:=lB (a:=[110,101,116,32]) (b:=[UInt8.ofNat (97+f)]) (by simp);have s2:=lB (a:=[117,115,101,100,32]) (b:=[UInt8.ofNat (97+f)]) (by simp);have s3:=lB (a:=[108,111,115,115,32]) (b:=[UInt8.ofNat (97+f)]) (by simp);unfold e10f h10f c10 aAa;generalize lH s (f+1)=u2 at *;generalize lH s f=u1 at *;generalize [110,101,116,32]++[UInt8.ofNat (97+f)]=L1 at *;generalize [117,115,101,100,32]++[UInt8.ofNat (97+f)]=L2 at *;generalize [108,111,115,115,32]++[UInt8.ofNat (97+f)]=L3 at *;generalize [UInt8.ofNat (97+f)]=L0 at *;unfold gK at *;generalize IsClk s=P at *;generalize gN s f=y1 at *;generalize gU s f=y2 at *;generalize gP s f=y3 at *;generalize gS s f=y4 at *;dsimp only;rcases z1 with ⟨rfl,rfl⟩|⟨rfl,rfl⟩;all_goals rcases z2 with ⟨rfl,rfl⟩|⟨rfl,rfl⟩
 all_goals rcases z3 with ⟨rfl,rfl⟩|⟨rfl,rfl⟩
 all_goals (sym=>(simp[fH,fI,lI,Za,Zb,Zd,Ze,Zf,Zg,Zh,Zj,Zl,Zm,Zo,Zp,Zq,Zr,Zs,Zv,Zy,Z8,ZA,ZF,ZH,ZJ,ZW,Yf,Yi,Yn,Yo,Yp,Yq,Yu,Y9,YH,YJ,YO,YP,Xe,Xj,Xv,Xy,XI,XJ,XO,We,Wr,Wu,Wv,Wz,WQ,Vm,Vt,VA,VB,VC,VD,VE,VF,VG,VH,VK,VL,VM,VN,VO,VQ,VR,VS,VT,VU,VV,VW,VX,VY,VZ,Ua,Ub,Uc,Ue,Uf,Uk,Un,Uo,Ur,Us,U1,U3,U4,U5,UW,UX,UY,UZ,Ta,Tb,Tf,Tg,Th,Ti,Tj,Tm,Tn,Tp,Ts,Tu,Tx,Ty,TB,TE,TF,TH,TI,TJ,TK,TL,TM,TN,TO,TP,TW,TX,TY,TZ,Sj,Sk,Sl,Sm,Sr,Ss,Sz,S2,S6,SB,SG,SI,SJ,SL,SN,SO,SS,SW,SX,SY,R0,RA,RC,RK,Qr,QH,QI,QK,QL,QM,QN,Pe,Pf,Pg,Pj,Pk,Pl,Pm,Po,Pp,c1,c2,c3,p1,p2,p3,p4,p5,p6,p7,p8,p9,pa,pb,pc,m1,m2,m3,m4,t4,w1,w2,w3,w4,w5,s1,s2,s3,aZ,aY,aW,aX,bE,bD,bB,bC];all_goals tactic=>exact rfl))
theorem bAV{vs:List AV}{h:XH}(hl:vs.length≤x10.N):runW progG 10 vs h=qA none x10.res x10.ownR h.length (execW progG 10 h.length none x10.body (bM (if x10.ownA then vs else qD vs)) h):=vM rfl hl h rfl
theorem zX(g:Nat→Int):List.take 4 (List.drop 0 (mP g))=mP g:=rfl
theorem w10{l:List Nt}(hb:Nt8 l):runW progG 10 [.fs (rNt l)] []=some (.bool true,[]):=by
 have c0:=g19;have rl:=lJ l;have inv:=fun i (hi:i≤25)=>aHT hb i (by omega);have zG:hS (stN l 0)=[gK pZ,some (.blk true (.cells true [I 0,I 0,I 0,I 0])),some (.blk true (.cells true [I 0,I 0,I 0,I 0])),some (.blk true (.cells true [I 0,I 0,I 0,I 0])),some (.blk true (.cells true [I 0,I 0,I 0,I 0])),some (.blk true (.cells true [.bool false,.bool false,.bool false,.bool false]))]:=rfl;obtain⟨N,hN⟩:∃ N,N=min 25 l.length:=⟨_,rfl⟩;have o1:∀ i,i<N→dL 0 [0,3,4,5,6,7,8,9,10] (execW progG 10 0 none b10 (bW [0,3,4,5,6,7,8,9,10] (qG l (stN l i).tickets.length i)) (hS (stN l i)))=some (qG l (stN l (i+1)).tickets.length (i+1),hS (stN l (i+1))):=fun i hi=>by
  obtain⟨⟨a,b,c,d⟩,ht⟩:∃ t,l[i]?=some t:=⟨_,A7 (by omega)⟩;obtain⟨_,h2,h3,h4⟩:=hb _ (A8 ht);have e:stN l (i+1)=(sayA (stN l i) ⟨⟨wA a b c d⟩⟩).2:=by
   show (match l[i]? with|none=>stN l i|some (a,b,c,d)=>(sayA (stN l i) ⟨⟨wA a b c d⟩⟩).2)=_;rw[ht]
  rw[e];exact aPg (inv i (by omega)) (by omega) (by omega) ht h2 h3 h4
 have ex:((N:Int)<(l.length:Int))=False∨((N:Int)<(l.length:Int))=True∧((N:Int)<25)=False:=by
  by_cases h:N<l.length;·exact .inr ⟨AAa,AAb⟩
  ·exact .inl (AAb)
 have v:=inv N (by omega);have o2:=fun i (hi:i<4)=>aWD v (by omega) hi;have ct:=aHX v (by omega) aFr rfl;have e4:lH (stN l N) 4=aAg (stN l N):=by
  rw[aOB v];simp[lH]
 have b4:=aDG v 4;have c33:=aSG (v:=lH (stN l N) 4) b4.1 (by omega);change runW progG 21 [.pt 0 0,.str AAy] [gK (stN l N)]=some (.str (tG (aAg (stN l N))),[gK (stN l N)])at ct;rw[←e4]at ct;have te:=oT (tG (lH (stN l N) 4)) (tG (lH (stN l N) 4));rw[AAk rfl]at te;have e5:((4:Int)<4)=False:=AAb;rw[bAV (by simp[x10])];unfold x10;dsimp only;sym =>
  simp[fH,fI,lI,Za,Zb,Zf,Zg,Zh,Zj,Zl,Zm,Zp,Zq,Zs,Zv,Zw,Zy,ZA,ZS,ZW,Yf,Yi,Yn,Yo,Yp,Yq,Yx,YJ,Xe,Xy,Xz,XI,XJ,XM,XO,XX,We,Wf,Wr,Wt,Wu,Wv,Wx,Wz,WC,WK,WQ,Vg,Vk,Vm,VA,VB,VC,VD,VG,VH,VI,VK,VL,VM,VN,VO,VP,VQ,VR,VS,VT,VU,VV,VW,VX,VY,VZ,Ua,Ub,Uc,Ue,Uf,Uk,Un,Uo,Ur,Us,U1,U3,U4,U5,UG,UH,UJ,UK,UL,UM,UN,UQ,UR,US,UT,UV,UW,UX,UY,UZ,Tb,Tc,Te,Tf,Tg,Th,Ti,Tj,Tm,Tn,Tp,Ts,Tu,TE,TF,TG,TJ,TK,TL,TM,TN,TO,TP,TU,TV,Sz,S2,S5,SG,SI,SJ,SK,SM,SN,SO,SP,SV,SW,SX,SY,RC,Qr,QH,QI,QK,QL,QM,QN,Pj,Pk,Pl,Pm,Po,Pp,c0]
  tactic =>
   unfold nN;rw[cS N (fun i=>qG l (stN l i).tickets.length i) (fun i=>hS (stN l i))]
   ·generalize hst:stN l N=s at *
    clear o1 zG inv;unfold qG hS iF uW;by_cases h0:s.tickets.length=0
    ·simp only[if_pos h0]
     rcases ex with ex|⟨ex,ex2⟩
     ·sym =>
       simp[fH,fI,lI,Za,Zb,Zf,Zg,Zh,Zj,Zl,Zm,Zp,Zq,Zs,Zv,Zw,Zy,ZA,ZS,ZW,Yf,Yi,Yn,Yo,Yp,Yq,Yx,YJ,Xe,Xy,Xz,XI,XJ,XM,XO,XX,We,Wf,Wr,Wt,Wu,Wv,Wx,Wz,WC,WK,WQ,Vg,Vk,Vm,VA,VB,VC,VD,VG,VH,VI,VK,VL,VM,VN,VO,VP,VQ,VR,VS,VT,VU,VV,VW,VX,VY,VZ,Ua,Ub,Uc,Ue,Uf,Uk,Un,Uo,Ur,Us,U1,U3,U4,U5,UG,UH,UJ,UK,UL,UM,UN,UQ,UR,US,UT,UV,UW,UX,UY,UZ,Tb,Tc,Te,Tf,Tg,Th,Ti,Tj,Tm,Tn,Tp,Ts,Tu,TE,TF,TG,TJ,TK,TL,TM,TN,TO,TP,TU,TV,Sz,S2,S5,SG,SI,SJ,SK,SM,SN,SO,SP,SV,SW,SX,SY,RC,Qr,QH,QI,QK,QL,QM,QN,Pj,Pk,Pl,Pm,Po,Pp,rl,ex,cR,zX,aZ,aY,aW,aX,bE,bD,bB,bC]
       tactic =>
        unfold aAa;rw[cS 4 (fun f=>e10f s f) (fun _=>h10f s)]
        ·unfold e10f h10f
         generalize lH s 4=u at *;(exact xW e5 ct c33 te g13 aZ aY aW aX bE bD bB bC)
        ·unfold e10f h10f
         rw[show lH s 0=0 from rfl,show ((0:Nat):Int)=0 from rfl];(exact RT9 aZ aY aW aX cR bE bD bB bC)
        ·exact o2
        ·unfold e10f h10f
         (exact RT1 e5)
     ·sym =>
       simp[fH,fI,lI,Za,Zb,Zf,Zg,Zh,Zj,Zl,Zm,Zp,Zq,Zs,Zv,Zw,Zy,ZA,ZS,ZW,Yf,Yi,Yn,Yo,Yp,Yq,Yx,YJ,Xe,Xy,Xz,XI,XJ,XM,XO,XX,We,Wf,Wr,Wt,Wu,Wv,Wx,Wz,WC,WK,WQ,Vg,Vk,Vm,VA,VB,VC,VD,VG,VH,VI,VK,VL,VM,VN,VO,VP,VQ,VR,VS,VT,VU,VV,VW,VX,VY,VZ,Ua,Ub,Uc,Ue,Uf,Uk,Un,Uo,Ur,Us,U1,U3,U4,U5,UG,UH,UJ,UK,UL,UM,UN,UQ,UR,US,UT,UV,UW,UX,UY,UZ,Tb,Tc,Te,Tf,Tg,Th,Ti,Tj,Tm,Tn,Tp,Ts,Tu,TE,TF,TG,TJ,TK,TL,TM,TN,TO,TP,TU,TV,Sz,S2,S5,SG,SI,SJ,SK,SM,SN,SO,SP,SV,SW,SX,SY,RC,Qr,QH,QI,QK,QL,QM,QN,Pj,Pk,Pl,Pm,Po,Pp,rl,ex,ex2,cR,zX,aZ,aY,aW,aX,bE,bD,bB,bC]
       tactic =>
        unfold aAa;rw[cS 4 (fun f=>e10f s f) (fun _=>h10f s)]
        ·unfold e10f h10f
         generalize lH s 4=u at *;(exact xW e5 ct c33 te g13 aZ aY aW aX bE bD bB bC)
        ·unfold e10f h10f
         rw[show lH s 0=0 from rfl,show ((0:Nat):Int)=0 from rfl];(exact RT9 aZ aY aW aX cR bE bD bB bC)
        ·exact o2
        ·unfold e10f h10f
         (exact RT1 e5)
    ·simp only[if_neg h0]
     rcases ex with ex|⟨ex,ex2⟩
     ·sym =>
       simp[fH,fI,lI,Za,Zb,Zf,Zg,Zh,Zj,Zl,Zm,Zp,Zq,Zs,Zv,Zw,Zy,ZA,ZS,ZW,Yf,Yi,Yn,Yo,Yp,Yq,Yx,YJ,Xe,Xy,Xz,XI,XJ,XM,XO,XX,We,Wf,Wr,Wt,Wu,Wv,Wx,Wz,WC,WK,WQ,Vg,Vk,Vm,VA,VB,VC,VD,VG,VH,VI,VK,VL,VM,VN,VO,VP,VQ,VR,VS,VT,VU,VV,VW,VX,VY,VZ,Ua,Ub,Uc,Ue,Uf,Uk,Un,Uo,Ur,Us,U1,U3,U4,U5,UG,UH,UJ,UK,UL,UM,UN,UQ,UR,US,UT,UV,UW,UX,UY,UZ,Tb,Tc,Te,Tf,Tg,Th,Ti,Tj,Tm,Tn,Tp,Ts,Tu,TE,TF,TG,TJ,TK,TL,TM,TN,TO,TP,TU,TV,Sz,S2,S5,SG,SI,SJ,SK,SM,SN,SO,SP,SV,SW,SX,SY,RC,Qr,QH,QI,QK,QL,QM,QN,Pj,Pk,Pl,Pm,Po,Pp,rl,ex,cR,zX,aZ,aY,aW,aX,bE,bD,bB,bC]
       tactic =>
        unfold aAa;rw[cS 4 (fun f=>e10f s f) (fun _=>h10f s)]
        ·unfold e10f h10f
         generalize lH s 4=u at *;(exact xW e5 ct c33 te g13 aZ aY aW aX bE bD bB bC)
        ·unfold e10f h10f
         rw[show lH s 0=0 from rfl,show ((0:Nat):Int)=0 from rfl];(exact RT9 aZ aY aW aX cR bE bD bB bC)
        ·exact o2
        ·unfold e10f h10f
         (exact RT1 e5)
     ·sym =>
       simp[fH,fI,lI,Za,Zb,Zf,Zg,Zh,Zj,Zl,Zm,Zp,Zq,Zs,Zv,Zw,Zy,ZA,ZS,ZW,Yf,Yi,Yn,Yo,Yp,Yq,Yx,YJ,Xe,Xy,Xz,XI,XJ,XM,XO,XX,We,Wf,Wr,Wt,Wu,Wv,Wx,Wz,WC,WK,WQ,Vg,Vk,Vm,VA,VB,VC,VD,VG,VH,VI,VK,VL,VM,VN,VO,VP,VQ,VR,VS,VT,VU,VV,VW,VX,VY,VZ,Ua,Ub,Uc,Ue,Uf,Uk,Un,Uo,Ur,Us,U1,U3,U4,U5,UG,UH,UJ,UK,UL,UM,UN,UQ,UR,US,UT,UV,UW,UX,UY,UZ,Tb,Tc,Te,Tf,Tg,Th,Ti,Tj,Tm,Tn,Tp,Ts,Tu,TE,TF,TG,TJ,TK,TL,TM,TN,TO,TP,TU,TV,Sz,S2,S5,SG,SI,SJ,SK,SM,SN,SO,SP,SV,SW,SX,SY,RC,Qr,QH,QI,QK,QL,QM,QN,Pj,Pk,Pl,Pm,Po,Pp,rl,ex,ex2,cR,zX,aZ,aY,aW,aX,bE,bD,bB,bC]
       tactic =>
        unfold aAa;rw[cS 4 (fun f=>e10f s f) (fun _=>h10f s)]
        ·unfold e10f h10f
         generalize lH s 4=u at *;(exact xW e5 ct c33 te g13 aZ aY aW aX bE bD bB bC)
        ·unfold e10f h10f
         rw[show lH s 0=0 from rfl,show ((0:Nat):Int)=0 from rfl];(exact RT9 aZ aY aW aX cR bE bD bB bC)
        ·exact o2
        ·unfold e10f h10f
         (exact RT1 e5)
   ·unfold qG
    rw[show uW (stN l 0).tickets.length = .nilsl from rfl,show ((0:Nat):Int)=0 from rfl,zG];(exact RT0)
   ·exact o1
   ·generalize stN l N=s at *
    unfold qG hS iF uW;by_cases h0:s.tickets.length=0
    ·simp only[if_pos h0]
     rcases ex with ex|⟨ex,ex2⟩;·(exact RT2 rl ex)
     ·(exact RT3 rl ex ex2)
    ·simp only[if_neg h0]
     rcases ex with ex|⟨ex,ex2⟩;·(exact RT2 rl ex)
     ·(exact RT3 rl ex ex2)
end Go.Proofs.YtmapgnepfgnphaaGreatDoor
