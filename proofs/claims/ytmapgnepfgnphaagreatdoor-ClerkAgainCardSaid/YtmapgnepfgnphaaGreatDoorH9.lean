/- Parts of a proof, joined: Q22 Y2 Q23 U2 U3 U4 Q24 Q25 Q26 Q27 Q28 Q29 Q30 Q31 Q32 U5 Q33 Q34 Q35 Q36 Q37 Q38 Q39 Q40 Q41 Q42 Q43 R1 R2 R3 R4 R5 R6 R7 R8 R9 R10 R11 N0 N1 N2. No statement of the seed is proved here. -/
import Derived.Lib.AtoiAllCases
import Derived.KernelRfl
import Derived.Test.YtmapgnepfgnphaaGreatDoorH8
set_option linter.unusedSimpArgs false
set_option linter.unusedVariables false
set_option linter.unusedSectionVars false
set_option maxRecDepth 100000
set_option maxHeartbeats 4000000
namespace Go.Proofs.YtmapgnepfgnphaaGreatDoor
section
open Go Go.DL
variable{h h' h1:XH}{L:CL}{s:dR}{x:ByteArray}{w:Wd}{v:AV}
theorem bR{h k:XH}(i:Nat){g:Bool}{c:ABlk}(hk:k[i]?=some (some (.blk g c))):aG (h++k) (h.length+i)=some c:=by
 rw[fY,if_neg AM,show h.length+i-h.length=i by omega];unfold aG hat;rw[A1,hk];rfl
theorem xU(ly:Lays h L s){bs:List Nat}(hb:∀ b∈bs,h.length≤b):Out L s bs:=fun b hm hp=>by
 obtain⟨j,hj⟩:=bB.1 hp;have:=ly.lt j b hj;have:=hb b hm;omega
theorem aYk{h k:XH}(i:Nat){c:XB}(hk:k[i]?=some (some c)):(hat (h++k) (h.length+i)).isSome=true:=by
 rw[aTZ];unfold hat;rw[A1,hk];rfl
theorem tO{h k k2:XH}(i:Nat){c:XB}(hk:k[i]?=some (some c)):(hat ((h++k)++k2) (h.length+i)).isSome=true:=by
 rw[M7];exact aYk i (c:=c) (by rw[F9 (A2.1 hk).1];exact hk)
abbrev aRM(g:Nat):Prop:=g=88∨g=92∨g=128∨g=130∨g=132∨g=135
def vJ(h:XH)(L:CL)(s:dR)(v:AV)(s':dR):Prop:=∃(g:Nat)(caps:List AV)(h1:XH),runW aB 61 [.pt L.c 0,v] h=some (.fn (.func g) [] caps,h1)∧aRM g∧Fr [] h h1 ∧
 ∃ h2 L2,runW aB g caps h1=some (.tup [],h2)∧Lays h2 L2 s'∧L2.c=L.c∧Fr (tW L s) h1 h2∧Sb h1.length L s L2 s'
theorem aIE{x:ByteArray}(ly:Lays h L s)(gs:gG s)(hw:IsW (.farmer x) v)(hc:eO s (.farmer x)=none):vJ h L s v (uJ s (.farmer x)):=by
 have lbk:=gs.book;obtain⟨z0,rfl⟩:=hw;unfold eO at hc;dsimp only at hc;split at hc;·cases hc
 ·rename_i hs
  split at hc;·cases hc
  ·rename_i h9
   have hx:=fG.1 (aCl hs);have ly1:=ly.ext [some (.blk false (.cells true [.pt L.c 0])),some (.blk true (.cells true [.str AAu,.fs [[.str x]],.fs [[I z0]]]))];obtain⟨h2,L2,q1,q2,q3,q4,q5⟩:=w88 ly1 (b0:=h.length+0) (b1:=h.length+1) (xU ly (by intro b hb;simp at hb;omega)) (bR 0 rfl) (bR 1 rfl) hx (by have:=gs.lf;omega);exact⟨88,_,_,aKq ly hx h9,by decide,Fr.app h _,h2,L2,q1,q2,q3,q4,q5⟩
theorem aLj{x y:ByteArray}{a b:Int}(ly:Lays h L s)(gs:gG s)(hw:IsW (.wagon x y a b) v)(hc:eO s (.wagon x y a b)=none):vJ h L s v (uJ s (.wagon x y a b)):=by
 have lbk:=gs.book;obtain⟨hb,u1,u2,z0,z1,rfl⟩:=hw;have ly2:=ly.ext [some (.blk false (.cells true [.pt L.c 0])),some (.blk true (.cells true [.str AAv,.fs [[.str x],[.str u1],[.str u2],[.str y]],.fs [[I z0],[I a],[I b],[I z1]]]))];unfold eO at hc;dsimp only at hc;split at hc;·cases hc
 ·rename_i f hf
  obtain⟨j,hj,hjf⟩:=eI hf;split at hc;·cases hc
  ·rename_i hle
   have hle:=aA7.1 hle;have hww:∀ i q,dY (s.wagons.map (·.1)) x=some i→(s.wagons.map (·.2))[i]?=some q→q-500≤b∧b≤q+500:=by
    intro i q hi hq;have:iD s.wagons x=some q:=by
     unfold iD;rw[hi,E7];rw[A6]at hq;exact hq
    rw[this]at hc;dsimp only at hc;split at hc;·rename_i hne;exact hne
    ·cases hc
   obtain⟨fe,hfe,q0⟩:=w90 (f:=AAv) (name:=x) (t1:=u1) (t2:=u2) (z:=z0) (z2:=z1) ly2 hj hle hww gs.bw;have ly3:=ly2.ext (jX L.c AAv x u1 u2 y z0 a b z1 [some (.blk false (.cells true [.pt fe 0]))]);have hfb:=gs.bf _ (A5 hjf);simp only at hfb;obtain⟨h2,L2,q1,q2,q3,q4,q5⟩:=aZl (j:=j) (fe:=fe) (v:=f) (name:=x) (owner:=y) (full:=a) (empty:=b) ly3 (xU ly2 (by intro b hb;simp only[B6,C8,J3,B3,G6,AAi]at hb ⊢;omega)) (bR 0 rfl) (bR 2 rfl) (bR 4 rfl) (bR 6 rfl) (bR 3 rfl) (bR 5 rfl) hfe hj hjf AM (by have:=gs.lw;omega) (by have:=gs.lt;omega);exact⟨128,_,_,aLO q0 (tO 0 rfl) (tO 1 rfl),by decide,(Fr.app h _).add _,h2,L2,q1,q2,q3,q4,q5⟩
theorem aRx{x:ByteArray}{a b:Int}(ly:Lays h L s)(gs:gG s)(hw:IsW (.pan x a b) v)(hc:eO s (.pan x a b)=none):vJ h L s v (uJ s (.pan x a b)):=by
 have lbk:=gs.book;obtain⟨hb,u1,u2,z0,rfl⟩:=hw;have ly2:=ly.ext [some (.blk false (.cells true [.pt L.c 0])),some (.blk true (.cells true [.str AAz,.fs [[.str x],[.str u1],[.str u2]],.fs [[I z0],[I a],[I b]]]))];unfold eO at hc;dsimp only at hc;split at hc;·cases hc
 ·rename_i hle
  have hle:=aA7.1 hle;split at hc;·cases hc
  ·rename_i hn
   have ly3:=ly2.ext (wK L.c x a b);obtain⟨h2,L2,q1,q2,q3,q4,q5⟩:=aZi ly3 (b0:=_+0) (b1:=_+1) (b2:=_+2) (b3:=_+3) (a:=a) (b:=b) (x:=x) (xU ly2 (by intro b hb;simp only[B6,C8,J3,B3,G6,AAi]at hb ⊢;omega)) (bR 0 rfl) (bR 1 rfl) (bR 2 rfl) (bR 3 rfl) AM (fun p hp=>by have:=gs.bp p hp;omega) (by have:=gs.lp;omega);exact⟨135,_,_,aST (w94 ly2 hle (aJK hn)) (tO 0 rfl) (tO 1 rfl),by decide,(Fr.app h _).add _,h2,L2,q1,q2,q3,q4,q5⟩
theorem aOC{i:Nat}(ly:Lays h L s)(gs:gG s)(hw:IsW (.void i) v)(hc:eO s (.void i)=none):vJ h L s v (uJ s (.void i)):=by
 have lbk:=gs.book;obtain⟨u1,rfl⟩:=hw;have ly2:=ly.ext [some (.blk false (.cells true [.pt L.c 0])),some (.blk true (.cells true [.str AAw,.fs [[.str u1]],.fs [[I (i:Nat)]]]))];unfold eO at hc;dsimp only at hc;split at hc;·cases hc
 ·rename_i k hk
  split at hc;·cases hc
  ·rename_i hv
   split at hc;·cases hc
   ·rename_i hcl
    obtain⟨e,he,q0⟩:=w91 ly2 hk (aH1.2 hv) AM;have ly3:=ly2.ext (aII L.c e);obtain⟨hk1,hk2,hk3,_⟩:=gs.bt k (A5 hk);obtain⟨j,hj⟩:=aFm hk3;obtain⟨f,hjf⟩:=sI hj;have hfb:=gs.bf _ (A5 hjf);simp only at hfb;obtain⟨h2,q1,q2,q4⟩:=aZk ly3 (b0:=_+1) (b1:=_+0) (xU ly2 (by intro b hb;simp only[B6,C8,J3,B3,G6,AAi]at hb ⊢;omega)) (bR 1 rfl) (bR 0 rfl) hk he hj hjf AM;have hd:uJ s (.void i)={ s with tickets:=s.tickets.set i { k with void:=true },farmers:=iA s.farmers k.farmer (-k.net) }:=by
     unfold uJ;dsimp only;rw[hk]
    exact⟨130,_,_,aPK q0 (tO 0 rfl) (tO 1 rfl),by decide,(Fr.app h _).add _,h2,L,q1,by rw[hd];exact q2,rfl,q4,by
     rw[hd];exact .of rfl (aBn (by rw[C9])) (rM rfl) (dA (by rw[gZ hj (by rw[A6,hjf];rfl),C9])) (dA rfl) (dA rfl) (dA rfl)⟩
theorem aLl(ly:Lays h L s)(gs:gG s)(hw:IsW (.close) v)(hc:eO s (.close)=none):vJ h L s v (uJ s (.close)):=by
 have lbk:=gs.book;cases hw;unfold eO at hc;dsimp only at hc;split at hc
 ·rename_i hn
  have ly1:=ly.ext [some (.blk false (.cells true [.pt L.c 0])),some (.blk true (.cells true [.str AAx,.fs [],.fs []]))];obtain⟨h2,q1,q2,q4⟩:=w92 ly1 (b0:=h.length+0) (bR 0 rfl) AM;exact⟨92,_,_,aLS ly hn,by decide,Fr.app h _,h2,L,q1,q2,rfl,q4,.of rfl (aBn rfl) (rM rfl) (dA rfl) (dA rfl) (dA rfl) (dA rfl)⟩
 ·cases hc
theorem aLk{x:ByteArray}{n:Int}(ly:Lays h L s)(gs:gG s)(hw:IsW (.meter x n) v)(hc:eO s (.meter x n)=none):vJ h L s v (uJ s (.meter x n)):=by
 have lbk:=gs.book;obtain⟨hb,u1,z0,rfl⟩:=hw;have ly2:=ly.ext [some (.blk false (.cells true [.pt L.c 0])),some (.blk true (.cells true [.str AAy,.fs [[.str x],[.str u1]],.fs [[I z0],[I n]]]))];unfold eO at hc;dsimp only at hc;split at hc;·cases hc
 ·rename_i hn
  have ly3:=ly2.ext (aFI L.c x n);obtain⟨h2,L2,q1,q2,q3,q4,q5⟩:=aZj ly3 (b0:=_+0) (b1:=_+1) (b2:=_+2) (n:=n) (x:=x) (xU ly2 (by intro b hb;simp only[B6,C8,J3,B3,G6,AAi]at hb ⊢;omega)) (bR 0 rfl) (bR 1 rfl) (bR 2 rfl) hb (fun p hp=>by have:=gs.bm p hp;omega) (by have:=gs.lm;omega);exact⟨132,_,_,aLR (w93 ly2 (aJK hn)) (tO 0 rfl) (tO 1 rfl),by decide,(Fr.app h _).add _,h2,L2,q1,q2,q3,q4,q5⟩
theorem aOD(ly:Lays h L s)(gs:gG s)(hw:IsW w v)(ha:w.asks=false)(hc:eO s w=none):vJ h L s v (uJ s w):=by
 cases w with
 | farmer x=>exact aIE ly gs hw hc
 | wagon x y a b=>exact aLj ly gs hw hc
 | void i=>exact aOC ly gs hw hc
 | close=>exact aLl ly gs hw hc
 | meter x n=>exact aLk ly gs hw hc
 | pan x a b=>exact aRx ly gs hw hc
 | _=>cases ha
end
section
open Go Go.DL Go.Proofs.Tryz
section
variable{B:Base}{D:Nat→Option XFn}{Y:Nat→Option YI}{r:Nat→Option Nat}{h:XH}{H:Hp}{F:Nat→Prop}{w:World}
theorem xK(ok:XOk prog D)(B:Base)(Y:Nat→Option YI)(hY:YOk prog B D Y):Go.DL.FnS prog B D Y (runW D)∧YS prog B D Y (runYW D):=by
 refine⟨fun r h H K xs as' v h' sh hA hx=>?_,fun r h H fv fv' xs as' v h' sh hfv hA hx=>?_⟩
 ·obtain⟨n,hn⟩:=dI.1 hx
  exact(mF ok n B Y hY).1 r h H K xs as' v h' sh hA hn
 ·obtain⟨n,hn⟩:=tT.1 hx
  exact(mF ok n B Y hY).2 r h H fv fv' xs as' v h' sh hfv hA hn
theorem aOn{i:aPa}(sh:SH D Y r h H){r1:Nat→Option Nat}{e1 env1:aH}{h1:XH}{H1:Hp}(ha:Agree h.length r r1)(sr:SR D Y r1 e1 h1 env1 H1){v:AV}(hx:jD i.res e1 (aG h1)=some v) :
 ∃ v1,jD i.res env1 H1=some v1∧∃ v' H'',Shift (upd anyE 0 v1) H1 (upd anyE 0 v') H''∧eZ D Y r v h1 v' H'':=by
 obtain⟨v0',k1,k2⟩:=aFa sr hx;exact⟨v0',k1,v0',H1,fun F w a st re=>⟨F,Ext.refl _ _ _,st,re⟩,r1,fun b c hb=>ha b c (sh.dom b c hb) hb,sr.sh,k2⟩
def aSF(D:Nat→Option XFn)(d:XFn)(c o k:Nat)(e:aH)(h1 h3:XH)(v:AV):Prop :=
 (∃ x e2 h2,(∀ id,x ≠ .exit id)∧execW D 21 k none b21 e h1=some (x,e2,h2)∧vF saySay (runW D) (runYW D) (.pt c o) saySay.zero false h2=some h3∧jD saySay.res e2 (aG h3)=some v) ∨
 (∃ v0 e2 h2,PanX prog D d k b21 e h1 (.ifc 110 v0) e2 h2∧vF saySay (runW D) (runYW D) (.pt c o) v0 true h2=some h3∧jD saySay.res e2 (aG h3)=some v)
theorem aQg(ok:XOk prog D){d21:XFn}(hD:D 21=some d21)(hN:d21.N=41){xs as':List AV}{v:AV}{h1 h3:XH}{e1:aH}{c o:Nat}(hlen:xs.length≤41)
 (hx1:fA (runW D) (runYW D) saySay.pre (aV (lO xs)) h=some (e1,h1)) (he1:e1 4 = .pt c o) (hc:c<h1.length) (hbody:aSF D d21 c o h1.length (upd e1 7 .any) h1 h3 v) (hY:YOk prog B D Y) (sh:SH D Y r h H) (hA:RnL D Y r xs as'):FnW B prog 21 as' H (eZ D Y r v h3):=by
 have hm:=ok.mixed;obtain⟨hf,hy⟩:=xK ok B Y hY;have hA1:=hA.nz;refine FnW.nz (FnW.shift ⟨fun vs w=>call21 vs w,fun F w vs hB st hAr=>?_⟩);have hsz:(vs++Array.replicate (f21.ntmps-vs.size) undef).size=41:=by
  have h1:=hAr.1;have h2:=hA1.1;rw[jQ,A7]at h2;have:xs.length≤41:=hlen;rw[aWt];simp;omega
 have hre:=aAU (N:=41) (nt:=f21.ntmps-vs.size) hB hAr;have wO:=jZ (P:=prog) (B:=B) hf hy saySay.pre r _ h _ H e1 h1 (fun env' H'=>∃ r',DL.Sub r r'∧SR D Y r' e1 h1 env' H') rfl ⟨sh,pF hA1⟩ hx1 (fun r' env' H' hs sr'=>⟨r',hs,sr'⟩);refine callsIn_of_wp_marks func21 aUH trivial (wpIn_seq (mQ (B:=B) (r:=none) (N:=41) (draw:=false) hm aWj hsz hB st hre wO ?_));rintro a1 F1 w1 env1 H1 p1 p2 p3 p4 p5 ⟨r1,p6,p7⟩;show (Code.seq (.region 1 r21_1 false) code21).wpIn Fence.wide 0 prog _ a1 w1;have hB1:=hB.step st p3;have h4:=p7.re 4;have he1':e1 4 = .pt c o:=he1;rw[he1']at h4;obtain⟨b,hrb,henv4⟩:∃ b,r1 c=some b∧env1 4 = .pt b o:=by
  generalize env1 4=z at h4;cases h4 with
  | pt _ b _ hb=>exact⟨b,hb,rfl⟩
 refine wpIn_seq (wpIn_region ?_);rw[aZp,show List.range 2=[0,1] from rfl,wpOpsIn_cons];obtain⟨o0,g1,g2⟩:=aWy;obtain⟨o1,k1,k2,k3,k4⟩:=bBo;refine aBk (r:=none) (B:=B) (N:=41) (K:=fun env' H'=>env'=aW env1 (some 7) (.fn (.func 56) [] [.pt b o])∧H'=H1) (nT g1 g2) rfl (fun k hk=>by simp at hk;omega) p1 hB1 p4 p5 ?_ ?_
 ·rw[aNs,qE rfl]
  simp only[aD,aE7,D7,aK,henv4,optW_some,gH];exact⟨by trivial,by trivial⟩
 rintro a2 F2 w2 env2 H2 s1 s2 s3 s4 s5 ⟨rfl,rfl⟩;rw[wpOpsIn_cons];unfold wpOpIn;simp only[k1];have hw:Region.wanted o1 (yielded r21_1 a2.tmps)=true:=by unfold Region.wanted;rw[k3]
 rw[if_pos hw];have h7:a2.eval (.tmp 7) = .func (.func 56) #[] #[.pointer (some ⟨b,o,none⟩)]:=by
  have:=s5.rv 7;simp only[aW,upd,AAe]at this;show a2.tmps.getD 7 undef=_;generalize a2.tmps.getD 7 undef=z at this;cases this with
  | fn _ _ _ fv cv hl1 hl2 q1 q2 =>
    have e1:fv = #[]:=by
     rcases fv with ⟨_|⟨a,l⟩⟩;·rfl
     ·simp at hl1
    have e2:cv = #[.pointer (some ⟨b,o,none⟩)]:=by
     rcases cv with ⟨_|⟨a,_|⟨a',l⟩⟩⟩;·simp at hl2
     ·have:=q2 0 _ a rfl rfl
      cases this;rfl
     ·simp at hl2
    rw[e1,e2]
 refine⟨fun _ _=>trivial,?_⟩;have hsem:(o1.semAt Fence.wide.round a2.eval).run prog w2 = .ok (.defer { target:=.fn (.func 56) #[.pointer (some ⟨b,o,none⟩)],args := #[] }) w2:=by
  have:Fence.wide.round=none:=rfl;rw[this,Oper.semAt_none];simp[execOp,resolve,k4,h7,Deferred.ofValue]
 rw[hsem,Oper.uponIn_defer,k2];have hdf:a2.defers=[]:=by rw[s2,p2]
 obtain⟨T,hT⟩:∃ T:List Deferred,T=[{ target:=.fn (.func 56) #[.pointer (some ⟨b,o,none⟩)],args := #[] }]:=⟨_,rfl⟩;have hact:Act.put { a2 with defers:={ target:=.fn (.func 56) #[.pointer (some ⟨b,o,none⟩)],args := #[] }::a2.defers } none undef={ tmps:=a2.tmps,defers:=T }:=by
  rw[hdf,hT];rfl
 rw[hact];show code21.wpIn Fence.wide 0 prog _ { tmps:=a2.tmps,defers:=T } w2;have hB2:=hB1.step p4 s3;have E2:=p3.trans s3;have sr2:SR D Y r1 (upd e1 7 .any) h1 (aW env1 (some 7) (.fn (.func 56) [] [.pt b o])) H2:=⟨p7.sh,fun j=>by
  simp only[upd,aW];split;·exact .any _
  ·exact p7.re j⟩
 have ag1:Agree h.length r r1:=p6.agree _
 have out:∀(F':Nat→Prop)(w':World)(H':Hp)(env':aH)(tmps:Array Value)(ds:List Deferred)(r3:Nat→Option Nat)(e2:aH)(h2:XH)(u:FrameMode)(v0 v0':AV)(t:Bool)(cval:Value),u ≠ .run→Ext F w H F' w' H'→St F' w' H'→RE F' w' env' { tmps:=tmps,defers:=[] } →
  Mk w2.heap.size T F' H' w' ds→Agree h1.length r1 r3→SR D Y r3 e2 h2 env' H'→Rn D Y r3 v0 v0'→vF saySay (runW D) (runYW D) (.pt c o) v0 t h2=some h3→jD saySay.res e2 (aG h3)=some v →
  ((t=true∧u = .panicking (pnc cval)∧Rv F' w' (.ifc 110 v0') cval)∨(t=false∧u = .returning∧v0' = .agg [.int .i64 0])) →
  LeavesInM Fence.wide 0 prog f21 tmps (uT F w H fun v1 H1=>∃ v' H'',Shift (upd anyE 0 v1) H1 (upd anyE 0 v') H''∧eZ D Y r v h3 v' H'') ds u w':=by
  intro F' w' H' env' tmps ds r3 e2 h2 u v0 v0' t cval hu he st' re' mk ag sr3 hv0 hh hret hcase;obtain⟨ms,q1,q2,q3⟩:=mk.ex;rw[q1];refine aDq (env:=env') (S:=fun w'=>(t=true∧u = .panicking (pnc cval)∧Rv F' w' (.ifc 110 v0') cval)∨(t=false∧u = .returning∧v0' = .agg [.int .i64 0])) (fun w w' hu hs=>?_) hu E2.le (fun w'' hs'' he' st'' re''=>?_) ms w' hcase he st' re' q2 q3
  ·rcases hs with ⟨a1,a2,a3⟩|hs
   ·exact .inl ⟨a1,a2,a3.up hu⟩
   ·exact .inr hs
  rw[hT];refine⟨hu,.inr ⟨fun hd=>by simp[Fence.wide]at hd,_,_,56,#[.pointer (some ⟨b,o,none⟩)],rfl,?_,fun _ _=>trivial,?_⟩⟩
  ·have:=call56 #[Value.pointer (some ⟨b,o,none⟩)] w''
   first|exact this|simpa [invoke]using this
  ·refine aUa hf hy hm (hB.step st he') st'' sr3.sh (ag c b hc hrb) rfl rfl rfl hv0 hh hs'' ?_
   intro F4 w4 H4 r4 u' hset t2 t3 t4 t5;show LeavesInM Fence.wide 0 prog f21 tmps _ [] (settle u') w4;rw[hset];have re4:RE F4 w4 env' { tmps:=tmps,defers:=[] }:=re''.up (t2.up st'');have sr4:SR D Y r4 e2 h3 env' H4:=⟨t5,fun j=>(sr3.re j).mono t4⟩;have ag4:Agree h.length r r4:=fun b1 c1 hb1 hr1=>t4 _ _ (ag b1 c1 (p7.sh.dom b1 c1 (p6 b1 c1 hr1)) (p6 b1 c1 hr1));obtain⟨v1,x1,x2⟩:=aOn sh ag4 sr4 hret;obtain⟨cv,y1,y2⟩:=aAj t3 re4 aWa x1;exact⟨cv,y1,cv,v1,F4,H4,rfl,he'.trans t2,t3,y2,x2⟩
 rcases hbody with ⟨x,e2,h2,hne,hex,hh,hret⟩|⟨v0,e2,h2,hpan,hh,hret⟩
 ·have hWD:=sX (Q:=fun x' env3 H3=>x'=x∧∃ r3,Agree h1.length r1 r3∧SR D Y r3 e2 h2 env3 H3) ok hD hex hY aWr (aP aWu) sr2 (fun r' env' H' ha sr'=>⟨rfl,r',ha,sr'⟩)
  have hW:=hWD code21 (by rw[hN];exact aEm) F2 w2 { tmps:=a2.tmps,defers:=T } w2.heap.size T hB2 (A8 _) (by rw[hN];exact s1) s4 s5 Mk.nil;refine wpIn_mono hW ?_;rintro e a' w' ⟨x',env',F',H',z1,z2,z3,z4,z5,z6,rfl,r3,z7,z8⟩;have fin:=fun(hu:True)=>out F' w' H' env' a'.tmps a'.defers r3 e2 h2 .returning _ _ false undef (by simp) (E2.trans z3) z4 z5 z6 z7 z8 ((zJ saySay.zero rfl)) hh hret (.inr ⟨rfl,rfl,rfl⟩);cases e with
  | normal=>exact fin trivial
  | ret=>exact fin trivial
  | exit id=>simp only at z1;subst z1;exact(hne id rfl).elim
  | goto l=>exact z1.elim
  | panic c=>exact z1.elim
  | outgrown=>exact z1.elim
 ·have hWD:=hpan aWr (aP aWu) B Y r1 _ _ (fun v' env3 H3=>∃ r3,Agree h1.length r1 r3∧SR D Y r3 e2 h2 env3 H3∧Rn D Y r3 (.ifc 110 v0) v') hY sr2 (fun r' v' env' H' ha sr' hv'=>⟨r',ha,sr',hv'⟩)
  have hW:=hWD code21 (by rw[hN];exact aEm) F2 w2 { tmps:=a2.tmps,defers:=T } w2.heap.size T hB2 (A8 _) (by rw[hN];exact s1) s4 s5 Mk.nil;refine wpIn_mono hW ?_;rintro e a' w' ⟨cv,vv,env',F',H',rfl,z3,z4,z5,z9,z6,r3,z7,z8,z10⟩;cases z10 with
  | ifc _ _ v0' hv0' =>
  exact out F' w' H' env' a'.tmps a'.defers r3 e2 h2 (.panicking (pnc cv)) v0 v0' true cv (by simp) (E2.trans z3) z4 z5 z6 z7 z8 hv0' hh hret (.inl ⟨rfl,rfl,z9⟩)
end
end
section
open Go Go.DL
variable{h h' h1 h2:XH}{L:CL}{s:dR}{x line:ByteArray}{w:Wd}{v:AV}
theorem w59(ly:Lays h L s):runW aB 59 [.pt L.c 0] h=some (.bool false,h):=by
 obtain⟨g,hc⟩:=aC ly.hc;unfold bY at hc;rw[qY 59 x59 rfl];unfold x59;dsimp only;(exact dM hc)
theorem aEv(run:eP)(runY:fS)(ops:List DOper)(e:aH)(h:XH):fA run runY ops e h=xo none run runY ops e h:=rfl
theorem aJF{n:Nat}:vF saySay (runW aB) (runYW aB) (.pt n 0) saySay.zero false h=some (h++[some (.blk true (.cells true [I 0]))]):=by
 unfold vF saySay mZ vX aAr;dsimp only;rw[aEv];obtain⟨k,hk⟩:∃ n,h.length=n:=⟨_,rfl⟩;(exact dM hk)
def pD:List Int:=[2,4,5,6,8,9,10,13,14,15,22,23]
def noA(e:Int):ByteArray:=(⟨⟨[110,111,32]⟩⟩:ByteArray)++⟨⟨Lib.itoa e⟩⟩
theorem aQN{e:Int}(he:e∈pD):aQ .add ⟨⟨[110,111,32]⟩⟩ ⟨⟨Lib.itoa e⟩⟩=some (.str (noA e))∧(-9223372036854775808≤e∧e≤9223372036854775807):=by
 have h0:e=2∨e=4∨e=5∨e=6∨e=8∨e=9∨e=10∨e=13∨e=14∨e=15∨e=22∨e=23:=by simpa [pD]using he
 rcases h0 with rfl|rfl|rfl|rfl|rfl|rfl|rfl|rfl|rfl|rfl|rfl|rfl;all_goals exact⟨by kernel_rfl,by decide⟩
theorem aNZ{n:Nat}{g:Bool}{a:ByteArray}{e:Int}(hn:hat h n=some (.blk g (.cells true [.str a])))(he:e∈pD):vF saySay (runW aB) (runYW aB) (.pt n 0) (.agg [I e]) true h=some ((h.set n (some (.blk g (.cells true [.str (noA e)]))))++[some (.blk true (.cells true [I e]))]):=by
 unfold vF saySay mZ vX uH aAr;dsimp only;rw[aEv];obtain⟨k,hk⟩:∃ n,h.length=n:=⟨_,rfl⟩;obtain⟨sa,hbe⟩:=aQN he;have c57:=aCY (n:=e) hbe;have nk:(n<k)=True:=AAp (by rw[←hk];exact aF (aNX hn));(exact RS7 hk hn nk c57 aEv sa aE)
def aBl(c n:Nat)(line:ByteArray):aH:=upd (upd (aV [.pt c 0,.str line]) 4 (.pt n 0)) 7 .any
def lN:XH:=[some (.blk true (.cells true [.str ⟨⟨[]⟩⟩]))]
def Prs(line:ByteArray)(r:Int ⊕ Wd):Prop:=match r with
 | .inl e=>CalP Tryz.prog aB 60 [.str line] [] (.ifc 110 (.agg [I e])) []
 | .inr w=>∃ v,runW aB 60 [.str line] []=some (v,[])∧IsW w v∧gdA v=true
theorem IsW.shape(hw:IsW w v):∃ f r1 r2,v = .agg [.str f,.fs r1,.fs r2]:=by
 cases w with
 | farmer x=>obtain⟨_,rfl⟩:=hw;exact⟨_,_,_,rfl⟩
 | wagon x y a b=>obtain⟨_,_,_,_,_,rfl⟩:=hw;exact⟨_,_,_,rfl⟩
 | void i=>obtain⟨_,rfl⟩:=hw;exact⟨_,_,_,rfl⟩
 | close=>cases hw;exact⟨_,_,_,rfl⟩
 | meter x n=>obtain⟨_,_,_,rfl⟩:=hw;exact⟨_,_,_,rfl⟩
 | pan x a b=>obtain⟨_,_,_,_,rfl⟩:=hw;exact⟨_,_,_,rfl⟩
 | net x=>obtain⟨_,rfl⟩:=hw;exact⟨_,_,_,rfl⟩
 | total=>cases hw;exact⟨_,_,_,rfl⟩
 | ticket i=>obtain⟨_,rfl⟩:=hw;exact⟨_,_,_,rfl⟩
 | used x=>obtain⟨_,rfl⟩:=hw;exact⟨_,_,_,rfl⟩
 | loss x=>obtain⟨_,rfl⟩:=hw;exact⟨_,_,_,rfl⟩
 | power x=>obtain⟨_,rfl⟩:=hw;exact⟨_,_,_,rfl⟩
def wB(f:ByteArray)(r1 r2:List (List AV)):XH:=[some (.blk true (.cells true [.str ⟨⟨[]⟩⟩])),some (.blk true (.cells true [.str f,.fs r1,.fs r2]))]
theorem Lays.bookNew(ly:Lays h L s){n m:Nat}{line a:ByteArray}{g g1 g2 g3:Bool}{cs:List AV}(hm:h.length=m)(hn:n∉tW L s)(hnl:n<m)(hcs:cs=bY { L with kb:=m+1 } { s with book:=s.book++[line] })(hh:h'=((oT h L.kb s.book.length).set L.c (some (.blk g (.cells true cs)))).set n (some (.blk g3 (.cells true [.str a])))++[some (.blk g1 (.cells true [.str line])),some (.blk g2 (.cells true (s.book.map .str++[.str line])))]) :
 Lays h' { L with kb:=m+1 } { s with book:=s.book++[line] }∧aG h' n=some (.cells true [.str a]):=by
 subst hm hcs;have cl:=aF ly.hc;have cn:L.c≠n:=fun q=>hn (bB.2 ⟨0,by simp[px,q]⟩);have hl:(((oT h L.kb s.book.length).set L.c (some (.blk g (.cells true (bY { L with kb:=h.length+1 } { s with book:=s.book++[line] }))))).set n (some (.blk g3 (.cells true [.str a])))).length=h.length:=by rw[C9,C9,lA]
 have l1:Lays (h.set n (some (.blk g3 (.cells true [.str a])))) L s:=ly.fr ((Fr.refl [n] h).set (by simp) _) fun j b hb hm=>hn (by rw[B2]at hm;rw[←hm];exact bB.2 ⟨j,hb⟩);have fr:Fr (L.c::mX L.kb s.book.length) (h.set n (some (.blk g3 (.cells true [.str a])))) h':=by
  refine⟨fun b hb hnm=>?_,?_⟩
  ·rw[C9]at hb
   rw[hh,fY,hl,if_pos hb,cW,cW];rw[B3,not_or]at hnm;by_cases hbn:b=n;·rw[if_pos hbn,if_pos (by rw[C9,lA];exact hnl),cW,if_pos hbn,if_pos hnl]
   ·rw[if_neg hbn,if_neg hnm.1,aQL hnm.2,cW,if_neg hbn]
  ·rw[hh,B6,hl,C9];simp
 refine⟨l1.bookApp (kb':=h.length+1) (by rw[C9];omega) ?_ ?_ fr,?_⟩;·rw[hh,fY,hl,if_pos cl,cW,if_neg cn,cW,if_pos rfl,if_pos (by rw[lA];exact cl)]
 ·rw[hh,fY,hl,if_neg AM,show h.length+1-h.length=1 by omega];rfl
 ·rw[hh,fY,hl,if_pos hnl,cW,if_pos rfl,if_pos (by rw[C9,lA];exact hnl)]
theorem aGZ{L:List Nat}{r:Option (DX×aH×XH)}{x:DX}{vs:List AV}{h:XH}(hx:qD L r=some (x,vs,h)):∃ e,r=some (x,e,h)∧L.map e=vs:=by
 unfold qD at hx;rw[A0]at hx;obtain⟨⟨x1,e,h2⟩,rfl,he⟩:=hx;simp only[B4]at he;obtain⟨rfl,rfl,rfl⟩:=he;exact⟨e,rfl,rfl⟩
theorem aQi{n m:Nat}{f:ByteArray}{r1 r2:List (List AV)}{L3:CL}{s3:dR}(ly:Lays h L s)(hn:h.length=n)(hp:runW aB 60 [.str line] []=some (.agg [.str f,.fs r1,.fs r2],[])){g:Nat}{caps:List AV}{hc h3:XH}(call:runW aB 61 [.pt L.c 0,.agg [.str f,.fs r1,.fs r2]] (h++wB f r1 r2)=some (.fn (.func g) [] caps,hc))(hg:aRM g)(call2:runW aB g caps hc=some (.tup [],h3))(hlt:s.book.length<300)
 (lyc:Lays hc L s) (ly3:Lays h3 L3 s3) (hL:L3.c=L.c) (hb:s3.book.length=s.book.length) (h3n:aG h3 n=some (.cells true [.str ⟨⟨[]⟩⟩])) (hm:h3.length=m) (nn:n∉tW L3 s3) (hk:s.book.length=0) :
 ∃ h4,qD [0,1,4] (execW aB 21 (n+1) none b21 (aBl L.c n line) (h++lN))=some (.ret,[.pt L.c 0,.str line,.pt n 0],h4)∧Lays h4 { L3 with kb:=m+1 } { s3 with book:=s3.book++[line] }∧aG h4 n=some (.cells true [.str ⟨⟨[111,107]⟩⟩]):=by
 have c59:=w59 (ly.ext lN);have m1:=uQ 9;have m2:=uQ 15;obtain⟨gc,hcc⟩:=aC lyc.hc;obtain⟨g3,h3c⟩:=aC ly3.hc;obtain⟨gn,h3n'⟩:=aC h3n;rw[hL]at h3c;unfold bY at hcc h3c;have cm:(L.c<m)=True:=AAp (by rw[←hm,←hL];exact aF ly3.hc);have nm0:n<m:=by rw[←hm];exact aF h3n
 have nm:(n<m)=True:=AAp nm0;have cn:(L.c=n)=False:=AAq fun q=>nn (bB.2 ⟨0,by simp[px,hL,q]⟩);have nc:(n=L.c)=False:=AAq fun q=>nn (bB.2 ⟨0,by simp[px,hL,q]⟩);have hv:iC L.kb s.book.length = .nilsl:=by rw[hk];rfl
 have hv3:iC L3.kb s3.book.length = .nilsl:=by rw[hb,hk];rfl
 rw[hv]at hcc;rw[hv3]at h3c;refine⟨(h3.set L.c (some (.blk false (.cells true [.pt L3.f.o 0,.pt L3.m.o 0,.pt L3.p.o 0,.pt L3.w.o 0,iC L3.tb s3.tickets.length,I s3.closed,.sl (m+1) 0 1 1])))).set n (some (.blk gn (.cells true [.str ⟨⟨[111,107]⟩⟩])))++[some (.blk true (.cells true [.str line])),some (.blk true (.cells true [.str line]))],?_,ly3.bookNew (g:=false) (g1:=true) (g2:=true) (g3:=gn) (cs:=_) hm nn nm0 rfl ?_⟩
 ·unfold b21 aBl lN wB at *
  rcases hg with rfl|rfl|rfl|rfl|rfl|rfl;all_goals (exact kO hn c59 m1 hp call call2 m2 hcc h3c h3n' hm cm nm cn nc aE aE aE aE aE)
 ·rw[hL]
  have hb0:s3.book=[]:=B8 AM;simp[oT,bY,iC,hb0]
theorem aQj{n m:Nat}{f:ByteArray}{r1 r2:List (List AV)}{L3:CL}{s3:dR}(ly:Lays h L s)(hn:h.length=n)(hp:runW aB 60 [.str line] []=some (.agg [.str f,.fs r1,.fs r2],[])){g:Nat}{caps:List AV}{hc h3:XH}(call:runW aB 61 [.pt L.c 0,.agg [.str f,.fs r1,.fs r2]] (h++wB f r1 r2)=some (.fn (.func g) [] caps,hc))(hg:aRM g)(call2:runW aB g caps hc=some (.tup [],h3))(hlt:s.book.length<300)
 (lyc:Lays hc L s) (ly3:Lays h3 L3 s3) (hL:L3.c=L.c) (hb:s3.book.length=s.book.length) (h3n:aG h3 n=some (.cells true [.str ⟨⟨[]⟩⟩])) (hm:h3.length=m) (nn:n∉tW L3 s3) (hk:0<s.book.length) :
 ∃ h4,qD [0,1,4] (execW aB 21 (n+1) none b21 (aBl L.c n line) (h++lN))=some (.ret,[.pt L.c 0,.str line,.pt n 0],h4)∧Lays h4 { L3 with kb:=m+1 } { s3 with book:=s3.book++[line] }∧aG h4 n=some (.cells true [.str ⟨⟨[111,107]⟩⟩]):=by
 have c59:=w59 (ly.ext lN);have m1:=uQ 9;have m2:=uQ 15;obtain⟨gc,hcc⟩:=aC lyc.hc;obtain⟨g3,h3c⟩:=aC ly3.hc;obtain⟨gn,h3n'⟩:=aC h3n;rw[hL]at h3c;unfold bY at hcc h3c;have cm:(L.c<m)=True:=AAp (by rw[←hm,←hL];exact aF ly3.hc);have nm0:n<m:=by rw[←hm];exact aF h3n
 have nm:(n<m)=True:=AAp nm0;have cn:(L.c=n)=False:=AAq fun q=>nn (bB.2 ⟨0,by simp[px,hL,q]⟩);have nc:(n=L.c)=False:=AAq fun q=>nn (bB.2 ⟨0,by simp[px,hL,q]⟩);have hk3:0<s3.book.length:=AM
 rw[eR hk]at hcc;rw[eR hk3]at h3c;have hbb:=ly3.bk hk3;obtain⟨gb,h3b⟩:=aC hbb;have bp:L3.kb∈px L3 s3 2:=bQ.2 ⟨hk3,rfl⟩;have bm:(L3.kb<m)=True:=AAp (by rw[←hm];exact aF hbb);have bn:(L3.kb=n)=False:=AAq fun q=>nn (bB.2 ⟨2,q▸bp⟩);have nb:(n=L3.kb)=False:=AAq fun q=>nn (bB.2 ⟨2,q▸bp⟩);have bc:(L3.kb=L.c)=False:=AAq fun q=>ly3.off (i:=2) (j:=0) (by decide) bp (by simp[px,hL,q]);have cb:(L.c=L3.kb)=False:=AAq fun q=>ly3.off (i:=2) (j:=0) (by decide) bp (by simp[px,hL,q]);have t1:((s.book.length:Int)<300)=True:=AAa;have z1:((s3.book.length+1)*16≤1099511627776)=True:=AAa;have z2:(s3.book.length+1≤1099511627776)=True:=AAa;refine⟨((h3.set L3.kb none).set L.c (some (.blk false (.cells true [.pt L3.f.o 0,.pt L3.m.o 0,.pt L3.p.o 0,.pt L3.w.o 0,iC L3.tb s3.tickets.length,I s3.closed,.sl (m+1) 0 1 (s3.book.length+1)])))).set n (some (.blk gn (.cells true [.str ⟨⟨[111,107]⟩⟩])))++[some (.blk true (.cells true [.str line])),some (.blk gb (.cells true (s3.book.map .str++[.str line])))],?_,ly3.bookNew (g:=false) (g1:=true) (g2:=gb) (g3:=gn) (cs:=_) hm nn nm0 rfl ?_⟩
 ·unfold b21 aBl lN wB at *
  rcases hg with rfl|rfl|rfl|rfl|rfl|rfl;all_goals (exact tP hn c59 m1 hp call call2 m2 hcc h3c h3n' hm cm nm cn nc h3b bm bn nb bc cb t1 z1 z2 aE aE)
 ·rw[hL]
  simp[oT,bY,iC,Nat.ne_of_gt hk3]
def hdB:ByteArray:=⟨⟨[122,97,102,114,97,32,49,52,10]⟩⟩
def dK(B:List ByteArray):Nat:=(B.length+4)/5
def vE(B:List ByteArray)(i:Nat):List ByteArray:=(B.drop (5*i)).take 5
def mE(B:List ByteArray):Nat→ByteArray
 | 0=>hdB
 | i+1=>mE B i++pgB (vE B i) (6*i)
def bJ(B:List ByteArray):ByteArray:=mE B (dK B)
theorem kP(B:List ByteArray)(i:Nat):(vE B i).length=min 5 (B.length-5*i):=by simp[vE]
theorem oQ(ls:List ByteArray)(row:Nat):(pgB ls row).size=(ls.length+1)*45:=by
 unfold pgB;rw[E8,aAW,xH (fD (by rw[nL (A8 _)];exact A8 _) _ (A8 _))];omega
theorem aBe(B:List ByteArray):∀ i,mE B i=mE B i∧(mE B i).size≤9+i*270∧9≤(mE B i).size
 | 0=>⟨rfl,by simp only[mE,hdB];decide,by simp only[mE,hdB];decide⟩
 | i+1=>by
   obtain⟨_,h1,h2⟩:=aBe B i;have h3:=oQ (vE B i) (6*i);have h4:=kP B i;refine⟨rfl,?_,?_⟩;·rw[mE,E8,h3];omega
   ·rw[mE,E8,h3];omega
abbrev lpB:Option XB:=some (.loop 23 0 [.bp 1] .ready)
abbrev hY(a:ByteArray)(B:List ByteArray):XH:=[lpB,some (.blk false (.cells true [.pt 1 0,.sb 2 a.size])),some (.blk true (.cells true (dU a))),uS B]
theorem y23{B ls:List ByteArray}{a p:ByteArray}{row o n z y:Nat}(hB:∀ i s,ls[i]?=some s→(fI B)[o+i]?=some (.str s))(hn:ls.length=n)(h0:1≤n)(h1:n≤5)(hr:row≤10000)(ha:a.size≤100000)(hz:a.size=z)(hp:pgB ls row=p)(hy:z+p.size=y) :
 runYW aB (.fn (.yield 0) [] []) [I (row:Nat),.sl 3 o 1 n] (hY a B)=some (.bool true,[lpB,some (.blk false (.cells true [.pt 1 0,.sb 4 y])),none,uS B,some (.blk true (.cells true (dU (a++p))))]):=by
 have c38:=aYE (row:=row) hB AM AM hr;have c38:runW aB 38 [.sl 0 o 1 ls.length,I (row:Int)] [uS B]=some (.str (pgB ls row),[uS B]):=c38;have sz:=oQ ls row;rw[hn,hp]at c38;rw[hp,hn]at sz;have c69:=aSQ (s:=p) (a:=a) AM AM ha;rw[hz,hy]at c69;have gB:=eJ B;have gA:=fC a;have gP:=fC (a++p);rw[aBC (K:=23) (d:=x23) (site:=0) (vs:=[.bp 1]) rfl rfl (by rfl) rfl];(exact nJ c38 c69 hz hy gB gA gP dO eA eC bX bV bW)
section
variable{B:List ByteArray}
abbrev ckB(n:Nat):Option XB:=some (.blk false (.cells false [.any,.any,.any,.any,.any,.any,.sl 5 0 1 n]))
def aCt(B:List ByteArray)(i:Nat):XH:=if i=0 then [lpB,some (.blk false (.cells true [.pt 1 0,.sb 2 9])),some (.blk true (.cells true (dU hdB))),some (.blk false (.cells true [.pt 4 0])),ckB B.length,uS B]
 else [lpB,some (.blk false (.cells true [.pt 1 0,.sb 6 (mE B i).size])),none,some (.blk false (.cells true [.pt 4 0])),ckB B.length,uS B,some (.blk true (.cells true (dU (mE B i))))]
def aDl(B:List ByteArray)(i:Nat):AV:=if i=dK B then .fs [] else .sl 5 (5*i) 1 (B.length-5*i)
def nO(B:List ByteArray)(i:Nat):Nat:=if i=dK B then B.length+dK B else 6*i
theorem aTE{i:Nat}:∀(k:Nat)(s:ByteArray),(vE B i)[k]?=some s→(fI B)[5*i+k]?=some (.str s):=fun k s h=>by
 unfold vE at h;rw[G9]at h;split at h
 ·rw[G8]at h
  unfold fI;rw[A6,h];rfl
 ·cases h
theorem aZn(h0:1≤B.length)(h1:B.length≤300):runW aB 116 [.fn (.yield 0) [] [],.pt 3 0] (aCt B 0)=some (.tup [],aCt B (dK B)):=by
 have np:dK B=(B.length+4)/5:=rfl;have g0:aCt B 0=[lpB,some (.blk false (.cells true [.pt 1 0,.sb 2 9])),some (.blk true (.cells true (dU hdB))),some (.blk false (.cells true [.pt 4 0])),ckB B.length,uS B]:=rfl;have gh:=fC hdB;have gB:=eJ B;rw[g0,qX 116 aKm rfl];unfold aKm;dsimp only;sym =>
  simp[Za,Zb,Zf,Zh,Zl,Zm,Zn,Zv,Z9,ZA,ZD,ZF,ZM,ZR,ZS,ZV,Ye,Yh,Yr,Yt,Yv,Yw,Y7,YJ,YM,YN,YR,YU,Xe,Xg,Xl,Xy,Xz,XM,XN,XO,XW,Wb,Wf,Wu,Wv,Wy,Wz,W3,W4,W9,WC,WI,Vc,Vf,Vk,V1,V2,V3,V4,V7,V9,VA,VB,VC,VD,VF,VG,VH,VI,VK,VL,VM,VN,VO,VP,VQ,VR,VS,VT,VU,VV,VW,VX,VY,VZ,Ua,Ub,Uc,Ud,Ue,Uf,Ug,Uh,Ui,Uj,Uu,UD,UF,UH,UI,UJ,UK,UM,UO,UT,UU,UV,UW,UX,UY,UZ,Ta,Tc,Td,Te,Tf,Tg,Th,Ti,Tj,Tl,Tm,Tq,Tw,T0,T2,T3,T4,T5,T8,T9,TA,TB,TC,TF,TJ,TK,TP,TQ,TR,Sn,Sp,Su,S7,S9,SB,SC,SD,SE,SF,SI,SK,SL,SM,SN,SY,Ra,Rd,Re,Rr,Rt,RY,Qh,QI,QK,QN,QO,Pl,gh,gB,dO,eA,eC,bX,bV,bW]
  tactic =>
   unfold aHq;rw[aS (dK B) (fun i=>[.fn (.yield 0) [] [],I (nO B i:Nat),aDl B i]) (fun i=>aCt B i)]
   ·have s0:aDl B (dK B) = .fs []:=if_pos rfl
    have g1:aCt B (dK B)=[lpB,some (.blk false (.cells true [.pt 1 0,.sb 6 (mE B (dK B)).size])),none,some (.blk false (.cells true [.pt 4 0])),ckB B.length,uS B,some (.blk true (.cells true (dU (mE B (dK B)))))]:=if_neg AM;have gP:=fC (mE B (dK B));(exact nN s0 g1 gP gB dO eA eC bX bV bW)
   ·have s0:aDl B 0 = .sl 5 0 1 B.length:=if_neg AM
    have r0:nO B 0=0:=if_neg AM;(exact nJ s0 r0 g0 gh gB dO eA eC bX bV bW aE aE)
   ·intro i hi
    obtain⟨_,z1,z2⟩:=aBe B i;have pl:=kP B i;have ps:=oQ (vE B i) (6*i);have sv:mE B (i+1)=mE B i++pgB (vE B i) (6*i):=rfl;have ss:(mE B i).size+(pgB (vE B i) (6*i)).size=(mE B (i+1)).size:=by rw[sv,E8]
    have y:=fun z (hz:(mE B i).size=z)=>y23 (B:=B) (ls:=vE B i) (a:=mE B i) (row:=6*i) (o:=5*i) (y:=(mE B (i+1)).size) aTE rfl AM AM AM AM hz rfl (by rw[←hz];exact ss);have ri:nO B i=6*i:=if_neg AM;have gi:aDl B i = .sl 5 (5*i) 1 (B.length-5*i):=if_neg AM;have g1:aCt B (i+1)=[lpB,some (.blk false (.cells true [.pt 1 0,.sb 6 (mE B (i+1)).size])),none,some (.blk false (.cells true [.pt 4 0])),ckB B.length,uS B,some (.blk true (.cells true (dU (mE B (i+1)))))]:=if_neg AM;rw[←sv]at y;have gP:=fC (mE B (i+1));have gA:=fC (mE B i);have d1:(((B.length-5*i:Nat):Int)>0)=True:=AAa;have d2:(0<((B.length-5*i:Nat):Int))=True:=AAa;by_cases hl:i+1=dK B
    ·skip
     have n1:(vE B i).length=B.length-5*i:=AM
     have d3:(5<((B.length-5*i:Nat):Int))=False:=AAb;have sn:aDl B (i+1) = .fs []:=if_pos hl;have rn:IntKind.i64.wrap (((6*i:Nat):Int)+(((B.length-5*i:Nat):Int)+1))=((nO B (i+1):Nat):Int):=by rw[aI AM AM];unfold nO;rw[if_pos hl];omega
     have rm:IntKind.i64.wrap (((B.length-5*i:Nat):Int)+1)=((B.length-5*i:Nat):Int)+1:=aI AM AM;have d5:(B.length-5*i=0)=False:=AAb;have d7:(((B.length-5*i:Nat):Int)≤((B.length-5*i:Nat):Int))=True:=AAa;have d8:(B.length-5*i<B.length-5*i)=False:=AAb;have d6:(0<B.length-5*i)=True:=AAa;rw[n1]at y;by_cases hi0:i=0
     ·subst hi0
      have y1:=y 9 rfl;have s0:aDl B 0 = .sl 5 0 1 B.length:=if_neg AM;have r0:nO B 0=0:=if_neg AM;have gA:lJ (dU hdB)=true:=fC hdB;have sv0:mE B 0=hdB:=rfl;rw[sv0]at y1;rw[Nat.mul_zero]at *;rw[aB3]at *;have rn:IntKind.i64.wrap (0+((B.length:Nat)+1:Int))=((nO B (0+1):Nat):Int):=rn;have y1:runYW aB (.fn (.yield 0) [] []) [I 0,.sl 3 0 1 (B.length)] [lpB,some (.blk false (.cells true [.pt 1 0,.sb 2 9])),some (.blk true (.cells true (dU hdB))),uS B]=_:=y1;rw[s0,r0,sn,g1,g0];clear y ss ps z1 z2 sv pl hl np;generalize mE B (0+1)=A' at *;generalize nO B (0+1)=R at *;(exact kO d1 d2 d3 d5 d6 d7 d8 y1 rn rm gP gA gB dO eA eC bX bV bW aE)
     ·have y1:=y _ rfl
      have gg:aCt B i=[lpB,some (.blk false (.cells true [.pt 1 0,.sb 6 (mE B i).size])),none,some (.blk false (.cells true [.pt 4 0])),ckB B.length,uS B,some (.blk true (.cells true (dU (mE B i))))]:=if_neg hi0;rw[gi,ri,sn,g1,gg];clear y ss ps z1 z2 sv pl hl np;generalize mE B (i+1)=A' at *;generalize mE B i=A at *;generalize nO B (i+1)=R at *;generalize B.length-5*i=m at *;generalize 6*i=r at *;generalize 5*i=o at *;(exact kO d1 d2 d3 d5 d6 d7 d8 y1 rn rm gP gA gB dO eA eC bX bV bW aE)
    ·skip
     have n1:(vE B i).length=5:=AM
     have d3:(5<((B.length-5*i:Nat):Int))=True:=AAa;have sn:aDl B (i+1) = .sl 5 (5*i+5) 1 (B.length-5*i-5):=by
      unfold aDl;rw[if_neg AM,show 5*(i+1)=5*i+5 by omega,Nat.sub_add_eq]
     have rn:IntKind.i64.wrap (((6*i:Nat):Int)+6)=((nO B (i+1):Nat):Int):=by rw[aI AM AM];unfold nO;rw[if_neg AM];omega
     have d5:(5<B.length-5*i)=True:=AAa;have d7:(5≤((B.length-5*i:Nat):Int))=True:=AAa;have d8:(0<B.length-5*i)=True:=AAa;have d6:(5≤B.length-5*i)=True:=AAa;rw[n1]at y;by_cases hi0:i=0
     ·subst hi0
      have y1:=y 9 rfl;have s0:aDl B 0 = .sl 5 0 1 B.length:=if_neg AM;have r0:nO B 0=0:=if_neg AM;have gA:lJ (dU hdB)=true:=fC hdB;have sv0:mE B 0=hdB:=rfl;rw[sv0]at y1;rw[Nat.mul_zero]at *;rw[aB3]at *;have r6:nO B (0+1)=6:=if_neg AM;rw[r6];have y1:runYW aB (.fn (.yield 0) [] []) [I 0,.sl 3 0 1 (5)] [lpB,some (.blk false (.cells true [.pt 1 0,.sb 2 9])),some (.blk true (.cells true (dU hdB))),uS B]=_:=y1;rw[s0,r0,sn,g1,g0];clear y ss ps z1 z2 sv pl hl np;generalize mE B (0+1)=A' at *;(exact kO d1 d2 d3 d5 d6 d7 d8 y1 rn gP gA gB dO eA eC bX bV bW aE aE)
     ·have y1:=y _ rfl
      have gg:aCt B i=[lpB,some (.blk false (.cells true [.pt 1 0,.sb 6 (mE B i).size])),none,some (.blk false (.cells true [.pt 4 0])),ckB B.length,uS B,some (.blk true (.cells true (dU (mE B i))))]:=if_neg hi0;rw[gi,ri,sn,g1,gg];clear y ss ps z1 z2 sv pl hl np;generalize mE B (i+1)=A' at *;generalize mE B i=A at *;generalize nO B (i+1)=R at *;generalize B.length-5*i=m at *;generalize 6*i=r at *;generalize 5*i=o at *;(exact kO d1 d2 d3 d5 d6 d7 d8 y1 rn gP gA gB dO eA eC bX bV bW aE aE)
   ·have s0:aDl B (dK B) = .fs []:=if_pos rfl
    have g1:aCt B (dK B)=[lpB,some (.blk false (.cells true [.pt 1 0,.sb 6 (mE B (dK B)).size])),none,some (.blk false (.cells true [.pt 4 0])),ckB B.length,uS B,some (.blk true (.cells true (dU (mE B (dK B)))))]:=if_neg AM;(exact RS2 s0 g1)
abbrev cr0(k:AV):Option XB:=some (.blk false (.cells false [.pt 1 0,.any,.any,.any,.any,.any,k]))
abbrev cr1(k:AV):Option XB:=some (.blk false (.cells false [.any,.any,.any,.any,.any,.any,k]))
theorem w70{n:Nat}:runW aB 70 [.pt 0 0] [cr1 (.sl 1 0 1 n),uS B]=some (.fn (.func 116) [] [.pt 2 0],[cr1 (.sl 1 0 1 n),uS B,some (.blk false (.cells true [.pt 0 0]))]):=by
 have gB:=eJ B;rw[qX 70 x70 rfl];unfold x70;dsimp only;(exact vI gB bX bV bW)
theorem w23(h0:1≤B.length)(h1:B.length≤300):runW aB 23 [.pt 0 0] [cr0 (.sl 2 0 1 B.length),none,uS B]=some (.str (bJ B),[cr1 (.sl 2 0 1 B.length),none,uS B]):=by
 have gB:=eJ B;have np:dK B=(B.length+4)/5:=rfl;have c59:runW aB 59 [.pt 0 0] [cr0 (.sl 2 0 1 B.length),none,uS B]=some (.bool false,[cr0 (.sl 2 0 1 B.length),none,uS B]):=by
  rw[qY 59 x59 rfl];unfold x59;dsimp only;(exact wO)
 have c69:runW aB 69 [.bp 0,.str ⟨#[122,97,102,114,97,32,49,52,10]⟩] [some (.blk true (.cells true [.nilpt,.nilsl]))] =
  some (.tup [I 9,.nilifc],[some (.blk false (.cells true [.pt 0 0,.sb 1 9])),some (.blk true (.cells true (dU hdB)))]):=aSR (s:=hdB) (by decide) (by decide)
 have c70:=w70 (B:=B) (n:=B.length);have c116:runW aB 116 [.fn (.yield 0) [] [],.pt 3 0] [lpB,some (.blk false (.cells true [.pt 1 0,.sb 2 9])),some (.blk true (.cells true (dU hdB))),some (.blk false (.cells true [.pt 4 0])),ckB B.length,uS B]=some (.tup [],aCt B (dK B)):=aZn h0 h1;have g1:aCt B (dK B)=[lpB,some (.blk false (.cells true [.pt 1 0,.sb 6 (mE B (dK B)).size])),none,some (.blk false (.cells true [.pt 4 0])),ckB B.length,uS B,some (.blk true (.cells true (dU (mE B (dK B)))))]:=if_neg AM;rw[g1]at c116;obtain⟨_,z1,z2⟩:=aBe B (dK B);have c71:=w71 (a:=mE B (dK B)) AM AM;have gh:=fC hdB;have gP:=fC (mE B (dK B));have e:bJ B=mE B (dK B):=rfl;rw[e,qX 23 x23 rfl];unfold x23;dsimp only;generalize mE B (dK B)=A at *;generalize hdB=Hd at *;(exact kO c59 c69 c70 c116 c71 gh gP gB dO eA eC bX bV bW aE aE aE aE aE aE)
theorem aYL:runW aB 23 [.pt 0 0] [cr0 .nilsl,none]=some (.str hdB,[cr1 .nilsl,none]):=by
 have c59:runW aB 59 [.pt 0 0] [cr0 .nilsl,none]=some (.bool false,[cr0 .nilsl,none]):=by
  rw[qY 59 x59 rfl];unfold x59;dsimp only;(exact wO)
 have c69:runW aB 69 [.bp 0,.str ⟨#[122,97,102,114,97,32,49,52,10]⟩] [some (.blk true (.cells true [.nilpt,.nilsl]))] =
  some (.tup [I 9,.nilifc],[some (.blk false (.cells true [.pt 0 0,.sb 1 9])),some (.blk true (.cells true (dU hdB)))]):=aSR (s:=hdB) (by decide) (by decide)
 have c70:runW aB 70 [.pt 0 0] [cr1 .nilsl]=some (.fn (.func 116) [] [.pt 1 0],[cr1 .nilsl,some (.blk false (.cells true [.pt 0 0]))]):=by
  rw[qX 70 x70 rfl];unfold x70;dsimp only;(exact wO)
 have gh:=fC hdB;have c116:runW aB 116 [.fn (.yield 0) [] [],.pt 3 0] [lpB,some (.blk false (.cells true [.pt 1 0,.sb 2 9])),some (.blk true (.cells true (dU hdB))),some (.blk false (.cells true [.pt 4 0])),cr1 .nilsl]=some (.tup [],[lpB,some (.blk false (.cells true [.pt 1 0,.sb 2 9])),some (.blk true (.cells true (dU hdB))),some (.blk false (.cells true [.pt 4 0])),cr1 .nilsl]):=by
  rw[qX 116 aKm rfl];unfold aKm;dsimp only;sym =>
   simp[Za,Zb,Zf,Zg,Zh,Zj,Zl,Zm,Zo,Zp,Zr,Zv,Zx,Zy,Zz,Z9,ZA,ZC,ZF,ZR,ZV,Ye,Yh,Ym,Yn,Yp,Yt,Yx,YJ,Xo,Xy,Xz,XJ,XM,XW,XY,Wa,Wb,Wf,Wm,Wu,Ww,Wy,W4,W6,W8,W9,WB,WC,WG,WI,WL,WO,Va,Vc,Vf,Vj,Vk,Vt,V1,V2,V3,V4,V7,V8,V9,VA,VB,VC,VD,VE,VF,VG,VH,VI,VJ,VK,VL,VM,VN,VO,VP,VQ,VR,VS,VT,VU,VV,VW,VX,VY,VZ,Ua,Ub,Uc,Ud,Ue,Uf,Ug,Uh,Ui,Uj,Uu,Uw,Ux,Uy,UD,UE,UF,UH,UI,UJ,UK,UL,UM,UO,UP,UQ,UR,UT,UU,UV,UW,UX,UZ,Ta,Tc,Td,Te,Tf,Tg,Th,Ti,Tj,Tl,Tm,Tq,Tr,Tt,T2,T3,T5,T8,T9,TA,TB,TC,TF,TJ,TK,TU,TV,Sn,Sp,Su,Sz,S7,S9,SA,SB,SC,SD,SE,SF,SI,SK,SL,SM,SN,SS,RK,RN,RQ,RR,RU,RV,RW,RX,Qh,Qw,Qx,Qz,Q0,QA,QB,QD,QI,QK,QN,QO,QQ,QS,QW,QX,QY,QZ,Pa,Pq,Pr,gh,dO,eA,eC]
   tactic =>
    unfold aHq;rw[aS 0 (fun i=>[.fn (.yield 0) [] [],I 0,.nilsl]) (fun i=>[lpB,some (.blk false (.cells true [.pt 1 0,.sb 2 9])),some (.blk true (.cells true (dU hdB))),some (.blk false (.cells true [.pt 4 0])),cr1 .nilsl])];·(exact vI gh dO eA eC)
    ·(exact vI gh dO eA eC)
    ·intro i hi;omega
    ·(exact vI gh dO eA eC)
 have c71:=w71 (a:=hdB) (by decide) (by decide);have c71:runW aB 71 [.bp 0] [some (.blk false (.cells true [.pt 0 0,.sb 1 9])),some (.blk true (.cells true (dU hdB)))]=some (.str hdB,[some (.blk false (.cells true [.pt 0 0,.sb 1 9])),none]):=c71;rw[qX 23 x23 rfl];unfold x23;dsimp only;generalize hdB=Hd at *;(exact nJ c59 c69 c70 c116 c71 gh dO eA eC bX bV bW aE)
end
def d21:XFn:=aWk 41
theorem aAD:aB 21=some d21:=rfl
theorem aEZ{e:aH}{n:Nat}{a:ByteArray}(he:e 4 = .pt n 0)(hn:aG h n=some (.cells true [.str a])):jD saySay.res e (aG h)=some (.str a):=by
 obtain⟨g,hg⟩:=aC hn;unfold saySay;dsimp only;(exact RS2 he hg)
def aDw(h:XH)(L:CL)(line:ByteArray)(s':dR)(a:ByteArray):Prop:=∃ h3 L3,aSF aB d21 h.length 0 (h.length+1) (aBl L.c h.length line) (h++lN) h3 (.str a)∧Lays h3 L3 s'∧L3.c=L.c
theorem Lays.nlt(ly:Lays h L s):h.length∉tW L s:=fun hm=>by
 obtain⟨j,hj⟩:=bB.1 hm;have:=ly.lt j _ hj;omega
theorem aMB(ly:Lays h L s)(hp:runW aB 60 [.str line] []=some (v,[]))(hw:IsW w v)(hlt:s.book.length<300)(co:∀ k:XH,vJ (h++k) L s v (uJ s w)):aDw h L line { uJ s w with book:=s.book++[line] } ⟨⟨[111,107]⟩⟩:=by
 obtain⟨f,r1,r2,rfl⟩:=hw.shape;obtain⟨n,hn⟩:∃ n,h.length=n:=⟨_,rfl⟩;have lyw:=ly.ext (wB f r1 r2);obtain⟨g,caps,hcc,h3,call,hg,fr1,q1,L3,call2,ly3,hL,fr2,sb⟩:∃(g:Nat)(caps:List AV)(hc h3:XH),runW aB 61 [.pt L.c 0,.agg [.str f,.fs r1,.fs r2]] (h++wB f r1 r2)=some (.fn (.func g) [] caps,hc)∧aRM g∧Fr [] (h++wB f r1 r2) hc∧True∧∃ L3,runW aB g caps hc=some (.tup [],h3)∧Lays h3 L3 (uJ s w)∧L3.c=L.c∧Fr (tW L s) hc h3∧Sb hc.length L s L3 (uJ s w):=by
  obtain⟨g,caps,hc1,a1,a2,a3,h3,L3,a4,a5,a6,a7,a8⟩:=co (wB f r1 r2);exact⟨g,caps,hc1,h3,a1,a2,a3,trivial,L3,a4,a5,a6,a7,a8⟩
 have lyc:Lays hcc L s:=lyw.fr fr1 fun _ _ _ hb=>by cases hb
 have n0:aG (h++wB f r1 r2) n=some (.cells true [.str ⟨⟨[]⟩⟩]):=by
  have:=bR (h:=h) (k:=wB f r1 r2) 0 (g:=true) (c:=.cells true [.str ⟨⟨[]⟩⟩]) rfl;rw[hn]at this;exact this
 have nl:=ly.nlt;rw[hn]at nl;have n1:aG hcc n=some (.cells true [.str ⟨⟨[]⟩⟩]):=fr1.keepS n0 (by simp);have n3:aG h3 n=some (.cells true [.str ⟨⟨[]⟩⟩]):=fr2.keepS n1 nl;have nn:n∉tW L3 (uJ s w):=fun hm=>by
  rcases sb n hm with hm|hm;·exact nl hm
  ·have:=aF n1;omega
 have hbk:(uJ s w).book=s.book:=by
  cases w<;>first|rfl|(unfold uJ;dsimp only;split<;>rfl)
 obtain⟨h4,k1,k2,k3⟩:∃ h4,qD [0,1,4] (execW aB 21 (n+1) none b21 (aBl L.c n line) (h++lN))=some (.ret,[.pt L.c 0,.str line,.pt n 0],h4)∧Lays h4 { L3 with kb:=h3.length+1 } { uJ s w with book:=(uJ s w).book++[line] }∧aG h4 n=some (.cells true [.str ⟨⟨[111,107]⟩⟩]):=by
  by_cases hk:s.book.length=0;·exact aQi ly hn hp call hg call2 hlt lyc ly3 hL (by rw[hbk]) n3 rfl nn hk
  ·exact aQj ly hn hp call hg call2 hlt lyc ly3 hL (by rw[hbk]) n3 rfl nn AM
 obtain⟨e,k4,k5⟩:=aGZ k1;have he:e 4 = .pt n 0:=by
  have:=AAt (fun l=>l[2]?) k5;simpa using this
 rw[hbk]at k2;refine⟨h4++[some (.blk true (.cells true [I 0]))],_,.inl ⟨.ret,e,h4,(fun _ q=>by cases q),?_,?_,?_⟩,k2.ext _,hL⟩;·rw[hn];exact k4
 ·rw[hn];exact aJF
 ·exact aEZ he ((Fr.app h4 _).keepS k3 (by simp))
theorem aAK(ly:Lays h L s){e:Int}(he:e∈pD)(hp:PanX Tryz.prog aB d21 (h.length+1) b21 (aBl L.c h.length line) (h++lN) (.ifc 110 (.agg [I e])) (bH [4] [.pt h.length 0]) h2)(ly2:Lays h2 L s)(n2:aG h2 h.length=some (.cells true [.str ⟨⟨[]⟩⟩])):aDw h L line s (noA e):=by
 obtain⟨g,hg⟩:=aC n2;refine⟨_,L,.inr ⟨.agg [I e],_,h2,hp,aNZ hg he,?_⟩,?_,rfl⟩
 ·refine aEZ rfl ?_
  rw[fY,if_pos (by rw[C9];exact aF n2),cW,if_pos rfl,if_pos (aF n2)]
 ·refine Lays.ext (ly2.fr ((Fr.refl [h.length] h2).set (by simp) _) fun j b hb hm=>?_) _
  rw[B2]at hm;have:=ly.lt j b hb;omega
theorem aYl:aG (h++lN) h.length=some (.cells true [.str ⟨⟨[]⟩⟩]):=bR (h:=h) (k:=lN) 0 (g:=true) rfl
theorem aPH{f:ByteArray}{r1 r2:List (List AV)}:aG (h++wB f r1 r2) h.length=some (.cells true [.str ⟨⟨[]⟩⟩]):=bR (h:=h) (k:=wB f r1 r2) 0 (g:=true) rfl
theorem aEJ(ly:Lays h L s):qD [0,1,4] (execW aB 21 (h.length+1) none (match b21 with | .seq a _=>a|c=>c) (aBl L.c h.length line) (h++lN))=some (.normal,[.pt L.c 0,.str line,.pt h.length 0],h++lN):=by
 have c59:=w59 (ly.ext lN);have m1:=uQ 9;obtain⟨n,hn⟩:∃ n,h.length=n:=⟨_,rfl⟩;rw[hn];unfold b21 aBl lN at *;(exact RS3 hn c59 m1)
theorem aMy(ly:Lays h L s){e:Int}(he:e∈pD)(hp:CalP Tryz.prog aB 60 [.str line] [] (.ifc 110 (.agg [I e])) []):aDw h L line s (noA e):=by
 refine aAK ly he ?_ (ly.ext lN) aYl;have r1:=aEJ (line:=line) ly;unfold b21 at r1 ⊢;refine PanX.seqR (K:=21) aA aAD [0,1,4] r1 ?_;refine PanX.seqL ?_;refine PanX.reg (p:=[⟨0,some 12,.mv (.t 1),none⟩]) (post:=[⟨0,some 5,.alloc [.str ⟨⟨[]⟩⟩,.nilsl,.nilsl],none⟩,⟨0,none,.store 3 (.t 5) (.t 13) [],none⟩]) aA [4] (g:=60) (first:=[]) (cap:=[]) (args:=[.str line]) (vs:=[.pt h.length 0]) (h1:=h++lN) rfl rfl ?_ (CalP.pure hp (fun a ha=>by rw[B2.1 ha];exact .str _) (.ifc _ _ (.agg _ fun a ha=>by rw[B2.1 ha];exact .int _ _)) _);obtain⟨n,hn⟩:∃ n,h.length=n:=⟨_,rfl⟩;rw[hn];unfold lN;(exact dM hn)
theorem aHD(f:ByteArray)(r1 r2:List (List AV)){c:Nat}(hp:runW aB 60 [.str line] []=some (.agg [.str f,.fs r1,.fs r2],[])):qD [0,1,4,5] (execW aB 21 (h.length+1) none (match b21 with | .seq _ (.seq a _)=>a|c=>c) (bH [0,1,4] [.pt c 0,.str line,.pt h.length 0]) (h++lN))=some (.normal,[.pt c 0,.str line,.pt h.length 0,.pt (h.length+1) 0],h++wB f r1 r2):=by
 obtain⟨n,hn⟩:∃ n,h.length=n:=⟨_,rfl⟩;rw[hn];unfold b21 lN wB at *;(exact RS2 hn hp)
theorem aMC(ly:Lays h L s){e:Int}(he:e∈pD)(hp:runW aB 60 [.str line] []=some (v,[]))(hw:IsW w v)(hc:∀ k:XH,∃ h1,CalP Tryz.prog aB 61 [.pt L.c 0,v] (h++k) (.ifc 110 (.agg [I e])) h1∧Fr [] (h++k) h1):aDw h L line s (noA e):=by
 obtain⟨f,r1,r2,rfl⟩:=hw.shape;obtain⟨h1,hcal,fr⟩:=hc (wB f r1 r2);refine aAK (h2:=h1) ly he ?_ ((ly.ext (wB f r1 r2)).fr fr fun _ _ _ hb=>by cases hb) (fr.keepS aPH (by simp));have r1':=aEJ (line:=line) ly;have r2':=aHD (h:=h) f r1 r2 (c:=L.c) hp;unfold b21 at r1' r2' ⊢;refine PanX.seqR (K:=21) aA aAD [0,1,4] r1' ?_;refine PanX.seqR (K:=21) aA aAD [0,1,4,5] r2' ?_;refine PanX.seqL ?_;refine PanX.reg (p:=[⟨0,some 14,.mv (.t 0),none⟩,⟨0,some 15,.load true 3 (.t 5),none⟩]) (post:=[⟨0,some 6,.mv (.t 16),none⟩]) aA [4] (g:=61) (first:=[]) (cap:=[]) (args:=[.pt L.c 0,.agg [.str f,.fs r1,.fs r2]]) (vs:=[.pt h.length 0]) (h1:=h++wB f r1 r2) rfl rfl ?_ hcal;obtain⟨n,hn⟩:∃ n,h.length=n:=⟨_,rfl⟩;rw[hn];unfold wB;(exact dM hn)
theorem aMx(f:ByteArray)(r1 r2:List (List AV)){c:Nat}{k:AV}{hh:XH}(call:runW aB 61 [.pt c 0,.agg [.str f,.fs r1,.fs r2]] (h++wB f r1 r2)=some (k,hh)):qD [0,1,4,5,6] (execW aB 21 (h.length+1) none (match b21 with | .seq _ (.seq _ (.seq a _))=>a|c=>c) (bH [0,1,4,5] [.pt c 0,.str line,.pt h.length 0,.pt (h.length+1) 0]) (h++wB f r1 r2))=some (.normal,[.pt c 0,.str line,.pt h.length 0,.pt (h.length+1) 0,k],hh):=by
 obtain⟨n,hn⟩:∃ n,h.length=n:=⟨_,rfl⟩;rw[hn];unfold b21 wB at *;(exact RS2 hn call)
theorem aMA{s0:dR}(ly:Lays h L s)(hp:runW aB 60 [.str line] []=some (v,[]))(hw:IsW w v)(co:∀ k:XH,vJ (h++k) L s v s0)(hlt:s.book.length=300):aDw h L line s (noA 15):=by
 obtain⟨f,r1,r2,rfl⟩:=hw.shape;have lyw:=ly.ext (wB f r1 r2);obtain⟨g,caps,hcc,call,hg,fr1,_⟩:=co (wB f r1 r2);have lyc:Lays hcc L s:=lyw.fr fr1 fun _ _ _ hb=>by cases hb
 refine aAK (h2:=hcc) ly (by decide) ?_ lyc (fr1.keepS aPH (by simp));have r1':=aEJ (line:=line) ly;have r2':=aHD (h:=h) f r1 r2 (c:=L.c) hp;have r3':=aMx (line:=line) f r1 r2 call;obtain⟨gc,hcx⟩:=aC lyc.hc;unfold bY at hcx;rw[eR (b:=L.kb) AM]at hcx;unfold b21 at r1' r2' r3' ⊢;refine PanX.seqR (K:=21) aA aAD [0,1,4] r1' ?_;refine PanX.seqR (K:=21) aA aAD [0,1,4,5] r2' ?_;refine PanX.seqR (K:=21) aA aAD [0,1,4,5,6] r3' ?_;refine PanX.seqR (K:=21) aA aAD [0,1,4,5,6] (vs:=[.pt L.c 0,.str line,.pt h.length 0,.pt (h.length+1) 0,.fn (.func g) [] caps]) (h1:=hcc) (by (exact wO)) ?_;refine PanX.seqL ?_;have t1:((s.book.length:Int)<300)=False:=AAb;exact PanX.reg (p:=[⟨0,some 22,.mv (.t 0),none⟩,⟨0,some 23,.nilck (.t 22),none⟩,⟨0,some 24,.fld 6 (.t 23),none⟩,⟨0,some 25,.load false 1 (.t 24),none⟩,⟨0,some 26,.len false (.t 25),none⟩,⟨0,some 27,.bin .lss (.t 26) (.c (.int .i64 300)),none⟩]) (post:=[]) aA [4] (g:=58) (first:=[]) (cap:=[]) (args:=[.bool false,I 15]) (vs:=[.pt h.length 0]) (h1:=hcc) rfl rfl (by (exact RS2 hcx t1)) (c58 15 _)
theorem rL(ly:Lays h L s){e:Int}(he:e∈pD)(hp:runW aB 60 [.str line] []=some (v,[]))(hw:IsW w v)(call:∀ k:XH,∃ hh,runW aB 61 [.pt L.c 0,v] (h++k)=some (.nilfn,hh)∧Fr [] (h++k) hh)(hc:∀ hh:XH,Lays hh L s→∃ h1,CalP Tryz.prog aB 62 [.pt L.c 0,v] hh (.ifc 110 (.agg [I e])) h1∧Frz hh.length hh h1):aDw h L line s (noA e):=by
 obtain⟨f,r1,r2,rfl⟩:=hw.shape;obtain⟨hq,c61,fr1⟩:=call (wB f r1 r2);have lyw:=ly.ext (wB f r1 r2);have lyq:Lays hq L s:=lyw.fr fr1 fun _ _ _ hb=>by cases hb
 obtain⟨h3,hcal,fz⟩:=hc hq lyq;have nq:aG hq h.length=some (.cells true [.str ⟨⟨[]⟩⟩]):=fr1.keepS aPH (by simp);have sq:(hat hq (h.length+1)).isSome=true:=by
  have:aG (h++wB f r1 r2) (h.length+1)=some (.cells true [.str f,.fs r1,.fs r2]):=bR 1 (g:=true) rfl;obtain⟨g,hg⟩:=aC (fr1.keepS this (by simp));rw[hg];rfl
 have q1:aG hq (h.length+1)=some (.cells true [.str f,.fs r1,.fs r2]):=fr1.keepS (bR 1 (g:=true) rfl) (by simp);obtain⟨g1,q2⟩:=aC q1;refine aAK (h2:=h3) ly he ?_ (lyq.frz fz) (fz _ _ nq fun _ _ _=>rfl);have r1':=aEJ (line:=line) ly;have r2':=aHD (h:=h) f r1 r2 (c:=L.c) hp;have r3':=aMx (line:=line) f r1 r2 c61;unfold b21 at r1' r2' r3' ⊢;refine PanX.seqR (K:=21) aA aAD [0,1,4] r1' ?_;refine PanX.seqR (K:=21) aA aAD [0,1,4,5] r2' ?_;refine PanX.seqR (K:=21) aA aAD [0,1,4,5,6] r3' ?_;refine PanX.seqL ?_;refine PanX.seqR (K:=21) aA aAD [0,4,5,18] (vs:=[.pt L.c 0,.pt h.length 0,.pt (h.length+1) 0,.bool true]) (h1:=hq) (by (exact wO)) ?_;refine PanX.condT rfl ?_;refine PanX.seqL ?_;refine PanX.reg (p:=[⟨0,some 19,.mv (.t 0),none⟩,⟨0,some 20,.load true 3 (.t 5),none⟩]) (post:=[⟨0,none,.store 1 (.t 4) (.t 21) [],none⟩]) aA [4] (g:=62) (first:=[]) (cap:=[]) (args:=[.pt L.c 0,.agg [.str f,.fs r1,.fs r2]]) (vs:=[.pt h.length 0]) (h1:=hq) rfl rfl ?_ hcal;obtain⟨n,hn⟩:∃ n,h.length=n:=⟨_,rfl⟩;rw[hn]at q2 ⊢;cases g1;all_goals (exact RS2 hn q2)
theorem aIG{h k:XH}(cd:Cd h)(hk:∀ x∈k,∀ b∈nmO x,b<h.length):Cd (h++k):=fun x hx b hb=>by
 rw[B6];rcases A9.1 hx with hx|hx;·have:=cd x hx b hb;omega
 ·have:=hk x hx b hb;omega
def aYs(h:XH)(c:Nat)(v:AV):Prop:=∀ k:XH,∃ bx,runW aB 61 [.pt c 0,v] (h++k)=some (.nilfn,(h++k)++bx)∧∀ x∈bx,∀ b∈nmO x,b=c
theorem aAw(ha:w.asks=true)(hw:IsW w v)(h:XH)(c:Nat):aYs h c v:=by
 have bxs:∀ cs:List AV,∀ x∈[some (XB.blk false (.cells true [.pt c 0])),some (.blk true (.cells true cs))],∀ b∈nmO x,b=c:=fun cs x hx b hb=>by
  simp only[B3,G6,AAi]at hx;rcases hx with rfl|rfl;·simpa [nmO,nmB,lF,iZ]using hb
  ·simp[nmO,nmB]at hb
 intro k;cases w with
 | net x=>obtain⟨_,rfl⟩:=hw;exact⟨_,aSU,bxs _⟩
 | total=>cases hw;exact⟨_,aLP,bxs _⟩
 | ticket i=>obtain⟨_,rfl⟩:=hw;exact⟨_,aKp,bxs _⟩
 | used x=>obtain⟨_,rfl⟩:=hw;exact⟨_,aPL,bxs _⟩
 | loss x=>obtain⟨_,rfl⟩:=hw;exact⟨_,aPM,bxs _⟩
 | power x=>obtain⟨_,rfl⟩:=hw;exact⟨_,aLQ,bxs _⟩
 | _=>cases ha
theorem pN(ly:Lays h L s)(cd:Cd h){a:ByteArray}(hp:runW aB 60 [.str line] []=some (v,[]))(hw:IsW w v)(ask:aYs h L.c v)(hc:∀ hh:XH,Lays hh L s→Cd hh→∃ h1,runW aB 62 [.pt L.c 0,v] hh=some (.str a,h1)∧Frz hh.length hh h1):aDw h L line s a:=by
 obtain⟨f,r1,r2,rfl⟩:=hw.shape;obtain⟨bx,c61,hbx⟩:=ask (wB f r1 r2);obtain⟨hq,hqe⟩:∃ hq,hq=(h++wB f r1 r2)++bx:=⟨_,rfl⟩;rw[←hqe]at c61;have lyw:=ly.ext (wB f r1 r2);have lyq:Lays hq L s:=by rw[hqe];exact lyw.ext bx
 have lc:=aF ly.hc;have cdq:Cd hq:=by
  rw[hqe];refine aIG (aIG cd fun x hx b hb=>?_) fun x hx b hb=>?_
  ·simp only[wB,B3,G6,AAi]at hx
   rcases hx with rfl|rfl;·simp[nmO,nmB]at hb
   ·simp[nmO,nmB]at hb
  ·rw[hbx x hx b hb,B6];omega
 obtain⟨h3,c62,fz⟩:=hc hq lyq cdq;have fr1:Fr [] (h++wB f r1 r2) hq:=by rw[hqe];exact Fr.app _ _
 have nq:aG hq h.length=some (.cells true [.str ⟨⟨[]⟩⟩]):=fr1.keepS aPH (by simp);have q1:aG hq (h.length+1)=some (.cells true [.str f,.fs r1,.fs r2]):=fr1.keepS (bR 1 (g:=true) rfl) (by simp);obtain⟨g1,q2⟩:=aC q1;have n3:=fz _ _ nq fun _ _ _=>rfl;obtain⟨g3,n3'⟩:=aC n3;have c59:=w59 (ly.ext lN);have m1:=uQ 9;obtain⟨n,hn⟩:∃ n,h.length=n:=⟨_,rfl⟩;have key:qD [0,1,4] (execW aB 21 (n+1) none b21 (aBl L.c n line) (h++lN))=some (.ret,[.pt L.c 0,.str line,.pt n 0],h3.set n (some (.blk g3 (.cells true [.str a])))):=by
  rw[hn]at q2 n3';unfold b21 aBl lN wB at *;cases g1;all_goals (exact uO hn c59 m1 hp c61 c62 q2 n3' aE)
 obtain⟨e,k4,k5⟩:=aGZ key;have he:e 4 = .pt n 0:=by
  have:=AAt (fun l=>l[2]?) k5;simpa using this
 rw[hn]at n3;have ly3:Lays (h3.set n (some (.blk g3 (.cells true [.str a])))) L s:=(lyq.frz fz).fr ((Fr.refl [n] h3).set (by simp) _) fun j b hb hm=>by
  rw[B2]at hm;have:=ly.lt j b hb;omega
 refine⟨_,L,.inl ⟨.ret,e,h3.set n (some (.blk g3 (.cells true [.str a]))),(fun _ q=>by cases q),?_,?_,?_⟩,ly3.ext [some (.blk true (.cells true [I 0]))],rfl⟩;·rw[hn];exact k4
 ·rw[hn];exact aJF
 ·refine aEZ he ((Fr.app _ _).keepS (?_:aG (h3.set n (some (.blk g3 (.cells true [.str a])))) n=some (.cells true [.str a])) (by simp))
  rw[cW,if_pos rfl,if_pos (aF n3)]
def tkL(k:CTk):List ByteArray:=if k.void then [k.wagon,k.farmer,⟨⟨Lib.itoa k.net⟩⟩,AAw] else [k.wagon,k.farmer,⟨⟨Lib.itoa k.net⟩⟩]
def tkT(k:CTk):ByteArray:=⟨⟨Lib.join ((tkL k).map (·.data.toList)) [32]⟩⟩
def aNz(n:Int):ByteArray:=⟨⟨Lib.itoa n⟩⟩
def aHl(P:dR→ByteArray→Int)(s:dR):Wd→Int ⊕ ByteArray
 | .net x=>match iD s.farmers x with|none=>.inl 5|some v=>.inr (aNz v)
 | .total=>.inr (aNz (aHz s))
 | .ticket i=>match s.tickets[i]? with|none=>.inl 5|some k=>.inr (tkT k)
 | .used x=>match iD s.meters x with|none=>.inl 5|some v=>.inr (aNz v.2)
 | .loss x=>match iD s.pans x with|none=>.inl 5|some v=>.inr (aNz v)
 | .power x=>match iD s.farmers x with|none=>.inl 5|some _=>.inr (aNz (P s x))
 | _=>.inl 0
def vN(P:dR→ByteArray→Int)(s:dR)(line:ByteArray):Int ⊕ Wd→ByteArray×dR
 | .inl e=>(noA e,s)
 | .inr w=>if w.asks then (match aHl P s w with | .inl e=>(noA e,s) | .inr a=>(a,s)) else
   match eO s w with
   | some e=>(noA e,s)
   | none=>if s.book.length=300 then (noA 15,s) else (⟨⟨[111,107]⟩⟩,{ uJ s w with book:=s.book++[line] })
def aKe(P:dR→ByteArray→Int):Prop:=∀(h:XH)(L:CL)(s:dR)(x:ByteArray),Lays h L s→gG s→match iD s.farmers x with
 | none=>∃ h1,CalP Tryz.prog aB 98 [.pt L.c 0,.str x] h (.ifc 110 (.agg [I 5])) h1∧Frz h.length h h1
 | some _=>(-1000000≤P s x∧P s x≤1000000)∧(Cd h→∃ h1,runW aB 98 [.pt L.c 0,.str x] h=some (I (P s x),h1)∧Frz h.length h h1)
theorem aIC{e:Int}(hc:eO s w=some e):e∈pD:=by
 cases w<;>unfold eO at hc<;>dsimp only at hc
 all_goals (repeat' split at hc)
 all_goals first|(cases hc;decide)|cases hc
theorem p99{xs:List AV}{h:XH}:runW aB 99 xs h=aBT xs h:=eL rfl rfl xs h
theorem Frz.of{hh:XH}{n:Nat}(h0:Fr [] h hh):Frz n h hh:=h0.frz
theorem aNP{n:Int}(h0:0≤n)(h1:n≤99999):(Lib.itoa n).length≤20:=by
 unfold Lib.itoa;rw[if_neg AM,Lib.decDigits_length];have hu:n.toNat≤99999:=AM
 generalize n.toNat=u at hu;by_cases a:u<10;·rw[Lib.nDigits_small a];omega
 ·rw[Lib.nDigits_big a]
  by_cases b:u/10<10;·rw[Lib.nDigits_small b];omega
  ·rw[Lib.nDigits_big b]
   by_cases c:u/10/10<10;·rw[Lib.nDigits_small c];omega
   ·rw[Lib.nDigits_big c]
    by_cases d:u/10/10/10<10;·rw[Lib.nDigits_small d];omega
    ·rw[Lib.nDigits_big d,Lib.nDigits_small (show u/10/10/10/10<10 by omega)];omega
theorem aPO{k:CTk}(hb:0≤k.net∧k.net≤99999)(hs:k.wagon.size≤10∧k.farmer.size≤10):runW aB 99 [.fs (if k.void then [[.str k.wagon],[.str k.farmer],[.str ⟨⟨Lib.itoa k.net⟩⟩],[.str AAw]] else [[.str k.wagon],[.str k.farmer],[.str ⟨⟨Lib.itoa k.net⟩⟩]]),.str ⟨⟨[32]⟩⟩] []=some (.str (tkT k),[]):=by
 have il:=aNP hb.1 hb.2;have s1:k.wagon.data.toList.length≤10:=by rw[D4];exact hs.1
 have s2:k.farmer.data.toList.length≤10:=by rw[D4];exact hs.2
 rw[p99];unfold aBT;cases hv:k.void with
 | true =>
   have e:rI [[AV.str k.wagon],[.str k.farmer],[.str ⟨⟨Lib.itoa k.net⟩⟩],[.str AAw]]=some (tkL k):=by unfold tkL;rw[hv];rfl
   simp only[AAe];rw[e];dsimp only;refine if_pos ⟨by unfold tkL;rw[hv];simp,?_⟩;unfold tkL;rw[hv];have:=Lib.join_length k.wagon.data.toList [k.farmer.data.toList,Lib.itoa k.net,[118,111,105,100]] [32];simp[Lib.lens]at this ⊢;omega
 | false =>
   have e:rI [[AV.str k.wagon],[.str k.farmer],[.str ⟨⟨Lib.itoa k.net⟩⟩]]=some (tkL k):=by unfold tkL;rw[hv];rfl
   simp only[C6,AAd];rw[e];dsimp only;refine if_pos ⟨by unfold tkL;rw[hv];simp,?_⟩;unfold tkL;rw[hv];have:=Lib.join_length k.wagon.data.toList [k.farmer.data.toList,Lib.itoa k.net] [32];simp[Lib.lens]at this ⊢;omega
theorem aQh{P:dR→ByteArray→Int}(pok:aKe P)(ly:Lays h L s)(cd:Cd h)(gs:gG s)(hp:runW aB 60 [.str line] []=some (v,[]))(hw:IsW w v)(hno:∀ e,w.asks=false→eO s w=some e→∀ k:XH,∃ h1,CalP Tryz.prog aB 61 [.pt L.c 0,v] (h++k) (.ifc 110 (.agg [I e])) h1∧Fr [] (h++k) h1)
 (hok:w.asks=false→eO s w=none→s.book.length≠300∧∀ k:XH,vJ (h++k) L s v (uJ s w)):aDw h L line (vN P s line (.inr w)).2 (vN P s line (.inr w)).1:=by
 have hbk:=gs.book;unfold vN;dsimp only;cases ha:w.asks with
 | false =>
   simp only[C6,AAd];cases hc:eO s w with
   | some e=>exact aMC ly (aIC hc) hp hw (hno e ha hc)
   | none =>
     obtain⟨hl,co⟩:=hok ha hc;dsimp only;rw[if_neg hl];exact aMB ly hp hw AM co
 | true =>
   simp only[AAe];have ask:=fun k:XH=>aAw ha hw h L.c k;have c61:∀ k:XH,∃ hh,runW aB 61 [.pt L.c 0,v] (h++k)=some (.nilfn,hh)∧Fr [] (h++k) hh:=fun k=>by
    obtain⟨bx,q1,_⟩:=ask k;exact⟨_,q1,Fr.app _ _⟩
   cases w with
   | net x =>
     obtain⟨z0,rfl⟩:=id hw;unfold aHl;dsimp only;cases hv:iD s.farmers x with
     | none=>exact rL ly (by decide) hp hw c61 (fun hh lyh=>⟨_,aUB lyh (fG.1 hv),(Fr.app hh _).frz⟩)
     | some y =>
       obtain⟨i,hi,hy⟩:=eI hv;have:=gs.bf _ (A5 hy);exact pN ly cd hp hw (aAw ha hw h L.c) fun hh lyh _=>⟨_,aSS lyh hi hy (by simp only at this;omega),(Fr.app hh _).frz⟩
   | total =>
     obtain rfl:=id hw;unfold aHl;dsimp only;by_cases hk:s.farmers.length=0;·exact pN ly cd hp hw (aAw ha hw h L.c) fun hh lyh cdh=>⟨_,aKn lyh cdh hk,(Fr.refl [] hh).frz⟩
     ·exact pN ly cd hp hw (aAw ha hw h L.c) fun hh lyh cdh=>⟨_,aLM lyh cdh AM gs.lf gs.nf (fun p hp=>by have:=gs.bf p hp;omega),(Fr.refl [] hh).frz⟩
   | ticket i =>
     obtain⟨u1,rfl⟩:=id hw;unfold aHl;dsimp only;cases hk:s.tickets[i]? with
     | none=>exact rL ly (by decide) hp hw c61 (fun hh lyh=>⟨_,aLp lyh (N7.1 hk),(Fr.app hh _).frz⟩)
     | some k =>
       obtain⟨b1,b2,b3,b4⟩:=gs.bt k (A5 hk);exact pN ly cd hp hw (aAw ha hw h L.c) fun hh lyh _=>aKo lyh hk ⟨b1,b2⟩ (aPO ⟨b1,b2⟩ b4)
   | used x =>
     obtain⟨z0,rfl⟩:=id hw;unfold aHl;dsimp only;cases hv:iD s.meters x with
     | none=>exact rL ly (by decide) hp hw c61 (fun hh lyh=>⟨_,aRy lyh (fG.1 hv),(Fr.app hh _).frz⟩)
     | some y =>
       obtain⟨i,hi,hy⟩:=eI hv;have:=gs.bm _ (A5 hy);exact pN ly cd hp hw (aAw ha hw h L.c) fun hh lyh _=>⟨_,aPI lyh hi hy (by simp only at this;omega),(Fr.app hh _).frz⟩
   | loss x =>
     obtain⟨z0,rfl⟩:=id hw;unfold aHl;dsimp only;cases hv:iD s.pans x with
     | none=>exact rL ly (by decide) hp hw c61 (fun hh lyh=>⟨_,aRz lyh (fG.1 hv),(Fr.app hh _).frz⟩)
     | some y =>
       obtain⟨i,hi,hy⟩:=eI hv;have:=gs.bp _ (A5 hy);exact pN ly cd hp hw (aAw ha hw h L.c) fun hh lyh _=>⟨_,aPJ lyh hi hy (by simp only at this;omega),(Fr.app hh _).frz⟩
   | power x =>
     obtain⟨z0,rfl⟩:=id hw;unfold aHl;dsimp only;cases hv:iD s.farmers x with
     | none =>
       exact rL ly (by decide) hp hw c61 (fun hh lyh=>by
        have q:=pok _ L s x (lyh.ext [some (.blk true (.cells true [.str AAF,.fs [[.str x]],.fs [[I z0]]]))]) gs;rw[hv]at q;obtain⟨h1,q1,q2⟩:=q;exact⟨h1,aOI q1,(Fr.app hh _).frz.trans fun j c hc hn=>q2 j c hc (hn.mono (by simp))⟩)
     | some y =>
       exact pN ly cd hp hw (aAw ha hw h L.c) fun hh lyh cdh=>by
        have q:=pok _ L s x (lyh.ext [some (.blk true (.cells true [.str AAF,.fs [[.str x]],.fs [[I z0]]]))]) gs;rw[hv]at q;obtain⟨b,q⟩:=q;obtain⟨h1,q1,q2⟩:=q (aIG cdh fun x hx b hb=>by
         rw[B2]at hx;subst hx;simp[nmO,nmB]at hb)
        exact⟨h1,aLN q1 AM,(Fr.app hh _).frz.trans fun j c hc hn=>q2 j c hc (hn.mono (by simp))⟩
   | _=>cases ha
theorem aQk{P:dR→ByteArray→Int}(pok:aKe P)(ly:Lays h L s)(cd:Cd h)(gs:gG s){r:Int ⊕ Wd}(hr:Prs line r)(hcode:∀ e,r = .inl e→e∈pD):aDw h L line (vN P s line r).2 (vN P s line r).1:=by
 cases r with
 | inl e=>exact aMy ly (hcode e rfl) hr
 | inr w =>
   obtain⟨v,hp,hw,_⟩:=hr;by_cases hf:w.asks=false∧eO s w=none∧s.book.length=300
   ·obtain⟨ha,hc,hl⟩:=hf
    have e:vN P s line (.inr w)=(noA 15,s):=by unfold vN;simp[ha,hc,hl]
    rw[e];exact aMA ly hp hw (fun k=>aOD (ly.ext k) gs hw ha hc) hl
   ·exact aQh pok ly cd gs hp hw (fun e ha hc k=>aUA (ly.ext k) gs hw ha hc) fun ha hc=>⟨fun q=>hf ⟨ha,hc,q⟩,fun k=>aOD (ly.ext k) gs hw ha hc⟩
variable{s:dR}{x line:ByteArray}{w:Wd}{v:AV}
theorem oY{α:Type}{f:α→α}{z:α}:∀{l:List (ByteArray×α)}{p:ByteArray×α},p∈mW f z x l→p∈l∨p=(x,z)∨∃ y,(x,y)∈l∧p=(x,f y)
 | [],p,h=>.inr (.inl (by simpa [mW]using h))
 | (k, y)::r,p,h=>by
   unfold mW at h;split at h
   ·rename_i hk
    rcases B3.1 h with h|h;·exact .inr (.inr ⟨y,by rw[←hk];simp,by rw[h,hk]⟩)
    ·exact .inl (E5 _ h)
   ·rcases B3.1 h with h|h
    ·exact .inl (by rw[h];simp)
    ·rcases oY h with h|h|⟨y',h1,h2⟩
     ·exact .inl (E5 _ h)
     ·exact .inr (.inl h)
     ·exact .inr (.inr ⟨y',E5 _ h1,h2⟩)
theorem yA{α:Type}{f:α→α}{z:α}:∀(l:List (ByteArray×α)),(mW f z x l).length=if (iD l x).isNone then l.length+1 else l.length
 | []=>rfl
 | (k, y)::r=>by
   have ih:=yA (f:=f) (z:=z) r;have e:iD ((k,y)::r) x=if k=x then some y else iD r x:=by
    unfold iD;show (if k=x then some 0 else (dY (r.map (·.1)) x).map (· + 1)).bind _=_;by_cases hk:k=x;·rw[if_pos hk,if_pos hk];rfl
    ·rw[if_neg hk,if_neg hk]
     cases dY (r.map (·.1)) x<;>rfl
   rw[e];unfold mW;by_cases hk:k=x;·rw[if_pos hk,if_pos hk];rfl
   ·rw[if_neg hk,if_neg hk,C8,ih]
    cases iD r x<;>rfl
theorem kN{d:Int}:∀(l:List (ByteArray×Int)),iA l x d=mW (· + d) d x l
 | []=>rfl
 | (k,y)::r=>by unfold iA mW;rw[kN r]
theorem aDQ{α:Type}{f:α→α}{z y:α}{l:List (ByteArray×α)}(h:iD l x=some y):(mW f z x l).map (·.1)=l.map (·.1):=by
 obtain⟨i,h1,h2⟩:=eI h;rw[oX h1 h2];exact lZ (fV h1) rfl
theorem aFM{d:Int}:∀{l:List (ByteArray×Int)}{p:ByteArray×Int},(l.map (·.1)).Nodup→x∈l.map (·.1)→p∈iA l x d→∃ y,(p.1,y)∈l∧p.2=y+if p.1=x then d else 0
 | [],p,_,hx,_=>by cases hx
 | (k, y)::r,p,nd,hx,h=>by
   rw[D7,I8]at nd;unfold iA at h;split at h
   ·rename_i hk
    rcases B3.1 h with h|h;·exact⟨y,by rw[h];simp,by rw[h];simp[hk]⟩
    ·refine⟨p.2,E5 _ h,?_⟩
     rw[if_neg,aI2];intro e;exact nd.1 (by rw[hk,←e];exact D6.2 ⟨p,h,rfl⟩)
   ·rename_i hk
    rcases B3.1 h with h|h;·exact⟨y,by rw[h];simp,by rw[h];simp[hk]⟩
    ·have hx2:x∈r.map (·.1):=by
      rw[D7]at hx;rcases B3.1 hx with e|e;·exact absurd e.symm hk
      ·exact e
     obtain⟨y',h1,h2⟩:=aFM nd.2 hx2 h;exact⟨y',E5 _ h1,h2⟩
theorem aMb(l:List CTk)(k:CTk)(x:ByteArray):vM (l++[k]) x=vM l x+if k.farmer=x∧k.void=false then k.net else 0:=by
 unfold vM;rw[F6,List.sum_append];simp
theorem aDB{x:ByteArray}:∀{l:List CTk},(∀ k∈l,k.farmer≠x)→vM l x=0
 | [],_=>rfl
 | k::r,h=>by
   have ih:=aDB (l:=r) fun k hk=>h k (E5 _ hk);unfold vM at ih ⊢;rw[D7,O9,ih,if_neg fun e=>h k (by simp) e.1];rfl
theorem aDA{x:ByteArray}:∀{l:List CTk}{i:Nat}{k:CTk},l[i]?=some k→k.void=false→vM (l.set i { k with void:=true }) x=vM l x-if k.farmer=x then k.net else 0
 | [],i,k,h,_=>by simp at h
 | k'::r,0,k,h,hv=>by
   rw[D0,oSI]at h;subst h;unfold vM;rw[aG6,D7,D7,O9,O9];by_cases e:k'.farmer=x;·simp[e,hv];omega
   ·simp[e]
 | k'::r,i+1,k,h,hv=>by
   have ih:=aDA (x:=x) (l:=r) (i:=i) (by simpa using h) hv;unfold vM at ih ⊢;rw[aG5,D7,D7,O9,O9,ih];omega
theorem aGK{x:ByteArray}(gs:gG s)(hw:IsW (.farmer x) v)(hc:eO s (.farmer x)=none)(hlt:s.book.length<300):gG { uJ s (.farmer x)with book:=s.book++[line] }:=by
 have hl:(s.book++[line]).length=s.book.length+1:=by simp
 have bf':∀ p∈s.farmers,-(100000*(s.book.length+1:Nat):Int)≤p.2∧p.2≤100000*(s.book.length+1:Nat):=fun p hp=>by have:=gs.bf p hp;omega
 have bm':∀ p∈s.meters,0≤p.2.1∧p.2.1≤99999∧0≤p.2.2∧p.2.2≤100000*(s.book.length+1:Nat):=fun p hp=>by have:=gs.bm p hp;omega
 have bp':∀ p∈s.pans,0≤p.2∧p.2≤100000*(s.book.length+1:Nat):=fun p hp=>by have:=gs.bp p hp;omega
 have lw':=gs.lw;have lt':=gs.lt;unfold eO at hc;dsimp only at hc;split at hc;·cases hc
 ·rename_i hs
  split at hc;·cases hc
  ·rename_i h9
   have hx:x∉s.farmers.map (·.1):=oV.1 (fG.1 (aCl hs));have l9:=gs.lf;unfold uJ;refine⟨by rw[hl];omega,?_,?_,gs.lm,gs.lp,by rw[hl];exact J6 lw',by rw[hl];exact J6 lt',gs.cl,fun p hp=>?_,by rw[hl];exact bm',by rw[hl];exact bp',gs.bw,fun k hk=>?_,fun p hp=>?_⟩
   ·show ((s.farmers++[(x,(0:Int))]).map (fun p=>p.1)).Nodup
    rw[F6,N4];exact⟨gs.nf,by simp,fun a ha b hb=>by
     have:b=x:=by simpa using hb
     rw[this];exact fun q=>hx (q▸ha)⟩
   ·show (s.farmers++[(x,(0:Int))]).length≤9
    rw[B6,aA2];omega
   ·rw[hl]
    rcases A9.1 hp with hp|hp;·exact bf' p hp
    ·rw[B2]at hp;rw[hp];show -(100000*((s.book.length+1:Nat):Int))≤0∧(0:Int)≤100000*((s.book.length+1:Nat):Int);omega
   ·obtain⟨a1,a2,a3,a4⟩:=gs.bt k hk
    exact⟨a1,a2,by show k.farmer∈(s.farmers++[(x,(0:Int))]).map (·.1);rw[F6];exact H8 _ a3,a4⟩
   ·rcases A9.1 hp with hp|hp
    ·exact gs.fs p hp
    ·rw[B2]at hp;rw[hp]
     exact(aDB (x:=x) fun k hk e=>hx (by rw[←e];exact(gs.bt k hk).2.2.1)).symm
theorem aIg{x y:ByteArray}{a b:Int}(gs:gG s)(hw:IsW (.wagon x y a b) v)(hc:eO s (.wagon x y a b)=none)(hlt:s.book.length<300):gG { uJ s (.wagon x y a b)with book:=s.book++[line] }:=by
 have hl:(s.book++[line]).length=s.book.length+1:=by simp
 have bf':∀ p∈s.farmers,-(100000*(s.book.length+1:Nat):Int)≤p.2∧p.2≤100000*(s.book.length+1:Nat):=fun p hp=>by have:=gs.bf p hp;omega
 have bm':∀ p∈s.meters,0≤p.2.1∧p.2.1≤99999∧0≤p.2.2∧p.2.2≤100000*(s.book.length+1:Nat):=fun p hp=>by have:=gs.bm p hp;omega
 have bp':∀ p∈s.pans,0≤p.2∧p.2≤100000*(s.book.length+1:Nat):=fun p hp=>by have:=gs.bp p hp;omega
 have lw':=gs.lw;have lt':=gs.lt;obtain⟨hb,_⟩:=hw;unfold eO at hc;dsimp only at hc;split at hc;·cases hc
 ·rename_i f hf
  split at hc;·cases hc
  ·rename_i hle
   have hle:=aA7.1 hle;have hkf:(iA s.farmers y (a-b)).map (·.1)=s.farmers.map (·.1):=by rw[kN];exact aDQ hf
   have hlf:(iA s.farmers y (a-b)).length=s.farmers.length:=by
    have:=AAt List.length hkf;simpa using this
   unfold uJ fF;refine⟨by rw[hl];omega,?_,?_,gs.lm,gs.lp,?_,?_,?_,fun p hp=>?_,by rw[hl];exact bm',by rw[hl];exact bp',fun p hp=>?_,fun k hk=>?_,fun p hp=>?_⟩
   ·show ((iA s.farmers y (a-b)).map (·.1)).Nodup
    rw[hkf];exact gs.nf
   ·show (iA s.farmers y (a-b)).length≤9
    rw[hlf];exact gs.lf
   ·rw[hl]
    show (mW id b x s.wagons).length≤_;rw[yA];split<;>omega
   ·rw[hl];show (s.tickets++[_]).length≤_;rw[B6,aA2];omega
   ·show s.closed≤(s.tickets++[_]).length
    have:=gs.cl;rw[B6];omega
   ·rw[hl]
    have hp:p∈iA s.farmers y (a-b):=hp;rw[kN]at hp;rcases oY hp with hp|hp|⟨q,hq,hp⟩;·exact bf' p hp
    ·rw[hp];simp only;omega
    ·have:=gs.bf _ hq
     rw[hp];simp only at this ⊢;omega
   ·rcases oY hp with hp|hp|⟨q,hq,hp⟩
    ·exact gs.bw p hp
    ·rw[hp];simp only;omega
    ·have:=gs.bw _ hq
     rw[hp];exact this
   ·show _∧_∧k.farmer∈(iA s.farmers y (a-b)).map (·.1)∧_
    rw[hkf];rcases A9.1 hk with hk|hk;·exact gs.bt k hk
    ·rw[B2]at hk
     subst hk;obtain⟨i,h1,h2⟩:=eI hf;exact⟨by show 0≤a-b;omega,by show a-b≤99999;omega,A5 (fV h1),hb.2.2.2.2.1,hb.2.2.2.2.2⟩
   ·obtain⟨i,h1,_⟩:=eI hf
    obtain⟨v0,e1,e2⟩:=aFM gs.nf (A5 (fV h1)) hp;have e3:=gs.fs _ e1;show p.2=vM (s.tickets++[_]) p.1;rw[aMb,e2];have e3:v0=vM s.tickets p.1:=e3;rw[e3];by_cases e:p.1=y;·rw[if_pos e,if_pos ⟨e.symm,rfl⟩]
    ·rw[if_neg e,if_neg fun q=>e q.1.symm]
theorem aOb{x:ByteArray}{a b:Int}(gs:gG s)(hw:IsW (.pan x a b) v)(hc:eO s (.pan x a b)=none)(hlt:s.book.length<300):gG { uJ s (.pan x a b)with book:=s.book++[line] }:=by
 have hl:(s.book++[line]).length=s.book.length+1:=by simp
 have bf':∀ p∈s.farmers,-(100000*(s.book.length+1:Nat):Int)≤p.2∧p.2≤100000*(s.book.length+1:Nat):=fun p hp=>by have:=gs.bf p hp;omega
 have bm':∀ p∈s.meters,0≤p.2.1∧p.2.1≤99999∧0≤p.2.2∧p.2.2≤100000*(s.book.length+1:Nat):=fun p hp=>by have:=gs.bm p hp;omega
 have bp':∀ p∈s.pans,0≤p.2∧p.2≤100000*(s.book.length+1:Nat):=fun p hp=>by have:=gs.bp p hp;omega
 have lw':=gs.lw;have lt':=gs.lt;obtain⟨hb,_⟩:=hw;unfold eO at hc;dsimp only at hc;split at hc;·cases hc
 ·rename_i hle
  have hle:=aA7.1 hle;split at hc;·cases hc
  ·rename_i hn
   have l5:=gs.lp;unfold uJ;refine⟨by rw[hl];omega,gs.nf,gs.lf,gs.lm,?_,by rw[hl];exact J6 lw',by rw[hl];exact J6 lt',gs.cl,by rw[hl];exact bf',by rw[hl];exact bm',fun p hp=>?_,gs.bw,gs.bt,gs.fs⟩
   ·show (iA s.pans x (a-b)).length≤5
    rw[kN,yA];split
    ·rename_i h1
     have:s.pans.length≠5:=fun q=>hn ⟨h1,q⟩;omega
    ·exact l5
   ·rw[hl]
    have hp:p∈iA s.pans x (a-b):=hp;rw[kN]at hp;rcases oY hp with hp|hp|⟨q,hq,hp⟩;·exact bp' p hp
    ·rw[hp];simp only;omega
    ·have:=gs.bp _ hq
     rw[hp];simp only at this ⊢;omega
theorem aKW{i:Nat}(gs:gG s)(hw:IsW (.void i) v)(hc:eO s (.void i)=none)(hlt:s.book.length<300):gG { uJ s (.void i)with book:=s.book++[line] }:=by
 have hl:(s.book++[line]).length=s.book.length+1:=by simp
 have bf':∀ p∈s.farmers,-(100000*(s.book.length+1:Nat):Int)≤p.2∧p.2≤100000*(s.book.length+1:Nat):=fun p hp=>by have:=gs.bf p hp;omega
 have bm':∀ p∈s.meters,0≤p.2.1∧p.2.1≤99999∧0≤p.2.2∧p.2.2≤100000*(s.book.length+1:Nat):=fun p hp=>by have:=gs.bm p hp;omega
 have bp':∀ p∈s.pans,0≤p.2∧p.2≤100000*(s.book.length+1:Nat):=fun p hp=>by have:=gs.bp p hp;omega
 have lw':=gs.lw;have lt':=gs.lt;unfold eO at hc;dsimp only at hc;split at hc;·cases hc
 ·rename_i k hk
  obtain⟨a1,a2,a3,a4⟩:=gs.bt k (A5 hk);obtain⟨j,hj⟩:=aFm a3;obtain⟨f,hjf⟩:=sI hj;have hf:iD s.farmers k.farmer=some f:=by unfold iD;rw[hj,E7,hjf];rfl
  have hkf:(iA s.farmers k.farmer (-k.net)).map (·.1)=s.farmers.map (·.1):=by rw[kN];exact aDQ hf
  have hlf:(iA s.farmers k.farmer (-k.net)).length=s.farmers.length:=by
   have:=AAt List.length hkf;simpa using this
  have hd:uJ s (.void i)={ s with tickets:=s.tickets.set i { k with void:=true },farmers:=iA s.farmers k.farmer (-k.net) }:=by
   unfold uJ;dsimp only;rw[hk]
  rw[hd];refine⟨by rw[hl];omega,?_,?_,gs.lm,gs.lp,by rw[hl];exact J6 lw',?_,?_,fun p hp=>?_,by rw[hl];exact bm',by rw[hl];exact bp',gs.bw,fun k' hk'=>?_,fun p hp=>?_⟩
  ·show ((iA s.farmers k.farmer (-k.net)).map (·.1)).Nodup
   rw[hkf];exact gs.nf
  ·show (iA s.farmers k.farmer (-k.net)).length≤9
   rw[hlf];exact gs.lf
  ·rw[hl];show (s.tickets.set i _).length≤_;rw[C9];omega
  ·show s.closed≤(s.tickets.set i _).length;rw[C9];exact gs.cl
  ·rw[hl]
   have hp:p∈iA s.farmers k.farmer (-k.net):=hp;rw[kN]at hp;rcases oY hp with hp|hp|⟨q,hq,hp⟩;·exact bf' p hp
   ·rw[hp];simp only;omega
   ·have:=gs.bf _ hq
    rw[hp];simp only at this ⊢;omega
  ·show _∧_∧k'.farmer∈(iA s.farmers k.farmer (-k.net)).map (·.1)∧_
   rw[hkf];rcases List.mem_or_eq_of_mem_set hk' with hk'|hk';·exact gs.bt k' hk'
   ·subst hk'
    exact⟨a1,a2,a3,a4⟩
  ·obtain⟨v0,e1,e2⟩:=aFM gs.nf a3 hp
   have e3:v0=vM s.tickets p.1:=gs.fs _ e1;have hvd:k.void=false:=by
    cases hv:k.void with
    | false=>rfl
    | true=>rw[hv]at hc;simp at hc
   show p.2=vM (s.tickets.set i _) p.1;rw[aDA hk hvd,e2,e3];by_cases e:p.1=k.farmer;·rw[if_pos e,if_pos e.symm];omega
   ·rw[if_neg e,if_neg fun q=>e q.symm];omega
theorem aIi(gs:gG s)(hw:IsW (.close) v)(hc:eO s (.close)=none)(hlt:s.book.length<300):gG { uJ s (.close)with book:=s.book++[line] }:=by
 have hl:(s.book++[line]).length=s.book.length+1:=by simp
 have bf':∀ p∈s.farmers,-(100000*(s.book.length+1:Nat):Int)≤p.2∧p.2≤100000*(s.book.length+1:Nat):=fun p hp=>by have:=gs.bf p hp;omega
 have bm':∀ p∈s.meters,0≤p.2.1∧p.2.1≤99999∧0≤p.2.2∧p.2.2≤100000*(s.book.length+1:Nat):=fun p hp=>by have:=gs.bm p hp;omega
 have bp':∀ p∈s.pans,0≤p.2∧p.2≤100000*(s.book.length+1:Nat):=fun p hp=>by have:=gs.bp p hp;omega
 have lw':=gs.lw;have lt':=gs.lt;unfold uJ;exact⟨by rw[hl];omega,gs.nf,gs.lf,gs.lm,gs.lp,by rw[hl];exact J6 lw',by rw[hl];exact J6 lt',A8 _,by rw[hl];exact bf',by rw[hl];exact bm',by rw[hl];exact bp',gs.bw,gs.bt,gs.fs⟩
theorem aIh{x:ByteArray}{n:Int}(gs:gG s)(hw:IsW (.meter x n) v)(hc:eO s (.meter x n)=none)(hlt:s.book.length<300):gG { uJ s (.meter x n)with book:=s.book++[line] }:=by
 have hl:(s.book++[line]).length=s.book.length+1:=by simp
 have bf':∀ p∈s.farmers,-(100000*(s.book.length+1:Nat):Int)≤p.2∧p.2≤100000*(s.book.length+1:Nat):=fun p hp=>by have:=gs.bf p hp;omega
 have bm':∀ p∈s.meters,0≤p.2.1∧p.2.1≤99999∧0≤p.2.2∧p.2.2≤100000*(s.book.length+1:Nat):=fun p hp=>by have:=gs.bm p hp;omega
 have bp':∀ p∈s.pans,0≤p.2∧p.2≤100000*(s.book.length+1:Nat):=fun p hp=>by have:=gs.bp p hp;omega
 have lw':=gs.lw;have lt':=gs.lt;obtain⟨hb,_⟩:=hw;unfold eO at hc;dsimp only at hc;split at hc;·cases hc
 ·rename_i hn
  have l5:=gs.lm;unfold uJ;refine⟨by rw[hl];omega,gs.nf,gs.lf,?_,gs.lp,by rw[hl];exact J6 lw',by rw[hl];exact J6 lt',gs.cl,by rw[hl];exact bf',fun p hp=>?_,by rw[hl];exact bp',gs.bw,gs.bt,gs.fs⟩
  ·show (mW (mtr n) (n,0) x s.meters).length≤5
   rw[yA];split
   ·rename_i h1
    have:s.meters.length≠5:=fun q=>hn ⟨h1,q⟩;omega
   ·exact l5
  ·rw[hl]
   rcases oY hp with hp|hp|⟨q,hq,hp⟩;·exact bm' p hp
   ·rw[hp];simp only;omega
   ·have:=gs.bm _ hq
    rw[hp];unfold mtr;simp only at this ⊢;omega
theorem aRd(gs:gG s)(hw:IsW w v)(ha:w.asks=false)(hc:eO s w=none)(hlt:s.book.length<300):gG { uJ s w with book:=s.book++[line] }:=by
 cases w with
 | farmer x=>exact aGK gs hw hc hlt
 | wagon x y a b=>exact aIg gs hw hc hlt
 | void i=>exact aKW gs hw hc hlt
 | close=>exact aIi gs hw hc hlt
 | meter x n=>exact aIh gs hw hc hlt
 | pan x a b=>exact aOb gs hw hc hlt
 | _=>cases ha
theorem aOa{P:dR→ByteArray→Int}(gs:gG s){r:Int ⊕ Wd}(hr:∀ w,r = .inr w→∃ v,IsW w v):gG (vN P s line r).2:=by
 cases r with
 | inl e=>exact gs
 | inr w =>
   obtain⟨v,hw⟩:=hr w rfl;unfold vN;dsimp only;cases ha:w.asks with
   | true =>
     simp only[AAe];cases aHl P s w<;>exact gs
   | false =>
     simp only[C6,AAd];cases hc:eO s w with
     | some e=>exact gs
     | none =>
       dsimp only;by_cases hl:s.book.length=300;·rw[if_pos hl];exact gs
       ·rw[if_neg hl];exact aRd gs hw ha hc (by have:=gs.book;omega)
end
end Go.Proofs.YtmapgnepfgnphaaGreatDoor
namespace Go.DL
section
variable{D:Nat→Option XFn}{Y:Nat→Option YI}{r:Nat→Option Nat}
theorem aFl{b:Nat}:∀{vs:List AV},b∈lF vs→∃(i:Nat)(v:AV),vs[i]?=some v∧b∈iZ v
 | [],h=>by simp[lF]at h
 | v::l,h=>by
   simp only[lF,A9]at h;rcases h with h|h;·exact⟨0,v,rfl,h⟩
   ·obtain⟨i,v',h1,h2⟩:=aFl h
    exact⟨i+1,v',h1,h2⟩
theorem aMQ{v v':AV}(h:Rn D Y r v v'):∀ b∈iZ v,∃ c,r b=some c:=by
 have many:∀{xs ys:List AV},xs.length=ys.length→(∀(i:Nat)(x y:AV),xs[i]?=some x→ys[i]?=some y→∀ b∈iZ x,∃ c,r b=some c)→∀ b∈lF xs,∃ c,r b=some c:=fun {xs ys} hl ih b hb=>by
  obtain⟨i,x,h1,h2⟩:=aFl hb;have hi:i<ys.length:=by rw[←hl];exact(A2.1 h1).1
  exact ih i x _ h1 (A4 hi) b h2
 induction h with
 | agg xs ys hl h ih=>intro b hb;simp only[iZ]at hb;exact many hl ih b hb
 | tup xs ys hl h ih=>intro b hb;simp only[iZ]at hb;exact many hl ih b hb
 | fn f xs ys us vs hf hl1 h1 hl2 h2 ih1 ih2 =>
   intro b hb;simp only[iZ,A9]at hb;rcases hb with hb|hb|hb
   ·cases f with
    | yield l=>exact absurd rfl (hf l)
    | _=>simp at hb
   ·exact many hl1 ih1 b hb
   ·exact many hl2 ih2 b hb
 | ifc t x y h ih=>intro b hb;simp only[iZ]at hb;exact ih b hb
 | yield l c hr=>intro b hb;simp[iZ,lF]at hb;exact⟨c,by rw[hb];exact hr⟩
 | sl b c o s n hr=>intro b' hb;simp[iZ]at hb;exact⟨c,by rw[hb];exact hr⟩
 | pt b c o hr=>intro b' hb;simp[iZ]at hb;exact⟨c,by rw[hb];exact hr⟩
 | mp b c hr=>intro b' hb;simp[iZ]at hb;exact⟨c,by rw[hb];exact hr⟩
 | sb b c n hr=>intro b' hb;simp[iZ]at hb;exact⟨c,by rw[hb];exact hr⟩
 | bp b c hr=>intro b' hb;simp[iZ]at hb;exact⟨c,by rw[hb];exact hr⟩
 | _=>intro b hb;simp[iZ]at hb
theorem aTr{xs ys:List AV}(h:RnL D Y r xs ys):∀ b∈lF xs,∃ c,r b=some c:=fun b hb=>by
 obtain⟨i,x,h1,h2⟩:=aFl hb;have hi:i<ys.length:=by rw[←h.1];exact(A2.1 h1).1
 exact aMQ (h.2 i x _ h1 (A4 hi)) b h2
theorem aYf{h:XH}{H:Hp}(sh:SHb D Y r h H):Cd h:=by
 intro x hx b hb;cases x with
 | none=>simp[nmO]at hb
 | some x =>
   obtain⟨i,hi⟩:=I0 hx;have ha:hat h i=some x:=by unfold hat;rw[A1,hi];rfl
   obtain⟨⟨g,y,rfl⟩,c,z,h1,h2,h3⟩:=sh.blk i x ha;have hb:b∈nmB (.blk g y):=hb;cases h3 with
   | cells _ w xs ys hl hg =>
     cases g with
     | true=>simp[nmB]at hb
     | false =>
       obtain⟨c',hc'⟩:=aTr hl b hb;exact sh.dom b c' hc'
   | map _ w xs ys hl hg =>
     cases g with
     | true=>simp[nmB]at hb
     | false =>
       have hb:b∈xs.flatMap fun p=>iZ p.1++iZ p.2:=hb;obtain⟨p,hp,hb⟩:=P0.1 hb;obtain⟨j,hj⟩:=I0 hp;have hlt:j<ys.length:=by rw[←hl.1];exact(A2.1 hj).1
       obtain⟨k1,k2⟩:=hl.2 j p _ hj (A4 hlt);rcases A9.1 hb with hb|hb
       ·obtain⟨c',hc'⟩:=aMQ k1 b hb
        exact sh.dom b c' hc'
       ·obtain⟨c',hc'⟩:=aMQ k2 b hb
        exact sh.dom b c' hc'
   | obj _ w o=>cases g<;>simp[nmB]at hb
end
end Go.DL
namespace Go.Proofs.YtmapgnepfgnphaaGreatDoor
open Go Go.DL
variable{h h':XH}{L:CL}{s:dR}
def IsClk(s:dR):Hp→Nat→Prop:=fun H b=>gG s∧∃ h L,aG h=H∧Lays h L s∧L.c=b
theorem Od.hp{l:OL}{ks:List ByteArray}{vs:List (List AV)}{t:Int}(e:aG h=aG h')(od:Od h l ks vs t):Od h' l ks vs t:=⟨⟨fun p hp=>by rw[←e];exact od.hd.1 p hp,od.hd.2⟩,od.ek,od.vk⟩
theorem Lays.hp(e:aG h=aG h')(ly:Lays h L s):Lays h' L s where
 hc:=by rw[←e];exact ly.hc
 tk:=⟨ly.tk.el,fun hk=>by rw[←e];exact ly.tk.hb hk,fun i a k h1 h2=>by rw[←e];exact ly.tk.he i a k h1 h2,ly.tk.nd,ly.tk.nb⟩
 bk hk:=by rw[←e];exact ly.bk hk
 f:=ly.f.hp e
 m:=ly.m.hp e
 p:=ly.p.hp e
 w:=ly.w.hp e
 dj:=ly.dj
theorem IsClk.open{c:Nat}(hi:IsClk s (aG h) c):gG s∧∃ L,Lays h L s∧L.c=c:=by
 obtain⟨gs,h0,L,e,ly,hc⟩:=hi;exact⟨gs,L,ly.hp e,hc⟩
end Go.Proofs.YtmapgnepfgnphaaGreatDoor
namespace Go.DL
section
variable{D D':Nat→Option XFn}{Y Y':Nat→Option YI}{r:Nat→Option Nat}
theorem aMS{v v':AV}(h:Rn D Y r v v'):Rn D' Y' r v v':=by
 induction h with
 | any v=>exact .any v
 | int k n=>exact .int k n
 | bool b=>exact .bool b
 | str s=>exact .str s
 | agg xs ys hl h ih=>exact .agg xs ys hl ih
 | tup xs ys hl h ih=>exact .tup xs ys hl ih
 | fs rows h=>exact .fs rows h
 | fp rows i o h=>exact .fp rows i o h
 | sl b c o s n hr=>exact .sl b c o s n hr
 | pt b c o hr=>exact .pt b c o hr
 | mp b c hr=>exact .mp b c hr
 | sb b c n hr=>exact .sb b c n hr
 | bp b c hr=>exact .bp b c hr
 | nilsl=>exact .nilsl
 | nilpt=>exact .nilpt
 | nilmap=>exact .nilmap
 | nilfn=>exact .nilfn
 | nilifc=>exact .nilifc
 | fn f xs ys us vs hf hl1 h1 hl2 h2 ih1 ih2=>exact .fn f xs ys us vs hf hl1 ih1 hl2 ih2
 | yield l c hr=>exact .yield l c hr
 | ifc t x y h ih=>exact .ifc t x y ih
def aAn(J:List Nat)(h:XH):XH:=h.mapIdx fun i x=>if i∈J then x else none
theorem aCn{J:List Nat}{h:XH}{i:Nat}:hat (aAn J h) i=if i∈J then hat h i else none:=by
 unfold aAn hat;rw[A1,List.getElem?_mapIdx,A1];cases h[i]? with
 | none=>simp
 | some x=>by_cases hi:i∈J<;>simp[hi]
theorem aMu{h:XH}{H:Hp}(sh:SH D Y r h H){J:List Nat}(hJ:∀ i∈J,∃ x,aG h i=some x):SHb D' Y' r (aAn J h) H:=by
 refine⟨fun b c hb=>by unfold aAn;rw[List.length_mapIdx];exact sh.dom b c hb,fun b b' c x y hx hy h1 h2=>?_,fun b x hx=>?_⟩
 ·rw[aCn]at hx hy
  split at hx
  ·split at hy
   ·exact sh.inj b b' c x y hx hy h1 h2
   ·cases hy
  ·cases hx
 ·rw[aCn]at hx
  split at hx
  ·rename_i hb
   obtain⟨c,y,k1,k2,k3⟩:=sh.blk b x hx;obtain⟨z,hz⟩:=hJ b hb;unfold aG at hz;rw[hx]at hz;cases x with
   | blk g w =>
     refine⟨⟨g,w,rfl⟩,c,y,k1,k2,?_⟩;cases k3 with
     | cells _ w xs ys hl hg=>exact .cells c _ _ _ _ ⟨hl.1,fun i a b ha hb=>aMS (hl.2 i a b ha hb)⟩ hg
     | map _ w xs ys hl hg=>exact .map c _ _ _ _ ⟨hl.1,fun i a b ha hb=>⟨aMS (hl.2 i a b ha hb).1,aMS (hl.2 i a b ha hb).2⟩⟩ hg
     | obj _ w o=>exact .obj c _ _ _
   | _=>cases hz
  ·cases hx
end
end Go.DL
namespace Go.Proofs.YtmapgnepfgnphaaGreatDoor
open Go Go.DL
section
variable{h h':XH}{L:CL}{s:dR}
theorem Lays.only(ly:Lays h L s):Lays (aAn (tW L s) h) L s:=by
 refine ly.fr (J:=(List.range h.length).filter fun b=>decide (b∉tW L s)) ⟨fun b hb hn=>?_,by unfold aAn;rw[List.length_mapIdx];exact A8 _⟩ fun j b hb hm=>?_
 ·have:b∈tW L s:=Classical.byContradiction fun q=>hn (by rw[aA4,J7];exact⟨hb,by simpa using q⟩)
  unfold aG;rw[aCn,if_pos this]
 ·rw[aA4]at hm
  have:b∉tW L s:=by simpa using hm.2
  exact this (bB.2 ⟨j,hb⟩)
section
variable{D:Nat→Option XFn}{P:dR→ByteArray→Int}{rd:ByteArray→Int ⊕ Wd}
open Classical in
noncomputable def pmSay(P:dR→ByteArray→Int)(rd:ByteArray→Int ⊕ Wd):List AV→XH→Option (AV×XH):=fun xs h=>match xs,h with
 | [.pt 0 0,.str line],[some (.gh s p)]=>if p=IsClk s then some (.str (vN P s line (rd line)).1,[some (.gh (vN P s line (rd line)).2 (IsClk (vN P s line (rd line)).2))]) else none
 | _,_=>none
def RdOk(rd:ByteArray→Int ⊕ Wd):Prop:=∀ line,Prs line (rd line)∧∀ e,rd line = .inl e→e∈pD
theorem mB{x:XB}{b:Nat}{y:XB}(h:hat [some x] b=some y):b=0∧y=x:=by
 cases b with
 | zero=>exact⟨rfl,by simpa [hat]using h.symm⟩
 | succ b=>simp[hat]at h
theorem aGL{Y:Nat→Option YI}{r:Nat→Option Nat}{H':Hp}{c:Nat}{s':dR}(hdm:∀ b c,r b=some c→b<1)(hrc:r 0=some c){D3:Nat→Option XFn}{Y3:Nat→Option YI}{r3:Nat→Option Nat}{h3:XH}{L3:CL}(sh3:SH D3 Y3 r3 h3 H')(h3c:r3 L3.c=some c)(ly3:Lays h3 L3 s')(gs:gG s') :
 SH D Y r [some (.gh s' (IsClk s'))] H':=by
 have hJ:∀ i∈tW L3 s',∃ x,aG h3 i=some x:=fun i hi=>by
  obtain⟨j,hj⟩:=bB.1 hi;exact ly3.live j i hj
 refine⟨fun b c hb=>hdm b c hb,fun b b' c x y hx hy _ _=>(mB hx).1.trans (mB hy).1.symm,fun b x hx=>?_,fun _ n=>∃ i x,hat (aAn (tW L3 s') h3) i=some x∧r3 i=some n,fun b st q hb=>?_,fun b b' st q x n hb hb' hne _=>absurd ((mB hb).1.trans (mB hb').1.symm) hne⟩
 ·obtain⟨rfl,rfl⟩:=mB hx
  obtain⟨g,hg⟩:=aC ly3.hc;obtain⟨c',y,k1,k2,_⟩:=sh3.blk _ _ hg;rw[h3c]at k1;cases k1;exact⟨c,y,hrc,k2,.gh c _ _ y⟩
 ·obtain⟨rfl,e⟩:=mB hb
  cases e;exact⟨c,hrc,aAn (tW L3 s') h3,r3,L3.c,fun D' Y'=>aMu sh3 hJ,h3c,⟨gs,_,L3,rfl,ly3.only,rfl⟩,fun n=>Iff.rfl⟩
open Classical in
noncomputable def pmSayG(Fine:dR→ByteArray→Prop)(A:dR→ByteArray→ByteArray×dR):List AV→XH→Option (AV×XH):=fun xs h=>match xs,h with
 | [.pt 0 0,.str line],[some (.gh s p)]=>if p=IsClk s∧Fine s line then some (.str (A s line).1,[some (.gh (A s line).2 (IsClk (A s line).2))]) else none
 | _,_=>none
theorem aTy{Fine:dR→ByteArray→Prop}{A:dR→ByteArray→ByteArray×dR}(hF:∀(s:dR)(line:ByteArray)(h:XH)(L:CL),Fine s line→Lays h L s→Cd h→gG s→aDw h L line (A s line).2 (A s line).1∧gG (A s line).2):iL D 21 (pmSayG Fine A):=by
 intro B Y r h H xs ys v h' sh hr hx;unfold pmSayG at hx;split at hx
 ·rename_i line s p
  split at hx
  ·rename_i hp
   obtain⟨hp,hfine⟩:=hp;subst hp;cases hx;obtain⟨G,hG⟩:=sh.gh;obtain⟨c,hrc,h0,r0,b0,shb,hb0,hi,hS⟩:=hG.1 0 s _ rfl;obtain⟨gs,L,ly,hL⟩:=hi.open;have sb:=shb aB (fun _=>none);have s0:SH aB (fun _=>none) r0 h0 H:=⟨sb.dom,sb.inj,fun b x hb=>(sb.blk b x hb).2,GhR.no fun b st p hb=>by obtain⟨g,y,e⟩:=(sb.blk b _ hb).1;cases e⟩;obtain⟨⟨h3,L3,body,ly3,hL3⟩,gsay⟩:=hF s line h0 L hfine ly (aYf sb) gs;obtain⟨a,as1,rfl,q1,q2⟩:=hr.inv;obtain⟨b,as2,rfl,q3,q4⟩:=q2.inv;rw[q4.nil_inv];obtain⟨c',rfl,hc'⟩:=kX q1;rw[hrc]at hc';cases hc';rw[cX q3];have hA:RnL aB (fun _=>none) r0 [.pt L.c 0,.str line] [.pt c 0,.str line]:=RnL.cons (.pt _ _ _ (by rw[hL];exact hb0)) (RnL.cons (.str _) RnL.nil);have hlen:(h0++lN).length=h0.length+1:=by simp[lN]
   have fw:=aQg (B:=B) (h:=h0) (h1:=h0++lN) (e1:=aW (aV [.pt L.c 0,.str line]) (some 4) (.pt h0.length 0)) aA aAD rfl (xs:=[.pt L.c 0,.str line]) (by simp) rfl rfl (by rw[hlen];omega) (by rw[hlen];exact body) (Y:=fun _=>none) (fun l i h=>by simp at h) s0 hA;have cv:CallV B Tryz.prog (.fn (.func 21) [] []) [.pt c 0,.str line] H (eZ aB (fun _=>none) r0 (.str (A s line).1) h3):=fw;suffices goal:CallV B Tryz.prog (.fn (.func 21) [] []) [.pt c 0,.str line] H (eZ D Y r (.str (A s line).1) [some (.gh (A s line).2 (IsClk (A s line).2))]) from goal
   refine CallV.mono cv fun v' H' hq=>?_;obtain⟨r3,ha,sh3,hv⟩:=hq;refine⟨r,fun b c hb=>hb,aGL (fun b c hb=>sh.dom b c hb) hrc sh3 (ha _ _ (by rw[hL3,hL];exact hb0)) ly3 gsay,by rw[cX hv];exact .str _⟩
  ·cases hx
 ·cases hx
theorem aWf(pok:aKe P)(rok:RdOk rd):iL D 21 (pmSay P rd):=by
 have h0:iL D 21 (pmSayG (fun _ _=>True) fun s line=>vN P s line (rd line)):=aTy fun s line h L _ ly cd gs=>⟨aQk pok ly cd gs (rok line).1 (rok line).2,aOa gs fun w hw=>by
  have:=(rok line).1;rw[hw]at this;obtain⟨v,_,k,_⟩:=this;exact⟨v,k⟩⟩
 intro B Y r h H xs ys v h' sh hr hx;refine h0 B Y r h H xs ys v h' sh hr ?_;unfold pmSay at hx;split at hx
 ·split at hx
  ·rename_i hp
   cases hx;unfold pmSayG;exact if_pos ⟨hp,trivial⟩
  ·cases hx
 ·cases hx
end
end
section
section
variable{D:Nat→Option XFn}{B:Base}
theorem aKH{K:Nat}{ys:List AV}{v:AV}{h1 h2:XH}{r1:Nat→Option Nat}{H:Hp}(sb:SHb aB (fun _=>none) r1 h1 (iB H))(hcall:∀ H1,SH aB (fun _=>none) r1 h1 H1→FnW B Tryz.prog K ys H1 (eZ aB (fun _=>none) r1 v h2))
 (hk:∀ b x,hat h1 b=some x→∃ y,hat h2 b=some y) (hv:∀(r:Nat→Option Nat) v',Rn aB (fun _=>none) r v v'→v'=v) :
 CallV B Tryz.prog (.fn (.func K) [] []) ys H fun v' H'=>v'=v∧H'=H:=by
 classical
 have g1:SH aB (fun _=>none) r1 h1 (fun c=>if ∃ b x,hat h1 b=some x∧r1 b=some c then iB H c else none):=by
  refine⟨sb.dom,sb.inj,fun b x hb=>?_,GhR.no fun b st p hb=>by obtain⟨g,y,e⟩:=(sb.blk b _ hb).1;cases e⟩;obtain⟨_,c,y,k1,k2,k3⟩:=sb.blk b x hb;exact⟨c,y,k1,by rw[if_pos ⟨b,x,hb,k1⟩];exact k2,k3⟩
 have fw:=hcall _ g1;have hn:[]++ys++[]=ys:=by simp
 rw[←hn]at fw;have q1:=CallV.quietOf (v:=v) (CallV.mono (CallV.frameS (fv:=.fn (.func K) [] []) (fun c=>∃ b x,hat h1 b=some x∧r1 b=some c) fw) (by
  rintro v' H'' ⟨H',⟨rl,m1,m2,m3⟩,e1,e2⟩;refine⟨hv _ _ m3,fun c hc=>?_⟩;obtain⟨x,hx⟩:=C5.1 hc;by_cases hS:∃ b x,hat h1 b=some x∧r1 b=some c
  ·rw[e1 c (.inl hS)]
   obtain⟨b,x,hb,hrb⟩:=hS;obtain⟨y,hy⟩:=hk b x hb;obtain⟨c',y',n1,n2,_⟩:=m2.blk b y hy;have:=m1 b c hrb;rw[n1]at this;simp only[oSI]at this;subst this;simp[n2]
  ·simp[(e2 c hS x hx).1]))
 refine q1.conv fun F w st=>⟨aHI st,?_⟩;rintro e w' ⟨q,v',F',H',rfl,h2,h3,h4,rfl,rfl⟩;obtain⟨a,b⟩:=zW st h2 h3;exact⟨q,_,F',H,rfl,a,b,h4,rfl,rfl⟩
theorem pQ{K:Nat}{xs ys:List AV}{v:AV}{h1 h2:XH}{r1:Nat→Option Nat}{H:Hp}(sb:SHb aB (fun _=>none) r1 h1 (iB H))(hrun:runW aB K xs h1=some (v,h2))(hA:RnL aB (fun _=>none) r1 xs ys)
 (hk:∀ b x,hat h1 b=some x→∃ y,hat h2 b=some y) (hv:∀(r:Nat→Option Nat) v',Rn aB (fun _=>none) r v v'→v'=v) :
 CallV B Tryz.prog (.fn (.func K) [] []) ys H fun v' H'=>v'=v∧H'=H :=
 aKH sb (fun H1 s1=>(xK aA B (fun _=>none) (fun l i h=>by simp at h)).1 r1 h1 _ K xs ys v h2 s1 hA hrun) hk hv
abbrev wT:List AV:=[.nilpt,.nilpt,.nilpt,.nilpt,.nilsl,I 0,.nilsl]
theorem aYB{g w:Bool}{k:XH}:runW aB 59 [.pt 0 0] (some (.blk g (.cells w wT))::k)=some (.bool true,some (.blk g (.cells w wT))::k):=by
 rw[qY 59 x59 rfl];unfold x59;dsimp only;(exact wO)
theorem aYC{h:XH}:runW aB 59 [.nilpt] h=some (.bool true,h):=by
 rw[qY 59 x59 rfl];unfold x59;dsimp only;(exact wO)
theorem aYN:runW aB 23 [.nilpt] []=some (.str ⟨⟨[]⟩⟩,[]):=by
 have c:=aYC (h:=[]);rw[qX 23 x23 rfl];unfold x23;dsimp only;(exact dM c)
theorem aYM:runW aB 23 [.pt 0 0] [some (.blk false (.cells false wT))]=some (.str ⟨⟨[]⟩⟩,[some (.blk false (.cells false wT))]):=by
 have c:=aYB (g:=false) (w:=false) (k:=[]);rw[qX 23 x23 rfl];unfold x23;dsimp only;(exact dM c)
theorem aQw{D':Nat→Option XFn}{Y Y':Nat→Option YI}{r r':Nat→Option Nat}{ys:List AV}(h:RnL D Y r wT ys):RnL D' Y' r' wT ys:=by
 obtain⟨y0,_,rfl,w0,h⟩:=h.inv;obtain⟨y1,_,rfl,w1,h⟩:=h.inv;obtain⟨y2,_,rfl,w2,h⟩:=h.inv;obtain⟨y3,_,rfl,w3,h⟩:=h.inv;obtain⟨y4,_,rfl,w4,h⟩:=h.inv;obtain⟨y5,_,rfl,w5,h⟩:=h.inv;obtain⟨y6,_,rfl,w6,h⟩:=h.inv;rw[h.nil_inv];cases w0;cases w1;cases w2;cases w3;cases w4;cases w5;cases w6;exact RnL.cons .nilpt (RnL.cons .nilpt (RnL.cons .nilpt (RnL.cons .nilpt (RnL.cons .nilsl (RnL.cons (.int _ _) (RnL.cons .nilsl RnL.nil))))))
theorem aQf{Y:Nat→Option YI}{r:Nat→Option Nat}{H:Hp}{g:Bool}(sh:SH D Y r [some (.blk g (.cells true wT))] H):SHb aB (fun _=>none) r [some (.blk false (.cells false wT))] (iB H):=by
 refine⟨fun b c hb=>sh.dom b c hb,fun b b' c x y hx hy _ _=>(mB hx).1.trans (mB hy).1.symm,fun b x hx=>?_⟩;obtain⟨rfl,rfl⟩:=mB hx;obtain⟨c,y,k1,k2,k3⟩:=sh.blk 0 _ rfl;refine⟨⟨_,_,rfl⟩,c,?_⟩;cases k3 with
 | cells _ _ _ ys hl hg=>exact⟨_,k1,by unfold iB;rw[k2];rfl,.cells _ _ _ _ _ (aQw hl) (by simp)⟩
open Classical in
noncomputable def pmSave:List AV→XH→Option (AV×XH):=fun xs h=>match xs,h with
 | [.pt 0 0],[some (.gh s p)]=>if p=IsClk s then some (.str (bJ s.book),[some (.gh s p)]) else none
 | [.nilpt],[]=>some (.str ⟨⟨[]⟩⟩,[])
 | [.pt 0 0],[some (.blk g (.cells true cs))]=>if cs=wT then some (.str ⟨⟨[]⟩⟩,[some (.blk g (.cells true cs))]) else none
 | _,_=>none
theorem aMT{r r':Nat→Option Nat}:∀{l:List ByteArray}{ys:List AV},RnL aB (fun _=>none) r (fI l) ys→RnL aB (fun _=>none) r' (fI l) ys
 | [],ys,h=>by rw[h.nil_inv];exact RnL.nil
 | x::l,ys,h=>by
   obtain⟨y,ys',rfl,h1,h2⟩:=RnL.inv (xs:=fI l) h;rw[cX h1];exact RnL.cons (.str _) (aMT h2)
theorem aWe:iL D 23 pmSave:=by
 intro B Y r h H xs ys v h' sh hr hx;unfold pmSave at hx;split at hx
 ·rename_i s p
  split at hx
  ·rename_i hp
   subst hp;cases hx;obtain⟨G,hG⟩:=sh.gh;obtain⟨c,hrc,h0,r0,b0,shb,hb0,hi,hS⟩:=hG.1 0 s _ rfl;obtain⟨gs,L,ly,hL⟩:=hi.open;have sb:=shb aB (fun _=>none);obtain⟨a,as1,rfl,q1,q2⟩:=hr.inv;rw[q2.nil_inv];obtain⟨c',rfl,hc'⟩:=kX q1;rw[hrc]at hc';cases hc';suffices hq:CallV B Tryz.prog (.fn (.func 23) [] []) [.pt c 0] H fun v' H'=>v' = .str (bJ s.book)∧H'=H by
    suffices goal:CallV B Tryz.prog (.fn (.func 23) [] []) [.pt c 0] H (eZ D Y r (.str (bJ s.book)) [some (.gh s (IsClk s))]) from goal
    refine CallV.mono hq fun v' H' e=>?_;obtain⟨rfl,rfl⟩:=e;exact⟨r,fun b c hb=>hb,sh,.str _⟩
   obtain⟨g,hc⟩:=aC ly.hc;obtain⟨_,c1,y,k1,k2,k3⟩:=sb.blk _ _ hc;have e1:c1=c:=by rw[hL,hb0]at k1;exact(Option.some.inj k1).symm
   subst e1;cases k3 with
   | cells _ _ _ ys hl hg =>
     unfold bY at hl;obtain⟨y0,_,rfl,w0,hl⟩:=hl.inv;obtain⟨y1,_,rfl,_,hl⟩:=hl.inv;obtain⟨y2,_,rfl,_,hl⟩:=hl.inv;obtain⟨y3,_,rfl,_,hl⟩:=hl.inv;obtain⟨y4,_,rfl,_,hl⟩:=hl.inv;obtain⟨y5,_,rfl,_,hl⟩:=hl.inv;obtain⟨y6,_,rfl,w6,hl⟩:=hl.inv;rw[hl.nil_inv]at k2;obtain⟨f,rfl,hf⟩:=kX w0;have hro:iB H c1=some (.cells false [.pt f 0,y1,y2,y3,y4,y5,y6]):=by unfold iB;rw[k2];rfl
     by_cases hk:s.book.length=0
     ·have hb:s.book=[]:=B8 hk
      have w6:Rn aB (fun _=>none) r0 (iC L.kb s.book.length) y6:=w6;rw[hk]at w6;have h6:y6 = .nilsl:=by cases w6;rfl
      subst h6;have hs:bJ s.book=hdB:=by rw[hb];rfl
      rw[hs];refine pQ (r1:=fun i=>if i=0 then some c1 else if i=1 then some f else none) ⟨fun b c hb=>?_,fun b b' c x y hx hy _ _=>?_,fun b x hx=>?_⟩ aYL (RnL.cons (.pt _ _ _ rfl) RnL.nil) (fun b x hx=>?_) fun r v' hv=>cX hv
      ·split at hb
       ·subst b;simp
       ·split at hb
        ·subst b;simp
        ·cases hb
      ·have f0:∀ b x,hat [cr0 .nilsl,none] b=some x→b=0:=fun b x h=>by
        match b,h with
        | 0,_=>rfl
        | 1,h=>cases h
        | _+2,h=>simp[hat]at h
       rw[f0 _ _ hx,f0 _ _ hy]
      ·match b,hx with
       | 0,hx =>
         cases hx;exact⟨⟨_,_,rfl⟩,c1,_,rfl,hro,.cells _ _ _ _ _ (RnL.cons (.pt _ _ _ rfl) (RnL.cons (.any _) (RnL.cons (.any _) (RnL.cons (.any _) (RnL.cons (.any _) (RnL.cons (.any _) (RnL.cons .nilsl RnL.nil))))))) (by simp)⟩
       | 1,hx=>cases hx
       | _+2,hx=>simp[hat]at hx
      ·match b,hx with
       | 0,_=>exact⟨_,rfl⟩
       | 1,hx=>cases hx
       | _+2,hx=>simp[hat]at hx
     ·have w6:Rn aB (fun _=>none) r0 (iC L.kb s.book.length) y6:=w6
      have hkb:=ly.bk AM;have ev:iC L.kb s.book.length = .sl L.kb 0 1 s.book.length:=by
       unfold iC;rw[if_neg hk]
      rw[ev]at w6;obtain⟨kb,rfl,hkb'⟩:∃ kb,y6 = .sl kb 0 1 s.book.length∧r0 L.kb=some kb:=by cases w6;exact⟨_,rfl,‹_›⟩
      obtain⟨g2,hc2⟩:=aC hkb;obtain⟨_,c2,z,m1,m2,m3⟩:=sb.blk _ _ hc2;rw[hkb']at m1;cases m1;cases m3 with
      | cells _ _ _ ys hl2 hg2 =>
      have hro2:iB H kb=some (.cells false ys):=by unfold iB;rw[m2];rfl
      have hne:c1≠kb:=fun e=>by
       subst e;have:=sb.inj _ _ _ _ _ hc hc2 k1 hkb';have h1:=ly.dj 0 2 L.c (by simp[px]) (by rw[this];show L.kb∈mX L.kb s.book.length;rw[bQ];exact⟨by omega,rfl⟩);cases h1
      refine pQ (r1:=fun i=>if i=0 then some c1 else if i=1 then some f else if i=2 then some kb else none) ⟨fun b c hb=>?_,fun b b' c x y hx hy a1 a2=>?_,fun b x hx=>?_⟩ (w23 (B:=s.book) AM gs.book) (RnL.cons (.pt _ _ _ rfl) RnL.nil) (fun b x hx=>?_) fun r v' hv=>cX hv
      ·split at hb
       ·subst b;simp
       ·split at hb
        ·subst b;simp
        ·split at hb
         ·subst b;simp
         ·cases hb
      ·have f0:∀ b x,hat [cr0 (.sl 2 0 1 s.book.length),none,uS s.book] b=some x→b=0∨b=2:=fun b x h=>by
        match b,h with
        | 0,_=>exact .inl rfl
        | 1,h=>cases h
        | 2,_=>exact .inr rfl
        | _+3,h=>simp[hat]at h
       rcases f0 _ _ hx with rfl|rfl<;>rcases f0 _ _ hy with rfl|rfl
       ·rfl
       ·simp at a1 a2;exact absurd (a1.trans a2.symm) hne
       ·simp at a1 a2;exact absurd (a2.trans a1.symm) hne
       ·rfl
      ·match b,hx with
       | 0,hx =>
         cases hx;exact⟨⟨_,_,rfl⟩,c1,_,rfl,hro,.cells _ _ _ _ _ (RnL.cons (.pt _ _ _ rfl) (RnL.cons (.any _) (RnL.cons (.any _) (RnL.cons (.any _) (RnL.cons (.any _) (RnL.cons (.any _) (RnL.cons (.sl _ _ _ _ _ rfl) RnL.nil))))))) (by simp)⟩
       | 1,hx=>cases hx
       | 2,hx =>
         cases hx;exact⟨⟨_,_,rfl⟩,kb,_,rfl,hro2,.cells _ _ _ _ _ (aMT hl2) fun _=>eJ _⟩
       | _+3,hx=>simp[hat]at hx
      ·match b,hx with
       | 0,_=>exact⟨_,rfl⟩
       | 1,hx=>cases hx
       | 2,_=>exact⟨_,rfl⟩
       | _+3,hx=>simp[hat]at hx
  ·cases hx
 ·cases hx
  obtain⟨a,as1,rfl,q1,q2⟩:=hr.inv;rw[q2.nil_inv];have q3:a = .nilpt:=by cases q1;rfl
  subst q3;refine(show CallV B Tryz.prog (.fn (.func 23) [] []) [.nilpt] H (eZ D Y r (.str ⟨⟨[]⟩⟩) []) from CallV.mono (pQ (h1:=[]) (r1:=fun _=>none) ⟨fun b c hb=>(by cases hb),fun b b' c x y hx=>by simp[hat]at hx,fun b x hx=>by simp[hat]at hx⟩ aYN (RnL.cons .nilpt RnL.nil) (fun b x hx=>by simp[hat]at hx) fun r v' hv=>cX hv) fun v' H' e=>?_);obtain⟨rfl,rfl⟩:=e;exact⟨r,fun b c hb=>hb,sh,.str _⟩
 ·rename_i g cs
  split at hx
  ·rename_i hp
   subst hp;cases hx;obtain⟨a,as1,rfl,q1,q2⟩:=hr.inv;rw[q2.nil_inv];obtain⟨c,rfl,hc⟩:=kX q1;refine(show CallV B Tryz.prog (.fn (.func 23) [] []) [.pt c 0] H (eZ D Y r (.str ⟨⟨[]⟩⟩) _) from CallV.mono (pQ (r1:=r) (aQf sh) aYM (RnL.cons (.pt _ _ _ hc) RnL.nil) (fun b x hx=>⟨_,hx⟩) fun r v' hv=>cX hv) fun v' H' e=>?_);obtain⟨rfl,rfl⟩:=e;exact⟨r,fun b c hb=>hb,sh,.str _⟩
  ·cases hx
 ·cases hx
end
end
section
theorem w52{n:Int}:runW aB 52 [I n] []=some (.pt 0 0,[some (.blk false (.cells true [.nilsl,.mp 1,I n])),some (.blk true (.map true []))]):=by
 rw[qX 52 x52 rfl];unfold x52;dsimp only;(exact wO)
theorem w53{n:Int}:runW aB 53 [I n] []=some (.pt 0 0,[some (.blk false (.cells true [.nilsl,.mp 1,I n])),some (.blk true (.map true []))]):=by
 rw[qX 53 x53 rfl];unfold x53;dsimp only;(exact wO)
theorem w54{n:Int}:runW aB 54 [I n] []=some (.pt 0 0,[some (.blk false (.cells true [.nilsl,.mp 1,I n])),some (.blk true (.map true []))]):=by
 rw[qX 54 x54 rfl];unfold x54;dsimp only;(exact wO)
theorem w55{n:Int}:runW aB 55 [I n] []=some (.pt 0 0,[some (.blk false (.cells true [.nilsl,.mp 1,I n])),some (.blk true (.map true []))]):=by
 rw[qX 55 x55 rfl];unfold x55;dsimp only;(exact wO)
def aId:XH:=[some (.blk false (.cells true [.pt 1 0,.pt 3 0,.pt 5 0,.pt 7 0,.nilsl,I 0,.nilsl])),some (.blk false (.cells true [.nilsl,.mp 2,I 9])),some (.blk true (.map true [])),some (.blk false (.cells true [.nilsl,.mp 4,I 5])),some (.blk true (.map true [])),some (.blk false (.cells true [.nilsl,.mp 6,I 5])),some (.blk true (.map true [])),some (.blk false (.cells true [.nilsl,.mp 8,I 300])),some (.blk true (.map true []))]
theorem w19:runW aB 19 [] []=some (.pt 0 0,aId):=by
 have a:=w52 (n:=9);have b:=w53 (n:=5);have c:=w54 (n:=5);have d:=w55 (n:=300);rw[qX 19 x19 rfl];unfold x19 aId;dsimp only;(exact vI a b c d)
def dV:dR:=⟨[],[],[],[],[],0,[]⟩
def aDr:CL:=⟨0,0,0,[],⟨1,2,0,[]⟩,⟨3,4,0,[]⟩,⟨5,6,0,[]⟩,⟨7,8,0,[]⟩⟩
theorem aFi{o m:Nat}{t:Int}(h1:aG aId o=some (.cells true [.nilsl,.mp m,I t]))(h2:aG aId m=some (.map true []))(hne:o≠m):Od aId ⟨o,m,0,[]⟩ [] [] t:=by
 refine⟨⟨fun p hp=>?_,?_⟩,rfl,rfl⟩
 ·have hp:p∈[(o,ABlk.cells true [.nilsl,.mp m,I t]),(m,ABlk.map true [])]:=hp
  simp only[B3,G6,AAi]at hp;rcases hp with rfl|rfl;·exact h1
  ·exact h2
 ·show [o,m].Nodup
  simp[hne]
theorem aNJ:Lays aId aDr dV where
 hc:=rfl
 tk:=⟨rfl,fun h=>absurd h (by decide),fun i e k h1 _=>by simp[aDr]at h1,aC3,fun h=>absurd h (by decide)⟩
 bk h:=absurd h (by decide)
 f:=aFi rfl rfl (by decide)
 m:=aFi rfl rfl (by decide)
 p:=aFi rfl rfl (by decide)
 w:=aFi rfl rfl (by decide)
 dj i j b hi hj:=by
  have p:∀ i b,b∈px aDr dV i→(i=0∧b=0)∨(i=3∧(b=1∨b=2))∨(i=4∧(b=3∨b=4))∨(i=5∧(b=5∨b=6))∨(i=6∧(b=7∨b=8)):=fun i b h=>by
   match i,h with
   | 0,h=>simpa [px,aDr]using h
   | 1,h=>simp[px,mX,aDr,dV]at h
   | 2,h=>simp[px,mX,aDr,dV]at h
   | 3,h=>simpa [px,idx,aDr,dV]using h
   | 4,h=>simpa [px,idx,aDr,dV]using h
   | 5,h=>simpa [px,idx,aDr,dV]using h
   | 6,h=>simpa [px,idx,aDr,dV]using h
   | _+7,h=>cases h
  have a:=p i b hi;have c:=p j b hj;omega
theorem aOc:gG dV:=by
 refine⟨by decide,aC3,by decide,by decide,by decide,by decide,by decide,by decide,?_,?_,?_,?_,?_,?_⟩;all_goals intro p hp;cases hp
def aJr:List AV→XH→Option (AV×XH):=fun xs h=>match xs,h with
 | [],[]=>some (.pt 0 0,[some (.gh dV (IsClk dV))])
 | _,_=>none
theorem aWg{D:Nat→Option XFn}:iL D 19 aJr:=by
 intro B Y r h H xs ys v h' sh hr hx;unfold aJr at hx;split at hx
 ·cases hx
  rw[hr.nil_inv];have s0:SH aB (fun _=>none) (fun _=>none) [] H:=⟨fun b c hb=>by simp at hb,fun b c c' x y hx=>by simp[hat]at hx,fun b x hx=>by simp[hat]at hx,GhR.no fun b st p hx=>by simp[hat]at hx⟩;have fw:=(xK aA B (fun _=>none) (fun l i h=>by simp at h)).1 (fun _=>none) [] H 19 [] [] _ _ s0 RnL.nil w19;have cv:CallV B Tryz.prog (.fn (.func 19) [] []) [] H (eZ aB (fun _=>none) (fun _=>none) (.pt 0 0) aId):=fw;suffices goal:CallV B Tryz.prog (.fn (.func 19) [] []) [] H (eZ D Y r (.pt 0 0) [some (.gh dV (IsClk dV))]) from goal
  refine CallV.mono cv fun v' H' hq=>?_;obtain⟨r3,ha,sh3,hv⟩:=hq;obtain⟨c,rfl,hc⟩:=kX hv;have rno:∀ b c,r b=some c→False:=fun b c hb=>by have:=sh.dom b c hb;simp at this
  refine⟨fun b=>if b=0 then some c else none,fun b c' hb=>(rno b c' hb).elim,aGL (fun b c' hb=>?_) rfl sh3 (by exact hc) aNJ aOc,.pt _ _ _ rfl⟩;split at hb;·omega
  ·cases hb
 ·cases hx
end
section
def dF(w:ByteArray):Option Int:=match Lib.atoiAll w.data.toList with
 | .ok v=>if 0≤v∧v≤99999∧Lib.itoa v=w.data.toList then some v else none
 | _=>none
def cR(line:ByteArray):List ByteArray:=(hP 32 line.data.toList).map fun l=>⟨⟨l⟩⟩
def hM(x:ByteArray)(w:Wd):Int ⊕ Wd:=if bG x then .inr w else .inl 8
def xX(x:ByteArray)(f:Int→Wd):Int ⊕ Wd:=match dF x with
 | some n=>.inr (f n)
 | none=>.inl 2
def rd(line:ByteArray):Int ⊕ Wd:=if line.size>40 then .inl 14 else match cR line with
 | [w]=>if w=AAx then .inr .close else if w=AAB then .inr .total else .inl 13
 | [w,x]=>if w=AAu then hM x (.farmer x) else if w=AAA then hM x (.net x) else if w=AAD then hM x (.used x) else
   if w=AAE then hM x (.loss x) else if w=AAF then hM x (.power x) else
   if w=AAw then xX x (fun n=>.void n.toNat) else if w=AAC then xX x (fun n=>.ticket n.toNat) else .inl 13
 | [w,x,y]=>if w=AAy then (if bG x then xX y (.meter x) else .inl 8) else .inl 13
 | [w,x,y,z]=>if w=AAz then (if bG x then (match dF y,dF z with
  | some a,some b=>.inr (.pan x a b)
  | _,_=>.inl 2) else .inl 8) else .inl 13
 | [w,x,y,z,o]=>if w=AAv then (if bG x&&bG o then (match dF y,dF z with
  | some a,some b=>.inr (.wagon x o a b)
  | _,_=>.inl 2) else .inl 8) else .inl 13
 | _=>.inl 13
theorem aGz{x:ByteArray}{w:Wd}{e:Int}(h:hM x w = .inl e):e∈pD:=by
 unfold hM at h;split at h;·cases h
 ·cases h;decide
theorem aHV{x:ByteArray}{f:Int→Wd}{e:Int}(h:xX x f = .inl e):e∈pD:=by
 unfold xX at h;split at h;·cases h
 ·cases h;decide
theorem aMY{line:ByteArray}{e:Int}(h:rd line = .inl e):e∈pD:=by
 unfold rd at h
 repeat' split at h
 all_goals first|exact aGz h|exact aHV h|(cases h;decide)|cases h
end
section
section
variable{run:eP}{runY:fS}{r:List DOper}{e:aH}{h:XH}{ix:Nat}{d:Option Nat}{m:Option (List (Nat×Nat))}
def aQv:AV→Option Eff
 | .str s=>some (.new none (.obj true (.stringIter s 0)) fun b=>.pt b 0)
 | _=>none
theorem bD{x:AO}:xo m run runY (⟨ix,d,.rngs x,none⟩::r) e h=kE m run runY r d e h true (aQv (aK e x)):=by
 have h0:aD (.rngs x) e (aG h)=aQv (aK e x):=by simp only[aD,aQv]<;>rfl
 rw[←h0];exact vK rfl (fun _=>rfl) (fun _=>rfl) fun _ _=>rfl
theorem bE{s:ByteArray}:aQv (.str s)=some (.new none (.obj true (.stringIter s 0)) fun b=>.pt b 0):=rfl
theorem bF{x:AO}:xo none run runY (⟨ix,d,.nxts x,none⟩::r) e h=kR none run runY r d e (aFP h (aK e x)):=by
 show fA run runY _ e h=_;simp only[fA,gd,dG];cases aFP h (aK e x)<;>rfl
def dk(s:ByteArray)(i:Nat):Int:=(Utf8.decode s i).1
def dn(s:ByteArray)(i:Nat):Nat:=i+(Utf8.decode s i).2
def nxI(b:Nat)(h:XH)(g:Bool)(s:ByteArray)(pos:Nat)(p:Bool):AV×XH:=if p then (.tup [.bool true,.int .i64 (pos:Int),.int .i32 (dk s pos)],h.set b (some (.blk g (.obj true (.stringIter s (dn s pos)))))) else (.tup [.bool false],h)
def nxM(b:Nat)(h:XH):Option XB→Option (AV×XH)
 | some (.blk g (.obj true (.stringIter s pos)))=>some (nxI b h g s pos (decide (pos<s.size)))
 | _=>none
theorem eT{b:Nat}:aFP h (.pt b 0)=nxM b h (hat h b):=by
 simp only[aFP,nxM,nxI];split
 ·rename_i g s pos hh
  rw[hh];by_cases hp:pos<s.size;·simp[hp,dk,dn]
  ·simp[hp]
 ·rename_i hh
  split
  ·rename_i g s pos h1
   exact absurd h1 (hh _ _ _)
  ·rfl
theorem cJ{b:Nat}{g:Bool}{s:ByteArray}{pos:Nat}:nxM b h (some (.blk g (.obj true (.stringIter s pos))))=some (nxI b h g s pos (decide (pos<s.size))):=rfl
theorem cI{b:Nat}{g:Bool}{s:ByteArray}{pos:Nat}:nxI b h g s pos true=(.tup [.bool true,.int .i64 (pos:Int),.int .i32 (dk s pos)],h.set b (some (.blk g (.obj true (.stringIter s (dn s pos)))))):=rfl
theorem cK{b:Nat}{g:Bool}{s:ByteArray}{pos:Nat}:nxI b h g s pos false=(.tup [.bool false],h):=rfl
end
theorem cL:yI 5 .nilifc .nilifc=some true:=rfl
theorem cM{t:TypeId}{a:AV}:yI 5 (.ifc t a) .nilifc=some false:=rfl
def fmL:List (ByteArray×ByteArray):=[(AAu,⟨⟨[102]⟩⟩),(AAv,AAG),(AAw,⟨⟨[110]⟩⟩),(AAx,⟨⟨[]⟩⟩),(AAy,⟨⟨[109,110]⟩⟩),(AAz,AAH),(AAA,⟨⟨[102]⟩⟩),(AAB,⟨⟨[]⟩⟩),(AAC,⟨⟨[110]⟩⟩),(AAD,⟨⟨[109]⟩⟩),(AAE,⟨⟨[112]⟩⟩),(AAF,⟨⟨[102]⟩⟩)]
def fmE:List (AV×AV):=fmL.map fun p:ByteArray×ByteArray=>(.str p.1,.str p.2)
abbrev fmA:Option XB:=some (.blk true (.map true fmE))
theorem w84:runW aB 84 [] []=some (.mp 0,[fmA]):=dI.2 ⟨20,by kernel_rfl⟩
theorem aJL{w:ByteArray}:∀ l:List (ByteArray×ByteArray),aO true (.str w) (l.map fun p:ByteArray×ByteArray=>(AV.str p.1,AV.str p.2))=some ((l.find? fun p=>decide (w=p.1)).map fun p=>.str p.2)
 | []=>rfl
 | p::l=>by
   have ih:=aJL (w:=w) l;show (match iU true (.str w) (.str p.1)with
    | some true=>some (some (AV.str p.2))
    | some false=>aO true (.str w) (l.map fun p:ByteArray×ByteArray=>(AV.str p.1,AV.str p.2))
    | none=>none)=_
   have hk:iU true (.str w) (.str p.1)=some (decide (w=p.1)):=AAt some (aFJ w p.1);rw[hk];by_cases hx:w=p.1
   ·rw[AAl hx]
    simp[hx]
   ·rw[AAm hx,ih]
    simp[hx]
theorem aVr{s c:ByteArray}(hc:c=⟨⟨[32]⟩⟩)(hs:s.size≤100000):runW aB 83 [.str s,.str c] []=some (.fs ((cR s).map fun w=>[.str w]),[]):=by
 subst hc;rw[eL (d:=mU aAM) rfl rfl];show (if s.size≤100000 then _ else _)=_;rw[if_pos hs];simp[cR,Function.comp_def]
theorem w86{s:ByteArray}(hs:s.size≤100000):runW aB 86 [.str s] []=some (pE s,[]):=by
 rw[eL (d:=mU aFg) rfl rfl];show (if s.size≤100000 then _ else _)=_;rw[if_pos hs]
def sr(l:List ByteArray):List (List AV):=l.map fun x=>[.str x]
theorem pM(l:List ByteArray):(sr l).length=l.length:=by simp[sr]
theorem aJa{l:List ByteArray}{i:Nat}{x:ByteArray}(h:l[i]?=some x):(sr l)[i]?=some [.str x]:=by simp[sr,h]
theorem aMj(l:List ByteArray):((sr l).all fun r=>r.length==1)=true:=by simp[sr]
theorem aIZ(w:ByteArray)(l:List ByteArray):((sr (w::l)).drop 1).take (l.length+1-1)=sr l:=by
 have:(sr l).take l.length=sr l:=B5 (by rw[pM];exact A8 _);exact this
structure aCV(F:ByteArray):Prop where
 dn:∀ i,i<F.size→dn F i=i+1
def yT(F:ByteArray)(xs:List ByteArray)(i:Nat):List Int:=(List.range F.size).map fun j=>if j<i∧dk F j=110 then (dF (xs.getD j ByteArray.empty)).getD 0 else 0
abbrev jG(w0:ByteArray)(xs:List ByteArray)(ns:List Int)(n:Nat):XH:=[some (.blk true (.cells true [.str ⟨⟨[]⟩⟩,.nilsl,.nilsl])),some (.blk false (.cells true [.str w0,.fs (sr xs),.sl 2 0 1 n])),some (.blk true (.cells true (ns.map I)))]
def iV(F:ByteArray)(i:Nat):Option XB:=some (.blk true (.obj true (.stringIter F i)))
def zN(n:Nat):List Int:=List.replicate n 0
theorem aIN(n:Nat):(List.replicate n [AV.int .i64 0]).flatten=(zN n).map I:=by
 unfold zN;induction n with
 | zero=>rfl
 | succ n ih=>rw[M0,M0,I3,ih];rfl
section
variable{F w0 line:ByteArray}{xs:List ByteArray}
theorem aJi(hl:xs.length=F.size)(hF:F.size≤4)(ok:aCV F){ns:List Int}{i:Nat}(hi:i<F.size){y:ByteArray}(hy:xs[i]?=some y)(hys:y.size≤1000)(hn:dk F i=110∨bG y=true) :
 dL 0 [2,4,6,47] (execW aB 60 0 none (match aAd with | .loop _ a=>a|c=>c) (bH [2,4,6,47] [.pt 0 0,.str F,.pt 1 0,.pt 3 0]) (jG w0 xs ns F.size++[iV F i]))=some ([.pt 0 0,.str F,.pt 1 0,.pt 3 0],jG w0 xs ns F.size++[iV F (i+1)]):=by
 have d1:(i<F.size)=True:=AAp hi;have d2:=ok.dn i hi;have d3:((i:Int)<(F.size:Int))=True:=AAa;have sl:=pM xs;rw[hl]at sl;have sa:=aJa hy;have c8:=uQ 8;have c85:=w85 (s:=y) AM;unfold aAd iV jG;dsimp only;by_cases h1:dk F i=110
 ·have e1:(dk F i=110)=True:=AAp h1
  (exact kO d1 d2 d3 sl sa c8 e1 @bD @bE @bF @eT @cJ @cI @cK @cL @cM aE aE aE aE)
 ·have e1:(dk F i=110)=False:=AAq h1
  rw[hn.resolve_left h1]at c85;(exact kO d1 d2 d3 sl sa c8 e1 c85 @bD @bE @bF @eT @cJ @cI @cK @cL @cM aE aE aE)
theorem aFk(F:ByteArray)(xs:List ByteArray)(i:Nat):(yT F xs i).length=F.size:=by simp[yT]
theorem aTJ{F:ByteArray}{xs:List ByteArray}{i:Nat}{y:ByteArray}{v:Int}(hi:i<F.size)(hy:xs[i]?=some y)(hk:dk F i=110)(hv:dF y=some v):yT F xs (i+1)=aMw (yT F xs i) i v:=by
 rw[aMv (by rw[aFk];exact hi)];apply J5;intro j;rw[aH0];unfold yT;rw[A6,A6];by_cases hj:j<F.size
 ·rw[O6 hj,C3,C3]
  by_cases e:i=j
  ·subst e
   rw[if_pos (⟨by omega,hk⟩:i<i+1∧dk F i=110),if_pos rfl,if_pos (by simpa using hi),A1,hy,H7,hv];rfl
  ·rw[if_neg e]
   congr 1;by_cases h1:j<i∧dk F j=110;·rw[if_pos ⟨by omega,h1.2⟩,if_pos h1]
   ·rw[if_neg (fun h=>h1 ⟨by omega,h.2⟩),if_neg h1]
 ·rw[D5 (by simp;omega)]
  by_cases e:i=j;·omega
  ·rw[if_neg e];rfl
theorem aTK{F:ByteArray}{xs:List ByteArray}{i:Nat}(hk:dk F i≠110):yT F xs (i+1)=yT F xs i:=by
 unfold yT;apply N5;intro j _;by_cases h1:j<i∧dk F j=110;·rw[if_pos ⟨by omega,h1.2⟩,if_pos h1]
 ·rw[if_neg (fun h=>h1 ⟨by
   have:j≠i:=fun e=>hk (e▸h.2);omega,h.2⟩),if_neg h1]
theorem aSw(F:ByteArray)(xs:List ByteArray):yT F xs 0=zN F.size:=by
 unfold yT zN;apply J5;intro j;rw[A6,M6];by_cases hj:j<F.size
 ·rw[O6 hj,if_pos hj]
  show some (if j<0∧dk F j=110 then _ else _)=_;rw[if_neg AM]
 ·rw[if_neg hj,D5 (by simp;omega)];rfl
theorem iY{y:ByteArray}{v:Int}(h:dF y=some v):Lib.atoiAll y.data.toList = .ok v∧0≤v∧v≤99999∧(⟨⟨Lib.itoa v⟩⟩:ByteArray)=y:=by
 unfold dF at h;split at h
 ·rename_i u hu
  split at h
  ·rename_i hc
   cases h;refine⟨hu,hc.1,hc.2.1,?_⟩;rw[hc.2.2]
  ·cases h
 ·cases h
theorem aQq(hl:xs.length=F.size)(hF:F.size≤4)(ok:aCV F){i:Nat}(hi:i<F.size){y:ByteArray}(hy:xs[i]?=some y)(hys:y.size≤1000)(hn:dk F i=110→∃ v,dF y=some v) :
 dL 0 [2,6,64] (execW aB 60 0 none (match aAY with | .loop _ a=>a|c=>c) (bH [2,6,64] [.pt 0 0,.pt 1 0,.pt 3 0]) (jG w0 xs (yT F xs i) F.size++[iV F i]))=some ([.pt 0 0,.pt 1 0,.pt 3 0],jG w0 xs (yT F xs (i+1)) F.size++[iV F (i+1)]):=by
 have d1:(i<F.size)=True:=AAp hi;have d2:=ok.dn i hi;have d3:((i:Int)<(F.size:Int))=True:=AAa;have sl:=pM xs;rw[hl]at sl;have sa:=aJa hy;by_cases h1:dk F i=110
 ·obtain⟨v,hv⟩:=hn h1
  obtain⟨v1,v2,v3,v4⟩:=iY hv;have e1:(dk F i=110)=True:=AAp h1;have c86:runW aB 86 [.str y] []=some (.tup [I v,.nilifc],[]):=by
   rw[w86 AM];unfold pE;rw[v1]
  have c35:=w35 0 v 99999;rw[show (decide (0≤v)&&decide (v≤99999))=true by simp[v2,v3]]at c35;have c57:=aCY (n:=v) AM;rw[v4]at c57;have c58:=uQ 2;have se:=tQ y y;rw[AAl rfl]at se;have nl:=aFk F xs i;have lt1:(i+1≤F.size)=True:=AAa;rw[aTJ hi hy h1 hv];generalize yT F xs i=N0 at *;unfold aAY iV jG;dsimp only;(exact tP d1 d2 d3 sl sa e1 c86 c35 c57 c58 se nl lt1 @bD @bE @bF @eT @cJ @cI @cK @cL @cM aE aE aE aE)
 ·have e1:(dk F i=110)=False:=AAq h1
  rw[aTK h1];unfold aAY iV jG;dsimp only;(exact kO d1 d2 d3 sl sa e1 @bD @bE @bF @eT @cJ @cI @cK @cL @cM aE aE aE aE aE)
end
end
end Go.Proofs.YtmapgnepfgnphaaGreatDoor
namespace Go.DL
variable{P:Program}{D:Nat→Option XFn}
theorem CalP.drop{g:Nat}{xs0:List AV}{v:AV}{h':XH}(hp:CalP P D g xs0 [] v h')(hv:Gd v):CalP P D g xs0 [] v []:=by
 intro B Y r H as' hY sh hA;refine FnP.mono ?_ (hp B Y r H as' hY sh hA);rintro v' H' ⟨r',_,sh',rn⟩;have rno:∀ b c,r b=some c→False:=fun b c hb=>by have:=sh.dom b c hb;simp at this
 have s0:SH D Y r [] H':=⟨fun b c hb=>(rno b c hb).elim,fun b c c' x y hx=>by simp[hat]at hx,fun b x hx=>by simp[hat]at hx,GhR.no fun b st p hx=>by simp[hat]at hx⟩;refine⟨r,Sub.refl r,s0,?_⟩;rw[(rn.same hv.gr).1];exact hv.rn
end Go.DL
namespace Go.Proofs.YtmapgnepfgnphaaGreatDoor
open Go Go.DL
section
variable{F w0 line:ByteArray}{xs W:List ByteArray}{v:AV}{e':aH}{h':XH}
abbrev bA:XH:=[some (.blk true (.cells true [.str ⟨⟨[]⟩⟩,.nilsl,.nilsl]))]
theorem aRA(hs:40<line.size):CalP Tryz.prog aB 60 [.str line] [] (.ifc 110 (.agg [I 14])) []:=by
 refine CalP.drop (h':=bA) ?_ (.ifc _ _ (.agg _ fun a ha=>by rw[B2.1 ha];exact .int _ _));refine CalP.of (d:=x60) (e':=bH [] []) aA rfl (by simp[x60]) rfl ?_;have t1:((line.size:Int)≤40)=False:=AAb;unfold x60;dsimp only;refine PanX.seqR (K:=60) aA rfl [0,2] (vs:=[.str line,.pt 0 0]) (h1:=bA) (by (exact uO @bD @bE @bF @eT @cJ @cI @cK @cL @cM)) ?_;refine PanX.seqL ?_;exact PanX.reg (p:=[⟨0,some 13,.mv (.t 0),none⟩,⟨0,some 14,.len true (.t 13),none⟩,⟨0,some 15,.bin .leq (.t 14) (.c (.int .i64 40)),none⟩]) (post:=[]) aA [] (g:=58) (first:=[]) (cap:=[]) (args:=[.bool false,I 14]) (vs:=[]) (h1:=bA) rfl rfl (by (exact nN t1 @bD @bE @bF @eT @cJ @cI @cK @cL @cM)) (c58 14 _)
def r4c:XCode:=match x60.body with | .seq _ (.seq _ (.seq _ (.seq _ r)))=>r|c=>c
theorem aTA(hs:line.size≤40)(hw:cR line=w0::xs){f:ByteArray}{b:Bool}(hf:aDT true (.str ⟨⟨[]⟩⟩) (aO true (.str w0) fmE)=some (.tup [.str f,.bool b]))(hp:PanX Tryz.prog aB x60 0 r4c (bH [2,3,4,5] [.pt 0 0,.fs (sr (w0::xs)),.str f,.bool b]) (bA++[fmA]) v e' h'):PanX Tryz.prog aB x60 0 x60.body (aV [.str line]) [] v e' h':=by
 have c83:runW aB 83 [.str line,.str ⟨#[32]⟩] []=some (.fs (sr (cR line)),[]):=aVr (s:=line) (c:=⟨#[32]⟩) rfl AM;have aON:=uQ 14;rw[hw]at c83;have r0:(sr (w0::xs))[0]?=some [.str w0]:=rfl;have rl:=pM (w0::xs);rw[C8]at rl;have t40:((line.size:Int)≤40)=True:=AAa;have n0:((0:Int)<((xs.length+1:Nat):Int))=True:=AAa;generalize sr (w0::xs)=R at *;unfold r4c at hp;unfold x60 at *;dsimp only at *;refine PanX.seqR (K:=60) aA rfl [0,2] (vs:=[.str line,.pt 0 0]) (h1:=bA) (by (exact uO @bD @bE @bF @eT @cJ @cI @cK @cL @cM)) ?_;refine PanX.seqR (K:=60) aA rfl [0,2] (vs:=[.str line,.pt 0 0]) (h1:=bA) (by (exact nJ aON t40 @bD @bE @bF @eT @cJ @cI @cK @cL @cM aE aE)) ?_;refine PanX.seqR (K:=60) aA rfl [2,3] (vs:=[.pt 0 0,.fs R]) (h1:=bA) (by (exact nN c83 @bD @bE @bF @eT @cJ @cI @cK @cL @cM)) ?_;exact PanX.seqR (K:=60) aA rfl [2,3,4,5] (vs:=[.pt 0 0,.fs R,.str f,.bool b]) (h1:=bA++[fmA]) (by (exact kO w84 hf r0 rl n0 @bD @bE @bF @eT @cJ @cI @cK @cL @cM aE aE aE aE aE aE)) hp
theorem gY(hs:line.size≤40)(hw:cR line=w0::xs){f:ByteArray}{b:Bool}(hf:aDT true (.str ⟨⟨[]⟩⟩) (aO true (.str w0) fmE)=some (.tup [.str f,.bool b]))(hF:f.size≤4)(hn:b=true→xs.length≠f.size):CalP Tryz.prog aB 60 [.str line] [] (.ifc 110 (.agg [I 13])) []:=by
 refine CalP.drop (h':=bA++[fmA]) ?_ (.ifc _ _ (.agg _ fun a ha=>by rw[B2.1 ha];exact .int _ _));refine CalP.of (d:=x60) (e':=bH [] []) aA rfl (by simp[x60]) rfl ?_;refine aTA hs hw hf ?_;have rl:=pM (w0::xs);rw[C8]at rl;have a1:IntKind.i64.wrap ((f.size:Int)+1)=((f.size+1:Nat):Int):=by rw[aI AM AM];rfl
 have e1:b=true→(((xs.length+1:Nat):Int)=((f.size+1:Nat):Int))=False:=fun h=>AAq (by have:=hn h;omega);generalize sr (w0::xs)=R at *;unfold r4c x60;dsimp only;refine PanX.seqL ?_;refine PanX.reg (p:=[⟨0,some 27,.mv (.t 5),none⟩,⟨0,some 28,.mv (.t 27),none⟩,⟨0,some 29,.mv (.t 3),some (28,true)⟩,⟨0,some 30,.len false (.t 29),some (28,true)⟩,⟨0,some 31,.mv (.t 4),some (28,true)⟩,⟨0,some 32,.len true (.t 31),some (28,true)⟩,⟨0,some 33,.bin .add (.t 32) (.c (.int .i64 1)),some (28,true)⟩,⟨0,some 34,.bin .eql (.t 30) (.t 33),some (28,true)⟩,⟨0,some 35,.pick (.t 28) (.t 34) (.c (.bool false)),none⟩]) (post:=[]) aA [] (g:=58) (first:=[]) (cap:=[]) (args:=[.bool false,I 13]) (vs:=[]) (h1:=bA++[fmA]) rfl rfl ?_ (c58 13 _);cases b with
 | false=>(exact nJ rl a1 @bD @bE @bF @eT @cJ @cI @cK @cL @cM aE aE)
 | true =>
   have e1:=e1 rfl;(exact nJ rl a1 e1 @bD @bE @bF @eT @cJ @cI @cK @cL @cM aE)
def r6c:XCode:=match r4c with | .seq _ (.seq _ r)=>r|c=>c
abbrev a60(F w0:ByteArray)(xs:List ByteArray):XH:=[some (.blk true (.cells true [.str ⟨⟨[]⟩⟩,.nilsl,.nilsl])),fmA,some (.blk true (.cells true ((zN F.size).map I))),some (.blk false (.cells true [.str w0,.fs (sr xs),.sl 2 0 1 F.size]))]
theorem aWi(hl:xs.length=F.size)(hF:F.size≤4)(hp:PanX Tryz.prog aB x60 0 r6c (bH [2,4,6] [.pt 0 0,.str F,.pt 3 0]) (a60 F w0 xs) v e' h'):PanX Tryz.prog aB x60 0 r4c (bH [2,3,4,5] [.pt 0 0,.fs (sr (w0::xs)),.str F,.bool true]) (bA++[fmA]) v e' h':=by
 have aOM:=uQ 13;have r0:(sr (w0::xs))[0]?=some [.str w0]:=rfl;have rl:=pM (w0::xs);rw[C8,hl]at rl;have ra:=aMj (w0::xs);have rt:=aIZ w0 xs;rw[hl]at rt;have n0:((0:Int)<((F.size+1:Nat):Int))=True:=AAa;have n1:((1:Int)≤((F.size+1:Nat):Int))=True:=AAa;have a1:IntKind.i64.wrap ((F.size:Int)+1)=((F.size+1:Nat):Int):=by rw[aI AM AM];rfl
 have z0:((0:Int)≤(F.size:Int))=True:=AAa;have z1:((8:Int)*(F.size:Int)≤281474976710656)=True:=AAa;have z3:((F.size:Int)≤(F.size:Int))=True:=AAa;have z4:((F.size:Int)).toNat=F.size:=Int.toNat_natCast _;have z5:=aIN F.size;have z2:((F.size:Int)≤9223372036854775807)=True:=AAa;unfold r6c at hp;generalize sr (w0::xs)=R at *;unfold r4c x60 at *;dsimp only at *;refine PanX.seqR (K:=60) aA rfl [2,3,4] (vs:=[.pt 0 0,.fs R,.str F]) (h1:=bA++[fmA]) (by (exact nJ aOM rl a1 @bD @bE @bF @eT @cJ @cI @cK @cL @cM aE)) ?_;exact PanX.seqR (K:=60) aA rfl [2,4,6] (vs:=[.pt 0 0,.str F,.pt 3 0]) (h1:=a60 F w0 xs) (by (exact tP r0 rl ra rt n0 n1 z0 z1 z2 z3 z4 z5 @bD @bE @bF @eT @cJ @cI @cK @cL @cM aE aE aE aE aE)) hp
theorem aWo(hl:xs.length=F.size)(hF:F.size≤4)(ok:aCV F)(hys:∀ y∈xs,y.size≤1000){i:Nat}(hi:i<F.size){y:ByteArray}(hy:xs[i]?=some y)(hk:dk F i≠110)(hb:bG y=false)(hn:∀ j,j<i→∀ z,xs[j]?=some z→dk F j=110∨bG z=true) :
 PanX Tryz.prog aB x60 0 r6c (bH [2,4,6] [.pt 0 0,.str F,.pt 3 0]) (a60 F w0 xs) (.ifc 110 (.agg [I 8])) (bH [] []) (jG w0 xs (zN F.size) F.size++[iV F (i+1)]):=by
 have d1:(i<F.size)=True:=AAp hi;have d2:=ok.dn i hi;have d3:((i:Int)<(F.size:Int))=True:=AAa;have sl:=pM xs;rw[hl]at sl;have sa:=aJa hy;have c85:=w85 (s:=y) (by have:=hys y (A5 hy);omega);rw[hb]at c85;have e1:(dk F i=110)=False:=AAq hk;unfold r6c r4c x60;dsimp only;refine PanX.seqL ?_;refine PanX.seqR (K:=60) aA rfl [2,4,6,47] (vs:=[.pt 0 0,.str F,.pt 3 0,.pt 4 0]) (h1:=a60 F w0 xs++[iV F 0]) (by unfold a60 iV; (exact uO @bD @bE @bF @eT @cJ @cI @cK @cL @cM)) ?_;refine PanX.block ?_;have rd:=fun j (hj:j<i)=>aJi (w0:=w0) (ns:=zN F.size) hl hF ok (i:=j) AM (y:=xs.getD j ByteArray.empty) (by rw[A1,A4 AM];rfl) (hys _ (by rw[A1,A4 AM];exact aC8 _)) (hn j hj _ (by rw[A1,A4 AM];rfl));unfold aAd at rd ⊢;refine PanX.loop (K:=60) aA rfl i (fun _=>[.pt 0 0,.str F,.pt 1 0,.pt 3 0]) (fun j=>jG w0 xs (zN F.size) F.size++[iV F j]) ?_ rd ?_
 ·unfold a60 jG iV
  (exact uO @bD @bE @bF @eT @cJ @cI @cK @cL @cM)
 ·refine PanX.seqR (K:=60) aA rfl [6,48,49] (vs:=[.pt 1 0,.tup [.bool true,I (i:Nat),.int .i32 (dk F i)],.bool true]) (h1:=jG w0 xs (zN F.size) F.size++[iV F (i+1)]) (by unfold jG iV; (exact nJ d1 d2 @bD @bE @bF @eT @cJ @cI @cK @cL @cM aE aE)) ?_
  refine PanX.seqR (K:=60) aA rfl [6,48] (vs:=[.pt 1 0,.tup [.bool true,I (i:Nat),.int .i32 (dk F i)]]) (h1:=jG w0 xs (zN F.size) F.size++[iV F (i+1)]) (by unfold jG iV; (exact uO @bD @bE @bF @eT @cJ @cI @cK @cL @cM)) ?_;refine PanX.block ?_;refine PanX.seqR (K:=60) aA rfl [6,7,8] (vs:=[.pt 1 0,I (i:Nat),.int .i32 (dk F i)]) (h1:=jG w0 xs (zN F.size) F.size++[iV F (i+1)]) (by unfold jG iV; (exact uO @bD @bE @bF @eT @cJ @cI @cK @cL @cM)) ?_;exact PanX.reg (p:=[⟨0,some 52,.mv (.t 8),none⟩,⟨0,some 53,.bin .eql (.t 52) (.c (.int .i32 110)),none⟩,⟨0,some 54,.mv (.t 53),none⟩,⟨0,some 55,.fld 1 (.t 6),some (54,false)⟩,⟨0,some 56,.load false 1 (.t 55),some (54,false)⟩,⟨0,some 57,.mv (.t 7),some (54,false)⟩,⟨0,some 58,.idx 1 (.t 56) (.t 57),some (54,false)⟩,⟨0,some 59,.load false 1 (.t 58),some (54,false)⟩,⟨0,some 60,.callf false (.c (.fn (.func 85) [] [])) [.t 59] [],some (54,false)⟩,⟨0,some 61,.pick (.t 54) (.c (.bool true)) (.t 60),none⟩]) (post:=[]) aA [] (g:=58) (first:=[]) (cap:=[]) (args:=[.bool false,I 8]) (vs:=[]) (h1:=jG w0 xs (zN F.size) F.size++[iV F (i+1)]) rfl rfl (by unfold jG iV; (exact kO e1 d3 sl sa c85 @bD @bE @bF @eT @cJ @cI @cK @cL @cM aE aE aE aE aE aE)) (c58 8 _)
def Ws(F:ByteArray)(xs:List ByteArray):Prop:=xs.length=F.size∧F.size≤4∧aCV F∧∀ y∈xs,y.size≤1000
theorem aKc{i:Nat}(hi:i<xs.length):xs[i]?=some (xs.getD i ByteArray.empty)∧xs.getD i ByteArray.empty∈xs:=by
 rw[A1,A4 hi];exact⟨rfl,aC8 _⟩
theorem aVY(ws:Ws F xs)(hn:∀ j,j<F.size→dk F j=110∨bG (xs.getD j ByteArray.empty)=true){ns:List Int}(j:Nat)(hj:j<F.size) :
 dL 0 [2,4,6,47] (execW aB 60 0 none (match aAd with | .loop _ a=>a|c=>c) (bH [2,4,6,47] [.pt 0 0,.str F,.pt 1 0,.pt 3 0]) (jG w0 xs ns F.size++[iV F j]))=some ([.pt 0 0,.str F,.pt 1 0,.pt 3 0],jG w0 xs ns F.size++[iV F (j+1)]):=by
 obtain⟨h1,h2,h3,h4⟩:=ws;obtain⟨k1,k2⟩:=aKc (xs:=xs) (i:=j) AM;exact aJi h1 h2 h3 hj k1 (h4 _ k2) (hn j hj)
theorem aVX(ws:Ws F xs){i:Nat}(hn:∀ j,j<i→dk F j=110→∃ v,dF (xs.getD j ByteArray.empty)=some v)(j:Nat)(hji:j<i)(hj:j<F.size) :
 dL 0 [2,6,64] (execW aB 60 0 none (match aAY with | .loop _ a=>a|c=>c) (bH [2,6,64] [.pt 0 0,.pt 1 0,.pt 3 0]) (jG w0 xs (yT F xs j) F.size++[iV F j]))=some ([.pt 0 0,.pt 1 0,.pt 3 0],jG w0 xs (yT F xs (j+1)) F.size++[iV F (j+1)]):=by
 obtain⟨h1,h2,h3,h4⟩:=ws;obtain⟨k1,k2⟩:=aKc (xs:=xs) (i:=j) AM;exact aQq h1 h2 h3 hj k1 (h4 _ k2) (hn j hji)
theorem l60(ws:Ws F xs)(hn:∀ j,j<F.size→dk F j=110∨bG (xs.getD j ByteArray.empty)=true) :
 qD [2,4,6] (execW aB 60 0 none (match r6c with | .seq a _=>a|c=>c) (bH [2,4,6] [.pt 0 0,.str F,.pt 3 0]) (a60 F w0 xs))=some (.normal,[.pt 0 0,.str F,.pt 1 0],jG w0 xs (zN F.size) F.size++[iV F F.size]):=by
 have e0:(F.size<F.size)=False:=AAb;unfold r6c r4c x60;dsimp only;sym =>
  simp[bD,bE,bF,eT,cJ,cI,cK,cL,cM,Za,Zb,Zf,Zh,Zl,Zm,Zo,Zv,ZQ,Ye,Y6,XJ,XN,XO,XW,Ww,Wz,W3,W4,V1,VA,VB,VC,VF,VG,VI,VK,VL,VN,VP,VQ,VR,VS,VX,VY,VZ,Ud,Ue,UU,UV,UW,UX,UZ,Ta,Td,Te,Tf,Tg,Th,Tj,Tl,Tm,Tq,T3,T5,T9,TA,TB,TC,Sz,S9,SC,SD,SE,SF,SK,SL,SM,Rr,Pl]
  tactic =>
   have rd:=aVY (w0:=w0) (ns:=zN F.size) ws hn;unfold aAd at rd ⊢;rw[aS F.size (fun _=>[.pt 0 0,.str F,.pt 1 0,.pt 3 0]) (fun i=>jG w0 xs (zN F.size) F.size++[iV F i])]
   ·unfold iV jG
    (exact nN e0 @bD @bE @bF @eT @cJ @cI @cK @cL @cM)
   ·unfold iV jG
    (exact uO @bD @bE @bF @eT @cJ @cI @cK @cL @cM)
   ·exact rd
   ·unfold iV jG
    (exact nN e0 @bD @bE @bF @eT @cJ @cI @cK @cL @cM)
def r7c:XCode:=match r6c with | .seq _ r=>r|c=>c
theorem aLr{y:ByteArray}(h:dF y=none):(∃ u,Lib.atoiAll y.data.toList = .ok u∧(decide (0≤u)&&decide (u≤99999))=false)∨(∃ u,Lib.atoiAll y.data.toList = .ok u∧(0≤u∧u≤99999)∧aQ .eql ⟨⟨Lib.itoa u⟩⟩ y=some (.bool false))∨∃ u,pE y = .tup [I u,.ifc 232 .any]:=by
 unfold dF at h;cases hA:Lib.atoiAll y.data.toList with
 | ok u =>
   rw[hA]at h;dsimp only at h;split at h;·cases h
   ·rename_i hc
    by_cases h1:0≤u∧u≤99999
    ·refine .inr (.inl ⟨u,rfl,h1,?_⟩)
     rw[tQ,AAm];intro e;exact hc ⟨h1.1,h1.2,by rw[←e]⟩
    ·refine .inl ⟨u,rfl,?_⟩
     rw[O1,AAf,AAf];by_cases h2:0≤u;·exact .inr fun h3=>h1 ⟨h2,h3⟩
     ·exact .inl h2
 | _=>exact .inr (.inr ⟨_,by unfold pE;rw[hA]⟩)
theorem aWn(ws:Ws F xs){i:Nat}(hi:i<F.size){y:ByteArray}(hy:xs[i]?=some y)(hk:dk F i=110)(hb:dF y=none)(hn:∀ j,j<i→dk F j=110→∃ v,dF (xs.getD j ByteArray.empty)=some v) :
 PanX Tryz.prog aB x60 0 r7c (bH [2,4,6] [.pt 0 0,.str F,.pt 1 0]) (jG w0 xs (zN F.size) F.size++[iV F F.size]) (.ifc 110 (.agg [I 2])) (bH [] []) (jG w0 xs (yT F xs i) F.size++[iV F (i+1)]):=by
 have d1:(i<F.size)=True:=AAp hi;have d2:=ws.2.2.1.dn i hi;have d3:((i:Int)<(F.size:Int))=True:=AAa;have sl:=pM xs;rw[ws.1]at sl;have sa:=aJa hy;have e1:(dk F i=110)=True:=AAp hk;have c86:=w86 (s:=y) (by have:=ws.2.2.2 y (A5 hy);omega);unfold r7c r6c r4c x60;dsimp only;refine PanX.seqL ?_;refine PanX.seqR (K:=60) aA rfl [2,6,64] (vs:=[.pt 0 0,.pt 1 0,.pt 4 0]) (h1:=jG w0 xs (zN F.size) F.size++[iV F F.size,iV F 0]) (by unfold jG iV; (exact uO @bD @bE @bF @eT @cJ @cI @cK @cL @cM)) ?_;refine PanX.block ?_;have rd:=fun j (hj:j<i)=>aVX (w0:=w0) ws hn j hj AM;unfold aAY at rd ⊢;refine PanX.loop (K:=60) aA rfl i (fun _=>[.pt 0 0,.pt 1 0,.pt 3 0]) (fun j=>jG w0 xs (yT F xs j) F.size++[iV F j]) ?_ rd ?_
 ·rw[aSw]
  unfold jG iV;(exact uO @bD @bE @bF @eT @cJ @cI @cK @cL @cM)
 ·generalize yT F xs i=N0
  refine PanX.seqR (K:=60) aA rfl [6,65,66] (vs:=[.pt 1 0,.tup [.bool true,I (i:Nat),.int .i32 (dk F i)],.bool true]) (h1:=jG w0 xs N0 F.size++[iV F (i+1)]) (by unfold jG iV; (exact nJ d1 d2 @bD @bE @bF @eT @cJ @cI @cK @cL @cM aE aE)) ?_;refine PanX.seqR (K:=60) aA rfl [6,65] (vs:=[.pt 1 0,.tup [.bool true,I (i:Nat),.int .i32 (dk F i)]]) (h1:=jG w0 xs N0 F.size++[iV F (i+1)]) (by unfold jG iV; (exact uO @bD @bE @bF @eT @cJ @cI @cK @cL @cM)) ?_;refine PanX.block ?_;refine PanX.seqR (K:=60) aA rfl [6,9,10] (vs:=[.pt 1 0,I (i:Nat),.int .i32 (dk F i)]) (h1:=jG w0 xs N0 F.size++[iV F (i+1)]) (by unfold jG iV; (exact uO @bD @bE @bF @eT @cJ @cI @cK @cL @cM)) ?_;refine PanX.seqR (K:=60) aA rfl [6,9,70] (vs:=[.pt 1 0,I (i:Nat),.bool true]) (h1:=jG w0 xs N0 F.size++[iV F (i+1)]) (by unfold jG iV; (exact nN e1 @bD @bE @bF @eT @cJ @cI @cK @cL @cM)) ?_;refine PanX.condT rfl ?_;rcases aLr hb with ⟨u,hA,hc⟩|⟨u,hA,hc,hs⟩|⟨u,hA⟩
  ·have av:pE y = .tup [I u,.nilifc]:=by unfold pE;rw[hA]
   rw[av]at c86;have c35:=w35 0 u 99999;rw[hc]at c35;refine PanX.seqR (K:=60) aA rfl [6,9,11,12] (vs:=[.pt 1 0,I (i:Nat),I u,.nilifc]) (h1:=jG w0 xs N0 F.size++[iV F (i+1)]) (by unfold jG iV; (exact nJ d3 sl sa c86 @bD @bE @bF @eT @cJ @cI @cK @cL @cM)) ?_;refine PanX.seqL ?_;exact PanX.regU (fr:=[]) (p:=[⟨0,some 80,.mv (.t 12),none⟩,⟨1,some 81,.eqn 5 false (.t 80) (.c .nilifc),none⟩,⟨2,some 82,.mv (.t 81),none⟩,⟨3,some 83,.mv (.t 11),some (82,true)⟩,⟨4,some 84,.callf false (.c (.fn (.func 35) [] [])) [(.c (.int .i64 0)),(.t 83),(.c (.int .i64 99999))] [],some (82,true)⟩,⟨5,some 85,.pick (.t 82) (.t 84) (.c (.bool false)),none⟩,⟨6,some 86,.mv (.t 85),none⟩,⟨7,some 87,.mv (.t 11),some (86,true)⟩,⟨9,some 89,.fld 1 (.t 6),some (86,true)⟩,⟨10,some 90,.load false 1 (.t 89),some (86,true)⟩,⟨11,some 91,.mv (.t 9),some (86,true)⟩,⟨12,some 92,.idx 1 (.t 90) (.t 91),some (86,true)⟩,⟨13,some 93,.load false 1 (.t 92),some (86,true)⟩,⟨8,some 88,.callf false (.c (.fn (.func 57) [] [])) [(.t 87)] [10,13],some (86,true)⟩,⟨14,some 94,.bin .eql (.t 88) (.t 93),some (86,true)⟩,⟨15,some 95,.pick (.t 86) (.t 94) (.c (.bool false)),none⟩]) (post:=[]) aA [] (g:=58) (first:=[]) (cap:=[]) (args:=[.bool false,I 2]) (vs:=[]) rfl rfl rfl (by unfold jG iV; (exact nN c35 @bD @bE @bF @eT @cJ @cI @cK @cL @cM)) (c58 2 _)
  ·have av:pE y = .tup [I u,.nilifc]:=by unfold pE;rw[hA]
   rw[av]at c86;have c35:=w35 0 u 99999;rw[show (decide (0≤u)&&decide (u≤99999))=true by simp[hc.1,hc.2]]at c35;have c57:=aCY (n:=u) AM;refine PanX.seqR (K:=60) aA rfl [6,9,11,12] (vs:=[.pt 1 0,I (i:Nat),I u,.nilifc]) (h1:=jG w0 xs N0 F.size++[iV F (i+1)]) (by unfold jG iV; (exact nJ d3 sl sa c86 @bD @bE @bF @eT @cJ @cI @cK @cL @cM)) ?_;refine PanX.seqL ?_;exact PanX.regU (fr:=[]) (p:=[⟨0,some 80,.mv (.t 12),none⟩,⟨1,some 81,.eqn 5 false (.t 80) (.c .nilifc),none⟩,⟨2,some 82,.mv (.t 81),none⟩,⟨3,some 83,.mv (.t 11),some (82,true)⟩,⟨4,some 84,.callf false (.c (.fn (.func 35) [] [])) [(.c (.int .i64 0)),(.t 83),(.c (.int .i64 99999))] [],some (82,true)⟩,⟨5,some 85,.pick (.t 82) (.t 84) (.c (.bool false)),none⟩,⟨6,some 86,.mv (.t 85),none⟩,⟨7,some 87,.mv (.t 11),some (86,true)⟩,⟨9,some 89,.fld 1 (.t 6),some (86,true)⟩,⟨10,some 90,.load false 1 (.t 89),some (86,true)⟩,⟨11,some 91,.mv (.t 9),some (86,true)⟩,⟨12,some 92,.idx 1 (.t 90) (.t 91),some (86,true)⟩,⟨13,some 93,.load false 1 (.t 92),some (86,true)⟩,⟨8,some 88,.callf false (.c (.fn (.func 57) [] [])) [(.t 87)] [10,13],some (86,true)⟩,⟨14,some 94,.bin .eql (.t 88) (.t 93),some (86,true)⟩,⟨15,some 95,.pick (.t 86) (.t 94) (.c (.bool false)),none⟩]) (post:=[]) aA [] (g:=58) (first:=[]) (cap:=[]) (args:=[.bool false,I 2]) (vs:=[]) rfl rfl rfl (by unfold jG iV; (exact kO c35 c57 hs d3 sl sa @bD @bE @bF @eT @cJ @cI @cK @cL @cM aE aE aE aE aE)) (c58 2 _)
  ·rw[hA]at c86
   refine PanX.seqR (K:=60) aA rfl [6,9,11,12] (vs:=[.pt 1 0,I (i:Nat),I u,.ifc 232 .any]) (h1:=jG w0 xs N0 F.size++[iV F (i+1)]) (by unfold jG iV; (exact nJ d3 sl sa c86 @bD @bE @bF @eT @cJ @cI @cK @cL @cM)) ?_;refine PanX.seqL ?_;exact PanX.regU (fr:=[]) (p:=[⟨0,some 80,.mv (.t 12),none⟩,⟨1,some 81,.eqn 5 false (.t 80) (.c .nilifc),none⟩,⟨2,some 82,.mv (.t 81),none⟩,⟨3,some 83,.mv (.t 11),some (82,true)⟩,⟨4,some 84,.callf false (.c (.fn (.func 35) [] [])) [(.c (.int .i64 0)),(.t 83),(.c (.int .i64 99999))] [],some (82,true)⟩,⟨5,some 85,.pick (.t 82) (.t 84) (.c (.bool false)),none⟩,⟨6,some 86,.mv (.t 85),none⟩,⟨7,some 87,.mv (.t 11),some (86,true)⟩,⟨9,some 89,.fld 1 (.t 6),some (86,true)⟩,⟨10,some 90,.load false 1 (.t 89),some (86,true)⟩,⟨11,some 91,.mv (.t 9),some (86,true)⟩,⟨12,some 92,.idx 1 (.t 90) (.t 91),some (86,true)⟩,⟨13,some 93,.load false 1 (.t 92),some (86,true)⟩,⟨8,some 88,.callf false (.c (.fn (.func 57) [] [])) [(.t 87)] [10,13],some (86,true)⟩,⟨14,some 94,.bin .eql (.t 88) (.t 93),some (86,true)⟩,⟨15,some 95,.pick (.t 86) (.t 94) (.c (.bool false)),none⟩]) (post:=[]) aA [] (g:=58) (first:=[]) (cap:=[]) (args:=[.bool false,I 2]) (vs:=[]) rfl rfl rfl (by unfold jG iV; (exact uO @bD @bE @bF @eT @cJ @cI @cK @cL @cM)) (c58 2 _)
theorem w60(hs:line.size≤40)(hw:cR line=w0::xs)(hf:aO true (.str w0) fmE=some (some (.str F)))(ws:Ws F xs)(hn:∀ j,j<F.size→dk F j=110∨bG (xs.getD j ByteArray.empty)=true)(hm:∀ j,j<F.size→dk F j=110→∃ v,dF (xs.getD j ByteArray.empty)=some v) :
 runW aB 60 [.str line] []=some (.agg [.str w0,.fs (sr xs),.fs ((yT F xs F.size).map fun v=>[I v])],[]):=by
 have hl:=ws.1;have hF:=ws.2.1;have c83:runW aB 83 [.str line,.str ⟨#[32]⟩] []=some (.fs (sr (cR line)),[]):=aVr (s:=line) (c:=⟨#[32]⟩) rfl AM;have aON:=uQ 14;have aOM:=uQ 13;rw[hw]at c83;have r0:(sr (w0::xs))[0]?=some [.str w0]:=rfl;have rl:=pM (w0::xs);rw[C8,hl]at rl;have ra:=aMj (w0::xs);have rt:=aIZ w0 xs;rw[hl]at rt;have t40:((line.size:Int)≤40)=True:=AAa;have n0:((0:Int)<((F.size+1:Nat):Int))=True:=AAa;have n1:((1:Int)≤((F.size+1:Nat):Int))=True:=AAa;have a1:IntKind.i64.wrap ((F.size:Int)+1)=((F.size+1:Nat):Int):=by rw[aI AM AM];rfl
 have z0:((0:Int)≤(F.size:Int))=True:=AAa;have z1:((8:Int)*(F.size:Int)≤281474976710656)=True:=AAa;have z3:((F.size:Int)≤(F.size:Int))=True:=AAa;have z4:((F.size:Int)).toNat=F.size:=Int.toNat_natCast _;have z5:=aIN F.size;have z2:((F.size:Int)≤9223372036854775807)=True:=AAa;have e0:(F.size<F.size)=False:=AAb;have nl:=aFk F xs F.size;have ch:bU ((yT F xs F.size).map I) 0 1 F.size=(yT F xs F.size).map fun v=>[I v]:=by
  have h:=yL (f:=I) (yT F xs F.size) [];rw[nl]at h;exact h
 have f1:(F.size≤(yT F xs F.size).length)=True:=AAp (by rw[nl];exact A8 _);have rd0:=aVY (w0:=w0) (ns:=zN F.size) ws hn;have rd1:=fun j (hj:j<F.size)=>aVX (w0:=w0) ws hm j hj hj;generalize sr (w0::xs)=R at *;rw[qX 60 x60 rfl];unfold x60;dsimp only;sym =>
  simp[bD,bE,bF,eT,cJ,cI,cK,cL,cM,Za,Zb,Zc,Zd,Ze,Zf,Zg,Zh,Zi,Zj,Zl,Zm,Zn,Zo,Zp,Zq,Zv,Zw,Zy,Z0,ZA,ZH,ZK,ZM,ZP,ZQ,ZR,ZV,ZX,ZY,ZZ,Ya,Yb,Yc,Ye,Yh,Yi,Yj,Ym,Yn,Yo,Yv,Yy,Y4,Y5,Y6,Y7,YE,YH,YM,YN,YT,YV,Xi,Xp,Xq,Xt,Xu,Xv,Xz,XI,XJ,XL,XN,XO,XW,Wg,Wi,Wk,Wl,Wo,Wu,Wv,Ww,Wx,Wy,Wz,W3,W4,W5,WG,WH,WJ,WK,WS,WT,WU,WV,Va,Vb,Vd,Vp,Vq,Vr,Vs,Vz,V1,V2,V3,V4,V5,V6,V7,V8,V9,VA,VB,VC,VF,VG,VH,VI,VK,VL,VM,VN,VO,VP,VQ,VR,VS,VT,VU,VX,VY,VZ,Ud,Ue,Ug,Uh,Ui,Uk,Ul,Um,Ur,Us,Ut,Uu,Uv,Uw,Ux,Uy,U9,UA,UB,UE,UF,UH,UI,UJ,UK,UL,UO,UP,UQ,US,UT,UU,UV,UW,UX,UZ,Ta,Tc,Td,Te,Tf,Tg,Th,Tj,Tl,Tm,Tn,Tq,Tt,Tv,Tx,Ty,Tz,T0,T3,T4,T5,T6,T8,T9,TA,TB,TC,TD,TE,TF,TG,TH,TI,TJ,TK,TL,TM,TN,TO,TP,TQ,TR,Sc,Sd,Sn,Sp,Sq,Sr,Ss,Su,Sv,Sw,Sz,S7,S9,SA,SC,SD,SE,SF,SK,SL,SM,SN,SY,SZ,Rb,Rc,Rp,Rq,Rr,Rs,Rx,Qg,Qh,Qj,Ql,Qw,Qx,Qz,Q0,QA,QB,QX,QY,QZ,Pa,Pb,Pl,c83,aON,aOM,w84,hf,r0,rl,ra,rt,t40,n0,n1,a1,z0,z1,z2,z3,z4,z5]
  tactic =>
   unfold aAd at rd0 ⊢;rw[aS F.size (fun _=>[.pt 0 0,.str F,.pt 1 0,.pt 3 0]) (fun i=>jG w0 xs (zN F.size) F.size++[iV F i])]
   ·unfold iV jG
    sym =>
     simp[bD,bE,bF,eT,cJ,cI,cK,cL,cM,Za,Zb,Zc,Zd,Ze,Zf,Zg,Zh,Zi,Zj,Zl,Zm,Zn,Zo,Zp,Zq,Zv,Zw,Zy,Z0,ZA,ZH,ZK,ZM,ZP,ZQ,ZR,ZV,ZX,ZY,ZZ,Ya,Yb,Yc,Ye,Yh,Yi,Yj,Ym,Yn,Yo,Yv,Yy,Y4,Y5,Y6,Y7,YE,YH,YM,YN,YT,YV,Xi,Xp,Xq,Xt,Xu,Xv,Xz,XI,XJ,XL,XN,XO,XW,Wg,Wi,Wk,Wl,Wo,Wu,Wv,Ww,Wx,Wy,Wz,W3,W4,W5,WG,WH,WJ,WK,WS,WT,WU,WV,Va,Vb,Vd,Vp,Vq,Vr,Vs,Vz,V1,V2,V3,V4,V5,V6,V7,V8,V9,VA,VB,VC,VF,VG,VH,VI,VK,VL,VM,VN,VO,VP,VQ,VR,VS,VT,VU,VX,VY,VZ,Ud,Ue,Ug,Uh,Ui,Uk,Ul,Um,Ur,Us,Ut,Uu,Uv,Uw,Ux,Uy,U9,UA,UB,UE,UF,UH,UI,UJ,UK,UL,UO,UP,UQ,US,UT,UU,UV,UW,UX,UZ,Ta,Tc,Td,Te,Tf,Tg,Th,Tj,Tl,Tm,Tn,Tq,Tt,Tv,Tx,Ty,Tz,T0,T3,T4,T5,T6,T8,T9,TA,TB,TC,TD,TE,TF,TG,TH,TI,TJ,TK,TL,TM,TN,TO,TP,TQ,TR,Sc,Sd,Sn,Sp,Sq,Sr,Ss,Su,Sv,Sw,Sz,S7,S9,SA,SC,SD,SE,SF,SK,SL,SM,SN,SY,SZ,Rb,Rc,Rp,Rq,Rr,Rs,Rx,Qg,Qh,Qj,Ql,Qw,Qx,Qz,Q0,QA,QB,QX,QY,QZ,Pa,Pb,Pl,e0]
     tactic =>
      unfold aAY at rd1 ⊢;rw[aS F.size (fun _=>[.pt 0 0,.pt 1 0,.pt 3 0]) (fun i=>jG w0 xs (yT F xs i) F.size++[iV F i])]
      ·unfold iV jG
       generalize yT F xs F.size=N0 at *;(exact nJ e0 nl ch f1 @bD @bE @bF @eT @cJ @cI @cK @cL @cM)
      ·unfold iV jG
       rw[aSw];(exact uO @bD @bE @bF @eT @cJ @cI @cK @cL @cM)
      ·exact rd1
      ·unfold iV jG
       (exact nN e0 @bD @bE @bF @eT @cJ @cI @cK @cL @cM)
   ·unfold iV jG
    (exact uO @bD @bE @bF @eT @cJ @cI @cK @cL @cM)
   ·exact rd0
   ·unfold iV jG
    (exact nN e0 @bD @bE @bF @eT @cJ @cI @cK @cL @cM)
theorem aGS{p:Nat→Prop}[DecidablePred p]{n:Nat}(h:∃ i,i<n∧¬p i):∃ i,i<n∧¬p i∧∀ j,j<i→p j:=by
 obtain⟨i,hi,hp⟩:=h;induction i using Nat.strongRecOn with
 | _ i ih =>
   by_cases hj:∃ j,j<i∧¬p j
   ·obtain⟨j,h1,h2⟩:=hj
    exact ih j h1 AM h2
   ·exact⟨i,hi,hp,fun j h1=>Classical.byContradiction fun h2=>hj ⟨j,h1,h2⟩⟩
theorem aOe(e:Int):Gd (.ifc 110 (.agg [I e])):=.ifc _ _ (.agg _ fun a ha=>by rw[B2.1 ha];exact .int _ _)
theorem gL{F:ByteArray}(hf:aO true (.str w0) fmE=some (some (.str F))):aDT true (.str ⟨⟨[]⟩⟩) (aO true (.str w0) fmE)=some (.tup [.str F,.bool true]):=by rw[hf];rfl
theorem aAT(hs:line.size≤40)(hw:cR line=w0::xs)(hf:aO true (.str w0) fmE=some (some (.str F)))(ws:Ws F xs)(hn:∃ j,j<F.size∧¬(dk F j=110∨bG (xs.getD j ByteArray.empty)=true)):CalP Tryz.prog aB 60 [.str line] [] (.ifc 110 (.agg [I 8])) []:=by
 obtain⟨i,hi,hb,hj⟩:=aGS hn;rw[not_or]at hb;obtain⟨k1,k2⟩:=aKc (xs:=xs) (i:=i) (by have:=ws.1;omega);refine CalP.drop (h':=jG w0 xs (zN F.size) F.size++[iV F (i+1)]) ?_ (aOe 8);refine CalP.of (d:=x60) (e':=bH [] []) aA rfl (by simp[x60]) rfl ?_;refine aTA hs hw (gL hf) (aWi ws.1 ws.2.1 ?_);exact aWo ws.1 ws.2.1 ws.2.2.1 ws.2.2.2 hi k1 hb.1 (by cases hq:bG (xs.getD i ByteArray.empty)with
  | true=>exact absurd hq hb.2
  | false=>rfl) fun j h1 z hz=>by
    have:=hj j h1;rw[A1,hz]at this;exact this
theorem aFH(hs:line.size≤40)(hw:cR line=w0::xs)(hf:aO true (.str w0) fmE=some (some (.str F)))(ws:Ws F xs)(hn:∀ j,j<F.size→dk F j=110∨bG (xs.getD j ByteArray.empty)=true)(hm:∃ j,j<F.size∧¬(dk F j=110→dF (xs.getD j ByteArray.empty)≠none)):CalP Tryz.prog aB 60 [.str line] [] (.ifc 110 (.agg [I 2])) []:=by
 obtain⟨i,hi,hb,hj⟩:=aGS hm;obtain⟨k1,k2⟩:=aKc (xs:=xs) (i:=i) (by have:=ws.1;omega);have hk:dk F i=110:=Classical.byContradiction fun h=>hb fun h2=>absurd h2 h;have hq:dF (xs.getD i ByteArray.empty)=none:=Classical.byContradiction fun h=>hb fun _=>h;have hnm:∀ j,j<i→dk F j=110→∃ v,dF (xs.getD j ByteArray.empty)=some v:=fun j h1 h2=>aC4.1 (hj j h1 h2);refine CalP.drop (h':=jG w0 xs (yT F xs i) F.size++[iV F (i+1)]) ?_ (aOe 2);refine CalP.of (d:=x60) (e':=bH [] []) aA rfl (by simp[x60]) rfl ?_;refine aTA hs hw (gL hf) (aWi ws.1 ws.2.1 ?_);have l:=l60 (w0:=w0) ws hn;have p:=aWn (w0:=w0) ws hi k1 hk hq hnm;unfold r7c at p;unfold r6c r4c x60 at *;dsimp only at *;exact PanX.seqR (K:=60) aA rfl [2,4,6] l p
end
section
variable{F w0 line:ByteArray}{xs W:List ByteArray}{v:AV}
theorem aDE(c:UInt8):∀(s:List UInt8),∀ w∈hP c s,w.length≤s.length
 | [],w,h=>by
   have:w=[]:=by simpa [hP]using h
   rw[this];simp
 | b::r,w,h=>by
   have ih:=aDE c r;unfold hP at h;split at h
   ·rcases B3.1 h with rfl|h
    ·simp
    ·have:=ih w h
     rw[C8];omega
   ·split at h
    ·rename_i x l hx
     rcases B3.1 h with rfl|h
     ·have:=ih x (by rw[hx];simp)
      rw[C8,C8];omega
     ·have:=ih w (by rw[hx];exact E5 _ h)
      rw[C8];omega
    ·have:w=[b]:=by simpa using h
     rw[this];simp
theorem aKv(c:UInt8):∀(s:List UInt8),hP c s≠[]
 | []=>by simp[hP]
 | b::r=>by
   unfold hP;split;·simp
   ·split<;>simp
theorem aLJ(line:ByteArray):∃ w0 xs,cR line=w0::xs:=by
 cases h:cR line with
 | nil =>
   unfold cR at h;rw[List.map_eq_nil_iff]at h;exact absurd h (aKv _ _)
 | cons w xs=>exact⟨w,xs,rfl⟩
theorem aLK{y:ByteArray}(h:y∈cR line):y.size≤line.size:=by
 unfold cR at h;obtain⟨l,hl,rfl⟩:=D6.1 h;exact aDE _ _ l hl
theorem aRl:∀ p∈fmL,aCV p.2:=by
 have h:∀ p∈fmL,∀ i,i<p.2.size→dn p.2 i=i+1:=by
  intro p hp;have:(fmL.all fun p=>(List.range p.2.size).all fun i=>dn p.2 i==i+1)=true:=by kernel_rfl
  intro i hi;have h1:=C7.1 (C7.1 this p hp) i (J7.2 hi);exact beq_iff_eq.1 h1
 exact fun p hp=>⟨h p hp⟩
theorem aRk:∀ p∈fmL,p.2.size≤4:=by
 have:(fmL.all fun p=>decide (p.2.size≤4))=true:=by kernel_rfl
 intro p hp;exact of_decide_eq_true (C7.1 this p hp)
end
structure Ln(line w0:ByteArray)(xs:List ByteArray)(F:ByteArray):Prop where
 hs:line.size≤40
 hw:cR line=w0::xs
 hf:aO true (.str w0) fmE=some (some (.str F))
 ws:Ws F xs
section
variable{F w0 line x y z o:ByteArray}{xs W:List ByteArray}{v:AV}
def Pan(line:ByteArray)(e:Int):Prop:=CalP Tryz.prog aB 60 [.str line] [] (.ifc 110 (.agg [I e])) []
theorem zK(F:ByteArray)(xs:List ByteArray)(n:Nat)(h:F.size=n):yT F xs F.size=(List.range n).map fun j=>if dk F j=110 then (dF (xs.getD j ByteArray.empty)).getD 0 else 0:=by
 unfold yT;rw[h];apply N5;intro j hj;have:=J7.1 hj;simp[this]
theorem f0(l:Ln line w0 [] F)(h0:F.size=0):runW aB 60 [.str line] []=some (.agg [.str w0,.fs [],.fs []],[]):=by
 have h:=w60 l.hs l.hw l.hf l.ws (fun j hj=>by omega) (fun j hj=>by omega);rw[zK F [] 0 h0]at h;exact h
theorem f1a(l:Ln line w0 [x] F)(h0:F.size=1)(k0:dk F 0≠110)(hb:bG x=false):Pan line 8 :=
 aAT l.hs l.hw l.hf l.ws ⟨0,by omega,fun h=>h.elim k0 fun h2=>by rw[show [x].getD 0 ByteArray.empty=x from rfl,hb]at h2;cases h2⟩
theorem f1b(l:Ln line w0 [x] F)(h0:F.size=1)(k0:dk F 0≠110)(hb:bG x=true):runW aB 60 [.str line] []=some (.agg [.str w0,.fs [[.str x]],.fs [[I 0]]],[]):=by
 have h:=w60 l.hs l.hw l.hf l.ws (fun j hj=>by obtain rfl:j=0:=AM
                                               exact .inr hb) (fun j hj hk=>by obtain rfl:j=0:=AM
                                                                               exact absurd hk k0)
 rw[zK F [x] 1 h0]at h;have e:(List.range 1).map (fun j=>if dk F j=110 then (dF ([x].getD j ByteArray.empty)).getD 0 else 0)=[0]:=by
  show [if dk F 0=110 then _ else (0:Int)]=_;rw[if_neg k0]
 rw[e]at h;exact h
theorem n1a(l:Ln line w0 [x] F)(h0:F.size=1)(k0:dk F 0=110)(hb:dF x=none):Pan line 2 :=
 aFH l.hs l.hw l.hf l.ws (fun j hj=>by obtain rfl:j=0:=AM
                                       exact .inl k0) ⟨0,by omega,fun h=>h k0 hb⟩
theorem n1b(l:Ln line w0 [x] F)(h0:F.size=1)(k0:dk F 0=110){a:Int}(hb:dF x=some a):runW aB 60 [.str line] []=some (.agg [.str w0,.fs [[.str x]],.fs [[I a]]],[]):=by
 have h:=w60 l.hs l.hw l.hf l.ws (fun j hj=>by obtain rfl:j=0:=AM
                                               exact .inl k0) (fun j hj hk=>by obtain rfl:j=0:=AM
                                                                               exact⟨a,hb⟩)
 rw[zK F [x] 1 h0]at h;have e:(List.range 1).map (fun j=>if dk F j=110 then (dF ([x].getD j ByteArray.empty)).getD 0 else 0)=[a]:=by
  show [if dk F 0=110 then (dF x).getD 0 else (0:Int)]=_;rw[if_pos k0,hb];rfl
 rw[e]at h;exact h
theorem f2a(l:Ln line w0 [x,y] F)(h0:F.size=2)(k0:dk F 0≠110)(hb:bG x=false):Pan line 8 :=
 aAT l.hs l.hw l.hf l.ws ⟨0,by omega,fun h=>h.elim k0 fun h2=>by rw[show [x,y].getD 0 ByteArray.empty=x from rfl,hb]at h2;cases h2⟩
theorem f2n(k1:dk F 1=110)(hb:bG x=true)(h0:F.size=2)(j:Nat)(hj:j<F.size):dk F j=110∨bG ([x,y].getD j ByteArray.empty)=true:=by
 rcases (by omega:j=0∨j=1)with rfl|rfl;·exact .inr hb
 ·exact .inl k1
theorem f2b(l:Ln line w0 [x,y] F)(h0:F.size=2)(k1:dk F 1=110)(hb:bG x=true)(hy:dF y=none):Pan line 2 :=
 aFH l.hs l.hw l.hf l.ws (f2n k1 hb h0) ⟨1,by omega,fun h=>h k1 hy⟩
theorem f2c(l:Ln line w0 [x,y] F)(h0:F.size=2)(k0:dk F 0≠110)(k1:dk F 1=110)(hb:bG x=true){a:Int}(hy:dF y=some a):runW aB 60 [.str line] []=some (.agg [.str w0,.fs [[.str x],[.str y]],.fs [[I 0],[I a]]],[]):=by
 have h:=w60 l.hs l.hw l.hf l.ws (f2n k1 hb h0) (fun j hj hk=>by
  rcases (by omega:j=0∨j=1)with rfl|rfl;·exact absurd hk k0
  ·exact⟨a,hy⟩)
 rw[zK F [x,y] 2 h0]at h;have e:(List.range 2).map (fun j=>if dk F j=110 then (dF ([x,y].getD j ByteArray.empty)).getD 0 else 0)=[0,a]:=by
  show [if dk F 0=110 then _ else (0:Int),if dk F 1=110 then (dF y).getD 0 else (0:Int)]=_;rw[if_neg k0,if_pos k1,hy];rfl
 rw[e]at h;exact h
theorem f3a(l:Ln line w0 [x,y,z] F)(h0:F.size=3)(k0:dk F 0≠110)(hb:bG x=false):Pan line 8 :=
 aAT l.hs l.hw l.hf l.ws ⟨0,by omega,fun h=>h.elim k0 fun h2=>by rw[show [x,y,z].getD 0 ByteArray.empty=x from rfl,hb]at h2;cases h2⟩
theorem f3n(k1:dk F 1=110)(k2:dk F 2=110)(hb:bG x=true)(h0:F.size=3)(j:Nat)(hj:j<F.size):dk F j=110∨bG ([x,y,z].getD j ByteArray.empty)=true:=by
 rcases (by omega:j=0∨j=1∨j=2)with rfl|rfl|rfl;·exact .inr hb
 ·exact .inl k1
 ·exact .inl k2
theorem f3b(l:Ln line w0 [x,y,z] F)(h0:F.size=3)(k1:dk F 1=110)(k2:dk F 2=110)(hb:bG x=true)(hy:dF y=none∨dF z=none):Pan line 2 :=
 aFH l.hs l.hw l.hf l.ws (f3n k1 k2 hb h0) (hy.elim (fun hy=>⟨1,by omega,fun h=>h k1 hy⟩) fun hz=>⟨2,by omega,fun h=>h k2 hz⟩)
theorem f3c(l:Ln line w0 [x,y,z] F)(h0:F.size=3)(k0:dk F 0≠110)(k1:dk F 1=110)(k2:dk F 2=110)(hb:bG x=true){a b:Int}(hy:dF y=some a)(hz:dF z=some b):runW aB 60 [.str line] []=some (.agg [.str w0,.fs [[.str x],[.str y],[.str z]],.fs [[I 0],[I a],[I b]]],[]):=by
 have h:=w60 l.hs l.hw l.hf l.ws (f3n k1 k2 hb h0) (fun j hj hk=>by
  rcases (by omega:j=0∨j=1∨j=2)with rfl|rfl|rfl;·exact absurd hk k0
  ·exact⟨a,hy⟩
  ·exact⟨b,hz⟩)
 rw[zK F [x,y,z] 3 h0]at h;have e:(List.range 3).map (fun j=>if dk F j=110 then (dF ([x,y,z].getD j ByteArray.empty)).getD 0 else 0)=[0,a,b]:=by
  show [if dk F 0=110 then _ else (0:Int),if dk F 1=110 then (dF y).getD 0 else (0:Int),if dk F 2=110 then (dF z).getD 0 else (0:Int)]=_;rw[if_neg k0,if_pos k1,if_pos k2,hy,hz];rfl
 rw[e]at h;exact h
theorem f4a(l:Ln line w0 [x,y,z,o] F)(h0:F.size=4)(k0:dk F 0≠110)(k3:dk F 3≠110)(hb:bG x=false∨bG o=false):Pan line 8 :=
 aAT l.hs l.hw l.hf l.ws (hb.elim (fun hb=>⟨0,by omega,fun h=>h.elim k0 fun h2=>by rw[show [x,y,z,o].getD 0 ByteArray.empty=x from rfl,hb]at h2;cases h2⟩) fun hb=>⟨3,by omega,fun h=>h.elim k3 fun h2=>by rw[show [x,y,z,o].getD 3 ByteArray.empty=o from rfl,hb]at h2;cases h2⟩)
theorem f4n(k1:dk F 1=110)(k2:dk F 2=110)(hb:bG x=true)(ho:bG o=true)(h0:F.size=4)(j:Nat)(hj:j<F.size):dk F j=110∨bG ([x,y,z,o].getD j ByteArray.empty)=true:=by
 rcases (by omega:j=0∨j=1∨j=2∨j=3)with rfl|rfl|rfl|rfl;·exact .inr hb
 ·exact .inl k1
 ·exact .inl k2
 ·exact .inr ho
theorem f4b(l:Ln line w0 [x,y,z,o] F)(h0:F.size=4)(k1:dk F 1=110)(k2:dk F 2=110)(hb:bG x=true)(ho:bG o=true)(hy:dF y=none∨dF z=none):Pan line 2 :=
 aFH l.hs l.hw l.hf l.ws (f4n k1 k2 hb ho h0) (hy.elim (fun hy=>⟨1,by omega,fun h=>h k1 hy⟩) fun hz=>⟨2,by omega,fun h=>h k2 hz⟩)
theorem f4c(l:Ln line w0 [x,y,z,o] F)(h0:F.size=4)(k0:dk F 0≠110)(k1:dk F 1=110)(k2:dk F 2=110)(k3:dk F 3≠110)(hb:bG x=true)(ho:bG o=true){a b:Int}(hy:dF y=some a)(hz:dF z=some b):runW aB 60 [.str line] []=some (.agg [.str w0,.fs [[.str x],[.str y],[.str z],[.str o]],.fs [[I 0],[I a],[I b],[I 0]]],[]):=by
 have h:=w60 l.hs l.hw l.hf l.ws (f4n k1 k2 hb ho h0) (fun j hj hk=>by
  rcases (by omega:j=0∨j=1∨j=2∨j=3)with rfl|rfl|rfl|rfl;·exact absurd hk k0
  ·exact⟨a,hy⟩
  ·exact⟨b,hz⟩
  ·exact absurd hk k3)
 rw[zK F [x,y,z,o] 4 h0]at h;have e:(List.range 4).map (fun j=>if dk F j=110 then (dF ([x,y,z,o].getD j ByteArray.empty)).getD 0 else 0)=[0,a,b,0]:=by
  show [if dk F 0=110 then _ else (0:Int),if dk F 1=110 then (dF y).getD 0 else (0:Int),if dk F 2=110 then (dF z).getD 0 else (0:Int),if dk F 3=110 then _ else (0:Int)]=_;rw[if_neg k0,if_pos k1,if_pos k2,if_neg k3,hy,hz];rfl
 rw[e]at h;exact h
end
section
variable{line:ByteArray}{xs:List ByteArray}
theorem qK{w F:ByteArray}(hp:(w,F)∈fmL)(hs:¬line.size>40)(hw:cR line=w::xs)(hl:xs.length=F.size):Ws F xs:=by
 refine⟨hl,aRk _ hp,aRl _ hp,fun y hy=>?_⟩;have:=aLK (line:=line) (y:=y) (by rw[hw];exact E5 _ hy);omega
theorem aCe{x:ByteArray}(h:bG x=true):x.size≤10:=by
 unfold bG at h;simp only[A3,AAh]at h;exact h.2.1
theorem not_true{b:Bool}(h:¬b=true):b=false:=by cases b with
 | false=>rfl
 | true=>exact absurd rfl h
theorem fU(hs:¬line.size>40){w:ByteArray}(hw:cR line=w::xs){r:Int ⊕ Wd} (h:(match w::xs with
 | [w]=>if w=AAx then .inr .close else if w=AAB then .inr .total else .inl 13
 | [w,x]=>if w=AAu then hM x (.farmer x) else if w=AAA then hM x (.net x) else if w=AAD then hM x (.used x) else
   if w=AAE then hM x (.loss x) else if w=AAF then hM x (.power x) else
   if w=AAw then xX x (fun n=>.void n.toNat) else if w=AAC then xX x (fun n=>.ticket n.toNat) else .inl 13
 | [w,x,y]=>if w=AAy then (if bG x then xX y (.meter x) else .inl 8) else .inl 13
 | [w,x,y,z]=>if w=AAz then (if bG x then (match dF y,dF z with
  | some a,some b=>.inr (.pan x a b)
  | _,_=>.inl 2) else .inl 8) else .inl 13
 | [w,x,y,z,o]=>if w=AAv then (if bG x&&bG o then (match dF y,dF z with
  | some a,some b=>.inr (.wagon x o a b)
  | _,_=>.inl 2) else .inl 8) else .inl 13
 | _=>.inl 13)=r):rd line=r:=by
 rw[←h];unfold rd;rw[if_neg hs,hw]<;>rfl
theorem aKJ(hs:¬line.size>40)(hw:cR line=AAu::xs):Prs line (rd line):=by
 have hp:((AAu,⟨⟨[102]⟩⟩):ByteArray×ByteArray)∈fmL:=by simp[fmL]
 have hf:aO true (.str AAu) fmE=some (some (.str ⟨⟨[102]⟩⟩)):=by kernel_rfl
 by_cases hl:xs.length=1
 ·obtain⟨x,rfl⟩:∃ x,xs=[x]:=by
   match xs,hl with
   | [x],_=>exact⟨x,rfl⟩
  have l:Ln line AAu [x] ⟨⟨[102]⟩⟩:=⟨by omega,hw,hf,qK hp hs hw rfl⟩;have k0:dk ⟨⟨[102]⟩⟩ 0≠110:=by
   rw[show dk ⟨⟨[102]⟩⟩ 0=102 by kernel_rfl];decide
  rw[fU hs hw (r:=hM x (.farmer x)) (by simp)];unfold hM;by_cases hb:bG x=true
  ·rw[if_pos hb]
   exact⟨_,f1b l rfl k0 hb,⟨0,rfl⟩,rfl⟩
  ·rw[if_neg hb]
   exact f1a l rfl k0 (not_true hb)
 ·rw[fU hs hw (r:=.inl 13) (by
   match xs,hl with
   | [],_=>simp
   | [_,_],_=>simp
   | [_,_,_],_=>simp
   | [_,_,_,_],_=>simp
   | _::_::_::_::_::_,_=>rfl)]
  exact gY AM hw (gL hf) (by decide) fun _=>hl
theorem aNa(hs:¬line.size>40)(hw:cR line=AAv::xs):Prs line (rd line):=by
 have hp:((AAv,AAG):ByteArray×ByteArray)∈fmL:=by simp[fmL]
 have hf:aO true (.str AAv) fmE=some (some (.str AAG)):=by kernel_rfl
 by_cases hl:xs.length=4
 ·obtain⟨x,y,z,o,rfl⟩:∃ x y z o,xs=[x,y,z,o]:=by
   match xs,hl with
   | [x,y,z,o],_=>exact⟨x,y,z,o,rfl⟩
  have l:Ln line AAv [x,y,z,o] AAG:=⟨by omega,hw,hf,qK hp hs hw rfl⟩;have k0:dk AAG 0≠110:=by
   rw[show dk AAG 0=119 by kernel_rfl];decide
  have k1:dk AAG 1=110:=by kernel_rfl
  have k2:dk AAG 2=110:=by kernel_rfl
  have k3:dk AAG 3≠110:=by
   rw[show dk AAG 3=102 by kernel_rfl];decide
  rw[fU hs hw (r:=if bG x&&bG o then (match dF y,dF z with
   | some a,some b=>.inr (.wagon x o a b)
   | _,_=>.inl 2) else .inl 8) (by simp)]
  by_cases hb:(bG x&&bG o)=true
  ·rw[if_pos hb]
   rw[A3]at hb;cases hy:dF y with
   | none=>exact f4b l rfl k1 k2 hb.1 hb.2 (.inl hy)
   | some a =>
     cases hz:dF z with
     | none=>exact f4b l rfl k1 k2 hb.1 hb.2 (.inr hz)
     | some b =>
       obtain⟨_,a0,a1,_⟩:=iY hy;obtain⟨_,b0,b1,_⟩:=iY hz;exact⟨_,f4c l rfl k0 k1 k2 k3 hb.1 hb.2 hy hz,⟨⟨a0,a1,b0,b1,aCe hb.1,aCe hb.2⟩,y,z,0,0,rfl⟩,rfl⟩
  ·rw[if_neg hb]
   have hb:=not_true hb;rw[O1]at hb;exact f4a l rfl k0 k3 hb
 ·rw[fU hs hw (r:=.inl 13) (by
   match xs,hl with
   | [],_=>simp
   | [_],_=>simp
   | [_,_],_=>simp
   | [_,_,_],_=>simp
   | _::_::_::_::_::_,_=>rfl)]
  exact gY AM hw (gL hf) (by decide) fun _=>hl
theorem aQC(hs:¬line.size>40)(hw:cR line=AAw::xs):Prs line (rd line):=by
 have hp:((AAw,⟨⟨[110]⟩⟩):ByteArray×ByteArray)∈fmL:=by simp[fmL]
 have hf:aO true (.str AAw) fmE=some (some (.str ⟨⟨[110]⟩⟩)):=by kernel_rfl
 by_cases hl:xs.length=1
 ·obtain⟨x,rfl⟩:∃ x,xs=[x]:=by
   match xs,hl with
   | [x],_=>exact⟨x,rfl⟩
  have l:Ln line AAw [x] ⟨⟨[110]⟩⟩:=⟨by omega,hw,hf,qK hp hs hw rfl⟩;have k0:dk ⟨⟨[110]⟩⟩ 0=110:=by kernel_rfl
  rw[fU hs hw (r:=xX x fun n=>.void n.toNat) (by simp)];unfold xX;cases hb:dF x with
  | none=>exact n1a l rfl k0 hb
  | some a =>
    obtain⟨_,a0,_,_⟩:=iY hb;refine⟨_,n1b l rfl k0 hb,⟨x,?_⟩,rfl⟩;rw[aF9 a0]
 ·rw[fU hs hw (r:=.inl 13) (by
   match xs,hl with
   | [],_=>simp
   | [_,_],_=>simp
   | [_,_,_],_=>simp
   | [_,_,_,_],_=>simp
   | _::_::_::_::_::_,_=>rfl)]
  exact gY AM hw (gL hf) (by decide) fun _=>hl
theorem aNe(hs:¬line.size>40)(hw:cR line=AAx::xs):Prs line (rd line):=by
 have hp:((AAx,⟨⟨[]⟩⟩):ByteArray×ByteArray)∈fmL:=by simp[fmL]
 have hf:aO true (.str AAx) fmE=some (some (.str ⟨⟨[]⟩⟩)):=by kernel_rfl
 by_cases hl:xs.length=0
 ·obtain rfl:=B8 hl
  have l:Ln line AAx [] ⟨⟨[]⟩⟩:=⟨by omega,hw,hf,qK hp hs hw rfl⟩;rw[fU hs hw (r:=.inr .close) (by simp)];exact⟨_,f0 l rfl,rfl,rfl⟩
 ·rw[fU hs hw (r:=.inl 13) (by
   match xs,hl with
   | [_],_=>simp
   | [_,_],_=>simp
   | [_,_,_],_=>simp
   | [_,_,_,_],_=>simp
   | _::_::_::_::_::_,_=>rfl)]
  exact gY AM hw (gL hf) (by decide) fun _=>hl
theorem aNd(hs:¬line.size>40)(hw:cR line=AAy::xs):Prs line (rd line):=by
 have hp:((AAy,⟨⟨[109,110]⟩⟩):ByteArray×ByteArray)∈fmL:=by simp[fmL]
 have hf:aO true (.str AAy) fmE=some (some (.str ⟨⟨[109,110]⟩⟩)):=by kernel_rfl
 by_cases hl:xs.length=2
 ·obtain⟨x,y,rfl⟩:∃ x y,xs=[x,y]:=by
   match xs,hl with
   | [x,y],_=>exact⟨x,y,rfl⟩
  have l:Ln line AAy [x,y] ⟨⟨[109,110]⟩⟩:=⟨by omega,hw,hf,qK hp hs hw rfl⟩;have k0:dk ⟨⟨[109,110]⟩⟩ 0≠110:=by
   rw[show dk ⟨⟨[109,110]⟩⟩ 0=109 by kernel_rfl];decide
  have k1:dk ⟨⟨[109,110]⟩⟩ 1=110:=by kernel_rfl
  rw[fU hs hw (r:=if bG x then xX y (.meter x) else .inl 8) (by simp)];by_cases hb:bG x=true
  ·rw[if_pos hb]
   unfold xX;cases hy:dF y with
   | none=>exact f2b l rfl k1 hb hy
   | some a =>
     obtain⟨_,a0,a1,_⟩:=iY hy;exact⟨_,f2c l rfl k0 k1 hb hy,⟨⟨a0,a1⟩,y,0,rfl⟩,rfl⟩
  ·rw[if_neg hb]
   exact f2a l rfl k0 (not_true hb)
 ·rw[fU hs hw (r:=.inl 13) (by
   match xs,hl with
   | [],_=>simp
   | [_],_=>simp
   | [_,_,_],_=>simp
   | [_,_,_,_],_=>simp
   | _::_::_::_::_::_,_=>rfl)]
  exact gY AM hw (gL hf) (by decide) fun _=>hl
theorem aTw(hs:¬line.size>40)(hw:cR line=AAz::xs):Prs line (rd line):=by
 have hp:((AAz,AAH):ByteArray×ByteArray)∈fmL:=by simp[fmL]
 have hf:aO true (.str AAz) fmE=some (some (.str AAH)):=by kernel_rfl
 by_cases hl:xs.length=3
 ·obtain⟨x,y,z,rfl⟩:∃ x y z,xs=[x,y,z]:=by
   match xs,hl with
   | [x,y,z],_=>exact⟨x,y,z,rfl⟩
  have l:Ln line AAz [x,y,z] AAH:=⟨by omega,hw,hf,qK hp hs hw rfl⟩;have k0:dk AAH 0≠110:=by
   rw[show dk AAH 0=112 by kernel_rfl];decide
  have k1:dk AAH 1=110:=by kernel_rfl
  have k2:dk AAH 2=110:=by kernel_rfl
  rw[fU hs hw (r:=if bG x then (match dF y,dF z with
   | some a,some b=>.inr (.pan x a b)
   | _,_=>.inl 2) else .inl 8) (by simp)]
  by_cases hb:bG x=true
  ·rw[if_pos hb]
   cases hy:dF y with
   | none=>exact f3b l rfl k1 k2 hb (.inl hy)
   | some a =>
     cases hz:dF z with
     | none=>exact f3b l rfl k1 k2 hb (.inr hz)
     | some b =>
       obtain⟨_,a0,a1,_⟩:=iY hy;obtain⟨_,b0,b1,_⟩:=iY hz;exact⟨_,f3c l rfl k0 k1 k2 hb hy hz,⟨⟨a0,a1,b0,b1⟩,y,z,0,rfl⟩,rfl⟩
  ·rw[if_neg hb]
   exact f3a l rfl k0 (not_true hb)
 ·rw[fU hs hw (r:=.inl 13) (by
   match xs,hl with
   | [],_=>simp
   | [_],_=>simp
   | [_,_],_=>simp
   | [_,_,_,_],_=>simp
   | _::_::_::_::_::_,_=>rfl)]
  exact gY AM hw (gL hf) (by decide) fun _=>hl
theorem aTx(hs:¬line.size>40)(hw:cR line=AAA::xs):Prs line (rd line):=by
 have hp:((AAA,⟨⟨[102]⟩⟩):ByteArray×ByteArray)∈fmL:=by simp[fmL]
 have hf:aO true (.str AAA) fmE=some (some (.str ⟨⟨[102]⟩⟩)):=by kernel_rfl
 by_cases hl:xs.length=1
 ·obtain⟨x,rfl⟩:∃ x,xs=[x]:=by
   match xs,hl with
   | [x],_=>exact⟨x,rfl⟩
  have l:Ln line AAA [x] ⟨⟨[102]⟩⟩:=⟨by omega,hw,hf,qK hp hs hw rfl⟩;have k0:dk ⟨⟨[102]⟩⟩ 0≠110:=by
   rw[show dk ⟨⟨[102]⟩⟩ 0=102 by kernel_rfl];decide
  rw[fU hs hw (r:=hM x (.net x)) (by simp)];unfold hM;by_cases hb:bG x=true
  ·rw[if_pos hb]
   exact⟨_,f1b l rfl k0 hb,⟨0,rfl⟩,rfl⟩
  ·rw[if_neg hb]
   exact f1a l rfl k0 (not_true hb)
 ·rw[fU hs hw (r:=.inl 13) (by
   match xs,hl with
   | [],_=>simp
   | [_,_],_=>simp
   | [_,_,_],_=>simp
   | [_,_,_,_],_=>simp
   | _::_::_::_::_::_,_=>rfl)]
  exact gY AM hw (gL hf) (by decide) fun _=>hl
theorem aNb(hs:¬line.size>40)(hw:cR line=AAB::xs):Prs line (rd line):=by
 have hp:((AAB,⟨⟨[]⟩⟩):ByteArray×ByteArray)∈fmL:=by simp[fmL]
 have hf:aO true (.str AAB) fmE=some (some (.str ⟨⟨[]⟩⟩)):=by kernel_rfl
 by_cases hl:xs.length=0
 ·obtain rfl:=B8 hl
  have l:Ln line AAB [] ⟨⟨[]⟩⟩:=⟨by omega,hw,hf,qK hp hs hw rfl⟩;rw[fU hs hw (r:=.inr .total) (by simp)];exact⟨_,f0 l rfl,rfl,rfl⟩
 ·rw[fU hs hw (r:=.inl 13) (by
   match xs,hl with
   | [_],_=>simp
   | [_,_],_=>simp
   | [_,_,_],_=>simp
   | [_,_,_,_],_=>simp
   | _::_::_::_::_::_,_=>rfl)]
  exact gY AM hw (gL hf) (by decide) fun _=>hl
theorem aKI(hs:¬line.size>40)(hw:cR line=AAC::xs):Prs line (rd line):=by
 have hp:((AAC,⟨⟨[110]⟩⟩):ByteArray×ByteArray)∈fmL:=by simp[fmL]
 have hf:aO true (.str AAC) fmE=some (some (.str ⟨⟨[110]⟩⟩)):=by kernel_rfl
 by_cases hl:xs.length=1
 ·obtain⟨x,rfl⟩:∃ x,xs=[x]:=by
   match xs,hl with
   | [x],_=>exact⟨x,rfl⟩
  have l:Ln line AAC [x] ⟨⟨[110]⟩⟩:=⟨by omega,hw,hf,qK hp hs hw rfl⟩;have k0:dk ⟨⟨[110]⟩⟩ 0=110:=by kernel_rfl
  rw[fU hs hw (r:=xX x fun n=>.ticket n.toNat) (by simp)];unfold xX;cases hb:dF x with
  | none=>exact n1a l rfl k0 hb
  | some a =>
    obtain⟨_,a0,_,_⟩:=iY hb;refine⟨_,n1b l rfl k0 hb,⟨x,?_⟩,rfl⟩;rw[aF9 a0]
 ·rw[fU hs hw (r:=.inl 13) (by
   match xs,hl with
   | [],_=>simp
   | [_,_],_=>simp
   | [_,_,_],_=>simp
   | [_,_,_,_],_=>simp
   | _::_::_::_::_::_,_=>rfl)]
  exact gY AM hw (gL hf) (by decide) fun _=>hl
theorem aQD(hs:¬line.size>40)(hw:cR line=AAD::xs):Prs line (rd line):=by
 have hp:((AAD,⟨⟨[109]⟩⟩):ByteArray×ByteArray)∈fmL:=by simp[fmL]
 have hf:aO true (.str AAD) fmE=some (some (.str ⟨⟨[109]⟩⟩)):=by kernel_rfl
 by_cases hl:xs.length=1
 ·obtain⟨x,rfl⟩:∃ x,xs=[x]:=by
   match xs,hl with
   | [x],_=>exact⟨x,rfl⟩
  have l:Ln line AAD [x] ⟨⟨[109]⟩⟩:=⟨by omega,hw,hf,qK hp hs hw rfl⟩;have k0:dk ⟨⟨[109]⟩⟩ 0≠110:=by
   rw[show dk ⟨⟨[109]⟩⟩ 0=109 by kernel_rfl];decide
  rw[fU hs hw (r:=hM x (.used x)) (by simp)];unfold hM;by_cases hb:bG x=true
  ·rw[if_pos hb]
   exact⟨_,f1b l rfl k0 hb,⟨0,rfl⟩,rfl⟩
  ·rw[if_neg hb]
   exact f1a l rfl k0 (not_true hb)
 ·rw[fU hs hw (r:=.inl 13) (by
   match xs,hl with
   | [],_=>simp
   | [_,_],_=>simp
   | [_,_,_],_=>simp
   | [_,_,_,_],_=>simp
   | _::_::_::_::_::_,_=>rfl)]
  exact gY AM hw (gL hf) (by decide) fun _=>hl
theorem aQF(hs:¬line.size>40)(hw:cR line=AAE::xs):Prs line (rd line):=by
 have hp:((AAE,⟨⟨[112]⟩⟩):ByteArray×ByteArray)∈fmL:=by simp[fmL]
 have hf:aO true (.str AAE) fmE=some (some (.str ⟨⟨[112]⟩⟩)):=by kernel_rfl
 by_cases hl:xs.length=1
 ·obtain⟨x,rfl⟩:∃ x,xs=[x]:=by
   match xs,hl with
   | [x],_=>exact⟨x,rfl⟩
  have l:Ln line AAE [x] ⟨⟨[112]⟩⟩:=⟨by omega,hw,hf,qK hp hs hw rfl⟩;have k0:dk ⟨⟨[112]⟩⟩ 0≠110:=by
   rw[show dk ⟨⟨[112]⟩⟩ 0=112 by kernel_rfl];decide
  rw[fU hs hw (r:=hM x (.loss x)) (by simp)];unfold hM;by_cases hb:bG x=true
  ·rw[if_pos hb]
   exact⟨_,f1b l rfl k0 hb,⟨0,rfl⟩,rfl⟩
  ·rw[if_neg hb]
   exact f1a l rfl k0 (not_true hb)
 ·rw[fU hs hw (r:=.inl 13) (by
   match xs,hl with
   | [],_=>simp
   | [_,_],_=>simp
   | [_,_,_],_=>simp
   | [_,_,_,_],_=>simp
   | _::_::_::_::_::_,_=>rfl)]
  exact gY AM hw (gL hf) (by decide) fun _=>hl
theorem aNc(hs:¬line.size>40)(hw:cR line=AAF::xs):Prs line (rd line):=by
 have hp:((AAF,⟨⟨[102]⟩⟩):ByteArray×ByteArray)∈fmL:=by simp[fmL]
 have hf:aO true (.str AAF) fmE=some (some (.str ⟨⟨[102]⟩⟩)):=by kernel_rfl
 by_cases hl:xs.length=1
 ·obtain⟨x,rfl⟩:∃ x,xs=[x]:=by
   match xs,hl with
   | [x],_=>exact⟨x,rfl⟩
  have l:Ln line AAF [x] ⟨⟨[102]⟩⟩:=⟨by omega,hw,hf,qK hp hs hw rfl⟩;have k0:dk ⟨⟨[102]⟩⟩ 0≠110:=by
   rw[show dk ⟨⟨[102]⟩⟩ 0=102 by kernel_rfl];decide
  rw[fU hs hw (r:=hM x (.power x)) (by simp)];unfold hM;by_cases hb:bG x=true
  ·rw[if_pos hb]
   exact⟨_,f1b l rfl k0 hb,⟨0,rfl⟩,rfl⟩
  ·rw[if_neg hb]
   exact f1a l rfl k0 (not_true hb)
 ·rw[fU hs hw (r:=.inl 13) (by
   match xs,hl with
   | [],_=>simp
   | [_,_],_=>simp
   | [_,_,_],_=>simp
   | [_,_,_,_],_=>simp
   | _::_::_::_::_::_,_=>rfl)]
  exact gY AM hw (gL hf) (by decide) fun _=>hl
theorem aQE(hs:¬line.size>40){w0:ByteArray}(hw:cR line=w0::xs)(hn:∀ p∈fmL,¬w0=p.1):Prs line (rd line):=by
 have n0:¬w0=AAu:=hn (AAu,⟨⟨[102]⟩⟩) (by simp[fmL]);have n1:¬w0=AAv:=hn (AAv,AAG) (by simp[fmL]);have n2:¬w0=AAw:=hn (AAw,⟨⟨[110]⟩⟩) (by simp[fmL]);have n3:¬w0=AAx:=hn (AAx,⟨⟨[]⟩⟩) (by simp[fmL]);have n4:¬w0=AAy:=hn (AAy,⟨⟨[109,110]⟩⟩) (by simp[fmL]);have n5:¬w0=AAz:=hn (AAz,AAH) (by simp[fmL]);have n6:¬w0=AAA:=hn (AAA,⟨⟨[102]⟩⟩) (by simp[fmL]);have n7:¬w0=AAB:=hn (AAB,⟨⟨[]⟩⟩) (by simp[fmL]);have n8:¬w0=AAC:=hn (AAC,⟨⟨[110]⟩⟩) (by simp[fmL]);have n9:¬w0=AAD:=hn (AAD,⟨⟨[109]⟩⟩) (by simp[fmL]);have n10:¬w0=AAE:=hn (AAE,⟨⟨[112]⟩⟩) (by simp[fmL]);have n11:¬w0=AAF:=hn (AAF,⟨⟨[102]⟩⟩) (by simp[fmL]);have hf:aO true (.str w0) fmE=some none:=by
  have h:=aJL (w:=w0) fmL;rw[List.find?_eq_none.2 fun p hp=>by simpa using hn p hp]at h;exact h
 rw[fU hs hw (r:=.inl 13) (by
  match xs with
  | []=>simp[n0,n1,n2,n3,n4,n5,n6,n7,n8,n9,n10,n11]
  | [_]=>simp[n0,n1,n2,n3,n4,n5,n6,n7,n8,n9,n10,n11]
  | [_,_]=>simp[n0,n1,n2,n3,n4,n5,n6,n7,n8,n9,n10,n11]
  | [_,_,_]=>simp[n0,n1,n2,n3,n4,n5,n6,n7,n8,n9,n10,n11]
  | [_,_,_,_]=>simp[n0,n1,n2,n3,n4,n5,n6,n7,n8,n9,n10,n11]
  | _::_::_::_::_::_=>rfl)]
 exact gY (f:=⟨⟨[]⟩⟩) (b:=false) AM hw (by rw[hf];rfl) (by decide) fun h=>by cases h
theorem aWb:RdOk rd:=by
 intro line;refine⟨?_,fun e h=>aMY h⟩;by_cases hs:line.size>40
 ·have e:rd line = .inl 14:=by unfold rd;rw[if_pos hs]
  rw[e];exact aRA hs
 ·obtain⟨w0,xs,hw⟩:=aLJ line
  by_cases hn:∀ p∈fmL,¬w0=p.1;·exact aQE hs hw hn
  ·have hex:∃ p∈fmL,w0=p.1:=Classical.byContradiction fun h=>hn fun p hp e=>h ⟨p,hp,e⟩
   obtain⟨p,hp,e⟩:=hex;subst e;unfold fmL at hp;simp only[B3,G6,AAi]at hp;rcases hp with rfl|rfl|rfl|rfl|rfl|rfl|rfl|rfl|rfl|rfl|rfl|rfl;·exact aKJ hs hw
   ·exact aNa hs hw
   ·exact aQC hs hw
   ·exact aNe hs hw
   ·exact aNd hs hw
   ·exact aTw hs hw
   ·exact aTx hs hw
   ·exact aNb hs hw
   ·exact aKI hs hw
   ·exact aQD hs hw
   ·exact aQF hs hw
   ·exact aNc hs hw
end
abbrev Uq(a:Nat):AV:=.int .u64 (a:Int)
def big(k:IntKind):Prop:=k = .u64∨k = .i64
theorem yQ:big .u64:=.inl rfl
theorem yR{k:IntKind}(h:big k):k.bits=64:=by rcases h with rfl|rfl<;>rfl
theorem nI{k:IntKind}(h:big k){a:Nat}(ha:a<2^63):k.wrap (a:Int)=(a:Int):=by
 rcases h with rfl|rfl;·simp[IntKind.wrap,IntKind.bits,IntKind.signed];omega
 ·simp[IntKind.wrap,IntKind.bits,IntKind.signed];omega
theorem mI{w:Nat}(a:Nat):BitVec.ofInt w (a:Int)=BitVec.ofNat w a:=by
 apply BitVec.eq_of_toNat_eq;simp
theorem aOQ{k:IntKind}(h:big k){a b:Nat}(ha:a<2^63)(hb:b<2^63):nU .and k (a:Int) (b:Int)=((a&&&b:Nat):Int):=by
 unfold nU;dsimp only;rw[mI,mI,yR h,BitVec.toNat_and,BitVec.toNat_ofNat,BitVec.toNat_ofNat,M5 AM,M5 AM];exact nI h (aB6 aI6 ha)
theorem aRC{k:IntKind}(h:big k){a b:Nat}(ha:a<2^63)(hb:b<2^63):nU .or k (a:Int) (b:Int)=((a|||b:Nat):Int):=by
 unfold nU;dsimp only;rw[mI,mI,yR h,BitVec.toNat_or,BitVec.toNat_ofNat,BitVec.toNat_ofNat,M5 AM,M5 AM];exact nI h (Nat.or_lt_two_pow ha hb)
def dif(a b:Nat):Nat:=a&&&(2^64-(b+1))
theorem aUr(a b:Nat):dif a b≤a:=aI6
theorem aOP{k:IntKind}(h:big k){a b:Nat}(ha:a<2^63)(hb:b<2^63):nU .andNot k (a:Int) (b:Int)=((dif a b:Nat):Int):=by
 unfold nU;dsimp only;rw[mI,mI,yR h,BitVec.toNat_and,BitVec.toNat_not,BitVec.toNat_ofNat,BitVec.toNat_ofNat,M5 AM,M5 AM,show 2^64-1-b=2^64-(b+1) by omega];exact nI h (aB6 (aUr a b) ha)
theorem aJT{a b:Nat}(hb:b<2^64){i:Nat}:(dif a b).testBit i=(a.testBit i&&(decide (i<64) && !b.testBit i)):=by
 unfold dif;rw[Nat.testBit_and,Nat.testBit_two_pow_sub_succ hb]
theorem aOR{a n:Nat}(h:a<2^n){i:Nat}(hi:n≤i):a.testBit i=false:=Nat.testBit_lt_two_pow (G4 h (J0 AM hi))
theorem aEH{k:IntKind}(h:big k){i:Nat}(hi:i<63):k.wrap (1*2^min i k.bits)=((2^i:Nat):Int):=by
 rw[yR h,aA5 AM,Int.one_mul,show (2:Int)^i=((2^i:Nat):Int) by norm_cast];exact nI h (aA8 AM hi)
theorem aWq{a i n:Nat}(ha:a<2^n)(hi:i<n):a|||2^i<2^n:=Nat.or_lt_two_pow ha (aA8 AM hi)
def el(a:Nat):List Nat:=(List.range 10).filter (a.testBit ·)
def aNF(a:Nat):Nat:=(el a).headD 0
def tzq(a:Nat):Bool:=match dB aB 6 175 [Uq a] []with
 | some (.int .i64 n,[])=>decide (n=(aNF a:Nat))
 | _=>false
theorem aSW:((List.range 1024).all fun a=>a==0||tzq a)=true:=by kernel_rfl
theorem aZd{a:Nat}(ha:a<1024)(h0:a≠0):runW aB 175 [Uq a] []=some (I (aNF a:Nat),[]):=by
 have h:=C7.1 aSW a (J7.2 ha);have h1:(a==0)=false:=by simp[h0]
 rw[h1,Bool.false_or]at h;unfold tzq at h;refine dI.2 ⟨6,?_⟩;revert h;generalize dB aB 6 175 [Uq a] []=r;intro h;match r,h with
 | some (.int .i64 n,[]),h=>rw[of_decide_eq_true h]
theorem aJS:∀ a:Nat,a<1024→a≠0→el a=aNF a::el (a&&&(a-1)):=by decide +kernel
theorem bBn:∀ a:Nat,a<1024→(el a=[]↔a=0):=by decide +kernel
theorem aUo{a k:Nat}:k∈el a↔k<10∧a.testBit k=true:=by simp[el]
def aAE(a:Nat):Nat→Nat
 | 0=>a
 | i+1=>aAE a i&&&(aAE a i-1)
theorem aCH{a:Nat}(ha:a<1024):∀ i,aAE a i<1024
 | 0=>ha
 | i+1=>by rw[aAE];exact aB6 aI6 (aCH ha i)
theorem aIy{a:Nat}(ha:a<1024):∀ i,el (aAE a i)=(el a).drop i
 | 0=>rfl
 | i+1=>by
   have ih:=aIy ha i;rw[aAE];by_cases h0:aAE a i=0
   ·rw[h0]at ih ⊢
    have e0:el 0=[]:=rfl;rw[show (0&&&(0-1))=0 from rfl,e0];rw[e0]at ih;have:=AAt List.length ih;rw[J3,aF1]at this;exact(H9 AM).symm
   ·rw[aJS _ (aCH ha i) h0]at ih
    rw[←List.drop_drop,←ih];rfl
theorem aUx{a:Nat}(ha:a<1024){i:Nat}(hi:i<(el a).length):aAE a i≠0∧(el a)[i]?=some (aNF (aAE a i)):=by
 have h:=aIy ha i;have h0:aAE a i≠0:=fun hc=>by
  rw[hc,show el 0=[] from rfl]at h;have:=AAt List.length h;rw[J3,aF1]at this;omega
 refine⟨h0,?_⟩;rw[aJS _ (aCH ha i) h0]at h;have:=AAt (fun l=>l[0]?) h;simpa using this.symm
theorem aRv{a:Nat}(ha:a<1024):aAE a (el a).length=0:=by
 have h:=aIy ha (el a).length;rw[List.drop_length]at h;exact(bBn _ (aCH ha _)).1 h
abbrev cU(a:Nat):Option XB:=some (.blk true (.cells true [Uq a]))
structure aRH(n:Nat)(H:XH):Prop where
 hat:∀ a,hat (H++[cU a]) n=cU a
 set:∀ a b,(H++[cU a]).set n (cU b)=H++[cU b]
 len:∀ a,(H++[cU a]).length=n+1
 head:∀(a:Nat)(e:aH),e 0 = .fn (.yield 0) [] []→e 1 = .pt n 0→dL (n+1) [0,1] (some (.normal,e,H++[cU a]))=some ([.fn (.yield 0) [] [],.pt n 0],H++[cU a])
 fin:∀ a,nD false (n+1) (.tup []) (H++[cU a])=(.tup [],H++[cU a])
def Yd(H H':XH)(v:Nat)(b:Bool):Prop:=∀ a:Nat,fM (runW aB) (runYW aB) (.fn (.yield 0) [] []) [I v] (H++[cU a])=some (.bool b,H'++[cU a])
theorem aMM{n:Nat}{H H':XH}(g:aRH n H)(g':aRH n H'){a:Nat}(ha:a<1024)(h0:a≠0)(hy:Yd H H' (aNF a) true) :
 dL (n+1) [0,1] (execW aB 237 (n+1) none (match aEx with | .loop _ a=>a|c=>c) (bH [0,1] [.fn (.yield 0) [] [],.pt n 0]) (H++[cU a]))=some ([.fn (.yield 0) [] [],.pt n 0],H'++[cU (a&&&(a-1))]):=by
 have h1:=g.hat a;have h2:=g'.hat a;have h3:=g'.set a;have h4:=hy a;have t:=aZd ha h0;have n0:((a:Int)=0)=False:=AAb;have u1:IntKind.u64.wrap ((a:Int)-1)=((a-1:Nat):Int):=by
  rw[show (a:Int)-1=((a-1:Nat):Int) by omega];exact nI yQ AM
 have u2:=aOQ yQ (a:=a) (b:=a-1) AM AM;have hd:=g'.head (a&&&(a-1));unfold aEx;dsimp only;sym =>
  simp[Za,Zb,Zc,Zf,Zg,Zh,Zj,Zl,Zm,Zv,ZA,ZD,ZV,ZZ,Ya,Ye,Yh,Ym,Yn,Yr,Y8,YB,YF,Xz,Wg,Wu,Vn,V2,V3,V5,V7,V8,VA,VI,VM,VO,VT,VU,Ug,Uh,Ui,Uu,Uw,Ux,Uz,U0,U7,UU,UX,UY,UZ,Td,Te,Tg,Th,Tl,Tm,Tt,Tw,Tx,T0,T5,T8,T9,TA,TB,TC,TD,TE,TL,Sn,Sp,Su,Sv,Sw,S7,S9,SB,SD,SE,SI,SM,SN,Ro,Qw,Qx,Qy,Q0,QA,QB,QX,QY,QZ,Pa,h1,h2,t,h4,n0,u1,u2,h3]
  tactic=>exact hd _ rfl rfl
theorem aOu{n:Nat}{G:Nat→XH}{a:Nat}(ha:a<1024)(g:∀ i,i≤(el a).length→aRH n (G i))(hy:∀ i v,(el a)[i]?=some v→Yd (G i) (G (i+1)) v true) :
 runW aB 237 [.fn (.yield 0) [] [],.pt n 0] (G 0++[cU a])=some (.tup [],G (el a).length++[cU 0]):=by
 have l0:=(g 0 AM).len a;have g1:=g (el a).length AM;have h1:hat (G (el a).length++[some (.blk true (.cells true [.int .u64 0]))]) n=some (.blk true (.cells true [.int .u64 0])):=g1.hat 0;have hf:nD false (n+1) (.tup []) (G (el a).length++[some (.blk true (.cells true [.int .u64 0]))])=(.tup [],G (el a).length++[some (.blk true (.cells true [.int .u64 0]))]):=g1.fin 0;have c0:=aRv ha;rw[qX 237 aPm rfl];unfold aPm;dsimp only;rw[l0];unfold aEx;sym =>
  simp[Za,Zb,Zf,Zh,Zl,Zm,ZA,ZV,YF,YU,Vf,Vk,V2,V3,VA,UD,UF,UK,UM,UO,UU,UX,UZ,Ta,Tc,Tw,T4,TJ,TK,Sn,Sp,Su,S7,S9,SC,SD,SE,SF,SK,SM,SN]
  tactic =>
   rw[aS (el a).length (fun _=>[.fn (.yield 0) [] [],.pt n 0]) (fun i=>G i++[cU (aAE a i)])]
   ·rw[c0]
    (sym=>(simp[Za,Zb,Zf,Zh,Zl,Zm,ZA,ZV,YF,YU,Vf,Vk,V2,V3,VA,UD,UF,UK,UM,UO,UU,UX,UZ,Ta,Tc,Tw,T4,TJ,TK,Sn,Sp,Su,S7,S9,SC,SD,SE,SF,SK,SM,SN,h1,hf];all_goals tactic=>exact rfl))
   ·exact(g 0 AM).head a _ rfl rfl
   ·intro i hi
    obtain⟨p1,p2⟩:=aUx ha hi;exact aMM (g i AM) (g (i+1) AM) (aCH ha i) p1 (hy i _ p2)
   ·rw[c0]
    (sym=>(simp[Za,Zb,Zf,Zh,Zl,Zm,ZA,ZV,YF,YU,Vf,Vk,V2,V3,VA,UD,UF,UK,UM,UO,UU,UX,UZ,Ta,Tc,Tw,T4,TJ,TK,Sn,Sp,Su,S7,S9,SC,SD,SE,SF,SK,SM,SN,h1];all_goals tactic=>exact rfl))
def wr(W:List Int):List (List AV):=W.map fun v=>[I v]
theorem aBa(W:List Int):(wr W).length=W.length:=by simp[wr]
theorem aLI{W:List Int}{i:Nat}{v:Int}(h:W[i]?=some v):(wr W)[i]?=some [I v]:=by simp[wr,h]
def chA(q:Int)(W:List Int):AV:=.agg [.fs [[I q,.fs (wr W)]]]
def chB(q:Int)(W:List Int):AV:=.fs [[.ifc 203 (.agg [I q,.fs (wr W)])]]
def hsA(q:Int)(W:List Int):AV:=.agg [.fs [[I q,.fs (wr W)]],.ifc 283 (chB q W),I W.length,Uq (2^W.length-1)]
theorem aVx(lo n hi:Int):runW aB 212 [I lo,I n,I hi] []=some (.bool (decide (lo≤n)&&decide (n≤hi)),[]):=by
 rw[qX 212 aPr rfl];unfold aPr;dsimp only;rcases ptf (lo≤n)with h1|h1
 ·have d1:decide (lo≤n)=true:=by simp[h1]
  (exact RS2 h1 d1)
 ·have d1:decide (lo≤n)=false:=by simp[h1]
  (exact RS2 h1 d1)
theorem aYT{v:Int}(h0:0≤v)(h1:v≤1000000):runW aB 211 [I v] []=some (.bool false,[]):=by
 have c:=aVx 0 v 1000000;rw[show (decide (0≤v)&&decide (v≤1000000))=true by simp[h0,h1]]at c;rw[qX 211 aPs rfl];unfold aPs;dsimp only;(exact dM c)
theorem aYR{W:List Int}(hW:∀ v∈W,0≤v∧v≤1000000)(hl:W.length≤9):runW aB 215 [.fs (wr W),.fn (.func 211) [] []] []=some (I (-1),[]):=by
 rw[qX 215 aPp rfl];unfold aPp;dsimp only;have ln:=aBa W;have e0:((W.length:Int)<(W.length:Int))=False:=AAb;sym =>
  simp[Za,Zb,Zf,Zh,Zl,Zm,Zv,ZA,ZH,ZR,ZV,Ye,Yh,Ym,Yn,Yv,Y4,Y5,Y7,YG,YM,YN,YU,Xz,XN,Wa,Wu,Wv,Wz,W8,WE,WY,Vd,Vj,V8,V9,VA,VI,VM,VN,VO,VQ,VR,VT,VU,Ug,Uh,Ui,Uu,UE,UF,UH,UI,UJ,UK,UL,UO,UP,UQ,UR,UT,UU,UV,UW,UX,UY,UZ,Ta,Tc,Td,Te,Tg,Th,Tj,Tl,Tm,T0,T4,T5,T8,T9,TA,TB,TC,TJ,TK,Sm,Sq,Sr,Su,S7,S9,SA,SB,SC,SD,SE,SF,SI,SK,SL,SM,SN,Qh,QX,QY,QZ,Pa,ln]
  tactic =>
   unfold aLA;rw[aS W.length (fun i=>[.fs (wr W),.fn (.func 211) [] [],I W.length,I (i:Nat)]) (fun _=>[])];·(exact RS2 e0 ln)
   ·(exact wO)
   ·intro i hi
    obtain⟨v,hv⟩:∃ v,W[i]?=some v:=⟨_,A4 hi⟩;have r1:=aLI hv;have hb:=hW v (A5 hv);have c:=aYT hb.1 hb.2;have t1:((i:Int)<(W.length:Int))=True:=AAa;have a2:IntKind.i64.wrap ((i:Int)+1)=((i+1:Nat):Int):=by rw[aI AM AM];rfl
    (exact RS5 t1 r1 c a2 ln)
   ·(exact dM e0)
theorem aYS{W:List Int}(hW:∀ v∈W,0≤v∧v≤1000000)(hl:W.length≤9):runW aB 213 [.fs (wr W),.fn (.func 211) [] []] []=some (.bool false,[]):=by
 have c:=aYR hW hl;rw[qX 213 aPq rfl];unfold aPq;dsimp only;(exact dM c)
theorem aVy(q:Int)(W:List Int):runW aB 205 [chA q W] []=some (I W.length,[]):=by
 have ln:=aBa W;rw[qX 205 aPv rfl];unfold aPv chA;dsimp only;(exact dM ln)
theorem sL{D:Nat→Option XFn}{K k:Nat}{rd:Option Nat}{L:List Nat}{a:XCode}{e:aH}{h:XH}:execW D K k rd (.loop L a) e h=uV (execW D K k rd a (bH L (wI k L e h)) (nG k L e h)) (execW D K k rd (.loop L a)):=wD
theorem aYX{q:Int}{W:List Int}(hq:1≤q∧q≤10000000)(hW:∀ v∈W,0≤v∧v≤1000000)(h1:1≤W.length)(hl:W.length≤9):runW aB 203 [chA q W] []=some (I 0,[]):=by
 have ln:=aBa W;have c1:=aVy q W;have c2:=aVx 1 q 10000000;rw[show (decide (1≤q)&&decide (q≤10000000))=true by simp[hq.1,hq.2]]at c2;have c3:=aYS hW hl;have t1:((W.length:Int)=0)=False:=AAb;have t2:((9:Int)<(W.length:Int))=False:=AAb;rw[qX 203 aPx rfl];unfold aPx aLE chA at *;dsimp only;(exact RS7 ln c1 c2 c3 t1 t2 @sL)
theorem aYW(q:Int)(W:List Int):runW aB 204 [chA q W,I (-1)] []=some (chB q W,[]):=by
 rw[qX 204 aPw rfl];unfold aPw aLD chA chB;dsimp only;(exact dM @sL)
theorem aZc{q:Int}{W:List Int}(hq:1≤q∧q≤10000000)(hW:∀ v∈W,0≤v∧v≤1000000)(h1:1≤W.length)(hl:W.length≤9):runW aB 182 [chA q W] []=some (.tup [hsA q W,I 0],[]):=by
 have c1:=aYX hq hW h1 hl;have c2:=aYW q W;have c3:=aVy q W;have n0:((W.length:Int)<0)=False:=AAb;have s1:=aEH yQ (i:=W.length) AM;have p1:1≤2^W.length:=aG2;have p2:2^W.length≤2^9:=J0 AM hl;have s2:IntKind.u64.wrap (((2^W.length:Nat):Int)-1)=((2^W.length-1:Nat):Int):=by
  rw[show ((2^W.length:Nat):Int)-1=((2^W.length-1:Nat):Int) by omega];exact nI yQ AM
 rw[qX 182 aPB rfl];unfold aPB chA hsA chB at *;dsimp only;(exact RS7 c1 c2 c3 n0 s1 s2 @sL)
def fT{α:Type}(f:α→Nat→α)(z:α)(ks:List Nat)(i:Nat):α:=(ks.take i).foldl f z
theorem aYb{α:Type}{f:α→Nat→α}{z:α}{ks:List Nat}{i v:Nat}(h:ks[i]?=some v):fT f z ks (i+1)=f (fT f z ks i) v:=by
 unfold fT;rw[I7,h];simp
theorem aUm{α:Type}{f:α→Nat→α}{z:α}{ks:List Nat}:fT f z ks ks.length=ks.foldl f z:=by
 unfold fT;rw[aD1]
theorem aYd{a n k:Nat}(h:a<2^n)(hk:k∈el a):k<n:=by
 have h2:=(aUo.1 hk).2;by_cases hc:k<n;·exact hc
 ·rw[aOR h AM]at h2;simp at h2
theorem aUp(a:Nat):(el a).length≤10:=by
 unfold el;exact I2 (List.length_filter_le _ _) (by simp)
def wS(W:List Int)(n:Int)(k:Nat):Int:=n+W.getD k 0
def wgt(W:List Int)(a:Nat):Int:=(el a).foldl (wS W) 0
theorem aRZ{W:List Int}(hW:∀ v∈W,0≤v∧v≤1000000):∀(ks:List Nat)(z:Int),z≤ks.foldl (wS W) z∧ks.foldl (wS W) z≤z+1000000*(ks.length:Int)
 | [],z=>by simp
 | k::ks,z=>by
   have ih:=aRZ hW ks (wS W z k);have hv:0≤W.getD k 0∧W.getD k 0≤1000000:=by
    rw[A1];cases h:W[k]? with
    | none=>simp
    | some v=>exact hW v (A5 h)
   rw[aE0,C8];unfold wS at ih ⊢;omega
theorem aVp{W:List Int}(hW:∀ v∈W,0≤v∧v≤1000000)(a i:Nat):0≤fT (wS W) 0 (el a) i∧fT (wS W) 0 (el a) i≤10000000:=by
 have h:=aRZ hW ((el a).take i) 0;have h3:=aUp a;have h4:((el a).take i).length≤10:=by rw[G5];omega
 unfold fT;omega
theorem aYO(a:Nat):runW aB 236 [Uq a] []=some (.fn (.func 237) [] [.pt 0 0],[cU a]):=by
 rw[qX 236 aPn rfl];unfold aPn;dsimp only;(exact wO)
section
variable{q:Int}{W:List Int}
abbrev aKT(q:Int)(W:List Int)(n:Int):XH:=[some (.loop 234 0 [.pt 1 0,.pt 2 0] .ready),some (.blk true (.cells true [I q,.fs (wr W)])),some (.blk true (.cells true [I n]))]
theorem aRc(n:Int):aRH 3 (aKT q W n):=by
 refine⟨fun _=>rfl,fun _ _=>rfl,fun _=>rfl,?_,?_⟩
 ·intro a e h0 h1
  (exact RS2 h0 h1)
 ·intro a
  (exact wO)
theorem aYt(n m:Int){k:Nat}{x:Int}(hl:W.length≤9)(hk:W[k]?=some x)(hm:IntKind.i64.wrap (n+x)=m):Yd (aKT q W n) (aKT q W m) k true:=by
 have hkl:=(A2.1 hk).1;have c1:((k:Int)<(W.length:Int))=True:=AAa;have ln:=aBa W;have r1:=aLI hk;have y:runYW aB (.fn (.yield 0) [] []) [I (k:Nat)] (aKT q W n)=some (.bool true,aKT q W m):=by
  rw[aBC (K:=234) (d:=aLz) (site:=0) (vs:=[.pt 1 0,.pt 2 0]) rfl rfl (by rfl) rfl];(exact vI c1 r1 ln hm)
 intro a;(exact dM y)
theorem aYQ(hW:∀ v∈W,0≤v∧v≤1000000)(hl:W.length≤9){a:Nat}(ha:a<2^W.length):runW aB 234 [.agg [I q,.fs (wr W)],Uq a] []=some (I (wgt W a),[]):=by
 have ha2:a<1024:=G4 ha (J0 (n:=2) AM (by omega:W.length≤10));have e236:=aYO a
 have e:runW aB 237 [.fn (.yield 0) [] [],.pt 3 0] [some (.loop 234 0 [.pt 1 0,.pt 2 0] .ready),some (.blk true (.cells true [I q,.fs (wr W)])),some (.blk true (.cells true [I 0])),cU a] =
  some (.tup [],[some (.loop 234 0 [.pt 1 0,.pt 2 0] .ready),some (.blk true (.cells true [I q,.fs (wr W)])),some (.blk true (.cells true [I (wgt W a)])),some (.blk true (.cells true [.int .u64 0]))]):=by
  have h:=aOu (n:=3) (G:=fun i=>aKT q W (fT (wS W) 0 (el a) i)) ha2 (fun i _=>aRc _) (by
   intro i v hv;have hvl:=aYd ha (A5 hv);obtain⟨x,hx⟩:∃ x,W[v]?=some x:=⟨_,A4 hvl⟩;have b1:=aVp hW a i;have b2:=hW x (A5 hx);refine aYt _ _ hl hx ?_;rw[aYb hv];show IntKind.i64.wrap (fT (wS W) 0 (el a) i+x)=fT (wS W) 0 (el a) i+W.getD v 0;rw[A1,hx];exact aI AM AM)
  unfold wgt;rw[aUm]at h;exact h
 rw[qX 234 aLz rfl];unfold aLz;dsimp only;(exact RS2 e236 e)
def vL(q:Int)(W:List Int)(a:Nat):Bool:=decide (q≤wgt W a)
theorem aYP(hW:∀ v∈W,0≤v∧v≤1000000)(hl:W.length≤9){a:Nat}(ha:a<2^W.length):runW aB 235 [.agg [I q,.fs (wr W)],Uq a] []=some (.bool (vL q W a),[]):=by
 have c1:=aYQ (q:=q) hW hl ha;rw[qX 235 aPo rfl];unfold aPo vL;dsimp only;rcases ptf (q≤wgt W a)with h1|h1
 ·have d1:decide (q≤wgt W a)=true:=by simp[h1]
  rw[d1];(exact RS2 c1 h1)
 ·have d1:decide (q≤wgt W a)=false:=by simp[h1]
  rw[d1];(exact RS2 c1 h1)
end
theorem yW{e:aH}{tab:List (TypeId×FuncId)}{k:Nat}:aK e (.meth tab k)=aCg tab (e k):=rfl
theorem oF{v:AV}:aCg [(203,235),(283,242)] (.ifc 203 v) = .fn (.func 235) [v] []:=rfl
theorem oE{v:AV}:aCg [(203,235),(283,242)] (.ifc 283 v) = .fn (.func 242) [v] []:=rfl
section
variable{q:Int}{W:List Int}
theorem aYJ(hW:∀ v∈W,0≤v∧v≤1000000)(hl:W.length≤9){a:Nat}(ha:a<2^W.length):runW aB 244 [.ifc 203 (.agg [I q,.fs (wr W)]),.pt 0 0] [cU a]=some (.bool (!vL q W a),[cU a]):=by
 have c1:=aYP (q:=q) hW hl ha;rw[qX 244 aPj rfl];unfold aPj cU;dsimp only;(exact RS5 c1 @sL @yW @oF @oE)
theorem aYI(hW:∀ v∈W,0≤v∧v≤1000000)(hl:W.length≤9){a:Nat}(ha:a<2^W.length):runW aB 245 [chB q W,.fn (.func 244) [] [.pt 0 0]] [cU a]=some (I (if vL q W a then -1 else 0),[cU a]):=by
 have c1:=aYJ (q:=q) hW hl ha;rw[qX 245 aPi rfl];unfold aPi aLy chB cU at *;dsimp only;cases hb:vL q W a
 ·simp only[hb,M8,C6,AAd]at c1 ⊢
  (exact RS5 c1 @sL @yW @oF @oE)
 ·simp only[hb,aD8,AAe]at c1 ⊢
  (exact RS5 c1 @sL @yW @oF @oE)
theorem aYK(hW:∀ v∈W,0≤v∧v≤1000000)(hl:W.length≤9){a:Nat}(ha:a<2^W.length):runW aB 243 [chB q W,.fn (.func 244) [] [.pt 0 0]] [cU a]=some (.bool (!vL q W a),[cU a]):=by
 have c1:=aYI (q:=q) hW hl ha;rw[qX 243 aPk rfl];unfold aPk chB cU at *;dsimp only;cases hb:vL q W a
 ·simp only[hb,M8,C6,AAd]at c1 ⊢
  (exact RS5 c1 @sL @yW @oF @oE)
 ·simp only[hb,aD8,AAe]at c1 ⊢
  (exact RS5 c1 @sL @yW @oF @oE)
theorem aVw(hW:∀ v∈W,0≤v∧v≤1000000)(hl:W.length≤9){a:Nat}(ha:a<2^W.length):runW aB 242 [chB q W,Uq a] []=some (.bool (vL q W a),[]):=by
 have c1:=aYK (q:=q) hW hl ha;have nn:(!(!vL q W a))=vL q W a:=by cases vL q W a<;>rfl
 rw[qX 242 aPl rfl];unfold aPl chB cU at *;dsimp only;(exact RS7 c1 nn @sL @yW @oF @oE aE)
theorem aYY{a:Nat}(ha:a<2^63){i:Nat}(hi:i<63):runW aB 186 [Uq a,I (i:Nat)] []=some (Uq (a|||2^i),[]):=by
 have n0:((i:Int)<0)=False:=AAb;have s1:=aEH yQ hi;have o1:=aRC yQ ha (b:=2^i) (aA8 AM hi);rw[qX 186 aPy rfl];unfold aPy;dsimp only;(exact RS7 n0 s1 o1 @sL @yW @oF @oE)
theorem aYU{a:Nat}(ha:a<2^63){i:Nat}(hi:i<63):runW aB 207 [Uq a,.fs [[I (i:Nat)]]] []=some (Uq (dif a (2^i)),[]):=by
 have n0:((i:Int)<0)=False:=AAb;have s1:=aEH yQ hi;have o1:=aOP yQ ha (b:=2^i) (aA8 AM hi);rw[qX 207 aPt rfl];unfold aPt aLB;dsimp only;(exact RS7 n0 s1 o1 @sL @yW @oF @oE)
end
def swB(q:Int)(W:List Int)(i m:Nat):Bool := !m.testBit i&&(!vL q W m&&vL q W (m|||2^i))
def swT(q:Int)(W:List Int)(i m:Nat):Nat:=((List.range m).filter (swB q W i)).length
theorem aMf(q:Int)(W:List Int)(i m:Nat):swT q W i (m+1)=swT q W i m+if swB q W i m then 1 else 0:=by
 unfold swT;rw[aI5,List.filter_append,B6];cases h:swB q W i m<;>simp[h]
theorem aMg(q:Int)(W:List Int)(i m:Nat):swT q W i m≤m:=by
 unfold swT;exact I2 (List.length_filter_le _ _) (by simp)
section
variable{q:Int}{W:List Int}
abbrev hsC(q:Int)(W:List Int):List AV:=[.fs [[I q,.fs (wr W)]],.ifc 283 (.fs [[.ifc 203 (.agg [I q,.fs (wr W)])]]),I W.length,Uq (2^W.length-1)]
abbrev hsX(q:Int)(W:List Int):Option XB:=some (.blk true (.cells true (hsC q W)))
abbrev fnX:Option XB:=some (.blk true (.cells true [.fn (.func 160) [] []]))
abbrev aCo(q:Int)(W:List Int)(i:Nat)(n:Int):XH:=[some (.loop 184 0 [.pt 1 0,.pt 2 0,.pt 3 0,.pt 4 0] .ready),hsX q W,fnX,some (.blk true (.cells true [I (i:Nat)])),some (.blk true (.cells true [I n]))]
theorem aZe(v:AV)(m:Nat):runW aB 160 [hsA q W,Uq m] []=some (I 1,[]):=by
 rw[qX 160 aPC rfl];unfold aPC hsA chB;dsimp only;(exact RS3 @yW @oF @oE)
theorem aYu(hW:∀ v∈W,0≤v∧v≤1000000)(hl:W.length≤9){i m:Nat}(hi:i<W.length)(hm:m<2^W.length)(hb:m.testBit i=false){n:Int}(hn:0≤n∧n≤1000) :
 runYW aB (.fn (.yield 0) [] []) [Uq m] (aCo q W i n)=some (.bool true,aCo q W i (n+if swB q W i m then 1 else 0)):=by
 have p2:2^W.length≤2^9:=J0 AM hl;have hor:=aWq hm hi;have c1:=aVw (q:=q) hW hl hm;have c2:=aYY (a:=m) AM (i:=i) AM;have c3:=aVw (q:=q) hW hl hor;have c4:=aZe (q:=q) (W:=W) .any m;have a1:IntKind.i64.wrap (n+1)=n+1:=aI AM AM;rw[aBC (K:=184) (d:=aLF) (site:=0) (vs:=[.pt 1 0,.pt 2 0,.pt 3 0,.pt 4 0]) rfl rfl (by rfl) rfl];unfold swB;rw[hb];unfold hsA chB at *;cases e1:vL q W m with
 | true =>
   rw[e1]at c1;simp only[aD8,Bool.false_and,aJ0,C6,AAd,aI2];(exact vI c1 @yW @oF @oE)
 | false =>
   rw[e1]at c1;cases e2:vL q W (m|||2^i)with
   | true =>
     rw[e2]at c3;simp only[M8,aJ4,AAe];(exact uO c1 c2 c3 c4 a1 @yW @oF @oE aE)
   | false =>
     rw[e2]at c3;simp only[M8,aJ6,C6,AAd,aI2];(exact RS7 c1 c2 c3 @yW @oF @oE aE)
theorem aYZ(i:Nat):runW aB 185 [hsA q W,.sl 0 0 1 1] [some (.blk true (.cells true [I (i:Nat)]))]=some (.fn (.func 206) [] [.pt 1 0,.pt 2 0],[some (.blk true (.cells true [I (i:Nat)])),hsX q W,some (.blk false (.cells true [.sl 0 0 1 1]))]):=by
 rw[qX 185 aPz rfl];unfold aPz hsA chB;dsimp only;(exact RS3 @yW @oF @oE)
theorem aUs{m i:Nat}(hm:m<2^63)(hi:i<63):dif m (2^i)=m↔m.testBit i=false:=by
 have hp:2^i<2^64:=aA8 AM AM;constructor
 ·intro h
  have:=aJT (a:=m) hp (i:=i);rw[h,aF6]at this;simpa using this
 ·intro h
  apply Nat.eq_of_testBit_eq;intro j;rw[aJT hp,aF6];by_cases e:i=j;·subst e;rw[h];simp
  ·by_cases hj:j<64
   ·simp[e,hj]
   ·rw[aOR hm AM];simp
abbrev tAc(q:Int)(W:List Int)(i:Nat):XH:=[hsX q W,some (.blk false (.cells true [.sl 7 0 1 1])),some (.blk true (.cells true [I (i:Nat)]))]
abbrev tBc(q:Int)(W:List Int)(i:Nat):XH:=[hsX q W,some (.blk true (.cells true [.fs [[I (i:Nat)]]])),none]
def aRg(q:Int)(W:List Int)(i:Nat):Nat→XH
 | 0=>aCo q W i 0++tAc q W i
 | m+1=>aCo q W i (swT q W i (m+1):Nat)++tBc q W i
theorem yH{i m:Nat}(hm:0<m):aRg q W i m=aCo q W i (swT q W i m:Nat)++tBc q W i:=by
 cases m with
 | zero=>omega
 | succ m=>rfl
theorem aYV(hW:∀ v∈W,0≤v∧v≤1000000)(hl:W.length≤9){i:Nat}(hi:i<W.length) :
 runW aB 206 [.fn (.yield 0) [] [],.pt 5 0,.pt 6 0] (aCo q W i 0++tAc q W i)=some (.tup [],aCo q W i (swT q W i (2^W.length):Nat)++tBc q W i):=by
 have p2:2^W.length≤2^9:=J0 AM hl;have p1:1≤2^W.length:=aG2;have e0:(((2^W.length:Nat):Int)≤((2^W.length-1:Nat):Int))=False:=AAb;have stp:∀ m:Nat,m<2^W.length→(m.testBit i=true∧((m:Int)=((dif m (2^i):Nat):Int))=False∧swT q W i (m+1)=swT q W i m)∨(m.testBit i=false∧((m:Int)=((dif m (2^i):Nat):Int))=True∧runYW aB (.fn (.yield 0) [] []) [Uq m] (aCo q W i (swT q W i m:Nat))=some (.bool true,aCo q W i (swT q W i (m+1):Nat))):=fun m hm=>by
  have hd:=aUs (m:=m) (i:=i) AM AM;cases hb:m.testBit i with
  | true =>
    refine .inl ⟨rfl,AAq fun e=>?_,?_⟩
    ·have:=hd.1 AM
     rw[hb]at this;cases this
    ·rw[aMf,swB,hb];simp
  | false =>
    refine .inr ⟨rfl,AAp (by rw[hd.2 hb]),?_⟩;have hle:=aMg q W i m;have y:=aYu (q:=q) hW hl hi hm hb (n:=(swT q W i m:Nat)) AM;rw[y,aMf];cases swB q W i m<;>simp
 rw[qX 206 aPu rfl];unfold aPu;dsimp only;sym =>
  simp[Za,Zb,Zf,Zg,Zh,Zj,Zl,Zm,Zp,Zq,Zs,Zv,Zy,ZA,ZD,ZF,ZV,Ye,Yh,Ym,Yn,Yo,Yp,Yr,Yt,Y7,YE,YH,YM,YU,YX,Xz,XM,XN,XO,XW,Wb,Wk,Wu,Wv,Wy,Wz,W3,W4,W9,WI,WK,WR,WV,WW,WX,Vc,Vf,Vk,V1,V2,V3,V4,V5,V6,V7,V8,V9,VA,VB,VC,VD,VF,VG,VH,VI,VK,VL,VM,VN,VO,VP,VQ,VR,VT,VU,VV,VW,VX,VY,VZ,Ua,Ub,Uc,Ud,Ue,Uf,Ug,Uh,Ui,Uj,Ur,Us,Ut,Uu,Uv,Uw,Ux,Uz,U0,U6,U7,U9,UA,UB,UC,UD,UF,UH,UI,UJ,UK,UM,UO,UT,UU,UV,UW,UX,UY,UZ,Ta,Tc,Td,Te,Tf,Tg,Th,Ti,Tj,Tl,Tm,Tq,Tt,Tw,T0,T3,T4,T5,T8,T9,TA,TB,TC,TD,TE,TF,TG,TH,TI,TJ,TK,Sn,Sp,Su,S7,S9,SB,SC,SD,SE,SF,SI,SK,SL,SM,SN,RF,RG,RY,Qh,Qj,Ql,Qw,Qx,Qy,Q0,QA,QB,QX,QY,QZ,Pa]
  tactic =>
   unfold aLC;rw[aS (2^W.length) (fun m=>[.fn (.yield 0) [] [],.pt 5 0,.pt 6 0,Uq m]) (aRg q W i)]
   ·rw[yH AM]
    (exact dM e0)
   ·unfold aRg
    (exact wO)
   ·intro m hm
    have t1:((m:Int)≤((2^W.length-1:Nat):Int))=True:=AAa;have c7:=aYU (a:=m) AM (i:=i) AM;have u1:IntKind.u64.wrap ((m:Int)+1)=((m+1:Nat):Int):=by
     rw[show (m:Int)+1=((m+1:Nat):Int) by omega];exact nI yQ AM
    cases m with
    | zero =>
      rcases stp 0 hm with ⟨hb,_⟩|⟨_,h2,h3⟩;·simp at hb
      ·have s0:swT q W i 0=0:=rfl
       rw[s0]at h3;unfold aRg;have t1:((0:Int)≤((2^W.length-1:Nat):Int))=True:=t1;have c7:runW aB 207 [.int .u64 0,.fs [[I (i:Nat)]]] []=some (.int .u64 ((dif 0 (2^i):Nat):Int),[]):=c7;have h2:((0:Int)=((dif 0 (2^i):Nat):Int))=True:=h2;have h3:runYW aB (.fn (.yield 0) [] []) [.int .u64 0] (aCo q W i 0)=some (.bool true,aCo q W i (swT q W i (0+1):Nat)):=h3;(exact vI t1 c7 h2 h3)
    | succ m =>
      rw[yH (aI3 m),yH (aI3 (m+1))];rcases stp (m+1) hm with ⟨_,h2,h3⟩|⟨_,h2,h3⟩
      ·rw[h3]
       (exact vI t1 c7 u1 h2)
      ·(exact RS5 t1 c7 u1 h2 h3)
   ·rw[yH AM]
    (exact dM e0)
def swg(q:Int)(W:List Int)(i:Nat):Int:=(swT q W i (2^W.length):Nat)
theorem aZa(hW:∀ v∈W,0≤v∧v≤1000000)(hl:W.length≤9){i:Nat}(hi:i<W.length) :
 runW aB 184 [I (i:Nat),.pt 0 0,.pt 1 0] [hsX q W,fnX]=some (I (swg q W i),[hsX q W,fnX]):=by
 have c1:=aYZ (q:=q) (W:=W) i
 have c2:runW aB 206 [.fn (.yield 0) [] [],.pt 5 0,.pt 6 0] [some (.loop 184 0 [.pt 1 0,.pt 2 0,.pt 3 0,.pt 4 0] .ready),hsX q W,fnX,some (.blk true (.cells true [I (i:Nat)])),some (.blk true (.cells true [I 0])),hsX q W,some (.blk false (.cells true [.sl 7 0 1 1])),some (.blk true (.cells true [I (i:Nat)]))] =
  some (.tup [],[some (.loop 184 0 [.pt 1 0,.pt 2 0,.pt 3 0,.pt 4 0] .ready),hsX q W,fnX,some (.blk true (.cells true [I (i:Nat)])),some (.blk true (.cells true [I (swT q W i (2^W.length):Nat)])),hsX q W,some (.blk true (.cells true [.fs [[I (i:Nat)]]])),none]):=aYV (q:=q) hW hl hi
 unfold hsA chB at *;rw[qX 184 aLF rfl];unfold aLF swg;dsimp only;(exact RS2 c1 c2)
def swL(q:Int)(W:List Int)(i:Nat):List Int:=(List.range i).map (swg q W)
theorem aTc(q:Int)(W:List Int)(i:Nat):swL q W (i+1)=swL q W i++[swg q W i]:=by
 unfold swL;rw[aI5,F6];rfl
theorem aEC(q:Int)(W:List Int)(i:Nat):(swL q W i).length=i:=by simp[swL]
def aQl:Nat→AV
 | 0=>.nilsl
 | i+1=>.sl 2 0 1 (i+1)
def aRh(q:Int)(W:List Int):Nat→XH
 | 0=>[hsX q W,fnX]
 | i+1=>[hsX q W,fnX,some (.blk true (.cells true ((swL q W (i+1)).map I)))]
theorem rY{i:Nat}(hi:0<i):aQl i = .sl 2 0 1 i:=by
 cases i with
 | zero=>omega
 | succ i=>rfl
theorem sQ{i:Nat}(hi:0<i):aRh q W i=[hsX q W,fnX,some (.blk true (.cells true ((swL q W i).map I)))]:=by
 cases i with
 | zero=>omega
 | succ i=>rfl
theorem aTd(q:Int)(W:List Int)(n:Nat):bU ((swL q W n).map I) 0 1 n=wr (swL q W n):=by
 have h:=yL (f:=I) (swL q W n) [];rw[aEC]at h;exact h
theorem aZb(hW:∀ v∈W,0≤v∧v≤1000000)(h1:1≤W.length)(hl:W.length≤9) :
 runW aB 183 [hsA q W,.fn (.func 184) [] [.pt 0 0,.pt 1 0]] [hsX q W,fnX]=some (.fs (wr (swL q W W.length)),[hsX q W,fnX]):=by
 have e0:((W.length:Int)<(W.length:Int))=False:=AAb;have sl:=aEC q W;have ch:=aTd q W W.length;rw[qX 183 aPA rfl];unfold aPA hsA chB;dsimp only;sym =>
  simp[Za,Zb,Zd,Ze,Zf,Zh,Zl,Zm,Zo,Zv,Zz,Z8,ZA,ZF,ZV,Ye,Yh,Yl,Ym,Yn,Yt,Y7,YG,YP,YU,YX,Xz,XN,XO,XW,XY,Wa,Wg,Wj,Wk,Wr,Wu,Wz,W3,W4,W6,W8,WK,WV,WY,Vb,Vd,Vj,Vl,Vn,Vq,V1,V2,V3,V4,V5,V6,V7,V8,V9,VA,VB,VC,VD,VF,VG,VI,VK,VL,VM,VN,VO,VP,VQ,VR,VS,VT,VU,VV,VX,VY,Uc,Ud,Ug,Uh,Ui,Uj,Ur,Us,Ut,Uu,Uv,U9,UB,UE,UF,UH,UI,UJ,UK,UL,UO,UP,UQ,UR,UT,UU,UV,UW,UX,UY,UZ,Ta,Tc,Td,Te,Tf,Tg,Th,Ti,Tj,Tl,Tm,Tn,Tq,Tt,T0,T3,T4,T5,T6,T7,T8,T9,TA,TB,TC,TD,TE,TJ,TK,TL,TM,TN,TO,TU,TV,TW,TX,TY,TZ,Sf,Sg,Si,Sj,Sk,Sl,Sm,Sn,Sp,Su,Sz,S2,S3,S4,S6,S7,S9,SA,SB,SC,SD,SE,SF,SI,SK,SL,SM,SN,Rp,Rq,Ry,Qh,Qj,Ql,QX,QY,QZ,Pa]
  tactic =>
   unfold aLG;rw[aS W.length (fun i=>[.fn (.func 184) [] [.pt 0 0,.pt 1 0],aQl i,I W.length,I (i:Nat)]) (fun i=>aRh q W i)]
   ·have l0:(W.length≤(swL q W W.length).length)=True:=AAp (by rw[sl];omega)
    rw[rY h1,sQ h1];(exact RS3 e0 ch l0)
   ·unfold aQl aRh
    (exact wO)
   ·intro i hi
    have c:=aZa (q:=q) hW hl hi;have t1:((i:Int)<(W.length:Int))=True:=AAa;have a2:IntKind.i64.wrap ((i:Int)+1)=((i+1:Nat):Int):=by rw[aI AM AM];rfl
    cases i with
    | zero =>
      have e1:(swL q W (0+1)).map I=[I (swg q W 0)]:=rfl;have z0:aQl 0 = .nilsl:=rfl;have z1:aRh q W 0=[hsX q W,fnX]:=rfl;have t1:((0:Int)<(W.length:Int))=True:=t1;have c:runW aB 184 [I 0,.pt 0 0,.pt 1 0] [hsX q W,fnX]=some (I (swg q W 0),[hsX q W,fnX]):=c;rw[z0,z1,rY (aI3 0),sQ (aI3 0),e1];(exact RS2 t1 c)
    | succ i =>
      have e1:(swL q W (i+1+1)).map I=(swL q W (i+1)).map I++[I (swg q W (i+1))]:=by rw[aTc q W (i+1),F6];rfl
      have l1:=sl (i+1);have b1:((i+1+1)*8≤1099511627776)=True:=AAa;have b2:(i+1+1≤1099511627776)=True:=AAa;have p1:0<i+1:=AM
      have p2:0<i+1+1:=AM
      rw[rY p1,rY p2,sQ p1,sQ p2,e1];generalize swL q W (i+1)=Z at *;(exact RS7 t1 c a2 l1 b1 b2 aE)
   ·rw[rY h1,sQ h1]
    (exact dM e0)
theorem aZf(hq:1≤q∧q≤10000000)(hW:∀ v∈W,0≤v∧v≤1000000)(h1:1≤W.length)(hl:W.length≤9) :
 runW aB 159 [.agg [.sl 0 0 2 1],.fn (.func 160) [] []] [some (.blk false (.cells true [I q,.sl 1 0 1 W.length])),some (.blk true (.cells true (W.map I)))]=some (.tup [.fs (wr (swL q W W.length)),I 0],[none,none]):=by
 have c1:=aZc hq hW h1 hl;have c2:=aZb (q:=q) hW h1 hl;have ch:(W.map fun v=>[AV.int .i64 v])=wr W:=rfl;unfold chA hsA chB at *;rw[qX 159 aPD rfl];unfold aPD;dsimp only;(exact RS3 c1 c2 ch)
theorem aZh(hq:1≤q∧q≤10000000)(hW:∀ v∈W,0≤v∧v≤1000000)(h1:1≤W.length)(hl:W.length≤9) :
 runW aB 137 [.agg [.sl 0 0 2 1]] [some (.blk false (.cells true [I q,.sl 1 0 1 W.length])),some (.blk true (.cells true (W.map I)))]=some (.tup [.fs (wr (swL q W W.length)),I 0],[none,none]):=by
 have c1:=aZf hq hW h1 hl;rw[qX 137 aPE rfl];unfold aPE;dsimp only;(exact dM c1)
end
end Go.Proofs.YtmapgnepfgnphaaGreatDoor
namespace Go.DL
theorem sB{h:XH}{k:Nat}{acc:List Nat}:∀(n:Nat)(l:List Nat),(∀ b∈l,b<k∨b∈acc)→cY h k n l acc=acc
 | 0,_,_=>rfl
 | n+1,[],_=>rfl
 | n+1,b::r,h1=>by
   unfold cY;rw[if_pos (h1 b (by simp))];exact sB n r fun c hc=>h1 c (by simp[hc])
theorem xT{h k:XH}(cd:Cd h):∀ b∈(cP h.length (h++k)).flatMap nmO,b<h.length:=by
 rw[kZ];intro b hb;obtain⟨x,hx,hb⟩:=P0.1 hb;exact cd x hx b hb
theorem aNV{h k:XH}{n c:Nat}{r:List Nat}{x:XB}(hn:h.length=n)(cd:Cd h){L:List Nat}{e:aH}(hv:lF (L.map e)=c::n::r)(hc:c<n)(hr:∀ b∈r,b<n)(hx:hat (h++k) n=some x)(hx0:nmO (some x)=[]):dL n L (some (.normal,e,h++k))=some (L.map e,h++[some x]):=by
 subst hn;have hxb:nmB x=[]:=hx0;have h1:dC h.length (L.map e) (h++k)=[h.length]:=by
  unfold dC;have hf:=xT (k:=k) cd;rw[hv];generalize (cP h.length (h++k)).flatMap nmO=fl at hf;show cY (h++k) h.length 4096 (c::h.length::(r++fl)) []=_;rw[cY,if_pos (.inl hc),cY,if_neg (by simp),hx];dsimp only;rw[hxb];refine sB _ _ fun b hb=>?_;rw[G7,A9]at hb;exact .inl (hb.elim (hr b) (hf b))
 have hs:∀ b,b≤h.length→keepS h.length [h.length] b=some b:=fun b hb=>by
  unfold keepS;by_cases hb2:b<h.length;·rw[if_pos hb2]
  ·have:b=h.length:=AM
   subst this;rw[if_neg hb2];simp[fK]
 rw[SL];unfold wI nG lY;rw[h1,kZ,aFo cd];rw[iO _ _ fun b hb=>by
  rw[hv]at hb;rcases B3.1 hb with rfl|hb;·exact hs _ AM
  ·rcases B3.1 hb with rfl|hb
   ·exact hs _ AM
   ·exact hs _ (by have:=hr b hb;omega)]
 simp only[D7,aE7,hx];rw[aEX _ (some x) fun b hb=>by rw[hx0]at hb;cases hb]
theorem aNU{h k:XH}{n m c o z l:Nat}{r:List Nat}{y:XB}{q:AV}(hn:h.length=n)(cd:Cd h){L:List Nat}{e:aH}(hv:lF (L.map e)=c::n::r)(hc:c<n)(hr:∀ b∈r,b<n)(hq:∃ i,q = .int .i64 i)(hx:hat (h++k) n=some (.blk false (.cells true [q,.sl m o z l])))(hm:n<m)(hy:hat (h++k) m=some y)(hy0:nmO (some y)=[]) :
 dL n L (some (.normal,e,h++k))=some (L.map e,h++[some (.blk false (.cells true [q,.sl (n+1) o z l])),some y]):=by
 obtain⟨i,rfl⟩:=hq;subst hn;have hyb:nmB y=[]:=hy0;have h1:dC h.length (L.map e) (h++k)=[h.length,m]:=by
  unfold dC;have hf:=xT (k:=k) cd;rw[hv];generalize (cP h.length (h++k)).flatMap nmO=fl at hf;show cY (h++k) h.length 4096 (c::h.length::(r++fl)) []=_;rw[cY,if_pos (.inl hc),cY,if_neg (by simp),hx];dsimp only;show cY (h++k) h.length 4094 (m::(r++fl)) [h.length]=_;rw[cY,if_neg (by simp;omega),hy];dsimp only;rw[hyb];refine sB _ _ fun b hb=>?_;rw[G7,A9]at hb;exact .inl (hb.elim (hr b) (hf b))
 have hs:∀ b,b≤h.length→keepS h.length [h.length,m] b=some b:=fun b hb=>by
  unfold keepS;by_cases hb2:b<h.length;·rw[if_pos hb2]
  ·have:b=h.length:=AM
   subst this;rw[if_neg hb2];simp[fK]
 have hsm:keepS h.length [h.length,m] m=some (h.length+1):=by
  unfold keepS;rw[if_neg AM];have h2:¬m=h.length:=AM
  have h3:fK m [h.length,m]=some 1:=by simp[fK,h2]
  rw[h3,C3,aD0]
 rw[SL];unfold wI nG lY;rw[h1,kZ,aFo cd];rw[iO _ _ fun b hb=>by
  rw[hv]at hb;rcases B3.1 hb with rfl|hb;·exact hs _ AM
  ·rcases B3.1 hb with rfl|hb
   ·exact hs _ AM
   ·exact hs _ (by have:=hr b hb;omega)]
 simp only[D7,aE7,hx,hy];rw[aEX _ (some y) fun b hb=>by rw[hy0]at hb;cases hb];congr 2;show h++[some (XB.blk false (.cells true (lR _ [.int .i64 i,.sl m o z l]))),_]=_;simp only[lR,rnA,hsm]
end Go.DL
namespace Go.Proofs.YtmapgnepfgnphaaGreatDoor
section
open Go Go.DL
theorem aRu{h k:XH}{n c:Nat}{r:List Nat}{x:XB}(hn:h.length=n)(cd:Cd h){L:List Nat}{q:Option (DX×aH×XH)}{vs:List AV}(hq:qD L q=some (.normal,vs,h++k))(hv:lF vs=c::n::r)(hc:c<n)(hr:∀ b∈r,b<n)(hx:hat (h++k) n=some x)(hx0:nmO (some x)=[]):dL n L q=some (vs,h++[some x]):=by
 unfold qD at hq;rw[A0]at hq;obtain⟨⟨x,e,h2⟩,rfl,he⟩:=hq;simp only[B4]at he;obtain⟨rfl,rfl,rfl⟩:=he;exact aNV hn cd hv hc hr hx hx0
theorem aJW{h k:XH}{n m c o z l:Nat}{r:List Nat}{y:XB}{a:AV}(hn:h.length=n)(cd:Cd h){L:List Nat}{q:Option (DX×aH×XH)}{vs:List AV}(hq:qD L q=some (.normal,vs,h++k))(hv:lF vs=c::n::r)(hc:c<n)(hr:∀ b∈r,b<n)(ha:∃ i,a = .int .i64 i)(hx:hat (h++k) n=some (.blk false (.cells true [a,.sl m o z l])))(hm:n<m)(hy:hat (h++k) m=some y)(hy0:nmO (some y)=[]) :
 dL n L q=some (vs,h++[some (.blk false (.cells true [a,.sl (n+1) o z l])),some y]):=by
 unfold qD at hq;rw[A0]at hq;obtain⟨⟨x,e,h2⟩,rfl,he⟩:=hq;simp only[B4]at he;obtain⟨rfl,rfl,rfl⟩:=he;exact aNU hn cd hv hc hr ha hx hm hy hy0
variable{h h' h1:XH}{L:CL}{s:dR}{x:ByteArray}
def cF(s:dR):List Int:=s.farmers.map fun p=>wP p.2 1000
def aBP(s:dR):Int:=wP (cF s).sum 2+1
def aDo(s:dR)(x:ByteArray):Int:=match dY (s.farmers.map (·.1)) x with
 | some i=>swg (aBP s) (cF s) i
 | none=>0
def atS(ix i:Nat):Int:=if ix<i then (ix:Int) else 0
def kS(n:Nat)(W:List Int):Nat→XH
 | 0=>[some (.blk true (.cells true [I 0,.nilsl]))]
 | i+1=>[some (.blk false (.cells true [I 0,.sl (n+1) 0 1 (i+1)])),some (.blk true (.cells true ((W.take (i+1)).map I)))]
theorem aFv{n i:Nat}{W:List Int}(hi:0<i):kS n W i=[some (.blk false (.cells true [I 0,.sl (n+1) 0 1 i])),some (.blk true (.cells true ((W.take i).map I)))]:=by
 cases i with
 | zero=>omega
 | succ i=>rfl
theorem aBc(s:dR):(cF s).length=s.farmers.length:=by simp[cF]
theorem aEA(gs:gG s):∀ v∈cF s,0≤v∧v≤30000:=by
 intro v hv;obtain⟨p,hp,rfl⟩:=D6.1 hv;have h1:=gs.fs p hp;have h2:=gs.bf p hp;have h3:=gs.book;have h0:0≤p.2:=by
  rw[h1];unfold vM;have:∀ l:List CTk,(∀ k∈l,0≤k.net)→0≤(l.map fun k=>if k.farmer=p.1∧k.void=false then k.net else 0).sum:=by
   intro l;induction l with
   | nil=>intro _;simp
   | cons k l ih =>
     intro hk;have i1:=ih fun k' h'=>hk k' (E5 _ h');have i2:=hk k (by simp);rw[D7,O9];split<;>omega
  exact this _ fun k hk=>(gs.bt k hk).1
 unfold wP;rw[aC5 h0];omega
theorem aTe{l:List Int}{B:Int}(h:∀ v∈l,0≤v∧v≤B):0≤l.sum∧l.sum≤B*l.length:=by
 induction l with
 | nil=>simp
 | cons v r ih =>
   have h1:=h v (by simp);have h2:=ih fun w hw=>h w (E5 v hw);rw[O9,C8];have:B*((r.length+1:Nat):Int)=B*(r.length:Int)+B:=by
    rw[Int.natCast_add,Int.mul_add];simp
   omega
theorem aMc(gs:gG s)(i:Nat):0≤((cF s).take i).sum∧((cF s).take i).sum≤300000:=by
 have h1:=aTe (l:=(cF s).take i) (B:=30000) fun v hv=>aEA gs v (I1 hv);have h2:((cF s).take i).length≤9:=by
  rw[G5,aBc];have:=gs.lf;omega
 omega
theorem w98(ly:Lays h L s)(gs:gG s)(cd:Cd h){ix:Nat}(hx:dY (s.farmers.map (·.1)) x=some ix):∃ K,runW aB 98 [.pt L.c 0,.str x] h=some (I (aDo s x),h++K):=by
 obtain⟨n,hn⟩:∃ n,h.length=n:=⟨_,rfl⟩;obtain⟨g,hc⟩:=aC ly.hc;unfold bY at hc;have lc:L.c<n:=by rw[←hn];exact aF ly.hc
 have cn:(L.c<n)=True:=AAp lc;have hix:ix<s.farmers.length:=by
  have:=(A2.1 (fV hx)).1;simpa using this
 have hk:0<s.farmers.length:=AM
 have hk9:=gs.lf;obtain⟨gw,hwo⟩:=ly.f.ho;rw[A7,eR hk]at hwo;obtain⟨gb,hfb⟩:=ly.f.hb (by rw[A7];exact hk);have lo:L.f.o<n:=by rw[←hn];exact ly.f.lts.1
 have lb:L.f.b<n:=by rw[←hn];exact ly.f.lts.2.2.1 (by rw[A7];exact hk)
 have won:(L.f.o<n)=True:=AAp lo;have wbn:(L.f.b<n)=True:=AAp lb;obtain⟨e0,v0,_,_,_,call0⟩:=ly.f.getf hx;have hWl:=aBc s;have bd:=aMc gs;have klt:((s.farmers.length:Int)<(s.farmers.length:Int))=False:=AAb;have fin:((cF s).take s.farmers.length).sum=(cF s).sum:=by rw[B5 AM]
 have fin2:(cF s).take s.farmers.length=cF s:=by rw[B5 AM]
 have nm:∀ i:Nat,lF [.pt L.c 0,.str x,.pt n 0,I (atS ix i),I ((cF s).take i).sum,.sl L.f.b 0 1 s.farmers.length,I s.farmers.length,I (i:Nat)]=L.c::n::[L.f.b]:=fun i=>rfl;have hr:∀ b∈[L.f.b],b<n:=fun b hb=>by rw[B2.1 hb];exact lb
 refine⟨[some (.blk false (.cells true [I (aBP s),.sl (n+1) 0 1 s.farmers.length])),none,none],?_⟩;rw[qY 98 x98 rfl,hn];unfold x98;dsimp only;sym =>
  simp[fW,fX,lS,Za,Zb,Zc,Zf,Zh,Zl,Zm,Zv,Zw,Z0,Z9,ZF,ZR,ZV,ZZ,Ya,Ye,Yh,Ym,Yt,Yw,Xv,Xy,Wg,Wo,Va,Vf,Vq,V1,V2,V3,V4,V5,V7,V8,V9,VA,UT,Tc,Td,Te,Tg,Th,Tl,Tm,Tt,T0,TD,TE,TJ,TK,TL,TM,Sn,Sp,Su,Sv,Sw,S9,SD,SE,SM,SN,QW,QY,Pa,Pg,Ph,Pl,Pn,hn,hc,cn,hwo,won,call0]
  tactic =>
   unfold aRQ;rw[aS s.farmers.length (fun i=>[.pt L.c 0,.str x,.pt n 0,I (atS ix i),I ((cF s).take i).sum,.sl L.f.b 0 1 s.farmers.length,I s.farmers.length,I (i:Nat)]) (fun i=>h++kS n (cF s) i)]
   ·rw[aFv hk,fin2]
    have q0:aBP s=wP (cF s).sum 2+1:=rfl;have b0:=bd s.farmers.length;rw[fin]at b0;have td:0≤wP (cF s).sum 2∧wP (cF s).sum 2≤300000:=by
     unfold wP;rw[aC5 b0.1];omega
    have a1:IntKind.i64.wrap (wP (cF s).sum 2)=wP (cF s).sum 2:=aI AM AM;have a2:IntKind.i64.wrap (wP (cF s).sum 2+1)=aBP s:=by rw[aI AM AM];rfl
    have c137:=aZh (q:=aBP s) (W:=cF s) AM (fun v hv=>by have:=aEA gs v hv;omega) AM AM;rw[hWl]at c137;have hat1:atS ix s.farmers.length=(ix:Int):=by unfold atS;rw[if_pos hix]
    have sl:=aEC (aBP s) (cF s) s.farmers.length;have wl:=aBa (swL (aBP s) (cF s) s.farmers.length);rw[sl]at wl;have sg:(swL (aBP s) (cF s) s.farmers.length)[ix]?=some (swg (aBP s) (cF s) ix):=by
     unfold swL;rw[A6,O6 hix];rfl
    have wg:=aLI sg;have pw:aDo s x=swg (aBP s) (cF s) ix:=by unfold aDo;rw[hx]
    have ixn:((ix:Int)<(s.farmers.length:Int))=True:=AAa;have m1:(n+1=n+2)=False:=AAb;have m2:(n+2=n+1)=False:=AAb;have m3:(n+1<0)=False:=AAb;have m4:(n+2<0)=False:=AAb;rw[hat1,pw];(exact aAb hn klt a1 a2 c137 wl wg ixn m1 @m2 m3 m4 aE)
   ·exact aRu hn cd (k:=[some (.blk true (.cells true [I 0,.nilsl]))]) rfl (nm 0) lc hr (by rw[cS,if_neg AM,hn,J8];rfl) rfl
   ·intro i hi
    obtain⟨⟨q,y⟩,hq⟩:∃ p,s.farmers[i]?=some p:=⟨_,A4 hi⟩;have hqk:(s.farmers.map (·.1))[i]?=some q:=by rw[A6,hq];rfl
    have hxq:=aDP gs.nf hqk;obtain⟨e,v,he,hv,hev,_⟩:=ly.f.getf hxq;obtain⟨e',v',he',_,_,call⟩:=(ly.ext (kS n (cF s) i)).f.getf hxq;rw[he]at he';cases he';rw[A6,hq]at hv;cases hv;have hev:aG h e=some (.cells true [I y]):=hev;have en:(e<n)=True:=AAp (by rw[←hn];exact aF hev);obtain⟨ge,hee⟩:=aC hev;have t1:((i:Int)<(s.farmers.length:Int))=True:=AAa;have hWi:(cF s)[i]?=some (wP y 1000):=by unfold cF;rw[A6,hq];rfl
    have tb:=aEA gs _ (A5 hWi);have hs1:((cF s).take (i+1)).sum=((cF s).take i).sum+wP y 1000:=by
     rw[I7,hWi];simp
    have b1:=bd (i+1);rw[hs1]at b1;have a1:IntKind.i64.wrap (wP y 1000)=wP y 1000:=aI AM AM;have a2:IntKind.i64.wrap (((cF s).take i).sum+wP y 1000)=((cF s).take i).sum+wP y 1000:=aI AM AM;have a3:IntKind.i64.wrap ((i:Int)+1)=((i+1:Nat):Int):=by rw[aI AM AM];rfl
    have ht1:((cF s).take (i+1)).map I=((cF s).take i).map I++[I (wP y 1000)]:=by
     rw[I7,hWi,F6];rfl
    have mq1:Option.map Prod.fst (some (q,y))=some q:=rfl;have mq2:Option.map AV.str (some q)=some (.str q):=rfl;have key:(aQ .eql q x=some (.bool true)∧atS ix (i+1)=(i:Int))∨(aQ .eql q x=some (.bool false)∧atS ix (i+1)=atS ix i):=by
     by_cases hqx:q=x
     ·refine .inl ⟨by rw[tQ,AAl hqx],?_⟩
      rw[hqx,hx]at hxq;cases hxq;unfold atS;rw[if_pos AM]
     ·refine .inr ⟨by rw[tQ,AAm hqx],?_⟩
      have hne:ix≠i:=fun q1=>by
       subst q1;have h2:=fV hx;rw[h2]at hqk;exact hqx (Option.some.inj hqk).symm
      unfold atS;by_cases h3:ix<i;·rw[if_pos h3,if_pos AM]
      ·rw[if_neg h3,if_neg AM]
    rw[aFv (Nat.zero_lt_succ i)];cases i with
    | zero =>
      have e1:((cF s).take (0+1)).map I=[I (wP y 1000)]:=by rw[ht1];rfl
      rw[e1];refine aJW hn cd (k:=[some (.blk false (.cells true [I 0,.sl (n+2) 0 1 1])),some (.blk true (.cells true [I (wP y 1000)])),some (.blk true (.cells true [I (wP y 1000)]))]) ?_ (nm (0+1)) lc hr ⟨0,rfl⟩ (by rw[cS,if_neg AM,hn,J8];rfl) AM (by rw[cS,if_neg AM,show n+2-h.length=2 by omega];rfl) rfl;have t1:((0:Int)<(s.farmers.length:Int))=True:=t1;have s0:((cF s).take 0).sum=0:=rfl;rw[hs1,s0];rw[s0]at a2 b1;have a2:IntKind.i64.wrap (0+wP y 1000)=0+wP y 1000:=a2;have k0:kS n (cF s) 0=[some (.blk true (.cells true [I 0,.nilsl]))]:=rfl;rw[k0]at call ⊢;have z1:atS ix 0=0:=by unfold atS;rw[if_neg AM]
      rcases key with ⟨k1,k2⟩|⟨k1,k2⟩
      ·rw[k2,z1]
       (exact aPb hn t1 hfb hq mq1 mq2 hc hwo call hee a1 a2 k1 cn won wbn en aE aE aE)
      ·rw[k2,z1]
       (exact aPb hn t1 hfb hq mq1 mq2 hc hwo call hee a1 a2 k1 cn won wbn en aE aE aE)
    | succ i =>
      have pi:0<i+1:=AM
      rw[ht1,hs1];rw[aFv pi]at call ⊢;refine aJW hn cd (k:=[some (.blk false (.cells true [I 0,.sl (n+3) 0 1 (i+1+1)])),none,some (.blk true (.cells true [I (wP y 1000)])),some (.blk true (.cells true (((cF s).take (i+1)).map I++[I (wP y 1000)])))]) ?_ (by rw[←hs1];exact nm (i+1+1)) lc hr ⟨0,rfl⟩ (by rw[cS,if_neg AM,hn,J8];rfl) AM (by rw[cS,if_neg AM,show n+3-h.length=3 by omega];rfl) rfl;have tl:((cF s).take (i+1)).length=i+1:=by rw[G5];omega
      have b2:((i+1+1)*8≤1099511627776)=True:=AAa;have b3:(i+1+1≤1099511627776)=True:=AAa;generalize ((cF s).take (i+1)).sum=S0 at *;generalize (cF s).take (i+1)=W0 at *;rcases key with ⟨k1,k2⟩|⟨k1,k2⟩
      ·rw[k2]
       (exact lV hn t1 hfb hq mq1 mq2 hc hwo call hee a1 a2 a3 k1 cn won wbn en tl b2 b3 aE aE aE aE aE)
      ·rw[k2]
       (exact lV hn t1 hfb hq mq1 mq2 hc hwo call hee a1 a2 a3 k1 cn won wbn en tl b2 b3 aE aE aE aE aE)
   ·rw[aFv hk]
    (exact RT2 hn klt)
theorem aSZ{q:Int}{W:List Int}{i:Nat}(h:W.length≤9):0≤swg q W i∧swg q W i≤1000:=by
 have p2:2^W.length≤2^9:=J0 AM h;have:=aMg q W i (2^W.length);unfold swg;omega
theorem aTC(gs:gG s) : -1000000≤aDo s x∧aDo s x≤1000000:=by
 unfold aDo;split
 ·have:=aSZ (q:=aBP s) (W:=cF s) (i:=by assumption) (by rw[aBc];exact gs.lf)
  omega
 ·omega
theorem aRj(h k:XH):Frz h.length h (h++k):=fun j c hc _=>by
 rw[fY,if_pos (aF hc)];exact hc
theorem c98(ly:Lays h L s)(hx:dY (s.farmers.map (·.1)) x=none):CalP Tryz.prog aB 98 [.pt L.c 0,.str x] h (.ifc 110 (.agg [I 5])) h:=by
 obtain⟨n,hn⟩:∃ n,h.length=n:=⟨_,rfl⟩;obtain⟨g,hc⟩:=aC ly.hc;unfold bY at hc;have cn:(L.c<n)=True:=AAp (by rw[←hn];exact aF ly.hc);have call:=ly.f.nonef hx;refine CalP.of (d:=x98) (e':=bH [] []) aA rfl (by simp[x98]) rfl ?_;unfold x98;dsimp only;refine PanX.seqR (K:=98) aA rfl [0,1] (vs:=[.pt L.c 0,.str x]) (h1:=h) (by (exact wO)) ?_;refine PanX.seqL ?_;exact PanX.reg (p:=[⟨0,some 13,.mv (.t 0),none⟩,⟨0,some 14,.nilck (.t 13),none⟩,⟨0,some 15,.fld 0 (.t 14),none⟩,⟨0,some 16,.load false 1 (.t 15),none⟩,⟨0,some 17,.mv (.t 1),none⟩]) (post:=[]) aA [] (g:=95) (first:=[]) (cap:=[]) (args:=[.pt L.f.o 0,.str x]) (vs:=[]) (h1:=h) rfl rfl (by (exact RS3 hn hc cn)) call
theorem aTB:aKe aDo:=by
 intro h L s x ly gs;cases hv:iD s.farmers x with
 | none=>exact⟨h,c98 ly (fG.1 hv),(Fr.refl [] h).frz⟩
 | some v =>
   obtain⟨i,hi,_⟩:=eI hv;refine⟨aTC gs,fun cd=>?_⟩;obtain⟨K,hK⟩:=w98 ly gs cd hi;exact⟨_,hK,aRj h K⟩
end
section
open Go Go.DL Go.Proofs.Tryz
theorem aNj{D:Nat→Option XFn}{K:Nat}{f:List AV→XH→Option (AV×XH)}(hf:∀ xs h v h',f xs h=some (v,h')→h=[]∧h'=[]∧lJ xs=true∧Gd v∧runW aB K xs []=some (v,[])):iL D K f:=by
 intro B Y r h H xs ys v h' sh hr hx;obtain⟨rfl,rfl,gx,gv,hrun⟩:=hf _ _ _ _ hx;obtain⟨rfl,gxs⟩:=hr.same gx;have rno:∀ b c,r b=some c→False:=fun b c hb=>by have:=sh.dom b c hb;simp at this
 have sh0:∀(D':Nat→Option XFn)(Y':Nat→Option YI)(r':Nat→Option Nat)(H':Hp),(∀ b c,r' b=some c→False)→SH D' Y' r' [] H':=fun D' Y' r' H' hn=>⟨fun b c hb=>(hn b c hb).elim,fun b c c' x y hx=>by simp[hat]at hx,fun b x hx=>by simp[hat]at hx,GhR.no fun b st p hx=>by simp[hat]at hx⟩;have fw:=(xK aA B (fun _=>none) (fun l i h=>by simp at h)).1 (fun _=>none) [] H K ys ys v [] (sh0 _ _ _ _ fun b c hb=>by cases hb) ⟨rfl,fun i a b ha hb=>by rw[ha]at hb;cases hb;exact(gxs a (A5 ha)).rn⟩ hrun;have cv:CallV B Tryz.prog (.fn (.func K) [] []) ys H (eZ aB (fun _=>none) (fun _=>none) v []):=by
  have hn:[]++ys++[]=ys:=by simp
  rw[←hn]at fw;exact fw
 have goal:CallV B Tryz.prog (.fn (.func K) [] []) ys H (eZ D Y r v []):=CallV.mono cv fun v' H' hq=>by
  obtain⟨r3,ha,sh3,hv⟩:=hq;obtain⟨rfl,_⟩:=hv.same gv.gr;exact⟨r,fun b c hb=>hb,sh0 _ _ _ _ rno,gv.rn⟩
 have hn:ys=[]++ys++[]:=by simp
 rw[hn];exact goal
theorem aXU(l:List ByteArray):Gd (.fs (rS l)):=.fs _ fun r hr c hc=>by
 unfold rS at hr;obtain⟨s,_,rfl⟩:=D6.1 hr;rw[B2.1 hc];exact .str s
theorem aSx{a:AV}(ha:Gd a)(x y:Int):Gd (.tup [a,I x,I y]):=.tup _ fun c hc=>by
 simp only[B3,G6,AAi]at hc;rcases hc with rfl|rfl|rfl;·exact ha
 ·exact .int _ _
 ·exact .int _ _
theorem aGM(e:Int):Gd (erV e):=aSx (.fs _ fun _ h=>by cases h) _ _
theorem aXV(s:ByteArray)(row:Int):Gd (mnV s row):=by
 unfold mnV;split
 ·split
  ·exact aGM _
  ·split
   ·exact aGM _
   ·unfold rA
    repeat' split
    all_goals first|exact aGM _|(unfold aBZ;split<;>first|exact aGM _|exact aSx (aXU _) _ _)
 ·exact aGM _
def aFe:List AV→XH→Option (AV×XH):=fun xs h=>match xs,h with
 | [.str s,.int .i64 row],[]=>if s.size≤1000000 then some (mnV s row,[]) else none
 | _,_=>none
theorem aWh{D:Nat→Option XFn}:iL D 16 aFe:=aNj fun xs h v h' hx=>by
 unfold aFe at hx;split at hx
 ·split at hx
  ·rename_i hs
   cases hx;exact⟨rfl,rfl,rfl,aXV _ _,w16 hs⟩
  ·cases hx
 ·cases hx
noncomputable def sayA(s:dR)(line:ByteArray):ByteArray×dR:=vN aDo s line (rd line)
def aUW:XFn:={ x30 with ownR:=true }
def aGs(K:Nat):Option XFn:=if K=30 then some aUW else aJn K
theorem aNg:XOk prog aGs where
 mixed:=rfl
 is K d hd _:=by
  unfold aGs at hd;split at hd;·rename_i e;cases hd;subst e;exact aTW.1
  ·exact progX_ok.is K d hd (aNk hd)
 prm K d f hd hp:=by
  unfold aGs at hd;split at hd;·cases hd;cases hp
  ·rw[aNk hd]at hp;cases hp
 ok K d hd:=by
  unfold aGs at hd;split at hd;·cases hd;exact aTW.2.1
  ·exact progX_ok.ok K d hd
 sites K d hd:=by
  unfold aGs at hd;split at hd;·cases hd;exact aP rfl
  ·exact progX_ok.sites K d hd
noncomputable def progG(K:Nat):Option XFn:=match K with
 | 16=>some (mU aFe)
 | 19=>some (mU aJr)
 | 21=>some (mU (pmSay aDo rd))
 | 23=>some (mU pmSave)
 | 30=>some aUW
 | 13=>some x13
 | K=>aB K
theorem aNi:XOk prog progG:=by
 refine XOk.over aNg fun K d hd=>?_;unfold progG at hd;split at hd;·cases hd;exact .inr ⟨_,_,rfl,aWh⟩
 ·cases hd;exact .inr ⟨_,_,rfl,aWg⟩
 ·cases hd;exact .inr ⟨_,_,rfl,aWf aTB aWb⟩
 ·cases hd;exact .inr ⟨_,_,rfl,aWe⟩
 ·cases hd;exact .inl ⟨rfl,rfl⟩
 ·cases hd;exact .inl ⟨rfl,rfl⟩
 ·rename_i h30 _
  unfold aB at hd;split at hd;·cases hd;exact .inr ⟨_,_,rfl,aSn⟩
  ·unfold aNh at hd
   split at hd;·cases hd;exact .inr ⟨_,_,rfl,aSv⟩
   ·cases hd;exact .inr ⟨_,_,rfl,aSu⟩
   ·cases hd;exact .inr ⟨_,_,rfl,aSt⟩
   ·cases hd;exact .inr ⟨_,_,rfl,aSs⟩
   ·cases hd;exact .inr ⟨_,_,rfl,aSr⟩
   ·cases hd;exact .inr ⟨_,_,rfl,aSq⟩
   ·cases hd;exact .inr ⟨_,_,rfl,aSp⟩
   ·cases hd;exact .inr ⟨_,_,rfl,aSo⟩
   ·cases hd;exact .inr ⟨_,_,rfl,aSm⟩
   ·cases hd;exact .inr ⟨_,_,rfl,aNm⟩
   ·cases hd;exact .inr ⟨_,_,rfl,aNl⟩
   ·cases hd;exact .inr ⟨_,_,rfl,aSl⟩
   ·exact .inl ⟨(if_neg (fun e=>h30 e)).trans hd,aNk hd⟩
noncomputable abbrev gK(s:dR):Option XB:=some (.gh s (IsClk s))
theorem g21(s:dR)(line:ByteArray):runW progG 21 [.pt 0 0,.str line] [gK s]=some (.str (sayA s line).1,[gK (sayA s line).2]):=by
 rw[eL (d:=mU (pmSay aDo rd)) rfl rfl];exact if_pos rfl
theorem g23(s:dR):runW progG 23 [.pt 0 0] [gK s]=some (.str (bJ s.book),[gK s]):=by
 rw[eL (d:=mU pmSave) rfl rfl];exact if_pos rfl
theorem g19:runW progG 19 [] []=some (.pt 0 0,[gK dV]):=by
 rw[eL (d:=mU aJr) rfl rfl];rfl
theorem g16{s:ByteArray}{row:Int}(hs:s.size≤1000000):runW progG 16 [.str s,I row] []=some (mnV s row,[]):=by
 rw[eL (d:=mU aFe) rfl rfl];exact if_pos hs
end
section
open Go Go.DL
theorem aXR{vs:List AV}{h:XH}(hl:vs.length≤x33.N):runW progG 33 vs h=gV none x33.res x33.ownR h.length (execW progG 33 h.length none x33.body (aV (if x33.ownA then vs else lO vs)) h):=dS rfl hl h rfl
def tF:Nat→Nat→List UInt8
 | 0,_=>[]
 | f+1,n=>if n<10 then [UInt8.ofNat (48+n)] else tF f (n/10)++tF f (n%10)
theorem aOO{c:Nat}(h:c<256):Option.map (fun l=>AV.str { data:={ toList:=l } }) (gT [.int .u8 (c:Int)])=some (.str ⟨⟨[UInt8.ofNat c]⟩⟩):=by
 simp only[gT];first|rfl|simp
theorem aIQ{c:Nat}(h:c<256):IntKind.u8.wrap (c:Int)=(c:Int):=by
 simp[IntKind.wrap,IntKind.bits,IntKind.signed];omega
theorem bBl{n:Nat}(h:n<10):runW progG 33 [I (n:Nat)] []=some (.str ⟨⟨[UInt8.ofNat (48+n)]⟩⟩,[]):=by
 rw[aXR (by simp[x33])];unfold x33;dsimp only;have t1:((n:Int)<10)=True:=AAa;have a1:IntKind.i64.wrap (48+(n:Int))=((48+n:Nat):Int):=by rw[aI AM AM];omega
 have a2:=aIQ (c:=48+n) AM;have a3:=aOO (c:=48+n) AM;(exact RT4 t1 a1 a2 a3)
theorem aIX(a b:List UInt8):(⟨⟨a⟩⟩:ByteArray)++⟨⟨b⟩⟩=⟨⟨a++b⟩⟩:=by
 apply aJ2;simp[M3]
theorem g33:∀(f n:Nat),0<f→f≤10→n<10^f→(tF f n).length≤f∧runW progG 33 [I (n:Nat)] []=some (.str ⟨⟨tF f n⟩⟩,[])
 | 0,_,h,_,_=>by omega
 | f+1,n,_,hf,hn=>by
   by_cases h10:n<10
   ·unfold tF
    rw[if_pos h10];exact⟨by simp,bBl h10⟩
   ·have f0:0<f:=by
     rcases I4 f with rfl|h;·simp at hn;omega
     ·exact h
    have hd:n/10<10^f:=by
     rw[aI0]at hn;omega
    obtain⟨l1,c1⟩:=g33 f (n/10) f0 AM hd;have hm:n%10<10^f:=by
     have:10^1≤10^f:=J0 AM f0;omega
    obtain⟨_,c2⟩:=g33 f (n%10) f0 AM hm;have hdl:tF f (n%10)=[UInt8.ofNat (48+n%10)]:=by
     cases f with
     | zero=>omega
     | succ f=>unfold tF;rw[if_pos AM]
    have e:tF (f+1) n=tF f (n/10)++tF f (n%10):=by rw[tF,if_neg h10]
    rw[e];have l2:(tF f (n%10)).length=1:=by rw[hdl];rfl
    refine⟨by rw[B6];omega,?_⟩;have t1:((n:Int)<10)=False:=AAb;have q1:wP (n:Int) 10=((n/10:Nat):Int):=aMd n 10;have q2:qL (n:Int) 10=((n%10:Nat):Int):=kB n 10;have big:(10:Nat)^(f+1)≤10^10:=J0 AM hf;have q3:IntKind.i64.wrap ((n/10:Nat):Int)=((n/10:Nat):Int):=aI AM AM;have sa:=oJ (a:=⟨⟨tF f (n/10)⟩⟩) (b:=⟨⟨tF f (n%10)⟩⟩) (by rw[rH,rH];omega);rw[aIX]at sa;rw[aXR (by simp[x33])];unfold x33;dsimp only;(exact RT7 t1 q1 q2 q3 c1 c2 sa)
theorem aEj{u:Nat}(h:u<10):(UInt8.ofNat (48+u)).toNat=48+u:=by
 simp[aE3];omega
theorem aJU:∀(f u:Nat),u<10^f→∀ c∈Lib.decDigits u,48≤c.toNat∧c.toNat≤57
 | 0,u,h,c,hc=>by
   obtain rfl:u=0:=by simpa using h
   rw[Lib.decDigits,AAs AM]at hc;have:c=48:=by simpa using hc
   rw[this];decide
 | f+1,u,h,c,hc=>by
   rw[Lib.decDigits]at hc;by_cases h10:u<10
   ·rw[AAs h10]at hc
    have e:=aEj h10;rw[B2.1 hc,e];omega
   ·rw[dif_neg h10,A9]at hc
    rcases hc with hc|hc;·exact aJU f (u/10) (by rw[aI0]at h;omega) c hc
    ·have e:=aEj (u:=u%10) AM
     rw[B2.1 hc,e];omega
theorem aUt(u:Nat):∃ c r,Lib.decDigits u=c::r:=by
 rw[Lib.decDigits];by_cases h:u<10;·rw[AAs h];exact⟨_,_,rfl⟩
 ·rw[dif_neg h]
  cases Lib.decDigits (u/10)with
  | nil=>exact⟨_,_,rfl⟩
  | cons c r=>exact⟨c,_,rfl⟩
theorem yK:∀(f n:Nat),0<f→n<10^f→tF f n=Lib.decDigits n
 | 0,_,h,_=>by omega
 | f+1,n,_,hn=>by
   rw[tF,Lib.decDigits];by_cases h10:n<10;·rw[if_pos h10,AAs h10]
   ·rw[if_neg h10,dif_neg h10]
    have f0:0<f:=by
     rcases I4 f with rfl|h;·simp at hn;omega
     ·exact h
    rw[yK f (n/10) f0 (by rw[aI0]at hn;omega),yK f (n%10) f0 (by have:10^1≤10^f:=J0 AM f0;omega)];congr 1;rw[Lib.decDigits,AAs AM]
end
end Go.Proofs.YtmapgnepfgnphaaGreatDoor
