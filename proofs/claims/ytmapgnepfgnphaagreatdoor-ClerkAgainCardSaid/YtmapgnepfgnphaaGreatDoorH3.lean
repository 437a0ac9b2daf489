/- Parts of a proof, joined: X9 XA XC XD XE XK XR XT XU XS XF XG DlV DlW XP XQ DlX. No statement of the seed is proved here. -/
import Derived.Carry
import Derived.OpenShut
import Derived.ChangeArms
import Derived.DataReads
import Derived.ChangeOld
import Derived.ChangeShapes
import Derived.RangeFuncLeaves
import Derived.RecoverIn
import Derived.Test.YtmapgnepfgnphaaGreatDoorH2
set_option linter.unusedSimpArgs false
set_option linter.unusedVariables false
set_option linter.unusedSectionVars false
namespace Go.DL
section
section
variable{P:Program}{B:Base}{D:Nat→Option XFn}{Y:Nat→Option YI}{r:Nat→Option Nat}{e env:aH}{h:XH}{H:Hp}

theorem LogR.mono{r':Nat→Option Nat}{h':XH}{L:List (Nat×Nat)}{L':wQ}(hl:LogR r h L L')(hs:Sub r r')(hk:∀ q∈L,(hat h q.2).isSome=true→(hat h' q.2).isSome=true):LogR r' h' L L' :=
 ⟨fun q hq=>hk q hq (hl.1 q hq),fun j c hj=>let ⟨b,h1,h2⟩:=hl.2 j c hj; ⟨b,h1,hs b c h2⟩⟩

theorem aJz(sr:SR D Y r e h env H){ix:Nat}{op:DOp}(hok:iH op=true){L:List (Nat×Nat)}{L':wQ}(hl:LogR r h L L'){eff:Eff}(he:aD op e (aG h)=some eff):LogR r h (aKN ix op e L) (eM ix op env L'):=by
 cases op with
 | load g n x =>
   have hx:=aL sr.re (x:=x) hok;simp only[aKN,eM];simp only[aD]at he;split at he<;>simp only[oSI,reduceCtorEq]at he
   rename_i v hv;unfold eY at hv;split at hv
   ·rename_i b o hb
    rw[hb]at hx;obtain⟨c,k1,k2⟩:=kX hx;simp only[fB,hb,k1];have hlive:(hat h b).isSome=true:=by
     split at hv
     ·rename_i w cs hc
      obtain⟨g',cs',k3,_⟩:=sr.sh.cells k2 hc;simp[k3]
     ·simp at hv
    refine⟨fun q hq=>?_,fun j c' hj=>?_⟩
    ·rcases B3.1 hq with rfl|hq
     ·exact hlive
     ·exact hl.1 q hq
    ·simp only at hj
     split at hj
     ·rename_i hji
      simp only[oSI]at hj;subst hj;subst hji;exact⟨b,by simp,k2⟩
     ·obtain⟨b',k3,k4⟩:=hl.2 j c' hj
      exact⟨b',by simp[k3],k4⟩
   ·rename_i rows i o hb
    rw[hb]at hx;simp only[fB,hb,(aAk hx).1];refine⟨hl.1,fun j c' hj=>?_⟩;simp only at hj;split at hj;·simp at hj
    ·exact hl.2 j c' hj
   ·simp at hv
 | _=>exact hl

theorem aAc{run:eP}{runY:fS}(hf:FnS P B D Y run)(hy:YS P B D Y runY):∀(ops:List DOper)(r:Nat→Option Nat)(e:aH)(h:XH)(L:List (Nat×Nat))(env:aH)(H:Hp)(L':wQ)(e':aH)(h':XH)(K:aH→Hp→Prop),xV ops=true→SR D Y r e h env H →
 LogR r h L L'→eX run runY ops e h L=some (e',h')→aRI D Y r e' h' K→RD B P ops K env H L':=by
 intro ops;induction ops with
 | nil =>
   intro r e h L env H L' e' h' K _ sr _ hx hK;simp only[eX,oSI,B4]at hx;obtain⟨rfl,rfl⟩:=hx;exact hK r env H (Sub.refl r) sr
 | cons o ops ih =>
   intro r e h L env H L' e' h' K hok sr hl hx hK;simp only[xV,O8,A3]at hok;simp only[eX]at hx;simp only[RD,opD];split at hx
   ·rename_i hg
    rw[aEa sr hg];simp only[optW_some,aCE,AAe];split at hx
    ·rename_i hlog
     simp only[H6]at hx;obtain⟨⟨e1,h1⟩,hx1,hx2⟩:=hx;split at hx2
     ·rename_i hpost
      have next:∀ r' env' H' L2,Sub r r'→SR D Y r' e1 h1 env' H'→LogR r' h1 (aKN o.ix o.op e L) L2→RD B P ops K env' H' L2:=fun r' env' H' L2 hs sr' hl' =>
       ih r' e1 h1 _ env' H' L2 e' h' K hok.2 sr' hl' hx2 fun r2 env2 H2 hs2 sr2=>hK r2 env2 H2 (hs.trans hs2) sr2
      revert hx1 hlog hpost next;generalize o.op=op at hok ⊢;intro hlog hx1 hpost next;have hok:=hok.1;by_cases hq:op.isQ=true
      ·rw[uK (fun n p x l e=>by subst e;simp[DOp.isQ]at hq) (fun f xs l e=>by subst e;simp[DOp.isQ]at hq)]
       refine wU sr hq hok hx1 fun r' env' H' hs sr'=>next r' env' H' _ hs sr' ?_;have hx':(match aD op e (aG h)with
        | some (.val v)=>some (aW e o.dst v,h)
        | some (.new own x f)=>some (aW e o.dst (f h.length),qU h own (iP op e h) x)
        | none=>none)=some (e1,h1):=by
        rw[←hx1];cases op<;>first|rfl|(simp[DOp.isQ]at hq)
       split at hx'
       ·rename_i v hv
        simp only[oSI,B4]at hx';obtain⟨_,rfl⟩:=hx';exact(aJz sr hok hl hv).mono hs fun _ _ h=>h
       ·rename_i own x f hv
        simp only[oSI,B4]at hx';obtain⟨_,rfl⟩:=hx';refine(aJz sr hok hl hv).mono hs fun q hq' hlive=>?_;unfold qU;rw[cS];cases own with
        | none =>
          obtain⟨x,hx⟩:=C5.1 hlive;simp only[pZ hx,AAe,hlive]
        | some b0 =>
          obtain⟨x,hx⟩:=C5.1 hlive;simp only[C9,pZ hx,AAe];rw[fQ];split
          ·rename_i hc
           exfalso;cases op with
           | app s n x y =>
             simp only[aD,pG]at hv;split at hv;·simp at hv
             ·split at hv
              ·split at hv
               ·split at hv<;>simp at hv
               ·simp at hv
              ·rename_i b' len hbx
               split at hv
               ·split at hv
                ·simp only[oSI,Eff.new.injEq]at hv
                 obtain⟨h1,_⟩:=hv;subst h1;simp only[sN,C7]at hlog;have:=hlog q hq';rw[hbx]at this;simp[fB,hc.1]at this
                ·simp at hv
               ·simp at hv
              ·rename_i b' s' len hbx
               split at hv
               ·split at hv
                ·simp only[oSI,Eff.new.injEq]at hv
                 obtain⟨h1,_⟩:=hv;subst h1;simp only[sN,C7]at hlog;have:=hlog q hq';rw[hbx]at this;simp[fB,hc.1]at this
                ·simp at hv
               ·simp at hv
              ·simp at hv
           | _ =>
             simp only[aD]at hv
             first
              | (simp at hv;done)
              | ((repeat' split at hv)<;>simp at hv)
          ·exact hlive
       ·simp at hx'
      ·cases op with
       | store n p x l =>
         simp only[iH,A3]at hok;simp only[dG,A0]at hx1;obtain⟨h2,hs,heq⟩:=hx1;simp only[B4]at heq;obtain⟨rfl,rfl⟩:=heq;obtain⟨H',k1,k2,b0,x0,k3,k4⟩:=aDz sr.sh (aL sr.re hok.1) (aL sr.re hok.2) hs;refine⟨fun j hj c hc hbl=>?_,?_⟩
         ·obtain⟨b,m1,m2⟩:=hl.2 j c hc
          simp only[sN,C7]at hlog;have h3:=hlog (j,b) m1;simp only[hj,List.contains_iff_mem,M4,M9,bne_iff_ne,ne_eq]at h3;have h3:fB (aK e p)≠some b:=by
           rcases h3 with h3|h3;·simp[hj]at h3
           ·exact h3
          have hp:=aL sr.re hok.1;cases hv:aK e p<;>rw[hv]at k3 hp h3<;>simp only[fB,oSI,reduceCtorEq]at k3
          all_goals
           subst k3
           first
            | obtain⟨c',e1,e2⟩:=kX hp
            | obtain⟨c',e1,e2⟩:=xO hp
            | obtain⟨c',e1,e2⟩:=aGn hp
            | obtain⟨c',e1,e2⟩:=aMP hp
            | obtain⟨c',e1,e2⟩:=rn_ch hp
           rw[e1]at hbl;simp only[fB,oSI]at hbl h3;subst hbl;obtain⟨y,hy⟩:=C5.1 (hl.1 _ m1);exact h3 (by rw[sr.sh.inj _ _ c' _ _ k4 hy e2 m2])
         ·simp only[k1,optW_some]
          refine next r _ _ L' (Sub.refl r) (sr.put (Sub.refl r) k2 (.any _) o.dst) (hl.mono (Sub.refl r) fun q hq hlive=>?_);unfold nX at hs;split at hs
          ·split at hs
           ·split at hs
            ·simp only[oSI]at hs
             subst hs;rw[fQ];split;·rfl
             ·exact hlive
            ·simp at hs
           ·simp at hs
          ·simp at hs
       | copy s x y =>
         rw[uK (by simp) (by simp)];refine iW hf hy sr hok hx1 fun r' env' H' hs sr'=>next r' env' H' L' hs sr' (hl.mono hs fun q hq hlive=>?_);simp only[dG,A0]at hx1;obtain⟨⟨n,h2⟩,hc,heq⟩:=hx1;simp only[B4]at heq;obtain⟨_,rfl⟩:=heq;unfold aAX at hc;split at hc
         ·split at hc
          ·split at hc
           ·simp only[oSI,B4]at hc
            obtain⟨_,rfl⟩:=hc;rw[fQ];split;·rfl
            ·exact hlive
           ·simp at hc
          ·simp at hc
         ·simp at hc
       | mapup q m k x =>
         rw[uK (by simp) (by simp)];refine iW hf hy sr hok hx1 fun r' env' H' hs sr'=>next r' env' H' L' hs sr' (hl.mono hs fun q hq hlive=>?_);simp only[dG,A0]at hx1;obtain⟨h2,hc,heq⟩:=hx1;simp only[B4]at heq;obtain⟨_,rfl⟩:=heq;unfold rF at hc;split at hc
         ·split at hc
          ·simp only[A0]at hc
           obtain⟨es,_,rfl⟩:=hc;rw[fQ];split;·rfl
           ·exact hlive
          ·simp at hc
         ·simp at hc
       | nxts x =>
         rw[uK (by simp) (by simp)];refine iW hf hy sr hok hx1 fun r' env' H' hs sr'=>next r' env' H' L' hs sr' (hl.mono hs fun q hq hlive=>?_);simp only[dG,A0]at hx1;obtain⟨⟨v,h2⟩,hc,heq⟩:=hx1;simp only[B4]at heq;obtain⟨_,rfl⟩:=heq;unfold aFP at hc;split at hc
         ·split at hc
          ·split at hc<;>simp only[oSI,B4]at hc<;>obtain⟨_,rfl⟩:=hc
           ·rw[fQ];split
            ·rfl
            ·exact hlive
           ·exact hlive
          ·simp at hc
         ·simp at hc
       | callf q f xs l =>
         cases q with
         | true =>
           rw[uK (by simp) (by simp)];refine iW hf hy sr hok hx1 fun r' env' H' hs sr'=>next r' env' H' L' hs sr' (hl.mono hs fun q hq hlive=>?_);simp only[dG,A0]at hx1;obtain⟨v,_,heq⟩:=hx1;simp only[B4]at heq;obtain⟨_,rfl⟩:=heq;exact hlive
         | false =>
           simp only[iH,A3]at hok;simp only[dG,A0]at hx1;obtain⟨⟨v,h2⟩,hs,heq⟩:=hx1;simp only[B4]at heq;obtain⟨rfl,rfl⟩:=heq;refine CallV.mono (tN (P:=P) (B:=B) hf hy sr.sh (aL sr.re hok.1) (tU sr.re hok.2) hs) ?_;rintro v' H' ⟨⟨r',k1,k2,k3⟩,k4⟩;simp only[aAO,C7,A3,M4,M9]at hpost;refine⟨fun j hj c hc=>?_,next r' _ _ L' k1 (sr.put k1 k2 k3 o.dst) (hl.mono k1 fun q hq _=>(hpost q hq).1)⟩;obtain⟨b,m1,m2⟩:=hl.2 j c hc;obtain⟨p1,p2⟩:=hpost (j,b) m1;simp only at p1 p2;rcases p2 with p2|p2|p2;·simp[hj]at p2
           ·exact k4 b c m2 (hl.1 _ m1) (by simpa using p2)
           ·-- the block lies as it lay
            obtain⟨x1,q1⟩:=C5.1 (hl.1 _ m1);obtain⟨x2,q2⟩:=C5.1 p1;simp only at q1 q2;rw[q1,q2]at p2;obtain⟨c1,y1,g1,g2,g3⟩:=sr.sh.blk b x1 q1;obtain⟨c2,y2,f1,f2,f3⟩:=k2.blk b x2 q2;rw[m2]at g1;simp only[oSI]at g1;subst g1;rw[k1 b c m2]at f1;simp only[oSI]at f1;subst f1;rw[g2,f2];unfold aGd at p2;split at p2
            ·rename_i _ _ _ _ w xs w' ys e1 e2
             simp only[oSI]at e1 e2;subst e1;subst e2;simp only[A3,beq_iff_eq]at p2;cases g3 with
             | cells _ _ _ xs' n1 _ =>
               cases f3 with
               | cells _ _ _ ys' n2 _ =>
                 rw[p2.1,oL k1 _ _ _ _ p2.2 n1 n2]
            ·simp at p2
       | _=>exact absurd rfl hq
     ·simp at hx2
    ·simp at hx
   ·rename_i hg
    rw[aEa sr hg];simp only[optW_some,aCE,C6,AAd];rw[uK (by simp) (by simp)];simp only[hO,aD,aK,optW_some,gH,eM];exact ih r _ h L _ H L' e' h' K hok.2 (sr.put (Sub.refl r) sr.sh (.tup [] [] rfl (by simp)) o.dst) hl hx hK
   ·simp at hx

def Agree(k:Nat)(r r':Nat→Option Nat):Prop:=∀ b c,b<k→r b=some c→r' b=some c
theorem Agree.refl(k:Nat)(r:Nat→Option Nat):Agree k r r:=fun _ _ _ h=>h
theorem Agree.trans{k:Nat}{r r' r'':Nat→Option Nat}(h:Agree k r r')(g:Agree k r' r''):Agree k r r'':=fun b c hb hr=>g b c hb (h b c hb hr)
theorem Sub.agree{r r':Nat→Option Nat}(h:Sub r r')(k:Nat):Agree k r r':=fun b c _ hr=>h b c hr

def qQ(k:Nat)(r:Nat→Option Nat)(acc:List Nat):Nat→Option Nat:=fun i=>if i<k then r i else (acc[i-k]?).bind r

theorem aCj(sh:SH D Y r h H){k:Nat}{acc:List Nat}(hn:acc.Nodup)(hok:∀ b∈acc,(hat h b).isSome=true∧k≤b) :
 Agree k r (qQ k r acc)∧SH D Y (qQ k r acc) (lY k acc h) H∧∀ v v',Rn D Y r v v'→Rn D Y (qQ k r acc) (rnA (keepS k acc) v) v':=by
 have hs:∀ b c d,keepS k acc b=some c→r b=some d→qQ k r acc c=some d:=fun b c d h1 h2=>by
  unfold keepS at h1;split at h1
  ·simp only[oSI]at h1;subst h1
   rename_i hb;simp only[qQ,hb,AAe];exact h2
  ·rw[A0]at h1
   obtain⟨p,h3,rfl⟩:=h1;simp only[qQ,show ¬(p+k<k) by omega,AAd,aG1,aDN h3,E7,h2]
 have hat1:∀ i x,hat (lY k acc h) i=some x→∃ b y,hat h b=some y∧x=rnB (keepS k acc) y∧qQ k r acc i=r b∧((i<k∧b=i)∨(k≤i∧acc[i-k]?=some b)):=fun i x hx=>by
  unfold lY at hx;rw[cS]at hx;simp only[A7,padTake_length]at hx;split at hx
  ·rename_i hi
   rw[yF _ rfl,aAq,if_pos hi]at hx;obtain⟨y,hy,rfl⟩:=oO hx;exact⟨i,y,hy,rfl,by simp only[qQ,hi,AAe],.inl ⟨hi,rfl⟩⟩
  ·rename_i hi
   rw[pA _ _ _ rfl]at hx;split at hx
   ·rename_i b hb
    obtain⟨y,hy,rfl⟩:=oO hx;exact⟨b,y,hy,rfl,by simp only[qQ,hi,AAd,hb,E7],.inr ⟨by omega,hb⟩⟩
   ·simp at hx
 obtain⟨G,hG⟩:=sh.gh;have hat2:∀ i x,hat (lY k acc h) i=some x→∃ y,hat h (if i<k then i else acc.getD (i-k) 0)=some y∧x=rnB (keepS k acc) y∧qQ k r acc i=r (if i<k then i else acc.getD (i-k) 0)∧(k≤i→acc[i-k]?=some (acc.getD (i-k) 0)):=fun i x hx=>by
  obtain⟨b,y,q1,q2,q3,q4⟩:=hat1 i x hx;rcases q4 with ⟨q4,rfl⟩|⟨q4,q5⟩;·rw[if_pos q4];exact⟨y,q1,q2,q3,fun h=>by omega⟩
  ·have e:acc.getD (i-k) 0=b:=by rw[A1,q5];rfl
   rw[if_neg AM,e];exact⟨y,q1,q2,q3,fun _=>q5⟩
 refine⟨fun b c hb hr=>by simp only[qQ,hb,AAe];exact hr,⟨fun i c hi=>?_,fun i j c x y hx hy h1 h2=>?_,fun i x hx=>?_,_,hG.via (fun i=>if i<k then i else acc.getD (i-k) 0) (fun i st p hi=>?_) (fun i x hi=>?_) (fun i j st p x hi hj hne he=>?_) fun i st p n y hi hnn hy=>hy⟩,fun v v' hv=>hv.renum hs⟩
 ·unfold lY
  simp only[B6,A7,padTake_length];by_cases hk:i<k;·omega
  ·simp only[qQ,hk,AAd]at hi
   cases ha:acc[i-k]? with
   | none=>rw[ha]at hi;simp at hi
   | some b=>have:=(A2.1 ha).1;omega
 ·obtain⟨b1,y1,p1,_,p2,p3⟩:=hat1 i x hx
  obtain⟨b2,y2,q1,_,q2,q3⟩:=hat1 j y hy;rw[p2]at h1;rw[q2]at h2;have:=sh.inj b1 b2 c y1 y2 p1 q1 h1 h2;subst this;rcases p3 with ⟨p3,p4⟩|⟨p3,p4⟩
  ·rcases q3 with ⟨q3,q4⟩|⟨q3,q4⟩
   ·omega
   ·have:=(hok _ (A5 q4)).2;omega
  ·rcases q3 with ⟨q3,q4⟩|⟨q3,q4⟩
   ·have:=(hok _ (A5 p4)).2;omega
   ·have:=oU hn p4 q4;omega
 ·obtain⟨b,y,p1,rfl,p2,_⟩:=hat1 i x hx
  obtain⟨c,z,q1,q2,q3⟩:=sh.blk b y p1;exact⟨c,z,by rw[p2];exact q1,q2,q3.renum hs⟩
 ·obtain⟨y,q1,q2,q3,_⟩:=hat2 i _ hi
  have:=pP q2.symm;subst this;exact⟨q1,q3⟩
 ·obtain⟨y,q1,q2,q3,_⟩:=hat2 i _ hi
  exact .inl ⟨y,q1,q3,fun st p e=>pP (q2.symm.trans e)⟩
 ·obtain⟨y,q1,q2,q3,q4⟩:=hat2 i _ hi
  obtain⟨y',m1,m2,m3,m4⟩:=hat2 j _ hj;by_cases hik:i<k
  ·by_cases hjk:j<k
   ·rw[if_pos hik,if_pos hjk]at he;exact hne he
   ·rw[if_pos hik,if_neg hjk]at he
    have:=(hok _ (A5 (m4 AM))).2;omega
  ·by_cases hjk:j<k
   ·rw[if_neg hik,if_pos hjk]at he
    have:=(hok _ (A5 (q4 AM))).2;omega
   ·rw[if_neg hik,if_neg hjk]at he
    have k1:=q4 AM;have k2:=m4 AM;rw[he]at k1;have:=oU hn k1 k2;omega

theorem aCk(k:Nat)(vs:List AV)(h:XH):(dC k vs h).Nodup∧∀ b∈dC k vs h,(hat h b).isSome=true∧k≤b :=
 aDL h k tV _ [] aC3 (by simp)

theorem aCB(f:Nat→AV):∀(L:List Nat)(j:Nat),bH L (L.map f) j=f j∨bH L (L.map f) j = .any
 | [],j=>.inr rfl
 | k::L,j=>by
   simp only[D7,bH];split;·rename_i hj;subst hj;exact .inl rfl
   ·exact aCB f L j

theorem tM(sr:SR D Y r e h env H)(k:Nat)(L:List Nat):∃ r',Agree k r r'∧SR D Y r' (qH k L e h) (nG k L e h) env H:=by
 obtain⟨h1,h2⟩:=aCk k (L.map e) h;obtain⟨k1,k2,k3⟩:=aCj sr.sh h1 h2;refine⟨_,k1,k2,fun j=>?_⟩;unfold qH;rw[xQ,aB4];rcases aCB (rnA (keepS k (dC k (L.map e) h))∘e) L j with h3|h3;·rw[h3];exact k3 _ _ (sr.re j)
 ·rw[h3];exact .any _

theorem qA(b:Nat)(cs:List AV):∀ l:List AV,yV b cs l=l.map (wC b cs)
 | []=>rfl
 | v::l=>by simp[yV,qA b cs l]

theorem nQ{p:AV→AV→Prop}{q:AV→AV→Prop}:∀(xs ys:List AV),xs.length=ys.length→(∀(i:Nat)(x y:AV),xs[i]?=some x→ys[i]?=some y→∃ z,p y z∧q x z) →
 ∃ zs:List AV,ys.length=zs.length∧xs.length=zs.length∧(∀(i:Nat)(y z:AV),ys[i]?=some y→zs[i]?=some z→p y z)∧∀(i:Nat)(x z:AV),xs[i]?=some x→zs[i]?=some z→q x z
 | [],[],_,_=>⟨[],rfl,rfl,by simp,by simp⟩
 | [],_::_,hl,_=>by simp at hl
 | _::_,[],hl,_=>by simp at hl
 | x::xs,y::ys,hl,h=>by
   obtain⟨z,h1,h2⟩:=h 0 x y rfl rfl;obtain⟨zs,k1,k2,k3,k4⟩:=nQ xs ys (by simpa using hl) fun i x y hx hy=>h (i+1) x y (by simpa using hx) (by simpa using hy);refine⟨z::zs,by simp[k1],by simp[k2],fun i y' z' hy hz=>?_,fun i x' z' hx hz=>?_⟩
   ·cases i with
    | zero=>simp at hy hz;subst hy hz;exact h1
    | succ i=>exact k3 i y' z' (by simpa using hy) (by simpa using hz)
   ·cases i with
    | zero=>simp at hx hz;subst hx hz;exact h2
    | succ i=>exact k4 i x' z' (by simpa using hx) (by simpa using hz)

theorem wG{cs:List AV}{s:Nat}:∀{n o:Nat},o+n*s≤cs.length→(bU cs o s n).length=n∧(∀ row∈bU cs o s n,row.length=s∧∀ c∈row,c∈cs) ∧
 ∀(i:Nat)(row:List AV)(j:Nat)(c:AV),(bU cs o s n)[i]?=some row→row[j]?=some c→cs[o+i*s+j]?=some c
 | 0,o,_=>⟨rfl,by simp[bU],by simp[bU]⟩
 | n+1,o,hl=>by
   rw[aA6,aI8]at hl;obtain⟨h1,h2,h3⟩:=wG (cs:=cs) (s:=s) (n:=n) (o:=o+s) AM;refine⟨by simp[bU,h1],fun row hrow=>?_,fun i row j c hi hj=>?_⟩
   ·simp only[bU,B3]at hrow
    rcases hrow with rfl|hrow;·exact⟨by simp;omega,fun c hc=>O3 (I1 hc)⟩
    ·exact h2 row hrow
   ·cases i with
    | zero =>
      simp only[bU,D0,oSI]at hi;subst hi;rw[G9]at hj;split at hj;·rw[G8]at hj;simpa using hj
      ·simp at hj
    | succ i =>
      simp only[bU,E6]at hi;have:=h3 i row j c hi hj;rw[aA6,aI8,show o+(i*s+s)+j=o+s+i*s+j by omega];exact this

theorem Rn.fz{b c:Nat}{cs:List AV}(hr:r b=some c)(hg:∀ x∈cs,Gd x){v v':AV}(h:Rn D Y r v v'):∃ v'',Fz c cs v' v''∧Rn D Y r (wC b cs v) v'':=by
 induction h with
 | any v=>exact⟨v,.same v,.any v⟩
 | int k n=>exact⟨_,.same _,.int k n⟩
 | bool b=>exact⟨_,.same _,.bool b⟩
 | str t=>exact⟨_,.same _,.str t⟩
 | agg xs ys hl _ ih =>
   obtain⟨zs,k1,k2,k3,k4⟩:=nQ xs ys hl ih;refine⟨.agg zs,.agg _ _ k1 k3,?_⟩;simp only[wC,qA];refine .agg _ _ (by simpa using k2) fun i x z hx hz=>?_;rw[A6,A0]at hx;obtain⟨x0,hx0,rfl⟩:=hx;exact k4 i x0 z hx0 hz
 | tup xs ys hl _ ih =>
   obtain⟨zs,k1,k2,k3,k4⟩:=nQ xs ys hl ih;refine⟨.tup zs,.tup _ _ k1 k3,?_⟩;simp only[wC,qA];refine .tup _ _ (by simpa using k2) fun i x z hx hz=>?_;rw[A6,A0]at hx;obtain⟨x0,hx0,rfl⟩:=hx;exact k4 i x0 z hx0 hz
 | fs rows h=>exact⟨_,.same _,.fs rows h⟩
 | fp rows i o h=>exact⟨_,.same _,.fp rows i o h⟩
 | sl b0 c0 o s n h0 =>
   simp only[wC];split
   ·rename_i hc
    obtain⟨rfl,hle⟩:=hc;rw[hr]at h0;simp only[oSI]at h0;subst h0;obtain⟨m1,m2,m3⟩:=wG hle;exact⟨_,.sl o s n (bU cs o s n) m1 (fun row hrow=>(m2 row hrow).1) m3,.fs _ fun row hrow c hc=>hg c ((m2 row hrow).2 c hc)⟩
   ·exact⟨_,.same _,.sl b0 c0 o s n h0⟩
 | pt b0 c0 o h0=>exact⟨_,.same _,.pt b0 c0 o h0⟩
 | mp b0 c0 h0=>exact⟨_,.same _,.mp b0 c0 h0⟩
 | sb b0 c0 n0 h0=>exact⟨_,.same _,.sb b0 c0 n0 h0⟩
 | bp b0 c0 h0=>exact⟨_,.same _,.bp b0 c0 h0⟩
 | nilsl=>exact⟨_,.same _,.nilsl⟩
 | nilpt=>exact⟨_,.same _,.nilpt⟩
 | nilmap=>exact⟨_,.same _,.nilmap⟩
 | nilfn=>exact⟨_,.same _,.nilfn⟩
 | nilifc=>exact⟨_,.same _,.nilifc⟩
 | fn f xs ys us vs hf hl1 _ hl2 _ ih1 ih2 =>
   obtain⟨zs,k1,k2,k3,k4⟩:=nQ xs ys hl1 ih1;obtain⟨ws,j1,j2,j3,j4⟩:=nQ us vs hl2 ih2;refine⟨.fn f zs ws,.fn f _ _ _ _ k1 k3 j1 j3,?_⟩;have e1:wC b cs (.fn f xs us) = .fn f (yV b cs xs) (yV b cs us):=by
    cases f<;>first|rfl|exact absurd rfl (hf _)
   rw[e1,qA,qA];refine .fn f _ _ _ _ hf (by simpa using k2) (fun i x z hx hz=>?_) (by simpa using j2) (fun i x z hx hz=>?_)
   ·rw[A6,A0]at hx
    obtain⟨x0,hx0,rfl⟩:=hx;exact k4 i x0 z hx0 hz
   ·rw[A6,A0]at hx
    obtain⟨x0,hx0,rfl⟩:=hx;exact j4 i x0 z hx0 hz
 | yield l c0 h0=>exact⟨_,.same _,.yield l c0 h0⟩
 | ifc t x y h _=>exact⟨_,.same _,.ifc t x y h⟩

theorem RnB.fz{b c d:Nat}{cs:List AV}(hr:r b=some c)(hg:∀ x∈cs,Gd x){x:XB}{y:ABlk}(h:RnB D Y r d x y):∃ z,FzB c cs y z∧RnB D Y r d (fzB b cs x) z:=by
 cases h with
 | cells g w xs ys h hgr =>
   cases g with
   | true=>exact⟨_,.same _,.cells d true w xs ys h hgr⟩
   | false =>
     obtain⟨zs,k1,k2,k3,k4⟩:=nQ xs ys h.1 fun i x y hx hy=>(h.2 i x y hx hy).fz hr hg;refine⟨.cells w zs,.cells w _ _ k1 k3,?_⟩;simp only[fzB];refine .cells d _ w _ _ ⟨by rw[qA];simpa using k2,fun i x z hx hz=>?_⟩ (fun h=>h);rw[qA,A6,A0]at hx;obtain⟨x0,hx0,rfl⟩:=hx;exact k4 i x0 z hx0 hz
 | map g w xs ys h hgr =>
   cases g with
   | true=>exact⟨_,.same _,.map d true w xs ys h hgr⟩
   | false =>
     have hk:∀(i:Nat)(x y:AV),(xs.map (·.1))[i]?=some x→(ys.map (·.1))[i]?=some y→Rn D Y r x y:=fun i x y hx hy=>by
      rw[A6,A0]at hx hy;obtain⟨p,hp,rfl⟩:=hx;obtain⟨q,hq,rfl⟩:=hy;exact(h.2 i p q hp hq).1
     have hv:∀(i:Nat)(x y:AV),(xs.map (·.2))[i]?=some x→(ys.map (·.2))[i]?=some y→Rn D Y r x y:=fun i x y hx hy=>by
      rw[A6,A0]at hx hy;obtain⟨p,hp,rfl⟩:=hx;obtain⟨q,hq,rfl⟩:=hy;exact(h.2 i p q hp hq).2
     obtain⟨zs,k1,k2,k3,k4⟩:=nQ (xs.map (·.1)) (ys.map (·.1)) (by simpa using h.1) fun i x y hx hy=>(hk i x y hx hy).fz hr hg;obtain⟨ws,j1,j2,j3,j4⟩:=nQ (xs.map (·.2)) (ys.map (·.2)) (by simpa using h.1) fun i x y hx hy=>(hv i x y hx hy).fz hr hg;simp only[A7]at k1 k2 j1 j2;have hz:∀(i:Nat)(p:AV×AV),(zs.zip ws)[i]?=some p→zs[i]?=some p.1∧ws[i]?=some p.2:=fun i p hp=>by
      rw[List.getElem?_zip_eq_some]at hp;exact hp
     refine⟨.map w (zs.zip ws),.map w _ _ (by simp;omega) fun i y p hy hp=>?_,?_⟩
     ·obtain⟨h1,h2⟩:=hz i p hp
      exact⟨k3 i y.1 p.1 (by simp[hy]) h1,j3 i y.2 p.2 (by simp[hy]) h2⟩
     ·simp only[fzB]
      refine .map d false w _ _ ⟨by simp;omega,fun i x p hx hp=>?_⟩ (by simp);rw[A6,A0]at hx;obtain⟨x0,hx0,rfl⟩:=hx;obtain⟨h1,h2⟩:=hz i p hp;exact⟨k4 i x0.1 p.1 (by simp[hx0]) h1,j4 i x0.2 p.2 (by simp[hx0]) h2⟩
 | obj g w o=>cases g<;>exact⟨_,.same _,.obj d _ w o⟩
 | loop i vs s o d' L ps a b' hY h hD hs hv=>exact⟨_,.same _,.loop d i vs s o d' L ps a b' hY h hD hs hv⟩
 | gh st p=>exact⟨_,.same _,.gh d st p y⟩
theorem aIm{b:Nat}{cs:List AV}{x:XB}{st:dR}{p:Hp→Nat→Prop}(h:fzB b cs x = .gh st p):x = .gh st p:=by
 unfold fzB at h;split at h<;>first|exact h|cases h

theorem aKX(sr:SR D Y r e h env H)(b:Nat):∃ env' H',Shift env H env' H'∧SR D Y r (fz1 b e h).1 (fz1 b e h).2 env' H':=by
 unfold fz1;split
 ·rename_i w cs hb
  obtain⟨c,y,hr,h1,h2⟩:=sr.sh.blk b _ hb;cases h2 with
  | cells _ _ _ ys h3 h4 =>
    obtain⟨rfl,hg⟩:=h3.same (h4 rfl);obtain⟨env',henv⟩:=Classical.skolem.1 fun j=>(sr.re j).fz hr hg;obtain⟨G,hG⟩:=sr.sh.gh;have gne:∀ a st p n,hat h a=some (.gh st p)→G a n→n≠c:=fun a st p n ha hn e=>by
     subst e;exact(hG.2 a b st p _ n ha hb (fun e=>by subst e;rw[hb]at ha;cases ha) hn).1 hr
    have hH:∀ d,∃ o:Option ABlk,(d=c→o=none)∧(d≠c→(o=none∨∃ x y,H d=some x∧o=some y∧FzB c ys x y))∧(∀ b' x,hat h b'=some x→b'≠b→r b'=some d→∃ y,o=some y∧RnB D Y r d (fzB b ys x) y) ∧
     ∀ a st p,hat h a=some (.gh st p)→G a d→o=H d:=by
     intro d;by_cases hd:d=c
     ·refine⟨none,fun _=>rfl,fun h=>absurd hd h,fun b' x hx hne hr'=>?_,fun a st p ha hn=>absurd hd (gne a st p d ha hn)⟩
      subst hd;exact absurd (sr.sh.inj b' b d x _ hx hb hr' hr) hne
     by_cases hpv:∃ a st p,hat h a=some (.gh st p)∧G a d
     ·obtain⟨a,st,p,ha,hn⟩:=hpv
      obtain⟨_,_,k1⟩:=hG.1 a st p ha;obtain⟨x0,k2⟩:=k1.live hn;refine⟨H d,fun h=>absurd h hd,fun _=>.inr ⟨x0,x0,k2,k2,.same _⟩,fun b' x hx hne hr'=>?_,fun _ _ _ _ _=>rfl⟩;by_cases hab:a=b'
      ·subst hab
       rw[ha]at hx;cases hx;exact⟨x0,k2,.gh d st p x0⟩
      ·exact absurd hr' (hG.2 a b' st p x d ha hx hab hn).1
     ·have hpn:∀ a st p,hat h a=some (.gh st p)→¬G a d:=fun a st p ha hn=>hpv ⟨a,st,p,ha,hn⟩
      by_cases hex:∃ b' x,hat h b'=some x∧r b'=some d
      ·obtain⟨b1,x1,k1,k2⟩:=hex
       obtain⟨d',y1,k3,k4,k5⟩:=sr.sh.blk b1 x1 k1;rw[k2]at k3;simp only[oSI]at k3;subst k3;obtain⟨z,k6,k7⟩:=k5.fz hr hg;refine⟨some z,fun h=>absurd h hd,fun _=>.inr ⟨y1,z,k4,rfl,k6⟩,fun b' x hx hne hr'=>?_,fun a st p ha hn=>absurd hn (hpn a st p ha)⟩;have:=sr.sh.inj b' b1 d x x1 hx k1 hr' k2;subst this;rw[hx]at k1;simp only[oSI]at k1;subst k1;exact⟨z,rfl,k7⟩
      ·exact⟨none,fun _=>rfl,fun _=>.inl rfl,fun b' x hx hne hr'=>absurd ⟨b',x,hx,hr'⟩ hex,fun a st p ha hn=>absurd hn (hpn a st p ha)⟩
    obtain⟨H',hH'⟩:=Classical.skolem.1 hH;refine⟨env',H',Shift.freeze (b:=c) (wr:=w) (cs:=ys) h1 (fun j=>(henv j).1) ((hH' c).1 rfl) (fun d hd=>(hH' d).2.1 hd),⟨⟨fun b c hb=>by simpa using sr.sh.dom b c hb,fun b1 b2 c' x1 x2 g1 g2 k1 k2=>?_,fun b' x hx=>?_,_,hG.via id (fun b' st p hb'=>?_) (fun b' x hx=>?_) (fun _ _ _ _ _ _ _ hne=>hne) fun b' st p n y' hb' hnn hy=>?_⟩,fun j=>(henv j).2⟩⟩
    all_goals
     have live:∀ b' x,hat ((h.map (fzO b ys)).set b none) b'=some x→b'≠b∧∃ x0,hat h b'=some x0∧x=fzB b ys x0:=fun b' x hx=>by
      rw[fQ]at hx;split at hx;·simp at hx
      ·rename_i hc
       rw[yF _ rfl]at hx;cases hx0:hat h b' with
       | none=>rw[hx0]at hx;simp[fzO]at hx
       | some x0 =>
         rw[hx0]at hx;simp only[fzO,oSI]at hx;exact⟨fun e=>hc ⟨e,by simpa using pZ hb⟩,x0,rfl,hx.symm⟩
    ·obtain⟨_,y1,m1,_⟩:=live b1 x1 g1
     obtain⟨_,y2,m2,_⟩:=live b2 x2 g2;exact sr.sh.inj b1 b2 c' y1 y2 m1 m2 k1 k2
    ·obtain⟨hne,x0,m1,rfl⟩:=live b' x hx
     obtain⟨c',y',m2,_,_⟩:=sr.sh.blk b' x0 m1;obtain⟨z,m3,m4⟩:=(hH' c').2.2.1 b' x0 m1 hne m2;exact⟨c',z,m2,m3,m4⟩
    ·obtain⟨hne,x0,m1,m2⟩:=live b' _ hb'
     rw[aIm m2.symm]at m1;exact⟨m1,rfl⟩
    ·obtain⟨hne,x0,m1,m2⟩:=live b' _ hx
     exact .inl ⟨x0,m1,rfl,fun st p e=>aIm (m2.symm.trans e)⟩
    ·obtain⟨hne,x0,m1,m2⟩:=live b' _ hb'
     rw[aIm m2.symm]at m1;rw[(hH' n).2.2.2 b' st p m1 hnn];exact hy
 ·exact⟨env,H,Shift.le (Le.refl _),sr⟩

theorem wA:∀(ns:List Nat)(e:aH)(h:XH)(env:aH)(H:Hp),SR D Y r e h env H→∃ env' H',Shift env H env' H'∧SR D Y r (zU ns e h).1 (zU ns e h).2 env' H'
 | [],e,h,env,H,sr=>⟨env,H,Shift.le (Le.refl _),sr⟩
 | b::ns,e,h,env,H,sr=>by
   obtain⟨env1,H1,k1,k2⟩:=aKX sr b;obtain⟨env2,H2,k3,k4⟩:=wA ns _ _ env1 H1 k2;exact⟨env2,H2,k1.trans k3,k4⟩
theorem jQ:∀ l:List AV,lO l=l.map qP
 | []=>rfl
 | v::l=>by simp[lO,jQ l]

theorem Rv.nz{F:Nat→Prop}{w:World}{a:AV}{v:Value}(h:Rv F w a v):Rv F w (qP a) v:=by
 induction h with
 | agg cs vs hl ho _ ih =>
   simp only[qP,jQ];refine .agg _ _ (by simpa using hl) ho fun i c v hc hv=>?_;rw[A6,A0]at hc;obtain⟨c0,hc0,rfl⟩:=hc;exact ih i c0 v hc0 hv
 | tup cs vs hl _ ih =>
   simp only[qP,jQ];refine .tup _ _ (by simpa using hl) fun i c v hc hv=>?_;rw[A6,A0]at hc;obtain⟨c0,hc0,rfl⟩:=hc;exact ih i c0 v hc0 hv
 | nilsl=>exact .fs0 none 0
 | int k n=>exact .int k n
 | bool b=>exact .bool b
 | str s=>exact .str s
 | fs0 a cap=>exact .fs0 a cap
 | fs rows blk off s cap g h1 h2 h3 h4 h5 h6=>exact .fs rows blk off s cap g h1 h2 h3 h4 h5 h6
 | fp rows i o blk off s g h1 h2 h3 h4 h5=>exact .fp rows i o blk off s g h1 h2 h3 h4 h5
 | sl b off s len cap c e fr h1 h2 h3=>exact .sl b off s len cap c e fr h1 h2 h3
 | pt b off=>exact .pt b off
 | mp b=>exact .mp b
 | sb b n cap c fr hb h1 h2=>exact .sb b n cap c fr hb h1 h2
 | bp b c fr hb h1=>exact .bp b c fr hb h1
 | nilpt=>exact .nilpt
 | nilmap=>exact .nilmap
 | fn f first cap fv cv h1 h2 h3 h4=>exact .fn f first cap fv cv h1 h2 h3 h4
 | nilfn=>exact .nilfn
 | ifc t a v h=>exact .ifc t a v h
 | nilifc=>exact .nilifc
 | any v=>exact .any v

theorem Args.nz{F:Nat→Prop}{w:World}{as:List AV}{vs:Array Value}(h:Args F w as vs):Args F w (lO as) vs:=by
 rw[jQ];refine⟨by simpa using h.1,fun i c v hc hv=>?_⟩;rw[A6,A0]at hc;obtain⟨c0,hc0,rfl⟩:=hc;exact(h.2 i c0 v hc0 hv).nz
theorem FnW.nz{f:FuncId}{as:List AV}{Q:AV→Hp→Prop}(h:FnW B P f (lO as) H Q):FnW B P f as H Q:=⟨h.1,fun F w vs h1 h2 h3=>h.2 F w vs h1 h2 h3.nz⟩

theorem Rn.nz{v v':AV}(h:Rn D Y r v v'):Rn D Y r (qP v) (qP v'):=by
 have ls:∀{xs ys:List AV},xs.length=ys.length→(∀(i:Nat)(x y:AV),xs[i]?=some x→ys[i]?=some y→Rn D Y r (qP x) (qP y))→RnL D Y r (lO xs) (lO ys):=fun {xs ys} hl h=>by
  rw[jQ,jQ];refine⟨by simpa using hl,fun i x y hx hy=>?_⟩;rw[A6,A0]at hx hy;obtain⟨x0,hx0,rfl⟩:=hx;obtain⟨y0,hy0,rfl⟩:=hy;exact h i x0 y0 hx0 hy0
 induction h with
 | any v=>exact .any _
 | agg xs ys hl _ ih=>exact .agg _ _ (ls hl ih).1 (ls hl ih).2
 | tup xs ys hl _ ih=>exact .tup _ _ (ls hl ih).1 (ls hl ih).2
 | nilsl=>exact .fs [] (by simp)
 | int k n=>exact .int k n
 | bool b=>exact .bool b
 | str s=>exact .str s
 | fs rows h=>exact .fs rows h
 | fp rows i o h=>exact .fp rows i o h
 | sl b c o s n h=>exact .sl b c o s n h
 | pt b c o h=>exact .pt b c o h
 | mp b c h=>exact .mp b c h
 | sb b c n h=>exact .sb b c n h
 | bp b c h=>exact .bp b c h
 | nilpt=>exact .nilpt
 | nilmap=>exact .nilmap
 | nilfn=>exact .nilfn
 | nilifc=>exact .nilifc
 | fn f xs ys us vs h1 h2 h3 h4 h5=>exact .fn f xs ys us vs h1 h2 h3 h4 h5
 | yield l c h=>exact .yield l c h
 | ifc t x y h=>exact .ifc t x y h
theorem RnL.nz{xs ys:List AV}(h:RnL D Y r xs ys):RnL D Y r (lO xs) (lO ys):=by
 rw[jQ,jQ];refine⟨by simpa using h.1,fun i x y hx hy=>?_⟩;rw[A6,A0]at hx hy;obtain⟨x0,hx0,rfl⟩:=hx;obtain⟨y0,hy0,rfl⟩:=hy;exact(h.2 i x0 y0 hx0 hy0).nz

theorem aHT{F:Nat→Prop}{w:World}:∀(fz:List (Nat×Bool))(env:aH)(j:Nat)(v:Value),Rv F w (env j) v→Rv F w (nzE fz env j) v
 | [],env,j,v,h=>h
 | (k,true)::fz,env,j,v,h=>aHT fz env j v h
 | (k,false)::fz,env,j,v,h=>by
   have ih:=aHT fz env j v h;show Rv F w (if j=k then qP (nzE fz env j) else nzE fz env j) v;split;·exact ih.nz
   ·exact ih
theorem aHU:∀(fz:List (Nat×Bool))(e env:aH)(j:Nat),Rn D Y r (e j) (env j)→Rn D Y r (nzE fz e j) (nzE fz env j)
 | [],e,env,j,h=>h
 | (k,true)::fz,e,env,j,h=>aHU fz e env j h
 | (k,false)::fz,e,env,j,h=>by
   have ih:=aHU fz e env j h;show Rn D Y r (if j=k then qP (nzE fz e j) else nzE fz e j) (if j=k then qP (nzE fz env j) else nzE fz env j);split;·exact ih.nz
   ·exact ih
theorem aIl(sr:SR D Y r e h env H)(fz:List (Nat×Bool)):∃ env' H',Shift env H env' H'∧SR D Y r (aUd fz e h).1 (aUd fz e h).2 env' H':=by
 obtain⟨env1,H1,k1,k2⟩:=wA (fz.flatMap (aOh e h)) e h env H sr;refine⟨nzE fz env1,H1,k1.trans ?_,⟨k2.sh,fun j=>aHU fz _ _ j (k2.re j)⟩⟩;intro F w a st re;exact⟨F,Ext.refl _ _ _,st,fun j=>aHT fz env1 j _ (re.rv j),re.gi⟩

theorem Shift.trim{c:Nat}{w0:Bool}{cs:List AV}(hc:H c=some (.cells w0 cs))(m:Nat):Shift env H env (hset H c (.cells w0 (cs.take m))):=by
 intro F w a st re;have hwr:∀ b,qV (hset H c (.cells w0 (cs.take m))) b=qV H b:=fun b=>by
  by_cases hb:b=c;·subst hb;simp[qV,hc,ABlk.wr]
  ·simp only[qV,aJ _ _ hb]
 refine⟨F,⟨fun _ h=>h,fun _ h=>.inl h,fun b hb=>.inl ?_,fun b hb=>.inl (by rw[←hwr];exact hb),A8 _,fun _ _ _=>rfl,fun _ c e fr h=>⟨c,e,fr,h,rfl⟩,SameIO.refl w⟩,⟨st.lt,fun b x hb=>?_,fun b x hb=>?_⟩,re⟩
 ·by_cases h1:b=c
  ·subst h1;simp[hc]
  ·rwa [aJ _ _ h1]at hb
 ·by_cases h1:b=c
  ·subst h1;exact st.dis b _ hc
  ·rw[aJ _ _ h1]at hb;exact st.dis b x hb
 ·by_cases h1:b=c
  ·subst h1
   simp only[hset_same,oSI]at hb;subst hb;obtain⟨o,k1,k2⟩:=st.blk b _ hc;refine⟨o,k1,?_⟩;cases k2 with
   | cells p cs c e fr hfr hl ho h =>
     refine .cells _ _ _ _ _ hfr (by simp;omega) ho fun i a v ha hv=>h i a v ?_ hv;rw[G9]at ha;split at ha;·exact ha
     ·simp at ha
  ·rw[aJ _ _ h1]at hb;exact st.blk b x hb

theorem aFZ(sr:SR D Y r e h env H)(v:AV):∃ H',Shift env H env H'∧SR D Y r e (aIU v h) env H':=by
 unfold aIU;split
 ·rename_i b s n
  split
  ·rename_i g w cs hb
   obtain⟨c,y,hr,h1,h2⟩:=sr.sh.blk b _ hb;cases h2 with
   | cells _ _ _ ys h3 h4 =>
     refine⟨_,Shift.trim h1 (n*s),sr.sh.turn hb hr (.cells c g w _ _ (h3.take _) fun hg=>eW fun x hx=>fR (h4 hg) x (I1 hx)),sr.re⟩
  ·exact⟨H,Shift.le (Le.refl _),sr⟩
 ·exact⟨H,Shift.le (Le.refl _),sr⟩
theorem aAf(sr:SR D Y r e h env H):∀ fz:List (Nat×Bool),∃ H',Shift env H env H'∧SR D Y r e (uU fz e h) env H'
 | []=>⟨H,Shift.le (Le.refl _),sr⟩
 | (k,b)::fz=>by
   obtain⟨H1,k1,k2⟩:=aAf sr fz;simp only[uU];split
   ·obtain⟨H2,k3,k4⟩:=aFZ k2 (e (k-1000000))
    exact⟨H2,k1.trans k3,k4⟩
   ·exact⟨H1,k1,k2⟩
theorem zT(sr:SR D Y r e h env H)(fz:List (Nat×Bool)):∃ env' H',Shift env H env' H'∧SR D Y r (fzX fz e h).1 (fzX fz e h).2 env' H':=by
 obtain⟨H1,k1,k2⟩:=aAf sr fz;obtain⟨env2,H2,k3,k4⟩:=aIl k2 fz;exact⟨env2,H2,k1.trans k3,k4⟩

def aYo(P:Program)(B:Base)(D:Nat→Option XFn)(l:Nat)(i:YI):Prop :=
 (∃ q,i.oB = .loop q)∧∀(d:XFn)(L ps:List Nat)(a b:XCode),D i.K=some d→dZ d.body i.site=some (L,ps,a,b)→∀(B1:Base),B.Up B1.F B1.w→∀(as:List AV)(H':Hp)(Q':AV→Hp→Prop),
  H' l=some (.obj true i.oR)→as.length=ps.length →
  WD B1 P (some l) d.N a.erase (fun e env2 H2=>e = .normal∧H2 l=some (.obj true i.oR)∧WD B1 P (some l) d.N b.erase (aMO l i.oR i.oB i.oD Q') env2 (hset H2 l (.obj true i.oB))) (pR i.env ps as) H'→YW B1 P l as H' Q'
def YOk(P:Program)(B:Base)(D:Nat→Option XFn)(Y:Nat→Option YI):Prop:=∀ l i,Y l=some i→aYo P B D l i
theorem YOk.up{B':Base}(h:YOk P B D Y)(hB:B.Up B'.F B'.w):YOk P B' D Y:=fun l i hY =>
 ⟨(h l i hY).1,fun d L ps a b h1 h2 B1 hB1=>(h l i hY).2 d L ps a b h1 h2 B1 (Up.trans hB hB1)⟩

def pJ:XCode→Bool
 | .skip | .exit _ | .ret=>true
 | .reg _ _ ops=>xV ops
 | .seq a b=>pJ a&&pJ b
 | .cond c a b=>zH c&&(pJ a&&pJ b)
 | .block _ a | .loop _ a | .scope a=>pJ a
 | .rng _ _ f _ a b=>zH f&&(pJ a&&pJ b)
def gQ(d:XFn):XCode→Prop
 | .seq a b | .cond _ a b=>gQ d a∧gQ d b
 | .block _ a | .loop _ a | .scope a=>gQ d a
 | .rng s L _ ps a b=>dZ d.body s=some (L,ps,a,b)∧gQ d a∧gQ d b
 | _=>True

def RdOk(Y:Nat→Option YI)(r:Nat→Option Nat)(k:Nat)(rd rr:Option Nat):Prop:=match rd with
 | none=>rr=none
 | some l=>l<k∧∃ c i q,r l=some c∧rr=some c∧Y c=some i∧i.oB = .loop q
theorem RdOk.agree{k:Nat}{rd rr:Option Nat}{r':Nat→Option Nat}(h:RdOk Y r k rd rr)(ha:Agree k r r'):RdOk Y r' k rd rr:=by
 cases rd with
 | none=>exact h
 | some l =>
   obtain⟨h1,c,i,q,h2,h3,h4,h5⟩:=h;exact⟨h1,c,i,q,ha l c h1 h2,h3,h4,h5⟩

theorem SH.loopAt(sh:SH D Y r h H){l:Nat}{st:LSt}(hl:gS h l=some st):∃ c i o,r l=some c∧Y c=some i∧H c=some (.obj true o)∧qS i st o∧∃(vs:List AV)(d:XFn)(L ps:List Nat)(a b:XCode),
 hat h l=some (.loop i.K i.site vs st)∧D i.K=some d∧dZ d.body i.site=some (L,ps,a,b)∧RnL D Y r vs (L.map i.env):=by
 unfold gS at hl;split at hl<;>simp only[oSI,reduceCtorEq]at hl
 rename_i K s vs st' hx;subst hl;obtain⟨c,y,h1,h2,h3⟩:=sh.blk l _ hx;cases h3 with
 | loop i _ _ o d L ps a b hY ho hD hs hv=>exact⟨c,i,o,h1,hY,h2,ho,vs,d,L,ps,a,b,hx,hD,hs,hv⟩

theorem SH.loopTo(sh:SH D Y r h H){l c:Nat}{i:YI}{st st':LSt}(hl:gS h l=some st)(hr:r l=some c)(hY:Y c=some i){o:Obj}(ho:qS i st' o):SH D Y r (loopTo h l st') (hset H c (.obj true o)):=by
 obtain⟨c',i',o',h1,h2,h3,h4,vs,d,L,ps,a,b,h5,h6,h7,h8⟩:=sh.loopAt hl;rw[hr]at h1;simp only[oSI]at h1;subst h1;rw[hY]at h2;simp only[oSI]at h2;subst h2;unfold Go.DL.loopTo;rw[h5];exact sh.turn h5 hr (.loop c i vs st' o d L ps a b hY ho h6 h7 h8)

theorem SH.push{Y':Nat→Option YI}(sh:SH D Y r h H){l:Nat}{x:XB}{y:ABlk}(hl:H l=none)(hY:∀ c,c≠l→Y' c=Y c)(hx:RnB D Y' r l x y)(hng:ghX x=false:=by rfl) :
 Sub r (fun b=>if b=h.length then some l else r b)∧SH D Y' (fun b=>if b=h.length then some l else r b) (h++[some x]) (hset H l y):=by
 have hsub:Sub r (fun b=>if b=h.length then some l else r b):=fun b c hb=>by
  have:=sh.dom b c hb;simp only[show b≠h.length by omega,AAd];exact hb
 have live:∀ b z,hat (h++[some x]) b=some z→(b=h.length∧z=x)∨(b<h.length∧hat h b=some z):=fun b z hz=>by
  rw[cS]at hz;split at hz;·rename_i hlt;exact .inr ⟨hlt,hz⟩
  ·by_cases he:b=h.length
   ·subst he;simp[hat]at hz;exact .inl ⟨rfl,hz.symm⟩
   ·have:b-h.length=(b-h.length-1)+1:=AM
    rw[this]at hz;simp[hat]at hz
 have other:∀ b c z,hat h b=some z→r b=some c→c≠l:=fun b c z hz hr e=>by
  subst e;obtain⟨c',y',h1,h2,_⟩:=sh.blk b z hz;rw[hr]at h1;simp only[oSI]at h1;subst h1;rw[hl]at h2;simp at h2
 obtain⟨G,hG⟩:=sh.gh;have lg:∀ b st p,hat (h++[some x]) b=some (.gh st p)→b<h.length∧hat h b=some (.gh st p):=fun b st p hz=>by
  rcases live b _ hz with ⟨_,e⟩|h1;·rw[←e]at hng;cases hng
  ·exact h1
 have gne:∀ b st p n,hat (h++[some x]) b=some (.gh st p)→G b n→n≠l:=fun b st p n hz hnn e=>by
  obtain⟨k1,k3⟩:=lg b st p hz;subst e;obtain⟨c,_,k4⟩:=hG.1 b st p k3;obtain⟨y1,k5⟩:=k4.live hnn;rw[hl]at k5;cases k5
 refine⟨hsub,fun b c hb=>?_,fun b1 b2 c x1 x2 h1 h2 k1 k2=>?_,fun b z hz=>?_,_,hG.via id (fun b st p hz=>?_) (fun b z hz=>?_) (fun _ _ _ _ _ _ _ hne=>hne) fun b st p n y' hz hnn hy=>?_⟩
 ·simp only[B6,C8,J3]
  split at hb;·omega
  ·have:=sh.dom b c hb;omega
 ·rcases live b1 x1 h1 with ⟨rfl,_⟩|⟨l1,m1⟩
  ·rcases live b2 x2 h2 with ⟨rfl,_⟩|⟨l2,m2⟩
   ·rfl
   ·exfalso
    simp only[AAe,oSI]at k1;simp only[show b2≠h.length by omega,AAd]at k2;exact other b2 c x2 m2 k2 k1.symm
  ·rcases live b2 x2 h2 with ⟨rfl,_⟩|⟨l2,m2⟩
   ·exfalso
    simp only[AAe,oSI]at k2;simp only[show b1≠h.length by omega,AAd]at k1;exact other b1 c x1 m1 k1 k2.symm
   ·simp only[show b1≠h.length by omega,AAd]at k1
    simp only[show b2≠h.length by omega,AAd]at k2;exact sh.inj b1 b2 c x1 x2 m1 m2 k1 k2
 ·rcases live b z hz with ⟨rfl,rfl⟩|⟨l1,m1⟩
  ·exact⟨l,y,by simp,hset_same _ _ _,hx.mono hsub (fun _=>rfl)⟩
  ·obtain⟨c,y',g1,g2,g3⟩:=sh.blk b z m1
   have hne:=other b c z m1 g1;refine⟨c,y',hsub b c g1,?_,g3.mono hsub (fun _=>hY c hne)⟩;rw[aJ _ _ hne];exact g2
 ·obtain⟨k1,k3⟩:=lg b st p hz
  exact⟨k3,by simp only[id,show b≠h.length by omega,AAd]⟩
 ·rcases live b z hz with ⟨rfl,rfl⟩|⟨l1,m1⟩
  ·exact .inr ⟨l,by simp,fun a st p ha hga=>gne a st p l ha hga rfl,fun st p e=>by rw[e]at hng;cases hng⟩
  ·exact .inl ⟨z,m1,by simp only[id,show b≠h.length by omega,AAd],fun st p e=>e⟩
 ·rw[aJ _ _ (gne b st p n hz hnn)];exact hy

theorem nE{run:eP}{runY:fS}{d:XFn}{K:Nat}(hD:D K=some d)(hm:P.follows .mixedOrders=true)(hall:∀(B:Base)(Y:Nat→Option YI),YOk P B D Y→FnS P B D Y run∧YS P B D Y runY)(k n:Nat)(rd rr:Option Nat) :
 ∀(code:XCode)(B:Base)(Y:Nat→Option YI)(r:Nat→Option Nat)(e:aH)(h:XH)(env:aH)(H:Hp)(x:DX)(e':aH)(h':XH)(Q:QC),YOk P B D Y→pJ code=true→gQ d code→RdOk Y r k rd rr→SR D Y r e h env H →
   bC run runY K k n rd code e h=some (x,e',h')→(∀ r' env' H',Agree k r r'→SR D Y r' e' h' env' H'→Q x env' H')→WD B P rr d.N code.erase Q env H:=by
 intro code;induction code with
 | skip =>
   intro B Y r e h env H x e' h' Q hY hok hs hrd sr hx hK;simp only[bC,oSI,B4]at hx;obtain⟨rfl,rfl,rfl⟩:=hx;exact WD.skip (hK r env H (Agree.refl _ _) sr)
 | exit id =>
   intro B Y r e h env H x e' h' Q hY hok hs hrd sr hx hK;simp only[bC,oSI,B4]at hx;obtain⟨rfl,rfl,rfl⟩:=hx;exact WD.exit (hK r env H (Agree.refl _ _) sr)
 | ret =>
   intro B Y r e h env H x e' h' Q hY hok hs hrd sr hx hK;simp only[bC,oSI,B4]at hx;obtain⟨rfl,rfl,rfl⟩:=hx;exact WD.ret (hK r env H (Agree.refl _ _) sr)
 | reg fz draw ops =>
   intro B Y r e h env H x e' h' Q hY hok hs hrd sr hx hK;simp only[pJ]at hok;obtain⟨hf,hy⟩:=hall B Y hY;simp only[bC,A0,B4]at hx;obtain⟨⟨e1,h1⟩,hx,rfl,rfl,rfl⟩:=hx;obtain⟨env1,H1,k1,k2⟩:=zT sr fz;refine WD.shift k1 (WD.reg hm ?_);cases draw with
   | true =>
     simp only[AAe]at hx ⊢;exact aAc hf hy ops r _ _ [] env1 H1 noL e1 h1 _ hok k2 ⟨by simp,fun j c hj=>by simp[noL]at hj⟩ hx fun r' env' H' hs sr'=>hK r' env' H' (hs.agree k) sr'
   | false =>
     simp only[C6,AAd]at hx ⊢;exact jZ hf hy ops r _ _ env1 H1 e1 h1 _ hok k2 hx fun r' env' H' hs sr'=>hK r' env' H' (hs.agree k) sr'
 | seq a b iha ihb =>
   intro B Y r e h env H x e' h' Q hY hok hs hrd sr hx hK;simp only[pJ,A3]at hok;simp only[bC]at hx;refine WD.seq ?_;split at hx
   ·rename_i e1 h1 hx1
    exact iha B Y r e h env H .normal e1 h1 _ hY hok.1 hs.1 hrd sr hx1 fun r' env' H' ha sr' =>
     ihb B Y r' e1 h1 env' H' x e' h' Q hY hok.2 hs.2 (hrd.agree ha) sr' hx fun r2 env2 H2 ha2 sr2=>hK r2 env2 H2 (ha.trans ha2) sr2
   ·rename_i hne
    refine iha B Y r e h env H x e' h' _ hY hok.1 hs.1 hrd sr hx fun r' env' H' ha sr'=>?_;cases x with
    | normal=>exact absurd hx (hne e' h')
    | exit id=>exact hK r' env' H' ha sr'
    | ret=>exact hK r' env' H' ha sr'
 | cond c a b iha ihb =>
   intro B Y r e h env H x e' h' Q hY hok hs hrd sr hx hK;simp only[pJ,A3]at hok;have hc:=aL sr.re (x:=c) hok.1;simp only[bC]at hx;split at hx
   ·rename_i hv
    rw[hv]at hc;exact WD.cond (t:=true) (fE hc) (iha B Y r e h env H x e' h' Q hY hok.2.1 hs.1 hrd sr hx hK)
   ·rename_i hv
    rw[hv]at hc;exact WD.cond (t:=false) (fE hc) (ihb B Y r e h env H x e' h' Q hY hok.2.2 hs.2 hrd sr hx hK)
   ·simp at hx
 | block id a iha =>
   intro B Y r e h env H x e' h' Q hY hok hs hrd sr hx hK;simp only[pJ]at hok;simp only[bC]at hx;refine WD.block ?_;split at hx
   ·rename_i j e1 h1 hx1
    refine iha B Y r e h env H (.exit j) e1 h1 _ hY hok hs hrd sr hx1 fun r' env' H' ha sr'=>?_;simp only[QC.block];split at hx<;>simp only[oSI,B4]at hx<;>obtain⟨rfl,rfl,rfl⟩:=hx
    ·rename_i hj;rw[if_pos hj];exact hK r' env' H' ha sr'
    ·rename_i hj;rw[if_neg hj];exact hK r' env' H' ha sr'
   ·rename_i hne
    refine iha B Y r e h env H x e' h' _ hY hok hs hrd sr hx fun r' env' H' ha sr'=>?_;cases x with
    | exit id=>exact absurd hx (hne id e' h')
    | normal=>exact hK r' env' H' ha sr'
    | ret=>exact hK r' env' H' ha sr'
 | scope a iha =>
   intro B Y r e h env H x e' h' Q hY hok hs hrd sr hx hK;exact WD.scope (iha B Y r e h env H x e' h' Q hY (by simpa [pJ]using hok) hs hrd sr (by simpa [bC]using hx) hK)
 | loop L a iha =>
   intro B Y r e h env H x e' h' Q hY hok hs hrd sr hx hK;simp only[pJ]at hok;simp only[bC]at hx;refine WD.loop (fun m env1 H1=>∃ r1 e1 h1,Agree k r r1∧SR D Y r1 e1 h1 env1 H1∧lX (bC run runY K k n rd a) k L m e1 h1=some (x,e',h')) (m:=n) ⟨r,e,h,Agree.refl _ _,sr,hx⟩ ?_;rintro m env1 H1 ⟨r1,e1,h1,ha,sr1,hx1⟩;cases m with
   | zero=>simp[lX]at hx1
   | succ m =>
     simp only[lX]at hx1;obtain⟨r2,ha2,sr2⟩:=tM sr1 k L;split at hx1
     ·rename_i e2 h2 hx2
      exact iha B Y r2 _ _ env1 H1 .normal e2 h2 _ hY hok hs ((hrd.agree ha).agree ha2) sr2 hx2 fun r3 env3 H3 ha3 sr3=>⟨m,by omega,r3,e2,h2,(ha.trans ha2).trans ha3,sr3,hx1⟩
     ·rename_i hne
      refine iha B Y r2 _ _ env1 H1 x e' h' _ hY hok hs ((hrd.agree ha).agree ha2) sr2 hx1 fun r3 env3 H3 ha3 sr3=>?_;cases x with
      | normal=>exact absurd hx1 (hne e' h')
      | exit id=>exact hK r3 env3 H3 ((ha.trans ha2).trans ha3) sr3
      | ret=>exact hK r3 env3 H3 ((ha.trans ha2).trans ha3) sr3
 | rng site L f ps a b iha ihb =>
   intro B Y r e h env H x e' h' Q hY hok hs hrd sr hx hK;simp only[pJ,A3]at hok;obtain⟨hs1,hs2,hs3⟩:=hs;simp only[bC]at hx;split at hx
   ·rename_i hcond
    simp only[A3]at hcond;have hfv:=aL sr.re (x:=f) hok.1;obtain⟨gf,first,cap,hev⟩:∃ g a b,aK e f = .fn (.func g) a b:=by
     have:=hcond.2;unfold zP at this;split at this;·exact⟨_,_,_,‹_›⟩
     ·simp at this
    rw[hev]at hfv hx;cases hv:aK env f<;>rw[hv]at hfv<;>cases hfv
    rename_i first' cap' hf0 hl1 k1 hl2 k2;split at hx
    ·rename_i v h1 hcall
     refine WD.rng (gf:=gf) (first:=first') (cap:=cap') ?_ hv ?_
     ·unfold RdOk at hrd
      split at hrd;·exact .inl hrd
      ·rename_i l
       obtain⟨_,c,i,q,g1,g2,g3,g4⟩:=hrd;right;refine⟨c,q,g2,?_⟩;have hin:=hcond.1;simp only[zQ]at hin;split at hin
       ·rename_i hst
        obtain⟨c',i',o',m1,m2,m3,m4,_⟩:=sr.sh.loopAt hst;rw[g1]at m1;simp only[oSI]at m1;subst m1;rw[g3]at m2;simp only[oSI]at m2;subst m2;simp only[qS]at m4;rw[m3,m4,g4]
       ·simp at hin
     ·intro B' l oR oB oD hB' hl _ _ hbusy hround
      obtain⟨i,hi⟩:∃ i:YI,i=⟨K,site,env,oR,oB,oD⟩:=⟨_,rfl⟩;obtain⟨Y',hY'⟩:∃ Y':Nat→Option YI,Y'=fun c=>if c=l then some i else Y c:=⟨_,rfl⟩
      have y1:Y' l=some i:=by rw[hY'];simp
      have y2:∀ c,c≠l→Y' c=Y c:=fun c hc=>by rw[hY'];simp[hc]
      have hYok:YOk P B' D Y':=fun c j hj=>by
       by_cases hc:c=l
       ·subst hc
        rw[y1]at hj;simp only[oSI]at hj;subst hj;rw[hi];refine⟨hbusy,fun d' L' ps' a' b' g1 g2 B1 hB1 as H' Q' g3 g4 g5=>?_⟩;rw[hD]at g1;simp only[oSI]at g1;subst g1;rw[hs1]at g2;simp only[oSI,B4]at g2;obtain⟨rfl,rfl,rfl,rfl⟩:=g2;exact hround B1 hB1 as H' Q' g3 g4 g5
       ·rw[y2 c hc]at hj
        exact(hY.up hB') c j hj
      obtain⟨hf,hy⟩:=hall B' Y' hYok;have hx0:RnB D Y' r l (.loop K site (L.map e) .ready) (.obj true oR):=by
       have:=RnB.loop (D:=D) (Y:=Y') (r:=r) l i (L.map e) .ready oR d L ps a b y1 (by rw[hi];exact rfl) (by rw[hi];exact hD) (by rw[hi];exact hs1) (by
        rw[hi];exact RnL.map fun j _=>(sr.re j).mono (fun _ _ h=>h))
       rw[hi]at this;exact this
      obtain⟨p1,p2⟩:=sr.sh.push hl y2 hx0
      have hcs:=tN (P:=P) (B:=B') hf hy p2 (fv:=.fn (.func gf) first cap) (fv':=.fn (.func gf) first' cap') (as:=[.fn (.yield h.length) [] []]) (as':=[.fn (.yield l) [] []])
       (.fn _ _ _ _ _ hf0 hl1 (fun i x y hx hy=>(k1 i x y hx hy).mono p1) hl2 (fun i x y hx hy=>(k2 i x y hx hy).mono p1)) (RnL.cons (.yield _ _ (by simp)) RnL.nil) hcall
      refine CallV.mono (fv:=.fn (.func gf) first' cap') (as:=[.fn (.yield l) [] []]) hcs ?_;rintro v' H' ⟨⟨r2,q1,q2,q3⟩,_⟩;have hr2:r2 h.length=some l:=q1 h.length l (by simp);have fin:∀(st:LSt),gS h1 h.length=some st→(∃ o,H' l=some (.obj true o)∧qS i st o)∧SR D Y r2 e (h1.set h.length none) env (mA H' l):=by
       intro st hst;obtain⟨c',i',o',m1,m2,m3,m4,vs,d',L',ps',a',b',m5,_⟩:=q2.loopAt hst;rw[hr2]at m1;simp only[oSI]at m1;subst m1;rw[y1]at m2;simp only[oSI]at m2;subst m2;obtain⟨G,hG⟩:=q2.gh;refine⟨⟨o',m3,m4⟩,⟨fun b c hb=>by simpa using q2.dom b c hb,fun b1 b2 c x1 x2 g1 g2 g3 g4=>?_,fun b2 x hx=>?_,_,hG.via id (fun b st p hz=>?_) (fun b z hz=>?_) (fun _ _ _ _ _ _ _ hne=>hne) fun b st p n y' hz hnn hy=>?_⟩,fun j=>(sr.re j).mono (p1.trans q1)⟩
       all_goals
        have live:∀ b z,hat (h1.set h.length none) b=some z→b≠h.length∧hat h1 b=some z:=fun b z hz=>by
         rw[fQ]at hz;split at hz;·simp at hz
         ·rename_i hc;exact⟨fun e=>hc ⟨e,pZ m5⟩,hz⟩
       ·exact q2.inj b1 b2 c x1 x2 (live _ _ g1).2 (live _ _ g2).2 g3 g4
       ·obtain⟨n1,n2⟩:=live _ _ hx
        obtain⟨c,y,w1,w2,w3⟩:=q2.blk b2 x n2;have hcl:c≠l:=fun e=>by
         subst e;exact n1 (q2.inj b2 h.length c x _ n2 m5 w1 hr2)
        exact⟨c,y,w1,by simp only[mA,hcl,AAd];exact w2,w3.mono (fun _ _ h=>h) (fun _=>(y2 c hcl).symm)⟩
       ·exact⟨(live _ _ hz).2,rfl⟩
       ·exact .inl ⟨z,(live _ _ hz).2,rfl,fun st p e=>e⟩
       ·obtain⟨n1,n2⟩:=live _ _ hz
        have hnl:n≠l:=fun e=>by
         subst e;exact(hG.2 b h.length st p _ n n2 m5 n1 hnn).1 hr2
        simp only[mA,hnl,AAd];exact hy
      split at hx
      ·rename_i hst
       simp only[oSI,B4]at hx;obtain⟨rfl,rfl,rfl⟩:=hx;obtain⟨⟨o,u1,u2⟩,u3⟩:=fin _ hst;simp only[qS,hi]at u2;subst u2;exact .inl ⟨u1,hK r2 env _ ((p1.trans q1).agree k) u3⟩
      ·rename_i x0 hst
       simp only[oSI,B4]at hx;obtain⟨rfl,rfl,rfl⟩:=hx;obtain⟨⟨o,u1,u2⟩,u3⟩:=fin _ hst;cases x0 with
       | normal=>exact u2.elim
       | ret =>
         simp only[qS,hi]at u2;subst u2;exact .inr (.inl ⟨u1,hK r2 env _ ((p1.trans q1).agree k) u3⟩)
       | exit id =>
         simp only[qS,hi]at u2;subst u2;exact .inr (.inr ⟨id,u1,hK r2 env _ ((p1.trans q1).agree k) u3⟩)
      ·simp at hx
    ·simp at hx
   ·simp at hx

theorem pF{as as':List AV}(h:RnL D Y r as as')(j:Nat):Rn D Y r (aV as j) (aV as' j):=by
 unfold aV;rw[A1,A1];cases hx:as[j]? with
 | none=>exact .any _
 | some x =>
   obtain⟨y,hy,h1⟩:=h.get hx;rw[hy];exact h1

theorem aFa(sr:SR D Y r e h env H){rs:List (Nat×Option (Bool×Nat))}{v:AV}(hv:jD rs e (aG h)=some v):∃ v',jD rs env H=some v'∧Rn D Y r v v':=by
 have one:∀{p:Nat×Option (Bool×Nat)}{v:AV},sA e (aG h) p=some v→∃ v',sA env H p=some v'∧Rn D Y r v v':=by
  intro p v hv;obtain⟨t,o⟩:=p;cases o with
  | none=>simp only[sA,oSI]at hv ⊢;subst hv;exact⟨_,rfl,sr.re t⟩
  | some q =>
    obtain⟨g,n⟩:=q;simp only[sA]at hv ⊢;exact aGE sr.sh (sr.re t) hv
 have lst:∀(rs:List (Nat×Option (Bool×Nat)))(vs:List AV),rZ e (aG h) rs=some vs→∃ vs',rZ env H rs=some vs'∧RnL D Y r vs vs':=by
  intro rs;induction rs with
  | nil=>intro vs hv;simp only[rZ,oSI]at hv;subst hv;exact⟨[],rfl,RnL.nil⟩
  | cons p rs ih =>
    intro vs hv;simp only[rZ]at hv ⊢;split at hv
    ·rename_i v vs0 h1 h2
     simp only[oSI]at hv;subst hv;obtain⟨v',k1,k2⟩:=one h1;obtain⟨vs',k3,k4⟩:=ih vs0 h2;rw[k1,k3];exact⟨v'::vs',rfl,RnL.cons k2 k4⟩
    ·simp at hv
 unfold jD at hv ⊢;split at hv
 ·rename_i v0 h1
  simp only[oSI]at hv;subst hv;obtain⟨vs',k1,k2⟩:=lst rs _ h1;obtain⟨y,ys,rfl,k3,k4⟩:=k2.inv;obtain rfl:=k4.nil_inv;rw[k1];exact⟨y,rfl,k3⟩
 ·rename_i vs hne h1
  simp only[oSI]at hv;subst hv;obtain⟨vs',k1,k2⟩:=lst rs _ h1;rw[k1];refine⟨.tup vs',?_,.tup _ _ k2.1 k2.2⟩;split
  ·rename_i v0 h2
   simp only[oSI]at h2;subst h2;exfalso;have:=k2.1;cases vs with
   | nil=>simp at this
   | cons a vs=>cases vs with
     | nil=>exact hne a rfl
     | cons b vs=>simp at this
  ·rename_i vs2 hne2 h2
   simp only[oSI]at h2;rw[h2]
  ·rename_i h2;simp at h2
 ·simp at hv

theorem aJm:∀(ps:List Nat)(as as':List AV)(e env:aH),RnL D Y r as as'→(∀ j,Rn D Y r (e j) (env j))→∀ j,Rn D Y r (pR e ps as j) (pR env ps as' j)
 | [],as,as',e,env,_,re,j=>by unfold pR;exact re j
 | p::ps,[],as',e,env,h,re,j=>by rw[h.nil_inv];unfold pR;exact re j
 | p::ps,a::as,as',e,env,h,re,j=>by
   obtain⟨a',as2,rfl,h1,h2⟩:=h.inv;unfold pR;refine aJm ps as as2 _ _ h2 (fun i=>?_) j;simp only[upd];split;·exact h1
   ·exact re i

theorem aJQ:∀(L:List Nat)(vs:List AV)(env:aH),RnL D Y r vs (L.map env)→∀ j,Rn D Y r (bH L vs j) (env j)
 | [],[],env,h,j=>.any _
 | [],_::_,env,h,j=>.any _
 | _::_,[],env,h,j=>.any _
 | k::L,v::vs,env,h,j=>by
   obtain⟨a',as2,h0,h1,h2⟩:=h.inv;simp only[D7,aA3]at h0;obtain⟨rfl,rfl⟩:=h0;simp only[bH];split;·rename_i hj;subst hj;exact h1
   ·exact aJQ L vs env h2 j

theorem aEe(sh:SH D Y r h H){k:Nat}{u u':AV}(hu:Rn D Y r u u'):∃ r',Agree k r r'∧SH D Y r' (lY k (dC k [u] h) h) H∧Rn D Y r' (rnA (keepS k (dC k [u] h)) u) u':=by
 obtain⟨h1,h2⟩:=aCk k [u] h;obtain⟨k1,k2,k3⟩:=aCj sh h1 h2;exact⟨_,k1,k2,k3 _ _ hu⟩

def okD(d:XFn):Bool:=pJ d.body&&d.dfr.isNone
structure XOk(P:Program)(D:Nat→Option XFn):Prop where
 mixed:P.follows .mixedOrders=true
 is:∀ K d,D K=some d→d.prm=none→aRJ P K d.fn
 prm:∀ K d f,D K=some d→d.prm=some f→∀(B:Base)(Y:Nat→Option YI),YOk P B D Y→∀(r:Nat→Option Nat)(h:XH)(H:Hp)(as as':List AV)(v:AV)(h':XH),SH D Y r h H→RnL D Y r as as'→f as h=some (v,h')→FnW B P K as' H (eZ D Y r v h')
 ok:∀ K d,D K=some d→okD d=true
 sites:∀ K d,D K=some d→gQ d d.body

theorem XOk.body(ok:XOk P D){K:Nat}{d:XFn}(h:D K=some d):pJ d.body=true:=by
 have:=ok.ok K d h;simp only[okD,A3]at this;exact this.1

theorem aHB(ok:XOk P D){run:eP}{runY:fS}(n:Nat)(ih:∀(B:Base)(Y:Nat→Option YI),YOk P B D Y→FnS P B D Y run∧YS P B D Y runY):∀(B:Base)(Y:Nat→Option YI),YOk P B D Y→FnS P B D Y (aBg D run runY n)∧YS P B D Y (aDD D run runY n):=by
 intro B Y hY;refine⟨fun r h H K as as' v h' sh hA hx=>?_,fun r h H fv fv' as as' v h' sh hfv hA hx=>?_⟩
 ·simp only[aBg]at hx
  split at hx;·simp at hx
  ·rename_i d hD
   split at hx
   ·rename_i f hf
    exact ok.prm K d f hD hf B Y hY r h H as as' v h' sh hA hx
   rename_i hpr;split at hx
   ·rename_i hN
    have main:∀(as1 as1':List AV),RnL D Y r as1 as1'→as1.length≤d.N→(match d.dfr with
     | none=>aHK (lK K) d.res d.ownR h.length (bC run runY K h.length n none d.body (aV as1) h)
     | some _=>none)=some (v,h')→FnW B P K as1' H (eZ D Y r v h'):=by
     intro as1 as1' hA1 hN1 hx
     have goal:∀(r1:Nat→Option Nat)(env1:aH)(H1:Hp)(e1:aH)(h1:XH)(v0:AV),Agree h.length r r1→SR D Y r1 e1 h1 env1 H1→jD d.res e1 (aG h1)=some v0→nD d.ownR h.length v0 h1=(v,h') →
      lT (jD d.res env1 H1) fun v_1=>∃ v' H'',Shift (upd anyE 0 v_1) H1 (upd anyE 0 v') H''∧eZ D Y r v h' v' H'':=by
      intro r1 env1 H1 e1 h1 v0 ha1 sr1 hv0 hfin;have goal:lT (jD d.res env1 H1) fun v=>∃ v' H'',Shift (upd anyE 0 v) H1 (upd anyE 0 v') H''∧eZ D Y r (nD d.ownR h.length v0 h1).1 (nD d.ownR h.length v0 h1).2 v' H'':=by
       obtain⟨v0',k1,k2⟩:=aFa sr1 hv0;rw[k1,optW_some];have sr2:SR D Y r1 (upd anyE 0 v0) h1 (upd anyE 0 v0') H1:=⟨sr1.sh,fun j=>by
        simp only[upd];split;·exact k2
        ·exact .any _⟩
       have post:∀(u u':AV)(h2:XH)(H2:Hp),SH D Y r1 h2 H2→Rn D Y r1 u u'→eZ D Y r (rnA (keepS h.length (dC h.length [u] h2)) u) (lY h.length (dC h.length [u] h2) h2) u' H2:=by
        intro u u' h2 H2 s1 s2;obtain⟨r2,m1,m2,m3⟩:=aEe s1 s2 (k:=h.length);exact⟨r2,fun b c hb=>m1 b c (sh.dom b c hb) (ha1 b c (sh.dom b c hb) hb),m2,m3⟩
       unfold nD;cases d.ownR with
       | true =>
         simp only[AAe];exact⟨v0',H1,Shift.le (Le.refl _),by
          have:=post v0 v0' h1 H1 sr1.sh k2;simpa [upd]using this⟩
       | false =>
         simp only[C6,AAd];obtain⟨env2,H2,s1,s2⟩:=wA (jV h1 2 (slN v0)) _ _ _ _ sr2;have hz:=(s2.re 0).nz;refine⟨qP (env2 0),H2,s1.trans ?_,post _ _ _ _ s2.sh hz⟩;intro F w a st re;refine⟨F,Ext.refl _ _ _,st,fun j=>?_,re.gi⟩;simp only[upd];split;·rename_i hj;subst hj;exact(re.rv 0).nz
         ·exact .any _
      rw[hfin]at goal;exact goal
     refine FnW.shift (FnW.of (ok.is K d hD hpr) (by rw[←hA1.1];exact hN1) ?_);cases hd:d.dfr with
     | none =>
       rw[hd]at hx;simp only at hx;show WD B P none d.N d.fn.body _ _ _;cases hgc:lK K with
       | true =>
         rw[hgc]at hx;simp only[aHK]at hx;unfold aDm at hx;split at hx;·simp at hx
         ·rename_i x e1 h1 hne hex
          simp only[A0,B4]at hx;obtain⟨v0,hv0,rfl,rfl⟩:=hx;refine nE hD ok.mixed ih h.length n none none d.body B Y r (aV as1) h (aV as1') H x e1 h1 _ hY (ok.body hD) (ok.sites K d hD) rfl ⟨sh,pF hA1⟩ hex ?_;intro r1 env1 H1 ha1 sr1;obtain⟨v0',k1,k2⟩:=aFa sr1 hv0;have g:lT (jD d.res env1 H1) fun v_1=>∃ v' H'',Shift (upd anyE 0 v_1) H1 (upd anyE 0 v') H''∧eZ D Y r v0 h1 v' H'':=by
           rw[k1,optW_some];exact⟨v0',H1,Shift.le (Le.refl _),r1,fun b c hb=>ha1 b c (sh.dom b c hb) hb,sr1.sh,k2⟩
          cases x with
          | exit id=>exact absurd rfl (hne id)
          | normal=>exact g
          | ret=>exact g
         ·simp at hx
       | false =>
       rw[hgc]at hx;simp only[aHK]at hx;unfold gV at hx;split at hx;·simp at hx
       ·rename_i x e1 h1 hne hex
        simp only[A0]at hx;obtain⟨v0,hv0,hfin⟩:=hx;refine nE hD ok.mixed ih h.length n none none d.body B Y r (aV as1) h (aV as1') H x e1 h1 _ hY (ok.body hD) (ok.sites K d hD) rfl ⟨sh,pF hA1⟩ hex ?_;intro r1 env1 H1 ha1 sr1;have g:=goal r1 env1 H1 e1 h1 v0 ha1 sr1 hv0 hfin;cases x with
        | exit id=>exact absurd rfl (hne id)
        | normal=>exact g
        | ret=>exact g
       ·simp at hx
     | some p=>rw[hd]at hx;cases hx
    cases hown:d.ownA with
    | true =>
      rw[hown]at hx;simp only[AAe]at hx;exact main as as' hA hN hx
    | false =>
      rw[hown]at hx;simp only[C6,AAd]at hx;exact FnW.nz (main _ _ hA.nz (by rw[jQ];simpa using hN) hx)
   ·simp at hx
 ·simp only[aDD]at hx
  split at hx
  ·rename_i l
   cases hfv with
   | fn _ _ _ _ _ hf=>exact absurd rfl (hf l)
   | yield _ c hr =>
   show YW B P c as' H _;split at hx
   ·rename_i K site vs hl
    split at hx;·simp at hx
    ·rename_i L ps a b hDs
     simp only[H6]at hDs;obtain⟨d,hD,hsite⟩:=hDs;split at hx
     ·rename_i hlen
      split at hx
      ·rename_i e1 h1 hex1
       split at hx
       ·rename_i hst1
        split at hx
        ·rename_i x e2 h2 hex2
         split at hx
         ·rename_i hst2
          simp only[oSI]at hx;obtain⟨c',i,o,g1,g2,g3,g4,vs',d',L',ps',a',b',g5,g6,g7,g8⟩:=sh.loopAt (l:=l) (st:=.ready) (by unfold gS;rw[hl]);rw[hr]at g1;simp only[oSI]at g1;subst g1;rw[hl]at g5;simp only[oSI,XB.loop.injEq,AAj]at g5;obtain⟨rfl,rfl,rfl⟩:=g5;rw[hD]at g6;simp only[oSI]at g6;subst g6;rw[hsite]at g7;simp only[oSI,B4]at g7;obtain⟨rfl,rfl,rfl,rfl⟩:=g7;simp only[qS]at g4;subst g4;obtain⟨⟨q,hq⟩,prov⟩:=hY c i g2;have hrd:RdOk Y r h.length (some l) (some c):=⟨sh.dom l c hr,c,i,q,hr,rfl,g2,hq⟩;obtain⟨hs1,hs2⟩:gQ d a∧gQ d b:=by
           have aux:∀(code:XCode),gQ d code→∀ s L ps a b,dZ code s=some (L,ps,a,b)→gQ d a∧gQ d b:=by
            intro code;induction code with
            | seq a b iha ihb =>
              intro hs s L ps a' b' h;simp only[dZ]at h;split at h;·rename_i r0 h0;simp only[oSI]at h;subst h;exact iha hs.1 s _ _ _ _ h0
              ·exact ihb hs.2 s _ _ _ _ h
            | cond c a b iha ihb =>
              intro hs s L ps a' b' h;simp only[dZ]at h;split at h;·rename_i r0 h0;simp only[oSI]at h;subst h;exact iha hs.1 s _ _ _ _ h0
              ·exact ihb hs.2 s _ _ _ _ h
            | block id a iha=>intro hs s L ps a' b' h;exact iha hs s _ _ _ _ (by simpa [dZ]using h)
            | loop l a iha=>intro hs s L ps a' b' h;exact iha hs s _ _ _ _ (by simpa [dZ]using h)
            | scope a iha=>intro hs s L ps a' b' h;exact iha hs s _ _ _ _ (by simpa [dZ]using h)
            | rng s' L' f ps' a b iha ihb =>
              intro hs s L ps a' b' h;simp only[dZ]at h;split at h
              ·simp only[oSI,B4]at h
               obtain⟨rfl,rfl,rfl,rfl⟩:=h;exact hs.2
              ·split at h
               ·rename_i r0 h0;simp only[oSI]at h;subst h;exact iha hs.2.1 s _ _ _ _ h0
               ·exact ihb hs.2.2 s _ _ _ _ h
            | skip=>intro hs s L ps a' b' h;simp[dZ]at h
            | exit id=>intro hs s L ps a' b' h;simp[dZ]at h
            | ret=>intro hs s L ps a' b' h;simp[dZ]at h
            | reg fz dr ops=>intro hs s L ps a' b' h;simp[dZ]at h
           exact aux d.body (ok.sites _ d hD) _ _ _ _ _ hsite
          obtain⟨hok1,hok2⟩:pJ a=true∧pJ b=true:=by
           have aux:∀(code:XCode),pJ code=true→∀ s L ps a b,dZ code s=some (L,ps,a,b)→pJ a=true∧pJ b=true:=by
            intro code;induction code with
            | seq a b iha ihb =>
              intro hs s L ps a' b' h;simp only[pJ,A3]at hs;simp only[dZ]at h;split at h;·rename_i r0 h0;simp only[oSI]at h;subst h;exact iha hs.1 s _ _ _ _ h0
              ·exact ihb hs.2 s _ _ _ _ h
            | cond c a b iha ihb =>
              intro hs s L ps a' b' h;simp only[pJ,A3]at hs;simp only[dZ]at h;split at h;·rename_i r0 h0;simp only[oSI]at h;subst h;exact iha hs.2.1 s _ _ _ _ h0
              ·exact ihb hs.2.2 s _ _ _ _ h
            | block id a iha=>intro hs s L ps a' b' h;exact iha (by simpa [pJ]using hs) s _ _ _ _ (by simpa [dZ]using h)
            | loop l a iha=>intro hs s L ps a' b' h;exact iha (by simpa [pJ]using hs) s _ _ _ _ (by simpa [dZ]using h)
            | scope a iha=>intro hs s L ps a' b' h;exact iha (by simpa [pJ]using hs) s _ _ _ _ (by simpa [dZ]using h)
            | rng s' L' f ps' a b iha ihb =>
              intro hs s L ps a' b' h;simp only[pJ,A3]at hs;simp only[dZ]at h;split at h
              ·simp only[oSI,B4]at h
               obtain⟨rfl,rfl,rfl,rfl⟩:=h;exact hs.2
              ·split at h
               ·rename_i r0 h0;simp only[oSI]at h;subst h;exact iha hs.2.1 s _ _ _ _ h0
               ·exact ihb hs.2.2 s _ _ _ _ h
            | skip=>intro hs s L ps a' b' h;simp[dZ]at h
            | exit id=>intro hs s L ps a' b' h;simp[dZ]at h
            | ret=>intro hs s L ps a' b' h;simp[dZ]at h
            | reg fz dr ops=>intro hs s L ps a' b' h;simp[dZ]at h
           exact aux d.body (ok.body hD) _ _ _ _ _ hsite
          refine prov d L ps a b hD hsite B (Up.refl _ _) as' H _ g3 (by rw[←hA.1];exact hlen) ?_;refine nE hD ok.mixed ih h.length n (some l) (some c) a B Y r _ h _ H .normal e1 h1 _ hY hok1 hs1 hrd ⟨sh,aJm ps as as' _ _ hA (aJQ L vs i.env g8)⟩ hex1 ?_;intro r1 env1 H1 ha1 sr1;obtain⟨c1,i1,o1,m1,m2,m3,m4,_⟩:=sr1.sh.loopAt hst1;have hr1:r1 l=some c:=ha1 l c (sh.dom l c hr) hr;rw[hr1]at m1;simp only[oSI]at m1;subst m1;rw[g2]at m2;simp only[oSI]at m2;subst m2;simp only[qS]at m4;subst m4;refine⟨rfl,m3,?_⟩;have sh1':=sr1.sh.loopTo (st':=.busy) (o:=i.oB) hst1 hr1 g2 rfl;refine nE hD ok.mixed ih h.length n (some l) (some c) b B Y r1 e1 _ env1 _ x e2 h2 _ hY hok2 hs2 (hrd.agree ha1) ⟨sh1',sr1.re⟩ hex2 ?_;intro r2 env2 H2 ha2 sr2;obtain⟨c2,i2,o2,p1,p2,p3,p4,_⟩:=sr2.sh.loopAt hst2;have hr2:r2 l=some c:=ha2 l c (sh.dom l c hr) hr1;rw[hr2]at p1;simp only[oSI]at p1;subst p1;rw[g2]at p2;simp only[oSI]at p2;subst p2;simp only[qS]at p4;subst p4;refine⟨p3,?_⟩;have post:∀(bv:Bool)(st':LSt)(o:Obj),qS i st' o→eZ D Y r (nD true h.length (.bool bv) (loopTo h2 l st')).1 (nD true h.length (.bool bv) (loopTo h2 l st')).2 (.bool bv) (hset H2 c (.obj true o)):=by
           intro bv st' o ho;have sh2':=sr2.sh.loopTo (st':=st') (o:=o) hst2 hr2 g2 ho;obtain⟨r3,s1,s2,s3⟩:=aEe sh2' (k:=h.length) (u:=.bool bv) (.bool bv);refine⟨r3,fun b c hb=>s1 b c (sh.dom b c hb) (ha2 b c (sh.dom b c hb) (ha1 b c (sh.dom b c hb) hb)),?_,?_⟩;·simpa [nD,upd]using s2
           ·simpa [nD,upd]using s3
          cases x with
          | normal =>
            have:=post true .ready i.oR rfl;simp only at hx;rw[hx]at this;exact this
          | ret =>
            have:=post false (.done .ret) (i.oD .ret) rfl;simp only at hx;rw[hx]at this;exact this
          | exit id =>
            have:=post false (.done (.exit id)) (i.oD (.exit id)) rfl;simp only at hx;rw[hx]at this;exact this
         ·simp at hx
        ·simp at hx
       ·simp at hx
      ·simp at hx
     ·simp at hx
   ·simp at hx
  ·simp at hx
theorem mF(ok:XOk P D):∀(n:Nat)(B:Base)(Y:Nat→Option YI),YOk P B D Y→FnS P B D Y (dB D n)∧YS P B D Y (bP D n):=by
 intro n;induction n with
 | zero =>
   intro B Y hY;exact⟨fun r h H K as as' v h' _ _ hx=>by simp[dB]at hx,fun r h H fv fv' as as' v h' _ _ _ hx=>by simp[bP]at hx⟩
 | succ n ih =>
   intro B Y hY;have:=aHB ok n ih B Y hY;simpa only[dB,bP]using this

end
def sG:XCode→Bool
 | .seq a b | .cond _ a b=>sG a&&sG b
 | .block _ a | .loop _ a | .scope a=>sG a
 | .rng .. => false
 | _=>true
theorem aP{d:XFn}:∀{c:XCode},sG c=true→gQ d c
 | .seq a b,h=>by simp only[sG,A3]at h;exact⟨aP h.1,aP h.2⟩
 | .cond c a b,h=>by simp only[sG,A3]at h;exact⟨aP h.1,aP h.2⟩
 | .block id a,h=>aP (c:=a) (by simpa [sG]using h)
 | .loop l a,h=>aP (c:=a) (by simpa [sG]using h)
 | .scope a,h=>aP (c:=a) (by simpa [sG]using h)
 | .rng ..,h=>by simp[sG]at h
 | .skip,_=>trivial
 | .exit _,_=>trivial
 | .ret,_=>trivial
 | .reg ..,_=>trivial

def LeR(f g:eP):Prop:=∀ K as h q,f K as h=some q→g K as h=some q
def LeY(f g:fS):Prop:=∀ v as h q,f v as h=some q→g v as h=some q
section
variable{run run':eP}{runY runY':fS}

theorem wJ(hr:LeR run run')(hy:LeY runY runY'){fv:AV}{as:List AV}{h:XH}{q:AV×XH}(hx:fM run runY fv as h=some q):fM run' runY' fv as h=some q:=by
 unfold fM at hx ⊢;split at hx
 ·rename_i g first cap
  cases hg:lK g with
  | true=>rw[hg]at hx;exact hr _ _ _ _ hx
  | false =>
    rw[hg]at hx;simp only[aEr,A0]at hx ⊢;obtain⟨a,h1,h2⟩:=hx;exact⟨a,hr _ _ _ _ h1,h2⟩
 ·simp only[A0]at hx ⊢
  obtain⟨a,h1,h2⟩:=hx;exact⟨a,hy _ _ _ _ h1,h2⟩
 ·simp at hx
theorem aCO(hr:LeR run run'){fv:AV}{as:List AV}{h:XH}{q:AV}(hx:nH run fv as h=some q):nH run' fv as h=some q:=by
 unfold nH at hx ⊢;split at hx
 ·simp only at hx ⊢
  split at hx
  ·rename_i v hl h1
   rw[hr _ _ _ _ h1];exact hx
  ·simp at hx
 ·simp at hx
theorem mN(hr:LeR run run')(hy:LeY runY runY'){d:Option Nat}{op:DOp}{e:aH}{h:XH}{q:aH×XH}(hx:dG run runY d op e h=some q):dG run' runY' d op e h=some q:=by
 cases op with
 | callf b f xs l =>
   cases b with
   | true =>
     simp only[dG,A0]at hx ⊢;obtain⟨a,h1,h2⟩:=hx;exact⟨a,aCO hr h1,h2⟩
   | false =>
     simp only[dG,A0]at hx ⊢;obtain⟨a,h1,h2⟩:=hx;exact⟨a,wJ hr hy h1,h2⟩
 | _=>exact hx
theorem oG(hr:LeR run run')(hy:LeY runY runY'):∀(ops:List DOper)(e:aH)(h:XH)(q:aH×XH),fA run runY ops e h=some q→fA run' runY' ops e h=some q
 | [],e,h,q,hx=>hx
 | o::ops,e,h,q,hx=>by
   simp only[fA]at hx ⊢;split at hx
   ·simp only[H6]at hx ⊢
    obtain⟨s,h1,h2⟩:=hx;exact⟨s,mN hr hy h1,oG hr hy ops _ _ q h2⟩
   ·exact oG hr hy ops _ _ q hx
   ·simp at hx
theorem mM(hr:LeR run run')(hy:LeY runY runY'):∀(ops:List DOper)(e:aH)(h:XH)(L:List (Nat×Nat))(q:aH×XH),eX run runY ops e h L=some q→eX run' runY' ops e h L=some q
 | [],e,h,L,q,hx=>hx
 | o::ops,e,h,L,q,hx=>by
   simp only[eX]at hx ⊢;split at hx
   ·split at hx
    ·rename_i hl
     rw[if_pos hl];simp only[H6]at hx ⊢;obtain⟨s,h1,h2⟩:=hx;refine⟨s,mN hr hy h1,?_⟩;split at h2;·rename_i hp;rw[if_pos hp];exact mM hr hy ops _ _ _ q h2
     ·simp at h2
    ·simp at hx
   ·exact mM hr hy ops _ _ _ q hx
   ·simp at hx

theorem pV{step step':aH→XH→Option (DX×aH×XH)}(hs:∀ e h q,step e h=some q→step' e h=some q){k:Nat}{L:List Nat}:∀(n m:Nat),n≤m→∀(e:aH)(h:XH)(q:DX×aH×XH),lX step k L n e h=some q→lX step' k L m e h=some q
 | 0,_,_,e,h,q,hx=>by simp[lX]at hx
 | n+1,0,hnm,e,h,q,hx=>by omega
 | n+1,m+1,hnm,e,h,q,hx=>by
   simp only[lX]at hx ⊢;split at hx
   ·rename_i e' h' h1
    rw[hs _ _ _ h1];exact pV hs n m AM e' h' q hx
   ·rename_i hne
    rw[hs _ _ _ hx];obtain⟨x,e',h'⟩:=q;cases x with
    | normal=>exact absurd hx (hne e' h')
    | _=>rfl

theorem nF(hr:LeR run run')(hy:LeY runY runY'){K k n m:Nat}(hnm:n≤m){rd:Option Nat}:∀(c:XCode)(e:aH)(h:XH)(q:DX×aH×XH),bC run runY K k n rd c e h=some q→bC run' runY' K k m rd c e h=some q:=by
 intro c;induction c with
 | skip=>intro e h q hx;exact hx
 | exit id=>intro e h q hx;exact hx
 | ret=>intro e h q hx;exact hx
 | reg fz draw ops =>
   intro e h q hx;simp only[bC,A0]at hx ⊢;obtain⟨s,h1,h2⟩:=hx;refine⟨s,?_,h2⟩;split at h1;·rename_i hd;rw[if_pos hd];exact mM hr hy _ _ _ _ _ h1
   ·rename_i hd;rw[if_neg hd];exact oG hr hy _ _ _ _ h1
 | seq a b iha ihb =>
   intro e h q hx;simp only[bC]at hx ⊢;split at hx
   ·rename_i e1 h1 h2
    rw[iha _ _ _ h2];exact ihb _ _ _ hx
   ·rename_i hne
    rw[iha _ _ _ hx];obtain⟨x,e',h'⟩:=q;cases x with
    | normal=>exact absurd hx (hne e' h')
    | _=>rfl
 | cond c a b iha ihb =>
   intro e h q hx;simp only[bC]at hx ⊢;split at hx;·exact iha _ _ _ hx
   ·exact ihb _ _ _ hx
   ·simp at hx
 | block id a iha =>
   intro e h q hx;simp only[bC]at hx ⊢;split at hx
   ·rename_i j e1 h1 h2
    rw[iha _ _ _ h2];exact hx
   ·rename_i hne
    rw[iha _ _ _ hx];obtain⟨x,e',h'⟩:=q;cases x with
    | exit id=>exact absurd hx (hne id e' h')
    | _=>rfl
 | scope a iha=>intro e h q hx;exact iha _ _ _ hx
 | loop L a iha=>intro e h q hx;exact pV iha n m hnm e h q hx
 | rng site L f ps a b _ _ =>
   intro e h q hx;simp only[bC]at hx ⊢;split at hx
   ·rename_i hc
    rw[if_pos hc];split at hx
    ·rename_i v h' h1
     rw[wJ hr hy h1];exact hx
    ·simp at hx
   ·simp at hx
end

theorem aDI(D:Nat→Option XFn):∀ n,LeR (dB D n) (dB D (n+1))∧LeY (bP D n) (bP D (n+1)):=by
 intro n;induction n with
 | zero=>exact⟨fun K as h q hx=>by simp[dB]at hx,fun v as h q hx=>by simp[bP]at hx⟩
 | succ n ih =>
   refine⟨fun K as h q hx=>?_,fun v as h q hx=>?_⟩
   ·rw[dB]at hx ⊢
    unfold aBg at hx ⊢;split at hx;·simp at hx
    ·rename_i d hd
     split at hx;·exact hx
     split at hx
     ·rename_i hl
      rw[if_pos hl];have ret:∀(c:Option Nat) e1 h1 q,gV c d.res d.ownR h.length (bC (dB D n) (bP D n) K h.length n none d.body e1 h1)=some q→gV c d.res d.ownR h.length (bC (dB D (n+1)) (bP D (n+1)) K h.length (n+1) none d.body e1 h1)=some q:=by
       intro c e1 h1 q hq;cases he:bC (dB D n) (bP D n) K h.length n none d.body e1 h1 with
       | none=>rw[he]at hq;simp[gV]at hq
       | some s=>rw[nF ih.1 ih.2 (aI9 n) _ _ _ _ he,←he];exact hq
      split at hx
      ·cases hgc:lK K with
       | true =>
         rw[hgc]at hx;simp only[aHK]at hx ⊢;cases he:bC (dB D n) (bP D n) K h.length n none d.body (aV (if d.ownA then as else lO as)) h with
         | none=>rw[he]at hx;simp[aDm]at hx
         | some s=>rw[nF ih.1 ih.2 (aI9 n) _ _ _ _ he,←he];exact hx
       | false=>rw[hgc]at hx;exact ret none _ _ _ hx
      ·simp at hx
     ·simp at hx
   ·simp only[bP]at hx
    unfold aDD at hx;split at hx
    ·rename_i l
     split at hx
     ·rename_i K site vs hl
      rw[bP];unfold aDD;simp only[hl];split at hx;·simp at hx
      ·rename_i L ps a b h1
       split at hx
       ·rename_i hc
        simp only[h1,hc,AAe];split at hx
        ·rename_i e1 h1' h2
         rw[nF ih.1 ih.2 (aI9 n) _ _ _ _ h2];simp only;split at hx
         ·rename_i hst
          split at hx
          ·rename_i x e2 h2' h3
           rw[nF ih.1 ih.2 (aI9 n) _ _ _ _ h3];exact hx
          ·simp at hx
         ·simp at hx
        ·simp at hx
       ·simp at hx
     ·simp at hx
    ·simp at hx
theorem iN(D:Nat→Option XFn){n m:Nat}(h:n≤m):LeR (dB D n) (dB D m)∧LeY (bP D n) (bP D m):=by
 induction h with
 | refl=>exact⟨fun _ _ _ _ h=>h,fun _ _ _ _ h=>h⟩
 | step _ ih=>exact⟨fun K as h q hx=>(aDI D _).1 _ _ _ _ (ih.1 _ _ _ _ hx),fun K as h q hx=>(aDI D _).2 _ _ _ _ (ih.2 _ _ _ _ hx)⟩

section
variable{α β:Type}
def aKf(f:Nat→Option α):Prop:=∀ n m q,n≤m→f n=some q→f m=some q
noncomputable def lim(f:Nat→Option α):Option α:=open Classical in if h:∃ q n,f n=some q then some h.choose else none
theorem aFr{f:Nat→Option α}(hm:aKf f){q:α}:lim f=some q↔∃ n,f n=some q:=by
 unfold lim;constructor
 ·intro h
  split at h
  ·rename_i hx
   simp only[oSI]at h;rw[←h];exact hx.choose_spec
  ·simp at h
 ·rintro ⟨n,hn⟩
  have hx:∃ q n,f n=some q:=⟨q,n,hn⟩;rw[AAs hx];obtain⟨m,h2⟩:=hx.choose_spec;have h3:=hm n (max n m) q AM hn;have h4:=hm m (max n m) _ AM h2;rw[h3]at h4;exact h4.symm
theorem jO{x y:Option α}(h:∀ q,x=some q↔y=some q):x=y:=by
 cases x with
 | none=>cases y with
   | none=>rfl
   | some b=>exact absurd ((h b).2 rfl) (by simp)
 | some a=>exact((h a).1 rfl).symm
end

variable(D:Nat→Option XFn)
noncomputable def runW:eP:=fun K as h=>lim fun n=>dB D n K as h
noncomputable def runYW:fS:=fun v as h=>lim fun n=>bP D n v as h
noncomputable def execW(K k:Nat)(rd:Option Nat)(c:XCode)(e:aH)(h:XH):Option (DX×aH×XH):=lim fun n=>bC (dB D n) (bP D n) K k n rd c e h

theorem aHH(K:Nat)(as:List AV)(h:XH):aKf fun n=>dB D n K as h:=fun _ _ _ hnm hx=>(iN D hnm).1 _ _ _ _ hx
theorem aGi(v:AV)(as:List AV)(h:XH):aKf fun n=>bP D n v as h:=fun _ _ _ hnm hx=>(iN D hnm).2 _ _ _ _ hx
theorem fL(K k:Nat)(rd:Option Nat)(c:XCode)(e:aH)(h:XH):aKf fun n=>bC (dB D n) (bP D n) K k n rd c e h :=
 fun _ _ _ hnm hx=>nF (iN D hnm).1 (iN D hnm).2 hnm _ _ _ _ hx
variable{D}
theorem dI{K:Nat}{as:List AV}{h:XH}{q:AV×XH}:runW D K as h=some q↔∃ n,dB D n K as h=some q:=aFr (aHH D K as h)
theorem tT{v:AV}{as:List AV}{h:XH}{q:AV×XH}:runYW D v as h=some q↔∃ n,bP D n v as h=some q:=aFr (aGi D v as h)
theorem aT{K k:Nat}{rd:Option Nat}{c:XCode}{e:aH}{h:XH}{q:DX×aH×XH}:execW D K k rd c e h=some q↔∃ n,bC (dB D n) (bP D n) K k n rd c e h=some q:=aFr (fL D K k rd c e h)
theorem aGH(n:Nat):LeR (dB D n) (runW D):=fun _ _ _ _ hx=>dI.2 ⟨n,hx⟩
theorem aJC(n:Nat):LeY (bP D n) (runYW D):=fun _ _ _ _ hx=>tT.2 ⟨n,hx⟩

theorem zZ{fv:AV}{as:List AV}{h:XH}{q:AV×XH}:fM (runW D) (runYW D) fv as h=some q↔∃ n,fM (dB D n) (bP D n) fv as h=some q:=by
 constructor
 ·intro hx
  unfold fM at hx;split at hx
  ·rename_i g first cap
   cases hg:lK g with
   | true =>
     rw[hg]at hx;obtain⟨n,h1⟩:=dI.1 hx;exact⟨n,by simp only[fM,hg];exact h1⟩
   | false =>
     rw[hg]at hx;simp only[aEr,A0]at hx;obtain⟨a,h1,h2⟩:=hx;obtain⟨n,h1⟩:=dI.1 h1;exact⟨n,by simp only[fM,hg,aEr,A0];exact⟨a,h1,h2⟩⟩
  ·simp only[A0]at hx
   obtain⟨a,h1,h2⟩:=hx;obtain⟨n,h1⟩:=tT.1 h1;exact⟨n,by simp only[fM,A0];exact⟨a,h1,h2⟩⟩
  ·simp at hx
 ·rintro ⟨n,hx⟩
  exact wJ (aGH n) (aJC n) hx
theorem aLo{fv:AV}{as:List AV}{h:XH}{q:AV}:nH (runW D) fv as h=some q↔∃ n,nH (dB D n) fv as h=some q:=by
 constructor
 ·intro hx
  unfold nH at hx;split at hx
  ·simp only at hx
   split at hx
   ·rename_i v hl h1
    obtain⟨n,h1⟩:=dI.1 h1;exact⟨n,by simp only[nH,h1];exact hx⟩
   ·simp at hx
  ·simp at hx
 ·rintro ⟨n,hx⟩
  exact aCO (aGH n) hx
theorem aDy{d:Option Nat}{op:DOp}{e:aH}{h:XH}{q:aH×XH}:dG (runW D) (runYW D) d op e h=some q↔∃ n,dG (dB D n) (bP D n) d op e h=some q:=by
 constructor
 ·intro hx
  cases op with
  | callf b f xs l =>
    cases b with
    | true =>
      simp only[dG,A0]at hx ⊢;obtain⟨a,h1,h2⟩:=hx;obtain⟨n,h1⟩:=aLo.1 h1;exact⟨n,a,h1,h2⟩
    | false =>
      simp only[dG,A0]at hx ⊢;obtain⟨a,h1,h2⟩:=hx;obtain⟨n,h1⟩:=zZ.1 h1;exact⟨n,a,h1,h2⟩
  | _=>exact⟨0,hx⟩
 ·rintro ⟨n,hx⟩
  exact mN (aGH n) (aJC n) hx
theorem aFO:∀{ops:List DOper}{e:aH}{h:XH}{q:aH×XH},fA (runW D) (runYW D) ops e h=some q↔∃ n,fA (dB D n) (bP D n) ops e h=some q:=by
 intro ops e h q;refine⟨?_,fun⟨n,hx⟩=>oG (aGH n) (aJC n) _ _ _ _ hx⟩;induction ops generalizing e h with
 | nil=>exact fun hx=>⟨0,hx⟩
 | cons o ops ih =>
   intro hx;simp only[fA]at hx ⊢;split at hx
   ·simp only[H6]at hx ⊢
    obtain⟨s,h1,h2⟩:=hx;obtain⟨n,h1⟩:=aDy.1 h1;obtain⟨m,h2⟩:=ih h2;exact⟨max n m,s,mN (iN D AM).1 (iN D AM).2 h1,oG (iN D AM).1 (iN D AM).2 _ _ _ _ h2⟩
   ·exact ih hx
   ·simp at hx
theorem aDx:∀{ops:List DOper}{e:aH}{h:XH}{L:List (Nat×Nat)}{q:aH×XH},eX (runW D) (runYW D) ops e h L=some q↔∃ n,eX (dB D n) (bP D n) ops e h L=some q:=by
 intro ops e h L q;refine⟨?_,fun⟨n,hx⟩=>mM (aGH n) (aJC n) _ _ _ _ _ hx⟩;induction ops generalizing e h L with
 | nil=>exact fun hx=>⟨0,hx⟩
 | cons o ops ih =>
   intro hx;simp only[eX]at hx ⊢;split at hx
   ·split at hx
    ·rename_i hl
     simp only[hl,AAe];simp only[H6]at hx ⊢;obtain⟨s,h1,h2⟩:=hx;obtain⟨n,h1⟩:=aDy.1 h1;split at h2
     ·rename_i hp
      obtain⟨m,h2⟩:=ih h2;exact⟨max n m,s,mN (iN D AM).1 (iN D AM).2 h1,by rw[if_pos hp];exact mM (iN D AM).1 (iN D AM).2 _ _ _ _ _ h2⟩
     ·simp at h2
    ·simp at hx
   ·exact ih hx
   ·simp at hx

section
variable{K k:Nat}{rd:Option Nat}{e:aH}{h:XH}
theorem SB:execW D K k rd .skip e h=some (.normal,e,h):=aT.2 ⟨0,rfl⟩
theorem SC{id:Nat}:execW D K k rd (.exit id) e h=some (.exit id,e,h):=aT.2 ⟨0,rfl⟩
theorem SA:execW D K k rd .ret e h=some (.ret,e,h):=aT.2 ⟨0,rfl⟩
theorem aCz{fz:List (Nat×Bool)}{ops:List DOper}:execW D K k rd (.reg fz false ops) e h=(fA (runW D) (runYW D) ops (fzX fz e h).1 (fzX fz e h).2).map fun r=>(.normal,r.1,r.2):=jO fun q=>by
 rw[aT];simp only[bC,C6,AAd,A0,aFO];exact⟨fun⟨n,a,h1,h2⟩=>⟨a,⟨n,h1⟩,h2⟩,fun⟨a,⟨n,h1⟩,h2⟩=>⟨n,a,h1,h2⟩⟩
theorem aCA{fz:List (Nat×Bool)}{ops:List DOper}:execW D K k rd (.reg fz true ops) e h=(eX (runW D) (runYW D) ops (fzX fz e h).1 (fzX fz e h).2 []).map fun r=>(.normal,r.1,r.2):=jO fun q=>by
 rw[aT];simp only[bC,AAe,A0,aDx];exact⟨fun⟨n,a,h1,h2⟩=>⟨a,⟨n,h1⟩,h2⟩,fun⟨a,⟨n,h1⟩,h2⟩=>⟨n,a,h1,h2⟩⟩

def uV(r:Option (DX×aH×XH))(f:aH→XH→Option (DX×aH×XH)):Option (DX×aH×XH):=match r with
 | some (.normal,e,h)=>f e h
 | r=>r
theorem SE(f:aH→XH→Option (DX×aH×XH))(e:aH)(h:XH):uV (some (.normal,e,h)) f=f e h:=rfl
theorem SF(f:aH→XH→Option (DX×aH×XH))(id:Nat)(e:aH)(h:XH):uV (some (.exit id,e,h)) f=some (.exit id,e,h):=rfl
theorem SG(f:aH→XH→Option (DX×aH×XH))(e:aH)(h:XH):uV (some (.ret,e,h)) f=some (.ret,e,h):=rfl
theorem oI{r:Option (DX×aH×XH)}{f:aH→XH→Option (DX×aH×XH)}{q:DX×aH×XH}:uV r f=some q↔(∃ e h,r=some (.normal,e,h)∧f e h=some q)∨(q.1 ≠ .normal∧r=some q):=by
 unfold uV;split
 ·rename_i e h
  constructor;·exact fun hf=>.inl ⟨e,h,rfl,hf⟩
  ·rintro (⟨e',h',h1,h2⟩|⟨h1,h2⟩)
   ·simp only[oSI,B4,AAk]at h1;obtain⟨rfl,rfl⟩:=h1;exact h2
   ·simp only[oSI]at h2;subst h2;exact absurd rfl h1
 ·rename_i hne
  constructor
  ·intro hr
   refine .inr ⟨fun hq=>?_,hr⟩;obtain⟨x,e,h⟩:=q;simp only at hq;subst hq;exact hne e h hr
  ·rintro (⟨e',h',h1,h2⟩|⟨h1,h2⟩)
   ·exact absurd h1 (hne e' h')
   ·exact h2
theorem aLb{run:eP}{runY:fS}{n:Nat}{a b:XCode}:bC run runY K k n rd (.seq a b) e h=uV (bC run runY K k n rd a e h) (bC run runY K k n rd b):=rfl
theorem S9{a b:XCode}:execW D K k rd (.seq a b) e h=uV (execW D K k rd a e h) (execW D K k rd b):=jO fun q=>by
 rw[aT];simp only[aLb,oI,aT];constructor
 ·rintro ⟨n,⟨e1,h1,h2,h3⟩|⟨h1,h2⟩⟩
  ·exact .inl ⟨e1,h1,⟨n,h2⟩,⟨n,h3⟩⟩
  ·exact .inr ⟨h1,n,h2⟩
 ·rintro (⟨e1,h1,⟨n,h2⟩,⟨m,h3⟩⟩|⟨h1,n,h2⟩)
  ·exact⟨max n m,.inl ⟨e1,h1,fL D K k rd a e h n _ _ AM h2,fL D K k rd b e1 h1 m _ _ AM h3⟩⟩
  ·exact⟨n,.inr ⟨h1,h2⟩⟩
theorem aIt{c:AO}{a b:XCode}:execW D K k rd (.cond c a b) e h=match aK e c with
 | .bool true=>execW D K k rd a e h
 | .bool false=>execW D K k rd b e h
 | _=>none:=jO fun q=>by
 rw[aT];simp only[bC];cases aK e c with
 | bool t=>cases t<;>simp only[aT]
 | _=>simp
def wL(id:Nat)(r:Option (DX×aH×XH)):Option (DX×aH×XH):=match r with
 | some (.exit j,e',h')=>if j=id then some (.normal,e',h') else some (.exit j,e',h')
 | r=>r
theorem SI(id:Nat)(e:aH)(h:XH):wL id (some (.normal,e,h))=some (.normal,e,h):=rfl
theorem SJ(id:Nat)(e:aH)(h:XH):wL id (some (.ret,e,h))=some (.ret,e,h):=rfl
theorem SK(id j:Nat)(e:aH)(h:XH):wL id (some (.exit j,e,h))=if j=id then some (.normal,e,h) else some (.exit j,e,h):=rfl
theorem SD{id:Nat}{a:XCode}:execW D K k rd (.block id a) e h=wL id (execW D K k rd a e h):=jO fun q=>by
 have he:∀ n,bC (dB D n) (bP D n) K k n rd (.block id a) e h=wL id (bC (dB D n) (bP D n) K k n rd a e h):=fun _=>rfl;rw[aT];simp only[he];constructor
 ·rintro ⟨n,hn⟩
  cases hx:bC (dB D n) (bP D n) K k n rd a e h with
  | none=>rw[hx]at hn;simp[wL]at hn
  | some s=>rw[aT.2 ⟨n,hx⟩,←hx];exact hn
 ·intro hq
  cases hx:execW D K k rd a e h with
  | none=>rw[hx]at hq;simp[wL]at hq
  | some s =>
    obtain⟨n,hn⟩:=aT.1 hx;exact⟨n,by rw[hn,←hx];exact hq⟩
theorem wD{L:List Nat}{a:XCode}:execW D K k rd (.loop L a) e h=uV (execW D K k rd a (qH k L e h) (nG k L e h)) (execW D K k rd (.loop L a)):=jO fun q=>by
 have he:∀ n m e h,lX (bC (dB D n) (bP D n) K k n rd a) k L (m+1) e h=uV (bC (dB D n) (bP D n) K k n rd a (qH k L e h) (nG k L e h)) (lX (bC (dB D n) (bP D n) K k n rd a) k L m):=fun n m e h=>rfl;rw[aT,oI];constructor
 ·rintro ⟨n,hn⟩
  have hn:lX (bC (dB D n) (bP D n) K k n rd a) k L n e h=some q:=hn;cases n with
  | zero=>simp[lX]at hn
  | succ n =>
    rw[he,oI]at hn;rcases hn with ⟨e1,h1,h2,h3⟩|⟨h1,h2⟩;·exact .inl ⟨e1,h1,aT.2 ⟨n+1,h2⟩,aT.2 ⟨n+1,pV (fun _ _ _ h=>h) n (n+1) AM _ _ _ h3⟩⟩
    ·exact .inr ⟨h1,aT.2 ⟨n+1,h2⟩⟩
 ·rintro (⟨e1,h1,h2,h3⟩|⟨h1,h2⟩)
  ·obtain⟨n,h2⟩:=aT.1 h2
   obtain⟨m,h3⟩:=aT.1 h3;have h3:lX (bC (dB D m) (bP D m) K k m rd a) k L m e1 h1=some q:=h3;refine⟨max n m+1,?_⟩;show lX _ k L (max n m+1) e h=some q;rw[he,oI];refine .inl ⟨e1,h1,fL D K k rd a _ _ n _ _ AM h2,?_⟩;exact pV (fun e h q hq=>fL D K k rd a e h m _ _ AM hq) m (max n m) AM _ _ _ h3
  ·obtain⟨n,h2⟩:=aT.1 h2
   refine⟨n+1,?_⟩;show lX _ k L (n+1) e h=some q;rw[he,oI];exact .inr ⟨h1,fL D K k rd a _ _ n _ _ AM h2⟩

def aGl(n:Nat)(e:aH)(r:Option (AV×XH)):Option (DX×aH×XH):=match r with
 | some (_,h')=>match gS h' n with
   | some .ready=>some (.normal,e,h'.set n none)
   | some (.done x)=>some (x,e,h'.set n none)
   | _=>none
 | none=>none
theorem aLc{site:Nat}{L:List Nat}{f:AO}{ps:List Nat}{a b:XCode}:execW D K k rd (.rng site L f ps a b) e h=if zQ rd h&&zP (aK e f) then
 aGl h.length e (fM (runW D) (runYW D) (aK e f) [.fn (.yield h.length) [] []] (h++[some (.loop K site (L.map e) .ready)])) else none:=jO fun q=>by
 rw[aT]
 have he:∀ n,bC (dB D n) (bP D n) K k n rd (.rng site L f ps a b) e h=if zQ rd h&&zP (aK e f) then
  aGl h.length e (fM (dB D n) (bP D n) (aK e f) [.fn (.yield h.length) [] []] (h++[some (.loop K site (L.map e) .ready)])) else none:=fun _=>rfl
 simp only[he];split
 ·constructor
  ·rintro ⟨n,hn⟩
   cases hx:fM (dB D n) (bP D n) (aK e f) [.fn (.yield h.length) [] []] (h++[some (.loop K site (L.map e) .ready)])with
   | none=>rw[hx]at hn;simp[aGl]at hn
   | some s=>rw[zZ.2 ⟨n,hx⟩,←hx];exact hn
  ·intro hq
   cases hx:fM (runW D) (runYW D) (aK e f) [.fn (.yield h.length) [] []] (h++[some (.loop K site (L.map e) .ready)])with
   | none=>rw[hx]at hq;simp[aGl]at hq
   | some s =>
     obtain⟨n,hn⟩:=zZ.1 hx;exact⟨n,by rw[hn,←hx];exact hq⟩
 ·simp
end

theorem aMU{c:Option Nat}{K:Nat}{d:XFn}{k:Nat}{e:aH}{h:XH}{q:AV×XH}:gV c d.res d.ownR k (execW D K k none d.body e h)=some q↔∃ n,gV c d.res d.ownR k (bC (dB D n) (bP D n) K k n none d.body e h)=some q:=by
 constructor
 ·intro hq
  cases hx:execW D K k none d.body e h with
  | none=>rw[hx]at hq;simp[gV]at hq
  | some s =>
    obtain⟨n,hn⟩:=aT.1 hx;exact⟨n,by rw[hn,←hx];exact hq⟩
 ·rintro ⟨n,hn⟩
  cases hx:bC (dB D n) (bP D n) K k n none d.body e h with
  | none=>rw[hx]at hn;simp[gV]at hn
  | some s=>rw[aT.2 ⟨n,hx⟩,←hx];exact hn
theorem aMI{K:Nat}{d:XFn}(hD:D K=some d){as:List AV}(hl:as.length≤d.N)(h:XH)(hdf:d.dfr=none)(hg:lK K=true)(hpr:d.prm=none:=by rfl):runW D K as h=aDm d.res (execW D K h.length none d.body (aV (if d.ownA then as else lO as)) h):=jO fun q=>by
 rw[dI];have he:∀ n,dB D (n+1) K as h=aDm d.res (bC (dB D n) (bP D n) K h.length n none d.body (aV (if d.ownA then as else lO as)) h):=fun n=>by
  rw[dB];unfold aBg;rw[hD];simp only[hpr,hl,AAe,hdf,hg,aHK]
 constructor
 ·rintro ⟨n,hn⟩
  cases n with
  | zero=>simp[dB]at hn
  | succ n =>
    rw[he]at hn;cases hx:bC (dB D n) (bP D n) K h.length n none d.body (aV (if d.ownA then as else lO as)) h with
    | none=>rw[hx]at hn;simp[aDm]at hn
    | some s=>rw[aT.2 ⟨n,hx⟩,←hx];exact hn
 ·intro hq
  cases hx:execW D K h.length none d.body (aV (if d.ownA then as else lO as)) h with
  | none=>rw[hx]at hq;simp[aDm]at hq
  | some s =>
    obtain⟨n,hn⟩:=aT.1 hx;exact⟨n+1,by rw[he,hn,←hx];exact hq⟩
theorem dS{K:Nat}{d:XFn}(hD:D K=some d){as:List AV}(hl:as.length≤d.N)(h:XH)(hdf:d.dfr=none)(hpr:d.prm=none:=by rfl)(hg:lK K=false:=by rfl):runW D K as h=gV none d.res d.ownR h.length (execW D K h.length none d.body (aV (if d.ownA then as else lO as)) h):=jO fun q=>by
 rw[dI,aMU];have he:∀ n,dB D (n+1) K as h=gV none d.res d.ownR h.length (bC (dB D n) (bP D n) K h.length n none d.body (aV (if d.ownA then as else lO as)) h):=fun n=>by
  rw[dB];unfold aBg;rw[hD];simp only[hpr,hl,AAe,hdf,hg,aHK]
 constructor
 ·rintro ⟨n,hn⟩
  cases n with
  | zero=>simp[dB]at hn
  | succ n=>rw[he]at hn;exact⟨n,hn⟩
 ·rintro ⟨n,hn⟩
  exact⟨n+1,by rw[he];exact hn⟩
theorem eL{K:Nat}{d:XFn}(hD:D K=some d){f:List AV→XH→Option (AV×XH)}(hp:d.prm=some f)(as:List AV)(h:XH):runW D K as h=f as h:=jO fun q=>by
 rw[dI];have he:∀ n,dB D (n+1) K as h=f as h:=fun n=>by
  rw[dB];unfold aBg;rw[hD];simp only[hp]
 constructor
 ·rintro ⟨n,hn⟩
  cases n with
  | zero=>simp[dB]at hn
  | succ n=>rw[he]at hn;exact hn
 ·intro hq
  exact⟨1,by rw[he];exact hq⟩
def aKi(l k:Nat)(r:Option (DX×aH×XH)):Option (AV×XH):=match r with
 | some (x,_,h2)=>match gS h2 l with
   | some .busy=>some (match x with
     | .normal=>nD true k (.bool true) (loopTo h2 l .ready)
     | x=>nD true k (.bool false) (loopTo h2 l (.done x)))
   | _=>none
 | none=>none
def aHp(l:Nat)(r:Option (DX×aH×XH))(f:aH→XH→Option (AV×XH)):Option (AV×XH):=match r with
 | some (.normal,e1,h1)=>match gS h1 l with
   | some .ready=>f e1 (loopTo h1 l .busy)
   | _=>none
 | _=>none
theorem aBC{K:Nat}{d:XFn}(hD:D K=some d){l site:Nat}{vs:List AV}{h:XH}(hl:hat h l=some (.loop K site vs .ready)){L ps:List Nat}{a b:XCode}(hs:dZ d.body site=some (L,ps,a,b)){as:List AV}(hn:as.length=ps.length) :
 runYW D (.fn (.yield l) [] []) as h=aHp l (execW D K h.length (some l) a (pR (bH L vs) ps as) h) fun e1 h1=>aKi l h.length (execW D K h.length (some l) b e1 h1):=jO fun q=>by
 rw[tT];have he:∀ n,bP D (n+1) (.fn (.yield l) [] []) as h=aHp l (bC (dB D n) (bP D n) K h.length n (some l) a (pR (bH L vs) ps as) h) fun e1 h1=>aKi l h.length (bC (dB D n) (bP D n) K h.length n (some l) b e1 h1):=fun n=>by
  rw[bP];unfold aDD;simp only[hl,hD,E7,hs,hn,AAe];rfl
 constructor
 ·rintro ⟨n,hn⟩
  cases n with
  | zero=>simp[bP]at hn
  | succ n =>
    rw[he]at hn;unfold aHp at hn ⊢;split at hn
    ·rename_i e1 h1 hx
     rw[aT.2 ⟨n,hx⟩];simp only;split at hn
     ·rename_i hst
      simp only at hn;cases hx2:bC (dB D n) (bP D n) K h.length n (some l) b e1 (loopTo h1 l .busy)with
      | none=>rw[hx2]at hn;simp[aKi]at hn
      | some s=>rw[aT.2 ⟨n,hx2⟩,←hx2];exact hn
     ·simp at hn
    ·simp at hn
 ·intro hq
  unfold aHp at hq;split at hq
  ·rename_i e1 h1 hx
   obtain⟨n,hn⟩:=aT.1 hx;split at hq
   ·rename_i hst
    simp only at hq;cases hx2:execW D K h.length (some l) b e1 (loopTo h1 l .busy)with
    | none=>rw[hx2]at hq;simp[aKi]at hq
    | some s =>
      obtain⟨m,hm⟩:=aT.1 hx2;refine⟨max n m+1,?_⟩;rw[he];have e1':=fL D K h.length (some l) a (pR (bH L vs) ps as) h n (max n m) _ AM hn;have e2':=fL D K h.length (some l) b e1 (loopTo h1 l .busy) m (max n m) _ AM hm;simp only at e1' e2';unfold aHp;simp only[e1',hst,e2'];rw[←hx2];exact hq
   ·simp at hq
  ·simp at hq
def aR(P:Program)(p:Nat×XFn):Prop:=aRJ P p.1 p.2.fn∧(okD p.2=true∧(gQ p.2 p.2.body∧p.2.prm=none))
theorem aU{P:Program}{p:Nat×XFn}{l:List (Nat×XFn)}(h:aR P p)(hl:∀ q∈l,aR P q):∀ q∈p::l,aR P q:=fun q hq=>by
 rcases B3.1 hq with rfl|hq;·exact h
 ·exact hl q hq
theorem bBA{P:Program}:∀ q∈([]:List (Nat×XFn)),aR P q:=fun _ h=>nomatch h
def aGU:List (Nat×XFn)→Nat→Option XFn
 | [],_=>none
 | (k,d)::r,K=>match Nat.beq K k with
   | true=>some d
   | false=>aGU r K
theorem pB{K:Nat}{d:XFn}:∀{l:List (Nat×XFn)},aGU l K=some d→(K,d)∈l
 | [],h=>by simp[aGU]at h
 | (k,e)::r,h=>by
   simp only[aGU]at h;split at h
   ·rename_i hb
    have:=Nat.eq_of_beq_eq_true hb;simp only[oSI]at h;subst h this;exact aE2 ..
   ·exact E5 _ (pB h)
structure RM where
 fz:List (Nat×List (Nat×Bool))
 lv:List (List Nat)
 sv:List (List Nat)
def aXW(r:Nat):List (Nat×List (Nat×Bool))→List (Nat×Bool)
 | []=>[]
 | (k,l)::t=>if k=r then l else aXW r t
def aKL{α:Type}(d:α):List α→Nat→α
 | [],_=>d
 | a::_,0=>a
 | _::t,n+1=>aKL d t n
structure MS where
 r:Nat
 l:Nat
 s:Nat
 acc:List XCode
def mkC(m:RM)(ls:List XCode):DCode→MS→XCode×MS
 | .skip,s=>(.skip,s)
 | .reg d ops,s=>(.reg (aXW s.r m.fz) d ops,⟨s.r+1,s.l,s.s,s.acc⟩)
 | .seq a b,s=>match mkC m ls a s with|(x,s)=>match mkC m ls b s with|(y,s)=>(.seq x y,s)
 | .cond c a b,s=>match mkC m ls a s with|(x,s)=>match mkC m ls b s with|(y,s)=>(.cond c x y,s)
 | .block id a,s=>match mkC m ls a s with|(x,s)=>(.block id x,s)
 | .loop a,s=>match mkC m ls a s with|(x,s)=>(aKL (.loop (aKL [] m.lv s.l) x) ls s.l,⟨s.r,s.l+1,s.s,s.acc++[.loop (aKL [] m.lv s.l) x]⟩)
 | .scope a,s=>match mkC m ls a s with|(x,s)=>(.scope x,s)
 | .rng f ps a b,s=>match mkC m ls a ⟨s.r,s.l,s.s+1,s.acc⟩with|(x,s1)=>match mkC m ls b s1 with|(y,s2)=>(.rng s.s (aKL [] m.sv s.s) f ps x y,s2)
 | .exit id,s=>(.exit id,s)
 | .ret,s=>(.ret,s)
noncomputable def mkG(P:Program)(fn:Func)(m:RM)(oa or:Bool)(ls:List XCode):XFn×List XCode:=match fn.body with
 | none=>(⟨0,[],oa,or,.skip,none,none⟩,[])
 | some c=>match aHa P fn.ntmps c with
   | none=>(⟨0,[],oa,or,.skip,none,none⟩,[])
   | some (dfr,b)=>match mkC m ls b ⟨0,0,0,[]⟩with
     | (x,s)=>(⟨fn.ntmps,(fn.results.toList.mapM (aAC P)).getD [],oa,or,x,dfr,none⟩,s.acc)
noncomputable def mkF(P:Program)(fn:Func)(m:RM)(oa or:Bool)(ls:List XCode):XFn:=(mkG P fn m oa or ls).1
noncomputable def mkL(P:Program)(fn:Func)(m:RM)(j:Nat)(ls:List XCode):XCode:=aKL .skip (mkG P fn m false false ls).2 j
end
section
open Go.RowKit
variable{P:Program}{D:Nat→Option XFn}

theorem SH.none:SH D (fun _=>Option.none) (fun _=>Option.none) [] noH :=
 ⟨fun b c hb=>by simp at hb,fun b c c' x y hx=>by simp[hat]at hx,fun b x hx=>by simp[hat]at hx,GhR.no fun b st p hx=>by simp[hat]at hx⟩

theorem aZr(ok:XOk P D){n K:Nat}{as:List AV}{v:AV}{h':XH}(hrun:dB D n K as []=some (v,h'))(has:∀ a∈as,Gd a)(hv:Gd v){w:World}{vs:Array Value}(gi:GI (fun b=>b<w.heap.size) w)(hA:Args (fun b=>b<w.heap.size) w as vs) :
 Calls P K vs w fun e w'=>∃ F' q,e = .returned q∧Rv F' w' v q∧Below w.heap.size w w':=by
 have hfn:=(mF ok n ⟨fun b=>b<w.heap.size,w,gi⟩ (fun _=>Option.none) (fun l i h=>by simp at h)).1 (fun _=>Option.none) [] noH K as as v h' SH.none (RnL.self fun a ha=>(has a ha).rn) hrun;have hc:=hfn.2 (fun b=>b<w.heap.size) w vs (Up.refl _ _) ⟨fun b hb=>hb,fun b x hb=>by simp[noH]at hb,fun b x hb=>by simp[noH]at hb⟩ hA;refine(callsIn_wide.1 hc).mono ?_;rintro e w' ⟨q,v',F',H',rfl,h1,h2,h3,r',_,_,h4⟩;obtain⟨rfl,_⟩:=h4.same hv.gr;exact⟨F',q,rfl,h3,h1.io.os,h1.io.tape,h1.io.output,h1.le,fun k hk=>h1.same k hk (by simp[qV,noH])⟩

theorem aQm{F:Nat→Prop}{w:World}{b:Bool}{q:Value}(h:Rv F w (.bool b) q):q = .bool b:=by cases h;rfl

section
variable{H:Type}{enc:TypeId×Value→H}

theorem aCT(hl:laidOutB P=true){W W':World}(hb:Below W.heap.size W W'):∀(ts:List TypeId)(vs:List Value)(ds:List (DataW H))(ps:List MemPlace),(ts.all fun t=>P.readableRec t&&decide (t<P.types.size))=true →
 (∀ x∈ps,x.block<W.heap.size)→DataW.TrodAll enc P W 0 (fun _=>true) true ts vs ds ps→DataW.TrodAll enc P W' 0 (fun b=>decide (b<W.heap.size)) true ts vs ds ps
 | [],[],[],ps,_,_,h=>h
 | t::ts,v::vs,d::ds,ps,ht,hlt,h=>by
   obtain⟨p,q,h1,h2,rfl⟩:=h;simp only[O8,A3,AAg]at ht;exact⟨p,q,Below.trod hl ht.1.1 ht.1.2 h1 hb (fun x hx=>hlt x (by simp[hx])),aCT hl hb ts vs ds q ht.2 (fun x hx=>hlt x (by simp[hx])) h2,rfl⟩
 | [],[],_::_,_,_,_,h=>h.elim
 | [],_::_,_,_,_,_,h=>h.elim
 | _::_,[],_,_,_,_,h=>h.elim
 | _::_,_::_,[],_,_,_,h=>h.elim

theorem aNL(hl:laidOutB P=true){f:Func}{s:ChangeSpec}{W W':World}{args:Array Value}{ds gs:List (DataW H)}{before:List MemPlace}{t:TypeId}
 (hW:DataW.Whole enc P f.params.toList s.vars false W args.toList ds gs before) (hv:s.vars=[]) (hs:(s.fn H (ds++gs)).results=[.lit (.bool true)]) (hs2:(s.fn H (ds++gs)).args=ds) (hs3:(s.fn H (ds++gs)).vars=[])
 (ht:f.resultTypes = #[t]) (hu:P.underlying t=some .bool) (hp:(f.params.toList.all fun t=>P.readableRec t&&decide (t<P.types.size))=true) (hb:Below W.heap.size W W') :
 s.post enc P f false true false false W args (.bool true) W':=by
 have hlt:=hW.lt;have hW0:=hW;obtain⟨p,q,h1,h2,rfl,h4,h5⟩:=hW;rw[hv]at h2;cases gs with
 | cons g gs=>exact h2.elim
 | nil =>
   have hq:q=[]:=h2;subst hq;refine⟨ds,[],p++[],[],p,[],hW0,?_,?_,?_,?_,fun h=>by cases h⟩
   ·rw[hs,ht]
    exact⟨[],[],RowKit.shut_bool hu true,rfl,rfl⟩
   ·rw[hs2]
    exact aCT hl hb _ _ _ _ hp (fun x hx=>hlt x (by simp[hx])) h1
   ·rw[hs3,hv]
    exact rfl
   ·exact World.keptBut_mono (fun x hx=>⟨by simpa using hx,.inr (.inl hx)⟩) (hb.frame (· ∈ p))
end
variable{P:Program}{H:Type}{enc:TypeId×Value→H}{w:World}{spare:Nat→Bool}{held:Bool}

inductive CT where
 | int (k:IntKind)
 | bool
 | str
 | sl (r:List CT)

inductive Sh:CT→AV→Prop where
 | int (k:IntKind) (n:Int) (h:(Lit.int k n).wf=true):Sh (.int k) (.int k n)
 | bool (b:Bool):Sh .bool (.bool b)
 | str (s:ByteArray) (h:s.size≤maxLen):Sh .str (.str s)
 | sl (r:List CT) (rows:List (List AV)) (hl:∀ row∈rows,row.length=r.length) (hn:rows.length≤maxLen) (h:∀ row∈rows,∀(i:Nat)(c:CT)(a:AV),r[i]?=some c→row[i]?=some a→Sh c a):Sh (.sl r) (.fs rows)

inductive Flat(P:Program):TypeId→List CT→Prop where
 | int {t:TypeId} {k:IntKind} (h:P.underlying t=some (.int k)):Flat P t [.int k]
 | bool {t:TypeId} (h:P.underlying t=some .bool):Flat P t [.bool]
 | str {t:TypeId} (h:P.underlying t=some .string):Flat P t [.str]
 | sl {t e:TypeId} {r:List CT} (h:P.underlying t=some (.slice e)) (he:Flat P e r) (hc:P.cellsOf e=r.length) (h0:0<r.length):Flat P t [.sl r]
 | struct {t:TypeId} {fs:Array Field} (rs:List (List CT)) (h:P.underlying t=some (.struct fs)) (hl:rs.length=fs.size) (hf:∀(i:Nat)(f:Field)(r:List CT),fs[i]?=some f→rs[i]?=some r→Flat P f.type r)
  (hc:∀(i:Nat)(f:Field)(r:List CT),fs[i]?=some f→rs[i]?=some r→P.cellsOf f.type=r.length∧f.offset=((rs.take i).flatten).length) (ht:P.cellsOf t=rs.flatten.length):Flat P t rs.flatten
 | array {t e:TypeId} {n:Nat} {r:List CT} (h:P.underlying t=some (.array n e)) (he:Flat P e r) (hc:P.cellsOf e=r.length) (ht:P.cellsOf t=n*r.length):Flat P t (List.replicate n r).flatten

inductive DecL(F:Nat→Prop)(w:World):List CT→List AV→List Value→Prop where
 | nil:DecL F w [] [] []
 | cons {c:CT} {a:AV} {v:Value} {cs:List CT} {as:List AV} {vs:List Value} (h1:Sh c a) (h2:Rv F w a v) (h3:v.oneCell'=true) (h:DecL F w cs as vs):DecL F w (c::cs) (a::as) (v::vs)
theorem DecL.append{F:Nat→Prop}{cs cs':List CT}{as as':List AV}{vs vs':List Value}(h:DecL F w cs as vs)(h':DecL F w cs' as' vs'):DecL F w (cs++cs') (as++as') (vs++vs'):=by
 induction h with
 | nil=>exact h'
 | cons h1 h2 h3 _ ih=>exact .cons h1 h2 h3 ih
theorem DecL.len{F:Nat→Prop}{cs:List CT}{as:List AV}{vs:List Value}(h:DecL F w cs as vs):as.length=cs.length∧vs.length=cs.length:=by
 induction h with
 | nil=>exact⟨rfl,rfl⟩
 | cons _ _ _ _ ih=>simp[ih]
theorem DecL.sh{F:Nat→Prop}{cs:List CT}{as:List AV}{vs:List Value}(h:DecL F w cs as vs):∀(i:Nat)(c:CT)(a:AV),cs[i]?=some c→as[i]?=some a→Sh c a:=by
 induction h with
 | nil=>intro i c a h;simp at h
 | cons h1 _ _ _ ih =>
   intro i c a h2 h3;cases i with
   | zero=>simp only[D0,oSI]at h2 h3;rw[←h2,←h3];exact h1
   | succ i=>exact ih i c a (by simpa using h2) (by simpa using h3)
theorem DecL.rv{F:Nat→Prop}{cs:List CT}{as:List AV}{vs:List Value}(h:DecL F w cs as vs):∀(i:Nat)(a:AV)(v:Value),as[i]?=some a→vs[i]?=some v→Rv F w a v∧v.oneCell'=true:=by
 induction h with
 | nil=>intro i c a h;simp at h
 | cons h1 h4 h5 _ ih =>
   intro i c a h2 h3;cases i with
   | zero=>simp only[D0,oSI]at h2 h3;rw[←h2,←h3];exact⟨h4,h5⟩
   | succ i=>exact ih i c a (by simpa using h2) (by simpa using h3)

theorem trod_array{fuel:Nat}{t e:TypeId}{n:Nat}{cs:List Value}{x:DataW H×List MemPlace}(ht:P.underlying t=some (.array n e))(h:DataW.trod enc P w 0 spare held fuel t cs=some x) :
 cs.length=P.cellsOf t∧∃ m,∀ i,i<n→∃ y,DataW.trod enc P w 0 spare held m e ((cs.drop (i*P.cellsOf e)).take (P.cellsOf e))=some y:=by
 cases fuel with
 | zero=>simp[DataW.trod]at h
 | succ m =>
   unfold DataW.trod at h;rw[ht]at h;split at h<;>simp_all
   obtain⟨hl,xs,hp,hd⟩:=h;refine⟨m,fun i hi=>?_⟩;have hlen:=mapM_some_length hp;have:=mapM_some_get hp i i (by simp[hi]);rw[A4 (by rw[hlen];simpa using hi)]at this;exact⟨_,_,this⟩

theorem aCM{b o:Nat}{sp:Option Nat}{v:Value}(h:w.cell? ⟨b,o,sp⟩=some v):sp=none∧b<w.heap.size:=by
 unfold World.cell? at h;split at h
 ·rename_i c _ _ hb
  refine⟨?_,?_⟩
  ·cases sp with
   | none=>rfl
   | some s=>simp at h
  ·simp only at hb
   by_cases hs:b<w.heap.size;·exact hs
   ·rw[J2 AM]at hb;simp at hb
 ·simp at h
theorem aRG{b o i j:Nat}:((⟨b,o,none⟩:Addr).add i).add j=⟨b,o+i+j,none⟩:=by
 unfold Addr.add;by_cases hi:i=0<;>by_cases hj:j=0<;>simp[hi,hj]

theorem aHM{t:TypeId}{tys:List CT}(hf:Flat P t tys):∀{fuel:Nat}{cs:List Value}{x:DataW H×List MemPlace},DataW.trod enc P w 0 spare held fuel t cs=some x→∃ as,DecL (fun b=>b<w.heap.size) w tys as cs:=by
 induction hf with
 | int h =>
   intro fuel cs x hx;obtain⟨n,rfl,_,hw⟩:=DataW.trod_int h hx;exact⟨_,.cons (.int _ n hw) (.int _ n) rfl .nil⟩
 | bool h =>
   intro fuel cs x hx;obtain⟨b,rfl,_⟩:=DataW.trod_bool h hx;exact⟨_,.cons (.bool b) (.bool b) rfl .nil⟩
 | str h =>
   intro fuel cs x hx;obtain⟨s,rfl,_,hs⟩:=DataW.trod_string h hx;exact⟨_,.cons (.str s hs) (.str s) rfl .nil⟩
 | @sl t e r h he hc h0 ih =>
   intro fuel cs x hx;rcases DataW.trod_slice h hx with ⟨rfl,_⟩|⟨a,len,cap,elems,rest,n,_,rfl,_,_,hlc,hcm,hel,hg,_,_⟩;·exact⟨_,.cons (.sl r [] (by simp) (by simp) (by simp)) (.fs0 none 0) rfl .nil⟩
   ·rcases I4 len with hz|hz
    ·subst hz
     exact⟨_,.cons (.sl r [] (by simp) (by simp) (by simp)) (.fs0 (some a) cap) rfl .nil⟩
    ·have hrow:∀ i,∃ p:List AV×List Value,i<len→DecL (fun b=>b<w.heap.size) w r p.1 p.2∧w.cells? 0 (a.add (i*r.length)) r.length=some p.2:=by
      intro i;by_cases hi:i<len
      ·have:=hg i hi
       rw[A4 AM,hc,H6]at this;obtain⟨vs,h1,h2⟩:=this;obtain⟨as,h3⟩:=ih h2;exact⟨(as,vs),fun _=>⟨h3,h1⟩⟩
      ·exact⟨([],[]),fun hh=>absurd hh hi⟩
     obtain⟨f,hfr⟩:=Classical.axiomOfChoice hrow;obtain⟨blk,off,sp⟩:=a;have hsp:sp=none∧blk<w.heap.size:=by
      obtain⟨h1,h2⟩:=hfr 0 hz;obtain⟨_,h4,h5⟩:=World.cells?_some h2;have h6:=h5 0 h0;rw[A4 AM]at h6;simp only[aI1]at h6;unfold Addr.add at h6;simp only[AAe]at h6;exact aCM h6
     obtain⟨rfl,hblk⟩:=hsp;have hcell:∀ i,i<len→∀ j,j<r.length→w.cell? ⟨blk,off+i*r.length+j,none⟩=(f i).2[j]?:=by
      intro i hi j hj;obtain⟨_,h2⟩:=hfr i hi;obtain⟨_,_,h5⟩:=World.cells?_some h2;rw[←h5 j hj,aRG]
     have hrl:((List.range len).map fun i=>(f i).1).length=len:=by simp
     have hget:∀(i:Nat)(row:List AV),((List.range len).map fun i=>(f i).1)[i]?=some row→i<len∧row=(f i).1:=by
      intro i row hh;rw[A6,A0]at hh;obtain⟨k,h1,h2⟩:=hh;rw[A2]at h1;obtain⟨h3,h4⟩:=h1;simp only[List.length_range]at h3;simp only[List.getElem_range]at h4;subst h4;exact⟨h3,h2.symm⟩
     refine⟨[.fs ((List.range len).map fun i=>(f i).1)],.cons (.sl r _ ?_ ?_ ?_) ?_ rfl .nil⟩
     ·intro row hm
      simp only[D6,J7]at hm;obtain⟨i,hi,rfl⟩:=hm;exact(hfr i hi).1.len.1
     ·rw[hrl];omega
     ·intro row hm
      simp only[D6,J7]at hm;obtain⟨i,hi,rfl⟩:=hm;exact(hfr i hi).1.sh
     ·have:=Rv.fs (F:=fun b=>b<w.heap.size) (w:=w) ((List.range len).map fun i=>(f i).1) blk off r.length cap (fun i j=>if i<len∧j<r.length then ((f i).2[j]?).getD (.bool false) else .bool false)
       (by rw[hrl];exact hlc) hblk ?_ ?_ ?_ ?_
      ·rw[hrl]at this;exact this
      ·intro row hm
       simp only[D6,J7]at hm;obtain⟨i,hi,rfl⟩:=hm;exact(hfr i hi).1.len.1
      ·intro i row j c h1 h2
       obtain⟨hi,rfl⟩:=hget i row h1;have hl:=(hfr i hi).1.len;have hj:j<r.length:=by
        rw[A2]at h2;obtain⟨h3,_⟩:=h2;omega
       rw[hcell i hi j hj,if_pos ⟨hi,hj⟩,A4 AM];rfl
      ·intro i j
       by_cases hij:i<len∧j<r.length
       ·rw[if_pos hij]
        have hl:=(hfr i hij.1).1.len;rw[A4 AM];simp only[H7];exact((hfr i hij.1).1.rv j _ _ (A4 AM) (A4 AM)).2
       ·rw[if_neg hij];rfl
      ·intro i row j c h1 h2
       obtain⟨hi,rfl⟩:=hget i row h1;have hl:=(hfr i hi).1.len;have hj:j<r.length:=by
        rw[A2]at h2;obtain⟨h3,_⟩:=h2;omega
       rw[if_pos ⟨hi,hj⟩,A4 AM];exact((hfr i hi).1.rv j c _ h2 (A4 AM)).1
 | @struct t fs rs h hl hf hc ht ih =>
   intro fuel cs x hx;obtain⟨xs,n,_,_,hlen,hxs,hfld⟩:=DataW.trod_struct h hx;have key:∀ k,k≤rs.length→∃ as,DecL (fun b=>b<w.heap.size) w (rs.take k).flatten as (cs.take ((rs.take k).flatten).length):=by
    intro k;induction k with
    | zero=>intro _;exact⟨[],by simpa using DecL.nil⟩
    | succ k ihk =>
      intro hk;obtain⟨as,h1⟩:=ihk AM;have hr:rs[k]?=some rs[k]:=A4 AM;have hfk:fs[k]?=some fs[k]:=D8 AM;obtain⟨c1,c2⟩:=hc k _ _ hfk hr;have h2:=hfld k _ hfk;rw[A4 AM]at h2;obtain⟨as',h3⟩:=ih k _ _ hfk hr h2;refine⟨as++as',?_⟩;rw[I7,hr,Option.toList_some,aF8,B6,aJ3];simp only[I3,aC7,I5];rw[c1,c2]at h3;exact h1.append h3
   obtain⟨as,h1⟩:=key rs.length (A8 _);rw[aD1,←ht,←hlen,aD1]at h1;exact⟨as,h1⟩
 | @array t e n r h he hc ht ih =>
   intro fuel cs x hx;obtain⟨hlen,m,hy⟩:=trod_array h hx;have key:∀ k,k≤n→∃ as,DecL (fun b=>b<w.heap.size) w (List.replicate k r).flatten as (cs.take (k*r.length)):=by
    intro k;induction k with
    | zero=>intro _;exact⟨[],by simpa using DecL.nil⟩
    | succ k ihk =>
      intro hk;obtain⟨as,h1⟩:=ihk AM;obtain⟨y,h2⟩:=hy k AM;obtain⟨as',h3⟩:=ih h2;refine⟨as++as',?_⟩;rw[List.replicate_succ',aF8,aA6,aJ3];simp only[I3,aC7,I5,aI8];rw[hc]at h3;exact h1.append h3
   obtain⟨as,h1⟩:=key n (A8 _);rw[←ht,←hlen,aD1]at h1;exact⟨as,h1⟩

def FF(P:Program):Nat→List Field→List (List CT)→Prop
 | _,[],[]=>True
 | o,f::fs,r::rs=>Flat P f.type r∧P.cellsOf f.type=r.length∧f.offset=o∧FF P (o+r.length) fs rs
 | _,_,_=>False
theorem FF.get:∀{o:Nat}{fs:List Field}{rs:List (List CT)},FF P o fs rs→rs.length=fs.length∧∀(i:Nat)(f:Field)(r:List CT),fs[i]?=some f→rs[i]?=some r→Flat P f.type r∧P.cellsOf f.type=r.length∧f.offset=o+((rs.take i).flatten).length
 | o,[],[],_=>⟨rfl,fun i f r h=>by simp at h⟩
 | o,f::fs,r::rs,h=>by
   obtain⟨h1,h2,h3,h4⟩:=h;obtain⟨l1,l2⟩:=FF.get h4;refine⟨by simp[l1],fun i f' r' e1 e2=>?_⟩;cases i with
   | zero =>
     simp only[D0,oSI]at e1 e2;subst e1;subst e2;exact⟨h1,h2,by simpa using h3⟩
   | succ i =>
     obtain⟨k1,k2,k3⟩:=l2 i f' r' (by simpa using e1) (by simpa using e2);refine⟨k1,k2,?_⟩;rw[k3,List.take_succ_cons,I3,B6];omega
 | _,[],_::_,h=>h.elim
 | _,_::_,[],h=>h.elim
theorem Flat.mk{t:TypeId}{fs:Array Field}{rs:List (List CT)}(h:P.underlying t=some (.struct fs))(hf:FF P 0 fs.toList rs)(ht:P.cellsOf t=rs.flatten.length):Flat P t rs.flatten:=by
 obtain⟨l1,l2⟩:=hf.get;refine .struct rs h (by simpa using l1) (fun i f r h1 h2=>(l2 i f r (by simpa using h1) h2).1) (fun i f r h1 h2=>?_) ht;obtain⟨_,k2,k3⟩:=l2 i f r (by simpa using h1) h2;exact⟨k2,by simpa using k3⟩

theorem Sh.gd{c:CT}{a:AV}(h:Sh c a):Gd a:=by
 induction h with
 | int k n h=>exact .int k n
 | bool b=>exact .bool b
 | str s h=>exact .str s
 | sl r rows hl hn h ih =>
   refine .fs rows fun row hr c hc=>?_;obtain⟨i,hi,he⟩:=List.mem_iff_getElem.1 hc;have hi':i<r.length:=by rw[←hl row hr];exact hi
   exact ih row hr i r[i] c (A4 hi') (by rw[A4 hi,he])

theorem aAV{t:TypeId}{c:CT}(hf:Flat P t [c]){v:Value}(hv:v.cells.toList=[v]){d:DataW H}{ps:List MemPlace}(hd:DataW.Trod enc P w 0 spare held t v d ps) :
 ∃ a,Sh c a∧Rv (fun b=>b<w.heap.size) w a v:=by
 obtain⟨fuel,h⟩:=hd;rw[hv]at h;obtain⟨as,h1⟩:=aHM hf h;cases h1 with
 | cons h1 h2 h3 h4=>exact⟨_,h1,h2⟩

theorem aNK{D:Nat→Option XFn}(ok:XOk P D){K:Nat}{as:List AV}(hrun:runW D K as []=some (.bool true,[]))(has:∀ a∈as,Gd a){vs:Array Value}(gi:GI (fun b=>b<w.heap.size) w)(hA:Args (fun b=>b<w.heap.size) w as vs) :
 Calls P K vs w fun e w'=>e = .returned (.bool true)∧Below w.heap.size w w':=by
 obtain⟨n,hn⟩:=dI.1 hrun;refine(aZr ok hn has (.bool true) gi hA).mono ?_;rintro e w' ⟨F',q,rfl,h1,h2⟩;exact⟨by rw[aQm h1],h2⟩
variable{P:Program}{D:Nat→Option XFn}{F F':Nat→Prop}{w w':World}{H:Hp}

theorem pU{b:Nat}{o:Obj}(h:w.heap[b]?=some o):b<w.heap.size:=by
 rcases Nat.lt_or_ge b w.heap.size with h1|h1;·exact h1
 ·rw[J2 h1]at h;cases h

theorem Up.below(hs:∀ b,F b→F' b)(hl:∀ b,F b→b<w.heap.size)(hb:Below w.heap.size w w'):Up F w F' w' :=
 ⟨hs,fun b h=>hb.block b (hl b h),fun b c e fr h=>⟨c,e,fr,by rw[hb.block b (pU h)];exact h,rfl⟩,hb.size⟩

theorem Ext.below(hs:∀ b,F b→F' b)(hn:∀ b,F' b→F b∨w.heap.size≤b)(hb:Below w.heap.size w w'):Ext F w H F' w' H where
 sub:=hs
 fnew:=fun b h=>(hn b h).elim .inl fun h=>.inr (.inr h)
 hdom:=fun _ h=>.inl h
 hnew:=fun _ h=>.inl h
 le:=hb.size
 same:=fun b h _=>hb.block b h
 cells:=fun b c e fr h=>⟨c,e,fr,by rw[hb.block b (pU h)];exact h,rfl⟩
 io:=⟨hb.os,hb.tape,hb.output⟩

theorem St.below(hs:∀ b,F b→F' b)(hn:∀ b,F' b→F b∨w.heap.size≤b)(hl:∀ b,F' b→b<w'.heap.size)(st:St F w H)(hb:Below w.heap.size w w'):St F' w' H :=
 ⟨hl,fun b x h hf=>by
  obtain⟨o,h1,_⟩:=st.blk b x h;rcases hn b hf with h2|h2;·exact st.dis b x h h2
  ·have:=pU h1;omega,
 fun b x h=>by
  obtain⟨o,h1,h2⟩:=st.blk b x h;exact⟨o,by rw[hb.block b (pU h1)];exact h1,h2.up (Up.below hs st.lt hb)⟩⟩

theorem FnW.shelfG{B:Base}{f:FuncId}{as:List AV}{v:AV}{Q:AV→Hp→Prop}
 (hq:∀(vs:Array Value)(w:World),(callFunc f vs).run P w = .ok (.enter f vs) w)
 (hc:∀(F:Nat→Prop)(w:World)(vs:Array Value),GI F w→(∀ b,F b→b<w.heap.size)→Args F w as vs→Calls P f vs w fun e w'=>∃ r F',e = .returned r∧Below w.heap.size w w' ∧
  (∀ b,F b→F' b)∧(∀ b,F' b→F b∨w.heap.size≤b)∧(∀ b,F' b→b<w'.heap.size)∧Rv F' w' v r)
 (hQ:Q v H):FnW B P f as H Q :=
 ⟨hq,fun F w vs hB st ha=>callsIn_wide.2 ((hc F w vs (B.gi.up hB) st.lt ha).mono fun e w' ⟨r,F',he,hb,hs,hn,hl,hr⟩=>⟨r,v,F',H,he,Ext.below hs hn hb,St.below hs hn hl st hb,hr,hQ⟩)⟩

theorem FnW.shelfN{B:Base}{f:FuncId}{as:List AV}{v:AV}{Q:AV→Hp→Prop}
 (hq:∀(vs:Array Value)(w:World),(callFunc f vs).run P w = .ok (.enter f vs) w)
 (hc:∀(F:Nat→Prop)(w:World)(vs:Array Value),(∀ b,F b→b<w.heap.size)→Args F w as vs→Calls P f vs w fun e w'=>∃ r F',e = .returned r∧Below w.heap.size w w' ∧
  (∀ b,F b→F' b)∧(∀ b,F' b→F b∨w.heap.size≤b)∧(∀ b,F' b→b<w'.heap.size)∧Rv F' w' v r)
 (hQ:Q v H):FnW B P f as H Q :=
 ⟨hq,fun F w vs _ st ha=>callsIn_wide.2 ((hc F w vs st.lt ha).mono fun e w' ⟨r,F',he,hb,hs,hn,hl,hr⟩=>⟨r,v,F',H,he,Ext.below hs hn hb,St.below hs hn hl st hb,hr,hQ⟩)⟩

theorem FnW.shelf{B:Base}{f:FuncId}{as:List AV}{v:AV}{r:Array Value→Value}{Q:AV→Hp→Prop}
 (hq:∀(vs:Array Value)(w:World),(callFunc f vs).run P w = .ok (.enter f vs) w)
 (hr:∀(F:Nat→Prop)(w:World)(vs:Array Value),Rv F w v (r vs))
 (hc:∀(F:Nat→Prop)(w:World)(vs:Array Value),(∀ b,F b→b<w.heap.size)→Args F w as vs→Calls P f vs w fun e w'=>e = .returned (r vs)∧Below w.heap.size w w')
 (hQ:Q v H):FnW B P f as H Q :=
 FnW.shelfN hq (fun F w vs hl ha=>(hc F w vs hl ha).mono fun e w' ⟨he,hb⟩=>⟨r vs,F,he,hb,fun _ h=>h,fun _ h=>.inl h,fun b h=>G4 (hl b h) hb.size,hr _ _ _⟩) hQ

theorem Args.cons1{F:Nat→Prop}{w:World}{a:AV}{as:List AV}{vs:Array Value}(h:Args F w (a::as) vs):∃ v vs',vs = #[v]++vs'∧Rv F w a v∧Args F w as vs':=by
 obtain⟨hl,h⟩:=h;rcases vs with ⟨_|⟨v,r⟩⟩;·simp at hl
 ·refine⟨v,r.toArray,by simp,h 0 a v rfl (by simp),by simpa using hl,fun i x y hx hy=>h (i+1) x y (by simpa using hx) (by simpa using hy)⟩
theorem Args.nil1{F:Nat→Prop}{w:World}{vs:Array Value}(h:Args F w [] vs):vs = #[]:=by
 have:=h.1;rcases vs with ⟨_|⟨v,r⟩⟩;·rfl
 ·simp at this
theorem Args.strInt{F:Nat→Prop}{w:World}{s:ByteArray}{k:IntKind}{n:Int}{vs:Array Value}(h:Args F w [.str s,.int k n] vs):vs = #[.string s,.int k n]:=by
 obtain⟨a,as,rfl,h1,h2⟩:=h.cons1;obtain⟨b,bs,rfl,h3,h4⟩:=h2.cons1;cases h1;cases h3;rw[h4.nil1];rfl
theorem Args.strStr{F:Nat→Prop}{w:World}{s t:ByteArray}{vs:Array Value}(h:Args F w [.str s,.str t] vs):vs = #[.string s,.string t]:=by
 obtain⟨a,as,rfl,h1,h2⟩:=h.cons1;obtain⟨b,bs,rfl,h3,h4⟩:=h2.cons1;cases h1;cases h3;rw[h4.nil1];rfl
end
section
abbrev I(n:Int):AV:=.int .i64 n
theorem aI{n:Int}(h1 : -9223372036854775808≤n)(h2:n≤9223372036854775807):IntKind.i64.wrap n=n:=by
 simp[IntKind.wrap,IntKind.bits,IntKind.signed];omega
def wI(k:Nat)(L:List Nat)(e:aH)(h:XH):List AV:=lR (keepS k (dC k (L.map e) h)) (L.map e)
def dL(k:Nat)(L:List Nat)(r:Option (DX×aH×XH)):Option (List AV×XH):=match r with
 | some (.normal,e,h)=>some (wI k L e h,nG k L e h)
 | _=>none
theorem SL(k:Nat)(L:List Nat)(e:aH)(h:XH):dL k L (some (.normal,e,h))=some (wI k L e h,nG k L e h):=rfl
def aFu(r:Option (DX×aH×XH)):Bool:=match r with
 | some (.normal,_,_)=>false
 | some _=>true
 | none=>false

theorem aS{D:Nat→Option XFn}{K k:Nat}{rd:Option Nat}{L:List Nat}{a:XCode}{e:aH}{h:XH}(n:Nat)(S:Nat→List AV)(G:Nat→XH)(h0:dL k L (some (.normal,e,h))=some (S 0,G 0))
 (hs:∀ i,i<n→dL k L (execW D K k rd a (bH L (S i)) (G i))=some (S (i+1),G (i+1))) (hl:aFu (execW D K k rd a (bH L (S n)) (G n))=true) :
 execW D K k rd (.loop L a) e h=execW D K k rd a (bH L (S n)) (G n):=by
 have key:∀(m i:Nat)(e:aH)(h:XH),m+i=n→dL k L (some (.normal,e,h))=some (S i,G i)→execW D K k rd (.loop L a) e h=execW D K k rd a (bH L (S n)) (G n):=by
  intro m;induction m with
  | zero =>
    intro i e h hi h0;have:i=n:=AM
    subst this;rw[wD];simp only[dL,oSI,B4]at h0;have e1:qH k L e h=bH L (S i):=by rw[←h0.1];rfl
    rw[e1,h0.2];revert hl;cases execW D K k rd a (bH L (S i)) (G i)with
    | none=>intro hl;rfl
    | some q =>
      obtain⟨x,e',h'⟩:=q;cases x with
      | normal=>intro hl;simp[aFu]at hl
      | exit id=>intro _;rfl
      | ret=>intro _;rfl
  | succ m ih =>
    intro i e h hi h0;rw[wD];simp only[dL,oSI,B4]at h0;have e1:qH k L e h=bH L (S i):=by rw[←h0.1];rfl
    rw[e1,h0.2];have h1:=hs i AM;revert h1;cases execW D K k rd a (bH L (S i)) (G i)with
    | none=>intro h1;simp[dL]at h1
    | some q =>
      obtain⟨x,e',h'⟩:=q;cases x with
      | normal=>intro h1;exact ih (i+1) e' h' AM h1
      | exit id=>intro h1;simp[dL]at h1
      | ret=>intro h1;simp[dL]at h1
 exact key n 0 e h AM h0
section
variable{run:eP}{runY:fS}{d:Option Nat}{e:aH}{h:XH}{ix:Nat}{r:List DOper}{D:Nat→Option XFn}{K k:Nat}{rd:Option Nat}{m:Option (List (Nat×Nat))}{op:DOp}{v:AV}

theorem Za{j:Nat}:upd e k v j=if j=k then v else e j:=rfl
theorem Zb:aW e (some k) v=upd e k v:=rfl
theorem Zc:aW e none v=e:=rfl
theorem Zd{α β:Type}{a:α}{b:β}:(a,b).fst=a:=rfl
theorem Ze{α β:Type}{a:α}{b:β}:(a,b).snd=b:=rfl

def aOo(r:Option (aH×XH)):Option (DX×aH×XH):=r.map fun r=>(.normal,r.1,r.2)
theorem Zf:aOo (some (e,h))=some (.normal,e,h):=rfl
def xo(m:Option (List (Nat×Nat)))(run:eP)(runY:fS)(ops:List DOper)(e:aH)(h:XH):Option (aH×XH):=match m with
 | none=>fA run runY ops e h
 | some L=>eX run runY ops e h L
def aTs(m:Option (List (Nat×Nat)))(run:eP)(runY:fS)(ops:List DOper)(p:aH×XH):Option (DX×aH×XH):=aOo (xo m run runY ops p.1 p.2)
theorem Zg{ops:List DOper}:aTs m run runY ops (e,h)=aOo (xo m run runY ops e h):=rfl
theorem Zh{ops:List DOper}:execW D K k rd (.reg [] false ops) e h=aOo (xo none (runW D) (runYW D) ops e h):=aCz
theorem Zi{ops:List DOper}:execW D K k rd (.reg [] true ops) e h=aOo (xo (some []) (runW D) (runYW D) ops e h):=aCA
theorem Zj{a:Nat×Bool}{fz:List (Nat×Bool)}{ops:List DOper}:execW D K k rd (.reg (a::fz) false ops) e h=aTs none (runW D) (runYW D) ops (fzX (a::fz) e h):=aCz
theorem Zk{a:Nat×Bool}{fz:List (Nat×Bool)}{ops:List DOper}:execW D K k rd (.reg (a::fz) true ops) e h=aTs (some []) (runW D) (runYW D) ops (fzX (a::fz) e h):=aCA
theorem Zl:xo m run runY [] e h=some (e,h):=by cases m<;>rfl

def lkM(q:Bool)(k:AV):Option ABlk→Option (Option AV)
 | some (.map _ es)=>aO q k es
 | _=>none
def kV(m:Option (List (Nat×Nat)))(run:eP)(runY:fS)(r:List DOper)(d:Option Nat)(e:aH)(h:XH):Option AV→Option (aH×XH)
 | some v=>xo m run runY r (aW e d v) h
 | none=>none
theorem Zm:kV m run runY r d e h (some v)=xo m run runY r (aW e d v) h:=rfl
def kE(m:Option (List (Nat×Nat)))(run:eP)(runY:fS)(r:List DOper)(d:Option Nat)(e:aH)(h:XH)(g:Bool):Option Eff→Option (aH×XH)
 | some (.val v)=>xo m run runY r (aW e d v) h
 | some (.new own x f)=>xo m run runY r (aW e d (f h.length)) (qU h own g x)
 | none=>none
theorem Zn{g:Bool}:kE m run runY r d e h g (some (.val v))=xo m run runY r (aW e d v) h:=rfl
theorem Zo{g:Bool}{own:Option Nat}{x:ABlk}{f:Nat→AV}:kE m run runY r d e h g (some (.new own x f))=xo m run runY r (aW e d (f h.length)) (qU h own g x):=rfl
theorem aNO{g:Bool}{q:Option Eff}:(match q with
 | some (.val v)=>some (aW e d v,h)
 | some (.new own x f)=>some (aW e d (f h.length),qU h own g x)
 | none=>none).bind (fun s=>xo m run runY r s.1 s.2)=kE m run runY r d e h g q:=by cases q with
 | none=>rfl
 | some q=>cases q<;>rfl
theorem vK (h1:dG run runY d op e h=match aD op e (aG h)with
 | some (.val v)=>some (aW e d v,h)
 | some (.new own x f)=>some (aW e d (f h.length),qU h own (iP op e h) x)
 | none=>none) (h2:∀ L,aKN ix op e L=L) (h3:∀ L,sN op e h L=true) (h4:∀ L h',aAO op e h h' L=true) :
 xo m run runY (⟨ix,d,op,none⟩::r) e h=kE m run runY r d e h (iP op e h) (aD op e (aG h)):=by
 rw[←aNO];cases m with
 | none=>simp only[xo,fA,gd,h1]
 | some L=>simp only[xo,eX,gd,h1,h2,h3,h4,AAe]

def pK(q:Option AV):Option Eff:=q.map .val
theorem qT{q:Option AV} (h1:dG run runY d op e h=match aD op e (aG h)with
 | some (.val v)=>some (aW e d v,h)
 | some (.new own x f)=>some (aW e d (f h.length),qU h own (iP op e h) x)
 | none=>none) (h5:aD op e (aG h)=pK q) (h2:∀ L,aKN ix op e L=L) (h3:∀ L,sN op e h L=true) (h4:∀ L h',aAO op e h h' L=true) :
 xo m run runY (⟨ix,d,op,none⟩::r) e h=kV m run runY r d e h q:=by
 rw[vK h1 h2 h3 h4,h5];cases q<;>rfl
def aJs(c a b:AV):Option AV:=match c with
 | .bool t=>some (if t then a else b)
 | _=>none
def aYh(neg:Bool)(x y:AV):Option AV:=match x,y with
 | .bool a,.bool b=>some (.bool (if neg then a != b else a==b))
 | _,_=>none
def aTI(x:AV):Option AV:=match x with
 | .bool b=>some (.bool !b)
 | _=>none
def aOy(k:IntKind)(x:AV):Option AV:=match x with
 | .int _ n=>some (.int k (k.wrap n))
 | _=>none
def aRn(off:Nat)(x:AV):Option AV:=match x with
 | .pt b o=>some (.pt b (o+off))
 | .fp r i o=>some (.fp r i (o+off))
 | _=>none
def aKP(q:Bool)(x:AV):Option AV:=match q,x with
 | true,.str s=>some (.int .i64 (s.size:Int))
 | false,.fs rows=>some (.int .i64 (rows.length:Int))
 | false,.sl _ _ _ n=>some (.int .i64 (n:Int))
 | false,.nilsl=>some (.int .i64 0)
 | _,_=>none
def aNT(s:Nat)(x i:AV):Option AV:=match x,i with
    | .sl b o s' len,.int _ n=>if s'=s∧0≤n∧n<(len:Int) then some (.pt b (o+n.toNat*s)) else none
    | .fs rows,.int _ n=>if 0≤n∧n<(rows.length:Int)∧(rows.getD n.toNat []).length=s then some (.fp rows n.toNat 0) else none
    | _,_=>none
def aTY(s:Nat)(rows:List (List AV))(j:Nat):Option (List AV)→Option AV
 | some r=>if r.length=s then some (.fp rows j 0) else none
 | none=>none
def aUn(x:AV)(i:Nat):Option AV:=match x with
 | .tup vs=>vs[i]?
 | _=>none

def aNS(len s:Nat)(x i:AV):Option AV:=match x,i with
    | .pt b o,.int _ n=>if 0≤n∧n<(len:Int) then some (.pt b (o+n.toNat*s)) else none
    | .fp r j o,.int _ n=>if 0≤n∧n<(len:Int) then some (.fp r j (o+n.toNat*s)) else none
    | _,_=>none
def mmM(mx:Bool)(x y:AV):Option AV:=match x,y with
    | .int k a,.int _ b=>some (.int k (if mx then (if b>a then b else a) else (if b<a then b else a)))
    | _,_=>none
def aJP(neg:Bool)(ks:List Nat)(x y:AV):Option AV:=match x,y with
    | .agg cs,.agg ds=>(dQ ks cs ds).map fun b=>.bool (if neg then !b else b)
    | _,_=>none
def aLe(neg:Bool)(x:Option Bool):Option AV:=match x with
    | some b=>some (.bool (if neg then !b else b))
    | none=>none
def aDT(ok:Bool)(z:AV)(x:Option (Option AV)):Option AV:=match x with
    | some r=>some (sM ok z r)
    | none=>none
def aUM(x:Option (List AV)):Option AV:=match x with
    | some cs=>some (.agg cs)
    | none=>none
def aNQ(agg:Bool)(len s:Nat)(x i:AV):Option AV:=match x,i with
    | .agg cs,.int _ n=>if 0≤n∧n<(len:Int) then iF agg s cs (n.toNat*s) else none
    | _,_=>none
def aNR(x i:AV):Option AV:=match x,i with
    | .str s,.int _ n=>if 0≤n∧n<(s.size:Int) then some (.int .u8 ((s.data.toList.getD n.toNat 0).toNat:Int)) else none
    | _,_=>none
def aCd(x:AV):Option AV:=match x with
    | .pt b o=>some (.pt b o)
    | .bp b=>some (.pt b 0)
    | .fp r i o=>some (.fp r i o)
    | .ifc t v=>some (.ifc t v)
    | _=>none
def kG(m:Option (List (Nat×Nat)))(run:eP)(runY:fS)(o:DOper)(r:List DOper)(e:aH)(h:XH)(b:Bool):AV→Option (aH×XH)
 | .bool t=>if t==b then xo m run runY (o::r) e h else xo m run runY r (aW e o.dst (.tup [])) h
 | .tup _=>xo m run runY r (aW e o.dst (.tup [])) h
 | _=>none
theorem Zp{s:Nat}{b:Bool}:xo m run runY (⟨ix,d,op,some (s,b)⟩::r) e h=kG m run runY ⟨ix,d,op,none⟩ r e h b (e s):=by
 cases m with
 | none =>
   simp only[xo,fA,gd];cases e s with
   | bool t=>cases ht:t==b<;>simp[kG,xo,fA,gd,ht]
   | _=>rfl
 | some L =>
   simp only[xo,eX,gd];cases e s with
   | bool t=>cases ht:t==b<;>simp[kG,xo,eX,gd,ht]
   | _=>rfl
theorem Zq{o:DOper}:kG m run runY o r e h true (.bool true)=xo m run runY (o::r) e h:=rfl
theorem Zr{o:DOper}:kG m run runY o r e h false (.bool false)=xo m run runY (o::r) e h:=rfl
theorem Zs{q:DOp}:kG m run runY ⟨ix,d,q,none⟩ r e h true (.bool false)=xo m run runY r (aW e d (.tup [])) h:=rfl
theorem Zt{q:DOp}:kG m run runY ⟨ix,d,q,none⟩ r e h false (.bool true)=xo m run runY r (aW e d (.tup [])) h:=rfl
theorem Zu{q:DOp}{b:Bool}{vs:List AV}:kG m run runY ⟨ix,d,q,none⟩ r e h b (.tup vs)=xo m run runY r (aW e d (.tup [])) h:=rfl

theorem Zv{a:AO}:xo m run runY (⟨ix,d,.mv a,none⟩::r) e h=xo m run runY r (aW e d (aK e a)) h:=(vK rfl (fun _=>rfl) (fun _=>rfl) fun _ _=>rfl).trans rfl
theorem Zw{z:List AV}:xo m run runY (⟨ix,d,.alloc z,none⟩::r) e h=xo m run runY r (aW e d (.pt h.length 0)) (h++[some (.blk (lJ z) (.cells true z))]):=(vK rfl (fun _=>rfl) (fun _=>rfl) fun _ _=>rfl).trans rfl
theorem QD:xo m run runY (⟨ix,d,.allocb,none⟩::r) e h=xo m run runY r (aW e d (.bp h.length)) (h++[some (.blk true (.cells true [.nilpt,.nilsl]))]):=(vK rfl (fun _=>rfl) (fun _=>rfl) fun _ _=>rfl).trans rfl
theorem Zx{f:Fn}{a b:List AO}:xo m run runY (⟨ix,d,.mkf f a b,none⟩::r) e h=xo m run runY r (aW e d (.fn f (a.map (aK e)) (b.map (aK e)))) h:=(vK rfl (fun _=>rfl) (fun _=>rfl) fun _ _=>rfl).trans rfl
theorem Zy{p1:_}{p2:_}{p3:_}:xo m run runY (⟨ix,d,(DOp.pick p1 p2 p3),none⟩::r) e h=kV m run runY r d e h (aJs (aK e p1) (aK e p2) (aK e p3)):=qT rfl (by simp only[aD,pK,aJs];cases aK e p1<;>rfl) (fun _=>rfl) (fun _=>rfl) fun _ _=>rfl
theorem Zz{p1:_}:xo m run runY (⟨ix,d,(DOp.box p1),none⟩::r) e h=kE m run runY r d e h (jE (aK e p1)) (aD (DOp.box p1) e (aG h)):=vK rfl (fun _=>rfl) (fun _=>rfl) fun _ _=>rfl
theorem Z0{p1:_}{p2:_}:xo m run runY (⟨ix,d,(DOp.build p1 p2),none⟩::r) e h=kV m run runY r d e h (aUM (fZ p1 (p2.map fun p=>(p.1,p.2.1,aK e p.2.2)))):=qT rfl (by simp only[aD,pK,aUM];split<;>simp_all) (fun _=>rfl) (fun _=>rfl) fun _ _=>rfl
theorem Z8{p1:_}{p2:_}{p3:_}{p4:_}:xo m run runY (⟨ix,d,(DOp.bslice p1 p2 p3 p4),none⟩::r) e h=kE m run runY r d e h (lJ p3&&p4.all fun p=>jE (aK e p.2.2)) (aD (DOp.bslice p1 p2 p3 p4) e (aG h)):=vK rfl (fun _=>rfl) (fun _=>rfl) fun _ _=>rfl
theorem Z9{p1:_}:xo m run runY (⟨ix,d,(DOp.nilck p1),none⟩::r) e h=kV m run runY r d e h (aCd (aK e p1)):=qT rfl (by simp only[aD,pK,aCd];cases aK e p1<;>rfl) (fun _=>rfl) (fun _=>rfl) fun _ _=>rfl
theorem ZA{p1:_}{p2:_}{p3:_}:xo m run runY (⟨ix,d,(DOp.bin p1 p2 p3),none⟩::r) e h=kV m run runY r d e h (aCS p1 (aK e p2) (aK e p3)):=qT rfl (by simp only[aD,pK];cases aCS p1 (aK e p2) (aK e p3)<;>rfl) (fun _=>rfl) (fun _=>rfl) fun _ _=>rfl
theorem ZB{p1:_}{p2:_}{p3:_}{p4:_}:xo m run runY (⟨ix,d,(DOp.eqag p1 p2 p3 p4),none⟩::r) e h=kV m run runY r d e h (aJP p1 p2 (aK e p3) (aK e p4)):=qT rfl (by simp only[aD,pK,aJP];cases aK e p3<;>cases aK e p4<;>first|rfl|(simp only[];split<;>simp_all)) (fun _=>rfl) (fun _=>rfl) fun _ _=>rfl
theorem ZC{p1:_}{p2:_}{p3:_}{p4:_}:xo m run runY (⟨ix,d,(DOp.eqn p1 p2 p3 p4),none⟩::r) e h=kV m run runY r d e h (aLe p2 (yI p1 (aK e p3) (aK e p4))):=qT rfl (by simp only[aD,pK,aLe];cases yI p1 (aK e p3) (aK e p4)<;>rfl) (fun _=>rfl) (fun _=>rfl) fun _ _=>rfl
theorem ZD{p1:_}:xo m run runY (⟨ix,d,(DOp.not p1),none⟩::r) e h=kV m run runY r d e h (aTI (aK e p1)):=qT rfl (by simp only[aD,pK,aTI];cases aK e p1<;>rfl) (fun _=>rfl) (fun _=>rfl) fun _ _=>rfl
theorem ZE{p1:_}{p2:_}:xo m run runY (⟨ix,d,(DOp.conv p1 p2),none⟩::r) e h=kV m run runY r d e h (aOy p1 (aK e p2)):=qT rfl (by simp only[aD,pK,aOy];cases aK e p2<;>rfl) (fun _=>rfl) (fun _=>rfl) fun _ _=>rfl
theorem ZF{p1:_}{p2:_}:xo m run runY (⟨ix,d,(DOp.fld p1 p2),none⟩::r) e h=kV m run runY r d e h (aRn p1 (aK e p2)):=qT rfl (by simp only[aD,pK,aRn];cases aK e p2<;>rfl) (fun _=>rfl) (fun _=>rfl) fun _ _=>rfl
theorem ZG{p1:_}{p2:_}{p3:_}{p4:_}:xo m run runY (⟨ix,d,(DOp.idxa p1 p2 p3 p4),none⟩::r) e h=kV m run runY r d e h (aNS p1 p2 (aK e p3) (aK e p4)):=qT rfl (by simp only[aD,pK,aNS];cases aK e p3<;>cases aK e p4<;>first|rfl|(simp only[];split<;>rfl)) (fun _=>rfl) (fun _=>rfl) fun _ _=>rfl
theorem ZH{p1:_}{p2:_}{p3:_}:xo m run runY (⟨ix,d,(DOp.idx p1 p2 p3),none⟩::r) e h=kV m run runY r d e h (aNT p1 (aK e p2) (aK e p3)):=qT rfl (by simp only[aD,pK,aNT];cases aK e p2<;>cases aK e p3<;>first|rfl|(simp only[];split<;>rfl)) (fun _=>rfl) (fun _=>rfl) fun _ _=>rfl
theorem ZI{p1:_}{p2:_}{p3:_}{p4:_}{p5:_}:xo m run runY (⟨ix,d,(DOp.idxv p1 p2 p3 p4 p5),none⟩::r) e h=kV m run runY r d e h (aNQ p1 p2 p3 (aK e p4) (aK e p5)):=qT rfl (by simp only[aD,pK,aNQ];cases aK e p4<;>cases aK e p5<;>first|rfl|(simp only[];split<;>first|rfl|(split<;>simp_all))) (fun _=>rfl) (fun _=>rfl) fun _ _=>rfl
theorem ZJ{p1:_}{p2:_}:xo m run runY (⟨ix,d,(DOp.idxs p1 p2),none⟩::r) e h=kV m run runY r d e h (aNR (aK e p1) (aK e p2)):=qT rfl (by simp only[aD,pK,aNR];cases aK e p1<;>cases aK e p2<;>first|rfl|(simp only[];split<;>rfl)) (fun _=>rfl) (fun _=>rfl) fun _ _=>rfl
theorem ZK{p1:_}{p2:_}{p3:_}{p4:_}{p5:_}:xo m run runY (⟨ix,d,(DOp.mksl p1 p2 p3 p4 p5),none⟩::r) e h=kE m run runY r d e h (lJ p3) (aD (DOp.mksl p1 p2 p3 p4 p5) e (aG h)):=vK rfl (fun _=>rfl) (fun _=>rfl) fun _ _=>rfl
theorem ZL{p1:_}{p2:_}{p3:_}{p4:_}{p5:_}:xo m run runY (⟨ix,d,(DOp.slarr p1 p2 p3 p4 p5),none⟩::r) e h=kE m run runY r d e h false (aD (DOp.slarr p1 p2 p3 p4 p5) e (aG h)):=vK rfl (fun _=>rfl) (fun _=>rfl) fun _ _=>rfl
theorem ZM{p1:_}{p2:_}{p3:_}{p4:_}:xo m run runY (⟨ix,d,(DOp.slsl p1 p2 p3 p4),none⟩::r) e h=kE m run runY r d e h false (aD (DOp.slsl p1 p2 p3 p4) e (aG h)):=vK rfl (fun _=>rfl) (fun _=>rfl) fun _ _=>rfl
theorem ZN{p1:_}{p2:_}{p3:_}:xo m run runY (⟨ix,d,(DOp.slstr p1 p2 p3),none⟩::r) e h=kE m run runY r d e h false (aD (DOp.slstr p1 p2 p3) e (aG h)):=vK rfl (fun _=>rfl) (fun _=>rfl) fun _ _=>rfl
theorem ZO:xo m run runY (⟨ix,d,(DOp.mkmap),none⟩::r) e h=kE m run runY r d e h true (aD (DOp.mkmap) e (aG h)):=vK rfl (fun _=>rfl) (fun _=>rfl) fun _ _=>rfl
theorem ZP{p1:_}{p2:_}{p3:_}{p4:_}{p5:_}:xo m run runY (⟨ix,d,(DOp.lookup p1 p2 p3 p4 p5),none⟩::r) e h=kV m run runY r d e h (aDT p2 p3 (lG p1 (aG h) (aK e p5) (aK e p4))):=qT rfl (by simp only[aD,pK,aDT];cases lG p1 (aG h) (aK e p5) (aK e p4)<;>rfl) (fun _=>rfl) (fun _=>rfl) fun _ _=>rfl
theorem ZQ{p1:_}{p2:_}:xo m run runY (⟨ix,d,(DOp.ext p1 p2),none⟩::r) e h=kV m run runY r d e h (aUn (aK e p1) p2):=qT rfl (by simp only[aD,pK,aUn];cases aK e p1<;>first|rfl|(simp only[];split<;>simp_all)) (fun _=>rfl) (fun _=>rfl) fun _ _=>rfl
theorem ZR{p1:_}{p2:_}:xo m run runY (⟨ix,d,(DOp.len p1 p2),none⟩::r) e h=kV m run runY r d e h (aKP p1 (aK e p2)):=qT rfl (by simp only[aD,pK,aKP];cases p1<;>cases aK e p2<;>rfl) (fun _=>rfl) (fun _=>rfl) fun _ _=>rfl
theorem ZS{p1:_}{p2:_}{p3:_}:xo m run runY (⟨ix,d,(DOp.mm p1 p2 p3),none⟩::r) e h=kV m run runY r d e h (mmM p1 (aK e p2) (aK e p3)):=qT rfl (by simp only[aD,pK,mmM];cases aK e p2<;>cases aK e p3<;>rfl) (fun _=>rfl) (fun _=>rfl) fun _ _=>rfl
theorem ZT{p1:_}{p2:_}:xo m run runY (⟨ix,d,(DOp.mkifc p1 p2),none⟩::r) e h=kE m run runY r d e h false (aD (DOp.mkifc p1 p2) e (aG h)):=vK rfl (fun _=>rfl) (fun _=>rfl) fun _ _=>rfl
theorem ZU{p1:_}:xo m run runY (⟨ix,d,(DOp.bytes p1),none⟩::r) e h=kE m run runY r d e h true (aD (DOp.bytes p1) e (aG h)):=vK rfl (fun _=>rfl) (fun _=>rfl) fun _ _=>rfl
theorem ZV{a:Bool}{n:Nat}{x:AO}:xo none run runY (⟨ix,d,.load a n x,none⟩::r) e h=kV none run runY r d e h (eY a n (aG h) (aK e x)):=by
 show fA run runY _ e h=_;simp only[fA,gd,dG,aD];cases eY a n (aG h) (aK e x)<;>rfl
def aTP(ix:Nat)(v:AV)(L:List (Nat×Nat)):List (Nat×Nat):=match fB v with
 | some b=>(ix,b)::L
 | none=>L
theorem ZW{b o:Nat}{L:List (Nat×Nat)}:aTP ix (.pt b o) L=(ix,b)::L:=rfl
theorem ZX{rows:List (List AV)}{i o:Nat}{L:List (Nat×Nat)}:aTP ix (.fp rows i o) L=L:=rfl
theorem ZY{a:Bool}{n:Nat}{x:AO}{L:List (Nat×Nat)}:xo (some L) run runY (⟨ix,d,.load a n x,none⟩::r) e h=kV (some (aTP ix (aK e x) L)) run runY r d e h (eY a n (aG h) (aK e x)):=by
 show eX run runY _ e h L=_;simp only[eX,gd,dG,aD,sN,AAe];cases eY a n (aG h) (aK e x)<;>rfl

def kH(m:Option (List (Nat×Nat)))(run:eP)(runY:fS)(r:List DOper)(d:Option Nat)(e:aH)(v:AV):Option XH→Option (aH×XH)
 | some h=>xo m run runY r (aW e d v) h
 | none=>none
theorem ZZ:kH m run runY r d e v (some h)=xo m run runY r (aW e d v) h:=rfl
theorem Ya{n:Nat}{p x:AO}{l:List Nat}:xo none run runY (⟨ix,d,.store n p x l,none⟩::r) e h=kH none run runY r d e .any (nX n h (aK e p) (aK e x)):=by
 show fA run runY _ e h=_;simp only[fA,gd,dG];cases nX n h (aK e p) (aK e x)<;>rfl
def vY{α:Type}(b:Bool)(x:Option α):Option α:=if b then x else none
theorem Yb{α:Type}{x:Option α}:vY true x=x:=rfl
theorem Yc{n:Nat}{p x:AO}{l:List Nat}{L:List (Nat×Nat)}:xo (some L) run runY (⟨ix,d,.store n p x l,none⟩::r) e h=vY (L.all fun q => !l.contains q.1||fB (aK e p) != some q.2) (kH (some L) run runY r d e .any (nX n h (aK e p) (aK e x))):=by
 show eX run runY _ e h L=_;simp only[eX,gd,dG,sN,vY];cases nX n h (aK e p) (aK e x)<;>rfl
def kR(m:Option (List (Nat×Nat)))(run:eP)(runY:fS)(r:List DOper)(d:Option Nat)(e:aH):Option (AV×XH)→Option (aH×XH)
 | some (v,h)=>xo m run runY r (aW e d v) h
 | none=>none
theorem Ye:kR m run runY r d e (some (v,h))=xo m run runY r (aW e d v) h:=rfl
def aEw(s:Nat)(h:XH)(x y:AV):Option (AV×XH):=(aAX s h x y).map fun r=>(.int .i64 (r.1:Int),r.2)
theorem Yf{s:Nat}{x y:AO}:xo none run runY (⟨ix,d,.copy s x y,none⟩::r) e h=kR none run runY r d e (aEw s h (aK e x) (aK e y)):=by
 show fA run runY _ e h=_;simp only[fA,gd,dG,aEw];cases aAX s h (aK e x) (aK e y)<;>rfl
theorem Yg{q:Bool}{a k x:AO}:xo none run runY (⟨ix,d,.mapup q a k x,none⟩::r) e h=kH none run runY r d e .any (rF q h (aK e a) (aK e k) (aK e x)):=by
 show fA run runY _ e h=_;simp only[fA,gd,dG];cases rF q h (aK e a) (aK e k) (aK e x)<;>rfl
theorem Yh{f:AO}{xs:List AO}{l:List Nat}:xo none run runY (⟨ix,d,.callf false f xs l,none⟩::r) e h=kR none run runY r d e (fM run runY (aK e f) (xs.map (aK e)) h):=by
 show fA run runY _ e h=_;simp only[fA,gd,dG];cases fM run runY (aK e f) (xs.map (aK e)) h<;>rfl
def kRL(L:List (Nat×Nat))(l:List Nat)(run:eP)(runY:fS)(r:List DOper)(d:Option Nat)(e:aH)(h:XH)(ps:List Nat):Option (AV×XH)→Option (aH×XH)
 | some (v,h')=>vY (L.all fun q=>(hat h' q.2).isSome&&(!l.contains q.1||(!ps.contains q.2||aGd (hat h q.2) (hat h' q.2)))) (xo (some L) run runY r (aW e d v) h')
 | none=>none
theorem Yi{f:AO}{xs:List AO}{l:List Nat}{L:List (Nat×Nat)}:xo (some L) run runY (⟨ix,d,.callf false f xs l,none⟩::r) e h=kRL L l run runY r d e h (iG (aK e f) (xs.map (aK e)) h) (fM run runY (aK e f) (xs.map (aK e)) h):=by
 show eX run runY _ e h L=_;simp only[eX,gd,dG,sN,AAe];cases fM run runY (aK e f) (xs.map (aK e)) h<;>rfl
theorem Yj{L:List (Nat×Nat)}{l:List Nat}{h':XH}{ps:List Nat}:kRL L l run runY r d e h ps (some (v,h'))=vY (L.all fun q=>(hat h' q.2).isSome&&(!l.contains q.1||(!ps.contains q.2||aGd (hat h q.2) (hat h' q.2)))) (xo (some L) run runY r (aW e d v) h'):=rfl
theorem Yk{f:AO}{xs:List AO}{l:List Nat}:xo m run runY (⟨ix,d,.callf true f xs l,none⟩::r) e h=kV m run runY r d e h (nH run (aK e f) (xs.map (aK e)) h):=by
 cases m with
 | none =>
   show fA run runY _ e h=_;simp only[fA,gd,dG];cases nH run (aK e f) (xs.map (aK e)) h<;>rfl
 | some L =>
   show eX run runY _ e h L=_;simp only[eX,gd,dG,sN,AAe];cases nH run (aK e f) (xs.map (aK e)) h<;>rfl
theorem Yl{s b:Nat}{x y:AO}:xo none run runY (⟨ix,d,.app s b x y,none⟩::r) e h=kE none run runY r d e h (jU h (aK e x)&&jU h (aK e y)) (pG s b (aG h) (aK e x) (aK e y)):=by
 rw[←aNO];rfl

def aNn(acc:List Nat)(b:Nat):Option Nat:=fK b acc
def aOG(acc:List Nat)(run:eP)(g:Nat)(all:List AV)(h:XH):Option (AV×XH):=(run g (lR (fun b=>fK b acc) all) (hZ acc h)).map (zL acc h)
def aOH(run:eP)(g:Nat)(all:List AV)(h:XH):Bool→Option (AV×XH)
 | true=>run g all h
 | false=>aOG (gR all h) run g all h
theorem Ym{g:Nat}{first cap as:List AV}:fM run runY (.fn (.func g) first cap) as h=aOH run g (first++as++cap) h (lK g):=by
 unfold fM;dsimp only;cases lK g<;>rfl
theorem QW{g:Nat}{all:List AV}:aOH run g all h true=run g all h:=rfl
theorem QX{g:Nat}{all:List AV}:aOH run g all h false=aOG (gR all h) run g all h:=rfl
theorem QY{g:Nat}:lK g=aKM g [59,61,62,87,88,89,90,91,92,93,94,95,96,97,98,128,129,130,131,132,133,134,135,136]:=rfl
theorem QZ{g:Nat}:aKM g []=false:=rfl
theorem Pa{g k:Nat}{l:List Nat}:aKM g (k::l)=if g=k then true else aKM g l:=rfl
def kM(acc:List Nat)(h:XH)(r:Option (AV×XH)):Option (AV×XH):=r.map (zL acc h)
theorem Yn{acc:List Nat}{g:Nat}{all:List AV}:aOG acc run g all h=kM acc h (run g (lR (aNn acc) all) (hZ acc h)):=rfl
end
theorem Yo{x y:AV}:aJs (.bool true) x y=some x:=rfl
theorem Yp{x y:AV}:aJs (.bool false) x y=some y:=rfl
theorem Yq{a b:Bool}:aYh false (.bool a) (.bool b)=some (.bool (a==b)):=rfl
theorem Yr{b:Bool}:aTI (.bool b)=some (.bool !b):=rfl
theorem Ys{k k':IntKind}{n:Int}:aOy k (.int k' n)=some (.int k (k.wrap n)):=rfl
theorem Yt{off b o:Nat}:aRn off (.pt b o)=some (.pt b (o+off)):=rfl
theorem Yu{off i o:Nat}{rows:List (List AV)}:aRn off (.fp rows i o)=some (.fp rows i (o+off)):=rfl
theorem Yv{rows:List (List AV)}:aKP false (.fs rows)=some (.int .i64 (rows.length:Int)):=rfl
theorem Yw{b o s n:Nat}:aKP false (.sl b o s n)=some (.int .i64 (n:Int)):=rfl
theorem Yx:aKP false .nilsl=some (.int .i64 0):=rfl
theorem Yy{s:ByteArray}:aKP true (.str s)=some (.int .i64 (s.size:Int)):=rfl
theorem Yz{b o s s' len:Nat}{k:IntKind}{n:Int}:aNT s (.sl b o s' len) (.int k n)=if s'=s∧0≤n∧n<(len:Int) then some (.pt b (o+n.toNat*s)) else none:=rfl
theorem Y4{s:Nat}{rows:List (List AV)}{k:IntKind}{n:Int}:aNT s (.fs rows) (.int k n)=if 0≤n∧n<(rows.length:Int) then aTY s rows n.toNat rows[n.toNat]? else none:=by
 simp only[aNT,aTY];by_cases h:0≤n∧n<(rows.length:Int)
 ·have h2:n.toNat<rows.length:=AM
  rw[A4 h2,A1,A4 h2,H7];simp only[h,AAk];simp only[and_self,AAe]
 ·rw[if_neg h,if_neg (fun hc=>h ⟨hc.1,hc.2.1⟩)]
theorem Y5{s j:Nat}{rows:List (List AV)}{r:List AV}:aTY s rows j (some r)=if r.length=s then some (.fp rows j 0) else none:=rfl
theorem Y6{vs:List AV}{i:Nat}:aUn (.tup vs) i=vs[i]?:=rfl
theorem Y7{k:IntKind}{a b:Int}:gN .add k a k b=some (.int k (k.wrap (a+b))):=by simp[gN]
theorem Y8{k:IntKind}{a b:Int}:gN .sub k a k b=some (.int k (k.wrap (a-b))):=by simp[gN]
theorem Y9{k:IntKind}{a b:Int}:gN .mul k a k b=some (.int k (k.wrap (a*b))):=by simp[gN]
theorem YA{k:IntKind}{a b:Int}:gN .rem k a k b=if b=0 then none else some (.int k (a.tmod b)):=by by_cases h:b=0<;>simp[gN,h]
theorem YB{k:IntKind}{a b:Int}:gN .and k a k b=some (.int k (nU .and k a b)):=by simp[gN]
theorem YC{k:IntKind}{a b:Int}:gN .or k a k b=some (.int k (nU .or k a b)):=by simp[gN]
theorem YD{k k':IntKind}{a b:Int}:gN .shl k a k' b=if b<0 then none else some (.int k (k.wrap (a*2^min b.toNat k.bits))):=rfl
theorem YE{k:IntKind}{a b:Int}:gN .eql k a k b=some (.bool (decide (a=b))):=by simp[gN];rfl
theorem YF{k:IntKind}{a b:Int}:gN .neq k a k b=some (.bool !(decide (a=b))):=by simp[gN];rfl
theorem YG{k:IntKind}{a b:Int}:gN .lss k a k b=some (.bool (decide (a<b))):=by simp[gN]
theorem YH{k:IntKind}{a b:Int}:gN .leq k a k b=some (.bool (decide (a≤b))):=by simp[gN]
theorem YJ{k:IntKind}{a b:Int}:gN .gtr k a k b=some (.bool (decide (b<a))):=by simp[gN]
theorem YK{k:IntKind}{a b:Int}:gN .geq k a k b=some (.bool (decide (b≤a))):=by simp[gN]
theorem YL{n:Int}:(n=n)=True:=by simp
theorem YM{n:Nat}:(0≤(n:Int))=True:=by simp
theorem YN{n:Nat}:(n:Int).toNat=n:=by simp
theorem YO:IntKind.i64.wrap 0=0:=rfl
theorem YP:IntKind.i64.wrap 1=1:=rfl
theorem YQ:IntKind.i64.wrap 2=2:=rfl
theorem YR:IntKind.i64.wrap 6=6:=rfl
theorem YT:(0:Int).toNat=0:=rfl
theorem YU:((0:Nat):Int)=0:=rfl
theorem YV:(1:Int).toNat=1:=rfl
theorem YX:((1:Nat):Int)=1:=rfl
theorem YY:(2:Int).toNat=2:=rfl
theorem YZ:((2:Nat):Int)=2:=rfl
theorem Xa:(3:Int).toNat=3:=rfl
theorem Xb:((3:Nat):Int)=3:=rfl
theorem Xc:(4:Int).toNat=4:=rfl
theorem Xd:((4:Nat):Int)=4:=rfl
theorem Xe:(5:Int).toNat=5:=rfl
theorem Xf:(6:Int).toNat=6:=rfl
theorem Xg:((6:Nat):Int)=6:=rfl
theorem Xh:((7:Nat):Int)=7:=rfl
theorem Xi:((8:Nat):Int)=8:=rfl
theorem Xj:(9:Int).toNat=9:=rfl
theorem Xk{len s b o:Nat}{k:IntKind}{n:Int}:aNS len s (.pt b o) (.int k n)=if 0≤n∧n<(len:Int) then some (.pt b (o+n.toNat*s)) else none:=rfl
theorem Xl{k k':IntKind}{a b:Int}:mmM false (.int k a) (.int k' b)=some (.int k (if b<a then b else a)):=rfl
theorem Xm{neg:Bool}{ks:List Nat}{cs ds:List AV}:aJP neg ks (.agg cs) (.agg ds)=aLe neg (dQ ks cs ds):=by cases h:dQ ks cs ds<;>simp[aJP,aLe,h]
theorem Xn{b:Bool}:aLe true (some b)=some (.bool !b):=rfl
theorem Xo{b:Bool}:aLe false (some b)=some (.bool b):=rfl
theorem Xp{ok:Bool}{z:AV}{r:Option AV}:aDT ok z (some r)=some (sM ok z r):=rfl
theorem Xq{z v:AV}:sM true z (some v) = .tup [v,.bool true]:=rfl
theorem Xr{z v:AV}:sM false z (some v)=v:=rfl
theorem Xs{z:AV}:sM false z none=z:=rfl
theorem Xt{q:Bool}{b:Nat}{H:Hp}{k:AV}:lG q H k (.mp b)=lkM q k (H b):=by simp only[lG,lkM]<;>rfl
theorem Xu{q w:Bool}{k:AV}{es:List (AV×AV)}:lkM q k (some (.map w es))=aO q k es:=rfl
theorem Xv{cs:List AV}:aUM (some cs)=some (.agg cs):=rfl
theorem Xw{agg:Bool}{len s:Nat}{cs:List AV}{k:IntKind}{n:Int}:aNQ agg len s (.agg cs) (.int k n)=if 0≤n∧n<(len:Int) then iF agg s cs (n.toNat*s) else none:=rfl
theorem Xx{s:ByteArray}{k:IntKind}{n:Int}:aNR (.str s) (.int k n)=if 0≤n∧n<(s.size:Int) then some (.int .u8 ((s.data.toList.getD n.toNat 0).toNat:Int)) else none:=rfl
theorem Xy{b o:Nat}:aCd (.pt b o)=some (.pt b o):=rfl
theorem QE{b:Nat}:aCd (.bp b)=some (.pt b 0):=rfl
theorem QF{t:TypeId}{v:AV}:aCd (.ifc t v)=some (.ifc t v):=rfl
theorem Xz{k:IntKind}{n:Int}:iZ (.int k n)=([]:List Nat):=rfl
theorem XI{t:Bool}:iZ (.bool t)=([]:List Nat):=rfl
theorem XJ{t:ByteArray}:iZ (.str t)=([]:List Nat):=rfl
theorem XL{cs:List AV}:iZ (.agg cs)=(lF cs:List Nat):=rfl
theorem XM{cs:List AV}:iZ (.tup cs)=(lF cs:List Nat):=rfl
theorem XN{rows:List (List AV)}:iZ (.fs rows)=([]:List Nat):=rfl
theorem XO{b o s n:Nat}:iZ (.sl b o s n)=([b]:List Nat):=rfl
theorem XW{b o:Nat}:iZ (.pt b o)=([b]:List Nat):=rfl
theorem XX{b:Nat}:iZ (.mp b)=([b]:List Nat):=rfl
theorem XY  : iZ .nilsl=([]:List Nat):=rfl
theorem XZ  : iZ .nilpt=([]:List Nat):=rfl
theorem Wa{g:Nat}{fs us:List AV}:iZ (.fn (.func g) fs us)=(lF fs++lF us:List Nat):=rfl
theorem Wb{l:Nat}{fs us:List AV}:iZ (.fn (.yield l) fs us)=([l]++(lF fs++lF us):List Nat):=rfl
theorem Wc{ty:TypeId}{v:AV}:iZ (.ifc ty v)=(iZ v:List Nat):=rfl
theorem We  : iZ .nilifc=([]:List Nat):=rfl
theorem Wf  : iZ .any=([]:List Nat):=rfl
theorem Wg{k:IntKind}{n:Int}:jE (.int k n)=(true:Bool):=rfl
theorem Wh{t:Bool}:jE (.bool t)=(true:Bool):=rfl
theorem Wi{t:ByteArray}:jE (.str t)=(true:Bool):=rfl
theorem Wj{cs:List AV}:jE (.agg cs)=(lJ cs:Bool):=rfl
theorem Wk{rows:List (List AV)}:jE (.fs rows)=(true:Bool):=rfl
theorem Wl{b o s n:Nat}:jE (.sl b o s n)=(false:Bool):=rfl
theorem Wm{b o:Nat}:jE (.pt b o)=(false:Bool):=rfl
theorem Wn{b:Nat}:jE (.mp b)=(false:Bool):=rfl
theorem Wo  : jE .nilsl=(true:Bool):=rfl
theorem Wp  : jE .nilpt=(true:Bool):=rfl
theorem Wq{g:Nat}{fs us:List AV}:jE (.fn (.func g) fs us)=((lJ fs&&lJ us):Bool):=rfl
theorem Wr{ty:TypeId}{v:AV}:jE (.ifc ty v)=(jE v:Bool):=rfl
theorem Wt  : jE .nilifc=(true:Bool):=rfl
theorem Wu{s:Nat→Option Nat}{k:IntKind}{n:Int}:rnA s (.int k n)=((.int k n):AV):=rfl
theorem Wv{s:Nat→Option Nat}{t:Bool}:rnA s (.bool t)=((.bool t):AV):=rfl
theorem Ww{s:Nat→Option Nat}{t:ByteArray}:rnA s (.str t)=((.str t):AV):=rfl
theorem Wx{s:Nat→Option Nat}{cs:List AV}:rnA s (.agg cs)=(.agg (lR s cs):AV):=rfl
theorem Wy{s:Nat→Option Nat}{cs:List AV}:rnA s (.tup cs)=(.tup (lR s cs):AV):=rfl
theorem Wz{s:Nat→Option Nat}{rows:List (List AV)}:rnA s (.fs rows)=((.fs rows):AV):=rfl
theorem W3{s:Nat→Option Nat}{b o s2 n:Nat}:rnA s (.sl b o s2 n)=((match s b with|some c=>.sl c o s2 n|none=>.any):AV):=by simp only[rnA]<;>rfl
theorem W4{s:Nat→Option Nat}{b o:Nat}:rnA s (.pt b o)=((match s b with|some c=>.pt c o|none=>.any):AV):=by simp only[rnA]<;>rfl
theorem W5{s:Nat→Option Nat}{b:Nat}:rnA s (.mp b)=((match s b with|some c=>.mp c|none=>.any):AV):=by simp only[rnA]<;>rfl
theorem W6{s:Nat→Option Nat}  : rnA s .nilsl=(.nilsl:AV):=rfl
theorem W7{s:Nat→Option Nat}  : rnA s .nilpt=(.nilpt:AV):=rfl
theorem W8{s:Nat→Option Nat}{g:Nat}{fs us:List AV}:rnA s (.fn (.func g) fs us)=(.fn (.func g) (lR s fs) (lR s us):AV):=rfl
theorem W9{s:Nat→Option Nat}{l:Nat}{fs us:List AV}:rnA s (.fn (.yield l) fs us)=((match s l with|some c=>.fn (.yield c) (lR s fs) (lR s us)|none=>.any):AV):=by simp only[rnA]<;>rfl
theorem WA{s:Nat→Option Nat}{ty:TypeId}{v:AV}:rnA s (.ifc ty v)=(.ifc ty (rnA s v):AV):=rfl
theorem WB{s:Nat→Option Nat}  : rnA s .nilifc=(.nilifc:AV):=rfl
theorem WC{s:Nat→Option Nat}  : rnA s .any=(.any:AV):=rfl
theorem WE{k:IntKind}{n:Int}:slN (.int k n)=([]:List Nat):=rfl
theorem WF{t:Bool}:slN (.bool t)=([]:List Nat):=rfl
theorem WG{t:ByteArray}:slN (.str t)=([]:List Nat):=rfl
theorem WH{cs:List AV}:slN (.agg cs)=(slL cs:List Nat):=rfl
theorem WI{cs:List AV}:slN (.tup cs)=(slL cs:List Nat):=rfl
theorem WJ{rows:List (List AV)}:slN (.fs rows)=([]:List Nat):=rfl
theorem WK{b o s n:Nat}:slN (.sl b o s n)=([b]:List Nat):=rfl
theorem WL{b o:Nat}:slN (.pt b o)=([]:List Nat):=rfl
theorem WM  : slN .nilsl=([]:List Nat):=rfl
theorem WN  : slN .nilpt=([]:List Nat):=rfl
theorem WO{g:Nat}{fs us:List AV}:slN (.fn (.func g) fs us)=([]:List Nat):=rfl
theorem WP{ty:TypeId}{v:AV}:slN (.ifc ty v)=(slN v:List Nat):=rfl
theorem WQ  : slN .nilifc=([]:List Nat):=rfl
theorem WR{B:Nat}{C:List AV}{k:IntKind}{n:Int}:wC B C (.int k n)=((.int k n):AV):=rfl
theorem WS{B:Nat}{C:List AV}{t:ByteArray}:wC B C (.str t)=((.str t):AV):=rfl
theorem WT{B:Nat}{C:List AV}{cs:List AV}:wC B C (.agg cs)=(.agg (yV B C cs):AV):=rfl
theorem WU{B:Nat}{C:List AV}{rows:List (List AV)}:wC B C (.fs rows)=((.fs rows):AV):=rfl
theorem WV{B:Nat}{C:List AV}{b o s n:Nat}:wC B C (.sl b o s n)=((if b=B∧o+n*s≤C.length then .fs (bU C o s n) else .sl b o s n):AV):=rfl
theorem WW{B:Nat}{C:List AV}{b o:Nat}:wC B C (.pt b o)=((.pt b o):AV):=rfl
theorem WX{B:Nat}{C:List AV}{l:Nat}{fs us:List AV}:wC B C (.fn (.yield l) fs us)=((.fn (.yield l) fs us):AV):=rfl
theorem WY{k:IntKind}{n:Int}:qP (.int k n)=((.int k n):AV):=rfl
theorem WZ{t:Bool}:qP (.bool t)=((.bool t):AV):=rfl
theorem Va{t:ByteArray}:qP (.str t)=((.str t):AV):=rfl
theorem Vb{cs:List AV}:qP (.agg cs)=(.agg (lO cs):AV):=rfl
theorem Vc{cs:List AV}:qP (.tup cs)=(.tup (lO cs):AV):=rfl
theorem Vd{rows:List (List AV)}:qP (.fs rows)=((.fs rows):AV):=rfl
theorem Ve{b o s n:Nat}:qP (.sl b o s n)=((.sl b o s n):AV):=rfl
theorem Vf{b o:Nat}:qP (.pt b o)=((.pt b o):AV):=rfl
theorem Vg{b:Nat}:qP (.mp b)=((.mp b):AV):=rfl
theorem Vh  : qP .nilsl=(.fs []:AV):=rfl
theorem Vi  : qP .nilpt=(.nilpt:AV):=rfl
theorem Vj{g:Nat}{fs us:List AV}:qP (.fn (.func g) fs us)=((.fn (.func g) fs us):AV):=rfl
theorem Vk{l:Nat}{fs us:List AV}:qP (.fn (.yield l) fs us)=((.fn (.yield l) fs us):AV):=rfl
theorem Vl{ty:TypeId}{v:AV}:qP (.ifc ty v)=((.ifc ty v):AV):=rfl
theorem Vm  : qP .nilifc=(.nilifc:AV):=rfl
theorem Vn{k:IntKind}{n:Int}:cellsOf (.int k n)=(some [(.int k n)]:Option (List AV)):=rfl
theorem Vo{t:Bool}:cellsOf (.bool t)=(some [(.bool t)]:Option (List AV)):=rfl
theorem Vp{t:ByteArray}:cellsOf (.str t)=(some [(.str t)]:Option (List AV)):=rfl
theorem Vq{cs:List AV}:cellsOf (.agg cs)=(some cs:Option (List AV)):=rfl
theorem Vr{rows:List (List AV)}:cellsOf (.fs rows)=(some [(.fs rows)]:Option (List AV)):=rfl
theorem Vs{b o s n:Nat}:cellsOf (.sl b o s n)=(some [(.sl b o s n)]:Option (List AV)):=rfl
theorem Vt{b o:Nat}:cellsOf (.pt b o)=(some [(.pt b o)]:Option (List AV)):=rfl
theorem Vu{b:Nat}:cellsOf (.mp b)=(some [(.mp b)]:Option (List AV)):=rfl
theorem Vv  : cellsOf .nilsl=(some [.nilsl]:Option (List AV)):=rfl
theorem Vw{g:Nat}{fs us:List AV}:cellsOf (.fn (.func g) fs us)=(some [(.fn (.func g) fs us)]:Option (List AV)):=rfl
theorem Vx{ty:TypeId}{v:AV}:cellsOf (.ifc ty v)=(some [(.ifc ty v)]:Option (List AV)):=rfl
theorem Vy{b o s n:Nat}:fB (.sl b o s n)=(some b:Option Nat):=rfl
theorem Vz{b o:Nat}:fB (.pt b o)=(some b:Option Nat):=rfl
theorem V0  : fB .nilsl=(none:Option Nat):=rfl
def aJD(k:Nat)(acc:List Nat)(h:XH)(r:List Nat):XH:=r.map fun b=>rnO (keepS k acc) (hat h b)
def aQU(acc:List Nat)(h:XH)(r:List Nat):XH:=r.map fun b=>rnO (fun b=>fK b acc) (hat h b)
def fzQ(fz:List (Nat×Bool))(e:aH)(h:XH):List Nat:=fz.flatMap (aOh e h)
def aUe(h:XH):Option XB→List Nat
 | some (.blk false (.cells _ cs))=>jV h 2 (slL cs)
 | _=>[]
def fzD(h:XH)(v:AV):List Nat:=match v with
 | .pt b _=>match hat h b with
  | some (.blk false (.cells _ cs))=>jV h 2 (slL cs)
  | _=>[]
 | _=>[]
def kF(own:Bool)(k:Nat)(h:XH)(r:Option AV):Option (AV×XH):=r.map fun v=>nD own k v h
def aOp(k:Nat)(h:XH)(v:AV)(acc:List Nat):AV×XH:=(rnA (keepS k acc) v,lY k acc h)
def aXY(k:Nat)(p:aH×XH):AV×XH:=aOp k p.2 (qP (p.1 0)) (dC k [qP (p.1 0)] p.2)
def aMV:Option (List AV)→Option AV
 | some [v]=>some v
 | some vs=>some (.tup vs)
 | none=>none
def aMW:Option AV→Option (List AV)→Option (List AV)
 | some v,some vs=>some (v::vs)
 | _,_=>none
def aJX(v:AV)(a b:aH→XH→Option (DX×aH×XH))(e:aH)(h:XH):Option (DX×aH×XH):=match v with
 | .bool true=>a e h
 | .bool false=>b e h
 | _=>none
def ldM(agg:Bool)(n o:Nat):Option ABlk→Option AV
 | some (.cells _ cs)=>iF agg n cs o
 | _=>none
def ldR(agg:Bool)(n o:Nat):Option (List AV)→Option AV
 | some r=>iF agg n r o
 | none=>none
def stM(n b o:Nat)(h:XH):Option XB→Option (List AV)→Option XH
 | some (.blk g (.cells true cs)),some vs=>if vs.length=n∧o+n≤cs.length then some (h.set b (some (.blk (g&&lJ vs) (.cells true (bO cs o vs))))) else none
 | _,_=>none
def muM(q:Bool)(b:Nat)(h:XH)(k x:AV):Option XB→Option XH
 | some (.blk g (.map true es))=>(jN q k x es).map fun es'=>h.set b (some (.blk (g&&(jE k&&jE x)) (.map true es')))
 | _=>none
def flM:Option XB→Bool
 | some (.blk g _)=>g
 | _=>false

theorem V1{x:Option XB}{h:XH}{b:Nat}:hat (x::h) b=if b=0 then x else hat h (b-1):=by cases b<;>simp[hat]
def hpM:Option XB→Option ABlk
 | some (.blk _ x)=>some x
 | _=>none
theorem V2{h:XH}{b:Nat}:aG h b=hpM (hat h b):=rfl
theorem V3{g:Bool}{x:ABlk}:hpM (some (.blk g x))=some x:=rfl
theorem V4{α:Type}{x y:α}{h:List α}{b:Nat}:(x::h).set b y=if b=0 then y::h else x::h.set (b-1) y:=by cases b<;>simp
theorem V5{α:Type}{x:α}{l:List α}{n:Nat}:(x::l).take n=if n=0 then [] else x::l.take (n-1):=by cases n<;>simp
theorem V6{α:Type}{n:Nat}:([]:List α).take n=[]:=by simp
theorem V7{α:Type}{x:α}{l:List α}{n:Nat}:(x::l).drop n=if n=0 then x::l else l.drop (n-1):=by cases n<;>simp
theorem V8{α:Type}{n:Nat}:([]:List α).drop n=[]:=by simp
theorem V9{α:Type}{x d:α}{l:List α}{n:Nat}:(x::l).getD n d=if n=0 then x else l.getD (n-1) d:=by cases n<;>simp
theorem VA{α:Type}{x:α}{l:List α}{n:Nat}:(x::l)[n]?=if n=0 then some x else l[n-1]?:=by cases n<;>simp
theorem VB{α:Type}{a:α}:(a∈([]:List α))=False:=by simp
theorem VC{α:Type}{a b:α}{l:List α}:(a∈b::l)=(a=b∨a∈l):=by simp
theorem VD{acc:List Nat}{b:Nat}:aNn acc b=fK b acc:=rfl
theorem VE{b:Nat}:fK b []=none:=rfl
theorem VF{b c:Nat}{r:List Nat}:fK b (c::r)=if b=c then some 0 else (fK b r).map (· + 1):=rfl
theorem VG{k:Nat}{acc:List Nat}{b:Nat}:keepS k acc b=if b<k then some b else (fK b acc).map (· + k):=rfl
theorem VH{acc:List Nat}{n i:Nat}:gM acc n i=if i<acc.length then acc[i]? else some (n+(i-acc.length)):=rfl
theorem VI{h:XH}{k n:Nat}{acc:List Nat}:cY h k n [] acc=acc:=by cases n<;>rfl
def aHO(h:XH)(k n:Nat)(r:List Nat)(acc:List Nat)(b:Nat):Option XB→List Nat
 | none=>cY h k n r acc
 | some x=>cY h k n (nmB x++r) (acc++[b])
theorem VJ{h:XH}{k n:Nat}{r acc:List Nat}{b:Nat}:aHO h k n r acc b none=cY h k n r acc:=rfl
theorem VK{h:XH}{k n:Nat}{r acc:List Nat}{b:Nat}{x:XB}:aHO h k n r acc b (some x)=cY h k n (nmB x++r) (acc++[b]):=rfl
theorem VL{h:XH}{k n:Nat}{b:Nat}{r acc:List Nat}:cY h k n (b::r) acc=if n=0 then acc else if b<k∨b∈acc then cY h k (n-1) r acc else aHO h k (n-1) r acc b (hat h b):=by
 cases n with
 | zero=>rfl
 | succ n=>simp only[cY,Nat.add_one_ne_zero,AAd,aG1];cases hat h b<;>rfl
theorem VM{xs:List AV}{h:XH}:gR xs h=cY h 0 4096 (lF xs) []:=rfl
theorem VN{k:Nat}{vs:List AV}{h:XH}:dC k vs h=cY h k 4096 (lF vs++(cP k h).flatMap nmO) []:=rfl
theorem VO{n:Nat}:cP n []=List.replicate n none:=by induction n with
 | zero=>rfl
 | succ n ih=>simp[cP,ih,M0]
theorem VP{x:Option XB}{h:XH}{n:Nat}:cP n (x::h)=if n=0 then [] else x::cP (n-1) h:=by cases n<;>rfl
theorem VQ{k:Nat}{acc:List Nat}{h:XH}:lY k acc h=(cP k h).map (rnO (keepS k acc))++aJD k acc h acc:=rfl
theorem VR{k:Nat}{acc:List Nat}{h:XH}:aJD k acc h []=[]:=rfl
theorem VS{k:Nat}{acc:List Nat}{h:XH}{b:Nat}{r:List Nat}:aJD k acc h (b::r)=rnO (keepS k acc) (hat h b)::aJD k acc h r:=rfl
theorem VT{acc:List Nat}{h:XH}:hZ acc h=aQU acc h acc:=rfl
theorem VU{acc:List Nat}{h:XH}:aQU acc h []=[]:=rfl
theorem VV{acc:List Nat}{h:XH}{b:Nat}{r:List Nat}:aQU acc h (b::r)=rnO (aNn acc) (hat h b)::aQU acc h r:=rfl
theorem VW{s:Nat→Option Nat}:rnO s none=none:=rfl
theorem VX{s:Nat→Option Nat}{x:XB}:rnO s (some x)=some (rnB s x):=rfl
theorem VY{s:Nat→Option Nat}{x:ABlk}:rnB s (.blk true x) = .blk true x:=by cases x<;>rfl
theorem VZ{s:Nat→Option Nat}{w:Bool}{cs:List AV}:rnB s (.blk false (.cells w cs)) = .blk false (.cells w (lR s cs)):=rfl
theorem Pc{s:Nat→Option Nat}{st:dR}{p:Hp→Nat→Prop}:rnB s (.gh st p) = .gh st p:=rfl
theorem Ua{s:Nat→Option Nat}{K site:Nat}{vs:List AV}{st:LSt}:rnB s (.loop K site vs st) = .loop K site (lR s vs) st:=rfl
theorem Ub:nmO none=[]:=rfl
theorem Uc{x:XB}:nmO (some x)=nmB x:=rfl
theorem Ud{x:ABlk}:nmB (.blk true x)=[]:=by cases x<;>rfl
theorem Ue{w:Bool}{cs:List AV}:nmB (.blk false (.cells w cs))=lF cs:=rfl
theorem Pd{st:dR}{p:Hp→Nat→Prop}:nmB (.gh st p)=[]:=rfl
theorem Uf{K site:Nat}{vs:List AV}{st:LSt}:nmB (.loop K site vs st)=lF vs:=rfl
theorem Ug{acc:List Nat}{h hl:XH}{v:AV}:kM acc h (some (v,hl))=some (rnA (gM acc h.length) v,iT acc h hl):=rfl
theorem Uh{acc:List Nat}{h hl:XH}:iT acc h hl=uR h acc ((cP acc.length hl).map (rnO (gM acc h.length)))++(hl.drop acc.length).map (rnO (gM acc h.length)):=rfl
theorem Ui{h:XH}{xs:XH}:uR h [] xs=h:=by cases xs<;>rfl
theorem Uj{h:XH}{b:Nat}{bs:List Nat}{x:Option XB}{xs:XH}:uR h (b::bs) (x::xs)=uR (h.set b x) bs xs:=rfl
theorem Uk{a:Nat}:List.elem a []=false:=rfl
theorem Ul{a b:Nat}{l:List Nat}:List.elem a (b::l)=if a=b then true else List.elem a l:=by
 by_cases h:a=b;·simp only[List.elem,h,AAe,beq_self_eq_true]
 ·simp only[List.elem,show (a==b)=false by simpa using h,if_neg h]
theorem Um{g:Nat}{first cap as:List AV}{h:XH}:iG (.fn (.func g) first cap) as h=tZ (lK g) (first++as++cap) h:=rfl
theorem Pb{all:List AV}{h:XH}:tZ false all h=gR all h:=rfl
theorem Un{α:Type}{x:α}:(some x).isSome=true:=rfl
theorem Uo{b:Bool}:(b==true)=b:=by cases b<;>rfl
def fzE(b:Nat)(cs:List AV)(e:aH):aH:=fun j=>wC b cs (e j)
theorem Ur{b:Nat}{cs:List AV}{e:aH}{j:Nat}:fzE b cs e j=wC b cs (e j):=rfl
def aRi(b:Nat)(e:aH)(h:XH):Option XB→aH×XH
 | some (.blk true (.cells _ cs))=>(fzE b cs e,(h.map (fzO b cs)).set b none)
 | _=>(e,h)
theorem Us{b:Nat}{e:aH}{h:XH}{w:Bool}{cs:List AV}:aRi b e h (some (.blk true (.cells w cs)))=(fzE b cs e,(h.map (fzO b cs)).set b none):=rfl
theorem aUf{b:Nat}{e:aH}{h:XH}:fz1 b e h=aRi b e h (hat h b):=by
 unfold fz1 aRi;cases hat h b with
 | none=>rfl
 | some x=>cases x with
   | loop=>rfl
   | gh=>rfl
   | blk g x=>cases g<;>cases x<;>rfl
def fzP(r:List Nat)(p:aH×XH):aH×XH:=zU r p.1 p.2
theorem Ut{r:List Nat}{e:aH}{h:XH}:fzP r (e,h)=zU r e h:=rfl
theorem Uu{e:aH}{h:XH}:zU [] e h=(e,h):=rfl
theorem Uv{b:Nat}{r:List Nat}{e:aH}{h:XH}:zU (b::r) e h=fzP r (aRi b e h (hat h b)):=by rw[←aUf];rfl
def nzP(fz:List (Nat×Bool))(p:aH×XH):aH×XH:=(nzE fz p.1,p.2)
theorem Qw{fz:List (Nat×Bool)}{e:aH}{h:XH}:nzP fz (e,h)=(nzE fz e,h):=rfl
theorem Qx{e:aH}:nzE [] e=e:=rfl
theorem Qy{k:Nat}{r:List (Nat×Bool)}{e:aH}:nzE ((k,true)::r) e=nzE r e:=rfl
theorem Qz{k j:Nat}{r:List (Nat×Bool)}{e:aH}:nzE ((k,false)::r) e j=if j=k then qP (nzE r e j) else nzE r e j:=rfl
def fzY(fz:List (Nat×Bool))(e:aH)(h:XH):aH×XH:=nzP fz (zU (fzQ fz e h) e h)
theorem Uw{fz:List (Nat×Bool)}{e:aH}{h:XH}:fzX fz e h=fzY fz e (uU fz e h):=rfl
theorem Q0{fz:List (Nat×Bool)}{e:aH}{h:XH}:fzY fz e h=nzP fz (zU (fzQ fz e h) e h):=rfl
theorem QA{e:aH}{h:XH}:uU [] e h=h:=rfl
theorem QB{k:Nat}{b:Bool}{r:List (Nat×Bool)}{e:aH}{h:XH}:uU ((k,b)::r) e h=if 1000000≤k then aIU (e (k-1000000)) (uU r e h) else uU r e h:=rfl
theorem Ux{e:aH}{h:XH}:fzQ [] e h=[]:=rfl
theorem Uy{j:Nat}{r:List (Nat×Bool)}{e:aH}{h:XH}:fzQ ((j,false)::r) e h=jV h 2 (slN (e j))++fzQ r e h:=rfl
theorem Uz{j:Nat}{r:List (Nat×Bool)}{e:aH}{h:XH}:fzQ ((j,true)::r) e h=fzD h (e j)++fzQ r e h:=by
 simp only[fzQ,O4,aOh,fzD]<;>rfl
theorem U0{b o:Nat}{h:XH}:fzD h (.pt b o)=aUe h (hat h b):=rfl
theorem U6{h:XH}{w:Bool}{cs:List AV}:aUe h (some (.blk false (.cells w cs)))=jV h 2 (slL cs):=rfl
theorem U7{h:XH}{x:ABlk}:aUe h (some (.blk true x))=[]:=by cases x<;>rfl
def dpM(h:XH)(n b:Nat)(x:Option XB):List Nat:=aSA (jV h n) b x
theorem Qh{h:XH}{n:Nat}:jV h n []=[]:=by cases n<;>rfl
theorem Qi{h:XH}{b:Nat}{r:List Nat}:jV h 1 (b::r)=dpM h 0 b (hat h b)++jV h 1 r:=by simp only[jV,O4,dpM]
theorem Qj{h:XH}{b:Nat}{r:List Nat}:jV h 2 (b::r)=dpM h 1 b (hat h b)++jV h 2 r:=by simp only[jV,O4,dpM]
theorem Qk{h:XH}{n b:Nat}{w:Bool}{cs:List AV}:dpM h n b (some (.blk false (.cells w cs)))=jV h n (slL cs)++[b]:=rfl
theorem Ql{h:XH}{n b:Nat}{x:ABlk}:dpM h n b (some (.blk true x))=[b]:=by cases x<;>rfl
theorem U8{b:Nat}{cs:List AV}:fzO b cs none=none:=rfl
theorem U9{b:Nat}{cs:List AV}{x:XB}:fzO b cs (some x)=some (fzB b cs x):=rfl
theorem UA{b:Nat}{cs vs:List AV}{w:Bool}:fzB b cs (.blk false (.cells w vs)) = .blk (lJ (yV b cs vs)) (.cells w (yV b cs vs)):=rfl
theorem UB{b:Nat}{cs:List AV}{x:ABlk}:fzB b cs (.blk true x) = .blk true x:=by cases x<;>rfl
theorem Pe{b:Nat}{cs:List AV}{st:dR}{p:Hp→Nat→Prop}:fzB b cs (.gh st p) = .gh st p:=rfl
theorem UC{b:Nat}{cs vs:List AV}{K site:Nat}{st:LSt}:fzB b cs (.loop K site vs st) = .loop K site vs st:=rfl
theorem RF{cs:List AV}{o s:Nat}:bU cs o s 0=[]:=rfl
theorem RG{cs:List AV}{o s:Nat}:bU cs o s 1=(cs.drop o).take s::bU cs (o+s) s 0:=rfl
theorem RH{cs:List AV}{o s:Nat}:bU cs o s 2=(cs.drop o).take s::bU cs (o+s) s 1:=rfl
theorem RI{cs:List AV}{o s:Nat}:bU cs o s 3=(cs.drop o).take s::bU cs (o+s) s 2:=rfl
theorem RJ{cs:List AV}{o s:Nat}:bU cs o s 4=(cs.drop o).take s::bU cs (o+s) s 3:=rfl
theorem UD{res:List (Nat×Option (Bool×Nat))}{own:Bool}{k:Nat}{e:aH}{h:XH}:gV none res own k (some (.normal,e,h))=kF own k h (jD res e (aG h)):=rfl
theorem UE{res:List (Nat×Option (Bool×Nat))}{own:Bool}{k:Nat}{e:aH}{h:XH}:gV none res own k (some (.ret,e,h))=kF own k h (jD res e (aG h)):=rfl
theorem UF{own:Bool}{k:Nat}{h:XH}{v:AV}:kF own k h (some v)=some (nD own k v h):=rfl
theorem UG{k:Nat}{h:XH}{v:AV}:nD true k v h=aOp k h v (dC k [v] h):=by simp[nD,aOp,upd]
theorem UH{k:Nat}{h:XH}{v:AV}:nD false k v h=aXY k (zU (jV h 2 (slN v)) (upd anyE 0 v) h):=rfl
theorem UI{k:Nat}{h:XH}{e:aH}:aXY k (e,h)=aOp k h (qP (e 0)) (dC k [qP (e 0)] h):=rfl
theorem UJ{k:Nat}{h:XH}{v:AV}{acc:List Nat}:aOp k h v acc=(rnA (keepS k acc) v,lY k acc h):=rfl
theorem UK{rs:List (Nat×Option (Bool×Nat))}{e:aH}{h:Hp}:jD rs e h=aMV (rZ e h rs):=by unfold jD aMV;cases rZ e h rs<;>rfl
theorem UL{v:AV}:aMV (some [v])=some v:=rfl
theorem UM:aMV (some [])=some (.tup []):=rfl
theorem UN{v u:AV}{r:List AV}:aMV (some (v::u::r))=some (.tup (v::u::r)):=rfl
theorem UO{e:aH}{h:Hp}:rZ e h []=some []:=rfl
theorem UP{e:aH}{h:Hp}{x:Nat×Option (Bool×Nat)}{r:List (Nat×Option (Bool×Nat))}:rZ e h (x::r)=aMW (sA e h x) (rZ e h r):=by simp only[rZ,aMW]<;>rfl
theorem UQ{v:AV}{vs:List AV}:aMW (some v) (some vs)=some (v::vs):=rfl
theorem UR{e:aH}{h:Hp}{t:Nat}:sA e h (t,none)=some (e t):=rfl
theorem US{e:aH}{h:Hp}{a n:Nat}{g:Bool}:sA e h (a,some (g,n))=eY g n h (e a):=rfl
theorem UT{as:List AV}{k:Nat}:aV as k=as.getD k .any:=rfl
theorem UU{k:Nat}{ks:List Nat}{v:AV}{vs:List AV}{j:Nat}:bH (k::ks) (v::vs) j=if j=k then v else bH ks vs j:=rfl
theorem UV{k:Nat}{L:List Nat}{e:aH}{h:XH}:wI k L e h=lR (keepS k (dC k (L.map e) h)) (L.map e):=rfl
theorem UW{k:Nat}{L:List Nat}{e:aH}{h:XH}:nG k L e h=lY k (dC k (L.map e) h) h:=rfl
theorem UX{D:Nat→Option XFn}{K k:Nat}{rd:Option Nat}{e:aH}{h:XH}{c:AO}{a b:XCode}:execW D K k rd (.cond c a b) e h=aJX (aK e c) (execW D K k rd a) (execW D K k rd b) e h:=by
 rw[aIt];unfold aJX;cases aK e c with
 | bool t=>cases t<;>rfl
 | _=>rfl
theorem UY{a b:aH→XH→Option (DX×aH×XH)}{e:aH}{h:XH}:aJX (.bool true) a b e h=a e h:=rfl
theorem UZ{a b:aH→XH→Option (DX×aH×XH)}{e:aH}{h:XH}:aJX (.bool false) a b e h=b e h:=rfl
theorem Ta{id:Nat}{e:aH}{h:XH}:aFu (some (.exit id,e,h))=true:=rfl
theorem Tb{e:aH}{h:XH}:aFu (some (.ret,e,h))=true:=rfl
def aUC(x:AV):Option Eff:=match x with
    | .str s=>some (.new none (.cells true (s.data.toList.map fun b=>.int .u8 (b.toNat:Int))) fun b=>.sl b 0 1 s.size)
    | _=>none
def aUE:Option (List AV)→Option Eff
    | some cs=>some (.new none (.cells true cs) fun b=>.pt b 0)
    | none=>none
def aUD(s n:Nat):Option (List AV)→Option Eff
    | some cs=>some (.new none (.cells true cs) fun b=>.sl b 0 s n)
    | none=>none
def aTN(s bytes:Nat)(z:List AV)(l c:AV):Option Eff:=match l,c with
    | .int .i64 l,.int .i64 c=>if 0≤l∧l≤c∧(bytes:Int)*c≤281474976710656∧c≤9223372036854775807 then
     some (.new none (.cells true (List.replicate c.toNat z).flatten) fun b=>.sl b 0 s l.toNat) else none
    | _,_=>none
theorem Tc:(false=true)=False:=by simp
theorem Td{α β:Type}{f:α→β}{a:α}{l:List α}:(a::l).map f=f a::l.map f:=rfl
theorem Te{α β:Type}{f:α→β}:([]:List α).map f=[]:=rfl
theorem Tf{α:Type}{a:α}{l s:List α}:(a::l)++s=a::(l++s):=rfl
theorem Tg{α:Type}{s:List α}:[]++s=s:=rfl
theorem Th{α:Type}{s:List α}:s++[]=s:=by simp
theorem Ti{α β:Type}{f:α→List β}{a:α}{l:List α}:(a::l).flatMap f=f a++l.flatMap f:=by simp
theorem Tj{α β:Type}{f:α→List β}:([]:List α).flatMap f=[]:=rfl
theorem Tl{α:Type}{a:α}{l:List α}:(a::l).length=l.length+1:=rfl
theorem Tm{α:Type}:([]:List α).length=0:=rfl
theorem Tn{α β:Type}{f:α→β}{l:List α}:(l.map f).length=l.length:=by simp
theorem Tp{α β:Type}{f:α→β}{l:List α}{i:Nat}:(l.map f)[i]?=l[i]?.map f:=by simp
theorem Tq{α β:Type}{f:α→β}{a:α}:(some a).map f=some (f a):=rfl
theorem Tr{α β:Type}{f:α→β}:(none:Option α).map f=none:=rfl
theorem Ts{b:Bool}:(true&&b)=b:=by simp
theorem Tt{b:Bool}:(b&&true)=b:=by simp
theorem Tu{b:Bool}:(false&&b)=false:=by simp
theorem Tv{b:Bool}:(b&&false)=false:=by simp
theorem Tw:(!true)=false:=rfl
theorem Tx:(!false)=true:=rfl
theorem Ty{b:Bool}:(true||b)=true:=by simp
theorem Tz{b:Bool}:(b||true)=true:=by simp
theorem T0{p:Prop}:(p∧True)=p:=by simp
theorem T1{p:Prop}:(False∧p)=False:=by simp
theorem T2{p:Prop}:(p∨True)=True:=by simp
theorem T3{p:Prop}:(p∨False)=p:=by simp
theorem T4{i:Decidable True}:decide True=true:=by simp
theorem T5{i:Decidable False}:decide False=false:=by simp
theorem T6{α:Type}{f:α→Bool}:[].all f=true:=rfl
theorem T7{α:Type}{f:α→Bool}{a:α}{l:List α}:(a::l).all f=(f a&&l.all f):=rfl
theorem T8{α:Type}{a:α}:List.replicate 0 a=[]:=rfl
theorem Ry{α:Type}{a:α}:List.replicate 1 a=[a]:=rfl
theorem Rz{α:Type}{a:α}:List.replicate 2 a=[a,a]:=rfl
theorem R0{α:Type}{a:α}:List.replicate 3 a=[a,a,a]:=rfl
theorem RC{α:Type}{a:α}:List.replicate 7 a=[a,a,a,a,a,a,a]:=rfl
theorem T9:lF []=[]:=by simp only[lF]
theorem TA{v:AV}{r:List AV}:lF (v::r)=(iZ v++lF r):=by simp only[lF]
theorem TB{s:Nat→Option Nat}:lR s []=[]:=by simp only[lR]
theorem TC{s:Nat→Option Nat}{v:AV}{r:List AV}:lR s (v::r)=(rnA s v::lR s r):=by simp only[lR]
theorem TD:lJ []=true:=by simp only[lJ]
theorem TE{v:AV}{r:List AV}:lJ (v::r)=(jE v&&lJ r):=by simp only[lJ]
theorem TF:slL []=[]:=by simp only[slL]
theorem TG{v:AV}{r:List AV}:slL (v::r)=(slN v++slL r):=by simp only[slL]
theorem TH{B:Nat}{C:List AV}:yV B C []=[]:=by simp only[yV]
theorem TI{B:Nat}{C:List AV}{v:AV}{r:List AV}:yV B C (v::r)=(wC B C v::yV B C r):=by simp only[yV]
theorem TJ:lO []=[]:=by simp only[lO]
theorem TK{v:AV}{r:List AV}:lO (v::r)=(qP v::lO r):=by simp only[lO]
theorem TL{a:AV}{z cs:List AV}{off:Nat}:bO (a::z) off cs=(a::z).take off++cs++(a::z).drop (off+cs.length):=rfl
theorem TM{z:List AV}:fZ z []=some z:=rfl
def aUk(z:List AV)(off n:Nat)(rest:List (Nat×Nat×AV)):Option (List AV)→Option (List AV)
 | some cs=>if cs.length=n∧off+n≤z.length then fZ (bO z off cs) rest else none
 | none=>none
theorem TN{z:List AV}{off n:Nat}{v:AV}{rest:List (Nat×Nat×AV)}:fZ z ((off,n,v)::rest)=aUk z off n rest (cellsOf v):=by simp only[fZ,aUk]<;>rfl
theorem TO{z cs:List AV}{off n:Nat}{rest:List (Nat×Nat×AV)}:aUk z off n rest (some cs)=if cs.length=n∧off+n≤z.length then fZ (bO z off cs) rest else none:=rfl
theorem TP{c d:Nat}{e:aH}:aM c d e none=some d:=rfl
def boM(cap:Nat):AV→Option Nat
 | .int _ n=>if 0≤n∧n≤(cap:Int) then some n.toNat else none
 | _=>none
theorem TQ{c d:Nat}{e:aH}{x:AO}:aM c d e (some x)=boM c (aK e x):=by simp only[aM,boM]<;>rfl
theorem TR{c:Nat}{k:IntKind}{n:Int}:boM c (.int k n)=if 0≤n∧n≤(c:Int) then some n.toNat else none:=rfl
theorem TS{e:aH}{p:Nat}{ps:List Nat}{v:AV}{vs:List AV}:pR e (p::ps) (v::vs)=pR (upd e p v) ps vs:=rfl
theorem TT{e:aH}{vs:List AV}:pR e [] vs=e:=rfl
theorem TU{H:Hp}{x:AO}{e:aH}:aD (.box x) e H=aUE (cellsOf (aK e x)):=by simp only[aD,aUE]<;>rfl
theorem TV{cs:List AV}:aUE (some cs)=some (.new none (.cells true cs) fun b=>.pt b 0):=rfl
theorem TW{s n:Nat}{z:List AV}{ps:List (Nat×Nat×AO)}{e:aH}{H:Hp}:aD (.bslice s n z ps) e H=aUD s n (fZ (List.replicate n z).flatten (ps.map fun p=>(p.1,p.2.1,aK e p.2.2))):=by simp only[aD,aUD]<;>rfl
theorem TX{s n:Nat}{cs:List AV}:aUD s n (some cs)=some (.new none (.cells true cs) fun b=>.sl b 0 s n):=rfl
theorem TY{α:Type}:([]:List (List α)).flatten=[]:=rfl
theorem TZ{α:Type}{a:List α}{l:List (List α)}:(a::l).flatten=a++l.flatten:=rfl
theorem Sa{e:aH}{H:Hp}:aD .mkmap e H=some (.new none (.map true []) fun b=>.mp b):=rfl
theorem Sc{s b:Nat}{z:List AV}{l c:AO}{e:aH}{H:Hp}:aD (.mksl s b z l c) e H=aTN s b z (aK e l) (aK e c):=by simp only[aD,aTN]<;>rfl
theorem Sd{s b:Nat}{z:List AV}{l c:Int}:aTN s b z (I l) (I c)=if 0≤l∧l≤c∧(b:Int)*c≤281474976710656∧c≤9223372036854775807 then
        some (.new none (.cells true (List.replicate c.toNat z).flatten) fun b=>.sl b 0 s l.toNat) else none:=rfl
theorem Se{s:Nat}{H:Hp}{rows:List (List AV)}:fJ s H (.fs rows)=if rows.all (fun r=>r.length==s) then some (rows.length,rows.flatten) else none:=rfl
def aTi(s o s' len:Nat):Option ABlk→Option (Nat×List AV)
    | some (.cells _ cs)=>if s'=s∧o+len*s≤cs.length then some (len,(cs.drop o).take (len*s)) else none
    | _=>none
theorem Sf{s b o s' n:Nat}{H:Hp}:fJ s H (.sl b o s' n)=aTi s o s' n (H b):=by simp only[fJ,aTi]<;>rfl
theorem Sg{s o s' len:Nat}{w:Bool}{cs:List AV}:aTi s o s' len (some (.cells w cs))=if s'=s∧o+len*s≤cs.length then some (len,(cs.drop o).take (len*s)) else none:=rfl
def aIL(s bytes:Nat)(H:Hp)(x:AV):Option (Nat×List AV)→Option Eff
 | none=>none
 | some (n,new) =>
   match x with
   | .nilsl=>if n*bytes≤1099511627776∧n≤1099511627776 then (if n=0 then some (.val .nilsl) else some (.new none (.cells true new) fun b=>if bytes=1048577 then .sb b n else .sl b 0 s n)) else none
   | .sb b len=>match H b with
     | some (.cells true cs)=>if bytes=1048577∧s=1∧len=cs.length∧len+n≤1099511627776 then some (.new (some b) (.cells true (cs++new)) fun b=>.sb b (len+n)) else none
     | _=>none
   | .sl b 0 s' len=>match H b with
     | some (.cells true cs)=>if s'=s∧len*s=cs.length∧(len+n)*bytes≤1099511627776∧len+n≤1099511627776 then some (.new (some b) (.cells true (cs++new)) fun b=>.sl b 0 s (len+n)) else none
     | _=>none
   | _=>none
def aOW(s bytes n:Nat)(new:List AV)(b len:Nat):Option ABlk→Option Eff
 | some (.cells true cs)=>if bytes=1048577∧s=1∧len=cs.length∧len+n≤1099511627776 then some (.new (some b) (.cells true (cs++new)) fun b=>.sb b (len+n)) else none
 | _=>none
def aOX(s bytes n:Nat)(new:List AV)(b s' len:Nat):Option ABlk→Option Eff
 | some (.cells true cs)=>if s'=s∧len*s=cs.length∧(len+n)*bytes≤1099511627776∧len+n≤1099511627776 then some (.new (some b) (.cells true (cs++new)) fun b=>.sl b 0 s (len+n)) else none
 | _=>none
theorem Si{s bytes:Nat}{H:Hp}{x y:AV}:pG s bytes H x y=aIL s bytes H x (fJ s H y):=by
 unfold pG aIL;cases fJ s H y<;>rfl
theorem Sj{s bytes n:Nat}{H:Hp}{new:List AV}:aIL s bytes H .nilsl (some (n,new))=if n*bytes≤1099511627776∧n≤1099511627776 then (if n=0 then some (.val .nilsl) else some (.new none (.cells true new) fun b=>if bytes=1048577 then .sb b n else .sl b 0 s n)) else none:=rfl
theorem QG{s bytes n b len:Nat}{H:Hp}{new:List AV}:aIL s bytes H (.sb b len) (some (n,new))=aOW s bytes n new b len (H b):=by simp only[aIL,aOW]<;>rfl
theorem QH{s bytes n b len:Nat}{cs new:List AV}:aOW s bytes n new b len (some (.cells true cs))=if bytes=1048577∧s=1∧len=cs.length∧len+n≤1099511627776 then some (.new (some b) (.cells true (cs++new)) fun b=>.sb b (len+n)) else none:=rfl
theorem Sk{s bytes n b s' len:Nat}{H:Hp}{new:List AV}:aIL s bytes H (.sl b 0 s' len) (some (n,new))=aOX s bytes n new b s' len (H b):=by simp only[aIL,aOX]<;>rfl
theorem Sl{s bytes n b s' len:Nat}{cs new:List AV}:aOX s bytes n new b s' len (some (.cells true cs))=if s'=s∧len*s=cs.length∧(len+n)*bytes≤1099511627776∧len+n≤1099511627776 then some (.new (some b) (.cells true (cs++new)) fun b=>.sl b 0 s (len+n)) else none:=rfl
theorem SM{e:aH}{n:Nat}:aK e (.t n)=e n:=rfl
theorem SN{e:aH}{v:AV}:aK e (.c v)=v:=rfl
theorem SO:yI 2 .nilfn .nilfn=some true:=rfl
theorem SP{f:Fn}{a b:List AV}:yI 2 (.fn f a b) .nilfn=some false:=rfl
theorem SQ:yI 3 .nilpt .nilpt=some true:=rfl
theorem SS{b o:Nat}:yI 3 (.pt b o) .nilpt=some false:=rfl
def aPX(len s b o n h:Nat):Option Nat→Option Eff
 | some l=>if o+len*s≤n∧l<len then some (.val (.sl b (o+l*s) s (h-l))) else none
 | none=>none
def aPY(len s:Nat)(e:aH)(lo:Option AO)(b o:Nat):Option ABlk→Option Nat→Option Eff
 | some (.cells _ cs),some h=>aPX len s b o cs.length h (aM h 0 e lo)
 | _,_=>none
def aTk(len s:Nat)(e:aH)(lo:Option AO)(H:Hp)(r:Option Nat):AV→Option Eff
 | .pt b o=>aPY len s e lo b o (H b) r
 | _=>none
theorem SU{len s:Nat}{x:AO}{lo hi:Option AO}{e:aH}{H:Hp}:aD (.slarr len s x lo hi) e H=aTk len s e lo H (aM len len e hi) (aK e x):=by
 simp only[aD,aTk];cases aK e x with
 | pt b o =>
   simp only[];cases H b with
   | none=>rfl
   | some c =>
     cases c with
     | cells w cs =>
       cases aM len len e hi with
       | none=>rfl
       | some h=>simp only[aPY,aPX];cases aM h 0 e lo<;>rfl
     | _=>rfl
 | _=>rfl
theorem SV{len s b o:Nat}{e:aH}{lo:Option AO}{H:Hp}{r:Option Nat}:aTk len s e lo H r (.pt b o)=aPY len s e lo b o (H b) r:=rfl
theorem SW{len s b o h:Nat}{e:aH}{lo:Option AO}{w:Bool}{cs:List AV}:aPY len s e lo b o (some (.cells w cs)) (some h)=aPX len s b o cs.length h (aM h 0 e lo):=rfl
theorem SX{len s b o n h l:Nat}:aPX len s b o n h (some l)=if o+len*s≤n∧l<len then some (.val (.sl b (o+l*s) s (h-l))) else none:=rfl
def aPV(rows:List (List AV))(h:Nat):Option Nat→Option Eff
 | some l=>some (.val (.fs ((rows.drop l).take (h-l))))
 | none=>none
def aPW(rows:List (List AV))(e:aH)(lo:Option AO):Option Nat→Option Eff
 | some h=>aPV rows h (aM h 0 e lo)
 | none=>none
def aPT(b o s h:Nat):Option Nat→Option Eff
 | some l=>if l<h then some (.val (.sl b (o+l*s) s (h-l))) else if l=0 then some (.val (.sl b o s 0)) else some (.val (.fs []))
 | none=>none
def aPU(b o s:Nat)(e:aH)(lo:Option AO):Option Nat→Option Eff
 | some h=>aPT b o s h (aM h 0 e lo)
 | none=>none
def aVU:Option Nat→Option Eff
 | some _=>some (.val .nilsl)
 | none=>none
def aVV(e:aH)(lo:Option AO):Option Nat→Option Eff
 | some h=>aVU (aM h 0 e lo)
 | none=>none
def aKx(s:Nat)(e:aH)(lo hi:Option AO):AV→Option Eff
 | .fs rows=>if rows.all (fun r=>r.length==s) then aPW rows e lo (aM rows.length rows.length e hi) else none
 | .sl b o s' len=>if s'=s then aPU b o s e lo (aM len len e hi) else none
 | .nilsl=>aVV e lo (aM 0 0 e hi)
 | _=>none
theorem SY{s:Nat}{x:AO}{lo hi:Option AO}{e:aH}{H:Hp}:aD (.slsl s x lo hi) e H=aKx s e lo hi (aK e x):=by
 simp only[aD];cases aK e x with
 | fs rows =>
   simp only[kW,aKx];by_cases hr:(rows.all fun r=>r.length==s)=true
   ·simp only[hr,AAe]
    cases aM rows.length rows.length e hi with
    | none=>rfl
    | some h=>simp only[aPW,aPV];cases aM h 0 e lo<;>rfl
   ·simp only[hr];rfl
 | sl b o s' len =>
   simp only[kW,aKx];by_cases hr:s'=s
   ·simp only[hr,AAe]
    cases aM len len e hi with
    | none=>rfl
    | some h =>
      simp only[aPU,aPT];cases aM h 0 e lo with
      | none=>rfl
      | some l =>
        by_cases hl:l<h;·simp only[hl,AAe]
        ·by_cases h0:l=0
         ·simp only[hl,h0,AAe,AAd]
          subst h0;simp only[hl,AAd]
         ·simp only[hl,h0,AAd]
   ·simp only[hr,AAd]
 | nilsl =>
   simp only[kW,aKx];cases aM 0 0 e hi with
   | none=>rfl
   | some h=>simp only[aVV,aVU];cases aM h 0 e lo<;>rfl
 | _=>rfl
theorem SZ{s:Nat}{e:aH}{lo hi:Option AO}{rows:List (List AV)}:aKx s e lo hi (.fs rows)=if rows.all (fun r=>r.length==s) then aPW rows e lo (aM rows.length rows.length e hi) else none:=rfl
theorem Ra{s b o s' len:Nat}{e:aH}{lo hi:Option AO}:aKx s e lo hi (.sl b o s' len)=if s'=s then aPU b o s e lo (aM len len e hi) else none:=rfl
theorem Rb{rows:List (List AV)}{e:aH}{lo:Option AO}{h:Nat}:aPW rows e lo (some h)=aPV rows h (aM h 0 e lo):=rfl
theorem Rc{rows:List (List AV)}{h l:Nat}:aPV rows h (some l)=some (.val (.fs ((rows.drop l).take (h-l)))):=rfl
theorem Rd{b o s h:Nat}{e:aH}{lo:Option AO}:aPU b o s e lo (some h)=aPT b o s h (aM h 0 e lo):=rfl
theorem Re{b o s h l:Nat}:aPT b o s h (some l)=if l<h then some (.val (.sl b (o+l*s) s (h-l))) else if l=0 then some (.val (.sl b o s 0)) else some (.val (.fs [])):=rfl
def aPR(s:ByteArray)(h:Nat):Option Nat→Option Eff
 | some l=>some (.val (.str (mC s l h)))
 | none=>none
def aPS(s:ByteArray)(e:aH)(lo:Option AO):Option Nat→Option Eff
 | some h=>aPR s h (aM h 0 e lo)
 | none=>none
def aTh(e:aH)(lo hi:Option AO):AV→Option Eff
 | .str s=>aPS s e lo (aM s.size s.size e hi)
 | _=>none
theorem Rf{x:AO}{lo hi:Option AO}{e:aH}{H:Hp}:aD (.slstr x lo hi) e H=aTh e lo hi (aK e x):=by
 simp only[aD,aTh];cases aK e x with
 | str s =>
   simp only[];cases aM s.size s.size e hi with
   | none=>rfl
   | some h=>simp only[aPS,aPR];cases aM h 0 e lo<;>rfl
 | _=>rfl
theorem Rg{e:aH}{lo hi:Option AO}{s:ByteArray}:aTh e lo hi (.str s)=aPS s e lo (aM s.size s.size e hi):=rfl
theorem Rh{e:aH}{lo:Option AO}{s:ByteArray}{h:Nat}:aPS s e lo (some h)=aPR s h (aM h 0 e lo):=rfl
theorem Ri{s:ByteArray}{h l:Nat}:aPR s h (some l)=some (.val (.str (mC s l h))):=rfl
theorem Rj{x:AO}{e:aH}{H:Hp}:aD (.bytes x) e H=aUC (aK e x):=by simp only[aD,aUC]<;>rfl
theorem Rk{s:ByteArray}:aUC (.str s)=some (.new none (.cells true (s.data.toList.map fun b=>.int .u8 (b.toNat:Int))) fun b=>.sl b 0 1 s.size):=rfl
theorem Rl{t:TypeId}{x:AO}{e:aH}{H:Hp}:aD (.mkifc t x) e H=some (.val (.ifc t (aK e x))):=rfl
theorem ptf(p:Prop):(p=True)∨(p=False):=by by_cases h:p<;>simp[h]
theorem gF{α:Type}{l:List α}{i:Nat}(h:i<l.length):∃ x,l[i]?=some x:=⟨l[i],A4 h⟩
theorem Sm{n:Int}:(n<n)=False:=AAb
theorem kT{i n:Nat}(h:i<n)(hn:n<1000000000000):IntKind.i64.wrap ((i:Int)+1)=(i:Int)+1:=aI AM AM
theorem Sn{agg:Bool}{n b o:Nat}{H:Hp}:eY agg n H (.pt b o)=ldM agg n o (H b):=by unfold eY ldM;rfl
theorem Sp{agg w:Bool}{n o:Nat}{cs:List AV}:ldM agg n o (some (.cells w cs))=iF agg n cs o:=rfl
theorem Sq{agg:Bool}{n i o:Nat}{rows:List (List AV)}{H:Hp}:eY agg n H (.fp rows i o)=ldR agg n o (rows[i]?):=by unfold eY ldR;rfl
theorem Sr{agg:Bool}{n o:Nat}{r:List AV}:ldR agg n o (some r)=iF agg n r o:=rfl
theorem Ss{n o:Nat}{cs:List AV}:iF true n cs o=if o+n≤cs.length then some (.agg ((cs.drop o).take n)) else none:=rfl
theorem Su{n o:Nat}{cs:List AV}:iF false n cs o=cs[o]?:=rfl
theorem Sv{n b o:Nat}{h:XH}{x:AV}:nX n h (.pt b o) x=stM n b o h (hat h b) (cellsOf x):=by
 simp only[nX,stM]<;>rfl
theorem Sw{n b o:Nat}{h:XH}{g:Bool}{cs vs:List AV}:stM n b o h (some (.blk g (.cells true cs))) (some vs)=if vs.length=n∧o+n≤cs.length then some (h.set b (some (.blk (g&&lJ vs) (.cells true (bO cs o vs))))) else none:=rfl
theorem Sx{q:Bool}{h:XH}{b:Nat}{k x:AV}:rF q h (.mp b) k x=muM q b h k x (hat h b):=by simp only[rF,muM]<;>rfl
theorem Sy{q g:Bool}{h:XH}{b:Nat}{k x:AV}{es:List (AV×AV)}:muM q b h k x (some (.blk g (.map true es)))=(jN q k x es).map fun es'=>h.set b (some (.blk (g&&(jE k&&jE x)) (.map true es'))):=rfl
theorem Sz{h:XH}{g:Bool}{x:ABlk}:qU h none g x=h++[some (.blk g x)]:=rfl
theorem S2{h:XH}{b:Nat}{g:Bool}{x:ABlk}:qU h (some b) g x=h.set b none++[some (.blk g x)]:=rfl
theorem S3{h:XH}{b o s n:Nat}:jU h (.sl b o s n)=flM (hat h b):=by simp only[jU,flM]<;>rfl
theorem S4{g:Bool}{x:ABlk}:flM (some (.blk g x))=g:=rfl
theorem S5{h:XH}{rows:List (List AV)}:jU h (.fs rows)=true:=rfl
theorem S6{h:XH}:jU h .nilsl=true:=rfl
theorem S7{op:BinOp}{k k':IntKind}{a b:Int}:aCS op (.int k a) (.int k' b)=gN op k a k' b:=rfl
theorem S8{op:BinOp}{a b:ByteArray}:aCS op (.str a) (.str b)=aQ op a b:=rfl

abbrev rB(hs:List Bool):AV:=.fs (hs.map fun v=>[.bool v])
theorem Rm{α β:Type}{f:α→β}{a b:List α}:(a++b).map f=a.map f++b.map f:=by simp
theorem Ro{α:Type}{a b:List α}:(a++b).length=a.length+b.length:=by simp
theorem Rp{n:Nat}:n*1=n:=by simp
theorem Rq{n:Nat}:0+n=n:=by simp
theorem Rr{n:Nat}:n+0=n:=by simp
theorem Rs{n:Nat}:(n≤n)=True:=by simp
theorem Rt{n:Nat}:n-0=n:=by simp
def aMw{α:Type}(l:List α)(o:Nat)(v:α):List α:=l.take o++v::l.drop (o+1)
theorem aMv{α:Type}{l:List α}{o:Nat}{v:α}(h:o<l.length):aMw l o v=l.set o v:=by
 rw[aMw,aE5,if_pos h]
theorem Ru{hs:List Int}{o:Nat}{v:Int}:bO (hs.map I) o [I v]=(aMw hs o v).map I:=by
 simp[bO,aMw,aF2,aJ5]
theorem yL{α:Type}{f:α→AV}:∀(l pre:List α),bU ((pre++l).map f) pre.length 1 l.length=l.map fun v=>[f v]
 | [],pre=>rfl
 | a::r,pre=>by
   have h:=yL (f:=f) r (pre++[a]);simp only[M7,J9,G7,B6,C8,J3]at h;rw[C8,bU];simp only[I6]at h;rw[h,F6,List.drop_left' (by simp),D7,D7];rfl
theorem Rw{hs:List Int}:bU (hs.map I) 0 1 hs.length=hs.map fun v=>[I v]:=yL (f:=I) hs []
theorem Rx{n:Nat}{v:Int}:(List.replicate n [I v]).flatten=(List.replicate n v).map I:=by
 induction n with
 | zero=>rfl
 | succ n ih=>simp[M0,ih]
section
variable{D:Nat→Option XFn}{K k:Nat}{rd:Option Nat}{e:aH}{h:XH}{run:eP}{runY:fS}
variable{d:Option Nat}{ix:Nat}{r:List DOper}{L:List (Nat×Nat)}
theorem Qe{s b:Nat}{x y:AO}:xo (some L) run runY (⟨ix,d,.app s b x y,none⟩::r) e h=vY (L.all fun q=>fB (aK e x) != some q.2) (kE (some L) run runY r d e h (jU h (aK e x)&&jU h (aK e y)) (pG s b (aG h) (aK e x) (aK e y))):=by
 show eX run runY _ e h L=_;rw[←aNO];simp only[eX,gd,sN,vY];rfl
theorem Qf{b:Nat}:((none:Option Nat) != some b)=true:=rfl
theorem Qg{a b:Nat}:(some a != some b) = !(decide (a=b)):=by by_cases h:a=b<;>simp[h]
def lsM:Option XB→Option LSt
 | some (.loop _ _ _ s)=>some s
 | _=>none
theorem RK{h:XH}{l:Nat}:gS h l=lsM (hat h l):=by unfold gS lsM;rfl
theorem RN{K site:Nat}{vs:List AV}{s:LSt}:lsM (some (.loop K site vs s))=some s:=rfl
def ltM(h:XH)(l:Nat)(s:LSt):Option XB→XH
 | some (.loop K site vs _)=>h.set l (some (.loop K site vs s))
 | _=>h
theorem RO{h:XH}{l:Nat}{s:LSt}:loopTo h l s=ltM h l s (hat h l):=by unfold loopTo ltM;rfl
theorem RP{h:XH}{l K site:Nat}{vs:List AV}{s s':LSt}:ltM h l s (some (.loop K site vs s'))=h.set l (some (.loop K site vs s)):=rfl
theorem RQ{h:XH}:zQ none h=true:=rfl
theorem RR{g:Nat}{a b:List AV}:zP (.fn (.func g) a b)=true:=rfl
def aVW(b:Bool)(n:Nat)(e:aH)(r:Option (AV×XH)):Option (DX×aH×XH):=if b then aGl n e r else none
theorem RU{site:Nat}{L:List Nat}{f:AO}{ps:List Nat}{a b:XCode}:execW D K k rd (.rng site L f ps a b) e h=aVW (zQ rd h&&zP (aK e f)) h.length e (fM (runW D) (runYW D) (aK e f) [.fn (.yield h.length) [] []] (h++[some (.loop K site (L.map e) .ready)])):=aLc
theorem RV{n:Nat}{r:Option (AV×XH)}:aVW true n e r=aGl n e r:=rfl
def rgM(n:Nat)(e:aH)(h:XH):Option LSt→Option (DX×aH×XH)
 | some .ready=>some (.normal,e,h.set n none)
 | some (.done x)=>some (x,e,h.set n none)
 | _=>none
theorem RW{n:Nat}{v:AV}:aGl n e (some (v,h))=rgM n e h (gS h n):=by unfold aGl rgM;rfl
theorem RX{n:Nat}:rgM n e h (some .ready)=some (.normal,e,h.set n none):=rfl
theorem RY{l:Nat}{as:List AV}:fM run runY (.fn (.yield l) [] []) as h=kM (gR (.fn (.yield l) [] []::as) h) h (runY (rnA (aNn (gR (.fn (.yield l) [] []::as) h)) (.fn (.yield l) [] [])) (lR (aNn (gR (.fn (.yield l) [] []::as) h)) as) (hZ (gR (.fn (.yield l) [] []::as) h) h)):=rfl
def yM2(x:Option (AV×XH)):Option LSt→Option (AV×XH)
 | some .ready=>x
 | _=>none
theorem RZ{l:Nat}{f:aH→XH→Option (AV×XH)}:aHp l (some (.normal,e,h)) f=yM2 (f e (loopTo h l .busy)) (gS h l):=by unfold aHp yM2;rfl
theorem Qa{x:Option (AV×XH)}:yM2 x (some .ready)=x:=rfl
def yE2(l k:Nat)(x:DX)(h:XH):Option LSt→Option (AV×XH)
 | some .busy=>some (match x with
  | .normal=>nD true k (.bool true) (loopTo h l .ready)
  | x=>nD true k (.bool false) (loopTo h l (.done x)))
 | _=>none
theorem Qb{l:Nat}{x:DX}:aKi l k (some (x,e,h))=yE2 l k x h (gS h l):=by unfold aKi yE2;rfl
theorem Qd{l:Nat}:yE2 l k .normal h (some .busy)=some (nD true k (.bool true) (loopTo h l .ready)):=rfl
end
theorem Qm{g g' w w':Bool}{xs ys:List AV}:aGd (some (.blk g (.cells w xs))) (some (.blk g' (.cells w' ys)))=(w==w'&&iE xs ys):=rfl
theorem Qn:iE [] []=true:=rfl
theorem Qo{x y:AV}{xs ys:List AV}:iE (x::xs) (y::ys)=(cT x y&&iE xs ys):=rfl
theorem Qp{k:IntKind}{n:Int}:cT (.int k n) (.int k n)=true:=by simp[cT]
theorem Qq{b:Bool}:cT (.bool b) (.bool b)=true:=by cases b<;>rfl
theorem Qr{b o:Nat}:cT (.pt b o) (.pt b o)=true:=by simp[cT]
theorem Qs:((40:Nat):Int)=40:=rfl
theorem Qt:((45:Nat):Int)=45:=rfl
theorem Qu{k:IntKind}{a b:Int}:gN .andNot k a k b=some (.int k (nU .andNot k a b)):=by simp[gN]
section
variable{run:eP}{runY:fS}{d:Option Nat}{e:aH}{h:XH}{ix:Nat}{r:List DOper}{m:Option (List (Nat×Nat))}
theorem QI{b n:Nat}:iZ (.sb b n)=([b]:List Nat):=rfl
theorem QJ{b n:Nat}:jE (.sb b n)=(false:Bool):=rfl
theorem QK{s:Nat→Option Nat}{b n:Nat}:rnA s (.sb b n)=((match s b with|some c=>.sb c n|none=>.any):AV):=by simp only[rnA]<;>rfl
theorem QL{B:Nat}{C:List AV}{b n:Nat}:wC B C (.sb b n)=((.sb b n):AV):=rfl
theorem QM{b n:Nat}:cellsOf (.sb b n)=(some [(.sb b n)]:Option (List AV)):=rfl
theorem QN{b:Nat}:iZ (.bp b)=([b]:List Nat):=rfl
theorem QO{s:Nat→Option Nat}{b:Nat}:rnA s (.bp b)=((match s b with|some c=>.bp c|none=>.any):AV):=by simp only[rnA]<;>rfl
theorem QQ{b:Nat}:slN (.bp b)=([]:List Nat):=rfl
theorem QR{B:Nat}{C:List AV}{b:Nat}:wC B C (.bp b)=((.bp b):AV):=rfl
theorem QS{b:Nat}:qP (.bp b)=((.bp b):AV):=rfl
theorem QT{p:AO}:xo m run runY (⟨ix,d,(DOp.strof p),none⟩::r) e h=kV m run runY r d e h (iQ (aG h) (aK e p)):=qT rfl (by cases hs:iQ (aG h) (aK e p)<;>simp[aD,pK,hs]) (fun _=>rfl) (fun _=>rfl) fun _ _=>rfl
theorem QU{H:Hp}{b o s n:Nat}:iQ H (.sl b o s n)=mP (fJ 1 H (.sl b o s n)):=rfl
theorem QV{n:Nat}{cs:List AV}:mP (some (n,cs))=(gT cs).map fun l=>.str ⟨⟨l⟩⟩:=rfl
end
theorem aWy{p:Prop}(h:p):p:=h
theorem Pf{h:XH}{b j:Nat}{x:Option XB}:hat (h.set b x) j=if j=b then (if b<h.length then x else hat h j) else hat h j:=by
 rw[fQ];by_cases h1:j=b
 ·by_cases h2:b<h.length
  ·rw[if_pos ⟨h1,h2⟩,if_pos h1,if_pos h2]
  ·rw[if_neg (fun hh=>h2 hh.2),if_pos h1,if_neg h2]
 ·rw[if_neg (fun hh=>h1 hh.1),if_neg h1]
theorem Pg{h k:XH}{j:Nat}:hat (h++k) j=if j<h.length then hat h j else hat k (j-h.length):=cS h k j
theorem Ph{h k:XH}{b:Nat}{x:Option XB}:(h++k).set b x=if b<h.length then h.set b x++k else h++k.set (b-h.length) x:=by
 rw[List.set_append]
theorem Pj{h k l:XH}:(h++k)++l=h++(k++l):=M7 h k l
theorem Pk{h:XH}{b:Nat}{x:Option XB}:(h.set b x).length=h.length:=C9
theorem Pl{n:Nat}:(n<n)=False:=AAq (Nat.lt_irrefl n)
theorem Pm{n k:Nat}:(n+k<n)=False:=AAb
theorem Pn{n:Nat}:n-n=0:=J8 n
theorem Po{n k:Nat}:n+k-n=k:=AM
def kGm(h:XH):Option AV→Option (AV×XH)
 | some v=>some (v,h)
 | none=>none
theorem Pp{res:List (Nat×Option (Bool×Nat))}{e:aH}{h:XH}:aDm res (some (.normal,e,h))=kGm h (jD res e (aG h)):=by
 show (jD res e (aG h)).map (fun v=>(v,h))=_;cases jD res e (aG h)<;>rfl
theorem Pq{res:List (Nat×Option (Bool×Nat))}{e:aH}{h:XH}:aDm res (some (.ret,e,h))=kGm h (jD res e (aG h)):=by
 show (jD res e (aG h)).map (fun v=>(v,h))=_;cases jD res e (aG h)<;>rfl
theorem Pr{h:XH}{v:AV}:kGm h (some v)=some (v,h):=rfl
variable{P:Program}{B:Base}{F:Nat→Prop}{w:World}{H:Hp}{env:aH}{a:Act}

def pnc(c:Value):List PanicEntry:=[{ v:=c,recovered:=false }]
def aPc(F:Nat→Prop)(w:World)(H:Hp)(Q:AV→Hp→Prop):Ending→World→Prop:=fun e w' =>
 ∃ c v F' H',e = .panicked (pnc c)∧Ext F w H F' w' H'∧St F' w' H'∧Rv F' w' v c∧Q v H'
def FnP(B:Base)(P:Program)(f:FuncId)(as:List AV)(H:Hp)(Q:AV→Hp→Prop):Prop :=
 (∀(vs:Array Value)(w:World),(callFunc f vs).run P w = .ok (.enter f vs) w)∧∀(F:Nat→Prop)(w:World)(vs:Array Value),B.Up F w→St F w H→Args F w as vs→CallsIn Fence.wide 0 P f vs w (aPc F w H Q)
def aPe(B:Base)(P:Program)(fv:AV)(as:List AV)(H:Hp)(Q:AV→Hp→Prop):Prop :=
 match fv with
 | .fn (.func g) first cap=>FnP B P g (first++as++cap) H Q
 | _=>False
abbrev QP:=AV→aH→Hp→Prop
def opP(B:Base)(P:Program)(o:DOper)(Q:QP)(env:aH)(H:Hp):Prop :=
 gd o env=some true∧match o.op with
 | .callf false f xs _=>(∀ tab k,f ≠ .meth tab k)∧aPe B P (aK env f) (xs.map (aK env)) H fun v H'=>Q v env H'
 | _=>False
def RSP(B:Base)(P:Program):List DOper→QP→aH→Hp→Prop
 | [],_,_,_=>False
 | o::rest,Q,env,H=>opP B P o Q env H∨opW B P o (RSP B P rest Q) env H

def LandP(n0:Nat)(T:List Deferred)(F:Nat→Prop)(w:World)(H:Hp)(Q:QP):Exit→Act→World→Prop:=fun e a' w' =>
 ∃ c v env' F' H',e = .panic (pnc c)∧Ext F w H F' w' H'∧St F' w' H'∧RE F' w' env' a'∧Rv F' w' v c∧Mk n0 T F' H' w' a'.defers∧Q v env' H'
theorem LandP.step{n0:Nat}{T:List Deferred}{Q:QP}{F':Nat→Prop}{w':World}{H':Hp}(he:Ext F w H F' w' H'){e:Exit}{a':Act}{w'':World}(hl:LandP n0 T F' w' H' Q e a' w''):LandP n0 T F w H Q e a' w'':=by
 obtain⟨c,v,env',F'',H'',h1,h2,h3⟩:=hl;exact⟨c,v,env',F'',H'',h1,he.trans h2,h3⟩

def WPD(B:Base)(P:Program)(r:Option Nat)(N:Nat)(dc:DCode)(Q:QP)(env:aH)(H:Hp):Prop :=
 ∀ c,eH P N c=some dc→∀(F:Nat→Prop)(w:World)(a:Act)(n0:Nat)(T:List Deferred),B.Up F w→n0≤w.heap.size→a.tmps.size=N→St F w H→RE F w env a→Mk n0 T F H w a.defers→c.wpIn (FW r) 0 P (LandP n0 T F w H Q) a w

variable{r:Option Nat}{N:Nat}{Q:QP}
theorem WPD.seq1{x y:DCode}(h:WPD B P r N x Q env H):WPD B P r N (.seq x y) Q env H:=by
 intro c hc;cases c<;>simp only[eH]at hc
 case seq a b =>
  split at hc
  ·rename_i a' b' ha hb
   simp only[oSI,DCode.seq.injEq]at hc;obtain⟨rfl,rfl⟩:=hc;intro F w act n0 T h1 h2 h3 h4 h5 h6;refine wpIn_seq (wpIn_mono (h a ha F w act n0 T h1 h2 h3 h4 h5 h6) ?_);rintro e a' w' ⟨c,v,env',F',H',rfl,k⟩;exact⟨c,v,env',F',H',rfl,k⟩
  ·simp at hc
 all_goals exfalso;first|(simp at hc;done)|((repeat' split at hc)<;>simp at hc;done)
theorem WPD.seq2{x y:DCode}(h:WD B P r N x (fun e env' H'=>e = .normal∧WPD B P r N y Q env' H') env H):WPD B P r N (.seq x y) Q env H:=by
 intro c hc;cases c<;>simp only[eH]at hc
 case seq a b =>
  split at hc
  ·rename_i a' b' ha hb
   simp only[oSI,DCode.seq.injEq]at hc;obtain⟨rfl,rfl⟩:=hc;intro F w act n0 T h1 h2 h3 h4 h5 h6;refine wpIn_seq (wpIn_mono (h a ha F w act n0 T h1 h2 h3 h4 h5 h6) ?_);rintro e a' w' ⟨x,env',F',H',k1,k2,k3,k4,k5,k6,rfl,k7⟩;cases e with
   | normal=>exact wpIn_mono (k7 b hb F' w' a' n0 T (h1.step h4 k3) (I2 h2 k3.le) k2 k4 k5 k6) fun _ _ _=>LandP.step k3
   | exit id=>simp at k1
   | ret=>simp at k1
   | goto l=>exact k1.elim
   | panic c=>exact k1.elim
   | outgrown=>exact k1.elim
  ·simp at hc
 all_goals exfalso;first|(simp at hc;done)|((repeat' split at hc)<;>simp at hc;done)
theorem WPD.cond{o:AO}{x y:DCode}{t:Bool}(he:aK env o = .bool t)(h:WPD B P r N (if t then x else y) Q env H):WPD B P r N (.cond o x y) Q env H:=by
 intro c hc;cases c<;>simp only[eH]at hc
 case cond o' a b =>
  split at hc
  ·rename_i o'' a' b' ho ha hb
   simp only[oSI,DCode.cond.injEq]at hc;obtain⟨rfl,rfl,rfl⟩:=hc;intro F w act n0 T h1 h2 h3 h4 h5 h6;have hv:=aZ h5 ho;rw[he]at hv;have ht:act.eval o' = .bool t:=by
    generalize act.eval o'=z at hv;cases hv;rfl
   refine wpIn_cond ht ?_;cases t with
   | true=>exact h a ha F w act n0 T h1 h2 h3 h4 h5 h6
   | false=>exact h b hb F w act n0 T h1 h2 h3 h4 h5 h6
  ·simp at hc
 all_goals exfalso;first|(simp at hc;done)|((repeat' split at hc)<;>simp at hc;done)
theorem WPD.block{id:Nat}{x:DCode}(h:WPD B P r N x Q env H):WPD B P r N (.block id x) Q env H:=by
 intro c hc;cases c<;>simp only[eH]at hc
 case block j a =>
  split at hc
  ·rename_i a' ha
   simp only[oSI,DCode.block.injEq]at hc;obtain⟨rfl,rfl⟩:=hc;intro F w act n0 T h1 h2 h3 h4 h5 h6;refine wpIn_block (wpIn_mono (h a ha F w act n0 T h1 h2 h3 h4 h5 h6) ?_);rintro e a' w' ⟨c,v,env',F',H',rfl,k⟩;exact⟨c,v,env',F',H',rfl,k⟩
  ·simp at hc
 all_goals exfalso;first|(simp at hc;done)|((repeat' split at hc)<;>simp at hc;done)
def aKg(B:Base)(P:Program)(r:Option Nat)(N:Nat)(x:DCode)(Q:QP):Nat→aH→Hp→Prop
 | 0,env,H=>WPD B P r N x Q env H
 | n+1,env,H=>WD B P r N x (fun e env' H'=>e = .normal∧aKg B P r N x Q n env' H') env H
theorem WPD.loop{x:DCode}{n:Nat}(h:aKg B P r N x Q n env H):WPD B P r N (.loop x) Q env H:=by
 intro c hc;cases c<;>simp only[eH]at hc
 case loop a =>
  split at hc
  ·rename_i dx ha
   simp only[oSI,DCode.loop.injEq]at hc;subst hc;intro F w act n0 T h1 h2 h3 h4 h5 h6
   let good:Nat→Act→World→Prop:=fun m a' w'=>∃ env' F' H',a'.tmps.size=N∧Ext F w H F' w' H'∧St F' w' H'∧RE F' w' env' a'∧Mk n0 T F' H' w' a'.defers∧aKg B P r N dx Q m env' H'
   have hex:∀ a' w',(∃ m,good m a' w')→∃ m,good m a' w'∧∀ k,good k a' w'→m≤k:=by
    intro a' w' ⟨m,hm⟩;induction m using Nat.strongRecOn with
    | _ m ih =>
      by_cases hk:∃ k,k<m∧good k a' w';·obtain⟨k,hk1,hk2⟩:=hk;exact ih k hk1 hk2
      ·exact⟨m,hm,fun k hk'=>Nat.le_of_not_lt fun hlt=>hk ⟨k,hlt,hk'⟩⟩
   let μ:Act→World→Nat:=fun a' w'=>open Classical in if h:∃ m,good m a' w' then (hex a' w' h).choose else 0
   have hμ:∀ a' w' (h:∃ m,good m a' w'),good (μ a' w') a' w'∧∀ k,good k a' w'→μ a' w'≤k:=fun a' w' h=>by
    have:μ a' w'=(hex a' w' h).choose:=by simp only[μ,AAs h]
    rw[this];exact(hex a' w' h).choose_spec
   refine wpIn_loop (fun a' w'=>∃ m,good m a' w') μ ⟨n,env,F,H,h3,Ext.refl _ _ _,h4,h5,h6,h⟩ ?_;intro a1 w1 hg;obtain⟨env',F',H',k2,k3,k4,k5,k6,k7⟩:=(hμ a1 w1 hg).1;generalize hm:μ a1 w1=m at *;cases m with
   | zero =>
     refine wpIn_mono (k7 a ha F' w1 a1 n0 T (h1.step h4 k3) (I2 h2 k3.le) k2 k4 k5 k6) ?_;rintro e a2 w2 ⟨c,v,env2,F2,H2,rfl,j1,j2⟩;exact⟨c,v,env2,F2,H2,rfl,k3.trans j1,j2⟩
   | succ m =>
     refine wpIn_mono (k7 a ha F' w1 a1 n0 T (h1.step h4 k3) (I2 h2 k3.le) k2 k4 k5 k6) ?_;rintro e a2 w2 ⟨x,env2,F2,H2,l1,l2,l3,l4,l5,l6,rfl,l7⟩;cases e with
     | normal =>
       have hg':good m a2 w2:=⟨env2,F2,H2,l2,k3.trans l3,l4,l5,l6,l7⟩;exact⟨⟨m,hg'⟩,aB6 ((hμ a2 w2 ⟨m,hg'⟩).2 m hg') AM⟩
     | exit j=>simp at l1
     | ret=>simp at l1
     | goto l=>exact l1.elim
     | panic c=>exact l1.elim
     | outgrown=>exact l1.elim
  ·simp at hc
 all_goals exfalso;first|(simp at hc;done)|((repeat' split at hc)<;>simp at hc;done)

theorem aLn(hB:B.Up F w)(st:St F w H)(re:RE F w env a){o:Oper}{f:Operand}{args:Array Operand}{ts:Array TypeId}{f':AO}{xs:List AO}
 (ho:o.op = .call { callee:=.value f,args:=args,argTypes:=ts }) (hf:co f=some f') (hx:coL args=some xs) {Qv:AV→Hp→Prop}
 (h:aPe B P (aK env f') (xs.map (aK env)) H Qv) {next:Act→World→Prop} {Qc:Exit→Act→World→Prop}
 (hn:∀ v c F' w' H',Ext F w H F' w' H'→St F' w' H'→Rv F' w' v c→Qv v H'→Qc (.panic (pnc c)) a w') :
 o.wpIn (FW r) 0 P a w next Qc:=by
 refine⟨pI r o,?_⟩;rw[Oper.semAt_eq _ _ _ (by rw[ho];simp)];have hfv:=aZ re hf;obtain⟨vf,hvf⟩:∃ v,a.eval f=v:=⟨_,rfl⟩;rw[hvf]at hfv;have hargs:=zY re hx;unfold aPe at h;split at h
 ·rename_i g first cap hev
  rw[hev]at hfv;cases hfv with
  | fn _ _ _ fv cv hl1 hl2 h1 h2 =>
    have hA:Args F w (first++xs.map (aK env)++cap) (fv++args.map a.eval++cv):=eS (eS ⟨hl1,h1⟩ hargs) ⟨hl2,h2⟩;have hc:=h.2 F w _ hB st hA;have hrun:(execOp a.eval o).run P w = .ok (.enter g (fv++args.map a.eval++cv)) w:=by
     simp only[execOp,ho,resolve,hvf,Deferred.ofValue,Sem.run_bind,Sem.run_pure,Result.andThen_ok,invoke];exact h.1 _ _
    rw[hrun,Oper.uponIn_enter];exact⟨fun h=>by simp[FW,Fence.wide]at h,CallsIn.mono hc (by rintro e w' ⟨c,v,F',H',rfl,h1,h2,h3,h4⟩;exact hn v c F' w' H' h1 h2 h3 h4)⟩
 ·exact h.elim
theorem aMt{ops:Array Oper}{i:Nat}{d:DOper}(hr:Reads P ops i d)(hB:B.Up F w)(st:St F w H)(re:RE F w env a)(h:opP B P d Q env H){Kc:Act→World→Prop}{Qc:Exit→Act→World→Prop}
 (hK:∀ F' w' H' c v,Ext F w H F' w' H'→St F' w' H'→RE F' w' env a→Rv F' w' v c→Q v env H'→Qc (.panic (pnc c)) a w') :
 wpOpIn (FW r) 0 P ops Qc i Kc a w:=by
 obtain⟨o,ho,hdst,hguard,hop,hdef⟩:=hr.get;obtain⟨hg,h⟩:=h;unfold wpOpIn;simp only[ho];have hgd:Region.wanted o (yielded ops a.tmps)=true:=by
  unfold gd at hg;unfold Region.wanted;split at hguard
  ·rename_i hg2
   rw[hg2]
  ·rename_i j want hg2
   rw[hg2];obtain⟨g,h1,h2⟩:=hguard;rw[h2]at hg;simp only at hg;split at hg
   ·rename_i t ht
    have hrt:=re.rv g;rw[ht]at hrt;have hy:yielded ops a.tmps j=some t:=by
     unfold yielded;rw[h1];simp only[E7];cases hx:a.tmps[g]? with
     | none=>rw[F8,hx]at hrt;cases hrt
     | some x =>
       rw[F8,hx]at hrt;simp only[H7]at hrt;cases hrt;rfl
    simp only[hy];simpa using hg
   ·simp at hg
   ·simp at hg
 rw[if_pos hgd];split at h
 ·rename_i f xs l hcf
  obtain⟨hnm,h⟩:=h;have hc0:cZ P o=some (.callf false f xs []):=by
   rcases hop with h1|⟨n,p,x,l,h1,h2⟩|⟨q,f1,xs1,l1,h1,h2⟩
   ·rw[hcf]at h1
    unfold comp at h1;cases hx:cZ P o with
    | none=>rw[hx]at h1;simp at h1
    | some y =>
      rw[hx]at h1;simp only[H7]at h1;subst h1;rcases lI hx rfl rfl with ⟨t,pa,xa,n',p',x',_,_,_,_,hh⟩|⟨t,m,k,xx,m',k',x',kt,e,_,_,_,_,_,⟨_,_,hh⟩|⟨_,hh⟩⟩|⟨_,_,_,_,hh⟩|⟨c,_,hh⟩;·simp at hh
      ·simp at hh
      ·simp at hh
      ·simp at hh
      ·rcases sP hh rfl with ⟨_,_,_,_,_,_,_,_,_,_,_,_,_,_,_,hh⟩|⟨_,_,_,_,_,_,hh⟩|⟨_,_,_,_,_,hh⟩
       ·simp at hh
       ·simp only[DOp.callf.injEq]at hh;obtain⟨_,rfl,rfl,rfl⟩:=hh;rfl
       ·simp only[DOp.callf.injEq]at hh;obtain⟨_,rfl,rfl,rfl⟩:=hh;rfl
   ·rw[hcf]at h2;simp at h2
   ·rw[hcf]at h2
    simp only[DOp.callf.injEq]at h2;obtain⟨rfl,rfl,rfl,rfl⟩:=h2;unfold comp at h1;cases hx:cZ P o with
    | none=>rw[hx]at h1;simp at h1
    | some y=>rw[hx]at h1;simp only[H7]at h1;rw[h1]
  obtain⟨dst,oo,ty,pos,after,guard⟩:=o;rcases lI hc0 rfl rfl with ⟨t,pa,xa,n',p',x',_,_,_,_,hh⟩|⟨t,m,k,xx,m',k',x',kt,e,_,_,_,_,_,⟨_,_,hh⟩|⟨_,hh⟩⟩|⟨_,_,_,_,hh⟩|⟨c,hoo,hcc⟩;·simp at hh
  ·simp at hh
  ·simp at hh
  ·simp at hh
  ·simp only at hoo
   subst hoo;rcases sP hcc rfl with ⟨_,_,_,_,_,_,_,_,_,_,_,_,_,_,_,hh⟩|⟨f0,f',xs',e1,g1,g2,hh⟩|⟨k,name,xs',e1,g2,hh⟩;·simp at hh
   ·simp only[DOp.callf.injEq]at hh
    obtain⟨_,rfl,rfl,_⟩:=hh;obtain⟨callee,args,argTypes⟩:=c;simp only at e1;subst e1;refine aLn hB st re rfl g1 g2 h ?_;intro v c F' w' H' k1 k2 k3 k4;exact hK F' w' H' c v k1 k2 (re.up (k1.up st)) k3 k4
   ·exfalso
    simp only[DOp.callf.injEq]at hh;obtain⟨_,rfl,rfl,_⟩:=hh;exact hnm _ _ rfl
 ·exact h.elim
theorem aGq{ops:Array Oper}{Qc:Exit→Act→World→Prop}:∀(l:List DOper)(i:Nat),(∀ j d,l[j]?=some d→Reads P ops (i+j) d)→(∀ d∈l,aEi N d) →
 ∀(F:Nat→Prop)(w:World)(H:Hp)(env:aH)(a:Act),a.tmps.size=N→B.Up F w→St F w H→RE F w env a→RSP B P l Q env H →
   (∀ a' env' F' w' H' c v,a'.defers=a.defers→Ext F w H F' w' H'→St F' w' H'→RE F' w' env' a'→Rv F' w' v c→Q v env' H'→Qc (.panic (pnc c)) a' w') →
 wpOpsIn (FW r) 0 P ops Qc (List.range' i l.length) a w:=by
 intro l;induction l with
 | nil=>intro i _ _ F w H env a hsz hB st re h;exact h.elim
 | cons d l ih =>
   intro i hr hd F w H env a hsz hB st re h hQ;rw[C8,aC9,wpOpsIn_cons];rcases h with h|h;·exact aMt (hr 0 d rfl) hB st re h fun F' w' H' c v k1 k2 k3 k4 k5=>hQ a env F' w' H' c v rfl k1 k2 k3 k4 k5
   ·refine aBk (hr 0 d rfl) (hd d (by simp)).2 (hd d (by simp)).1 hsz hB st re h ?_
    intro a' F' w' env' H' h1 h2 h3 h4 h5 h6;refine ih (i+1) (fun j d' hj=>by have:=hr (j+1) d' (by simpa using hj);rwa [aB0,aD0 1 j]) (fun d' hd'=>hd d' (by simp[hd'])) F' w' H' env' a' h1 (hB.step st h3) h4 h5 h6 ?_;intro a2 env2 F2 w2 H2 c v k0 k1 k2 k3 k4 k5;exact hQ a2 env2 F2 w2 H2 c v (k0.trans h2) (h3.trans k1) k2 k3 k4 k5
theorem WPD.reg{l:List DOper}(hcm:∀ o∈l,o.op.isComm=false)(h:RSP B P l Q env H):WPD B P r N (.reg false l) Q env H:=by
 intro c hc;cases c<;>simp only[eH]at hc
 case region id ops d =>
  split at hc
  ·rename_i l' hl
   simp only[oSI,DCode.reg.injEq]at hc;obtain⟨rfl,rfl⟩:=hc;unfold tI at hl;split at hl;·simp at hl
   ·rename_i l0 hl0
    obtain⟨hlen,hreads⟩:=tH hl0;split at hl;·simp at hl
    ·rename_i hdst
     simp only[M9,aG9]at hdst;simp only[C6,AAd,oSI]at hl;subst hl;intro F w act n0 T h1 h2 h3 h4 h5 h6;refine wpIn_region ?_;rw[←hlen,aB9];refine aGq l0 0 (fun j d hj=>by rw[I6];exact hreads j d hj) (fun d hd=>⟨aCF hdst d hd,hcm d hd⟩) F w H env act h3 h1 h4 h5 h ?_;intro a' env' F' w' H' c v k0 k1 k2 k3 k4 k5;exact⟨c,v,env',F',H',rfl,k1,k2,k3,k4,by rw[k0];exact h6.ext k1,k5⟩
  ·simp at hc
 all_goals exfalso;first|(simp at hc;done)|((repeat' split at hc)<;>simp at hc;done)

theorem aDp{fn:Func}{tmps:Array Value}{n0:Nat}{F0:Nat→Prop}{w0:World}{H0:Hp}{R:Ending→World→Prop}{c:Value}{v:AV}(hn0:w0.heap.size≤n0)
 (hT:∀ w,Ext F0 w0 H0 F w H→St F w H→Rv F w v c→R (.panicked (pnc c)) w) :
 ∀(ms:List Deferred)(w:World),Ext F0 w0 H0 F w H→St F w H→Rv F w v c→ms.Nodup→(∀ d∈ms,Mk1 n0 F H w d)→LeavesInM Fence.wide 0 P fn tmps R ms (.panicking (pnc c)) w:=by
 intro ms;induction ms with
 | nil=>intro w he st hu _ _;exact hT w he st hu
 | cons d ds ih =>
   intro w he st hu hnd hm;obtain⟨D,rfl,h2,h3,h4,h5⟩:=hm d (by simp);obtain⟨k1,k2,k3⟩:=vQ (n0:=0) (x:=none) he st (I2 hn0 h2) h3 h4 h5;have hnd:=I8.1 hnd;refine⟨by simp,.inl ⟨D,_,rfl,run_takeDeferred h3,ih _ k1 k2 (hu.up k3) hnd.2 fun d' hd'=>?_⟩⟩;obtain⟨D',rfl,l2,l3,l4,l5⟩:=hm d' (by simp[hd']);refine⟨D',rfl,l2,?_,l4,l5⟩;rw[World.putObj_heap_other fun e=>hnd.1 (by rw[←e];exact hd')];exact l3
theorem FnP.of{f:FuncId}{d:DFn}{as:List AV}{Qv:AV→Hp→Prop}(hf:aRJ P f d)(hN:as.length≤d.N)(hdf:d.dfr=none)(h:WPD B P none d.N d.body (fun v _ H'=>Qv v H') (aV as) H):FnP B P f as H Qv:=by
 refine⟨hf.call,fun F w vs hB st hA=>?_⟩;obtain⟨fn,c,h1,h2,h3,h4,h5⟩:=hf.code;have hsz:(vs++Array.replicate (fn.ntmps-vs.size) undef).size=d.N:=by
  have:=hA.1;simp[h3];omega
 have hre:=aAU (N:=d.N) (nt:=fn.ntmps-vs.size) hB hA;rw[hdf]at h5;have h5':eH P d.N c=some d.body:=by
  simp only[aHa,A0,B4]at h5;obtain⟨y,hy,_,rfl⟩:=h5;exact hy
 refine callsIn_of_wp_marks h1 h2 trivial (wpIn_mono (h c h5' F w { tmps:=vs++Array.replicate (fn.ntmps-vs.size) undef,defers:=[] } w.heap.size [] hB (A8 _) hsz st hre Mk.nil) ?_);rintro e a' w' ⟨cv,v,env',F',H',rfl,k2,k3,k4,k5,k6,k7⟩;obtain⟨ms,e1,e2,e3⟩:=k6.ex;rw[I5]at e1;show LeavesInM Fence.wide 0 P fn a'.tmps (aPc F w H Qv) a'.defers (.panicking (pnc cv)) w';rw[e1];exact aDp (A8 _) (fun w'' he st' rv'=>⟨cv,v,F',H',rfl,he,st',rv',k7⟩) ms w' k2 k3 k5 e2 e3
variable{P:Program}{B:Base}{F:Nat→Prop}{w:World}{H:Hp}{env:aH}{a:Act}

def aEb(z:DOper):Bool:=z.op.kind==7&&z.guard.isNone
def qR(post:List DOper):List Nat:=(post.filter aEb).filterMap (·.dst)
def aAF(ds:List Nat)(e:aH):aH:=fun j=>if ds.contains j then .any else e j
def aCJ(y:DOper):List DOper→Bool
 | []=>true
 | x::r=>aCJ y r&&(r++[y]).any fun z => !nY x z
def zX:List DOper→List DOper→Bool
 | _,[]=>true
 | prev,z::r=>if aEb z then zX prev r else (prev.any fun x => !nY x z)&&zX (z::prev) r
def aJu(pre:List DOper)(y:DOper)(post:List DOper):Bool:=aCJ y pre&&(zX [y] post&&pre.all fun x=>match x.dst with
 | some d => !(qR post).contains d
 | none=>true)

theorem aIS{d:Option Nat}{u:AV}{j:Nat}(h:d≠some j):aW env d u j=env j:=by
 cases d with
 | none=>rfl
 | some k=>simp only[aW,upd];rw[if_neg];intro e;exact h (by rw[e])
theorem aKK{o:DOper}{K:aH→Hp→Prop}(h:opW B P o K env H):opW B P o (fun env' H'=>K env' H'∧∀ j,o.dst≠some j→env' j=env j) env H:=by
 have g:∀(u:AV)(H':Hp),K (aW env o.dst u) H'→K (aW env o.dst u) H'∧∀ j,o.dst≠some j→aW env o.dst u j=env j:=fun u H' hk=>⟨hk,fun j hj=>aIS hj⟩;unfold opW at *;split at h
 ·revert h
  generalize o.op=op;intro h;cases op
  case store n p x l=>exact cV (fun H' hK=>g _ _ hK) h
  case copy s x y=>exact cV (fun r hK=>g _ _ hK) h
  case mapup q m k x=>exact cV (fun H' hK=>g _ _ hK) h
  case nxts x=>exact cV (fun r hK=>g _ _ hK) h
  case callf q f xs l =>
   cases q with
   | true=>obtain⟨v,h1,h2⟩:=h;exact⟨v,h1,g _ _ h2⟩
   | false=>exact CallV.mono h fun v H' hq=>g _ _ hq
  all_goals
   rw[qE rfl]at h ⊢;refine cV (fun e he=>?_) h;unfold gH at *;split;·exact g _ _ he
   ·exact fun b hb=>g _ _ (he b hb)
 ·exact g _ _ h
 ·exact h.elim

theorem aOi{z:DOper}(hz:aEb z=true)(hd:∀ d,z.dst=some d→env d = .any):opW B P z (fun env' H'=>Shift env' H' env H) env H:=by
 simp only[aEb,A3,beq_iff_eq,Option.isNone_iff_eq_none]at hz;obtain⟨x,f,hx⟩:=aAs hz.1;have hg:gd z env=some true:=by unfold gd;rw[hz.2]
 unfold opW;rw[hg];simp only;rw[qE (lH (.inr hz.1)),hx,optW_some];intro b hb;simp only[reduceCtorEq,AAi]at hb;have h1:Shift (aW env z.dst (f b)) (hset H b x) env (hset H b x):=fun F w a st re=>⟨F,Ext.refl _ _ _,st,fun k=>by
  have:=re.rv k;by_cases hk:z.dst=some k;·rw[hd k hk];exact .any _
  ·rw[aIS hk]at this;exact this,re.gi⟩
 refine h1.trans (Shift.forget fun c y hc=>?_);have:c≠b:=fun e=>by subst e;rw[hb]at hc;cases hc
 rw[aJ _ _ this];exact hc

theorem aLL{ops:Array Oper}{listed:Array Bool}(hc:∀ i,listed.getD i false=true→∀ m∈(ops.toList.map bZ).getD i [],listed.getD m false=true){x z:DOper}
 (hp:aCU (kQ (ops.toList.map bZ)) x z) (hs:nY x z=false) (hz:∀ m∈(ops.toList.map bZ).getD z.ix [],listed.getD m false=true):listed.getD x.ix false=true:=by
 rcases hp with hp|hp;·exact oC _ (fun i=>listed.getD i false=true) hc z.ix x.ix hz hp
 ·rw[hs]at hp;cases hp

theorem yM{ops:Array Oper}{listed:Array Bool}{y:DOper}{post:List DOper}(hc:∀ i,listed.getD i false=true→∀ m∈(ops.toList.map bZ).getD i [],listed.getD m false=true)
 (hy:∀ m∈(ops.toList.map bZ).getD y.ix [],listed.getD m false=true) :
 ∀(pre:List DOper),(pre++y::post).Pairwise (aCU (kQ (ops.toList.map bZ)))→aCJ y pre=true→∀ x∈pre,listed.getD x.ix false=true
 | [],_,_,x,hx=>by simp at hx
 | x0::r,hp,hch,x,hx=>by
   simp only[aCJ,A3]at hch;rw[J9]at hp;obtain⟨hp1,hp2⟩:=aE4.1 hp;have ih:=yM hc hy r hp2 hch.1;rcases B3.1 hx with rfl|hx
   ·obtain⟨z,hz,hsw⟩:=List.any_eq_true.1 hch.2
    simp only[M9]at hsw;rcases A9.1 hz with hz|hz;·exact aLL hc (hp1 z (by simp[hz])) hsw (hc z.ix (ih z hz))
    ·simp only[B2]at hz
     subst hz;exact aLL hc (hp1 z (by simp)) hsw hy
   ·exact ih x hx

theorem qG{ops:Array Oper}{listed:Array Bool}{y:DOper}(hc:∀ i,listed.getD i false=true→∀ m∈(ops.toList.map bZ).getD i [],listed.getD m false=true) :
 ∀(post prev:List DOper),(∀ x∈prev,∀ z∈post,aCU (kQ (ops.toList.map bZ)) x z)→post.Pairwise (aCU (kQ (ops.toList.map bZ)))→zX prev post=true →
   (∀ x∈prev,listed.getD x.ix false=true→listed.getD y.ix false=true)→∀ z∈post,aEb z=false→(∀ m∈(ops.toList.map bZ).getD z.ix [],listed.getD m false=true)→listed.getD y.ix false=true
 | [],_,_,_,_,_,z,hz,_,_=>by simp at hz
 | z0::r,prev,hpr,hpw,hch,hyes,z,hz,hf,hm=>by
   obtain⟨hp1,hp2⟩:=aE4.1 hpw;simp only[zX]at hch;split at hch
   ·rename_i hf0
    rcases B3.1 hz with rfl|hz;·rw[hf0]at hf;cases hf
    ·exact qG hc r prev (fun x hx u hu=>hpr x hx u (by simp[hu])) hp2 hch hyes z hz hf hm
   ·simp only[A3]at hch
    have one:(∀ m∈(ops.toList.map bZ).getD z0.ix [],listed.getD m false=true)→listed.getD y.ix false=true:=fun hm=>by
     obtain⟨x,hx,hsw⟩:=List.any_eq_true.1 hch.1;simp only[M9]at hsw;exact hyes x hx (aLL hc (hpr x hx z0 (by simp)) hsw hm)
    rcases B3.1 hz with rfl|hz;·exact one hm
    ·refine qG hc r (z0::prev) (fun x hx u hu=>?_) hp2 hch.2 (fun x hx hl=>?_) z hz hf hm
     ·rcases B3.1 hx with rfl|hx
      ·exact hp1 u hu
      ·exact hpr x hx u (by simp[hu])
     ·rcases B3.1 hx with rfl|hx
      ·exact one (hc _ hl)
      ·exact hyes x hx hl

theorem Drawn.drop{N:Nat}{ops:Array Oper}{p1 p2:List DOper}{z:DOper}{listed:Array Bool}(hd:Drawn P N ops (p1++z::p2) listed)(hlt:z.ix<ops.size)(h2:∀ m∈(ops.toList.map bZ).getD z.ix [],listed.getD m false=true) :
 (∀ x∈p1++p2,x.ix≠z.ix)∧Drawn P N ops (p1++p2) (listed.setIfInBounds z.ix true):=by
 have hsub:(p1++p2).Sublist (p1++z::p2):=aB1 (aB5 _ _) _;have hnd:∀ x∈p1++p2,x.ix≠z.ix:=by
  intro x hx e;have hn:=hd.nodup;rw[F6,D7,N4]at hn;rcases A9.1 hx with hx|hx;·exact hn.2.2 x.ix (O5 hx) z.ix (by simp) e
  ·exact(I8.1 hn.2.1).1 (by rw[←e];exact O5 hx)
 refine⟨hnd,fun x hx=>hd.reads x (hsub.mem hx),fun x hx=>?_,fun j hj=>?_,hd.nodup.sublist (hsub.map _),hd.pairs.sublist hsub,fun j hj m hm=>?_,by simp[hd.size]⟩;·rw[getD_set_ne true (Ne.symm (hnd x hx))];exact hd.open_ x (hsub.mem hx)
 ·by_cases hjy:j=z.ix
  ·subst hjy
   have:z.ix<listed.size:=by rw[hd.size];exact hlt
   simp[this]at hj
  ·rw[getD_set_ne true (Ne.symm hjy)]at hj
   obtain⟨x,hx,hxj⟩:=hd.all j hj;refine⟨x,?_,hxj⟩;simp only[A9,B3]at hx ⊢;rcases hx with hx|rfl|hx;·exact .inl hx
   ·exact absurd hxj.symm hjy
   ·exact .inr hx
 ·by_cases hjy:j=z.ix
  ·subst hjy;exact getD_set_true (h2 m hm)
  ·rw[getD_set_ne false (Ne.symm hjy)]at hj
   exact getD_set_true (hd.closed j hj m hm)

theorem aGr{ops:Array Oper}{r:Option Nat}{N:Nat}{Q:QP}{Qc:Exit→Act→World→Prop}(ha:uN (ops.toList.map bZ)=true){y:DOper}{post0 pre0:List DOper}
 (hp0:(pre0++y::post0).Pairwise (aCU (kQ (ops.toList.map bZ)))) (hB0:aCJ y pre0=true) (hA0:zX [y] post0=true) (hF0:∀ x∈pre0,∀ d,x.dst=some d→d∉qR post0) :
 ∀(fuel:Nat)(pre post:List DOper)(listed:Array Bool)(F:Nat→Prop)(w:World)(H:Hp)(env:aH)(a:Act)(L:wQ),(pre++y::post).length≤fuel→pre.Sublist pre0→post.Sublist post0→Drawn P N ops (pre++y::post) listed→(∀ o∈pre,L o.ix=none) →
   (∀ d∈qR post0,env d = .any)→a.tmps.size=N→B.Up F w→St F w H→RE F w env a→RD B P pre (fun env H=>opP B P y Q env H) env H L →
   (∀ a' env' F' w' H' c v,a'.defers=a.defers→Ext F w H F' w' H'→St F' w' H'→RE F' w' env' a'→Rv F' w' v c→Q v env' H'→Qc (.panic (pnc c)) a' w')→wpAnyIn (FW r) 0 P .any ops Qc fuel listed a w:=by
 intro fuel;induction fuel with
 | zero=>intro pre post listed F w H env a L hl;simp at hl
 | succ fuel ih =>
   intro pre post listed F w H env a L hl hsub0 hsub1 hd hL hE hsz hB st re h hQ;refine⟨fun hr=>absurd hr (hd.ready_ne ha (by simp)),fun i hi=>?_⟩;obtain⟨h1,hlt,h2⟩:=pT.1 hi;obtain⟨z,hz,rfl⟩:=hd.all i h1;have shut:∀ x∈pre++y::post,listed.getD x.ix false=true→False:=fun x hx hl=>by
    have hx':=hd.open_ x hx;have hxl:x.ix<listed.size:=by
     obtain⟨o,ho,_⟩:=(hd.reads x hx).1.get;rw[hd.size];exact(B7.1 ho).1
    rw[zR hxl,hl]at hx';simp at hx'
   by_cases hzp:z∈pre
   ·obtain⟨p1,p2,rfl⟩:=aG3 hzp
    have hd':Drawn P N ops (p1++z::(p2++y::post)) listed:=by simpa using hd
    have hsw:∀ x∈p1,nY x z=true:=fun x hx=>by
     have hp:=(aF4.1 hd'.pairs).2.2 x hx z (by simp);rcases hp with hp|hp
     ·exfalso
      exact shut x (by simp[hx]) (oC _ (fun i=>listed.getD i false=true) hd.closed z.ix x.ix h2 hp)
     ·exact hp
    have hndp:((p1++z::p2).map (·.ix)).Nodup:=by
     have:=hd.nodup;rw[F6,N4]at this;exact this.1
    have hp:=aWd p1 env H L st.fin hsw hndp hL h;refine aBk (hd.reads z hz).1 (hd.reads z hz).2.2 (hd.reads z hz).2.1 hsz hB st re (aKK (aJv hp)) ?_;rintro a' F' w' env' H' k1 k2 k3 k4 k5 ⟨⟨L',k6,k7⟩,k8⟩;have hsub:(p1++p2).Sublist (p1++z::p2):=aB1 (aB5 _ _) _;obtain⟨hnd,hdn⟩:=hd'.drop hlt h2
    refine ih (p1++p2) post _ F' w' H' env' a' L' (by simp at hl ⊢;omega) (hsub.trans hsub0) hsub1 (by simpa using hdn)
     (fun x hx=>by rw[k6 _ (hnd x (by simp at hx ⊢;rcases hx with hx|hx<;>simp[hx]))];exact hL x (hsub.mem hx))
     (fun d hdd=>by rw[k8 d fun e=>hF0 z (hsub0.mem (by simp)) d e hdd];exact hE d hdd) k1 (hB.step st k3) k4 k5 k7 (fun a2 env2 F2 w2 H2 c v m0 m1 m2 m3 m4 m5=>hQ a2 env2 F2 w2 H2 c v (m0.trans k2) (k3.trans m1) m2 m3 m4 m5)
   ·rcases A9.1 hz with hz'|hz'
    ·exact absurd hz' hzp
    ·rcases B3.1 hz' with rfl|hz'
     ·have hall:=yM hd.closed h2 pre0 hp0 hB0
      have hnil:pre=[]:=by
       cases pre with
       | nil=>rfl
       | cons x pr=>exact(shut x (by simp) (hall x (hsub0.mem (by simp)))).elim
      subst hnil;exact aMt (hd.reads z hz).1 hB st re h fun F' w' H' c v k1 k2 k3 k4 k5=>hQ a env F' w' H' c v rfl k1 k2 k3 k4 k5
     ·cases hfz:aEb z with
      | true =>
        obtain⟨p1,p2,rfl⟩:=aG3 hz';have hd':Drawn P N ops ((pre++y::p1)++z::p2) listed:=by simpa using hd
        have hzd:∀ d,z.dst=some d→env d = .any:=fun d hdz=>hE d (by
         unfold qR;rw[List.mem_filterMap];exact⟨z,aA4.2 ⟨hsub1.mem (by simp),hfz⟩,hdz⟩)
        refine aBk (hd.reads z hz).1 (hd.reads z hz).2.2 (hd.reads z hz).2.1 hsz hB st re (aOi hfz hzd) ?_;intro a' F' w' env' H' k1 k2 k3 k4 k5 k6;obtain⟨F2,m1,m2,m3⟩:=k6 F' w' a' k4 k5;obtain⟨hnd,hdn⟩:=hd'.drop hlt h2;have hsub:(p1++p2).Sublist (p1++z::p2):=aB1 (aB5 _ _) _;have he:=k3.trans m1;exact ih pre (p1++p2) _ F2 w' H env a' L (by simp at hl ⊢;omega) hsub0 (hsub.trans hsub1) (by simpa using hdn) hL hE k1 (hB.step st he) m2 m3 h (fun a2 env2 F3 w2 H2 c v n0 n1 n2 n3 n4 n5=>hQ a2 env2 F3 w2 H2 c v (n0.trans k2) (he.trans n1) n2 n3 n4 n5)
      | false =>
        exfalso;obtain⟨_,hp2,_⟩:=aF4.1 hp0;obtain⟨hp3,hp4⟩:=aE4.1 hp2;refine shut y (by simp) (qG hd.closed post0 [y] (fun x hx u hu=>?_) hp4 hA0 (fun x hx hlx=>?_) z (hsub1.mem hz') hfz h2);·rw[B2.1 hx];exact hp3 u hu
        ·rw[B2.1 hx]at hlx;exact hlx

variable{r:Option Nat}{N:Nat}{Q:QP}
theorem WPD.regD{pre post:List DOper}{y:DOper}(hm:P.follows .mixedOrders=true)(hch:aJu pre y post=true)(h:RD B P pre (fun env H=>opP B P y Q env H) (aAF (qR post) env) H noL):WPD B P r N (.reg true (pre++y::post)) Q env H:=by
 intro c hc;cases c<;>simp only[eH]at hc
 case region id ops d =>
  split at hc
  ·rename_i l' hl
   simp only[oSI,DCode.reg.injEq]at hc;obtain⟨rfl,rfl⟩:=hc;simp only[aJu,A3]at hch;have hF:∀ x∈pre,∀ d,x.dst=some d→d∉qR post:=fun x hx d hd hmem=>by
    have:=C7.1 hch.2.2 x hx;rw[hd]at this;simp[hmem]at this
   obtain⟨c1,c2,c3,c4,c5,c6⟩:=aAu hl;intro F w act n0 T h1 h2 h3 h4 h5 h6;refine wpIn_region_any hm ?_;have hlist:∀ i,(Array.replicate ops.size false).getD i true=false↔i<ops.size:=fun i=>by
    by_cases h:i<ops.size<;>simp[h]
   refine aGr c2 (kI c3) hch.1 hch.2.1 hF ops.size pre post _ F w.drew H (aAF (qR post) env) act noL AM (List.Sublist.refl _) (List.Sublist.refl _) ⟨c1,fun y hy=>?_,fun i hi=>?_,xZ c5,kI c3,fun i hi=>?_,by simp⟩ (fun _ _=>rfl) (fun d hd=>by simp[aAF,hd]) h3
    (h1.step h4 (iJ F w H)) (wV h4) ⟨fun k=>by
     have:=(h5.up ((iJ F w H).up h4)).rv k;simp only[aAF];split;·exact .any _
     ·exact this,(h5.up ((iJ F w H).up h4)).gi⟩ h ?_
   ·obtain⟨o,ho,_⟩:=(c1 y hy).1.get
    exact(hlist _).2 (B7.1 ho).1
   ·have:=c6 i ((hlist i).1 hi)
    rw[D6]at this;exact this
   ·exfalso
    simp only[F8,aA9]at hi;split at hi<;>simp at hi
   ·intro a' env' F' w' H' c v k0 k1 k2 k3 k4 k5
    exact⟨c,v,env',F',H',rfl,(iJ F w H).trans k1,k2,k3,k4,by rw[k0];exact h6.ext ((iJ F w H).trans k1),k5⟩
  ·simp at hc
 all_goals exfalso;first|(simp at hc;done)|((repeat' split at hc)<;>simp at hc;done)

theorem WPD.shift{env':aH}{H':Hp}{c:DCode}(hs:Shift env H env' H')(h:WPD B P r N c Q env' H'):WPD B P r N c Q env H:=by
 intro c hc F w act n0 T h1 h2 h3 h4 h5 h6;obtain⟨F',k1,k2,k3⟩:=hs F w act h4 h5;refine wpIn_mono (h c hc F' w act n0 T (h1.step h4 k1) h2 h3 k2 k3 (h6.ext k1)) ?_;exact fun _ _ _=>LandP.step k1
theorem LandP.mono{n0:Nat}{T:List Deferred}{Q':QP}(hq:∀ v e H',Q v e H'→Q' v e H'){e:Exit}{a':Act}{w':World}(h:LandP n0 T F w H Q e a' w'):LandP n0 T F w H Q' e a' w':=by
 obtain⟨c,v,env',F',H',h1,h2,h3,h4,h5,h6,h7⟩:=h;exact⟨c,v,env',F',H',h1,h2,h3,h4,h5,h6,hq _ _ _ h7⟩
theorem WPD.mono{c:DCode}{Q':QP}(hq:∀ v e H',Q v e H'→Q' v e H')(h:WPD B P r N c Q env H):WPD B P r N c Q' env H :=
 fun c hc F w act n0 T h1 h2 h3 h4 h5 h6=>wpIn_mono (h c hc F w act n0 T h1 h2 h3 h4 h5 h6) fun _ _ _=>LandP.mono hq
def xY:AO→Bool
 | .meth _ _=>false
 | _=>true
structure aPa where
 N:Nat
 res:List (Nat×Option (Bool×Nat))
 pre:List DOper
 cell:Nat
 fn:Nat
 body:XCode
 ty:TypeId
 zero:AV
 hops:List DOper
 is:Nat
 hlast:List DOper
def aAr(cell v:AV)(t:Bool):aH:=fun j=>if j=0 then cell else if j=5 then .tup [v,.bool t] else .any
def vF(i:aPa)(run:eP)(runY:fS)(cell v:AV)(t:Bool)(h:XH):Option XH:=match fA run runY i.hops (aAr cell v t) h with
 | some (e1,h1)=>match e1 i.is with
   | .bool true=>(fA run runY i.hlast e1 h1).map (·.2)
   | .bool false=>some h1
   | _=>none
 | none=>none
section
variable{P:Program}{B:Base}{D:Nat→Option XFn}{Y:Nat→Option YI}{r:Nat→Option Nat}{e env:aH}{h:XH}{H:Hp}

theorem aDM{F:Nat→Prop}{w:World}{Q:AV→Hp→Prop}{e:Ending}{w':World}:aPc F w H Q e w'↔∃ c,e = .panicked (pnc c)∧uT F w H Q (.returned c) w':=by
 constructor
 ·rintro ⟨c,v,F',H',rfl,h1,h2,h3,h4⟩
  exact⟨c,rfl,c,v,F',H',rfl,h1,h2,h3,h4⟩
 ·rintro ⟨c,rfl,c',v,F',H',h0,h1,h2,h3,h4⟩
  cases h0;exact⟨c,v,F',H',rfl,h1,h2,h3,h4⟩

theorem FnP.mono{f:FuncId}{as:List AV}{Q Q':AV→Hp→Prop}(hq:∀ v H',Q v H'→Q' v H')(hp:FnP B P f as H Q):FnP B P f as H Q' :=
 ⟨hp.1,fun F w vs h1 h2 h3=>(hp.2 F w vs h1 h2 h3).mono fun e w' ⟨c,v,F',H',k1,k2,k3,k4,k5⟩=>⟨c,v,F',H',k1,k2,k3,k4,hq _ _ k5⟩⟩

theorem FnP.frameS{f:FuncId}{as:List AV}{Q:AV→Hp→Prop}(S:Nat→Prop)[DecidablePred S](hp:FnP B P f as (fun c=>if S c then H c else none) Q) :
 FnP B P f as H fun v H''=>∃ H',Q v H'∧(∀ c,S c∨H c=none→H'' c=H' c)∧(∀ c,¬S c→∀ x,H c=some x→H'' c=some x∧H' c=none):=by
 refine⟨hp.1,fun F w vs h1 h2 h3=>(hp.2 F w vs h1 ?_ h3).mono fun e w' hw0=>?_⟩
 ·exact h2.forget fun c x hc=>by
   split at hc;·exact hc
   ·simp at hc
 ·obtain⟨c,rfl,hw1⟩:=aDM.1 hw0
  exact aDM.2 ⟨c,rfl,aAm S h2 _ _ hw1⟩

def aYp(D:Nat→Option XFn)(Y:Nat→Option YI)(r:Nat→Option Nat)(v:AV)(e:aH)(h:XH)(Q:QP):Prop:=∀ r' v' env' H',Sub r r'→SR D Y r' e h env' H'→Rn D Y r' v v'→Q v' env' H'

def aYq(D:Nat→Option XFn)(Y:Nat→Option YI)(k:Nat)(r:Nat→Option Nat)(v:AV)(e:aH)(h:XH)(Q:QP):Prop:=∀ r' v' env' H',Agree k r r'→SR D Y r' e h env' H'→Rn D Y r' v v'→Q v' env' H'

theorem FnP.nz{f:FuncId}{as:List AV}{Q:AV→Hp→Prop}(h:FnP B P f (lO as) H Q):FnP B P f as H Q:=⟨h.1,fun F w vs h1 h2 h3=>h.2 F w vs h1 h2 h3.nz⟩

end
variable{P:Program}{B:Base}{F:Nat→Prop}{w:World}{H:Hp}{env:aH}{a:Act}

theorem aCX{Fe:Fence}{n:Nat}{id:Nat}{ops:Array Oper}{Q:Exit→Act→List Frame→World→Prop}{cs:List Frame}{o:Oper}(ho:ops[0]?=some o)
 (hg:o.guard=none) (hab:∀ f,o.about P w a.eval=some f→Fe.fn f) (hr:(execOp a.eval o).run P w = .ok .recover w) (hro:Fe.round=none)
 (h:match recoverD cs with
  | some (v,cs')=>wpOpsIn Fe n P ops (fun e a w=>Q e a cs' w) (List.range' 1 (ops.size-1)) (a.put o.dst v) w
  | none=>wpOpsIn Fe n P ops (fun e a w=>Q e a cs w) (List.range' 1 (ops.size-1)) (a.put o.dst .nilIface) w) :
 (Code.region id ops false).wpSIn Fe n P Q a cs w:=by
 intro b k hb hrd hF hroom;have hsz:0<ops.size:=(B7.1 ho).1;have hrange:List.range ops.size=0::List.range' 1 (ops.size-1):=by
  rw[aB9];obtain⟨m,hm⟩:∃ m,ops.size=m+1:=⟨ops.size-1,by omega⟩;rw[hm,aC9];simp
 have i0:(lone (b.atR a (.code (.region id ops false)::k)) cs w).fenced P Fe:=fenced_calm hF hroom rfl;have s0:=stepR_region (P:=P) (b:=b) (a:=a) (k:=k) (cs:=cs) (w:=w) (id:=id) (ops:=ops);rw[hrange]at s0;have hw:Region.wanted o (yielded ops a.tmps)=true:=by unfold Region.wanted;rw[hg]
 have h0:(lone (b.atR a (.inRegion ops (0::List.range' 1 (ops.size-1))::k)) cs w).fenced P Fe:=fenced_oper hF hroom ho hab;have hgg:=stepGR_op (P:=P) (b:=b) (k:=k) (cs:=cs) (w:=w) (rest:=List.range' 1 (ops.size-1)) ho hw;rw[hrd,Oper.semAt_none]at hgg;have hfin:∀ v,(b.atR a (.inRegion ops (0::List.range' 1 (ops.size-1))::k)).finish v=b.atR (a.put o.dst v) (.inRegion ops (List.range' 1 (ops.size-1))::k):=by
  intro v;rw[Frame.finish_atR,ho];rfl
 have hk:(b.atR a (.inRegion ops (0::List.range' 1 (ops.size-1))::k)).kind = .deferred:=hb;have htr:=tryRecover_deferred hk cs;split at h
 ·rename_i v cs' hrec
  have hlen:=recoverD_length hrec;obtain⟨e,a',w'',hq,harr⟩:=wp_opsIn _ _ _ h b k cs' (hrd.trans hro.symm) hF (by rw[hlen];exact hroom);refine⟨e,a',cs',w'',hlen,hq,.of_steps (.one i0 s0) (.of_steps (.one h0 (step_lone_go ?_)) harr)⟩;rw[hgg,←hfin];simp only[Frame.atR,hrd]at htr ⊢;simp[stepG.apply,hr,htr,hrec]
 ·rename_i hrec
  obtain⟨e,a',w'',hq,harr⟩:=wp_opsIn _ _ _ h b k cs (hrd.trans hro.symm) hF hroom;refine⟨e,a',cs,w'',rfl,hq,.of_steps (.one i0 s0) (.of_steps (.one h0 (step_lone_go ?_)) harr)⟩;rw[hgg,←hfin];simp only[Frame.atR,hrd]at htr ⊢;simp[stepG.apply,hr,htr,hrec]

theorem aDq{fn:Func}{tmps:Array Value}{n0:Nat}{F0:Nat→Prop}{w0:World}{H0:Hp}{R:Ending→World→Prop}{T:List Deferred}{u:FrameMode}{S:World→Prop}(hS:∀ w w',Up F w F w'→S w→S w')(hu:u ≠ .run)(hn0:w0.heap.size≤n0)
 (hT:∀ w,S w→Ext F0 w0 H0 F w H→St F w H→RE F w env { tmps:=tmps,defers:=[] }→LeavesInM Fence.wide 0 P fn tmps R T u w) :
 ∀(ms:List Deferred)(w:World),S w→Ext F0 w0 H0 F w H→St F w H→RE F w env { tmps:=tmps,defers:=[] }→ms.Nodup→(∀ d∈ms,Mk1 n0 F H w d)→LeavesInM Fence.wide 0 P fn tmps R (ms++T) u w:=by
 intro ms;induction ms with
 | nil=>intro w hs he st re _ _;exact hT w hs he st re
 | cons d ds ih =>
   intro w hs he st re hnd hm;obtain⟨D,rfl,h2,h3,h4,h5⟩:=hm d (by simp);obtain⟨k1,k2,k3⟩:=vQ (n0:=0) (x:=none) he st (I2 hn0 h2) h3 h4 h5;have hnd:=I8.1 hnd;refine⟨hu,.inl ⟨D,_,rfl,run_takeDeferred h3,ih _ (hS _ _ k3 hs) k1 k2 (re.up k3) hnd.2 fun d' hd'=>?_⟩⟩;obtain⟨D',rfl,l2,l3,l4,l5⟩:=hm d' (by simp[hd']);refine⟨D',rfl,l2,?_,l4,l5⟩;rw[World.putObj_heap_other fun e=>hnd.1 (by rw[←e];exact hd')];exact l3
end
end Go.DL
