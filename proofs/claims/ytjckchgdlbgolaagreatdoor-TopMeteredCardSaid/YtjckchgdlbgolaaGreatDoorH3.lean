/- Parts of a proof, joined: X9 XA XC XD XE XK XR XT XU XS XF XG DlV DlW XP XQ DlX. No statement of the seed is proved here. -/
import Derived.Carry
import Derived.OpenShut
import Derived.ChangeArms
import Derived.DataReads
import Derived.ChangeOld
import Derived.ChangeShapes
import Derived.RangeFuncLeaves
import Derived.RecoverIn
import Derived.Test.YtjckchgdlbgolaaGreatDoorH2
set_option linter.unusedSimpArgs false
set_option linter.unusedVariables false
set_option linter.unusedSectionVars false
namespace Go.DL
section
section
variable{P:Program}{B:Base}{D:Nat→Option XFn}{Y:Nat→Option YI}{r:Nat→Option Nat}{e env:aH}{h:XH}{H:Hp}

theorem LogR.mono{r':Nat→Option Nat}{h':XH}{L:List (Nat×Nat)}{L':yP}(hl:LogR r h L L')(hs:Sub r r')(hk:∀ q∈L,(hat h q.2).isSome=true→(hat h' q.2).isSome=true):LogR r' h' L L' :=
 ⟨fun q hq=>hk q hq (hl.1 q hq),fun j c hj=>let ⟨b,h1,h2⟩:=hl.2 j c hj; ⟨b,h1,hs b c h2⟩⟩

theorem aKP(sr:SR D Y r e h env H){ix:Nat}{op:DOp}(hok:iE op=true){L:List (Nat×Nat)}{L':yP}(hl:LogR r h L L'){eff:Eff}(he:aD op e (aI h)=some eff):LogR r h (aMh ix op e L) (eL ix op env L'):=by
 cases op with
 | load g n x =>
   have hx:=aP sr.re (x:=x) hok;simp only[aMh,eL];simp only[aD]at he;split at he<;>simp only[oSI,reduceCtorEq]at he
   rename_i v hv;unfold fG at hv;split at hv
   ·rename_i b o hb
    rw[hb]at hx;obtain⟨c,k1,k2⟩:=lY hx;simp only[eH,hb,k1];have hlive:(hat h b).isSome=true:=by
     split at hv
     ·rename_i w cs hc
      obtain⟨g',cs',k3,_⟩:=sr.sh.cells k2 hc;simp[k3]
     ·simp at hv
    refine⟨fun q hq=>?_,fun j c' hj=>?_⟩
    ·rcases B5.1 hq with rfl|hq
     ·exact hlive
     ·exact hl.1 q hq
    ·simp only at hj
     split at hj;·grind
     ·obtain⟨b',k3,k4⟩:=hl.2 j c' hj
      grind
   ·rename_i rows i o hb
    rw[hb]at hx;simp only[eH,hb,(aBk hx).1];refine⟨hl.1,fun j c' hj=>?_⟩;simp only at hj;split at hj;·simp at hj
    ·exact hl.2 j c' hj
   ·simp at hv
 | _=>exact hl

theorem aBb{run:eA}{runY:fA}(hf:FnS P B D Y run)(hy:YS P B D Y runY):∀(ops:List DOper)(r:Nat→Option Nat)(e:aH)(h:XH)(L:List (Nat×Nat))(env:aH)(H:Hp)(L':yP)(e':aH)(h':XH)(K:aH→Hp→Prop),uE ops=true→SR D Y r e h env H →
 LogR r h L L'→fM run runY ops e h L=some (e',h')→aKf D Y r e' h' K→RD B P ops K env H L':=by
 intro ops;induction ops with
 | nil =>
   intro r e h L env H L' e' h' K _ sr _ hx hK;simp only[fM,oSI,A7]at hx;obtain⟨rfl,rfl⟩:=hx;exact hK r env H (Sub.refl r) sr
 | cons o ops ih =>
   intro r e h L env H L' e' h' K hok sr hl hx hK;simp only[uE,N5,A4]at hok;simp only[fM]at hx;simp only[RD,opD];split at hx
   ·rename_i hg
    rw[aAl sr hg];simp only[optW_some,aDL,AAe];split at hx
    ·rename_i hlog
     simp only[B9]at hx;obtain⟨⟨e1,h1⟩,hx1,hx2⟩:=hx;split at hx2
     ·rename_i hpost
      have next:∀ r' env' H' L2,Sub r r'→SR D Y r' e1 h1 env' H'→LogR r' h1 (aMh o.ix o.op e L) L2→RD B P ops K env' H' L2:=fun r' env' H' L2 hs sr' hl' =>
       ih r' e1 h1 _ env' H' L2 e' h' K hok.2 sr' hl' hx2 fun r2 env2 H2 hs2 sr2=>hK r2 env2 H2 (hs.trans hs2) sr2
      revert hx1 hlog hpost next;generalize o.op=op at hok ⊢;intro hlog hx1 hpost next;have hok:=hok.1;by_cases hq:op.isQ=true
      ·rw[wD (fun n p x l e=>by subst e;simp[DOp.isQ]at hq) (fun f xs l e=>by subst e;simp[DOp.isQ]at hq)]
       refine yS sr hq hok hx1 fun r' env' H' hs sr'=>next r' env' H' _ hs sr' ?_;have hx':(match aD op e (aI h)with
        | some (.val v)=>some (aX e o.dst v,h)
        | some (.new own x f)=>some (aX e o.dst (f h.length),oU h own (kN op e h) x)
        | none=>none)=some (e1,h1):=by
        rw[←hx1];cases op<;>first|rfl|(simp[DOp.isQ]at hq)
       split at hx'
       ·rename_i v hv
        simp only[oSI,A7]at hx';obtain⟨_,rfl⟩:=hx';exact(aKP sr hok hl hv).mono hs fun _ _ h=>h
       ·rename_i own x f hv
        simp only[oSI,A7]at hx';obtain⟨_,rfl⟩:=hx';refine(aKP sr hok hl hv).mono hs fun q hq' hlive=>?_;unfold oU;rw[cJ];cases own with
        | none =>
          obtain⟨x,hx⟩:=B6.1 hlive;simp only[rC hx,AAe,hlive]
        | some b0 =>
          obtain⟨x,hx⟩:=B6.1 hlive;simp only[D6,rC hx,AAe];rw[fX];split
          ·rename_i hc
           exfalso;cases op with
           | app s n x y =>
             simp only[aD,pC]at hv;split at hv;·simp at hv
             ·split at hv
              ·grind
              ·grind
              ·rename_i b' len hbx
               split at hv
               ·split at hv
                ·simp only[oSI,Eff.new.injEq]at hv
                 obtain⟨h1,_⟩:=hv;subst h1;simp only[xE,H8]at hlog;have:=hlog q hq';rw[hbx]at this;simp[eH,hc.1]at this
                ·simp at hv
               ·simp at hv
              ·rename_i b' s' len hbx
               split at hv
               ·split at hv
                ·simp only[oSI,Eff.new.injEq]at hv
                 obtain⟨h1,_⟩:=hv;subst h1;simp only[xE,H8]at hlog;have:=hlog q hq';rw[hbx]at this;simp[eH,hc.1]at this
                ·simp at hv
               ·simp at hv
              ·simp at hv
           | _ =>
             simp only[aD]at hv
             first
              | (simp at hv;done)
              | ((repeat' split at hv)<;>simp at hv)
          omega
       grind
      ·cases op with
       | store n p x l =>
         simp only[iE,A4]at hok;simp only[cS,A3]at hx1;obtain⟨h2,hs,heq⟩:=hx1;simp only[A7]at heq;obtain⟨rfl,rfl⟩:=heq;obtain⟨H',k1,k2,b0,x0,k3,k4⟩:=aEI sr.sh (aP sr.re hok.1) (aP sr.re hok.2) hs;refine⟨fun j hj c hc hbl=>?_,?_⟩
         ·obtain⟨b,m1,m2⟩:=hl.2 j c hc
          simp only[xE,H8]at hlog;have h3:=hlog (j,b) m1;simp only[hj,List.contains_iff_mem,aD6,M9,bne_iff_ne,ne_eq]at h3;have h3:eH (aL e p)≠some b:=by
           grind
          have hp:=aP sr.re hok.1;cases hv:aL e p<;>rw[hv]at k3 hp h3<;>simp only[eH,oSI,reduceCtorEq]at k3
          all_goals
           subst k3
           first
            | obtain⟨c',e1,e2⟩:=lY hp
            | obtain⟨c',e1,e2⟩:=wZ hp
            | obtain⟨c',e1,e2⟩:=aEV hp
            | obtain⟨c',e1,e2⟩:=aOy hp
            | obtain⟨c',e1,e2⟩:=rn_ch hp
           rw[e1]at hbl;simp only[eH,oSI]at hbl h3;subst hbl;obtain⟨y,hy⟩:=B6.1 (hl.1 _ m1);exact h3 (by rw[sr.sh.inj _ _ c' _ _ k4 hy e2 m2])
         ·simp only[k1,optW_some]
          refine next r _ _ L' (Sub.refl r) (sr.put (Sub.refl r) k2 (.any _) o.dst) (hl.mono (Sub.refl r) fun q hq hlive=>?_);unfold oT at hs
          grind [fX]
       | copy s x y =>
         rw[wD (by simp) (by simp)];refine gV hf hy sr hok hx1 fun r' env' H' hs sr'=>next r' env' H' L' hs sr' (hl.mono hs fun q hq hlive=>?_);simp only[cS,A3]at hx1;obtain⟨⟨n,h2⟩,hc,heq⟩:=hx1;simp only[A7]at heq;obtain⟨_,rfl⟩:=heq;unfold aBX at hc
         grind [fX]
       | mapup q m k x =>
         rw[wD (by simp) (by simp)];refine gV hf hy sr hok hx1 fun r' env' H' hs sr'=>next r' env' H' L' hs sr' (hl.mono hs fun q hq hlive=>?_);simp only[cS,A3]at hx1;obtain⟨h2,hc,heq⟩:=hx1;simp only[A7]at heq;obtain⟨_,rfl⟩:=heq;unfold sU at hc
         grind [Option.map_eq_some_iff,fX]
       | nxts x =>
         rw[wD (by simp) (by simp)];refine gV hf hy sr hok hx1 fun r' env' H' hs sr'=>next r' env' H' L' hs sr' (hl.mono hs fun q hq hlive=>?_);simp only[cS,A3]at hx1;obtain⟨⟨v,h2⟩,hc,heq⟩:=hx1;simp only[A7]at heq;obtain⟨_,rfl⟩:=heq;unfold aHh at hc
         grind [fX]
       | callf q f xs l =>
         cases q with
         | true =>
           rw[wD (by simp) (by simp)];refine gV hf hy sr hok hx1 fun r' env' H' hs sr'=>next r' env' H' L' hs sr' (hl.mono hs fun q hq hlive=>?_);simp only[cS,A3]at hx1
           grind
         | false =>
           simp only[iE,A4]at hok;simp only[cS,A3]at hx1;obtain⟨⟨v,h2⟩,hs,heq⟩:=hx1;simp only[A7]at heq;obtain⟨rfl,rfl⟩:=heq;refine CallV.mono (vD (P:=P) (B:=B) hf hy sr.sh (aP sr.re hok.1) (vO sr.re hok.2) hs) ?_;rintro v' H' ⟨⟨r',k1,k2,k3⟩,k4⟩;simp only[aBO,H8,A4,aD6,M9]at hpost;refine⟨fun j hj c hc=>?_,next r' _ _ L' k1 (sr.put k1 k2 k3 o.dst) (hl.mono k1 fun q hq _=>(hpost q hq).1)⟩;obtain⟨b,m1,m2⟩:=hl.2 j c hc;obtain⟨p1,p2⟩:=hpost (j,b) m1;simp only at p1 p2;rcases p2 with p2|p2|p2;·grind
           ·exact k4 b c m2 (hl.1 _ m1) (by grind)
           ·-- the block lies as it lay
            obtain⟨x1,q1⟩:=B6.1 (hl.1 _ m1);obtain⟨x2,q2⟩:=B6.1 p1;simp only at q1 q2;rw[q1,q2]at p2;obtain⟨c1,y1,g1,g2,g3⟩:=sr.sh.blk b x1 q1;obtain⟨c2,y2,f1,f2,f3⟩:=k2.blk b x2 q2;rw[m2]at g1;simp only[oSI]at g1;subst g1;rw[k1 b c m2]at f1;simp only[oSI]at f1;subst f1;rw[g2,f2];unfold aHt at p2;split at p2
            ·rename_i _ _ _ _ w xs w' ys e1 e2
             simp only[oSI]at e1 e2;subst e1;subst e2;simp only[A4,beq_iff_eq]at p2;cases g3 with
             | cells _ _ _ xs' n1 _ =>
               cases f3 with
               | cells _ _ _ ys' n2 _ =>
                 grind [pN]
            ·simp at p2
       | _=>exact absurd rfl hq
     grind
    ·simp at hx
   ·rename_i hg
    rw[aAl sr hg];simp only[optW_some,aDL,B8,AAd];rw[wD (by simp) (by simp)];simp only[iI,aD,aL,optW_some,fJ,eL];exact ih r _ h L _ H L' e' h' K hok.2 (sr.put (Sub.refl r) sr.sh (.tup [] [] rfl (by simp)) o.dst) hl hx hK
   ·simp at hx

def Agree(k:Nat)(r r':Nat→Option Nat):Prop:=∀ b c,b<k→r b=some c→r' b=some c
theorem Agree.refl(k:Nat)(r:Nat→Option Nat):Agree k r r:=fun _ _ _ h=>h
theorem Agree.trans{k:Nat}{r r' r'':Nat→Option Nat}(h:Agree k r r')(g:Agree k r' r''):Agree k r r'':=fun b c hb hr=>g b c hb (h b c hb hr)
theorem Sub.agree{r r':Nat→Option Nat}(h:Sub r r')(k:Nat):Agree k r r':=fun b c _ hr=>h b c hr

def sF(k:Nat)(r:Nat→Option Nat)(acc:List Nat):Nat→Option Nat:=fun i=>if i<k then r i else (acc[i-k]?).bind r

theorem aDr(sh:SH D Y r h H){k:Nat}{acc:List Nat}(hn:acc.Nodup)(hok:∀ b∈acc,(hat h b).isSome=true∧k≤b) :
 Agree k r (sF k r acc)∧SH D Y (sF k r acc) (mR k acc h) H∧∀ v v',Rn D Y r v v'→Rn D Y (sF k r acc) (rnA (keepS k acc) v) v':=by
 have hs:∀ b c d,keepS k acc b=some c→r b=some d→sF k r acc c=some d:=fun b c d h1 h2=>by
  unfold keepS at h1;split at h1;·simp_all [sF]
  ·rw[A3]at h1
   obtain⟨p,h3,rfl⟩:=h1;simp only[sF,show ¬(p+k<k) by omega,AAd,aB8,aEZ h3,E5,h2]
 have hat1:∀ i x,hat (mR k acc h) i=some x→∃ b y,hat h b=some y∧x=rnB (keepS k acc) y∧sF k r acc i=r b∧((i<k∧b=i)∨(k≤i∧acc[i-k]?=some b)):=fun i x hx=>by
  unfold mR at hx;rw[cJ]at hx;simp only[A9,padTake_length]at hx;split at hx
  ·rename_i hi
   rw[aAj _ rfl,aBp,if_pos hi]at hx;obtain⟨y,hy,rfl⟩:=pQ hx;exact⟨i,y,hy,rfl,by simp only[sF,hi,AAe],.inl ⟨hi,rfl⟩⟩
  ·rename_i hi
   rw[qC _ _ _ rfl]at hx;split at hx
   ·rename_i b hb
    obtain⟨y,hy,rfl⟩:=pQ hx;exact⟨b,y,hy,rfl,by simp only[sF,hi,AAd,hb,E5],.inr ⟨by omega,hb⟩⟩
   ·simp at hx
 obtain⟨G,hG⟩:=sh.gh;have hat2:∀ i x,hat (mR k acc h) i=some x→∃ y,hat h (if i<k then i else acc.getD (i-k) 0)=some y∧x=rnB (keepS k acc) y∧sF k r acc i=r (if i<k then i else acc.getD (i-k) 0)∧(k≤i→acc[i-k]?=some (acc.getD (i-k) 0)):=fun i x hx=>by
  grind
 refine⟨fun b c hb hr=>by simp only[sF,hb,AAe];exact hr,⟨fun i c hi=>?_,fun i j c x y hx hy h1 h2=>?_,fun i x hx=>?_,_,hG.via (fun i=>if i<k then i else acc.getD (i-k) 0) (fun i st p hi=>?_) (fun i x hi=>?_) (fun i j st p x hi hj hne he=>?_) fun i st p n y hi hnn hy=>hy⟩,fun v v' hv=>hv.renum hs⟩
 ·unfold mR
  simp only[C9,A9,padTake_length];by_cases hk:i<k;·omega
  ·simp only[sF,hk,AAd]at hi
   grind
 ·obtain⟨b1,y1,p1,_,p2,p3⟩:=hat1 i x hx
  obtain⟨b2,y2,q1,_,q2,q3⟩:=hat1 j y hy;rw[p2]at h1;rw[q2]at h2;have:=sh.inj b1 b2 c y1 y2 p1 q1 h1 h2
  grind [pU]
 ·obtain⟨b,y,p1,rfl,p2,_⟩:=hat1 i x hx
  obtain⟨c,z,q1,q2,q3⟩:=sh.blk b y p1;exact⟨c,z,by grind,q2,q3.renum hs⟩
 ·grind [qS]
 ·grind [qS]
 ·obtain⟨y,q1,q2,q3,q4⟩:=hat2 i _ hi
  obtain⟨y',m1,m2,m3,m4⟩:=hat2 j _ hj;by_cases hik:i<k;·grind
  ·by_cases hjk:j<k
   ·grind
   ·rw[if_neg hik,if_neg hjk]at he
    grind [pU]

theorem aDs(k:Nat)(vs:List AV)(h:XH):(cY k vs h).Nodup∧∀ b∈cY k vs h,(hat h b).isSome=true∧k≤b :=
 aEX h k vP _ [] aA7 (by simp)

theorem aDJ(f:Nat→AV):∀(L:List Nat)(j:Nat),aZ L (L.map f) j=f j∨aZ L (L.map f) j = .any
 | [],j=>.inr rfl
 | k::L,j=>by
   simp only[F8,aZ];split;·rename_i hj;subst hj;exact .inl rfl
   ·exact aDJ f L j

theorem mH(sr:SR D Y r e h env H)(k:Nat)(L:List Nat):∃ r',Agree k r r'∧SR D Y r' (jO k L e h) (jK k L e h) env H:=by
 obtain⟨h1,h2⟩:=aDs k (L.map e) h;obtain⟨k1,k2,k3⟩:=aDr sr.sh h1 h2;refine⟨_,k1,k2,fun j=>?_⟩;unfold jO;rw[zQ,aC5];rcases aDJ (rnA (keepS k (cY k (L.map e) h))∘e) L j with h3|h3;·rw[h3];exact k3 _ _ (sr.re j)
 ·rw[h3];exact .any _

theorem rE(b:Nat)(cs:List AV):∀ l:List AV,sG b cs l=l.map (sH b cs)
 | []=>rfl
 | v::l=>by simp[sG,rE b cs l]

theorem oL{p:AV→AV→Prop}{q:AV→AV→Prop}:∀(xs ys:List AV),xs.length=ys.length→(∀(i:Nat)(x y:AV),xs[i]?=some x→ys[i]?=some y→∃ z,p y z∧q x z) →
 ∃ zs:List AV,ys.length=zs.length∧xs.length=zs.length∧(∀(i:Nat)(y z:AV),ys[i]?=some y→zs[i]?=some z→p y z)∧∀(i:Nat)(x z:AV),xs[i]?=some x→zs[i]?=some z→q x z
 | [],[],_,_=>⟨[],rfl,rfl,by simp,by simp⟩
 | [],_::_,hl,_=>by simp at hl
 | _::_,[],hl,_=>by simp at hl
 | x::xs,y::ys,hl,h=>by
   obtain⟨z,h1,h2⟩:=h 0 x y rfl rfl;obtain⟨zs,k1,k2,k3,k4⟩:=oL xs ys (by grind) fun i x y hx hy=>h (i+1) x y (by grind) (by grind);refine⟨z::zs,by simp[k1],by simp[k2],fun i y' z' hy hz=>?_,fun i x' z' hx hz=>?_⟩;all_goals grind

theorem yB{cs:List AV}{s:Nat}:∀{n o:Nat},o+n*s≤cs.length→(bM cs o s n).length=n∧(∀ row∈bM cs o s n,row.length=s∧∀ c∈row,c∈cs) ∧
 ∀(i:Nat)(row:List AV)(j:Nat)(c:AV),(bM cs o s n)[i]?=some row→row[j]?=some c→cs[o+i*s+j]?=some c
 | 0,o,_=>⟨rfl,by simp[bM],by simp[bM]⟩
 | n+1,o,hl=>by
   rw[aF3,Nat.one_mul]at hl;obtain⟨h1,h2,h3⟩:=yB (cs:=cs) (s:=s) (n:=n) (o:=o+s) AM;refine⟨by simp[bM,h1],fun row hrow=>?_,fun i row j c hi hj=>?_⟩;·grind [bM]
   ·cases i with
    | zero =>
      grind [bM]
    | succ i =>
      grind [bM]

theorem Rn.fz{b c:Nat}{cs:List AV}(hr:r b=some c)(hg:∀ x∈cs,Gd x){v v':AV}(h:Rn D Y r v v'):∃ v'',Fz c cs v' v''∧Rn D Y r (sH b cs v) v'':=by
 induction h with
 | any v=>exact⟨v,.same v,.any v⟩
 | int k n=>exact⟨_,.same _,.int k n⟩
 | bool b=>exact⟨_,.same _,.bool b⟩
 | str t=>exact⟨_,.same _,.str t⟩
 | agg xs ys hl _ ih =>
   obtain⟨zs,k1,k2,k3,k4⟩:=oL xs ys hl ih;refine⟨.agg zs,.agg _ _ k1 k3,?_⟩;simp only[sH,rE];refine .agg _ _ (by grind) fun i x z hx hz=>?_
   grind
 | tup xs ys hl _ ih =>
   obtain⟨zs,k1,k2,k3,k4⟩:=oL xs ys hl ih;refine⟨.tup zs,.tup _ _ k1 k3,?_⟩;simp only[sH,rE];refine .tup _ _ (by grind) fun i x z hx hz=>?_
   grind
 | fs rows h=>exact⟨_,.same _,.fs rows h⟩
 | fp rows i o h=>exact⟨_,.same _,.fp rows i o h⟩
 | cs rows h=>exact⟨_,.same _,.cs rows h⟩
 | sl b0 c0 o s n h0 =>
   simp only[sH];split
   ·rename_i hc
    obtain⟨rfl,hle⟩:=hc;rw[hr]at h0;simp only[oSI]at h0;subst h0;obtain⟨m1,m2,m3⟩:=yB hle;exact⟨_,.sl o s n (bM cs o s n) m1 (fun row hrow=>(m2 row hrow).1) m3,.fs _ fun row hrow c hc=>hg c ((m2 row hrow).2 c hc)⟩
   ·exact⟨_,.same _,.sl b0 c0 o s n h0⟩
 | pt b0 c0 o h0=>exact⟨_,.same _,.pt b0 c0 o h0⟩
 | mp b0 c0 h0=>exact⟨_,.same _,.mp b0 c0 h0⟩
 | sb b0 c0 n0 h0=>exact⟨_,.same _,.sb b0 c0 n0 h0⟩
 | bp b0 c0 h0=>exact⟨_,.same _,.bp b0 c0 h0⟩
 | nilsl=>exact⟨_,.same _,.nilsl⟩
 | nilpt=>exact⟨_,.same _,.nilpt⟩
 | nilmap=>exact⟨_,.same _,.nilmap⟩
 | nilfn=>exact⟨_,.same _,.nilfn⟩
 | nilifc=>exact⟨_,.same _,.nilifc⟩
 | fn f xs ys us vs hf hl1 _ hl2 _ ih1 ih2 =>
   obtain⟨zs,k1,k2,k3,k4⟩:=oL xs ys hl1 ih1;obtain⟨ws,j1,j2,j3,j4⟩:=oL us vs hl2 ih2;refine⟨.fn f zs ws,.fn f _ _ _ _ k1 k3 j1 j3,?_⟩;have e1:sH b cs (.fn f xs us) = .fn f (sG b cs xs) (sG b cs us):=by
    simp[sH]
   rw[e1,rE,rE];refine .fn f _ _ _ _ hf (by grind) (fun i x z hx hz=>?_) (by grind) (fun i x z hx hz=>?_);all_goals grind
 | yield l c0 h0=>exact⟨_,.same _,.yield l c0 h0⟩
 | ifc t x y h _=>exact⟨_,.same _,.ifc t x y h⟩

theorem RnB.fz{b c d:Nat}{cs:List AV}(hr:r b=some c)(hg:∀ x∈cs,Gd x){x:XB}{y:ABlk}(h:RnB D Y r d x y):∃ z,FzB c cs y z∧RnB D Y r d (fzB b cs x) z:=by
 cases h with
 | cells g w xs ys h hgr =>
   cases g with
   | true=>exact⟨_,.same _,.cells d true w xs ys h hgr⟩
   | false =>
     obtain⟨zs,k1,k2,k3,k4⟩:=oL xs ys h.1 fun i x y hx hy=>(h.2 i x y hx hy).fz hr hg;refine⟨.cells w zs,.cells w _ _ k1 k3,?_⟩;simp only[fzB];refine .cells d _ w _ _ ⟨by grind [rE],fun i x z hx hz=>?_⟩ (fun h=>h)
     grind [rE]
 | map g w xs ys h hgr =>
   cases g with
   | true=>exact⟨_,.same _,.map d true w xs ys h hgr⟩
   | false =>
     have hk:∀(i:Nat)(x y:AV),(xs.map (·.1))[i]?=some x→(ys.map (·.1))[i]?=some y→Rn D Y r x y:=fun i x y hx hy=>by
      grind [RnP]
     have hv:∀(i:Nat)(x y:AV),(xs.map (·.2))[i]?=some x→(ys.map (·.2))[i]?=some y→Rn D Y r x y:=fun i x y hx hy=>by
      grind [RnP]
     obtain⟨zs,k1,k2,k3,k4⟩:=oL (xs.map (·.1)) (ys.map (·.1)) (by simpa using h.1) fun i x y hx hy=>(hk i x y hx hy).fz hr hg;obtain⟨ws,j1,j2,j3,j4⟩:=oL (xs.map (·.2)) (ys.map (·.2)) (by grind) fun i x y hx hy=>(hv i x y hx hy).fz hr hg;simp only[A9]at k1 k2 j1 j2;have hz:∀(i:Nat)(p:AV×AV),(zs.zip ws)[i]?=some p→zs[i]?=some p.1∧ws[i]?=some p.2:=fun i p hp=>by
      grind
     refine⟨.map w (zs.zip ws),.map w _ _ (by simp;omega) fun i y p hy hp=>?_,?_⟩;·grind
     ·simp only[fzB]
      refine .map d false w _ _ ⟨by simp;omega,fun i x p hx hp=>?_⟩ (by simp)
      grind
 | obj g w o=>cases g<;>exact⟨_,.same _,.obj d _ w o⟩
 | loop i vs s o d' L ps a b' hY h hD hs hv=>exact⟨_,.same _,.loop d i vs s o d' L ps a b' hY h hD hs hv⟩
 | gh st p=>exact⟨_,.same _,.gh d st p y⟩
theorem aWJ{b:Nat}{cs:List AV}{x:XB}{st:dU}{p:Hp→Nat→Prop}(h:fzB b cs x = .gh st p):x = .gh st p:=by
 unfold fzB at h
 grind

theorem aMr(sr:SR D Y r e h env H)(b:Nat):∃ env' H',Shift env H env' H'∧SR D Y r (fz1 b e h).1 (fz1 b e h).2 env' H':=by
 unfold fz1;split
 ·rename_i w cs hb
  obtain⟨c,y,hr,h1,h2⟩:=sr.sh.blk b _ hb;cases h2 with
  | cells _ _ _ ys h3 h4 =>
    obtain⟨rfl,hg⟩:=h3.same (h4 rfl);obtain⟨env',henv⟩:=Classical.skolem.1 fun j=>(sr.re j).fz hr hg;obtain⟨G,hG⟩:=sr.sh.gh;have gne:∀ a st p n,hat h a=some (.gh st p)→G a n→n≠c:=fun a st p n ha hn e=>by
     subst e;exact(hG.2 a b st p _ n ha hb (fun e=>by grind) hn).1 hr
    have hH:∀ d,∃ o:Option ABlk,(d=c→o=none)∧(d≠c→(o=none∨∃ x y,H d=some x∧o=some y∧FzB c ys x y))∧(∀ b' x,hat h b'=some x→b'≠b→r b'=some d→∃ y,o=some y∧RnB D Y r d (fzB b ys x) y) ∧
     ∀ a st p,hat h a=some (.gh st p)→G a d→o=H d:=by
     intro d;by_cases hd:d=c
     ·refine⟨none,fun _=>rfl,fun h=>absurd hd h,fun b' x hx hne hr'=>?_,fun a st p ha hn=>absurd hd (gne a st p d ha hn)⟩
      subst hd;exact absurd (sr.sh.inj b' b d x _ hx hb hr' hr) hne
     by_cases hpv:∃ a st p,hat h a=some (.gh st p)∧G a d
     ·obtain⟨a,st,p,ha,hn⟩:=hpv
      obtain⟨_,_,k1⟩:=hG.1 a st p ha;obtain⟨x0,k2⟩:=k1.live hn;refine⟨H d,fun h=>absurd h hd,fun _=>.inr ⟨x0,x0,k2,k2,.same _⟩,fun b' x hx hne hr'=>?_,fun _ _ _ _ _=>rfl⟩;by_cases hab:a=b'
      ·subst hab
       rw[ha]at hx;cases hx;exact⟨x0,k2,.gh d st p x0⟩
      ·exact absurd hr' (hG.2 a b' st p x d ha hx hab hn).1
     ·have hpn:∀ a st p,hat h a=some (.gh st p)→¬G a d:=fun a st p ha hn=>hpv ⟨a,st,p,ha,hn⟩
      by_cases hex:∃ b' x,hat h b'=some x∧r b'=some d
      ·obtain⟨b1,x1,k1,k2⟩:=hex
       obtain⟨d',y1,k3,k4,k5⟩:=sr.sh.blk b1 x1 k1;rw[k2]at k3;simp only[oSI]at k3;subst k3;obtain⟨z,k6,k7⟩:=k5.fz hr hg;refine⟨some z,fun h=>absurd h hd,fun _=>.inr ⟨y1,z,k4,rfl,k6⟩,fun b' x hx hne hr'=>?_,fun a st p ha hn=>absurd hn (hpn a st p ha)⟩;have:=sr.sh.inj b' b1 d x x1 hx k1 hr' k2
       grind
      ·exact⟨none,fun _=>rfl,fun _=>.inl rfl,fun b' x hx hne hr'=>absurd ⟨b',x,hx,hr'⟩ hex,fun a st p ha hn=>absurd hn (hpn a st p ha)⟩
    obtain⟨H',hH'⟩:=Classical.skolem.1 hH;refine⟨env',H',Shift.freeze (b:=c) (wr:=w) (cs:=ys) h1 (fun j=>(henv j).1) ((hH' c).1 rfl) (fun d hd=>(hH' d).2.1 hd),⟨⟨fun b c hb=>by simpa using sr.sh.dom b c hb,fun b1 b2 c' x1 x2 g1 g2 k1 k2=>?_,fun b' x hx=>?_,_,hG.via id (fun b' st p hb'=>?_) (fun b' x hx=>?_) (fun _ _ _ _ _ _ _ hne=>hne) fun b' st p n y' hb' hnn hy=>?_⟩,fun j=>(henv j).2⟩⟩
    all_goals
     have live:∀ b' x,hat ((h.map (fzO b ys)).set b none) b'=some x→b'≠b∧∃ x0,hat h b'=some x0∧x=fzB b ys x0:=fun b' x hx=>by
      rw[fX]at hx;split at hx;·simp at hx
      ·rename_i hc
       rw[aAj _ rfl]at hx;cases hx0:hat h b' with
       | none=>rw[hx0]at hx;simp[fzO]at hx
       | some x0 =>
         rw[hx0]at hx;simp only[fzO,oSI]at hx;exact⟨fun e=>hc ⟨e,by simpa using rC hb⟩,x0,rfl,hx.symm⟩
    ·obtain⟨_,y1,m1,_⟩:=live b1 x1 g1
     obtain⟨_,y2,m2,_⟩:=live b2 x2 g2;exact sr.sh.inj b1 b2 c' y1 y2 m1 m2 k1 k2
    ·obtain⟨hne,x0,m1,rfl⟩:=live b' x hx
     obtain⟨c',y',m2,_,_⟩:=sr.sh.blk b' x0 m1
     grind
    all_goals grind [aWJ]
 grind [Shift.le,Le.refl]

theorem xX:∀(ns:List Nat)(e:aH)(h:XH)(env:aH)(H:Hp),SR D Y r e h env H→∃ env' H',Shift env H env' H'∧SR D Y r (aAS ns e h).1 (aAS ns e h).2 env' H'
 | [],e,h,env,H,sr=>⟨env,H,Shift.le (Le.refl _),sr⟩
 | b::ns,e,h,env,H,sr=>by
   obtain⟨env1,H1,k1,k2⟩:=aMr sr b;obtain⟨env2,H2,k3,k4⟩:=xX ns _ _ env1 H1 k2;exact⟨env2,H2,k1.trans k3,k4⟩
theorem lS:∀ l:List AV,lT l=l.map sQ
 | []=>rfl
 | v::l=>by simp[lT,lS l]

theorem Rv.nz{F:Nat→Prop}{w:World}{a:AV}{v:Value}(h:Rv F w a v):Rv F w (sQ a) v:=by
 induction h with
 | agg cs vs hl ho _ ih =>
   simp only[sQ,lS];refine .agg _ _ (by grind) ho fun i c v hc hv=>?_
   grind
 | tup cs vs hl _ ih =>
   simp only[sQ,lS];refine .tup _ _ (by grind) fun i c v hc hv=>?_
   grind
 | nilsl=>exact .fs0 none 0
 | int k n=>exact .int k n
 | bool b=>exact .bool b
 | str s=>exact .str s
 | fs0 a cap=>exact .fs0 a cap
 | fs rows blk off s cap g h1 h2 h3 h4 h5 h6=>exact .fs rows blk off s cap g h1 h2 h3 h4 h5 h6
 | fp rows i o blk off s g h1 h2 h3 h4 h5=>exact .fp rows i o blk off s g h1 h2 h3 h4 h5
 | cs rows a h=>exact .cs rows a h
 | sl b off s len cap c e fr h1 h2 h3=>exact .sl b off s len cap c e fr h1 h2 h3
 | pt b off=>exact .pt b off
 | mp b=>exact .mp b
 | sb b n cap c fr hb h1 h2=>exact .sb b n cap c fr hb h1 h2
 | bp b c fr hb h1=>exact .bp b c fr hb h1
 | nilpt=>exact .nilpt
 | nilmap=>exact .nilmap
 | fn f first cap fv cv h1 h2 h3 h4=>exact .fn f first cap fv cv h1 h2 h3 h4
 | nilfn=>exact .nilfn
 | ifc t a v h=>exact .ifc t a v h
 | nilifc=>exact .nilifc
 | any v=>exact .any v

theorem Args.nz{F:Nat→Prop}{w:World}{as:List AV}{vs:Array Value}(h:Args F w as vs):Args F w (lT as) vs:=by
 rw[lS];refine⟨by simpa using h.1,fun i c v hc hv=>?_⟩;rw[C4,A3]at hc;obtain⟨c0,hc0,rfl⟩:=hc;exact(h.2 i c0 v hc0 hv).nz
theorem FnW.nz{f:FuncId}{as:List AV}{Q:AV→Hp→Prop}(h:FnW B P f (lT as) H Q):FnW B P f as H Q:=⟨h.1,fun F w vs h1 h2 h3=>h.2 F w vs h1 h2 h3.nz⟩

theorem Rn.nz{v v':AV}(h:Rn D Y r v v'):Rn D Y r (sQ v) (sQ v'):=by
 have ls:∀{xs ys:List AV},xs.length=ys.length→(∀(i:Nat)(x y:AV),xs[i]?=some x→ys[i]?=some y→Rn D Y r (sQ x) (sQ y))→RnL D Y r (lT xs) (lT ys):=fun {xs ys} hl h=>by
  grind [lS,RnL]
 induction h with
 | any v=>exact .any _
 | agg xs ys hl _ ih=>exact .agg _ _ (ls hl ih).1 (ls hl ih).2
 | tup xs ys hl _ ih=>exact .tup _ _ (ls hl ih).1 (ls hl ih).2
 | nilsl=>exact .fs [] (by simp)
 | int k n=>exact .int k n
 | bool b=>exact .bool b
 | str s=>exact .str s
 | fs rows h=>exact .fs rows h
 | fp rows i o h=>exact .fp rows i o h
 | cs rows h=>exact .cs rows h
 | sl b c o s n h=>exact .sl b c o s n h
 | pt b c o h=>exact .pt b c o h
 | mp b c h=>exact .mp b c h
 | sb b c n h=>exact .sb b c n h
 | bp b c h=>exact .bp b c h
 | nilpt=>exact .nilpt
 | nilmap=>exact .nilmap
 | nilfn=>exact .nilfn
 | nilifc=>exact .nilifc
 | fn f xs ys us vs h1 h2 h3 h4 h5=>exact .fn f xs ys us vs h1 h2 h3 h4 h5
 | yield l c h=>exact .yield l c h
 | ifc t x y h=>exact .ifc t x y h
theorem RnL.nz{xs ys:List AV}(h:RnL D Y r xs ys):RnL D Y r (lT xs) (lT ys):=by
 rw[lS,lS];refine⟨by simpa using h.1,fun i x y hx hy=>?_⟩;rw[C4,A3]at hx hy;obtain⟨x0,hx0,rfl⟩:=hx;obtain⟨y0,hy0,rfl⟩:=hy;exact(h.2 i x0 y0 hx0 hy0).nz

theorem aJp{F:Nat→Prop}{w:World}:∀(fz:List (Nat×Bool))(env:aH)(j:Nat)(v:Value),Rv F w (env j) v→Rv F w (nzE fz env j) v
 | [],env,j,v,h=>h
 | (k,true)::fz,env,j,v,h=>aJp fz env j v h
 | (k,false)::fz,env,j,v,h=>by
   have ih:=aJp fz env j v h;show Rv F w (if j=k then sQ (nzE fz env j) else nzE fz env j) v;split;·exact ih.nz
   ·exact ih
theorem aJq:∀(fz:List (Nat×Bool))(e env:aH)(j:Nat),Rn D Y r (e j) (env j)→Rn D Y r (nzE fz e j) (nzE fz env j)
 | [],e,env,j,h=>h
 | (k,true)::fz,e,env,j,h=>aJq fz e env j h
 | (k,false)::fz,e,env,j,h=>by
   have ih:=aJq fz e env j h;show Rn D Y r (if j=k then sQ (nzE fz e j) else nzE fz e j) (if j=k then sQ (nzE fz env j) else nzE fz env j);split;·exact ih.nz
   ·exact ih
theorem aJC(sr:SR D Y r e h env H)(fz:List (Nat×Bool)):∃ env' H',Shift env H env' H'∧SR D Y r (aWH fz e h).1 (aWH fz e h).2 env' H':=by
 obtain⟨env1,H1,k1,k2⟩:=xX (fz.flatMap (aPR e h)) e h env H sr;refine⟨nzE fz env1,H1,k1.trans ?_,⟨k2.sh,fun j=>aJq fz _ _ j (k2.re j)⟩⟩;intro F w a st re;exact⟨F,Ext.refl _ _ _,st,fun j=>aJp fz env1 j _ (re.rv j),re.gi⟩

theorem Shift.trim{c:Nat}{w0:Bool}{cs:List AV}(hc:H c=some (.cells w0 cs))(m:Nat):Shift env H env (hset H c (.cells w0 (cs.take m))):=by
 intro F w a st re;have hwr:∀ b,sX (hset H c (.cells w0 (cs.take m))) b=sX H b:=fun b=>by
  by_cases hb:b=c;·subst hb;simp[sX,hc,ABlk.wr]
  ·simp only[sX,aO _ _ hb]
 refine⟨F,⟨fun _ h=>h,fun _ h=>.inl h,fun b hb=>.inl ?_,fun b hb=>.inl (by grind),A6 _,fun _ _ _=>rfl,fun _ c e fr h=>⟨c,e,fr,h,rfl⟩,SameIO.refl w⟩,⟨st.lt,fun b x hb=>?_,fun b x hb=>?_⟩,re⟩;·grind [aO]
 ·by_cases h1:b=c
  ·subst h1;exact st.dis b _ hc
  ·rw[aO _ _ h1]at hb;exact st.dis b x hb
 ·by_cases h1:b=c
  ·subst h1
   simp only[hset_same,oSI]at hb;subst hb;obtain⟨o,k1,k2⟩:=st.blk b _ hc;refine⟨o,k1,?_⟩;cases k2 with
   | cells p cs c e fr hfr hl ho h =>
     refine .cells _ _ _ _ _ hfr (by simp;omega) ho fun i a v ha hv=>h i a v ?_ hv
     grind
  ·rw[aO _ _ h1]at hb;exact st.blk b x hb

theorem aHo(sr:SR D Y r e h env H)(v:AV):∃ H',Shift env H env H'∧SR D Y r e (aKo v h) env H':=by
 unfold aKo;split
 ·rename_i b s n
  split
  ·rename_i g w cs hb
   obtain⟨c,y,hr,h1,h2⟩:=sr.sh.blk b _ hb;cases h2 with
   | cells _ _ _ ys h3 h4 =>
     refine⟨_,Shift.trim h1 (n*s),sr.sh.turn hb hr (.cells c g w _ _ (h3.take _) fun hg=>eU fun x hx=>iF (h4 hg) x (O1 hx)),sr.re⟩
  grind [Shift.le,Le.refl]
 grind [Shift.le,Le.refl]
theorem aBd(sr:SR D Y r e h env H):∀ fz:List (Nat×Bool),∃ H',Shift env H env H'∧SR D Y r e (wO fz e h) env H'
 | []=>⟨H,Shift.le (Le.refl _),sr⟩
 | (k,b)::fz=>by
   obtain⟨H1,k1,k2⟩:=aBd sr fz;simp only[wO];split
   ·obtain⟨H2,k3,k4⟩:=aHo k2 (e (k-1000000))
    exact⟨H2,k1.trans k3,k4⟩
   grind
theorem vZ(sr:SR D Y r e h env H)(fz:List (Nat×Bool)):∃ env' H',Shift env H env' H'∧SR D Y r (fzX fz e h).1 (fzX fz e h).2 env' H':=by
 obtain⟨H1,k1,k2⟩:=aBd sr fz;obtain⟨env2,H2,k3,k4⟩:=aJC k2 fz;exact⟨env2,H2,k1.trans k3,k4⟩

def bDs(P:Program)(B:Base)(D:Nat→Option XFn)(l:Nat)(i:YI):Prop :=
 (∃ q,i.oB = .loop q)∧∀(d:XFn)(L ps:List Nat)(a b:XCode),D i.K=some d→cT d.body i.site=some (L,ps,a,b)→∀(B1:Base),B.Up B1.F B1.w→∀(as:List AV)(H':Hp)(Q':AV→Hp→Prop),
  H' l=some (.obj true i.oR)→as.length=ps.length →
  WD B1 P (some l) d.N a.erase (fun e env2 H2=>e = .normal∧H2 l=some (.obj true i.oR)∧WD B1 P (some l) d.N b.erase (aOx l i.oR i.oB i.oD Q') env2 (hset H2 l (.obj true i.oB))) (pR i.env ps as) H'→YW B1 P l as H' Q'
def YOk(P:Program)(B:Base)(D:Nat→Option XFn)(Y:Nat→Option YI):Prop:=∀ l i,Y l=some i→bDs P B D l i
theorem YOk.up{B':Base}(h:YOk P B D Y)(hB:B.Up B'.F B'.w):YOk P B' D Y:=fun l i hY =>
 ⟨(h l i hY).1,fun d L ps a b h1 h2 B1 hB1=>(h l i hY).2 d L ps a b h1 h2 B1 (Up.trans hB hB1)⟩

def nA:XCode→Bool
 | .skip | .exit _ | .ret | .lab _ | .goto _=>true
 | .again .. => false
 | .reg _ _ ops=>uE ops
 | .seq a b | .scope _ _ a b=>nA a&&nA b
 | .cond c a b=>yK c&&(nA a&&nA b)
 | .block _ a | .loop _ a=>nA a
 | .rng _ _ f _ a b=>yK f&&(nA a&&nA b)
def fW(d:XFn):XCode→Prop
 | .seq a b | .cond _ a b | .scope _ _ a b=>fW d a∧fW d b
 | .block _ a | .loop _ a=>fW d a
 | .rng s L _ ps a b=>cT d.body s=some (L,ps,a,b)∧fW d a∧fW d b
 | _=>True

def RdOk(Y:Nat→Option YI)(r:Nat→Option Nat)(k:Nat)(rd rr:Option Nat):Prop:=match rd with
 | none=>rr=none
 | some l=>l<k∧∃ c i q,r l=some c∧rr=some c∧Y c=some i∧i.oB = .loop q
theorem RdOk.agree{k:Nat}{rd rr:Option Nat}{r':Nat→Option Nat}(h:RdOk Y r k rd rr)(ha:Agree k r r'):RdOk Y r' k rd rr:=by
 cases rd with
 | none=>exact h
 | some l =>
   grind [RdOk,Agree]

theorem SH.loopAt(sh:SH D Y r h H){l:Nat}{st:LSt}(hl:iA h l=some st):∃ c i o,r l=some c∧Y c=some i∧H c=some (.obj true o)∧qK i st o∧∃(vs:List AV)(d:XFn)(L ps:List Nat)(a b:XCode),
 hat h l=some (.loop i.K i.site vs st)∧D i.K=some d∧cT d.body i.site=some (L,ps,a,b)∧RnL D Y r vs (L.map i.env):=by
 unfold iA at hl;split at hl<;>simp only[oSI,reduceCtorEq]at hl
 rename_i K s vs st' hx;subst hl;obtain⟨c,y,h1,h2,h3⟩:=sh.blk l _ hx;cases h3 with
 | loop i _ _ o d L ps a b hY ho hD hs hv=>grind

theorem SH.loopTo(sh:SH D Y r h H){l c:Nat}{i:YI}{st st':LSt}(hl:iA h l=some st)(hr:r l=some c)(hY:Y c=some i){o:Obj}(ho:qK i st' o):SH D Y r (loopTo h l st') (hset H c (.obj true o)):=by
 obtain⟨c',i',o',h1,h2,h3,h4,vs,d,L,ps,a,b,h5,h6,h7,h8⟩:=sh.loopAt hl;rw[hr]at h1;simp only[oSI]at h1;subst h1;rw[hY]at h2;simp only[oSI]at h2;subst h2;unfold Go.DL.loopTo;rw[h5];exact sh.turn h5 hr (.loop c i vs st' o d L ps a b hY ho h6 h7 h8)

theorem SH.push{Y':Nat→Option YI}(sh:SH D Y r h H){l:Nat}{x:XB}{y:ABlk}(hl:H l=none)(hY:∀ c,c≠l→Y' c=Y c)(hx:RnB D Y' r l x y)(hng:ghX x=false:=by rfl) :
 Sub r (fun b=>if b=h.length then some l else r b)∧SH D Y' (fun b=>if b=h.length then some l else r b) (h++[some x]) (hset H l y):=by
 have hsub:Sub r (fun b=>if b=h.length then some l else r b):=fun b c hb=>by
  have:=sh.dom b c hb
  grind
 have live:∀ b z,hat (h++[some x]) b=some z→(b=h.length∧z=x)∨(b<h.length∧hat h b=some z):=fun b z hz=>by
  rw[cJ]at hz;split at hz;·grind
  ·by_cases he:b=h.length
   ·simp_all [hat]
   ·have:b-h.length=(b-h.length-1)+1:=AM
    rw[this]at hz;simp[hat]at hz
 have other:∀ b c z,hat h b=some z→r b=some c→c≠l:=fun b c z hz hr e=>by
  subst e;obtain⟨c',y',h1,h2,_⟩:=sh.blk b z hz
  grind
 obtain⟨G,hG⟩:=sh.gh;have lg:∀ b st p,hat (h++[some x]) b=some (.gh st p)→b<h.length∧hat h b=some (.gh st p):=fun b st p hz=>by
  rcases live b _ hz with ⟨_,e⟩|h1;·rw[←e]at hng;cases hng
  ·exact h1
 have gne:∀ b st p n,hat (h++[some x]) b=some (.gh st p)→G b n→n≠l:=fun b st p n hz hnn e=>by
  obtain⟨k1,k3⟩:=lg b st p hz;subst e;obtain⟨c,_,k4⟩:=hG.1 b st p k3;obtain⟨y1,k5⟩:=k4.live hnn
  grind
 refine⟨hsub,fun b c hb=>?_,fun b1 b2 c x1 x2 h1 h2 k1 k2=>?_,fun b z hz=>?_,_,hG.via id (fun b st p hz=>?_) (fun b z hz=>?_) (fun _ _ _ _ _ _ _ hne=>hne) fun b st p n y' hz hnn hy=>?_⟩
 ·simp only[C9,D9,aB5]
  split at hb;·omega
  ·have:=sh.dom b c hb;omega
 ·rcases live b1 x1 h1 with ⟨rfl,_⟩|⟨l1,m1⟩
  ·grind
  ·rcases live b2 x2 h2 with ⟨rfl,_⟩|⟨l2,m2⟩
   ·grind
   ·simp only[show b1≠h.length by omega,AAd]at k1
    simp only[show b2≠h.length by omega,AAd]at k2;exact sh.inj b1 b2 c x1 x2 m1 m2 k1 k2
 ·rcases live b z hz with ⟨rfl,rfl⟩|⟨l1,m1⟩
  ·exact⟨l,y,by simp,hset_same _ _ _,hx.mono hsub (fun _=>rfl)⟩
  ·obtain⟨c,y',g1,g2,g3⟩:=sh.blk b z m1
   have hne:=other b c z m1 g1;refine⟨c,y',hsub b c g1,?_,g3.mono hsub (fun _=>hY c hne)⟩
   grind [aO]
 ·grind
 ·grind
 grind [aO]

theorem lL{run:eA}{runY:fA}{d:XFn}{K:Nat}(hD:D K=some d)(hm:P.follows .mixedOrders=true)(hall:∀(B:Base)(Y:Nat→Option YI),YOk P B D Y→FnS P B D Y run∧YS P B D Y runY)(k n:Nat)(rd rr:Option Nat) :
 ∀(code:XCode)(B:Base)(Y:Nat→Option YI)(r:Nat→Option Nat)(e:aH)(h:XH)(env:aH)(H:Hp)(x:DX)(e':aH)(h':XH)(Q:QC),YOk P B D Y→nA code=true→fW d code→RdOk Y r k rd rr→SR D Y r e h env H →
   aT run runY K k n rd code e h=some (x,e',h')→(∀ r' env' H',Agree k r r'→SR D Y r' e' h' env' H'→Q x env' H')→WD B P rr d.N code.erase Q env H:=by
 intro code;induction code with
 | skip =>
   intro B Y r e h env H x e' h' Q hY hok hs hrd sr hx hK;simp only[aT,oSI,A7]at hx;obtain⟨rfl,rfl,rfl⟩:=hx;exact WD.skip (hK r env H (Agree.refl _ _) sr)
 | exit id =>
   intro B Y r e h env H x e' h' Q hY hok hs hrd sr hx hK;simp only[aT,oSI,A7]at hx;obtain⟨rfl,rfl,rfl⟩:=hx;exact WD.exit (hK r env H (Agree.refl _ _) sr)
 | ret =>
   intro B Y r e h env H x e' h' Q hY hok hs hrd sr hx hK;simp only[aT,oSI,A7]at hx;obtain⟨rfl,rfl,rfl⟩:=hx;exact WD.ret (hK r env H (Agree.refl _ _) sr)
 | lab l =>
   intro B Y r e h env H x e' h' Q hY hok hs hrd sr hx hK;simp only[aT,oSI,A7]at hx;obtain⟨rfl,rfl,rfl⟩:=hx;exact WD.lab (hK r env H (Agree.refl _ _) sr)
 | goto l =>
   intro B Y r e h env H x e' h' Q hY hok hs hrd sr hx hK;simp only[aT,oSI,A7]at hx;obtain⟨rfl,rfl,rfl⟩:=hx;exact WD.goto (hK r env H (Agree.refl _ _) sr)
 | again L l b ihb=>intro B Y r e h env H x e' h' Q hY hok;simp[nA]at hok
 | reg fz draw ops =>
   intro B Y r e h env H x e' h' Q hY hok hs hrd sr hx hK;simp only[nA]at hok;obtain⟨hf,hy⟩:=hall B Y hY;simp only[aT,A3,A7]at hx;obtain⟨⟨e1,h1⟩,hx,rfl,rfl,rfl⟩:=hx;obtain⟨env1,H1,k1,k2⟩:=vZ sr fz;refine WD.shift k1 (WD.reg hm ?_);cases draw with
   | true =>
     simp only[AAe]at hx ⊢;exact aBb hf hy ops r _ _ [] env1 H1 noL e1 h1 _ hok k2 ⟨by simp,fun j c hj=>by simp[noL]at hj⟩ hx fun r' env' H' hs sr'=>hK r' env' H' (hs.agree k) sr'
   | false =>
     simp only[B8,AAd]at hx ⊢;exact RS.alt (lD hf hy ops r _ _ env1 H1 e1 h1 _ hok k2 hx fun r' env' H' hs sr'=>hK r' env' H' (hs.agree k) sr')
 | seq a b iha ihb =>
   intro B Y r e h env H x e' h' Q hY hok hs hrd sr hx hK;simp only[nA,A4]at hok;simp only[aT]at hx;refine WD.seq ?_;split at hx
   ·rename_i e1 h1 hx1
    exact iha B Y r e h env H .normal e1 h1 _ hY hok.1 hs.1 hrd sr hx1 fun r' env' H' ha sr' =>
     ihb B Y r' e1 h1 env' H' x e' h' Q hY hok.2 hs.2 (hrd.agree ha) sr' hx fun r2 env2 H2 ha2 sr2=>hK r2 env2 H2 (ha.trans ha2) sr2
   ·rename_i hne
    refine iha B Y r e h env H x e' h' _ hY hok.1 hs.1 hrd sr hx fun r' env' H' ha sr'=>?_;cases x with
    | normal=>grind
    | exit id=>exact hK r' env' H' ha sr'
    | ret=>exact hK r' env' H' ha sr'
    | goto l=>exact hK r' env' H' ha sr'
 | cond c a b iha ihb =>
   intro B Y r e h env H x e' h' Q hY hok hs hrd sr hx hK;simp only[nA,A4]at hok;have hc:=aP sr.re (x:=c) hok.1;simp only[aT]at hx;split at hx
   ·rename_i hv
    rw[hv]at hc;exact WD.cond (t:=true) (eW hc) (iha B Y r e h env H x e' h' Q hY hok.2.1 hs.1 hrd sr hx hK)
   ·rename_i hv
    rw[hv]at hc;exact WD.cond (t:=false) (eW hc) (ihb B Y r e h env H x e' h' Q hY hok.2.2 hs.2 hrd sr hx hK)
   ·simp at hx
 | block id a iha =>
   intro B Y r e h env H x e' h' Q hY hok hs hrd sr hx hK;simp only[nA]at hok;simp only[aT]at hx;refine WD.block ?_;split at hx
   ·rename_i j e1 h1 hx1
    refine iha B Y r e h env H (.exit j) e1 h1 _ hY hok hs hrd sr hx1 fun r' env' H' ha sr'=>?_;simp only[QC.block]
    grind
   ·rename_i hne
    refine iha B Y r e h env H x e' h' _ hY hok hs hrd sr hx fun r' env' H' ha sr'=>?_;cases x with
    | exit id=>grind
    | normal=>exact hK r' env' H' ha sr'
    | ret=>exact hK r' env' H' ha sr'
    | goto l=>exact hK r' env' H' ha sr'
 | scope L l a b iha ihb =>
   intro B Y r e h env H x e' h' Q hY hok hs hrd sr hx hK;simp only[nA,A4]at hok;simp only[aT]at hx;cases hxa:aT run runY K k n rd a e h with
   | none=>rw[hxa]at hx;simp[gM]at hx
   | some q =>
     obtain⟨y,e1,h1⟩:=q;rw[hxa]at hx;by_cases hy:∃ j,y = .goto j
     ·obtain⟨j,rfl⟩:=hy
      simp only[gM]at hx;split at hx
      ·rename_i hj
       subst hj;refine WD.scope (fun m env1 H1=>∃ r1 e1 h1,Agree k r r1∧SR D Y r1 e1 h1 env1 H1∧vK j (fF (fun e h=>vK j (aT run runY K k n rd b e h)) k L m e1 h1)=some (x,e',h')) ?_ ?_;·exact iha B Y r e h env H (.goto j) e1 h1 _ hY hok.1 hs.1 hrd sr hxa fun r' env' H' ha sr'=>⟨rfl,n,r',e1,h1,ha,sr',hx⟩
       ·rintro m env1 H1 ⟨r1,e1,h1,ha,sr1,hx1⟩
        cases m with
        | zero=>simp[fF,vK]at hx1
        | succ m =>
          obtain⟨r2,ha2,sr2⟩:=mH sr1 k L;simp only[fF]at hx1;cases hb:aT run runY K k n rd b (jO k L e1 h1) (jK k L e1 h1)with
          | none=>rw[hb]at hx1;simp[vK]at hx1
          | some q =>
            obtain⟨z,e2,h2⟩:=q;rw[hb]at hx1;refine ihb B Y r2 _ _ env1 H1 z e2 h2 _ hY hok.2 hs.2 ((hrd.agree ha).agree ha2) sr2 hb fun r3 env3 H3 ha3 sr3=>?_;cases z with
            | goto i =>
              by_cases hi:i=j
              ·subst hi
               have e1:vK i (some (.goto i,e2,h2))=some (.normal,e2,h2):=by simp[vK]
               rw[e1]at hx1;exact⟨rfl,m,by omega,r3,_,_,(ha.trans ha2).trans ha3,sr3,hx1⟩
              ·have e1:vK j (some (.goto i,e2,h2))=none:=by simp[vK,hi]
               rw[e1]at hx1;simp[vK]at hx1
            | normal =>
              have e1:vK j (some (.normal,e2,h2))=some (.goto j,e2,h2):=rfl;rw[e1]at hx1;simp only[vK,AAe,oSI,A7]at hx1;obtain⟨rfl,rfl,rfl⟩:=hx1;exact hK r3 env3 H3 ((ha.trans ha2).trans ha3) sr3
            | exit id =>
              have e1:some (.exit id,e2,h2)=some (x,e',h'):=hx1;simp only[oSI,A7]at e1;obtain⟨rfl,rfl,rfl⟩:=e1;exact hK r3 env3 H3 ((ha.trans ha2).trans ha3) sr3
            | ret =>
              have e1:some (.ret,e2,h2)=some (x,e',h'):=hx1;simp only[oSI,A7]at e1;obtain⟨rfl,rfl,rfl⟩:=e1;exact hK r3 env3 H3 ((ha.trans ha2).trans ha3) sr3
      ·simp at hx
     ·have hxy:some (y,e1,h1)=some (x,e',h'):=by
       rw[←hx];cases y with
       | goto j=>exact absurd ⟨j,rfl⟩ hy
       | _=>rfl
      simp only[oSI,A7]at hxy;obtain⟨rfl,rfl,rfl⟩:=hxy;refine WD.scope (fun _ _ _=>False) (iha B Y r e h env H y e1 h1 _ hY hok.1 hs.1 hrd sr hxa fun r' env' H' ha sr'=>?_) fun _ _ _ h=>h.elim;cases y with
      | goto j=>exact absurd ⟨j,rfl⟩ hy
      | _=>exact hK r' env' H' ha sr'
 | loop L a iha =>
   intro B Y r e h env H x e' h' Q hY hok hs hrd sr hx hK;simp only[nA]at hok;simp only[aT]at hx;refine WD.loop (fun m env1 H1=>∃ r1 e1 h1,Agree k r r1∧SR D Y r1 e1 h1 env1 H1∧fF (aT run runY K k n rd a) k L m e1 h1=some (x,e',h')) (m:=n) ⟨r,e,h,Agree.refl _ _,sr,hx⟩ ?_;rintro m env1 H1 ⟨r1,e1,h1,ha,sr1,hx1⟩;cases m with
   | zero=>simp[fF]at hx1
   | succ m =>
     simp only[fF]at hx1;obtain⟨r2,ha2,sr2⟩:=mH sr1 k L;split at hx1
     ·rename_i e2 h2 hx2
      exact iha B Y r2 _ _ env1 H1 .normal e2 h2 _ hY hok hs ((hrd.agree ha).agree ha2) sr2 hx2 fun r3 env3 H3 ha3 sr3=>⟨m,by omega,r3,e2,h2,(ha.trans ha2).trans ha3,sr3,hx1⟩
     ·rename_i hne
      refine iha B Y r2 _ _ env1 H1 x e' h' _ hY hok hs ((hrd.agree ha).agree ha2) sr2 hx1 fun r3 env3 H3 ha3 sr3=>?_;cases x with
      | normal=>grind
      | exit id=>exact hK r3 env3 H3 ((ha.trans ha2).trans ha3) sr3
      | ret=>exact hK r3 env3 H3 ((ha.trans ha2).trans ha3) sr3
      | goto l=>exact hK r3 env3 H3 ((ha.trans ha2).trans ha3) sr3
 | rng site L f ps a b iha ihb =>
   intro B Y r e h env H x e' h' Q hY hok hs hrd sr hx hK;simp only[nA,A4]at hok;obtain⟨hs1,hs2,hs3⟩:=hs;simp only[aT]at hx;split at hx
   ·rename_i hcond
    simp only[A4]at hcond;have hfv:=aP sr.re (x:=f) hok.1;obtain⟨gf,first,cap,hev⟩:∃ g a b,aL e f = .fn (.func g) a b:=by
     have:=hcond.2;unfold aAO at this
     grind
    rw[hev]at hfv hx;cases hv:aL env f<;>rw[hv]at hfv<;>cases hfv
    rename_i first' cap' hf0 hl1 k1 hl2 k2;split at hx
    ·rename_i v h1 hcall
     refine WD.rng (gf:=gf) (first:=first') (cap:=cap') ?_ hv ?_
     ·unfold RdOk at hrd
      split at hrd;·grind
      ·rename_i l
       obtain⟨_,c,i,q,g1,g2,g3,g4⟩:=hrd;right;refine⟨c,q,g2,?_⟩;have hin:=hcond.1;simp only[aAP]at hin;split at hin
       ·rename_i hst
        obtain⟨c',i',o',m1,m2,m3,m4,_⟩:=sr.sh.loopAt hst;rw[g1]at m1;simp only[oSI]at m1;subst m1;rw[g3]at m2;simp only[oSI]at m2;subst m2;simp only[qK]at m4
        grind
       grind
     ·intro B' l oR oB oD hB' hl _ _ hbusy hround
      obtain⟨i,hi⟩:∃ i:YI,i=⟨K,site,env,oR,oB,oD⟩:=⟨_,rfl⟩;obtain⟨Y',hY'⟩:∃ Y':Nat→Option YI,Y'=fun c=>if c=l then some i else Y c:=⟨_,rfl⟩
      have y1:Y' l=some i:=by grind
      have y2:∀ c,c≠l→Y' c=Y c:=fun c hc=>by grind
      have hYok:YOk P B' D Y':=fun c j hj=>by
       by_cases hc:c=l
       ·subst hc
        rw[y1]at hj;simp only[oSI]at hj;subst hj;rw[hi];refine⟨hbusy,fun d' L' ps' a' b' g1 g2 B1 hB1 as H' Q' g3 g4 g5=>?_⟩
        grind
       ·rw[y2 c hc]at hj
        exact(hY.up hB') c j hj
      obtain⟨hf,hy⟩:=hall B' Y' hYok;have hx0:RnB D Y' r l (.loop K site (L.map e) .ready) (.obj true oR):=by
       have:=RnB.loop (D:=D) (Y:=Y') (r:=r) l i (L.map e) .ready oR d L ps a b y1 (by rw[hi];exact rfl) (by grind) (by grind) (by
        rw[hi];exact RnL.map fun j _=>(sr.re j).mono (fun _ _ h=>h))
       grind
      obtain⟨p1,p2⟩:=sr.sh.push hl y2 hx0
      have hcs:=vD (P:=P) (B:=B') hf hy p2 (fv:=.fn (.func gf) first cap) (fv':=.fn (.func gf) first' cap') (as:=[.fn (.yield h.length) [] []]) (as':=[.fn (.yield l) [] []])
       (.fn _ _ _ _ _ hf0 hl1 (fun i x y hx hy=>(k1 i x y hx hy).mono p1) hl2 (fun i x y hx hy=>(k2 i x y hx hy).mono p1)) (RnL.cons (.yield _ _ (by simp)) RnL.nil) hcall
      refine CallV.mono (fv:=.fn (.func gf) first' cap') (as:=[.fn (.yield l) [] []]) hcs ?_;rintro v' H' ⟨⟨r2,q1,q2,q3⟩,_⟩;have hr2:r2 h.length=some l:=q1 h.length l (by simp);have fin:∀(st:LSt),iA h1 h.length=some st→(∃ o,H' l=some (.obj true o)∧qK i st o)∧SR D Y r2 e (h1.set h.length none) env (mV H' l):=by
       intro st hst;obtain⟨c',i',o',m1,m2,m3,m4,vs,d',L',ps',a',b',m5,_⟩:=q2.loopAt hst;rw[hr2]at m1;simp only[oSI]at m1;subst m1;rw[y1]at m2;simp only[oSI]at m2;subst m2;obtain⟨G,hG⟩:=q2.gh;refine⟨⟨o',m3,m4⟩,⟨fun b c hb=>by simpa using q2.dom b c hb,fun b1 b2 c x1 x2 g1 g2 g3 g4=>?_,fun b2 x hx=>?_,_,hG.via id (fun b st p hz=>?_) (fun b z hz=>?_) (fun _ _ _ _ _ _ _ hne=>hne) fun b st p n y' hz hnn hy=>?_⟩,fun j=>(sr.re j).mono (p1.trans q1)⟩
       all_goals
        have live:∀ b z,hat (h1.set h.length none) b=some z→b≠h.length∧hat h1 b=some z:=fun b z hz=>by
         grind [fX,rC]
       ·exact q2.inj b1 b2 c x1 x2 (live _ _ g1).2 (live _ _ g2).2 g3 g4
       ·obtain⟨n1,n2⟩:=live _ _ hx
        obtain⟨c,y,w1,w2,w3⟩:=q2.blk b2 x n2;have hcl:c≠l:=fun e=>by
         subst e;exact n1 (q2.inj b2 h.length c x _ n2 m5 w1 hr2)
        exact⟨c,y,w1,by simp only[mV,hcl,AAd];exact w2,w3.mono (fun _ _ h=>h) (fun _=>(y2 c hcl).symm)⟩
       ·grind
       ·grind
       ·obtain⟨n1,n2⟩:=live _ _ hz
        have hnl:n≠l:=fun e=>by
         subst e;exact(hG.2 b h.length st p _ n n2 m5 n1 hnn).1 hr2
        simp only[mV,hnl,AAd];exact hy
      split at hx
      ·rename_i hst
       simp only[oSI,A7]at hx;obtain⟨rfl,rfl,rfl⟩:=hx;obtain⟨⟨o,u1,u2⟩,u3⟩:=fin _ hst;simp only[qK,hi]at u2;subst u2;exact .inl ⟨u1,hK r2 env _ ((p1.trans q1).agree k) u3⟩
      ·rename_i x0 hst
       simp only[oSI,A7]at hx;obtain⟨rfl,rfl,rfl⟩:=hx;obtain⟨⟨o,u1,u2⟩,u3⟩:=fin _ hst;cases x0 with
       | normal=>exact u2.elim
       | ret =>
         simp only[qK,hi]at u2;subst u2;exact .inr (.inl ⟨u1,hK r2 env _ ((p1.trans q1).agree k) u3⟩)
       | exit id =>
         simp only[qK,hi]at u2;subst u2;exact .inr (.inr (.inl ⟨id,u1,hK r2 env _ ((p1.trans q1).agree k) u3⟩))
       | goto id =>
         simp only[qK,hi]at u2;subst u2;exact .inr (.inr (.inr ⟨id,u1,hK r2 env _ ((p1.trans q1).agree k) u3⟩))
      ·simp at hx
    ·simp at hx
   ·simp at hx
theorem aIt{run:eA}{runY:fA}{d:XFn}{K:Nat}(hD:D K=some d)(hm:P.follows .mixedOrders=true)(hall:∀(B:Base)(Y:Nat→Option YI),YOk P B D Y→FnS P B D Y run∧YS P B D Y runY)(k n:Nat)(rd rr:Option Nat) :
 ∀(code:XCode)(B:Base)(Y:Nat→Option YI)(r:Nat→Option Nat)(e:aH)(h:XH)(env:aH)(H:Hp)(l:List (DX×aH×XH))(Q:QC),YOk P B D Y→nA code=true→fW d code→RdOk Y r k rd rr→SR D Y r e h env H →
   iX run runY K k n rd code e h=some l→(∀ q∈l,∀ r' env' H',Agree k r r'→SR D Y r' q.2.1 q.2.2 env' H'→Q q.1 env' H')→WD B P rr d.N code.erase Q env H:=by
 intro code
 have one:∀(c:XCode)(B:Base)(Y:Nat→Option YI)(r:Nat→Option Nat)(e:aH)(h:XH)(env:aH)(H:Hp)(l:List (DX×aH×XH))(Q:QC),YOk P B D Y→nA c=true→fW d c→RdOk Y r k rd rr→SR D Y r e h env H →
  (aT run runY K k n rd c e h).map (fun q=>[q])=some l→(∀ q∈l,∀ r' env' H',Agree k r r'→SR D Y r' q.2.1 q.2.2 env' H'→Q q.1 env' H')→WD B P rr d.N c.erase Q env H:=by
  intro c B Y r e h env H l Q hY hok hs hrd sr hx hK;simp only[A3]at hx;obtain⟨⟨x,e',h'⟩,hx,rfl⟩:=hx;exact lL hD hm hall k n rd rr c B Y r e h env H x e' h' Q hY hok hs hrd sr hx fun r' env' H' ha sr'=>hK (x,e',h') J3 r' env' H' ha sr'
 induction code with
 | reg fz draw ops =>
   cases draw with
   | true=>exact one _
   | false =>
     intro B Y r e h env H l Q hY hok hs hrd sr hx hK;simp only[nA]at hok;obtain⟨hf,hy⟩:=hall B Y hY;simp only[iX,A3]at hx;obtain⟨l1,hx,rfl⟩:=hx;obtain⟨env1,H1,k1,k2⟩:=vZ sr fz;refine WD.shift k1 (WD.reg hm ?_);exact aHg hf hy ops r _ _ env1 H1 l1 _ hok k2 hx fun q hq r' env' H' hs sr'=>hK (.normal,q.1,q.2) (G1.2 ⟨q,hq,rfl⟩) r' env' H' (hs.agree k) sr'
 | seq a b iha ihb =>
   intro B Y r e h env H l Q hY hok hs hrd sr hx hK;simp only[nA,A4]at hok;simp only[iX,B9]at hx;obtain⟨l1,hx1,hx2⟩:=hx;refine WD.seq (iha B Y r e h env H l1 _ hY hok.1 hs.1 hrd sr hx1 fun q hq r' env' H' ha sr'=>?_);obtain⟨m,k1,k2⟩:=rO hx2 q hq;unfold aDi at k1;split at k1
   ·rename_i hn
    rw[hn];exact ihb B Y r' _ _ env' H' m Q hY hok.2 hs.2 (hrd.agree ha) sr' k1 fun q2 hq2 r2 env2 H2 ha2 sr2=>hK q2 (k2 q2 hq2) r2 env2 H2 (ha.trans ha2) sr2
   ·rename_i hn
    simp only[oSI]at k1;subst k1;have g:=hK q (k2 q J3) r' env' H' ha sr';obtain⟨x,e1,h1⟩:=q;cases x with
    | normal=>exact absurd rfl hn
    | _=>exact g
 | cond c a b iha ihb =>
   intro B Y r e h env H l Q hY hok hs hrd sr hx hK;simp only[nA,A4]at hok;have hc:=aP sr.re (x:=c) hok.1;simp only[iX]at hx;split at hx
   ·rename_i hv
    rw[hv]at hc;exact WD.cond (t:=true) (eW hc) (iha B Y r e h env H l Q hY hok.2.1 hs.1 hrd sr hx hK)
   ·rename_i hv
    rw[hv]at hc;exact WD.cond (t:=false) (eW hc) (ihb B Y r e h env H l Q hY hok.2.2 hs.2 hrd sr hx hK)
   ·simp at hx
 | block id a iha =>
   intro B Y r e h env H l Q hY hok hs hrd sr hx hK;simp only[nA]at hok;simp only[iX,A3]at hx;obtain⟨l1,hx,rfl⟩:=hx;refine WD.block (iha B Y r e h env H l1 _ hY hok hs hrd sr hx fun q hq r' env' H' ha sr'=>?_);have g:=hK (aXr id q) (G1.2 ⟨q,hq,rfl⟩) r' env' H' ha;obtain⟨x,e1,h1⟩:=q;unfold aXr at g;cases x with
   | exit j =>
     simp only[QC.block];by_cases hj:j=id;·subst hj;simp only[AAe]at g ⊢;exact g sr'
     ·simp only[hj,AAd,DX.exit.injEq]at g ⊢;exact g sr'
   | normal=>simp only[reduceCtorEq,AAd]at g;exact g sr'
   | ret=>simp only[reduceCtorEq,AAd]at g;exact g sr'
   | goto l=>simp only[reduceCtorEq,AAd]at g;exact g sr'
 | loop L a iha =>
   intro B Y r e h env H l Q hY hok hs hrd sr hx hK;simp only[nA]at hok;simp only[iX]at hx;refine WD.loop (fun m env1 H1=>∃ r1 e1 h1 l1,Agree k r r1∧SR D Y r1 e1 h1 env1 H1∧aAe (iX run runY K k n rd a) k L m e1 h1=some l1∧∀ q∈l1,q∈l) (m:=n) ⟨r,e,h,l,Agree.refl _ _,sr,hx,fun _ hq=>hq⟩ ?_;rintro m env1 H1 ⟨r1,e1,h1,l1,ha,sr1,hx1,hl1⟩;cases m with
   | zero=>simp[aAe]at hx1
   | succ m =>
     simp only[aAe,B9]at hx1;obtain⟨l2,hx1,hx2⟩:=hx1;obtain⟨r2,ha2,sr2⟩:=mH sr1 k L;refine iha B Y r2 _ _ env1 H1 l2 _ hY hok hs ((hrd.agree ha).agree ha2) sr2 hx1 fun q hq r3 env3 H3 ha3 sr3=>?_;obtain⟨l3,k1,k2⟩:=rO hx2 q hq;unfold aDi at k1;split at k1
     ·rename_i hn
      rw[hn];exact⟨m,by omega,r3,_,_,l3,(ha.trans ha2).trans ha3,sr3,k1,fun q' hq'=>hl1 q' (k2 q' hq')⟩
     ·rename_i hn
      simp only[oSI]at k1;subst k1;have g:=hK q (hl1 q (k2 q J3)) r3 env3 H3 ((ha.trans ha2).trans ha3) sr3;obtain⟨x,e4,h4⟩:=q;cases x with
      | normal=>exact absurd rfl hn
      | _=>exact g
 | skip=>exact one _
 | exit id=>exact one _
 | ret=>exact one _
 | lab l=>exact one _
 | goto l=>exact one _
 | again L l b _=>exact one _
 | scope L l a b _ _=>exact one _
 | rng site L f ps a b _ _=>exact one _

theorem nE{as as':List AV}(h:RnL D Y r as as')(j:Nat):Rn D Y r (aV as j) (aV as' j):=by
 unfold aV;rw[C7,C7];cases hx:as[j]? with
 | none=>exact .any _
 | some x =>
   grind [RnL]

theorem aGo(sr:SR D Y r e h env H){rs:List (Nat×Option (Bool×Nat))}{v:AV}(hv:jZ rs e (aI h)=some v):∃ v',jZ rs env H=some v'∧Rn D Y r v v':=by
 have one:∀{p:Nat×Option (Bool×Nat)}{v:AV},uB e (aI h) p=some v→∃ v',uB env H p=some v'∧Rn D Y r v v':=by
  intro p v hv;obtain⟨t,o⟩:=p;cases o with
  | none=>simp only[uB,oSI]at hv ⊢;subst hv;exact⟨_,rfl,sr.re t⟩
  | some q =>
    obtain⟨g,n⟩:=q;simp only[uB]at hv ⊢;exact aHY sr.sh (sr.re t) hv
 have lst:∀(rs:List (Nat×Option (Bool×Nat)))(vs:List AV),wI e (aI h) rs=some vs→∃ vs',wI env H rs=some vs'∧RnL D Y r vs vs':=by
  intro rs;induction rs with
  | nil=>intro vs hv;simp only[wI,oSI]at hv;subst hv;exact⟨[],rfl,RnL.nil⟩
  | cons p rs ih =>
    intro vs hv;simp only[wI]at hv ⊢
    grind [RnL.cons]
 unfold jZ at hv ⊢;split at hv
 ·rename_i v0 h1
  simp only[oSI]at hv;subst hv;obtain⟨vs',k1,k2⟩:=lst rs _ h1;obtain⟨y,ys,rfl,k3,k4⟩:=k2.inv;obtain rfl:=k4.nil_inv
  grind
 ·rename_i vs hne h1
  simp only[oSI]at hv;subst hv;obtain⟨vs',k1,k2⟩:=lst rs _ h1;rw[k1];refine⟨.tup vs',?_,.tup _ _ k2.1 k2.2⟩;split
  ·rename_i v0 h2
   simp only[oSI]at h2;subst h2;exfalso;have:=k2.1;cases vs with
   | nil=>simp at this
   | cons a vs=>simp_all
  all_goals grind
 ·simp at hv

theorem aKE:∀(ps:List Nat)(as as':List AV)(e env:aH),RnL D Y r as as'→(∀ j,Rn D Y r (e j) (env j))→∀ j,Rn D Y r (pR e ps as j) (pR env ps as' j)
 | [],as,as',e,env,_,re,j=>by unfold pR;exact re j
 | p::ps,[],as',e,env,h,re,j=>by rw[h.nil_inv];unfold pR;exact re j
 | p::ps,a::as,as',e,env,h,re,j=>by
   obtain⟨a',as2,rfl,h1,h2⟩:=h.inv;unfold pR;refine aKE ps as as2 _ _ h2 (fun i=>?_) j;simp only[upd];split;·exact h1
   ·exact re i

theorem aLi:∀(L:List Nat)(vs:List AV)(env:aH),RnL D Y r vs (L.map env)→∀ j,Rn D Y r (aZ L vs j) (env j)
 | [],[],env,h,j=>.any _
 | [],_::_,env,h,j=>.any _
 | _::_,[],env,h,j=>.any _
 | k::L,v::vs,env,h,j=>by
   obtain⟨a',as2,h0,h1,h2⟩:=h.inv;simp only[F8,aD5]at h0;obtain⟨rfl,rfl⟩:=h0;simp only[aZ];split;·rename_i hj;subst hj;exact h1
   ·exact aLi L vs env h2 j

theorem aFs(sh:SH D Y r h H){k:Nat}{u u':AV}(hu:Rn D Y r u u'):∃ r',Agree k r r'∧SH D Y r' (mR k (cY k [u] h) h) H∧Rn D Y r' (rnA (keepS k (cY k [u] h)) u) u':=by
 obtain⟨h1,h2⟩:=aDs k [u] h;obtain⟨k1,k2,k3⟩:=aDr sh h1 h2
 grind

def okD(d:XFn):Bool:=nA d.body
structure XOk(P:Program)(D:Nat→Option XFn):Prop where
 mixed:P.follows .mixedOrders=true
 is:∀ K d,D K=some d→d.prm=none→aTp P K d.fn
 prm:∀ K d f,D K=some d→d.prm=some f→∀(B:Base)(Y:Nat→Option YI),YOk P B D Y→∀(r:Nat→Option Nat)(h:XH)(H:Hp)(as as':List AV)(v:AV)(h':XH),SH D Y r h H→RnL D Y r as as'→f as h=some (v,h')→FnW B P K as' H (fH D Y r v h')
 ok:∀ K d,D K=some d→okD d=true
 sites:∀ K d,D K=some d→fW d d.body

theorem XOk.body(ok:XOk P D){K:Nat}{d:XFn}(h:D K=some d):nA d.body=true:=by
 have:=ok.ok K d h
 simp_all [okD]

theorem aIY(ok:XOk P D){run:eA}{runY:fA}(n:Nat)(ih:∀(B:Base)(Y:Nat→Option YI),YOk P B D Y→FnS P B D Y run∧YS P B D Y runY):∀(B:Base)(Y:Nat→Option YI),YOk P B D Y→FnS P B D Y (aCf D run runY n)∧YS P B D Y (aEO D run runY n):=by
 intro B Y hY;refine⟨fun r h H K as as' v h' sh hA hx=>?_,fun r h H fv fv' as as' v h' sh hfv hA hx=>?_⟩
 ·simp only[aCf]at hx
  split at hx;·simp at hx
  ·rename_i d hD
   split at hx
   ·rename_i f hf
    exact ok.prm K d f hD hf B Y hY r h H as as' v h' sh hA hx
   rename_i hpr;split at hx
   ·rename_i hN
    have main:∀(as1 as1':List AV),RnL D Y r as1 as1'→as1.length≤d.N→(match d.dfr with
     | none=>aJi (lB K) d.res d.ownR h.length (aT run runY K h.length n none d.body (aV as1) h)
     | some _=>aRV d.res d.ownR h.length (iX run runY K h.length n none d.body (aV as1) h))=some (v,h')→FnW B P K as1' H (fH D Y r v h'):=by
     intro as1 as1' hA1 hN1 hx
     have goal:∀(r1:Nat→Option Nat)(env1:aH)(H1:Hp)(e1:aH)(h1:XH)(v0:AV),Agree h.length r r1→SR D Y r1 e1 h1 env1 H1→jZ d.res e1 (aI h1)=some v0→nU d.ownR h.length v0 h1=(v,h') →
      mO (jZ d.res env1 H1) fun v_1=>∃ v' H'',Shift (upd anyE 0 v_1) H1 (upd anyE 0 v') H''∧fH D Y r v h' v' H'':=by
      intro r1 env1 H1 e1 h1 v0 ha1 sr1 hv0 hfin;have goal:mO (jZ d.res env1 H1) fun v=>∃ v' H'',Shift (upd anyE 0 v) H1 (upd anyE 0 v') H''∧fH D Y r (nU d.ownR h.length v0 h1).1 (nU d.ownR h.length v0 h1).2 v' H'':=by
       obtain⟨v0',k1,k2⟩:=aGo sr1 hv0;rw[k1,optW_some];have sr2:SR D Y r1 (upd anyE 0 v0) h1 (upd anyE 0 v0') H1:=⟨sr1.sh,fun j=>by
        simp only[upd];split;·exact k2
        ·exact .any _⟩
       have post:∀(u u':AV)(h2:XH)(H2:Hp),SH D Y r1 h2 H2→Rn D Y r1 u u'→fH D Y r (rnA (keepS h.length (cY h.length [u] h2)) u) (mR h.length (cY h.length [u] h2) h2) u' H2:=by
        intro u u' h2 H2 s1 s2;obtain⟨r2,m1,m2,m3⟩:=aFs s1 s2 (k:=h.length);exact⟨r2,fun b c hb=>m1 b c (sh.dom b c hb) (ha1 b c (sh.dom b c hb) hb),m2,m3⟩
       unfold nU;cases d.ownR with
       | true =>
         simp only[AAe];exact⟨v0',H1,Shift.le (Le.refl _),by
          have:=post v0 v0' h1 H1 sr1.sh k2
          simp_all⟩
       | false =>
         simp only[B8,AAd];obtain⟨env2,H2,s1,s2⟩:=xX (kP h1 2 (slN v0)) _ _ _ _ sr2;have hz:=(s2.re 0).nz;refine⟨sQ (env2 0),H2,s1.trans ?_,post _ _ _ _ s2.sh hz⟩;intro F w a st re;refine⟨F,Ext.refl _ _ _,st,fun j=>?_,re.gi⟩;simp only[upd];split;·rename_i hj;subst hj;exact(re.rv 0).nz
         ·exact .any _
      grind
     refine FnW.shift (FnW.of (ok.is K d hD hpr) (by rw[←hA1.1];exact hN1) ?_);cases hd:d.dfr with
     | none =>
       rw[hd]at hx;simp only at hx;show WD B P none d.N d.fn.body _ _ _;cases hgc:lB K with
       | true =>
         rw[hgc]at hx;simp only[aJi]at hx;unfold aEs at hx;split at hx;·simp at hx
         ·simp at hx
         ·rename_i x e1 h1 hne hne' hex
          simp only[A3,A7]at hx;obtain⟨v0,hv0,rfl,rfl⟩:=hx;refine lL hD ok.mixed ih h.length n none none d.body B Y r (aV as1) h (aV as1') H x e1 h1 _ hY (ok.body hD) (ok.sites K d hD) rfl ⟨sh,nE hA1⟩ hex ?_;intro r1 env1 H1 ha1 sr1;obtain⟨v0',k1,k2⟩:=aGo sr1 hv0;have g:mO (jZ d.res env1 H1) fun v_1=>∃ v' H'',Shift (upd anyE 0 v_1) H1 (upd anyE 0 v') H''∧fH D Y r v0 h1 v' H'':=by
           rw[k1,optW_some];exact⟨v0',H1,Shift.le (Le.refl _),r1,fun b c hb=>ha1 b c (sh.dom b c hb) hb,sr1.sh,k2⟩
          cases x with
          | exit id=>grind
          | goto id=>grind
          | normal=>exact g
          | ret=>exact g
         ·simp at hx
       | false =>
       rw[hgc]at hx;simp only[aJi]at hx;unfold eX at hx;split at hx;·simp at hx
       ·simp at hx
       ·rename_i x e1 h1 hne hne' hex
        simp only[A3]at hx;obtain⟨v0,hv0,hfin⟩:=hx;refine lL hD ok.mixed ih h.length n none none d.body B Y r (aV as1) h (aV as1') H x e1 h1 _ hY (ok.body hD) (ok.sites K d hD) rfl ⟨sh,nE hA1⟩ hex ?_;intro r1 env1 H1 ha1 sr1;have g:=goal r1 env1 H1 e1 h1 v0 ha1 sr1 hv0 hfin;cases x with
        | exit id=>grind
        | goto id=>grind
        | normal=>exact g
        | ret=>exact g
       ·simp at hx
     | some p =>
       rw[hd]at hx;simp only at hx;show WD B P none d.N d.fn.body _ _ _;obtain⟨l,hl,hall⟩:=aHJ hx;refine aIt hD ok.mixed ih h.length n none none d.body B Y r (aV as1) h (aV as1') H l _ hY (ok.body hD) (ok.sites K d hD) rfl ⟨sh,nE hA1⟩ hl ?_;intro q hq r1 env1 H1 ha1 sr1;have hx:=hall q hq;obtain⟨x,e1,h1⟩:=q;unfold eX at hx;cases x with
       | exit id=>simp at hx
       | goto id=>simp at hx
       | normal =>
         simp only[A3]at hx;obtain⟨v0,hv0,hfin⟩:=hx;exact goal r1 env1 H1 e1 h1 v0 ha1 sr1 hv0 hfin
       | ret =>
         simp only[A3]at hx;obtain⟨v0,hv0,hfin⟩:=hx;exact goal r1 env1 H1 e1 h1 v0 ha1 sr1 hv0 hfin
    cases hown:d.ownA with
    | true =>
      grind
    | false =>
      rw[hown]at hx;simp only[B8,AAd]at hx;exact FnW.nz (main _ _ hA.nz (by grind [lS]) hx)
   ·simp at hx
 ·simp only[aEO]at hx
  split at hx
  ·rename_i l
   cases hfv with
   | fn _ _ _ _ _ hf=>grind
   | yield _ c hr =>
   show YW B P c as' H _;split at hx
   ·rename_i K site vs hl
    split at hx;·simp at hx
    ·rename_i L ps a b hDs
     simp only[B9]at hDs;obtain⟨d,hD,hsite⟩:=hDs;split at hx
     ·rename_i hlen
      split at hx
      ·rename_i e1 h1 hex1
       split at hx
       ·rename_i hst1
        split at hx
        ·rename_i x e2 h2 hex2
         split at hx
         ·rename_i hst2
          simp only[oSI]at hx;obtain⟨c',i,o,g1,g2,g3,g4,vs',d',L',ps',a',b',g5,g6,g7,g8⟩:=sh.loopAt (l:=l) (st:=.ready) (by unfold iA;rw[hl]);rw[hr]at g1;simp only[oSI]at g1;subst g1;rw[hl]at g5;simp only[oSI,XB.loop.injEq,and_true]at g5;obtain⟨rfl,rfl,rfl⟩:=g5;rw[hD]at g6;simp only[oSI]at g6;subst g6;rw[hsite]at g7;simp only[oSI,A7]at g7;obtain⟨rfl,rfl,rfl,rfl⟩:=g7;simp only[qK]at g4;subst g4;obtain⟨⟨q,hq⟩,prov⟩:=hY c i g2;have hrd:RdOk Y r h.length (some l) (some c):=⟨sh.dom l c hr,c,i,q,hr,rfl,g2,hq⟩;obtain⟨hs1,hs2⟩:fW d a∧fW d b:=by
           have aux:∀(code:XCode),fW d code→∀ s L ps a b,cT code s=some (L,ps,a,b)→fW d a∧fW d b:=by
            intro code;induction code with
            | seq a b iha ihb =>
              intro hs s L ps a' b' h;simp only[cT]at h;split at h;·rename_i r0 h0;simp only[oSI]at h;subst h;exact iha hs.1 s _ _ _ _ h0
              ·exact ihb hs.2 s _ _ _ _ h
            | cond c a b iha ihb =>
              intro hs s L ps a' b' h;simp only[cT]at h;split at h;·rename_i r0 h0;simp only[oSI]at h;subst h;exact iha hs.1 s _ _ _ _ h0
              ·exact ihb hs.2 s _ _ _ _ h
            | scope _ _ a b iha ihb =>
              intro hs s L ps a' b' h;simp only[cT]at h;split at h;·rename_i r0 h0;simp only[oSI]at h;subst h;exact iha hs.1 s _ _ _ _ h0
              ·exact ihb hs.2 s _ _ _ _ h
            | block id a iha=>intro hs s L ps a' b' h;exact iha hs s _ _ _ _ (by simpa [cT]using h)
            | loop l a iha=>intro hs s L ps a' b' h;exact iha hs s _ _ _ _ (by simpa [cT]using h)
            | rng s' L' f ps' a b iha ihb =>
              intro hs s L ps a' b' h;simp only[cT]at h;split at h
              ·simp only[oSI,A7]at h
               obtain⟨rfl,rfl,rfl,rfl⟩:=h;exact hs.2
              ·split at h
               ·rename_i r0 h0;simp only[oSI]at h;subst h;exact iha hs.2.1 s _ _ _ _ h0
               ·exact ihb hs.2.2 s _ _ _ _ h
            | skip=>intro hs s L ps a' b' h;simp[cT]at h
            | exit id=>intro hs s L ps a' b' h;simp[cT]at h
            | ret=>intro hs s L ps a' b' h;simp[cT]at h
            | again _ _ _ _=>intro hs s L ps a' b' h;simp[cT]at h
            | lab _=>intro hs s L ps a' b' h;simp[cT]at h
            | goto _=>intro hs s L ps a' b' h;simp[cT]at h
            | reg fz dr ops=>intro hs s L ps a' b' h;simp[cT]at h
           exact aux d.body (ok.sites _ d hD) _ _ _ _ _ hsite
          obtain⟨hok1,hok2⟩:nA a=true∧nA b=true:=by
           have aux:∀(code:XCode),nA code=true→∀ s L ps a b,cT code s=some (L,ps,a,b)→nA a=true∧nA b=true:=by
            intro code;induction code with
            | seq a b iha ihb =>
              intro hs s L ps a' b' h;simp only[nA,A4]at hs;simp only[cT]at h
              grind
            | cond c a b iha ihb =>
              intro hs s L ps a' b' h;simp only[nA,A4]at hs;simp only[cT]at h
              grind
            | scope _ _ a b iha ihb =>
              intro hs s L ps a' b' h;simp only[nA,A4]at hs;simp only[cT]at h
              grind
            | block id a iha=>intro hs s L ps a' b' h;exact iha (by simpa [nA]using hs) s _ _ _ _ (by simpa [cT]using h)
            | loop l a iha=>intro hs s L ps a' b' h;exact iha (by simpa [nA]using hs) s _ _ _ _ (by simpa [cT]using h)
            | rng s' L' f ps' a b iha ihb =>
              intro hs s L ps a' b' h;simp only[nA,A4]at hs;simp only[cT]at h
              grind
            | skip=>intro hs s L ps a' b' h;simp[cT]at h
            | exit id=>intro hs s L ps a' b' h;simp[cT]at h
            | ret=>intro hs s L ps a' b' h;simp[cT]at h
            | again _ _ _ _=>intro hs s L ps a' b' h;simp[cT]at h
            | lab _=>intro hs s L ps a' b' h;simp[cT]at h
            | goto _=>intro hs s L ps a' b' h;simp[cT]at h
            | reg fz dr ops=>intro hs s L ps a' b' h;simp[cT]at h
           exact aux d.body (ok.body hD) _ _ _ _ _ hsite
          refine prov d L ps a b hD hsite B (Up.refl _ _) as' H _ g3 (by rw[←hA.1];exact hlen) ?_;refine lL hD ok.mixed ih h.length n (some l) (some c) a B Y r _ h _ H .normal e1 h1 _ hY hok1 hs1 hrd ⟨sh,aKE ps as as' _ _ hA (aLi L vs i.env g8)⟩ hex1 ?_;intro r1 env1 H1 ha1 sr1;obtain⟨c1,i1,o1,m1,m2,m3,m4,_⟩:=sr1.sh.loopAt hst1;have hr1:r1 l=some c:=ha1 l c (sh.dom l c hr) hr;rw[hr1]at m1;simp only[oSI]at m1;subst m1;rw[g2]at m2;simp only[oSI]at m2;subst m2;simp only[qK]at m4;subst m4;refine⟨rfl,m3,?_⟩;have sh1':=sr1.sh.loopTo (st':=.busy) (o:=i.oB) hst1 hr1 g2 rfl;refine lL hD ok.mixed ih h.length n (some l) (some c) b B Y r1 e1 _ env1 _ x e2 h2 _ hY hok2 hs2 (hrd.agree ha1) ⟨sh1',sr1.re⟩ hex2 ?_;intro r2 env2 H2 ha2 sr2;obtain⟨c2,i2,o2,p1,p2,p3,p4,_⟩:=sr2.sh.loopAt hst2;have hr2:r2 l=some c:=ha2 l c (sh.dom l c hr) hr1;rw[hr2]at p1;simp only[oSI]at p1;subst p1;rw[g2]at p2;simp only[oSI]at p2;subst p2;simp only[qK]at p4;subst p4;refine⟨p3,?_⟩;have post:∀(bv:Bool)(st':LSt)(o:Obj),qK i st' o→fH D Y r (nU true h.length (.bool bv) (loopTo h2 l st')).1 (nU true h.length (.bool bv) (loopTo h2 l st')).2 (.bool bv) (hset H2 c (.obj true o)):=by
           intro bv st' o ho;have sh2':=sr2.sh.loopTo (st':=st') (o:=o) hst2 hr2 g2 ho;obtain⟨r3,s1,s2,s3⟩:=aFs sh2' (k:=h.length) (u:=.bool bv) (.bool bv);refine⟨r3,fun b c hb=>s1 b c (sh.dom b c hb) (ha2 b c (sh.dom b c hb) (ha1 b c (sh.dom b c hb) hb)),?_,?_⟩;·simpa [nU,upd]using s2
           ·simpa [nU,upd]using s3
          cases x with
          | normal =>
            have:=post true .ready i.oR rfl
            grind
          | ret =>
            have:=post false (.done .ret) (i.oD .ret) rfl
            grind
          | exit id =>
            have:=post false (.done (.exit id)) (i.oD (.exit id)) rfl
            grind
          | goto id =>
            have:=post false (.done (.goto id)) (i.oD (.goto id)) rfl
            grind
         ·simp at hx
        ·simp at hx
       ·simp at hx
      ·simp at hx
     ·simp at hx
   ·simp at hx
  ·simp at hx
theorem mY(ok:XOk P D):∀(n:Nat)(B:Base)(Y:Nat→Option YI),YOk P B D Y→FnS P B D Y (cF D n)∧YS P B D Y (bK D n):=by
 intro n;induction n with
 | zero =>
   simp[FnS,cF,YS,bK]
 | succ n ih =>
   grind [aIY,cF,bK]

end
def uG:XCode→Bool
 | .seq a b | .cond _ a b | .scope _ _ a b=>uG a&&uG b
 | .block _ a | .loop _ a=>uG a
 | .rng .. => false
 | _=>true
theorem aF{d:XFn}:∀{c:XCode},uG c=true→fW d c
 | .seq a b,h=>by simp only[uG,A4]at h;exact⟨aF h.1,aF h.2⟩
 | .cond c a b,h=>by simp only[uG,A4]at h;exact⟨aF h.1,aF h.2⟩
 | .block id a,h=>aF (c:=a) (by grind [uG])
 | .loop l a,h=>aF (c:=a) (by grind [uG])
 | .scope _ _ a b,h=>by simp only[uG,A4]at h;exact⟨aF h.1,aF h.2⟩
 | .again ..,_=>trivial
 | .lab _,_=>trivial
 | .goto _,_=>trivial
 | .rng ..,h=>by simp[uG]at h
 | .skip,_=>trivial
 | .exit _,_=>trivial
 | .ret,_=>trivial
 | .reg ..,_=>trivial

def LeR(f g:eA):Prop:=∀ K as h q,f K as h=some q→g K as h=some q
def LeY(f g:fA):Prop:=∀ v as h q,f v as h=some q→g v as h=some q
section
variable{run run':eA}{runY runY':fA}

theorem yG(hr:LeR run run')(hy:LeY runY runY'){fv:AV}{as:List AV}{h:XH}{q:AV×XH}(hx:fU run runY fv as h=some q):fU run' runY' fv as h=some q:=by
 unfold fU at hx ⊢;split at hx
 ·rename_i g first cap
  cases hg:lB g with
  | true=>rw[hg]at hx;exact hr _ _ _ _ hx
  | false =>
    rw[hg]at hx;simp only[aFE,A3]at hx ⊢;obtain⟨a,h1,h2⟩:=hx;exact⟨a,hr _ _ _ _ h1,h2⟩
 ·simp only[A3]at hx ⊢
  obtain⟨a,h1,h2⟩:=hx;exact⟨a,hy _ _ _ _ h1,h2⟩
 ·simp at hx
theorem aDU(hr:LeR run run'){fv:AV}{as:List AV}{h:XH}{q:AV}(hx:nX run fv as h=some q):nX run' fv as h=some q:=by
 unfold nX at hx ⊢;split at hx
 ·simp only at hx ⊢
  split at hx
  ·rename_i v hl h1
   rw[hr _ _ _ _ h1];exact hx
  ·simp at hx
 ·simp at hx
theorem lF(hr:LeR run run')(hy:LeY runY runY'){d:Option Nat}{op:DOp}{e:aH}{h:XH}{q:aH×XH}(hx:cS run runY d op e h=some q):cS run' runY' d op e h=some q:=by
 cases op with
 | callf b f xs l =>
   cases b with
   | true =>
     simp only[cS,A3]at hx ⊢
     grind [aDU]
   | false =>
     simp only[cS,A3]at hx ⊢
     grind [yG]
 | _=>exact hx
theorem pJ(hr:LeR run run')(hy:LeY runY runY'):∀(ops:List DOper)(e:aH)(h:XH)(q:aH×XH),fI run runY ops e h=some q→fI run' runY' ops e h=some q
 | [],e,h,q,hx=>hx
 | o::ops,e,h,q,hx=>by
   simp only[fI]at hx ⊢;split at hx
   ·simp only[B9]at hx ⊢
    obtain⟨s,h1,h2⟩:=hx;exact⟨s,lF hr hy h1,pJ hr hy ops _ _ q h2⟩
   ·exact pJ hr hy ops _ _ q hx
   ·simp at hx
theorem nF(hr:LeR run run')(hy:LeY runY runY'):∀(ops:List DOper)(e:aH)(h:XH)(L:List (Nat×Nat))(q:aH×XH),fM run runY ops e h L=some q→fM run' runY' ops e h L=some q
 | [],e,h,L,q,hx=>hx
 | o::ops,e,h,L,q,hx=>by
   simp only[fM]at hx ⊢;split at hx
   ·split at hx
    ·rename_i hl
     rw[if_pos hl];simp only[B9]at hx ⊢;obtain⟨s,h1,h2⟩:=hx;refine⟨s,lF hr hy h1,?_⟩;split at h2;·rename_i hp;rw[if_pos hp];exact nF hr hy ops _ _ _ q h2
     ·simp at h2
    ·simp at hx
   ·exact nF hr hy ops _ _ _ q hx
   ·simp at hx

theorem hZ{step step':aH→XH→Option (DX×aH×XH)}(hs:∀ e h q,step e h=some q→step' e h=some q){k:Nat}{L:List Nat}:∀(n m:Nat),n≤m→∀(e:aH)(h:XH)(q:DX×aH×XH),fF step k L n e h=some q→fF step' k L m e h=some q
 | 0,_,_,e,h,q,hx=>by simp[fF]at hx
 | n+1,0,hnm,e,h,q,hx=>by omega
 | n+1,m+1,hnm,e,h,q,hx=>by
   simp only[fF]at hx ⊢;split at hx
   ·rename_i e' h' h1
    rw[hs _ _ _ h1];exact hZ hs n m AM e' h' q hx
   ·rename_i hne
    rw[hs _ _ _ hx];obtain⟨x,e',h'⟩:=q;cases x with
    | normal=>exact absurd hx (hne e' h')
    | _=>rfl

theorem nI{l:Nat}{r r':Option (DX×aH×XH)}(hr:∀ q,r=some q→r'=some q){q:DX×aH×XH}(h:vK l r=some q):vK l r'=some q:=by
 cases r with
 | none=>simp[vK]at h
 | some s=>rw[hr s rfl];exact h
theorem lM(hr:LeR run run')(hy:LeY runY runY'){K k n m:Nat}(hnm:n≤m){rd:Option Nat}:∀(c:XCode)(e:aH)(h:XH)(q:DX×aH×XH),aT run runY K k n rd c e h=some q→aT run' runY' K k m rd c e h=some q:=by
 intro c;induction c with
 | skip=>intro e h q hx;exact hx
 | exit id=>intro e h q hx;exact hx
 | ret=>intro e h q hx;exact hx
 | reg fz draw ops =>
   intro e h q hx;simp only[aT,A3]at hx ⊢;obtain⟨s,h1,h2⟩:=hx;refine⟨s,?_,h2⟩;split at h1;·rename_i hd;rw[if_pos hd];grind [nF]
   ·rename_i hd;rw[if_neg hd];grind [pJ]
 | seq a b iha ihb =>
   intro e h q hx;simp only[aT]at hx ⊢
   grind
 | cond c a b iha ihb =>
   intro e h q hx;simp only[aT]at hx ⊢
   grind
 | block id a iha =>
   intro e h q hx;simp only[aT]at hx ⊢
   grind
 | lab l=>intro e h q hx;exact hx
 | goto l=>intro e h q hx;exact hx
 | again L l b ihb=>intro e h q hx;exact nI (fun q=>hZ (fun e h q hq=>nI (ihb e h) hq) n m hnm e h q) hx
 | scope L l a b iha ihb =>
   intro e h q hx;simp only[aT]at hx ⊢;have hb:=fun e h q=>nI (l:=l) (q:=q) (fun q=>hZ (k:=k) (L:=L) (fun e h q hq=>nI (l:=l) (ihb e h) hq) n m hnm e h q);cases hxa:aT run runY K k n rd a e h with
   | none=>rw[hxa]at hx;simp[gM]at hx
   | some s =>
     rw[iha _ _ _ hxa];rw[hxa]at hx;unfold gM at hx ⊢
     grind
 | loop L a iha=>intro e h q hx;exact hZ iha n m hnm e h q hx
 | rng site L f ps a b _ _ =>
   intro e h q hx;simp only[aT]at hx ⊢;split at hx
   ·rename_i hc
    rw[if_pos hc]
    grind [yG]
   ·simp at hx
theorem rP{α β:Type}{f g:α→Option (List β)}(h:∀ a x,f a=some x→g a=some x):∀{l:List α}{m:List β},aAu f l=some m→aAu g l=some m
 | [],_,hm=>hm
 | a::l,m,hm=>by
   simp only[aAu]at hm ⊢;split at hm
   ·rename_i x y h1 h2
    rw[h a x h1,rP h h2];exact hm
   ·simp at hm
theorem xJ(hr:LeR run run')(hy:LeY runY runY'):∀(ops:List DOper)(e:aH)(h:XH)(q:List (aH×XH)),yR run runY ops e h=some q→yR run' runY' ops e h=some q
 | [],e,h,q,hx=>hx
 | o::ops,e,h,q,hx=>by
   simp only[yR]at hx ⊢;split at hx
   ·simp only[B9]at hx ⊢
    obtain⟨l,h1,h2⟩:=hx;refine⟨l,?_,rP (fun(s:aH×XH) x=>xJ hr hy ops s.1 s.2 x) h2⟩;unfold aIM at h1 ⊢;split at h1;·exact h1
    ·simp only[A3]at h1 ⊢
     obtain⟨s,k1,k2⟩:=h1;exact⟨s,lF hr hy k1,k2⟩
   ·exact xJ hr hy ops _ _ q hx
   ·simp at hx
theorem aDh{f g:aH→XH→Option (List (DX×aH×XH))}(h:∀ e h q,f e h=some q→g e h=some q){q:DX×aH×XH}{l:List (DX×aH×XH)}(hx:aDi f q=some l):aDi g q=some l:=by
 unfold aDi at hx ⊢;split at hx;·rename_i hc;rw[if_pos hc];exact h _ _ _ hx
 ·rename_i hc;rw[if_neg hc];exact hx
theorem aDl{f g:aH→XH→Option (List (DX×aH×XH))}(hs:∀ e h q,f e h=some q→g e h=some q){k:Nat}{L:List Nat}:∀(n m:Nat),n≤m→∀(e:aH)(h:XH)(q:List (DX×aH×XH)),aAe f k L n e h=some q→aAe g k L m e h=some q
 | 0,_,_,e,h,q,hx=>by simp[aAe]at hx
 | n+1,0,hnm,e,h,q,hx=>by omega
 | n+1,m+1,hnm,e,h,q,hx=>by
   simp only[aAe,B9]at hx ⊢;obtain⟨l,h1,h2⟩:=hx;exact⟨l,hs _ _ _ h1,rP (fun a x=>aDh (aDl hs n m AM)) h2⟩
theorem aJI(hr:LeR run run')(hy:LeY runY runY'){K k n m:Nat}(hnm:n≤m){rd:Option Nat}:∀(c:XCode)(e:aH)(h:XH)(q:List (DX×aH×XH)),iX run runY K k n rd c e h=some q→iX run' runY' K k m rd c e h=some q:=by
 intro c;have one:∀(c:XCode)(e:aH)(h:XH)(q:List (DX×aH×XH)),(aT run runY K k n rd c e h).map (fun q=>[q])=some q→(aT run' runY' K k m rd c e h).map (fun q=>[q])=some q:=by
  intro c e h q hx;simp only[A3]at hx ⊢;obtain⟨s,h1,h2⟩:=hx;exact⟨s,lM hr hy hnm c e h s h1,h2⟩
 induction c with
 | reg fz draw ops =>
   cases draw with
   | true=>exact one _
   | false =>
     intro e h q hx;simp only[iX,A3]at hx ⊢;obtain⟨s,h1,h2⟩:=hx;exact⟨s,xJ hr hy ops _ _ s h1,h2⟩
 | seq a b iha ihb =>
   intro e h q hx;simp only[iX,B9]at hx ⊢;obtain⟨l,h1,h2⟩:=hx;exact⟨l,iha _ _ _ h1,rP (fun a x=>aDh ihb) h2⟩
 | cond c a b iha ihb =>
   intro e h q hx;simp only[iX]at hx ⊢
   grind
 | block id a iha =>
   intro e h q hx;simp only[iX,A3]at hx ⊢;obtain⟨s,h1,h2⟩:=hx;exact⟨s,iha _ _ _ h1,h2⟩
 | loop L a iha=>intro e h q hx;exact aDl iha n m hnm e h q hx
 | skip=>exact one _
 | exit id=>exact one _
 | ret=>exact one _
 | lab l=>exact one _
 | goto l=>exact one _
 | again L l b _=>exact one _
 | scope L l a b _ _=>exact one _
 | rng site L f ps a b _ _=>exact one _

end

theorem aLT(D:Nat→Option XFn):∀ n,LeR (cF D n) (cF D (n+1))∧LeY (bK D n) (bK D (n+1)):=by
 intro n;induction n with
 | zero=>simp[LeR,cF,LeY,bK]
 | succ n ih =>
   refine⟨fun K as h q hx=>?_,fun v as h q hx=>?_⟩
   ·rw[cF]at hx ⊢
    unfold aCf at hx ⊢;split at hx;·simp at hx
    ·rename_i d hd
     split at hx;·exact hx
     split at hx
     ·rename_i hl
      rw[if_pos hl];have ret:∀(c:Option Nat) e1 h1 q,eX c d.res d.ownR h.length (aT (cF D n) (bK D n) K h.length n none d.body e1 h1)=some q→eX c d.res d.ownR h.length (aT (cF D (n+1)) (bK D (n+1)) K h.length (n+1) none d.body e1 h1)=some q:=by
       intro c e1 h1 q hq;cases he:aT (cF D n) (bK D n) K h.length n none d.body e1 h1 with
       | none=>rw[he]at hq;simp[eX]at hq
       | some s=>rw[lM ih.1 ih.2 (aF5 n) _ _ _ _ he,←he];exact hq
      split at hx
      ·cases hgc:lB K with
       | true =>
         rw[hgc]at hx;simp only[aJi]at hx ⊢;cases he:aT (cF D n) (bK D n) K h.length n none d.body (aV (if d.ownA then as else lT as)) h with
         | none=>rw[he]at hx;simp[aEs]at hx
         | some s=>rw[lM ih.1 ih.2 (aF5 n) _ _ _ _ he,←he];exact hx
       | false=>rw[hgc]at hx;exact ret none _ _ _ hx
      ·obtain⟨l,hl,_⟩:=aHJ hx
       rw[aJI ih.1 ih.2 (aF5 n) _ _ _ _ hl,←hl];exact hx
     ·simp at hx
   ·simp only[bK]at hx
    unfold aEO at hx;split at hx
    ·rename_i l
     split at hx
     ·rename_i K site vs hl
      rw[bK];unfold aEO;simp only[hl];split at hx;·simp at hx
      ·rename_i L ps a b h1
       split at hx
       ·rename_i hc
        simp only[h1,hc,AAe];split at hx
        ·rename_i e1 h1' h2
         rw[lM ih.1 ih.2 (aF5 n) _ _ _ _ h2];simp only;split at hx
         ·rename_i hst
          split at hx
          ·rename_i x e2 h2' h3
           rw[lM ih.1 ih.2 (aF5 n) _ _ _ _ h3];exact hx
          ·simp at hx
         ·simp at hx
        ·simp at hx
       ·simp at hx
     ·simp at hx
    ·simp at hx
theorem iZ(D:Nat→Option XFn){n m:Nat}(h:n≤m):LeR (cF D n) (cF D m)∧LeY (bK D n) (bK D m):=by
 induction h with
 | refl=>simp[LeR,LeY]
 | step _ ih=>grind [aLT,LeR,LeY]

section
variable{α β:Type}
def aIJ(f:Nat→Option α):Prop:=∀ n m q,n≤m→f n=some q→f m=some q
noncomputable def lim(f:Nat→Option α):Option α:=open Classical in if h:∃ q n,f n=some q then some h.choose else none
theorem aGF{f:Nat→Option α}(hm:aIJ f){q:α}:lim f=some q↔∃ n,f n=some q:=by
 unfold lim;constructor
 ·intro h
  split at h;all_goals grind
 ·rintro ⟨n,hn⟩
  have hx:∃ q n,f n=some q:=⟨q,n,hn⟩
  grind [aIJ]
theorem iD{x y:Option α}(h:∀ q,x=some q↔y=some q):x=y:=by
 cases x with
 | none=>cases y with
   | none=>rfl
   | some b=>simp_all
 | some a=>grind
end

variable(D:Nat→Option XFn)
noncomputable def runW:eA:=fun K as h=>lim fun n=>cF D n K as h
noncomputable def runYW:fA:=fun v as h=>lim fun n=>bK D n v as h
noncomputable def execW(K k:Nat)(rd:Option Nat)(c:XCode)(e:aH)(h:XH):Option (DX×aH×XH):=lim fun n=>aT (cF D n) (bK D n) K k n rd c e h

theorem aJf(K:Nat)(as:List AV)(h:XH):aIJ fun n=>cF D n K as h:=fun _ _ _ hnm hx=>(iZ D hnm).1 _ _ _ _ hx
theorem aHA(v:AV)(as:List AV)(h:XH):aIJ fun n=>bK D n v as h:=fun _ _ _ hnm hx=>(iZ D hnm).2 _ _ _ _ hx
theorem cP(K k:Nat)(rd:Option Nat)(c:XCode)(e:aH)(h:XH):aIJ fun n=>aT (cF D n) (bK D n) K k n rd c e h :=
 fun _ _ _ hnm hx=>lM (iZ D hnm).1 (iZ D hnm).2 hnm _ _ _ _ hx
variable{D}
theorem bJ{K:Nat}{as:List AV}{h:XH}{q:AV×XH}:runW D K as h=some q↔∃ n,cF D n K as h=some q:=aGF (aJf D K as h)
theorem vM{v:AV}{as:List AV}{h:XH}{q:AV×XH}:runYW D v as h=some q↔∃ n,bK D n v as h=some q:=aGF (aHA D v as h)
theorem aN{K k:Nat}{rd:Option Nat}{c:XCode}{e:aH}{h:XH}{q:DX×aH×XH}:execW D K k rd c e h=some q↔∃ n,aT (cF D n) (bK D n) K k n rd c e h=some q:=aGF (cP D K k rd c e h)
theorem aIb(n:Nat):LeR (cF D n) (runW D):=fun _ _ _ _ hx=>bJ.2 ⟨n,hx⟩
theorem aKR(n:Nat):LeY (bK D n) (runYW D):=fun _ _ _ _ hx=>vM.2 ⟨n,hx⟩

theorem aAY{fv:AV}{as:List AV}{h:XH}{q:AV×XH}:fU (runW D) (runYW D) fv as h=some q↔∃ n,fU (cF D n) (bK D n) fv as h=some q:=by
 constructor
 ·intro hx
  unfold fU at hx;split at hx
  ·rename_i g first cap
   cases hg:lB g with
   | true =>
     rw[hg]at hx;obtain⟨n,h1⟩:=bJ.1 hx;exact⟨n,by simp only[fU,hg];exact h1⟩
   | false =>
     rw[hg]at hx;simp only[aFE,A3]at hx;obtain⟨a,h1,h2⟩:=hx;obtain⟨n,h1⟩:=bJ.1 h1;exact⟨n,by simp only[fU,hg,aFE,A3];grind⟩
  ·simp only[A3]at hx
   obtain⟨a,h1,h2⟩:=hx;obtain⟨n,h1⟩:=vM.1 h1;exact⟨n,by simp only[fU,A3];grind⟩
  ·simp at hx
 grind [yG,aIb,aKR]
theorem aMJ{fv:AV}{as:List AV}{h:XH}{q:AV}:nX (runW D) fv as h=some q↔∃ n,nX (cF D n) fv as h=some q:=by
 constructor
 ·intro hx
  unfold nX at hx;split at hx
  ·simp only at hx
   split at hx
   ·rename_i v hl h1
    obtain⟨n,h1⟩:=bJ.1 h1;exact⟨n,by simp only[nX,h1];exact hx⟩
   ·simp at hx
  ·simp at hx
 grind [aDU,aIb]
theorem aEH{d:Option Nat}{op:DOp}{e:aH}{h:XH}{q:aH×XH}:cS (runW D) (runYW D) d op e h=some q↔∃ n,cS (cF D n) (bK D n) d op e h=some q:=by
 constructor
 ·intro hx
  cases op with
  | callf b f xs l =>
    cases b with
    | true =>
      simp only[cS,A3]at hx ⊢
      grind [aMJ]
    | false =>
      simp only[cS,A3]at hx ⊢
      grind [aAY]
  | _=>exact⟨0,hx⟩
 grind [lF,aIb,aKR]
theorem aHf:∀{ops:List DOper}{e:aH}{h:XH}{q:aH×XH},fI (runW D) (runYW D) ops e h=some q↔∃ n,fI (cF D n) (bK D n) ops e h=some q:=by
 intro ops e h q;refine⟨?_,fun⟨n,hx⟩=>pJ (aIb n) (aKR n) _ _ _ _ hx⟩;induction ops generalizing e h with
 | nil=>exact fun hx=>⟨0,hx⟩
 | cons o ops ih =>
   intro hx;simp only[fI]at hx ⊢;split at hx
   ·simp only[B9]at hx ⊢
    obtain⟨s,h1,h2⟩:=hx;obtain⟨n,h1⟩:=aEH.1 h1;obtain⟨m,h2⟩:=ih h2;exact⟨max n m,s,lF (iZ D AM).1 (iZ D AM).2 h1,pJ (iZ D AM).1 (iZ D AM).2 _ _ _ _ h2⟩
   all_goals grind
theorem aEG:∀{ops:List DOper}{e:aH}{h:XH}{L:List (Nat×Nat)}{q:aH×XH},fM (runW D) (runYW D) ops e h L=some q↔∃ n,fM (cF D n) (bK D n) ops e h L=some q:=by
 intro ops e h L q;refine⟨?_,fun⟨n,hx⟩=>nF (aIb n) (aKR n) _ _ _ _ _ hx⟩;induction ops generalizing e h L with
 | nil=>exact fun hx=>⟨0,hx⟩
 | cons o ops ih =>
   intro hx;simp only[fM]at hx ⊢;split at hx
   ·split at hx
    ·rename_i hl
     simp only[hl,AAe];simp only[B9]at hx ⊢;obtain⟨s,h1,h2⟩:=hx;obtain⟨n,h1⟩:=aEH.1 h1;split at h2
     ·rename_i hp
      obtain⟨m,h2⟩:=ih h2;exact⟨max n m,s,lF (iZ D AM).1 (iZ D AM).2 h1,by rw[if_pos hp];exact nF (iZ D AM).1 (iZ D AM).2 _ _ _ _ _ h2⟩
     ·simp at h2
    ·simp at hx
   all_goals grind

section
variable{K k:Nat}{rd:Option Nat}{e:aH}{h:XH}
theorem Rc:execW D K k rd .skip e h=some (.normal,e,h):=aN.2 ⟨0,rfl⟩
theorem Re{id:Nat}:execW D K k rd (.exit id) e h=some (.exit id,e,h):=aN.2 ⟨0,rfl⟩
theorem Rb:execW D K k rd .ret e h=some (.ret,e,h):=aN.2 ⟨0,rfl⟩
theorem aMw{l:Nat}:execW D K k rd (.lab l) e h=some (.normal,e,h):=aN.2 ⟨0,rfl⟩
theorem aJG{l:Nat}:execW D K k rd (.goto l) e h=some (.goto l,e,h):=aN.2 ⟨0,rfl⟩
theorem aDH{fz:List (Nat×Bool)}{ops:List DOper}:execW D K k rd (.reg fz false ops) e h=(fI (runW D) (runYW D) ops (fzX fz e h).1 (fzX fz e h).2).map fun r=>(.normal,r.1,r.2):=iD fun q=>by
 rw[aN];simp only[aT,B8,AAd,A3,aHf]
 grind
theorem aDI{fz:List (Nat×Bool)}{ops:List DOper}:execW D K k rd (.reg fz true ops) e h=(fM (runW D) (runYW D) ops (fzX fz e h).1 (fzX fz e h).2 []).map fun r=>(.normal,r.1,r.2):=iD fun q=>by
 rw[aN];simp only[aT,AAe,A3,aEG]
 grind

def mQ(r:Option (DX×aH×XH))(f:aH→XH→Option (DX×aH×XH)):Option (DX×aH×XH):=match r with
 | some (.normal,e,h)=>f e h
 | r=>r
theorem Rg(f:aH→XH→Option (DX×aH×XH))(e:aH)(h:XH):mQ (some (.normal,e,h)) f=f e h:=rfl
theorem Rh(f:aH→XH→Option (DX×aH×XH))(id:Nat)(e:aH)(h:XH):mQ (some (.exit id,e,h)) f=some (.exit id,e,h):=rfl
theorem Ri(f:aH→XH→Option (DX×aH×XH))(e:aH)(h:XH):mQ (some (.ret,e,h)) f=some (.ret,e,h):=rfl
theorem pM{r:Option (DX×aH×XH)}{f:aH→XH→Option (DX×aH×XH)}{q:DX×aH×XH}:mQ r f=some q↔(∃ e h,r=some (.normal,e,h)∧f e h=some q)∨(q.1 ≠ .normal∧r=some q):=by
 unfold mQ
 grind
theorem aMu{run:eA}{runY:fA}{n:Nat}{a b:XCode}:aT run runY K k n rd (.seq a b) e h=mQ (aT run runY K k n rd a e h) (aT run runY K k n rd b):=rfl
theorem Ra{a b:XCode}:execW D K k rd (.seq a b) e h=mQ (execW D K k rd a e h) (execW D K k rd b):=iD fun q=>by
 rw[aN];simp only[aMu,pM,aN];constructor;·grind
 ·rintro (⟨e1,h1,⟨n,h2⟩,⟨m,h3⟩⟩|⟨h1,n,h2⟩)
  ·exact⟨max n m,.inl ⟨e1,h1,cP D K k rd a e h n _ _ AM h2,cP D K k rd b e1 h1 m _ _ AM h3⟩⟩
  grind
theorem aJH{c:AO}{a b:XCode}:execW D K k rd (.cond c a b) e h=match aL e c with
 | .bool true=>execW D K k rd a e h
 | .bool false=>execW D K k rd b e h
 | _=>none:=iD fun q=>by
 rw[aN];simp only[aT];cases aL e c with
 | bool t=>cases t<;>simp only[aN]
 | _=>simp
def vE(id:Nat)(r:Option (DX×aH×XH)):Option (DX×aH×XH):=match r with
 | some (.exit j,e',h')=>if j=id then some (.normal,e',h') else some (.exit j,e',h')
 | r=>r
theorem Rj(id:Nat)(e:aH)(h:XH):vE id (some (.normal,e,h))=some (.normal,e,h):=rfl
theorem Rk(id:Nat)(e:aH)(h:XH):vE id (some (.ret,e,h))=some (.ret,e,h):=rfl
theorem Rl(id j:Nat)(e:aH)(h:XH):vE id (some (.exit j,e,h))=if j=id then some (.normal,e,h) else some (.exit j,e,h):=rfl
theorem Rf{id:Nat}{a:XCode}:execW D K k rd (.block id a) e h=vE id (execW D K k rd a e h):=iD fun q=>by
 have he:∀ n,aT (cF D n) (bK D n) K k n rd (.block id a) e h=vE id (aT (cF D n) (bK D n) K k n rd a e h):=fun _=>rfl;rw[aN];simp only[he];constructor
 ·rintro ⟨n,hn⟩
  cases hx:aT (cF D n) (bK D n) K k n rd a e h with
  | none=>rw[hx]at hn;simp[vE]at hn
  | some s=>grind [aN]
 ·intro hq
  cases hx:execW D K k rd a e h with
  | none=>rw[hx]at hq;simp[vE]at hq
  | some s =>
    grind [aN]
theorem rH{L:List Nat}{a:XCode}:execW D K k rd (.loop L a) e h=mQ (execW D K k rd a (jO k L e h) (jK k L e h)) (execW D K k rd (.loop L a)):=iD fun q=>by
 have he:∀ n m e h,fF (aT (cF D n) (bK D n) K k n rd a) k L (m+1) e h=mQ (aT (cF D n) (bK D n) K k n rd a (jO k L e h) (jK k L e h)) (fF (aT (cF D n) (bK D n) K k n rd a) k L m):=fun n m e h=>rfl;rw[aN,pM];constructor
 ·rintro ⟨n,hn⟩
  have hn:fF (aT (cF D n) (bK D n) K k n rd a) k L n e h=some q:=hn;cases n with
  | zero=>simp[fF]at hn
  | succ n =>
    rw[he,pM]at hn;rcases hn with ⟨e1,h1,h2,h3⟩|⟨h1,h2⟩;·exact .inl ⟨e1,h1,aN.2 ⟨n+1,h2⟩,aN.2 ⟨n+1,hZ (fun _ _ _ h=>h) n (n+1) AM _ _ _ h3⟩⟩
    grind [aN]
 ·rintro (⟨e1,h1,h2,h3⟩|⟨h1,h2⟩)
  ·obtain⟨n,h2⟩:=aN.1 h2
   obtain⟨m,h3⟩:=aN.1 h3;have h3:fF (aT (cF D m) (bK D m) K k m rd a) k L m e1 h1=some q:=h3;refine⟨max n m+1,?_⟩;show fF _ k L (max n m+1) e h=some q;rw[he,pM];refine .inl ⟨e1,h1,cP D K k rd a _ _ n _ _ AM h2,?_⟩;exact hZ (fun e h q hq=>cP D K k rd a e h m _ _ AM hq) m (max n m) AM _ _ _ h3
  ·obtain⟨n,h2⟩:=aN.1 h2
   refine⟨n+1,?_⟩;show fF _ k L (n+1) e h=some q;rw[he,pM];exact .inr ⟨h1,cP D K k rd a _ _ n _ _ AM h2⟩

theorem iB{l:Nat}{r:Option (DX×aH×XH)}{f:aH→XH→Option (DX×aH×XH)}{q:DX×aH×XH}:gM l r f=some q↔(∃ e h,r=some (.goto l,e,h)∧f e h=some q)∨((∀ j,q.1 ≠ .goto j)∧r=some q):=by
 unfold gM
 grind
theorem aLI{l:Nat}{r:Option (DX×aH×XH)}{f:aH→XH→Option (DX×aH×XH)}:vK l (mQ (vK l r) f)=gM l r fun e h=>vK l (f e h):=by
 cases r with
 | none=>rfl
 | some q =>
   obtain⟨x,e,h⟩:=q;cases x with
   | goto j=>by_cases hj:j=l<;>simp[vK,mQ,gM,hj]
   | normal=>simp[vK,mQ,gM]
   | exit id=>rfl
   | ret=>rfl
theorem aIs{L:List Nat}{l:Nat}{b:XCode}:execW D K k rd (.again L l b) e h=gM l (execW D K k rd b (jO k L e h) (jK k L e h)) (execW D K k rd (.again L l b)):=iD fun q=>by
 have he:∀ n m e h,vK l (fF (fun e h=>vK l (aT (cF D n) (bK D n) K k n rd b e h)) k L (m+1) e h)=gM l (aT (cF D n) (bK D n) K k n rd b (jO k L e h) (jK k L e h)) fun e h=>vK l (fF (fun e h=>vK l (aT (cF D n) (bK D n) K k n rd b e h)) k L m e h):=fun n m e h=>aLI;rw[aN,iB];constructor
 ·rintro ⟨n,hn⟩
  have hn:vK l (fF (fun e h=>vK l (aT (cF D n) (bK D n) K k n rd b e h)) k L n e h)=some q:=hn;cases n with
  | zero=>simp[fF,vK]at hn
  | succ n =>
    rw[he,iB]at hn;rcases hn with ⟨e1,h1,h2,h3⟩|⟨h1,h2⟩;·exact .inl ⟨e1,h1,aN.2 ⟨n+1,h2⟩,aN.2 ⟨n+1,nI (fun q=>hZ (fun _ _ _ h=>h) n (n+1) AM _ _ q) h3⟩⟩
    ·exact .inr ⟨h1,aN.2 ⟨n+1,h2⟩⟩
 ·rintro (⟨e1,h1,h2,h3⟩|⟨h1,h2⟩)
  ·obtain⟨n,h2⟩:=aN.1 h2
   obtain⟨m,h3⟩:=aN.1 h3;have h3:vK l (fF (fun e h=>vK l (aT (cF D m) (bK D m) K k m rd b e h)) k L m e1 h1)=some q:=h3;refine⟨max n m+1,?_⟩;show vK l (fF _ k L (max n m+1) e h)=some q;rw[he,iB];refine .inl ⟨e1,h1,cP D K k rd b _ _ n _ _ AM h2,?_⟩;exact nI (fun q=>hZ (fun e h q hq=>nI (fun q hq=>cP D K k rd b e h m _ q AM hq) hq) m (max n m) AM _ _ q) h3
  ·obtain⟨n,h2⟩:=aN.1 h2
   refine⟨n+1,?_⟩;show vK l (fF _ k L (n+1) e h)=some q;rw[he,iB];exact .inr ⟨h1,cP D K k rd b _ _ n _ _ AM h2⟩
theorem aIr{L:List Nat}{l:Nat}{a b:XCode}:execW D K k rd (.scope L l a b) e h=gM l (execW D K k rd a e h) (execW D K k rd (.again L l b)):=iD fun q=>by
 rw[aN,iB];constructor
 ·rintro ⟨n,hn⟩
  simp only[aT,iB]at hn;rcases hn with ⟨e1,h1,h2,h3⟩|⟨h1,h2⟩;·exact .inl ⟨e1,h1,aN.2 ⟨n,h2⟩,aN.2 ⟨n,h3⟩⟩
  ·exact .inr ⟨h1,aN.2 ⟨n,h2⟩⟩
 ·rintro (⟨e1,h1,h2,h3⟩|⟨h1,h2⟩)
  ·obtain⟨n,h2⟩:=aN.1 h2
   obtain⟨m,h3⟩:=aN.1 h3;refine⟨max n m,?_⟩;simp only[aT,iB];exact .inl ⟨e1,h1,cP D K k rd a _ _ n _ _ AM h2,cP D K k rd (.again L l b) _ _ m _ _ AM h3⟩
  ·obtain⟨n,h2⟩:=aN.1 h2
   refine⟨n,?_⟩;simp only[aT,iB];exact .inr ⟨h1,h2⟩

def aHF(n:Nat)(e:aH)(r:Option (AV×XH)):Option (DX×aH×XH):=match r with
 | some (_,h')=>match iA h' n with
   | some .ready=>some (.normal,e,h'.set n none)
   | some (.done x)=>some (x,e,h'.set n none)
   | _=>none
 | none=>none
theorem aMv{site:Nat}{L:List Nat}{f:AO}{ps:List Nat}{a b:XCode}:execW D K k rd (.rng site L f ps a b) e h=if aAP rd h&&aAO (aL e f) then
 aHF h.length e (fU (runW D) (runYW D) (aL e f) [.fn (.yield h.length) [] []] (h++[some (.loop K site (L.map e) .ready)])) else none:=iD fun q=>by
 rw[aN]
 have he:∀ n,aT (cF D n) (bK D n) K k n rd (.rng site L f ps a b) e h=if aAP rd h&&aAO (aL e f) then
  aHF h.length e (fU (cF D n) (bK D n) (aL e f) [.fn (.yield h.length) [] []] (h++[some (.loop K site (L.map e) .ready)])) else none:=fun _=>rfl
 simp only[he];split
 ·constructor
  ·rintro ⟨n,hn⟩
   cases hx:fU (cF D n) (bK D n) (aL e f) [.fn (.yield h.length) [] []] (h++[some (.loop K site (L.map e) .ready)])with
   | none=>rw[hx]at hn;simp[aHF]at hn
   | some s=>grind [aAY]
  ·intro hq
   cases hx:fU (runW D) (runYW D) (aL e f) [.fn (.yield h.length) [] []] (h++[some (.loop K site (L.map e) .ready)])with
   | none=>rw[hx]at hq;simp[aHF]at hq
   | some s =>
     grind [aAY]
 ·simp
end

theorem aOD{c:Option Nat}{K:Nat}{d:XFn}{k:Nat}{e:aH}{h:XH}{q:AV×XH}:eX c d.res d.ownR k (execW D K k none d.body e h)=some q↔∃ n,eX c d.res d.ownR k (aT (cF D n) (bK D n) K k n none d.body e h)=some q:=by
 constructor
 ·intro hq
  cases hx:execW D K k none d.body e h with
  | none=>rw[hx]at hq;simp[eX]at hq
  | some s =>
    grind [aN]
 ·rintro ⟨n,hn⟩
  cases hx:aT (cF D n) (bK D n) K k n none d.body e h with
  | none=>rw[hx]at hn;simp[eX]at hn
  | some s=>grind [aN]
theorem aOr{K:Nat}{d:XFn}(hD:D K=some d){as:List AV}(hl:as.length≤d.N)(h:XH)(hdf:d.dfr=none)(hg:lB K=true)(hpr:d.prm=none:=by rfl):runW D K as h=aEs d.res (execW D K h.length none d.body (aV (if d.ownA then as else lT as)) h):=iD fun q=>by
 rw[bJ];have he:∀ n,cF D (n+1) K as h=aEs d.res (aT (cF D n) (bK D n) K h.length n none d.body (aV (if d.ownA then as else lT as)) h):=fun n=>by
  rw[cF];unfold aCf;rw[hD];simp only[hpr,hl,AAe,hdf,hg,aJi]
 constructor
 ·rintro ⟨n,hn⟩
  cases n with
  | zero=>simp[cF]at hn
  | succ n =>
    rw[he]at hn;cases hx:aT (cF D n) (bK D n) K h.length n none d.body (aV (if d.ownA then as else lT as)) h with
    | none=>rw[hx]at hn;simp[aEs]at hn
    | some s=>grind [aN]
 ·intro hq
  cases hx:execW D K h.length none d.body (aV (if d.ownA then as else lT as)) h with
  | none=>rw[hx]at hq;simp[aEs]at hq
  | some s =>
    grind [aN]
theorem dO{K:Nat}{d:XFn}(hD:D K=some d){as:List AV}(hl:as.length≤d.N)(h:XH)(hdf:d.dfr=none)(hpr:d.prm=none:=by rfl)(hg:lB K=false:=by rfl):runW D K as h=eX none d.res d.ownR h.length (execW D K h.length none d.body (aV (if d.ownA then as else lT as)) h):=iD fun q=>by
 rw[bJ,aOD];have he:∀ n,cF D (n+1) K as h=eX none d.res d.ownR h.length (aT (cF D n) (bK D n) K h.length n none d.body (aV (if d.ownA then as else lT as)) h):=fun n=>by
  rw[cF];unfold aCf;rw[hD];simp only[hpr,hl,AAe,hdf,hg,aJi]
 constructor
 ·rintro ⟨n,hn⟩
  cases n with
  | zero=>simp[cF]at hn
  | succ n=>grind
 grind
theorem eJ{K:Nat}{d:XFn}(hD:D K=some d){f:List AV→XH→Option (AV×XH)}(hp:d.prm=some f)(as:List AV)(h:XH):runW D K as h=f as h:=iD fun q=>by
 rw[bJ];have he:∀ n,cF D (n+1) K as h=f as h:=fun n=>by
  rw[cF];unfold aCf
  grind
 constructor
 ·rintro ⟨n,hn⟩
  cases n with
  | zero=>simp[cF]at hn
  | succ n=>grind
 ·intro hq
  exact⟨1,by grind⟩
def aLx(l k:Nat)(r:Option (DX×aH×XH)):Option (AV×XH):=match r with
 | some (x,_,h2)=>match iA h2 l with
   | some .busy=>some (match x with
     | .normal=>nU true k (.bool true) (loopTo h2 l .ready)
     | x=>nU true k (.bool false) (loopTo h2 l (.done x)))
   | _=>none
 | none=>none
def aIL(l:Nat)(r:Option (DX×aH×XH))(f:aH→XH→Option (AV×XH)):Option (AV×XH):=match r with
 | some (.normal,e1,h1)=>match iA h1 l with
   | some .ready=>f e1 (loopTo h1 l .busy)
   | _=>none
 | _=>none
theorem kK{K:Nat}{d:XFn}(hD:D K=some d){l site:Nat}{vs:List AV}{h:XH}(hl:hat h l=some (.loop K site vs .ready)){L ps:List Nat}{a b:XCode}(hs:cT d.body site=some (L,ps,a,b)){as:List AV}(hn:as.length=ps.length) :
 runYW D (.fn (.yield l) [] []) as h=aIL l (execW D K h.length (some l) a (pR (aZ L vs) ps as) h) fun e1 h1=>aLx l h.length (execW D K h.length (some l) b e1 h1):=iD fun q=>by
 rw[vM];have he:∀ n,bK D (n+1) (.fn (.yield l) [] []) as h=aIL l (aT (cF D n) (bK D n) K h.length n (some l) a (pR (aZ L vs) ps as) h) fun e1 h1=>aLx l h.length (aT (cF D n) (bK D n) K h.length n (some l) b e1 h1):=fun n=>by
  rw[bK];unfold aEO;simp only[hl,hD,E5,hs,hn,AAe];rfl
 constructor
 ·rintro ⟨n,hn⟩
  cases n with
  | zero=>simp[bK]at hn
  | succ n =>
    rw[he]at hn;unfold aIL at hn ⊢;split at hn
    ·rename_i e1 h1 hx
     rw[aN.2 ⟨n,hx⟩];simp only;split at hn
     ·rename_i hst
      simp only at hn;cases hx2:aT (cF D n) (bK D n) K h.length n (some l) b e1 (loopTo h1 l .busy)with
      | none=>rw[hx2]at hn;simp[aLx]at hn
      | some s=>grind [aN]
     ·simp at hn
    ·simp at hn
 ·intro hq
  unfold aIL at hq;split at hq
  ·rename_i e1 h1 hx
   obtain⟨n,hn⟩:=aN.1 hx;split at hq
   ·rename_i hst
    simp only at hq;cases hx2:execW D K h.length (some l) b e1 (loopTo h1 l .busy)with
    | none=>rw[hx2]at hq;simp[aLx]at hq
    | some s =>
      obtain⟨m,hm⟩:=aN.1 hx2;refine⟨max n m+1,?_⟩;rw[he];have e1':=cP D K h.length (some l) a (pR (aZ L vs) ps as) h n (max n m) _ AM hn;have e2':=cP D K h.length (some l) b e1 (loopTo h1 l .busy) m (max n m) _ AM hm;simp only at e1' e2';unfold aIL
      grind
   ·simp at hq
  ·simp at hq
def aK(P:Program)(p:Nat×XFn):Prop:=aTp P p.1 p.2.fn∧(okD p.2=true∧(fW p.2 p.2.body∧p.2.prm=none))
theorem aM{P:Program}{p:Nat×XFn}{l:List (Nat×XFn)}(h:aK P p)(hl:∀ q∈l,aK P q):∀ q∈p::l,aK P q:=by grind
theorem bIA{P:Program}:∀ q∈([]:List (Nat×XFn)),aK P q:=by grind
def aIn:List (Nat×XFn)→Nat→Option XFn
 | [],_=>none
 | (k,d)::r,K=>match Nat.beq K k with
   | true=>some d
   | false=>aIn r K
theorem qD{K:Nat}{d:XFn}:∀{l:List (Nat×XFn)},aIn l K=some d→(K,d)∈l
 | [],h=>by simp[aIn]at h
 | (k,e)::r,h=>by
   simp only[aIn]at h;split at h
   ·rename_i hb
    have:=Nat.eq_of_beq_eq_true hb;simp only[oSI]at h;subst h this;exact J3 ..
   ·exact E7 _ (qD h)
structure RM where
 fz:List (Nat×List (Nat×Bool))
 lv:List (List Nat)
 sv:List (List Nat)
def bCQ(r:Nat):List (Nat×List (Nat×Bool))→List (Nat×Bool)
 | []=>[]
 | (k,l)::t=>if k=r then l else bCQ r t
def aGv{α:Type}(d:α):List α→Nat→α
 | [],_=>d
 | a::_,0=>a
 | _::t,n+1=>aGv d t n
structure MS where
 r:Nat
 l:Nat
 s:Nat
 acc:List XCode
def aGQ:XCode→Nat→Option XCode
 | .seq a b,l=>match aGQ a l with
   | some r=>some (.seq r b)
   | none=>aGQ b l
 | .lab j,l=>if j=l then some .skip else none
 | _,_=>none
def mkC(m:RM)(ls:List XCode):DCode→MS→XCode×MS
 | .skip,s=>(.skip,s)
 | .reg d ops,s=>(.reg (bCQ s.r m.fz) d ops,⟨s.r+1,s.l,s.s,s.acc⟩)
 | .seq a b,s=>match mkC m ls a s with|(x,s)=>match mkC m ls b s with|(y,s)=>(.seq x y,s)
 | .cond c a b,s=>match mkC m ls a s with|(x,s)=>match mkC m ls b s with|(y,s)=>(.cond c x y,s)
 | .block id a,s=>match mkC m ls a s with|(x,s)=>(.block id x,s)
 | .loop a,s=>match mkC m ls a s with|(x,s)=>(aGv (.loop (aGv [] m.lv s.l) x) ls s.l,⟨s.r,s.l+1,s.s,s.acc++[.loop (aGv [] m.lv s.l) x]⟩)
 | .scope l a _,s=>match mkC m ls a s with|(x,s)=>(aGv (.scope (aGv [] m.lv s.l) l x ((aGQ x l).getD .skip)) ls s.l,⟨s.r,s.l+1,s.s,s.acc++[.scope (aGv [] m.lv s.l) l x ((aGQ x l).getD .skip)]⟩)
 | .lab l,s=>(.lab l,s)
 | .goto l,s=>(.goto l,s)
 | .rng f ps a b,s=>match mkC m ls a ⟨s.r,s.l,s.s+1,s.acc⟩with|(x,s1)=>match mkC m ls b s1 with|(y,s2)=>(.rng s.s (aGv [] m.sv s.s) f ps x y,s2)
 | .exit id,s=>(.exit id,s)
 | .ret,s=>(.ret,s)
noncomputable def mkG(P:Program)(fn:Func)(m:RM)(oa or:Bool)(ls:List XCode):XFn×List XCode:=match fn.body with
 | none=>(⟨0,[],oa,or,.skip,none,none⟩,[])
 | some c=>match aIz P fn.ntmps c with
   | none=>(⟨0,[],oa,or,.skip,none,none⟩,[])
   | some (dfr,b)=>match mkC m ls b ⟨0,0,0,[]⟩with
     | (x,s)=>(⟨fn.ntmps,(fn.results.toList.mapM (aBD P)).getD [],oa,or,x,dfr,none⟩,s.acc)
noncomputable def mkF(P:Program)(fn:Func)(m:RM)(oa or:Bool)(ls:List XCode):XFn:=(mkG P fn m oa or ls).1
noncomputable def mkL(P:Program)(fn:Func)(m:RM)(j:Nat)(ls:List XCode):XCode:=aGv .skip (mkG P fn m false false ls).2 j
end
section
open Go.RowKit
variable{P:Program}{D:Nat→Option XFn}

theorem SH.none:SH D (fun _=>Option.none) (fun _=>Option.none) [] noH :=
 ⟨fun b c hb=>by simp at hb,fun b c c' x y hx=>by grind,fun b x hx=>by simp[hat]at hx,GhR.no fun b st p hx=>by simp[hat]at hx⟩

theorem bEI(ok:XOk P D){n K:Nat}{as:List AV}{v:AV}{h':XH}(hrun:cF D n K as []=some (v,h'))(has:∀ a∈as,Gd a)(hv:Gd v){w:World}{vs:Array Value}(gi:GI (fun b=>b<w.heap.size) w)(hA:Args (fun b=>b<w.heap.size) w as vs) :
 Calls P K vs w fun e w'=>∃ F' q,e = .returned q∧Rv F' w' v q∧Below w.heap.size w w':=by
 have hfn:=(mY ok n ⟨fun b=>b<w.heap.size,w,gi⟩ (fun _=>Option.none) (fun l i h=>by simp at h)).1 (fun _=>Option.none) [] noH K as as v h' SH.none (RnL.self fun a ha=>(has a ha).rn) hrun;have hc:=hfn.2 (fun b=>b<w.heap.size) w vs (Up.refl _ _) ⟨fun b hb=>hb,fun b x hb=>by simp[noH]at hb,fun b x hb=>by simp[noH]at hb⟩ hA;refine(callsIn_wide.1 hc).mono ?_;rintro e w' ⟨q,v',F',H',rfl,h1,h2,h3,r',_,_,h4⟩;obtain⟨rfl,_⟩:=h4.same hv.gr;exact⟨F',q,rfl,h3,h1.io.os,h1.io.tape,h1.io.output,h1.le,fun k hk=>h1.same k hk (by rfl)⟩

theorem aRN{F:Nat→Prop}{w:World}{b:Bool}{q:Value}(h:Rv F w (.bool b) q):q = .bool b:=by cases h;rfl

section
variable{H:Type}{enc:TypeId×Value→H}

theorem aDY(hl:laidOutB P=true){W W':World}(hb:Below W.heap.size W W'):∀(ts:List TypeId)(vs:List Value)(ds:List (DataW H))(ps:List MemPlace),(ts.all fun t=>P.readableRec t&&decide (t<P.types.size))=true →
 (∀ x∈ps,x.block<W.heap.size)→DataW.TrodAll enc P W 0 (fun _=>true) true ts vs ds ps→DataW.TrodAll enc P W' 0 (fun b=>decide (b<W.heap.size)) true ts vs ds ps
 | [],[],[],ps,_,_,h=>h
 | t::ts,v::vs,d::ds,ps,ht,hlt,h=>by
   obtain⟨p,q,h1,h2,rfl⟩:=h;simp only[N5,A4,AAf]at ht;exact⟨p,q,Below.trod hl ht.1.1 ht.1.2 h1 hb (fun x hx=>hlt x (by simp[hx])),aDY hl hb ts vs ds q ht.2 (fun x hx=>hlt x (by simp[hx])) h2,rfl⟩
 | [],[],_::_,_,_,_,h=>h.elim
 | [],_::_,_,_,_,_,h=>h.elim
 | _::_,[],_,_,_,_,h=>h.elim
 | _::_,_::_,[],_,_,_,h=>h.elim

theorem aPw(hl:laidOutB P=true){f:Func}{s:ChangeSpec}{W W':World}{args:Array Value}{ds gs:List (DataW H)}{before:List MemPlace}{t:TypeId}
 (hW:DataW.Whole enc P f.params.toList s.vars false W args.toList ds gs before) (hv:s.vars=[]) (hs:(s.fn H (ds++gs)).results=[.lit (.bool true)]) (hs2:(s.fn H (ds++gs)).args=ds) (hs3:(s.fn H (ds++gs)).vars=[])
 (ht:f.resultTypes = #[t]) (hu:P.underlying t=some .bool) (hp:(f.params.toList.all fun t=>P.readableRec t&&decide (t<P.types.size))=true) (hb:Below W.heap.size W W') :
 s.post enc P f false true false false W args (.bool true) W':=by
 have hlt:=hW.lt;have hW0:=hW;obtain⟨p,q,h1,h2,rfl,h4,h5⟩:=hW;rw[hv]at h2;cases gs with
 | cons g gs=>exact h2.elim
 | nil =>
   have hq:q=[]:=h2;subst hq;refine⟨ds,[],p++[],[],p,[],hW0,?_,?_,?_,?_,fun h=>by cases h⟩
   ·rw[hs,ht]
    exact⟨[],[],RowKit.shut_bool hu true,rfl,rfl⟩
   ·grind [aDY]
   ·rw[hs3,hv]
    exact rfl
   ·exact World.keptBut_mono (fun x hx=>⟨by grind,.inr (.inl hx)⟩) (hb.frame (· ∈ p))
end
variable{P:Program}{H:Type}{enc:TypeId×Value→H}{w:World}{spare:Nat→Bool}{held:Bool}

inductive CT where
 | int (k:IntKind)
 | bool
 | str
 | sl (r:List CT)

inductive Sh:CT→AV→Prop where
 | int (k:IntKind) (n:Int) (h:(Lit.int k n).wf=true):Sh (.int k) (.int k n)
 | bool (b:Bool):Sh .bool (.bool b)
 | str (s:ByteArray) (h:s.size≤maxLen):Sh .str (.str s)
 | sl (r:List CT) (rows:List (List AV)) (hl:∀ row∈rows,row.length=r.length) (hn:rows.length≤maxLen) (h:∀ row∈rows,∀(i:Nat)(c:CT)(a:AV),r[i]?=some c→row[i]?=some a→Sh c a):Sh (.sl r) (.fs rows)

inductive Flat(P:Program):TypeId→List CT→Prop where
 | int {t:TypeId} {k:IntKind} (h:P.underlying t=some (.int k)):Flat P t [.int k]
 | bool {t:TypeId} (h:P.underlying t=some .bool):Flat P t [.bool]
 | str {t:TypeId} (h:P.underlying t=some .string):Flat P t [.str]
 | sl {t e:TypeId} {r:List CT} (h:P.underlying t=some (.slice e)) (he:Flat P e r) (hc:P.cellsOf e=r.length) (h0:0<r.length):Flat P t [.sl r]
 | struct {t:TypeId} {fs:Array Field} (rs:List (List CT)) (h:P.underlying t=some (.struct fs)) (hl:rs.length=fs.size) (hf:∀(i:Nat)(f:Field)(r:List CT),fs[i]?=some f→rs[i]?=some r→Flat P f.type r)
  (hc:∀(i:Nat)(f:Field)(r:List CT),fs[i]?=some f→rs[i]?=some r→P.cellsOf f.type=r.length∧f.offset=((rs.take i).flatten).length) (ht:P.cellsOf t=rs.flatten.length):Flat P t rs.flatten
 | array {t e:TypeId} {n:Nat} {r:List CT} (h:P.underlying t=some (.array n e)) (he:Flat P e r) (hc:P.cellsOf e=r.length) (ht:P.cellsOf t=n*r.length):Flat P t (List.replicate n r).flatten

inductive DecL(F:Nat→Prop)(w:World):List CT→List AV→List Value→Prop where
 | nil:DecL F w [] [] []
 | cons {c:CT} {a:AV} {v:Value} {cs:List CT} {as:List AV} {vs:List Value} (h1:Sh c a) (h2:Rv F w a v) (h3:v.oneCell'=true) (h:DecL F w cs as vs):DecL F w (c::cs) (a::as) (v::vs)
theorem DecL.append{F:Nat→Prop}{cs cs':List CT}{as as':List AV}{vs vs':List Value}(h:DecL F w cs as vs)(h':DecL F w cs' as' vs'):DecL F w (cs++cs') (as++as') (vs++vs'):=by
 induction h with
 | nil=>exact h'
 | cons h1 h2 h3 _ ih=>exact .cons h1 h2 h3 ih
theorem DecL.len{F:Nat→Prop}{cs:List CT}{as:List AV}{vs:List Value}(h:DecL F w cs as vs):as.length=cs.length∧vs.length=cs.length:=by
 induction h with
 | nil=>omega
 | cons _ _ _ _ ih=>simp[ih]
theorem DecL.sh{F:Nat→Prop}{cs:List CT}{as:List AV}{vs:List Value}(h:DecL F w cs as vs):∀(i:Nat)(c:CT)(a:AV),cs[i]?=some c→as[i]?=some a→Sh c a:=by
 induction h with
 | nil=>grind
 | cons h1 _ _ _ ih =>
   grind
theorem DecL.rv{F:Nat→Prop}{cs:List CT}{as:List AV}{vs:List Value}(h:DecL F w cs as vs):∀(i:Nat)(a:AV)(v:Value),as[i]?=some a→vs[i]?=some v→Rv F w a v∧v.oneCell'=true:=by
 induction h with
 | nil=>grind
 | cons h1 h4 h5 _ ih =>
   grind

theorem trod_array{fuel:Nat}{t e:TypeId}{n:Nat}{cs:List Value}{x:DataW H×List MemPlace}(ht:P.underlying t=some (.array n e))(h:DataW.trod enc P w 0 spare held fuel t cs=some x) :
 cs.length=P.cellsOf t∧∃ m,∀ i,i<n→∃ y,DataW.trod enc P w 0 spare held m e ((cs.drop (i*P.cellsOf e)).take (P.cellsOf e))=some y:=by
 cases fuel with
 | zero=>simp[DataW.trod]at h
 | succ m =>
   unfold DataW.trod at h;rw[ht]at h;split at h<;>simp_all
   obtain⟨hl,xs,hp,hd⟩:=h;refine⟨m,fun i hi=>?_⟩;have hlen:=mapM_some_length hp;have:=mapM_some_get hp i i (by simp[hi])
   grind

theorem aJV{b o:Nat}{sp:Option Nat}{v:Value}(h:w.cell? ⟨b,o,sp⟩=some v):sp=none∧b<w.heap.size:=by
 unfold World.cell? at h;split at h
 ·rename_i c _ _ hb
  refine⟨?_,?_⟩;·simp_all
  grind
 ·simp at h
theorem aTm{b o i j:Nat}:((⟨b,o,none⟩:Addr).add i).add j=⟨b,o+i+j,none⟩:=by
 unfold Addr.add
 grind

theorem aCK{t:TypeId}{tys:List CT}(hf:Flat P t tys):∀{fuel:Nat}{cs:List Value}{x:DataW H×List MemPlace},DataW.trod enc P w 0 spare held fuel t cs=some x→∃ as,DecL (fun b=>b<w.heap.size) w tys as cs:=by
 induction hf with
 | int h =>
   intro fuel cs x hx;obtain⟨n,rfl,_,hw⟩:=DataW.trod_int h hx;exact⟨_,.cons (.int _ n hw) (.int _ n) rfl .nil⟩
 | bool h =>
   intro fuel cs x hx;obtain⟨b,rfl,_⟩:=DataW.trod_bool h hx;exact⟨_,.cons (.bool b) (.bool b) rfl .nil⟩
 | str h =>
   intro fuel cs x hx;obtain⟨s,rfl,_,hs⟩:=DataW.trod_string h hx;exact⟨_,.cons (.str s hs) (.str s) rfl .nil⟩
 | @sl t e r h he hc h0 ih =>
   intro fuel cs x hx;rcases DataW.trod_slice h hx with ⟨rfl,_⟩|⟨a,len,cap,elems,rest,n,_,rfl,_,_,hlc,hcm,hel,hg,_,_⟩;·exact⟨_,.cons (.sl r [] (by simp) (by simp) (by simp)) (.fs0 none 0) rfl .nil⟩
   ·rcases Nat.eq_zero_or_pos len with hz|hz
    ·subst hz
     exact⟨_,.cons (.sl r [] (by simp) (by simp) (by simp)) (.fs0 (some a) cap) rfl .nil⟩
    ·have hrow:∀ i,∃ p:List AV×List Value,i<len→DecL (fun b=>b<w.heap.size) w r p.1 p.2∧w.cells? 0 (a.add (i*r.length)) r.length=some p.2:=by
      intro i;by_cases hi:i<len
      ·have:=hg i hi
       rw[A8 AM,hc,B9]at this;obtain⟨vs,h1,h2⟩:=this;obtain⟨as,h3⟩:=ih h2;exact⟨(as,vs),fun _=>⟨h3,h1⟩⟩
      ·exact⟨([],[]),fun hh=>absurd hh hi⟩
     obtain⟨f,hfr⟩:=Classical.axiomOfChoice hrow;obtain⟨blk,off,sp⟩:=a;have hsp:sp=none∧blk<w.heap.size:=by
      obtain⟨h1,h2⟩:=hfr 0 hz;obtain⟨_,h4,h5⟩:=World.cells?_some h2;have h6:=h5 0 h0;rw[A8 AM]at h6;simp only[Nat.zero_mul]at h6;unfold Addr.add at h6;simp only[AAe]at h6;exact aJV h6
     obtain⟨rfl,hblk⟩:=hsp;have hcell:∀ i,i<len→∀ j,j<r.length→w.cell? ⟨blk,off+i*r.length+j,none⟩=(f i).2[j]?:=by
      intro i hi j hj;obtain⟨_,h2⟩:=hfr i hi;obtain⟨_,_,h5⟩:=World.cells?_some h2
      grind [aTm]
     have hrl:((List.range len).map fun i=>(f i).1).length=len:=by simp
     have hget:∀(i:Nat)(row:List AV),((List.range len).map fun i=>(f i).1)[i]?=some row→i<len∧row=(f i).1:=by
      grind
     refine⟨[.fs ((List.range len).map fun i=>(f i).1)],.cons (.sl r _ ?_ ?_ ?_) ?_ rfl .nil⟩
     ·intro row hm
      simp only[G1,N7]at hm;obtain⟨i,hi,rfl⟩:=hm;exact(hfr i hi).1.len.1
     ·omega
     ·intro row hm
      simp only[G1,N7]at hm;obtain⟨i,hi,rfl⟩:=hm;exact(hfr i hi).1.sh
     ·have:=Rv.fs (F:=fun b=>b<w.heap.size) (w:=w) ((List.range len).map fun i=>(f i).1) blk off r.length cap (fun i j=>if i<len∧j<r.length then ((f i).2[j]?).getD (.bool false) else .bool false)
       AM hblk ?_ ?_ ?_ ?_
      ·grind
      ·intro row hm
       simp only[G1,N7]at hm;obtain⟨i,hi,rfl⟩:=hm;exact(hfr i hi).1.len.1
      ·intro i row j c h1 h2
       obtain⟨hi,rfl⟩:=hget i row h1;have hl:=(hfr i hi).1.len
       grind
      ·intro i j
       by_cases hij:i<len∧j<r.length
       ·rw[if_pos hij]
        have hl:=(hfr i hij.1).1.len;rw[A8 AM];simp only[G7];exact((hfr i hij.1).1.rv j _ _ (A8 AM) (A8 AM)).2
       ·rw[if_neg hij];rfl
      ·intro i row j c h1 h2
       obtain⟨hi,rfl⟩:=hget i row h1;have hl:=(hfr i hi).1.len;have hj:j<r.length:=by
        grind
       rw[if_pos ⟨hi,hj⟩,A8 AM];exact((hfr i hi).1.rv j c _ h2 (A8 AM)).1
 | @struct t fs rs h hl hf hc ht ih =>
   intro fuel cs x hx;obtain⟨xs,n,_,_,hlen,hxs,hfld⟩:=DataW.trod_struct h hx;have key:∀ k,k≤rs.length→∃ as,DecL (fun b=>b<w.heap.size) w (rs.take k).flatten as (cs.take ((rs.take k).flatten).length):=by
    intro k;induction k with
    | zero=>intro _;exact⟨[],by simpa using DecL.nil⟩
    | succ k ihk =>
      intro hk;obtain⟨as,h1⟩:=ihk AM;have hr:rs[k]?=some rs[k]:=A8 AM;have hfk:fs[k]?=some fs[k]:=D7 AM;obtain⟨c1,c2⟩:=hc k _ _ hfk hr;have h2:=hfld k _ hfk;rw[A8 AM]at h2;obtain⟨as',h3⟩:=ih k _ _ hfk hr h2;refine⟨as++as',?_⟩;rw[I4,hr,Option.toList_some,aE1,C9,aH7];simp only[M8,aA9,I2];rw[c1,c2]at h3;exact h1.append h3
   obtain⟨as,h1⟩:=key rs.length (A6 _)
   grind
 | @array t e n r h he hc ht ih =>
   intro fuel cs x hx;obtain⟨hlen,m,hy⟩:=trod_array h hx;have key:∀ k,k≤n→∃ as,DecL (fun b=>b<w.heap.size) w (List.replicate k r).flatten as (cs.take (k*r.length)):=by
    intro k;induction k with
    | zero=>intro _;exact⟨[],by simpa using DecL.nil⟩
    | succ k ihk =>
      intro hk;obtain⟨as,h1⟩:=ihk AM;obtain⟨y,h2⟩:=hy k AM;obtain⟨as',h3⟩:=ih h2;refine⟨as++as',?_⟩;rw[List.replicate_succ',aE1,aF3,aH7];simp only[M8,aA9,I2,Nat.one_mul];rw[hc]at h3;exact h1.append h3
   obtain⟨as,h1⟩:=key n (A6 _)
   grind

def FF(P:Program):Nat→List Field→List (List CT)→Prop
 | _,[],[]=>True
 | o,f::fs,r::rs=>Flat P f.type r∧P.cellsOf f.type=r.length∧f.offset=o∧FF P (o+r.length) fs rs
 | _,_,_=>False
theorem FF.get:∀{o:Nat}{fs:List Field}{rs:List (List CT)},FF P o fs rs→rs.length=fs.length∧∀(i:Nat)(f:Field)(r:List CT),fs[i]?=some f→rs[i]?=some r→Flat P f.type r∧P.cellsOf f.type=r.length∧f.offset=o+((rs.take i).flatten).length
 | o,[],[],_=>⟨rfl,fun i f r h=>by simp at h⟩
 | o,f::fs,r::rs,h=>by
   obtain⟨h1,h2,h3,h4⟩:=h;obtain⟨l1,l2⟩:=FF.get h4;refine⟨by simp[l1],fun i f' r' e1 e2=>?_⟩;cases i with
   | zero =>
     simp only[D4,oSI]at e1 e2;subst e1;subst e2;exact⟨h1,h2,by simpa using h3⟩
   | succ i =>
     obtain⟨k1,k2,k3⟩:=l2 i f' r' (by simpa using e1) (by simpa using e2);refine⟨k1,k2,?_⟩;rw[k3,List.take_succ_cons,M8,C9];omega
 | _,[],_::_,h=>h.elim
 | _,_::_,[],h=>h.elim
theorem Flat.mk{t:TypeId}{fs:Array Field}{rs:List (List CT)}(h:P.underlying t=some (.struct fs))(hf:FF P 0 fs.toList rs)(ht:P.cellsOf t=rs.flatten.length):Flat P t rs.flatten:=by
 obtain⟨l1,l2⟩:=hf.get;refine .struct rs h AM (fun i f r h1 h2=>(l2 i f r (by grind) h2).1) (fun i f r h1 h2=>?_) ht
 grind

theorem Sh.gd{c:CT}{a:AV}(h:Sh c a):Gd a:=by
 induction h with
 | int k n h=>exact .int k n
 | bool b=>exact .bool b
 | str s h=>exact .str s
 | sl r rows hl hn h ih =>
   refine .fs rows fun row hr c hc=>?_;obtain⟨i,hi,he⟩:=List.mem_iff_getElem.1 hc;have hi':i<r.length:=by grind
   exact ih row hr i r[i] c (A8 hi') (by grind)

theorem aLs{t:TypeId}{tys:List CT}(hf:Flat P t tys){vs:Array Value}{d:DataW H}{ps:List MemPlace}(hd:DataW.Trod enc P w 0 spare held t (.agg vs) d ps) :
 ∃ as,as.length=tys.length∧(∀(i:Nat)(c:CT)(a:AV),tys[i]?=some c→as[i]?=some a→Sh c a)∧Rv (fun b=>b<w.heap.size) w (.agg as) (.agg vs):=by
 obtain⟨fuel,h⟩:=hd;obtain⟨as,h1⟩:=aCK hf h;have hl:=h1.len;have hc:(Value.agg vs).cells.toList=vs.toList:=rfl;rw[hc]at h1 hl;refine⟨as,hl.1,h1.sh,.agg as vs (by grind) ?_ ?_⟩
 ·intro i v hv
  have hi:i<vs.size:=by
   grind
  have hl2:=hl.2;simp only[I7]at hl2;exact(h1.rv i as[i] v (A8 AM) (by grind)).2
 ·intro i c v hc hv
  exact(h1.rv i c v hc (by grind)).1
theorem aAx{t:TypeId}{c:CT}(hf:Flat P t [c]){v:Value}(hv:v.cells.toList=[v]){d:DataW H}{ps:List MemPlace}(hd:DataW.Trod enc P w 0 spare held t v d ps) :
 ∃ a,Sh c a∧Rv (fun b=>b<w.heap.size) w a v:=by
 obtain⟨fuel,h⟩:=hd;rw[hv]at h;obtain⟨as,h1⟩:=aCK hf h;cases h1 with
 | cons h1 h2 h3 h4=>grind

theorem aPv{D:Nat→Option XFn}(ok:XOk P D){K:Nat}{as:List AV}(hrun:runW D K as []=some (.bool true,[]))(has:∀ a∈as,Gd a){vs:Array Value}(gi:GI (fun b=>b<w.heap.size) w)(hA:Args (fun b=>b<w.heap.size) w as vs) :
 Calls P K vs w fun e w'=>e = .returned (.bool true)∧Below w.heap.size w w':=by
 obtain⟨n,hn⟩:=bJ.1 hrun;refine(bEI ok hn has (.bool true) gi hA).mono ?_
 grind [aRN]
variable{P:Program}{D:Nat→Option XFn}{F F':Nat→Prop}{w w':World}{H:Hp}

theorem xT{b:Nat}{o:Obj}(h:w.heap[b]?=some o):b<w.heap.size:=by
 grind

theorem Up.below(hs:∀ b,F b→F' b)(hl:∀ b,F b→b<w.heap.size)(hb:Below w.heap.size w w'):Up F w F' w' :=
 ⟨hs,fun b h=>hb.block b (hl b h),fun b c e fr h=>⟨c,e,fr,by rw[hb.block b (xT h)];exact h,rfl⟩,hb.size⟩

theorem Ext.below(hs:∀ b,F b→F' b)(hn:∀ b,F' b→F b∨w.heap.size≤b)(hb:Below w.heap.size w w'):Ext F w H F' w' H where
 sub:=hs
 fnew:=fun b h=>(hn b h).elim .inl fun h=>.inr (.inr h)
 hdom:=fun _ h=>.inl h
 hnew:=fun _ h=>.inl h
 le:=hb.size
 same:=fun b h _=>hb.block b h
 cells:=fun b c e fr h=>⟨c,e,fr,by rw[hb.block b (xT h)];exact h,rfl⟩
 io:=⟨hb.os,hb.tape,hb.output⟩

theorem St.below(hs:∀ b,F b→F' b)(hn:∀ b,F' b→F b∨w.heap.size≤b)(hl:∀ b,F' b→b<w'.heap.size)(st:St F w H)(hb:Below w.heap.size w w'):St F' w' H :=
 ⟨hl,fun b x h hf=>by
  obtain⟨o,h1,_⟩:=st.blk b x h;rcases hn b hf with h2|h2;·exact st.dis b x h h2
  grind,
 fun b x h=>by
  obtain⟨o,h1,h2⟩:=st.blk b x h;exact⟨o,by rw[hb.block b (xT h1)];exact h1,h2.up (Up.below hs st.lt hb)⟩⟩

theorem FnW.shelfG{B:Base}{f:FuncId}{as:List AV}{v:AV}{Q:AV→Hp→Prop}
 (hq:∀(vs:Array Value)(w:World),(callFunc f vs).run P w = .ok (.enter f vs) w)
 (hc:∀(F:Nat→Prop)(w:World)(vs:Array Value),GI F w→(∀ b,F b→b<w.heap.size)→Args F w as vs→Calls P f vs w fun e w'=>∃ r F',e = .returned r∧Below w.heap.size w w' ∧
  (∀ b,F b→F' b)∧(∀ b,F' b→F b∨w.heap.size≤b)∧(∀ b,F' b→b<w'.heap.size)∧Rv F' w' v r)
 (hQ:Q v H):FnW B P f as H Q :=
 ⟨hq,fun F w vs hB st ha=>callsIn_wide.2 ((hc F w vs (B.gi.up hB) st.lt ha).mono fun e w' ⟨r,F',he,hb,hs,hn,hl,hr⟩=>⟨r,v,F',H,he,Ext.below hs hn hb,St.below hs hn hl st hb,hr,hQ⟩)⟩

theorem FnW.shelfN{B:Base}{f:FuncId}{as:List AV}{v:AV}{Q:AV→Hp→Prop}
 (hq:∀(vs:Array Value)(w:World),(callFunc f vs).run P w = .ok (.enter f vs) w)
 (hc:∀(F:Nat→Prop)(w:World)(vs:Array Value),(∀ b,F b→b<w.heap.size)→Args F w as vs→Calls P f vs w fun e w'=>∃ r F',e = .returned r∧Below w.heap.size w w' ∧
  (∀ b,F b→F' b)∧(∀ b,F' b→F b∨w.heap.size≤b)∧(∀ b,F' b→b<w'.heap.size)∧Rv F' w' v r)
 (hQ:Q v H):FnW B P f as H Q :=
 ⟨hq,fun F w vs _ st ha=>callsIn_wide.2 ((hc F w vs st.lt ha).mono fun e w' ⟨r,F',he,hb,hs,hn,hl,hr⟩=>⟨r,v,F',H,he,Ext.below hs hn hb,St.below hs hn hl st hb,hr,hQ⟩)⟩

theorem FnW.shelf{B:Base}{f:FuncId}{as:List AV}{v:AV}{r:Array Value→Value}{Q:AV→Hp→Prop}
 (hq:∀(vs:Array Value)(w:World),(callFunc f vs).run P w = .ok (.enter f vs) w)
 (hr:∀(F:Nat→Prop)(w:World)(vs:Array Value),Rv F w v (r vs))
 (hc:∀(F:Nat→Prop)(w:World)(vs:Array Value),(∀ b,F b→b<w.heap.size)→Args F w as vs→Calls P f vs w fun e w'=>e = .returned (r vs)∧Below w.heap.size w w')
 (hQ:Q v H):FnW B P f as H Q :=
 FnW.shelfN hq (fun F w vs hl ha=>(hc F w vs hl ha).mono fun e w' ⟨he,hb⟩=>⟨r vs,F,he,hb,fun _ h=>h,fun _ h=>.inl h,fun b h=>E6 (hl b h) hb.size,hr _ _ _⟩) hQ

theorem Args.cons1{F:Nat→Prop}{w:World}{a:AV}{as:List AV}{vs:Array Value}(h:Args F w (a::as) vs):∃ v vs',vs = #[v]++vs'∧Rv F w a v∧Args F w as vs':=by
 obtain⟨hl,h⟩:=h;rcases vs with ⟨_|⟨v,r⟩⟩;·simp at hl
 ·refine⟨v,r.toArray,by simp,h 0 a v rfl (by simp),by grind,fun i x y hx hy=>h (i+1) x y (by grind) (by grind)⟩
theorem Args.nil1{F:Nat→Prop}{w:World}{vs:Array Value}(h:Args F w [] vs):vs = #[]:=by
 grind [Args]
theorem Args.strInt{F:Nat→Prop}{w:World}{s:ByteArray}{k:IntKind}{n:Int}{vs:Array Value}(h:Args F w [.str s,.int k n] vs):vs = #[.string s,.int k n]:=by
 obtain⟨a,as,rfl,h1,h2⟩:=h.cons1;obtain⟨b,bs,rfl,h3,h4⟩:=h2.cons1;cases h1;cases h3;rw[h4.nil1];rfl
theorem Args.strStr{F:Nat→Prop}{w:World}{s t:ByteArray}{vs:Array Value}(h:Args F w [.str s,.str t] vs):vs = #[.string s,.string t]:=by
 obtain⟨a,as,rfl,h1,h2⟩:=h.cons1;obtain⟨b,bs,rfl,h3,h4⟩:=h2.cons1;cases h1;cases h3;rw[h4.nil1];rfl
end
section
abbrev I(n:Int):AV:=.int .i64 n
theorem aE{n:Int}(h1 : -9223372036854775808≤n)(h2:n≤9223372036854775807):IntKind.i64.wrap n=n:=by
 simp[IntKind.wrap,IntKind.bits,IntKind.signed];omega
def yF(k:Nat)(L:List Nat)(e:aH)(h:XH):List AV:=kD (keepS k (cY k (L.map e) h)) (L.map e)
def bP(k:Nat)(L:List Nat)(r:Option (DX×aH×XH)):Option (List AV×XH):=match r with
 | some (.normal,e,h)=>some (yF k L e h,jK k L e h)
 | _=>none
theorem Rm(k:Nat)(L:List Nat)(e:aH)(h:XH):bP k L (some (.normal,e,h))=some (yF k L e h,jK k L e h):=rfl
def aGJ(r:Option (DX×aH×XH)):Bool:=match r with
 | some (.normal,_,_)=>false
 | some _=>true
 | none=>false

theorem aQ{D:Nat→Option XFn}{K k:Nat}{rd:Option Nat}{L:List Nat}{a:XCode}{e:aH}{h:XH}(n:Nat)(S:Nat→List AV)(G:Nat→XH)(h0:bP k L (some (.normal,e,h))=some (S 0,G 0))
 (hs:∀ i,i<n→bP k L (execW D K k rd a (aZ L (S i)) (G i))=some (S (i+1),G (i+1))) (hl:aGJ (execW D K k rd a (aZ L (S n)) (G n))=true) :
 execW D K k rd (.loop L a) e h=execW D K k rd a (aZ L (S n)) (G n):=by
 have key:∀(m i:Nat)(e:aH)(h:XH),m+i=n→bP k L (some (.normal,e,h))=some (S i,G i)→execW D K k rd (.loop L a) e h=execW D K k rd a (aZ L (S n)) (G n):=by
  intro m;induction m with
  | zero =>
    intro i e h hi h0;have:i=n:=AM
    subst this;rw[rH];simp only[bP,oSI,A7]at h0;have e1:jO k L e h=aZ L (S i):=by rw[←h0.1];rfl
    rw[e1,h0.2];revert hl;cases execW D K k rd a (aZ L (S i)) (G i)with
    | none=>intro hl;rfl
    | some q =>
      obtain⟨x,e',h'⟩:=q;cases x with
      | normal=>intro hl;simp[aGJ]at hl
      | exit id=>intro _;rfl
      | ret=>intro _;rfl
      | goto l=>intro _;rfl
  | succ m ih =>
    intro i e h hi h0;rw[rH];simp only[bP,oSI,A7]at h0;have e1:jO k L e h=aZ L (S i):=by rw[←h0.1];rfl
    rw[e1,h0.2];have h1:=hs i AM;revert h1;cases execW D K k rd a (aZ L (S i)) (G i)with
    | none=>intro h1;simp[bP]at h1
    | some q =>
      obtain⟨x,e',h'⟩:=q;cases x with
      | normal=>intro h1;exact ih (i+1) e' h' AM h1
      | exit id=>intro h1;simp[bP]at h1
      | ret=>intro h1;simp[bP]at h1
      | goto l=>intro h1;simp[bP]at h1
 exact key n 0 e h AM h0
section
variable{run:eA}{runY:fA}{d:Option Nat}{e:aH}{h:XH}{ix:Nat}{r:List DOper}{D:Nat→Option XFn}{K k:Nat}{rd:Option Nat}{m:Option (List (Nat×Nat))}{op:DOp}{v:AV}

theorem Za{j:Nat}:upd e k v j=if j=k then v else e j:=rfl
theorem Zb:aX e (some k) v=upd e k v:=rfl
theorem Zc:aX e none v=e:=rfl
theorem Zd{α β:Type}{a:α}{b:β}:(a,b).fst=a:=rfl
theorem Ze{α β:Type}{a:α}{b:β}:(a,b).snd=b:=rfl

def aPY(r:Option (aH×XH)):Option (DX×aH×XH):=r.map fun r=>(.normal,r.1,r.2)
theorem Zf:aPY (some (e,h))=some (.normal,e,h):=rfl
def xo(m:Option (List (Nat×Nat)))(run:eA)(runY:fA)(ops:List DOper)(e:aH)(h:XH):Option (aH×XH):=match m with
 | none=>fI run runY ops e h
 | some L=>fM run runY ops e h L
def aVC(m:Option (List (Nat×Nat)))(run:eA)(runY:fA)(ops:List DOper)(p:aH×XH):Option (DX×aH×XH):=aPY (xo m run runY ops p.1 p.2)
theorem Zg{ops:List DOper}:aVC m run runY ops (e,h)=aPY (xo m run runY ops e h):=rfl
theorem Zh{ops:List DOper}:execW D K k rd (.reg [] false ops) e h=aPY (xo none (runW D) (runYW D) ops e h):=aDH
theorem Zi{ops:List DOper}:execW D K k rd (.reg [] true ops) e h=aPY (xo (some []) (runW D) (runYW D) ops e h):=aDI
theorem Zj{a:Nat×Bool}{fz:List (Nat×Bool)}{ops:List DOper}:execW D K k rd (.reg (a::fz) false ops) e h=aVC none (runW D) (runYW D) ops (fzX (a::fz) e h):=aDH
theorem Zk{a:Nat×Bool}{fz:List (Nat×Bool)}{ops:List DOper}:execW D K k rd (.reg (a::fz) true ops) e h=aVC (some []) (runW D) (runYW D) ops (fzX (a::fz) e h):=aDI
theorem Zl:xo m run runY [] e h=some (e,h):=by cases m<;>rfl

def lkM(q:Nat)(k:AV):Option ABlk→Option (Option AV)
 | some (.map _ es)=>aR q k es
 | _=>none
def kV(m:Option (List (Nat×Nat)))(run:eA)(runY:fA)(r:List DOper)(d:Option Nat)(e:aH)(h:XH):Option AV→Option (aH×XH)
 | some v=>xo m run runY r (aX e d v) h
 | none=>none
theorem Zm:kV m run runY r d e h (some v)=xo m run runY r (aX e d v) h:=rfl
def kE(m:Option (List (Nat×Nat)))(run:eA)(runY:fA)(r:List DOper)(d:Option Nat)(e:aH)(h:XH)(g:Bool):Option Eff→Option (aH×XH)
 | some (.val v)=>xo m run runY r (aX e d v) h
 | some (.new own x f)=>xo m run runY r (aX e d (f h.length)) (oU h own g x)
 | none=>none
theorem Zn{g:Bool}:kE m run runY r d e h g (some (.val v))=xo m run runY r (aX e d v) h:=rfl
theorem Zo{g:Bool}{own:Option Nat}{x:ABlk}{f:Nat→AV}:kE m run runY r d e h g (some (.new own x f))=xo m run runY r (aX e d (f h.length)) (oU h own g x):=rfl
theorem aPz{g:Bool}{q:Option Eff}:(match q with
 | some (.val v)=>some (aX e d v,h)
 | some (.new own x f)=>some (aX e d (f h.length),oU h own g x)
 | none=>none).bind (fun s=>xo m run runY r s.1 s.2)=kE m run runY r d e h g q:=by cases q with
 | none=>rfl
 | some q=>cases q<;>rfl
theorem xK (h1:cS run runY d op e h=match aD op e (aI h)with
 | some (.val v)=>some (aX e d v,h)
 | some (.new own x f)=>some (aX e d (f h.length),oU h own (kN op e h) x)
 | none=>none) (h2:∀ L,aMh ix op e L=L) (h3:∀ L,xE op e h L=true) (h4:∀ L h',aBO op e h h' L=true) :
 xo m run runY (⟨ix,d,op,none⟩::r) e h=kE m run runY r d e h (kN op e h) (aD op e (aI h)):=by
 rw[←aPz];cases m with
 | none=>simp only[xo,fI,gd,h1]
 | some L=>simp only[xo,fM,gd,h1,h2,h3,h4,AAe]

def sL(q:Option AV):Option Eff:=q.map .val
theorem sT{q:Option AV} (h1:cS run runY d op e h=match aD op e (aI h)with
 | some (.val v)=>some (aX e d v,h)
 | some (.new own x f)=>some (aX e d (f h.length),oU h own (kN op e h) x)
 | none=>none) (h5:aD op e (aI h)=sL q) (h2:∀ L,aMh ix op e L=L) (h3:∀ L,xE op e h L=true) (h4:∀ L h',aBO op e h h' L=true) :
 xo m run runY (⟨ix,d,op,none⟩::r) e h=kV m run runY r d e h q:=by
 rw[xK h1 h2 h3 h4,h5];cases q<;>rfl
def aKJ(c a b:AV):Option AV:=match c with
 | .bool t=>some (if t then a else b)
 | _=>none
def aVX(x:AV):Option AV:=match x with
 | .bool b=>some (.bool !b)
 | _=>none
def aQk(k:IntKind)(x:AV):Option AV:=match x with
 | .int _ n=>some (.int k (k.wrap n))
 | _=>none
def aSN(off:Nat)(x:AV):Option AV:=match x with
 | .pt b o=>some (.pt b (o+off))
 | .fp r i o=>some (.fp r i (o+off))
 | _=>none
def aMi(q:Bool)(x:AV):Option AV:=match q,x with
 | true,.str s=>some (.int .i64 (s.size:Int))
 | false,.fs rows=>some (.int .i64 (rows.length:Int))
 | false,.sl _ _ _ n=>some (.int .i64 (n:Int))
 | false,.nilsl=>some (.int .i64 0)
 | _,_=>none
def aPD(s:Nat)(x i:AV):Option AV:=match x,i with
    | .sl b o s' len,.int _ n=>if s'=s∧0≤n∧n<(len:Int) then some (.pt b (o+n.toNat*s)) else none
    | .fs rows,.int _ n=>if 0≤n∧n<(rows.length:Int)∧(rows.getD n.toNat []).length=s then some (.fp rows n.toNat 0) else none
    | _,_=>none
def aWz(s:Nat)(rows:List (List AV))(j:Nat):Option (List AV)→Option AV
 | some r=>if r.length=s then some (.fp rows j 0) else none
 | none=>none
def aWT(x:AV)(i:Nat):Option AV:=match x with
 | .tup vs=>vs[i]?
 | _=>none

def aKU(len s:Nat)(x i:AV):Option AV:=match x,i with
    | .pt b o,.int _ n=>if 0≤n∧n<(len:Int) then some (.pt b (o+n.toNat*s)) else none
    | .fp r j o,.int _ n=>if 0≤n∧n<(len:Int) then some (.fp r j (o+n.toNat*s)) else none
    | _,_=>none
def mmM(mx:Bool)(x y:AV):Option AV:=match x,y with
    | .int k a,.int _ b=>some (.int k (if mx then (if b>a then b else a) else (if b<a then b else a)))
    | _,_=>none
def aLh(neg:Bool)(ks:List Nat)(x y:AV):Option AV:=match x,y with
    | .agg cs,.agg ds=>(bC ks cs ds).map fun b=>.bool (if neg then !b else b)
    | _,_=>none
def aMy(neg:Bool)(x:Option Bool):Option AV:=match x with
    | some b=>some (.bool (if neg then !b else b))
    | none=>none
def aDm(ok:Bool)(z:AV)(x:Option (Option AV)):Option AV:=match x with
    | some r=>some (uL ok z r)
    | none=>none
def aXy(x:Option (List AV)):Option AV:=match x with
    | some cs=>some (.agg cs)
    | none=>none
def aPC(agg:Bool)(len s:Nat)(x i:AV):Option AV:=match x,i with
    | .agg cs,.int _ n=>if 0≤n∧n<(len:Int) then iT agg s cs (n.toNat*s) else none
    | _,_=>none
def aDf(x:AV):Option AV:=match x with
    | .pt b o=>some (.pt b o)
    | .bp b=>some (.pt b 0)
    | .fp r i o=>some (.fp r i o)
    | .ifc t v=>some (.ifc t v)
    | _=>none
def kG(m:Option (List (Nat×Nat)))(run:eA)(runY:fA)(o:DOper)(r:List DOper)(e:aH)(h:XH)(b:Bool):AV→Option (aH×XH)
 | .bool t=>if t==b then xo m run runY (o::r) e h else xo m run runY r (aX e o.dst (.tup [])) h
 | .tup _=>xo m run runY r (aX e o.dst (.tup [])) h
 | _=>none
theorem Zp{s:Nat}{b:Bool}:xo m run runY (⟨ix,d,op,some (s,b)⟩::r) e h=kG m run runY ⟨ix,d,op,none⟩ r e h b (e s):=by
 cases m with
 | none =>
   simp only[xo,fI,gd];cases e s with
   | bool t=>cases ht:t==b<;>simp[kG,xo,fI,gd,ht]
   | _=>rfl
 | some L =>
   simp only[xo,fM,gd];cases e s with
   | bool t=>cases ht:t==b<;>simp[kG,xo,fM,gd,ht]
   | _=>rfl
theorem Zq{o:DOper}:kG m run runY o r e h true (.bool true)=xo m run runY (o::r) e h:=rfl
theorem Zr{o:DOper}:kG m run runY o r e h false (.bool false)=xo m run runY (o::r) e h:=rfl
theorem Zs{q:DOp}:kG m run runY ⟨ix,d,q,none⟩ r e h true (.bool false)=xo m run runY r (aX e d (.tup [])) h:=rfl
theorem Zt{q:DOp}:kG m run runY ⟨ix,d,q,none⟩ r e h false (.bool true)=xo m run runY r (aX e d (.tup [])) h:=rfl
theorem Zu{q:DOp}{b:Bool}{vs:List AV}:kG m run runY ⟨ix,d,q,none⟩ r e h b (.tup vs)=xo m run runY r (aX e d (.tup [])) h:=rfl

theorem Zv{a:AO}:xo m run runY (⟨ix,d,.mv a,none⟩::r) e h=xo m run runY r (aX e d (aL e a)) h:=(xK rfl (fun _=>rfl) (fun _=>rfl) fun _ _=>rfl).trans rfl
theorem Zw{z:List AV}:xo m run runY (⟨ix,d,.alloc z,none⟩::r) e h=xo m run runY r (aX e d (.pt h.length 0)) (h++[some (.blk (kY z) (.cells true z))]):=(xK rfl (fun _=>rfl) (fun _=>rfl) fun _ _=>rfl).trans rfl
theorem Pm:xo m run runY (⟨ix,d,.allocb,none⟩::r) e h=xo m run runY r (aX e d (.bp h.length)) (h++[some (.blk true (.cells true [.nilpt,.nilsl]))]):=(xK rfl (fun _=>rfl) (fun _=>rfl) fun _ _=>rfl).trans rfl
theorem Zx{f:Fn}{a b:List AO}:xo m run runY (⟨ix,d,.mkf f a b,none⟩::r) e h=xo m run runY r (aX e d (.fn f (a.map (aL e)) (b.map (aL e)))) h:=(xK rfl (fun _=>rfl) (fun _=>rfl) fun _ _=>rfl).trans rfl
theorem Zy{p1:_}{p2:_}{p3:_}:xo m run runY (⟨ix,d,(DOp.pick p1 p2 p3),none⟩::r) e h=kV m run runY r d e h (aKJ (aL e p1) (aL e p2) (aL e p3)):=sT rfl (by simp only[aD,sL,aKJ];cases aL e p1<;>rfl) (fun _=>rfl) (fun _=>rfl) fun _ _=>rfl
theorem Zz{p1:_}:xo m run runY (⟨ix,d,(DOp.box p1),none⟩::r) e h=kE m run runY r d e h (jD (aL e p1)) (aD (DOp.box p1) e (aI h)):=xK rfl (fun _=>rfl) (fun _=>rfl) fun _ _=>rfl
theorem Z0{p1:_}{p2:_}:xo m run runY (⟨ix,d,(DOp.build p1 p2),none⟩::r) e h=kV m run runY r d e h (aXy (gG p1 (p2.map fun p=>(p.1,p.2.1,aL e p.2.2)))):=sT rfl (by simp only[aD,sL,aXy];split<;>simp_all) (fun _=>rfl) (fun _=>rfl) fun _ _=>rfl
theorem Z8{p1:_}{p2:_}{p3:_}{p4:_}:xo m run runY (⟨ix,d,(DOp.bslice p1 p2 p3 p4),none⟩::r) e h=kE m run runY r d e h (kY p3&&p4.all fun p=>jD (aL e p.2.2)) (aD (DOp.bslice p1 p2 p3 p4) e (aI h)):=xK rfl (fun _=>rfl) (fun _=>rfl) fun _ _=>rfl
theorem Z9{p1:_}:xo m run runY (⟨ix,d,(DOp.nilck p1),none⟩::r) e h=kV m run runY r d e h (aDf (aL e p1)):=sT rfl (by simp only[aD,sL,aDf];cases aL e p1<;>rfl) (fun _=>rfl) (fun _=>rfl) fun _ _=>rfl
theorem ZA{p1:_}{p2:_}{p3:_}:xo m run runY (⟨ix,d,(DOp.bin p1 p2 p3),none⟩::r) e h=kV m run runY r d e h (aDX p1 (aL e p2) (aL e p3)):=sT rfl (by simp only[aD,sL];cases aDX p1 (aL e p2) (aL e p3)<;>rfl) (fun _=>rfl) (fun _=>rfl) fun _ _=>rfl
theorem ZB{p1:_}{p2:_}{p3:_}{p4:_}:xo m run runY (⟨ix,d,(DOp.eqag p1 p2 p3 p4),none⟩::r) e h=kV m run runY r d e h (aLh p1 p2 (aL e p3) (aL e p4)):=sT rfl (by simp only[aD,sL,aLh];cases aL e p3<;>cases aL e p4<;>first|rfl|(simp only[];split<;>simp_all)) (fun _=>rfl) (fun _=>rfl) fun _ _=>rfl
theorem ZC{p1:_}{p2:_}{p3:_}{p4:_}:xo m run runY (⟨ix,d,(DOp.eqn p1 p2 p3 p4),none⟩::r) e h=kV m run runY r d e h (aMy p2 (wL p1 (aL e p3) (aL e p4))):=sT rfl (by simp only[aD,sL,aMy];cases wL p1 (aL e p3) (aL e p4)<;>rfl) (fun _=>rfl) (fun _=>rfl) fun _ _=>rfl
theorem ZD{p1:_}:xo m run runY (⟨ix,d,(DOp.not p1),none⟩::r) e h=kV m run runY r d e h (aVX (aL e p1)):=sT rfl (by simp only[aD,sL,aVX];cases aL e p1<;>rfl) (fun _=>rfl) (fun _=>rfl) fun _ _=>rfl
theorem ZE{p1:_}{p2:_}:xo m run runY (⟨ix,d,(DOp.conv p1 p2),none⟩::r) e h=kV m run runY r d e h (aQk p1 (aL e p2)):=sT rfl (by simp only[aD,sL,aQk];cases aL e p2<;>rfl) (fun _=>rfl) (fun _=>rfl) fun _ _=>rfl
theorem ZF{p1:_}{p2:_}:xo m run runY (⟨ix,d,(DOp.fld p1 p2),none⟩::r) e h=kV m run runY r d e h (aSN p1 (aL e p2)):=sT rfl (by simp only[aD,sL,aSN];cases aL e p2<;>rfl) (fun _=>rfl) (fun _=>rfl) fun _ _=>rfl
theorem ZG{p1:_}{p2:_}{p3:_}{p4:_}:xo m run runY (⟨ix,d,(DOp.idxa p1 p2 p3 p4),none⟩::r) e h=kV m run runY r d e h (aKU p1 p2 (aL e p3) (aL e p4)):=sT rfl (by simp only[aD,sL,aKU];cases aL e p3<;>cases aL e p4<;>first|rfl|(simp only[];split<;>rfl)) (fun _=>rfl) (fun _=>rfl) fun _ _=>rfl
theorem ZH{p1:_}{p2:_}{p3:_}:xo m run runY (⟨ix,d,(DOp.idx p1 p2 p3),none⟩::r) e h=kV m run runY r d e h (aPD p1 (aL e p2) (aL e p3)):=sT rfl (by simp only[aD,sL,aPD];cases aL e p2<;>cases aL e p3<;>first|rfl|(simp only[];split<;>rfl)) (fun _=>rfl) (fun _=>rfl) fun _ _=>rfl
theorem ZI{p1:_}{p2:_}{p3:_}{p4:_}{p5:_}:xo m run runY (⟨ix,d,(DOp.idxv p1 p2 p3 p4 p5),none⟩::r) e h=kV m run runY r d e h (aPC p1 p2 p3 (aL e p4) (aL e p5)):=sT rfl (by simp only[aD,sL,aPC];cases aL e p4<;>cases aL e p5<;>first|rfl|(simp only[];split<;>first|rfl|(split<;>simp_all))) (fun _=>rfl) (fun _=>rfl) fun _ _=>rfl
theorem ZJ{p1:_}{p2:_}{p3:_}{p4:_}{p5:_}:xo m run runY (⟨ix,d,(DOp.mksl p1 p2 p3 p4 p5),none⟩::r) e h=kE m run runY r d e h (kY p3) (aD (DOp.mksl p1 p2 p3 p4 p5) e (aI h)):=xK rfl (fun _=>rfl) (fun _=>rfl) fun _ _=>rfl
theorem ZK{p1:_}{p2:_}{p3:_}{p4:_}{p5:_}:xo m run runY (⟨ix,d,(DOp.slarr p1 p2 p3 p4 p5),none⟩::r) e h=kE m run runY r d e h false (aD (DOp.slarr p1 p2 p3 p4 p5) e (aI h)):=xK rfl (fun _=>rfl) (fun _=>rfl) fun _ _=>rfl
theorem ZL{p1:_}{p2:_}{p3:_}{p4:_}:xo m run runY (⟨ix,d,(DOp.slsl p1 p2 p3 p4),none⟩::r) e h=kE m run runY r d e h false (aD (DOp.slsl p1 p2 p3 p4) e (aI h)):=xK rfl (fun _=>rfl) (fun _=>rfl) fun _ _=>rfl
theorem ZM{p1:_}{p2:_}{p3:_}:xo m run runY (⟨ix,d,(DOp.slstr p1 p2 p3),none⟩::r) e h=kE m run runY r d e h false (aD (DOp.slstr p1 p2 p3) e (aI h)):=xK rfl (fun _=>rfl) (fun _=>rfl) fun _ _=>rfl
theorem ZN:xo m run runY (⟨ix,d,(DOp.mkmap),none⟩::r) e h=kE m run runY r d e h true (aD (DOp.mkmap) e (aI h)):=xK rfl (fun _=>rfl) (fun _=>rfl) fun _ _=>rfl
theorem ZO{p1:_}{p2:_}{p3:_}{p4:_}{p5:_}:xo m run runY (⟨ix,d,(DOp.lookup p1 p2 p3 p4 p5),none⟩::r) e h=kV m run runY r d e h (aDm p2 p3 (mC p1 (aI h) (aL e p5) (aL e p4))):=sT rfl (by simp only[aD,sL,aDm];cases mC p1 (aI h) (aL e p5) (aL e p4)<;>rfl) (fun _=>rfl) (fun _=>rfl) fun _ _=>rfl
theorem ZP{p1:_}{p2:_}:xo m run runY (⟨ix,d,(DOp.ext p1 p2),none⟩::r) e h=kV m run runY r d e h (aWT (aL e p1) p2):=sT rfl (by simp only[aD,sL,aWT];cases aL e p1<;>first|rfl|(simp only[];split<;>simp_all)) (fun _=>rfl) (fun _=>rfl) fun _ _=>rfl
theorem ZQ{p1:_}{p2:_}:xo m run runY (⟨ix,d,(DOp.len p1 p2),none⟩::r) e h=kV m run runY r d e h (aMi p1 (aL e p2)):=sT rfl (by simp only[aD,sL,aMi];cases p1<;>cases aL e p2<;>rfl) (fun _=>rfl) (fun _=>rfl) fun _ _=>rfl
theorem ZR{p1:_}{p2:_}{p3:_}:xo m run runY (⟨ix,d,(DOp.mm p1 p2 p3),none⟩::r) e h=kV m run runY r d e h (mmM p1 (aL e p2) (aL e p3)):=sT rfl (by simp only[aD,sL,mmM];cases aL e p2<;>cases aL e p3<;>rfl) (fun _=>rfl) (fun _=>rfl) fun _ _=>rfl
theorem ZS{p1:_}{p2:_}:xo m run runY (⟨ix,d,(DOp.mkifc p1 p2),none⟩::r) e h=kE m run runY r d e h false (aD (DOp.mkifc p1 p2) e (aI h)):=xK rfl (fun _=>rfl) (fun _=>rfl) fun _ _=>rfl
theorem ZT{p1:_}:xo m run runY (⟨ix,d,(DOp.bytes p1),none⟩::r) e h=kE m run runY r d e h true (aD (DOp.bytes p1) e (aI h)):=xK rfl (fun _=>rfl) (fun _=>rfl) fun _ _=>rfl
theorem ZU{a:Bool}{n:Nat}{x:AO}:xo none run runY (⟨ix,d,.load a n x,none⟩::r) e h=kV none run runY r d e h (fG a n (aI h) (aL e x)):=by
 show fI run runY _ e h=_;simp only[fI,gd,cS,aD];cases fG a n (aI h) (aL e x)<;>rfl
def aWr(ix:Nat)(v:AV)(L:List (Nat×Nat)):List (Nat×Nat):=match eH v with
 | some b=>(ix,b)::L
 | none=>L
theorem ZV{b o:Nat}{L:List (Nat×Nat)}:aWr ix (.pt b o) L=(ix,b)::L:=rfl
theorem ZW{rows:List (List AV)}{i o:Nat}{L:List (Nat×Nat)}:aWr ix (.fp rows i o) L=L:=rfl
theorem ZX{a:Bool}{n:Nat}{x:AO}{L:List (Nat×Nat)}:xo (some L) run runY (⟨ix,d,.load a n x,none⟩::r) e h=kV (some (aWr ix (aL e x) L)) run runY r d e h (fG a n (aI h) (aL e x)):=by
 show fM run runY _ e h L=_;simp only[fM,gd,cS,aD,xE,AAe];cases fG a n (aI h) (aL e x)<;>rfl

def kH(m:Option (List (Nat×Nat)))(run:eA)(runY:fA)(r:List DOper)(d:Option Nat)(e:aH)(v:AV):Option XH→Option (aH×XH)
 | some h=>xo m run runY r (aX e d v) h
 | none=>none
theorem ZY:kH m run runY r d e v (some h)=xo m run runY r (aX e d v) h:=rfl
theorem ZZ{n:Nat}{p x:AO}{l:List Nat}:xo none run runY (⟨ix,d,.store n p x l,none⟩::r) e h=kH none run runY r d e .any (oT n h (aL e p) (aL e x)):=by
 show fI run runY _ e h=_;simp only[fI,gd,cS];cases oT n h (aL e p) (aL e x)<;>rfl
def aAQ{α:Type}(b:Bool)(x:Option α):Option α:=if b then x else none
theorem Ya{α:Type}{x:Option α}:aAQ true x=x:=rfl
theorem Yb{n:Nat}{p x:AO}{l:List Nat}{L:List (Nat×Nat)}:xo (some L) run runY (⟨ix,d,.store n p x l,none⟩::r) e h=aAQ (L.all fun q => !l.contains q.1||eH (aL e p) != some q.2) (kH (some L) run runY r d e .any (oT n h (aL e p) (aL e x))):=by
 show fM run runY _ e h L=_;simp only[fM,gd,cS,xE,aAQ];cases oT n h (aL e p) (aL e x)<;>rfl
def kR(m:Option (List (Nat×Nat)))(run:eA)(runY:fA)(r:List DOper)(d:Option Nat)(e:aH):Option (AV×XH)→Option (aH×XH)
 | some (v,h)=>xo m run runY r (aX e d v) h
 | none=>none
theorem Yc:kR m run runY r d e (some (v,h))=xo m run runY r (aX e d v) h:=rfl
def aFJ(s:Nat)(h:XH)(x y:AV):Option (AV×XH):=(aBX s h x y).map fun r=>(.int .i64 (r.1:Int),r.2)
theorem Ye{s:Nat}{x y:AO}:xo none run runY (⟨ix,d,.copy s x y,none⟩::r) e h=kR none run runY r d e (aFJ s h (aL e x) (aL e y)):=by
 show fI run runY _ e h=_;simp only[fI,gd,cS,aFJ];cases aBX s h (aL e x) (aL e y)<;>rfl
theorem Yf{q:Nat}{a k x:AO}:xo none run runY (⟨ix,d,.mapup q a k x,none⟩::r) e h=kH none run runY r d e .any (sU q h (aL e a) (aL e k) (aL e x)):=by
 show fI run runY _ e h=_;simp only[fI,gd,cS];cases sU q h (aL e a) (aL e k) (aL e x)<;>rfl
theorem Yg{f:AO}{xs:List AO}{l:List Nat}:xo none run runY (⟨ix,d,.callf false f xs l,none⟩::r) e h=kR none run runY r d e (fU run runY (aL e f) (xs.map (aL e)) h):=by
 show fI run runY _ e h=_;simp only[fI,gd,cS];cases fU run runY (aL e f) (xs.map (aL e)) h<;>rfl
def kRL(L:List (Nat×Nat))(l:List Nat)(run:eA)(runY:fA)(r:List DOper)(d:Option Nat)(e:aH)(h:XH)(ps:List Nat):Option (AV×XH)→Option (aH×XH)
 | some (v,h')=>aAQ (L.all fun q=>(hat h' q.2).isSome&&(!l.contains q.1||(!ps.contains q.2||aHt (hat h q.2) (hat h' q.2)))) (xo (some L) run runY r (aX e d v) h')
 | none=>none
theorem Yh{f:AO}{xs:List AO}{l:List Nat}{L:List (Nat×Nat)}:xo (some L) run runY (⟨ix,d,.callf false f xs l,none⟩::r) e h=kRL L l run runY r d e h (iU (aL e f) (xs.map (aL e)) h) (fU run runY (aL e f) (xs.map (aL e)) h):=by
 show fM run runY _ e h L=_;simp only[fM,gd,cS,xE,AAe];cases fU run runY (aL e f) (xs.map (aL e)) h<;>rfl
theorem Yi{L:List (Nat×Nat)}{l:List Nat}{h':XH}{ps:List Nat}:kRL L l run runY r d e h ps (some (v,h'))=aAQ (L.all fun q=>(hat h' q.2).isSome&&(!l.contains q.1||(!ps.contains q.2||aHt (hat h q.2) (hat h' q.2)))) (xo (some L) run runY r (aX e d v) h'):=rfl
theorem Yj{f:AO}{xs:List AO}{l:List Nat}:xo m run runY (⟨ix,d,.callf true f xs l,none⟩::r) e h=kV m run runY r d e h (nX run (aL e f) (xs.map (aL e)) h):=by
 cases m with
 | none =>
   show fI run runY _ e h=_;simp only[fI,gd,cS];cases nX run (aL e f) (xs.map (aL e)) h<;>rfl
 | some L =>
   show fM run runY _ e h L=_;simp only[fM,gd,cS,xE,AAe];cases nX run (aL e f) (xs.map (aL e)) h<;>rfl
theorem Yk{s b:Nat}{x y:AO}:xo none run runY (⟨ix,d,.app s b x y,none⟩::r) e h=kE none run runY r d e h (fS h (aL e x)&&fS h (aL e y)) (pC s b (aI h) (aL e x) (aL e y)):=by
 rw[←aPz];rfl

def aOY(acc:List Nat)(b:Nat):Option Nat:=fR b acc
def aQs(acc:List Nat)(run:eA)(g:Nat)(all:List AV)(h:XH):Option (AV×XH):=(run g (kD (fun b=>fR b acc) all) (iK acc h)).map (aAK acc h)
def aQt(run:eA)(g:Nat)(all:List AV)(h:XH):Bool→Option (AV×XH)
 | true=>run g all h
 | false=>aQs (gZ all h) run g all h
theorem Yl{g:Nat}{first cap as:List AV}:fU run runY (.fn (.func g) first cap) as h=aQt run g (first++as++cap) h (lB g):=by
 unfold fU;dsimp only;cases lB g<;>rfl
theorem PB{g:Nat}{all:List AV}:aQt run g all h true=run g all h:=rfl
theorem PC{g:Nat}{all:List AV}:aQt run g all h false=aQs (gZ all h) run g all h:=rfl
theorem PD{g:Nat}:lB g=aMe g [25,27,28,55,56,57,58,59,60,61,62,63,64,65,66,96,97,98,99,100,101,102,103,104]:=rfl
theorem PE{g:Nat}:aMe g []=false:=rfl
theorem PG{g k:Nat}{l:List Nat}:aMe g (k::l)=if g=k then true else aMe g l:=rfl
def kM(acc:List Nat)(h:XH)(r:Option (AV×XH)):Option (AV×XH):=r.map (aAK acc h)
theorem Ym{acc:List Nat}{g:Nat}{all:List AV}:aQs acc run g all h=kM acc h (run g (kD (aOY acc) all) (iK acc h)):=rfl
end
theorem Yn{x y:AV}:aKJ (.bool true) x y=some x:=rfl
theorem Yo{x y:AV}:aKJ (.bool false) x y=some y:=rfl
theorem Yp{b:Bool}:aVX (.bool b)=some (.bool !b):=rfl
theorem Yq{k k':IntKind}{n:Int}:aQk k (.int k' n)=some (.int k (k.wrap n)):=rfl
theorem Yr{off b o:Nat}:aSN off (.pt b o)=some (.pt b (o+off)):=rfl
theorem Ys{off i o:Nat}{rows:List (List AV)}:aSN off (.fp rows i o)=some (.fp rows i (o+off)):=rfl
theorem Yt{rows:List (List AV)}:aMi false (.fs rows)=some (.int .i64 (rows.length:Int)):=rfl
theorem Yu{b o s n:Nat}:aMi false (.sl b o s n)=some (.int .i64 (n:Int)):=rfl
theorem Yv:aMi false .nilsl=some (.int .i64 0):=rfl
theorem Yw{s:ByteArray}:aMi true (.str s)=some (.int .i64 (s.size:Int)):=rfl
theorem Yx{b o s s' len:Nat}{k:IntKind}{n:Int}:aPD s (.sl b o s' len) (.int k n)=if s'=s∧0≤n∧n<(len:Int) then some (.pt b (o+n.toNat*s)) else none:=rfl
theorem Yy{s:Nat}{rows:List (List AV)}{k:IntKind}{n:Int}:aPD s (.fs rows) (.int k n)=if 0≤n∧n<(rows.length:Int) then aWz s rows n.toNat rows[n.toNat]? else none:=by
 simp only[aPD,aWz];by_cases h:0≤n∧n<(rows.length:Int)
 ·have h2:n.toNat<rows.length:=AM
  rw[A8 h2,C7,A8 h2,G7];simp only[h,AAh];simp only[and_self,AAe]
 ·rw[if_neg h,if_neg (fun hc=>h ⟨hc.1,hc.2.1⟩)]
theorem Yz{s j:Nat}{rows:List (List AV)}{r:List AV}:aWz s rows j (some r)=if r.length=s then some (.fp rows j 0) else none:=rfl
theorem Y4{vs:List AV}{i:Nat}:aWT (.tup vs) i=vs[i]?:=rfl
theorem Y5{k:IntKind}{a b:Int}:gU .add k a k b=some (.int k (k.wrap (a+b))):=by simp[gU]
theorem Y6{k:IntKind}{a b:Int}:gU .sub k a k b=some (.int k (k.wrap (a-b))):=by simp[gU]
theorem Y7{k:IntKind}{a b:Int}:gU .mul k a k b=some (.int k (k.wrap (a*b))):=by simp[gU]
theorem Y8{k:IntKind}{a b:Int}:gU .rem k a k b=if b=0 then none else some (.int k (a.tmod b)):=by by_cases h:b=0<;>simp[gU,h]
theorem Y9{k:IntKind}{a b:Int}:gU .and k a k b=some (.int k (oO .and k a b)):=by simp[gU]
theorem YA{k:IntKind}{a b:Int}:gU .or k a k b=some (.int k (oO .or k a b)):=by simp[gU]
theorem YB{k k':IntKind}{a b:Int}:gU .shl k a k' b=if b<0 then none else some (.int k (k.wrap (a*2^min b.toNat k.bits))):=rfl
theorem YC{k:IntKind}{a b:Int}:gU .eql k a k b=some (.bool (decide (a=b))):=by simp[gU];rfl
theorem YD{k:IntKind}{a b:Int}:gU .neq k a k b=some (.bool !(decide (a=b))):=by simp[gU];rfl
theorem YE{k:IntKind}{a b:Int}:gU .lss k a k b=some (.bool (decide (a<b))):=by simp[gU]
theorem YF{k:IntKind}{a b:Int}:gU .leq k a k b=some (.bool (decide (a≤b))):=by simp[gU]
theorem YG{k:IntKind}{a b:Int}:gU .gtr k a k b=some (.bool (decide (b<a))):=by simp[gU]
theorem YH{k:IntKind}{a b:Int}:gU .geq k a k b=some (.bool (decide (b≤a))):=by simp[gU]
theorem YJ{n:Nat}:(0≤(n:Int))=True:=by simp
theorem YK{n:Nat}:(n:Int).toNat=n:=by simp
theorem YL:IntKind.i64.wrap 0=0:=rfl
theorem YM:IntKind.i64.wrap 1=1:=rfl
theorem YN:IntKind.i64.wrap 2=2:=rfl
theorem YO:IntKind.i64.wrap 3=3:=rfl
theorem YP:IntKind.i64.wrap 4=4:=rfl
theorem YQ:IntKind.i64.wrap 5=5:=rfl
theorem YR:IntKind.i64.wrap 6=6:=rfl
theorem YT:(0:Int).toNat=0:=rfl
theorem YU:((0:Nat):Int)=0:=rfl
theorem YV:(1:Int).toNat=1:=rfl
theorem YX:((1:Nat):Int)=1:=rfl
theorem YY:(2:Int).toNat=2:=rfl
theorem YZ:((2:Nat):Int)=2:=rfl
theorem Xa:(3:Int).toNat=3:=rfl
theorem Xb:((3:Nat):Int)=3:=rfl
theorem Xc:(4:Int).toNat=4:=rfl
theorem Xd:((4:Nat):Int)=4:=rfl
theorem Xe:(5:Int).toNat=5:=rfl
theorem Xf:((5:Nat):Int)=5:=rfl
theorem Xg:((6:Nat):Int)=6:=rfl
theorem Xh:((8:Nat):Int)=8:=rfl
theorem Xi{len s b o:Nat}{k:IntKind}{n:Int}:aKU len s (.pt b o) (.int k n)=if 0≤n∧n<(len:Int) then some (.pt b (o+n.toNat*s)) else none:=rfl
theorem Xj{len s j o:Nat}{r:List (List AV)}{k:IntKind}{n:Int}:aKU len s (.fp r j o) (.int k n)=if 0≤n∧n<(len:Int) then some (.fp r j (o+n.toNat*s)) else none:=rfl
theorem Xk{k k':IntKind}{a b:Int}:mmM true (.int k a) (.int k' b)=some (.int k (if b>a then b else a)):=rfl
theorem Xl{k k':IntKind}{a b:Int}:mmM false (.int k a) (.int k' b)=some (.int k (if b<a then b else a)):=rfl
theorem Xm{neg:Bool}{ks:List Nat}{cs ds:List AV}:aLh neg ks (.agg cs) (.agg ds)=aMy neg (bC ks cs ds):=by cases h:bC ks cs ds<;>simp[aLh,aMy,h]
theorem Xn{b:Bool}:aMy true (some b)=some (.bool !b):=rfl
theorem Xo{b:Bool}:aMy false (some b)=some (.bool b):=rfl
theorem Xp{ok:Bool}{z:AV}{r:Option AV}:aDm ok z (some r)=some (uL ok z r):=rfl
theorem Xq{z v:AV}:uL true z (some v) = .tup [v,.bool true]:=rfl
theorem Xr{z v:AV}:uL false z (some v)=v:=rfl
theorem Xs{z:AV}:uL false z none=z:=rfl
theorem Xt{q:Nat}{b:Nat}{H:Hp}{k:AV}:mC q H k (.mp b)=lkM q k (H b):=by simp only[mC,lkM]<;>rfl
theorem Xu{q:Nat}{w:Bool}{k:AV}{es:List (AV×AV)}:lkM q k (some (.map w es))=aR q k es:=rfl
theorem Xv{cs:List AV}:aXy (some cs)=some (.agg cs):=rfl
theorem Xw{agg:Bool}{len s:Nat}{cs:List AV}{k:IntKind}{n:Int}:aPC agg len s (.agg cs) (.int k n)=if 0≤n∧n<(len:Int) then iT agg s cs (n.toNat*s) else none:=rfl
theorem Xx{b o:Nat}:aDf (.pt b o)=some (.pt b o):=rfl
theorem Pn{b:Nat}:aDf (.bp b)=some (.pt b 0):=rfl
theorem Po{t:TypeId}{v:AV}:aDf (.ifc t v)=some (.ifc t v):=rfl
theorem Xy{k:IntKind}{n:Int}:kC (.int k n)=([]:List Nat):=rfl
theorem Xz{t:Bool}:kC (.bool t)=([]:List Nat):=rfl
theorem XI{t:ByteArray}:kC (.str t)=([]:List Nat):=rfl
theorem XJ{cs:List AV}:kC (.agg cs)=(kB cs:List Nat):=rfl
theorem XL{cs:List AV}:kC (.tup cs)=(kB cs:List Nat):=rfl
theorem XM{rows:List (List AV)}:kC (.fs rows)=([]:List Nat):=rfl
theorem XN{b o s n:Nat}:kC (.sl b o s n)=([b]:List Nat):=rfl
theorem XO{b o:Nat}:kC (.pt b o)=([b]:List Nat):=rfl
theorem XW{b:Nat}:kC (.mp b)=([b]:List Nat):=rfl
theorem XX  : kC .nilsl=([]:List Nat):=rfl
theorem XY  : kC .nilpt=([]:List Nat):=rfl
theorem XZ{g:Nat}{fs us:List AV}:kC (.fn (.func g) fs us)=(kB fs++kB us:List Nat):=rfl
theorem Wa{l:Nat}{fs us:List AV}:kC (.fn (.yield l) fs us)=([l]++(kB fs++kB us):List Nat):=rfl
theorem Wb{ty:TypeId}{v:AV}:kC (.ifc ty v)=(kC v:List Nat):=rfl
theorem Wc  : kC .nilifc=([]:List Nat):=rfl
theorem We  : kC .any=([]:List Nat):=rfl
theorem Wf{k:IntKind}{n:Int}:jD (.int k n)=(true:Bool):=rfl
theorem Wg{t:Bool}:jD (.bool t)=(true:Bool):=rfl
theorem Wh{t:ByteArray}:jD (.str t)=(true:Bool):=rfl
theorem Wi{cs:List AV}:jD (.agg cs)=(kY cs:Bool):=rfl
theorem Wj{rows:List (List AV)}:jD (.fs rows)=(true:Bool):=rfl
theorem Wk{b o s n:Nat}:jD (.sl b o s n)=(false:Bool):=rfl
theorem Wl{b o:Nat}:jD (.pt b o)=(false:Bool):=rfl
theorem Wm{b:Nat}:jD (.mp b)=(false:Bool):=rfl
theorem Wn  : jD .nilsl=(true:Bool):=rfl
theorem Wo  : jD .nilpt=(true:Bool):=rfl
theorem Wp{g:Nat}{fs us:List AV}:jD (.fn (.func g) fs us)=((kY fs&&kY us):Bool):=rfl
theorem Wq{ty:TypeId}{v:AV}:jD (.ifc ty v)=(jD v:Bool):=rfl
theorem Wr  : jD .nilifc=(true:Bool):=rfl
theorem Wu{s:Nat→Option Nat}{k:IntKind}{n:Int}:rnA s (.int k n)=((.int k n):AV):=rfl
theorem Wv{s:Nat→Option Nat}{t:Bool}:rnA s (.bool t)=((.bool t):AV):=rfl
theorem Ww{s:Nat→Option Nat}{t:ByteArray}:rnA s (.str t)=((.str t):AV):=rfl
theorem Wy{s:Nat→Option Nat}{cs:List AV}:rnA s (.agg cs)=(.agg (kD s cs):AV):=rfl
theorem Wz{s:Nat→Option Nat}{cs:List AV}:rnA s (.tup cs)=(.tup (kD s cs):AV):=rfl
theorem W3{s:Nat→Option Nat}{rows:List (List AV)}:rnA s (.fs rows)=((.fs rows):AV):=rfl
theorem W4{s:Nat→Option Nat}{b o s2 n:Nat}:rnA s (.sl b o s2 n)=((match s b with|some c=>.sl c o s2 n|none=>.any):AV):=by simp only[rnA]<;>rfl
theorem W5{s:Nat→Option Nat}{b o:Nat}:rnA s (.pt b o)=((match s b with|some c=>.pt c o|none=>.any):AV):=by simp only[rnA]<;>rfl
theorem W6{s:Nat→Option Nat}{b:Nat}:rnA s (.mp b)=((match s b with|some c=>.mp c|none=>.any):AV):=by simp only[rnA]<;>rfl
theorem W7{s:Nat→Option Nat}  : rnA s .nilsl=(.nilsl:AV):=rfl
theorem W8{s:Nat→Option Nat}  : rnA s .nilpt=(.nilpt:AV):=rfl
theorem W9{s:Nat→Option Nat}{g:Nat}{fs us:List AV}:rnA s (.fn (.func g) fs us)=(.fn (.func g) (kD s fs) (kD s us):AV):=rfl
theorem WA{s:Nat→Option Nat}{l:Nat}{fs us:List AV}:rnA s (.fn (.yield l) fs us)=((match s l with|some c=>.fn (.yield c) (kD s fs) (kD s us)|none=>.any):AV):=by simp only[rnA]<;>rfl
theorem WB{s:Nat→Option Nat}{ty:TypeId}{v:AV}:rnA s (.ifc ty v)=(.ifc ty (rnA s v):AV):=rfl
theorem WC{s:Nat→Option Nat}  : rnA s .nilifc=(.nilifc:AV):=rfl
theorem WE{s:Nat→Option Nat}  : rnA s .any=(.any:AV):=rfl
theorem WF{k:IntKind}{n:Int}:slN (.int k n)=([]:List Nat):=rfl
theorem WG{t:Bool}:slN (.bool t)=([]:List Nat):=rfl
theorem WH{t:ByteArray}:slN (.str t)=([]:List Nat):=rfl
theorem WI{cs:List AV}:slN (.agg cs)=(xM cs:List Nat):=rfl
theorem WJ{cs:List AV}:slN (.tup cs)=(xM cs:List Nat):=rfl
theorem WK{rows:List (List AV)}:slN (.fs rows)=([]:List Nat):=rfl
theorem WL{b o s n:Nat}:slN (.sl b o s n)=([b]:List Nat):=rfl
theorem WM{b o:Nat}:slN (.pt b o)=([]:List Nat):=rfl
theorem WN  : slN .nilsl=([]:List Nat):=rfl
theorem WO  : slN .nilpt=([]:List Nat):=rfl
theorem WP{g:Nat}{fs us:List AV}:slN (.fn (.func g) fs us)=([]:List Nat):=rfl
theorem WQ{ty:TypeId}{v:AV}:slN (.ifc ty v)=(slN v:List Nat):=rfl
theorem WR  : slN .nilifc=([]:List Nat):=rfl
theorem WS{B:Nat}{C:List AV}{k:IntKind}{n:Int}:sH B C (.int k n)=((.int k n):AV):=rfl
theorem WT{B:Nat}{C:List AV}{t:ByteArray}:sH B C (.str t)=((.str t):AV):=rfl
theorem WU{B:Nat}{C:List AV}{cs:List AV}:sH B C (.agg cs)=(.agg (sG B C cs):AV):=rfl
theorem WV{B:Nat}{C:List AV}{cs:List AV}:sH B C (.tup cs)=(.tup (sG B C cs):AV):=rfl
theorem WW{B:Nat}{C:List AV}{rows:List (List AV)}:sH B C (.fs rows)=((.fs rows):AV):=rfl
theorem WX{B:Nat}{C:List AV}{b o s n:Nat}:sH B C (.sl b o s n)=((if b=B∧o+n*s≤C.length then .fs (bM C o s n) else .sl b o s n):AV):=rfl
theorem WY{B:Nat}{C:List AV}{b o:Nat}:sH B C (.pt b o)=((.pt b o):AV):=rfl
theorem WZ{B:Nat}{C:List AV}  : sH B C .nilsl=(.nilsl:AV):=rfl
theorem Va{B:Nat}{C:List AV}{l:Nat}{fs us:List AV}:sH B C (.fn (.yield l) fs us)=((.fn (.yield l) fs us):AV):=rfl
theorem Vb{k:IntKind}{n:Int}:sQ (.int k n)=((.int k n):AV):=rfl
theorem Vc{t:Bool}:sQ (.bool t)=((.bool t):AV):=rfl
theorem Vd{t:ByteArray}:sQ (.str t)=((.str t):AV):=rfl
theorem Ve{cs:List AV}:sQ (.agg cs)=(.agg (lT cs):AV):=rfl
theorem Vf{cs:List AV}:sQ (.tup cs)=(.tup (lT cs):AV):=rfl
theorem Vg{rows:List (List AV)}:sQ (.fs rows)=((.fs rows):AV):=rfl
theorem Vh{b o s n:Nat}:sQ (.sl b o s n)=((.sl b o s n):AV):=rfl
theorem Vi{b o:Nat}:sQ (.pt b o)=((.pt b o):AV):=rfl
theorem Vj  : sQ .nilsl=(.fs []:AV):=rfl
theorem Vk  : sQ .nilpt=(.nilpt:AV):=rfl
theorem Vl{g:Nat}{fs us:List AV}:sQ (.fn (.func g) fs us)=((.fn (.func g) fs us):AV):=rfl
theorem Vm{l:Nat}{fs us:List AV}:sQ (.fn (.yield l) fs us)=((.fn (.yield l) fs us):AV):=rfl
theorem Vn{ty:TypeId}{v:AV}:sQ (.ifc ty v)=((.ifc ty v):AV):=rfl
theorem Vo  : sQ .nilifc=(.nilifc:AV):=rfl
theorem Vp{k:IntKind}{n:Int}:cellsOf (.int k n)=(some [(.int k n)]:Option (List AV)):=rfl
theorem Vq{t:Bool}:cellsOf (.bool t)=(some [(.bool t)]:Option (List AV)):=rfl
theorem Vr{t:ByteArray}:cellsOf (.str t)=(some [(.str t)]:Option (List AV)):=rfl
theorem Vs{cs:List AV}:cellsOf (.agg cs)=(some cs:Option (List AV)):=rfl
theorem Vt{rows:List (List AV)}:cellsOf (.fs rows)=(some [(.fs rows)]:Option (List AV)):=rfl
theorem Vu{b o s n:Nat}:cellsOf (.sl b o s n)=(some [(.sl b o s n)]:Option (List AV)):=rfl
theorem Vv{b o:Nat}:cellsOf (.pt b o)=(some [(.pt b o)]:Option (List AV)):=rfl
theorem Vw{b:Nat}:cellsOf (.mp b)=(some [(.mp b)]:Option (List AV)):=rfl
theorem Vx  : cellsOf .nilsl=(some [.nilsl]:Option (List AV)):=rfl
theorem Vy{g:Nat}{fs us:List AV}:cellsOf (.fn (.func g) fs us)=(some [(.fn (.func g) fs us)]:Option (List AV)):=rfl
theorem Vz{ty:TypeId}{v:AV}:cellsOf (.ifc ty v)=(some [(.ifc ty v)]:Option (List AV)):=rfl
theorem V0{b o s n:Nat}:eH (.sl b o s n)=(some b:Option Nat):=rfl
theorem V1{b o:Nat}:eH (.pt b o)=(some b:Option Nat):=rfl
theorem V2  : eH .nilsl=(none:Option Nat):=rfl
def aKT(k:Nat)(acc:List Nat)(h:XH)(r:List Nat):XH:=r.map fun b=>rnO (keepS k acc) (hat h b)
def aSu(acc:List Nat)(h:XH)(r:List Nat):XH:=r.map fun b=>rnO (fun b=>fR b acc) (hat h b)
def fzQ(fz:List (Nat×Bool))(e:aH)(h:XH):List Nat:=fz.flatMap (aPR e h)
def aWI(h:XH):Option XB→List Nat
 | some (.blk false (.cells _ cs))=>kP h 2 (xM cs)
 | _=>[]
def fzD(h:XH)(v:AV):List Nat:=match v with
 | .pt b _=>match hat h b with
  | some (.blk false (.cells _ cs))=>kP h 2 (xM cs)
  | _=>[]
 | _=>[]
def kF(own:Bool)(k:Nat)(h:XH)(r:Option AV):Option (AV×XH):=r.map fun v=>nU own k v h
def aPZ(k:Nat)(h:XH)(v:AV)(acc:List Nat):AV×XH:=(rnA (keepS k acc) v,mR k acc h)
def bCS(k:Nat)(p:aH×XH):AV×XH:=aPZ k p.2 (sQ (p.1 0)) (cY k [sQ (p.1 0)] p.2)
def aOF:Option (List AV)→Option AV
 | some [v]=>some v
 | some vs=>some (.tup vs)
 | none=>none
def aOG:Option AV→Option (List AV)→Option (List AV)
 | some v,some vs=>some (v::vs)
 | _,_=>none
def aLn(v:AV)(a b:aH→XH→Option (DX×aH×XH))(e:aH)(h:XH):Option (DX×aH×XH):=match v with
 | .bool true=>a e h
 | .bool false=>b e h
 | _=>none
def ldM(agg:Bool)(n o:Nat):Option ABlk→Option AV
 | some (.cells _ cs)=>iT agg n cs o
 | _=>none
def ldR(agg:Bool)(n o:Nat):Option (List AV)→Option AV
 | some r=>iT agg n r o
 | none=>none
def stM(n b o:Nat)(h:XH):Option XB→Option (List AV)→Option XH
 | some (.blk g (.cells true cs)),some vs=>if vs.length=n∧o+n≤cs.length then some (h.set b (some (.blk (g&&kY vs) (.cells true (bG cs o vs))))) else none
 | _,_=>none
def muM(q:Nat)(b:Nat)(h:XH)(k x:AV):Option XB→Option XH
 | some (.blk g (.map true es))=>(kA q k x es).map fun es'=>h.set b (some (.blk (g&&(jD k&&jD x)) (.map true es')))
 | _=>none
def flM:Option XB→Bool
 | some (.blk g _)=>g
 | _=>false

theorem V3{x:Option XB}{h:XH}{b:Nat}:hat (x::h) b=if b=0 then x else hat h (b-1):=by cases b<;>simp[hat]
def hpM:Option XB→Option ABlk
 | some (.blk _ x)=>some x
 | _=>none
theorem V4{h:XH}{b:Nat}:aI h b=hpM (hat h b):=rfl
theorem V5{g:Bool}{x:ABlk}:hpM (some (.blk g x))=some x:=rfl
theorem V6{α:Type}{x y:α}{h:List α}{b:Nat}:(x::h).set b y=if b=0 then y::h else x::h.set (b-1) y:=by cases b<;>simp
theorem V7{α:Type}{x:α}{l:List α}{n:Nat}:(x::l).take n=if n=0 then [] else x::l.take (n-1):=by cases n<;>simp
theorem V8{α:Type}{n:Nat}:([]:List α).take n=[]:=by simp
theorem V9{α:Type}{x:α}{l:List α}{n:Nat}:(x::l).drop n=if n=0 then x::l else l.drop (n-1):=by cases n<;>simp
theorem VA{α:Type}{n:Nat}:([]:List α).drop n=[]:=by simp
theorem VB{α:Type}{x d:α}{l:List α}{n:Nat}:(x::l).getD n d=if n=0 then x else l.getD (n-1) d:=by cases n<;>simp
theorem VC{α:Type}{x:α}{l:List α}{n:Nat}:(x::l)[n]?=if n=0 then some x else l[n-1]?:=by cases n<;>simp
theorem VD{α:Type}{a:α}:(a∈([]:List α))=False:=by simp
theorem VE{α:Type}{a b:α}{l:List α}:(a∈b::l)=(a=b∨a∈l):=by simp
theorem VF{acc:List Nat}{b:Nat}:aOY acc b=fR b acc:=rfl
theorem VG{b:Nat}:fR b []=none:=rfl
theorem VH{b c:Nat}{r:List Nat}:fR b (c::r)=if b=c then some 0 else (fR b r).map (· + 1):=rfl
theorem VI{k:Nat}{acc:List Nat}{b:Nat}:keepS k acc b=if b<k then some b else (fR b acc).map (· + k):=rfl
theorem VJ{acc:List Nat}{n i:Nat}:gQ acc n i=if i<acc.length then acc[i]? else some (n+(i-acc.length)):=rfl
theorem VK{h:XH}{k n:Nat}{acc:List Nat}:cI h k n [] acc=acc:=by cases n<;>rfl
def aJm(h:XH)(k n:Nat)(r:List Nat)(acc:List Nat)(b:Nat):Option XB→List Nat
 | none=>cI h k n r acc
 | some x=>cI h k n (nmB x++r) (acc++[b])
theorem VL{h:XH}{k n:Nat}{r acc:List Nat}{b:Nat}:aJm h k n r acc b none=cI h k n r acc:=rfl
theorem VM{h:XH}{k n:Nat}{r acc:List Nat}{b:Nat}{x:XB}:aJm h k n r acc b (some x)=cI h k n (nmB x++r) (acc++[b]):=rfl
theorem VN{h:XH}{k n:Nat}{b:Nat}{r acc:List Nat}:cI h k n (b::r) acc=if n=0 then acc else if b<k∨b∈acc then cI h k (n-1) r acc else aJm h k (n-1) r acc b (hat h b):=by
 cases n with
 | zero=>rfl
 | succ n=>simp only[cI,Nat.add_one_ne_zero,AAd,aB8];cases hat h b<;>rfl
theorem VO{xs:List AV}{h:XH}:gZ xs h=cI h 0 4096 (kB xs) []:=rfl
theorem VP{k:Nat}{vs:List AV}{h:XH}:cY k vs h=cI h k 4096 (kB vs++(cW k h).flatMap nmO) []:=rfl
theorem VQ{n:Nat}:cW n []=List.replicate n none:=by induction n with
 | zero=>rfl
 | succ n ih=>simp[cW,ih,H6]
theorem VR{x:Option XB}{h:XH}{n:Nat}:cW n (x::h)=if n=0 then [] else x::cW (n-1) h:=by cases n<;>rfl
theorem VS{k:Nat}{acc:List Nat}{h:XH}:mR k acc h=(cW k h).map (rnO (keepS k acc))++aKT k acc h acc:=rfl
theorem VT{k:Nat}{acc:List Nat}{h:XH}:aKT k acc h []=[]:=rfl
theorem VU{k:Nat}{acc:List Nat}{h:XH}{b:Nat}{r:List Nat}:aKT k acc h (b::r)=rnO (keepS k acc) (hat h b)::aKT k acc h r:=rfl
theorem VV{acc:List Nat}{h:XH}:iK acc h=aSu acc h acc:=rfl
theorem VW{acc:List Nat}{h:XH}:aSu acc h []=[]:=rfl
theorem VX{acc:List Nat}{h:XH}{b:Nat}{r:List Nat}:aSu acc h (b::r)=rnO (aOY acc) (hat h b)::aSu acc h r:=rfl
theorem VY{s:Nat→Option Nat}:rnO s none=none:=rfl
theorem VZ{s:Nat→Option Nat}{x:XB}:rnO s (some x)=some (rnB s x):=rfl
theorem Ua{s:Nat→Option Nat}{x:ABlk}:rnB s (.blk true x) = .blk true x:=by cases x<;>rfl
theorem Ub{s:Nat→Option Nat}{w:Bool}{cs:List AV}:rnB s (.blk false (.cells w cs)) = .blk false (.cells w (kD s cs)):=rfl
theorem PI{s:Nat→Option Nat}{st:dU}{p:Hp→Nat→Prop}:rnB s (.gh st p) = .gh st p:=rfl
theorem Uc{s:Nat→Option Nat}{K site:Nat}{vs:List AV}{st:LSt}:rnB s (.loop K site vs st) = .loop K site (kD s vs) st:=rfl
theorem Ud:nmO none=[]:=rfl
theorem Ue{x:XB}:nmO (some x)=nmB x:=rfl
theorem Uf{x:ABlk}:nmB (.blk true x)=[]:=by cases x<;>rfl
theorem Ug{w:Bool}{cs:List AV}:nmB (.blk false (.cells w cs))=kB cs:=rfl
theorem PJ{st:dU}{p:Hp→Nat→Prop}:nmB (.gh st p)=[]:=rfl
theorem Uh{K site:Nat}{vs:List AV}{st:LSt}:nmB (.loop K site vs st)=kB vs:=rfl
theorem Ui{acc:List Nat}{h hl:XH}{v:AV}:kM acc h (some (v,hl))=some (rnA (gQ acc h.length) v,jJ acc h hl):=rfl
theorem Uj{acc:List Nat}{h hl:XH}:jJ acc h hl=yY h acc ((cW acc.length hl).map (rnO (gQ acc h.length)))++(hl.drop acc.length).map (rnO (gQ acc h.length)):=rfl
theorem Uk{h:XH}{xs:XH}:yY h [] xs=h:=by cases xs<;>rfl
theorem Ul{h:XH}{b:Nat}{bs:List Nat}{x:Option XB}{xs:XH}:yY h (b::bs) (x::xs)=yY (h.set b x) bs xs:=rfl
theorem Um{a:Nat}:List.elem a []=false:=rfl
theorem Un{a b:Nat}{l:List Nat}:List.elem a (b::l)=if a=b then true else List.elem a l:=by
 by_cases h:a=b;·simp only[List.elem,h,AAe,beq_self_eq_true]
 ·simp only[List.elem,show (a==b)=false by simpa using h,if_neg h]
theorem Uo{g:Nat}{first cap as:List AV}{h:XH}:iU (.fn (.func g) first cap) as h=vS (lB g) (first++as++cap) h:=rfl
theorem PH{all:List AV}{h:XH}:vS false all h=gZ all h:=rfl
theorem Ur{α:Type}{x:α}:(some x).isSome=true:=rfl
theorem Us{b:Bool}:(b==true)=b:=by cases b<;>rfl
def fzE(b:Nat)(cs:List AV)(e:aH):aH:=fun j=>sH b cs (e j)
theorem Ut{b:Nat}{cs:List AV}{e:aH}{j:Nat}:fzE b cs e j=sH b cs (e j):=rfl
def aSJ(b:Nat)(e:aH)(h:XH):Option XB→aH×XH
 | some (.blk true (.cells _ cs))=>(fzE b cs e,(h.map (fzO b cs)).set b none)
 | _=>(e,h)
theorem Uu{b:Nat}{e:aH}{h:XH}{w:Bool}{cs:List AV}:aSJ b e h (some (.blk true (.cells w cs)))=(fzE b cs e,(h.map (fzO b cs)).set b none):=rfl
theorem aWK{b:Nat}{e:aH}{h:XH}:fz1 b e h=aSJ b e h (hat h b):=by
 unfold fz1 aSJ;cases hat h b with
 | none=>rfl
 | some x=>cases x with
   | loop=>rfl
   | gh=>rfl
   | blk g x=>cases g<;>cases x<;>rfl
def fzP(r:List Nat)(p:aH×XH):aH×XH:=aAS r p.1 p.2
theorem Uv{r:List Nat}{e:aH}{h:XH}:fzP r (e,h)=aAS r e h:=rfl
theorem Uw{e:aH}{h:XH}:aAS [] e h=(e,h):=rfl
theorem Ux{b:Nat}{r:List Nat}{e:aH}{h:XH}:aAS (b::r) e h=fzP r (aSJ b e h (hat h b)):=by rw[←aWK];rfl
def nzP(fz:List (Nat×Bool))(p:aH×XH):aH×XH:=(nzE fz p.1,p.2)
theorem Pe{fz:List (Nat×Bool)}{e:aH}{h:XH}:nzP fz (e,h)=(nzE fz e,h):=rfl
theorem Pf{e:aH}:nzE [] e=e:=rfl
theorem Pg{k:Nat}{r:List (Nat×Bool)}{e:aH}:nzE ((k,true)::r) e=nzE r e:=rfl
theorem Ph{k j:Nat}{r:List (Nat×Bool)}{e:aH}:nzE ((k,false)::r) e j=if j=k then sQ (nzE r e j) else nzE r e j:=rfl
def fzY(fz:List (Nat×Bool))(e:aH)(h:XH):aH×XH:=nzP fz (aAS (fzQ fz e h) e h)
theorem Uy{fz:List (Nat×Bool)}{e:aH}{h:XH}:fzX fz e h=fzY fz e (wO fz e h):=rfl
theorem Pj{fz:List (Nat×Bool)}{e:aH}{h:XH}:fzY fz e h=nzP fz (aAS (fzQ fz e h) e h):=rfl
theorem Pk{e:aH}{h:XH}:wO [] e h=h:=rfl
theorem Pl{k:Nat}{b:Bool}{r:List (Nat×Bool)}{e:aH}{h:XH}:wO ((k,b)::r) e h=if 1000000≤k then aKo (e (k-1000000)) (wO r e h) else wO r e h:=rfl
theorem Uz{e:aH}{h:XH}:fzQ [] e h=[]:=rfl
theorem U0{j:Nat}{r:List (Nat×Bool)}{e:aH}{h:XH}:fzQ ((j,false)::r) e h=kP h 2 (slN (e j))++fzQ r e h:=rfl
theorem U6{j:Nat}{r:List (Nat×Bool)}{e:aH}{h:XH}:fzQ ((j,true)::r) e h=fzD h (e j)++fzQ r e h:=by
 simp only[fzQ,aC1,aPR,fzD]<;>rfl
theorem U7{b o:Nat}{h:XH}:fzD h (.pt b o)=aWI h (hat h b):=rfl
theorem U8{h:XH}{w:Bool}{cs:List AV}:aWI h (some (.blk false (.cells w cs)))=kP h 2 (xM cs):=rfl
theorem U9{h:XH}{x:ABlk}:aWI h (some (.blk true x))=[]:=by cases x<;>rfl
def dpM(h:XH)(n b:Nat)(x:Option XB):List Nat:=aUl (kP h n) b x
theorem QM{h:XH}{n:Nat}:kP h n []=[]:=by cases n<;>rfl
theorem QN{h:XH}{b:Nat}{r:List Nat}:kP h 1 (b::r)=dpM h 0 b (hat h b)++kP h 1 r:=by simp only[kP,aC1,dpM]
theorem QO{h:XH}{b:Nat}{r:List Nat}:kP h 2 (b::r)=dpM h 1 b (hat h b)++kP h 2 r:=by simp only[kP,aC1,dpM]
theorem QQ{h:XH}{n b:Nat}{w:Bool}{cs:List AV}:dpM h n b (some (.blk false (.cells w cs)))=kP h n (xM cs)++[b]:=rfl
theorem QR{h:XH}{n b:Nat}{x:ABlk}:dpM h n b (some (.blk true x))=[b]:=by cases x<;>rfl
theorem UA{b:Nat}{cs:List AV}:fzO b cs none=none:=rfl
theorem UB{b:Nat}{cs:List AV}{x:XB}:fzO b cs (some x)=some (fzB b cs x):=rfl
theorem UC{b:Nat}{cs vs:List AV}{w:Bool}:fzB b cs (.blk false (.cells w vs)) = .blk (kY (sG b cs vs)) (.cells w (sG b cs vs)):=rfl
theorem UD{b:Nat}{cs:List AV}{x:ABlk}:fzB b cs (.blk true x) = .blk true x:=by cases x<;>rfl
theorem UE{b:Nat}{cs vs:List AV}{K site:Nat}{st:LSt}:fzB b cs (.loop K site vs st) = .loop K site vs st:=rfl
theorem Qm{cs:List AV}{o s:Nat}:bM cs o s 0=[]:=rfl
theorem Qn{cs:List AV}{o s:Nat}:bM cs o s 1=(cs.drop o).take s::bM cs (o+s) s 0:=rfl
theorem Qo{cs:List AV}{o s:Nat}:bM cs o s 2=(cs.drop o).take s::bM cs (o+s) s 1:=rfl
theorem Qp{cs:List AV}{o s:Nat}:bM cs o s 3=(cs.drop o).take s::bM cs (o+s) s 2:=rfl
theorem Qq{cs:List AV}{o s:Nat}:bM cs o s 4=(cs.drop o).take s::bM cs (o+s) s 3:=rfl
theorem Qr{cs:List AV}{o s:Nat}:bM cs o s 5=(cs.drop o).take s::bM cs (o+s) s 4:=rfl
theorem UF{res:List (Nat×Option (Bool×Nat))}{own:Bool}{k:Nat}{e:aH}{h:XH}:eX none res own k (some (.normal,e,h))=kF own k h (jZ res e (aI h)):=rfl
theorem UG{res:List (Nat×Option (Bool×Nat))}{own:Bool}{k:Nat}{e:aH}{h:XH}:eX none res own k (some (.ret,e,h))=kF own k h (jZ res e (aI h)):=rfl
theorem UH{own:Bool}{k:Nat}{h:XH}{v:AV}:kF own k h (some v)=some (nU own k v h):=rfl
theorem UI{k:Nat}{h:XH}{v:AV}:nU true k v h=aPZ k h v (cY k [v] h):=by simp[nU,aPZ,upd]
theorem UJ{k:Nat}{h:XH}{v:AV}:nU false k v h=bCS k (aAS (kP h 2 (slN v)) (upd anyE 0 v) h):=rfl
theorem UK{k:Nat}{h:XH}{e:aH}:bCS k (e,h)=aPZ k h (sQ (e 0)) (cY k [sQ (e 0)] h):=rfl
theorem UL{k:Nat}{h:XH}{v:AV}{acc:List Nat}:aPZ k h v acc=(rnA (keepS k acc) v,mR k acc h):=rfl
theorem UM{rs:List (Nat×Option (Bool×Nat))}{e:aH}{h:Hp}:jZ rs e h=aOF (wI e h rs):=by unfold jZ aOF;cases wI e h rs<;>rfl
theorem UN{v:AV}:aOF (some [v])=some v:=rfl
theorem UO:aOF (some [])=some (.tup []):=rfl
theorem UP{v u:AV}{r:List AV}:aOF (some (v::u::r))=some (.tup (v::u::r)):=rfl
theorem UQ{e:aH}{h:Hp}:wI e h []=some []:=rfl
theorem UR{e:aH}{h:Hp}{x:Nat×Option (Bool×Nat)}{r:List (Nat×Option (Bool×Nat))}:wI e h (x::r)=aOG (uB e h x) (wI e h r):=by simp only[wI,aOG]<;>rfl
theorem US{v:AV}{vs:List AV}:aOG (some v) (some vs)=some (v::vs):=rfl
theorem UT{e:aH}{h:Hp}{t:Nat}:uB e h (t,none)=some (e t):=rfl
theorem UU{e:aH}{h:Hp}{a n:Nat}{g:Bool}:uB e h (a,some (g,n))=fG g n h (e a):=rfl
theorem UV{as:List AV}{k:Nat}:aV as k=as.getD k .any:=rfl
theorem UW{k:Nat}{ks:List Nat}{v:AV}{vs:List AV}{j:Nat}:aZ (k::ks) (v::vs) j=if j=k then v else aZ ks vs j:=rfl
theorem UX{k:Nat}{L:List Nat}{e:aH}{h:XH}:yF k L e h=kD (keepS k (cY k (L.map e) h)) (L.map e):=rfl
theorem UY{k:Nat}{L:List Nat}{e:aH}{h:XH}:jK k L e h=mR k (cY k (L.map e) h) h:=rfl
theorem UZ{D:Nat→Option XFn}{K k:Nat}{rd:Option Nat}{e:aH}{h:XH}{c:AO}{a b:XCode}:execW D K k rd (.cond c a b) e h=aLn (aL e c) (execW D K k rd a) (execW D K k rd b) e h:=by
 rw[aJH];unfold aLn;cases aL e c with
 | bool t=>cases t<;>rfl
 | _=>rfl
theorem Ta{a b:aH→XH→Option (DX×aH×XH)}{e:aH}{h:XH}:aLn (.bool true) a b e h=a e h:=rfl
theorem Tb{a b:aH→XH→Option (DX×aH×XH)}{e:aH}{h:XH}:aLn (.bool false) a b e h=b e h:=rfl
theorem Tc{id:Nat}{e:aH}{h:XH}:aGJ (some (.exit id,e,h))=true:=rfl
theorem Td{e:aH}{h:XH}:aGJ (some (.ret,e,h))=true:=rfl
def aXl(x:AV):Option Eff:=match x with
    | .str s=>some (.new none (.cells true (s.data.toList.map fun b=>.int .u8 (b.toNat:Int))) fun b=>.sl b 0 1 s.size)
    | _=>none
def aXn:Option (List AV)→Option Eff
    | some cs=>some (.new none (.cells true cs) fun b=>.pt b 0)
    | none=>none
def aXm(s n:Nat):Option (List AV)→Option Eff
    | some cs=>some (.new none (.cells true cs) fun b=>.sl b 0 s n)
    | none=>none
def aWe(s bytes:Nat)(z:List AV)(l c:AV):Option Eff:=match l,c with
    | .int .i64 l,.int .i64 c=>if 0≤l∧l≤c∧(bytes:Int)*c≤281474976710656∧c≤9223372036854775807 then
     some (.new none (.cells true (List.replicate c.toNat z).flatten) fun b=>.sl b 0 s l.toNat) else none
    | _,_=>none
theorem Te:(false=true)=False:=by simp
theorem Tf{α β:Type}{f:α→β}{a:α}{l:List α}:(a::l).map f=f a::l.map f:=rfl
theorem Tg{α β:Type}{f:α→β}:([]:List α).map f=[]:=rfl
theorem Th{α:Type}{a:α}{l s:List α}:(a::l)++s=a::(l++s):=rfl
theorem Ti{α:Type}{s:List α}:[]++s=s:=rfl
theorem Tj{α:Type}{s:List α}:s++[]=s:=by simp
theorem Tl{α β:Type}{f:α→List β}{a:α}{l:List α}:(a::l).flatMap f=f a++l.flatMap f:=by simp
theorem Tm{α β:Type}{f:α→List β}:([]:List α).flatMap f=[]:=rfl
theorem Tn{α:Type}{a:α}{l:List α}:(a::l).length=l.length+1:=rfl
theorem Tp{α:Type}:([]:List α).length=0:=rfl
theorem Tq{α β:Type}{f:α→β}{l:List α}:(l.map f).length=l.length:=by simp
theorem Tr{α β:Type}{f:α→β}{l:List α}{i:Nat}:(l.map f)[i]?=l[i]?.map f:=by simp
theorem Ts{α β:Type}{f:α→β}{a:α}:(some a).map f=some (f a):=rfl
theorem Tt{α β:Type}{f:α→β}:(none:Option α).map f=none:=rfl
theorem Tu{b:Bool}:(true&&b)=b:=by simp
theorem Tv{b:Bool}:(b&&true)=b:=by simp
theorem Tw{b:Bool}:(false&&b)=false:=by simp
theorem Tx{b:Bool}:(b&&false)=false:=by simp
theorem Ty:(!true)=false:=rfl
theorem Tz:(!false)=true:=rfl
theorem T0{b:Bool}:(true||b)=true:=by simp
theorem T1{b:Bool}:(b||true)=true:=by simp
theorem T2{p:Prop}:(p∧True)=p:=by simp
theorem T3{p:Prop}:(False∧p)=False:=by simp
theorem T4{p:Prop}:(p∧False)=False:=by simp
theorem T5{p:Prop}:(p∨True)=True:=by simp
theorem T6{p:Prop}:(p∨False)=p:=by simp
theorem T7{i:Decidable True}:decide True=true:=by simp
theorem T8{i:Decidable False}:decide False=false:=by simp
theorem T9{α:Type}{f:α→Bool}:[].all f=true:=rfl
theorem TR{α:Type}{f:α→Bool}{a:α}{l:List α}:(a::l).all f=(f a&&l.all f):=rfl
theorem TS{α:Type}{a:α}:List.replicate 0 a=[]:=rfl
theorem Qh{α:Type}{a:α}:List.replicate 1 a=[a]:=rfl
theorem Qi{α:Type}{a:α}:List.replicate 2 a=[a,a]:=rfl
theorem Qj{α:Type}{a:α}:List.replicate 3 a=[a,a,a]:=rfl
theorem Qk{α:Type}{a:α}:List.replicate 4 a=[a,a,a,a]:=rfl
theorem Ql{α:Type}{a:α}:List.replicate 5 a=[a,a,a,a,a]:=rfl
theorem TT:kB []=[]:=by simp only[kB]
theorem TU{v:AV}{r:List AV}:kB (v::r)=(kC v++kB r):=by simp only[kB]
theorem TV{s:Nat→Option Nat}:kD s []=[]:=by simp only[kD]
theorem TW{s:Nat→Option Nat}{v:AV}{r:List AV}:kD s (v::r)=(rnA s v::kD s r):=by simp only[kD]
theorem TX:kY []=true:=by simp only[kY]
theorem TY{v:AV}{r:List AV}:kY (v::r)=(jD v&&kY r):=by simp only[kY]
theorem TZ:xM []=[]:=by simp only[xM]
theorem Sa{v:AV}{r:List AV}:xM (v::r)=(slN v++xM r):=by simp only[xM]
theorem Sc{B:Nat}{C:List AV}:sG B C []=[]:=by simp only[sG]
theorem Sd{B:Nat}{C:List AV}{v:AV}{r:List AV}:sG B C (v::r)=(sH B C v::sG B C r):=by simp only[sG]
theorem Se:lT []=[]:=by simp only[lT]
theorem Sf{v:AV}{r:List AV}:lT (v::r)=(sQ v::lT r):=by simp only[lT]
theorem Sg{a:AV}{z cs:List AV}{off:Nat}:bG (a::z) off cs=(a::z).take off++cs++(a::z).drop (off+cs.length):=rfl
theorem Si{z:List AV}:gG z []=some z:=rfl
def aWQ(z:List AV)(off n:Nat)(rest:List (Nat×Nat×AV)):Option (List AV)→Option (List AV)
 | some cs=>if cs.length=n∧off+n≤z.length then gG (bG z off cs) rest else none
 | none=>none
theorem Sj{z:List AV}{off n:Nat}{v:AV}{rest:List (Nat×Nat×AV)}:gG z ((off,n,v)::rest)=aWQ z off n rest (cellsOf v):=by simp only[gG,aWQ]<;>rfl
theorem Sk{z cs:List AV}{off n:Nat}{rest:List (Nat×Nat×AV)}:aWQ z off n rest (some cs)=if cs.length=n∧off+n≤z.length then gG (bG z off cs) rest else none:=rfl
theorem Sl{k k':IntKind}{a b:Int}:kU 0 (.int k a) (.int k' b)=if k=k' then some (decide (a=b)) else none:=rfl
theorem Sm:bC [] [] []=some true:=rfl
def aXh:Option Bool→Option Bool→Option Bool
 | some x,some y=>some (x&&y)
 | _,_=>none
theorem Sn{k:Nat}{ks:List Nat}{a b:AV}{r s:List AV}:bC (k::ks) (a::r) (b::s)=aXh (kU k a b) (bC ks r s):=by simp only[bC,aXh]<;>rfl
theorem Sp{x y:Bool}:aXh (some x) (some y)=some (x&&y):=rfl
theorem Sq{c d:Nat}{e:aH}:aS c d e none=some d:=rfl
def boM(cap:Nat):AV→Option Nat
 | .int _ n=>if 0≤n∧n≤(cap:Int) then some n.toNat else none
 | _=>none
theorem Sr{c d:Nat}{e:aH}{x:AO}:aS c d e (some x)=boM c (aL e x):=by simp only[aS,boM]<;>rfl
theorem Ss{c:Nat}{k:IntKind}{n:Int}:boM c (.int k n)=if 0≤n∧n≤(c:Int) then some n.toNat else none:=rfl
theorem Su{e:aH}{p:Nat}{ps:List Nat}{v:AV}{vs:List AV}:pR e (p::ps) (v::vs)=pR (upd e p v) ps vs:=rfl
theorem Sv{e:aH}{vs:List AV}:pR e [] vs=e:=rfl
theorem Sw{H:Hp}{x:AO}{e:aH}:aD (.box x) e H=aXn (cellsOf (aL e x)):=by simp only[aD,aXn]<;>rfl
theorem Sx{cs:List AV}:aXn (some cs)=some (.new none (.cells true cs) fun b=>.pt b 0):=rfl
theorem Sy{s n:Nat}{z:List AV}{ps:List (Nat×Nat×AO)}{e:aH}{H:Hp}:aD (.bslice s n z ps) e H=aXm s n (gG (List.replicate n z).flatten (ps.map fun p=>(p.1,p.2.1,aL e p.2.2))):=by simp only[aD,aXm]<;>rfl
theorem Sz{s n:Nat}{cs:List AV}:aXm s n (some cs)=some (.new none (.cells true cs) fun b=>.sl b 0 s n):=rfl
theorem S2{α:Type}:([]:List (List α)).flatten=[]:=rfl
theorem S3{α:Type}{a:List α}{l:List (List α)}:(a::l).flatten=a++l.flatten:=rfl
theorem S4{e:aH}{H:Hp}:aD .mkmap e H=some (.new none (.map true []) fun b=>.mp b):=rfl
theorem S5{s b:Nat}{z:List AV}{l c:AO}{e:aH}{H:Hp}:aD (.mksl s b z l c) e H=aWe s b z (aL e l) (aL e c):=by simp only[aD,aWe]<;>rfl
theorem S6{s b:Nat}{z:List AV}{l c:Int}:aWe s b z (I l) (I c)=if 0≤l∧l≤c∧(b:Int)*c≤281474976710656∧c≤9223372036854775807 then
        some (.new none (.cells true (List.replicate c.toNat z).flatten) fun b=>.sl b 0 s l.toNat) else none:=rfl
theorem S7{s:Nat}{H:Hp}{rows:List (List AV)}:eT s H (.fs rows)=if rows.all (fun r=>r.length==s) then some (rows.length,rows.flatten) else none:=rfl
def aVj(s o s' len:Nat):Option ABlk→Option (Nat×List AV)
    | some (.cells _ cs)=>if s'=s∧o+len*s≤cs.length then some (len,(cs.drop o).take (len*s)) else none
    | _=>none
theorem S8{s b o s' n:Nat}{H:Hp}:eT s H (.sl b o s' n)=aVj s o s' n (H b):=by simp only[eT,aVj]<;>rfl
theorem S9{s o s' len:Nat}{w:Bool}{cs:List AV}:aVj s o s' len (some (.cells w cs))=if s'=s∧o+len*s≤cs.length then some (len,(cs.drop o).take (len*s)) else none:=rfl
def aKb(s bytes:Nat)(H:Hp)(x:AV):Option (Nat×List AV)→Option Eff
 | none=>none
 | some (n,new) =>
   match x with
   | .cs rows=>if rows.all (fun r=>r.length==s)∧n≠0∧(rows.length+n)*bytes≤1099511627776∧rows.length+n≤1099511627776 then some (.new none (.cells true (rows.flatten++new)) fun b=>.sl b 0 s (rows.length+n)) else none
   | .nilsl=>if n*bytes≤1099511627776∧n≤1099511627776 then (if n=0 then some (.val .nilsl) else some (.new none (.cells true new) fun b=>if bytes=1048577 then .sb b n else .sl b 0 s n)) else none
   | .sb b len=>match H b with
     | some (.cells true cs)=>if bytes=1048577∧s=1∧len=cs.length∧len+n≤1099511627776 then some (.new (some b) (.cells true (cs++new)) fun b=>.sb b (len+n)) else none
     | _=>none
   | .sl b 0 s' len=>match H b with
     | some (.cells true cs)=>if s'=s∧len*s=cs.length∧(len+n)*bytes≤1099511627776∧len+n≤1099511627776 then some (.new (some b) (.cells true (cs++new)) fun b=>.sl b 0 s (len+n)) else none
     | _=>none
   | _=>none
def aQI(s bytes n:Nat)(new:List AV)(b len:Nat):Option ABlk→Option Eff
 | some (.cells true cs)=>if bytes=1048577∧s=1∧len=cs.length∧len+n≤1099511627776 then some (.new (some b) (.cells true (cs++new)) fun b=>.sb b (len+n)) else none
 | _=>none
def aQJ(s bytes n:Nat)(new:List AV)(b s' len:Nat):Option ABlk→Option Eff
 | some (.cells true cs)=>if s'=s∧len*s=cs.length∧(len+n)*bytes≤1099511627776∧len+n≤1099511627776 then some (.new (some b) (.cells true (cs++new)) fun b=>.sl b 0 s (len+n)) else none
 | _=>none
theorem SA{s bytes:Nat}{H:Hp}{x y:AV}:pC s bytes H x y=aKb s bytes H x (eT s H y):=by
 unfold pC aKb;cases eT s H y<;>rfl
theorem SB{s bytes n:Nat}{H:Hp}{new:List AV}:aKb s bytes H .nilsl (some (n,new))=if n*bytes≤1099511627776∧n≤1099511627776 then (if n=0 then some (.val .nilsl) else some (.new none (.cells true new) fun b=>if bytes=1048577 then .sb b n else .sl b 0 s n)) else none:=rfl
theorem Pp{s bytes n b len:Nat}{H:Hp}{new:List AV}:aKb s bytes H (.sb b len) (some (n,new))=aQI s bytes n new b len (H b):=by simp only[aKb,aQI]<;>rfl
theorem Pq{s bytes n b len:Nat}{cs new:List AV}:aQI s bytes n new b len (some (.cells true cs))=if bytes=1048577∧s=1∧len=cs.length∧len+n≤1099511627776 then some (.new (some b) (.cells true (cs++new)) fun b=>.sb b (len+n)) else none:=rfl
theorem SC{s bytes n b s' len:Nat}{H:Hp}{new:List AV}:aKb s bytes H (.sl b 0 s' len) (some (n,new))=aQJ s bytes n new b s' len (H b):=by simp only[aKb,aQJ]<;>rfl
theorem SD{s bytes n b s' len:Nat}{cs new:List AV}:aQJ s bytes n new b s' len (some (.cells true cs))=if s'=s∧len*s=cs.length∧(len+n)*bytes≤1099511627776∧len+n≤1099511627776 then some (.new (some b) (.cells true (cs++new)) fun b=>.sl b 0 s (len+n)) else none:=rfl
theorem Ro{e:aH}{n:Nat}:aL e (.t n)=e n:=rfl
theorem Rp{e:aH}{v:AV}:aL e (.c v)=v:=rfl
theorem Rq:wL 0 .nilsl .nilsl=some true:=rfl
theorem Rr{b o s n:Nat}:wL 0 (.sl b o s n) .nilsl=some false:=rfl
theorem Rs:wL 2 .nilfn .nilfn=some true:=rfl
theorem Rt{f:Fn}{a b:List AV}:wL 2 (.fn f a b) .nilfn=some false:=rfl
theorem Ru:wL 3 .nilpt .nilpt=some true:=rfl
theorem Rw{b o:Nat}:wL 3 (.pt b o) .nilpt=some false:=rfl
def aRy(len s b o n h:Nat):Option Nat→Option Eff
 | some l=>if o+len*s≤n∧l<len then some (.val (.sl b (o+l*s) s (h-l))) else none
 | none=>none
def aRz(len s:Nat)(e:aH)(lo:Option AO)(b o:Nat):Option ABlk→Option Nat→Option Eff
 | some (.cells _ cs),some h=>aRy len s b o cs.length h (aS h 0 e lo)
 | _,_=>none
def aVl(len s:Nat)(e:aH)(lo:Option AO)(H:Hp)(r:Option Nat):AV→Option Eff
 | .pt b o=>aRz len s e lo b o (H b) r
 | _=>none
theorem Rx{len s:Nat}{x:AO}{lo hi:Option AO}{e:aH}{H:Hp}:aD (.slarr len s x lo hi) e H=aVl len s e lo H (aS len len e hi) (aL e x):=by
 simp only[aD,aVl];cases aL e x with
 | pt b o =>
   simp only[];cases H b with
   | none=>rfl
   | some c =>
     cases c with
     | cells w cs =>
       cases aS len len e hi with
       | none=>rfl
       | some h=>simp only[aRz,aRy];cases aS h 0 e lo<;>rfl
     | _=>rfl
 | _=>rfl
theorem Ry{len s b o:Nat}{e:aH}{lo:Option AO}{H:Hp}{r:Option Nat}:aVl len s e lo H r (.pt b o)=aRz len s e lo b o (H b) r:=rfl
theorem Rz{len s b o h:Nat}{e:aH}{lo:Option AO}{w:Bool}{cs:List AV}:aRz len s e lo b o (some (.cells w cs)) (some h)=aRy len s b o cs.length h (aS h 0 e lo):=rfl
theorem RA{len s b o n h l:Nat}:aRy len s b o n h (some l)=if o+len*s≤n∧l<len then some (.val (.sl b (o+l*s) s (h-l))) else none:=rfl
def aRw(rows:List (List AV))(h:Nat):Option Nat→Option Eff
 | some l=>some (.val (.fs ((rows.drop l).take (h-l))))
 | none=>none
def aRx(rows:List (List AV))(e:aH)(lo:Option AO):Option Nat→Option Eff
 | some h=>aRw rows h (aS h 0 e lo)
 | none=>none
def aRu(b o s h:Nat):Option Nat→Option Eff
 | some l=>if l<h then some (.val (.sl b (o+l*s) s (h-l))) else if l=0 then some (.val (.sl b o s 0)) else some (.val (.fs []))
 | none=>none
def aRv(b o s:Nat)(e:aH)(lo:Option AO):Option Nat→Option Eff
 | some h=>aRu b o s h (aS h 0 e lo)
 | none=>none
def aZG:Option Nat→Option Eff
 | some _=>some (.val .nilsl)
 | none=>none
def aZH(e:aH)(lo:Option AO):Option Nat→Option Eff
 | some h=>aZG (aS h 0 e lo)
 | none=>none
def aLN(s:Nat)(e:aH)(lo hi:Option AO):AV→Option Eff
 | .fs rows=>if rows.all (fun r=>r.length==s) then aRx rows e lo (aS rows.length rows.length e hi) else none
 | .sl b o s' len=>if s'=s then aRv b o s e lo (aS len len e hi) else none
 | .nilsl=>aZH e lo (aS 0 0 e hi)
 | _=>none
theorem RC{s:Nat}{x:AO}{lo hi:Option AO}{e:aH}{H:Hp}:aD (.slsl s x lo hi) e H=aLN s e lo hi (aL e x):=by
 simp only[aD];cases aL e x with
 | fs rows =>
   simp only[lX,aLN];by_cases hr:(rows.all fun r=>r.length==s)=true
   ·simp only[hr,AAe]
    cases aS rows.length rows.length e hi with
    | none=>rfl
    | some h=>simp only[aRx,aRw];cases aS h 0 e lo<;>rfl
   ·simp only[hr];rfl
 | sl b o s' len =>
   simp only[lX,aLN];by_cases hr:s'=s
   ·simp only[hr,AAe]
    cases aS len len e hi with
    | none=>rfl
    | some h =>
      simp only[aRv,aRu];cases aS h 0 e lo with
      | none=>rfl
      | some l =>
        by_cases hl:l<h;·simp only[hl,AAe]
        ·by_cases h0:l=0
         ·simp only[hl,h0,AAe,AAd]
          subst h0;simp only[hl,AAd]
         ·simp only[hl,h0,AAd]
   ·simp only[hr,AAd]
 | nilsl =>
   simp only[lX,aLN];cases aS 0 0 e hi with
   | none=>rfl
   | some h=>simp only[aZH,aZG];cases aS h 0 e lo<;>rfl
 | _=>rfl
theorem RF{s:Nat}{e:aH}{lo hi:Option AO}{rows:List (List AV)}:aLN s e lo hi (.fs rows)=if rows.all (fun r=>r.length==s) then aRx rows e lo (aS rows.length rows.length e hi) else none:=rfl
theorem RG{s b o s' len:Nat}{e:aH}{lo hi:Option AO}:aLN s e lo hi (.sl b o s' len)=if s'=s then aRv b o s e lo (aS len len e hi) else none:=rfl
theorem RH{rows:List (List AV)}{e:aH}{lo:Option AO}{h:Nat}:aRx rows e lo (some h)=aRw rows h (aS h 0 e lo):=rfl
theorem RI{rows:List (List AV)}{h l:Nat}:aRw rows h (some l)=some (.val (.fs ((rows.drop l).take (h-l)))):=rfl
theorem RJ{b o s h:Nat}{e:aH}{lo:Option AO}:aRv b o s e lo (some h)=aRu b o s h (aS h 0 e lo):=rfl
theorem RK{b o s h l:Nat}:aRu b o s h (some l)=if l<h then some (.val (.sl b (o+l*s) s (h-l))) else if l=0 then some (.val (.sl b o s 0)) else some (.val (.fs [])):=rfl
def aRs(s:ByteArray)(h:Nat):Option Nat→Option Eff
 | some l=>some (.val (.str (nV s l h)))
 | none=>none
def aRt(s:ByteArray)(e:aH)(lo:Option AO):Option Nat→Option Eff
 | some h=>aRs s h (aS h 0 e lo)
 | none=>none
def aVi(e:aH)(lo hi:Option AO):AV→Option Eff
 | .str s=>aRt s e lo (aS s.size s.size e hi)
 | _=>none
theorem RN{x:AO}{lo hi:Option AO}{e:aH}{H:Hp}:aD (.slstr x lo hi) e H=aVi e lo hi (aL e x):=by
 simp only[aD,aVi];cases aL e x with
 | str s =>
   simp only[];cases aS s.size s.size e hi with
   | none=>rfl
   | some h=>simp only[aRt,aRs];cases aS h 0 e lo<;>rfl
 | _=>rfl
theorem RO{e:aH}{lo hi:Option AO}{s:ByteArray}:aVi e lo hi (.str s)=aRt s e lo (aS s.size s.size e hi):=rfl
theorem RP{e:aH}{lo:Option AO}{s:ByteArray}{h:Nat}:aRt s e lo (some h)=aRs s h (aS h 0 e lo):=rfl
theorem RQ{s:ByteArray}{h l:Nat}:aRs s h (some l)=some (.val (.str (nV s l h))):=rfl
theorem RR{x:AO}{e:aH}{H:Hp}:aD (.bytes x) e H=aXl (aL e x):=by simp only[aD,aXl]<;>rfl
theorem RU{s:ByteArray}:aXl (.str s)=some (.new none (.cells true (s.data.toList.map fun b=>.int .u8 (b.toNat:Int))) fun b=>.sl b 0 1 s.size):=rfl
theorem RV{t:TypeId}{x:AO}{e:aH}{H:Hp}:aD (.mkifc t x) e H=some (.val (.ifc t (aL e x))):=rfl
theorem ptf(p:Prop):(p=True)∨(p=False):=by by_cases h:p<;>simp[h]
theorem oP{α:Type}{l:List α}{i:Nat}(h:i<l.length):∃ x,l[i]?=some x:=⟨l[i],A8 h⟩
theorem SE{n:Int}:(n<n)=False:=AAb
theorem pL{i n:Nat}(h:i<n)(hn:n<1000000000000):IntKind.i64.wrap ((i:Int)+1)=(i:Int)+1:=aE AM AM
theorem SF{agg:Bool}{n b o:Nat}{H:Hp}:fG agg n H (.pt b o)=ldM agg n o (H b):=by unfold fG ldM;rfl
theorem SG{agg w:Bool}{n o:Nat}{cs:List AV}:ldM agg n o (some (.cells w cs))=iT agg n cs o:=rfl
theorem SI{agg:Bool}{n i o:Nat}{rows:List (List AV)}{H:Hp}:fG agg n H (.fp rows i o)=ldR agg n o (rows[i]?):=by unfold fG ldR;rfl
theorem SJ{agg:Bool}{n o:Nat}{r:List AV}:ldR agg n o (some r)=iT agg n r o:=rfl
theorem SK{n o:Nat}{cs:List AV}:iT true n cs o=if o+n≤cs.length then some (.agg ((cs.drop o).take n)) else none:=rfl
theorem SL{n o:Nat}{cs:List AV}:iT false n cs o=cs[o]?:=rfl
theorem SM{n b o:Nat}{h:XH}{x:AV}:oT n h (.pt b o) x=stM n b o h (hat h b) (cellsOf x):=by
 simp only[oT,stM]<;>rfl
theorem SN{n b o:Nat}{h:XH}{g:Bool}{cs vs:List AV}:stM n b o h (some (.blk g (.cells true cs))) (some vs)=if vs.length=n∧o+n≤cs.length then some (h.set b (some (.blk (g&&kY vs) (.cells true (bG cs o vs))))) else none:=rfl
theorem SO{q:Nat}{h:XH}{b:Nat}{k x:AV}:sU q h (.mp b) k x=muM q b h k x (hat h b):=by simp only[sU,muM]<;>rfl
theorem SP{q:Nat}{g:Bool}{h:XH}{b:Nat}{k x:AV}{es:List (AV×AV)}:muM q b h k x (some (.blk g (.map true es)))=(kA q k x es).map fun es'=>h.set b (some (.blk (g&&(jD k&&jD x)) (.map true es'))):=rfl
theorem SQ{h:XH}{g:Bool}{x:ABlk}:oU h none g x=h++[some (.blk g x)]:=rfl
theorem SS{h:XH}{b:Nat}{g:Bool}{x:ABlk}:oU h (some b) g x=h.set b none++[some (.blk g x)]:=rfl
theorem SU{h:XH}{b o s n:Nat}:fS h (.sl b o s n)=flM (hat h b):=by simp only[fS,flM]<;>rfl
theorem SV{g:Bool}{x:ABlk}:flM (some (.blk g x))=g:=rfl
theorem SW{h:XH}{rows:List (List AV)}:fS h (.fs rows)=true:=rfl
theorem SX{h:XH}:fS h .nilsl=true:=rfl
theorem SY{op:BinOp}{k k':IntKind}{a b:Int}:aDX op (.int k a) (.int k' b)=gU op k a k' b:=rfl
theorem SZ{op:BinOp}{a b:ByteArray}:aDX op (.str a) (.str b)=aY op a b:=rfl

abbrev rB(hs:List Bool):AV:=.fs (hs.map fun v=>[.bool v])
theorem RW{α β:Type}{f:α→β}{a b:List α}:(a++b).map f=a.map f++b.map f:=by simp
theorem RX{α:Type}{a b:List α}:(a++b).length=a.length+b.length:=by simp
theorem RY{n:Nat}:n*1=n:=by simp
theorem RZ{n:Nat}:0+n=n:=by simp
theorem Qa{n:Nat}:n+0=n:=by simp
theorem Qb{n:Nat}:(n≤n)=True:=by simp
theorem Qd{n:Nat}:n-0=n:=by simp
def aOd{α:Type}(l:List α)(o:Nat)(v:α):List α:=l.take o++v::l.drop (o+1)
theorem aOc{α:Type}{l:List α}{o:Nat}{v:α}(h:o<l.length):aOd l o v=l.set o v:=by
 rw[aOd,I6,if_pos h]
theorem Qe{hs:List Int}{o:Nat}{v:Int}:bG (hs.map I) o [I v]=(aOd hs o v).map I:=by
 simp[bG,aOd]
theorem rM{α:Type}{f:α→AV}:∀(l pre:List α),bM ((pre++l).map f) pre.length 1 l.length=l.map fun v=>[f v]
 | [],pre=>rfl
 | a::r,pre=>by
   have h:=rM (f:=f) r (pre++[a])
   grind [bM]
theorem Qf{hs:List Int}:bM (hs.map I) 0 1 hs.length=hs.map fun v=>[I v]:=rM (f:=I) hs []
theorem Qg{n:Nat}{v:Int}:(List.replicate n [I v]).flatten=(List.replicate n v).map I:=by
 simp_all
section
variable{D:Nat→Option XFn}{K k:Nat}{rd:Option Nat}{e:aH}{h:XH}{run:eA}{runY:fA}
theorem QI{L:List Nat}{l:Nat}{a b:XCode}:execW D K k rd (.scope L l a b) e h=gM l (execW D K k rd a e h) (execW D K k rd (.again L l b)):=aIr
theorem PW{l:Nat}:execW D K k rd (.lab l) e h=some (.normal,e,h):=aMw
theorem PX{l:Nat}:execW D K k rd (.goto l) e h=some (.goto l,e,h):=aJG
theorem PY{f:aH→XH→Option (DX×aH×XH)}{l:Nat}:mQ (some (.goto l,e,h)) f=some (.goto l,e,h):=rfl
variable{d:Option Nat}{ix:Nat}{r:List DOper}{L:List (Nat×Nat)}
theorem QJ{s b:Nat}{x y:AO}:xo (some L) run runY (⟨ix,d,.app s b x y,none⟩::r) e h=aAQ (L.all fun q=>eH (aL e x) != some q.2) (kE (some L) run runY r d e h (fS h (aL e x)&&fS h (aL e y)) (pC s b (aI h) (aL e x) (aL e y))):=by
 show fM run runY _ e h L=_;rw[←aPz];rfl
theorem QK{b:Nat}:((none:Option Nat) != some b)=true:=rfl
theorem QL{a b:Nat}:(some a != some b) = !(decide (a=b)):=by by_cases h:a=b<;>simp[h]
def lsM:Option XB→Option LSt
 | some (.loop _ _ _ s)=>some s
 | _=>none
theorem Qs{h:XH}{l:Nat}:iA h l=lsM (hat h l):=by unfold iA lsM;rfl
theorem Qt{K site:Nat}{vs:List AV}{s:LSt}:lsM (some (.loop K site vs s))=some s:=rfl
def ltM(h:XH)(l:Nat)(s:LSt):Option XB→XH
 | some (.loop K site vs _)=>h.set l (some (.loop K site vs s))
 | _=>h
theorem Qu{h:XH}{l:Nat}{s:LSt}:loopTo h l s=ltM h l s (hat h l):=by unfold loopTo ltM;rfl
theorem Qw{h:XH}{l K site:Nat}{vs:List AV}{s s':LSt}:ltM h l s (some (.loop K site vs s'))=h.set l (some (.loop K site vs s)):=rfl
theorem Qx{h:XH}:aAP none h=true:=rfl
theorem Qy{g:Nat}{a b:List AV}:aAO (.fn (.func g) a b)=true:=rfl
def aZM(b:Bool)(n:Nat)(e:aH)(r:Option (AV×XH)):Option (DX×aH×XH):=if b then aHF n e r else none
theorem Qz{site:Nat}{L:List Nat}{f:AO}{ps:List Nat}{a b:XCode}:execW D K k rd (.rng site L f ps a b) e h=aZM (aAP rd h&&aAO (aL e f)) h.length e (fU (runW D) (runYW D) (aL e f) [.fn (.yield h.length) [] []] (h++[some (.loop K site (L.map e) .ready)])):=aMv
theorem Q0{n:Nat}{r:Option (AV×XH)}:aZM true n e r=aHF n e r:=rfl
def rgM(n:Nat)(e:aH)(h:XH):Option LSt→Option (DX×aH×XH)
 | some .ready=>some (.normal,e,h.set n none)
 | some (.done x)=>some (x,e,h.set n none)
 | _=>none
theorem QA{n:Nat}{v:AV}:aHF n e (some (v,h))=rgM n e h (iA h n):=by unfold aHF rgM;rfl
theorem QB{n:Nat}:rgM n e h (some .ready)=some (.normal,e,h.set n none):=rfl
theorem QD{l:Nat}{as:List AV}:fU run runY (.fn (.yield l) [] []) as h=kM (gZ (.fn (.yield l) [] []::as) h) h (runY (rnA (aOY (gZ (.fn (.yield l) [] []::as) h)) (.fn (.yield l) [] [])) (kD (aOY (gZ (.fn (.yield l) [] []::as) h)) as) (iK (gZ (.fn (.yield l) [] []::as) h) h)):=rfl
def yM2(x:Option (AV×XH)):Option LSt→Option (AV×XH)
 | some .ready=>x
 | _=>none
theorem QE{l:Nat}{f:aH→XH→Option (AV×XH)}:aIL l (some (.normal,e,h)) f=yM2 (f e (loopTo h l .busy)) (iA h l):=by unfold aIL yM2;rfl
theorem QF{x:Option (AV×XH)}:yM2 x (some .ready)=x:=rfl
def yE2(l k:Nat)(x:DX)(h:XH):Option LSt→Option (AV×XH)
 | some .busy=>some (match x with
  | .normal=>nU true k (.bool true) (loopTo h l .ready)
  | x=>nU true k (.bool false) (loopTo h l (.done x)))
 | _=>none
theorem QG{l:Nat}{x:DX}:aLx l k (some (x,e,h))=yE2 l k x h (iA h l):=by unfold aLx yE2;rfl
theorem QH{l:Nat}:yE2 l k .normal h (some .busy)=some (nU true k (.bool true) (loopTo h l .ready)):=rfl
end
theorem QS{g g' w w':Bool}{xs ys:List AV}:aHt (some (.blk g (.cells w xs))) (some (.blk g' (.cells w' ys)))=(w==w'&&fO xs ys):=rfl
theorem QT:fO [] []=true:=rfl
theorem QU{x y:AV}{xs ys:List AV}:fO (x::xs) (y::ys)=(cD x y&&fO xs ys):=rfl
theorem QV{k:IntKind}{n:Int}:cD (.int k n) (.int k n)=true:=by simp[cD]
theorem QW{b:Bool}:cD (.bool b) (.bool b)=true:=by cases b<;>rfl
theorem QX{b o:Nat}:cD (.pt b o) (.pt b o)=true:=by simp[cD]
theorem QY:∀{hs:List Int},fO (hs.map I) (hs.map I)=true
 | []=>rfl
 | a::r=>by rw[F8,fO,QY (hs:=r)];simp[cD]
theorem QZ:((10:Nat):Int)=10:=rfl
theorem Pa:((16:Nat):Int)=16:=rfl
theorem Pb:((40:Nat):Int)=40:=rfl
theorem Pc:((45:Nat):Int)=45:=rfl
theorem Pd{k:IntKind}{a b:Int}:gU .andNot k a k b=some (.int k (oO .andNot k a b)):=by simp[gU]
section
variable{run:eA}{runY:fA}{d:Option Nat}{e:aH}{h:XH}{ix:Nat}{r:List DOper}{m:Option (List (Nat×Nat))}
theorem Pr{b n:Nat}:kC (.sb b n)=([b]:List Nat):=rfl
theorem Ps{b n:Nat}:jD (.sb b n)=(false:Bool):=rfl
theorem Pt{s:Nat→Option Nat}{b n:Nat}:rnA s (.sb b n)=((match s b with|some c=>.sb c n|none=>.any):AV):=by simp only[rnA]<;>rfl
theorem Pu{B:Nat}{C:List AV}{b n:Nat}:sH B C (.sb b n)=((.sb b n):AV):=rfl
theorem Pv{b n:Nat}:cellsOf (.sb b n)=(some [(.sb b n)]:Option (List AV)):=rfl
theorem Pw{b:Nat}:kC (.bp b)=([b]:List Nat):=rfl
theorem Px{s:Nat→Option Nat}{b:Nat}:rnA s (.bp b)=((match s b with|some c=>.bp c|none=>.any):AV):=by simp only[rnA]<;>rfl
theorem Py{b:Nat}:slN (.bp b)=([]:List Nat):=rfl
theorem Pz{B:Nat}{C:List AV}{b:Nat}:sH B C (.bp b)=((.bp b):AV):=rfl
theorem P0{b:Nat}:sQ (.bp b)=((.bp b):AV):=rfl
theorem P8{p:AO}:xo m run runY (⟨ix,d,(DOp.strof p),none⟩::r) e h=kV m run runY r d e h (jE (aI h) (aL e p)):=sT rfl (by cases hs:jE (aI h) (aL e p)<;>simp[aD,sL,hs]) (fun _=>rfl) (fun _=>rfl) fun _ _=>rfl
theorem P9{H:Hp}{b o s n:Nat}:jE H (.sl b o s n)=nJ (eT 1 H (.sl b o s n)):=rfl
theorem PA{n:Nat}{cs:List AV}:nJ (some (n,cs))=(jQ cs).map fun l=>.str ⟨⟨l⟩⟩:=rfl
end
theorem bAx{p:Prop}(h:p):p:=h
theorem PK{h:XH}{b j:Nat}{x:Option XB}:hat (h.set b x) j=if j=b then (if b<h.length then x else hat h j) else hat h j:=by
 rw[fX]
 grind
theorem PL{h k:XH}{j:Nat}:hat (h++k) j=if j<h.length then hat h j else hat k (j-h.length):=cJ h k j
theorem PM{h k:XH}{b:Nat}{x:Option XB}:(h++k).set b x=if b<h.length then h.set b x++k else h++k.set (b-h.length) x:=by
 grind
theorem PN{h k l:XH}:(h++k)++l=h++(k++l):=I8 h k l
theorem PO{h:XH}{b:Nat}{x:Option XB}:(h.set b x).length=h.length:=D6
theorem PP{n:Nat}:(n<n)=False:=AAl (Nat.lt_irrefl n)
theorem PQ{n k:Nat}:(n+k<n)=False:=AAb
theorem PR{n:Nat}:n-n=0:=J5 n
theorem PS{n k:Nat}:n+k-n=k:=AM
def kGm(h:XH):Option AV→Option (AV×XH)
 | some v=>some (v,h)
 | none=>none
theorem PT{res:List (Nat×Option (Bool×Nat))}{e:aH}{h:XH}:aEs res (some (.normal,e,h))=kGm h (jZ res e (aI h)):=by
 show (jZ res e (aI h)).map (fun v=>(v,h))=_;cases jZ res e (aI h)<;>rfl
theorem PU{res:List (Nat×Option (Bool×Nat))}{e:aH}{h:XH}:aEs res (some (.ret,e,h))=kGm h (jZ res e (aI h)):=by
 show (jZ res e (aI h)).map (fun v=>(v,h))=_;cases jZ res e (aI h)<;>rfl
theorem PV{h:XH}{v:AV}:kGm h (some v)=some (v,h):=rfl
variable{P:Program}{B:Base}{F:Nat→Prop}{w:World}{H:Hp}{env:aH}{a:Act}

def pnc(c:Value):List PanicEntry:=[{ v:=c,recovered:=false }]
def aLu(F:Nat→Prop)(w:World)(H:Hp)(Q:AV→Hp→Prop):Ending→World→Prop:=fun e w' =>
 ∃ c v F' H',e = .panicked (pnc c)∧Ext F w H F' w' H'∧St F' w' H'∧Rv F' w' v c∧Q v H'
def FnP(B:Base)(P:Program)(f:FuncId)(as:List AV)(H:Hp)(Q:AV→Hp→Prop):Prop :=
 (∀(vs:Array Value)(w:World),(callFunc f vs).run P w = .ok (.enter f vs) w)∧∀(F:Nat→Prop)(w:World)(vs:Array Value),B.Up F w→St F w H→Args F w as vs→CallsIn Fence.wide 0 P f vs w (aLu F w H Q)
def aQR(B:Base)(P:Program)(fv:AV)(as:List AV)(H:Hp)(Q:AV→Hp→Prop):Prop :=
 match fv with
 | .fn (.func g) first cap=>FnP B P g (first++as++cap) H Q
 | _=>False
abbrev QP:=AV→aH→Hp→Prop
def opP(B:Base)(P:Program)(o:DOper)(Q:QP)(env:aH)(H:Hp):Prop :=
 gd o env=some true∧match o.op with
 | .callf false f xs _=>(∀ tab k,f ≠ .meth tab k)∧aQR B P (aL env f) (xs.map (aL env)) H fun v H'=>Q v env H'
 | _=>False
def RSP(B:Base)(P:Program):List DOper→QP→aH→Hp→Prop
 | [],_,_,_=>False
 | o::rest,Q,env,H=>opP B P o Q env H∨opW B P o (RSP B P rest Q) env H

def LandP(n0:Nat)(T:List Deferred)(F:Nat→Prop)(w:World)(H:Hp)(Q:QP):Exit→Act→World→Prop:=fun e a' w' =>
 ∃ c v env' F' H',e = .panic (pnc c)∧Ext F w H F' w' H'∧St F' w' H'∧RE F' w' env' a'∧Rv F' w' v c∧Mk n0 T F' H' w' a'.defers∧Q v env' H'
theorem LandP.step{n0:Nat}{T:List Deferred}{Q:QP}{F':Nat→Prop}{w':World}{H':Hp}(he:Ext F w H F' w' H'){e:Exit}{a':Act}{w'':World}(hl:LandP n0 T F' w' H' Q e a' w''):LandP n0 T F w H Q e a' w'':=by
 obtain⟨c,v,env',F'',H'',h1,h2,h3⟩:=hl;exact⟨c,v,env',F'',H'',h1,he.trans h2,h3⟩

def WPD(B:Base)(P:Program)(r:Option Nat)(N:Nat)(dc:DCode)(Q:QP)(env:aH)(H:Hp):Prop :=
 ∀ c,bR P N c=some dc→∀(F:Nat→Prop)(w:World)(a:Act)(n0:Nat)(T:List Deferred),B.Up F w→n0≤w.heap.size→a.tmps.size=N→St F w H→RE F w env a→Mk n0 T F H w a.defers→c.wpIn (FW r) 0 P (LandP n0 T F w H Q) a w

variable{r:Option Nat}{N:Nat}{Q:QP}
theorem WPD.seq1{x y:DCode}(h:WPD B P r N x Q env H):WPD B P r N (.seq x y) Q env H:=by
 intro c hc;cases c<;>simp only[bR]at hc
 case seq a b =>
  split at hc
  ·rename_i a' b' ha hb
   simp only[oSI,DCode.seq.injEq]at hc;obtain⟨rfl,rfl⟩:=hc;intro F w act n0 T h1 h2 h3 h4 h5 h6;refine wpIn_seq (wpIn_mono (h a ha F w act n0 T h1 h2 h3 h4 h5 h6) ?_);rintro e a' w' ⟨c,v,env',F',H',rfl,k⟩;exact⟨c,v,env',F',H',rfl,k⟩
  ·simp at hc
 all_goals grind [bL]
theorem WPD.seq2{x y:DCode}(h:WD B P r N x (fun e env' H'=>e = .normal∧WPD B P r N y Q env' H') env H):WPD B P r N (.seq x y) Q env H:=by
 intro c hc;cases c<;>simp only[bR]at hc
 case seq a b =>
  split at hc
  ·rename_i a' b' ha hb
   simp only[oSI,DCode.seq.injEq]at hc;obtain⟨rfl,rfl⟩:=hc;intro F w act n0 T h1 h2 h3 h4 h5 h6;refine wpIn_seq (wpIn_mono (h a ha F w act n0 T h1 h2 h3 h4 h5 h6) ?_);rintro e a' w' ⟨x,env',F',H',k1,k2,k3,k4,k5,k6,rfl,k7⟩;cases e with
   | normal=>exact wpIn_mono (k7 b hb F' w' a' n0 T (h1.step h4 k3) (I0 h2 k3.le) k2 k4 k5 k6) fun _ _ _=>LandP.step k3
   | exit id=>simp at k1
   | ret=>simp at k1
   | goto l=>simp at k1
   | panic c=>grind
   | outgrown=>grind
  ·simp at hc
 all_goals grind [bL]
theorem WPD.cond{o:AO}{x y:DCode}{t:Bool}(he:aL env o = .bool t)(h:WPD B P r N (if t then x else y) Q env H):WPD B P r N (.cond o x y) Q env H:=by
 intro c hc;cases c<;>simp only[bR]at hc
 case cond o' a b =>
  split at hc
  ·rename_i o'' a' b' ho ha hb
   simp only[oSI,DCode.cond.injEq]at hc;obtain⟨rfl,rfl,rfl⟩:=hc;intro F w act n0 T h1 h2 h3 h4 h5 h6;have hv:=bB h5 ho;rw[he]at hv;have ht:act.eval o' = .bool t:=by
    generalize act.eval o'=z at hv;cases hv;rfl
   refine wpIn_cond ht ?_;cases t with
   | true=>exact h a ha F w act n0 T h1 h2 h3 h4 h5 h6
   | false=>exact h b hb F w act n0 T h1 h2 h3 h4 h5 h6
  ·simp at hc
 all_goals exfalso;first|(simp at hc;done)|((repeat' split at hc)<;>simp[bL]at hc;done)
theorem WPD.block{id:Nat}{x:DCode}(h:WPD B P r N x Q env H):WPD B P r N (.block id x) Q env H:=by
 intro c hc;cases c<;>simp only[bR]at hc
 case block j a =>
  split at hc
  ·rename_i a' ha
   simp only[oSI,DCode.block.injEq]at hc;obtain⟨rfl,rfl⟩:=hc;intro F w act n0 T h1 h2 h3 h4 h5 h6;refine wpIn_block (wpIn_mono (h a ha F w act n0 T h1 h2 h3 h4 h5 h6) ?_);rintro e a' w' ⟨c,v,env',F',H',rfl,k⟩;exact⟨c,v,env',F',H',rfl,k⟩
  ·simp at hc
 all_goals exfalso;first|(simp at hc;done)|((repeat' split at hc)<;>simp[bL]at hc;done)
def aLv(B:Base)(P:Program)(r:Option Nat)(N:Nat)(x:DCode)(Q:QP):Nat→aH→Hp→Prop
 | 0,env,H=>WPD B P r N x Q env H
 | n+1,env,H=>WD B P r N x (fun e env' H'=>e = .normal∧aLv B P r N x Q n env' H') env H
theorem WPD.loop{x:DCode}{n:Nat}(h:aLv B P r N x Q n env H):WPD B P r N (.loop x) Q env H:=by
 intro c hc;cases c<;>simp only[bR]at hc
 case loop a =>
  split at hc
  ·rename_i dx ha
   simp only[oSI,DCode.loop.injEq]at hc;subst hc;intro F w act n0 T h1 h2 h3 h4 h5 h6
   let good:Nat→Act→World→Prop:=fun m a' w'=>∃ env' F' H',a'.tmps.size=N∧Ext F w H F' w' H'∧St F' w' H'∧RE F' w' env' a'∧Mk n0 T F' H' w' a'.defers∧aLv B P r N dx Q m env' H'
   obtain⟨μ,hμ⟩:=aDn good;refine wpIn_loop (fun a' w'=>∃ m,good m a' w') μ ⟨n,env,F,H,h3,Ext.refl _ _ _,h4,h5,h6,h⟩ ?_;intro a1 w1 hg;obtain⟨env',F',H',k2,k3,k4,k5,k6,k7⟩:=(hμ a1 w1 hg).1;generalize hm:μ a1 w1=m at *;cases m with
   | zero =>
     refine wpIn_mono (k7 a ha F' w1 a1 n0 T (h1.step h4 k3) (I0 h2 k3.le) k2 k4 k5 k6) ?_;rintro e a2 w2 ⟨c,v,env2,F2,H2,rfl,j1,j2⟩;exact⟨c,v,env2,F2,H2,rfl,k3.trans j1,j2⟩
   | succ m =>
     refine wpIn_mono (k7 a ha F' w1 a1 n0 T (h1.step h4 k3) (I0 h2 k3.le) k2 k4 k5 k6) ?_;rintro e a2 w2 ⟨x,env2,F2,H2,l1,l2,l3,l4,l5,l6,rfl,l7⟩;cases e with
     | normal =>
       have hg':good m a2 w2:=⟨env2,F2,H2,l2,k3.trans l3,l4,l5,l6,l7⟩;exact⟨⟨m,hg'⟩,aB9 ((hμ a2 w2 ⟨m,hg'⟩).2 m hg') AM⟩
     | exit j=>simp at l1
     | ret=>simp at l1
     | goto l=>simp at l1
     | panic c=>grind
     | outgrown=>grind
  ·simp at hc
 all_goals grind [bL]

theorem aMI(hB:B.Up F w)(st:St F w H)(re:RE F w env a){o:Oper}{f:Operand}{args:Array Operand}{ts:Array TypeId}{f':AO}{xs:List AO}
 (ho:o.op = .call { callee:=.value f,args:=args,argTypes:=ts }) (hf:co f=some f') (hx:coL args=some xs) {Qv:AV→Hp→Prop}
 (h:aQR B P (aL env f') (xs.map (aL env)) H Qv) {next:Act→World→Prop} {Qc:Exit→Act→World→Prop}
 (hn:∀ v c F' w' H',Ext F w H F' w' H'→St F' w' H'→Rv F' w' v c→Qv v H'→Qc (.panic (pnc c)) a w') :
 o.wpIn (FW r) 0 P a w next Qc:=by
 refine⟨mK r o,?_⟩;rw[Oper.semAt_eq _ _ _ (by grind)];have hfv:=bB re hf;obtain⟨vf,hvf⟩:∃ v,a.eval f=v:=⟨_,rfl⟩;rw[hvf]at hfv;have hargs:=aAX re hx;unfold aQR at h;split at h
 ·rename_i g first cap hev
  rw[hev]at hfv;cases hfv with
  | fn _ _ _ fv cv hl1 hl2 h1 h2 =>
    have hA:Args F w (first++xs.map (aL env)++cap) (fv++args.map a.eval++cv):=eZ (eZ ⟨hl1,h1⟩ hargs) ⟨hl2,h2⟩;have hc:=h.2 F w _ hB st hA;have hrun:(execOp a.eval o).run P w = .ok (.enter g (fv++args.map a.eval++cv)) w:=by
     simp only[execOp,ho,resolve,hvf,Deferred.ofValue,Sem.run_bind,Sem.run_pure,Result.andThen_ok,invoke];exact h.1 _ _
    rw[hrun,Oper.uponIn_enter];exact⟨fun h=>by simp[FW,Fence.wide]at h,CallsIn.mono hc (by rintro e w' ⟨c,v,F',H',rfl,h1,h2,h3,h4⟩;grind)⟩
 grind
theorem aOa{ops:Array Oper}{i:Nat}{d:DOper}(hr:Reads P ops i d)(hB:B.Up F w)(st:St F w H)(re:RE F w env a)(h:opP B P d Q env H){Kc:Act→World→Prop}{Qc:Exit→Act→World→Prop}
 (hK:∀ F' w' H' c v,Ext F w H F' w' H'→St F' w' H'→RE F' w' env a→Rv F' w' v c→Q v env H'→Qc (.panic (pnc c)) a w') :
 wpOpIn (FW r) 0 P ops Qc i Kc a w:=by
 obtain⟨o,ho,hdst,hguard,hop,hdef⟩:=hr.get;obtain⟨hg,h⟩:=h;unfold wpOpIn;simp only[ho];have hgd:Region.wanted o (yielded ops a.tmps)=true:=by
  unfold gd at hg;unfold Region.wanted;split at hguard;·grind
  ·rename_i j want hg2
   rw[hg2];obtain⟨g,h1,h2⟩:=hguard;rw[h2]at hg;simp only at hg;split at hg
   ·rename_i t ht
    have hrt:=re.rv g;rw[ht]at hrt;have hy:yielded ops a.tmps j=some t:=by
     unfold yielded;rw[h1];simp only[E5];cases hx:a.tmps[g]? with
     | none=>rw[E8,hx]at hrt;cases hrt
     | some x =>
       rw[E8,hx]at hrt;simp only[G7]at hrt;cases hrt;rfl
    grind
   all_goals grind
 rw[if_pos hgd];split at h
 ·rename_i f xs l hcf
  obtain⟨hnm,h⟩:=h;have hc0:bZ P o=some (.callf false f xs []):=by
   rcases hop with h1|⟨n,p,x,l,h1,h2⟩|⟨q,f1,xs1,l1,h1,h2⟩
   ·rw[hcf]at h1
    unfold xZ at h1;cases hx:bZ P o with
    | none=>grind
    | some y =>
      rw[hx]at h1;simp only[G7]at h1;subst h1;rcases mE hx rfl rfl with ⟨t,pa,xa,n',p',x',_,_,_,_,hh⟩|⟨t,m,k,xx,m',k',x',kt,e,_,_,_,_,_,_,_,hh⟩|⟨_,_,_,_,hh⟩|⟨c,_,hh⟩;·simp at hh
      ·simp at hh
      ·simp at hh
      ·rcases uN hh rfl with ⟨_,_,_,_,_,_,_,_,_,_,_,_,_,_,_,hh⟩|⟨_,_,_,_,_,_,hh⟩|⟨_,_,_,_,_,hh⟩
       all_goals grind
   ·grind
   ·rw[hcf]at h2
    simp only[DOp.callf.injEq]at h2;obtain⟨rfl,rfl,rfl,rfl⟩:=h2;unfold xZ at h1;cases hx:bZ P o with
    | none=>grind
    | some y=>grind
  obtain⟨dst,oo,ty,pos,after,guard⟩:=o;rcases mE hc0 rfl rfl with ⟨t,pa,xa,n',p',x',_,_,_,_,hh⟩|⟨t,m,k,xx,m',k',x',kt,e,_,_,_,_,_,_,_,hh⟩|⟨_,_,_,_,hh⟩|⟨c,hoo,hcc⟩;·simp at hh
  ·simp at hh
  ·simp at hh
  ·simp only at hoo
   subst hoo;rcases uN hcc rfl with ⟨_,_,_,_,_,_,_,_,_,_,_,_,_,_,_,hh⟩|⟨f0,f',xs',e1,g1,g2,hh⟩|⟨k,name,xs',e1,g2,hh⟩;·simp at hh
   ·simp only[DOp.callf.injEq]at hh
    obtain⟨_,rfl,rfl,_⟩:=hh;obtain⟨callee,args,argTypes⟩:=c;simp only at e1;subst e1;refine aMI hB st re rfl g1 g2 h ?_;intro v c F' w' H' k1 k2 k3 k4;exact hK F' w' H' c v k1 k2 (re.up (k1.up st)) k3 k4
   grind
 grind
theorem aHK{ops:Array Oper}{Qc:Exit→Act→World→Prop}:∀(l:List DOper)(i:Nat),(∀ j d,l[j]?=some d→Reads P ops (i+j) d)→(∀ d∈l,aDN N d) →
 ∀(F:Nat→Prop)(w:World)(H:Hp)(env:aH)(a:Act),a.tmps.size=N→B.Up F w→St F w H→RE F w env a→RSP B P l Q env H →
   (∀ a' env' F' w' H' c v,a'.defers=a.defers→Ext F w H F' w' H'→St F' w' H'→RE F' w' env' a'→Rv F' w' v c→Q v env' H'→Qc (.panic (pnc c)) a' w') →
 wpOpsIn (FW r) 0 P ops Qc (List.range' i l.length) a w:=by
 intro l;induction l with
 | nil=>intro i _ _ F w H env a hsz hB st re h;exact h.elim
 | cons d l ih =>
   intro i hr hd F w H env a hsz hB st re h hQ;rw[D9,aB1,wpOpsIn_cons];rcases h with h|h;·exact aOa (hr 0 d rfl) hB st re h fun F' w' H' c v k1 k2 k3 k4 k5=>hQ a env F' w' H' c v rfl k1 k2 k3 k4 k5
   ·refine aCk (hr 0 d rfl) (hd d (by simp)).2 (hd d (by simp)).1 hsz hB st re h ?_
    intro a' F' w' env' H' h1 h2 h3 h4 h5 h6;refine ih (i+1) (fun j d' hj=>by have:=hr (j+1) d' (by grind);grind) (fun d' hd'=>hd d' (by simp[hd'])) F' w' H' env' a' h1 (hB.step st h3) h4 h5 h6 ?_;intro a2 env2 F2 w2 H2 c v k0 k1 k2 k3 k4 k5;exact hQ a2 env2 F2 w2 H2 c v (k0.trans h2) (h3.trans k1) k2 k3 k4 k5
theorem WPD.reg{l:List DOper}(hcm:∀ o∈l,o.op.isComm=false)(h:RSP B P l Q env H):WPD B P r N (.reg false l) Q env H:=by
 intro c hc;cases c<;>simp only[bR]at hc
 case region id ops d =>
  split at hc
  ·rename_i l' hl
   simp only[oSI,DCode.reg.injEq]at hc;obtain⟨rfl,rfl⟩:=hc;unfold sK at hl;split at hl;·simp at hl
   ·rename_i l0 hl0
    obtain⟨hlen,hreads⟩:=vA hl0;split at hl;·simp at hl
    ·rename_i hdst
     simp only[M9,aF4]at hdst;simp only[B8,AAd,oSI]at hl;subst hl;intro F w act n0 T h1 h2 h3 h4 h5 h6;refine wpIn_region ?_;rw[←hlen,O0];refine aHK l0 0 (fun j d hj=>by grind) (fun d hd=>⟨aDM hdst d hd,hcm d hd⟩) F w H env act h3 h1 h4 h5 h ?_;intro a' env' F' w' H' c v k0 k1 k2 k3 k4 k5;exact⟨c,v,env',F',H',rfl,k1,k2,k3,k4,by rw[k0];exact h6.ext k1,k5⟩
  ·simp at hc
 all_goals grind [bL]

theorem aEw{fn:Func}{tmps:Array Value}{n0:Nat}{F0:Nat→Prop}{w0:World}{H0:Hp}{R:Ending→World→Prop}{c:Value}{v:AV}(hn0:w0.heap.size≤n0)
 (hT:∀ w,Ext F0 w0 H0 F w H→St F w H→Rv F w v c→R (.panicked (pnc c)) w) :
 ∀(ms:List Deferred)(w:World),Ext F0 w0 H0 F w H→St F w H→Rv F w v c→ms.Nodup→(∀ d∈ms,Mk1 n0 F H w d)→LeavesInM Fence.wide 0 P fn tmps R ms (.panicking (pnc c)) w:=by
 intro ms;induction ms with
 | nil=>intro w he st hu _ _;exact hT w he st hu
 | cons d ds ih =>
   intro w he st hu hnd hm;obtain⟨D,rfl,h2,h3,h4,h5⟩:=hm d (by simp);obtain⟨k1,k2,k3⟩:=xO (n0:=0) (x:=none) he st (I0 hn0 h2) h3 h4 h5;have hnd:=N4.1 hnd;refine⟨by simp,.inl ⟨D,_,rfl,run_takeDeferred h3,ih _ k1 k2 (hu.up k3) hnd.2 fun d' hd'=>?_⟩⟩;obtain⟨D',rfl,l2,l3,l4,l5⟩:=hm d' (by simp[hd']);refine⟨D',rfl,l2,?_,l4,l5⟩
   grind [World.putObj_heap_other]
theorem FnP.of{f:FuncId}{d:DFn}{as:List AV}{Qv:AV→Hp→Prop}(hf:aTp P f d)(hN:as.length≤d.N)(hdf:d.dfr=none)(h:WPD B P none d.N d.body (fun v _ H'=>Qv v H') (aV as) H):FnP B P f as H Qv:=by
 refine⟨hf.call,fun F w vs hB st hA=>?_⟩;obtain⟨fn,c,h1,h2,h3,h4,h5⟩:=hf.code;have hsz:(vs++Array.replicate (fn.ntmps-vs.size) undef).size=d.N:=by
  have:=hA.1
  grind
 have hre:=aBV (N:=d.N) (nt:=fn.ntmps-vs.size) hB hA;rw[hdf]at h5;have h5':bR P d.N c=some d.body:=by
  simp only[aIz,A3,A7]at h5
  grind
 refine callsIn_of_wp_marks h1 h2 trivial (wpIn_mono (h c h5' F w { tmps:=vs++Array.replicate (fn.ntmps-vs.size) undef,defers:=[] } w.heap.size [] hB (A6 _) hsz st hre Mk.nil) ?_);rintro e a' w' ⟨cv,v,env',F',H',rfl,k2,k3,k4,k5,k6,k7⟩;obtain⟨ms,e1,e2,e3⟩:=k6.ex;rw[I2]at e1;show LeavesInM Fence.wide 0 P fn a'.tmps (aLu F w H Qv) a'.defers (.panicking (pnc cv)) w';rw[e1];exact aEw (A6 _) (fun w'' he st' rv'=>⟨cv,v,F',H',rfl,he,st',rv',k7⟩) ms w' k2 k3 k5 e2 e3
variable{P:Program}{B:Base}{F:Nat→Prop}{w:World}{H:Hp}{env:aH}{a:Act}

def aFp(z:DOper):Bool:=z.op.kind==7&&z.guard.isNone
def sJ(post:List DOper):List Nat:=(post.filter aFp).filterMap (·.dst)
def aBH(ds:List Nat)(e:aH):aH:=fun j=>if ds.contains j then .any else e j
def aDQ(y:DOper):List DOper→Bool
 | []=>true
 | x::r=>aDQ y r&&(r++[y]).any fun z => !oW x z
def aAW:List DOper→List DOper→Bool
 | _,[]=>true
 | prev,z::r=>if aFp z then aAW prev r else (prev.any fun x => !oW x z)&&aAW (z::prev) r
def aKK(pre:List DOper)(y:DOper)(post:List DOper):Bool:=aDQ y pre&&(aAW [y] post&&pre.all fun x=>match x.dst with
 | some d => !(sJ post).contains d
 | none=>true)

theorem aKm{d:Option Nat}{u:AV}{j:Nat}(h:d≠some j):aX env d u j=env j:=by
 cases d with
 | none=>rfl
 | some k=>simp only[aX,upd];grind
theorem aMd{o:DOper}{K:aH→Hp→Prop}(h:opW B P o K env H):opW B P o (fun env' H'=>K env' H'∧∀ j,o.dst≠some j→env' j=env j) env H:=by
 have g:∀(u:AV)(H':Hp),K (aX env o.dst u) H'→K (aX env o.dst u) H'∧∀ j,o.dst≠some j→aX env o.dst u j=env j:=fun u H' hk=>⟨hk,fun j hj=>aKm hj⟩;unfold opW at *;split at h
 ·revert h
  generalize o.op=op;intro h;cases op
  case store n p x l=>exact cN (fun H' hK=>g _ _ hK) h
  case copy s x y=>exact cN (fun r hK=>g _ _ hK) h
  case mapup q m k x=>exact cN (fun H' hK=>g _ _ hK) h
  case nxts x=>exact cN (fun r hK=>g _ _ hK) h
  case callf q f xs l =>
   cases q with
   | true=>obtain⟨v,h1,h2⟩:=h;exact⟨v,h1,g _ _ h2⟩
   | false=>exact CallV.mono h fun v H' hq=>g _ _ hq
  all_goals
   rw[rK rfl]at h ⊢;refine cN (fun e he=>?_) h;unfold fJ at *;split;·exact g _ _ he
   ·exact fun b hb=>g _ _ (he b hb)
 all_goals grind [bL]

theorem aPS{z:DOper}(hz:aFp z=true)(hd:∀ d,z.dst=some d→env d = .any):opW B P z (fun env' H'=>Shift env' H' env H) env H:=by
 simp only[aFp,A4,beq_iff_eq,Option.isNone_iff_eq_none]at hz;obtain⟨x,f,hx⟩:=aBs hz.1;have hg:gd z env=some true:=by unfold gd;rw[hz.2]
 unfold opW;rw[hg];simp only;rw[rK (mD (.inr hz.1)),hx,optW_some];intro b hb;simp only[reduceCtorEq,AAg]at hb;have h1:Shift (aX env z.dst (f b)) (hset H b x) env (hset H b x):=fun F w a st re=>⟨F,Ext.refl _ _ _,st,fun k=>by
  have:=re.rv k;by_cases hk:z.dst=some k;·rw[hd k hk];exact .any _
  grind [aKm],re.gi⟩
 refine h1.trans (Shift.forget fun c y hc=>?_)
 grind [aO]

theorem aNp{ops:Array Oper}{listed:Array Bool}(hc:∀ i,listed.getD i false=true→∀ m∈(ops.toList.map cH).getD i [],listed.getD m false=true){x z:DOper}
 (hp:aBx (kT (ops.toList.map cH)) x z) (hs:oW x z=false) (hz:∀ m∈(ops.toList.map cH).getD z.ix [],listed.getD m false=true):listed.getD x.ix false=true:=by
 rcases hp with hp|hp;·exact pB _ (fun i=>listed.getD i false=true) hc z.ix x.ix hz hp
 grind

theorem aAq{ops:Array Oper}{listed:Array Bool}{y:DOper}{post:List DOper}(hc:∀ i,listed.getD i false=true→∀ m∈(ops.toList.map cH).getD i [],listed.getD m false=true)
 (hy:∀ m∈(ops.toList.map cH).getD y.ix [],listed.getD m false=true) :
 ∀(pre:List DOper),(pre++y::post).Pairwise (aBx (kT (ops.toList.map cH)))→aDQ y pre=true→∀ x∈pre,listed.getD x.ix false=true
 | [],_,_,x,hx=>by simp at hx
 | x0::r,hp,hch,x,hx=>by
   simp only[aDQ,A4]at hch;rw[H9]at hp;obtain⟨hp1,hp2⟩:=aE5.1 hp;have ih:=aAq hc hy r hp2 hch.1;rcases B5.1 hx with rfl|hx
   ·obtain⟨z,hz,hsw⟩:=List.any_eq_true.1 hch.2
    simp only[M9]at hsw;rcases B7.1 hz with hz|hz;·exact aNp hc (hp1 z (by simp[hz])) hsw (hc z.ix (ih z hz))
    ·simp only[C6]at hz
     subst hz;exact aNp hc (hp1 z (by simp)) hsw hy
   grind

theorem rN{ops:Array Oper}{listed:Array Bool}{y:DOper}(hc:∀ i,listed.getD i false=true→∀ m∈(ops.toList.map cH).getD i [],listed.getD m false=true) :
 ∀(post prev:List DOper),(∀ x∈prev,∀ z∈post,aBx (kT (ops.toList.map cH)) x z)→post.Pairwise (aBx (kT (ops.toList.map cH)))→aAW prev post=true →
   (∀ x∈prev,listed.getD x.ix false=true→listed.getD y.ix false=true)→∀ z∈post,aFp z=false→(∀ m∈(ops.toList.map cH).getD z.ix [],listed.getD m false=true)→listed.getD y.ix false=true
 | [],_,_,_,_,_,z,hz,_,_=>by simp at hz
 | z0::r,prev,hpr,hpw,hch,hyes,z,hz,hf,hm=>by
   obtain⟨hp1,hp2⟩:=aE5.1 hpw;simp only[aAW]at hch;split at hch
   ·rename_i hf0
    rcases B5.1 hz with rfl|hz;·rw[hf0]at hf;cases hf
    ·exact rN hc r prev (fun x hx u hu=>hpr x hx u (by simp[hu])) hp2 hch hyes z hz hf hm
   ·simp only[A4]at hch
    have one:(∀ m∈(ops.toList.map cH).getD z0.ix [],listed.getD m false=true)→listed.getD y.ix false=true:=fun hm=>by
     obtain⟨x,hx,hsw⟩:=List.any_eq_true.1 hch.1;simp only[M9]at hsw;exact hyes x hx (aNp hc (hpr x hx z0 (by simp)) hsw hm)
    rcases B5.1 hz with rfl|hz;·exact one hm
    ·refine rN hc r (z0::prev) (fun x hx u hu=>?_) hp2 hch.2 (fun x hx hl=>?_) z hz hf hm
     ·rcases B5.1 hx with rfl|hx
      ·exact hp1 u hu
      ·exact hpr x hx u (by simp[hu])
     ·rcases B5.1 hx with rfl|hx
      ·exact one (hc _ hl)
      ·exact hyes x hx hl

theorem Drawn.drop{N:Nat}{ops:Array Oper}{p1 p2:List DOper}{z:DOper}{listed:Array Bool}(hd:Drawn P N ops (p1++z::p2) listed)(hlt:z.ix<ops.size)(h2:∀ m∈(ops.toList.map cH).getD z.ix [],listed.getD m false=true) :
 (∀ x∈p1++p2,x.ix≠z.ix)∧Drawn P N ops (p1++p2) (listed.setIfInBounds z.ix true):=by
 have hsub:(p1++p2).Sublist (p1++z::p2):=O4 (O9 _ _) _;have hnd:∀ x∈p1++p2,x.ix≠z.ix:=by
  intro x hx e;have hn:=hd.nodup
  grind
 refine⟨hnd,fun x hx=>hd.reads x (hsub.mem hx),fun x hx=>?_,fun j hj=>?_,hd.nodup.sublist (hsub.map _),hd.pairs.sublist hsub,fun j hj m hm=>?_,by simp[hd.size]⟩;·rw[getD_set_ne true (Ne.symm (hnd x hx))];exact hd.open_ x (hsub.mem hx)
 ·by_cases hjy:j=z.ix
  ·simp_all
  ·rw[getD_set_ne true (Ne.symm hjy)]at hj
   obtain⟨x,hx,hxj⟩:=hd.all j hj
   grind
 ·by_cases hjy:j=z.ix
  ·grind [getD_set_true]
  ·rw[getD_set_ne false (Ne.symm hjy)]at hj
   exact getD_set_true (hd.closed j hj m hm)

theorem aHL{ops:Array Oper}{r:Option Nat}{N:Nat}{Q:QP}{Qc:Exit→Act→World→Prop}(ha:wF (ops.toList.map cH)=true){y:DOper}{post0 pre0:List DOper}
 (hp0:(pre0++y::post0).Pairwise (aBx (kT (ops.toList.map cH)))) (hB0:aDQ y pre0=true) (hA0:aAW [y] post0=true) (hF0:∀ x∈pre0,∀ d,x.dst=some d→d∉sJ post0) :
 ∀(fuel:Nat)(pre post:List DOper)(listed:Array Bool)(F:Nat→Prop)(w:World)(H:Hp)(env:aH)(a:Act)(L:yP),(pre++y::post).length≤fuel→pre.Sublist pre0→post.Sublist post0→Drawn P N ops (pre++y::post) listed→(∀ o∈pre,L o.ix=none) →
   (∀ d∈sJ post0,env d = .any)→a.tmps.size=N→B.Up F w→St F w H→RE F w env a→RD B P pre (fun env H=>opP B P y Q env H) env H L →
   (∀ a' env' F' w' H' c v,a'.defers=a.defers→Ext F w H F' w' H'→St F' w' H'→RE F' w' env' a'→Rv F' w' v c→Q v env' H'→Qc (.panic (pnc c)) a' w')→wpAnyIn (FW r) 0 P .any ops Qc fuel listed a w:=by
 intro fuel;induction fuel with
 | zero=>grind
 | succ fuel ih =>
   intro pre post listed F w H env a L hl hsub0 hsub1 hd hL hE hsz hB st re h hQ;refine⟨fun hr=>absurd hr (hd.ready_ne ha (by simp)),fun i hi=>?_⟩;obtain⟨h1,hlt,h2⟩:=qV.1 hi;obtain⟨z,hz,rfl⟩:=hd.all i h1;have shut:∀ x∈pre++y::post,listed.getD x.ix false=true→False:=fun x hx hl=>by
    have hx':=hd.open_ x hx
    grind
   by_cases hzp:z∈pre
   ·obtain⟨p1,p2,rfl⟩:=aE4 hzp
    have hd':Drawn P N ops (p1++z::(p2++y::post)) listed:=by grind
    have hsw:∀ x∈p1,oW x z=true:=fun x hx=>by
     have hp:=(aD2.1 hd'.pairs).2.2 x hx z (by simp);rcases hp with hp|hp
     ·exfalso
      exact shut x (by simp[hx]) (pB _ (fun i=>listed.getD i false=true) hd.closed z.ix x.ix h2 hp)
     ·exact hp
    have hndp:((p1++z::p2).map (·.ix)).Nodup:=by
     have:=hd.nodup
     grind
    have hp:=aZY p1 env H L st.fin hsw hndp hL h;refine aCk (hd.reads z hz).1 (hd.reads z hz).2.2 (hd.reads z hz).2.1 hsz hB st re (aMd (aKL hp)) ?_;rintro a' F' w' env' H' k1 k2 k3 k4 k5 ⟨⟨L',k6,k7⟩,k8⟩;have hsub:(p1++p2).Sublist (p1++z::p2):=O4 (O9 _ _) _;obtain⟨hnd,hdn⟩:=hd'.drop hlt h2
    refine ih (p1++p2) post _ F' w' H' env' a' L' (by simp at hl ⊢;omega) (hsub.trans hsub0) hsub1 (by grind)
     (fun x hx=>by grind)
     (fun d hdd=>by grind) k1 (hB.step st k3) k4 k5 k7 (fun a2 env2 F2 w2 H2 c v m0 m1 m2 m3 m4 m5=>hQ a2 env2 F2 w2 H2 c v (m0.trans k2) (k3.trans m1) m2 m3 m4 m5)
   ·rcases B7.1 hz with hz'|hz'
    ·grind
    ·rcases B5.1 hz' with rfl|hz'
     ·have hall:=aAq hd.closed h2 pre0 hp0 hB0
      have hnil:pre=[]:=by
       cases pre with
       | nil=>rfl
       | cons x pr=>exact(shut x (by simp) (hall x (hsub0.mem (by simp)))).elim
      subst hnil;exact aOa (hd.reads z hz).1 hB st re h fun F' w' H' c v k1 k2 k3 k4 k5=>hQ a env F' w' H' c v rfl k1 k2 k3 k4 k5
     ·cases hfz:aFp z with
      | true =>
        obtain⟨p1,p2,rfl⟩:=aE4 hz';have hd':Drawn P N ops ((pre++y::p1)++z::p2) listed:=by grind
        have hzd:∀ d,z.dst=some d→env d = .any:=fun d hdz=>hE d (by
         unfold sJ
         grind)
        refine aCk (hd.reads z hz).1 (hd.reads z hz).2.2 (hd.reads z hz).2.1 hsz hB st re (aPS hfz hzd) ?_;intro a' F' w' env' H' k1 k2 k3 k4 k5 k6;obtain⟨F2,m1,m2,m3⟩:=k6 F' w' a' k4 k5;obtain⟨hnd,hdn⟩:=hd'.drop hlt h2;have hsub:(p1++p2).Sublist (p1++z::p2):=O4 (O9 _ _) _;have he:=k3.trans m1;exact ih pre (p1++p2) _ F2 w' H env a' L (by grind) hsub0 (hsub.trans hsub1) (by grind) hL hE k1 (hB.step st he) m2 m3 h (fun a2 env2 F3 w2 H2 c v n0 n1 n2 n3 n4 n5=>hQ a2 env2 F3 w2 H2 c v (n0.trans k2) (he.trans n1) n2 n3 n4 n5)
      | false =>
        exfalso;obtain⟨_,hp2,_⟩:=aD2.1 hp0;obtain⟨hp3,hp4⟩:=aE5.1 hp2;refine shut y (by simp) (rN hd.closed post0 [y] (fun x hx u hu=>?_) hp4 hA0 (fun x hx hlx=>?_) z (hsub1.mem hz') hfz h2);all_goals grind

variable{r:Option Nat}{N:Nat}{Q:QP}
theorem WPD.regD{pre post:List DOper}{y:DOper}(hm:P.follows .mixedOrders=true)(hch:aKK pre y post=true)(h:RD B P pre (fun env H=>opP B P y Q env H) (aBH (sJ post) env) H noL):WPD B P r N (.reg true (pre++y::post)) Q env H:=by
 intro c hc;cases c<;>simp only[bR]at hc
 case region id ops d =>
  split at hc
  ·rename_i l' hl
   simp only[oSI,DCode.reg.injEq]at hc;obtain⟨rfl,rfl⟩:=hc;simp only[aKK,A4]at hch;have hF:∀ x∈pre,∀ d,x.dst=some d→d∉sJ post:=fun x hx d hd hmem=>by
    grind
   obtain⟨c1,c2,c3,c4,c5,c6⟩:=aBu hl;intro F w act n0 T h1 h2 h3 h4 h5 h6;refine wpIn_region_any hm ?_;have hlist:∀ i,(Array.replicate ops.size false).getD i true=false↔i<ops.size:=fun i=>by
    by_cases h:i<ops.size<;>simp[h]
   refine aHL c2 (lJ c3) hch.1 hch.2.1 hF ops.size pre post _ F w.drew H (aBH (sJ post) env) act noL AM (List.Sublist.refl _) (List.Sublist.refl _) ⟨c1,fun y hy=>?_,fun i hi=>?_,aAa c5,lJ c3,fun i hi=>?_,by simp⟩ (fun _ _=>rfl) (fun d hd=>by simp[aBH,hd]) h3
    (h1.step h4 (iW F w H)) (qM h4) ⟨fun k=>by
     have:=(h5.up ((iW F w H).up h4)).rv k;simp only[aBH];split;·exact .any _
     omega,(h5.up ((iW F w H).up h4)).gi⟩ h ?_
   ·obtain⟨o,ho,_⟩:=(c1 y hy).1.get
    grind
   ·grind
   ·grind
   ·intro a' env' F' w' H' c v k0 k1 k2 k3 k4 k5
    exact⟨c,v,env',F',H',rfl,(iW F w H).trans k1,k2,k3,k4,by rw[k0];exact h6.ext ((iW F w H).trans k1),k5⟩
  ·simp at hc
 all_goals grind [bL]

theorem WPD.shift{env':aH}{H':Hp}{c:DCode}(hs:Shift env H env' H')(h:WPD B P r N c Q env' H'):WPD B P r N c Q env H:=by
 intro c hc F w act n0 T h1 h2 h3 h4 h5 h6;obtain⟨F',k1,k2,k3⟩:=hs F w act h4 h5;refine wpIn_mono (h c hc F' w act n0 T (h1.step h4 k1) h2 h3 k2 k3 (h6.ext k1)) ?_
 grind [LandP.step]
theorem LandP.mono{n0:Nat}{T:List Deferred}{Q':QP}(hq:∀ v e H',Q v e H'→Q' v e H'){e:Exit}{a':Act}{w':World}(h:LandP n0 T F w H Q e a' w'):LandP n0 T F w H Q' e a' w':=by
 obtain⟨c,v,env',F',H',h1,h2,h3,h4,h5,h6,h7⟩:=h;exact⟨c,v,env',F',H',h1,h2,h3,h4,h5,h6,hq _ _ _ h7⟩
theorem WPD.mono{c:DCode}{Q':QP}(hq:∀ v e H',Q v e H'→Q' v e H')(h:WPD B P r N c Q env H):WPD B P r N c Q' env H :=
 fun c hc F w act n0 T h1 h2 h3 h4 h5 h6=>wpIn_mono (h c hc F w act n0 T h1 h2 h3 h4 h5 h6) fun _ _ _=>LandP.mono hq
def zZ:AO→Bool
 | .meth _ _=>false
 | _=>true
structure aQO where
 N:Nat
 res:List (Nat×Option (Bool×Nat))
 pre:List DOper
 cell:Nat
 fn:Nat
 body:XCode
 ty:TypeId
 zero:AV
 hops:List DOper
 is:Nat
 hlast:List DOper
def aBq(cell v:AV)(t:Bool):aH:=fun j=>if j=0 then cell else if j=5 then .tup [v,.bool t] else .any
def xF(i:aQO)(run:eA)(runY:fA)(cell v:AV)(t:Bool)(h:XH):Option XH:=match fI run runY i.hops (aBq cell v t) h with
 | some (e1,h1)=>match e1 i.is with
   | .bool true=>(fI run runY i.hlast e1 h1).map (·.2)
   | .bool false=>some h1
   | _=>none
 | none=>none
section
variable{P:Program}{B:Base}{D:Nat→Option XFn}{Y:Nat→Option YI}{r:Nat→Option Nat}{e env:aH}{h:XH}{H:Hp}

theorem aEY{F:Nat→Prop}{w:World}{Q:AV→Hp→Prop}{e:Ending}{w':World}:aLu F w H Q e w'↔∃ c,e = .panicked (pnc c)∧vH F w H Q (.returned c) w':=by
 simp[aLu,vH]

theorem FnP.mono{f:FuncId}{as:List AV}{Q Q':AV→Hp→Prop}(hq:∀ v H',Q v H'→Q' v H')(hp:FnP B P f as H Q):FnP B P f as H Q' :=
 ⟨hp.1,fun F w vs h1 h2 h3=>(hp.2 F w vs h1 h2 h3).mono fun e w' ⟨c,v,F',H',k1,k2,k3,k4,k5⟩=>⟨c,v,F',H',k1,k2,k3,k4,hq _ _ k5⟩⟩

theorem FnP.frameS{f:FuncId}{as:List AV}{Q:AV→Hp→Prop}(S:Nat→Prop)[DecidablePred S](hp:FnP B P f as (fun c=>if S c then H c else none) Q) :
 FnP B P f as H fun v H''=>∃ H',Q v H'∧(∀ c,S c∨H c=none→H'' c=H' c)∧(∀ c,¬S c→∀ x,H c=some x→H'' c=some x∧H' c=none):=by
 refine⟨hp.1,fun F w vs h1 h2 h3=>(hp.2 F w vs h1 ?_ h3).mono fun e w' hw0=>?_⟩
 ·exact h2.forget fun c x hc=>by
   grind
 ·obtain⟨c,rfl,hw1⟩:=aEY.1 hw0
  exact aEY.2 ⟨c,rfl,aBm S h2 _ _ hw1⟩

def bDu(D:Nat→Option XFn)(Y:Nat→Option YI)(r:Nat→Option Nat)(v:AV)(e:aH)(h:XH)(Q:QP):Prop:=∀ r' v' env' H',Sub r r'→SR D Y r' e h env' H'→Rn D Y r' v v'→Q v' env' H'

def bDv(D:Nat→Option XFn)(Y:Nat→Option YI)(k:Nat)(r:Nat→Option Nat)(v:AV)(e:aH)(h:XH)(Q:QP):Prop:=∀ r' v' env' H',Agree k r r'→SR D Y r' e h env' H'→Rn D Y r' v v'→Q v' env' H'

theorem FnP.nz{f:FuncId}{as:List AV}{Q:AV→Hp→Prop}(h:FnP B P f (lT as) H Q):FnP B P f as H Q:=⟨h.1,fun F w vs h1 h2 h3=>h.2 F w vs h1 h2 h3.nz⟩

end
variable{P:Program}{B:Base}{F:Nat→Prop}{w:World}{H:Hp}{env:aH}{a:Act}

theorem aEd{Fe:Fence}{n:Nat}{id:Nat}{ops:Array Oper}{Q:Exit→Act→List Frame→World→Prop}{cs:List Frame}{o:Oper}(ho:ops[0]?=some o)
 (hg:o.guard=none) (hab:∀ f,o.about P w a.eval=some f→Fe.fn f) (hr:(execOp a.eval o).run P w = .ok .recover w) (hro:Fe.round=none)
 (h:match recoverD cs with
  | some (v,cs')=>wpOpsIn Fe n P ops (fun e a w=>Q e a cs' w) (List.range' 1 (ops.size-1)) (a.put o.dst v) w
  | none=>wpOpsIn Fe n P ops (fun e a w=>Q e a cs w) (List.range' 1 (ops.size-1)) (a.put o.dst .nilIface) w) :
 (Code.region id ops false).wpSIn Fe n P Q a cs w:=by
 intro b k hb hrd hF hroom;have hsz:0<ops.size:=(G3.1 ho).1;have hrange:List.range ops.size=0::List.range' 1 (ops.size-1):=by
  rw[O0];obtain⟨m,hm⟩:∃ m,ops.size=m+1:=⟨ops.size-1,by omega⟩;rw[hm,aB1];simp
 have i0:(lone (b.atR a (.code (.region id ops false)::k)) cs w).fenced P Fe:=fenced_calm hF hroom rfl;have s0:=stepR_region (P:=P) (b:=b) (a:=a) (k:=k) (cs:=cs) (w:=w) (id:=id) (ops:=ops);rw[hrange]at s0;have hw:Region.wanted o (yielded ops a.tmps)=true:=by unfold Region.wanted;rw[hg]
 have h0:(lone (b.atR a (.inRegion ops (0::List.range' 1 (ops.size-1))::k)) cs w).fenced P Fe:=fenced_oper hF hroom ho hab;have hgg:=stepGR_op (P:=P) (b:=b) (k:=k) (cs:=cs) (w:=w) (rest:=List.range' 1 (ops.size-1)) ho hw;rw[hrd,Oper.semAt_none]at hgg;have hfin:∀ v,(b.atR a (.inRegion ops (0::List.range' 1 (ops.size-1))::k)).finish v=b.atR (a.put o.dst v) (.inRegion ops (List.range' 1 (ops.size-1))::k):=by
  intro v;rw[Frame.finish_atR,ho];rfl
 have hk:(b.atR a (.inRegion ops (0::List.range' 1 (ops.size-1))::k)).kind = .deferred:=hb;have htr:=tryRecover_deferred hk cs;split at h
 ·rename_i v cs' hrec
  have hlen:=recoverD_length hrec;obtain⟨e,a',w'',hq,harr⟩:=wp_opsIn _ _ _ h b k cs' (hrd.trans hro.symm) hF (by rw[hlen];exact hroom);refine⟨e,a',cs',w'',hlen,hq,.of_steps (.one i0 s0) (.of_steps (.one h0 (step_lone_go ?_)) harr)⟩;rw[hgg,←hfin];simp only[Frame.atR,hrd]at htr ⊢;simp[stepG.apply,hr,htr,hrec]
 ·rename_i hrec
  obtain⟨e,a',w'',hq,harr⟩:=wp_opsIn _ _ _ h b k cs (hrd.trans hro.symm) hF hroom;refine⟨e,a',cs,w'',rfl,hq,.of_steps (.one i0 s0) (.of_steps (.one h0 (step_lone_go ?_)) harr)⟩;rw[hgg,←hfin];simp only[Frame.atR,hrd]at htr ⊢;simp[stepG.apply,hr,htr,hrec]

theorem aEx{fn:Func}{tmps:Array Value}{n0:Nat}{F0:Nat→Prop}{w0:World}{H0:Hp}{R:Ending→World→Prop}{T:List Deferred}{u:FrameMode}{S:World→Prop}(hS:∀ w w',Up F w F w'→S w→S w')(hu:u ≠ .run)(hn0:w0.heap.size≤n0)
 (hT:∀ w,S w→Ext F0 w0 H0 F w H→St F w H→RE F w env { tmps:=tmps,defers:=[] }→LeavesInM Fence.wide 0 P fn tmps R T u w) :
 ∀(ms:List Deferred)(w:World),S w→Ext F0 w0 H0 F w H→St F w H→RE F w env { tmps:=tmps,defers:=[] }→ms.Nodup→(∀ d∈ms,Mk1 n0 F H w d)→LeavesInM Fence.wide 0 P fn tmps R (ms++T) u w:=by
 intro ms;induction ms with
 | nil=>intro w hs he st re _ _;exact hT w hs he st re
 | cons d ds ih =>
   intro w hs he st re hnd hm;obtain⟨D,rfl,h2,h3,h4,h5⟩:=hm d (by simp);obtain⟨k1,k2,k3⟩:=xO (n0:=0) (x:=none) he st (I0 hn0 h2) h3 h4 h5;have hnd:=N4.1 hnd;refine⟨hu,.inl ⟨D,_,rfl,run_takeDeferred h3,ih _ (hS _ _ k3 hs) k1 k2 (re.up k3) hnd.2 fun d' hd'=>?_⟩⟩;obtain⟨D',rfl,l2,l3,l4,l5⟩:=hm d' (by simp[hd']);refine⟨D',rfl,l2,?_,l4,l5⟩;rw[World.putObj_heap_other fun e=>hnd.1 (by rw[←e];exact hd')];exact l3
end
end Go.DL
