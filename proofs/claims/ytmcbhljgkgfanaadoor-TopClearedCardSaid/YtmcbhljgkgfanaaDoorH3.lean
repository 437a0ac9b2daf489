/- Parts of a proof, joined: X9 XA XC XD XE XR XS XF XG XT. No statement of the seed is proved here. -/
import Derived.Carry
import Derived.OpenShut
import Derived.ChangeArms
import Derived.DataReads
import Derived.ChangeOld
import Derived.ChangeShapes
import Derived.Test.YtmcbhljgkgfanaaDoorH2
set_option linter.unusedSimpArgs false
set_option linter.unusedVariables false
set_option linter.unusedSectionVars false
namespace Go.DL
section
variable {P:Program} {B:Base} {D:Nat→Option XFn} {Y:Nat→Option YI} {r:Nat→Option Nat} {e env:aL} {h:XH} {H:Hp}

theorem LogR.mono {r':Nat→Option Nat} {h':XH} {L:List (Nat×Nat)} {L':rT} (hl:LogR r h L L') (hs:Sub r r') (hk:∀ q∈L,(hat h q.2).isSome=true→(hat h' q.2).isSome=true):LogR r' h' L L' :=
 ⟨fun q hq=>hk q hq (hl.1 q hq),fun j c hj=>let ⟨b,h1,h2⟩:=hl.2 j c hj; ⟨b,h1,hs b c h2⟩⟩

theorem aDF (sr:SR D Y r e h env H) {ix:Nat} {op:DOp} (hok:fO op=true) {L:List (Nat×Nat)} {L':rT} (hl:LogR r h L L') {eff:Eff} (he:aC op e (dP h)=some eff):LogR r h (aEF ix op e L) (dJ ix op env L'):=by
 cases op with
 | load g n x =>
   have hx:=aV sr.re (x:=x) hok
   simp only[aEF,dJ]
   simp only[aC]at he
   split at he<;>simp only[oSI,reduceCtorEq]at he
   rename_i v hv
   unfold dU at hv
   split at hv
   ·rename_i b o hb
    rw[hb]at hx
    obtain⟨c,k1,k2⟩:=pC hx
    simp only[fF,hb,k1]
    have hlive:(hat h b).isSome=true:=by
     split at hv
     ·rename_i w cs hc
      obtain⟨g',cs',k3,_⟩:=sr.sh.cells k2 hc
      simp[k3]
     ·simp at hv
    refine⟨fun q hq=>?_,fun j c' hj=>?_⟩
    ·rcases List.mem_cons.1 hq with rfl|hq
     ·exact hlive
     ·exact hl.1 q hq
    ·simp only at hj
     split at hj
     ·rename_i hji
      simp only[oSI]at hj
      subst hj;subst hji
      exact⟨b,by simp,k2⟩
     ·obtain⟨b',k3,k4⟩:=hl.2 j c' hj
      exact⟨b',by simp[k3],k4⟩
   ·rename_i rows i o hb
    rw[hb]at hx
    simp only[fF,hb,(tS hx).1]
    refine⟨hl.1,fun j c' hj=>?_⟩
    simp only at hj
    split at hj
    ·simp at hj
    ·exact hl.2 j c' hj
   ·simp at hv
 | _=>exact hl

theorem aAL {run:fW} {runY:iI} (hf:FnS P B D Y run) (hy:YS P B D Y runY):∀ (ops:List DOper) (r:Nat→Option Nat) (e:aL) (h:XH) (L:List (Nat×Nat)) (env:aL) (H:Hp) (L':rT) (e':aL) (h':XH) (K:aL→Hp→Prop),wI ops=true→SR D Y r e h env H →
 LogR r h L L'→eO run runY ops e h L=some (e',h')→aJt D Y r e' h' K→RD B P ops K env H L':=by
 intro ops
 induction ops with
 | nil =>
   intro r e h L env H L' e' h' K _ sr _ hx hK
   simp only[eO,oSI,Prod.mk.injEq]at hx
   obtain⟨rfl,rfl⟩:=hx
   exact hK r env H (Sub.refl r) sr
 | cons o ops ih =>
   intro r e h L env H L' e' h' K hok sr hl hx hK
   simp only[wI,List.all_cons,Bool.and_eq_true]at hok
   simp only[eO]at hx
   simp only[RD,opD]
   split at hx
   ·rename_i hg
    rw[aDO sr hg]
    simp only[optW_some,xD,if_true]
    split at hx
    ·rename_i hlog
     simp only[Option.bind_eq_some_iff]at hx
     obtain⟨⟨e1,h1⟩,hx1,hx2⟩:=hx
     split at hx2
     ·rename_i hpost
      have next:∀ r' env' H' L2,Sub r r'→SR D Y r' e1 h1 env' H'→LogR r' h1 (aEF o.ix o.op e L) L2→RD B P ops K env' H' L2:=fun r' env' H' L2 hs sr' hl' =>
       ih r' e1 h1 _ env' H' L2 e' h' K hok.2 sr' hl' hx2 fun r2 env2 H2 hs2 sr2=>hK r2 env2 H2 (hs.trans hs2) sr2
      revert hx1 hlog hpost next
      generalize o.op=op at hok ⊢
      intro hlog hx1 hpost next
      have hok:=hok.1
      by_cases hq:op.isQ=true
      ·rw[mI (fun n p x l e=>by subst e;simp[DOp.isQ]at hq) (fun f xs l e=>by subst e;simp[DOp.isQ]at hq)]
       refine qH sr hq hok hx1 fun r' env' H' hs sr'=>next r' env' H' _ hs sr' ?_
       have hx':(match aC op e (dP h)with
        | some (.val v)=>some (bM e o.dst v,h)
        | some (.new own x f)=>some (bM e o.dst (f h.length),oU h own (iC op e h) x)
        | none=>none)=some (e1,h1):=by
        rw[←hx1]
        cases op<;>first|rfl|(simp[DOp.isQ]at hq)
       split at hx'
       ·rename_i v hv
        simp only[oSI,Prod.mk.injEq]at hx'
        obtain⟨_,rfl⟩:=hx'
        exact(aDF sr hok hl hv).mono hs fun _ _ h=>h
       ·rename_i own x f hv
        simp only[oSI,Prod.mk.injEq]at hx'
        obtain⟨_,rfl⟩:=hx'
        refine(aDF sr hok hl hv).mono hs fun q hq' hlive=>?_
        unfold oU
        rw[eV]
        cases own with
        | none =>
          obtain⟨x,hx⟩:=Option.isSome_iff_exists.1 hlive
          simp only[sW hx,if_true,hlive]
        | some b0 =>
          obtain⟨x,hx⟩:=Option.isSome_iff_exists.1 hlive
          simp only[List.length_set,sW hx,if_true]
          rw[fD]
          split
          ·rename_i hc
           exfalso
           cases op with
           | app s n x y =>
             simp only[aC,mS]at hv
             split at hv
             ·simp at hv
             ·split at hv
              ·split at hv
               ·split at hv<;>simp at hv
               ·simp at hv
              ·rename_i b' s' len hbx
               split at hv
               ·split at hv
                ·simp only[oSI,Eff.new.injEq]at hv
                 obtain⟨h1,_⟩:=hv
                 subst h1
                 simp only[tW,List.all_eq_true]at hlog
                 have:=hlog q hq'
                 rw[hbx]at this
                 simp[fF,hc.1]at this
                ·simp at hv
               ·simp at hv
              ·simp at hv
           | _ =>
             simp only[aC]at hv
             first
              | (simp at hv;done)
              | ((repeat' split at hv)<;>simp at hv)
          ·exact hlive
       ·simp at hx'
      ·cases op with
       | store n p x l =>
         simp only[fO,Bool.and_eq_true]at hok
         simp only[cY,Option.map_eq_some_iff]at hx1
         obtain⟨h2,hs,heq⟩:=hx1
         simp only[Prod.mk.injEq]at heq
         obtain⟨rfl,rfl⟩:=heq
         obtain⟨H',k1,k2,b0,x0,k3,k4⟩:=yL sr.sh (aV sr.re hok.1) (aV sr.re hok.2) hs
         refine⟨fun j hj c hc hbl=>?_,?_⟩
         ·obtain⟨b,m1,m2⟩:=hl.2 j c hc
          simp only[tW,List.all_eq_true]at hlog
          have h3:=hlog (j,b) m1
          simp only[hj,List.contains_iff_mem,Bool.or_eq_true,Bool.not_eq_true',bne_iff_ne,ne_eq]at h3
          have h3:fF (aU e p)≠some b:=by
           rcases h3 with h3|h3
           ·simp[hj]at h3
           ·exact h3
          have hp:=aV sr.re hok.1
          cases hv:aU e p<;>rw[hv]at k3 hp h3<;>simp only[fF,oSI,reduceCtorEq]at k3
          all_goals
           subst k3
           first
            | obtain⟨c',e1,e2⟩:=pC hp
            | obtain⟨c',e1,e2⟩:=qP hp
            | obtain⟨c',e1,e2⟩:=aBh hp
            | obtain⟨c',e1,e2⟩:=yZ hp
           rw[e1]at hbl
           simp only[fF,oSI]at hbl h3
           subst hbl
           obtain⟨y,hy⟩:=Option.isSome_iff_exists.1 (hl.1 _ m1)
           exact h3 (by rw[sr.sh.inj _ _ c' _ _ k4 hy e2 m2])
         ·simp only[k1,optW_some]
          refine next r _ _ L' (Sub.refl r) (sr.put (Sub.refl r) k2 (.any _) o.dst) (hl.mono (Sub.refl r) fun q hq hlive=>?_)
          unfold kO at hs
          split at hs
          ·split at hs
           ·split at hs
            ·simp only[oSI]at hs
             subst hs
             rw[fD];split
             ·rfl
             ·exact hlive
            ·simp at hs
           ·simp at hs
          ·simp at hs
       | copy s x y =>
         rw[mI (by simp) (by simp)]
         refine fY hf hy sr hok hx1 fun r' env' H' hs sr'=>next r' env' H' L' hs sr' (hl.mono hs fun q hq hlive=>?_)
         simp only[cY,Option.map_eq_some_iff]at hx1
         obtain⟨⟨n,h2⟩,hc,heq⟩:=hx1
         simp only[Prod.mk.injEq]at heq
         obtain⟨_,rfl⟩:=heq
         unfold aCZ at hc
         split at hc
         ·split at hc
          ·split at hc
           ·simp only[oSI,Prod.mk.injEq]at hc
            obtain⟨_,rfl⟩:=hc
            rw[fD];split
            ·rfl
            ·exact hlive
           ·simp at hc
          ·simp at hc
         ·simp at hc
       | mapup q m k x =>
         rw[mI (by simp) (by simp)]
         refine fY hf hy sr hok hx1 fun r' env' H' hs sr'=>next r' env' H' L' hs sr' (hl.mono hs fun q hq hlive=>?_)
         simp only[cY,Option.map_eq_some_iff]at hx1
         obtain⟨h2,hc,heq⟩:=hx1
         simp only[Prod.mk.injEq]at heq
         obtain⟨_,rfl⟩:=heq
         unfold zZ at hc
         split at hc
         ·split at hc
          ·simp only[Option.map_eq_some_iff]at hc
           obtain⟨es,_,rfl⟩:=hc
           rw[fD];split
           ·rfl
           ·exact hlive
          ·simp at hc
         ·simp at hc
       | send c x =>
         rw[mI (by simp) (by simp)]
         refine fY hf hy sr hok hx1 fun r' env' H' hs sr'=>next r' env' H' L' hs sr' (hl.mono hs fun q hq hlive=>?_)
         simp only[cY,Option.map_eq_some_iff]at hx1
         obtain⟨h2,hc,heq⟩:=hx1
         simp only[Prod.mk.injEq]at heq
         obtain⟨_,rfl⟩:=heq
         unfold tK at hc
         split at hc
         ·split at hc
          ·split at hc
           ·split at hc<;>simp only[oSI,reduceCtorEq]at hc
            subst hc
            rw[fD];split
            ·rfl
            ·exact hlive
           ·simp at hc
          ·simp at hc
         ·simp at hc
       | recv ok z c =>
         rw[mI (by simp) (by simp)]
         refine fY hf hy sr hok hx1 fun r' env' H' hs sr'=>next r' env' H' L' hs sr' (hl.mono hs fun q hq hlive=>?_)
         simp only[cY,Option.map_eq_some_iff]at hx1
         obtain⟨⟨v,h2⟩,hc,heq⟩:=hx1
         simp only[Prod.mk.injEq]at heq
         obtain⟨_,rfl⟩:=heq
         unfold tL at hc
         split at hc
         ·split at hc
          ·split at hc
           ·simp only[oSI,Prod.mk.injEq]at hc
            obtain⟨_,rfl⟩:=hc
            rw[fD];split
            ·rfl
            ·exact hlive
           ·simp only[oSI,Prod.mk.injEq]at hc
            obtain⟨_,rfl⟩:=hc
            rw[fD];split
            ·rfl
            ·exact hlive
           ·simp at hc
          ·simp at hc
         ·simp at hc
       | callf q f xs l =>
         cases q with
         | true =>
           rw[mI (by simp) (by simp)]
           refine fY hf hy sr hok hx1 fun r' env' H' hs sr'=>next r' env' H' L' hs sr' (hl.mono hs fun q hq hlive=>?_)
           simp only[cY,Option.map_eq_some_iff]at hx1
           obtain⟨v,_,heq⟩:=hx1
           simp only[Prod.mk.injEq]at heq
           obtain⟨_,rfl⟩:=heq
           exact hlive
         | false =>
           simp only[fO,Bool.and_eq_true]at hok
           simp only[cY,Option.map_eq_some_iff]at hx1
           obtain⟨⟨v,h2⟩,hs,heq⟩:=hx1
           simp only[Prod.mk.injEq]at heq
           obtain⟨rfl,rfl⟩:=heq
           refine CallV.mono (nZ (P:=P) (B:=B) hf hy sr.sh (aV sr.re hok.1) (qQ sr.re hok.2) hs) ?_
           rintro v' H' ⟨⟨r',k1,k2,k3⟩,k4⟩
           simp only[uT,List.all_eq_true,Bool.and_eq_true,Bool.or_eq_true,Bool.not_eq_true']at hpost
           refine⟨fun j hj c hc=>?_,next r' _ _ L' k1 (sr.put k1 k2 k3 o.dst) (hl.mono k1 fun q hq _=>(hpost q hq).1)⟩
           obtain⟨b,m1,m2⟩:=hl.2 j c hc
           obtain⟨p1,p2⟩:=hpost (j,b) m1
           simp only at p1 p2
           rcases p2 with p2|p2|p2
           ·simp[hj]at p2
           ·exact k4 b c m2 (hl.1 _ m1) (by simpa using p2)
           ·-- the block lies as it lay
            obtain⟨x1,q1⟩:=Option.isSome_iff_exists.1 (hl.1 _ m1)
            obtain⟨x2,q2⟩:=Option.isSome_iff_exists.1 p1
            simp only at q1 q2
            rw[q1,q2]at p2
            obtain⟨c1,y1,g1,g2,g3⟩:=sr.sh.blk b x1 q1
            obtain⟨c2,y2,f1,f2,f3⟩:=k2.blk b x2 q2
            rw[m2]at g1;simp only[oSI]at g1;subst g1
            rw[k1 b c m2]at f1;simp only[oSI]at f1;subst f1
            rw[g2,f2]
            unfold aAX at p2
            split at p2
            ·rename_i _ _ _ _ w xs w' ys e1 e2
             simp only[oSI]at e1 e2
             subst e1;subst e2
             simp only[Bool.and_eq_true,beq_iff_eq]at p2
             cases g3 with
             | cells _ _ _ xs' n1 _ =>
               cases f3 with
               | cells _ _ _ ys' n2 _ =>
                 rw[p2.1,lE k1 _ _ _ _ p2.2 n1 n2]
            ·simp at p2
       | _=>exact absurd rfl hq
     ·simp at hx2
    ·simp at hx
   ·rename_i hg
    rw[aDO sr hg]
    simp only[optW_some,xD,Bool.false_eq_true,if_false]
    rw[mI (by simp) (by simp)]
    simp only[eK,aC,aU,optW_some,eX,dJ]
    exact ih r _ h L _ H L' e' h' K hok.2 (sr.put (Sub.refl r) sr.sh (.tup [] [] rfl (by simp)) o.dst) hl hx hK
   ·simp at hx
end
section
variable {P:Program} {B:Base} {D:Nat→Option XFn} {Y:Nat→Option YI} {r:Nat→Option Nat} {e env:aL} {h:XH} {H:Hp}

def Agree (k:Nat) (r r':Nat→Option Nat):Prop:=∀ b c,b<k→r b=some c→r' b=some c
theorem Agree.refl (k:Nat) (r:Nat→Option Nat):Agree k r r:=fun _ _ _ h=>h
theorem Agree.trans {k:Nat} {r r' r'':Nat→Option Nat} (h:Agree k r r') (g:Agree k r' r''):Agree k r r'':=fun b c hb hr=>g b c hb (h b c hb hr)
theorem Sub.agree {r r':Nat→Option Nat} (h:Sub r r') (k:Nat):Agree k r r':=fun b c _ hr=>h b c hr

def nK (k:Nat) (r:Nat→Option Nat) (acc:List Nat):Nat→Option Nat:=fun i=>if i<k then r i else (acc[i-k]?).bind r

theorem wQ (sh:SH D Y r h H) {k:Nat} {acc:List Nat} (hn:acc.Nodup) (hok:∀ b∈acc,(hat h b).isSome=true∧k≤b) :
 Agree k r (nK k r acc)∧SH D Y (nK k r acc) (mQ k acc h) H∧∀ v v',Rn D Y r v v'→Rn D Y (nK k r acc) (rnA (iB k acc) v) v':=by
 have hs:∀ b c d,iB k acc b=some c→r b=some d→nK k r acc c=some d:=fun b c d h1 h2=>by
  unfold iB at h1
  split at h1
  ·simp only[oSI]at h1;subst h1
   rename_i hb
   simp only[nK,hb,if_true];exact h2
  ·rw[Option.map_eq_some_iff]at h1
   obtain⟨p,h3,rfl⟩:=h1
   simp only[nK,show ¬(p+k<k) by omega,if_false,Nat.add_sub_cancel,zC h3,Option.bind_some,h2]
 have hat1:∀ i x,hat (mQ k acc h) i=some x→∃ b y,hat h b=some y∧x=rnB (iB k acc) y∧nK k r acc i=r b∧((i<k∧b=i)∨(k≤i∧acc[i-k]?=some b)):=fun i x hx=>by
  unfold mQ at hx
  rw[eV]at hx
  simp only[List.length_map,padTake_length]at hx
  split at hx
  ·rename_i hi
   rw[rG _ rfl,tZ,if_pos hi]at hx
   obtain⟨y,hy,rfl⟩:=nE hx
   exact⟨i,y,hy,rfl,by simp only[nK,hi,if_true],.inl ⟨hi,rfl⟩⟩
  ·rename_i hi
   rw[sX _ _ _ rfl]at hx
   split at hx
   ·rename_i b hb
    obtain⟨y,hy,rfl⟩:=nE hx
    exact⟨b,y,hy,rfl,by simp only[nK,hi,if_false,hb,Option.bind_some],.inr ⟨by omega,hb⟩⟩
   ·simp at hx
 refine⟨fun b c hb hr=>by simp only[nK,hb,if_true];exact hr,⟨fun i c hi=>?_,fun i j c x y hx hy h1 h2=>?_,fun i x hx=>?_⟩,fun v v' hv=>hv.renum hs⟩
 ·unfold mQ
  simp only[List.length_append,List.length_map,padTake_length]
  by_cases hk:i<k
  ·omega
  ·simp only[nK,hk,if_false]at hi
   cases ha:acc[i-k]? with
   | none=>rw[ha]at hi;simp at hi
   | some b=>have:=(List.getElem?_eq_some_iff.1 ha).1;omega
 ·obtain⟨b1,y1,p1,_,p2,p3⟩:=hat1 i x hx
  obtain⟨b2,y2,q1,_,q2,q3⟩:=hat1 j y hy
  rw[p2]at h1;rw[q2]at h2
  have:=sh.inj b1 b2 c y1 y2 p1 q1 h1 h2
  subst this
  rcases p3 with ⟨p3,p4⟩|⟨p3,p4⟩
  ·rcases q3 with ⟨q3,q4⟩|⟨q3,q4⟩
   ·omega
   ·have:=(hok _ (List.mem_of_getElem? q4)).2;omega
  ·rcases q3 with ⟨q3,q4⟩|⟨q3,q4⟩
   ·have:=(hok _ (List.mem_of_getElem? p4)).2;omega
   ·have:=zE hn p4 q4;omega
 ·obtain⟨b,y,p1,rfl,p2,_⟩:=hat1 i x hx
  obtain⟨c,z,q1,q2,q3⟩:=sh.blk b y p1
  exact⟨c,z,by rw[p2];exact q1,q2,q3.renum hs⟩

theorem wR (k:Nat) (vs:List AV) (h:XH):(dO k vs h).Nodup∧∀ b∈dO k vs h,(hat h b).isSome=true∧k≤b :=
 zB h k oH _ [] List.nodup_nil (by simp)

theorem aBE (f:Nat→AV):∀ (L:List Nat) (j:Nat),aY L (L.map f) j=f j∨aY L (L.map f) j = .any
 | [],j=>.inr rfl
 | k::L,j=>by
   simp only[List.map_cons,aY]
   split
   ·rename_i hj;subst hj;exact .inl rfl
   ·exact aBE f L j

theorem aBP (sr:SR D Y r e h env H) (k:Nat) (L:List Nat):∃ r',Agree k r r'∧SR D Y r' (jC k L e h) (mM k L e h) env H:=by
 obtain⟨h1,h2⟩:=wR k (L.map e) h
 obtain⟨k1,k2,k3⟩:=wQ sr.sh h1 h2
 refine⟨_,k1,k2,fun j=>?_⟩
 unfold jC
 rw[qR,List.map_map]
 rcases aBE (rnA (iB k (dO k (L.map e) h))∘e) L j with h3|h3
 ·rw[h3];exact k3 _ _ (sr.re j)
 ·rw[h3];exact .any _

theorem mD (b:Nat) (cs:List AV):∀ l:List AV,uY b cs l=l.map (zM b cs)
 | []=>rfl
 | v::l=>by simp[uY,mD b cs l]

theorem kI {p:AV→AV→Prop} {q:AV→AV→Prop}:∀ (xs ys:List AV),xs.length=ys.length→(∀ (i:Nat) (x y:AV),xs[i]?=some x→ys[i]?=some y→∃ z,p y z∧q x z) →
 ∃ zs:List AV,ys.length=zs.length∧xs.length=zs.length∧(∀ (i:Nat) (y z:AV),ys[i]?=some y→zs[i]?=some z→p y z)∧∀ (i:Nat) (x z:AV),xs[i]?=some x→zs[i]?=some z→q x z
 | [],[],_,_=>⟨[],rfl,rfl,by simp,by simp⟩
 | [],_::_,hl,_=>by simp at hl
 | _::_,[],hl,_=>by simp at hl
 | x::xs,y::ys,hl,h=>by
   obtain⟨z,h1,h2⟩:=h 0 x y rfl rfl
   obtain⟨zs,k1,k2,k3,k4⟩:=kI xs ys (by simpa using hl) fun i x y hx hy=>h (i+1) x y (by simpa using hx) (by simpa using hy)
   refine⟨z::zs,by simp[k1],by simp[k2],fun i y' z' hy hz=>?_,fun i x' z' hx hz=>?_⟩
   ·cases i with
    | zero=>simp at hy hz;subst hy hz;exact h1
    | succ i=>exact k3 i y' z' (by simpa using hy) (by simpa using hz)
   ·cases i with
    | zero=>simp at hx hz;subst hx hz;exact h2
    | succ i=>exact k4 i x' z' (by simpa using hx) (by simpa using hz)

theorem xI {cs:List AV} {s:Nat}:∀ {n o:Nat},o+n*s≤cs.length→(bG cs o s n).length=n∧(∀ row∈bG cs o s n,row.length=s∧∀ c∈row,c∈cs) ∧
 ∀ (i:Nat) (row:List AV) (j:Nat) (c:AV),(bG cs o s n)[i]?=some row→row[j]?=some c→cs[o+i*s+j]?=some c
 | 0,o,_=>⟨rfl,by simp[bG],by simp[bG]⟩
 | n+1,o,hl=>by
   rw[Nat.add_mul,Nat.one_mul]at hl
   obtain⟨h1,h2,h3⟩:=xI (cs:=cs) (s:=s) (n:=n) (o:=o+s) (by omega)
   refine⟨by simp[bG,h1],fun row hrow=>?_,fun i row j c hi hj=>?_⟩
   ·simp only[bG,List.mem_cons]at hrow
    rcases hrow with rfl|hrow
    ·exact⟨by simp;omega,fun c hc=>List.mem_of_mem_drop (List.mem_of_mem_take hc)⟩
    ·exact h2 row hrow
   ·cases i with
    | zero =>
      simp only[bG,List.getElem?_cons_zero,oSI]at hi
      subst hi
      rw[List.getElem?_take]at hj
      split at hj
      ·rw[List.getElem?_drop]at hj;simpa using hj
      ·simp at hj
    | succ i =>
      simp only[bG,List.getElem?_cons_succ]at hi
      have:=h3 i row j c hi hj
      rw[Nat.add_mul,Nat.one_mul,show o+(i*s+s)+j=o+s+i*s+j by omega]
      exact this

theorem Rn.fz {b c:Nat} {cs:List AV} (hr:r b=some c) (hg:∀ x∈cs,Gd x) {v v':AV} (h:Rn D Y r v v'):∃ v'',Fz c cs v' v''∧Rn D Y r (zM b cs v) v'':=by
 induction h with
 | any v=>exact⟨v,.same v,.any v⟩
 | int k n=>exact⟨_,.same _,.int k n⟩
 | bool b=>exact⟨_,.same _,.bool b⟩
 | str t=>exact⟨_,.same _,.str t⟩
 | agg xs ys hl _ ih =>
   obtain⟨zs,k1,k2,k3,k4⟩:=kI xs ys hl ih
   refine⟨.agg zs,.agg _ _ k1 k3,?_⟩
   simp only[zM,mD]
   refine .agg _ _ (by simpa using k2) fun i x z hx hz=>?_
   rw[List.getElem?_map,Option.map_eq_some_iff]at hx
   obtain⟨x0,hx0,rfl⟩:=hx
   exact k4 i x0 z hx0 hz
 | tup xs ys hl _ ih =>
   obtain⟨zs,k1,k2,k3,k4⟩:=kI xs ys hl ih
   refine⟨.tup zs,.tup _ _ k1 k3,?_⟩
   simp only[zM,mD]
   refine .tup _ _ (by simpa using k2) fun i x z hx hz=>?_
   rw[List.getElem?_map,Option.map_eq_some_iff]at hx
   obtain⟨x0,hx0,rfl⟩:=hx
   exact k4 i x0 z hx0 hz
 | fs rows h=>exact⟨_,.same _,.fs rows h⟩
 | fp rows i o h=>exact⟨_,.same _,.fp rows i o h⟩
 | sl b0 c0 o s n h0 =>
   simp only[zM]
   split
   ·rename_i hc
    obtain⟨rfl,hle⟩:=hc
    rw[hr]at h0;simp only[oSI]at h0;subst h0
    obtain⟨m1,m2,m3⟩:=xI hle
    exact⟨_,.sl o s n (bG cs o s n) m1 (fun row hrow=>(m2 row hrow).1) m3,.fs _ fun row hrow c hc=>hg c ((m2 row hrow).2 c hc)⟩
   ·exact⟨_,.same _,.sl b0 c0 o s n h0⟩
 | pt b0 c0 o h0=>exact⟨_,.same _,.pt b0 c0 o h0⟩
 | mp b0 c0 h0=>exact⟨_,.same _,.mp b0 c0 h0⟩
 | ch b0 c0 h0=>exact⟨_,.same _,.ch b0 c0 h0⟩
 | nilsl=>exact⟨_,.same _,.nilsl⟩
 | nilpt=>exact⟨_,.same _,.nilpt⟩
 | nilmap=>exact⟨_,.same _,.nilmap⟩
 | nilfn=>exact⟨_,.same _,.nilfn⟩
 | nilifc=>exact⟨_,.same _,.nilifc⟩
 | fn f xs ys us vs hf hl1 _ hl2 _ ih1 ih2 =>
   obtain⟨zs,k1,k2,k3,k4⟩:=kI xs ys hl1 ih1
   obtain⟨ws,j1,j2,j3,j4⟩:=kI us vs hl2 ih2
   refine⟨.fn f zs ws,.fn f _ _ _ _ k1 k3 j1 j3,?_⟩
   have e1:zM b cs (.fn f xs us) = .fn f (uY b cs xs) (uY b cs us):=by
    cases f<;>first|rfl|exact absurd rfl (hf _)
   rw[e1,mD,mD]
   refine .fn f _ _ _ _ hf (by simpa using k2) (fun i x z hx hz=>?_) (by simpa using j2) (fun i x z hx hz=>?_)
   ·rw[List.getElem?_map,Option.map_eq_some_iff]at hx
    obtain⟨x0,hx0,rfl⟩:=hx
    exact k4 i x0 z hx0 hz
   ·rw[List.getElem?_map,Option.map_eq_some_iff]at hx
    obtain⟨x0,hx0,rfl⟩:=hx
    exact j4 i x0 z hx0 hz
 | yield l c0 h0=>exact⟨_,.same _,.yield l c0 h0⟩
 | ifc t x y h _=>exact⟨_,.same _,.ifc t x y h⟩

theorem RnB.fz {b c d:Nat} {cs:List AV} (hr:r b=some c) (hg:∀ x∈cs,Gd x) {x:XB} {y:ABlk} (h:RnB D Y r d x y):∃ z,FzB c cs y z∧RnB D Y r d (fzB b cs x) z:=by
 cases h with
 | cells g w xs ys h hgr =>
   cases g with
   | true=>exact⟨_,.same _,.cells d true w xs ys h hgr⟩
   | false =>
     obtain⟨zs,k1,k2,k3,k4⟩:=kI xs ys h.1 fun i x y hx hy=>(h.2 i x y hx hy).fz hr hg
     refine⟨.cells w zs,.cells w _ _ k1 k3,?_⟩
     simp only[fzB]
     refine .cells d _ w _ _ ⟨by rw[mD];simpa using k2,fun i x z hx hz=>?_⟩ (fun h=>h)
     rw[mD,List.getElem?_map,Option.map_eq_some_iff]at hx
     obtain⟨x0,hx0,rfl⟩:=hx
     exact k4 i x0 z hx0 hz
 | map g w xs ys h hgr =>
   cases g with
   | true=>exact⟨_,.same _,.map d true w xs ys h hgr⟩
   | false =>
     have hk:∀ (i:Nat) (x y:AV),(xs.map (·.1))[i]?=some x→(ys.map (·.1))[i]?=some y→Rn D Y r x y:=fun i x y hx hy=>by
      rw[List.getElem?_map,Option.map_eq_some_iff]at hx hy
      obtain⟨p,hp,rfl⟩:=hx
      obtain⟨q,hq,rfl⟩:=hy
      exact(h.2 i p q hp hq).1
     have hv:∀ (i:Nat) (x y:AV),(xs.map (·.2))[i]?=some x→(ys.map (·.2))[i]?=some y→Rn D Y r x y:=fun i x y hx hy=>by
      rw[List.getElem?_map,Option.map_eq_some_iff]at hx hy
      obtain⟨p,hp,rfl⟩:=hx
      obtain⟨q,hq,rfl⟩:=hy
      exact(h.2 i p q hp hq).2
     obtain⟨zs,k1,k2,k3,k4⟩:=kI (xs.map (·.1)) (ys.map (·.1)) (by simpa using h.1) fun i x y hx hy=>(hk i x y hx hy).fz hr hg
     obtain⟨ws,j1,j2,j3,j4⟩:=kI (xs.map (·.2)) (ys.map (·.2)) (by simpa using h.1) fun i x y hx hy=>(hv i x y hx hy).fz hr hg
     simp only[List.length_map]at k1 k2 j1 j2
     have hz:∀ (i:Nat) (p:AV×AV),(zs.zip ws)[i]?=some p→zs[i]?=some p.1∧ws[i]?=some p.2:=fun i p hp=>by
      rw[List.getElem?_zip_eq_some]at hp;exact hp
     refine⟨.map w (zs.zip ws),.map w _ _ (by simp;omega) fun i y p hy hp=>?_,?_⟩
     ·obtain⟨h1,h2⟩:=hz i p hp
      exact⟨k3 i y.1 p.1 (by simp[hy]) h1,j3 i y.2 p.2 (by simp[hy]) h2⟩
     ·simp only[fzB]
      refine .map d false w _ _ ⟨by simp;omega,fun i x p hx hp=>?_⟩ (by simp)
      rw[List.getElem?_map,Option.map_eq_some_iff]at hx
      obtain⟨x0,hx0,rfl⟩:=hx
      obtain⟨h1,h2⟩:=hz i p hp
      exact⟨k4 i x0.1 p.1 (by simp[hx0]) h1,j4 i x0.2 p.2 (by simp[hx0]) h2⟩
 | loop i vs s o d' L ps a b' hY h hD hs hv=>exact⟨_,.same _,.loop d i vs s o d' L ps a b' hY h hD hs hv⟩

theorem aEK (sr:SR D Y r e h env H) (b:Nat):∃ env' H',Shift env H env' H'∧SR D Y r (fz1 b e h).1 (fz1 b e h).2 env' H':=by
 unfold fz1
 split
 ·rename_i w cs hb
  obtain⟨c,y,hr,h1,h2⟩:=sr.sh.blk b _ hb
  cases h2 with
  | cells _ _ _ ys h3 h4 =>
    obtain⟨rfl,hg⟩:=h3.same (h4 rfl)
    obtain⟨env',henv⟩:=Classical.skolem.1 fun j=>(sr.re j).fz hr hg
    have hH:∀ d,∃ o:Option ABlk,(d=c→o=none)∧(d≠c→(o=none∨∃ x y,H d=some x∧o=some y∧FzB c ys x y))∧(∀ b' x,hat h b'=some x→b'≠b→r b'=some d→∃ y,o=some y∧RnB D Y r d (fzB b ys x) y):=by
     intro d
     by_cases hd:d=c
     ·refine⟨none,fun _=>rfl,fun h=>absurd hd h,fun b' x hx hne hr'=>?_⟩
      subst hd
      exact absurd (sr.sh.inj b' b d x _ hx hb hr' hr) hne
     ·by_cases hex:∃ b' x,hat h b'=some x∧r b'=some d
      ·obtain⟨b1,x1,k1,k2⟩:=hex
       obtain⟨d',y1,k3,k4,k5⟩:=sr.sh.blk b1 x1 k1
       rw[k2]at k3;simp only[oSI]at k3;subst k3
       obtain⟨z,k6,k7⟩:=k5.fz hr hg
       refine⟨some z,fun h=>absurd h hd,fun _=>.inr ⟨y1,z,k4,rfl,k6⟩,fun b' x hx hne hr'=>?_⟩
       have:=sr.sh.inj b' b1 d x x1 hx k1 hr' k2
       subst this
       rw[hx]at k1;simp only[oSI]at k1;subst k1
       exact⟨z,rfl,k7⟩
      ·exact⟨none,fun _=>rfl,fun _=>.inl rfl,fun b' x hx hne hr'=>absurd ⟨b',x,hx,hr'⟩ hex⟩
    obtain⟨H',hH'⟩:=Classical.skolem.1 hH
    refine⟨env',H',Shift.freeze (b:=c) (wr:=w) (cs:=ys) h1 (fun j=>(henv j).1) ((hH' c).1 rfl) (fun d hd=>(hH' d).2.1 hd),⟨⟨fun b c hb=>by simpa using sr.sh.dom b c hb,fun b1 b2 c' x1 x2 g1 g2 k1 k2=>?_,fun b' x hx=>?_⟩,fun j=>(henv j).2⟩⟩
    all_goals
     have live:∀ b' x,hat ((h.map (fzO b ys)).set b none) b'=some x→b'≠b∧∃ x0,hat h b'=some x0∧x=fzB b ys x0:=fun b' x hx=>by
      rw[fD]at hx
      split at hx
      ·simp at hx
      ·rename_i hc
       rw[rG _ rfl]at hx
       cases hx0:hat h b' with
       | none=>rw[hx0]at hx;simp[fzO]at hx
       | some x0 =>
         rw[hx0]at hx
         simp only[fzO,oSI]at hx
         exact⟨fun e=>hc ⟨e,by simpa using sW hb⟩,x0,rfl,hx.symm⟩
    ·obtain⟨_,y1,m1,_⟩:=live b1 x1 g1
     obtain⟨_,y2,m2,_⟩:=live b2 x2 g2
     exact sr.sh.inj b1 b2 c' y1 y2 m1 m2 k1 k2
    ·obtain⟨hne,x0,m1,rfl⟩:=live b' x hx
     obtain⟨c',y',m2,_,_⟩:=sr.sh.blk b' x0 m1
     obtain⟨z,m3,m4⟩:=(hH' c').2.2 b' x0 m1 hne m2
     exact⟨c',z,m2,m3,m4⟩
 ·exact⟨env,H,Shift.le (Le.refl _),sr⟩

theorem pX:∀ (ns:List Nat) (e:aL) (h:XH) (env:aL) (H:Hp),SR D Y r e h env H→∃ env' H',Shift env H env' H'∧SR D Y r (sZ ns e h).1 (sZ ns e h).2 env' H'
 | [],e,h,env,H,sr=>⟨env,H,Shift.le (Le.refl _),sr⟩
 | b::ns,e,h,env,H,sr=>by
   obtain⟨env1,H1,k1,k2⟩:=aEK sr b
   obtain⟨env2,H2,k3,k4⟩:=pX ns _ _ env1 H1 k2
   exact⟨env2,H2,k1.trans k3,k4⟩
theorem jF:∀ l:List AV,dI l=l.map kU
 | []=>rfl
 | v::l=>by simp[dI,jF l]

theorem Rv.nz {F:Nat→Prop} {w:World} {a:AV} {v:Value} (h:Rv F w a v):Rv F w (kU a) v:=by
 induction h with
 | agg cs vs hl ho _ ih =>
   simp only[kU,jF]
   refine .agg _ _ (by simpa using hl) ho fun i c v hc hv=>?_
   rw[List.getElem?_map,Option.map_eq_some_iff]at hc
   obtain⟨c0,hc0,rfl⟩:=hc
   exact ih i c0 v hc0 hv
 | tup cs vs hl _ ih =>
   simp only[kU,jF]
   refine .tup _ _ (by simpa using hl) fun i c v hc hv=>?_
   rw[List.getElem?_map,Option.map_eq_some_iff]at hc
   obtain⟨c0,hc0,rfl⟩:=hc
   exact ih i c0 v hc0 hv
 | nilsl=>exact .fs0 none 0
 | int k n=>exact .int k n
 | bool b=>exact .bool b
 | str s=>exact .str s
 | fs0 a cap=>exact .fs0 a cap
 | fs rows blk off s cap g h1 h2 h3 h4 h5 h6=>exact .fs rows blk off s cap g h1 h2 h3 h4 h5 h6
 | fp rows i o blk off s g h1 h2 h3 h4 h5=>exact .fp rows i o blk off s g h1 h2 h3 h4 h5
 | sl b off s len cap c e fr h1 h2 h3=>exact .sl b off s len cap c e fr h1 h2 h3
 | pt b off=>exact .pt b off
 | mp b=>exact .mp b
 | ch b=>exact .ch b
 | nilpt=>exact .nilpt
 | nilmap=>exact .nilmap
 | fn f first cap fv cv h1 h2 h3 h4=>exact .fn f first cap fv cv h1 h2 h3 h4
 | nilfn=>exact .nilfn
 | ifc t a v h=>exact .ifc t a v h
 | nilifc=>exact .nilifc
 | any v=>exact .any v

theorem Args.nz {F:Nat→Prop} {w:World} {as:List AV} {vs:Array Value} (h:Args F w as vs):Args F w (dI as) vs:=by
 rw[jF]
 refine⟨by simpa using h.1,fun i c v hc hv=>?_⟩
 rw[List.getElem?_map,Option.map_eq_some_iff]at hc
 obtain⟨c0,hc0,rfl⟩:=hc
 exact(h.2 i c0 v hc0 hv).nz
theorem FnW.nz {f:FuncId} {as:List AV} {Q:AV→Hp→Prop} (h:FnW B P f (dI as) H Q):FnW B P f as H Q:=⟨h.1,fun F w vs h1 h2 h3=>h.2 F w vs h1 h2 h3.nz⟩

theorem Rn.nz {v v':AV} (h:Rn D Y r v v'):Rn D Y r (kU v) (kU v'):=by
 have ls:∀ {xs ys:List AV},xs.length=ys.length→(∀ (i:Nat) (x y:AV),xs[i]?=some x→ys[i]?=some y→Rn D Y r (kU x) (kU y))→RnL D Y r (dI xs) (dI ys):=fun {xs ys} hl h=>by
  rw[jF,jF]
  refine⟨by simpa using hl,fun i x y hx hy=>?_⟩
  rw[List.getElem?_map,Option.map_eq_some_iff]at hx hy
  obtain⟨x0,hx0,rfl⟩:=hx
  obtain⟨y0,hy0,rfl⟩:=hy
  exact h i x0 y0 hx0 hy0
 induction h with
 | any v=>exact .any _
 | agg xs ys hl _ ih=>exact .agg _ _ (ls hl ih).1 (ls hl ih).2
 | tup xs ys hl _ ih=>exact .tup _ _ (ls hl ih).1 (ls hl ih).2
 | nilsl=>exact .fs [] (by simp)
 | int k n=>exact .int k n
 | bool b=>exact .bool b
 | str s=>exact .str s
 | fs rows h=>exact .fs rows h
 | fp rows i o h=>exact .fp rows i o h
 | sl b c o s n h=>exact .sl b c o s n h
 | pt b c o h=>exact .pt b c o h
 | mp b c h=>exact .mp b c h
 | ch b c h=>exact .ch b c h
 | nilpt=>exact .nilpt
 | nilmap=>exact .nilmap
 | nilfn=>exact .nilfn
 | nilifc=>exact .nilifc
 | fn f xs ys us vs h1 h2 h3 h4 h5=>exact .fn f xs ys us vs h1 h2 h3 h4 h5
 | yield l c h=>exact .yield l c h
 | ifc t x y h=>exact .ifc t x y h
theorem RnL.nz {xs ys:List AV} (h:RnL D Y r xs ys):RnL D Y r (dI xs) (dI ys):=by
 rw[jF,jF]
 refine⟨by simpa using h.1,fun i x y hx hy=>?_⟩
 rw[List.getElem?_map,Option.map_eq_some_iff]at hx hy
 obtain⟨x0,hx0,rfl⟩:=hx
 obtain⟨y0,hy0,rfl⟩:=hy
 exact(h.2 i x0 y0 hx0 hy0).nz

theorem aCt {F:Nat→Prop} {w:World}:∀ (fz:List (Nat×Bool)) (env:aL) (j:Nat) (v:Value),Rv F w (env j) v→Rv F w (xY fz env j) v
 | [],env,j,v,h=>h
 | (k,true)::fz,env,j,v,h=>aCt fz env j v h
 | (k,false)::fz,env,j,v,h=>by
   have ih:=aCt fz env j v h
   show Rv F w (if j=k then kU (xY fz env j) else xY fz env j) v
   split
   ·exact ih.nz
   ·exact ih
theorem aCu:∀ (fz:List (Nat×Bool)) (e env:aL) (j:Nat),Rn D Y r (e j) (env j)→Rn D Y r (xY fz e j) (xY fz env j)
 | [],e,env,j,h=>h
 | (k,true)::fz,e,env,j,h=>aCu fz e env j h
 | (k,false)::fz,e,env,j,h=>by
   have ih:=aCu fz e env j h
   show Rn D Y r (if j=k then kU (xY fz e j) else xY fz e j) (if j=k then kU (xY fz env j) else xY fz env j)
   split
   ·exact ih.nz
   ·exact ih
theorem aCE (sr:SR D Y r e h env H) (fz:List (Nat×Bool)):∃ env' H',Shift env H env' H'∧SR D Y r (aKI fz e h).1 (aKI fz e h).2 env' H':=by
 obtain⟨env1,H1,k1,k2⟩:=pX (fz.flatMap (aGV e h)) e h env H sr
 refine⟨xY fz env1,H1,k1.trans ?_,⟨k2.sh,fun j=>aCu fz _ _ j (k2.re j)⟩⟩
 intro F w a st re
 exact⟨F,Ext.refl _ _ _,st,fun j=>aCt fz env1 j _ (re.rv j),re.gi⟩

theorem Shift.trim {c:Nat} {w0:Bool} {cs:List AV} (hc:H c=some (.cells w0 cs)) (m:Nat):Shift env H env (hset H c (.cells w0 (cs.take m))):=by
 intro F w a st re
 have hwr:∀ b,mX (hset H c (.cells w0 (cs.take m))) b=mX H b:=fun b=>by
  by_cases hb:b=c
  ·subst hb;simp[mX,hc,ABlk.wr]
  ·simp only[mX,aM _ _ hb]
 refine⟨F,⟨fun _ h=>h,fun _ h=>.inl h,fun b hb=>.inl ?_,fun b hb=>.inl (by rw[←hwr];exact hb),Nat.le_refl _,fun _ _ _=>rfl,fun _ c e fr h=>⟨c,e,fr,h,rfl⟩,SameIO.refl w⟩,⟨st.lt,fun b x hb=>?_,fun b x hb=>?_⟩,re⟩
 ·by_cases h1:b=c
  ·subst h1;simp[hc]
  ·rwa [aM _ _ h1]at hb
 ·by_cases h1:b=c
  ·subst h1;exact st.dis b _ hc
  ·rw[aM _ _ h1]at hb;exact st.dis b x hb
 ·by_cases h1:b=c
  ·subst h1
   simp only[hset_same,oSI]at hb
   subst hb
   obtain⟨o,k1,k2⟩:=st.blk b _ hc
   refine⟨o,k1,?_⟩
   cases k2 with
   | cells p cs c e fr hfr hl ho h =>
     refine .cells _ _ _ _ _ hfr (by simp;omega) ho fun i a v ha hv=>h i a v ?_ hv
     rw[List.getElem?_take]at ha
     split at ha
     ·exact ha
     ·simp at ha
  ·rw[aM _ _ h1]at hb;exact st.blk b x hb

theorem aAS (sr:SR D Y r e h env H) (v:AV):∃ H',Shift env H env H'∧SR D Y r e (vN v h) env H':=by
 unfold vN
 split
 ·rename_i b s n
  split
  ·rename_i g w cs hb
   obtain⟨c,y,hr,h1,h2⟩:=sr.sh.blk b _ hb
   cases h2 with
   | cells _ _ _ ys h3 h4 =>
     refine⟨_,Shift.trim h1 (n*s),sr.sh.turn hb hr (.cells c g w _ _ (h3.take _) fun hg=>eW fun x hx=>eD (h4 hg) x (List.mem_of_mem_take hx)),sr.re⟩
  ·exact⟨H,Shift.le (Le.refl _),sr⟩
 ·exact⟨H,Shift.le (Le.refl _),sr⟩
theorem tO (sr:SR D Y r e h env H):∀ fz:List (Nat×Bool),∃ H',Shift env H env H'∧SR D Y r e (oZ fz e h) env H'
 | []=>⟨H,Shift.le (Le.refl _),sr⟩
 | (k,b)::fz=>by
   obtain⟨H1,k1,k2⟩:=tO sr fz
   simp only[oZ]
   split
   ·obtain⟨H2,k3,k4⟩:=aAS k2 (e (k-1000000))
    exact⟨H2,k1.trans k3,k4⟩
   ·exact⟨H1,k1,k2⟩
theorem aEJ (sr:SR D Y r e h env H) (fz:List (Nat×Bool)):∃ env' H',Shift env H env' H'∧SR D Y r (fzX fz e h).1 (fzX fz e h).2 env' H':=by
 obtain⟨H1,k1,k2⟩:=tO sr fz
 obtain⟨env2,H2,k3,k4⟩:=aCE k2 fz
 exact⟨env2,H2,k1.trans k3,k4⟩
end
section
variable {P:Program} {B:Base} {D:Nat→Option XFn} {Y:Nat→Option YI} {r:Nat→Option Nat} {e env:aL} {h:XH} {H:Hp}

def aME (P:Program) (B:Base) (D:Nat→Option XFn) (l:Nat) (i:YI):Prop :=
 (∃ q,i.oB = .loop q)∧∀ (d:XFn) (L ps:List Nat) (a b:XCode),D i.K=some d→dH d.body i.site=some (L,ps,a,b)→∀ (B1:Base),B.Up B1.F B1.w→∀ (as:List AV) (H':Hp) (Q':AV→Hp→Prop),
  H' l=some (.obj true i.oR)→as.length=ps.length →
  WD B1 P (some l) d.N a.erase (fun e env2 H2=>e = .normal∧H2 l=some (.obj true i.oR)∧WD B1 P (some l) d.N b.erase (aGk l i.oR i.oB i.oD Q') env2 (hset H2 l (.obj true i.oB))) (lW i.env ps as) H'→YW B1 P l as H' Q'
def YOk (P:Program) (B:Base) (D:Nat→Option XFn) (Y:Nat→Option YI):Prop:=∀ l i,Y l=some i→aME P B D l i
theorem YOk.up {B':Base} (h:YOk P B D Y) (hB:B.Up B'.F B'.w):YOk P B' D Y:=fun l i hY =>
 ⟨(h l i hY).1,fun d L ps a b h1 h2 B1 hB1=>(h l i hY).2 d L ps a b h1 h2 B1 (Up.trans hB hB1)⟩

def rU:XCode→Bool
 | .skip | .exit _ | .ret=>true
 | .reg _ _ ops=>wI ops
 | .seq a b=>rU a&&rU b
 | .cond c a b=>qF c&&(rU a&&rU b)
 | .block _ a | .loop _ a | .scope a=>rU a
 | .rng _ _ f _ a b=>qF f&&(rU a&&rU b)
def aT (d:XFn):XCode→Prop
 | .seq a b | .cond _ a b=>aT d a∧aT d b
 | .block _ a | .loop _ a | .scope a=>aT d a
 | .rng s L _ ps a b=>dH d.body s=some (L,ps,a,b)∧aT d a∧aT d b
 | _=>True

def RdOk (Y:Nat→Option YI) (r:Nat→Option Nat) (k:Nat) (rd rr:Option Nat):Prop:=match rd with
 | none=>rr=none
 | some l=>l<k∧∃ c i q,r l=some c∧rr=some c∧Y c=some i∧i.oB = .loop q
theorem RdOk.agree {k:Nat} {rd rr:Option Nat} {r':Nat→Option Nat} (h:RdOk Y r k rd rr) (ha:Agree k r r'):RdOk Y r' k rd rr:=by
 cases rd with
 | none=>exact h
 | some l =>
   obtain⟨h1,c,i,q,h2,h3,h4,h5⟩:=h
   exact⟨h1,c,i,q,ha l c h1 h2,h3,h4,h5⟩

theorem SH.loopAt (sh:SH D Y r h H) {l:Nat} {st:zX} (hl:eT h l=some st):∃ c i o,r l=some c∧Y c=some i∧H c=some (.obj true o)∧mR i st o∧∃ (vs:List AV) (d:XFn) (L ps:List Nat) (a b:XCode),
 hat h l=some (.loop i.K i.site vs st)∧D i.K=some d∧dH d.body i.site=some (L,ps,a,b)∧RnL D Y r vs (L.map i.env):=by
 unfold eT at hl
 split at hl<;>simp only[oSI,reduceCtorEq]at hl
 rename_i K s vs st' hx
 subst hl
 obtain⟨c,y,h1,h2,h3⟩:=sh.blk l _ hx
 cases h3 with
 | loop i _ _ o d L ps a b hY ho hD hs hv=>exact⟨c,i,o,h1,hY,h2,ho,vs,d,L,ps,a,b,hx,hD,hs,hv⟩

theorem SH.loopTo (sh:SH D Y r h H) {l c:Nat} {i:YI} {st st':zX} (hl:eT h l=some st) (hr:r l=some c) (hY:Y c=some i) {o:Obj} (ho:mR i st' o):SH D Y r (loopTo h l st') (hset H c (.obj true o)):=by
 obtain⟨c',i',o',h1,h2,h3,h4,vs,d,L,ps,a,b,h5,h6,h7,h8⟩:=sh.loopAt hl
 rw[hr]at h1;simp only[oSI]at h1;subst h1
 rw[hY]at h2;simp only[oSI]at h2;subst h2
 unfold Go.DL.loopTo
 rw[h5]
 exact sh.turn h5 hr (.loop c i vs st' o d L ps a b hY ho h6 h7 h8)

theorem SH.push {Y':Nat→Option YI} (sh:SH D Y r h H) {l:Nat} {x:XB} {y:ABlk} (hl:H l=none) (hY:∀ c,c≠l→Y' c=Y c) (hx:RnB D Y' r l x y) :
 Sub r (fun b=>if b=h.length then some l else r b)∧SH D Y' (fun b=>if b=h.length then some l else r b) (h++[some x]) (hset H l y):=by
 have hsub:Sub r (fun b=>if b=h.length then some l else r b):=fun b c hb=>by
  have:=sh.dom b c hb
  simp only[show b≠h.length by omega,if_false];exact hb
 have live:∀ b z,hat (h++[some x]) b=some z→(b=h.length∧z=x)∨(b<h.length∧hat h b=some z):=fun b z hz=>by
  rw[eV]at hz
  split at hz
  ·rename_i hlt;exact .inr ⟨hlt,hz⟩
  ·by_cases he:b=h.length
   ·subst he;simp[hat]at hz;exact .inl ⟨rfl,hz.symm⟩
   ·have:b-h.length=(b-h.length-1)+1:=by omega
    rw[this]at hz;simp[hat]at hz
 have other:∀ b c z,hat h b=some z→r b=some c→c≠l:=fun b c z hz hr e=>by
  subst e
  obtain⟨c',y',h1,h2,_⟩:=sh.blk b z hz
  rw[hr]at h1;simp only[oSI]at h1;subst h1
  rw[hl]at h2;simp at h2
 refine⟨hsub,fun b c hb=>?_,fun b1 b2 c x1 x2 h1 h2 k1 k2=>?_,fun b z hz=>?_⟩
 ·simp only[List.length_append,List.length_cons,List.length_nil]
  split at hb
  ·omega
  ·have:=sh.dom b c hb;omega
 ·rcases live b1 x1 h1 with ⟨rfl,_⟩|⟨l1,m1⟩
  ·rcases live b2 x2 h2 with ⟨rfl,_⟩|⟨l2,m2⟩
   ·rfl
   ·exfalso
    simp only[if_true,oSI]at k1
    simp only[show b2≠h.length by omega,if_false]at k2
    exact other b2 c x2 m2 k2 k1.symm
  ·rcases live b2 x2 h2 with ⟨rfl,_⟩|⟨l2,m2⟩
   ·exfalso
    simp only[if_true,oSI]at k2
    simp only[show b1≠h.length by omega,if_false]at k1
    exact other b1 c x1 m1 k1 k2.symm
   ·simp only[show b1≠h.length by omega,if_false]at k1
    simp only[show b2≠h.length by omega,if_false]at k2
    exact sh.inj b1 b2 c x1 x2 m1 m2 k1 k2
 ·rcases live b z hz with ⟨rfl,rfl⟩|⟨l1,m1⟩
  ·exact⟨l,y,by simp,hset_same _ _ _,hx.mono hsub (fun _=>rfl)⟩
  ·obtain⟨c,y',g1,g2,g3⟩:=sh.blk b z m1
   have hne:=other b c z m1 g1
   refine⟨c,y',hsub b c g1,?_,g3.mono hsub (fun _=>hY c hne)⟩
   rw[aM _ _ hne];exact g2

theorem mF {run:fW} {runY:iI} {d:XFn} {K:Nat} (hD:D K=some d) (hm:P.follows .mixedOrders=true) (hall:∀ (B:Base) (Y:Nat→Option YI),YOk P B D Y→FnS P B D Y run∧YS P B D Y runY) (k n:Nat) (rd rr:Option Nat) :
 ∀ (code:XCode) (B:Base) (Y:Nat→Option YI) (r:Nat→Option Nat) (e:aL) (h:XH) (env:aL) (H:Hp) (x:DX) (e':aL) (h':XH) (Q:QC),YOk P B D Y→rU code=true→aT d code→RdOk Y r k rd rr→SR D Y r e h env H →
   bK run runY K k n rd code e h=some (x,e',h')→(∀ r' env' H',Agree k r r'→SR D Y r' e' h' env' H'→Q x env' H')→WD B P rr d.N code.erase Q env H:=by
 intro code
 induction code with
 | skip =>
   intro B Y r e h env H x e' h' Q hY hok hs hrd sr hx hK
   simp only[bK,oSI,Prod.mk.injEq]at hx
   obtain⟨rfl,rfl,rfl⟩:=hx
   exact WD.skip (hK r env H (Agree.refl _ _) sr)
 | exit id =>
   intro B Y r e h env H x e' h' Q hY hok hs hrd sr hx hK
   simp only[bK,oSI,Prod.mk.injEq]at hx
   obtain⟨rfl,rfl,rfl⟩:=hx
   exact WD.exit (hK r env H (Agree.refl _ _) sr)
 | ret =>
   intro B Y r e h env H x e' h' Q hY hok hs hrd sr hx hK
   simp only[bK,oSI,Prod.mk.injEq]at hx
   obtain⟨rfl,rfl,rfl⟩:=hx
   exact WD.ret (hK r env H (Agree.refl _ _) sr)
 | reg fz draw ops =>
   intro B Y r e h env H x e' h' Q hY hok hs hrd sr hx hK
   simp only[rU]at hok
   obtain⟨hf,hy⟩:=hall B Y hY
   simp only[bK,Option.map_eq_some_iff,Prod.mk.injEq]at hx
   obtain⟨⟨e1,h1⟩,hx,rfl,rfl,rfl⟩:=hx
   obtain⟨env1,H1,k1,k2⟩:=aEJ sr fz
   refine WD.shift k1 (WD.reg hm ?_)
   cases draw with
   | true =>
     simp only[if_true]at hx ⊢
     exact aAL hf hy ops r _ _ [] env1 H1 noL e1 h1 _ hok k2 ⟨by simp,fun j c hj=>by simp[noL]at hj⟩ hx fun r' env' H' hs sr'=>hK r' env' H' (hs.agree k) sr'
   | false =>
     simp only[Bool.false_eq_true,if_false]at hx ⊢
     exact vF hf hy ops r _ _ env1 H1 e1 h1 _ hok k2 hx fun r' env' H' hs sr'=>hK r' env' H' (hs.agree k) sr'
 | seq a b iha ihb =>
   intro B Y r e h env H x e' h' Q hY hok hs hrd sr hx hK
   simp only[rU,Bool.and_eq_true]at hok
   simp only[bK]at hx
   refine WD.seq ?_
   split at hx
   ·rename_i e1 h1 hx1
    exact iha B Y r e h env H .normal e1 h1 _ hY hok.1 hs.1 hrd sr hx1 fun r' env' H' ha sr' =>
     ihb B Y r' e1 h1 env' H' x e' h' Q hY hok.2 hs.2 (hrd.agree ha) sr' hx fun r2 env2 H2 ha2 sr2=>hK r2 env2 H2 (ha.trans ha2) sr2
   ·rename_i hne
    refine iha B Y r e h env H x e' h' _ hY hok.1 hs.1 hrd sr hx fun r' env' H' ha sr'=>?_
    cases x with
    | normal=>exact absurd hx (hne e' h')
    | exit id=>exact hK r' env' H' ha sr'
    | ret=>exact hK r' env' H' ha sr'
 | cond c a b iha ihb =>
   intro B Y r e h env H x e' h' Q hY hok hs hrd sr hx hK
   simp only[rU,Bool.and_eq_true]at hok
   have hc:=aV sr.re (x:=c) hok.1
   simp only[bK]at hx
   split at hx
   ·rename_i hv
    rw[hv]at hc
    exact WD.cond (t:=true) (gU hc) (iha B Y r e h env H x e' h' Q hY hok.2.1 hs.1 hrd sr hx hK)
   ·rename_i hv
    rw[hv]at hc
    exact WD.cond (t:=false) (gU hc) (ihb B Y r e h env H x e' h' Q hY hok.2.2 hs.2 hrd sr hx hK)
   ·simp at hx
 | block id a iha =>
   intro B Y r e h env H x e' h' Q hY hok hs hrd sr hx hK
   simp only[rU]at hok
   simp only[bK]at hx
   refine WD.block ?_
   split at hx
   ·rename_i j e1 h1 hx1
    refine iha B Y r e h env H (.exit j) e1 h1 _ hY hok hs hrd sr hx1 fun r' env' H' ha sr'=>?_
    simp only[QC.block]
    split at hx<;>simp only[oSI,Prod.mk.injEq]at hx<;>obtain⟨rfl,rfl,rfl⟩:=hx
    ·rename_i hj;rw[if_pos hj];exact hK r' env' H' ha sr'
    ·rename_i hj;rw[if_neg hj];exact hK r' env' H' ha sr'
   ·rename_i hne
    refine iha B Y r e h env H x e' h' _ hY hok hs hrd sr hx fun r' env' H' ha sr'=>?_
    cases x with
    | exit id=>exact absurd hx (hne id e' h')
    | normal=>exact hK r' env' H' ha sr'
    | ret=>exact hK r' env' H' ha sr'
 | scope a iha =>
   intro B Y r e h env H x e' h' Q hY hok hs hrd sr hx hK
   exact WD.scope (iha B Y r e h env H x e' h' Q hY (by simpa [rU]using hok) hs hrd sr (by simpa [bK]using hx) hK)
 | loop L a iha =>
   intro B Y r e h env H x e' h' Q hY hok hs hrd sr hx hK
   simp only[rU]at hok
   simp only[bK]at hx
   refine WD.loop (fun m env1 H1=>∃ r1 e1 h1,Agree k r r1∧SR D Y r1 e1 h1 env1 H1∧jD (bK run runY K k n rd a) k L m e1 h1=some (x,e',h')) (m:=n) ⟨r,e,h,Agree.refl _ _,sr,hx⟩ ?_
   rintro m env1 H1 ⟨r1,e1,h1,ha,sr1,hx1⟩
   cases m with
   | zero=>simp[jD]at hx1
   | succ m =>
     simp only[jD]at hx1
     obtain⟨r2,ha2,sr2⟩:=aBP sr1 k L
     split at hx1
     ·rename_i e2 h2 hx2
      exact iha B Y r2 _ _ env1 H1 .normal e2 h2 _ hY hok hs ((hrd.agree ha).agree ha2) sr2 hx2 fun r3 env3 H3 ha3 sr3=>⟨m,by omega,r3,e2,h2,(ha.trans ha2).trans ha3,sr3,hx1⟩
     ·rename_i hne
      refine iha B Y r2 _ _ env1 H1 x e' h' _ hY hok hs ((hrd.agree ha).agree ha2) sr2 hx1 fun r3 env3 H3 ha3 sr3=>?_
      cases x with
      | normal=>exact absurd hx1 (hne e' h')
      | exit id=>exact hK r3 env3 H3 ((ha.trans ha2).trans ha3) sr3
      | ret=>exact hK r3 env3 H3 ((ha.trans ha2).trans ha3) sr3
 | rng site L f ps a b iha ihb =>
   intro B Y r e h env H x e' h' Q hY hok hs hrd sr hx hK
   simp only[rU,Bool.and_eq_true]at hok
   obtain⟨hs1,hs2,hs3⟩:=hs
   simp only[bK]at hx
   split at hx
   ·rename_i hcond
    simp only[Bool.and_eq_true]at hcond
    have hfv:=aV sr.re (x:=f) hok.1
    obtain⟨gf,first,cap,hev⟩:∃ g a b,aU e f = .fn (.func g) a b:=by
     have:=hcond.2
     unfold sT at this
     split at this
     ·exact⟨_,_,_,‹_›⟩
     ·simp at this
    rw[hev]at hfv hx
    cases hv:aU env f<;>rw[hv]at hfv<;>cases hfv
    rename_i first' cap' hf0 hl1 k1 hl2 k2
    split at hx
    ·rename_i v h1 hcall
     refine WD.rng (gf:=gf) (first:=first') (cap:=cap') ?_ hv ?_
     ·unfold RdOk at hrd
      split at hrd
      ·exact .inl hrd
      ·rename_i l
       obtain⟨_,c,i,q,g1,g2,g3,g4⟩:=hrd
       right
       refine⟨c,q,g2,?_⟩
       have hin:=hcond.1
       simp only[sV]at hin
       split at hin
       ·rename_i hst
        obtain⟨c',i',o',m1,m2,m3,m4,_⟩:=sr.sh.loopAt hst
        rw[g1]at m1;simp only[oSI]at m1;subst m1
        rw[g3]at m2;simp only[oSI]at m2;subst m2
        simp only[mR]at m4
        rw[m3,m4,g4]
       ·simp at hin
     ·intro B' l oR oB oD hB' hl _ _ hbusy hround
      obtain⟨i,hi⟩:∃ i:YI,i=⟨K,site,env,oR,oB,oD⟩:=⟨_,rfl⟩
      obtain⟨Y',hY'⟩:∃ Y':Nat→Option YI,Y'=fun c=>if c=l then some i else Y c:=⟨_,rfl⟩
      have y1:Y' l=some i:=by rw[hY'];simp
      have y2:∀ c,c≠l→Y' c=Y c:=fun c hc=>by rw[hY'];simp[hc]
      have hYok:YOk P B' D Y':=fun c j hj=>by
       by_cases hc:c=l
       ·subst hc
        rw[y1]at hj;simp only[oSI]at hj;subst hj
        rw[hi]
        refine⟨hbusy,fun d' L' ps' a' b' g1 g2 B1 hB1 as H' Q' g3 g4 g5=>?_⟩
        rw[hD]at g1;simp only[oSI]at g1;subst g1
        rw[hs1]at g2;simp only[oSI,Prod.mk.injEq]at g2
        obtain⟨rfl,rfl,rfl,rfl⟩:=g2
        exact hround B1 hB1 as H' Q' g3 g4 g5
       ·rw[y2 c hc]at hj
        exact(hY.up hB') c j hj
      obtain⟨hf,hy⟩:=hall B' Y' hYok
      have hx0:RnB D Y' r l (.loop K site (L.map e) .ready) (.obj true oR):=by
       have:=RnB.loop (D:=D) (Y:=Y') (r:=r) l i (L.map e) .ready oR d L ps a b y1 (by rw[hi];exact rfl) (by rw[hi];exact hD) (by rw[hi];exact hs1) (by
        rw[hi]
        exact RnL.map fun j _=>(sr.re j).mono (fun _ _ h=>h))
       rw[hi]at this
       exact this
      obtain⟨p1,p2⟩:=sr.sh.push hl y2 hx0
      have hcs:=nZ (P:=P) (B:=B') hf hy p2 (fv:=.fn (.func gf) first cap) (fv':=.fn (.func gf) first' cap') (as:=[.fn (.yield h.length) [] []]) (as':=[.fn (.yield l) [] []])
       (.fn _ _ _ _ _ hf0 hl1 (fun i x y hx hy=>(k1 i x y hx hy).mono p1) hl2 (fun i x y hx hy=>(k2 i x y hx hy).mono p1)) (RnL.cons (.yield _ _ (by simp)) RnL.nil) hcall
      refine CallV.mono (fv:=.fn (.func gf) first' cap') (as:=[.fn (.yield l) [] []]) hcs ?_
      rintro v' H' ⟨⟨r2,q1,q2,q3⟩,_⟩
      have hr2:r2 h.length=some l:=q1 h.length l (by simp)
      have fin:∀ (st:zX),eT h1 h.length=some st→(∃ o,H' l=some (.obj true o)∧mR i st o)∧SR D Y r2 e (h1.set h.length none) env (rE H' l):=by
       intro st hst
       obtain⟨c',i',o',m1,m2,m3,m4,vs,d',L',ps',a',b',m5,_⟩:=q2.loopAt hst
       rw[hr2]at m1;simp only[oSI]at m1;subst m1
       rw[y1]at m2;simp only[oSI]at m2;subst m2
       refine⟨⟨o',m3,m4⟩,⟨fun b c hb=>by simpa using q2.dom b c hb,fun b1 b2 c x1 x2 g1 g2 g3 g4=>?_,fun b2 x hx=>?_⟩,fun j=>(sr.re j).mono (p1.trans q1)⟩
       all_goals
        have live:∀ b z,hat (h1.set h.length none) b=some z→b≠h.length∧hat h1 b=some z:=fun b z hz=>by
         rw[fD]at hz
         split at hz
         ·simp at hz
         ·rename_i hc;exact⟨fun e=>hc ⟨e,sW m5⟩,hz⟩
       ·exact q2.inj b1 b2 c x1 x2 (live _ _ g1).2 (live _ _ g2).2 g3 g4
       ·obtain⟨n1,n2⟩:=live _ _ hx
        obtain⟨c,y,w1,w2,w3⟩:=q2.blk b2 x n2
        have hcl:c≠l:=fun e=>by
         subst e
         exact n1 (q2.inj b2 h.length c x _ n2 m5 w1 hr2)
        exact⟨c,y,w1,by simp only[rE,hcl,if_false];exact w2,w3.mono (fun _ _ h=>h) (fun _=>(y2 c hcl).symm)⟩
      split at hx
      ·rename_i hst
       simp only[oSI,Prod.mk.injEq]at hx
       obtain⟨rfl,rfl,rfl⟩:=hx
       obtain⟨⟨o,u1,u2⟩,u3⟩:=fin _ hst
       simp only[mR,hi]at u2
       subst u2
       exact .inl ⟨u1,hK r2 env _ ((p1.trans q1).agree k) u3⟩
      ·rename_i x0 hst
       simp only[oSI,Prod.mk.injEq]at hx
       obtain⟨rfl,rfl,rfl⟩:=hx
       obtain⟨⟨o,u1,u2⟩,u3⟩:=fin _ hst
       cases x0 with
       | normal=>exact u2.elim
       | ret =>
         simp only[mR,hi]at u2
         subst u2
         exact .inr (.inl ⟨u1,hK r2 env _ ((p1.trans q1).agree k) u3⟩)
       | exit id =>
         simp only[mR,hi]at u2
         subst u2
         exact .inr (.inr ⟨id,u1,hK r2 env _ ((p1.trans q1).agree k) u3⟩)
      ·simp at hx
    ·simp at hx
   ·simp at hx
end
section
variable {P:Program} {B:Base} {D:Nat→Option XFn} {Y:Nat→Option YI} {r:Nat→Option Nat} {e env:aL} {h:XH} {H:Hp}

theorem zU {as as':List AV} (h:RnL D Y r as as') (j:Nat):Rn D Y r (aN as j) (aN as' j):=by
 unfold aN
 rw[List.getD_eq_getElem?_getD,List.getD_eq_getElem?_getD]
 cases hx:as[j]? with
 | none=>exact .any _
 | some x =>
   obtain⟨y,hy,h1⟩:=h.get hx
   rw[hy];exact h1

theorem aIx (sr:SR D Y r e h env H) {rs:List (Nat×Option (Bool×Nat))} {v:AV} (hv:kT rs e (dP h)=some v):∃ v',kT rs env H=some v'∧Rn D Y r v v':=by
 have one:∀ {p:Nat×Option (Bool×Nat)} {v:AV},nG e (dP h) p=some v→∃ v',nG env H p=some v'∧Rn D Y r v v':=by
  intro p v hv
  obtain⟨t,o⟩:=p
  cases o with
  | none=>simp only[nG,oSI]at hv ⊢;subst hv;exact⟨_,rfl,sr.re t⟩
  | some q =>
    obtain⟨g,n⟩:=q
    simp only[nG]at hv ⊢
    exact aBm sr.sh (sr.re t) hv
 have lst:∀ (rs:List (Nat×Option (Bool×Nat))) (vs:List AV),nF e (dP h) rs=some vs→∃ vs',nF env H rs=some vs'∧RnL D Y r vs vs':=by
  intro rs
  induction rs with
  | nil=>intro vs hv;simp only[nF,oSI]at hv;subst hv;exact⟨[],rfl,RnL.nil⟩
  | cons p rs ih =>
    intro vs hv
    simp only[nF]at hv ⊢
    split at hv
    ·rename_i v vs0 h1 h2
     simp only[oSI]at hv;subst hv
     obtain⟨v',k1,k2⟩:=one h1
     obtain⟨vs',k3,k4⟩:=ih vs0 h2
     rw[k1,k3]
     exact⟨v'::vs',rfl,RnL.cons k2 k4⟩
    ·simp at hv
 unfold kT at hv ⊢
 split at hv
 ·rename_i v0 h1
  simp only[oSI]at hv;subst hv
  obtain⟨vs',k1,k2⟩:=lst rs _ h1
  obtain⟨y,ys,rfl,k3,k4⟩:=k2.inv
  obtain rfl:=k4.nil_inv
  rw[k1]
  exact⟨y,rfl,k3⟩
 ·rename_i vs hne h1
  simp only[oSI]at hv;subst hv
  obtain⟨vs',k1,k2⟩:=lst rs _ h1
  rw[k1]
  refine⟨.tup vs',?_,.tup _ _ k2.1 k2.2⟩
  split
  ·rename_i v0 h2
   simp only[oSI]at h2
   subst h2
   exfalso
   have:=k2.1
   cases vs with
   | nil=>simp at this
   | cons a vs=>cases vs with
     | nil=>exact hne a rfl
     | cons b vs=>simp at this
  ·rename_i vs2 hne2 h2
   simp only[oSI]at h2
   rw[h2]
  ·rename_i h2;simp at h2
 ·simp at hv

theorem aDz:∀ (ps:List Nat) (as as':List AV) (e env:aL),RnL D Y r as as'→(∀ j,Rn D Y r (e j) (env j))→∀ j,Rn D Y r (lW e ps as j) (lW env ps as' j)
 | [],as,as',e,env,_,re,j=>by unfold lW;exact re j
 | p::ps,[],as',e,env,h,re,j=>by rw[h.nil_inv];unfold lW;exact re j
 | p::ps,a::as,as',e,env,h,re,j=>by
   obtain⟨a',as2,rfl,h1,h2⟩:=h.inv
   unfold lW
   refine aDz ps as as2 _ _ h2 (fun i=>?_) j
   simp only[upd]
   split
   ·exact h1
   ·exact re i

theorem aDR:∀ (L:List Nat) (vs:List AV) (env:aL),RnL D Y r vs (L.map env)→∀ j,Rn D Y r (aY L vs j) (env j)
 | [],[],env,h,j=>.any _
 | [],_::_,env,h,j=>.any _
 | _::_,[],env,h,j=>.any _
 | k::L,v::vs,env,h,j=>by
   obtain⟨a',as2,h0,h1,h2⟩:=h.inv
   simp only[List.map_cons,List.cons.injEq]at h0
   obtain⟨rfl,rfl⟩:=h0
   simp only[aY]
   split
   ·rename_i hj;subst hj;exact h1
   ·exact aDR L vs env h2 j

theorem zO (sh:SH D Y r h H) {k:Nat} {u u':AV} (hu:Rn D Y r u u'):∃ r',Agree k r r'∧SH D Y r' (mQ k (dO k [u] h) h) H∧Rn D Y r' (rnA (iB k (dO k [u] h)) u) u':=by
 obtain⟨h1,h2⟩:=wR k [u] h
 obtain⟨k1,k2,k3⟩:=wQ sh h1 h2
 exact⟨_,k1,k2,k3 _ _ hu⟩

def gH (d:XFn):Bool:=rU d.body&&(match d.dfr with|none=>true|some (l,_)=>wI l)
structure XOk (P:Program) (D:Nat→Option XFn):Prop where
 mixed:P.follows .mixedOrders=true
 is:∀ K d,D K=some d→cT P K d.fn
 ok:∀ K d,D K=some d→gH d=true
 sites:∀ K d,D K=some d→aT d d.body

theorem XOk.body (ok:XOk P D) {K:Nat} {d:XFn} (h:D K=some d):rU d.body=true:=by
 have:=ok.ok K d h
 simp only[gH,Bool.and_eq_true]at this
 exact this.1

theorem aEw (ok:XOk P D):∀ (n:Nat) (B:Base) (Y:Nat→Option YI),YOk P B D Y→FnS P B D Y (cP D n)∧YS P B D Y (bR D n):=by
 intro n
 induction n with
 | zero =>
   intro B Y hY
   exact⟨fun r h H K as as' v h' _ _ hx=>by simp[cP]at hx,fun r h H fv fv' as as' v h' _ _ _ hx=>by simp[bR]at hx⟩
 | succ n ih =>
   intro B Y hY
   refine⟨fun r h H K as as' v h' sh hA hx=>?_,fun r h H fv fv' as as' v h' sh hfv hA hx=>?_⟩
   ·simp only[cP]at hx
    split at hx
    ·simp at hx
    ·rename_i d hD
     split at hx
     ·rename_i hN
      have main:∀ (as1 as1':List AV),RnL D Y r as1 as1'→as1.length≤d.N→(match d.dfr with
       | none=>bL none d.res d.ownR h.length (bK (cP D n) (bR D n) K h.length n none d.body (aN as1) h)
       | some (l,x)=>pZ x h.length (eM (cP D n) (bR D n) l (aN as1) h) fun b e1 h1 =>
         bL (some b) d.res d.ownR h.length (bK (cP D n) (bR D n) K h.length n none d.body e1 h1))=some (v,h')→FnW B P K as1' H (pL D Y r v h'):=by
       intro as1 as1' hA1 hN1 hx
       have goal:∀ (r1:Nat→Option Nat) (env1:aL) (H1:Hp) (e1:aL) (h1:XH) (v0:AV),Agree h.length r r1→SR D Y r1 e1 h1 env1 H1→kT d.res e1 (dP h1)=some v0→iH d.ownR h.length v0 h1=(v,h') →
        fU (kT d.res env1 H1) fun v_1=>∃ v' H'',Shift (upd anyE 0 v_1) H1 (upd anyE 0 v') H''∧pL D Y r v h' v' H'':=by
        intro r1 env1 H1 e1 h1 v0 ha1 sr1 hv0 hfin
        have goal:fU (kT d.res env1 H1) fun v=>∃ v' H'',Shift (upd anyE 0 v) H1 (upd anyE 0 v') H''∧pL D Y r (iH d.ownR h.length v0 h1).1 (iH d.ownR h.length v0 h1).2 v' H'':=by
         obtain⟨v0',k1,k2⟩:=aIx sr1 hv0
         rw[k1,optW_some]
         have sr2:SR D Y r1 (upd anyE 0 v0) h1 (upd anyE 0 v0') H1:=⟨sr1.sh,fun j=>by
          simp only[upd]
          split
          ·exact k2
          ·exact .any _⟩
         have post:∀ (u u':AV) (h2:XH) (H2:Hp),SH D Y r1 h2 H2→Rn D Y r1 u u'→pL D Y r (rnA (iB h.length (dO h.length [u] h2)) u) (mQ h.length (dO h.length [u] h2) h2) u' H2:=by
          intro u u' h2 H2 s1 s2
          obtain⟨r2,m1,m2,m3⟩:=zO s1 s2 (k:=h.length)
          exact⟨r2,fun b c hb=>m1 b c (sh.dom b c hb) (ha1 b c (sh.dom b c hb) hb),m2,m3⟩
         unfold iH
         cases d.ownR with
         | true =>
           simp only[if_true]
           exact⟨v0',H1,Shift.le (Le.refl _),by
            have:=post v0 v0' h1 H1 sr1.sh k2
            simpa [upd]using this⟩
         | false =>
           simp only[Bool.false_eq_true,if_false]
           obtain⟨env2,H2,s1,s2⟩:=pX (iD h1 2 (slN v0)) _ _ _ _ sr2
           have hz:=(s2.re 0).nz
           refine⟨kU (env2 0),H2,s1.trans ?_,post _ _ _ _ s2.sh hz⟩
           intro F w a st re
           refine⟨F,Ext.refl _ _ _,st,fun j=>?_,re.gi⟩
           simp only[upd]
           split
           ·rename_i hj;subst hj;exact(re.rv 0).nz
           ·exact .any _
        rw[hfin]at goal
        exact goal
       refine FnW.shift (FnW.of (ok.is K d hD) (by rw[←hA1.1];exact hN1) ?_)
       have hdf:d.fn.dfr=d.dfr:=rfl
       rw[hdf]
       cases hd:d.dfr with
       | none =>
         rw[hd]at hx
         simp only at hx
         show WD B P none d.N d.fn.body _ _ _
         unfold bL at hx
         split at hx
         ·simp at hx
         ·rename_i x e1 h1 hne hex
          simp only[aJg,Option.bind_some,Option.map_eq_some_iff]at hx
          obtain⟨v0,hv0,hfin⟩:=hx
          refine mF hD ok.mixed ih h.length n none none d.body B Y r (aN as1) h (aN as1') H x e1 h1 _ hY (ok.body hD) (ok.sites K d hD) rfl ⟨sh,zU hA1⟩ hex ?_
          intro r1 env1 H1 ha1 sr1
          have g:=goal r1 env1 H1 e1 h1 v0 ha1 sr1 hv0 hfin
          cases x with
          | exit id=>exact absurd rfl (hne id)
          | normal=>exact g
          | ret=>exact g
         ·simp at hx
       | some p =>
         obtain⟨l,y⟩:=p
         rw[hd]at hx
         simp only at hx
         show RS B P l (fun env1 H1=>∃ c,env1 y = .ch c∧WD B P none d.N d.fn.body (fnC c d.res _) env1 H1) _ _
         unfold pZ at hx
         split at hx
         ·rename_i e1 h1 hpre
          split at hx
          ·rename_i b hb
           split at hx
           ·rename_i hbk
            unfold bL at hx
            dsimp only at hx
            split at hx
            ·simp at hx
            ·rename_i x e2 h2 hne hex
             simp only[aJg,Option.bind_eq_some_iff,Option.map_eq_some_iff]at hx
             obtain⟨h3,hcl,v0,hv0,hfin⟩:=hx
             have hokl:wI l=true:=by
              have:=ok.ok K d hD
              simp only[gH,hd,Bool.and_eq_true]at this
              exact this.2
             refine vF (P:=P) (B:=B) (ih B Y hY).1 (ih B Y hY).2 l r (aN as1) h (aN as1') H e1 h1 _ hokl ⟨sh,zU hA1⟩ hpre ?_
             intro r1 env1 H1 hs1 sr1
             have hbr:=sr1.re y
             rw[hb]at hbr
             obtain⟨c,hc1,hc2⟩:=yZ hbr
             refine⟨c,hc1,?_⟩
             refine mF hD ok.mixed ih h.length n none none d.body B Y r1 e1 h1 env1 H1 x e2 h2 _ hY (ok.body hD) (ok.sites K d hD) rfl sr1 hex ?_
             intro r2 env2 H2 ha2 sr2
             obtain⟨H3,k1,k2⟩:=aEh sr2.sh (ha2 b c hbk hc2) hcl
             have g:=goal r2 env2 H3 e2 h3 v0 ((hs1.agree _).trans ha2) ⟨k2,sr2.re⟩ hv0 hfin
             have g':fU (tF H2 (.ch c)) fun H'=>fU (kT d.res env2 H') fun v_1=>∃ v' H'',Shift (upd anyE 0 v_1) H' (upd anyE 0 v') H''∧pL D Y r v h' v' H'':=by
              rw[k1,optW_some];exact g
             cases x with
             | exit id=>exact absurd rfl (hne id)
             | normal=>exact g'
             | ret=>exact g'
            ·simp at hx
           ·simp at hx
          ·simp at hx
         ·simp at hx
      cases hown:d.ownA with
      | true =>
        rw[hown]at hx
        simp only[if_true]at hx
        exact main as as' hA hN hx
      | false =>
        rw[hown]at hx
        simp only[Bool.false_eq_true,if_false]at hx
        exact FnW.nz (main _ _ hA.nz (by rw[jF];simpa using hN) hx)
     ·simp at hx
   ·simp only[bR]at hx
    split at hx
    ·rename_i l
     cases hfv with
     | fn _ _ _ _ _ hf=>exact absurd rfl (hf l)
     | yield _ c hr =>
     show YW B P c as' H _
     split at hx
     ·rename_i K site vs hl
      split at hx
      ·simp at hx
      ·rename_i L ps a b hDs
       simp only[Option.bind_eq_some_iff]at hDs
       obtain⟨d,hD,hsite⟩:=hDs
       split at hx
       ·rename_i hlen
        split at hx
        ·rename_i e1 h1 hex1
         split at hx
         ·rename_i hst1
          split at hx
          ·rename_i x e2 h2 hex2
           split at hx
           ·rename_i hst2
            simp only[oSI]at hx
            obtain⟨c',i,o,g1,g2,g3,g4,vs',d',L',ps',a',b',g5,g6,g7,g8⟩:=sh.loopAt (l:=l) (st:=.ready) (by unfold eT;rw[hl])
            rw[hr]at g1;simp only[oSI]at g1;subst g1
            rw[hl]at g5;simp only[oSI,XB.loop.injEq,and_true]at g5
            obtain⟨rfl,rfl,rfl⟩:=g5
            rw[hD]at g6;simp only[oSI]at g6;subst g6
            rw[hsite]at g7;simp only[oSI,Prod.mk.injEq]at g7
            obtain⟨rfl,rfl,rfl,rfl⟩:=g7
            simp only[mR]at g4
            subst g4
            obtain⟨⟨q,hq⟩,prov⟩:=hY c i g2
            have hrd:RdOk Y r h.length (some l) (some c):=⟨sh.dom l c hr,c,i,q,hr,rfl,g2,hq⟩
            obtain⟨hs1,hs2⟩:aT d a∧aT d b:=by
             have aux:∀ (code:XCode),aT d code→∀ s L ps a b,dH code s=some (L,ps,a,b)→aT d a∧aT d b:=by
              intro code
              induction code with
              | seq a b iha ihb =>
                intro hs s L ps a' b' h
                simp only[dH]at h
                split at h
                ·rename_i r0 h0;simp only[oSI]at h;subst h;exact iha hs.1 s _ _ _ _ h0
                ·exact ihb hs.2 s _ _ _ _ h
              | cond c a b iha ihb =>
                intro hs s L ps a' b' h
                simp only[dH]at h
                split at h
                ·rename_i r0 h0;simp only[oSI]at h;subst h;exact iha hs.1 s _ _ _ _ h0
                ·exact ihb hs.2 s _ _ _ _ h
              | block id a iha=>intro hs s L ps a' b' h;exact iha hs s _ _ _ _ (by simpa [dH]using h)
              | loop l a iha=>intro hs s L ps a' b' h;exact iha hs s _ _ _ _ (by simpa [dH]using h)
              | scope a iha=>intro hs s L ps a' b' h;exact iha hs s _ _ _ _ (by simpa [dH]using h)
              | rng s' L' f ps' a b iha ihb =>
                intro hs s L ps a' b' h
                simp only[dH]at h
                split at h
                ·simp only[oSI,Prod.mk.injEq]at h
                 obtain⟨rfl,rfl,rfl,rfl⟩:=h
                 exact hs.2
                ·split at h
                 ·rename_i r0 h0;simp only[oSI]at h;subst h;exact iha hs.2.1 s _ _ _ _ h0
                 ·exact ihb hs.2.2 s _ _ _ _ h
              | skip=>intro hs s L ps a' b' h;simp[dH]at h
              | exit id=>intro hs s L ps a' b' h;simp[dH]at h
              | ret=>intro hs s L ps a' b' h;simp[dH]at h
              | reg fz dr ops=>intro hs s L ps a' b' h;simp[dH]at h
             exact aux d.body (ok.sites _ d hD) _ _ _ _ _ hsite
            obtain⟨hok1,hok2⟩:rU a=true∧rU b=true:=by
             have aux:∀ (code:XCode),rU code=true→∀ s L ps a b,dH code s=some (L,ps,a,b)→rU a=true∧rU b=true:=by
              intro code
              induction code with
              | seq a b iha ihb =>
                intro hs s L ps a' b' h
                simp only[rU,Bool.and_eq_true]at hs
                simp only[dH]at h
                split at h
                ·rename_i r0 h0;simp only[oSI]at h;subst h;exact iha hs.1 s _ _ _ _ h0
                ·exact ihb hs.2 s _ _ _ _ h
              | cond c a b iha ihb =>
                intro hs s L ps a' b' h
                simp only[rU,Bool.and_eq_true]at hs
                simp only[dH]at h
                split at h
                ·rename_i r0 h0;simp only[oSI]at h;subst h;exact iha hs.2.1 s _ _ _ _ h0
                ·exact ihb hs.2.2 s _ _ _ _ h
              | block id a iha=>intro hs s L ps a' b' h;exact iha (by simpa [rU]using hs) s _ _ _ _ (by simpa [dH]using h)
              | loop l a iha=>intro hs s L ps a' b' h;exact iha (by simpa [rU]using hs) s _ _ _ _ (by simpa [dH]using h)
              | scope a iha=>intro hs s L ps a' b' h;exact iha (by simpa [rU]using hs) s _ _ _ _ (by simpa [dH]using h)
              | rng s' L' f ps' a b iha ihb =>
                intro hs s L ps a' b' h
                simp only[rU,Bool.and_eq_true]at hs
                simp only[dH]at h
                split at h
                ·simp only[oSI,Prod.mk.injEq]at h
                 obtain⟨rfl,rfl,rfl,rfl⟩:=h
                 exact hs.2
                ·split at h
                 ·rename_i r0 h0;simp only[oSI]at h;subst h;exact iha hs.2.1 s _ _ _ _ h0
                 ·exact ihb hs.2.2 s _ _ _ _ h
              | skip=>intro hs s L ps a' b' h;simp[dH]at h
              | exit id=>intro hs s L ps a' b' h;simp[dH]at h
              | ret=>intro hs s L ps a' b' h;simp[dH]at h
              | reg fz dr ops=>intro hs s L ps a' b' h;simp[dH]at h
             exact aux d.body (ok.body hD) _ _ _ _ _ hsite
            refine prov d L ps a b hD hsite B (Up.refl _ _) as' H _ g3 (by rw[←hA.1];exact hlen) ?_
            refine mF hD ok.mixed ih h.length n (some l) (some c) a B Y r _ h _ H .normal e1 h1 _ hY hok1 hs1 hrd ⟨sh,aDz ps as as' _ _ hA (aDR L vs i.env g8)⟩ hex1 ?_
            intro r1 env1 H1 ha1 sr1
            obtain⟨c1,i1,o1,m1,m2,m3,m4,_⟩:=sr1.sh.loopAt hst1
            have hr1:r1 l=some c:=ha1 l c (sh.dom l c hr) hr
            rw[hr1]at m1;simp only[oSI]at m1;subst m1
            rw[g2]at m2;simp only[oSI]at m2;subst m2
            simp only[mR]at m4
            subst m4
            refine⟨rfl,m3,?_⟩
            have sh1':=sr1.sh.loopTo (st':=.busy) (o:=i.oB) hst1 hr1 g2 rfl
            refine mF hD ok.mixed ih h.length n (some l) (some c) b B Y r1 e1 _ env1 _ x e2 h2 _ hY hok2 hs2 (hrd.agree ha1) ⟨sh1',sr1.re⟩ hex2 ?_
            intro r2 env2 H2 ha2 sr2
            obtain⟨c2,i2,o2,p1,p2,p3,p4,_⟩:=sr2.sh.loopAt hst2
            have hr2:r2 l=some c:=ha2 l c (sh.dom l c hr) hr1
            rw[hr2]at p1;simp only[oSI]at p1;subst p1
            rw[g2]at p2;simp only[oSI]at p2;subst p2
            simp only[mR]at p4
            subst p4
            refine⟨p3,?_⟩
            have post:∀ (bv:Bool) (st':zX) (o:Obj),mR i st' o→pL D Y r (iH true h.length (.bool bv) (loopTo h2 l st')).1 (iH true h.length (.bool bv) (loopTo h2 l st')).2 (.bool bv) (hset H2 c (.obj true o)):=by
             intro bv st' o ho
             have sh2':=sr2.sh.loopTo (st':=st') (o:=o) hst2 hr2 g2 ho
             obtain⟨r3,s1,s2,s3⟩:=zO sh2' (k:=h.length) (u:=.bool bv) (.bool bv)
             refine⟨r3,fun b c hb=>s1 b c (sh.dom b c hb) (ha2 b c (sh.dom b c hb) (ha1 b c (sh.dom b c hb) hb)),?_,?_⟩
             ·simpa [iH,upd]using s2
             ·simpa [iH,upd]using s3
            cases x with
            | normal =>
              have:=post true .ready i.oR rfl
              simp only at hx
              rw[hx]at this
              exact this
            | ret =>
              have:=post false (.done .ret) (i.oD .ret) rfl
              simp only at hx
              rw[hx]at this
              exact this
            | exit id =>
              have:=post false (.done (.exit id)) (i.oD (.exit id)) rfl
              simp only at hx
              rw[hx]at this
              exact this
           ·simp at hx
          ·simp at hx
         ·simp at hx
        ·simp at hx
       ·simp at hx
     ·simp at hx
    ·simp at hx
end
def pG:XCode→Bool
 | .seq a b | .cond _ a b=>pG a&&pG b
 | .block _ a | .loop _ a | .scope a=>pG a
 | .rng .. => false
 | _=>true
theorem aB {d:XFn}:∀ {c:XCode},pG c=true→aT d c
 | .seq a b,h=>by simp only[pG,Bool.and_eq_true]at h;exact⟨aB h.1,aB h.2⟩
 | .cond c a b,h=>by simp only[pG,Bool.and_eq_true]at h;exact⟨aB h.1,aB h.2⟩
 | .block id a,h=>aB (c:=a) (by simpa [pG]using h)
 | .loop l a,h=>aB (c:=a) (by simpa [pG]using h)
 | .scope a,h=>aB (c:=a) (by simpa [pG]using h)
 | .rng ..,h=>by simp[pG]at h
 | .skip,_=>trivial
 | .exit _,_=>trivial
 | .ret,_=>trivial
 | .reg ..,_=>trivial

def LeR (f g:fW):Prop:=∀ K as h q,f K as h=some q→g K as h=some q
def LeY (f g:iI):Prop:=∀ v as h q,f v as h=some q→g v as h=some q
section
variable {run run':fW} {runY runY':iI}

theorem qC (hr:LeR run run') (hy:LeY runY runY') {fv:AV} {as:List AV} {h:XH} {q:AV×XH} (hx:eG run runY fv as h=some q):eG run' runY' fv as h=some q:=by
 unfold eG at hx ⊢
 split at hx
 ·simp only[Option.map_eq_some_iff]at hx ⊢
  obtain⟨a,h1,h2⟩:=hx
  exact⟨a,hr _ _ _ _ h1,h2⟩
 ·simp only[Option.map_eq_some_iff]at hx ⊢
  obtain⟨a,h1,h2⟩:=hx
  exact⟨a,hy _ _ _ _ h1,h2⟩
 ·simp at hx
theorem xO (hr:LeR run run') {fv:AV} {as:List AV} {h:XH} {q:AV} (hx:pK run fv as h=some q):pK run' fv as h=some q:=by
 unfold pK at hx ⊢
 split at hx
 ·simp only at hx ⊢
  split at hx
  ·rename_i v hl h1
   rw[hr _ _ _ _ h1];exact hx
  ·simp at hx
 ·simp at hx
theorem jM (hr:LeR run run') (hy:LeY runY runY') {d:Option Nat} {op:DOp} {e:aL} {h:XH} {q:aL×XH} (hx:cY run runY d op e h=some q):cY run' runY' d op e h=some q:=by
 cases op with
 | callf b f xs l =>
   cases b with
   | true =>
     simp only[cY,Option.map_eq_some_iff]at hx ⊢
     obtain⟨a,h1,h2⟩:=hx
     exact⟨a,xO hr h1,h2⟩
   | false =>
     simp only[cY,Option.map_eq_some_iff]at hx ⊢
     obtain⟨a,h1,h2⟩:=hx
     exact⟨a,qC hr hy h1,h2⟩
 | _=>exact hx
theorem iK (hr:LeR run run') (hy:LeY runY runY'):∀ (ops:List DOper) (e:aL) (h:XH) (q:aL×XH),eM run runY ops e h=some q→eM run' runY' ops e h=some q
 | [],e,h,q,hx=>hx
 | o::ops,e,h,q,hx=>by
   simp only[eM]at hx ⊢
   split at hx
   ·simp only[Option.bind_eq_some_iff]at hx ⊢
    obtain⟨s,h1,h2⟩:=hx
    exact⟨s,jM hr hy h1,iK hr hy ops _ _ q h2⟩
   ·exact iK hr hy ops _ _ q hx
   ·simp at hx
theorem jL (hr:LeR run run') (hy:LeY runY runY'):∀ (ops:List DOper) (e:aL) (h:XH) (L:List (Nat×Nat)) (q:aL×XH),eO run runY ops e h L=some q→eO run' runY' ops e h L=some q
 | [],e,h,L,q,hx=>hx
 | o::ops,e,h,L,q,hx=>by
   simp only[eO]at hx ⊢
   split at hx
   ·split at hx
    ·rename_i hl
     rw[if_pos hl]
     simp only[Option.bind_eq_some_iff]at hx ⊢
     obtain⟨s,h1,h2⟩:=hx
     refine⟨s,jM hr hy h1,?_⟩
     split at h2
     ·rename_i hp;rw[if_pos hp];exact jL hr hy ops _ _ _ q h2
     ·simp at h2
    ·simp at hx
   ·exact jL hr hy ops _ _ _ q hx
   ·simp at hx

theorem lZ {step step':aL→XH→Option (DX×aL×XH)} (hs:∀ e h q,step e h=some q→step' e h=some q) {k:Nat} {L:List Nat}:∀ (n m:Nat),n≤m→∀ (e:aL) (h:XH) (q:DX×aL×XH),jD step k L n e h=some q→jD step' k L m e h=some q
 | 0,_,_,e,h,q,hx=>by simp[jD]at hx
 | n+1,0,hnm,e,h,q,hx=>by omega
 | n+1,m+1,hnm,e,h,q,hx=>by
   simp only[jD]at hx ⊢
   split at hx
   ·rename_i e' h' h1
    rw[hs _ _ _ h1]
    exact lZ hs n m (by omega) e' h' q hx
   ·rename_i hne
    rw[hs _ _ _ hx]
    obtain⟨x,e',h'⟩:=q
    cases x with
    | normal=>exact absurd hx (hne e' h')
    | _=>rfl

theorem jZ (hr:LeR run run') (hy:LeY runY runY') {K k n m:Nat} (hnm:n≤m) {rd:Option Nat}:∀ (c:XCode) (e:aL) (h:XH) (q:DX×aL×XH),bK run runY K k n rd c e h=some q→bK run' runY' K k m rd c e h=some q:=by
 intro c
 induction c with
 | skip=>intro e h q hx;exact hx
 | exit id=>intro e h q hx;exact hx
 | ret=>intro e h q hx;exact hx
 | reg fz draw ops =>
   intro e h q hx
   simp only[bK,Option.map_eq_some_iff]at hx ⊢
   obtain⟨s,h1,h2⟩:=hx
   refine⟨s,?_,h2⟩
   split at h1
   ·rename_i hd;rw[if_pos hd];exact jL hr hy _ _ _ _ _ h1
   ·rename_i hd;rw[if_neg hd];exact iK hr hy _ _ _ _ h1
 | seq a b iha ihb =>
   intro e h q hx
   simp only[bK]at hx ⊢
   split at hx
   ·rename_i e1 h1 h2
    rw[iha _ _ _ h2]
    exact ihb _ _ _ hx
   ·rename_i hne
    rw[iha _ _ _ hx]
    obtain⟨x,e',h'⟩:=q
    cases x with
    | normal=>exact absurd hx (hne e' h')
    | _=>rfl
 | cond c a b iha ihb =>
   intro e h q hx
   simp only[bK]at hx ⊢
   split at hx
   ·exact iha _ _ _ hx
   ·exact ihb _ _ _ hx
   ·simp at hx
 | block id a iha =>
   intro e h q hx
   simp only[bK]at hx ⊢
   split at hx
   ·rename_i j e1 h1 h2
    rw[iha _ _ _ h2];exact hx
   ·rename_i hne
    rw[iha _ _ _ hx]
    obtain⟨x,e',h'⟩:=q
    cases x with
    | exit id=>exact absurd hx (hne id e' h')
    | _=>rfl
 | scope a iha=>intro e h q hx;exact iha _ _ _ hx
 | loop L a iha=>intro e h q hx;exact lZ iha n m hnm e h q hx
 | rng site L f ps a b _ _ =>
   intro e h q hx
   simp only[bK]at hx ⊢
   split at hx
   ·rename_i hc
    rw[if_pos hc]
    split at hx
    ·rename_i v h' h1
     rw[qC hr hy h1];exact hx
    ·simp at hx
   ·simp at hx
end

theorem yX (D:Nat→Option XFn):∀ n,LeR (cP D n) (cP D (n+1))∧LeY (bR D n) (bR D (n+1)):=by
 intro n
 induction n with
 | zero=>exact⟨fun K as h q hx=>by simp[cP]at hx,fun v as h q hx=>by simp[bR]at hx⟩
 | succ n ih =>
   refine⟨fun K as h q hx=>?_,fun v as h q hx=>?_⟩
   ·rw[cP]at hx ⊢
    split at hx
    ·simp at hx
    ·rename_i d hd
     split at hx
     ·rename_i hl
      rw[if_pos hl]
      have ret:∀ c e1 h1 q,bL c d.res d.ownR h.length (bK (cP D n) (bR D n) K h.length n none d.body e1 h1)=some q→bL c d.res d.ownR h.length (bK (cP D (n+1)) (bR D (n+1)) K h.length (n+1) none d.body e1 h1)=some q:=by
       intro c e1 h1 q hq
       cases he:bK (cP D n) (bR D n) K h.length n none d.body e1 h1 with
       | none=>rw[he]at hq;simp[bL]at hq
       | some s=>rw[jZ ih.1 ih.2 (Nat.le_succ n) _ _ _ _ he,←he];exact hq
      split at hx
      ·exact ret _ _ _ _ hx
      ·rename_i l y hdf
       cases ho:eM (cP D n) (bR D n) l (aN (if d.ownA then as else dI as)) h with
       | none=>rw[ho]at hx;simp[pZ]at hx
       | some s =>
         rw[ho]at hx
         rw[iK ih.1 ih.2 _ _ _ _ ho]
         unfold pZ at hx ⊢
         dsimp only at hx ⊢
         split at hx
         ·split at hx
          ·rename_i hb
           rw[if_pos hb]
           exact ret _ _ _ _ hx
          ·simp at hx
         ·simp at hx
     ·simp at hx
   ·simp only[bR]at hx
    split at hx
    ·rename_i l
     split at hx
     ·rename_i K site vs hl
      rw[bR]
      simp only[hl]
      split at hx
      ·simp at hx
      ·rename_i L ps a b h1
       split at hx
       ·rename_i hc
        simp only[h1,hc,if_true]
        split at hx
        ·rename_i e1 h1' h2
         rw[jZ ih.1 ih.2 (Nat.le_succ n) _ _ _ _ h2]
         simp only
         split at hx
         ·rename_i hst
          split at hx
          ·rename_i x e2 h2' h3
           rw[jZ ih.1 ih.2 (Nat.le_succ n) _ _ _ _ h3]
           exact hx
          ·simp at hx
         ·simp at hx
        ·simp at hx
       ·simp at hx
     ·simp at hx
    ·simp at hx
theorem dV (D:Nat→Option XFn) {n m:Nat} (h:n≤m):LeR (cP D n) (cP D m)∧LeY (bR D n) (bR D m):=by
 induction h with
 | refl=>exact⟨fun _ _ _ _ h=>h,fun _ _ _ _ h=>h⟩
 | step _ ih=>exact⟨fun K as h q hx=>(yX D _).1 _ _ _ _ (ih.1 _ _ _ _ hx),fun K as h q hx=>(yX D _).2 _ _ _ _ (ih.2 _ _ _ _ hx)⟩

section
variable {α β:Type}
def aEd (f:Nat→Option α):Prop:=∀ n m q,n≤m→f n=some q→f m=some q
noncomputable def lim (f:Nat→Option α):Option α:=open Classical in if h:∃ q n,f n=some q then some h.choose else none
theorem aAx {f:Nat→Option α} (hm:aEd f) {q:α}:lim f=some q↔∃ n,f n=some q:=by
 unfold lim
 constructor
 ·intro h
  split at h
  ·rename_i hx
   simp only[oSI]at h
   rw[←h];exact hx.choose_spec
  ·simp at h
 ·rintro ⟨n,hn⟩
  have hx:∃ q n,f n=some q:=⟨q,n,hn⟩
  rw[dif_pos hx]
  obtain⟨m,h2⟩:=hx.choose_spec
  have h3:=hm n (max n m) q (by omega) hn
  have h4:=hm m (max n m) _ (by omega) h2
  rw[h3]at h4
  exact h4.symm
theorem hJ {x y:Option α} (h:∀ q,x=some q↔y=some q):x=y:=by
 cases x with
 | none=>cases y with
   | none=>rfl
   | some b=>exact absurd ((h b).2 rfl) (by simp)
 | some a=>exact((h a).1 rfl).symm
end

variable (D:Nat→Option XFn)
noncomputable def runW:fW:=fun K as h=>lim fun n=>cP D n K as h
noncomputable def runYW:iI:=fun v as h=>lim fun n=>bR D n v as h
noncomputable def execW (K k:Nat) (rd:Option Nat) (c:XCode) (e:aL) (h:XH):Option (DX×aL×XH):=lim fun n=>bK (cP D n) (bR D n) K k n rd c e h

theorem aCl (K:Nat) (as:List AV) (h:XH):aEd fun n=>cP D n K as h:=fun _ _ _ hnm hx=>(dV D hnm).1 _ _ _ _ hx
theorem aBb (v:AV) (as:List AV) (h:XH):aEd fun n=>bR D n v as h:=fun _ _ _ hnm hx=>(dV D hnm).2 _ _ _ _ hx
theorem eA (K k:Nat) (rd:Option Nat) (c:XCode) (e:aL) (h:XH):aEd fun n=>bK (cP D n) (bR D n) K k n rd c e h :=
 fun _ _ _ hnm hx=>jZ (dV D hnm).1 (dV D hnm).2 hnm _ _ _ _ hx
variable {D}
theorem lG {K:Nat} {as:List AV} {h:XH} {q:AV×XH}:runW D K as h=some q↔∃ n,cP D n K as h=some q:=aAx (aCl D K as h)
theorem sI {v:AV} {as:List AV} {h:XH} {q:AV×XH}:runYW D v as h=some q↔∃ n,bR D n v as h=some q:=aAx (aBb D v as h)
theorem bH {K k:Nat} {rd:Option Nat} {c:XCode} {e:aL} {h:XH} {q:DX×aL×XH}:execW D K k rd c e h=some q↔∃ n,bK (cP D n) (bR D n) K k n rd c e h=some q:=aAx (eA D K k rd c e h)
theorem aBp (n:Nat):LeR (cP D n) (runW D):=fun _ _ _ _ hx=>lG.2 ⟨n,hx⟩
theorem aDG (n:Nat):LeY (bR D n) (runYW D):=fun _ _ _ _ hx=>sI.2 ⟨n,hx⟩

theorem tI {fv:AV} {as:List AV} {h:XH} {q:AV×XH}:eG (runW D) (runYW D) fv as h=some q↔∃ n,eG (cP D n) (bR D n) fv as h=some q:=by
 constructor
 ·intro hx
  unfold eG at hx
  split at hx
  ·simp only[Option.map_eq_some_iff]at hx
   obtain⟨a,h1,h2⟩:=hx
   obtain⟨n,h1⟩:=lG.1 h1
   exact⟨n,by simp only[eG,Option.map_eq_some_iff];exact⟨a,h1,h2⟩⟩
  ·simp only[Option.map_eq_some_iff]at hx
   obtain⟨a,h1,h2⟩:=hx
   obtain⟨n,h1⟩:=sI.1 h1
   exact⟨n,by simp only[eG,Option.map_eq_some_iff];exact⟨a,h1,h2⟩⟩
  ·simp at hx
 ·rintro ⟨n,hx⟩
  exact qC (aBp n) (aDG n) hx
theorem aEX {fv:AV} {as:List AV} {h:XH} {q:AV}:pK (runW D) fv as h=some q↔∃ n,pK (cP D n) fv as h=some q:=by
 constructor
 ·intro hx
  unfold pK at hx
  split at hx
  ·simp only at hx
   split at hx
   ·rename_i v hl h1
    obtain⟨n,h1⟩:=lG.1 h1
    exact⟨n,by simp only[pK,h1];exact hx⟩
   ·simp at hx
  ·simp at hx
 ·rintro ⟨n,hx⟩
  exact xO (aBp n) hx
theorem yK {d:Option Nat} {op:DOp} {e:aL} {h:XH} {q:aL×XH}:cY (runW D) (runYW D) d op e h=some q↔∃ n,cY (cP D n) (bR D n) d op e h=some q:=by
 constructor
 ·intro hx
  cases op with
  | callf b f xs l =>
    cases b with
    | true =>
      simp only[cY,Option.map_eq_some_iff]at hx ⊢
      obtain⟨a,h1,h2⟩:=hx
      obtain⟨n,h1⟩:=aEX.1 h1
      exact⟨n,a,h1,h2⟩
    | false =>
      simp only[cY,Option.map_eq_some_iff]at hx ⊢
      obtain⟨a,h1,h2⟩:=hx
      obtain⟨n,h1⟩:=tI.1 h1
      exact⟨n,a,h1,h2⟩
  | _=>exact⟨0,hx⟩
 ·rintro ⟨n,hx⟩
  exact jM (aBp n) (aDG n) hx
theorem vG:∀ {ops:List DOper} {e:aL} {h:XH} {q:aL×XH},eM (runW D) (runYW D) ops e h=some q↔∃ n,eM (cP D n) (bR D n) ops e h=some q:=by
 intro ops e h q
 refine⟨?_,fun⟨n,hx⟩=>iK (aBp n) (aDG n) _ _ _ _ hx⟩
 induction ops generalizing e h with
 | nil=>exact fun hx=>⟨0,hx⟩
 | cons o ops ih =>
   intro hx
   simp only[eM]at hx ⊢
   split at hx
   ·simp only[Option.bind_eq_some_iff]at hx ⊢
    obtain⟨s,h1,h2⟩:=hx
    obtain⟨n,h1⟩:=yK.1 h1
    obtain⟨m,h2⟩:=ih h2
    exact⟨max n m,s,jM (dV D (by omega)).1 (dV D (by omega)).2 h1,iK (dV D (by omega)).1 (dV D (by omega)).2 _ _ _ _ h2⟩
   ·exact ih hx
   ·simp at hx
theorem aEf:∀ {ops:List DOper} {e:aL} {h:XH} {L:List (Nat×Nat)} {q:aL×XH},eO (runW D) (runYW D) ops e h L=some q↔∃ n,eO (cP D n) (bR D n) ops e h L=some q:=by
 intro ops e h L q
 refine⟨?_,fun⟨n,hx⟩=>jL (aBp n) (aDG n) _ _ _ _ _ hx⟩
 induction ops generalizing e h L with
 | nil=>exact fun hx=>⟨0,hx⟩
 | cons o ops ih =>
   intro hx
   simp only[eO]at hx ⊢
   split at hx
   ·split at hx
    ·rename_i hl
     simp only[hl,if_true]
     simp only[Option.bind_eq_some_iff]at hx ⊢
     obtain⟨s,h1,h2⟩:=hx
     obtain⟨n,h1⟩:=yK.1 h1
     split at h2
     ·rename_i hp
      obtain⟨m,h2⟩:=ih h2
      exact⟨max n m,s,jM (dV D (by omega)).1 (dV D (by omega)).2 h1,by rw[if_pos hp];exact jL (dV D (by omega)).1 (dV D (by omega)).2 _ _ _ _ _ h2⟩
     ·simp at h2
    ·simp at hx
   ·exact ih hx
   ·simp at hx

section
variable {K k:Nat} {rd:Option Nat} {e:aL} {h:XH}
theorem Tz:execW D K k rd .skip e h=some (.normal,e,h):=bH.2 ⟨0,rfl⟩
theorem T0 {id:Nat}:execW D K k rd (.exit id) e h=some (.exit id,e,h):=bH.2 ⟨0,rfl⟩
theorem Ty:execW D K k rd .ret e h=some (.ret,e,h):=bH.2 ⟨0,rfl⟩
theorem aBA {a:XCode}:execW D K k rd (.scope a) e h=execW D K k rd a e h:=hJ fun q=>by rw[bH,bH];exact Iff.rfl
theorem wZ {fz:List (Nat×Bool)} {ops:List DOper}:execW D K k rd (.reg fz false ops) e h=(eM (runW D) (runYW D) ops (fzX fz e h).1 (fzX fz e h).2).map fun r=>(.normal,r.1,r.2):=hJ fun q=>by
 rw[bH]
 simp only[bK,Bool.false_eq_true,if_false,Option.map_eq_some_iff,vG]
 exact⟨fun⟨n,a,h1,h2⟩=>⟨a,⟨n,h1⟩,h2⟩,fun⟨a,⟨n,h1⟩,h2⟩=>⟨n,a,h1,h2⟩⟩
theorem xA {fz:List (Nat×Bool)} {ops:List DOper}:execW D K k rd (.reg fz true ops) e h=(eO (runW D) (runYW D) ops (fzX fz e h).1 (fzX fz e h).2 []).map fun r=>(.normal,r.1,r.2):=hJ fun q=>by
 rw[bH]
 simp only[bK,if_true,Option.map_eq_some_iff,aEf]
 exact⟨fun⟨n,a,h1,h2⟩=>⟨a,⟨n,h1⟩,h2⟩,fun⟨a,⟨n,h1⟩,h2⟩=>⟨n,a,h1,h2⟩⟩

def iJ (r:Option (DX×aL×XH)) (f:aL→XH→Option (DX×aL×XH)):Option (DX×aL×XH):=match r with
 | some (.normal,e,h)=>f e h
 | r=>r
theorem T2 (f:aL→XH→Option (DX×aL×XH)) (e:aL) (h:XH):iJ (some (.normal,e,h)) f=f e h:=rfl
theorem T3 (f:aL→XH→Option (DX×aL×XH)) (id:Nat) (e:aL) (h:XH):iJ (some (.exit id,e,h)) f=some (.exit id,e,h):=rfl
theorem T4 (f:aL→XH→Option (DX×aL×XH)) (e:aL) (h:XH):iJ (some (.ret,e,h)) f=some (.ret,e,h):=rfl
theorem lC {r:Option (DX×aL×XH)} {f:aL→XH→Option (DX×aL×XH)} {q:DX×aL×XH}:iJ r f=some q↔(∃ e h,r=some (.normal,e,h)∧f e h=some q)∨(q.1 ≠ .normal∧r=some q):=by
 unfold iJ
 split
 ·rename_i e h
  constructor
  ·exact fun hf=>.inl ⟨e,h,rfl,hf⟩
  ·rintro (⟨e',h',h1,h2⟩|⟨h1,h2⟩)
   ·simp only[oSI,Prod.mk.injEq,true_and]at h1;obtain⟨rfl,rfl⟩:=h1;exact h2
   ·simp only[oSI]at h2;subst h2;exact absurd rfl h1
 ·rename_i hne
  constructor
  ·intro hr
   refine .inr ⟨fun hq=>?_,hr⟩
   obtain⟨x,e,h⟩:=q
   simp only at hq;subst hq
   exact hne e h hr
  ·rintro (⟨e',h',h1,h2⟩|⟨h1,h2⟩)
   ·exact absurd h1 (hne e' h')
   ·exact h2
theorem aEM {run:fW} {runY:iI} {n:Nat} {a b:XCode}:bK run runY K k n rd (.seq a b) e h=iJ (bK run runY K k n rd a e h) (bK run runY K k n rd b):=rfl
theorem Tx {a b:XCode}:execW D K k rd (.seq a b) e h=iJ (execW D K k rd a e h) (execW D K k rd b):=hJ fun q=>by
 rw[bH]
 simp only[aEM,lC,bH]
 constructor
 ·rintro ⟨n,⟨e1,h1,h2,h3⟩|⟨h1,h2⟩⟩
  ·exact .inl ⟨e1,h1,⟨n,h2⟩,⟨n,h3⟩⟩
  ·exact .inr ⟨h1,n,h2⟩
 ·rintro (⟨e1,h1,⟨n,h2⟩,⟨m,h3⟩⟩|⟨h1,n,h2⟩)
  ·exact⟨max n m,.inl ⟨e1,h1,eA D K k rd a e h n _ _ (by omega) h2,eA D K k rd b e1 h1 m _ _ (by omega) h3⟩⟩
  ·exact⟨n,.inr ⟨h1,h2⟩⟩
theorem aCH {c:AO} {a b:XCode}:execW D K k rd (.cond c a b) e h=match aU e c with
 | .bool true=>execW D K k rd a e h
 | .bool false=>execW D K k rd b e h
 | _=>none:=hJ fun q=>by
 rw[bH]
 simp only[bK]
 cases aU e c with
 | bool t=>cases t<;>simp only[bH]
 | _=>simp
def qE (id:Nat) (r:Option (DX×aL×XH)):Option (DX×aL×XH):=match r with
 | some (.exit j,e',h')=>if j=id then some (.normal,e',h') else some (.exit j,e',h')
 | r=>r
theorem T5 (id:Nat) (e:aL) (h:XH):qE id (some (.normal,e,h))=some (.normal,e,h):=rfl
theorem T6 (id:Nat) (e:aL) (h:XH):qE id (some (.ret,e,h))=some (.ret,e,h):=rfl
theorem T7 (id j:Nat) (e:aL) (h:XH):qE id (some (.exit j,e,h))=if j=id then some (.normal,e,h) else some (.exit j,e,h):=rfl
theorem T1 {id:Nat} {a:XCode}:execW D K k rd (.block id a) e h=qE id (execW D K k rd a e h):=hJ fun q=>by
 have he:∀ n,bK (cP D n) (bR D n) K k n rd (.block id a) e h=qE id (bK (cP D n) (bR D n) K k n rd a e h):=fun _=>rfl
 rw[bH]
 simp only[he]
 constructor
 ·rintro ⟨n,hn⟩
  cases hx:bK (cP D n) (bR D n) K k n rd a e h with
  | none=>rw[hx]at hn;simp[qE]at hn
  | some s=>rw[bH.2 ⟨n,hx⟩,←hx];exact hn
 ·intro hq
  cases hx:execW D K k rd a e h with
  | none=>rw[hx]at hq;simp[qE]at hq
  | some s =>
    obtain⟨n,hn⟩:=bH.1 hx
    exact⟨n,by rw[hn,←hx];exact hq⟩
theorem eE {L:List Nat} {a:XCode}:execW D K k rd (.loop L a) e h=iJ (execW D K k rd a (jC k L e h) (mM k L e h)) (execW D K k rd (.loop L a)):=hJ fun q=>by
 have he:∀ n m e h,jD (bK (cP D n) (bR D n) K k n rd a) k L (m+1) e h=iJ (bK (cP D n) (bR D n) K k n rd a (jC k L e h) (mM k L e h)) (jD (bK (cP D n) (bR D n) K k n rd a) k L m):=fun n m e h=>rfl
 rw[bH,lC]
 constructor
 ·rintro ⟨n,hn⟩
  have hn:jD (bK (cP D n) (bR D n) K k n rd a) k L n e h=some q:=hn
  cases n with
  | zero=>simp[jD]at hn
  | succ n =>
    rw[he,lC]at hn
    rcases hn with ⟨e1,h1,h2,h3⟩|⟨h1,h2⟩
    ·exact .inl ⟨e1,h1,bH.2 ⟨n+1,h2⟩,bH.2 ⟨n+1,lZ (fun _ _ _ h=>h) n (n+1) (by omega) _ _ _ h3⟩⟩
    ·exact .inr ⟨h1,bH.2 ⟨n+1,h2⟩⟩
 ·rintro (⟨e1,h1,h2,h3⟩|⟨h1,h2⟩)
  ·obtain⟨n,h2⟩:=bH.1 h2
   obtain⟨m,h3⟩:=bH.1 h3
   have h3:jD (bK (cP D m) (bR D m) K k m rd a) k L m e1 h1=some q:=h3
   refine⟨max n m+1,?_⟩
   show jD _ k L (max n m+1) e h=some q
   rw[he,lC]
   refine .inl ⟨e1,h1,eA D K k rd a _ _ n _ _ (by omega) h2,?_⟩
   exact lZ (fun e h q hq=>eA D K k rd a e h m _ _ (by omega) hq) m (max n m) (by omega) _ _ _ h3
  ·obtain⟨n,h2⟩:=bH.1 h2
   refine⟨n+1,?_⟩
   show jD _ k L (n+1) e h=some q
   rw[he,lC]
   exact .inr ⟨h1,eA D K k rd a _ _ n _ _ (by omega) h2⟩

def aBe (n:Nat) (e:aL) (r:Option (AV×XH)):Option (DX×aL×XH):=match r with
 | some (_,h')=>match eT h' n with
   | some .ready=>some (.normal,e,h'.set n none)
   | some (.done x)=>some (x,e,h'.set n none)
   | _=>none
 | none=>none
theorem aEN {site:Nat} {L:List Nat} {f:AO} {ps:List Nat} {a b:XCode}:execW D K k rd (.rng site L f ps a b) e h=if sV rd h&&sT (aU e f) then
 aBe h.length e (eG (runW D) (runYW D) (aU e f) [.fn (.yield h.length) [] []] (h++[some (.loop K site (L.map e) .ready)])) else none:=hJ fun q=>by
 rw[bH]
 have he:∀ n,bK (cP D n) (bR D n) K k n rd (.rng site L f ps a b) e h=if sV rd h&&sT (aU e f) then
  aBe h.length e (eG (cP D n) (bR D n) (aU e f) [.fn (.yield h.length) [] []] (h++[some (.loop K site (L.map e) .ready)])) else none:=fun _=>rfl
 simp only[he]
 split
 ·constructor
  ·rintro ⟨n,hn⟩
   cases hx:eG (cP D n) (bR D n) (aU e f) [.fn (.yield h.length) [] []] (h++[some (.loop K site (L.map e) .ready)])with
   | none=>rw[hx]at hn;simp[aBe]at hn
   | some s=>rw[tI.2 ⟨n,hx⟩,←hx];exact hn
  ·intro hq
   cases hx:eG (runW D) (runYW D) (aU e f) [.fn (.yield h.length) [] []] (h++[some (.loop K site (L.map e) .ready)])with
   | none=>rw[hx]at hq;simp[aBe]at hq
   | some s =>
     obtain⟨n,hn⟩:=tI.1 hx
     exact⟨n,by rw[hn,←hx];exact hq⟩
 ·simp
end

def aIw (res:List (Nat×Option (Bool×Nat))) (own:Bool) (k:Nat) (e:aL) (r:Option XH):Option (AV×XH):=match r with
 | some h=>(kT res e (dP h)).map fun v=>iH own k v h
 | none=>none
theorem aIv (b:Nat) (res:List (Nat×Option (Bool×Nat))) (own:Bool) (k:Nat) (e:aL) (h:XH):bL (some b) res own k (some (.normal,e,h))=aIw res own k e (mV h b):=by
 simp only[bL,aJg,aIw];cases mV h b<;>rfl
theorem wD {c:Option Nat} {K:Nat} {d:XFn} {k:Nat} {e:aL} {h:XH} {q:AV×XH}:bL c d.res d.ownR k (execW D K k none d.body e h)=some q↔∃ n,bL c d.res d.ownR k (bK (cP D n) (bR D n) K k n none d.body e h)=some q:=by
 constructor
 ·intro hq
  cases hx:execW D K k none d.body e h with
  | none=>rw[hx]at hq;simp[bL]at hq
  | some s =>
    obtain⟨n,hn⟩:=bH.1 hx
    exact⟨n,by rw[hn,←hx];exact hq⟩
 ·rintro ⟨n,hn⟩
  cases hx:bK (cP D n) (bR D n) K k n none d.body e h with
  | none=>rw[hx]at hn;simp[bL]at hn
  | some s=>rw[bH.2 ⟨n,hx⟩,←hx];exact hn
theorem aX {K:Nat} {d:XFn} (hD:D K=some d) {as:List AV} (hl:as.length≤d.N) (h:XH) (hdf:d.dfr=none):runW D K as h=bL none d.res d.ownR h.length (execW D K h.length none d.body (aN (if d.ownA then as else dI as)) h):=hJ fun q=>by
 rw[lG,wD]
 have he:∀ n,cP D (n+1) K as h=bL none d.res d.ownR h.length (bK (cP D n) (bR D n) K h.length n none d.body (aN (if d.ownA then as else dI as)) h):=fun n=>by
  rw[cP,hD]
  simp only[hl,if_true,hdf]
 constructor
 ·rintro ⟨n,hn⟩
  cases n with
  | zero=>simp[cP]at hn
  | succ n=>rw[he]at hn;exact⟨n,hn⟩
 ·rintro ⟨n,hn⟩
  exact⟨n+1,by rw[he];exact hn⟩
theorem aFO {K:Nat} {d:XFn} (hD:D K=some d) {as:List AV} (hl:as.length≤d.N) (h:XH) {l:List DOper} {x:Nat} (hdf:d.dfr=some (l,x)) :
 runW D K as h=pZ x h.length (eM (runW D) (runYW D) l (aN (if d.ownA then as else dI as)) h) fun b e1 h1=>bL (some b) d.res d.ownR h.length (execW D K h.length none d.body e1 h1):=hJ fun q=>by
 rw[lG]
 have he:∀ n,cP D (n+1) K as h=pZ x h.length (eM (cP D n) (bR D n) l (aN (if d.ownA then as else dI as)) h) fun b e1 h1=>bL (some b) d.res d.ownR h.length (bK (cP D n) (bR D n) K h.length n none d.body e1 h1):=fun n=>by
  rw[cP,hD]
  simp only[hl,if_true,hdf]
 constructor
 ·rintro ⟨n,hn⟩
  cases n with
  | zero=>simp[cP]at hn
  | succ n =>
    rw[he]at hn
    cases ho:eM (cP D n) (bR D n) l (aN (if d.ownA then as else dI as)) h with
    | none=>rw[ho]at hn;simp[pZ]at hn
    | some s =>
      rw[ho]at hn
      rw[vG.2 ⟨n,ho⟩]
      unfold pZ at hn ⊢
      dsimp only at hn ⊢
      split at hn
      ·split at hn
       ·rename_i hb
        rw[if_pos hb]
        exact wD.2 ⟨n,hn⟩
       ·simp at hn
      ·simp at hn
 ·intro hq
  cases ho:eM (runW D) (runYW D) l (aN (if d.ownA then as else dI as)) h with
  | none=>rw[ho]at hq;simp[pZ]at hq
  | some s =>
    obtain⟨n,hn⟩:=vG.1 ho
    rw[ho]at hq
    unfold pZ at hq
    dsimp only at hq
    split at hq
    ·rename_i b hb
     split at hq
     ·rename_i hbk
      obtain⟨m,hm⟩:=wD.1 hq
      refine⟨max n m+1,?_⟩
      rw[he,iK (dV D (by omega:n≤max n m)).1 (dV D (by omega:n≤max n m)).2 _ _ _ _ hn]
      unfold pZ
      dsimp only
      rw[hb]
      simp only[hbk,if_true]
      cases hx:bK (cP D m) (bR D m) K h.length m none d.body s.1 s.2 with
      | none=>rw[hx]at hm;simp[bL]at hm
      | some t =>
        have:=jZ (dV D (by omega:m≤max n m)).1 (dV D (by omega:m≤max n m)).2 (by omega:m≤max n m) _ _ _ _ hx
        rw[this,←hx];exact hm
     ·simp at hq
    ·simp at hq

def aEe (l k:Nat) (r:Option (DX×aL×XH)):Option (AV×XH):=match r with
 | some (x,_,h2)=>match eT h2 l with
   | some .busy=>some (match x with
     | .normal=>iH true k (.bool true) (loopTo h2 l .ready)
     | x=>iH true k (.bool false) (loopTo h2 l (.done x)))
   | _=>none
 | none=>none
def aBX (l:Nat) (r:Option (DX×aL×XH)) (f:aL→XH→Option (AV×XH)):Option (AV×XH):=match r with
 | some (.normal,e1,h1)=>match eT h1 l with
   | some .ready=>f e1 (loopTo h1 l .busy)
   | _=>none
 | _=>none
theorem gR {K:Nat} {d:XFn} (hD:D K=some d) {l site:Nat} {vs:List AV} {h:XH} (hl:hat h l=some (.loop K site vs .ready)) {L ps:List Nat} {a b:XCode} (hs:dH d.body site=some (L,ps,a,b)) {as:List AV} (hn:as.length=ps.length) :
 runYW D (.fn (.yield l) [] []) as h=aBX l (execW D K h.length (some l) a (lW (aY L vs) ps as) h) fun e1 h1=>aEe l h.length (execW D K h.length (some l) b e1 h1):=hJ fun q=>by
 rw[sI]
 have he:∀ n,bR D (n+1) (.fn (.yield l) [] []) as h=aBX l (bK (cP D n) (bR D n) K h.length n (some l) a (lW (aY L vs) ps as) h) fun e1 h1=>aEe l h.length (bK (cP D n) (bR D n) K h.length n (some l) b e1 h1):=fun n=>by
  rw[bR]
  simp only[hl,hD,Option.bind_some,hs,hn,if_true]
  rfl
 constructor
 ·rintro ⟨n,hn⟩
  cases n with
  | zero=>simp[bR]at hn
  | succ n =>
    rw[he]at hn
    unfold aBX at hn ⊢
    split at hn
    ·rename_i e1 h1 hx
     rw[bH.2 ⟨n,hx⟩]
     simp only
     split at hn
     ·rename_i hst
      simp only at hn
      cases hx2:bK (cP D n) (bR D n) K h.length n (some l) b e1 (loopTo h1 l .busy)with
      | none=>rw[hx2]at hn;simp[aEe]at hn
      | some s=>rw[bH.2 ⟨n,hx2⟩,←hx2];exact hn
     ·simp at hn
    ·simp at hn
 ·intro hq
  unfold aBX at hq
  split at hq
  ·rename_i e1 h1 hx
   obtain⟨n,hn⟩:=bH.1 hx
   split at hq
   ·rename_i hst
    simp only at hq
    cases hx2:execW D K h.length (some l) b e1 (loopTo h1 l .busy)with
    | none=>rw[hx2]at hq;simp[aEe]at hq
    | some s =>
      obtain⟨m,hm⟩:=bH.1 hx2
      refine⟨max n m+1,?_⟩
      rw[he]
      have e1':=eA D K h.length (some l) a (lW (aY L vs) ps as) h n (max n m) _ (by omega) hn
      have e2':=eA D K h.length (some l) b e1 (loopTo h1 l .busy) m (max n m) _ (by omega) hm
      simp only at e1' e2'
      unfold aBX
      simp only[e1',hst,e2']
      rw[←hx2];exact hq
   ·simp at hq
  ·simp at hq
end Go.DL
namespace Go.DL
open Go.RowKit
variable {P:Program} {D:Nat→Option XFn}

theorem SH.none:SH D (fun _=>Option.none) (fun _=>Option.none) [] noH :=
 ⟨fun b c hb=>by simp at hb,fun b c c' x y hx=>by simp[hat]at hx,fun b x hx=>by simp[hat]at hx⟩

theorem aNR (ok:XOk P D) {n K:Nat} {as:List AV} {v:AV} {h':XH} (hrun:cP D n K as []=some (v,h')) (has:∀ a∈as,Gd a) (hv:Gd v) {w:World} {vs:Array Value} (gi:GI (fun b=>b<w.heap.size) w) (hA:Args (fun b=>b<w.heap.size) w as vs) :
 Calls P K vs w fun e w'=>∃ F' q,e = .returned q∧Rv F' w' v q∧Below w.heap.size w w':=by
 have hfn:=(aEw ok n ⟨fun b=>b<w.heap.size,w,gi⟩ (fun _=>Option.none) (fun l i h=>by simp at h)).1 (fun _=>Option.none) [] noH K as as v h' SH.none (RnL.self fun a ha=>(has a ha).rn) hrun
 have hc:=hfn.2 (fun b=>b<w.heap.size) w vs (Up.refl _ _) ⟨fun b hb=>hb,fun b x hb=>by simp[noH]at hb,fun b x hb=>by simp[noH]at hb⟩ hA
 refine(callsIn_wide.1 hc).mono ?_
 rintro e w' ⟨q,v',F',H',rfl,h1,h2,h3,r',_,_,h4⟩
 obtain⟨rfl,_⟩:=h4.same hv.gr
 exact⟨F',q,rfl,h3,h1.io.os,h1.io.tape,h1.io.output,h1.le,fun k hk=>h1.same k hk (by simp[mX,noH])⟩

theorem aIg {F:Nat→Prop} {w:World} {b:Bool} {q:Value} (h:Rv F w (.bool b) q):q = .bool b:=by cases h;rfl

section
variable {H:Type} {enc:TypeId×Value→H}

theorem xR (hl:laidOutB P=true) {W W':World} (hb:Below W.heap.size W W'):∀ (ts:List TypeId) (vs:List Value) (ds:List (DataW H)) (ps:List MemPlace),(ts.all fun t=>P.readableRec t&&decide (t<P.types.size))=true →
 (∀ x∈ps,x.block<W.heap.size)→DataW.TrodAll enc P W 0 (fun _=>true) true ts vs ds ps→DataW.TrodAll enc P W' 0 (fun b=>decide (b<W.heap.size)) true ts vs ds ps
 | [],[],[],ps,_,_,h=>h
 | t::ts,v::vs,d::ds,ps,ht,hlt,h=>by
   obtain⟨p,q,h1,h2,rfl⟩:=h
   simp only[List.all_cons,Bool.and_eq_true,decide_eq_true_eq]at ht
   exact⟨p,q,Below.trod hl ht.1.1 ht.1.2 h1 hb (fun x hx=>hlt x (by simp[hx])),xR hl hb ts vs ds q ht.2 (fun x hx=>hlt x (by simp[hx])) h2,rfl⟩
 | [],[],_::_,_,_,_,h=>h.elim
 | [],_::_,_,_,_,_,h=>h.elim
 | _::_,[],_,_,_,_,h=>h.elim
 | _::_,_::_,[],_,_,_,h=>h.elim

theorem aGK (hl:laidOutB P=true) {f:Func} {s:ChangeSpec} {W W':World} {args:Array Value} {ds gs:List (DataW H)} {before:List MemPlace} {t:TypeId}
 (hW:DataW.Whole enc P f.params.toList s.vars false W args.toList ds gs before) (hv:s.vars=[]) (hs:(s.fn H (ds++gs)).results=[.lit (.bool true)]) (hs2:(s.fn H (ds++gs)).args=ds) (hs3:(s.fn H (ds++gs)).vars=[])
 (ht:f.resultTypes = #[t]) (hu:P.underlying t=some .bool) (hp:(f.params.toList.all fun t=>P.readableRec t&&decide (t<P.types.size))=true) (hb:Below W.heap.size W W') :
 s.post enc P f false true false false W args (.bool true) W':=by
 have hlt:=hW.lt
 have hW0:=hW
 obtain⟨p,q,h1,h2,rfl,h4,h5⟩:=hW
 rw[hv]at h2
 cases gs with
 | cons g gs=>exact h2.elim
 | nil =>
   have hq:q=[]:=h2
   subst hq
   refine⟨ds,[],p++[],[],p,[],hW0,?_,?_,?_,?_,fun h=>by cases h⟩
   ·rw[hs,ht]
    exact⟨[],[],RowKit.shut_bool hu true,rfl,rfl⟩
   ·rw[hs2]
    exact xR hl hb _ _ _ _ hp (fun x hx=>hlt x (by simp[hx])) h1
   ·rw[hs3,hv]
    exact rfl
   ·exact World.keptBut_mono (fun x hx=>⟨by simpa using hx,.inr (.inl hx)⟩) (hb.frame (· ∈ p))
end
end Go.DL
namespace Go.DL
abbrev I (n:Int):AV:=.int .i64 n
theorem aD {n:Int} (h1 : -9223372036854775808≤n) (h2:n≤9223372036854775807):IntKind.i64.wrap n=n:=by
 simp[IntKind.wrap,IntKind.bits,IntKind.signed]
 omega
def tH (k:Nat) (L:List Nat) (e:aL) (h:XH):List AV:=lA (iB k (dO k (L.map e) h)) (L.map e)
def aW (k:Nat) (L:List Nat) (r:Option (DX×aL×XH)):Option (List AV×XH):=match r with
 | some (.normal,e,h)=>some (tH k L e h,mM k L e h)
 | _=>none
theorem T8 (k:Nat) (L:List Nat) (e:aL) (h:XH):aW k L (some (.normal,e,h))=some (tH k L e h,mM k L e h):=rfl
def hZ (r:Option (DX×aL×XH)):Bool:=match r with
 | some (.normal,_,_)=>false
 | some _=>true
 | none=>false

theorem aI {D:Nat→Option XFn} {K k:Nat} {rd:Option Nat} {L:List Nat} {a:XCode} {e:aL} {h:XH} (n:Nat) (S:Nat→List AV) (G:Nat→XH) (h0:aW k L (some (.normal,e,h))=some (S 0,G 0))
 (hs:∀ i,i<n→aW k L (execW D K k rd a (aY L (S i)) (G i))=some (S (i+1),G (i+1))) (hl:hZ (execW D K k rd a (aY L (S n)) (G n))=true) :
 execW D K k rd (.loop L a) e h=execW D K k rd a (aY L (S n)) (G n):=by
 have key:∀ (m i:Nat) (e:aL) (h:XH),m+i=n→aW k L (some (.normal,e,h))=some (S i,G i)→execW D K k rd (.loop L a) e h=execW D K k rd a (aY L (S n)) (G n):=by
  intro m
  induction m with
  | zero =>
    intro i e h hi h0
    have:i=n:=by omega
    subst this
    rw[eE]
    simp only[aW,oSI,Prod.mk.injEq]at h0
    have e1:jC k L e h=aY L (S i):=by rw[←h0.1];rfl
    rw[e1,h0.2]
    revert hl
    cases execW D K k rd a (aY L (S i)) (G i)with
    | none=>intro hl;rfl
    | some q =>
      obtain⟨x,e',h'⟩:=q
      cases x with
      | normal=>intro hl;simp[hZ]at hl
      | exit id=>intro _;rfl
      | ret=>intro _;rfl
  | succ m ih =>
    intro i e h hi h0
    rw[eE]
    simp only[aW,oSI,Prod.mk.injEq]at h0
    have e1:jC k L e h=aY L (S i):=by rw[←h0.1];rfl
    rw[e1,h0.2]
    have h1:=hs i (by omega)
    revert h1
    cases execW D K k rd a (aY L (S i)) (G i)with
    | none=>intro h1;simp[aW]at h1
    | some q =>
      obtain⟨x,e',h'⟩:=q
      cases x with
      | normal=>intro h1;exact ih (i+1) e' h' (by omega) h1
      | exit id=>intro h1;simp[aW]at h1
      | ret=>intro h1;simp[aW]at h1
 exact key n 0 e h (by omega) h0
section
variable {run:fW} {runY:iI} {d:Option Nat} {e:aL} {h:XH} {ix:Nat} {r:List DOper} {D:Nat→Option XFn} {K k:Nat} {rd:Option Nat} {m:Option (List (Nat×Nat))} {op:DOp} {v:AV}

theorem Za {j:Nat}:upd e k v j=if j=k then v else e j:=rfl
theorem Zb:bM e (some k) v=upd e k v:=rfl
theorem Zc:bM e none v=e:=rfl
theorem Zd {α β:Type} {a:α} {b:β}:(a,b).fst=a:=rfl
theorem Ze {α β:Type} {a:α} {b:β}:(a,b).snd=b:=rfl

def aHd (r:Option (aL×XH)):Option (DX×aL×XH):=r.map fun r=>(.normal,r.1,r.2)
theorem Zf:aHd (some (e,h))=some (.normal,e,h):=rfl
def xo (m:Option (List (Nat×Nat))) (run:fW) (runY:iI) (ops:List DOper) (e:aL) (h:XH):Option (aL×XH):=match m with
 | none=>eM run runY ops e h
 | some L=>eO run runY ops e h L
def aKh (m:Option (List (Nat×Nat))) (run:fW) (runY:iI) (ops:List DOper) (p:aL×XH):Option (DX×aL×XH):=aHd (xo m run runY ops p.1 p.2)
theorem Zg {ops:List DOper}:aKh m run runY ops (e,h)=aHd (xo m run runY ops e h):=rfl
theorem Zh {ops:List DOper}:execW D K k rd (.reg [] false ops) e h=aHd (xo none (runW D) (runYW D) ops e h):=wZ
theorem Zi {ops:List DOper}:execW D K k rd (.reg [] true ops) e h=aHd (xo (some []) (runW D) (runYW D) ops e h):=xA
theorem Zj {a:Nat×Bool} {fz:List (Nat×Bool)} {ops:List DOper}:execW D K k rd (.reg (a::fz) false ops) e h=aKh none (runW D) (runYW D) ops (fzX (a::fz) e h):=wZ
theorem Zk {a:Nat×Bool} {fz:List (Nat×Bool)} {ops:List DOper}:execW D K k rd (.reg (a::fz) true ops) e h=aKh (some []) (runW D) (runYW D) ops (fzX (a::fz) e h):=xA
theorem Zl:xo m run runY [] e h=some (e,h):=by cases m<;>rfl

def kV (m:Option (List (Nat×Nat))) (run:fW) (runY:iI) (r:List DOper) (d:Option Nat) (e:aL) (h:XH):Option AV→Option (aL×XH)
 | some v=>xo m run runY r (bM e d v) h
 | none=>none
theorem Zm:kV m run runY r d e h (some v)=xo m run runY r (bM e d v) h:=rfl
def kE (m:Option (List (Nat×Nat))) (run:fW) (runY:iI) (r:List DOper) (d:Option Nat) (e:aL) (h:XH) (g:Bool):Option Eff→Option (aL×XH)
 | some (.val v)=>xo m run runY r (bM e d v) h
 | some (.new own x f)=>xo m run runY r (bM e d (f h.length)) (oU h own g x)
 | none=>none
theorem Zn {g:Bool}:kE m run runY r d e h g (some (.val v))=xo m run runY r (bM e d v) h:=rfl
theorem Zo {g:Bool} {own:Option Nat} {x:ABlk} {f:Nat→AV}:kE m run runY r d e h g (some (.new own x f))=xo m run runY r (bM e d (f h.length)) (oU h own g x):=rfl
theorem aJF {g:Bool} {q:Option Eff}:(match q with
 | some (.val v)=>some (bM e d v,h)
 | some (.new own x f)=>some (bM e d (f h.length),oU h own g x)
 | none=>none).bind (fun s=>xo m run runY r s.1 s.2)=kE m run runY r d e h g q:=by cases q with
 | none=>rfl
 | some q=>cases q<;>rfl
theorem yA (h1:cY run runY d op e h=match aC op e (dP h)with
 | some (.val v)=>some (bM e d v,h)
 | some (.new own x f)=>some (bM e d (f h.length),oU h own (iC op e h) x)
 | none=>none) (h2:∀ L,aEF ix op e L=L) (h3:∀ L,tW op e h L=true) (h4:∀ L h',uT op e h h' L=true) :
 xo m run runY (⟨ix,d,op,none⟩::r) e h=kE m run runY r d e h (iC op e h) (aC op e (dP h)):=by
 rw[←aJF]
 cases m with
 | none=>simp only[xo,eM,gd,h1]
 | some L=>simp only[xo,eO,gd,h1,h2,h3,h4,if_true]

def mY (q:Option AV):Option Eff:=q.map .val
theorem oT {q:Option AV} (h1:cY run runY d op e h=match aC op e (dP h)with
 | some (.val v)=>some (bM e d v,h)
 | some (.new own x f)=>some (bM e d (f h.length),oU h own (iC op e h) x)
 | none=>none) (h5:aC op e (dP h)=mY q) (h2:∀ L,aEF ix op e L=L) (h3:∀ L,tW op e h L=true) (h4:∀ L h',uT op e h h' L=true) :
 xo m run runY (⟨ix,d,op,none⟩::r) e h=kV m run runY r d e h q:=by
 rw[yA h1 h2 h3 h4,h5]
 cases q<;>rfl
def aDA (c a b:AV):Option AV:=match c with
 | .bool t=>some (if t then a else b)
 | _=>none
def aKo (x:AV):Option AV:=match x with
 | .bool b=>some (.bool !b)
 | _=>none
def aKq (x:AV):Option AV:=match x with
 | .int k n=>some (.int k (k.wrap (0-n)))
 | _=>none
def aHr (k:IntKind) (x:AV):Option AV:=match x with
 | .int _ n=>some (.int k (k.wrap n))
 | _=>none
def aKM (off:Nat) (x:AV):Option AV:=match x with
 | .pt b o=>some (.pt b (o+off))
 | .fp r i o=>some (.fp r i (o+off))
 | _=>none
def aGI (q:Bool) (x:AV):Option AV:=match q,x with
 | true,.str s=>some (.int .i64 (s.size:Int))
 | false,.fs rows=>some (.int .i64 (rows.length:Int))
 | false,.sl _ _ _ n=>some (.int .i64 (n:Int))
 | false,.nilsl=>some (.int .i64 0)
 | _,_=>none
def aGS (s:Nat) (x i:AV):Option AV:=match x,i with
    | .sl b o s' len,.int _ n=>if s'=s∧0≤n∧n<(len:Int) then some (.pt b (o+n.toNat*s)) else none
    | .fs rows,.int _ n=>if 0≤n∧n<(rows.length:Int)∧(rows.getD n.toNat []).length=s then some (.fp rows n.toNat 0) else none
    | _,_=>none
def aKA (s:Nat) (rows:List (List AV)) (j:Nat):Option (List AV)→Option AV
 | some r=>if r.length=s then some (.fp rows j 0) else none
 | none=>none
def aKQ (x:AV) (i:Nat):Option AV:=match x with
 | .tup vs=>vs[i]?
 | _=>none

def aDJ (len s:Nat) (x i:AV):Option AV:=match x,i with
    | .pt b o,.int _ n=>if 0≤n∧n<(len:Int) then some (.pt b (o+n.toNat*s)) else none
    | .fp r j o,.int _ n=>if 0≤n∧n<(len:Int) then some (.fp r j (o+n.toNat*s)) else none
    | _,_=>none
def mmM (mx:Bool) (x y:AV):Option AV:=match x,y with
    | .int k a,.int _ b=>some (.int k (if mx then (if b>a then b else a) else (if b<a then b else a)))
    | _,_=>none
def aDQ (neg:Bool) (ks:List Nat) (x y:AV):Option AV:=match x,y with
    | .agg cs,.agg ds=>(cS ks cs ds).map fun b=>.bool (if neg then !b else b)
    | _,_=>none
def aKS (neg:Bool) (x:Option Bool):Option AV:=match x with
    | some b=>some (.bool (if neg then !b else b))
    | none=>none
def aLh (x:Option (List AV)):Option AV:=match x with
    | some cs=>some (.agg cs)
    | none=>none
def aGR (agg:Bool) (len s:Nat) (x i:AV):Option AV:=match x,i with
    | .agg cs,.int _ n=>if 0≤n∧n<(len:Int) then fH agg s cs (n.toNat*s) else none
    | _,_=>none
def aCw (x:AV):Option AV:=match x with
    | .pt b o=>some (.pt b o)
    | .fp r i o=>some (.fp r i o)
    | _=>none
def kG (m:Option (List (Nat×Nat))) (run:fW) (runY:iI) (o:DOper) (r:List DOper) (e:aL) (h:XH) (b:Bool):AV→Option (aL×XH)
 | .bool t=>if t==b then xo m run runY (o::r) e h else xo m run runY r (bM e o.dst (.tup [])) h
 | .tup _=>xo m run runY r (bM e o.dst (.tup [])) h
 | _=>none
theorem Zp {s:Nat} {b:Bool}:xo m run runY (⟨ix,d,op,some (s,b)⟩::r) e h=kG m run runY ⟨ix,d,op,none⟩ r e h b (e s):=by
 cases m with
 | none =>
   simp only[xo,eM,gd]
   cases e s with
   | bool t=>cases ht:t==b<;>simp[kG,xo,eM,gd,ht]
   | _=>rfl
 | some L =>
   simp only[xo,eO,gd]
   cases e s with
   | bool t=>cases ht:t==b<;>simp[kG,xo,eO,gd,ht]
   | _=>rfl
theorem Zq {o:DOper}:kG m run runY o r e h true (.bool true)=xo m run runY (o::r) e h:=rfl
theorem Zr {o:DOper}:kG m run runY o r e h false (.bool false)=xo m run runY (o::r) e h:=rfl
theorem Zs {q:DOp}:kG m run runY ⟨ix,d,q,none⟩ r e h true (.bool false)=xo m run runY r (bM e d (.tup [])) h:=rfl
theorem Zt {q:DOp}:kG m run runY ⟨ix,d,q,none⟩ r e h false (.bool true)=xo m run runY r (bM e d (.tup [])) h:=rfl
theorem Zu {a:AO}:xo m run runY (⟨ix,d,.mv a,none⟩::r) e h=xo m run runY r (bM e d (aU e a)) h:=(yA rfl (fun _=>rfl) (fun _=>rfl) fun _ _=>rfl).trans rfl
theorem Zv {z:List AV}:xo m run runY (⟨ix,d,.alloc z,none⟩::r) e h=xo m run runY r (bM e d (.pt h.length 0)) (h++[some (.blk (eN z) (.cells true z))]):=(yA rfl (fun _=>rfl) (fun _=>rfl) fun _ _=>rfl).trans rfl
theorem Zw {f:Fn} {a b:List AO}:xo m run runY (⟨ix,d,.mkf f a b,none⟩::r) e h=xo m run runY r (bM e d (.fn f (a.map (aU e)) (b.map (aU e)))) h:=(yA rfl (fun _=>rfl) (fun _=>rfl) fun _ _=>rfl).trans rfl
theorem Zx {p1:_} {p2:_} {p3:_}:xo m run runY (⟨ix,d,(DOp.pick p1 p2 p3),none⟩::r) e h=kV m run runY r d e h (aDA (aU e p1) (aU e p2) (aU e p3)):=oT rfl (by simp only[aC,mY,aDA];cases aU e p1<;>rfl) (fun _=>rfl) (fun _=>rfl) fun _ _=>rfl
theorem Zy {p1:_}:xo m run runY (⟨ix,d,(DOp.box p1),none⟩::r) e h=kE m run runY r d e h (gG (aU e p1)) (aC (DOp.box p1) e (dP h)):=yA rfl (fun _=>rfl) (fun _=>rfl) fun _ _=>rfl
theorem Zz {p1:_} {p2:_}:xo m run runY (⟨ix,d,(DOp.build p1 p2),none⟩::r) e h=kV m run runY r d e h (aLh (eF p1 (p2.map fun p=>(p.1,p.2.1,aU e p.2.2)))):=oT rfl (by simp only[aC,mY,aLh];split<;>simp_all) (fun _=>rfl) (fun _=>rfl) fun _ _=>rfl
theorem Z0 {p1:_} {p2:_} {p3:_} {p4:_}:xo m run runY (⟨ix,d,(DOp.bslice p1 p2 p3 p4),none⟩::r) e h=kE m run runY r d e h (eN p3&&p4.all fun p=>gG (aU e p.2.2)) (aC (DOp.bslice p1 p2 p3 p4) e (dP h)):=yA rfl (fun _=>rfl) (fun _=>rfl) fun _ _=>rfl
theorem Z1 {p1:_}:xo m run runY (⟨ix,d,(DOp.nilck p1),none⟩::r) e h=kV m run runY r d e h (aCw (aU e p1)):=oT rfl (by simp only[aC,mY,aCw];cases aU e p1<;>rfl) (fun _=>rfl) (fun _=>rfl) fun _ _=>rfl
theorem Z2 {p1:_} {p2:_} {p3:_}:xo m run runY (⟨ix,d,(DOp.bin p1 p2 p3),none⟩::r) e h=kV m run runY r d e h (yJ p1 (aU e p2) (aU e p3)):=oT rfl (by simp only[aC,mY];cases yJ p1 (aU e p2) (aU e p3)<;>rfl) (fun _=>rfl) (fun _=>rfl) fun _ _=>rfl
theorem Z3 {p1:_} {p2:_} {p3:_} {p4:_}:xo m run runY (⟨ix,d,(DOp.eqag p1 p2 p3 p4),none⟩::r) e h=kV m run runY r d e h (aDQ p1 p2 (aU e p3) (aU e p4)):=oT rfl (by simp only[aC,mY,aDQ];cases aU e p3<;>cases aU e p4<;>first|rfl|(simp only[];split<;>simp_all)) (fun _=>rfl) (fun _=>rfl) fun _ _=>rfl
theorem Z4 {p1:_}:xo m run runY (⟨ix,d,(DOp.not p1),none⟩::r) e h=kV m run runY r d e h (aKo (aU e p1)):=oT rfl (by simp only[aC,mY,aKo];cases aU e p1<;>rfl) (fun _=>rfl) (fun _=>rfl) fun _ _=>rfl
theorem Z5 {p1:_}:xo m run runY (⟨ix,d,(DOp.neg p1),none⟩::r) e h=kV m run runY r d e h (aKq (aU e p1)):=oT rfl (by simp only[aC,mY,aKq];cases aU e p1<;>rfl) (fun _=>rfl) (fun _=>rfl) fun _ _=>rfl
theorem Z6 {p1:_} {p2:_}:xo m run runY (⟨ix,d,(DOp.conv p1 p2),none⟩::r) e h=kV m run runY r d e h (aHr p1 (aU e p2)):=oT rfl (by simp only[aC,mY,aHr];cases aU e p2<;>rfl) (fun _=>rfl) (fun _=>rfl) fun _ _=>rfl
theorem Z7 {p1:_} {p2:_}:xo m run runY (⟨ix,d,(DOp.fld p1 p2),none⟩::r) e h=kV m run runY r d e h (aKM p1 (aU e p2)):=oT rfl (by simp only[aC,mY,aKM];cases aU e p2<;>rfl) (fun _=>rfl) (fun _=>rfl) fun _ _=>rfl
theorem Z8 {p1:_} {p2:_} {p3:_} {p4:_}:xo m run runY (⟨ix,d,(DOp.idxa p1 p2 p3 p4),none⟩::r) e h=kV m run runY r d e h (aDJ p1 p2 (aU e p3) (aU e p4)):=oT rfl (by simp only[aC,mY,aDJ];cases aU e p3<;>cases aU e p4<;>first|rfl|(simp only[];split<;>rfl)) (fun _=>rfl) (fun _=>rfl) fun _ _=>rfl
theorem Z9 {p1:_} {p2:_} {p3:_}:xo m run runY (⟨ix,d,(DOp.idx p1 p2 p3),none⟩::r) e h=kV m run runY r d e h (aGS p1 (aU e p2) (aU e p3)):=oT rfl (by simp only[aC,mY,aGS];cases aU e p2<;>cases aU e p3<;>first|rfl|(simp only[];split<;>rfl)) (fun _=>rfl) (fun _=>rfl) fun _ _=>rfl
theorem ZA {p1:_} {p2:_} {p3:_} {p4:_} {p5:_}:xo m run runY (⟨ix,d,(DOp.idxv p1 p2 p3 p4 p5),none⟩::r) e h=kV m run runY r d e h (aGR p1 p2 p3 (aU e p4) (aU e p5)):=oT rfl (by simp only[aC,mY,aGR];cases aU e p4<;>cases aU e p5<;>first|rfl|(simp only[];split<;>first|rfl|(split<;>simp_all))) (fun _=>rfl) (fun _=>rfl) fun _ _=>rfl
theorem ZB {p1:_} {p2:_} {p3:_} {p4:_} {p5:_}:xo m run runY (⟨ix,d,(DOp.mksl p1 p2 p3 p4 p5),none⟩::r) e h=kE m run runY r d e h (eN p3) (aC (DOp.mksl p1 p2 p3 p4 p5) e (dP h)):=yA rfl (fun _=>rfl) (fun _=>rfl) fun _ _=>rfl
theorem ZC {p1:_} {p2:_} {p3:_} {p4:_} {p5:_}:xo m run runY (⟨ix,d,(DOp.slarr p1 p2 p3 p4 p5),none⟩::r) e h=kE m run runY r d e h false (aC (DOp.slarr p1 p2 p3 p4 p5) e (dP h)):=yA rfl (fun _=>rfl) (fun _=>rfl) fun _ _=>rfl
theorem ZD {p1:_} {p2:_} {p3:_} {p4:_}:xo m run runY (⟨ix,d,(DOp.slsl p1 p2 p3 p4),none⟩::r) e h=kE m run runY r d e h false (aC (DOp.slsl p1 p2 p3 p4) e (dP h)):=yA rfl (fun _=>rfl) (fun _=>rfl) fun _ _=>rfl
theorem ZE {p1:_} {p2:_}:xo m run runY (⟨ix,d,(DOp.ext p1 p2),none⟩::r) e h=kV m run runY r d e h (aKQ (aU e p1) p2):=oT rfl (by simp only[aC,mY,aKQ];cases aU e p1<;>first|rfl|(simp only[];split<;>simp_all)) (fun _=>rfl) (fun _=>rfl) fun _ _=>rfl
theorem ZF {p1:_} {p2:_}:xo m run runY (⟨ix,d,(DOp.len p1 p2),none⟩::r) e h=kV m run runY r d e h (aGI p1 (aU e p2)):=oT rfl (by simp only[aC,mY,aGI];cases p1<;>cases aU e p2<;>rfl) (fun _=>rfl) (fun _=>rfl) fun _ _=>rfl
theorem ZG {p1:_} {p2:_} {p3:_}:xo m run runY (⟨ix,d,(DOp.mm p1 p2 p3),none⟩::r) e h=kV m run runY r d e h (mmM p1 (aU e p2) (aU e p3)):=oT rfl (by simp only[aC,mY,mmM];cases aU e p2<;>cases aU e p3<;>rfl) (fun _=>rfl) (fun _=>rfl) fun _ _=>rfl
theorem ZH {a:Bool} {n:Nat} {x:AO}:xo none run runY (⟨ix,d,.load a n x,none⟩::r) e h=kV none run runY r d e h (dU a n (dP h) (aU e x)):=by
 show eM run runY _ e h=_
 simp only[eM,gd,cY,aC]
 cases dU a n (dP h) (aU e x)<;>rfl
def aKt (ix:Nat) (v:AV) (L:List (Nat×Nat)):List (Nat×Nat):=match fF v with
 | some b=>(ix,b)::L
 | none=>L
theorem ZI {b o:Nat} {L:List (Nat×Nat)}:aKt ix (.pt b o) L=(ix,b)::L:=rfl
theorem ZJ {rows:List (List AV)} {i o:Nat} {L:List (Nat×Nat)}:aKt ix (.fp rows i o) L=L:=rfl
theorem ZK {a:Bool} {n:Nat} {x:AO} {L:List (Nat×Nat)}:xo (some L) run runY (⟨ix,d,.load a n x,none⟩::r) e h=kV (some (aKt ix (aU e x) L)) run runY r d e h (dU a n (dP h) (aU e x)):=by
 show eO run runY _ e h L=_
 simp only[eO,gd,cY,aC,tW,if_true]
 cases dU a n (dP h) (aU e x)<;>rfl

def kH (m:Option (List (Nat×Nat))) (run:fW) (runY:iI) (r:List DOper) (d:Option Nat) (e:aL) (v:AV):Option XH→Option (aL×XH)
 | some h=>xo m run runY r (bM e d v) h
 | none=>none
theorem ZL:kH m run runY r d e v (some h)=xo m run runY r (bM e d v) h:=rfl
theorem ZM {n:Nat} {p x:AO} {l:List Nat}:xo none run runY (⟨ix,d,.store n p x l,none⟩::r) e h=kH none run runY r d e .any (kO n h (aU e p) (aU e x)):=by
 show eM run runY _ e h=_
 simp only[eM,gd,cY]
 cases kO n h (aU e p) (aU e x)<;>rfl
def wT {α:Type} (b:Bool) (x:Option α):Option α:=if b then x else none
theorem ZN {α:Type} {x:Option α}:wT true x=x:=rfl
theorem ZO {n:Nat} {p x:AO} {l:List Nat} {L:List (Nat×Nat)}:xo (some L) run runY (⟨ix,d,.store n p x l,none⟩::r) e h=wT (L.all fun q => !l.contains q.1||fF (aU e p) != some q.2) (kH (some L) run runY r d e .any (kO n h (aU e p) (aU e x))):=by
 show eO run runY _ e h L=_
 simp only[eO,gd,cY,tW,wT]
 cases kO n h (aU e p) (aU e x)<;>rfl
def kR (m:Option (List (Nat×Nat))) (run:fW) (runY:iI) (r:List DOper) (d:Option Nat) (e:aL):Option (AV×XH)→Option (aL×XH)
 | some (v,h)=>xo m run runY r (bM e d v) h
 | none=>none
theorem ZP:kR m run runY r d e (some (v,h))=xo m run runY r (bM e d v) h:=rfl
theorem ZQ {f:AO} {xs:List AO} {l:List Nat}:xo none run runY (⟨ix,d,.callf false f xs l,none⟩::r) e h=kR none run runY r d e (eG run runY (aU e f) (xs.map (aU e)) h):=by
 show eM run runY _ e h=_
 simp only[eM,gd,cY]
 cases eG run runY (aU e f) (xs.map (aU e)) h<;>rfl
def kRL (L:List (Nat×Nat)) (l:List Nat) (run:fW) (runY:iI) (r:List DOper) (d:Option Nat) (e:aL) (h:XH) (ps:List Nat):Option (AV×XH)→Option (aL×XH)
 | some (v,h')=>wT (L.all fun q=>(hat h' q.2).isSome&&(!l.contains q.1||(!ps.contains q.2||aAX (hat h q.2) (hat h' q.2)))) (xo (some L) run runY r (bM e d v) h')
 | none=>none
theorem ZR {f:AO} {xs:List AO} {l:List Nat} {L:List (Nat×Nat)}:xo (some L) run runY (⟨ix,d,.callf false f xs l,none⟩::r) e h=kRL L l run runY r d e h (eS (aU e f) (xs.map (aU e)) h) (eG run runY (aU e f) (xs.map (aU e)) h):=by
 show eO run runY _ e h L=_
 simp only[eO,gd,cY,tW,if_true]
 cases eG run runY (aU e f) (xs.map (aU e)) h<;>rfl
theorem ZS {L:List (Nat×Nat)} {l:List Nat} {h':XH} {ps:List Nat}:kRL L l run runY r d e h ps (some (v,h'))=wT (L.all fun q=>(hat h' q.2).isSome&&(!l.contains q.1||(!ps.contains q.2||aAX (hat h q.2) (hat h' q.2)))) (xo (some L) run runY r (bM e d v) h'):=rfl
theorem ZT {s b:Nat} {x y:AO}:xo none run runY (⟨ix,d,.app s b x y,none⟩::r) e h=kE none run runY r d e h (kJ h (aU e x)&&kJ h (aU e y)) (mS s b (dP h) (aU e x) (aU e y)):=by
 rw[←aJF];rfl

def aGt (acc:List Nat) (b:Nat):Option Nat:=gB b acc
def aJN (acc:List Nat) (run:fW) (g:Nat) (all:List AV) (h:XH):Option (AV×XH):=(run g (lA (fun b=>gB b acc) all) (iO acc h)).map (sQ acc h)
theorem ZU {g:Nat} {first cap as:List AV}:eG run runY (.fn (.func g) first cap) as h=aJN (jU (first++as++cap) h) run g (first++as++cap) h:=rfl
def kM (acc:List Nat) (h:XH) (r:Option (AV×XH)):Option (AV×XH):=r.map (sQ acc h)
theorem ZV {acc:List Nat} {g:Nat} {all:List AV}:aJN acc run g all h=kM acc h (run g (lA (aGt acc) all) (iO acc h)):=rfl
end
theorem ZW {x y:AV}:aDA (.bool true) x y=some x:=rfl
theorem ZX {x y:AV}:aDA (.bool false) x y=some y:=rfl
theorem ZY {b:Bool}:aKo (.bool b)=some (.bool !b):=rfl
theorem ZZ {k:IntKind} {n:Int}:aKq (.int k n)=some (.int k (k.wrap (0-n))):=rfl
theorem Ya {k k':IntKind} {n:Int}:aHr k (.int k' n)=some (.int k (k.wrap n)):=rfl
theorem Yb {off b o:Nat}:aKM off (.pt b o)=some (.pt b (o+off)):=rfl
theorem Yc {rows:List (List AV)}:aGI false (.fs rows)=some (.int .i64 (rows.length:Int)):=rfl
theorem Ye {b o s n:Nat}:aGI false (.sl b o s n)=some (.int .i64 (n:Int)):=rfl
theorem Yf:aGI false .nilsl=some (.int .i64 0):=rfl
theorem Yg {b o s s' len:Nat} {k:IntKind} {n:Int}:aGS s (.sl b o s' len) (.int k n)=if s'=s∧0≤n∧n<(len:Int) then some (.pt b (o+n.toNat*s)) else none:=rfl
theorem Yh {s:Nat} {rows:List (List AV)} {k:IntKind} {n:Int}:aGS s (.fs rows) (.int k n)=if 0≤n∧n<(rows.length:Int) then aKA s rows n.toNat rows[n.toNat]? else none:=by
 simp only[aGS,aKA]
 by_cases h:0≤n∧n<(rows.length:Int)
 ·have h2:n.toNat<rows.length:=by omega
  rw[List.getElem?_eq_getElem h2,List.getD_eq_getElem?_getD,List.getElem?_eq_getElem h2,Option.getD_some]
  simp only[h,true_and]
  simp only[and_self,if_true]
 ·rw[if_neg h,if_neg (fun hc=>h ⟨hc.1,hc.2.1⟩)]
theorem Yi {s j:Nat} {rows:List (List AV)} {r:List AV}:aKA s rows j (some r)=if r.length=s then some (.fp rows j 0) else none:=rfl
theorem Yj {vs:List AV} {i:Nat}:aKQ (.tup vs) i=vs[i]?:=rfl
theorem Yk {k:IntKind} {a b:Int}:eU .add k a k b=some (.int k (k.wrap (a+b))):=by simp[eU]
theorem Yl {k:IntKind} {a b:Int}:eU .sub k a k b=some (.int k (k.wrap (a-b))):=by simp[eU]
theorem Ym {k:IntKind} {a b:Int}:eU .mul k a k b=some (.int k (k.wrap (a*b))):=by simp[eU]
theorem Yn {k:IntKind} {a b:Int}:eU .and k a k b=some (.int k (cD .and k a b)):=by simp[eU]
theorem Yo {k:IntKind} {a b:Int}:eU .or k a k b=some (.int k (cD .or k a b)):=by simp[eU]
theorem Yp {k k':IntKind} {a b:Int}:eU .shl k a k' b=if b<0 then none else some (.int k (k.wrap (a*2^min b.toNat k.bits))):=rfl
theorem Yq {k k':IntKind} {a b:Int}:eU .shr k a k' b=if b<0 then none else some (.int k (a.fdiv (2^min b.toNat k.bits))):=rfl
theorem Yr {k:IntKind} {a b:Int}:eU .eql k a k b=some (.bool (decide (a=b))):=by simp[eU];rfl
theorem Ys {k:IntKind} {a b:Int}:eU .neq k a k b=some (.bool !(decide (a=b))):=by simp[eU];rfl
theorem Yt {k:IntKind} {a b:Int}:eU .lss k a k b=some (.bool (decide (a<b))):=by simp[eU]
theorem Yu {k:IntKind} {a b:Int}:eU .leq k a k b=some (.bool (decide (a≤b))):=by simp[eU]
theorem Yv {k:IntKind} {a b:Int}:eU .gtr k a k b=some (.bool (decide (b<a))):=by simp[eU]
theorem Yw {k:IntKind} {a b:Int}:eU .geq k a k b=some (.bool (decide (b≤a))):=by simp[eU]
theorem Yx {n:Nat}:(0≤(n:Int))=True:=by simp
theorem Yy {n:Nat}:(n:Int).toNat=n:=by simp
theorem Yz:IntKind.i64.wrap 0=0:=rfl
theorem Y0:IntKind.i64.wrap 1=1:=rfl
theorem Y1:IntKind.i64.wrap 2=2:=rfl
theorem Y2:IntKind.i64.wrap 3=3:=rfl
theorem Y3:IntKind.i64.wrap 4=4:=rfl
theorem Y4:IntKind.i64.wrap 5=5:=rfl
theorem Y5:IntKind.i64.wrap 6=6:=rfl
theorem Y6:IntKind.i64.wrap 7=7:=rfl
theorem Y7:IntKind.i64.wrap 8=8:=rfl
theorem Y8:IntKind.i64.wrap 9=9:=rfl
theorem Y9:(0:Int).toNat=0:=rfl
theorem YA:((0:Nat):Int)=0:=rfl
theorem YB:(1:Int).toNat=1:=rfl
theorem YC:((1:Nat):Int)=1:=rfl
theorem YD:(2:Int).toNat=2:=rfl
theorem YE:((2:Nat):Int)=2:=rfl
theorem YF:(3:Int).toNat=3:=rfl
theorem YG:((3:Nat):Int)=3:=rfl
theorem YH:((4:Nat):Int)=4:=rfl
theorem YJ:((5:Nat):Int)=5:=rfl
theorem YK:((6:Nat):Int)=6:=rfl
theorem YL:(7:Int).toNat=7:=rfl
theorem YM:((7:Nat):Int)=7:=rfl
theorem YN:((8:Nat):Int)=8:=rfl
theorem YO:((9:Nat):Int)=9:=rfl
theorem YP {len s b o:Nat} {k:IntKind} {n:Int}:aDJ len s (.pt b o) (.int k n)=if 0≤n∧n<(len:Int) then some (.pt b (o+n.toNat*s)) else none:=rfl
theorem YQ {len s j o:Nat} {r:List (List AV)} {k:IntKind} {n:Int}:aDJ len s (.fp r j o) (.int k n)=if 0≤n∧n<(len:Int) then some (.fp r j (o+n.toNat*s)) else none:=rfl
theorem YR {neg:Bool} {ks:List Nat} {cs ds:List AV}:aDQ neg ks (.agg cs) (.agg ds)=aKS neg (cS ks cs ds):=by cases h:cS ks cs ds<;>simp[aDQ,aKS,h]
theorem YT {b:Bool}:aKS false (some b)=some (.bool b):=rfl
theorem YU {cs:List AV}:aLh (some cs)=some (.agg cs):=rfl
theorem YV {agg:Bool} {len s:Nat} {cs:List AV} {k:IntKind} {n:Int}:aGR agg len s (.agg cs) (.int k n)=if 0≤n∧n<(len:Int) then fH agg s cs (n.toNat*s) else none:=rfl
theorem YX {b o:Nat}:aCw (.pt b o)=some (.pt b o):=rfl
theorem YY {k:IntKind} {n:Int}:yG (.int k n)=([]:List Nat):=rfl
theorem YZ {t:Bool}:yG (.bool t)=([]:List Nat):=rfl
theorem Xa {cs:List AV}:yG (.agg cs)=(mP cs:List Nat):=rfl
theorem Xb {cs:List AV}:yG (.tup cs)=(mP cs:List Nat):=rfl
theorem Xc {rows:List (List AV)}:yG (.fs rows)=([]:List Nat):=rfl
theorem Xd {b o s n:Nat}:yG (.sl b o s n)=([b]:List Nat):=rfl
theorem Xe {b o:Nat}:yG (.pt b o)=([b]:List Nat):=rfl
theorem Xf  : yG .nilsl=([]:List Nat):=rfl
theorem Xg  : yG .nilpt=([]:List Nat):=rfl
theorem Xh {g:Nat} {fs us:List AV}:yG (.fn (.func g) fs us)=(mP fs++mP us:List Nat):=rfl
theorem Xi {l:Nat} {fs us:List AV}:yG (.fn (.yield l) fs us)=([l]++(mP fs++mP us):List Nat):=rfl
theorem Xj {k:IntKind} {n:Int}:gG (.int k n)=(true:Bool):=rfl
theorem Xk {t:Bool}:gG (.bool t)=(true:Bool):=rfl
theorem Xl {cs:List AV}:gG (.agg cs)=(eN cs:Bool):=rfl
theorem Xm {rows:List (List AV)}:gG (.fs rows)=(true:Bool):=rfl
theorem Xn {b o s n:Nat}:gG (.sl b o s n)=(false:Bool):=rfl
theorem Xo {b o:Nat}:gG (.pt b o)=(false:Bool):=rfl
theorem Xp  : gG .nilsl=(true:Bool):=rfl
theorem Xq {g:Nat} {fs us:List AV}:gG (.fn (.func g) fs us)=((eN fs&&eN us):Bool):=rfl
theorem Xr  : gG .nilfn=(true:Bool):=rfl
theorem Xs {s:Nat→Option Nat} {k:IntKind} {n:Int}:rnA s (.int k n)=((.int k n):AV):=rfl
theorem Xt {s:Nat→Option Nat} {t:Bool}:rnA s (.bool t)=((.bool t):AV):=rfl
theorem Xu {s:Nat→Option Nat} {cs:List AV}:rnA s (.agg cs)=(.agg (lA s cs):AV):=rfl
theorem Xv {s:Nat→Option Nat} {cs:List AV}:rnA s (.tup cs)=(.tup (lA s cs):AV):=rfl
theorem Xw {s:Nat→Option Nat} {rows:List (List AV)}:rnA s (.fs rows)=((.fs rows):AV):=rfl
theorem Xx {s:Nat→Option Nat} {b o s2 n:Nat}:rnA s (.sl b o s2 n)=((match s b with|some c=>.sl c o s2 n|none=>.any):AV):=by simp only[rnA]<;>rfl
theorem Xy {s:Nat→Option Nat} {b o:Nat}:rnA s (.pt b o)=((match s b with|some c=>.pt c o|none=>.any):AV):=by simp only[rnA]<;>rfl
theorem Xz {s:Nat→Option Nat}  : rnA s .nilsl=(.nilsl:AV):=rfl
theorem X0 {s:Nat→Option Nat}  : rnA s .nilpt=(.nilpt:AV):=rfl
theorem XI {s:Nat→Option Nat} {g:Nat} {fs us:List AV}:rnA s (.fn (.func g) fs us)=(.fn (.func g) (lA s fs) (lA s us):AV):=rfl
theorem XJ {s:Nat→Option Nat} {l:Nat} {fs us:List AV}:rnA s (.fn (.yield l) fs us)=((match s l with|some c=>.fn (.yield c) (lA s fs) (lA s us)|none=>.any):AV):=by simp only[rnA]<;>rfl
theorem XK {k:IntKind} {n:Int}:slN (.int k n)=([]:List Nat):=rfl
theorem XL {t:Bool}:slN (.bool t)=([]:List Nat):=rfl
theorem XM {cs:List AV}:slN (.tup cs)=(vS cs:List Nat):=rfl
theorem XN {rows:List (List AV)}:slN (.fs rows)=([]:List Nat):=rfl
theorem XO {b o s n:Nat}:slN (.sl b o s n)=([b]:List Nat):=rfl
theorem XP {b o:Nat}:slN (.pt b o)=([]:List Nat):=rfl
theorem XQ  : slN .nilsl=([]:List Nat):=rfl
theorem XU  : slN .nilpt=([]:List Nat):=rfl
theorem XV {g:Nat} {fs us:List AV}:slN (.fn (.func g) fs us)=([]:List Nat):=rfl
theorem XW  : slN .any=([]:List Nat):=rfl
theorem XX {B:Nat} {C:List AV} {k:IntKind} {n:Int}:zM B C (.int k n)=((.int k n):AV):=rfl
theorem XY {B:Nat} {C:List AV} {cs:List AV}:zM B C (.tup cs)=(.tup (uY B C cs):AV):=rfl
theorem XZ {B:Nat} {C:List AV} {rows:List (List AV)}:zM B C (.fs rows)=((.fs rows):AV):=rfl
theorem Wa {B:Nat} {C:List AV} {b o s n:Nat}:zM B C (.sl b o s n)=((if b=B∧o+n*s≤C.length then .fs (bG C o s n) else .sl b o s n):AV):=rfl
theorem Wb {B:Nat} {C:List AV} {b o:Nat}:zM B C (.pt b o)=((.pt b o):AV):=rfl
theorem Wc {B:Nat} {C:List AV}  : zM B C .nilsl=(.nilsl:AV):=rfl
theorem Wd {k:IntKind} {n:Int}:kU (.int k n)=((.int k n):AV):=rfl
theorem We {t:Bool}:kU (.bool t)=((.bool t):AV):=rfl
theorem Wf {cs:List AV}:kU (.agg cs)=(.agg (dI cs):AV):=rfl
theorem Wg {cs:List AV}:kU (.tup cs)=(.tup (dI cs):AV):=rfl
theorem Wh {rows:List (List AV)}:kU (.fs rows)=((.fs rows):AV):=rfl
theorem Wi {b o s n:Nat}:kU (.sl b o s n)=((.sl b o s n):AV):=rfl
theorem Wj {b o:Nat}:kU (.pt b o)=((.pt b o):AV):=rfl
theorem Wl  : kU .nilsl=(.fs []:AV):=rfl
theorem Wm  : kU .nilpt=(.nilpt:AV):=rfl
theorem Wn {g:Nat} {fs us:List AV}:kU (.fn (.func g) fs us)=((.fn (.func g) fs us):AV):=rfl
theorem Wo {l:Nat} {fs us:List AV}:kU (.fn (.yield l) fs us)=((.fn (.yield l) fs us):AV):=rfl
theorem Wp {k:IntKind} {n:Int}:cellsOf (.int k n)=(some [(.int k n)]:Option (List AV)):=rfl
theorem Wq {t:Bool}:cellsOf (.bool t)=(some [(.bool t)]:Option (List AV)):=rfl
theorem Wr {cs:List AV}:cellsOf (.agg cs)=(some cs:Option (List AV)):=rfl
theorem Ws {rows:List (List AV)}:cellsOf (.fs rows)=(some [(.fs rows)]:Option (List AV)):=rfl
theorem Wt {b o s n:Nat}:cellsOf (.sl b o s n)=(some [(.sl b o s n)]:Option (List AV)):=rfl
theorem Wu {b o:Nat}:cellsOf (.pt b o)=(some [(.pt b o)]:Option (List AV)):=rfl
theorem Wv  : cellsOf .nilsl=(some [.nilsl]:Option (List AV)):=rfl
theorem Ww {g:Nat} {fs us:List AV}:cellsOf (.fn (.func g) fs us)=(some [(.fn (.func g) fs us)]:Option (List AV)):=rfl
theorem Wx {b o:Nat}:fF (.pt b o)=(some b:Option Nat):=rfl
def aDH (k:Nat) (acc:List Nat) (h:XH) (r:List Nat):XH:=r.map fun b=>rnO (iB k acc) (hat h b)
def aIN (acc:List Nat) (h:XH) (r:List Nat):XH:=r.map fun b=>rnO (fun b=>gB b acc) (hat h b)
def fzQ (fz:List (Nat×Bool)) (e:aL) (h:XH):List Nat:=fz.flatMap (aGV e h)
def aKJ (h:XH):Option XB→List Nat
 | some (.blk false (.cells _ cs))=>iD h 2 (vS cs)
 | _=>[]
def fzD (h:XH) (v:AV):List Nat:=match v with
 | .pt b _=>match hat h b with
  | some (.blk false (.cells _ cs))=>iD h 2 (vS cs)
  | _=>[]
 | _=>[]
def kF (own:Bool) (k:Nat) (h:XH) (r:Option AV):Option (AV×XH):=r.map fun v=>iH own k v h
def aHe (k:Nat) (h:XH) (v:AV) (acc:List Nat):AV×XH:=(rnA (iB k acc) v,mQ k acc h)
def aMw (k:Nat) (p:aL×XH):AV×XH:=aHe k p.2 (kU (p.1 0)) (dO k [kU (p.1 0)] p.2)
def aGl:Option (List AV)→Option AV
 | some [v]=>some v
 | some vs=>some (.tup vs)
 | none=>none
def aGm:Option AV→Option (List AV)→Option (List AV)
 | some v,some vs=>some (v::vs)
 | _,_=>none
def aDW (v:AV) (a b:aL→XH→Option (DX×aL×XH)) (e:aL) (h:XH):Option (DX×aL×XH):=match v with
 | .bool true=>a e h
 | .bool false=>b e h
 | _=>none
def ldM (agg:Bool) (n o:Nat):Option ABlk→Option AV
 | some (.cells _ cs)=>fH agg n cs o
 | _=>none
def ldR (agg:Bool) (n o:Nat):Option (List AV)→Option AV
 | some r=>fH agg n r o
 | none=>none
def stM (n b o:Nat) (h:XH):Option XB→Option (List AV)→Option XH
 | some (.blk g (.cells true cs)),some vs=>if vs.length=n∧o+n≤cs.length then some (h.set b (some (.blk (g&&eN vs) (.cells true (bQ cs o vs))))) else none
 | _,_=>none
def flM:Option XB→Bool
 | some (.blk g _)=>g
 | _=>false

theorem Wy {x:Option XB} {h:XH} {b:Nat}:hat (x::h) b=if b=0 then x else hat h (b-1):=by cases b<;>simp[hat]
def hpM:Option XB→Option ABlk
 | some (.blk _ x)=>some x
 | _=>none
theorem Wz {h:XH} {b:Nat}:dP h b=hpM (hat h b):=rfl
theorem W0 {g:Bool} {x:ABlk}:hpM (some (.blk g x))=some x:=rfl
theorem W3 {α:Type} {x y:α} {h:List α} {b:Nat}:(x::h).set b y=if b=0 then y::h else x::h.set (b-1) y:=by cases b<;>simp
theorem W4 {α:Type} {x:α} {l:List α} {n:Nat}:(x::l).take n=if n=0 then [] else x::l.take (n-1):=by cases n<;>simp
theorem W5 {α:Type} {n:Nat}:([]:List α).take n=[]:=by simp
theorem W6 {α:Type} {x:α} {l:List α} {n:Nat}:(x::l).drop n=if n=0 then x::l else l.drop (n-1):=by cases n<;>simp
theorem W7 {α:Type} {n:Nat}:([]:List α).drop n=[]:=by simp
theorem W8 {α:Type} {x d:α} {l:List α} {n:Nat}:(x::l).getD n d=if n=0 then x else l.getD (n-1) d:=by cases n<;>simp
theorem W9 {α:Type} {x:α} {l:List α} {n:Nat}:(x::l)[n]?=if n=0 then some x else l[n-1]?:=by cases n<;>simp
theorem WA {α:Type} {a:α}:(a∈([]:List α))=False:=by simp
theorem WB {α:Type} {a b:α} {l:List α}:(a∈b::l)=(a=b∨a∈l):=by simp
theorem WC {acc:List Nat} {b:Nat}:aGt acc b=gB b acc:=rfl
theorem WE {b c:Nat} {r:List Nat}:gB b (c::r)=if b=c then some 0 else (gB b r).map (· + 1):=rfl
theorem WF {k:Nat} {acc:List Nat} {b:Nat}:iB k acc b=if b<k then some b else (gB b acc).map (· + k):=rfl
theorem WG {acc:List Nat} {n i:Nat}:iY acc n i=if i<acc.length then acc[i]? else some (n+(i-acc.length)):=rfl
theorem WH {h:XH} {k n:Nat} {acc:List Nat}:eR h k n [] acc=acc:=by cases n<;>rfl
def aGo (h:XH) (k n:Nat) (r:List Nat) (acc:List Nat) (b:Nat):Option XB→List Nat
 | none=>eR h k n r acc
 | some x=>eR h k n (nmB x++r) (acc++[b])
theorem WI {h:XH} {k n:Nat} {r acc:List Nat} {b:Nat} {x:XB}:aGo h k n r acc b (some x)=eR h k n (nmB x++r) (acc++[b]):=rfl
theorem WJ {h:XH} {k n:Nat} {b:Nat} {r acc:List Nat}:eR h k n (b::r) acc=if n=0 then acc else if b<k∨b∈acc then eR h k (n-1) r acc else aGo h k (n-1) r acc b (hat h b):=by
 cases n with
 | zero=>rfl
 | succ n=>simp only[eR,Nat.add_one_ne_zero,if_false,Nat.add_sub_cancel];cases hat h b<;>rfl
theorem WK {xs:List AV} {h:XH}:jU xs h=eR h 0 4096 (mP xs) []:=rfl
theorem WL {k:Nat} {vs:List AV} {h:XH}:dO k vs h=eR h k 4096 (mP vs++(dB k h).flatMap nmO) []:=rfl
theorem WM {n:Nat}:dB n []=List.replicate n none:=by induction n with
 | zero=>rfl
 | succ n ih=>simp[dB,ih,List.replicate_succ]
theorem WN {x:Option XB} {h:XH} {n:Nat}:dB n (x::h)=if n=0 then [] else x::dB (n-1) h:=by cases n<;>rfl
theorem WO {k:Nat} {acc:List Nat} {h:XH}:mQ k acc h=(dB k h).map (rnO (iB k acc))++aDH k acc h acc:=rfl
theorem WP {k:Nat} {acc:List Nat} {h:XH}:aDH k acc h []=[]:=rfl
theorem WQ {k:Nat} {acc:List Nat} {h:XH} {b:Nat} {r:List Nat}:aDH k acc h (b::r)=rnO (iB k acc) (hat h b)::aDH k acc h r:=rfl
theorem WR {acc:List Nat} {h:XH}:iO acc h=aIN acc h acc:=rfl
theorem WS {acc:List Nat} {h:XH}:aIN acc h []=[]:=rfl
theorem WT {acc:List Nat} {h:XH} {b:Nat} {r:List Nat}:aIN acc h (b::r)=rnO (aGt acc) (hat h b)::aIN acc h r:=rfl
theorem WU {s:Nat→Option Nat}:rnO s none=none:=rfl
theorem WV {s:Nat→Option Nat} {x:XB}:rnO s (some x)=some (rnB s x):=rfl
theorem WW {s:Nat→Option Nat} {x:ABlk}:rnB s (.blk true x) = .blk true x:=by cases x<;>rfl
theorem WX {s:Nat→Option Nat} {w:Bool} {cs:List AV}:rnB s (.blk false (.cells w cs)) = .blk false (.cells w (lA s cs)):=rfl
theorem WY {s:Nat→Option Nat} {K site:Nat} {vs:List AV} {st:zX}:rnB s (.loop K site vs st) = .loop K site (lA s vs) st:=rfl
theorem WZ:nmO none=[]:=rfl
theorem Vb {x:XB}:nmO (some x)=nmB x:=rfl
theorem Vc {x:ABlk}:nmB (.blk true x)=[]:=by cases x<;>rfl
theorem Vd {w:Bool} {cs:List AV}:nmB (.blk false (.cells w cs))=mP cs:=rfl
theorem Ve {K site:Nat} {vs:List AV} {st:zX}:nmB (.loop K site vs st)=mP vs:=rfl
theorem Vf {acc:List Nat} {h hl:XH} {v:AV}:kM acc h (some (v,hl))=some (rnA (iY acc h.length) v,hU acc h hl):=rfl
theorem Vg {acc:List Nat} {h hl:XH}:hU acc h hl=oX h acc ((dB acc.length hl).map (rnO (iY acc h.length)))++(hl.drop acc.length).map (rnO (iY acc h.length)):=rfl
theorem Vh {h:XH} {xs:XH}:oX h [] xs=h:=by cases xs<;>rfl
theorem Vi {h:XH} {b:Nat} {bs:List Nat} {x:Option XB} {xs:XH}:oX h (b::bs) (x::xs)=oX (h.set b x) bs xs:=rfl
theorem Vj {a:Nat}:List.elem a []=false:=rfl
theorem Vk {a b:Nat} {l:List Nat}:List.elem a (b::l)=if a=b then true else List.elem a l:=by
 by_cases h:a=b
 ·simp only[List.elem,h,if_true,beq_self_eq_true]
 ·simp only[List.elem,show (a==b)=false by simpa using h,if_neg h]
theorem Vl {g:Nat} {first cap as:List AV} {h:XH}:eS (.fn (.func g) first cap) as h=jU (first++as++cap) h:=rfl
theorem Vm {α:Type} {x:α}:(some x).isSome=true:=rfl
theorem Vo {b:Bool}:(b==true)=b:=by cases b<;>rfl
def fzE (b:Nat) (cs:List AV) (e:aL):aL:=fun j=>zM b cs (e j)
theorem Vp {b:Nat} {cs:List AV} {e:aL} {j:Nat}:fzE b cs e j=zM b cs (e j):=rfl
def aIX (b:Nat) (e:aL) (h:XH):Option XB→aL×XH
 | some (.blk true (.cells _ cs))=>(fzE b cs e,(h.map (fzO b cs)).set b none)
 | _=>(e,h)
theorem Vq {b:Nat} {e:aL} {h:XH} {w:Bool} {cs:List AV}:aIX b e h (some (.blk true (.cells w cs)))=(fzE b cs e,(h.map (fzO b cs)).set b none):=rfl
theorem aKK {b:Nat} {e:aL} {h:XH}:fz1 b e h=aIX b e h (hat h b):=by
 unfold fz1 aIX
 cases hat h b with
 | none=>rfl
 | some x=>cases x with
   | loop=>rfl
   | blk g x=>cases g<;>cases x<;>rfl
def fzP (r:List Nat) (p:aL×XH):aL×XH:=sZ r p.1 p.2
theorem Vr {r:List Nat} {e:aL} {h:XH}:fzP r (e,h)=sZ r e h:=rfl
theorem Vs {e:aL} {h:XH}:sZ [] e h=(e,h):=rfl
theorem Vt {b:Nat} {r:List Nat} {e:aL} {h:XH}:sZ (b::r) e h=fzP r (aIX b e h (hat h b)):=by rw[←aKK];rfl
def nzP (fz:List (Nat×Bool)) (p:aL×XH):aL×XH:=(xY fz p.1,p.2)
theorem SQ {fz:List (Nat×Bool)} {e:aL} {h:XH}:nzP fz (e,h)=(xY fz e,h):=rfl
theorem SS {e:aL}:xY [] e=e:=rfl
theorem SU {k:Nat} {r:List (Nat×Bool)} {e:aL}:xY ((k,true)::r) e=xY r e:=rfl
theorem SV {k j:Nat} {r:List (Nat×Bool)} {e:aL}:xY ((k,false)::r) e j=if j=k then kU (xY r e j) else xY r e j:=rfl
def fzY (fz:List (Nat×Bool)) (e:aL) (h:XH):aL×XH:=nzP fz (sZ (fzQ fz e h) e h)
theorem Vu {fz:List (Nat×Bool)} {e:aL} {h:XH}:fzX fz e h=fzY fz e (oZ fz e h):=rfl
theorem SW {fz:List (Nat×Bool)} {e:aL} {h:XH}:fzY fz e h=nzP fz (sZ (fzQ fz e h) e h):=rfl
theorem SX {e:aL} {h:XH}:oZ [] e h=h:=rfl
theorem SY {k:Nat} {b:Bool} {r:List (Nat×Bool)} {e:aL} {h:XH}:oZ ((k,b)::r) e h=if 1000000≤k then vN (e (k-1000000)) (oZ r e h) else oZ r e h:=rfl
def tm1 (b s n:Nat) (h:XH):Option XB→XH
 | some (.blk g (.cells w cs))=>h.set b (some (.blk g (.cells w (cs.take (n*s)))))
 | _=>h
theorem SZ {b s n:Nat} {h:XH}:vN (.sl b 0 s n) h=tm1 b s n h (hat h b):=by simp only[vN,tm1]<;>rfl
theorem Ra {b s n:Nat} {h:XH} {g w:Bool} {cs:List AV}:tm1 b s n h (some (.blk g (.cells w cs)))=h.set b (some (.blk g (.cells w (cs.take (n*s))))):=rfl
theorem Rb {h:XH}:vN .nilsl h=h:=rfl
theorem Vv {e:aL} {h:XH}:fzQ [] e h=[]:=rfl
theorem Vw {j:Nat} {r:List (Nat×Bool)} {e:aL} {h:XH}:fzQ ((j,false)::r) e h=iD h 2 (slN (e j))++fzQ r e h:=rfl
theorem Vx {j:Nat} {r:List (Nat×Bool)} {e:aL} {h:XH}:fzQ ((j,true)::r) e h=fzD h (e j)++fzQ r e h:=by
 simp only[fzQ,List.flatMap_cons,aGV,fzD]<;>rfl
theorem Vy {b o:Nat} {h:XH}:fzD h (.pt b o)=aKJ h (hat h b):=rfl
theorem Vz {h:XH} {w:Bool} {cs:List AV}:aKJ h (some (.blk false (.cells w cs)))=iD h 2 (vS cs):=rfl
theorem V0 {h:XH} {x:ABlk}:aKJ h (some (.blk true x))=[]:=by cases x<;>rfl
def dpM (h:XH) (n b:Nat) (x:Option XB):List Nat:=aJM (iD h n) b x
theorem S8 {h:XH} {n:Nat}:iD h n []=[]:=by cases n<;>rfl
theorem S9 {h:XH} {b:Nat} {r:List Nat}:iD h 1 (b::r)=dpM h 0 b (hat h b)++iD h 1 r:=by simp only[iD,List.flatMap_cons,dpM]
theorem SA {h:XH} {b:Nat} {r:List Nat}:iD h 2 (b::r)=dpM h 1 b (hat h b)++iD h 2 r:=by simp only[iD,List.flatMap_cons,dpM]
theorem SB {h:XH} {n b:Nat} {w:Bool} {cs:List AV}:dpM h n b (some (.blk false (.cells w cs)))=iD h n (vS cs)++[b]:=rfl
theorem SC {h:XH} {n b:Nat} {x:ABlk}:dpM h n b (some (.blk true x))=[b]:=by cases x<;>rfl
theorem V1 {b:Nat} {cs:List AV}:fzO b cs none=none:=rfl
theorem V2 {b:Nat} {cs:List AV} {x:XB}:fzO b cs (some x)=some (fzB b cs x):=rfl
theorem V3 {b:Nat} {cs vs:List AV} {w:Bool}:fzB b cs (.blk false (.cells w vs)) = .blk (eN (uY b cs vs)) (.cells w (uY b cs vs)):=rfl
theorem V4 {b:Nat} {cs:List AV} {x:ABlk}:fzB b cs (.blk true x) = .blk true x:=by cases x<;>rfl
theorem TX {cs:List AV} {o s:Nat}:bG cs o s 0=[]:=rfl
theorem TY {cs:List AV} {o s:Nat}:bG cs o s 1=(cs.drop o).take s::bG cs (o+s) s 0:=rfl
theorem TZ {cs:List AV} {o s:Nat}:bG cs o s 2=(cs.drop o).take s::bG cs (o+s) s 1:=rfl
theorem Sa {cs:List AV} {o s:Nat}:bG cs o s 3=(cs.drop o).take s::bG cs (o+s) s 2:=rfl
theorem Sb {cs:List AV} {o s:Nat}:bG cs o s 4=(cs.drop o).take s::bG cs (o+s) s 3:=rfl
theorem Sc {cs:List AV} {o s:Nat}:bG cs o s 5=(cs.drop o).take s::bG cs (o+s) s 4:=rfl
theorem Sd {cs:List AV} {o s:Nat}:bG cs o s 6=(cs.drop o).take s::bG cs (o+s) s 5:=rfl
theorem Se {cs:List AV} {o s:Nat}:bG cs o s 7=(cs.drop o).take s::bG cs (o+s) s 6:=rfl
theorem Sf {cs:List AV} {o s:Nat}:bG cs o s 8=(cs.drop o).take s::bG cs (o+s) s 7:=rfl
theorem V5 {res:List (Nat×Option (Bool×Nat))} {own:Bool} {k:Nat} {e:aL} {h:XH}:bL none res own k (some (.normal,e,h))=kF own k h (kT res e (dP h)):=rfl
theorem V6 {res:List (Nat×Option (Bool×Nat))} {own:Bool} {k:Nat} {e:aL} {h:XH}:bL none res own k (some (.ret,e,h))=kF own k h (kT res e (dP h)):=rfl
theorem V7 {own:Bool} {k:Nat} {h:XH} {v:AV}:kF own k h (some v)=some (iH own k v h):=rfl
theorem V8 {k:Nat} {h:XH} {v:AV}:iH true k v h=aHe k h v (dO k [v] h):=by simp[iH,aHe,upd]
theorem V9 {k:Nat} {h:XH} {v:AV}:iH false k v h=aMw k (sZ (iD h 2 (slN v)) (upd anyE 0 v) h):=rfl
theorem VA {k:Nat} {h:XH} {e:aL}:aMw k (e,h)=aHe k h (kU (e 0)) (dO k [kU (e 0)] h):=rfl
theorem VB {k:Nat} {h:XH} {v:AV} {acc:List Nat}:aHe k h v acc=(rnA (iB k acc) v,mQ k acc h):=rfl
theorem VC {rs:List (Nat×Option (Bool×Nat))} {e:aL} {h:Hp}:kT rs e h=aGl (nF e h rs):=by unfold kT aGl;cases nF e h rs<;>rfl
theorem VD {v:AV}:aGl (some [v])=some v:=rfl
theorem VE:aGl (some [])=some (.tup []):=rfl
theorem VF {v u:AV} {r:List AV}:aGl (some (v::u::r))=some (.tup (v::u::r)):=rfl
theorem VG {e:aL} {h:Hp}:nF e h []=some []:=rfl
theorem VH {e:aL} {h:Hp} {x:Nat×Option (Bool×Nat)} {r:List (Nat×Option (Bool×Nat))}:nF e h (x::r)=aGm (nG e h x) (nF e h r):=by simp only[nF,aGm]<;>rfl
theorem VI {v:AV} {vs:List AV}:aGm (some v) (some vs)=some (v::vs):=rfl
theorem VJ {e:aL} {h:Hp} {t:Nat}:nG e h (t,none)=some (e t):=rfl
theorem VK {e:aL} {h:Hp} {a n:Nat} {g:Bool}:nG e h (a,some (g,n))=dU g n h (e a):=rfl
theorem VL {as:List AV} {k:Nat}:aN as k=as.getD k .any:=rfl
theorem VM {vs:List AV} {j:Nat}:aY [] vs j = .any:=rfl
theorem VN {k:Nat} {ks:List Nat} {v:AV} {vs:List AV} {j:Nat}:aY (k::ks) (v::vs) j=if j=k then v else aY ks vs j:=rfl
theorem VO {k:Nat} {L:List Nat} {e:aL} {h:XH}:tH k L e h=lA (iB k (dO k (L.map e) h)) (L.map e):=rfl
theorem VP {k:Nat} {L:List Nat} {e:aL} {h:XH}:mM k L e h=mQ k (dO k (L.map e) h) h:=rfl
theorem VQ {D:Nat→Option XFn} {K k:Nat} {rd:Option Nat} {e:aL} {h:XH} {c:AO} {a b:XCode}:execW D K k rd (.cond c a b) e h=aDW (aU e c) (execW D K k rd a) (execW D K k rd b) e h:=by
 rw[aCH];unfold aDW
 cases aU e c with
 | bool t=>cases t<;>rfl
 | _=>rfl
theorem VR {a b:aL→XH→Option (DX×aL×XH)} {e:aL} {h:XH}:aDW (.bool true) a b e h=a e h:=rfl
theorem VS {a b:aL→XH→Option (DX×aL×XH)} {e:aL} {h:XH}:aDW (.bool false) a b e h=b e h:=rfl
theorem VT {id:Nat} {e:aL} {h:XH}:hZ (some (.exit id,e,h))=true:=rfl
theorem VU {e:aL} {h:XH}:hZ (some (.ret,e,h))=true:=rfl
def aLb:Option (List AV)→Option Eff
    | some cs=>some (.new none (.cells true cs) fun b=>.pt b 0)
    | none=>none
def aKZ (s n:Nat):Option (List AV)→Option Eff
    | some cs=>some (.new none (.cells true cs) fun b=>.sl b 0 s n)
    | none=>none
def aKr (s bytes:Nat) (z:List AV) (l c:AV):Option Eff:=match l,c with
    | .int .i64 l,.int .i64 c=>if 0≤l∧l≤c∧(bytes:Int)*c≤281474976710656∧c≤9223372036854775807 then
     some (.new none (.cells true (List.replicate c.toNat z).flatten) fun b=>.sl b 0 s l.toNat) else none
    | _,_=>none
theorem VV:(false=true)=False:=by simp
theorem VW {α β:Type} {f:α→β} {a:α} {l:List α}:(a::l).map f=f a::l.map f:=rfl
theorem VX {α β:Type} {f:α→β}:([]:List α).map f=[]:=rfl
theorem VY {α:Type} {a:α} {l s:List α}:(a::l)++s=a::(l++s):=rfl
theorem VZ {α:Type} {s:List α}:[]++s=s:=rfl
theorem Ua {α:Type} {s:List α}:s++[]=s:=by simp
theorem Ub {α β:Type} {f:α→List β} {a:α} {l:List α}:(a::l).flatMap f=f a++l.flatMap f:=by simp
theorem Uc {α β:Type} {f:α→List β}:([]:List α).flatMap f=[]:=rfl
theorem Ud {α:Type} {a:α} {l:List α}:(a::l).length=l.length+1:=rfl
theorem Ue {α:Type}:([]:List α).length=0:=rfl
theorem Uf {α β:Type} {f:α→β} {l:List α}:(l.map f).length=l.length:=by simp
theorem Ug {α β:Type} {f:α→β} {l:List α} {i:Nat}:(l.map f)[i]?=l[i]?.map f:=by simp
theorem Uh {α β:Type} {f:α→β} {a:α}:(some a).map f=some (f a):=rfl
theorem Ui {b:Bool}:(true&&b)=b:=by simp
theorem Uj {b:Bool}:(b&&true)=b:=by simp
theorem Uk {b:Bool}:(false&&b)=false:=by simp
theorem Ul {b:Bool}:(b&&false)=false:=by simp
theorem Um:(!true)=false:=rfl
theorem Un:(!false)=true:=rfl
theorem Uo {b:Bool}:(true||b)=true:=by simp
theorem Uq {b:Bool}:(b||true)=true:=by simp
theorem Ur {b:Bool}:(b||false)=b:=by simp
theorem Us {p:Prop}:(p∧True)=p:=by simp
theorem Ut {p:Prop}:(False∧p)=False:=by simp
theorem Uu {p:Prop}:(p∧False)=False:=by simp
theorem Uv {p:Prop}:(p∨True)=True:=by simp
theorem Uw {p:Prop}:(p∨False)=p:=by simp
theorem Ux {i:Decidable True}:decide True=true:=by simp
theorem Uy {i:Decidable False}:decide False=false:=by simp
theorem Uz {α:Type} {f:α→Bool}:[].all f=true:=rfl
theorem U0 {α:Type} {f:α→Bool} {a:α} {l:List α}:(a::l).all f=(f a&&l.all f):=rfl
theorem U1 {α:Type} {a:α}:List.replicate 0 a=[]:=rfl
theorem TT {α:Type} {a:α}:List.replicate 1 a=[a]:=rfl
theorem TU {α:Type} {a:α}:List.replicate 2 a=[a,a]:=rfl
theorem TV {α:Type} {a:α}:List.replicate 3 a=[a,a,a]:=rfl
theorem TW {α:Type} {a:α}:List.replicate 8 a=[a,a,a,a,a,a,a,a]:=rfl
theorem U2:mP []=[]:=by simp only[mP]
theorem U3 {v:AV} {r:List AV}:mP (v::r)=(yG v++mP r):=by simp only[mP]
theorem U4 {s:Nat→Option Nat}:lA s []=[]:=by simp only[lA]
theorem U5 {s:Nat→Option Nat} {v:AV} {r:List AV}:lA s (v::r)=(rnA s v::lA s r):=by simp only[lA]
theorem U6:eN []=true:=by simp only[eN]
theorem U7 {v:AV} {r:List AV}:eN (v::r)=(gG v&&eN r):=by simp only[eN]
theorem U8:vS []=[]:=by simp only[vS]
theorem U9 {v:AV} {r:List AV}:vS (v::r)=(slN v++vS r):=by simp only[vS]
theorem UA {B:Nat} {C:List AV}:uY B C []=[]:=by simp only[uY]
theorem UB {B:Nat} {C:List AV} {v:AV} {r:List AV}:uY B C (v::r)=(zM B C v::uY B C r):=by simp only[uY]
theorem UC:dI []=[]:=by simp only[dI]
theorem UD {v:AV} {r:List AV}:dI (v::r)=(kU v::dI r):=by simp only[dI]
theorem UE {a:AV} {z cs:List AV} {off:Nat}:bQ (a::z) off cs=(a::z).take off++cs++(a::z).drop (off+cs.length):=rfl
theorem UF {z:List AV}:eF z []=some z:=rfl
def aKP (z:List AV) (off n:Nat) (rest:List (Nat×Nat×AV)):Option (List AV)→Option (List AV)
 | some cs=>if cs.length=n∧off+n≤z.length then eF (bQ z off cs) rest else none
 | none=>none
theorem UG {z:List AV} {off n:Nat} {v:AV} {rest:List (Nat×Nat×AV)}:eF z ((off,n,v)::rest)=aKP z off n rest (cellsOf v):=by simp only[eF,aKP]<;>rfl
theorem UH {z cs:List AV} {off n:Nat} {rest:List (Nat×Nat×AV)}:aKP z off n rest (some cs)=if cs.length=n∧off+n≤z.length then eF (bQ z off cs) rest else none:=rfl
theorem UI {k k':IntKind} {a b:Int}:mJ 0 (.int k a) (.int k' b)=if k=k' then some (decide (a=b)) else none:=rfl
theorem UJ:cS [] [] []=some true:=rfl
def aKW:Option Bool→Option Bool→Option Bool
 | some x,some y=>some (x&&y)
 | _,_=>none
theorem UK {k:Nat} {ks:List Nat} {a b:AV} {r s:List AV}:cS (k::ks) (a::r) (b::s)=aKW (mJ k a b) (cS ks r s):=by simp only[cS,aKW]<;>rfl
theorem UL {x y:Bool}:aKW (some x) (some y)=some (x&&y):=rfl
theorem UM {c d:Nat} {e:aL}:bB c d e none=some d:=rfl
def boM (cap:Nat):AV→Option Nat
 | .int _ n=>if 0≤n∧n≤(cap:Int) then some n.toNat else none
 | _=>none
theorem UN {c d:Nat} {e:aL} {x:AO}:bB c d e (some x)=boM c (aU e x):=by simp only[bB,boM]<;>rfl
theorem UO {c:Nat} {k:IntKind} {n:Int}:boM c (.int k n)=if 0≤n∧n≤(c:Int) then some n.toNat else none:=rfl
theorem UP {e:aL} {p:Nat} {ps:List Nat} {v:AV} {vs:List AV}:lW e (p::ps) (v::vs)=lW (upd e p v) ps vs:=rfl
theorem UQ {e:aL} {vs:List AV}:lW e [] vs=e:=rfl
theorem UR {H:Hp} {x:AO} {e:aL}:aC (.box x) e H=aLb (cellsOf (aU e x)):=by simp only[aC,aLb]<;>rfl
theorem US {cs:List AV}:aLb (some cs)=some (.new none (.cells true cs) fun b=>.pt b 0):=rfl
theorem UT {s n:Nat} {z:List AV} {ps:List (Nat×Nat×AO)} {e:aL} {H:Hp}:aC (.bslice s n z ps) e H=aKZ s n (eF (List.replicate n z).flatten (ps.map fun p=>(p.1,p.2.1,aU e p.2.2))):=by simp only[aC,aKZ]<;>rfl
theorem UU {s n:Nat} {cs:List AV}:aKZ s n (some cs)=some (.new none (.cells true cs) fun b=>.sl b 0 s n):=rfl
theorem UV {α:Type}:([]:List (List α)).flatten=[]:=rfl
theorem UW {α:Type} {a:List α} {l:List (List α)}:(a::l).flatten=a++l.flatten:=rfl
theorem UX {s b:Nat} {z:List AV} {l c:AO} {e:aL} {H:Hp}:aC (.mksl s b z l c) e H=aKr s b z (aU e l) (aU e c):=by simp only[aC,aKr]<;>rfl
theorem UY {s b:Nat} {z:List AV} {l c:Int}:aKr s b z (I l) (I c)=if 0≤l∧l≤c∧(b:Int)*c≤281474976710656∧c≤9223372036854775807 then
        some (.new none (.cells true (List.replicate c.toNat z).flatten) fun b=>.sl b 0 s l.toNat) else none:=rfl
theorem UZ {s:Nat} {H:Hp} {rows:List (List AV)}:jP s H (.fs rows)=if rows.all (fun r=>r.length==s) then some (rows.length,rows.flatten) else none:=rfl
def aKb (s o s' len:Nat):Option ABlk→Option (Nat×List AV)
    | some (.cells _ cs)=>if s'=s∧o+len*s≤cs.length then some (len,(cs.drop o).take (len*s)) else none
    | _=>none
theorem Ta {s b o s' n:Nat} {H:Hp}:jP s H (.sl b o s' n)=aKb s o s' n (H b):=by simp only[jP,aKb]<;>rfl
theorem Tb {s o s' len:Nat} {w:Bool} {cs:List AV}:aKb s o s' len (some (.cells w cs))=if s'=s∧o+len*s≤cs.length then some (len,(cs.drop o).take (len*s)) else none:=rfl
def aHD (s bytes:Nat) (H:Hp) (x:AV):Option (Nat×List AV)→Option Eff
 | none=>none
 | some (n,new) =>
   match x with
   | .nilsl=>if n*bytes≤1099511627776∧n≤1099511627776 then (if n=0 then some (.val .nilsl) else some (.new none (.cells true new) fun b=>.sl b 0 s n)) else none
   | .sl b 0 s' len=>match H b with
     | some (.cells true cs)=>if s'=s∧len*s=cs.length∧(len+n)*bytes≤1099511627776∧len+n≤1099511627776 then some (.new (some b) (.cells true (cs++new)) fun b=>.sl b 0 s (len+n)) else none
     | _=>none
   | _=>none
def aHC (s bytes n:Nat) (new:List AV) (b s' len:Nat):Option ABlk→Option Eff
 | some (.cells true cs)=>if s'=s∧len*s=cs.length∧(len+n)*bytes≤1099511627776∧len+n≤1099511627776 then some (.new (some b) (.cells true (cs++new)) fun b=>.sl b 0 s (len+n)) else none
 | _=>none
theorem Tc {s bytes:Nat} {H:Hp} {x y:AV}:mS s bytes H x y=aHD s bytes H x (jP s H y):=by
 unfold mS aHD
 cases jP s H y<;>rfl
theorem Td {s bytes n:Nat} {H:Hp} {new:List AV}:aHD s bytes H .nilsl (some (n,new))=if n*bytes≤1099511627776∧n≤1099511627776 then (if n=0 then some (.val .nilsl) else some (.new none (.cells true new) fun b=>.sl b 0 s n)) else none:=rfl
theorem Te {s bytes n b s' len:Nat} {H:Hp} {new:List AV}:aHD s bytes H (.sl b 0 s' len) (some (n,new))=aHC s bytes n new b s' len (H b):=by simp only[aHD,aHC]<;>rfl
theorem Tf {s bytes n b s' len:Nat} {cs new:List AV}:aHC s bytes n new b s' len (some (.cells true cs))=if s'=s∧len*s=cs.length∧(len+n)*bytes≤1099511627776∧len+n≤1099511627776 then some (.new (some b) (.cells true (cs++new)) fun b=>.sl b 0 s (len+n)) else none:=rfl
theorem T9 {e:aL} {n:Nat}:aU e (.t n)=e n:=rfl
theorem TA {e:aL} {v:AV}:aU e (.c v)=v:=rfl
def aHX (len s b o n h:Nat):Option Nat→Option Eff
 | some l=>if o+len*s≤n∧l<len then some (.val (.sl b (o+l*s) s (h-l))) else none
 | none=>none
def aHY (len s:Nat) (e:aL) (lo:Option AO) (b o:Nat):Option ABlk→Option Nat→Option Eff
 | some (.cells _ cs),some h=>aHX len s b o cs.length h (bB h 0 e lo)
 | _,_=>none
def aKc (len s:Nat) (e:aL) (lo:Option AO) (H:Hp) (r:Option Nat):AV→Option Eff
 | .pt b o=>aHY len s e lo b o (H b) r
 | _=>none
theorem TB {len s:Nat} {x:AO} {lo hi:Option AO} {e:aL} {H:Hp}:aC (.slarr len s x lo hi) e H=aKc len s e lo H (bB len len e hi) (aU e x):=by
 simp only[aC,aKc]
 cases aU e x with
 | pt b o =>
   simp only[]
   cases H b with
   | none=>rfl
   | some c =>
     cases c with
     | cells w cs =>
       cases bB len len e hi with
       | none=>rfl
       | some h=>simp only[aHY,aHX];cases bB h 0 e lo<;>rfl
     | _=>rfl
 | _=>rfl
theorem TC {len s b o:Nat} {e:aL} {lo:Option AO} {H:Hp} {r:Option Nat}:aKc len s e lo H r (.pt b o)=aHY len s e lo b o (H b) r:=rfl
theorem TD {len s b o h:Nat} {e:aL} {lo:Option AO} {w:Bool} {cs:List AV}:aHY len s e lo b o (some (.cells w cs)) (some h)=aHX len s b o cs.length h (bB h 0 e lo):=rfl
theorem TE {len s b o n h l:Nat}:aHX len s b o n h (some l)=if o+len*s≤n∧l<len then some (.val (.sl b (o+l*s) s (h-l))) else none:=rfl
def aLE (rows:List (List AV)) (h:Nat):Option Nat→Option Eff
 | some l=>some (.val (.fs ((rows.drop l).take (h-l))))
 | none=>none
def aLF (rows:List (List AV)) (e:aL) (lo:Option AO):Option Nat→Option Eff
 | some h=>aLE rows h (bB h 0 e lo)
 | none=>none
def aHV (b o s h:Nat):Option Nat→Option Eff
 | some l=>if l<h then some (.val (.sl b (o+l*s) s (h-l))) else if l=0 then some (.val (.sl b o s 0)) else some (.val (.fs []))
 | none=>none
def aHW (b o s:Nat) (e:aL) (lo:Option AO):Option Nat→Option Eff
 | some h=>aHV b o s h (bB h 0 e lo)
 | none=>none
def aLG:Option Nat→Option Eff
 | some _=>some (.val .nilsl)
 | none=>none
def aLH (e:aL) (lo:Option AO):Option Nat→Option Eff
 | some h=>aLG (bB h 0 e lo)
 | none=>none
def aFx (s:Nat) (e:aL) (lo hi:Option AO):AV→Option Eff
 | .fs rows=>if rows.all (fun r=>r.length==s) then aLF rows e lo (bB rows.length rows.length e hi) else none
 | .sl b o s' len=>if s'=s then aHW b o s e lo (bB len len e hi) else none
 | .nilsl=>aLH e lo (bB 0 0 e hi)
 | _=>none
theorem TF {s:Nat} {x:AO} {lo hi:Option AO} {e:aL} {H:Hp}:aC (.slsl s x lo hi) e H=aFx s e lo hi (aU e x):=by
 simp only[aC]
 cases aU e x with
 | fs rows =>
   simp only[iU,aFx]
   by_cases hr:(rows.all fun r=>r.length==s)=true
   ·simp only[hr,if_true]
    cases bB rows.length rows.length e hi with
    | none=>rfl
    | some h=>simp only[aLF,aLE];cases bB h 0 e lo<;>rfl
   ·simp only[hr];rfl
 | sl b o s' len =>
   simp only[iU,aFx]
   by_cases hr:s'=s
   ·simp only[hr,if_true]
    cases bB len len e hi with
    | none=>rfl
    | some h =>
      simp only[aHW,aHV]
      cases bB h 0 e lo with
      | none=>rfl
      | some l =>
        by_cases hl:l<h
        ·simp only[hl,if_true]
        ·by_cases h0:l=0
         ·simp only[hl,h0,if_true,if_false]
          subst h0
          simp only[hl,if_false]
         ·simp only[hl,h0,if_false]
   ·simp only[hr,if_false]
 | nilsl =>
   simp only[iU,aFx]
   cases bB 0 0 e hi with
   | none=>rfl
   | some h=>simp only[aLH,aLG];cases bB h 0 e lo<;>rfl
 | _=>rfl
theorem TG {s b o s' len:Nat} {e:aL} {lo hi:Option AO}:aFx s e lo hi (.sl b o s' len)=if s'=s then aHW b o s e lo (bB len len e hi) else none:=rfl
theorem TH {b o s h:Nat} {e:aL} {lo:Option AO}:aHW b o s e lo (some h)=aHV b o s h (bB h 0 e lo):=rfl
theorem TI {b o s h l:Nat}:aHV b o s h (some l)=if l<h then some (.val (.sl b (o+l*s) s (h-l))) else if l=0 then some (.val (.sl b o s 0)) else some (.val (.fs [])):=rfl
theorem ptf (p:Prop):(p=True)∨(p=False):=by by_cases h:p<;>simp[h]
theorem bU {α:Type} {l:List α} {i:Nat} (h:i<l.length):∃ x,l[i]?=some x:=⟨l[i],List.getElem?_eq_getElem h⟩
theorem eJ {α:Type} {l:List α} {i:Nat} (h:i<l.length):((i:Int)<(l.length:Int))=True:=eq_true (by omega)
theorem Tg {n:Int}:(n<n)=False:=eq_false (by omega)
theorem eP {i n:Nat} (h:i<n) (hn:n<1000000000000):IntKind.i64.wrap ((i:Int)+1)=(i:Int)+1:=aD (by omega) (by omega)
theorem Th {agg:Bool} {n b o:Nat} {H:Hp}:dU agg n H (.pt b o)=ldM agg n o (H b):=by unfold dU ldM;rfl
theorem Ti {agg w:Bool} {n o:Nat} {cs:List AV}:ldM agg n o (some (.cells w cs))=fH agg n cs o:=rfl
theorem Tj {agg:Bool} {n i o:Nat} {rows:List (List AV)} {H:Hp}:dU agg n H (.fp rows i o)=ldR agg n o (rows[i]?):=by unfold dU ldR;rfl
theorem Tk {agg:Bool} {n o:Nat} {r:List AV}:ldR agg n o (some r)=fH agg n r o:=rfl
theorem Tl {n o:Nat} {cs:List AV}:fH true n cs o=if o+n≤cs.length then some (.agg ((cs.drop o).take n)) else none:=rfl
theorem Tm {n o:Nat} {cs:List AV}:fH false n cs o=cs[o]?:=rfl
theorem Tn {n b o:Nat} {h:XH} {x:AV}:kO n h (.pt b o) x=stM n b o h (hat h b) (cellsOf x):=by
 simp only[kO,stM]<;>rfl
theorem Tp {n b o:Nat} {h:XH} {g:Bool} {cs vs:List AV}:stM n b o h (some (.blk g (.cells true cs))) (some vs)=if vs.length=n∧o+n≤cs.length then some (h.set b (some (.blk (g&&eN vs) (.cells true (bQ cs o vs))))) else none:=rfl
theorem Tq {h:XH} {g:Bool} {x:ABlk}:oU h none g x=h++[some (.blk g x)]:=rfl
theorem Tr {h:XH} {b:Nat} {g:Bool} {x:ABlk}:oU h (some b) g x=h.set b none++[some (.blk g x)]:=rfl
theorem Ts {h:XH} {b o s n:Nat}:kJ h (.sl b o s n)=flM (hat h b):=by simp only[kJ,flM]<;>rfl
theorem Tt {g:Bool} {x:ABlk}:flM (some (.blk g x))=g:=rfl
theorem Tu {h:XH} {rows:List (List AV)}:kJ h (.fs rows)=true:=rfl
theorem Tv {h:XH}:kJ h .nilsl=true:=rfl
theorem Tw {op:BinOp} {k k':IntKind} {a b:Int}:yJ op (.int k a) (.int k' b)=eU op k a k' b:=rfl
abbrev rB (hs:List Bool):AV:=.fs (hs.map fun v=>[.bool v])
theorem TJ {α β:Type} {f:α→β} {a b:List α}:(a++b).map f=a.map f++b.map f:=by simp
theorem TK {α:Type} {a b:List α}:(a++b).length=a.length+b.length:=by simp
theorem TL {n:Nat}:n*1=n:=by simp
theorem TM {n:Nat}:0+n=n:=by simp
theorem TN {n:Nat}:n+0=n:=by simp
theorem TO {n:Nat}:(n≤n)=True:=by simp
theorem TP {n:Nat}:n-0=n:=by simp
def aFF {α:Type} (l:List α) (o:Nat) (v:α):List α:=l.take o++v::l.drop (o+1)
theorem aFE {α:Type} {l:List α} {o:Nat} {v:α} (h:o<l.length):aFF l o v=l.set o v:=by
 rw[aFF,List.set_eq_take_append_cons_drop,if_pos h]
theorem TQ {hs:List Int} {o:Nat} {v:Int}:bQ (hs.map I) o [I v]=(aFF hs o v).map I:=by
 simp[bQ,aFF,List.map_take,List.map_drop]
theorem aAC {α:Type} {f:α→AV}:∀ (l pre:List α),bG ((pre++l).map f) pre.length 1 l.length=l.map fun v=>[f v]
 | [],pre=>rfl
 | a::r,pre=>by
   have h:=aAC (f:=f) r (pre++[a])
   simp only[List.append_assoc,List.cons_append,List.nil_append,List.length_append,List.length_cons,List.length_nil]at h
   rw[List.length_cons,bG]
   simp only[Nat.zero_add]at h
   rw[h,List.map_append,List.drop_left' (by simp),List.map_cons,List.map_cons]
   rfl
theorem TR {hs:List Int}:bG (hs.map I) 0 1 hs.length=hs.map fun v=>[I v]:=aAC (f:=I) hs []
theorem TS {n:Nat} {v:Int}:(List.replicate n [I v]).flatten=(List.replicate n v).map I:=by
 induction n with
 | zero=>rfl
 | succ n ih=>simp[List.replicate_succ,ih]
def oS (b:Nat):List Int→AV
 | []=>.nilsl
 | _::r=>.sl b 0 1 (r.length+1)
theorem Sg {b:Nat}:oS b [] = .nilsl:=rfl
theorem Si {b:Nat} {a:Int} {r:List Int}:oS b (a::r) = .sl b 0 1 (r.length+1):=rfl
theorem Sj {a:Int} {r:List Int}:bG (I a::r.map I) 0 1 (r.length+1)=[I a]::r.map fun v=>[I v]:=TR (hs:=a::r)
theorem Sk {n:Nat}:(n+1=0)=False:=by simp
def xX (s:Nat) (rows:List (List AV)):Prop:=∀ r∈rows,eN r=true∧mP r=[]∧vS r=[]∧r.length=s
theorem aDL:∀ (a b:List AV),eN (a++b)=(eN a&&eN b)
 | [],b=>by simp[eN]
 | x::a,b=>by rw[List.cons_append,eN,eN,aDL a b,Bool.and_assoc]
theorem aDC:∀ (a b:List AV),mP (a++b)=mP a++mP b
 | [],b=>by simp[mP]
 | x::a,b=>by rw[List.cons_append,mP,mP,aDC a b,List.append_assoc]
theorem aDn:∀ (a b:List AV),vS (a++b)=vS a++vS b
 | [],b=>by simp[vS]
 | x::a,b=>by rw[List.cons_append,vS,vS,aDn a b,List.append_assoc]
theorem iL {s:Nat}:∀ {rows:List (List AV)},xX s rows→eN rows.flatten=true∧mP rows.flatten=[]∧vS rows.flatten=[]∧rows.flatten.length=rows.length*s
 | [],_=>⟨rfl,rfl,rfl,by simp⟩
 | r::rows,h=>by
   obtain⟨h1,h2,h3,h4⟩:=iL (rows:=rows) fun x hx=>h x (by simp[hx])
   obtain⟨k1,k2,k3,k4⟩:=h r (by simp)
   rw[List.flatten_cons,aDL,aDC,aDn,List.length_append,h1,h2,h3,h4,k1,k2,k3,k4,List.length_cons]
   exact⟨rfl,rfl,rfl,by rw[Nat.add_mul,Nat.one_mul,Nat.add_comm]⟩
theorem qO {s:Nat}:∀ (rows pre:List (List AV)),xX s (pre++rows)→bG (pre++rows).flatten (pre.length*s) s rows.length=rows
 | [],pre,_=>rfl
 | r::rows,pre,h=>by
   have ih:=qO rows (pre++[r]) (by rw[List.append_assoc];exact h)
   have hp:=(iL (rows:=pre) fun x hx=>h x (by simp[hx])).2.2.2
   have hr:=(h r (by simp)).2.2.2
   rw[List.append_assoc,List.cons_append,List.nil_append,List.length_append,List.length_cons,List.length_nil]at ih
   rw[List.length_cons,bG,show pre.length*s+s=(pre.length+(0+1))*s by rw[Nat.zero_add,Nat.add_mul,Nat.one_mul],ih,List.flatten_append,List.drop_left' hp,List.flatten_cons,List.take_left' hr]
theorem tQ {s:Nat} {rows:List (List AV)} (h:xX s rows):bG rows.flatten 0 s rows.length=rows:=by
 have:=qO rows [] h
 simpa using this
section
variable {D:Nat→Option XFn} {K k:Nat} {rd:Option Nat} {e:aL} {h:XH} {run:fW} {runY:iI}
theorem S6 {a:XCode}:execW D K k rd (.scope a) e h=execW D K k rd a e h:=aBA
variable {d:Option Nat} {ix:Nat} {r:List DOper} {L:List (Nat×Nat)}
theorem S7 {a b:Nat}:(some a != some b) = !(decide (a=b)):=by by_cases h:a=b<;>simp[h]
def lsM:Option XB→Option zX
 | some (.loop _ _ _ s)=>some s
 | _=>none
theorem Sl {h:XH} {l:Nat}:eT h l=lsM (hat h l):=by unfold eT lsM;rfl
theorem Sm {K site:Nat} {vs:List AV} {s:zX}:lsM (some (.loop K site vs s))=some s:=rfl
def ltM (h:XH) (l:Nat) (s:zX):Option XB→XH
 | some (.loop K site vs _)=>h.set l (some (.loop K site vs s))
 | _=>h
theorem Sn {h:XH} {l:Nat} {s:zX}:loopTo h l s=ltM h l s (hat h l):=by unfold loopTo ltM;rfl
theorem Sp {h:XH} {l K site:Nat} {vs:List AV} {s s':zX}:ltM h l s (some (.loop K site vs s'))=h.set l (some (.loop K site vs s)):=rfl
theorem Sq {h:XH}:sV none h=true:=rfl
theorem Sr {g:Nat} {a b:List AV}:sT (.fn (.func g) a b)=true:=rfl
def aLJ (b:Bool) (n:Nat) (e:aL) (r:Option (AV×XH)):Option (DX×aL×XH):=if b then aBe n e r else none
theorem Ss {site:Nat} {L:List Nat} {f:AO} {ps:List Nat} {a b:XCode}:execW D K k rd (.rng site L f ps a b) e h=aLJ (sV rd h&&sT (aU e f)) h.length e (eG (runW D) (runYW D) (aU e f) [.fn (.yield h.length) [] []] (h++[some (.loop K site (L.map e) .ready)])):=aEN
theorem Su {n:Nat} {r:Option (AV×XH)}:aLJ true n e r=aBe n e r:=rfl
def rgM (n:Nat) (e:aL) (h:XH):Option zX→Option (DX×aL×XH)
 | some .ready=>some (.normal,e,h.set n none)
 | some (.done x)=>some (x,e,h.set n none)
 | _=>none
theorem Sv {n:Nat} {v:AV}:aBe n e (some (v,h))=rgM n e h (eT h n):=by unfold aBe rgM;rfl
theorem Sw {n:Nat}:rgM n e h (some .ready)=some (.normal,e,h.set n none):=rfl
theorem Sx {n:Nat} {x:DX}:rgM n e h (some (.done x))=some (x,e,h.set n none):=rfl
theorem Sy {l:Nat} {as:List AV}:eG run runY (.fn (.yield l) [] []) as h=kM (jU (.fn (.yield l) [] []::as) h) h (runY (rnA (aGt (jU (.fn (.yield l) [] []::as) h)) (.fn (.yield l) [] [])) (lA (aGt (jU (.fn (.yield l) [] []::as) h)) as) (iO (jU (.fn (.yield l) [] []::as) h) h)):=rfl
def yM2 (x:Option (AV×XH)):Option zX→Option (AV×XH)
 | some .ready=>x
 | _=>none
theorem Sz {l:Nat} {f:aL→XH→Option (AV×XH)}:aBX l (some (.normal,e,h)) f=yM2 (f e (loopTo h l .busy)) (eT h l):=by unfold aBX yM2;rfl
theorem S2 {x:Option (AV×XH)}:yM2 x (some .ready)=x:=rfl
def yE2 (l k:Nat) (x:DX) (h:XH):Option zX→Option (AV×XH)
 | some .busy=>some (match x with
  | .normal=>iH true k (.bool true) (loopTo h l .ready)
  | x=>iH true k (.bool false) (loopTo h l (.done x)))
 | _=>none
theorem S3 {l:Nat} {x:DX}:aEe l k (some (x,e,h))=yE2 l k x h (eT h l):=by unfold aEe yE2;rfl
theorem S4 {l:Nat}:yE2 l k .normal h (some .busy)=some (iH true k (.bool true) (loopTo h l .ready)):=rfl
theorem S5 {l id:Nat}:yE2 l k (.exit id) h (some .busy)=some (iH true k (.bool false) (loopTo h l (.done (.exit id)))):=rfl
end
theorem SD {g g' w w':Bool} {xs ys:List AV}:aAX (some (.blk g (.cells w xs))) (some (.blk g' (.cells w' ys)))=(w==w'&&eI xs ys):=rfl
theorem SE:((10:Nat):Int)=10:=rfl
theorem SF:((11:Nat):Int)=11:=rfl
theorem SG:((12:Nat):Int)=12:=rfl
theorem SI:((13:Nat):Int)=13:=rfl
theorem SJ:((14:Nat):Int)=14:=rfl
theorem SK:((15:Nat):Int)=15:=rfl
theorem SL:((16:Nat):Int)=16:=rfl
theorem SM:((32:Nat):Int)=32:=rfl
theorem SN:((34:Nat):Int)=34:=rfl
theorem SO:((64:Nat):Int)=64:=rfl
theorem SP {k:IntKind} {a b:Int}:eU .andNot k a k b=some (.int k (cD .andNot k a b)):=by simp[eU]
theorem rA {D:Nat→Option XFn} {K k:Nat} {rd:Option Nat} {L:List Nat} {a:XCode} {e:aL} {h:XH} {σ:Type} (S:σ→List AV) (G:σ→XH) (Inv Q:σ→Prop) (m:σ→Nat) (s0:σ)
 (h0:aW k L (some (.normal,e,h))=some (S s0,G s0)) (hi:Inv s0)
 (hs:∀ s,Inv s→(hZ (execW D K k rd a (aY L (S s)) (G s))=true∧Q s)∨∃ s',m s'<m s∧aW k L (execW D K k rd a (aY L (S s)) (G s))=some (S s',G s')∧Inv s') :
 ∃ s,Inv s∧Q s∧execW D K k rd (.loop L a) e h=execW D K k rd a (aY L (S s)) (G s):=by
 have key:∀ (n:Nat) (s:σ) (e:aL) (h:XH),m s≤n→Inv s→aW k L (some (.normal,e,h))=some (S s,G s)→∃ s,Inv s∧Q s∧execW D K k rd (.loop L a) e h=execW D K k rd a (aY L (S s)) (G s):=by
  intro n
  induction n with
  | zero =>
    intro s e h hn hi h0
    rcases hs s hi with ⟨hl,hq⟩|⟨s',h1,_⟩
    ·refine⟨s,hi,hq,?_⟩
     have:=aI (rd:=rd) (D:=D) (K:=K) (a:=a) 0 (fun _=>S s) (fun _=>G s) h0 (fun i hi=>by omega) hl
     exact this
    ·omega
  | succ n ih =>
    intro s e h hn hi h0
    rcases hs s hi with ⟨hl,hq⟩|⟨s',h1,h2,h3⟩
    ·exact⟨s,hi,hq,aI (rd:=rd) (D:=D) (K:=K) (a:=a) 0 (fun _=>S s) (fun _=>G s) h0 (fun i hi=>by omega) hl⟩
    ·rw[eE]
     simp only[aW,oSI,Prod.mk.injEq]at h0
     have e1:jC k L e h=aY L (S s):=by rw[←h0.1];rfl
     rw[e1,h0.2]
     revert h2
     cases execW D K k rd a (aY L (S s)) (G s)with
     | none=>intro h2;simp[aW]at h2
     | some q =>
       obtain⟨x,e',h'⟩:=q
       cases x with
       | normal=>intro h2;exact ih s' e' h' (by omega) h3 h2
       | exit id=>intro h2;simp[aW]at h2
       | ret=>intro h2;simp[aW]at h2
 exact key (m s0) s0 e h (Nat.le_refl _) hi h0
section
variable {run:fW} {runY:iI} {d:Option Nat} {e:aL} {h:XH} {ix:Nat} {r:List DOper} {m:Option (List (Nat×Nat))}
theorem Rc {c x:AO}:xo none run runY (⟨ix,d,.send c x,none⟩::r) e h=kH none run runY r d e .any (tK h (aU e c) (aU e x)):=by
 show eM run runY _ e h=_
 simp only[eM,gd,cY]
 cases tK h (aU e c) (aU e x)<;>rfl
theorem Rd {ok:Bool} {z:AV} {c:AO}:xo none run runY (⟨ix,d,.recv ok z c,none⟩::r) e h=kR none run runY r d e (tL ok z h (aU e c)):=by
 show eM run runY _ e h=_
 simp only[eM,gd,cY]
 cases tL ok z h (aU e c)<;>rfl
theorem Re {n:Nat}:xo m run runY (⟨ix,d,.mkchan n,none⟩::r) e h=xo m run runY r (bM e d (.ch h.length)) (h++[some (.blk true (.map true [(.agg [.agg []],.fp [] n 0)]))]):=(yA rfl (fun _=>rfl) (fun _=>rfl) fun _ _=>rfl).trans rfl
def aKV (x:AV):Option AV:=match x with
 | .int k n=>some (.int k (cD .xor k (if k.signed then -1 else k.max) n))
 | _=>none
theorem Rf {x:AO}:xo m run runY (⟨ix,d,.cpl x,none⟩::r) e h=kV m run runY r d e h (aKV (aU e x)):=oT rfl (by simp only[aC,mY,aKV];cases aU e x<;>rfl) (fun _=>rfl) (fun _=>rfl) fun _ _=>rfl
theorem Rg {n:Int}:aKV (.int .i64 n)=some (.int .i64 (cD .xor .i64 (-1) n)):=rfl
def sdM (b:Nat) (h:XH) (x:AV):Option XB→Option XH
 | some (.blk g (.map true es))=>match iX es with
   | some (cap,false,r)=>if r.length<cap then some (h.set b (some (.blk (g&&gG x) (.map true (fM cap false::(r++[(.nilifc,x)])))))) else none
   | _=>none
 | _=>none
theorem Rh {b:Nat} {x:AV}:tK h (.ch b) x=sdM b h x (hat h b):=by simp only[tK,sdM]<;>rfl
theorem Ri {b cap:Nat} {x:AV} {g:Bool} {r:List (AV×AV)}:sdM b h x (some (.blk g (.map true ((.agg [.agg []],.fp [] cap 0)::r)))) =
 if r.length<cap then some (h.set b (some (.blk (g&&gG x) (.map true ((.agg [.agg []],.fp [] cap 0)::(r++[(.nilifc,x)])))))) else none:=rfl
def rvM (ok:Bool) (z:AV) (b:Nat) (h:XH):Option XB→Option (AV×XH)
 | some (.blk g (.map true es))=>match iX es with
  | some (cap,cl,(_,v)::r)=>some (uI ok v true,h.set b (some (.blk g (.map true (fM cap cl::r)))))
  | some (cap,true,[])=>some (uI ok z false,h.set b (some (.blk g (.map true [fM cap true]))))
  | _=>none
 | _=>none
theorem Rj {ok:Bool} {z:AV} {b:Nat}:tL ok z h (.ch b)=rvM ok z b h (hat h b):=by simp only[tL,rvM]<;>rfl
theorem Rk {ok:Bool} {z u v:AV} {b cap:Nat} {g:Bool} {r:List (AV×AV)}:rvM ok z b h (some (.blk g (.map true ((.agg [.agg []],.fp [] cap 1)::(u,v)::r))))=some (uI ok v true,h.set b (some (.blk g (.map true ((.agg [.agg []],.fp [] cap 1)::r))))):=rfl
theorem Rl {ok:Bool} {z:AV} {b cap:Nat} {g:Bool}:rvM ok z b h (some (.blk g (.map true [(.agg [.agg []],.fp [] cap 1)])))=some (uI ok z false,h.set b (some (.blk g (.map true [(.agg [.agg []],.fp [] cap 1)])))):=rfl
theorem Rm {v:AV} {b:Bool}:uI true v b = .tup [v,.bool b]:=rfl
def clM (b:Nat) (h:XH):Option XB→Option XH
 | some (.blk g (.map true es))=>match iX es with
   | some (cap,false,r)=>some (h.set b (some (.blk g (.map true (fM cap true::r)))))
   | _=>none
 | _=>none
theorem Ro {b:Nat}:mV h b=clM b h (hat h b):=by simp only[mV,clM]<;>rfl
theorem Rp {b cap:Nat} {g:Bool} {r:List (AV×AV)}:clM b h (some (.blk g (.map true ((.agg [.agg []],.fp [] cap 0)::r))))=some (h.set b (some (.blk g (.map true ((.agg [.agg []],.fp [] cap 1)::r))))):=rfl
def dfM (k:Nat) (f:Nat→aL→XH→Option (AV×XH)) (e:aL) (h:XH):AV→Option (AV×XH)
 | .ch b=>if b<k then f b e h else none
 | _=>none
theorem Rq {x k:Nat} {f:Nat→aL→XH→Option (AV×XH)}:pZ x k (some (e,h)) f=dfM k f e h (e x):=by simp only[pZ,dfM]<;>rfl
theorem Rr {k b:Nat} {f:Nat→aL→XH→Option (AV×XH)}:dfM k f e h (.ch b)=if b<k then f b e h else none:=rfl
theorem Rs {b:Nat} {res:List (Nat×Option (Bool×Nat))} {own:Bool} {k:Nat}:bL (some b) res own k (some (.normal,e,h))=aIw res own k e (mV h b):=aIv b res own k e h
theorem Rt {res:List (Nat×Option (Bool×Nat))} {own:Bool} {k:Nat}:aIw res own k e (some h)=kF own k h (kT res e (dP h)):=rfl
theorem Ru {b:Nat}:yG (.ch b)=([b]:List Nat):=rfl
theorem Rw {b:Nat}:gG (.ch b)=(false:Bool):=rfl
theorem Rx {s:Nat→Option Nat} {b:Nat}:rnA s (.ch b)=((match s b with|some c=>.ch c|none=>.any):AV):=by simp only[rnA]<;>rfl
theorem Ry {b:Nat}:slN (.ch b)=([]:List Nat):=rfl
theorem Rz {b:Nat}:kU (.ch b)=((.ch b):AV):=rfl
theorem R2 {b:Nat}:cellsOf (.ch b)=(some [(.ch b)]:Option (List AV)):=rfl
end
end Go.DL
namespace Go.DL
open Go.RowKit
variable {P:Program} {H:Type} {enc:TypeId×Value→H} {w:World} {spare:Nat→Bool} {held:Bool}

inductive CT where
 | int (k:IntKind)
 | bool
 | str
 | sl (r:List CT)

inductive Sh:CT→AV→Prop where
 | int (k:IntKind) (n:Int) (h:(Lit.int k n).wf=true):Sh (.int k) (.int k n)
 | bool (b:Bool):Sh .bool (.bool b)
 | str (s:ByteArray) (h:s.size≤maxLen):Sh .str (.str s)
 | sl (r:List CT) (rows:List (List AV)) (hl:∀ row∈rows,row.length=r.length) (hn:rows.length≤maxLen) (h:∀ row∈rows,∀ (i:Nat) (c:CT) (a:AV),r[i]?=some c→row[i]?=some a→Sh c a):Sh (.sl r) (.fs rows)

inductive Flat (P:Program):TypeId→List CT→Prop where
 | int {t:TypeId} {k:IntKind} (h:P.underlying t=some (.int k)):Flat P t [.int k]
 | bool {t:TypeId} (h:P.underlying t=some .bool):Flat P t [.bool]
 | str {t:TypeId} (h:P.underlying t=some .string):Flat P t [.str]
 | sl {t e:TypeId} {r:List CT} (h:P.underlying t=some (.slice e)) (he:Flat P e r) (hc:P.cellsOf e=r.length) (h0:0<r.length):Flat P t [.sl r]
 | struct {t:TypeId} {fs:Array Field} (rs:List (List CT)) (h:P.underlying t=some (.struct fs)) (hl:rs.length=fs.size) (hf:∀ (i:Nat) (f:Field) (r:List CT),fs[i]?=some f→rs[i]?=some r→Flat P f.type r)
  (hc:∀ (i:Nat) (f:Field) (r:List CT),fs[i]?=some f→rs[i]?=some r→P.cellsOf f.type=r.length∧f.offset=((rs.take i).flatten).length) (ht:P.cellsOf t=rs.flatten.length):Flat P t rs.flatten
 | array {t e:TypeId} {n:Nat} {r:List CT} (h:P.underlying t=some (.array n e)) (he:Flat P e r) (hc:P.cellsOf e=r.length) (ht:P.cellsOf t=n*r.length):Flat P t (List.replicate n r).flatten

inductive DecL (F:Nat→Prop) (w:World):List CT→List AV→List Value→Prop where
 | nil:DecL F w [] [] []
 | cons {c:CT} {a:AV} {v:Value} {cs:List CT} {as:List AV} {vs:List Value} (h1:Sh c a) (h2:Rv F w a v) (h3:v.oneCell'=true) (h:DecL F w cs as vs):DecL F w (c::cs) (a::as) (v::vs)
theorem DecL.append {F:Nat→Prop} {cs cs':List CT} {as as':List AV} {vs vs':List Value} (h:DecL F w cs as vs) (h':DecL F w cs' as' vs'):DecL F w (cs++cs') (as++as') (vs++vs'):=by
 induction h with
 | nil=>exact h'
 | cons h1 h2 h3 _ ih=>exact .cons h1 h2 h3 ih
theorem DecL.len {F:Nat→Prop} {cs:List CT} {as:List AV} {vs:List Value} (h:DecL F w cs as vs):as.length=cs.length∧vs.length=cs.length:=by
 induction h with
 | nil=>exact⟨rfl,rfl⟩
 | cons _ _ _ _ ih=>simp[ih]
theorem DecL.sh {F:Nat→Prop} {cs:List CT} {as:List AV} {vs:List Value} (h:DecL F w cs as vs):∀ (i:Nat) (c:CT) (a:AV),cs[i]?=some c→as[i]?=some a→Sh c a:=by
 induction h with
 | nil=>intro i c a h;simp at h
 | cons h1 _ _ _ ih =>
   intro i c a h2 h3
   cases i with
   | zero=>simp only[List.getElem?_cons_zero,oSI]at h2 h3;rw[←h2,←h3];exact h1
   | succ i=>exact ih i c a (by simpa using h2) (by simpa using h3)
theorem DecL.rv {F:Nat→Prop} {cs:List CT} {as:List AV} {vs:List Value} (h:DecL F w cs as vs):∀ (i:Nat) (a:AV) (v:Value),as[i]?=some a→vs[i]?=some v→Rv F w a v∧v.oneCell'=true:=by
 induction h with
 | nil=>intro i c a h;simp at h
 | cons h1 h4 h5 _ ih =>
   intro i c a h2 h3
   cases i with
   | zero=>simp only[List.getElem?_cons_zero,oSI]at h2 h3;rw[←h2,←h3];exact⟨h4,h5⟩
   | succ i=>exact ih i c a (by simpa using h2) (by simpa using h3)

theorem trod_array {fuel:Nat} {t e:TypeId} {n:Nat} {cs:List Value} {x:DataW H×List MemPlace} (ht:P.underlying t=some (.array n e)) (h:DataW.trod enc P w 0 spare held fuel t cs=some x) :
 cs.length=P.cellsOf t∧∃ m,∀ i,i<n→∃ y,DataW.trod enc P w 0 spare held m e ((cs.drop (i*P.cellsOf e)).take (P.cellsOf e))=some y:=by
 cases fuel with
 | zero=>simp[DataW.trod]at h
 | succ m =>
   unfold DataW.trod at h
   rw[ht]at h
   split at h<;>simp_all
   obtain⟨hl,xs,hp,hd⟩:=h
   refine⟨m,fun i hi=>?_⟩
   have hlen:=mapM_some_length hp
   have:=mapM_some_get hp i i (by simp[hi])
   rw[List.getElem?_eq_getElem (by rw[hlen];simpa using hi)]at this
   exact⟨_,_,this⟩

theorem xL {b o:Nat} {sp:Option Nat} {v:Value} (h:w.cell? ⟨b,o,sp⟩=some v):sp=none∧b<w.heap.size:=by
 unfold World.cell? at h
 split at h
 ·rename_i c _ _ hb
  refine⟨?_,?_⟩
  ·cases sp with
   | none=>rfl
   | some s=>simp at h
  ·simp only at hb
   by_cases hs:b<w.heap.size
   ·exact hs
   ·rw[Array.getElem?_eq_none (by omega)]at hb;simp at hb
 ·simp at h
theorem aJs {b o i j:Nat}:((⟨b,o,none⟩:Addr).add i).add j=⟨b,o+i+j,none⟩:=by
 unfold Addr.add
 by_cases hi:i=0<;>by_cases hj:j=0<;>simp[hi,hj]

theorem wF {t:TypeId} {tys:List CT} (hf:Flat P t tys):∀ {fuel:Nat} {cs:List Value} {x:DataW H×List MemPlace},DataW.trod enc P w 0 spare held fuel t cs=some x→∃ as,DecL (fun b=>b<w.heap.size) w tys as cs:=by
 induction hf with
 | int h =>
   intro fuel cs x hx
   obtain⟨n,rfl,_,hw⟩:=DataW.trod_int h hx
   exact⟨_,.cons (.int _ n hw) (.int _ n) rfl .nil⟩
 | bool h =>
   intro fuel cs x hx
   obtain⟨b,rfl,_⟩:=DataW.trod_bool h hx
   exact⟨_,.cons (.bool b) (.bool b) rfl .nil⟩
 | str h =>
   intro fuel cs x hx
   obtain⟨s,rfl,_,hs⟩:=DataW.trod_string h hx
   exact⟨_,.cons (.str s hs) (.str s) rfl .nil⟩
 | @sl t e r h he hc h0 ih =>
   intro fuel cs x hx
   rcases DataW.trod_slice h hx with ⟨rfl,_⟩|⟨a,len,cap,elems,rest,n,_,rfl,_,_,hlc,hcm,hel,hg,_,_⟩
   ·exact⟨_,.cons (.sl r [] (by simp) (by simp) (by simp)) (.fs0 none 0) rfl .nil⟩
   ·rcases Nat.eq_zero_or_pos len with hz|hz
    ·subst hz
     exact⟨_,.cons (.sl r [] (by simp) (by simp) (by simp)) (.fs0 (some a) cap) rfl .nil⟩
    ·have hrow:∀ i,∃ p:List AV×List Value,i<len→DecL (fun b=>b<w.heap.size) w r p.1 p.2∧w.cells? 0 (a.add (i*r.length)) r.length=some p.2:=by
      intro i
      by_cases hi:i<len
      ·have:=hg i hi
       rw[List.getElem?_eq_getElem (by omega),hc,Option.bind_eq_some_iff]at this
       obtain⟨vs,h1,h2⟩:=this
       obtain⟨as,h3⟩:=ih h2
       exact⟨(as,vs),fun _=>⟨h3,h1⟩⟩
      ·exact⟨([],[]),fun hh=>absurd hh hi⟩
     obtain⟨f,hfr⟩:=Classical.axiomOfChoice hrow
     obtain⟨blk,off,sp⟩:=a
     have hsp:sp=none∧blk<w.heap.size:=by
      obtain⟨h1,h2⟩:=hfr 0 hz
      obtain⟨_,h4,h5⟩:=World.cells?_some h2
      have h6:=h5 0 h0
      rw[List.getElem?_eq_getElem (by omega)]at h6
      simp only[Nat.zero_mul]at h6
      unfold Addr.add at h6
      simp only[if_true]at h6
      exact xL h6
     obtain⟨rfl,hblk⟩:=hsp
     have hcell:∀ i,i<len→∀ j,j<r.length→w.cell? ⟨blk,off+i*r.length+j,none⟩=(f i).2[j]?:=by
      intro i hi j hj
      obtain⟨_,h2⟩:=hfr i hi
      obtain⟨_,_,h5⟩:=World.cells?_some h2
      rw[←h5 j hj,aJs]
     have hrl:((List.range len).map fun i=>(f i).1).length=len:=by simp
     have hget:∀ (i:Nat) (row:List AV),((List.range len).map fun i=>(f i).1)[i]?=some row→i<len∧row=(f i).1:=by
      intro i row hh
      rw[List.getElem?_map,Option.map_eq_some_iff]at hh
      obtain⟨k,h1,h2⟩:=hh
      rw[List.getElem?_eq_some_iff]at h1
      obtain⟨h3,h4⟩:=h1
      simp only[List.length_range]at h3
      simp only[List.getElem_range]at h4
      subst h4
      exact⟨h3,h2.symm⟩
     refine⟨[.fs ((List.range len).map fun i=>(f i).1)],.cons (.sl r _ ?_ ?_ ?_) ?_ rfl .nil⟩
     ·intro row hm
      simp only[List.mem_map,List.mem_range]at hm
      obtain⟨i,hi,rfl⟩:=hm
      exact(hfr i hi).1.len.1
     ·rw[hrl];omega
     ·intro row hm
      simp only[List.mem_map,List.mem_range]at hm
      obtain⟨i,hi,rfl⟩:=hm
      exact(hfr i hi).1.sh
     ·have:=Rv.fs (F:=fun b=>b<w.heap.size) (w:=w) ((List.range len).map fun i=>(f i).1) blk off r.length cap (fun i j=>if i<len∧j<r.length then ((f i).2[j]?).getD (.bool false) else .bool false)
       (by rw[hrl];exact hlc) hblk ?_ ?_ ?_ ?_
      ·rw[hrl]at this;exact this
      ·intro row hm
       simp only[List.mem_map,List.mem_range]at hm
       obtain⟨i,hi,rfl⟩:=hm
       exact(hfr i hi).1.len.1
      ·intro i row j c h1 h2
       obtain⟨hi,rfl⟩:=hget i row h1
       have hl:=(hfr i hi).1.len
       have hj:j<r.length:=by
        rw[List.getElem?_eq_some_iff]at h2
        obtain⟨h3,_⟩:=h2
        omega
       rw[hcell i hi j hj,if_pos ⟨hi,hj⟩,List.getElem?_eq_getElem (by omega)]
       rfl
      ·intro i j
       by_cases hij:i<len∧j<r.length
       ·rw[if_pos hij]
        have hl:=(hfr i hij.1).1.len
        rw[List.getElem?_eq_getElem (by omega)]
        simp only[Option.getD_some]
        exact((hfr i hij.1).1.rv j _ _ (List.getElem?_eq_getElem (by omega)) (List.getElem?_eq_getElem (by omega))).2
       ·rw[if_neg hij];rfl
      ·intro i row j c h1 h2
       obtain⟨hi,rfl⟩:=hget i row h1
       have hl:=(hfr i hi).1.len
       have hj:j<r.length:=by
        rw[List.getElem?_eq_some_iff]at h2
        obtain⟨h3,_⟩:=h2
        omega
       rw[if_pos ⟨hi,hj⟩,List.getElem?_eq_getElem (by omega)]
       exact((hfr i hi).1.rv j c _ h2 (List.getElem?_eq_getElem (by omega))).1
 | @struct t fs rs h hl hf hc ht ih =>
   intro fuel cs x hx
   obtain⟨xs,n,_,_,hlen,hxs,hfld⟩:=DataW.trod_struct h hx
   have key:∀ k,k≤rs.length→∃ as,DecL (fun b=>b<w.heap.size) w (rs.take k).flatten as (cs.take ((rs.take k).flatten).length):=by
    intro k
    induction k with
    | zero=>intro _;exact⟨[],by simpa using DecL.nil⟩
    | succ k ihk =>
      intro hk
      obtain⟨as,h1⟩:=ihk (by omega)
      have hr:rs[k]?=some rs[k]:=List.getElem?_eq_getElem (by omega)
      have hfk:fs[k]?=some fs[k]:=Array.getElem?_eq_getElem (by omega)
      obtain⟨c1,c2⟩:=hc k _ _ hfk hr
      have h2:=hfld k _ hfk
      rw[List.getElem?_eq_getElem (by omega)]at h2
      obtain⟨as',h3⟩:=ih k _ _ hfk hr h2
      refine⟨as++as',?_⟩
      rw[List.take_add_one,hr,Option.toList_some,List.flatten_append,List.length_append,List.take_add]
      simp only[List.flatten_cons,List.flatten_nil,List.append_nil]
      rw[c1,c2]at h3
      exact h1.append h3
   obtain⟨as,h1⟩:=key rs.length (Nat.le_refl _)
   rw[List.take_length,←ht,←hlen,List.take_length]at h1
   exact⟨as,h1⟩
 | @array t e n r h he hc ht ih =>
   intro fuel cs x hx
   obtain⟨hlen,m,hy⟩:=trod_array h hx
   have key:∀ k,k≤n→∃ as,DecL (fun b=>b<w.heap.size) w (List.replicate k r).flatten as (cs.take (k*r.length)):=by
    intro k
    induction k with
    | zero=>intro _;exact⟨[],by simpa using DecL.nil⟩
    | succ k ihk =>
      intro hk
      obtain⟨as,h1⟩:=ihk (by omega)
      obtain⟨y,h2⟩:=hy k (by omega)
      obtain⟨as',h3⟩:=ih h2
      refine⟨as++as',?_⟩
      rw[List.replicate_succ',List.flatten_append,Nat.add_mul,List.take_add]
      simp only[List.flatten_cons,List.flatten_nil,List.append_nil,Nat.one_mul]
      rw[hc]at h3
      exact h1.append h3
   obtain⟨as,h1⟩:=key n (Nat.le_refl _)
   rw[←ht,←hlen,List.take_length]at h1
   exact⟨as,h1⟩

def FF (P:Program):Nat→List Field→List (List CT)→Prop
 | _,[],[]=>True
 | o,f::fs,r::rs=>Flat P f.type r∧P.cellsOf f.type=r.length∧f.offset=o∧FF P (o+r.length) fs rs
 | _,_,_=>False
theorem FF.get:∀ {o:Nat} {fs:List Field} {rs:List (List CT)},FF P o fs rs→rs.length=fs.length∧∀ (i:Nat) (f:Field) (r:List CT),fs[i]?=some f→rs[i]?=some r→Flat P f.type r∧P.cellsOf f.type=r.length∧f.offset=o+((rs.take i).flatten).length
 | o,[],[],_=>⟨rfl,fun i f r h=>by simp at h⟩
 | o,f::fs,r::rs,h=>by
   obtain⟨h1,h2,h3,h4⟩:=h
   obtain⟨l1,l2⟩:=FF.get h4
   refine⟨by simp[l1],fun i f' r' e1 e2=>?_⟩
   cases i with
   | zero =>
     simp only[List.getElem?_cons_zero,oSI]at e1 e2
     subst e1;subst e2
     exact⟨h1,h2,by simpa using h3⟩
   | succ i =>
     obtain⟨k1,k2,k3⟩:=l2 i f' r' (by simpa using e1) (by simpa using e2)
     refine⟨k1,k2,?_⟩
     rw[k3,List.take_succ_cons,List.flatten_cons,List.length_append]
     omega
 | _,[],_::_,h=>h.elim
 | _,_::_,[],h=>h.elim
theorem Flat.mk {t:TypeId} {fs:Array Field} {rs:List (List CT)} (h:P.underlying t=some (.struct fs)) (hf:FF P 0 fs.toList rs) (ht:P.cellsOf t=rs.flatten.length):Flat P t rs.flatten:=by
 obtain⟨l1,l2⟩:=hf.get
 refine .struct rs h (by simpa using l1) (fun i f r h1 h2=>(l2 i f r (by simpa using h1) h2).1) (fun i f r h1 h2=>?_) ht
 obtain⟨_,k2,k3⟩:=l2 i f r (by simpa using h1) h2
 exact⟨k2,by simpa using k3⟩

theorem Sh.gd {c:CT} {a:AV} (h:Sh c a):Gd a:=by
 induction h with
 | int k n h=>exact .int k n
 | bool b=>exact .bool b
 | str s h=>exact .str s
 | sl r rows hl hn h ih =>
   refine .fs rows fun row hr c hc=>?_
   obtain⟨i,hi,he⟩:=List.mem_iff_getElem.1 hc
   have hi':i<r.length:=by rw[←hl row hr];exact hi
   exact ih row hr i r[i] c (List.getElem?_eq_getElem hi') (by rw[List.getElem?_eq_getElem hi,he])

theorem aJp {t:TypeId} {tys:List CT} (hf:Flat P t tys) {vs:Array Value} {d:DataW H} {ps:List MemPlace} (hd:DataW.Trod enc P w 0 spare held t (.agg vs) d ps) :
 ∃ as,as.length=tys.length∧(∀ (i:Nat) (c:CT) (a:AV),tys[i]?=some c→as[i]?=some a→Sh c a)∧Rv (fun b=>b<w.heap.size) w (.agg as) (.agg vs):=by
 obtain⟨fuel,h⟩:=hd
 obtain⟨as,h1⟩:=wF hf h
 have hl:=h1.len
 have hc:(Value.agg vs).cells.toList=vs.toList:=rfl
 rw[hc]at h1 hl
 refine⟨as,hl.1,h1.sh,.agg as vs (by have:=hl.2;simp only[Array.length_toList]at this;omega) ?_ ?_⟩
 ·intro i v hv
  have hi:i<vs.size:=by
   by_cases hh:i<vs.size
   ·exact hh
   ·rw[Array.getElem?_eq_none (by omega)]at hv;simp at hv
  have hl2:=hl.2
  simp only[Array.length_toList]at hl2
  exact(h1.rv i as[i] v (List.getElem?_eq_getElem (by omega)) (by simpa using hv)).2
 ·intro i c v hc hv
  exact(h1.rv i c v hc (by simpa using hv)).1
theorem rQ {t:TypeId} {c:CT} (hf:Flat P t [c]) {v:Value} (hv:v.cells.toList=[v]) {d:DataW H} {ps:List MemPlace} (hd:DataW.Trod enc P w 0 spare held t v d ps) :
 ∃ a,Sh c a∧Rv (fun b=>b<w.heap.size) w a v:=by
 obtain⟨fuel,h⟩:=hd
 rw[hv]at h
 obtain⟨as,h1⟩:=wF hf h
 cases h1 with
 | cons h1 h2 h3 h4=>exact⟨_,h1,h2⟩

theorem aGJ {D:Nat→Option XFn} (ok:XOk P D) {K:Nat} {as:List AV} (hrun:runW D K as []=some (.bool true,[])) (has:∀ a∈as,Gd a) {vs:Array Value} (gi:GI (fun b=>b<w.heap.size) w) (hA:Args (fun b=>b<w.heap.size) w as vs) :
 Calls P K vs w fun e w'=>e = .returned (.bool true)∧Below w.heap.size w w':=by
 obtain⟨n,hn⟩:=lG.1 hrun
 refine(aNR ok hn has (.bool true) gi hA).mono ?_
 rintro e w' ⟨F',q,rfl,h1,h2⟩
 exact⟨by rw[aIg h1],h2⟩
end Go.DL
