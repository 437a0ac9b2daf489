/- Parts of a proof, joined: DlN DlO DlP DlQ DlR DlS DlT X0 X1 X2 X3 X4 X5 X6 X7 X8. No statement of the seed is proved here. -/
import Derived.ScopeJumps
import Derived.RangeFuncNested
import Derived.Test.YtjckchgdlbgolaaGreatDoorH1
set_option linter.unusedSimpArgs false
set_option linter.unusedVariables false
set_option linter.unusedSectionVars false
namespace Go.DL
variable{P:Program}{B:Base}

def FinH(H:Hp):Prop:=∃ N,∀ b,N≤b→H b=none
theorem St.fin{F:Nat→Prop}{w:World}{H:Hp}(h:St F w H):FinH H:=⟨w.heap.size,fun b hb=>by
 cases hx:H b with
 | none=>rfl
 | some x=>exact absurd (h.own_lt hx) AM⟩
theorem FinH.hset{H:Hp}{b:Nat}{x:ABlk}(h:FinH H):FinH (hset H b x):=by
 obtain⟨N,h⟩:=h;exact⟨max N (b+1),fun c hc=>by grind [aO]⟩


theorem CallV.conv{fv:AV}{as:List AV}{H1 H2:Hp}{Q1 Q2:AV→Hp→Prop}(h:CallV B P fv as H1 Q1)
 (hc:∀ F w,St F w H2→St F w H1∧∀ e w',vH F w H1 Q1 e w'→vH F w H2 Q2 e w'):CallV B P fv as H2 Q2:=by
 unfold CallV at *;split at h;·exact⟨h.1,fun F w vs h1 h2 h3=>(h.2 F w vs h1 (hc F w h2).1 h3).mono (hc F w h2).2⟩
 ·exact fun F w vs h1 h2 h3=>let ⟨fn,t,x,y,h4,h5⟩:=h F w vs h1 (hc F w h2).1 h3; ⟨fn,t,x,y,h4,h5.mono (hc F w h2).2⟩
 omega

theorem CallV.monoF{fv:AV}{as:List AV}{H:Hp}{Q Q':AV→Hp→Prop}(h:CallV B P fv as H Q)(hq:∀ v H',FinH H'→Q v H'→Q' v H'):CallV B P fv as H Q' :=
 h.conv fun F w st=>⟨st,fun e w' ⟨r,v,F',H',h1,h2,h3,h4,h5⟩=>⟨r,v,F',H',h1,h2,h3,h4,hq _ _ h3.fin h5⟩⟩

theorem CallV.frame{fv:AV}{as:List AV}{H:Hp}{Q:AV→Hp→Prop}{b:Nat}{z:ABlk}(h:CallV B P fv as H Q)(hb:H b=none) :
 CallV B P fv as (hset H b z) fun v H''=>∃ H',Q v H'∧H' b=none∧H''=hset H' b z:=by
 refine h.conv fun F w st=>?_;have st1:St F w H:=st.forget fun c x hc=>by grind [aO]
 refine⟨st1,?_⟩;rintro e w' ⟨r,v,F',H',rfl,h2,h3,h4,h5⟩;have hlt:b<w.heap.size:=st.own_lt (hset_same H b z);have hn:H' b=none:=by
  cases hx:H' b with
  | none=>rfl
  | some x =>
    rcases h2.hdom b (by simp[hx])with h6|h6;all_goals grind
 have hsame:w'.heap[b]?=w.heap[b]?:=h2.same b hlt (by simp[sX,hb]);have hnF:¬F' b:=fun hF=>by
  rcases h2.fnew b hF with h6|h6|h6;·exact st.dis b z (hset_same H b z) h6
  all_goals grind
 refine⟨r,v,F',hset H' b z,rfl,?_,?_,h4,H',h5,hn,rfl⟩
 ·refine⟨h2.sub,fun c hc=>?_,fun c hc=>?_,fun c hc=>?_,h2.le,fun c hc hw=>?_,h2.cells,h2.io⟩
  ·rcases h2.fnew c hc with h6|h6|h6
   all_goals grind [aO]
  ·by_cases h6:c=b
   ·simp_all
   ·rw[aO _ _ h6]at hc ⊢;exact h2.hdom c hc
  ·by_cases h6:c=b
   ·simp_all [sX]
   ·simp only[sX,aO _ _ h6]at hc ⊢;exact h2.hnew c hc
  ·by_cases h6:c=b
   ·grind
   ·exact h2.same c hc (by simp_all [sX,hset])
 ·refine⟨h3.lt,fun c x hc=>?_,fun c x hc=>?_⟩
  ·by_cases h6:c=b
   ·grind
   ·rw[aO _ _ h6]at hc;exact h3.dis c x hc
  ·by_cases h6:c=b
   ·subst h6
    simp only[hset_same,oSI]at hc;subst hc;obtain⟨o,h7,h8⟩:=st.blk c z (hset_same H c z);exact⟨o,by grind,h8.up (h2.up st1)⟩
   ·rw[aO _ _ h6]at hc;exact h3.blk c x hc

theorem aCE(H:Hp)(b:Nat)(z:ABlk):iS (hset H b z)=hset (iS H) b z.ro:=by
 funext c;by_cases h:c=b;all_goals simp_all [iS,hset]

theorem CallV.quiet{fv:AV}{as:List AV}{H H2:Hp}{v:AV}(h:CallV B P fv as (iS H) fun v' H'=>v'=v∧H'=iS H)
 (hd:∀ b,(iS H b).isSome=true→(H2 b).isSome=true) (hs:∀ F w,St F w (iS H2)→St F w (iS H)):CallV B P fv as (iS H2) fun v' H'=>v'=v∧H'=iS H2:=by
 refine h.conv fun F w st=>⟨hs F w st,?_⟩;rintro e w' ⟨r,v,F',H',rfl,h2,h3,h4,rfl,rfl⟩;have hsame:∀ b,b<w.heap.size→w'.heap[b]?=w.heap[b]?:=fun b hb=>h2.same b hb (aIP H b);have hd2:∀ b,(iS H2 b).isSome=(H2 b).isSome:=fun b=>by unfold iS;grind
 refine⟨r,_,F',iS H2,rfl,?_,?_,h4,rfl,rfl⟩
 ·refine⟨h2.sub,fun b hb=>?_,fun b hb=>.inl hb,fun b hb=>.inl hb,h2.le,fun b hb _=>hsame b hb,h2.cells,h2.io⟩
  rcases h2.fnew b hb with h6|h6|h6;all_goals grind
 ·refine⟨h3.lt,fun b x hb hF=>?_,fun b x hb=>?_⟩
  ·rcases h2.fnew b hF with h6|h6|h6
   ·exact st.dis b x hb h6
   ·obtain⟨y,hy⟩:=B6.1 h6
    exact h3.dis b y hy hF
   ·exact absurd (st.own_lt hb) AM
  ·obtain⟨o,h7,h8⟩:=st.blk b x hb
   exact⟨o,by grind,h8.up (h2.up (hs F w st))⟩

theorem CallV.quiet_fresh{fv:AV}{as:List AV}{H:Hp}{v:AV}{b:Nat}{z:ABlk}(h:CallV B P fv as (iS H) fun v' H'=>v'=v∧H'=iS H)(hb:H b=none) :
 CallV B P fv as (iS (hset H b z)) fun v' H'=>v'=v∧H'=iS (hset H b z):=by
 have hne:∀ c,(iS H c).isSome=true→c≠b:=fun c hc e=>by subst e;simp[iS,hb]at hc
 refine h.quiet (fun c hc=>?_) fun F w st=>st.forget fun c x hc=>?_;·simp_all [hset,iS]
 ·rw[aCE,aO _ _ (hne c (by simp[hc]))];exact hc

theorem CallV.quiet_grow{fv:AV}{as:List AV}{H:Hp}{v:AV}{b:Nat}{cs new:List AV}(h:CallV B P fv as (iS H) fun v' H'=>v'=v∧H'=iS H)(hb:H b=some (.cells true cs)) :
 CallV B P fv as (iS (hset H b (.cells true (cs++new)))) fun v' H'=>v'=v∧H'=iS (hset H b (.cells true (cs++new))):=by
 refine h.quiet (fun c hc=>?_) fun F w st=>⟨st.lt,fun c x hc=>?_,fun c x hc=>?_⟩
 ·by_cases h1:c=b
  all_goals simp_all [hset,iS]
 ·rw[aCE]at st
  by_cases h1:c=b;·subst h1;exact st.dis c _ (hset_same _ _ _)
  ·exact st.dis c x (by grind [aO])
 ·rw[aCE]at st
  by_cases h1:c=b
  ·subst h1
   obtain⟨o,h2,h3⟩:=st.blk c _ (hset_same _ _ _);simp only[iS,hb,C5,ABlk.ro,oSI]at hc;subst hc;refine⟨o,h2,?_⟩;cases h3 with
   | cells p ds c e fr hfr hl ho hr =>
     refine .cells _ _ _ _ _ hfr (by grind) ho fun i a v hi hv=>hr i a v ?_ hv
     grind
  ·exact st.blk c x (by grind [aO])


theorem aJK{d:Option Nat}{e:Eff}{K K':aH→Hp→Prop}{env:aH}{H:Hp}(hf:FinH H)(hk:∀ u H',FinH H'→K (aX env d u) H'→K' (aX env d u) H')(h:fJ d e K env H):fJ d e K' env H:=by
 cases e with
 | val v=>exact hk _ _ hf h
 | new own x f=>exact fun b hb=>hk _ _ hf.hset (h b hb)

theorem oK{ix j:Nat}{op:DOp}{env:aH}{L:yP}(h:j≠ix):eL ix op env L j=L j:=by
 cases op<;>first|rfl|simp[eL,h]

theorem aIX{n:Nat}{H H':Hp}{p x:AV}(hf:FinH H)(h:oX n H p x=some H'):FinH H':=by
 unfold oX at h;split at h
 ·split at h
  ·split at h<;>simp at h;subst h;exact hf.hset
  ·simp at h
 ·simp at h
theorem aJv{q:Nat}{H H':Hp}{m k x:AV}(hf:FinH H)(h:xS q H m k x=some H'):FinH H':=by
 unfold xS at h;split at h
 ·split at h
  ·simp only[A3]at h;obtain⟨_,_,rfl⟩:=h;exact hf.hset
  ·simp at h
 ·simp at h
theorem aPk{H:Hp}{x:AV}{r:AV×Hp}(hf:FinH H)(h:aHQ H x=some r):FinH r.2:=by
 unfold aHQ at h;split at h
 ·split at h
  ·split at h<;>simp at h<;>subst h
   ·exact hf.hset
   ·exact hf
  ·simp at h
 ·simp at h
theorem aMD{s:Nat}{H:Hp}{x y:AV}{r:Nat×Hp}(hf:FinH H)(h:aDP s H x y=some r):FinH r.2:=by
 unfold aDP at h;split at h
 ·split at h
  ·split at h<;>simp at h;subst h;exact hf.hset
  ·simp at h
 ·simp at h

theorem nN{α:Type}{o:Option α}{k k':α→Prop}(h:∀ x,o=some x→k x→k' x)(ho:mO o k):mO o k':=by
 cases o with
 | none=>exact ho
 | some x=>exact h x rfl ho

theorem lN{ix:Nat}{d:Option Nat}{op:DOp}{K K':KL}{env:aH}{H:Hp}{L:yP}(hf:FinH H)
 (hk:∀ u H' L',FinH H'→(∀ j,j≠ix→L' j=L j)→K (aX env d u) H' L'→K' (aX env d u) H' L') (h:bD B P ix d op K env H L):bD B P ix d op K' env H L:=by
 cases op
 case store n p x l=>exact⟨h.1,nN (fun H' he=>hk _ _ _ (aIX hf he) fun _ _=>rfl) h.2⟩
 case copy s x y=>exact nN (fun r he=>hk _ _ _ (aMD hf he) fun _ _=>rfl) h
 case mapup q m k x=>exact nN (fun H' he=>hk _ _ _ (aJv hf he) fun _ _=>rfl) h
 case nxts x=>exact nN (fun r he=>hk _ _ _ (aPk hf he) fun _ _=>rfl) h
 case callf q f xs l =>
  cases q with
  | true=>obtain⟨v,h1,h2⟩:=h;exact⟨v,h1,hk _ _ _ hf (fun _ _=>rfl) h2⟩
  | false=>exact CallV.monoF h fun v H' hf' hq=>⟨hq.1,hk _ _ _ hf' (fun _ _=>rfl) hq.2⟩
 all_goals
  rw[cG rfl]at h ⊢;exact cN (fun e=>aJK hf fun u H' hf'=>hk _ _ _ hf' fun j hj=>oK hj) h

theorem aPg{o:DOper}{K K':KL}{env:aH}{H:Hp}{L:yP}(hf:FinH H)
 (hk:∀ e H' L',FinH H'→(∀ j,j≠o.ix→L' j=L j)→K e H' L'→K' e H' L') (h:opD B P o K env H L):opD B P o K' env H L :=
 cN (fun g=>lN hf fun u H' L'=>hk _ _ _) h

def aBP(op:DOp):Bool:=match op with
 | .callf false .. => true
 | _=>false

theorem aBt{ix:Nat}{d:Option Nat}{op:DOp}{env:aH}{H:Hp}{L:yP}(hf:FinH H)(hc:aBP op=false)(h:bD B P ix d op (fun _ _ _=>False) env H L):False:=by
 have ow:∀{α:Type}{o:Option α},mO o (fun _=>False)→False:=fun {α o} h=>by cases o<;>exact h
 cases op
 case store n p x l=>exact ow h.2
 case copy s x y=>exact ow h
 case mapup q m k x=>exact ow h
 case nxts x=>exact ow h
 case callf q f xs l =>
  cases q with
  | true=>obtain⟨v,h1,h2⟩:=h;exact h2
  | false=>simp[aBP]at hc
 all_goals
  rw[cG rfl,cZ]at h;obtain⟨e,_,h⟩:=h;cases e with
  | val v=>exact h
  | new own x f=>obtain⟨N,hf⟩:=hf;exact h N (.inl (hf N (A6 _)))


section
variable{ix iy:Nat}{dx dy:Option Nat}{opx opy:DOp}{K:KL}{env:aH}{H:Hp}{L:yP}

theorem rI{op:DOp}{b:Nat}{own:Option Nat}{x:ABlk}{f:Nat→AV}{e:Eff}{op':DOp}(hn:aD op' env H=some (.new own x f))(h3:¬(op.kind=3∧op'.kind=3))
 (hb:H b=none∨own=some b) (h:aD op env H=some e):aD op env (hset H b x)=some e:=by
 grind [aIv,qG,aJJ]

theorem aVc(hf:FinH H)(hqx:opx.isQ=true)(hqy:opy.isQ=true)(h3:¬(opy.kind=3∧opx.kind=3))(hne:ix≠iy)
 (a1:∀ k,dx=some k→k∉opy.sees) (a2:∀ k,dy=some k→k∉opx.sees) (a3:∀ k,dx=some k→dy≠some k)
 (h:bD B P ix dx opx (bD B P iy dy opy K) env H L):bD B P iy dy opy (bD B P ix dx opx K) env H L:=by
 have key:∀(e:aH)(h':Hp)(L':yP),bD B P iy dy opy K e h' L'=mO (aD opy e h') fun e'=>fJ dy e' (fun e'' h=>K e'' h (eL iy opy e L')) e h':=fun e h' L'=>cG hqy;have key':∀(e:aH)(h':Hp)(L':yP),bD B P ix dx opx K e h' L'=mO (aD opx e h') fun e'=>fJ dx e' (fun e'' h=>K e'' h (eL ix opx e L')) e h':=fun e h' L'=>cG hqx;rw[cG hqx,cZ]at h;obtain⟨ex,hex,h⟩:=h;rw[cG hqy];cases ex with
 | val v =>
   simp only[fJ,key,dF a1,fD a1]at h;rw[cZ]at h;obtain⟨ey,hey,h⟩:=h;rw[hey,optW_some];cases ey with
   | val u =>
     simp only[fJ,key',dF a2,fD a2,hex,optW_some]at h ⊢
     grind [fV,qZ]
   | new own z f =>
     simp only[fJ,key',dF a2,fD a2]at h ⊢;intro b hb;rw[rI hey (fun h=>h3 ⟨h.2,h.1⟩) hb hex,optW_some];have:=h b hb;rw[fV a3,qZ (Ne.symm hne)]at this;exact this
 | new own z f =>
   simp only[fJ,key,dF a1,fD a1]at h;obtain⟨ey,hey⟩:∃ ey,aD opy env H=some ey:=by
    obtain⟨N,hN⟩:=hf;have h1:=h (N+(rdB opy env).sum+1) (.inl (hN _ AM))
    grind [aMx,cZ]
   rw[hey,optW_some];have h':∀ b,(H b=none∨own=some b)→fJ dy ey (fun e'' h=>K e'' h (eL iy opy env (eL ix opx env L))) (aX env dx (f b)) (hset H b z):=fun b hb=>by
    have:=h b hb;rwa [rI hex h3 hb hey,optW_some]at this
   cases ey with
   | val u =>
     simp only[fJ,key',dF a2,fD a2,hex,optW_some]at h' ⊢;intro b hb;have:=h' b hb;rw[fV a3,qZ (Ne.symm hne)]at this;exact this
   | new own' z' f' =>
     simp only[fJ,key',dF a2,fD a2]at h' ⊢;intro c hc;rw[rI hey (fun h=>h3 ⟨h.2,h.1⟩) hc hex,optW_some];intro b hb;have hown:∀ j,own=some j→H j≠none:=fun j hj=>by
      grind [qG]
     have hown':∀ j,own'=some j→H j≠none:=fun j hj=>by
      grind [qG]
     have hbc:b≠c:=by
      rintro rfl;rcases hb with hb|hb;·simp at hb
      grind [qG]
     have hb':H b=none∨own=some b:=by grind [aO]
     have:=h' b hb' c (by rwa [aO _ _ (Ne.symm hbc)]);rw[fV a3,qZ (Ne.symm hne),aMj hbc]at this;exact this


theorem qW{op:DOp}{e:aH}(h:op.kind≠1):eL ix op e L=L:=by
 cases op<;>first|rfl|simp[DOp.kind]at h

theorem mD{op:DOp}(h:op.kind≤3∨op.kind=7):op.isQ=true:=by
 cases op<;>first|rfl|skip
 case callf q f xs l=>cases q<;>simp[DOp.kind]at h
 all_goals grind [DOp.kind]

theorem uW{op:DOp}{H':Hp}(h:op.kind=0):aD op env H=aD op env H':=by
 cases op<;>first|rfl|simp[DOp.kind]at h

theorem aBs{op:DOp}(h:op.kind=7):∃ z f,∀ env H,aD op env H=some (.new none z f):=by
 cases op<;>simp[DOp.kind]at h
 case alloc z=>simp[aD]
 case mkmap=>simp[aD]
 case allocb=>simp[aD]
 grind

theorem aZC(hf:FinH H)(hk:opx.kind=0)
 (a1:∀ k,dx=some k→k∉opy.sees) (a2:∀ k,dy=some k→k∉opx.sees) (a3:∀ k,dx=some k→dy≠some k)
 (h:bD B P ix dx opx (bD B P iy dy opy K) env H L):bD B P iy dy opy (bD B P ix dx opx K) env H L:=by
 have hq:=mD (op:=opx) AM;rw[cG hq,cZ]at h;obtain⟨ex,hex,h⟩:=h;obtain⟨v,rfl⟩:=qF AM hex;simp only[fJ,qW (op:=opx) (by omega:opx.kind≠1)]at h;rw[rL a1 (fun k hk'=>a3 k hk')]at h;refine lN hf (fun u H' L' _ _ hK=>?_) h;rw[cG hq,dF a2,uW (H':=H) hk,hex,optW_some];simp only[fJ,qW (op:=opx) (by omega:opx.kind≠1)];exact hK

theorem aVd(hf:FinH H)(hk:opy.kind=0)(hc:aBP opx=false)
 (a1:∀ k,dx=some k→k∉opy.sees) (a2:∀ k,dy=some k→k∉opx.sees) (a3:∀ k,dx=some k→dy≠some k)
 (h:bD B P ix dx opx (bD B P iy dy opy K) env H L):bD B P iy dy opy (bD B P ix dx opx K) env H L:=by
 have hq:=mD (op:=opy) AM;have hl:∀ e,eL iy opy e=id:=fun e=>by grind [qW]
 cases hey:aD opy env H with
 | none =>
   refine(aBt (L:=L) hf hc (lN hf (fun u H' L' _ _ hK=>?_) h)).elim;rw[cG hq,dF a1,uW (H':=H) hk,hey]at hK;exact hK
 | some ey =>
   obtain⟨v,rfl⟩:=qF AM hey;rw[cG hq,hey,optW_some];simp only[fJ,hl,id];rw[rL a2 (fun k hk' e=>a3 k e hk')];refine lN hf (fun u H' L' _ _ hK=>?_) h;rw[cG hq,dF a1,uW (H':=H) hk,hey,optW_some]at hK;simp only[fJ,hl,id]at hK;exact hK

theorem jW{f:AO}{xs:List AO}{l:List Nat}:bD B P ix dx (.callf true f xs l) K env H L =
 ∃ v,CallV B P (aL env f) (xs.map (aL env)) (iS H) (fun v' H'=>v'=v∧H'=iS H)∧K (aX env dx v) H L:=rfl

theorem dW{k:Option Nat}{v:AV}{q:Bool}{f:AO}{xs:List AO}{l:List Nat}(h:∀ j,k=some j→j∉(DOp.callf q f xs l).sees) :
 aL (aX env k v) f=aL env f∧xs.map (aL (aX env k v))=xs.map (aL env):=by
 cases k with
 | none=>exact⟨rfl,rfl⟩
 | some j =>
   have:=h j rfl;simp only[DOp.sees,B7,not_or]at this;exact⟨cE this.1,aAd this.2⟩

theorem aIU{f:AO}{xs:List AO}{l:List Nat}(hqy:opy.isQ=true)
 (a1:∀ k,dx=some k→k∉opy.sees) (a2:∀ k,dy=some k→k∉(DOp.callf true f xs l).sees) (a3:∀ k,dx=some k→dy≠some k)
 (h:bD B P ix dx (.callf true f xs l) (bD B P iy dy opy K) env H L):bD B P iy dy opy (bD B P ix dx (.callf true f xs l) K) env H L:=by
 rw[jW]at h;obtain⟨v,h1,h⟩:=h;rw[cG hqy,dF a1,fD a1,cZ]at h;obtain⟨ey,hey,h⟩:=h;rw[cG hqy,hey,optW_some];cases ey with
 | val u =>
   simp only[fJ,jW,(dW a2).1,(dW a2).2]at h ⊢
   grind [fV]
 | new own z g =>
   simp only[fJ,jW,(dW a2).1,(dW a2).2]at h ⊢;intro b hb;refine⟨v,?_,by grind [fV]⟩;rcases hb with hb|rfl;·exact h1.quiet_fresh hb
   ·obtain⟨_,cs,new,h2,rfl⟩:=qG hey
    exact h1.quiet_grow h2

theorem aIV{f:AO}{xs:List AO}{l:List Nat}(hk:opx.kind=1)
 (a1:∀ k,dx=some k→k∉(DOp.callf true f xs l).sees) (a2:∀ k,dy=some k→k∉opx.sees) (a3:∀ k,dx=some k→dy≠some k)
 (h:bD B P ix dx opx (bD B P iy dy (.callf true f xs l) K) env H L):bD B P iy dy (.callf true f xs l) (bD B P ix dx opx K) env H L:=by
 have hq:=mD (op:=opx) AM;rw[cG hq,cZ]at h;obtain⟨ex,hex,h⟩:=h;obtain⟨v,rfl⟩:=qF AM hex;simp only[fJ,jW,(dW a1).1,(dW a1).2]at h;obtain⟨u,h1,h⟩:=h;rw[jW];refine⟨u,h1,?_⟩;rw[cG hq,dF a2,fD a2,hex,optW_some];simp only[fJ]
 grind [fV]

theorem aCc{f g:AO}{xs ys:List AO}{l m:List Nat}
 (a1:∀ k,dx=some k→k∉(DOp.callf true g ys m).sees) (a2:∀ k,dy=some k→k∉(DOp.callf true f xs l).sees) (a3:∀ k,dx=some k→dy≠some k)
 (h:bD B P ix dx (.callf true f xs l) (bD B P iy dy (.callf true g ys m) K) env H L):bD B P iy dy (.callf true g ys m) (bD B P ix dx (.callf true f xs l) K) env H L:=by
 simp only[jW,(dW a1).1,(dW a1).2,(dW a2).1,(dW a2).2]at h ⊢
 grind [fV]

theorem aLH{f:AO}{xs:List AO}{l:List Nat}(hk:opy.kind=7)
 (a2:∀ k,dy=some k→k∉(DOp.callf false f xs l).sees) (a3:∀ k,dx=some k→dy≠some k)
 (h:bD B P ix dx (.callf false f xs l) (bD B P iy dy opy K) env H L):bD B P iy dy opy (bD B P ix dx (.callf false f xs l) K) env H L:=by
 have hq:=mD (op:=opy) AM;have hl:∀ e,eL iy opy e=id:=fun e=>by grind [qW]
 obtain⟨z,g,hg⟩:=aBs hk;rw[cG hq,hg,optW_some];simp only[fJ,hl,id,AAg,reduceCtorEq];intro b hb;show CallV B P (aL (aX env dy (g b)) f) (xs.map (aL (aX env dy (g b)))) (hset H b z) _;rw[(dW a2).1,(dW a2).2];refine CallV.mono (CallV.frame h hb) ?_;rintro v H'' ⟨H',⟨h1,h2⟩,hn,rfl⟩;refine⟨fun j hj c hc=>?_,?_⟩
 ·by_cases h5:c=b
  ·subst h5;simp
  grind [aO]
 ·rw[cG hq,hg,optW_some]at h2
  simp only[fJ,hl,id,AAg,reduceCtorEq]at h2
  grind [fV]

theorem aEf{g:Bool}{n m:Nat}{a p x:AO}{l:List Nat}(hl:ix∈l)(hL:L ix=none)
 (a1:∀ k,dx=some k→k∉(DOp.store m p x l).sees) (a2:∀ k,dy=some k→k∉(DOp.load g n a).sees) (a3:∀ k,dx=some k→dy≠some k)
 (h:bD B P ix dx (.load g n a) (bD B P iy dy (.store m p x l) K) env H L):bD B P iy dy (.store m p x l) (bD B P ix dx (.load g n a) K) env H L:=by
 rw[cG rfl,cZ]at h;obtain⟨ex,hex,h⟩:=h;obtain⟨v,rfl⟩:=qF (by simp[DOp.kind]) hex;simp only[fJ]at h;rw[rL a1 (fun k hk=>a3 k hk)]at h;obtain⟨h1,h2⟩:=h;refine⟨fun j hj c hc=>h1 j hj c ?_,nN (fun H' he hK=>?_) h2⟩;·grind [oK]
 ·show bD B P ix dx (.load g n a) K (aX env dy .any) H' L
  rw[cG rfl,dF a2,fD a2];have:aD (.load g n a) env H'=aD (.load g n a) env H:=by
   refine mF fun b hb=>?_;simp only[rdB,aC2]at hb;have hb2:=h1 ix hl b (by simp[eL,hb]);unfold oX at he;split at he
   ·rename_i c o hp
    split at he
    ·split at he
     ·simp only[oSI]at he
      subst he;refine aO _ _ fun e=>hb2 ?_;rw[hp,e];rfl
     ·simp at he
    ·simp at he
   ·simp at he
  rw[this,hex,optW_some];simp only[fJ];exact hK

theorem aFN{g:Bool}{n:Nat}{a f:AO}{xs:List AO}{l:List Nat}(hl:ix∈l)(hL:L ix=none)
 (a1:∀ k,dx=some k→k∉(DOp.callf false f xs l).sees) (a2:∀ k,dy=some k→k∉(DOp.load g n a).sees) (a3:∀ k,dx=some k→dy≠some k)
 (h:bD B P ix dx (.load g n a) (bD B P iy dy (.callf false f xs l) K) env H L):bD B P iy dy (.callf false f xs l) (bD B P ix dx (.load g n a) K) env H L:=by
 rw[cG rfl,cZ]at h;obtain⟨ex,hex,h⟩:=h;obtain⟨v,rfl⟩:=qF (by simp[DOp.kind]) hex;simp only[fJ]at h;rw[rL a1 (fun k hk=>a3 k hk)]at h;refine CallV.mono h fun u H' ⟨h1,hK⟩=>⟨fun j hj c hc=>h1 j hj c ?_,?_⟩;·grind [oK]
 ·show bD B P ix dx (.load g n a) K (aX env dy u) H' L
  rw[cG rfl,dF a2,fD a2];have:aD (.load g n a) env H'=aD (.load g n a) env H:=by
   refine mF fun b hb=>?_;simp only[rdB,aC2]at hb;exact h1 ix hl b (by simp[eL,hb])
  rw[this,hex,optW_some];simp only[fJ];exact hK
end


section
variable{ix iy:Nat}{dx dy:Option Nat}{opx opy:DOp}{K:KL}{env:aH}{H:Hp}{L:yP}

def aBa(ix:Nat)(x y:DOp):Bool :=
 match x,y with
 | .load ..,.store _ _ _ l=>l.contains ix
 | .load ..,.callf false _ _ l=>l.contains ix
 | _,_=>false

theorem aDp(op:DOp):op.kind≤7:=by
 cases op<;>simp[DOp.kind]
 grind

theorem aPy{op:DOp}(h:op.kind=4):∃ f xs l,op = .callf true f xs l:=by
 cases op<;>simp[DOp.kind]at h
 grind
theorem bAU{op:DOp}(h:op.kind=6):∃ f xs l,op = .callf false f xs l:=by
 cases op<;>simp[DOp.kind]at h
 grind
theorem aDV{op:DOp}(h:op.kind≠6):aBP op=false:=by
 cases op<;>first|rfl|skip
 case callf q f xs l=>cases q<;>first|rfl|simp[DOp.kind]at h

theorem aNK(hf:FinH H)(hok:(lU opx.kind opy.kind||aBa ix opx opy)=true)(hL:L ix=none)(hne:ix≠iy)
 (a1:∀ k,dx=some k→k∉opy.sees) (a2:∀ k,dy=some k→k∉opx.sees) (a3:∀ k,dx=some k→dy≠some k)
 (h:bD B P ix dx opx (bD B P iy dy opy K) env H L):bD B P iy dy opy (bD B P ix dx opx K) env H L:=by
 by_cases hx0:opx.kind=0;·grind [aZC]
 by_cases hk:lU opx.kind opy.kind=true
 ·have l1:=aDp opx
  have l2:=aDp opy
  have qq:(opx.kind≤3∨opx.kind=7)→(opy.kind≤3∨opy.kind=7)→¬(opy.kind=3∧opx.kind=3)→bD B P iy dy opy (bD B P ix dx opx K) env H L :=
   fun h1 h2 h3=>aVc hf (mD h1) (mD h2) h3 hne a1 a2 a3 h
  by_cases hx6:opx.kind=6
  ·obtain⟨f,xs,l,rfl⟩:=bAU hx6
   have hy:opy.kind=7:=by simpa [hx6,lU]using hk
   grind [aLH]
  by_cases hx5:opx.kind=5
  ·have hy:opy.kind=0:=by simpa [hx5,lU]using hk
   grind [aVd,aDV]
  by_cases hx4:opx.kind=4
  ·obtain⟨f,xs,l,rfl⟩:=aPy hx4
   have hy:opy.kind≤4∨opy.kind=7:=by simpa [hx4,lU]using hk
   grind [aPy,aCc,aIU,mD]
  by_cases hx1:opx.kind=1
  ·have hy:opy.kind≤4∨opy.kind=7:=by simpa [hx1,lU]using hk
   grind [aPy,aIV]
  by_cases hx3:opx.kind=3
  ·have hy:opy.kind≤2∨opy.kind=7:=by simpa [hx3,lU]using hk
   grind
  ·have hy:opy.kind≤3∨opy.kind=7:=by
    have:opx.kind=2∨opx.kind=7:=AM
    rcases this with h1|h1<;>simpa [h1,lU]using hk
   grind
 ·have ha:aBa ix opx opy=true:=by grind
  unfold aBa at ha
  grind [aEf,aFN]
end

theorem aDK{g:Bool}{op:DOp}{k:Nat}(h:k∉op.sees):k∉(aDL g op).sees:=by
 cases g with
 | true=>exact h
 | false=>exact F9

theorem aJL{g:Bool}{op:DOp}:(aDL g op).kind=if g then op.kind else 0:=by cases g<;>rfl

theorem aZB{x y:DOper}{K:KL}{env:aH}{H:Hp}{L:yP}(hf:FinH H)(hok:oW x y=true)(hL:L x.ix=none)(hne:x.ix≠y.ix)
 (h:opD B P x (opD B P y K) env H L):opD B P y (opD B P x K) env H L:=by
 unfold oW aQK at hok;simp only[A4]at hok;obtain⟨⟨hk,hA1,hA2⟩,h6⟩:=hok;have b1:∀ k,x.dst=some k→k∉y.sees∧y.dst≠some k:=fun k hk=>by
  grind
 have b2:∀ k,y.dst=some k→k∉x.sees:=fun k hk=>by
  grind
 have s1:∀(o:DOper) k,k∉o.sees→k∉o.op.sees:=fun o k h hk=>h (F7 _ hk);unfold opD at h ⊢;rw[cZ]at h;obtain⟨gx,hgx,h⟩:=h
 have h':bD B P x.ix x.dst (aDL gx x.op) (fun e h l=>mO (gd y env) fun g=>bD B P y.ix y.dst (aDL g y.op) K e h l) env H L :=
  lN hf (fun u H' L' _ _ hK=>by grind [aKZ]) h
 cases hgy:gd y env with
 | none =>
   simp only[hgy,optW_none]at h';refine(aBt hf ?_ h').elim;cases gx with
   | false=>rfl
   | true =>
     refine aDV fun h7=>?_;have hy:y.guard=none:=by simpa [show x.op.kind=6 from h7]using h6
     simp[gd,hy]at hgy
 | some gy =>
   simp only[hgy,optW_some]at h' ⊢;refine lN hf (fun u H' L' _ _ hK=>?_) (aNK hf ?_ hL hne (fun k hk=>aDK (s1 _ _ (b1 k hk).1)) (fun k hk=>aDK (s1 _ _ (b2 k hk))) (fun k hk=>(b1 k hk).2) h');·grind [aKZ,optW_some]
   ·cases gx with
    | false=>rfl
    | true =>
      cases gy with
      | true=>exact hk
      | false =>
        have l1:=aDp x.op;have:x.op.kind≠6:=fun h7=>by
         have hy:y.guard=none:=by simp_all
         simp[gd,hy]at hgy
        simp only[aJL,AAe,aD6];left;have:x.op.kind=0∨x.op.kind=1∨x.op.kind=2∨x.op.kind=3∨x.op.kind=4∨x.op.kind=5∨x.op.kind=7:=AM
        rcases this with h|h|h|h|h|h|h<;>simp[h,lU]

theorem aZY{y:DOper}{post:List DOper}{K:aH→Hp→Prop}:∀(pre:List DOper)(env:aH)(H:Hp)(L:yP),FinH H→(∀ x∈pre,oW x y=true) →
 ((pre++y::post).map (·.ix)).Nodup→(∀ o∈pre++y::post,L o.ix=none)→RD B P (pre++y::post) K env H L→opD B P y (RD B P (pre++post) K) env H L:=by
 intro pre;induction pre with
 | nil=>intro env H L _ _ _ _ h;exact h
 | cons x pre ih =>
   intro env H L hf hs hnd hL h;simp only[H9,F8,N4]at hnd;refine aZB hf (hs x (by simp)) (hL x (by simp)) (fun e=>hnd.1 (by simp[e])) ?_;refine aPg hf (fun e H' L' hf' hl hK=>ih e H' L' hf' (fun z hz=>hs z (by simp[hz])) hnd.2 (fun o ho=>?_) hK) h
   grind

theorem aKL{o:DOper}{K:KL}{env:aH}{H:Hp}{L:yP}(h:opD B P o K env H L):opW B P o (fun e h=>∃ L',(∀ j,j≠o.ix→L' j=L j)∧K e h L') env H:=by
 unfold opD at h;rw[cZ]at h;obtain⟨g,hg,h⟩:=h;unfold opW;rw[hg];cases g with
 | false =>
   simp only;have:bD B P o.ix o.dst (.mv (.c (.tup []))) K env H L:=h;rw[cG rfl]at this;exact⟨L,fun _ _=>rfl,this⟩
 | true =>
   simp only;have h:bD B P o.ix o.dst o.op K env H L:=h;revert h;generalize o.op=op;intro h;cases op
   case store n p x l=>exact cN (fun H' hK=>⟨L,fun _ _=>rfl,hK⟩) h.2
   case copy s x y=>exact cN (fun r hK=>⟨L,fun _ _=>rfl,hK⟩) h
   case mapup q m k x=>exact cN (fun r hK=>⟨L,fun _ _=>rfl,hK⟩) h
   case nxts x=>exact cN (fun r hK=>⟨L,fun _ _=>rfl,hK⟩) h
   case callf q f xs l =>
    cases q with
    | true=>obtain⟨v,h1,h2⟩:=h;exact⟨v,h1,L,fun _ _=>rfl,h2⟩
    | false=>exact CallV.mono h fun v H' hq=>⟨L,fun _ _=>rfl,hq.2⟩
   all_goals
    rw[cG rfl]at h;rw[rK rfl];exact cN (fun e=>aFv fun e' h' hK=>⟨_,fun j hj=>oK hj,hK⟩) h

variable{P:Program}{B:Base}{F:Nat→Prop}{w:World}{H:Hp}{env:aH}{a:Act}

theorem aAL{α β:Type}{f:α→Option β}:∀{l:List α}{r:List β},l.mapM f=some r→r.length=l.length∧∀(i:Nat)(y:β),r[i]?=some y→∃ x,l[i]?=some x∧f x=some y:=by
 intro l;induction l with
 | nil=>grind
 | cons x l ih =>
   intro r h;rw[aA4]at h;cases hx:f x with
   | none=>grind
   | some y =>
     rw[hx]at h;cases hl:l.mapM f with
     | none=>grind
     | some ys =>
       grind

theorem oN{ops:Array Oper}{i:Nat}{o:Oper}{d:DOper}(ho:ops[i]?=some o)(h:aFw P ops o=some d):Reads P ops i d:=by
 unfold aFw at h;split at h;·simp at h
 ·rename_i hnd
  refine⟨o,ho,?_⟩
  grind

theorem vA{ops:Array Oper}{l:List DOper}(h:aQl P ops=some l):l.length=ops.size∧∀ i d,l[i]?=some d→Reads P ops i d:=by
 unfold aQl at h;obtain⟨h1,h2⟩:=aAL h
 grind [oN]

def aDN(N:Nat)(d:DOper):Prop:=(∀ k,d.dst=some k→k<N)∧d.op.isComm=false
theorem aDM{N:Nat}{l:List DOper}(h:aQi N l=true):∀ d∈l,∀ k,d.dst=some k→k<N:=by
 intro d hd k hk;unfold aQi at h
 grind

def Ends(N:Nat)(a:Act)(F:Nat→Prop)(w:World)(H:Hp)(K:aH→Hp→Prop)(Q:Act→World→Prop):Prop :=
 ∀ a' F' w' env' H',a'.tmps.size=N→a'.defers=a.defers→Ext F w H F' w' H'→St F' w' H'→RE F' w' env' a'→K env' H'→Q a' w'

theorem Base.Up.step{F':Nat→Prop}{w':World}{H':Hp}(hB:B.Up F w)(st:St F w H)(h:Ext F w H F' w' H'):B.Up F' w':=Go.DL.Up.trans hB (h.up st)

theorem Ends.step{N:Nat}{K:aH→Hp→Prop}{Q:Act→World→Prop}{a':Act}{F':Nat→Prop}{w':World}{H':Hp}(h:Ends N a F w H K Q)(hd:a'.defers=a.defers)(he:Ext F w H F' w' H') :
 Ends N a' F' w' H' K Q:=fun a'' F'' w'' env'' H'' h1 h2 h3 h4 h5 h6=>h a'' F'' w'' env'' H'' h1 (h2.trans hd) (he.trans h3) h4 h5 h6

theorem aBl{ops:Array Oper}{r:Option Nat}{N:Nat}{Q:Exit→Act→World→Prop}{K:aH→Hp→Prop}:∀(l:List DOper)(i:Nat),(∀ j d,l[j]?=some d→Reads P ops (i+j) d)→(∀ d∈l,aDN N d) →
 ∀(F:Nat→Prop)(w:World)(H:Hp)(env:aH)(a:Act),a.tmps.size=N→B.Up F w→St F w H→RE F w env a→RSA B P l K env H→Ends N a F w H K (Q .normal) →
 wpOpsIn (FW r) 0 P ops Q (List.range' i l.length) a w:=by
 intro l;induction l with
 | nil=>intro i _ _ F w H env a hsz hB st re h hQ;exact hQ a F w env H hsz rfl (Ext.refl _ _ _) st re h
 | cons d l ih =>
   intro i hr hd F w H env a hsz hB st re h hQ;rw[D9,aB1,wpOpsIn_cons];have next:∀ a' F' w' env' H',a'.tmps.size=N→a'.defers=a.defers→Ext F w H F' w' H'→St F' w' H'→RE F' w' env' a'→RSA B P l K env' H'→wpOpsIn (FW r) 0 P ops Q (List.range' (i+1) l.length) a' w':=by
    intro a' F' w' env' H' h1 h2 h3 h4 h5 h6;exact ih (i+1) (fun j d' hj=>by have:=hr (j+1) d' (by grind);grind) (fun d' hd'=>hd d' (by simp[hd'])) F' w' H' env' a' h1 (hB.step st h3) h4 h5 h6 (hQ.step h2 h3)
   rcases h with h|⟨hg,s,bts,x,y,e1,e2,k1,k2,k3,k4⟩;·exact aCk (hr 0 d rfl) (hd d (by simp)).2 (hd d (by simp)).1 hsz hB st re h next
   ·exact aVo (hr 0 d rfl) (hd d (by simp)).1 hsz st re hg k1 k2 k3 k4 next

theorem aJj{ops:Array Oper}{r:Option Nat}{N:Nat}{Q:Exit→Act→World→Prop}{K:aH→Hp→Prop}:∀(l:List DOper)(i:Nat),(∀ j d,l[j]?=some d→Reads P ops (i+j) d)→(∀ d∈l,aDN N d) →
 ∀(F:Nat→Prop)(w:World)(H:Hp)(env:aH)(a:Act),a.tmps.size=N→B.Up F w→St F w H→RE F w env a→RS B P l K env H→Ends N a F w H K (Q .normal) →
 wpOpsIn (FW r) 0 P ops Q (List.range' i l.length) a w :=
 fun l i hr hd F w H env a hsz hB st re h hQ=>aBl l i hr hd F w H env a hsz hB st re (RS.alt h) hQ








theorem Reads.congr{ops:Array Oper}{i:Nat}{d e:DOper}(h:Reads P ops i d)(h1:e.dst=d.dst)(h2:e.guard=d.guard)(h3:e.op=d.op∨(∃ n p x l l',d.op = .store n p x l∧e.op = .store n p x l')∨(∃ q q' f xs l l',d.op = .callf q f xs l∧e.op = .callf q' f xs l')):Reads P ops i e:=by
 obtain⟨o,ho,g1,g2,g3,g4⟩:=h.get;refine⟨o,ho,h1.trans g1,by grind,?_,g4⟩;rcases h3 with h3|⟨n,p,x,l,l',h3,h4⟩|⟨q,q',f,xs,l,l',h3,h4⟩;·grind
 ·rw[h3]at g3
  rw[h4];rcases g3 with g3|⟨n',p',x',l'',g3,g5⟩|⟨q,f,xs,l'',g3,g5⟩
  ·unfold xZ at g3
   cases hc:bZ P o with
   | none=>grind
   | some y =>
     rw[hc]at g3;simp at g3;subst g3;rcases mE hc rfl rfl with ⟨t,pa,xa,n',p',x',_,_,_,_,hh⟩|⟨t,m,k,xx,m',k',x',kt,e,_,_,_,_,_,_,_,hh⟩|⟨_,_,_,_,hh⟩|⟨c,_,hh⟩
     ·simp only[DOp.store.injEq]at hh;obtain⟨rfl,rfl,rfl,rfl⟩:=hh
      exact .inr (.inl ⟨_,_,_,l',by unfold xZ;rw[hc];rfl,rfl⟩)
     ·simp at hh
     ·simp at hh
     ·rcases uN hh rfl with ⟨_,_,_,_,_,_,_,_,_,_,_,_,_,_,_,hh⟩|⟨_,_,_,_,_,_,hh⟩|⟨_,_,_,_,_,hh⟩<;>simp at hh
  all_goals grind
 ·rw[h3]at g3
  rw[h4];rcases g3 with g3|⟨n',p',x',l'',g3,g5⟩|⟨q1,f1,xs1,l'',g3,g5⟩
  ·unfold xZ at g3
   cases hc:bZ P o with
   | none=>grind
   | some y =>
     rw[hc]at g3;simp at g3;subst g3;rcases mE hc rfl rfl with ⟨t,pa,xa,n',p',x',_,_,_,_,hh⟩|⟨t,m,k,xx,m',k',x',kt,e,_,_,_,_,_,_,_,hh⟩|⟨_,_,_,_,hh⟩|⟨c,_,hh⟩;·simp at hh
     ·simp at hh
     ·simp at hh
     ·rcases uN hh rfl with ⟨_,_,_,_,_,_,_,_,_,_,_,_,_,_,_,hh⟩|⟨_,_,_,_,_,_,hh⟩|⟨_,_,_,_,_,hh⟩
      ·simp at hh
      ·simp only[DOp.callf.injEq]at hh;obtain⟨rfl,rfl,rfl,rfl⟩:=hh
       exact .inr (.inr ⟨q',_,_,l',by unfold xZ;rw[hc];rfl,rfl⟩)
      ·simp only[DOp.callf.injEq]at hh;obtain⟨rfl,rfl,rfl,rfl⟩:=hh
       exact .inr (.inr ⟨q',_,_,l',by unfold xZ;rw[hc];rfl,rfl⟩)
  all_goals grind

theorem aHn{ops:Array Oper}{cl:List Nat}{b r:List DOper}{o:DOper}(h:Reads P ops o.ix o):Reads P ops (aEK cl b r o).ix (aEK cl b r o)∧(aEK cl b r o).dst=o.dst:=by
 unfold aEK;simp only;split
 ·rename_i n p x l hop
  exact⟨h.congr rfl rfl (.inr (.inl ⟨_,_,_,_,_,hop,rfl⟩)),rfl⟩
 ·rename_i q f xs l hop
  split;·exact⟨h.congr rfl rfl (.inr (.inr ⟨_,_,_,_,_,_,hop,rfl⟩)),rfl⟩
  ·exact⟨h.congr rfl rfl (.inr (.inr ⟨_,_,_,_,_,_,hop,rfl⟩)),rfl⟩
 grind

theorem aND{cl:List Nat}:∀(l b:List DOper)(d:DOper),d∈aNE cl b l→∃ o b' r',o∈l∧d=aEK cl b' r' o:=by
 intro l;induction l with
 | nil=>simp[aNE]
 | cons o l ih =>
   grind [aNE]

theorem aBu{N:Nat}{ops:Array Oper}{l:List DOper}(h:sK P N ops true=some l) :
 (∀ d∈l,Reads P ops d.ix d∧aDN N d)∧wF (ops.toList.map cH)=true∧zV (kT (ops.toList.map cH)) l=true∧l.length=ops.size∧aDe (l.map (·.ix))=true ∧
 ∀ i,i<ops.size→i∈l.map (·.ix):=by
 unfold sK at h;split at h;·simp at h
 ·rename_i l0 hl0
  obtain⟨hlen,hreads⟩:=vA hl0;split at h;·simp at h
  ·rename_i hdst
   simp only[M9,aF4]at hdst;have hcomm:∀ o∈l0,o.op.isComm=false:=fun _ _=>rfl;simp only[AAe]at h;split at h
   ·rename_i hc
    simp only[oSI]at h;simp only[A4,beq_iff_eq,H8,N7,List.contains_iff_mem]at hc;obtain⟨⟨⟨⟨c1,c2⟩,c3⟩,c4⟩,c5⟩:=hc;rw[h]at c2 c3 c4 c5;refine⟨fun d hd=>?_,c1,c2,by grind,c4,fun i hi=>c5 i AM⟩;rw[←h]at hd;obtain⟨o,b',r',h1,h2⟩:=aND _ _ _ hd;unfold aLq at h1;rw[aB2]at h1;obtain⟨_,_,h1⟩:=h1;have h3:o∈aDd l0:=(List.mem_filter.1 h1).1;unfold aDd at h3;rw[G1]at h3;obtain⟨⟨o0,i⟩,h3,h4⟩:=h3;have h5:l0[i]?=some o0:=by
     grind
    have hro:Reads P ops o.ix o:=by
     subst h4;exact(hreads i o0 h5).congr rfl rfl (.inl rfl)
    obtain⟨h6,h7⟩:=aHn (cl:=kT (ops.toList.map cH)) (b:=b') (r:=r') hro;rw[h2];refine⟨h6,fun k hk=>?_,?_⟩
    ·rw[h7]at hk
     subst h4;exact aDM hdst o0 (A5 h5) k hk
    rfl
   ·simp at h

theorem pB(afs:List (List Nat))(S:Nat→Prop)(hS:∀ i,S i→∀ m∈afs.getD i [],S m) :
 ∀ i j,(∀ m∈afs.getD i [],S m)→((kT afs).getD i 0).testBit j=true→S j:=by
 have bits:∀(acc:List Nat),(∀ i j,(∀ m∈afs.getD i [],S m)→(acc.getD i 0).testBit j=true→S j)→∀(o:List Nat)(s:Nat)(j:Nat),(∀ m∈o,S m) →
  (o.foldl (fun s j=>s|||(2^j|||acc.getD j 0)) s).testBit j=true→s.testBit j=true∨S j:=by
  intro acc hacc o;induction o with
  | nil=>grind
  | cons m o ih =>
    intro s j ho h;rw[aD3]at h;rcases ih _ j (fun m hm=>ho m (by simp[hm])) h with h1|h1;all_goals grind
 have main:∀(rest:List (List Nat))(acc:List Nat),(∀ k,rest.getD k []=afs.getD (acc.length+k) [])→(∀ i j,(∀ m∈afs.getD i [],S m)→(acc.getD i 0).testBit j=true→S j) →
  ∀ i j,(∀ m∈afs.getD i [],S m)→((rest.foldl (fun acc o=>acc++[o.foldl (fun s j=>s|||(2^j|||acc.getD j 0)) 0]) acc).getD i 0).testBit j=true→S j:=by
  intro rest;induction rest with
  | nil=>grind
  | cons o rest ih =>
    intro acc hr hacc;rw[aD3];refine ih _ (fun k=>?_) fun i j hi hb=>?_
    ·have:=hr (k+1)
     grind
    ·by_cases h1:i<acc.length
     ·refine hacc i j hi ?_
      grind
     ·by_cases h2:i=acc.length
      ·subst h2
       rw[C7,G5 (A6 _)]at hb;simp only[J5,D4,G7]at hb;have ho:∀ m∈o,S m:=by
        have:=hr 0
        grind
       rcases bits acc hacc o 0 j ho hb with h3|h3;all_goals grind
      grind
 grind [kT]

theorem aAa:∀{l:List Nat},aDe l=true→l.Nodup:=by
 intro l;induction l with
 | nil=>grind
 | cons x r ih =>
   grind [aDe]

def aBx(cl:List Nat)(x y:DOper):Prop:=(cl.getD y.ix 0).testBit x.ix=true∨oW x y=true
theorem lJ{cl:List Nat}:∀{l:List DOper},zV cl l=true→l.Pairwise (aBx cl):=by
 intro l;induction l with
 | nil=>intro _;simp
 | cons x r ih =>
   simp_all [zV,aBx]

theorem aJF:∀(l:List DOper),l≠[]→∃ y∈l,∀ z∈l,y.ix≤z.ix:=by
 intro l;induction l with
 | nil=>grind
 | cons x r ih =>
   intro _;by_cases hr:r=[];·simp_all
   grind

structure Drawn(P:Program)(N:Nat)(ops:Array Oper)(l:List DOper)(listed:Array Bool):Prop where
 reads:∀ y∈l,Reads P ops y.ix y∧aDN N y
 open_:∀ y∈l,listed.getD y.ix true=false
 all:∀ i,listed.getD i true=false→∃ y∈l,y.ix=i
 nodup:(l.map (·.ix)).Nodup
 pairs:l.Pairwise (aBx (kT (ops.toList.map cH)))
 closed:∀ i,listed.getD i false=true→∀ m∈(ops.toList.map cH).getD i [],listed.getD m false=true
 size:listed.size=ops.size

theorem aHW{o:Oper}{m:Nat}:m∈cH o↔∃ e∈o.after,Region.binds .any e=true∧e.on=m:=by
 grind [cH]

theorem qV{ops:Array Oper}{j:Nat}{listed:Array Bool}:j∈Region.ready .any ops listed ↔
 listed.getD j true=false∧j<ops.size∧∀ m∈(ops.toList.map cH).getD j [],listed.getD m false=true:=by
 grind [mem_ready,aHW]

theorem aMq{listed:Array Bool}{i:Nat}(h:i<listed.size):listed.getD i true=listed.getD i false:=by
 simp[h]

theorem Drawn.ready_ne{N:Nat}{ops:Array Oper}{l:List DOper}{listed:Array Bool}(hd:Drawn P N ops l listed)(ha:wF (ops.toList.map cH)=true)(hl:l≠[]):Region.ready .any ops listed≠[]:=by
 obtain⟨y,hy,hmin⟩:=aJF l hl;obtain⟨o,ho,_⟩:=(hd.reads y hy).1.get;have hlt:y.ix<ops.size:=(G3.1 ho).1;have:y.ix∈Region.ready .any ops listed:=by
  rw[qV];refine⟨hd.open_ y hy,hlt,fun m hm=>?_⟩;have hm':m<y.ix:=by
   unfold wF at ha
   grind
  rw[←aMq (by rw[hd.size];omega)];cases hx:listed.getD m true with
  | true=>rfl
  | false =>
    obtain⟨z,hz,hzm⟩:=hd.all m hx
    grind
 grind

theorem aJk{ops:Array Oper}{r:Option Nat}{N:Nat}{Q:Exit→Act→World→Prop}{K:aH→Hp→Prop}(ha:wF (ops.toList.map cH)=true) :
 ∀(fuel:Nat)(l:List DOper)(listed:Array Bool)(F:Nat→Prop)(w:World)(H:Hp)(env:aH)(a:Act)(L:yP),l.length≤fuel→Drawn P N ops l listed→(∀ o∈l,L o.ix=none) →
   a.tmps.size=N→B.Up F w→St F w H→RE F w env a→RD B P l K env H L→Ends N a F w H K (Q .normal)→wpAnyIn (FW r) 0 P .any ops Q fuel listed a w:=by
 intro fuel;induction fuel with
 | zero =>
   intro l listed F w H env a L hl hd _ hsz hB st re h hQ;have hnil:l=[]:=aC0.1 AM;subst hnil;refine⟨?_,hQ a F w env H hsz rfl (Ext.refl _ _ _) st re h⟩;cases hr:Region.ready .any ops listed with
   | nil=>rfl
   | cons i rs =>
     have hi:i∈Region.ready .any ops listed:=by grind
     obtain⟨y,hy,_⟩:=hd.all i (qV.1 hi).1;simp at hy
 | succ fuel ih =>
   intro l listed F w H env a L hl hd hL hsz hB st re h hQ;refine⟨fun hr=>?_,fun i hi=>?_⟩
   ·have hnil:l=[]:=by
     cases l with
     | nil=>rfl
     | cons x r=>exact absurd hr (hd.ready_ne ha (by simp))
    subst hnil;exact hQ a F w env H hsz rfl (Ext.refl _ _ _) st re h
   ·obtain⟨h1,hlt,h2⟩:=qV.1 hi
    obtain⟨y,hy,rfl⟩:=hd.all i h1;obtain⟨pre,post,rfl⟩:=aE4 hy;have hsw:∀ x∈pre,oW x y=true:=fun x hx=>by
     have hp:=(aD2.1 hd.pairs).2.2 x hx y (by simp);rcases hp with hp|hp
     ·exfalso
      have:=pB _ (fun i=>listed.getD i false=true) hd.closed y.ix x.ix h2 hp;have hx':=hd.open_ x (by simp[hx])
      grind
     ·exact hp
    have hp:=aZY pre env H L st.fin hsw hd.nodup hL h;refine aCk (hd.reads y hy).1 (hd.reads y hy).2.2 (hd.reads y hy).2.1 hsz hB st re (aKL hp) ?_;rintro a' F' w' env' H' k1 k2 k3 k4 k5 ⟨L',k6,k7⟩;have hsub:(pre++post).Sublist (pre++y::post):=O4 (O9 _ _) _;have hnd:∀ z∈pre++post,z.ix≠y.ix:=by
     intro z hz e;have hn:=hd.nodup
     grind
    refine ih (pre++post) _ F' w' H' env' a' L' (by grind) ⟨fun z hz=>hd.reads z (hsub.mem hz),fun z hz=>?_,fun j hj=>?_,hd.nodup.sublist (hsub.map _),hd.pairs.sublist hsub,fun j hj m hm=>?_,by simp[hd.size]⟩
     (fun z hz=>by grind) k1 (hB.step st k3) k4 k5 k7 (hQ.step k2 k3)
    ·rw[getD_set_ne true (Ne.symm (hnd z hz))];exact hd.open_ z (hsub.mem hz)
    ·by_cases hjy:j=y.ix
     ·simp_all
     ·rw[getD_set_ne true (Ne.symm hjy)]at hj
      obtain⟨z,hz,hzj⟩:=hd.all j hj
      grind
    ·by_cases hjy:j=y.ix
     ·grind [getD_set_true]
     ·rw[getD_set_ne false (Ne.symm hjy)]at hj
      exact getD_set_true (hd.closed j hj m hm)

theorem aBf{ops:Array Oper}{r:Option Nat}{N:Nat}{draw:Bool}{id:Nat}{l:List DOper}{Q:Exit→Act→World→Prop}{K:aH→Hp→Prop}(hm:P.follows .mixedOrders=true)
 (hc:sK P N ops draw=some l) (hsz:a.tmps.size=N) (hB:B.Up F w) (st:St F w H) (re:RE F w env a)
 (h:if draw then RD B P l K env H noL else RSA B P l K env H) (hQ:Ends N a F w H K (Q .normal)):(Code.region id ops draw).wpIn (FW r) 0 P Q a w:=by
 cases draw with
 | false =>
   unfold sK at hc;split at hc;·simp at hc
   ·rename_i l0 hl0
    obtain⟨hlen,hreads⟩:=vA hl0;split at hc;·simp at hc
    ·rename_i hdst
     simp only[M9,aF4]at hdst;simp only[B8,AAd,oSI]at hc;subst hc;refine wpIn_region ?_;rw[←hlen,O0];exact aBl l0 0 (fun j d hj=>by grind) (fun d hd=>⟨aDM hdst d hd,rfl⟩) F w H env a hsz hB st re h hQ
 | true =>
   obtain⟨c1,c2,c3,c4,c5,c6⟩:=aBu hc;refine wpIn_region_any hm ?_;have hlist:∀ i,(Array.replicate ops.size false).getD i true=false↔i<ops.size:=fun i=>by
    by_cases h:i<ops.size<;>simp[h]
   refine aJk c2 ops.size l _ F w.drew H env a noL AM ⟨c1,fun y hy=>?_,fun i hi=>?_,aAa c5,lJ c3,fun i hi=>?_,by simp⟩ (fun _ _=>rfl) hsz
    (hB.step st (iW F w H)) (qM st) (re.up ((iW F w H).up st)) h (hQ.step rfl (iW F w H))
   ·obtain⟨o,ho,_⟩:=(c1 y hy).1.get
    grind
   all_goals grind

theorem qO{ops:Array Oper}{r:Option Nat}{N:Nat}{draw:Bool}{id:Nat}{l:List DOper}{Q:Exit→Act→World→Prop}{K:aH→Hp→Prop}(hm:P.follows .mixedOrders=true)
 (hc:sK P N ops draw=some l) (hsz:a.tmps.size=N) (hB:B.Up F w) (st:St F w H) (re:RE F w env a)
 (h:if draw then RD B P l K env H noL else RS B P l K env H) (hQ:Ends N a F w H K (Q .normal)):(Code.region id ops draw).wpIn (FW r) 0 P Q a w :=
 aBf hm hc hsz hB st re (by
  cases draw with
  | true=>exact h
  | false=>exact RS.alt h) hQ


def Mk1(n0:Nat)(F:Nat→Prop)(H:Hp)(w:World)(d:Deferred):Prop:=∃ D,d={ target:=.collected D,args := #[] }∧n0≤D∧w.heap[D]?=some (.deferred (some []))∧¬F D∧H D=none
structure Mk(n0:Nat)(T:List Deferred)(F:Nat→Prop)(H:Hp)(w:World)(ds:List Deferred):Prop where
 ex:∃ ms,ds=ms++T∧ms.Nodup∧∀ d∈ms,Mk1 n0 F H w d

theorem Mk.ext{n0:Nat}{T ds:List Deferred}{F':Nat→Prop}{w':World}{H':Hp}(h:Mk n0 T F H w ds)(he:Ext F w H F' w' H'):Mk n0 T F' H' w' ds:=by
 obtain⟨ms,e,hn,hm⟩:=h.ex;refine⟨ms,e,hn,fun d hd=>?_⟩;obtain⟨D,h1,h2,h3,h4,h5⟩:=hm d hd;have hlt:D<w.heap.size:=(G3.1 h3).1;refine⟨D,h1,h2,by rw[he.same D hlt (by simp[sX,h5])];exact h3,fun h6=>?_,?_⟩
 ·rcases he.fnew D h6 with h7|h7|h7
  all_goals grind
 ·cases hx:H' D with
  | none=>rfl
  | some x =>
    rcases he.hdom D (by simp[hx])with h7|h7;all_goals grind
theorem Mk.nil{n0:Nat}{T:List Deferred}:Mk n0 T F H w T:=⟨[],rfl,aA7,fun d hd=>by simp at hd⟩
theorem Mk.sub{n0:Nat}{T ds:List Deferred}{H':Hp}(h:Mk n0 T F H w ds)(hs:∀ b x,H' b=some x→H b=some x):Mk n0 T F H' w ds:=by
 obtain⟨ms,e,hn,hm⟩:=h.ex;refine⟨ms,e,hn,fun d hd=>?_⟩;obtain⟨D,h1,h2,h3,h4,h5⟩:=hm d hd;refine⟨D,h1,h2,h3,h4,?_⟩;cases hx:H' D with
 | none=>rfl
 | some x=>grind
theorem Mk.cons{n0 D:Nat}{T ds:List Deferred}(h:Mk n0 T F H w ds)(hn:∀ d,Mk1 n0 F H w d→d≠{ target:=.collected D,args := #[] }){F':Nat→Prop}{w':World}{H':Hp}(he:Ext F w H F' w' H')
 (h1:Mk1 n0 F' H' w' { target:=.collected D,args := #[] }):Mk n0 T F' H' w' ({ target:=.collected D,args := #[] }::ds):=by
 obtain⟨ms,rfl,hnd,hm⟩:=h.ex;obtain⟨ms',e',hnd',hm'⟩:=(h.ext he).ex;have:ms'=ms:=by simp_all
 subst this;refine⟨{ target:=.collected D,args := #[] }::ms',rfl,N4.2 ⟨fun hd=>hn _ (hm _ hd) rfl,hnd⟩,fun d hd=>?_⟩
 grind

inductive DX where
 | normal
 | exit (id:Nat)
 | ret
 | goto (l:Nat)
deriving DecidableEq
abbrev QC:=DX→aH→Hp→Prop

def Land(N n0:Nat)(T:List Deferred)(F:Nat→Prop)(w:World)(H:Hp)(Q:QC):Exit→Act→World→Prop:=fun e a' w' =>
 ∃ x env' F' H',(match e with | .normal=>x=DX.normal | .exit id=>x = .exit id | .ret=>x = .ret | .goto l=>x = .goto l|_=>False) ∧
   a'.tmps.size=N∧Ext F w H F' w' H'∧St F' w' H'∧RE F' w' env' a'∧Mk n0 T F' H' w' a'.defers∧Q x env' H'

def W(B:Base)(P:Program)(r:Option Nat)(N:Nat)(c:Code)(Q:QC)(env:aH)(H:Hp):Prop :=
 ∀(F:Nat→Prop)(w:World)(a:Act)(n0:Nat)(T:List Deferred),B.Up F w→n0≤w.heap.size→a.tmps.size=N→St F w H→RE F w env a→Mk n0 T F H w a.defers→c.wpIn (FW r) 0 P (Land N n0 T F w H Q) a w

variable{r:Option Nat}{N:Nat}{Q Q':QC}{n0:Nat}{T:List Deferred}

theorem Land.mono(h:∀ e env H,Q e env H→Q' e env H){e:Exit}{a':Act}{w':World}(hl:Land N n0 T F w H Q e a' w'):Land N n0 T F w H Q' e a' w':=by
 obtain⟨x,env',F',H',h1,h2,h3,h4,h5,h6,h7⟩:=hl;exact⟨x,env',F',H',h1,h2,h3,h4,h5,h6,h _ _ _ h7⟩

theorem Land.step{F':Nat→Prop}{w':World}{H':Hp}(he:Ext F w H F' w' H'){e:Exit}{a':Act}{w'':World}(hl:Land N n0 T F' w' H' Q e a' w''):Land N n0 T F w H Q e a' w'':=by
 obtain⟨x,env',F'',H'',h1,h2,h3,h4,h5,h6,h7⟩:=hl;exact⟨x,env',F'',H'',h1,h2,he.trans h3,h4,h5,h6,h7⟩

theorem W.mono{c:Code}(h:W B P r N c Q env H)(hq:∀ e env H,Q e env H→Q' e env H):W B P r N c Q' env H :=
 fun F w a n0 T h1 h2 h3 h4 h5 h6=>wpIn_mono (h F w a n0 T h1 h2 h3 h4 h5 h6) fun _ _ _=>Land.mono hq

theorem qA{x:DX}{e:Exit}(hx:match e with | .normal=>x=DX.normal | .exit id=>x = .exit id | .ret=>x = .ret | .goto l=>x = .goto l|_=>False)(h3:a.tmps.size=N)(h4:St F w H)(h5:RE F w env a)(h6:Mk n0 T F H w a.defers)
 (h:Q x env H):Land N n0 T F w H Q e a w:=⟨x,env,F,H,hx,h3,Ext.refl _ _ _,h4,h5,h6,h⟩

theorem W.skip(h:Q .normal env H):W B P r N .skip Q env H:=fun F w a n0 T h1 h2 h3 h4 h5 h6=>wpIn_skip (qA rfl h3 h4 h5 h6 h)
theorem W.label{l:Nat}(h:Q .normal env H):W B P r N (.label l) Q env H:=fun F w a n0 T h1 h2 h3 h4 h5 h6=>wpIn_label (qA rfl h3 h4 h5 h6 h)
theorem W.exit{id:Nat}(h:Q (.exit id) env H):W B P r N (.exit id) Q env H:=fun F w a n0 T h1 h2 h3 h4 h5 h6=>wpIn_exit (qA rfl h3 h4 h5 h6 h)
theorem W.goto{l:Nat}(h:Q (.goto l) env H):W B P r N (.goto l) Q env H:=fun F w a n0 T h1 h2 h3 h4 h5 h6=>wpIn_goto (qA rfl h3 h4 h5 h6 h)
theorem W.ret(h:Q .ret env H):W B P r N .ret Q env H:=fun F w a n0 T h1 h2 h3 h4 h5 h6=>wpIn_ret (qA rfl h3 h4 h5 h6 h)

def QC.then(K:aH→Hp→Prop)(Q:QC):QC:=fun x env H=>match x with
 | .normal=>K env H
 | x=>Q x env H

theorem W.seq{x y:Code}(h:W B P r N x (QC.then (W B P r N y Q) Q) env H):W B P r N (.seq x y) Q env H:=by
 intro F w a n0 T h1 h2 h3 h4 h5 h6;refine wpIn_seq (wpIn_mono (h F w a n0 T h1 h2 h3 h4 h5 h6) ?_);rintro e a' w' ⟨x,env',F',H',k1,k2,k3,k4,k5,k6,k7⟩;cases e with
 | normal =>
   simp only at k1;subst k1;exact wpIn_mono (k7 F' w' a' n0 T (h1.step h4 k3) (I0 h2 k3.le) k2 k4 k5 k6) fun _ _ _=>Land.step k3
 | exit id=>simp only at k1;subst k1;exact⟨_,env',F',H',rfl,k2,k3,k4,k5,k6,k7⟩
 | ret=>simp only at k1;subst k1;exact⟨_,env',F',H',rfl,k2,k3,k4,k5,k6,k7⟩
 | goto l=>simp only at k1;subst k1;exact⟨_,env',F',H',rfl,k2,k3,k4,k5,k6,k7⟩
 | panic c=>grind
 | outgrown=>grind

theorem W.cond{c:Operand}{c':AO}{x y:Code}{t:Bool}(hc:co c=some c')(he:aL env c' = .bool t)(h:W B P r N (if t then x else y) Q env H):W B P r N (.cond c x y) Q env H:=by
 intro F w a n0 T h1 h2 h3 h4 h5 h6;have hv:=bB h5 hc;rw[he]at hv;have:a.eval c = .bool t:=by
  generalize a.eval c=z at hv;cases hv;rfl
 exact wpIn_cond this (h F w a n0 T h1 h2 h3 h4 h5 h6)

def QC.block(id:Nat)(Q:QC):QC:=fun x env H=>match x with
 | .exit j=>if j=id then Q .normal env H else Q (.exit j) env H
 | x=>Q x env H

theorem W.block{id:Nat}{x:Code}(h:W B P r N x (QC.block id Q) env H):W B P r N (.block id x) Q env H:=by
 intro F w a n0 T h1 h2 h3 h4 h5 h6;refine wpIn_block (wpIn_mono (h F w a n0 T h1 h2 h3 h4 h5 h6) ?_);rintro e a' w' ⟨x,env',F',H',k1,k2,k3,k4,k5,k6,k7⟩;cases e with
 | normal=>simp only at k1;subst k1;exact⟨_,env',F',H',rfl,k2,k3,k4,k5,k6,k7⟩
 | exit j =>
   simp only at k1;subst k1;simp only[Exit.inBlock];by_cases hj:j=id;·simp only[QC.block,hj,AAe]at k7 ⊢;exact⟨_,env',F',H',rfl,k2,k3,k4,k5,k6,k7⟩
   ·simp only[QC.block,hj,AAd]at k7 ⊢;exact⟨_,env',F',H',rfl,k2,k3,k4,k5,k6,k7⟩
 | ret=>simp only at k1;subst k1;exact⟨_,env',F',H',rfl,k2,k3,k4,k5,k6,k7⟩
 | goto l=>simp only at k1;subst k1;exact⟨_,env',F',H',rfl,k2,k3,k4,k5,k6,k7⟩
 | panic c=>grind
 | outgrown=>grind

theorem aDn(good:Nat→Act→World→Prop):∃ μ:Act→World→Nat,∀ a w,(∃ m,good m a w)→good (μ a w) a w∧∀ k,good k a w→μ a w≤k:=by
 have hex:∀ a w,∃ m,(∃ m,good m a w)→good m a w∧∀ k,good k a w→m≤k:=by
  intro a w;by_cases h:∃ m,good m a w
  ·obtain⟨m,hm⟩:=h
   induction m using Nat.strongRecOn with
   | _ m ih =>
     by_cases hk:∃ k,k<m∧good k a w;·obtain⟨k,hk1,hk2⟩:=hk;exact ih k hk1 hk2
     ·exact⟨m,fun _=>⟨hm,fun k hk'=>Nat.le_of_not_lt fun hlt=>hk ⟨k,hlt,hk'⟩⟩⟩
  ·exact⟨0,fun h'=>absurd h' h⟩
 exact⟨fun a w=>(hex a w).choose,fun a w h=>(hex a w).choose_spec h⟩

theorem W.loop{x:Code}(I:Nat→aH→Hp→Prop){m:Nat}(hI:I m env H)(hr:∀ m env H,I m env H→W B P r N x (QC.then (fun env' H'=>∃ m',m'<m∧I m' env' H') Q) env H):W B P r N (.loop x) Q env H:=by
 intro F w a n0 T h1 h2 h3 h4 h5 h6
 let good:Nat→Act→World→Prop:=fun m a' w'=>∃ env' F' H',a'.tmps.size=N∧Ext F w H F' w' H'∧St F' w' H'∧RE F' w' env' a'∧Mk n0 T F' H' w' a'.defers∧I m env' H'
 obtain⟨μ,hμ⟩:=aDn good;refine wpIn_loop (fun a' w'=>∃ m,good m a' w') μ ⟨m,env,F,H,h3,Ext.refl _ _ _,h4,h5,h6,hI⟩ ?_;intro a' w' hg;obtain⟨env',F',H',k2,k3,k4,k5,k6,k7⟩:=(hμ a' w' hg).1;refine wpIn_mono (hr _ env' H' k7 F' w' a' n0 T (h1.step h4 k3) (I0 h2 k3.le) k2 k4 k5 k6) ?_;rintro e a'' w'' ⟨x,env'',F'',H'',l1,l2,l3,l4,l5,l6,l7⟩;cases e with
 | normal =>
   simp only at l1;subst l1;obtain⟨m',hlt,hI'⟩:=l7;have hg':good m' a'' w'':=⟨env'',F'',H'',l2,k3.trans l3,l4,l5,l6,hI'⟩;exact⟨⟨m',hg'⟩,aB9 ((hμ a'' w'' ⟨m',hg'⟩).2 m' hg') hlt⟩
 | exit j=>simp only at l1;subst l1;exact⟨_,env'',F'',H'',rfl,l2,k3.trans l3,l4,l5,l6,l7⟩
 | ret=>simp only at l1;subst l1;exact⟨_,env'',F'',H'',rfl,l2,k3.trans l3,l4,l5,l6,l7⟩
 | goto l=>simp only at l1;subst l1;exact⟨_,env'',F'',H'',rfl,l2,k3.trans l3,l4,l5,l6,l7⟩
 | panic c=>grind
 | outgrown=>grind

theorem aBe{b:Frame}{k:List Item}{cs:List Frame}{c:Code}:step P (lone (b.atR a (.code (.scope c)::k)) cs w) = .next (lone (b.atR a (.code c :: .inScope c::k)) cs w) :=
 step_lone_go (by rfl)
theorem aEg{b:Frame}{k:List Item}{cs:List Frame}{c:Code}:step P (lone (b.atR a (.inScope c::k)) cs w) = .next (lone (b.atR a k) cs w) :=
 step_lone_go (by rfl)

theorem aIQ{F:Fence}{n:Nat}{Q:Exit→Act→World→Prop}{c rest:Code}{l:Nat}(J:Act→World→Prop)(μ:Act→World→Nat)(hf:findLabel c l=some rest)
 (first:c.wpIn F n P (Exit.jump l J Q) a w) (pass:∀ a w,J a w→rest.wpIn F n P (Exit.jump l (fun a' w'=>J a' w'∧μ a' w'<μ a w) Q) a w):(Code.scope c).wpIn F n P Q a w:=by
 intro b k cs hro hb hr;have h0:(lone (b.atR a (.code (.scope c)::k)) cs w).fenced P F:=fenced_calm hb hr rfl;have hg:gotoIn l (.inScope c::k)=some (.code rest :: .inScope c::k):=by simp[gotoIn,hf]
 have out:∀(m:Machine)(e:Exit)(a₁:Act)(w₁:World),(∀ j,e ≠ .goto j)→ArrivesIn (Machine.fenced P F) P m b (.inScope c::k) cs e a₁ w₁→ArrivesIn (Machine.fenced P F) P m b k cs e a₁ w₁:=by
  intro m e a₁ w₁ he harr;cases e with
  | normal=>exact StepsIn.trans harr (.one (fenced_calm hb hr rfl) aEg)
  | exit id=>exact harr
  | goto j=>exact absurd rfl (he j)
  | ret=>exact harr
  | panic ch=>exact harr
  | outgrown=>exact harr
 have key:∀(m:Nat)(a:Act)(w:World),μ a w=m→J a w→∃ e a' w',Q e a' w'∧ArrivesIn (Machine.fenced P F) P (lone (b.atR a (.code rest :: .inScope c::k)) cs w) b k cs e a' w':=by
  intro m;induction m using Nat.strongRecOn with
  | _ m ih =>
    intro a w hn hJ;obtain⟨e,a₁,w₁,hq,harr⟩:=pass a w hJ b (.inScope c::k) cs hro hb hr;by_cases he:∃ j,e = .goto j
    ·obtain⟨j,rfl⟩:=he
     obtain⟨rfl,hJ',hlt⟩:=hq;obtain⟨e₂,a₂,w₂,hq₂,harr₂⟩:=ih _ (hn▸hlt) a₁ w₁ rfl hJ';exact⟨e₂,a₂,w₂,hq₂,.of_steps (harr.1 _ hg) harr₂⟩
    ·refine⟨e,a₁,w₁,?_,out _ _ _ _ (fun j hj=>he ⟨j,hj⟩) harr⟩
     cases e<;>first|exact hq|exact absurd ⟨_,rfl⟩ he
 obtain⟨e,a₁,w₁,hq,harr⟩:=first b (.inScope c::k) cs hro hb hr;by_cases he:∃ j,e = .goto j
 ·obtain⟨j,rfl⟩:=he
  obtain⟨rfl,hJ'⟩:=hq;obtain⟨e₂,a₂,w₂,hq₂,harr₂⟩:=key _ a₁ w₁ rfl hJ';exact⟨e₂,a₂,w₂,hq₂,.of_steps (.head h0 aBe (harr.1 _ hg)) harr₂⟩
 ·refine⟨e,a₁,w₁,?_,.of_steps (.one h0 aBe) (out _ _ _ _ (fun j hj=>he ⟨j,hj⟩) harr)⟩
  cases e<;>first|exact hq|exact absurd ⟨_,rfl⟩ he

def QC.jump(l:Nat)(K:aH→Hp→Prop)(Q:QC):QC:=fun x env H=>match x with
 | .goto j=>j=l∧K env H
 | x=>Q x env H

theorem W.scope{c rest:Code}{l:Nat}(hf:findLabel c l=some rest)(I:Nat→aH→Hp→Prop)(h:W B P r N c (QC.jump l (fun env H=>∃ m,I m env H) Q) env H)
 (hr:∀ m env H,I m env H→W B P r N rest (QC.jump l (fun env' H'=>∃ m',m'<m∧I m' env' H') Q) env H):W B P r N (.scope c) Q env H:=by
 intro F w a n0 T h1 h2 h3 h4 h5 h6
 let good:Nat→Act→World→Prop:=fun m a' w'=>∃ env' F' H',a'.tmps.size=N∧Ext F w H F' w' H'∧St F' w' H'∧RE F' w' env' a'∧Mk n0 T F' H' w' a'.defers∧I m env' H'
 obtain⟨μ,hμ⟩:=aDn good;refine aIQ (fun a' w'=>∃ m,good m a' w') μ hf (wpIn_mono (h F w a n0 T h1 h2 h3 h4 h5 h6) ?_) ?_
 ·rintro e a' w' ⟨x,env',F',H',k1,k2,k3,k4,k5,k6,k7⟩
  cases e<;>simp only at k1
  case goto j=>subst k1;exact⟨k7.1,k7.2.choose,env',F',H',k2,k3,k4,k5,k6,k7.2.choose_spec⟩
  all_goals subst k1;exact⟨_,env',F',H',rfl,k2,k3,k4,k5,k6,k7⟩
 ·intro a' w' hg
  obtain⟨env',F',H',k2,k3,k4,k5,k6,k7⟩:=(hμ a' w' hg).1;refine wpIn_mono (hr _ env' H' k7 F' w' a' n0 T (h1.step h4 k3) (I0 h2 k3.le) k2 k4 k5 k6) ?_;rintro e a'' w'' ⟨x,env'',F'',H'',l1,l2,l3,l4,l5,l6,l7⟩;cases e<;>simp only at l1
  case goto j =>
   subst l1;obtain⟨rfl,m',hlt,hI'⟩:=l7;have hg':good m' a'' w'':=⟨env'',F'',H'',l2,k3.trans l3,l4,l5,l6,hI'⟩;exact⟨rfl,⟨m',hg'⟩,aB9 ((hμ a'' w'' ⟨m',hg'⟩).2 m' hg') hlt⟩
  all_goals subst l1;exact⟨_,env'',F'',H'',rfl,l2,k3.trans l3,l4,l5,l6,l7⟩

theorem W.region{id:Nat}{ops:Array Oper}{draw:Bool}{l:List DOper}(hm:P.follows .mixedOrders=true)(hc:sK P N ops draw=some l)
 (h:if draw then RD B P l (Q .normal) env H noL else RSA B P l (Q .normal) env H):W B P r N (.region id ops draw) Q env H:=by
 intro F w a n0 T h1 h2 h3 h4 h5 h6;refine aBf hm hc h3 h1 h4 h5 h ?_;intro a' F' w' env' H' k1 k2 k3 k4 k5 k6;exact⟨.normal,env',F',H',rfl,k1,k3,k4,k5,by rw[k2];exact h6.ext k3,k6⟩

theorem W.le{env':aH}{c:Code}(hl:Le env env')(h:W B P r N c Q env' H):W B P r N c Q env H :=
 fun F w a n0 T h1 h2 h3 h4 h5 h6=>h F w a n0 T h1 h2 h3 h4 (h5.le hl) h6

def Shift(env:aH)(H:Hp)(env':aH)(H':Hp):Prop:=∀(F:Nat→Prop)(w:World)(a:Act),St F w H→RE F w env a→∃ F',Ext F w H F' w H'∧St F' w H'∧RE F' w env' a

theorem Shift.le{env':aH}(h:Le env env'):Shift env H env' H:=fun F w a st re=>⟨F,Ext.refl _ _ _,st,re.le h⟩
theorem Shift.forget{H':Hp}(h:∀ b x,H' b=some x→H b=some x):Shift env H env H':=fun F w a st re=>⟨F,(Ext.refl _ _ _).forget h,st.forget h,re⟩
theorem Shift.trans{env' env'':aH}{H' H'':Hp}(h:Shift env H env' H')(k:Shift env' H' env'' H''):Shift env H env'' H'':=fun F w a st re=>by
 obtain⟨F',h1,h2,h3⟩:=h F w a st re;obtain⟨F'',k1,k2,k3⟩:=k F' w a h2 h3;exact⟨F'',h1.trans k1,k2,k3⟩

theorem W.shift{env':aH}{H':Hp}{c:Code}(hs:Shift env H env' H')(h:W B P r N c Q env' H'):W B P r N c Q env H:=by
 intro F w a n0 T h1 h2 h3 h4 h5 h6;obtain⟨F',k1,k2,k3⟩:=hs F w a h4 h5;exact wpIn_mono (h F' w a n0 T (h1.step h4 k1) h2 h3 k2 k3 (h6.ext k1)) fun _ _ _=>Land.step k1


def WD(B:Base)(P:Program)(r:Option Nat)(N:Nat)(dc:DCode)(Q:QC)(env:aH)(H:Hp):Prop :=
 ∀ c,bR P N c=some dc→W B P r N c Q env H

theorem WD.mono{c:DCode}(h:WD B P r N c Q env H)(hq:∀ e env H,Q e env H→Q' e env H):WD B P r N c Q' env H:=fun c hc=>(h c hc).mono hq
theorem WD.le{env':aH}{c:DCode}(hl:Le env env')(h:WD B P r N c Q env' H):WD B P r N c Q env H:=fun c hc=>(h c hc).le hl
theorem WD.shift{env':aH}{H':Hp}{c:DCode}(hs:Shift env H env' H')(h:WD B P r N c Q env' H'):WD B P r N c Q env H:=fun c hc=>(h c hc).shift hs
theorem bL{d x:DCode}:aCl d=some x↔∃ l,aSy d=some l∧∃ b,aAn d l=some b∧DCode.scope l d b=x:=by
 simp only[aCl,B9,A3]
theorem WD.skip(h:Q .normal env H):WD B P r N .skip Q env H:=by
 intro c hc;cases c<;>simp only[bR]at hc
 case skip=>exact W.skip h
 all_goals exfalso;first|(simp at hc;done)|((repeat' split at hc)<;>simp[bL]at hc;done)
theorem WD.lab{l:Nat}(h:Q .normal env H):WD B P r N (.lab l) Q env H:=by
 intro c hc;cases c<;>simp only[bR]at hc
 case label l=>exact W.label h
 all_goals exfalso;first|(simp at hc;done)|((repeat' split at hc)<;>simp[bL]at hc;done)
theorem WD.goto{l:Nat}(h:Q (.goto l) env H):WD B P r N (.goto l) Q env H:=by
 intro c hc;cases c<;>simp only[bR]at hc
 case goto j=>simp only[oSI,DCode.goto.injEq]at hc;subst hc;exact W.goto h
 all_goals exfalso;first|(simp at hc;done)|((repeat' split at hc)<;>simp[bL]at hc;done)
theorem WD.exit{id:Nat}(h:Q (.exit id) env H):WD B P r N (.exit id) Q env H:=by
 intro c hc;cases c<;>simp only[bR]at hc
 case exit j=>simp only[oSI,DCode.exit.injEq]at hc;subst hc;exact W.exit h
 all_goals exfalso;first|(simp at hc;done)|((repeat' split at hc)<;>simp[bL]at hc;done)
theorem WD.ret(h:Q .ret env H):WD B P r N .ret Q env H:=by
 intro c hc;cases c<;>simp only[bR]at hc
 case ret=>exact W.ret h
 all_goals exfalso;first|(simp at hc;done)|((repeat' split at hc)<;>simp[bL]at hc;done)
theorem WD.seq{x y:DCode}(h:WD B P r N x (QC.then (WD B P r N y Q) Q) env H):WD B P r N (.seq x y) Q env H:=by
 intro c hc;cases c<;>simp only[bR]at hc
 case seq a b =>
  split at hc
  ·rename_i a' b' ha hb
   simp only[oSI,DCode.seq.injEq]at hc;obtain⟨rfl,rfl⟩:=hc;refine W.seq ((h a ha).mono fun e env H hq=>?_);cases e with
   | normal=>exact hq b hb
   | exit id=>exact hq
   | ret=>exact hq
   | goto l=>exact hq
  ·simp at hc
 all_goals grind [bL]
theorem WD.cond{o:AO}{x y:DCode}{t:Bool}(he:aL env o = .bool t)(h:WD B P r N (if t then x else y) Q env H):WD B P r N (.cond o x y) Q env H:=by
 intro c hc;cases c<;>simp only[bR]at hc
 case cond o' a b =>
  split at hc
  ·rename_i o'' a' b' ho ha hb
   simp only[oSI,DCode.cond.injEq]at hc;obtain⟨rfl,rfl,rfl⟩:=hc;refine W.cond ho he ?_;cases t with
   | true=>exact h a ha
   | false=>exact h b hb
  ·simp at hc
 all_goals exfalso;first|(simp at hc;done)|((repeat' split at hc)<;>simp[bL]at hc;done)
theorem WD.block{id:Nat}{x:DCode}(h:WD B P r N x (QC.block id Q) env H):WD B P r N (.block id x) Q env H:=by
 intro c hc;cases c<;>simp only[bR]at hc
 case block j a =>
  split at hc
  ·rename_i a' ha
   simp only[oSI,DCode.block.injEq]at hc;obtain⟨rfl,rfl⟩:=hc;exact W.block (h a ha)
  ·simp at hc
 all_goals exfalso;first|(simp at hc;done)|((repeat' split at hc)<;>simp[bL]at hc;done)
theorem WD.loop{x:DCode}(I:Nat→aH→Hp→Prop){m:Nat}(hI:I m env H)(hr:∀ m env H,I m env H→WD B P r N x (QC.then (fun env' H'=>∃ m',m'<m∧I m' env' H') Q) env H):WD B P r N (.loop x) Q env H:=by
 intro c hc;cases c<;>simp only[bR]at hc
 case loop a =>
  split at hc
  ·rename_i a' ha
   simp only[oSI,DCode.loop.injEq]at hc;subst hc;exact W.loop I hI fun m env H hi=>hr m env H hi a ha
  ·simp at hc
 all_goals grind [bL]
theorem aDE:∀{c:Code}{d:DCode}(l:Nat),bR P N c=some d→(match aAn d l with
 | some q=>∃ rest,findLabel c l=some rest∧bR P N rest=some q
 | none=>findLabel c l=none)
 | .seq a b,d,l,h=>by
   simp only[bR]at h;split at h
   ·rename_i a' b' ha hb
    simp only[oSI]at h;subst h;have h1:=aDE l ha;have h2:=aDE l hb;simp only[aAn,findLabel];revert h1;cases aAn a' l with
    | some q =>
      rintro ⟨rest,k1,k2⟩;exact⟨.seq rest b,by rw[k1],by simp only[bR,k2,hb]⟩
    | none =>
      intro k1;rw[k1];exact h2
   ·simp at h
 | .label j,d,l,h=>by
   simp only[bR,oSI]at h;subst h;by_cases hj:j=l;·simp[aAn,findLabel,hj,bR]
   ·simp[aAn,findLabel,hj]
 | .skip,d,l,h=>by simp only[bR,oSI]at h;subst h;rfl
 | .exit _,d,l,h=>by simp only[bR,oSI]at h;subst h;rfl
 | .ret,d,l,h=>by simp only[bR,oSI]at h;subst h;rfl
 | .goto _,d,l,h=>by simp only[bR,oSI]at h;subst h;rfl
 | .region ..,d,l,h=>by simp only[bR]at h;split at h<;>simp at h;subst h;rfl
 | .cond ..,d,l,h=>by simp only[bR]at h;split at h<;>simp at h;subst h;rfl
 | .block ..,d,l,h=>by simp only[bR]at h;split at h<;>simp at h;subst h;rfl
 | .loop ..,d,l,h=>by simp only[bR]at h;split at h<;>simp at h;subst h;rfl
 | .scope ..,d,l,h=>by
   simp only[bR,aCl]at h;split at h
   ·simp only[B9,A3]at h
    obtain⟨_,_,_,_,rfl⟩:=h;rfl
   ·simp at h
 | .rangeFunc ..,d,l,h=>by simp only[bR]at h;split at h<;>(try split at h)<;>simp at h;subst h;rfl
 | .refuse _,d,l,h=>by simp[bR]at h
theorem WD.scope{l:Nat}{x y:DCode}(I:Nat→aH→Hp→Prop)(h:WD B P r N x (QC.jump l (fun env H=>∃ m,I m env H) Q) env H)
 (hr:∀ m env H,I m env H→WD B P r N y (QC.jump l (fun env' H'=>∃ m',m'<m∧I m' env' H') Q) env H):WD B P r N (.scope l x y) Q env H:=by
 intro c hc;cases c<;>simp only[bR]at hc
 case scope a =>
  split at hc
  ·rename_i a' ha
   simp only[aCl,B9,A3]at hc;obtain⟨l',h1,b,h2,h3⟩:=hc;cases h3;have h4:=aDE l ha;rw[h2]at h4;obtain⟨rest,h5,h6⟩:=h4;exact W.scope h5 I (h a ha) fun m env H hi=>hr m env H hi rest h6
  ·simp at hc
 all_goals exfalso;first|(simp at hc;done)|((repeat' split at hc)<;>simp at hc;done)
theorem WD.reg{draw:Bool}{l:List DOper}(hm:P.follows .mixedOrders=true)(h:if draw then RD B P l (Q .normal) env H noL else RSA B P l (Q .normal) env H):WD B P r N (.reg draw l) Q env H:=by
 intro c hc;cases c<;>simp only[bR]at hc
 all_goals grind [W.region,bL]

variable{P:Program}{B:Base}{F:Nat→Prop}{w:World}{H:Hp}{env:aH}{a:Act}

def aBD(P:Program):ResultVar→Option (Nat×Option (Bool×Nat))
 | .tmp t=>some (t,none)
 | .cell a t=>match dE P t,kX P t with
   | some g,some n=>some (a,some (g,n))
   | _,_=>none
def uB(env:aH)(H:Hp):Nat×Option (Bool×Nat)→Option AV
 | (t,none)=>some (env t)
 | (a,some (g,n))=>fG g n H (env a)
def wI(env:aH)(H:Hp):List (Nat×Option (Bool×Nat))→Option (List AV)
 | []=>some []
 | x::r=>match uB env H x,wI env H r with
   | some v,some vs=>some (v::vs)
   | _,_=>none
def jZ(rs:List (Nat×Option (Bool×Nat)))(env:aH)(H:Hp):Option AV:=match wI env H rs with
 | some [v]=>some v
 | some vs=>some (.tup vs)
 | none=>none

structure DFn where
 N:Nat
 res:List (Nat×Option (Bool×Nat))
 body:DCode
 dfr:Option (List DOper×Nat):=none

structure aTp(P:Program)(f:FuncId)(d:DFn):Prop where
 call:∀(vs:Array Value)(w:World),(callFunc f vs).run P w = .ok (.enter f vs) w
 code:∃ fn c,P.funcs[f]?=some fn∧fn.body=some c∧fn.ntmps=d.N∧fn.results.toList.mapM (aBD P)=some d.res∧aIz P d.N c=some (d.dfr,d.body)

def aV(as:List AV):aH:=fun k=>as.getD k .any

def fnQ(rs:List (Nat×Option (Bool×Nat)))(Q:AV→Hp→Prop):QC:=fun e env H=>match e with
 | .exit _ | .goto _=>False
 | _=>mO (jZ rs env H) fun v=>Q v H

theorem aGe{tmps:Array Value}{x:ResultVar}{y:Nat×Option (Bool×Nat)}{v:AV}(st:St F w H)(re:RE F w env { tmps:=tmps,defers:=[] })(hx:aBD P x=some y)(hv:uB env H y=some v) :
 ∃ c,(match x with
   | .tmp t=>pure (tmps.getD t undef)
   | .cell a t=>do loadVar t (←asAddr (tmps.getD a undef)):Sem Value).run P w = .ok c w∧Rv F w v c:=by
 cases x with
 | tmp t =>
   simp only[aBD,oSI]at hx;subst hx;simp only[uB,oSI]at hv;subst hv;exact⟨_,by rfl,re.rv t⟩
 | cell p t =>
   simp only[aBD]at hx;split at hx
   ·rename_i g n hg hn
    simp only[oSI]at hx;subst hx;simp only[uB]at hv;obtain⟨c,h1,h2⟩:=aET (P:=P) st hg hn (re.rv p) hv;refine⟨c,?_,h2⟩;have hz:∃ ad,tmps.getD p undef = .pointer (some ad):=by
     have hp:=re.rv p;cases hq:env p<;>rw[hq]at hv hp<;>simp only[fG,reduceCtorEq]at hv
     ·generalize hy:({ tmps:=tmps,defers:=[] }:Act).tmps.getD p undef=z at hp
      cases hp
      grind
     ·generalize hy:({ tmps:=tmps,defers:=[] }:Act).tmps.getD p undef=z at hp
      cases hp
      grind
    obtain⟨ad,hz⟩:=hz;simp only[hz,Instr.loadAt,Instr.sureAddr,asAddr,Sem.run_bind,Sem.run_pure,Result.andThen_ok]at h1 ⊢;exact h1
   ·simp at hx

theorem aGd{tmps:Array Value}(st:St F w H)(re:RE F w env { tmps:=tmps,defers:=[] }):∀(xs:List ResultVar)(ys:List (Nat×Option (Bool×Nat)))(vs:List AV),xs.mapM (aBD P)=some ys→wI env H ys=some vs →
 ∃ cs:List Value,(xs.mapM fun x=>(match x with
   | .tmp t=>pure (tmps.getD t undef)
   | .cell a t=>do loadVar t (←asAddr (tmps.getD a undef)):Sem Value)).run P w = .ok cs w∧vs.length=cs.length∧∀(i:Nat)(v:AV)(c:Value),vs[i]?=some v→cs[i]?=some c→Rv F w v c:=by
 intro xs;induction xs with
 | nil =>
   simp_all [wI]
 | cons x xs ih =>
   intro ys vs hx hv;rw[aA4]at hx;cases h1:aBD P x with
   | none=>grind
   | some y =>
     rw[h1]at hx;cases h2:xs.mapM (aBD P)with
     | none=>grind
     | some ys' =>
       rw[h2]at hx;simp at hx;subst hx;simp only[wI]at hv;split at hv
       ·rename_i v' vs' h3 h4
        simp only[oSI]at hv;subst hv;obtain⟨c,k1,k2⟩:=aGe st re h1 h3;obtain⟨cs,k3,k4,k5⟩:=ih ys' vs' h2 h4;refine⟨c::cs,?_,by simp[k4],fun i v c' hv' hc'=>?_⟩;all_goals grind [Sem.run_bind,Result.andThen_ok,Sem.run_pure]
       ·simp at hv

theorem aBj{fn:Func}{tmps:Array Value}{rs:List (Nat×Option (Bool×Nat))}{v:AV}(st:St F w H)(re:RE F w env { tmps:=tmps,defers:=[] })(hr:fn.results.toList.mapM (aBD P)=some rs)(hv:jZ rs env H=some v) :
 ∃ c,(results fn tmps).run P w = .ok c w∧Rv F w v c:=by
 unfold jZ at hv;obtain⟨vs,hvs⟩:∃ vs,wI env H rs=some vs:=by
  grind
 obtain⟨cs,h1,h2,h3⟩:=aGd st re _ _ _ hr hvs;have h4:(results fn tmps).run P w = .ok (if h:cs.toArray.size=1 then cs.toArray[0] else .tuple cs.toArray) w:=by
  unfold results;have hmap:∀{α β:Type}(f:α→β)(m:Sem α),f <$> m=(m >>= fun x=>pure (f x)):=fun f m=>rfl;rw[Sem.run_bind,←Array.toArray_toList (xs:=fn.results),List.mapM_toArray,hmap,Sem.run_bind];exact(AAn (fun r:Result (List Value)=>((r.andThen fun a w'=>Sem.run P (pure a.toArray) w').andThen fun a w'=>Sem.run P (pure (if h:a.size=1 then a[0] else Value.tuple a)) w')) h1).trans (by rfl)
 refine⟨_,h4,?_⟩;rw[hvs]at hv;cases vs with
 | nil =>
   cases cs with
   | nil=>simp at hv;subst hv;exact .tup _ _ (by simp) (by simp)
   | cons c cs=>simp at h2
 | cons v1 vs =>
   cases cs with
   | nil=>simp at h2
   | cons c cs =>
     cases vs with
     | nil =>
       cases cs with
       | nil=>simp at hv;subst hv;exact h3 0 _ _ rfl rfl
       | cons c' cs=>simp at h2
     | cons v2 vs =>
       cases cs with
       | nil=>simp at h2
       | cons c' cs =>
         simp at hv;subst hv;simp only[List.size_toArray,D9,show ¬(cs.length+1+1=1) by omega,dif_neg,AAm];exact .tup _ _ AM fun i x y hx hy=>h3 i x y hx (by grind)

theorem xO{n0 D:Nat}{w0:World}{F0:Nat→Prop}{H0:Hp}{x:Option (List Deferred)}(he:Ext F0 w0 H0 F w H)(st:St F w H)(hn:w0.heap.size≤D)(hD:w.heap[D]?=some (.deferred (some [])))(hF:¬F D)(hH:H D=none) :
 Ext F0 w0 H0 F (w.putObj D (.deferred x)) H∧St F (w.putObj D (.deferred x)) H∧Up F w F (w.putObj D (.deferred x)):=by
 have oth:∀ b,b≠D→(w.putObj D (.deferred x)).heap[b]?=w.heap[b]?:=fun b hb=>World.putObj_heap_other hb;have hu:Up F w F (w.putObj D (.deferred x)):=⟨fun _ h=>h,fun b hb=>oth b fun e=>hF (e▸hb),fun b c e fr hb=>⟨c,e,fr,by grind,rfl⟩,by simp⟩;refine⟨⟨he.sub,he.fnew,he.hdom,he.hnew,by simpa using he.le,fun b hb hw=>by rw[oth b AM];exact he.same b hb hw,fun b c e fr hb=>?_,he.io.trans ⟨rfl,rfl,rfl⟩⟩,⟨fun b hb=>by simpa using st.lt b hb,st.dis,fun b y hb=>?_⟩,hu⟩
 ·have hlt:b<w0.heap.size:=(G3.1 hb).1
  rw[oth b AM];exact he.cells b c e fr hb
 ·obtain⟨o,h1,h2⟩:=st.blk b y hb
  exact⟨o,by grind,h2.up hu⟩

theorem aIa{fn:Func}{tmps:Array Value}{rs:List (Nat×Option (Bool×Nat))}{v:AV}{F0:Nat→Prop}{w0:World}{H0:Hp}{Q:AV→Hp→Prop}(hr:fn.results.toList.mapM (aBD P)=some rs)(hv:jZ rs env H=some v)(hQ:Q v H)
 (he:Ext F0 w0 H0 F w H) (st:St F w H) (re:RE F w env { tmps:=tmps,defers:=[] }):LeavesInM Fence.wide 0 P fn tmps (vH F0 w0 H0 Q) [] .returning w:=by
 obtain⟨c,h1,h2⟩:=aBj st re hr hv;exact⟨c,h1,c,v,F,H,rfl,he,st,h2,hQ⟩

theorem aGI{fn:Func}{tmps:Array Value}{n0:Nat}{F0:Nat→Prop}{w0:World}{H0:Hp}{R:Ending→World→Prop}(hn0:w0.heap.size≤n0)
 (hT:∀ w,Ext F0 w0 H0 F w H→St F w H→RE F w env { tmps:=tmps,defers:=[] }→LeavesInM Fence.wide 0 P fn tmps R [] .returning w) :
 ∀(ms:List Deferred)(w:World),Ext F0 w0 H0 F w H→St F w H→RE F w env { tmps:=tmps,defers:=[] }→ms.Nodup→(∀ d∈ms,Mk1 n0 F H w d)→LeavesInM Fence.wide 0 P fn tmps R ms .returning w:=by
 intro ms;induction ms with
 | nil=>grind
 | cons d ds ih =>
   intro w he st re hnd hm;obtain⟨D,rfl,h2,h3,h4,h5⟩:=hm d (by simp);obtain⟨k1,k2,k3⟩:=xO (n0:=0) (x:=none) he st (I0 hn0 h2) h3 h4 h5;have hnd:=N4.1 hnd;refine⟨by simp,.inl ⟨D,_,rfl,run_takeDeferred h3,ih _ k1 k2 (re.up k3) hnd.2 fun d' hd'=>?_⟩⟩;obtain⟨D',rfl,l2,l3,l4,l5⟩:=hm d' (by simp[hd']);refine⟨D',rfl,l2,?_,l4,l5⟩
   grind [World.putObj_heap_other]

theorem aLU{l1 l2:List DOper}{K:aH→Hp→Prop}:∀{env:aH}{H:Hp},RS B P (l1++l2) K env H→RS B P l1 (RS B P l2 K) env H:=by
 induction l1 with
 | nil=>exact fun h=>h
 | cons o l1 ih=>exact fun h=>aHP (fun _ _ h=>ih h) h

theorem aBV{N:Nat}{as:List AV}{vs:Array Value}{nt:Nat}(hB:B.Up F w)(hA:Args F w as vs):RE F w (aV as) { tmps:=vs++Array.replicate nt undef,defers:=[] }:=by
 refine⟨fun k=>?_,B.gi.up hB⟩;simp only[aV];cases hk:as[k]? with
 | none=>rw[C7,hk];exact .any _
 | some x =>
   have hlt:k<vs.size:=by grind [Args]
   rw[C7,hk];simp only[G7,E8]
   grind [Args]


theorem FnW.of{f:FuncId}{d:DFn}{as:List AV}{Q:AV→Hp→Prop}(hf:aTp P f d)(hN:as.length≤d.N)
 (h:WD B P none d.N d.body (fnQ d.res Q) (aV as) H):FnW B P f as H Q:=by
 refine⟨hf.call,fun F w vs hB st hA=>?_⟩;obtain⟨fn,c,h1,h2,h3,h4,h5⟩:=hf.code;have hsz:(vs++Array.replicate (fn.ntmps-vs.size) undef).size=d.N:=by
  have:=hA.1
  grind
 have hre:=aBV (N:=d.N) (nt:=fn.ntmps-vs.size) hB hA;have h5':bR P d.N c=some d.body:=by
  simp only[aIz,A3,A7]at h5
  grind
 refine callsIn_of_wp_marks h1 h2 trivial (wpIn_mono (h c h5' F w { tmps:=vs++Array.replicate (fn.ntmps-vs.size) undef,defers:=[] } w.heap.size [] hB (A6 _) hsz st hre Mk.nil) ?_);rintro e a' w' ⟨x,env',F',H',k1,k2,k3,k4,k5,k6,k7⟩;have fin:mO (jZ d.res env' H') (fun v=>Q v H')→LeavesInM Fence.wide 0 P fn a'.tmps (vH F w H Q) a'.defers .returning w':=fun hq=>by
  rw[cZ]at hq;obtain⟨v,hv,hQ⟩:=hq;obtain⟨ms,e1,e2,e3⟩:=k6.ex;rw[I2]at e1;rw[e1];exact aGI (A6 _) (fun w'' he st' re'=>aIa h4 hv hQ he st' re') ms w' k3 k4 k5 e2 e3
 cases e with
 | normal=>simp only at k1;subst k1;exact fin k7
 | ret=>simp only at k1;subst k1;exact fin k7
 | exit id=>simp only at k1;subst k1;exact k7.elim
 | goto l=>simp only at k1;subst k1;exact k7.elim
 | panic c=>grind
 | outgrown=>grind


inductive Fz(b:Nat)(cs:List AV):AV→AV→Prop where
 | same (v:AV):Fz b cs v v
 | sl (off s len:Nat) (rows:List (List AV)) (hl:rows.length=len) (hs:∀ r∈rows,r.length=s)
  (hc:∀(i:Nat)(r:List AV)(j:Nat)(c:AV),rows[i]?=some r→r[j]?=some c→cs[off+i*s+j]?=some c):Fz b cs (.sl b off s len) (.fs rows)
 | pt (off s i o:Nat) (rows:List (List AV)) (hs:∀ r∈rows,r.length=s)
  (hc:∀(i:Nat)(r:List AV)(j:Nat)(c:AV),rows[i]?=some r→r[j]?=some c→cs[off+i*s+j]?=some c):Fz b cs (.pt b (off+i*s+o)) (.fp rows i o)
 | agg (xs ys:List AV) (hl:xs.length=ys.length) (h:∀(i:Nat)(x y:AV),xs[i]?=some x→ys[i]?=some y→Fz b cs x y):Fz b cs (.agg xs) (.agg ys)
 | tup (xs ys:List AV) (hl:xs.length=ys.length) (h:∀(i:Nat)(x y:AV),xs[i]?=some x→ys[i]?=some y→Fz b cs x y):Fz b cs (.tup xs) (.tup ys)
 | fn (f:Fn) (xs ys xs' ys':List AV) (hl:xs.length=ys.length) (h:∀(i:Nat)(x y:AV),xs[i]?=some x→ys[i]?=some y→Fz b cs x y)
  (hl':xs'.length=ys'.length) (h':∀(i:Nat)(x y:AV),xs'[i]?=some x→ys'[i]?=some y→Fz b cs x y):Fz b cs (.fn f xs xs') (.fn f ys ys')

theorem Rv.fz{b:Nat}{cs:List AV}{x y:AV}(hf:Fz b cs x y){c:Array Value}{e:TypeId}{fr:Nat×Nat}(hb:w.heap[b]?=some (.cells c e fr))(hF:F b)(hl:cs.length≤c.size)
 (ho:∀(i:Nat)(v:Value),c[i]?=some v→v.oneCell'=true) (hc:∀(i:Nat)(a:AV)(v:Value),cs[i]?=some a→c[i]?=some v→Rv F w a v):∀{v:Value},Rv F w x v→Rv F w y v:=by
 have cell:∀(k:Nat)(x:AV),cs[k]?=some x→w.cell? ⟨b,k,none⟩=some (c[k]?.getD (Value.bool false))∧Rv F w x (c[k]?.getD (Value.bool false)):=fun k x hk=>by
  have hlt:k<c.size:=E6 (D0.1 hk).1 hl;have hg:c[k]?=some c[k]:=D7 hlt;refine⟨?_,?_⟩;·simp[World.cell?,hb,hg]
  grind
 have one:∀ k:Nat,(c[k]?.getD (Value.bool false)).oneCell'=true:=fun k=>by
  cases hk:c[k]? with
  | none=>rfl
  | some v=>grind
 induction hf with
 | same v=>grind
 | sl off s len rows hl' hs h =>
   intro v hv;cases hv with
   | sl _ _ _ _ cap c' e' fr' hb' hcap hlen =>
     subst hl';exact .fs rows b off s cap (fun i j=>c[off+i*s+j]?.getD (Value.bool false)) hlen hF hs (fun i r j x h1 h2=>(cell _ x (h i r j x h1 h2)).1) (fun i j=>one _) (fun i r j x h1 h2=>(cell _ x (h i r j x h1 h2)).2)
 | pt off s i o rows hs h =>
   intro v hv;cases hv with
   | pt =>
     exact .fp rows i o b off s (fun i j=>c[off+i*s+j]?.getD (Value.bool false)) hF hs (fun i r j x h1 h2=>(cell _ x (h i r j x h1 h2)).1) (fun i j=>one _) (fun i r j x h1 h2=>(cell _ x (h i r j x h1 h2)).2)
 | agg xs ys hl' h ih =>
   intro v hv;cases hv with
   | agg _ vs h1 h2 h3 =>
     refine .agg _ _ (hl'.symm.trans h1) h2 fun i x v hx hv=>?_
     grind
 | tup xs ys hl' h ih =>
   intro v hv;cases hv with
   | tup _ vs h1 h3 =>
     refine .tup _ _ (hl'.symm.trans h1) fun i x v hx hv=>?_
     grind
 | fn f xs ys xs' ys' hl1 h1 hl2 h2 ih1 ih2 =>
   intro v hv;cases hv with
   | fn _ _ _ fv cv k1 k2 k3 k4 =>
     refine .fn _ _ _ _ _ (hl1.symm.trans k1) (hl2.symm.trans k2) (fun i x v hx hv=>?_) (fun i x v hx hv=>?_);all_goals grind

inductive FzB(b:Nat)(cs:List AV):ABlk→ABlk→Prop where
 | same (x:ABlk):FzB b cs x x
 | cells (p:Bool) (xs ys:List AV) (hl:xs.length=ys.length) (h:∀(i:Nat)(x y:AV),xs[i]?=some x→ys[i]?=some y→Fz b cs x y):FzB b cs (.cells p xs) (.cells p ys)
 | map (p:Bool) (xs ys:List (AV×AV)) (hl:xs.length=ys.length) (h:∀(i:Nat)(x y:AV×AV),xs[i]?=some x→ys[i]?=some y→Fz b cs x.1 y.1∧Fz b cs x.2 y.2):FzB b cs (.map p xs) (.map p ys)


theorem Shift.freeze{b:Nat}{wr:Bool}{cs:List AV}{env':aH}{H':Hp}(hb:H b=some (.cells wr cs))(he:∀ k,Fz b cs (env k) (env' k))(hb':H' b=none)
 (hH:∀ c,c≠b→H' c=none∨∃ x y,H c=some x∧H' c=some y∧FzB b cs x y):Shift env H env' H':=by
 intro F w a st re;obtain⟨o,h1,h2⟩:=st.blk b _ hb;cases h2 with
 | cells _ _ c e fr hfr hl ho hc =>
   have hu:Up F w (fun x=>F x∨x=b) w:=⟨fun _ h=>.inl h,fun _ _=>rfl,fun b c e fr h=>⟨c,e,fr,h,rfl⟩,A6 _⟩;have hc':∀(i:Nat)(a:AV)(v:Value),cs[i]?=some a→c[i]?=some v→Rv (fun x=>F x∨x=b) w a v:=fun i a v h1 h2=>(hc i a v h1 h2).up hu;have rv:∀{x y:AV}{v:Value},Fz b cs x y→Rv F w x v→Rv (fun x=>F x∨x=b) w y v:=fun hf h=>Rv.fz hf h1 (.inr rfl) hl ho hc' (h.up hu);refine⟨fun x=>F x∨x=b,⟨fun _ h=>.inl h,fun x hx=>?_,fun x hx=>?_,fun x hx=>?_,A6 _,fun _ _ _=>rfl,fun b c e fr h=>⟨c,e,fr,h,rfl⟩,SameIO.refl w⟩,⟨fun x hx=>?_,fun x y hx hF=>?_,fun x y hx=>?_⟩,⟨fun k=>rv (he k) (re.rv k),re.gi.up hu⟩⟩;·grind
   ·grind
   ·by_cases hxb:x=b
    ·subst hxb;simp[sX,hb']at hx
    ·rcases hH x hxb with h|⟨y,z,h3,h4,h5⟩
     ·simp[sX,h]at hx
     ·left
      simp only[sX,h3,h4]at hx ⊢;cases h5<;>exact hx
   ·rcases hx with hx|rfl
    ·exact st.lt x hx
    grind
   ·by_cases hxb:x=b
    ·grind
    ·rcases hH x hxb with h|⟨y',z,h3,h4,h5⟩
     ·grind
     ·rcases hF with hF|hF
      ·exact st.dis x y' h3 hF
      omega
   ·by_cases hxb:x=b
    ·grind
    ·rcases hH x hxb with h|⟨y',z,h3,h4,h5⟩
     ·grind
     ·rw[h4]at hx
      simp only[oSI]at hx;subst hx;obtain⟨o',k1,k2⟩:=st.blk x y' h3;refine⟨o',k1,?_⟩;cases h5 with
      | same=>exact k2.up hu
      | cells p xs ys hl' h =>
        cases k2 with
        | cells _ _ c' e' fr' hfr' hl'' ho' hc'' =>
          refine .cells _ _ _ _ _ hfr' AM ho' fun i a v ha hv=>?_;have hlt:i<xs.length:=by grind
          have hg:xs[i]?=some xs[i]:=A8 hlt
          grind
      | map p xs ys hl' h =>
        cases k2 with
        | map _ _ m clock hl'' hm =>
          refine .map _ _ _ _ AM fun i a v ha hv=>?_;have hlt:i<xs.length:=by grind
          have hg:xs[i]?=some xs[i]:=A8 hlt
          grind

variable{P:Program}{B:Base}{F:Nat→Prop}{w:World}{H:Hp}{env:aH}{a:Act}{N:Nat}

theorem FnW.base{B':Base}{f:FuncId}{as:List AV}{Q:AV→Hp→Prop}(h:FnW B P f as H Q)(hB:B.Up B'.F B'.w):FnW B' P f as H Q :=
 ⟨h.1,fun F w vs h1 h2 h3=>h.2 F w vs (Up.trans hB h1) h2 h3⟩
theorem CallV.base{B':Base}{fv:AV}{as:List AV}{Q:AV→Hp→Prop}(h:CallV B P fv as H Q)(hB:B.Up B'.F B'.w):CallV B' P fv as H Q:=by
 unfold CallV at *;split at h;·exact FnW.base h hB
 ·exact fun F w vs h1 h2 h3=>h F w vs (Up.trans hB h1) h2 h3
 omega

def pR(env:aH):List Nat→List AV→aH
 | p::ps,v::vs=>pR (upd env p v) ps vs
 | _,_=>env

theorem aKB:∀(ps:List Nat)(as:List AV)(vs:List Value)(env:aH)(t:Array Value),as.length=vs.length→(∀(i:Nat)(a:AV)(v:Value),as[i]?=some a→vs[i]?=some v→Rv F w a v)→(∀ p∈ps,p<t.size) →
 RE F w env { tmps:=t,defers:=[] }→RE F w (pR env ps as) { tmps:=(ps.zip vs).foldl (fun t p=>t.setIfInBounds p.1 p.2) t,defers:=[] }∧((ps.zip vs).foldl (fun t p=>t.setIfInBounds p.1 p.2) t).size=t.size:=by
 intro ps;induction ps with
 | nil=>simp[pR]
 | cons p ps ih =>
   intro as vs env t hl hv hp re;cases as with
   | nil=>cases vs with
     | nil=>exact⟨re,rfl⟩
     | cons v vs=>simp at hl
   | cons a as=>cases vs with
     | nil=>simp at hl
     | cons v vs =>
       have h1:RE F w (upd env p a) { tmps:=t.setIfInBounds p v,defers:=[] }:=by
        have:=RE.put (d:=some p) re (hv 0 a v rfl rfl) (fun k hk=>by simp_all);exact this
       obtain⟨h2,h3⟩:=ih as vs (upd env p a) (t.setIfInBounds p v) (by grind) (fun i a v h1 h2=>hv (i+1) a v (by grind) (by grind)) (fun p hp'=>by grind) h1;exact⟨h2,by simpa using h3⟩

theorem aFq(ps:Array Tmp)(vs:Array Value)(t:Array Value):(ps.zip vs).foldl (fun t (p:Tmp×Value)=>t.setIfInBounds p.1 p.2) t=(ps.toList.zip vs.toList).foldl (fun t p=>t.setIfInBounds p.1 p.2) t:=by
 grind [Array.toList_zip]

def aOx(l:Nat)(oR oB:Obj)(oD:Code→Obj)(Q':AV→Hp→Prop):QC:=fun e _ H3=>H3 l=some (.obj true oB)∧match e with
 | .normal=>Q' (.bool true) (hset H3 l (.obj true oR))
 | .ret=>Q' (.bool false) (hset H3 l (.obj true (oD .ret)))
 | .exit id=>Q' (.bool false) (hset H3 l (.obj true (oD (.exit id))))
 | .goto id=>Q' (.bool false) (hset H3 l (.obj true (oD (.goto id))))

def aOw(l:Nat)(oR:Obj)(oD:Code→Obj)(Q:QC)(env:aH):AV→Hp→Prop:=fun _ H' =>
 (H' l=some (.obj true oR)∧Q .normal env (mV H' l))∨(H' l=some (.obj true (oD .ret))∧Q .ret env (mV H' l))∨(∃ id,H' l=some (.obj true (oD (.exit id)))∧Q (.exit id) env (mV H' l))∨∃ id,H' l=some (.obj true (oD (.goto id)))∧Q (.goto id) env (mV H' l)

theorem nC(H:Hp)(b:Nat)(x:ABlk):∀ c y,mV H b c=some y→hset H b x c=some y:=by
 simp_all [mV,hset]

theorem mB{l:Nat}{o o':Obj}(st:St F w H)(hl:H l=some (.obj true o))(hc:o.isCells=false):Ext F w H F (w.putObj l o') (hset H l (.obj true o'))∧St F (w.putObj l o') (hset H l (.obj true o'))∧w.heap[l]?=some o:=by
 obtain⟨o1,h1,h2⟩:=st.blk l _ hl;cases h2 with
 | obj => 
   have:=kO (w':=w.putObj l o') (y:=.obj true o') (o':=o') st hl rfl h1 rfl ⟨rfl,rfl,rfl⟩ (fun c e fr h=>by subst h;simp[Obj.isCells]at hc) (fun F' w' _=>.obj true o')
   grind

theorem W.rng{g:Operand}{f':AO}{ps:Array Tmp}{assign body:Code}{Q:QC}{gf:FuncId}{first cap:List AV}(hg:co g=some f')(hev:aL env f' = .fn (.func gf) first cap)(hps:∀ p∈ps.toList,p<N)
 (h:∀(B':Base)(l:Nat)(oR oB:Obj)(oD:Code→Obj),B.Up B'.F B'.w→H l=none→B.w.heap.size≤l→l<B'.w.heap.size→(∃ q,oB = .loop q) →
  (∀(B1:Base),B'.Up B1.F B1.w→∀(as:List AV)(H':Hp)(Q':AV→Hp→Prop),H' l=some (.obj true oR)→as.length=ps.size →
   W B1 P (some l) N assign (fun e env2 H2=>e = .normal∧H2 l=some (.obj true oR)∧W B1 P (some l) N body (aOx l oR oB oD Q') env2 (hset H2 l (.obj true oB))) (pR env ps.toList as) H'→YW B1 P l as H' Q') →
  FnW B' P gf (first++[.fn (.yield l) [] []]++cap) (hset H l (.obj true oR)) (aOw l oR oD Q env)):W B P none N (.rangeFunc g ps assign body) Q env H:=by
 intro F w a n0 T hB hn0 hsz st re mk;refine wpIn_rangeFunc ?_;intro fn _;obtain⟨rec,hrec⟩:∃ rec:LoopState→Option Code→Loop,rec=fun st pe=>{ state:=st,pending:=pe,fn,tmps:=a.tmps,params:=ps,assign,body,defers:=w.heap.size }:=⟨_,rfl⟩;have e0:=nD (x:=.obj true (.deferred (some []))) (o:=.deferred (some [])) st (.obj _ _) st.size_none;have hD0:H w.heap.size=none:=by
  cases hx:H w.heap.size with
  | none=>rfl
  | some x=>exact absurd rfl (st.size_none _ (by simp[hx]))
 have hf0:∀ b x,H b=some x→hset H w.heap.size (.obj true (.deferred (some []))) b=some x:=fun b x hb=>by
  grind [aO]
 have E0:Ext F w H F (w.alloc (.deferred (some []))) H:=e0.1.forget hf0;have S0:St F (w.alloc (.deferred (some []))) H:=e0.2.forget hf0;have e1:=nD (x:=.obj true (.loop (rec .ready none))) (o:=.loop (rec .ready none)) S0 (.obj _ _) S0.size_none;rw[World.size_alloc]at e1;obtain⟨W1,hW1⟩:∃ W1,(w.alloc (.deferred (some []))).alloc (.loop (rec .ready none))=W1:=⟨_,rfl⟩;rw[hW1]at e1;obtain⟨E1,S1⟩:=e1;have E01:=E0.trans E1;obtain⟨l,hl⟩:∃ l,w.heap.size+1=l:=⟨_,rfl⟩;rw[hl]at E1 S1 E01;have hlH:H l=none:=by
  cases hx:H l with
  | none=>rfl
  | some x=>exact absurd (st.own_lt hx) AM
 have hW1D:W1.heap[w.heap.size]?=some (.deferred (some [])):=by
  rw[←hW1];show ((w.heap.push _).push _)[w.heap.size]?=_
  grind
 have hB1:B.Up F W1:=hB.step st E01;have re1:RE F W1 env a:=re.up (E01.up st);have hW1s:W1.heap.size=w.heap.size+2:=by rw[←hW1];simp
 have hcall:=h ⟨F,W1,re1.gi⟩ l (.loop (rec .ready none)) (.loop (rec .busy none)) (fun c=>.loop (rec .done (some c))) hB1 hlH (by have:=hB.le;omega) (by grind) ⟨_,rfl⟩ ?_
 ·have hgv:=bB re1 hg
  rw[hev]at hgv;obtain⟨vg,hvg⟩:∃ v,a.eval g=v:=⟨_,rfl⟩;rw[hvg]at hgv;cases hgv with
  | fn _ _ _ fv cv k1 k2 k3 k4 =>
    have hA:Args F W1 (first++[.fn (.yield l) [] []]++cap) (fv ++ #[.func (.yield l) #[] #[]]++cv) :=
     eZ (eZ ⟨k1,k3⟩ ⟨rfl,fun i x v hx hv=>by
      cases i with
      | zero=>simp at hx hv;subst hx hv;exact .fn _ _ _ _ _ rfl rfl (by simp) (by simp)
      | succ i=>simp at hx⟩) ⟨k2,k4⟩
    have hc:=hcall.2 F W1 _ (Up.refl _ _) S1 hA
    refine⟨l,[{ target:=.collected w.heap.size,args := #[] }],W1,{ target:=.fn (.func gf) cv,args:=fv ++ #[.func (.yield l) #[] #[]] },W1,gf,
     fv ++ #[.func (.yield l) #[] #[]]++cv,W1,?_,?_,?_,?_,?_,?_⟩
    ·rw[←hW1,hrec,←hl];exact run_enterLoop_outer _ _ _ _ _
    ·simp only[resolve,hvg]
     simp[go_sem,Deferred.ofValue]
    ·exact fun _ _=>trivial
    ·simp only[invoke]
     exact hcall.1 _ _
    ·exact fun h=>by simp[FW,Fence.wide]at h
    ·have hc':CallsIn (FW none) (0-1) P gf (fv ++ #[.func (.yield l) #[] #[]]++cv) W1 (vH F W1 (hset H l (.obj true (.loop (rec .ready none)))) (aOw l (.loop (rec .ready none)) (fun c=>.loop (rec .done (some c))) Q env)):=hc
     refine CallsIn.mono hc' ?_;rintro e W2 ⟨rv,v,F2,H2,rfl,l1,l2,l3,l4⟩
     have fin:∀(o:Obj)(st':LoopState)(pe:Option Code),o = .loop (rec st' pe)→st' ≠ .busy→H2 l=some (.obj true o)→∃ w4,(Instr.endLoop l).run P W2 = .ok pe w4∧Ext F w H F2 w4 (mV H2 l)∧St F2 w4 (mV H2 l) ∧
      RE F2 w4 env a∧Mk n0 T F2 (mV H2 l) w4 ({ target:=.collected w.heap.size,args := #[] }::a.defers):=by
      intro o st' pe ho hst hHl;subst ho;obtain⟨m1,m2,m3⟩:=mB (o':=.loop { rec st' pe with state:=.exhausted }) l2 hHl (by rfl);have hrun:=run_endLoop (P:=P) m3 (by grind);have M1:=E01.trans (l1.trans m1);have M2:=M1.forget (nC H2 l _);refine⟨_,by grind,M2,m2.forget (nC H2 l _),re.up (M1.up st),?_⟩;have mk0:Mk n0 T F (hset H l (.obj true (.loop (rec .ready none)))) W1 ({ target:=.collected w.heap.size,args := #[] }::a.defers):=by
       refine mk.cons (fun d hd e=>?_) E01 ⟨w.heap.size,rfl,hn0,hW1D,fun hF=>absurd (st.lt _ hF) AM,by grind [aO]⟩;obtain⟨D,q1,_,q3,_⟩:=hd
       grind
      exact(mk0.ext (l1.trans m1)).sub (nC H2 l _)
     rcases l4 with ⟨q1,q2⟩|⟨q1,q2⟩|⟨id,q1,q2⟩|⟨id,q1,q2⟩
     ·obtain⟨w4,r1,r2,r3,r4,r5⟩:=fin _ .ready none rfl (by simp) q1
      exact⟨none,w4,r1,.normal,env,F2,_,rfl,hsz,r2,r3,r4,r5,q2⟩
     ·obtain⟨w4,r1,r2,r3,r4,r5⟩:=fin _ .done (some .ret) rfl (by simp) q1
      exact⟨some .ret,w4,r1,wpIn_ret ⟨.ret,env,F2,_,rfl,hsz,r2,r3,r4,r5,q2⟩⟩
     ·obtain⟨w4,r1,r2,r3,r4,r5⟩:=fin _ .done (some (.exit id)) rfl (by simp) q1
      exact⟨some (.exit id),w4,r1,wpIn_exit ⟨.exit id,env,F2,_,rfl,hsz,r2,r3,r4,r5,q2⟩⟩
     ·obtain⟨w4,r1,r2,r3,r4,r5⟩:=fin _ .done (some (.goto id)) rfl (by simp) q1
      exact⟨some (.goto id),w4,r1,wpIn_goto ⟨.goto id,env,F2,_,rfl,hsz,r2,r3,r4,r5,q2⟩⟩
 ·-- a round
  intro B1 hB1' as H' Q' hHl hlen hass F2 w2 vs hB2' st2 hA;have hB2:Up F W1 F2 w2:=Up.trans hB1' hB2';obtain⟨m1,_,m3⟩:=mB (o':=.loop (rec .ready none)) st2 hHl (by rfl);have hsize:vs.size=ps.size:=by rw[←hlen];exact hA.1.symm
  have hy:=run_yield (P:=P) (args:=vs) m3 (by grind);have hre:RE F2 w2 env { tmps:=a.tmps,defers:=[] }:=re1.up hB2;obtain⟨p1,p2⟩:=aKB ps.toList as vs.toList env a.tmps (by grind) (fun i x v hx hv=>hA.2 i x v hx (by grind)) (fun p hp=>by grind) hre;rw[←aFq]at p1 p2;rw[hrec]at hy;refine⟨fn,_,assign,body,hy,roundIn_of_wpIn (by trivial) ?_⟩;refine wpIn_mono (hass F2 w2 { tmps:=_,defers:=[] } w2.heap.size [] hB2' (A6 _) (p2.trans hsz) st2 p1 Mk.nil) ?_;rintro e a3 w3 ⟨x,env3,F3,H3,q1,q2,q3,q4,q5,q6,q7,q8,q9⟩;subst q7;cases e with
  | normal =>
    obtain⟨s1,s2,s3⟩:=mB (o':=.loop (rec .busy none)) q4 q8 (by rfl);refine⟨_,run_beginRound s3 (by rw[hrec]),?_⟩;have hbusy:({ rec .ready none with state:=.busy }:Loop)=rec .busy none:=by rw[hrec]
    rw[hbusy];have E3:=q3.trans s1;refine wpIn_mono (q9 F3 _ a3 w2.heap.size [] (Base.Up.step (B:=B1) hB2' st2 E3) E3.le q2 s2 (q5.up (s1.up q4)) (q6.ext s1)) ?_;rintro e a4 w4 ⟨x,env4,F4,H4,t1,t2,t3,t4,t5,t6,t7,t8⟩
    have fin:∀(jump:Option Code)(o:Obj),o = .loop (rec (if jump.isNone then .ready else .done) jump)→Q' (.bool jump.isNone) (hset H4 l (.obj true o)) →
     ∃ v w',(Instr.endRound l jump).run P w4 = .ok v w'∧vH F2 w2 H' Q' (.returned v) w':=by
     intro jump o ho hQ;obtain⟨u1,u2,u3⟩:=mB (o':=o) t4 t7 (by rfl);refine⟨_,_,run_endRound jump u3,_,.bool jump.isNone,F4,hset H4 l (.obj true o),rfl,?_,?_,.bool _,hQ⟩
     ·have:({ rec .busy none with state:=if jump.isNone then .ready else .done,pending:=jump }:Loop)=rec (if jump.isNone then .ready else .done) jump:=by rw[hrec]
      rw[this,←ho];exact E3.trans (t3.trans u1)
     grind
    cases e with
    | normal=>simp only at t1;subst t1;exact fin none _ rfl t8
    | ret=>simp only at t1;subst t1;exact fin (some .ret) _ rfl t8
    | exit id=>simp only at t1;subst t1;exact fin (some (.exit id)) _ rfl t8
    | goto id=>simp only at t1;subst t1;exact fin (some (.goto id)) _ rfl t8
    | panic c=>grind
    | outgrown=>grind
  | exit id=>simp at q1
  | ret=>simp at q1
  | goto l=>simp at q1
  | panic c=>grind
  | outgrown=>grind

theorem W.rngIn{l0:Nat}{r0:Loop}(hl0:H l0=some (.obj true (.loop r0))){g:Operand}{f':AO}{ps:Array Tmp}{assign body:Code}{Q:QC}{gf:FuncId}{first cap:List AV}(hg:co g=some f')(hev:aL env f' = .fn (.func gf) first cap)(hps:∀ p∈ps.toList,p<N)
 (h:∀(B':Base)(l:Nat)(oR oB:Obj)(oD:Code→Obj),B.Up B'.F B'.w→H l=none→B.w.heap.size≤l→l<B'.w.heap.size→(∃ q,oB = .loop q) →
  (∀(B1:Base),B'.Up B1.F B1.w→∀(as:List AV)(H':Hp)(Q':AV→Hp→Prop),H' l=some (.obj true oR)→as.length=ps.size →
   W B1 P (some l) N assign (fun e env2 H2=>e = .normal∧H2 l=some (.obj true oR)∧W B1 P (some l) N body (aOx l oR oB oD Q') env2 (hset H2 l (.obj true oB))) (pR env ps.toList as) H'→YW B1 P l as H' Q') →
  FnW B' P gf (first++[.fn (.yield l) [] []]++cap) (hset H l (.obj true oR)) (aOw l oR oD Q env)):W B P (some l0) N (.rangeFunc g ps assign body) Q env H:=by
 intro F w a n0 T hB hn0 hsz st re mk;refine wpIn_rangeFunc ?_;intro fn _;obtain⟨rec,hrec⟩:∃ rec:LoopState→Option Code→Loop,rec=fun st pe=>{ state:=st,pending:=pe,fn,tmps:=a.tmps,params:=ps,assign,body,defers:=r0.defers }:=⟨_,rfl⟩;have hw0:w.heap[l0]?=some (.loop r0):=by
  obtain⟨o1,h1,h2⟩:=st.blk l0 _ hl0;cases h2 with
  | obj=>exact h1
 have e1:=nD (x:=.obj true (.loop (rec .ready none))) (o:=.loop (rec .ready none)) st (.obj _ _) st.size_none;obtain⟨W1,hW1⟩:∃ W1,w.alloc (.loop (rec .ready none))=W1:=⟨_,rfl⟩;rw[hW1]at e1;obtain⟨E1,S1⟩:=e1;obtain⟨l,hl⟩:∃ l,w.heap.size=l:=⟨_,rfl⟩;rw[hl]at E1 S1;have E01:=E1;have hlH:H l=none:=by
  cases hx:H l with
  | none=>rfl
  | some x=>exact absurd (st.own_lt hx) AM
 have hB1:B.Up F W1:=hB.step st E01;have re1:RE F W1 env a:=re.up (E01.up st);have hW1s:W1.heap.size=w.heap.size+1:=by rw[←hW1];simp
 have hcall:=h ⟨F,W1,re1.gi⟩ l (.loop (rec .ready none)) (.loop (rec .busy none)) (fun c=>.loop (rec .done (some c))) hB1 hlH (by have:=hB.le;omega) (by grind) ⟨_,rfl⟩ ?_
 ·have hgv:=bB re1 hg
  rw[hev]at hgv;obtain⟨vg,hvg⟩:∃ v,a.eval g=v:=⟨_,rfl⟩;rw[hvg]at hgv;cases hgv with
  | fn _ _ _ fv cv k1 k2 k3 k4 =>
    have hA:Args F W1 (first++[.fn (.yield l) [] []]++cap) (fv ++ #[.func (.yield l) #[] #[]]++cv) :=
     eZ (eZ ⟨k1,k3⟩ ⟨rfl,fun i x v hx hv=>by
      cases i with
      | zero=>simp at hx hv;subst hx hv;exact .fn _ _ _ _ _ rfl rfl (by simp) (by simp)
      | succ i=>simp at hx⟩) ⟨k2,k4⟩
    have hc:=hcall.2 F W1 _ (Up.refl _ _) S1 hA
    refine⟨l,[],W1,{ target:=.fn (.func gf) cv,args:=fv ++ #[.func (.yield l) #[] #[]] },W1,gf,
     fv ++ #[.func (.yield l) #[] #[]]++cv,W1,?_,?_,?_,?_,?_,?_⟩
    ·rw[←hW1,hrec,←hl];exact run_enterLoop_inner hw0 _ _ _ _ _
    ·simp only[resolve,hvg]
     simp[go_sem,Deferred.ofValue]
    ·exact fun _ _=>trivial
    ·simp only[invoke]
     exact hcall.1 _ _
    ·exact fun h=>by simp[FW,Fence.wide]at h
    ·have hc':CallsIn (FW none) (0-1) P gf (fv ++ #[.func (.yield l) #[] #[]]++cv) W1 (vH F W1 (hset H l (.obj true (.loop (rec .ready none)))) (aOw l (.loop (rec .ready none)) (fun c=>.loop (rec .done (some c))) Q env)):=hc
     refine CallsIn.mono hc' ?_;rintro e W2 ⟨rv,v,F2,H2,rfl,l1,l2,l3,l4⟩
     have fin:∀(o:Obj)(st':LoopState)(pe:Option Code),o = .loop (rec st' pe)→st' ≠ .busy→H2 l=some (.obj true o)→∃ w4,(Instr.endLoop l).run P W2 = .ok pe w4∧Ext F w H F2 w4 (mV H2 l)∧St F2 w4 (mV H2 l) ∧
      RE F2 w4 env a∧Mk n0 T F2 (mV H2 l) w4 a.defers:=by
      intro o st' pe ho hst hHl;subst ho;obtain⟨m1,m2,m3⟩:=mB (o':=.loop { rec st' pe with state:=.exhausted }) l2 hHl (by rfl);have hrun:=run_endLoop (P:=P) m3 (by grind);have M1:=E01.trans (l1.trans m1);have M2:=M1.forget (nC H2 l _);refine⟨_,by grind,M2,m2.forget (nC H2 l _),re.up (M1.up st),?_⟩;have mk0:=mk.ext E01;exact(mk0.ext (l1.trans m1)).sub (nC H2 l _)
     rcases l4 with ⟨q1,q2⟩|⟨q1,q2⟩|⟨id,q1,q2⟩|⟨id,q1,q2⟩
     ·obtain⟨w4,r1,r2,r3,r4,r5⟩:=fin _ .ready none rfl (by simp) q1
      exact⟨none,w4,r1,.normal,env,F2,_,rfl,hsz,r2,r3,r4,r5,q2⟩
     ·obtain⟨w4,r1,r2,r3,r4,r5⟩:=fin _ .done (some .ret) rfl (by simp) q1
      exact⟨some .ret,w4,r1,wpIn_ret ⟨.ret,env,F2,_,rfl,hsz,r2,r3,r4,r5,q2⟩⟩
     ·obtain⟨w4,r1,r2,r3,r4,r5⟩:=fin _ .done (some (.exit id)) rfl (by simp) q1
      exact⟨some (.exit id),w4,r1,wpIn_exit ⟨.exit id,env,F2,_,rfl,hsz,r2,r3,r4,r5,q2⟩⟩
     ·obtain⟨w4,r1,r2,r3,r4,r5⟩:=fin _ .done (some (.goto id)) rfl (by simp) q1
      exact⟨some (.goto id),w4,r1,wpIn_goto ⟨.goto id,env,F2,_,rfl,hsz,r2,r3,r4,r5,q2⟩⟩
 ·-- a round
  intro B1 hB1' as H' Q' hHl hlen hass F2 w2 vs hB2' st2 hA;have hB2:Up F W1 F2 w2:=Up.trans hB1' hB2';obtain⟨m1,_,m3⟩:=mB (o':=.loop (rec .ready none)) st2 hHl (by rfl);have hsize:vs.size=ps.size:=by rw[←hlen];exact hA.1.symm
  have hy:=run_yield (P:=P) (args:=vs) m3 (by grind);have hre:RE F2 w2 env { tmps:=a.tmps,defers:=[] }:=re1.up hB2;obtain⟨p1,p2⟩:=aKB ps.toList as vs.toList env a.tmps (by grind) (fun i x v hx hv=>hA.2 i x v hx (by grind)) (fun p hp=>by grind) hre;rw[←aFq]at p1 p2;rw[hrec]at hy;refine⟨fn,_,assign,body,hy,roundIn_of_wpIn (by trivial) ?_⟩;refine wpIn_mono (hass F2 w2 { tmps:=_,defers:=[] } w2.heap.size [] hB2' (A6 _) (p2.trans hsz) st2 p1 Mk.nil) ?_;rintro e a3 w3 ⟨x,env3,F3,H3,q1,q2,q3,q4,q5,q6,q7,q8,q9⟩;subst q7;cases e with
  | normal =>
    obtain⟨s1,s2,s3⟩:=mB (o':=.loop (rec .busy none)) q4 q8 (by rfl);refine⟨_,run_beginRound s3 (by rw[hrec]),?_⟩;have hbusy:({ rec .ready none with state:=.busy }:Loop)=rec .busy none:=by rw[hrec]
    rw[hbusy];have E3:=q3.trans s1;refine wpIn_mono (q9 F3 _ a3 w2.heap.size [] (Base.Up.step (B:=B1) hB2' st2 E3) E3.le q2 s2 (q5.up (s1.up q4)) (q6.ext s1)) ?_;rintro e a4 w4 ⟨x,env4,F4,H4,t1,t2,t3,t4,t5,t6,t7,t8⟩
    have fin:∀(jump:Option Code)(o:Obj),o = .loop (rec (if jump.isNone then .ready else .done) jump)→Q' (.bool jump.isNone) (hset H4 l (.obj true o)) →
     ∃ v w',(Instr.endRound l jump).run P w4 = .ok v w'∧vH F2 w2 H' Q' (.returned v) w':=by
     intro jump o ho hQ;obtain⟨u1,u2,u3⟩:=mB (o':=o) t4 t7 (by rfl);refine⟨_,_,run_endRound jump u3,_,.bool jump.isNone,F4,hset H4 l (.obj true o),rfl,?_,?_,.bool _,hQ⟩
     ·have:({ rec .busy none with state:=if jump.isNone then .ready else .done,pending:=jump }:Loop)=rec (if jump.isNone then .ready else .done) jump:=by rw[hrec]
      rw[this,←ho];exact E3.trans (t3.trans u1)
     grind
    cases e with
    | normal=>simp only at t1;subst t1;exact fin none _ rfl t8
    | ret=>simp only at t1;subst t1;exact fin (some .ret) _ rfl t8
    | exit id=>simp only at t1;subst t1;exact fin (some (.exit id)) _ rfl t8
    | goto id=>simp only at t1;subst t1;exact fin (some (.goto id)) _ rfl t8
    | panic c=>grind
    | outgrown=>grind
  | exit id=>simp at q1
  | ret=>simp at q1
  | goto l=>simp at q1
  | panic c=>grind
  | outgrown=>grind

theorem WD.rng{r:Option Nat}{f':AO}{ps:List Nat}{assign body:DCode}{Q:QC}{gf:FuncId}{first cap:List AV}(hr:r=none∨∃ l0 r0,r=some l0∧H l0=some (.obj true (.loop r0)))(hev:aL env f' = .fn (.func gf) first cap)
 (h:∀(B':Base)(l:Nat)(oR oB:Obj)(oD:Code→Obj),B.Up B'.F B'.w→H l=none→B.w.heap.size≤l→l<B'.w.heap.size→(∃ q,oB = .loop q) →
  (∀(B1:Base),B'.Up B1.F B1.w→∀(as:List AV)(H':Hp)(Q':AV→Hp→Prop),H' l=some (.obj true oR)→as.length=ps.length →
   WD B1 P (some l) N assign (fun e env2 H2=>e = .normal∧H2 l=some (.obj true oR)∧WD B1 P (some l) N body (aOx l oR oB oD Q') env2 (hset H2 l (.obj true oB))) (pR env ps as) H'→YW B1 P l as H' Q') →
  FnW B' P gf (first++[.fn (.yield l) [] []]++cap) (hset H l (.obj true oR)) (aOw l oR oD Q env)):WD B P r N (.rng f' ps assign body) Q env H:=by
 intro c hc;cases c<;>simp only[bR]at hc
 case rangeFunc g qs x y =>
  split at hc
  ·rename_i g' x' y' hg hx hy
   split at hc
   ·rename_i hall
    simp only[oSI,DCode.rng.injEq]at hc;obtain⟨rfl,rfl,rfl,rfl⟩:=hc;have hps:∀ p∈qs.toList,p<N:=fun p hp=>by grind
    have h':=fun(B':Base) (l:Nat) (oR oB:Obj) (oD:Code→Obj) (h1:B.Up B'.F B'.w) (h2:H l=none) (h3:B.w.heap.size≤l) (h3':l<B'.w.heap.size) (h4:∃ q,oB = .loop q)
     (hround:∀(B1:Base),B'.Up B1.F B1.w→∀(as:List AV)(H':Hp)(Q':AV→Hp→Prop),H' l=some (.obj true oR)→as.length=qs.size →
      W B1 P (some l) N x (fun e env2 H2=>e = .normal∧H2 l=some (.obj true oR)∧W B1 P (some l) N y (aOx l oR oB oD Q') env2 (hset H2 l (.obj true oB))) (pR env qs.toList as) H'→YW B1 P l as H' Q') =>
     h B' l oR oB oD h1 h2 h3 h3' h4 fun B1 hB1 as H' Q' h5 h6 h7=>hround B1 hB1 as H' Q' h5 AM ((h7 x hx).mono fun e env2 H2 ⟨k1,k2,k3⟩=>⟨k1,k2,k3 y hy⟩)
    rcases hr with rfl|⟨l0,r0,rfl,hl0⟩;·exact W.rng hg hev hps h'
    ·exact W.rngIn hl0 hg hev hps h'
   ·simp at hc
  ·simp at hc
 all_goals exfalso;first|(simp at hc;done)|grind [bL]

variable{P:Program}{B:Base}{H:Hp}{env:aH}{r:Option Nat}{N:Nat}{Q:QC}

theorem CallV.fn{f:FuncId}{first cap as:List AV}{Q Q':AV→Hp→Prop}(h:FnW B P f (first++as++cap) H Q')(hq:∀ v H',Q' v H'→Q v H'):CallV B P (.fn (.func f) first cap) as H Q :=
 CallV.mono (fv:=.fn (.func f) first cap) h hq

theorem aPe(ix:Nat)(d:Option Nat)(op:DOp)(K:aH→Hp→Prop)(env:aH)(H:Hp):opW B P ⟨ix,d,op,none⟩ K env H=iI B P d op K env H:=rfl
theorem WD.regD{l:List DOper}(hm:P.follows .mixedOrders=true)(h:∀ K:aH→Hp→Prop,(∀ e h,Q .normal e h→K e h)→RD B P l K env H noL):WD B P r N (.reg true l) Q env H :=
 WD.reg hm (h _ fun _ _ h=>h)
theorem FnW.shift{f:FuncId}{as:List AV}{Q:AV→Hp→Prop}(h:FnW B P f as H fun v H'=>∃ v' H'',Shift (upd anyE 0 v) H' (upd anyE 0 v') H''∧Q v' H''):FnW B P f as H Q:=by
 refine⟨h.1,fun F w vs h1 h2 h3=>(h.2 F w vs h1 h2 h3).mono ?_⟩;rintro e w' ⟨r,v,F',H',rfl,k1,k2,k3,v',H'',k4,k5⟩;obtain⟨F'',l1,l2,l3⟩:=k4 F' w' { tmps := #[r],defers:=[] } k2 ⟨fun k=>by
  by_cases hk:k=0;·simp_all
  ·simp only[upd,hk,AAd,anyE];exact .any _,(B.gi.up h1).up (k1.up h2)⟩
 have:=l3.rv 0;exact⟨r,v',F'',H'',rfl,k1.trans l1,l2,by simp_all,k5⟩
theorem FnW.forget{f:FuncId}{as:List AV}{Q:AV→Hp→Prop}(h:FnW B P f as H fun v H'=>∃ H'',(∀ b x,H'' b=some x→H' b=some x)∧Q v H''):FnW B P f as H Q:=by
 refine FnW.shift ⟨h.1,fun F w vs h1 h2 h3=>(h.2 F w vs h1 h2 h3).mono ?_⟩;rintro e w' ⟨r,v,F',H',rfl,k1,k2,k3,H'',k4,k5⟩;exact⟨r,v,F',H',rfl,k1,k2,k3,v,H'',Shift.forget k4,k5⟩
structure CTk where
 wagon:ByteArray
 farmer:ByteArray
 net:Int
 void:Bool
structure dU where
 farmers:List (ByteArray×Int)
 meters:List (ByteArray×Int×Int)
 pans:List (ByteArray×Int)
 wagons:List (ByteArray×Int)
 tickets:List CTk
 closed:Nat
 book:List ByteArray
def aWE:List Nat:=[25,27,28,55,56,57,58,59,60,61,62,63,64,65,66,96,97,98,99,100,101,102,103,104]
def aMe(g:Nat):List Nat→Bool
 | []=>false
 | k::r=>if g=k then true else aMe g r
def lB(g:Nat):Bool:=aMe g aWE
inductive XCode where
 | skip
 | reg (fz:List (Nat×Bool)) (draw:Bool) (ops:List DOper)
 | seq (a b:XCode)
 | cond (c:AO) (a b:XCode)
 | block (id:Nat) (a:XCode)
 | loop (live:List Nat) (a:XCode)
 | scope (L:List Nat) (l:Nat) (a b:XCode)
 | again (L:List Nat) (l:Nat) (b:XCode)
 | lab (l:Nat)
 | goto (l:Nat)
 | rng (site:Nat) (live:List Nat) (f:AO) (ps:List Nat) (assign body:XCode)
 | exit (id:Nat)
 | ret

def XCode.erase:XCode→DCode
 | .skip=>.skip
 | .reg _ d ops=>.reg d ops
 | .seq a b=>.seq a.erase b.erase
 | .cond c a b=>.cond c a.erase b.erase
 | .block id a=>.block id a.erase
 | .loop _ a=>.loop a.erase
 | .scope _ l a b=>.scope l a.erase b.erase
 | .again _ _ _=>.ret
 | .lab l=>.lab l
 | .goto l=>.goto l
 | .rng _ _ f ps a b=>.rng f ps a.erase b.erase
 | .exit id=>.exit id
 | .ret=>.ret

inductive LSt where
 | ready
 | busy
 | done (x:DX)
deriving DecidableEq

inductive XB where
 | blk (g:Bool) (x:ABlk)
 | loop (K site:Nat) (vs:List AV) (s:LSt)
 | gh (st:dU) (p:Hp→Nat→Prop)
abbrev XH:=List (Option XB)

structure XFn where
 N:Nat
 res:List (Nat×Option (Bool×Nat))
 ownA:Bool
 ownR:Bool
 body:XCode
 dfr:Option (List DOper×Nat):=none
 prm:Option (List AV→List (Option XB)→Option (AV×List (Option XB))):=none

def XFn.fn(x:XFn):DFn:=⟨x.N,x.res,x.body.erase,none⟩

mutual
def kC:AV→List Nat
 | .agg cs=>kB cs
 | .tup vs=>kB vs
 | .sl b _ _ _=>[b]
 | .pt b _=>[b]
 | .mp b=>[b]
 | .sb b _=>[b]
 | .bp b=>[b]
 | .fn f first cap=>(match f with | .yield l=>[l]|_=>[])++(kB first++kB cap)
 | .ifc _ v=>kC v
 | _=>[]
def kB:List AV→List Nat
 | []=>[]
 | v::r=>kC v++kB r
end

mutual
def jD:AV→Bool
 | .agg cs=>kY cs
 | .tup vs=>kY vs
 | .sl .. | .pt .. | .mp _ | .sb .. | .bp _ | .any=>false
 | .fn f first cap=>(match f with | .yield _=>false|_=>true)&&(kY first&&kY cap)
 | .ifc _ v=>jD v
 | _=>true
def kY:List AV→Bool
 | []=>true
 | v::r=>jD v&&kY r
end

mutual
def gdA:AV→Bool
 | .agg cs=>gdL cs
 | .tup vs=>gdL vs
 | .fs rows=>gdR rows
 | .fp rows _ _ | .cs rows=>gdR rows
 | .sl .. | .pt .. | .mp _ | .sb .. | .bp _ | .any=>false
 | .fn f first cap=>(match f with | .yield _=>false|_=>true)&&(gdL first&&gdL cap)
 | .ifc _ v=>gdA v
 | _=>true
def gdL:List AV→Bool
 | []=>true
 | v::r=>gdA v&&gdL r
def gdR:List (List AV)→Bool
 | []=>true
 | v::r=>gdL v&&gdR r
end

mutual
def rnA(s:Nat→Option Nat):AV→AV
 | .agg cs=>.agg (kD s cs)
 | .tup vs=>.tup (kD s vs)
 | .sl b o z n=>match s b with
   | some c=>.sl c o z n
   | none=>.any
 | .pt b o=>match s b with
   | some c=>.pt c o
   | none=>.any
 | .mp b=>match s b with
   | some c=>.mp c
   | none=>.any
 | .sb b n=>match s b with
   | some c=>.sb c n
   | none=>.any
 | .bp b=>match s b with
   | some c=>.bp c
   | none=>.any
 | .fn f first cap=>match f with
   | .yield l=>match s l with
     | some c=>.fn (.yield c) (kD s first) (kD s cap)
     | none=>.any
   | f=>.fn f (kD s first) (kD s cap)
 | .ifc t v=>.ifc t (rnA s v)
 | v=>v
def kD(s:Nat→Option Nat):List AV→List AV
 | []=>[]
 | v::r=>rnA s v::kD s r
end

mutual
def slN:AV→List Nat
 | .agg cs=>xM cs
 | .tup vs=>xM vs
 | .sl b _ _ _=>[b]
 | .ifc _ v=>slN v
 | _=>[]
def xM:List AV→List Nat
 | []=>[]
 | v::r=>slN v++xM r
end

def bM(cs:List AV)(off s:Nat):Nat→List (List AV)
 | 0=>[]
 | n+1=>(cs.drop off).take s::bM cs (off+s) s n

mutual
def sH(b:Nat)(cs:List AV):AV→AV
 | .agg vs=>.agg (sG b cs vs)
 | .tup vs=>.tup (sG b cs vs)
 | .sl c o s n=>if c=b∧o+n*s≤cs.length then .fs (bM cs o s n) else .sl c o s n
 | .fn f first cap=>match f with
   | .yield l=>.fn (.yield l) first cap
   | f=>.fn f (sG b cs first) (sG b cs cap)
 | v=>v
def sG(b:Nat)(cs:List AV):List AV→List AV
 | []=>[]
 | v::r=>sH b cs v::sG b cs r
end

mutual
def sQ:AV→AV
 | .agg vs=>.agg (lT vs)
 | .tup vs=>.tup (lT vs)
 | .nilsl=>.fs []
 | v=>v
def lT:List AV→List AV
 | []=>[]
 | v::r=>sQ v::lT r
end

mutual
def cD:AV→AV→Bool
 | .int k n,.int k' n'=>decide (k=k')&&decide (n=n')
 | .bool a,.bool b=>a==b
 | .str s,.str t=>s.data.toList==t.data.toList
 | .agg xs,.agg ys=>fO xs ys
 | .tup xs,.tup ys=>fO xs ys
 | .sl b o s n,.sl b' o' s' n'=>decide (b=b')&&(decide (o=o')&&(decide (s=s')&&decide (n=n')))
 | .pt b o,.pt b' o'=>decide (b=b')&&decide (o=o')
 | .mp b,.mp b'=>decide (b=b')
 | .nilsl,.nilsl=>true
 | .nilpt,.nilpt=>true
 | .nilmap,.nilmap=>true
 | .nilfn,.nilfn=>true
 | .nilifc,.nilifc=>true
 | .fn f xs us,.fn g ys vs=>decide (f=g)&&(fO xs ys&&fO us vs)
 | .fs xs,.fs ys=>aEQ xs ys
 | _,_=>false
def fO:List AV→List AV→Bool
 | [],[]=>true
 | x::xs,y::ys=>cD x y&&fO xs ys
 | _,_=>false
def aEQ:List (List AV)→List (List AV)→Bool
 | [],[]=>true
 | x::xs,y::ys=>fO x y&&aEQ xs ys
 | _,_=>false
end
def aOm:Option XB→Option XB→Bool
 | none,none=>true
 | some (.blk g (.cells w xs)),some (.blk g' (.cells w' ys))=>g==g'&&(w==w'&&fO xs ys)
 | some (.blk g (.map w xs)),some (.blk g' (.map w' ys))=>g==g'&&(w==w'&&(fO (xs.map (·.1)) (ys.map (·.1))&&fO (xs.map (·.2)) (ys.map (·.2))))
 | some (.loop K s vs st),some (.loop K' s' vs' st')=>K==K'&&(s==s'&&(fO vs vs'&&decide (st=st')))
 | _,_=>false
def aAD:XH→XH→Bool
 | [],[]=>true
 | x::xs,y::ys=>aOm x y&&aAD xs ys
 | _,_=>false
def aHt:Option XB→Option XB→Bool
 | some (.blk _ (.cells w xs)),some (.blk _ (.cells w' ys))=>w==w'&&fO xs ys
 | _,_=>false

def nmB:XB→List Nat
 | .blk false (.cells _ cs)=>kB cs
 | .blk false (.map _ es)=>es.flatMap fun p=>kC p.1++kC p.2
 | .loop _ _ vs _=>kB vs
 | _=>[]
def nmO:Option XB→List Nat
 | some x=>nmB x
 | none=>[]
def rnB(s:Nat→Option Nat):XB→XB
 | .blk false (.cells w cs)=>.blk false (.cells w (kD s cs))
 | .blk false (.map w es)=>.blk false (.map w (es.map fun p=>(rnA s p.1,rnA s p.2)))
 | .loop K site vs st=>.loop K site (kD s vs) st
 | x=>x
def rnO(s:Nat→Option Nat):Option XB→Option XB
 | some x=>some (rnB s x)
 | none=>none
def fzB(b:Nat)(cs:List AV):XB→XB
 | .blk false (.cells w vs)=>.blk (kY (sG b cs vs)) (.cells w (sG b cs vs))
 | .blk false (.map w es)=>.blk false (.map w (es.map fun p=>(sH b cs p.1,sH b cs p.2)))
 | x=>x
def fzO(b:Nat)(cs:List AV):Option XB→Option XB
 | some x=>some (fzB b cs x)
 | none=>none

def hat(h:XH)(b:Nat):Option XB:=h.getD b none
def aI(h:XH):Hp:=fun b=>match hat h b with
 | some (.blk _ x)=>some x
 | _=>none

def cI(h:XH)(k:Nat):Nat→List Nat→List Nat→List Nat
 | 0,_,acc=>acc
 | _+1,[],acc=>acc
 | n+1,b::r,acc=>if b<k∨b∈acc then cI h k n r acc else
   match hat h b with
   | none=>cI h k n r acc
   | some x=>cI h k n (nmB x++r) (acc++[b])
def vP:Nat:=4096

def fR(b:Nat):List Nat→Option Nat
 | []=>none
 | c::r=>if b=c then some 0 else (fR b r).map (· + 1)

def aZ:List Nat→List AV→aH
 | k::ks,v::vs=>fun j=>if j=k then v else aZ ks vs j
 | _,_=>anyE

def keepS(k:Nat)(acc:List Nat):Nat→Option Nat:=fun b=>if b<k then some b else (fR b acc).map (· + k)
def cW:Nat→XH→XH
 | 0,_=>[]
 | n+1,[]=>none::cW n []
 | n+1,x::xs=>x::cW n xs
def mR(k:Nat)(acc:List Nat)(h:XH):XH:=(cW k h).map (rnO (keepS k acc))++acc.map fun b=>rnO (keepS k acc) (hat h b)
def cY(k:Nat)(vs:List AV)(h:XH):List Nat:=cI h k vP (kB vs++(cW k h).flatMap nmO) []

def jO(k:Nat)(L:List Nat)(e:aH)(h:XH):aH:=aZ L (kD (keepS k (cY k (L.map e) h)) (L.map e))
def jK(k:Nat)(L:List Nat)(e:aH)(h:XH):XH:=mR k (cY k (L.map e) h) h

def fz1(b:Nat)(e:aH)(h:XH):aH×XH:=match hat h b with
 | some (.blk true (.cells _ cs))=>(fun j=>sH b cs (e j),(h.map (fzO b cs)).set b none)
 | _=>(e,h)
def aAS:List Nat→aH→XH→aH×XH
 | [],e,h=>(e,h)
 | b::r,e,h=>aAS r (fz1 b e h).1 (fz1 b e h).2
def aUl(f:List Nat→List Nat)(b:Nat):Option XB→List Nat
 | some (.blk false (.cells _ cs))=>f (xM cs)++[b]
 | _=>[b]
def kP(h:XH):Nat→List Nat→List Nat
 | 0,l=>l
 | n+1,l=>l.flatMap fun b=>aUl (kP h n) b (hat h b)
def aPR(e:aH)(h:XH):Nat×Bool→List Nat
 | (j,false)=>kP h 2 (slN (e j))
 | (j,true)=>match e j with
   | .pt b _=>match hat h b with
     | some (.blk false (.cells _ cs))=>kP h 2 (xM cs)
     | _=>[]
   | _=>[]
def nzE:List (Nat×Bool)→aH→aH
 | [],e=>e
 | (_,true)::r,e=>nzE r e
 | (k,false)::r,e=>fun j=>if j=k then sQ (nzE r e j) else nzE r e j
def aKo(v:AV)(h:XH):XH:=match v with
 | .sl b 0 s n=>match hat h b with
   | some (.blk g (.cells w cs))=>h.set b (some (.blk g (.cells w (cs.take (n*s)))))
   | _=>h
 | _=>h
def wO:List (Nat×Bool)→aH→XH→XH
 | [],_,h=>h
 | (k,_)::r,e,h=>if 1000000≤k then aKo (e (k-1000000)) (wO r e h) else wO r e h
def aWH(fz:List (Nat×Bool))(e:aH)(h:XH):aH×XH:=(nzE fz (aAS (fz.flatMap (aPR e h)) e h).1,(aAS (fz.flatMap (aPR e h)) e h).2)
def fzX(fz:List (Nat×Bool))(e:aH)(h:XH):aH×XH:=aWH fz e (wO fz e h)

def fS(h:XH):AV→Bool
 | .sb b _=>match hat h b with
   | some (.blk g _)=>g
   | _=>false
 | .sl b _ _ _=>match hat h b with
   | some (.blk g _)=>g
   | _=>false
 | .any=>false
 | _=>true
def kN(op:DOp)(e:aH)(h:XH):Bool:=match op with
 | .alloc z=>kY z
 | .box x=>jD (aL e x)
 | .bslice _ _ z ps=>kY z&&ps.all fun p=>jD (aL e p.2.2)
 | .mksl _ _ z _ _=>kY z
 | .mkmap=>true
 | .allocb=>true
 | .bytes _=>true
 | .rngs _=>true
 | .app _ _ x y=>fS h (aL e x)&&fS h (aL e y)
 | _=>false

def oU(h:XH)(own:Option Nat)(g:Bool)(x:ABlk):XH:=(match own with
 | some b=>h.set b none
 | none=>h)++[some (.blk g x)]

def oT(n:Nat)(h:XH)(p x:AV):Option XH:=match p with
 | .pt b o=>match hat h b,cellsOf x with
   | some (.blk g (.cells true cs)),some vs=>if vs.length=n∧o+n≤cs.length then some (h.set b (some (.blk (g&&kY vs) (.cells true (bG cs o vs))))) else none
   | _,_=>none
 | _=>none

def sU(q:Nat)(h:XH)(m k x:AV):Option XH:=match m with
 | .mp b=>match hat h b with
   | some (.blk g (.map true es))=>(kA q k x es).map fun es'=>h.set b (some (.blk (g&&(jD k&&jD x)) (.map true es')))
   | _=>none
 | _=>none

def aHh(h:XH)(x:AV):Option (AV×XH):=match x with
 | .pt b 0=>match hat h b with
   | some (.blk g (.obj true (.stringIter s pos)))=>if pos<s.size then some (.tup [.bool true,.int .i64 (pos:Int),.int .i32 (Utf8.decode s pos).1],h.set b (some (.blk g (.obj true (.stringIter s (pos+(Utf8.decode s pos).2)))))) else some (.tup [.bool false],h)
   | _=>none
 | _=>none


def aBX(s:Nat)(h:XH)(x y:AV):Option (Nat×XH):=match x,eT s (aI h) y with
 | .sl b o s' len,some (n,new)=>match hat h b with
   | some (.blk g (.cells true cs))=>if s'=s∧o+len*s≤cs.length then some (min n len,h.set b (some (.blk (g&&fS h y) (.cells true (bG cs o (new.take (min n len*s))))))) else none
   | _=>none
 | _,_=>none

def roX:Option XB→Option XB
 | some (.blk g x)=>some (.blk g x.ro)
 | _=>none

abbrev eA:=Nat→List AV→XH→Option (AV×XH)
abbrev fA:=AV→List AV→XH→Option (AV×XH)

def gZ(xs:List AV)(h:XH):List Nat:=cI h 0 vP (kB xs) []
def vS(b:Bool)(all:List AV)(h:XH):List Nat:=match b with
 | true=>(List.range h.length).filter fun b=>(hat h b).isSome
 | false=>gZ all h
def iU(fv:AV)(as:List AV)(h:XH):List Nat:=match fv with
 | .fn (.func g) first cap=>vS (lB g) (first++as++cap) h
 | v=>gZ (v::as) h
def iK(acc:List Nat)(h:XH):XH:=acc.map fun b=>rnO (fun b=>fR b acc) (hat h b)
def gQ(acc:List Nat)(n:Nat):Nat→Option Nat:=fun i=>if i<acc.length then acc[i]? else some (n+(i-acc.length))
def yY(h:XH):List Nat→XH→XH
 | b::bs,x::xs=>yY (h.set b x) bs xs
 | _,_=>h
def jJ(acc:List Nat)(h hl:XH):XH:=yY h acc ((cW acc.length hl).map (rnO (gQ acc h.length)))++(hl.drop acc.length).map (rnO (gQ acc h.length))
def aAK(acc:List Nat)(h:XH)(r:AV×XH):AV×XH:=(rnA (gQ acc h.length) r.1,jJ acc h r.2)

def aFE(run:eA)(g:Nat)(all:List AV)(h:XH):Bool→Option (AV×XH)
 | true=>run g all h
 | false=>let acc:=gZ all h
   (run g (kD (fun b=>fR b acc) all) (iK acc h)).map (aAK acc h)
def fU(run:eA)(runY:fA)(fv:AV)(as:List AV)(h:XH):Option (AV×XH):=match fv with
 | .fn (.func g) first cap=>aFE run g (first++as++cap) h (lB g)
 | .fn (.yield l) [] [] =>
   let acc:=iU (.fn (.yield l) [] []) as h
   (runY (rnA (fun b=>fR b acc) (.fn (.yield l) [] [])) (kD (fun b=>fR b acc) as) (iK acc h)).map (aAK acc h)
 | _=>none

def ghO:Option XB→Bool
 | some (.gh _ _)=>true
 | _=>false
def aFk:XH→XH→Bool
 | x::xs,y::ys=>(x.isNone||(y.isSome && !ghO x))&&aFk xs ys
 | [],_=>true
 | _,[]=>false

def nX(run:eA)(fv:AV)(as:List AV)(h:XH):Option AV:=match fv with
 | .fn (.func g) first cap =>
   let all:=first++as++cap
   let acc:=gZ all h
   match run g (kD (fun b=>fR b acc) all) ((iK acc h).map roX)with
   | some (v,hl)=>if gdA v&&aFk (iK acc h) hl then some v else none
   | none=>none
 | _=>none

def cS(run:eA)(runY:fA)(d:Option Nat)(op:DOp)(e:aH)(h:XH):Option (aH×XH):=match op with
 | .store n p x _=>(oT n h (aL e p) (aL e x)).map fun h'=>(aX e d .any,h')
 | .copy s x y=>(aBX s h (aL e x) (aL e y)).map fun r=>(aX e d (.int .i64 (r.1:Int)),r.2)
 | .mapup q m k x=>(sU q h (aL e m) (aL e k) (aL e x)).map fun h'=>(aX e d .any,h')
 | .nxts x=>(aHh h (aL e x)).map fun r=>(aX e d r.1,r.2)
 | .callf true f xs _=>(nX run (aL e f) (xs.map (aL e)) h).map fun v=>(aX e d v,h)
 | .callf false f xs _=>(fU run runY (aL e f) (xs.map (aL e)) h).map fun r=>(aX e d r.1,r.2)
 | op=>match aD op e (aI h)with
   | some (.val v)=>some (aX e d v,h)
   | some (.new own x f)=>some (aX e d (f h.length),oU h own (kN op e h) x)
   | none=>none

def fI(run:eA)(runY:fA):List DOper→aH→XH→Option (aH×XH)
 | [],e,h=>some (e,h)
 | o::r,e,h=>match gd o e with
   | some true=>(cS run runY o.dst o.op e h).bind fun s=>fI run runY r s.1 s.2
   | some false=>fI run runY r (aX e o.dst (.tup [])) h
   | none=>none

def aMh(ix:Nat)(op:DOp)(e:aH)(L:List (Nat×Nat)):List (Nat×Nat):=match op with
 | .load _ _ x=>match eH (aL e x)with
   | some b=>(ix,b)::L
   | none=>L
 | _=>L
def xE(op:DOp)(e:aH)(h:XH)(L:List (Nat×Nat)):Bool:=match op with
 | .store _ p _ l=>L.all fun q => !l.contains q.1||eH (aL e p) != some q.2
 | .app _ _ x _=>L.all fun q=>eH (aL e x) != some q.2
 | _=>true
def aBO(op:DOp)(e:aH)(h h':XH)(L:List (Nat×Nat)):Bool:=match op with
 | .callf false f xs l=>L.all fun q=>(hat h' q.2).isSome&&(!l.contains q.1||(!(iU (aL e f) (xs.map (aL e)) h).contains q.2||aHt (hat h q.2) (hat h' q.2)))
 | _=>true
def fM(run:eA)(runY:fA):List DOper→aH→XH→List (Nat×Nat)→Option (aH×XH)
 | [],e,h,_=>some (e,h)
 | o::r,e,h,L=>match gd o e with
   | some true=>if xE o.op e h L then (cS run runY o.dst o.op e h).bind fun s=>if aBO o.op e h s.2 L then fM run runY r s.1 s.2 (aMh o.ix o.op e L) else none else none
   | some false=>fM run runY r (aX e o.dst (.tup [])) h L
   | none=>none

def fF(step:aH→XH→Option (DX×aH×XH))(k:Nat)(L:List Nat):Nat→aH→XH→Option (DX×aH×XH)
 | 0,_,_=>none
 | n+1,e,h=>match step (jO k L e h) (jK k L e h)with
   | some (.normal,e',h')=>fF step k L n e' h'
   | r=>r

def vK(l:Nat):Option (DX×aH×XH)→Option (DX×aH×XH)
 | some (.normal,e,h)=>some (.goto l,e,h)
 | some (.goto j,e,h)=>if j=l then some (.normal,e,h) else none
 | r=>r
def gM(l:Nat)(r:Option (DX×aH×XH))(f:aH→XH→Option (DX×aH×XH)):Option (DX×aH×XH):=match r with
 | some (.goto j,e,h)=>if j=l then f e h else none
 | r=>r

def iA(h:XH)(l:Nat):Option LSt:=match hat h l with
 | some (.loop _ _ _ s)=>some s
 | _=>none
def loopTo(h:XH)(l:Nat)(s:LSt):XH:=match hat h l with
 | some (.loop K site vs _)=>h.set l (some (.loop K site vs s))
 | _=>h
def aAO:AV→Bool
 | .fn (.func _) _ _=>true
 | _=>false
def aAP(rd:Option Nat)(h:XH):Bool:=match rd with
 | none=>true
 | some l=>match iA h l with
   | some .busy=>true
   | _=>false

def aT(run:eA)(runY:fA)(K k n:Nat)(rd:Option Nat):XCode→aH→XH→Option (DX×aH×XH)
 | .skip,e,h=>some (.normal,e,h)
 | .reg fz draw ops,e,h=>(if draw then fM run runY ops (fzX fz e h).1 (fzX fz e h).2 [] else fI run runY ops (fzX fz e h).1 (fzX fz e h).2).map fun r=>(.normal,r.1,r.2)
 | .seq a b,e,h=>match aT run runY K k n rd a e h with
   | some (.normal,e',h')=>aT run runY K k n rd b e' h'
   | r=>r
 | .cond c a b,e,h=>match aL e c with
   | .bool true=>aT run runY K k n rd a e h
   | .bool false=>aT run runY K k n rd b e h
   | _=>none
 | .block id a,e,h=>match aT run runY K k n rd a e h with
   | some (.exit j,e',h')=>if j=id then some (.normal,e',h') else some (.exit j,e',h')
   | r=>r
 | .loop L a,e,h=>fF (aT run runY K k n rd a) k L n e h
 | .scope L l a b,e,h=>gM l (aT run runY K k n rd a e h) fun e h=>vK l (fF (fun e h=>vK l (aT run runY K k n rd b e h)) k L n e h)
 | .again L l b,e,h=>vK l (fF (fun e h=>vK l (aT run runY K k n rd b e h)) k L n e h)
 | .lab _,e,h=>some (.normal,e,h)
 | .goto l,e,h=>some (.goto l,e,h)
 | .rng site L f _ _ _,e,h=>if aAP rd h&&aAO (aL e f) then
   match fU run runY (aL e f) [.fn (.yield h.length) [] []] (h++[some (.loop K site (L.map e) .ready)])with
   | some (_,h')=>match iA h' h.length with
     | some .ready=>some (.normal,e,h'.set h.length none)
     | some (.done x)=>some (x,e,h'.set h.length none)
     | _=>none
   | none=>none
   else none
 | .exit id,e,h=>some (.exit id,e,h)
 | .ret,e,h=>some (.ret,e,h)

def aAu{α β:Type}(f:α→Option (List β)):List α→Option (List β)
 | []=>some []
 | a::l=>match f a,aAu f l with
   | some x,some y=>some (x++y)
   | _,_=>none
def aTx(d:Option Nat)(op:DOp)(e:aH)(h:XH):Option (List (aH×XH)):=match op with
 | .app s bts x y=>match aED s bts (aI h) (aL e x) (aL e y)with
   | some (.new own1 x1 f1,.new own2 x2 f2)=>some [(aX e d (f1 h.length),oU h own1 (kN (.app s bts x y) e h) x1),(aX e d (f2 h.length),oU h own2 (kN (.app s bts x y) e h) x2)]
   | _=>none
 | _=>none
def aIM(run:eA)(runY:fA)(d:Option Nat)(op:DOp)(e:aH)(h:XH):Option (List (aH×XH)):=match aTx d op e h with
 | some l=>some l
 | none=>(cS run runY d op e h).map fun s=>[s]
def yR(run:eA)(runY:fA):List DOper→aH→XH→Option (List (aH×XH))
 | [],e,h=>some [(e,h)]
 | o::r,e,h=>match gd o e with
   | some true=>(aIM run runY o.dst o.op e h).bind (aAu fun s=>yR run runY r s.1 s.2)
   | some false=>yR run runY r (aX e o.dst (.tup [])) h
   | none=>none
def aXr(id:Nat)(q:DX×aH×XH):DX×aH×XH:=if q.1 = .exit id then (.normal,q.2) else q
def aDi(f:aH→XH→Option (List (DX×aH×XH)))(q:DX×aH×XH):Option (List (DX×aH×XH)):=if q.1 = .normal then f q.2.1 q.2.2 else some [q]
def aAe(step:aH→XH→Option (List (DX×aH×XH)))(k:Nat)(L:List Nat):Nat→aH→XH→Option (List (DX×aH×XH))
 | 0,_,_=>none
 | n+1,e,h=>(step (jO k L e h) (jK k L e h)).bind (aAu (aDi (aAe step k L n)))
def iX(run:eA)(runY:fA)(K k n:Nat)(rd:Option Nat):XCode→aH→XH→Option (List (DX×aH×XH))
 | .reg fz false ops,e,h=>(yR run runY ops (fzX fz e h).1 (fzX fz e h).2).map fun l=>l.map fun r=>(.normal,r.1,r.2)
 | .seq a b,e,h=>(iX run runY K k n rd a e h).bind (aAu (aDi (iX run runY K k n rd b)))
 | .cond c a b,e,h=>match aL e c with
   | .bool true=>iX run runY K k n rd a e h
   | .bool false=>iX run runY K k n rd b e h
   | _=>none
 | .block id a,e,h=>(iX run runY K k n rd a e h).map fun l=>l.map (aXr id)
 | .loop L a,e,h=>aAe (iX run runY K k n rd a) k L n e h
 | c,e,h=>(aT run runY K k n rd c e h).map fun q=>[q]

def cT:XCode→Nat→Option (List Nat×List Nat×XCode×XCode)
 | .seq a b,s | .cond _ a b,s | .scope _ _ a b,s=>match cT a s with
   | some r=>some r
   | none=>cT b s
 | .block _ a,s | .loop _ a,s=>cT a s
 | .rng s' L _ ps a b,s=>if s'=s then some (L,ps,a,b) else match cT a s with
   | some r=>some r
   | none=>cT b s
 | _,_=>none

def nU(own:Bool)(k:Nat)(v:AV)(h:XH):AV×XH :=
 let p:=if own then (upd anyE 0 v,h) else aAS (kP h 2 (slN v)) (upd anyE 0 v) h
 let u:=if own then p.1 0 else sQ (p.1 0)
 let acc:=cY k [u] p.2
 (rnA (keepS k acc) u,mR k acc p.2)

def eX(c:Option Nat)(res:List (Nat×Option (Bool×Nat)))(own:Bool)(k:Nat)(r:Option (DX×aH×XH)):Option (AV×XH):=match r with
 | some (.exit _,_,_)|some (.goto _,_,_)=>none
 | some (_,e,h')=>(jZ res e (aI h')).map fun v=>nU own k v h'
 | none=>none

def aTM(p:AV×XH):Option (AV×XH)→Bool
 | some q=>cD p.1 q.1&&aAD p.2 q.2
 | none=>false
def aRV(res:List (Nat×Option (Bool×Nat)))(own:Bool)(k:Nat):Option (List (DX×aH×XH))→Option (AV×XH)
 | some (q::l)=>match eX none res own k (some q)with
   | some p=>if l.all (fun q=>aTM p (eX none res own k (some q))) then some p else none
   | none=>none
 | _=>none
def aEs(res:List (Nat×Option (Bool×Nat)))(r:Option (DX×aH×XH)):Option (AV×XH):=match r with
 | some (.exit _,_,_)|some (.goto _,_,_)=>none
 | some (_,e,h')=>(jZ res e (aI h')).map fun v=>(v,h')
 | none=>none
def aJi(g:Bool)(res:List (Nat×Option (Bool×Nat)))(own:Bool)(k:Nat)(r:Option (DX×aH×XH)):Option (AV×XH):=match g with
 | true=>aEs res r
 | false=>eX none res own k r

def aCf(D:Nat→Option XFn)(run:eA)(runY:fA)(n:Nat):eA:=fun K as h=>match D K with
 | none=>none
 | some d=>match d.prm with
   | some f=>f as h
   | none=>if as.length≤d.N then match d.dfr with
     | none=>aJi (lB K) d.res d.ownR h.length (aT run runY K h.length n none d.body (aV (if d.ownA then as else lT as)) h)
     | some _=>aRV d.res d.ownR h.length (iX run runY K h.length n none d.body (aV (if d.ownA then as else lT as)) h)
     else none
def aEO(D:Nat→Option XFn)(run:eA)(runY:fA)(n:Nat):fA:=fun fv as h=>match fv with
 | .fn (.yield l) [] []=>match hat h l with
   | some (.loop K site vs .ready)=>match (D K).bind fun d=>cT d.body site with
     | none=>none
     | some (L,ps,a,b)=>if as.length=ps.length then match aT run runY K h.length n (some l) a (pR (aZ L vs) ps as) h with
       | some (.normal,e1,h1)=>match iA h1 l with
         | some .ready=>match aT run runY K h.length n (some l) b e1 (loopTo h1 l .busy)with
           | some (x,_,h2)=>match iA h2 l with
             | some .busy=>some (match x with
               | .normal=>nU true h.length (.bool true) (loopTo h2 l .ready)
               | x=>nU true h.length (.bool false) (loopTo h2 l (.done x)))
             | _=>none
           | none=>none
         | _=>none
       | _=>none
       else none
   | _=>none
 | _=>none
mutual
def cF(D:Nat→Option XFn):Nat→eA
 | 0=>fun _ _ _=>none
 | n+1=>aCf D (cF D n) (bK D n) n
def bK(D:Nat→Option XFn):Nat→fA
 | 0=>fun _ _ _=>none
 | n+1=>aEO D (cF D n) (bK D n) n
end

structure YI where
 K:Nat
 site:Nat
 env:aH
 oR:Obj
 oB:Obj
 oD:Code→Obj

inductive Gd:AV→Prop where
 | int (k:IntKind) (n:Int):Gd (.int k n)
 | bool (b:Bool):Gd (.bool b)
 | str (s:ByteArray):Gd (.str s)
 | agg (cs:List AV) (h:∀ c∈cs,Gd c):Gd (.agg cs)
 | tup (cs:List AV) (h:∀ c∈cs,Gd c):Gd (.tup cs)
 | fs (rows:List (List AV)) (h:∀ r∈rows,∀ c∈r,Gd c):Gd (.fs rows)
 | fp (rows:List (List AV)) (i o:Nat) (h:∀ r∈rows,∀ c∈r,Gd c):Gd (.fp rows i o)
 | cs (rows:List (List AV)) (h:∀ r∈rows,∀ c∈r,Gd c):Gd (.cs rows)
 | nilsl:Gd .nilsl
 | nilpt:Gd .nilpt
 | nilmap:Gd .nilmap
 | nilfn:Gd .nilfn
 | nilifc:Gd .nilifc
 | fn (f:Fn) (first cap:List AV) (hf:∀ l,f ≠ .yield l) (h1:∀ c∈first,Gd c) (h2:∀ c∈cap,Gd c):Gd (.fn f first cap)
 | ifc (t:TypeId) (v:AV) (h:Gd v):Gd (.ifc t v)

inductive Rn(D:Nat→Option XFn)(Y:Nat→Option YI)(r:Nat→Option Nat):AV→AV→Prop where
 | any (v:AV):Rn D Y r .any v
 | int (k:IntKind) (n:Int):Rn D Y r (.int k n) (.int k n)
 | bool (b:Bool):Rn D Y r (.bool b) (.bool b)
 | str (s:ByteArray):Rn D Y r (.str s) (.str s)
 | agg (xs ys:List AV) (hl:xs.length=ys.length) (h:∀(i:Nat)(x y:AV),xs[i]?=some x→ys[i]?=some y→Rn D Y r x y):Rn D Y r (.agg xs) (.agg ys)
 | tup (xs ys:List AV) (hl:xs.length=ys.length) (h:∀(i:Nat)(x y:AV),xs[i]?=some x→ys[i]?=some y→Rn D Y r x y):Rn D Y r (.tup xs) (.tup ys)
 | fs (rows:List (List AV)) (h:∀ r∈rows,∀ c∈r,Gd c):Rn D Y r (.fs rows) (.fs rows)
 | fp (rows:List (List AV)) (i o:Nat) (h:∀ r∈rows,∀ c∈r,Gd c):Rn D Y r (.fp rows i o) (.fp rows i o)
 | cs (rows:List (List AV)) (h:∀ r∈rows,∀ c∈r,Gd c):Rn D Y r (.cs rows) (.cs rows)
 | sl (b c o s n:Nat) (hr:r b=some c):Rn D Y r (.sl b o s n) (.sl c o s n)
 | pt (b c o:Nat) (hr:r b=some c):Rn D Y r (.pt b o) (.pt c o)
 | mp (b c:Nat) (hr:r b=some c):Rn D Y r (.mp b) (.mp c)
 | sb (b c n:Nat) (hr:r b=some c):Rn D Y r (.sb b n) (.sb c n)
 | bp (b c:Nat) (hr:r b=some c):Rn D Y r (.bp b) (.bp c)
 | nilsl:Rn D Y r .nilsl .nilsl
 | nilpt:Rn D Y r .nilpt .nilpt
 | nilmap:Rn D Y r .nilmap .nilmap
 | nilfn:Rn D Y r .nilfn .nilfn
 | nilifc:Rn D Y r .nilifc .nilifc
 | fn (f:Fn) (xs ys us vs:List AV) (hf:∀ l,f ≠ .yield l) (hl1:xs.length=ys.length) (h1:∀(i:Nat)(x y:AV),xs[i]?=some x→ys[i]?=some y→Rn D Y r x y)
  (hl2:us.length=vs.length) (h2:∀(i:Nat)(x y:AV),us[i]?=some x→vs[i]?=some y→Rn D Y r x y):Rn D Y r (.fn f xs us) (.fn f ys vs)
 | yield (l c:Nat) (hr:r l=some c):Rn D Y r (.fn (.yield l) [] []) (.fn (.yield c) [] [])
 | ifc (t:TypeId) (x y:AV) (h:Rn D Y r x y):Rn D Y r (.ifc t x) (.ifc t y)

def RnL(D:Nat→Option XFn)(Y:Nat→Option YI)(r:Nat→Option Nat)(xs ys:List AV):Prop:=xs.length=ys.length∧∀(i:Nat)(x y:AV),xs[i]?=some x→ys[i]?=some y→Rn D Y r x y

section
variable{D:Nat→Option XFn}{Y:Nat→Option YI}{r:Nat→Option Nat}

theorem RnL.nil:RnL D Y r [] []:=⟨rfl,by simp⟩
theorem RnL.cons{x y:AV}{xs ys:List AV}(h:Rn D Y r x y)(hs:RnL D Y r xs ys):RnL D Y r (x::xs) (y::ys):=⟨by simp[hs.1],fun i a b ha hb=>by
 grind [RnL]⟩
theorem RnL.inv{x:AV}{xs ys:List AV}(h:RnL D Y r (x::xs) ys):∃ y ys',ys=y::ys'∧Rn D Y r x y∧RnL D Y r xs ys':=by
 cases ys with
 | nil=>grind [RnL]
 | cons y ys'=>exact⟨y,ys',rfl,h.2 0 x y rfl rfl,by grind [RnL],fun i a b ha hb=>h.2 (i+1) a b (by grind) (by grind)⟩
theorem RnL.nil_inv{ys:List AV}(h:RnL D Y r [] ys):ys=[]:=D5 (by grind [RnL])
theorem RnL.append{xs ys xs' ys':List AV}(h:RnL D Y r xs ys)(h':RnL D Y r xs' ys'):RnL D Y r (xs++xs') (ys++ys'):=⟨by simp[h.1,h'.1],fun i a b ha hb=>by
 grind [RnL]⟩
theorem RnL.take{xs ys:List AV}(h:RnL D Y r xs ys)(n:Nat):RnL D Y r (xs.take n) (ys.take n):=⟨by simp[h.1],fun i a b ha hb=>by
 grind [RnL]⟩
theorem RnL.drop{xs ys:List AV}(h:RnL D Y r xs ys)(n:Nat):RnL D Y r (xs.drop n) (ys.drop n):=⟨by simp[h.1],fun i a b ha hb=>by
 grind [RnL]⟩
theorem RnL.map{α:Type}{f g:α→AV}{l:List α}(h:∀ x∈l,Rn D Y r (f x) (g x)):RnL D Y r (l.map f) (l.map g):=by
 induction l with
 | nil=>exact RnL.nil
 | cons x l ih=>grind [RnL]
theorem RnL.get{xs ys:List AV}(h:RnL D Y r xs ys){i:Nat}{x:AV}(hx:xs[i]?=some x):∃ y,ys[i]?=some y∧Rn D Y r x y:=by
 grind [RnL]
theorem RnL.self{xs:List AV}(h:∀ x∈xs,Rn D Y r x x):RnL D Y r xs xs:=⟨rfl,fun i x y hx hy=>by
 grind⟩

theorem Gd.rn{v:AV}(h:Gd v):Rn D Y r v v:=by
 induction h with
 | int k n=>exact .int k n
 | bool b=>exact .bool b
 | str s=>exact .str s
 | agg cs _ ih=>exact .agg cs cs rfl (RnL.self ih).2
 | tup cs _ ih=>exact .tup cs cs rfl (RnL.self ih).2
 | fs rows h _=>exact .fs rows h
 | fp rows i o h _=>exact .fp rows i o h
 | cs rows h _=>exact .cs rows h
 | nilsl=>exact .nilsl
 | nilpt=>exact .nilpt
 | nilmap=>exact .nilmap
 | nilfn=>exact .nilfn
 | nilifc=>exact .nilifc
 | fn f first cap hf _ _ ih1 ih2=>exact .fn f first first cap cap hf rfl (RnL.self ih1).2 rfl (RnL.self ih2).2
 | ifc t v _ ih=>exact .ifc t v v ih

theorem iF:∀{l:List AV},kY l=true→∀ x∈l,jD x=true
 | [],_,x,hx=>by simp at hx
 | v::l,h,x,hx=>by
   simp only[kY,A4]at h;rcases B5.1 hx with rfl|hx;·exact h.1
   ·exact iF h.2 x hx
theorem eU:∀{l:List AV},(∀ x∈l,jD x=true)→kY l=true
 | [],_=>rfl
 | v::l,h=>by simp[kY,h v (by simp),eU (l:=l) fun x hx=>h x (by simp[hx])]

theorem pZ{xs ys:List AV}(hl:xs.length=ys.length)(h:∀(i:Nat)(x y:AV),xs[i]?=some x→ys[i]?=some y→y=x∧Gd x):ys=xs∧∀ x∈xs,Gd x:=by
 have h1:∀ i:Nat,ys[i]?=xs[i]?:=fun i=>by
  grind
 have h2:ys=xs:=J1 h1
 grind [List.mem_iff_getElem?]

theorem Rn.same{v v':AV}(h:Rn D Y r v v'):jD v=true→v'=v∧Gd v:=by
 induction h with
 | any v=>simp[jD]
 | int k n=>exact fun _=>⟨rfl,.int k n⟩
 | bool b=>exact fun _=>⟨rfl,.bool b⟩
 | str s=>exact fun _=>⟨rfl,.str s⟩
 | agg xs ys hl _ ih =>
   intro h;simp only[jD]at h;obtain⟨rfl,h2⟩:=pZ hl fun i x y hx hy=>ih i x y hx hy (iF h x (A5 hx));exact⟨rfl,.agg _ h2⟩
 | tup xs ys hl _ ih =>
   intro h;simp only[jD]at h;obtain⟨rfl,h2⟩:=pZ hl fun i x y hx hy=>ih i x y hx hy (iF h x (A5 hx));exact⟨rfl,.tup _ h2⟩
 | fs rows h=>exact fun _=>⟨rfl,.fs rows h⟩
 | fp rows i o h=>exact fun _=>⟨rfl,.fp rows i o h⟩
 | cs rows h=>exact fun _=>⟨rfl,.cs rows h⟩
 | sl=>simp[jD]
 | pt=>simp[jD]
 | mp=>simp[jD]
 | sb=>simp[jD]
 | bp=>simp[jD]
 | nilsl=>exact fun _=>⟨rfl,.nilsl⟩
 | nilpt=>exact fun _=>⟨rfl,.nilpt⟩
 | nilmap=>exact fun _=>⟨rfl,.nilmap⟩
 | nilfn=>exact fun _=>⟨rfl,.nilfn⟩
 | nilifc=>exact fun _=>⟨rfl,.nilifc⟩
 | fn f xs ys us vs hf hl1 _ hl2 _ ih1 ih2 =>
   intro h;have h:kY xs=true∧kY us=true:=by
    simp_all [jD]
   obtain⟨rfl,h2⟩:=pZ hl1 fun i x y hx hy=>ih1 i x y hx hy (iF h.1 x (A5 hx));obtain⟨rfl,h3⟩:=pZ hl2 fun i x y hx hy=>ih2 i x y hx hy (iF h.2 x (A5 hx));exact⟨rfl,.fn f _ _ hf h2 h3⟩
 | yield=>simp[jD]
 | ifc t x y _ ih =>
   intro h;simp only[jD]at h;obtain⟨rfl,h2⟩:=ih h;exact⟨rfl,.ifc t _ h2⟩
theorem RnL.same{xs ys:List AV}(h:RnL D Y r xs ys)(hg:kY xs=true):ys=xs∧∀ x∈xs,Gd x :=
 pZ h.1 fun i x y hx hy=>(h.2 i x y hx hy).same (iF hg x (A5 hx))

mutual
theorem aJB:∀ v:AV,gdA v=true→Gd v
 | .agg cs,h=>.agg cs (aAR cs (by simpa [gdA]using h))
 | .tup cs,h=>.tup cs (aAR cs (by simpa [gdA]using h))
 | .fs rows,h=>.fs rows (aGO rows (by simpa [gdA]using h))
 | .fp rows i o,h=>.fp rows i o (aGO rows (by simpa [gdA]using h))
 | .cs rows,h=>.cs rows (aGO rows (by simpa [gdA]using h))
 | .sl ..,h=>by simp[gdA]at h
 | .pt ..,h=>by simp[gdA]at h
 | .mp _,h=>by simp[gdA]at h
 | .sb ..,h=>by simp[gdA]at h
 | .bp ..,h=>by simp[gdA]at h
 | .any,h=>by simp[gdA]at h
 | .fn f first cap,h=>by
   simp only[gdA,A4]at h;exact .fn f first cap (fun l e=>by subst e;simp at h) (aAR first h.2.1) (aAR cap h.2.2)
 | .ifc t v,h=>.ifc t v (aJB v (by simpa [gdA]using h))
 | .int k n,_=>.int k n
 | .bool b,_=>.bool b
 | .str s,_=>.str s
 | .nilsl,_=>.nilsl
 | .nilpt,_=>.nilpt
 | .nilmap,_=>.nilmap
 | .nilfn,_=>.nilfn
 | .nilifc,_=>.nilifc
theorem aAR:∀ l:List AV,gdL l=true→∀ c∈l,Gd c
 | [],_=>by simp
 | v::l,h=>by
   have h1:=aJB v (by simp only[gdL,A4]at h;exact h.1);have h2:=aAR l (by simp only[gdL,A4]at h;exact h.2);intro c hc;rcases B5.1 hc with rfl|hc;·exact h1
   ·exact h2 c hc
theorem aGO:∀ l:List (List AV),gdR l=true→∀ r∈l,∀ c∈r,Gd c
 | [],_=>by simp
 | v::l,h=>by
   have h1:=aAR v (by simp only[gdR,A4]at h;exact h.1);have h2:=aGO l (by simp only[gdR,A4]at h;exact h.2);intro c hc;rcases B5.1 hc with rfl|hc;·exact h1
   ·exact h2 c hc
end
theorem Gd.gr{v:AV}(hv:Gd v):jD v=true:=by
 induction hv with
 | agg cs _ ih=>grind [eU,jD]
 | tup cs _ ih=>grind [eU,jD]
 | fn f first cap hf _ _ ih1 ih2=>cases f<;>simp only[jD,eU ih1,eU ih2,aH6]<;>exact absurd rfl (hf _)
 | ifc t v _ ih=>grind [jD]
 | _=>rfl

theorem zQ(s:Nat→Option Nat):∀ l:List AV,kD s l=l.map (rnA s)
 | []=>rfl
 | v::l=>by simp[kD,zQ s l]
theorem Gd.rnA{v:AV}(h:Gd v)(s:Nat→Option Nat):rnA s v=v:=by
 have ls:∀{cs:List AV},(∀ c∈cs,Go.DL.rnA s c=c)→kD s cs=cs:=fun {cs} h=>by
  rw[zQ];induction cs with
  | nil=>rfl
  | cons c cs ih=>simp only[F8,h c (by simp),ih fun x hx=>h x (by simp[hx])]
 induction h with
 | agg cs _ ih=>simp only[Go.DL.rnA,ls ih]
 | tup cs _ ih=>simp only[Go.DL.rnA,ls ih]
 | fn f first cap hf _ _ ih1 ih2=>cases f<;>simp only[Go.DL.rnA,ls ih1,ls ih2]<;>exact absurd rfl (hf _)
 | ifc t v _ ih=>simp only[Go.DL.rnA,ih]
 | _=>rfl

theorem Rn.renum{r':Nat→Option Nat}{s:Nat→Option Nat}(hs:∀ b c d,s b=some c→r b=some d→r' c=some d){v v':AV}(h:Rn D Y r v v'):Rn D Y r' (rnA s v) v':=by
 have ls:∀{xs ys:List AV},xs.length=ys.length→(∀(i:Nat)(x y:AV),xs[i]?=some x→ys[i]?=some y→Rn D Y r' (Go.DL.rnA s x) y)→RnL D Y r' (kD s xs) ys:=fun {xs ys} hl h=>by
  grind [zQ,RnL]
 induction h with
 | any v=>exact .any v
 | int k n=>exact .int k n
 | bool b=>exact .bool b
 | str t=>exact .str t
 | agg xs ys hl _ ih=>exact .agg _ _ (ls hl ih).1 (ls hl ih).2
 | tup xs ys hl _ ih=>exact .tup _ _ (ls hl ih).1 (ls hl ih).2
 | fs rows h=>exact .fs rows h
 | fp rows i o h=>exact .fp rows i o h
 | cs rows h=>exact .cs rows h
 | sl b d o z n hr =>
   simp only[rnA];split;·rename_i c hc;exact .sl c d o z n (hs b c d hc hr)
   ·exact .any _
 | pt b d o hr =>
   simp only[rnA];split;·rename_i c hc;exact .pt c d o (hs b c d hc hr)
   ·exact .any _
 | mp b d hr =>
   simp only[rnA];split;·rename_i c hc;exact .mp c d (hs b c d hc hr)
   ·exact .any _
 | sb b d n hr =>
   simp only[rnA];split;·rename_i c hc;exact .sb c d n (hs b c d hc hr)
   ·exact .any _
 | bp b d hr =>
   simp only[rnA];split;·rename_i c hc;exact .bp c d (hs b c d hc hr)
   ·exact .any _
 | nilsl=>exact .nilsl
 | nilpt=>exact .nilpt
 | nilmap=>exact .nilmap
 | nilfn=>exact .nilfn
 | nilifc=>exact .nilifc
 | fn f xs ys us vs hf hl1 _ hl2 _ ih1 ih2 =>
   cases f with
   | yield l=>grind
   | _=>exact .fn _ _ _ _ _ hf (ls hl1 ih1).1 (ls hl1 ih1).2 (ls hl2 ih2).1 (ls hl2 ih2).2
 | yield l c0 hr =>
   simp only[rnA];split;·rename_i c hc;exact .yield c c0 (hs l c c0 hc hr)
   ·exact .any _
 | ifc t x y _ ih=>exact .ifc t _ _ ih
theorem RnL.renum{r':Nat→Option Nat}{s:Nat→Option Nat}(hs:∀ b c d,s b=some c→r b=some d→r' c=some d){xs ys:List AV}(h:RnL D Y r xs ys):RnL D Y r' (kD s xs) ys:=by
 rw[zQ];refine⟨by simpa using h.1,fun i x y hx hy=>?_⟩;rw[C4,A3]at hx;obtain⟨z,hz,rfl⟩:=hx;exact(h.2 i z y hz hy).renum hs

theorem Rn.mono{r':Nat→Option Nat}{Y':Nat→Option YI}(hr:∀ b c,r b=some c→r' b=some c){v v':AV}(h:Rn D Y r v v'):Rn D Y' r' v v':=by
 induction h with
 | any v=>exact .any v
 | int k n=>exact .int k n
 | bool b=>exact .bool b
 | str t=>exact .str t
 | agg xs ys hl _ ih=>exact .agg _ _ hl ih
 | tup xs ys hl _ ih=>exact .tup _ _ hl ih
 | fs rows h=>exact .fs rows h
 | fp rows i o h=>exact .fp rows i o h
 | cs rows h=>exact .cs rows h
 | sl b c o z n h=>exact .sl b c o z n (hr _ _ h)
 | pt b c o h=>exact .pt b c o (hr _ _ h)
 | mp b c h=>exact .mp b c (hr _ _ h)
 | sb b c n h=>exact .sb b c n (hr _ _ h)
 | bp b c h=>exact .bp b c (hr _ _ h)
 | nilsl=>exact .nilsl
 | nilpt=>exact .nilpt
 | nilmap=>exact .nilmap
 | nilfn=>exact .nilfn
 | nilifc=>exact .nilifc
 | fn f xs ys us vs hf hl1 _ hl2 _ ih1 ih2=>exact .fn f _ _ _ _ hf hl1 ih1 hl2 ih2
 | yield l c h1=>exact .yield l c (hr _ _ h1)
 | ifc t x y _ ih=>exact .ifc t _ _ ih
theorem RnL.mono{r':Nat→Option Nat}{Y':Nat→Option YI}(hr:∀ b c,r b=some c→r' b=some c){xs ys:List AV}(h:RnL D Y r xs ys):RnL D Y' r' xs ys :=
 ⟨h.1,fun i x y hx hy=>(h.2 i x y hx hy).mono hr⟩

def bCG:AV→Bool
 | .int _ _=>true
 | _=>false
mutual
def wK:AV→Bool
 | .agg cs=>okL cs
 | .tup vs=>okL vs
 | .sl .. | .pt .. | .mp _ | .sb .. | .bp _ | .cs _=>false
 | .fp rows _ _=>rows.all fun r=>r.all bCG
 | .fs rows=>rows.isEmpty
 | .fn f first cap=>(match f with | .yield _=>false|_=>true)&&(okL first&&okL cap)
 | .ifc _ v=>wK v
 | _=>true
def okL:List AV→Bool
 | []=>true
 | v::r=>wK v&&okL r
end

mutual
theorem aDc:∀ v:AV,wK v=true→Rn D Y r v v
 | .agg cs,h=>.agg cs cs rfl (qU cs (by simpa [wK]using h)).2
 | .tup cs,h=>.tup cs cs rfl (qU cs (by simpa [wK]using h)).2
 | .sl ..,h=>by simp[wK]at h
 | .pt ..,h=>by simp[wK]at h
 | .mp _,h=>by simp[wK]at h
 | .sb ..,h=>by simp[wK]at h
 | .bp ..,h=>by simp[wK]at h
 | .cs _,h=>by simp[wK]at h
 | .fp rows i o,h=>.fp rows i o fun r hr c hc=>by
   simp only[wK]at h;have:=H8.1 (H8.1 h r hr) c hc;cases c<;>simp[bCG]at this
   exact .int _ _
 | .fs rows,h=>by
   simp only[wK,List.isEmpty_iff]at h;subst h;exact .fs [] (by simp)
 | .fn f first cap,h=>by
   simp only[wK,A4]at h;exact .fn f first first cap cap (fun l e=>by subst e;simp at h) rfl (qU first h.2.1).2 rfl (qU cap h.2.2).2
 | .ifc t v,h=>.ifc t v v (aDc v (by simpa [wK]using h))
 | .int k n,_=>.int k n
 | .bool b,_=>.bool b
 | .str s,_=>.str s
 | .nilsl,_=>.nilsl
 | .nilpt,_=>.nilpt
 | .nilmap,_=>.nilmap
 | .nilfn,_=>.nilfn
 | .nilifc,_=>.nilifc
 | .any,_=>.any _
theorem qU:∀ l:List AV,okL l=true→RnL D Y r l l
 | [],_=>RnL.nil
 | v::l,h=>by
   simp only[okL,A4]at h;exact RnL.cons (aDc v h.1) (qU l h.2)
end

end
section
variable{D:Nat→Option XFn}{Y:Nat→Option YI}{r:Nat→Option Nat}{e env:aH}{h:XH}{H:Hp}

def qK(i:YI):LSt→Obj→Prop
 | .ready,o=>o=i.oR
 | .busy,o=>o=i.oB
 | .done (.exit id),o=>o=i.oD (.exit id)
 | .done .ret,o=>o=i.oD .ret
 | .done (.goto l),o=>o=i.oD (.goto l)
 | .done .normal,_=>False

def RnP(D:Nat→Option XFn)(Y:Nat→Option YI)(r:Nat→Option Nat)(xs ys:List (AV×AV)):Prop :=
 xs.length=ys.length∧∀(i:Nat)(x y:AV×AV),xs[i]?=some x→ys[i]?=some y→Rn D Y r x.1 y.1∧Rn D Y r x.2 y.2

inductive RnB(D:Nat→Option XFn)(Y:Nat→Option YI)(r:Nat→Option Nat):Nat→XB→ABlk→Prop where
 | cells (c:Nat) (g w:Bool) (xs ys:List AV) (h:RnL D Y r xs ys) (hg:g=true→kY xs=true):RnB D Y r c (.blk g (.cells w xs)) (.cells w ys)
 | map (c:Nat) (g w:Bool) (xs ys:List (AV×AV)) (h:RnP D Y r xs ys) (hg:g=true→∀ p∈xs,jD p.1=true∧jD p.2=true):RnB D Y r c (.blk g (.map w xs)) (.map w ys)
 | obj (c:Nat) (g w:Bool) (o:Obj):RnB D Y r c (.blk g (.obj w o)) (.obj w o)
 | loop (c:Nat) (i:YI) (vs:List AV) (s:LSt) (o:Obj) (d:XFn) (L ps:List Nat) (a b:XCode) (hY:Y c=some i) (h:qK i s o) (hD:D i.K=some d) (hs:cT d.body i.site=some (L,ps,a,b))
  (hv:RnL D Y r vs (L.map i.env)):RnB D Y r c (.loop i.K i.site vs s) (.obj true o)
 | gh (c:Nat) (st:dU) (p:Hp→Nat→Prop) (y:ABlk):RnB D Y r c (.gh st p) y

structure SHb(D:Nat→Option XFn)(Y:Nat→Option YI)(r:Nat→Option Nat)(h:XH)(H:Hp):Prop where
 dom:∀ b c,r b=some c→b<h.length
 inj:∀ b b' c x y,hat h b=some x→hat h b'=some y→r b=some c→r b'=some c→b=b'
 blk:∀ b x,hat h b=some x→(∃ g y,x = .blk g y)∧∃ c y,r b=some c∧H c=some y∧RnB D Y r c x y
def GInv(p:Hp→Nat→Prop)(c:Nat)(S:Nat→Prop)(H:Hp):Prop :=
 ∃(h0:XH)(r0:Nat→Option Nat)(b0:Nat),(∀ D Y,SHb D Y r0 h0 H)∧r0 b0=some c∧p (aI h0) b0∧∀ n,S n↔∃ i x,hat h0 i=some x∧r0 i=some n
theorem GInv.live{p:Hp→Nat→Prop}{c n:Nat}{S:Nat→Prop}(h:GInv p c S H)(hn:S n):∃ y,H n=some y:=by
 obtain⟨h0,r0,b0,h1,h2,h3,h4⟩:=h;obtain⟨i,x,k1,k2⟩:=(h4 n).1 hn;obtain⟨_,c',y,k3,k4,_⟩:=(h1 (fun _=>none) (fun _=>none)).blk i x k1
 grind
theorem GInv.mono{p:Hp→Nat→Prop}{c:Nat}{S:Nat→Prop}{H':Hp}(h:GInv p c S H)(hH:∀ n y,S n→H n=some y→H' n=some y):GInv p c S H':=by
 obtain⟨h0,r0,b0,h1,h2,h3,h4⟩:=h;refine⟨h0,r0,b0,fun D Y=>⟨(h1 D Y).dom,(h1 D Y).inj,fun b x hb=>?_⟩,h2,h3,h4⟩;obtain⟨k0,c',y,k1,k2,k3⟩:=(h1 D Y).blk b x hb
 grind
theorem GInv.congr{p:Hp→Nat→Prop}{c:Nat}{S S':Nat→Prop}(h:GInv p c S H)(hS:∀ n,S' n↔S n):GInv p c S' H:=by
 simp_all [GInv]
def GhR(h:XH)(r:Nat→Option Nat)(G:Nat→Nat→Prop)(H:Hp):Prop :=
 (∀ b st p,hat h b=some (.gh st p)→∃ c,r b=some c∧GInv p c (G b) H) ∧
 ∀ b b' st p x n,hat h b=some (.gh st p)→hat h b'=some x→b≠b'→G b n→r b'≠some n∧∀ st' p',x = .gh st' p'→¬G b' n
theorem GhR.no{h:XH}{r:Nat→Option Nat}{H:Hp}(hn:∀ b st p,hat h b≠some (.gh st p)):∃ G,GhR h r G H :=
 ⟨fun _ _=>False,fun b st p hx=>absurd hx (hn b st p),fun b _ st p _ _ hx=>absurd hx (hn b st p)⟩
theorem GhR.via{h h':XH}{r r':Nat→Option Nat}{G:Nat→Nat→Prop}{H H':Hp}(g:GhR h r G H)(σ:Nat→Nat)
 (h1:∀ b st p,hat h' b=some (.gh st p)→hat h (σ b)=some (.gh st p)∧r' b=r (σ b))
 (h2:∀ b x,hat h' b=some x→(∃ x0,hat h (σ b)=some x0∧r' b=r (σ b)∧∀ st p,x = .gh st p→x0 = .gh st p) ∨
  ∃ c,r' b=some c∧(∀ a st p,hat h' a=some (.gh st p)→¬G (σ a) c)∧∀ st p,x ≠ .gh st p)
 (hi:∀ b b' st p x,hat h' b=some (.gh st p)→hat h' b'=some x→b≠b'→σ b≠σ b')
 (hH:∀ b st p n y,hat h' b=some (.gh st p)→G (σ b) n→H n=some y→H' n=some y):GhR h' r' (fun b=>G (σ b)) H':=by
 refine⟨fun b st p hb=>?_,fun b b' st p x n hb hb' hne hn=>?_⟩
 ·obtain⟨k1,k2⟩:=h1 b st p hb
  obtain⟨c,e1,e2⟩:=g.1 (σ b) st p k1;exact⟨c,k2.trans e1,e2.mono fun n y hn hy=>hH b st p n y hb hn hy⟩
 ·obtain⟨k1,k2⟩:=h1 b st p hb
  rcases h2 b' x hb' with ⟨x0,m1,m2,m3⟩|⟨c,m1,m2,m3⟩
  ·have:=g.2 (σ b) (σ b') st p x0 n k1 m1 (hi b b' st p x hb hb' hne) hn
   grind
  grind
def ghX:XB→Bool
 | .gh _ _=>true
 | _=>false

structure SH(D:Nat→Option XFn)(Y:Nat→Option YI)(r:Nat→Option Nat)(h:XH)(H:Hp):Prop where
 dom:∀ b c,r b=some c→b<h.length
 inj:∀ b b' c x y,hat h b=some x→hat h b'=some y→r b=some c→r b'=some c→b=b'
 blk:∀ b x,hat h b=some x→∃ c y,r b=some c∧H c=some y∧RnB D Y r c x y
 gh:∃ G,GhR h r G H

theorem SH.cells(sh:SH D Y r h H){b c:Nat}(hr:r b=some c){w:Bool}{cs:List AV}(hb:aI h b=some (.cells w cs)):∃ g cs',hat h b=some (.blk g (.cells w cs))∧H c=some (.cells w cs')∧RnL D Y r cs cs'∧(g=true→kY cs=true):=by
 unfold aI at hb;split at hb<;>simp only[oSI,reduceCtorEq]at hb
 rename_i g x hx;subst hb;obtain⟨c',y,h0,h1,h2⟩:=sh.blk b _ hx;rw[hr]at h0;simp only[oSI]at h0;subst h0;cases h2 with
 | cells _ _ _ ys h3 h4=>exact⟨g,ys,hx,h1,h3,h4⟩
theorem SH.map(sh:SH D Y r h H){b c:Nat}(hr:r b=some c){w:Bool}{es:List (AV×AV)}(hb:aI h b=some (.map w es)):∃ g es',hat h b=some (.blk g (.map w es))∧H c=some (.map w es')∧RnP D Y r es es'∧(g=true→∀ p∈es,jD p.1=true∧jD p.2=true):=by
 unfold aI at hb;split at hb<;>simp only[oSI,reduceCtorEq]at hb
 rename_i g x hx;subst hb;obtain⟨c',y,h0,h1,h2⟩:=sh.blk b _ hx;rw[hr]at h0;simp only[oSI]at h0;subst h0;cases h2 with
 | map _ _ _ ys h3 h4=>exact⟨g,ys,hx,h1,h3,h4⟩

theorem SH.obj(sh:SH D Y r h H){b c:Nat}(hr:r b=some c){w:Bool}{o:Obj}(hb:aI h b=some (.obj w o)):∃ g,hat h b=some (.blk g (.obj w o))∧H c=some (.obj w o):=by
 unfold aI at hb;split at hb<;>simp only[oSI,reduceCtorEq]at hb
 rename_i g x hx;subst hb;obtain⟨c',y,h0,h1,h2⟩:=sh.blk b _ hx;rw[hr]at h0;simp only[oSI]at h0;subst h0;cases h2 with
 | obj=>exact⟨g,hx,h1⟩

theorem dC{k:IntKind}{n:Int}{v:AV}(h:Rn D Y r (.int k n) v):v = .int k n:=by cases h;rfl
theorem eW{b:Bool}{v:AV}(h:Rn D Y r (.bool b) v):v = .bool b:=by cases h;rfl
theorem dB{s:ByteArray}{v:AV}(h:Rn D Y r (.str s) v):v = .str s:=by cases h;rfl
theorem lY{b o:Nat}{v:AV}(h:Rn D Y r (.pt b o) v):∃ c,v = .pt c o∧r b=some c:=by cases h;grind
theorem wZ{b o s n:Nat}{v:AV}(h:Rn D Y r (.sl b o s n) v):∃ c,v = .sl c o s n∧r b=some c:=by cases h;grind
theorem aOA{b:Nat}{v:AV}(h:Rn D Y r (.bp b) v):∃ c,v = .bp c∧r b=some c:=by cases h;grind
theorem aOy{b n:Nat}{v:AV}(h:Rn D Y r (.sb b n) v):∃ c,v = .sb c n∧r b=some c:=by cases h;grind
theorem aEV{b:Nat}{v:AV}(h:Rn D Y r (.mp b) v):∃ c,v = .mp c∧r b=some c:=by cases h;grind
theorem tZ{rows:List (List AV)}{v:AV}(h:Rn D Y r (.fs rows) v):v = .fs rows∧∀ r∈rows,∀ c∈r,Gd c:=by cases h;grind
theorem aZP{rows:List (List AV)}{v:AV}(h:Rn D Y r (.cs rows) v):v = .cs rows∧∀ r∈rows,∀ c∈r,Gd c:=by cases h;grind
theorem aBk{rows:List (List AV)}{i o:Nat}{v:AV}(h:Rn D Y r (.fp rows i o) v):v = .fp rows i o∧∀ r∈rows,∀ c∈r,Gd c:=by cases h;grind
theorem uA{xs:List AV}{v:AV}(h:Rn D Y r (.agg xs) v):∃ ys,v = .agg ys∧RnL D Y r xs ys:=by cases h;grind [RnL]
theorem aGg{xs:List AV}{v:AV}(h:Rn D Y r (.tup xs) v):∃ ys,v = .tup ys∧RnL D Y r xs ys:=by cases h;grind [RnL]
theorem nM{v:AV}(h:Rn D Y r .nilsl v):v = .nilsl:=by cases h;rfl
theorem aCF{v:AV}(h:Rn D Y r .nilpt v):v = .nilpt:=by cases h;rfl
theorem vN{v:AV}(h:Rn D Y r .nilmap v):v = .nilmap:=by cases h;rfl
theorem aHG{v:AV}(h:Rn D Y r .nilfn v):v = .nilfn:=by cases h;rfl
theorem aEU{v:AV}(h:Rn D Y r .nilifc v):v = .nilifc:=by cases h;rfl

def yK:AO→Bool
 | .t _=>true
 | .c v=>wK v
 | .meth _ _=>true
def aPh:Option AO→Bool
 | some x=>yK x
 | none=>true
theorem aHT{t:TypeId}{v v':AV}(h:Rn D Y r v v'):∀ tab:List (TypeId×FuncId),Rn D Y r (uK t v tab) (uK t v' tab)
 | []=>.any _
 | (u, f)::l=>by
   simp only[uK];split
   ·exact .fn _ _ _ _ _ (fun l e=>by cases e) rfl (fun i x y hx hy=>by
     match i with
     | 0=>simp at hx hy;subst hx hy;exact h
     | i+1=>simp at hx) rfl (fun i x y hx hy=>by simp at hx)
   ·exact aHT h l
theorem aPm{tab:List (TypeId×FuncId)}{v v':AV}(h:Rn D Y r v v'):Rn D Y r (aDk tab v) (aDk tab v'):=by
 cases h with
 | ifc t x y hx=>exact aHT hx tab
 | _=>exact .any _
theorem aP(re:∀ j,Rn D Y r (e j) (env j)){x:AO}(hx:yK x=true):Rn D Y r (aL e x) (aL env x):=by
 cases x with
 | t k=>exact re k
 | c v=>exact aDc v hx
 | meth tab k=>exact aPm (re k)
theorem vO(re:∀ j,Rn D Y r (e j) (env j)){xs:List AO}(hx:xs.all yK=true):RnL D Y r (xs.map (aL e)) (xs.map (aL env)) :=
 RnL.map fun x hm=>aP re (H8.1 hx x hm)

theorem yC{v v':AV}{cs:List AV}(h:Rn D Y r v v')(hc:cellsOf v=some cs):∃ cs',cellsOf v'=some cs'∧RnL D Y r cs cs':=by
 have one:∀{v v':AV},Rn D Y r v v'→RnL D Y r [v] [v']:=fun h=>RnL.cons h RnL.nil;cases h<;>simp only[cellsOf,oSI,reduceCtorEq]at hc
 case agg xs ys hl h=>grind [cellsOf,RnL]
 all_goals
  subst hc;exact⟨_,rfl,one (by first|constructor<;>assumption|exact Rn.yield _ _ ‹_›)⟩

theorem aAB{z z' cs cs':List AV}{o:Nat}(hz:RnL D Y r z z')(hc:RnL D Y r cs cs'):RnL D Y r (bG z o cs) (bG z' o cs'):=by
 grind [RnL,bG]

theorem aIp{parts:List (Nat×Nat×AO)}(re:∀ j,Rn D Y r (e j) (env j)):∀(ps:List (Nat×Nat×AO))(z z' cs:List AV),(ps.all fun p=>yK p.2.2)=true→RnL D Y r z z'→gG z (ps.map fun p=>(p.1,p.2.1,aL e p.2.2))=some cs →
 ∃ cs',gG z' (ps.map fun p=>(p.1,p.2.1,aL env p.2.2))=some cs'∧RnL D Y r cs cs':=by
 intro ps;induction ps with
 | nil=>simp_all [gG]
 | cons p ps ih =>
   intro z z' cs hok hz hf;simp only[N5,A4]at hok;simp only[F8,gG]at hf ⊢;split at hf
   ·rename_i vs hvs
    obtain⟨vs',h1,h2⟩:=yC (aP re hok.1) hvs;rw[h1];simp only;split at hf
    ·rename_i hc
     rw[if_pos (by rw[←h2.1,←hz.1];exact hc)];exact ih _ _ _ hok.2 (aAB hz h2) hf
    ·simp at hf
   ·simp at hf

theorem aCL{g:Bool}{n o:Nat}{cs cs':List AV}{v:AV}(hc:RnL D Y r cs cs')(hv:iT g n cs o=some v):∃ v',iT g n cs' o=some v'∧Rn D Y r v v':=by
 unfold iT at hv ⊢;split at hv
 ·split at hv
  ·rename_i hg hle
   simp only[oSI]at hv;subst hv;rw[if_pos hg,if_pos (by grind [RnL])];have:=(hc.drop o).take n;exact⟨_,rfl,.agg _ _ this.1 this.2⟩
  ·simp at hv
 grind [RnL]

theorem aSH{rows:List (List AV)}(hr:∀ r∈rows,∀ c∈r,Gd c){i:Nat}{row:List AV}(h:rows[i]?=some row):RnL D Y r row row:=RnL.self fun c hc=>(hr row (A5 h) c hc).rn

theorem aHY(sh:SH D Y r h H){g:Bool}{n:Nat}{p p' v:AV}(hp:Rn D Y r p p')(hv:fG g n (aI h) p=some v):∃ v',fG g n H p'=some v'∧Rn D Y r v v':=by
 unfold fG at hv;split at hv
 ·rename_i b o
  split at hv
  ·rename_i w cs hb
   obtain⟨c,rfl,hr⟩:=lY hp;obtain⟨g',cs',_,h1,h2,_⟩:=sh.cells hr hb;simp only[fG,h1]
   grind [aCL]
  ·simp at hv
 ·rename_i rows i o
  obtain⟨rfl,hg⟩:=aBk hp;split at hv
  ·rename_i row hrow
   simp only[fG,hrow];exact aCL (aSH hg hrow) hv
  ·simp at hv
 ·simp at hv

theorem dT(re:∀ j,Rn D Y r (e j) (env j)){c d n:Nat}{x:Option AO}(hx:aPh x=true)(hb:aS c d e x=some n):aS c d env x=some n:=by
 cases x with
 | none=>exact hb
 | some x =>
   simp only[aS]at hb ⊢;have hr:=aP re (x:=x) hx
   grind [dC]

theorem aMH{k:Nat}{x x' y y':AV}{b:Bool}(hx:Rn D Y r x x')(hy:Rn D Y r y y')(hb:kU k x y=some b):kU k x' y'=some b:=by
 unfold kU at hb;split at hb;all_goals grind [dC,eW,dB,kU]
theorem yD:∀(ks:List Nat)(xs xs' ys ys':List AV)(b:Bool),RnL D Y r xs xs'→RnL D Y r ys ys'→bC ks xs ys=some b→bC ks xs' ys'=some b:=by
 intro ks;induction ks with
 | nil =>
   grind [RnL,bC]
 | cons k ks ih =>
   intro xs xs' ys ys' b hx hy hb;cases xs with
   | nil=>simp[bC]at hb
   | cons x xs=>cases ys with
     | nil=>simp[bC]at hb
     | cons y ys =>
       obtain⟨x',xs2,rfl,hx1,hx2⟩:=hx.inv;obtain⟨y',ys2,rfl,hy1,hy2⟩:=hy.inv;simp only[bC]at hb ⊢;split at hb
       ·rename_i p q hp hq
        rw[aMH hx1 hy1 hp,ih _ _ _ _ _ hx2 hy2 hq];exact hb
       ·simp at hb

theorem aAM{q:Nat}{b:Bool}{x x' y y':AV}(hx:Rn D Y r x x')(hy:Rn D Y r y y')(hb:eM q x y=some b):eM q x' y'=some b:=by
 unfold eM at hb;split at hb;·grind [dC,eM]
 ·grind [dB,eM]
 ·obtain⟨as',rfl,h1⟩:=uA hx
  obtain⟨bs',rfl,h2⟩:=uA hy;exact yD _ _ _ _ _ _ h1 h2 hb
 ·simp at hb
theorem aId{q:Nat}{x x':AV}(hx:Rn D Y r x x')(hb:qB q x=true):qB q x'=true:=by
 unfold qB at hb;split at hb;·rfl
 ·rfl
 ·obtain⟨as',rfl,h1⟩:=uA hx
  exact beq_iff_eq.2 (yD _ _ _ _ _ _ h1 h1 (beq_iff_eq.1 hb))
 ·simp at hb
def aMO(D:Nat→Option XFn)(Y:Nat→Option YI)(r:Nat→Option Nat):Option AV→Option AV→Prop
 | some v,some v'=>Rn D Y r v v'
 | none,none=>True
 | _,_=>False
theorem aIo{q:Nat}{k k':AV}(hk:Rn D Y r k k'):∀(es es':List (AV×AV))(o:Option AV),RnP D Y r es es'→aR q k es=some o→∃ o',aR q k' es'=some o'∧aMO D Y r o o':=by
 intro es;induction es with
 | nil =>
   grind [RnP,aR,aMO,aId]
 | cons p es ih =>
   intro es' o hp hf;cases es' with
   | nil=>have:=hp.1;simp at this
   | cons p' es' =>
     obtain⟨h1,h2⟩:=hp.2 0 p p' rfl rfl;obtain⟨a,v⟩:=p;obtain⟨a',v'⟩:=p';simp only[aR]at hf ⊢;split at hf
     ·rename_i hb
      rw[aAM hk h1 hb];simp only[oSI]at hf;subst hf;exact⟨some v',rfl,h2⟩
     ·rename_i hb
      rw[aAM hk h1 hb];exact ih es' o ⟨by have:=hp.1;grind,fun i x y hx hy=>hp.2 (i+1) x y (by grind) (by grind)⟩ hf
     ·simp at hf

theorem yX(sh:SH D Y r h H){s n:Nat}{v v':AV}{new:List AV}(hv:Rn D Y r v v')(hs:eT s (aI h) v=some (n,new)):∃ new',eT s H v'=some (n,new')∧RnL D Y r new new'∧(fS h v=true→kY new=true):=by
 unfold eT at hs;split at hs
 ·simp only[oSI,A7]at hs
  obtain⟨rfl,rfl⟩:=hs;rw[nM hv];exact⟨[],rfl,RnL.nil,fun _=>rfl⟩
 ·rename_i x
  rw[dB hv];split at hs<;>simp only[oSI,A7,reduceCtorEq]at hs
  rename_i h1;obtain⟨rfl,rfl⟩:=hs;refine⟨x.data.toList.map fun b=>.int .u8 (b.toNat:Int),by simp_all [eT],RnL.self fun y hy=>?_,fun _=>eU fun y hy=>?_⟩;·obtain⟨b,_,rfl⟩:=G1.1 hy;exact .int _ _
  ·obtain⟨b,_,rfl⟩:=G1.1 hy;rfl
 ·rename_i rows
  obtain⟨rfl,hg⟩:=tZ hv;split at hs
  ·rename_i hall
   simp only[oSI,A7]at hs;obtain⟨rfl,rfl⟩:=hs;have hgd:∀ x∈rows.flatten,Gd x:=fun x hx=>by
    grind [List.mem_flatten]
   refine⟨rows.flatten,by simp_all [eT],RnL.self fun x hx=>(hgd x hx).rn,fun _=>eU fun x hx=>?_⟩;have:∀ v,Gd v→jD v=true:=fun v hv=>by
    induction hv with
    | agg cs _ ih=>simp only[jD];exact eU ih
    | tup cs _ ih=>simp only[jD];exact eU ih
    | fn f first cap hf _ _ ih1 ih2=>cases f<;>simp only[jD,eU ih1,eU ih2,aH6]<;>exact absurd rfl (hf _)
    | ifc t v _ ih=>simpa [jD]using ih
    | _=>rfl
   grind
  ·simp at hs
 ·rename_i b o s' len
  split at hs
  ·rename_i w cs hb
   obtain⟨c,rfl,hr⟩:=wZ hv;obtain⟨g,cs',h0,h1,h2,h3⟩:=sh.cells hr hb;split at hs
   ·rename_i hc
    simp only[oSI,A7]at hs;obtain⟨rfl,rfl⟩:=hs;refine⟨(cs'.drop o).take (len*s),by simp only[eT,h1];rw[if_pos (by rw[←h2.1];exact hc)],(h2.drop o).take _,fun hf=>?_⟩;simp only[fS,h0]at hf
    grind [eU,iF]
   ·simp at hs
  ·simp at hs
 ·simp at hs

theorem aML{cs cs':List AV}{l:List UInt8}(h:RnL D Y r cs cs')(hb:jQ cs=some l):jQ cs'=some l:=by
 induction cs generalizing cs' l with
 | nil=>grind [RnL]
 | cons c cs ih =>
   obtain⟨c',cs2,rfl,h1,h2⟩:=h.inv;unfold jQ at hb;split at hb;all_goals grind [Option.map_eq_some_iff,dC,jQ]
theorem aLJ(sh:SH D Y r h H){v v' u:AV}(hv:Rn D Y r v v')(hs:jE (aI h) v=some u):jE H v'=some u∧Gd u:=by
 unfold jE at hs;split at hs;·simp at hs
 ·rename_i hne
  unfold nJ at hs;split at hs
  ·rename_i n cs hsrc
   obtain⟨new',k1,k2,_⟩:=yX sh hv hsrc;simp only[A3]at hs;obtain⟨l,h1,rfl⟩:=hs;refine⟨?_,.str _⟩;have hne':∀ s,v' ≠ .str s:=by
    intro s e;subst e;cases hv with
    | str=>grind
    | any=>simp[eT]at hsrc
   unfold jE;split;·grind
   ·rw[k1];simp only[nJ,aML k2 h1,C5]
  ·simp at hs

theorem aNS(re:∀ j,Rn D Y r (e j) (env j)){s:Nat}{lo hi:Option AO}(h1:aPh lo=true)(h2:aPh hi=true){v v' u:AV}(hv:Rn D Y r v v')(hs:lX s e lo hi v=some u):∃ u',lX s env lo hi v'=some u'∧Rn D Y r u u':=by
 unfold lX at hs;split at hs
 ·rename_i rows
  obtain⟨rfl,hg⟩:=tZ hv;split at hs
  ·rename_i hall
   split at hs
   ·rename_i m hm
    split at hs
    ·rename_i l hl
     simp only[oSI]at hs;subst hs;refine⟨_,by simp only[lX,hall,AAe,dT re h2 hm,dT re h1 hl],.fs _ fun row hrow=>?_⟩
     grind
    ·simp at hs
   ·simp at hs
  ·simp at hs
 ·rename_i b o s' len
  obtain⟨c,rfl,hr⟩:=wZ hv;split at hs
  ·rename_i hc
   split at hs
   ·rename_i m hm
    split at hs
    ·rename_i l hl
     split at hs
     ·rename_i hlt
      simp only[oSI]at hs;subst hs;exact⟨_,by simp only[lX,hc,AAe,dT re h2 hm,dT re h1 hl,hlt],.sl _ _ _ _ _ hr⟩
     ·rename_i hlt
      split at hs<;>simp only[oSI]at hs<;>subst hs
      ·rename_i h0
       subst h0;exact⟨_,by simp only[lX,hc,AAe,dT re h2 hm,dT re h1 hl,hlt,AAd],.sl _ _ _ _ _ hr⟩
      ·rename_i h0
       exact⟨_,by simp only[lX,hc,AAe,dT re h2 hm,dT re h1 hl,hlt,AAd,h0],.fs [] (by simp)⟩
    ·simp at hs
   ·simp at hs
  ·simp at hs
 ·rw[nM hv]
  split at hs
  ·rename_i m hm
   split at hs
   ·rename_i l hl
    simp only[oSI]at hs;subst hs;exact⟨_,by simp only[lX,dT re h2 hm,dT re h1 hl],.nilsl⟩
   ·simp at hs
  ·simp at hs
 ·simp at hs

theorem aTi{op:BinOp}{x x' y y' v:AV}(hx:Rn D Y r x x')(hy:Rn D Y r y y')(hb:aDX op x y=some v):aDX op x' y'=some v∧Rn D Y r v v:=by
 unfold aDX at hb;split at hb
 ·rw[dC hx,dC hy]
  refine⟨hb,?_⟩;cases op<;>simp only[gU]at hb<;>(try split at hb)<;>simp only[oSI,reduceCtorEq]at hb<;>subst hb<;>constructor
 ·rw[dB hx,dB hy]
  refine⟨hb,?_⟩;cases op<;>simp only[aY,reduceCtorEq]at hb<;>(try split at hb)<;>simp only[oSI,reduceCtorEq]at hb<;>subst hb<;>constructor
 ·simp at hb

theorem aSP{k:Nat}{x x' y y':AV}{b:Bool}(hx:Rn D Y r x x')(hy:Rn D Y r y y')(hb:wL k x y=some b):wL k x' y'=some b:=by
 unfold wL at hb;split at hb
 all_goals first
  | (simp only[reduceCtorEq]at hb;done)
  | (cases hx<;>cases hy<;>exact hb)

inductive RnE(D:Nat→Option XFn)(Y:Nat→Option YI)(r:Nat→Option Nat)(h:XH)(g:Bool):Eff→Eff→Prop where
 | val (v v':AV) (hv:Rn D Y r v v'):RnE D Y r h g (.val v) (.val v')
 | new (own:Option Nat) (cs cs':List AV) (f:Nat→AV) (hf:∀(q:Nat→Option Nat)(b c:Nat),q b=some c→Rn D Y q (f b) (f c)) (hc:RnL D Y r cs cs') (hg:g=true→kY cs=true)
  (ho:∀ b,own=some b→∃ c g' cs0,r b=some c∧hat h b=some (.blk g' (.cells true cs0))):RnE D Y r h g (.new own (.cells true cs) f) (.new (own.bind r) (.cells true cs') f)
 | newObj (o:Obj) (f:Nat→AV) (hf:∀(q:Nat→Option Nat)(b c:Nat),q b=some c→Rn D Y q (f b) (f c)):RnE D Y r h g (.new none (.obj true o) f) (.new none (.obj true o) f)
 | newMap (es:List (AV×AV)) (f:Nat→AV) (hf:∀(q:Nat→Option Nat)(b c:Nat),q b=some c→Rn D Y q (f b) (f c)) (he:∀ p∈es,Gd p.1∧Gd p.2):RnE D Y r h g (.new none (.map true es) f) (.new none (.map true es) f)

def iE:DOp→Bool
 | .mv x | .box x | .load _ _ x | .nilck x | .not x | .neg x | .conv _ x | .fld _ x | .ext x _ | .len _ x | .lenm x | .mkifc _ x | .bytes x | .strof x | .rngs x | .nxts x=>yK x
 | .pick c a b=>yK c&&yK a&&yK b
 | .alloc z=>okL z
 | .mkmap | .allocb | .stuck=>true
 | .build z ps | .bslice _ _ z ps=>okL z&&ps.all fun p=>yK p.2.2
 | .bin _ x y | .binb _ x y | .eqag _ _ x y | .eqn _ _ x y | .idxa _ _ x y | .idx _ x y | .idxv _ _ _ x y | .idxs x y | .app _ _ x y | .mm _ x y | .copy _ x y=>yK x&&yK y
 | .mksl _ _ z x y=>okL z&&(yK x&&yK y)
 | .lookup _ _ z x y=>wK z&&(yK x&&yK y)
 | .store _ x y _=>yK x&&yK y
 | .mkf f c1 c2=>(match f with | .yield _=>false|_=>true)&&(c1.all yK&&c2.all yK)
 | .slarr _ _ x lo hi | .slsl _ x lo hi | .slstr x lo hi=>yK x&&(aPh lo&&aPh hi)
 | .clip _ x h m=>yK x&&(yK h&&yK m)
 | .mapup _ m k x=>yK m&&yK k&&yK x
 | .callf _ f xs _=>yK f&&xs.all yK

theorem aPt(sh:SH D Y r h H){m m' v:AV}(hm:Rn D Y r m m')(hl:aAg (aI h) m=some v):∃ v',aAg H m'=some v'∧Rn D Y r v v':=by
 unfold aAg at hl;split at hl
 ·rename_i b
  split at hl
  ·rename_i p es hb
   obtain⟨c,rfl,hr⟩:=aEV hm;obtain⟨g,es',_,h1,h2,_⟩:=sh.map hr hb;simp only[oSI]at hl;subst hl;exact⟨.int .i64 (es.length:Int),by simp only[aAg,h1,h2.1],.int ..⟩
  ·simp at hl
 ·simp only[oSI]at hl;subst hl
  rw[vN hm];exact⟨_,rfl,.int ..⟩
 ·simp at hl
theorem aPs(sh:SH D Y r h H){q:Nat}{k k' m m':AV}{o:Option AV}(hk:Rn D Y r k k')(hm:Rn D Y r m m')(hl:mC q (aI h) k m=some o) :
 ∃ o',mC q H k' m'=some o'∧aMO D Y r o o':=by
 unfold mC at hl;split at hl
 ·rename_i b
  split at hl
  ·rename_i w es hb
   obtain⟨c,rfl,hr⟩:=aEV hm;obtain⟨g,es',_,h1,h2,_⟩:=sh.map hr hb;simp only[mC,h1]
   grind [aIo]
  ·simp at hl
 ·rw[vN hm]
  exact aIo hk [] [] o ⟨rfl,by simp⟩ hl
 ·simp at hl

theorem aPr{ok:Bool}{z:AV}(hz:wK z=true){o o':Option AV}(ho:aMO D Y r o o'):Rn D Y r (uL ok z o) (uL ok z o'):=by
 have two:∀{v v':AV}(b:Bool),Rn D Y r v v'→Rn D Y r (.tup [v,.bool b]) (.tup [v',.bool b]):=fun b h=>by
  have:=RnL.cons h (RnL.cons (.bool b) RnL.nil);exact .tup _ _ this.1 this.2
 cases o with
 | none=>grind [aDc,uL,aMO]
 | some v=>cases o' with
   | none=>exact ho.elim
   | some v'=>grind [uL,aMO]

theorem uT{z z':List AV}(hz:RnL D Y r z z'):∀ n:Nat,RnL D Y r (List.replicate n z).flatten (List.replicate n z').flatten
 | 0=>RnL.nil
 | n+1=>by simpa [H6]using hz.append (uT hz n)
theorem nS{xs ys:List AV}(h1:kY xs=true)(h2:kY ys=true):kY (xs++ys)=true:=eU fun x hx=>by
 grind [iF]
theorem xV{z cs:List AV}{o:Nat}(h1:kY z=true)(h2:kY cs=true):kY (bG z o cs)=true:=eU fun x hx=>by
 grind [iF,bG]
theorem aDS{v:AV}{cs:List AV}(hc:cellsOf v=some cs)(hg:jD v=true):kY cs=true:=by
 cases v<;>simp only[cellsOf,oSI,reduceCtorEq]at hc<;>subst hc<;>first|(simp[jD]at hg;done)|(simpa [jD]using hg)|simp_all [kY]
theorem aQa:∀(ps:List (Nat×Nat×AO))(z cs:List AV),(ps.all fun p=>jD (aL e p.2.2))=true→kY z=true→gG z (ps.map fun p=>(p.1,p.2.1,aL e p.2.2))=some cs→kY cs=true:=by
 intro ps;induction ps with
 | nil=>simp[gG]
 | cons p ps ih =>
   intro z cs hok hz hf;simp only[N5,A4]at hok;simp only[F8,gG]at hf
   grind [xV,aDS]
theorem aKX{z:List AV}(hz:kY z=true)(n:Nat):kY (List.replicate n z).flatten=true:=eU fun x hx=>by
 grind [List.mem_flatten,iF]

theorem aTk(sh:SH D Y r h H){s n:Nat}{x x' y y':AV}{eff:Eff}(hx:Rn D Y r x x')(hy:Rn D Y r y y')(ha:pC s n (aI h) x y=some eff) :
 ∃ eff',pC s n H x' y'=some eff'∧RnE D Y r h (fS h x&&fS h y) eff eff':=by
 unfold pC at ha;split at ha;·simp at ha
 ·rename_i m new hs
  obtain⟨new',k1,k2,k3⟩:=yX sh hy hs;split at ha
  ·rename_i rows
   obtain⟨rfl,hgd⟩:=aZP hx;split at ha
   ·rename_i hc
    simp only[oSI]at ha;subst ha;have e1:∀ H:Hp,eT s H (.fs rows)=some (rows.length,rows.flatten):=fun H=>by simp only[eT,hc.1,AAe]
    obtain⟨c1,q1,q2,q3⟩:=yX (s:=s) sh (.fs rows hgd) (e1 _);have q1:=(e1 H).symm.trans q1;simp only[oSI,A7,AAh]at q1;subst q1;refine⟨_,by simp only[pC,k1];rw[if_pos hc];grind,.new none (rows.flatten++new) (rows.flatten++new') _ (fun q b c hq=>.sl _ _ _ _ _ hq) (q2.append k2) (fun hg=>?_) (by simp)⟩;simp only[A4]at hg;exact nS (q3 (by simp[fS])) (k3 hg.2)
   ·simp at ha
  ·rw[nM hx]
   split at ha
   ·rename_i hc
    split at ha<;>simp only[oSI]at ha<;>subst ha
    ·rename_i h0
     subst h0;refine⟨_,by simp only[pC,k1];grind,.val _ _ .nilsl⟩
    ·rename_i h0
     refine⟨_,by simp only[pC,k1];grind,.new none new new' _ (fun q b c hq=>by
      split;·exact .sb _ _ _ hq
      ·exact .sl _ _ _ _ _ hq) k2 (fun hg=>?_) (by simp)⟩
     grind
   ·simp at ha
  ·rename_i b len
   obtain⟨c,rfl,hr⟩:=aOy hx;split at ha
   ·rename_i cs hb
    obtain⟨g,cs',h0,h1,h2,h3⟩:=sh.cells hr hb;split at ha
    ·rename_i hc
     simp only[oSI]at ha;subst ha;refine⟨_,by simp only[pC,k1,h1];rw[if_pos (by rw[←h2.1];exact hc)];grind,.new (some b) (cs++new) (cs'++new') _ (fun q b c hq=>.sb _ _ _ hq) (h2.append k2) (fun hg=>?_) (fun c hc'=>?_)⟩
     ·simp only[A4,fS,h0]at hg
      exact nS (h3 hg.1) (k3 hg.2)
     grind
    ·simp at ha
   ·simp at ha
  ·rename_i b s' len
   obtain⟨c,rfl,hr⟩:=wZ hx;split at ha
   ·rename_i cs hb
    obtain⟨g,cs',h0,h1,h2,h3⟩:=sh.cells hr hb;split at ha
    ·rename_i hc
     simp only[oSI]at ha;subst ha;refine⟨_,by simp only[pC,k1,h1];rw[if_pos (by rw[←h2.1];exact hc)];grind,.new (some b) (cs++new) (cs'++new') _ (fun q b c hq=>.sl _ _ _ _ _ hq) (h2.append k2) (fun hg=>?_) (fun c hc'=>?_)⟩
     ·simp only[A4,fS,h0]at hg
      exact nS (h3 hg.1) (k3 hg.2)
     grind
    ·simp at ha
   ·simp at ha
  ·simp at ha

theorem aIu(sh:SH D Y r h H)(re:∀ j,Rn D Y r (e j) (env j)){op:DOp}(hok:iE op=true){eff:Eff}(he:aD op e (aI h)=some eff) :
 ∃ eff',aD op env H=some eff'∧RnE D Y r h (kN op e h) eff eff':=by
 cases op with
 | mv x =>
   simp only[aD,oSI]at he;subst he;exact⟨_,rfl,.val _ _ (aP re hok)⟩
 | pick c a b =>
   simp only[iE,A4]at hok;simp only[aD]at he;split at he<;>simp only[oSI,reduceCtorEq]at he
   rename_i t ht;subst he;have hc:=aP re hok.1.1;rw[ht]at hc;refine⟨_,by simp only[aD,eW hc];rfl,.val _ _ ?_⟩
   grind [aP]
 | alloc z =>
   simp only[aD,oSI]at he;subst he;exact⟨_,rfl,.new none z z _ (fun q b c hq=>.pt _ _ _ hq) (qU z hok) (fun hg=>hg) (by simp)⟩
 | box x =>
   simp only[aD]at he;split at he<;>simp only[oSI,reduceCtorEq]at he
   rename_i cs hc;subst he;obtain⟨cs',h1,h2⟩:=yC (aP re hok) hc;exact⟨_,by simp only[aD,h1];rfl,.new none cs cs' _ (fun q b c hq=>.pt _ _ _ hq) h2 (fun hg=>aDS hc hg) (by simp)⟩
 | build z ps =>
   simp only[iE,A4]at hok;simp only[aD]at he;split at he<;>simp only[oSI,reduceCtorEq]at he
   rename_i cs hc;subst he;obtain⟨cs',h1,h2⟩:=aIp (parts:=ps) re ps z z cs hok.2 (qU z hok.1) hc;exact⟨_,by simp only[aD,h1],.val _ _ (.agg _ _ h2.1 h2.2)⟩
 | bslice s len z ps =>
   simp only[iE,A4]at hok;simp only[aD]at he;split at he<;>simp only[oSI,reduceCtorEq]at he
   rename_i cs hc;subst he;obtain⟨cs',h1,h2⟩:=aIp (parts:=ps) re ps _ _ cs hok.2 (uT (qU z hok.1) len) hc;refine⟨_,by simp only[aD,h1];rfl,.new none cs cs' _ (fun q b c hq=>.sl _ _ _ _ _ hq) h2 (fun hg=>?_) (by simp)⟩;simp only[kN,A4]at hg;exact aQa ps _ _ hg.2 (aKX hg.1 len) hc
 | load g n x =>
   simp only[aD]at he;split at he<;>simp only[oSI,reduceCtorEq]at he
   rename_i v hv;subst he;obtain⟨v',h1,h2⟩:=aHY sh (aP re hok) hv;exact⟨_,by simp only[aD,h1],.val _ _ h2⟩
 | nilck x =>
   have hx:=aP re (x:=x) hok;simp only[aD]at he;split at he<;>simp only[oSI,reduceCtorEq]at he<;>rename_i h1<;>subst he<;>rw[h1]at hx
   ·obtain⟨c,e1,hr⟩:=lY hx
    exact⟨_,by simp only[aD,e1],.val _ _ (.pt _ _ _ hr)⟩
   ·obtain⟨c,e1,hr⟩:=aOA hx
    exact⟨_,by simp only[aD,e1],.val _ _ (.pt _ _ _ hr)⟩
   ·exact⟨_,by simp only[aD,(aBk hx).1],.val _ _ (.fp _ _ _ (aBk hx).2)⟩
   ·rename_i tt vv
    obtain⟨v',hv1,hv2⟩:∃ v',aL env x = .ifc tt v'∧Rn D Y r (.ifc tt vv) (.ifc tt v'):=by
     generalize aL env x=v' at hx;have hx':=hx;cases hx with
     | ifc t x y hv=>grind
    exact⟨_,by simp only[aD,hv1],.val _ _ hv2⟩
 | bin op x y =>
   simp only[iE,A4]at hok;simp only[aD]at he;split at he<;>simp only[oSI,reduceCtorEq]at he
   rename_i v hv;subst he;obtain⟨h1,h2⟩:=aTi (aP re hok.1) (aP re hok.2) hv;exact⟨_,by simp only[aD,h1],.val _ _ h2⟩
 | binb neg x y =>
   simp only[iE,A4]at hok;have hx:=aP re hok.1;have hy:=aP re hok.2;simp only[aD]at he;split at he<;>simp only[oSI,reduceCtorEq]at he
   rename_i a b h1 h2;subst he;rw[h1]at hx;rw[h2]at hy;exact⟨_,by simp only[aD,eW hx,eW hy],.val _ _ (.bool _)⟩
 | eqag neg ks x y =>
   simp only[iE,A4]at hok;have hx:=aP re hok.1;have hy:=aP re hok.2;simp only[aD]at he;split at he
   ·rename_i cs ds h1 h2
    rw[h1]at hx;rw[h2]at hy;obtain⟨cs',e1,k1⟩:=uA hx;obtain⟨ds',e2,k2⟩:=uA hy;split at he<;>simp only[oSI,reduceCtorEq]at he
    rename_i b hb;subst he;exact⟨_,by simp only[aD,e1,e2,yD _ _ _ _ _ _ k1 k2 hb],.val _ _ (.bool _)⟩
   ·simp at he
 | eqn kd neg x y =>
   simp only[iE,A4]at hok;simp only[aD]at he;split at he<;>simp only[oSI,reduceCtorEq]at he
   rename_i b hb;subst he;exact⟨_,by simp only[aD,aSP (aP re hok.1) (aP re hok.2) hb],.val _ _ (.bool _)⟩
 | not x =>
   have hx:=aP re (x:=x) hok;simp only[aD]at he;split at he<;>simp only[oSI,reduceCtorEq]at he
   rename_i b h1;subst he;rw[h1]at hx;exact⟨_,by simp only[aD,eW hx],.val _ _ (.bool _)⟩
 | neg x =>
   have hx:=aP re (x:=x) hok;simp only[aD]at he;split at he<;>simp only[oSI,reduceCtorEq]at he
   rename_i k n h1;subst he;rw[h1]at hx;exact⟨_,by simp only[aD,dC hx],.val _ _ (.int ..)⟩
 | conv k x =>
   have hx:=aP re (x:=x) hok;simp only[aD]at he;split at he<;>simp only[oSI,reduceCtorEq]at he
   rename_i k n h1;subst he;rw[h1]at hx;exact⟨_,by simp only[aD,dC hx],.val _ _ (.int ..)⟩
 | mkf f c1 c2 =>
   simp only[iE,A4]at hok;simp only[aD,oSI]at he;subst he;have h1:=vO re hok.2.1;have h2:=vO re hok.2.2;exact⟨_,rfl,.val _ _ (.fn f _ _ _ _ (fun l e=>by grind) h1.1 h1.2 h2.1 h2.2)⟩
 | fld off x =>
   have hx:=aP re (x:=x) hok;simp only[aD]at he;split at he<;>simp only[oSI,reduceCtorEq]at he<;>rename_i h1<;>subst he<;>rw[h1]at hx
   ·obtain⟨c,e1,hr⟩:=lY hx
    exact⟨_,by simp only[aD,e1],.val _ _ (.pt _ _ _ hr)⟩
   ·exact⟨_,by simp only[aD,(aBk hx).1],.val _ _ (.fp _ _ _ (aBk hx).2)⟩
 | idxa len s x i =>
   simp only[iE,A4]at hok;have hx:=aP re hok.1;have hi:=aP re hok.2;simp only[aD]at he;split at he
   ·rename_i b o k n h1 h2
    rw[h1]at hx;rw[h2]at hi;split at he<;>simp only[oSI,reduceCtorEq]at he
    rename_i hc;subst he;obtain⟨c,e1,hr⟩:=lY hx;exact⟨_,by simp only[aD,e1,dC hi];grind,.val _ _ (.pt _ _ _ hr)⟩
   ·rename_i rows j o k n h1 h2
    rw[h1]at hx;rw[h2]at hi;split at he<;>simp only[oSI,reduceCtorEq]at he
    rename_i hc;subst he;exact⟨_,by simp only[aD,(aBk hx).1,dC hi];grind,.val _ _ (.fp _ _ _ (aBk hx).2)⟩
   ·simp at he
 | idx s x i =>
   simp only[iE,A4]at hok;have hx:=aP re hok.1;have hi:=aP re hok.2;simp only[aD]at he;split at he
   ·rename_i b o s' len k n h1 h2
    rw[h1]at hx;rw[h2]at hi;split at he<;>simp only[oSI,reduceCtorEq]at he
    rename_i hc;subst he;obtain⟨c,e1,hr⟩:=wZ hx;exact⟨_,by simp only[aD,e1,dC hi];grind,.val _ _ (.pt _ _ _ hr)⟩
   ·rename_i rows k n h1 h2
    rw[h1]at hx;rw[h2]at hi;split at he<;>simp only[oSI,reduceCtorEq]at he
    rename_i hc;subst he;exact⟨_,by simp only[aD,(tZ hx).1,dC hi];grind,.val _ _ (.fp _ _ _ (tZ hx).2)⟩
   ·simp at he
 | idxv agg len s x i =>
   simp only[iE,A4]at hok;have hx:=aP re hok.1;have hi:=aP re hok.2;simp only[aD]at he;split at he
   ·rename_i cs k n h1 h2
    rw[h1]at hx;rw[h2]at hi;obtain⟨cs',e1,k1⟩:=uA hx;split at he
    ·rename_i hc
     split at he<;>simp only[oSI,reduceCtorEq]at he
     rename_i v hv;subst he;obtain⟨v',h3,h4⟩:=aCL k1 hv;exact⟨_,by simp only[aD,e1,dC hi];grind,.val _ _ h4⟩
    ·simp at he
   ·simp at he
 | idxs x i =>
   simp only[iE,A4]at hok;have hx:=aP re hok.1;have hi:=aP re hok.2;simp only[aD]at he;split at he
   ·rename_i t k n h1 h2
    rw[h1]at hx;rw[h2]at hi;split at he<;>simp only[oSI,reduceCtorEq]at he
    rename_i hc;subst he;exact⟨_,by simp only[aD,dB hx,dC hi];grind,.val _ _ (.int ..)⟩
   ·simp at he
 | mksl s bytes z l c =>
   simp only[iE,A4]at hok;have hl:=aP re hok.2.1;have hc:=aP re hok.2.2;simp only[aD]at he;split at he
   ·rename_i l c h1 h2
    rw[h1]at hl;rw[h2]at hc;split at he<;>simp only[oSI,reduceCtorEq]at he
    rename_i hcond;subst he;exact⟨_,by simp only[aD,dC hl,dC hc];grind,.new none _ _ _ (fun q b c hq=>.sl _ _ _ _ _ hq) (uT (qU z hok.1) _) (fun hg=>aKX (by simpa [kN]using hg) _) (by simp)⟩
   ·simp at he
 | slarr len s x lo hi =>
   simp only[iE,A4]at hok;have hx:=aP re hok.1;simp only[aD]at he;split at he
   ·rename_i b o h1
    rw[h1]at hx;obtain⟨c,e1,hr⟩:=lY hx;split at he
    ·rename_i w cs m hb hm
     obtain⟨g,cs',h0,k1,k2,k3⟩:=sh.cells hr hb;split at he
     ·rename_i l hl
      split at he<;>simp only[oSI,reduceCtorEq]at he
      rename_i hc;subst he;exact⟨_,by simp only[aD,e1,k1,dT re hok.2.2 hm,dT re hok.2.1 hl];rw[if_pos (by rw[←k2.1];exact hc)],.val _ _ (.sl _ _ _ _ _ hr)⟩
     ·simp at he
    ·simp at he
   ·simp at he
 | slsl s x lo hi =>
   simp only[iE,A4]at hok;simp only[aD]at he;split at he<;>simp only[oSI,reduceCtorEq]at he
   rename_i v hv;subst he;obtain⟨v',h1,h2⟩:=aNS re hok.2.1 hok.2.2 (aP re hok.1) hv;exact⟨_,by simp only[aD,h1],.val _ _ h2⟩
 | slstr x lo hi =>
   simp only[iE,A4]at hok;have hx:=aP re hok.1;simp only[aD]at he;split at he
   ·rename_i t h1
    rw[h1]at hx;split at he
    ·rename_i m hm
     split at he<;>simp only[oSI,reduceCtorEq]at he
     rename_i l hl;subst he;exact⟨_,by simp only[aD,dB hx,dT re hok.2.2 hm,dT re hok.2.1 hl],.val _ _ (.str _)⟩
    ·simp at he
   ·simp at he
 | allocb =>
   simp only[aD,oSI]at he;subst he;exact⟨_,rfl,.new none [.nilpt,.nilsl] [.nilpt,.nilsl] _ (fun q b c hq=>.bp _ _ hq) (RnL.cons .nilpt (RnL.cons .nilsl RnL.nil)) (fun _=>rfl) (by simp)⟩
 | mkmap =>
   simp only[aD,oSI]at he;subst he;exact⟨_,rfl,.newMap [] _ (fun q b c hq=>.mp _ _ hq) (by simp)⟩
 | lookup q ok z m k =>
   simp only[iE,A4]at hok;simp only[aD]at he;split at he<;>simp only[oSI,reduceCtorEq]at he
   rename_i o ho;subst he;obtain⟨o',h1,h2⟩:=aPs sh (aP re hok.2.2) (aP re hok.2.1) ho;exact⟨_,by simp only[aD,h1],.val _ _ (aPr hok.1 h2)⟩
 | ext x i =>
   have hx:=aP re (x:=x) hok;simp only[aD]at he;split at he
   ·rename_i vs h1
    rw[h1]at hx;obtain⟨vs',e1,k1⟩:=aGg hx;split at he<;>simp only[oSI,reduceCtorEq]at he
    rename_i v hv;subst he;obtain⟨v',h2,h3⟩:=k1.get hv;exact⟨_,by simp only[aD,e1,h2],.val _ _ h3⟩
   ·simp at he
 | len q x =>
   have hx:=aP re (x:=x) hok;simp only[aD]at he;split at he<;>simp only[oSI,reduceCtorEq]at he<;>rename_i h1<;>subst he<;>rw[h1]at hx
   ·exact⟨_,by simp only[aD,dB hx],.val _ _ (.int ..)⟩
   ·exact⟨_,by simp only[aD,(tZ hx).1],.val _ _ (.int ..)⟩
   ·obtain⟨c,e1,hr⟩:=wZ hx
    exact⟨_,by simp only[aD,e1],.val _ _ (.int ..)⟩
   ·exact⟨_,by simp only[aD,nM hx],.val _ _ (.int ..)⟩
 | clip s x h m =>
   simp only[iE,A4]at hok;have hx:=aP re hok.1;have hh:=aP re hok.2.1;have hm:=aP re hok.2.2;simp only[aD,A3]at he ⊢;obtain⟨v,h1,rfl⟩:=he;unfold aFz at h1;split at h1
   ·rename_i rows k1 n1 k2 n2 e1 e2 e3
    rw[e1]at hx;rw[e2]at hh;rw[e3]at hm;split at h1
    ·rename_i hc
     simp only[oSI]at h1;subst h1;exact⟨_,⟨.cs rows,by simp only[(tZ hx).1,dC hh,dC hm,aFz,if_pos hc],rfl⟩,.val _ _ (.cs _ (tZ hx).2)⟩
    ·simp at h1
   ·rename_i e1 e2 e3
    rw[e1]at hx;rw[e2]at hh;rw[e3]at hm;split at h1
    ·rename_i hc
     simp only[oSI]at h1;subst h1;exact⟨_,⟨.nilsl,by simp only[nM hx,dC hh,dC hm,aFz,if_pos hc],rfl⟩,.val _ _ .nilsl⟩
    ·simp at h1
   ·simp at h1
 | lenm x =>
   have hx:=aP re (x:=x) hok;simp only[aD,A3]at he ⊢;obtain⟨v,h1,rfl⟩:=he;obtain⟨v',h2,h3⟩:=aPt sh hx h1;exact⟨_,⟨v',h2,rfl⟩,.val _ _ h3⟩
 | app s n x y =>
   simp only[iE,A4]at hok;simp only[aD]at he ⊢;obtain⟨eff',h1,h2⟩:=aTk sh (aP re hok.1) (aP re hok.2) he;exact⟨eff',h1,h2⟩
 | mm mx x y =>
   simp only[iE,A4]at hok;have hx:=aP re hok.1;have hy:=aP re hok.2;simp only[aD]at he;split at he<;>simp only[oSI,reduceCtorEq]at he
   rename_i k a k' b h1 h2;subst he;rw[h1]at hx;rw[h2]at hy;exact⟨_,by simp only[aD,dC hx,dC hy],.val _ _ (.int ..)⟩
 | mkifc t x =>
   simp only[aD,oSI]at he;subst he;exact⟨_,rfl,.val _ _ (.ifc t _ _ (aP re hok))⟩
 | bytes x =>
   have hx:=aP re (x:=x) hok;simp only[aD]at he;split at he<;>simp only[oSI,reduceCtorEq]at he
   rename_i t h1;subst he;rw[h1]at hx;have hg:∀ x∈(t.data.toList.map fun b=>AV.int .u8 (b.toNat:Int)),Gd x:=fun x hx=>by
    obtain⟨b,_,rfl⟩:=G1.1 hx;exact .int ..
   exact⟨_,by simp only[aD,dB hx];rfl,.new none _ _ _ (fun q b c hq=>.sl _ _ _ _ _ hq) (RnL.self fun x hx=>(hg x hx).rn) (fun _=>eU fun x hx=>by
    obtain⟨b,_,rfl⟩:=G1.1 hx;rfl) (by simp)⟩
 | strof x =>
   have hx:=aP re (x:=x) hok;simp only[aD,A3]at he;obtain⟨u,h1,rfl⟩:=he;obtain⟨k1,k2⟩:=aLJ sh hx h1;exact⟨_,by simp only[aD,k1,C5],.val _ _ k2.rn⟩
 | rngs x =>
   have hx:=aP re (x:=x) hok;simp only[aD]at he;split at he<;>simp only[oSI,reduceCtorEq]at he
   rename_i t h1;subst he;rw[h1]at hx;exact⟨_,by simp only[aD,dB hx],.newObj _ _ (fun q b c hq=>.pt _ _ _ hq)⟩
 | nxts x=>simp[aD]at he
 | stuck=>simp[aD]at he
 | store n p x l=>simp[aD]at he
 | copy s x y=>simp[aD]at he
 | mapup q m k x=>simp[aD]at he
 | callf q f xs l=>simp[aD]at he
end
section
variable{P:Program}{B:Base}

theorem aBm{F:Nat→Prop}{w:World}{H:Hp}{Q:AV→Hp→Prop}(S:Nat→Prop)[DecidablePred S](st:St F w H):∀(e:Ending)(w':World),vH F w (fun c=>if S c then H c else none) Q e w' →
 vH F w H (fun v H''=>∃ H',Q v H'∧(∀ c,S c∨H c=none→H'' c=H' c)∧(∀ c,¬S c→∀ x,H c=some x→H'' c=some x∧H' c=none)) e w':=by
 rintro e w' ⟨r,v,F',H',rfl,h2,h3,h4,h5⟩;have st1:St F w (fun c=>if S c then H c else none):=st.forget fun c x hc=>by
  grind
 have hlow:∀ c x,H c=some x→c<w.heap.size:=fun c x hc=>st.own_lt hc;have hn:∀ c,¬S c→∀ x,H c=some x→H' c=none:=fun c hs x hc=>by
  cases hx:H' c with
  | none=>rfl
  | some y =>
    rcases h2.hdom c (by simp[hx])with h6|h6;all_goals grind
 have hsame:∀ c,¬S c→∀ x,H c=some x→w'.heap[c]?=w.heap[c]?:=fun c hs x hc=>h2.same c (hlow c x hc) (by simp[sX,hs]);have hnF:∀ c,¬S c→∀ x,H c=some x→¬F' c:=fun c hs x hc hF=>by
  rcases h2.fnew c hF with h6|h6|h6;·exact st.dis c x hc h6
  all_goals grind
 obtain⟨H'',hH⟩:∃ H'':Hp,H''=fun c=>if ¬S c∧(H c).isSome=true then H c else H' c:=⟨_,rfl⟩
 have e1:∀ c,S c∨H c=none→H'' c=H' c:=fun c hc=>by
  grind
 have e2:∀ c,¬S c→∀ x,H c=some x→H'' c=some x:=fun c hs x hc=>by grind
 have cas:∀ c,(S c∨H c=none)∨(¬S c∧∃ x,H c=some x):=fun c=>by
  by_cases hs:S c;·grind
  ·cases hx:H c with
   | none=>grind
   | some x=>grind
 have hl:∀ c,(if S c then H c else none).isSome=true→(H c).isSome=true:=fun c hc=>by
  grind
 refine⟨r,v,F',H'',rfl,⟨h2.sub,fun c hc=>?_,fun c hc=>?_,fun c hc=>?_,h2.le,fun c hc hw=>?_,h2.cells,h2.io⟩,⟨h3.lt,fun c x hc=>?_,fun c x hc=>?_⟩,h4,H',h5,e1,fun c hs x hc=>⟨e2 c hs x hc,hn c hs x hc⟩⟩
 ·rcases h2.fnew c hc with h6|h6|h6
  all_goals grind
 ·rcases cas c with h6|⟨h6,x,h7⟩
  ·rw[e1 c h6]at hc
   rcases h2.hdom c hc with h8|h8;all_goals grind
  grind
 ·rcases cas c with h6|⟨h6,x,h7⟩
  ·simp only[sX,e1 c h6]at hc
   rcases h2.hnew c (by simpa only[sX]using hc)with h8|h8
   ·left
    simp only[sX]at h8 ⊢
    grind
   omega
  simp_all [sX]
 ·refine h2.same c hc ?_
  simp only[sX]at hw ⊢
  grind
 ·rcases cas c with h6|⟨h6,y,h7⟩
  ·rw[e1 c h6]at hc;exact h3.dis c x hc
  grind
 ·rcases cas c with h6|⟨h6,y,h7⟩
  ·rw[e1 c h6]at hc;exact h3.blk c x hc
  ·rw[e2 c h6 y h7]at hc
   simp only[oSI]at hc;subst hc;obtain⟨o,k1,k2⟩:=st.blk c y h7;exact⟨o,by grind,k2.up (h2.up st1)⟩
theorem CallV.frameS{fv:AV}{as:List AV}{H:Hp}{Q:AV→Hp→Prop}(S:Nat→Prop)[DecidablePred S](h:CallV B P fv as (fun c=>if S c then H c else none) Q) :
 CallV B P fv as H fun v H''=>∃ H',Q v H'∧(∀ c,S c∨H c=none→H'' c=H' c)∧(∀ c,¬S c→∀ x,H c=some x→H'' c=some x∧H' c=none):=by
 refine h.conv fun F w st=>⟨st.forget fun c x hc=>?_,aBm S st⟩
 grind

end

theorem aEX(h:XH)(k:Nat):∀(n:Nat)(todo acc:List Nat),acc.Nodup→(∀ b∈acc,(hat h b).isSome=true∧k≤b)→(cI h k n todo acc).Nodup∧∀ b∈cI h k n todo acc,(hat h b).isSome=true∧k≤b:=by
 intro n;induction n with
 | zero=>simp_all [cI]
 | succ n ih =>
   intro todo acc h1 h2;cases todo with
   | nil=>exact⟨h1,h2⟩
   | cons b rest =>
     simp only[cI]
     grind
theorem vR(xs:List AV)(h:XH):(gZ xs h).Nodup∧∀ b∈gZ xs h,(hat h b).isSome=true:=by
 obtain⟨h1,h2⟩:=aEX h 0 vP (kB xs) [] aA7 (by simp);exact⟨h1,fun b hb=>(h2 b hb).1⟩
theorem aHO(fv:AV)(xs:List AV)(h:XH):(iU fv xs h).Nodup∧∀ b∈iU fv xs h,(hat h b).isSome=true:=by
 unfold iU;split
 ·unfold vS
  grind [List.nodup_range,vR]
 grind [vR]

theorem aEZ{b i:Nat}:∀{l:List Nat},fR b l=some i→l[i]?=some b:=by
 intro l;induction l generalizing i with
 | nil=>simp[fR]
 | cons c l ih =>
   grind [Option.map_eq_some_iff,fR]
theorem pU{l:List Nat}(h:l.Nodup){i j b:Nat}(hi:l[i]?=some b)(hj:l[j]?=some b):i=j:=by
 grind [List.pairwise_iff_getElem]

theorem cJ(h l:XH)(b:Nat):hat (h++l) b=if b<h.length then hat h b else hat l (b-h.length):=by
 unfold hat
 grind
theorem aAj(f:Option XB→Option XB)(hf:f none=none)(h:XH)(b:Nat):hat (h.map f) b=f (hat h b):=by
 unfold hat
 grind
theorem fX(h:XH)(b:Nat)(x:Option XB)(c:Nat):hat (h.set b x) c=if c=b∧b<h.length then x else hat h c:=by
 unfold hat
 grind
theorem rC{h:XH}{b:Nat}{x:XB}(hx:hat h b=some x):b<h.length:=by
 unfold hat at hx
 grind
theorem aBp:∀(k:Nat)(h:XH)(b:Nat),hat (cW k h) b=if b<k then hat h b else none:=by
 intro k;induction k with
 | zero=>simp[hat,cW]
 | succ k ih =>
   intro h b;cases h with
   | nil =>
     cases b with
     | zero=>rfl
     | succ b =>
       simp_all [hat,cW]
   | cons x xs =>
     cases b with
     | zero=>rfl
     | succ b =>
       simp_all [hat,cW]
@[simp] theorem padTake_length:∀(k:Nat)(h:XH),(cW k h).length=k:=by
  intro k;induction k with
  | zero=>intro h;rfl
  | succ k ih=>intro h;cases h<;>simp[cW,ih]
theorem qC(f:Option XB→Option XB)(acc:List Nat)(h:XH)(hf:f none=none)(i:Nat):hat (acc.map fun b=>f (hat h b)) i=match acc[i]? with
 | some b=>f (hat h b)
 | none=>none:=by
 unfold hat
 grind

theorem tI:∀(bs:List Nat)(xs h:XH),(yY h bs xs).length=h.length
 | [],_,h=>by unfold yY;rfl
 | b::bs,[],h=>by rfl
 | b::bs,x::xs,h=>by unfold yY;rw[tI bs xs];simp
theorem nR:∀(bs:List Nat)(xs h:XH)(c:Nat),c∉bs→hat (yY h bs xs) c=hat h c
 | [],_,h,c,_=>by unfold yY;rfl
 | b::bs,[],h,c,_=>by rfl
 | b::bs,x::xs,h,c,hc=>by
   unfold yY;rw[nR bs xs _ c (fun e=>hc (by simp[e])),fX,if_neg (fun e=>hc (by simp[e.1]))]
theorem aBo:∀(bs:List Nat)(xs h:XH)(i c:Nat),bs.Nodup→bs.length=xs.length→(∀ b∈bs,b<h.length)→bs[i]?=some c→hat (yY h bs xs) c=hat xs i
 | [],_,h,i,c,_,_,_,hi=>by simp at hi
 | b::bs,[],h,i,c,_,hl,_,_=>by simp at hl
 | b::bs,x::xs,h,i,c,hn,hl,hlt,hi=>by
   unfold yY;rw[N4]at hn;cases i with
   | zero =>
     simp at hi;subst hi;rw[nR bs xs _ b hn.1,fX,if_pos ⟨rfl,hlt b (by simp)⟩];simp[hat]
   | succ i =>
     rw[aBo bs xs _ i c hn.2 (by grind) (fun b hb=>by grind) (by grind)];simp[hat]

section
variable{D:Nat→Option XFn}{Y:Nat→Option YI}{r:Nat→Option Nat}

theorem RnB.renum{r':Nat→Option Nat}{s:Nat→Option Nat}(hs:∀ b c d,s b=some c→r b=some d→r' c=some d){c:Nat}{x:XB}{y:ABlk}(h:RnB D Y r c x y):RnB D Y r' c (rnB s x) y:=by
 cases h with
 | cells g w xs ys h hg =>
   cases g with
   | false=>exact .cells c false w _ _ (h.renum hs) (by simp)
   | true =>
     obtain⟨rfl,h2⟩:=h.same (hg rfl);exact .cells c true w _ _ (RnL.self fun x hx=>(h2 x hx).rn) hg
 | map g w xs ys h hg =>
   cases g with
   | false =>
     refine .map c false w _ _ ⟨by simpa using h.1,fun i p q hp hq=>?_⟩ (by simp);rw[C4,A3]at hp;obtain⟨z,hz,rfl⟩:=hp;exact⟨(h.2 i z q hz hq).1.renum hs,(h.2 i z q hz hq).2.renum hs⟩
   | true =>
     refine .map c true w _ _ ⟨h.1,fun i p q hp hq=>?_⟩ hg;obtain⟨h1,h2⟩:=h.2 i p q hp hq;obtain⟨h3,h4⟩:=hg rfl p (A5 hp);obtain⟨e1,g1⟩:=h1.same h3;obtain⟨e2,g2⟩:=h2.same h4;rw[e1,e2];exact⟨g1.rn,g2.rn⟩
 | obj g w o=>cases g<;>exact .obj c _ w o
 | loop i vs s o d L ps a b hY h hD hsite hv=>exact .loop c i _ s o d L ps a b hY h hD hsite (hv.renum hs)
 | gh st p=>exact .gh c st p y
theorem RnB.mono{x:XB}{r':Nat→Option Nat}{Y':Nat→Option YI}(hr:∀ b c,r b=some c→r' b=some c){c:Nat}(hY:(∃ K s vs st,x = .loop K s vs st)→Y' c=Y c){y:ABlk}(h:RnB D Y r c x y):RnB D Y' r' c x y:=by
 cases h with
 | cells g w xs ys h hg=>exact .cells c g w _ _ (h.mono hr) hg
 | map g w xs ys h hg=>exact .map c g w _ _ ⟨h.1,fun i p q hp hq=>⟨(h.2 i p q hp hq).1.mono hr,(h.2 i p q hp hq).2.mono hr⟩⟩ hg
 | obj g w o=>exact .obj c g w o
 | loop i vs s o d L ps a b h1 h hD hsite hv=>exact .loop c i _ s o d L ps a b (by rw[hY ⟨_,_,_,_,rfl⟩];exact h1) h hD hsite (hv.mono hr)
 | gh st p=>exact .gh c st p y
theorem qS{s:Nat→Option Nat}{x:XB}{st:dU}{p:Hp→Nat→Prop}(h:rnB s x = .gh st p):x = .gh st p:=by
 unfold rnB at h
 grind
theorem pQ{s:Nat→Option Nat}{o:Option XB}{x:XB}(h:rnO s o=some x):∃ y,o=some y∧x=rnB s y:=by
 cases o with
 | none=>simp[rnO]at h
 | some y=>grind [rnO]
end
def Sub(r r':Nat→Option Nat):Prop:=∀ b c,r b=some c→r' b=some c
theorem Sub.refl(r:Nat→Option Nat):Sub r r:=fun _ _ h=>h
theorem Sub.trans{r r' r'':Nat→Option Nat}(h:Sub r r')(k:Sub r' r''):Sub r r'':=fun b c hb=>k b c (h b c hb)

def fH(D:Nat→Option XFn)(Y:Nat→Option YI)(r:Nat→Option Nat)(v:AV)(h:XH):AV→Hp→Prop:=fun v' H' =>
 ∃ r',Sub r r'∧SH D Y r' h H'∧Rn D Y r' v v'

def FnS(P:Program)(B:Base)(D:Nat→Option XFn)(Y:Nat→Option YI)(run:eA):Prop :=
 ∀(r:Nat→Option Nat)(h:XH)(H:Hp)(K:Nat)(as as':List AV)(v:AV)(h':XH),SH D Y r h H→RnL D Y r as as'→run K as h=some (v,h')→FnW B P K as' H (fH D Y r v h')
def YS(P:Program)(B:Base)(D:Nat→Option XFn)(Y:Nat→Option YI)(runY:fA):Prop :=
 ∀(r:Nat→Option Nat)(h:XH)(H:Hp)(fv fv':AV)(as as':List AV)(v:AV)(h':XH),SH D Y r h H→Rn D Y r fv fv'→RnL D Y r as as' →
   runY fv as h=some (v,h')→CallV B P fv' as' H (fH D Y r v h')

section
variable{P:Program}{B:Base}{D:Nat→Option XFn}{Y:Nat→Option YI}{r:Nat→Option Nat}{h:XH}{H:Hp}

theorem aPI(h:XH)(k b:Nat):hat (h.drop k) b=hat h (k+b):=by
 simp[hat]

def aAf(r:Nat→Option Nat)(acc:List Nat):Nat→Option Nat:=fun i=>(acc[i]?).bind r

def aEz(h:XH)(r:Nat→Option Nat)(G:Nat→Nat→Prop)(b c:Nat):Prop:=r b=some c∨((∃ st p,hat h b=some (.gh st p))∧G b c)
theorem uM(sh:SH D Y r h H){G:Nat→Nat→Prop}(hG:GhR h r G H){acc:List Nat}(hn:acc.Nodup)(hlive:∀ b∈acc,(hat h b).isSome=true)(S:Nat→Prop)[DecidablePred S](hS:∀ c,S c↔∃ b∈acc,aEz h r G b c) :
 SH D Y (aAf r acc) (iK acc h) (fun c=>if S c then H c else none)∧(∀ v v',Rn D Y r v v'→Rn D Y (aAf r acc) (rnA (fun b=>fR b acc) v) v')∧(∀ v v',RnL D Y r v v'→RnL D Y (aAf r acc) (kD (fun b=>fR b acc) v) v'):=by
 have hs:∀ b c d,fR b acc=some c→r b=some d→aAf r acc c=some d:=fun b c d h1 h2=>by
  simp only[aAf,aEZ h1,E5,h2]
 have lat:∀ i x,hat (iK acc h) i=some x→∃ b y,acc[i]?=some b∧hat h b=some y∧x=rnB (fun b=>fR b acc) y:=fun i x hx=>by
  unfold iK at hx;rw[qC _ _ _ rfl]at hx
  grind [pQ]
 have gD:∀ i b,acc[i]?=some b→acc.getD i 0=b:=fun i b hi=>by grind
 refine⟨⟨fun i c hi=>?_,fun i j c x y hx hy h1 h2=>?_,fun i x hx=>?_,fun i=>G (acc.getD i 0),hG.via (fun i=>acc.getD i 0) (fun i st p hi=>?_) (fun i x hi=>?_) (fun i j st p x hi hj hne he=>?_) fun i st p n y hi hnn hy=>?_⟩,fun v v' hv=>hv.renum hs,fun v v' hv=>hv.renum hs⟩
 ·simp only[aAf]at hi
  cases ha:acc[i]? with
  | none=>grind
  | some b=>simpa [iK]using (D0.1 ha).1
 ·simp only[aAf]at h1 h2
  cases ha:acc[i]? with
  | none=>grind
  | some b=>cases hb:acc[j]? with
    | none=>grind
    | some b' =>
      rw[ha]at h1;rw[hb]at h2;simp only[E5]at h1 h2;obtain⟨x1,hx1⟩:=B6.1 (hlive b (A5 ha));obtain⟨x2,hx2⟩:=B6.1 (hlive b' (A5 hb));have:=sh.inj b b' c x1 x2 hx1 hx2 h1 h2
      grind [pU]
 ·unfold iK at hx
  rw[qC _ _ _ rfl]at hx;split at hx
  ·rename_i b hb
   obtain⟨y,hy,rfl⟩:=pQ hx;obtain⟨c,z,h1,h2,h3⟩:=sh.blk b y hy;refine⟨c,z,by simp only[aAf,hb,E5,h1],?_,h3.renum hs⟩;rw[if_pos ((hS c).2 ⟨b,A5 hb,.inl h1⟩)];exact h2
  ·simp at hx
 ·obtain⟨b,y,k1,k2,k3⟩:=lat i _ hi
  have:=qS k3.symm;subst this;rw[gD i b k1];exact⟨k2,by simp only[aAf,k1,E5]⟩
 ·obtain⟨b,y,k1,k2,k3⟩:=lat i _ hi
  rw[gD i b k1];exact .inl ⟨y,k2,by simp only[aAf,k1,E5],fun st p e=>qS (k3.symm.trans e)⟩
 ·grind [pU]
 ·obtain⟨b,y',k1,k2,k3⟩:=lat i _ hi
  have:=qS k3.symm;subst this;rw[gD i b k1]at hnn;rw[if_pos ((hS n).2 ⟨b,A5 k1,.inr ⟨⟨st,p,k2⟩,hnn⟩⟩)];exact hy

theorem aHV(sh:SH D Y r h H){G:Nat→Nat→Prop}(hG:GhR h r G H){acc:List Nat}(hn:acc.Nodup)(hlive:∀ b∈acc,(hat h b).isSome=true){S:Nat→Prop}(hS:∀ c,S c↔∃ b∈acc,aEz h r G b c)
 {rl:Nat→Option Nat} {hl:XH} {H' H'':Hp} (hsub:Sub (aAf r acc) rl) (sh':SH D Y rl hl H') (e1:∀ c,S c∨H c=none→H'' c=H' c) (e2:∀ c,¬S c→∀ x,H c=some x→H'' c=some x∧H' c=none) :
 ∃ r',Sub r r'∧SH D Y r' (jJ acc h hl) H''∧(∀ v v',Rn D Y rl v v'→Rn D Y r' (rnA (gQ acc h.length) v) v')∧(∀ b c,r b=some c→(hat h b).isSome=true→b∉acc→H'' c=H c):=by
 obtain⟨r',hr'⟩:∃ r':Nat→Option Nat,r'=fun b=>if b<h.length then r b else rl (b-h.length+acc.length):=⟨_,rfl⟩
 have hlt:∀ b∈acc,b<h.length:=fun b hb=>by
  obtain⟨x,hx⟩:=B6.1 (hlive b hb);exact rC hx
 have r1:∀ b,b<h.length→r' b=r b:=fun b hb=>by grind
 have r2:∀ i,acc.length≤i→r' (h.length+(i-acc.length))=rl i:=fun i hi=>by
  grind
 have at1:∀ i b,acc[i]?=some b→∃ c,r b=some c∧rl i=some c:=fun i b hi=>by
  obtain⟨x,hx⟩:=B6.1 (hlive b (A5 hi));obtain⟨c,y,h1,_,_⟩:=sh.blk b x hx;exact⟨c,h1,hsub i c (by simp only[aAf,hi,E5,h1])⟩
 have hs:∀ i b d,gQ acc h.length i=some b→rl i=some d→r' b=some d:=fun i b d h1 h2=>by
  unfold gQ at h1
  grind
 have len:(jJ acc h hl).length=h.length+(hl.length-acc.length):=by simp[jJ,tI]
 have hat1:∀ i b,acc[i]?=some b→hat (jJ acc h hl) b=rnO (gQ acc h.length) (hat hl i):=fun i b hi=>by
  have hb:=hlt b (A5 hi);have hi':=(D0.1 hi).1;unfold jJ;rw[cJ,tI,if_pos hb,aBo acc _ h i b hn (by simp) hlt hi,aAj _ rfl,aBp,if_pos hi']
 have hat2:∀ b,b<h.length→b∉acc→hat (jJ acc h hl) b=hat h b:=fun b hb hna=>by
  unfold jJ;rw[cJ,tI,if_pos hb,nR _ _ _ _ hna]
 have hat3:∀ b,h.length≤b→hat (jJ acc h hl) b=rnO (gQ acc h.length) (hat hl (acc.length+(b-h.length))):=fun b hb=>by
  unfold jJ;rw[cJ,tI,if_neg AM,aAj _ rfl,aPI]
 have from1:∀ b x,hat (jJ acc h hl) b=some x→(b<h.length∧b∉acc∧hat h b=some x)∨∃ i y,gQ acc h.length i=some b∧hat hl i=some y∧x=rnB (gQ acc h.length) y∧(b<h.length→b∈acc):=fun b x hx=>by
  by_cases hb:b<h.length
  ·by_cases ha:b∈acc
   ·obtain⟨i,hi⟩:=aC6.1 ha
    rw[hat1 i b hi]at hx;obtain⟨y,hy,rfl⟩:=pQ hx;refine .inr ⟨i,y,?_,hy,rfl,fun _=>ha⟩;unfold gQ
    grind
   grind
  ·rw[hat3 b AM]at hx
   obtain⟨y,hy,rfl⟩:=pQ hx;refine .inr ⟨acc.length+(b-h.length),y,?_,hy,rfl,fun h=>absurd h hb⟩;unfold gQ
   grind
 have far:∀ b c,r b=some c→(hat h b).isSome=true→b∉acc→¬S c∧∃ x,H c=some x:=fun b c hb hl2 hna=>by
  obtain⟨x,hx⟩:=B6.1 hl2;obtain⟨c',y,h1,h2,_⟩:=sh.blk b x hx;rw[hb]at h1;simp only[oSI]at h1;subst h1;refine⟨fun hSc=>?_,y,h2⟩;obtain⟨b',h3,h4⟩:=(hS c).1 hSc;obtain⟨x',hx'⟩:=B6.1 (hlive b' h3);rcases h4 with h4|⟨⟨st,p,h4⟩,h5⟩
  ·have:=sh.inj b b' c x x' hx hx' hb h4
   grind
  ·exact(hG.2 b' b st p x c h4 hx (fun e=>hna (e▸h3)) h5).1 hb
 have farG:∀ b st p n,hat h b=some (.gh st p)→b∉acc→G b n→¬S n∧∃ x,H n=some x:=fun b st p n hb hna hn'=>by
  obtain⟨c,_,k2⟩:=hG.1 b st p hb;refine⟨fun hSn=>?_,k2.live hn'⟩;obtain⟨b',h3,h4⟩:=(hS n).1 hSn;obtain⟨x',hx'⟩:=B6.1 (hlive b' h3);have:=hG.2 b b' st p x' n hb hx' (fun e=>hna (e▸h3)) hn';rcases h4 with h4|⟨⟨st',p',h4⟩,h5⟩;all_goals grind
 have bl:∀ i y,hat hl i=some y→∃ c z,rl i=some c∧H'' c=some z∧H' c=some z∧RnB D Y rl c y z:=fun i y hy=>by
  obtain⟨c,z,h1,h2,h3⟩:=sh'.blk i y hy;refine⟨c,z,h1,?_,h2,h3⟩;by_cases hSc:S c∨H c=none;·grind
  ·simp only[not_or]at hSc
   obtain⟨x,hx⟩:=aA8.1 hSc.2
   grind
 obtain⟨G',hG'⟩:=sh'.gh;have backI:∀ i i' j,gQ acc h.length i=some j→gQ acc h.length i'=some j→i=i':=fun i i' j k1 k2=>by
  unfold gQ at k1 k2
  grind [pU]
 have gA:∀ j n,j<h.length→j∉acc→((((j<h.length∧j∉acc)∧G j n)∨∃ i,gQ acc h.length i=some j∧G' i n∧(j<h.length→j∈acc))↔G j n):=fun j n h1 h2 =>
  ⟨fun h=>h.elim (fun h=>h.2) fun⟨i,_,_,k3⟩=>absurd (k3 h1) h2,fun h=>.inl ⟨⟨h1,h2⟩,h⟩⟩
 have gB:∀ i j n,gQ acc h.length i=some j→(j<h.length→j∈acc)→((((j<h.length∧j∉acc)∧G j n)∨∃ i,gQ acc h.length i=some j∧G' i n∧(j<h.length→j∈acc))↔G' i n):=fun i j n h1 h2 =>
  ⟨fun h=>h.elim (fun h=>absurd (h2 h.1.1) h.1.2) fun⟨i',k1,k2,_⟩=>by grind,fun h=>.inr ⟨i,h1,h,h2⟩⟩
 have gB2:∀ i st p n,hat hl i=some (.gh st p)→G' i n→(∃ x,H' n=some x)∧∀ y,H' n=some y→H'' n=some y:=fun i st p n hi hn'=>by
  obtain⟨c,_,k2⟩:=hG'.1 i st p hi;obtain⟨x,hx⟩:=k2.live hn';refine⟨⟨x,hx⟩,fun y hy=>?_⟩;by_cases hSc:S n∨H n=none;·grind
  ·simp only[not_or]at hSc
   obtain⟨x',hx'⟩:=aA8.1 hSc.2
   grind
 have ghs:∃ G2,GhR (jJ acc h hl) r' G2 H'':=by
  refine⟨fun j n=>((j<h.length∧j∉acc)∧G j n)∨∃ i,gQ acc h.length i=some j∧G' i n∧(j<h.length→j∈acc),fun j st p hj=>?_,fun j j' st p x n hj hj' hne hn'=>?_⟩
  ·rcases from1 j _ hj with ⟨h1,h2,h3⟩|⟨i,y,h1,h2,h3,h4⟩
   ·obtain⟨c,k1,k2⟩:=hG.1 j st p h3
    refine⟨c,by grind,(k2.congr fun n=>gA j n h1 h2).mono fun n y hn' hy=>?_⟩
    grind
   ·have:=qS h3.symm
    subst this;obtain⟨c,k1,k2⟩:=hG'.1 i st p h2;exact⟨c,hs i j c h1 k1,(k2.congr fun n=>gB i j n h1 h4).mono fun n y hn' hy=>(gB2 i st p n h2 ((gB i j n h1 h4).1 hn')).2 y hy⟩
  ·rcases from1 j _ hj with ⟨h1,h2,h3⟩|⟨i,y,h1,h2,h3,h4⟩
   ·have hn2:=(gA j n h1 h2).1 hn'
    obtain⟨f1,z,f2⟩:=farG j st p n h3 h2 hn2;have f3:=(e2 n f1 z f2).2;rcases from1 j' _ hj' with ⟨g1,g2,g3⟩|⟨i',y',g1,g2,g3,g4⟩
    ·have:=hG.2 j j' st p x n h3 g3 hne hn2
     grind
    ·refine⟨fun hr2=>?_,fun st' p' hx hh=>?_⟩
     ·obtain⟨c',z',k1,_,k3,_⟩:=bl i' y' g2
      grind
     ·rw[hx]at g3
      have:=qS g3.symm;subst this;obtain⟨⟨w,hw⟩,_⟩:=gB2 i' st' p' n g2 ((gB i' j' n g1 g4).1 hh)
      grind
   ·have:=qS h3.symm
    subst this;have hn2:=(gB i j n h1 h4).1 hn';obtain⟨⟨w,hw⟩,_⟩:=gB2 i st p n h2 hn2;rcases from1 j' _ hj' with ⟨g1,g2,g3⟩|⟨i',y',g1,g2,g3,g4⟩
    ·refine⟨fun hr2=>?_,fun st' p' hx hh=>?_⟩
     ·rw[r1 j' g1]at hr2
      obtain⟨k1,z,k2⟩:=far j' n hr2 (by simp[g3]) g2
      grind
     ·subst hx
      obtain⟨k1,z,k2⟩:=farG j' st' p' n g3 g2 ((gA j' n g1 g2).1 hh)
      grind
    ·have hii:i≠i':=fun e=>by grind
     have:=hG'.2 i i' st p y' n h2 g2 hii hn2;refine⟨fun hr2=>?_,fun st' p' hx hh=>?_⟩
     ·obtain⟨c',z',k1,_,_,_⟩:=bl i' y' g2
      grind
     grind [qS]
 refine⟨r',fun b c hb=>by rw[r1 b (sh.dom b c hb)];exact hb,⟨fun b c hb=>?_,fun b b' c x x' hx hx' hb hb'=>?_,fun b x hx=>?_,ghs⟩,fun v v' hv=>hv.renum hs,fun b c hb hl2 hna=>?_⟩
 ·rw[len]
  by_cases hlt':b<h.length;·omega
  ·rw[hr']at hb
   simp only[hlt',AAd]at hb;have:=sh'.dom _ _ hb;omega
 ·rcases from1 b x hx with ⟨h1,h2,h3⟩|⟨i,y,h1,h2,_,_⟩
  ·rcases from1 b' x' hx' with ⟨k1,k2,k3⟩|⟨j,y',k1,k2,_,k4⟩
   ·rw[r1 b h1]at hb;rw[r1 b' k1]at hb'
    exact sh.inj b b' c x x' h3 k3 hb hb'
   ·exfalso
    rw[r1 b h1]at hb
    grind
  ·rcases from1 b' x' hx' with ⟨k1,k2,k3⟩|⟨j,y',k1,k2,_,_⟩
   ·exfalso
    rw[r1 b' k1]at hb'
    grind
   ·obtain⟨c1,_,g1,_⟩:=bl i y h2
    obtain⟨c2,_,g2,_⟩:=bl j y' k2;have e3:=hs i b c1 h1 g1;have e4:=hs j b' c2 k1 g2;rw[hb]at e3;rw[hb']at e4;simp only[oSI]at e3 e4;subst e3;subst e4;have:=sh'.inj i j c y y' h2 k2 g1 g2
    grind
 ·rcases from1 b x hx with ⟨h1,h2,h3⟩|⟨i,y,h1,h2,rfl,_⟩
  ·obtain⟨c,z,g1,g2,g3⟩:=sh.blk b x h3
   obtain⟨k1,z',k2⟩:=far b c g1 (by simp[h3]) h2;refine⟨c,z,by grind,(e2 c k1 z g2).1,g3.mono (fun b c hb=>by rw[r1 b (sh.dom b c hb)];exact hb) (fun _=>rfl)⟩
  ·obtain⟨c,z,g1,g2,_,g4⟩:=bl i y h2
   exact⟨c,z,hs i b c h1 g1,g2,g4.renum hs⟩
 grind

def aUq(D:Nat→Option XFn)(Y:Nat→Option YI)(r:Nat→Option Nat)(h:XH)(H:Hp)(acc:List Nat)(v:AV)(h':XH):AV→Hp→Prop:=fun v' H' =>
 fH D Y r v h' v' H'∧∀ b c,r b=some c→(hat h b).isSome=true→b∉acc→H' c=H c

theorem aDT(sh:SH D Y r h H){acc:List Nat}(hn:acc.Nodup)(hlive:∀ b∈acc,(hat h b).isSome=true){fv:AV}{as:List AV}{v:AV}{hl:XH}
 (hc:∀ G,GhR h r G H→∀ S:Nat→Prop,[DecidablePred S]→(∀ c,S c↔∃ b∈acc,aEz h r G b c)→CallV B P fv as (fun c=>if S c then H c else none) (fH D Y (aAf r acc) v hl)) :
 CallV B P fv as H (aUq D Y r h H acc (rnA (gQ acc h.length) v) (jJ acc h hl)):=by
 classical
 obtain⟨G,hG⟩:=sh.gh;refine CallV.mono (CallV.frameS (fun c=>∃ b∈acc,aEz h r G b c) (hc G hG _ fun c=>Iff.rfl)) ?_;rintro v' H'' ⟨H',⟨rl,h1,h2,h3⟩,e1,e2⟩;obtain⟨r',k1,k2,k3,k4⟩:=aHV sh hG hn hlive (fun c=>Iff.rfl) h1 h2 e1 e2;exact⟨⟨r',k1,k2,k3 v v' h3⟩,k4⟩

theorem vD{run:eA}{runY:fA}(hf:FnS P B D Y run)(hy:YS P B D Y runY)(sh:SH D Y r h H){fv fv':AV}{as as':List AV}(h1:Rn D Y r fv fv')(h2:RnL D Y r as as'){v:AV}{h':XH}
 (hx:fU run runY fv as h=some (v,h')):CallV B P fv' as' H (aUq D Y r h H (iU fv as h) v h'):=by
 unfold fU at hx;split at hx
 ·rename_i g first cap
  cases h1 with
  | fn _ _ ys _ vs hf0 hl1 k1 hl2 k2 =>
  have hA:=RnL.append (RnL.append ⟨hl1,k1⟩ h2) ⟨hl2,k2⟩;cases hg:lB g with
  | true =>
    rw[hg]at hx;simp only[aFE]at hx;have:=hf _ _ _ g _ (ys++as'++vs) v h' sh hA hx;refine CallV.mono (fv:=.fn (.func g) ys vs) this fun v' H' hp=>⟨hp,fun b c _ hb hna=>absurd ?_ hna⟩;simp only[iU,hg,vS,List.mem_filter,N7];obtain⟨x,hx⟩:=B6.1 hb;exact⟨rC hx,hb⟩
  | false =>
    rw[hg]at hx;simp only[aFE,A3]at hx;obtain⟨⟨v0,hl⟩,hrun,hm⟩:=hx;simp only[aAK,A7]at hm;obtain⟨rfl,rfl⟩:=hm;obtain⟨hn,hlive⟩:=vR (first++as++cap) h;simp only[iU,hg,vS];refine aDT sh hn hlive fun G hG S _ hS=>?_;obtain⟨g1,g2,g3⟩:=uM sh hG hn hlive S hS;have:=hf _ _ _ g _ (ys++as'++vs) v0 hl g1 (g3 _ _ hA) hrun;exact this
 ·rename_i l
  simp only[A3]at hx;obtain⟨⟨v0,hl⟩,hrun,hm⟩:=hx;simp only[aAK,A7]at hm;obtain⟨rfl,rfl⟩:=hm;obtain⟨hn,hlive⟩:=aHO (.fn (.yield l) [] []) as h;refine aDT sh hn hlive fun G hG S _ hS=>?_;obtain⟨g1,g2,g3⟩:=uM sh hG hn hlive S hS;exact hy _ _ _ _ _ _ _ v0 hl g1 (g2 _ _ h1) (g3 _ _ h2) hrun
 ·simp at hx
end
section
variable{P:Program}{B:Base}{D:Nat→Option XFn}{Y:Nat→Option YI}{r:Nat→Option Nat}{e env:aH}{h:XH}{H:Hp}

theorem SH.ro(sh:SH D Y r h H):SH D Y r (h.map roX) (iS H):=by
 have live:∀ b x,hat (h.map roX) b=some x→∃ g y,hat h b=some (.blk g y)∧x = .blk g y.ro:=fun b x hx=>by
  rw[aAj _ rfl]at hx;cases hb:hat h b with
  | none=>rw[hb]at hx;simp[roX]at hx
  | some y =>
    rw[hb]at hx;cases y with
    | blk g y=>simp only[roX,oSI]at hx;grind
    | loop _ _ _ s=>simp[roX]at hx
    | gh _ _=>simp[roX]at hx
 refine⟨fun b c hb=>by simpa using sh.dom b c hb,fun b b' c x x' hx hx' h1 h2=>?_,fun b x hx=>?_,GhR.no fun b st p hx=>?_⟩
 ·obtain⟨g,y,k1,_⟩:=live b x hx
  obtain⟨g',y',k2,_⟩:=live b' x' hx';exact sh.inj b b' c _ _ k1 k2 h1 h2
 ·obtain⟨g,y,k1,rfl⟩:=live b x hx
  obtain⟨c,z,k2,k3,k4⟩:=sh.blk b _ k1;refine⟨c,z.ro,k2,by simp[iS,k3],?_⟩;cases k4 with
  | cells g w xs ys h hg=>exact .cells c _ false _ _ h hg
  | map g w xs ys h hg=>exact .map c _ false _ _ h hg
  | obj g w o=>exact .obj c _ false o
 grind

theorem CallV.quietOf{fv:AV}{as:List AV}{v:AV}(h:CallV B P fv as (iS H) fun v' H'=>v'=v∧∀ c,(iS H c).isSome=true→(H' c).isSome=true) :
 CallV B P fv as (iS H) fun v' H'=>v'=v∧H'=iS H:=by
 refine h.conv fun F w st=>⟨st,?_⟩;rintro e w' ⟨q,v',F',H',rfl,h2,h3,h4,rfl,h5⟩;have hE:Ext F w (iS H) F' w' (iS H):=⟨h2.sub,h2.fnew,fun b hb=>.inl hb,fun b hb=>.inl hb,h2.le,h2.same,h2.cells,h2.io⟩;refine⟨q,v',F',iS H,rfl,hE,⟨h3.lt,fun b x hb=>?_,fun b x hb=>?_⟩,h4,rfl,rfl⟩
 ·obtain⟨y,hy⟩:=B6.1 (h5 b (by simp[hb]))
  exact h3.dis b y hy
 ·obtain⟨o,k1,k2⟩:=st.blk b x hb
  exact⟨o,by rw[h2.same b (st.own_lt hb) (aIP H b)];exact k1,k2.up (h2.up st)⟩

theorem aFj:∀(xs ys:XH),aFk xs ys=true→∀ i x,hat xs i=some x→(∃ y,hat ys i=some y)∧∀ st p,x ≠ .gh st p
 | [],ys,_,i,x,hx=>by simp[hat]at hx
 | x0::xs,[],hk,i,x,hx=>by simp[aFk]at hk
 | x0::xs,y0::ys,hk,i,x,hx=>by
   simp only[aFk,A4,aD6]at hk;cases i with
   | zero =>
     simp only[hat,aE0]at hx ⊢;subst hx;rcases hk.1 with h1|h1;·simp at h1
     ·refine⟨B6.1 h1.1,fun st p e=>?_⟩
      rw[e]at h1;simp[ghO]at h1
   | succ i =>
     have:=aFj xs ys hk.2 i x (by simpa [hat]using hx);simpa [hat]using this

theorem aIF{run:eA}(hf:FnS P B D Y run)(sh:SH D Y r h H){fv fv':AV}{as as':List AV}(h1:Rn D Y r fv fv')(h2:RnL D Y r as as'){v:AV}
 (hx:nX run fv as h=some v):Gd v∧CallV B P fv' as' (iS H) fun v' H'=>v'=v∧H'=iS H:=by
 classical
 unfold nX at hx;split at hx
 ·rename_i g first cap
  obtain⟨hn,hlive⟩:=vR (first++as++cap) h;simp only at hx;split at hx
  ·rename_i v0 hl hrun
   split at hx
   ·rename_i hcond
    simp only[A4]at hcond;simp only[oSI]at hx;subst hx;cases h1 with
    | fn _ _ ys _ vs hf0 hl1 k1 hl2 k2 =>
      obtain⟨acc,hacc⟩:∃ acc,acc=gZ (first++as++cap) h:=⟨_,rfl⟩;rw[←hacc]at hn hlive hrun hcond;obtain⟨G,hG⟩:=sh.gh;obtain⟨g1,g2,g3⟩:=uM sh hG hn hlive (fun c=>∃ b∈acc,aEz h r G b c) (fun c=>Iff.rfl);have hfn:=hf _ _ _ g _ (ys++as'++vs) v0 hl g1.ro (g3 _ _ (RnL.append (RnL.append ⟨hl1,k1⟩ h2) ⟨hl2,k2⟩)) hrun;have hgd:Gd v0:=aJB _ hcond.1;refine⟨hgd,?_⟩;refine CallV.quietOf ?_;have hro:(iS fun c=>if ∃ b∈acc,aEz h r G b c then H c else none)=fun c=>if ∃ b∈acc,aEz h r G b c then iS H c else none:=by
       funext c;by_cases hc:∃ b∈acc,aEz h r G b c;·simp only[iS,hc,AAe]
       ·simp only[iS,hc,AAd];rfl
      rw[hro]at hfn;refine CallV.mono (CallV.frameS (fv:=.fn (.func g) ys vs) (fun c=>∃ b∈acc,aEz h r G b c) hfn) ?_;rintro v' H'' ⟨H',⟨rl,m1,m2,m3⟩,e1,e2⟩;refine⟨(m3.same hgd.gr).1,fun c hc=>?_⟩;obtain⟨x,hx⟩:=B6.1 hc;by_cases hS:∃ b∈acc,aEz h r G b c
      ·rw[e1 c (.inl hS)]
       obtain⟨b,hb,hrb⟩:=hS;obtain⟨i,hi⟩:=aC6.1 hb;obtain⟨y,hy⟩:=B6.1 (hlive b hb);have hloc:∃ z,hat (iK acc h) i=some z:=by
        unfold iK;rw[qC _ _ _ rfl,hi];simp only[hy];exact⟨_,rfl⟩
       obtain⟨z,hz⟩:=hloc;obtain⟨⟨z',hz'⟩,hng⟩:=aFj _ _ hcond.2 i z hz;have hrb:r b=some c:=by
        rcases hrb with h|⟨⟨st,p,h⟩,_⟩;·exact h
        ·unfold iK at hz
         rw[qC _ _ _ rfl,hi]at hz;simp only[h,rnO,rnB,oSI]at hz
         grind
       obtain⟨c',y',n1,n2,_⟩:=m2.blk i z' hz';have:=m1 i c (by simp only[aAf,hi,E5,hrb])
       grind
      simp_all
   ·simp at hx
  ·simp at hx
 ·simp at hx

theorem SH.turn(sh:SH D Y r h H){b c:Nat}{x0 x:XB}{y:ABlk}(hb:hat h b=some x0)(hr:r b=some c)(hx:RnB D Y r c x y)(hng:ghX x=false:=by rfl):SH D Y r (h.set b (some x)) (hset H c y):=by
 have live:∀ b' z,hat (h.set b (some x)) b'=some z→(b'=b∧z=x)∨(b'≠b∧hat h b'=some z):=fun b' z hz=>by
  grind [fX,rC]
 have liv:∀ b' z,hat (h.set b (some x)) b'=some z→∃ z',hat h b'=some z':=fun b' z hz=>by
  grind
 have lg:∀ b' st p,hat (h.set b (some x)) b'=some (.gh st p)→b'≠b∧hat h b'=some (.gh st p):=fun b' st p hz=>by
  rcases live b' _ hz with ⟨_,e⟩|h1;·rw[←e]at hng;cases hng
  ·exact h1
 obtain⟨G,hG⟩:=sh.gh;refine⟨fun b c hb=>by simpa using sh.dom b c hb,fun b1 b2 c' x1 x2 h1 h2 k1 k2=>?_,fun b' z hz=>?_,_,hG.via id (fun b' st p hb'=>⟨(lg b' st p hb').2,rfl⟩) (fun b' z hz=>?_) (fun _ _ _ _ _ _ _ hne=>hne) fun b' st p n y' hb' hnn hy=>?_⟩
 ·obtain⟨z1,h1⟩:=liv _ _ h1
  obtain⟨z2,h2⟩:=liv _ _ h2;exact sh.inj b1 b2 c' z1 z2 h1 h2 k1 k2
 ·rcases live b' z hz with ⟨rfl,rfl⟩|⟨h1,h2⟩
  ·simp_all
  ·obtain⟨c',y',k1,k2,k3⟩:=sh.blk b' z h2
   refine⟨c',y',k1,?_,k3⟩;rw[aO _ _ (fun e=>?_)];·exact k2
   ·subst e;exact h1 (sh.inj b' b c' _ _ h2 hb k1 hr)
 ·grind
 ·obtain⟨k1,k2⟩:=lg b' st p hb'
  rw[aO _ _ (fun e=>?_)];·exact hy
  ·subst e;exact(hG.2 b' b st p x0 n k2 hb k1 hnn).1 hr

theorem GhR.drop{G:Nat→Nat→Prop}(hG:GhR h r G H){g gc:Nat}{x0:XB}(hg:hat h g=some x0)(hr:r g=some gc):GhR (h.set g none) r (fun b=>G (id b)) (mV H gc):=by
 have live:∀ b z,hat (h.set g none) b=some z→b≠g∧hat h b=some z:=fun b z hz=>by
  grind [fX,rC]
 refine hG.via id (fun b st p hb=>⟨(live b _ hb).2,rfl⟩) (fun b z hb=>.inl ⟨z,(live b z hb).2,rfl,fun st p e=>e⟩) (fun _ _ _ _ _ _ _ hne=>hne) fun b st p n y hb hn hy=>?_;obtain⟨k1,k2⟩:=live b _ hb;have hne:n≠gc:=fun e=>by subst e;exact(hG.2 b g st p x0 n k2 hg k1 hn).1 hr
 simp_all [mV]
theorem aEI(sh:SH D Y r h H){n:Nat}{p p' x x':AV}(hp:Rn D Y r p p')(hx:Rn D Y r x x'){h':XH}(hs:oT n h p x=some h'):∃ H',oX n H p' x'=some H'∧SH D Y r h' H'∧∃ b x0,eH p=some b∧hat h b=some x0:=by
 unfold oT at hs;split at hs
 ·rename_i b o
  split at hs
  ·rename_i g cs vs hb hv
   split at hs
   ·rename_i hc
    simp only[oSI]at hs;subst hs;obtain⟨c,rfl,hr⟩:=lY hp;obtain⟨vs',k1,k2⟩:=yC hx hv;obtain⟨g',cs',k3,k4,k5,k6⟩:=sh.cells hr (w:=true) (cs:=cs) (by unfold aI;rw[hb]);rw[hb]at k3;simp only[oSI,XB.blk.injEq,ABlk.cells.injEq,AAh,and_true]at k3;subst k3;refine⟨_,by simp only[oX,k4,k1];rw[if_pos (by rw[←k2.1,←k5.1];exact hc)],sh.turn hb hr (.cells c _ true _ _ (aAB k5 k2) fun hg=>?_),b,_,rfl,hb⟩;simp only[A4]at hg
    grind [xV]
   ·simp at hs
  ·simp at hs
 ·simp at hs

theorem aSd{q:Nat}{k k' v v':AV}(hk:Rn D Y r k k')(hv:Rn D Y r v v'):∀(es es' es2:List (AV×AV)),RnP D Y r es es'→kA q k v es=some es2→∃ es2',kA q k' v' es'=some es2'∧RnP D Y r es2 es2':=by
 have cons:∀{p p':AV×AV}{es es':List (AV×AV)},Rn D Y r p.1 p'.1→Rn D Y r p.2 p'.2→RnP D Y r es es'→RnP D Y r (p::es) (p'::es'):=fun h1 h2 h3=>⟨by simp[h3.1],fun i x y hx hy=>by
  grind [RnP]⟩
 intro es;induction es with
 | nil =>
   grind [RnP,kA,aId]
 | cons p es ih =>
   intro es' es2 hp hf;cases es' with
   | nil=>grind [RnP]
   | cons p' es' =>
     obtain⟨h1,h2⟩:=hp.2 0 p p' rfl rfl;have hrest:RnP D Y r es es':=⟨by grind [RnP],fun i x y hx hy=>hp.2 (i+1) x y (by grind) (by grind)⟩;obtain⟨a,u⟩:=p;obtain⟨a',u'⟩:=p';simp only[kA]at hf ⊢
     grind [aAM,Option.map_eq_some_iff]
theorem aOR{q:Nat}{k v:AV}:∀(es es2:List (AV×AV)),kA q k v es=some es2→∀ p∈es2,(p.1=k∨∃ p0∈es,p.1=p0.1)∧(p.2=v∨∃ p0∈es,p.2=p0.2):=by
 intro es;induction es with
 | nil=>simp[kA]
 | cons p0 es ih =>
   grind [Option.map_eq_some_iff,kA]

theorem aLy(sh:SH D Y r h H){q:Nat}{m m' k k' x x':AV}(hm:Rn D Y r m m')(hk:Rn D Y r k k')(hx:Rn D Y r x x'){h':XH}(hs:sU q h m k x=some h'):∃ H',xS q H m' k' x'=some H'∧SH D Y r h' H':=by
 unfold sU at hs;split at hs
 ·rename_i b
  split at hs
  ·rename_i g es hb
   simp only[A3]at hs;obtain⟨es2,h2,rfl⟩:=hs;obtain⟨c,rfl,hr⟩:=aEV hm;obtain⟨g',es',k3,k4,k5,k6⟩:=sh.map hr (w:=true) (es:=es) (by unfold aI;rw[hb]);rw[hb]at k3;simp only[oSI,XB.blk.injEq,ABlk.map.injEq,AAh,and_true]at k3;subst k3;obtain⟨es2',k7,k8⟩:=aSd hk hx es es' es2 k5 h2;refine⟨_,by simp only[xS,k4,k7,C5],sh.turn hb hr (.map c _ true _ _ k8 fun hg p hp=>?_)⟩;simp only[A4]at hg
   grind [aOR]
  ·simp at hs
 ·simp at hs


theorem aQS(sh:SH D Y r h H){x x' v:AV}(hx:Rn D Y r x x'){h':XH}(hs:aHh h x=some (v,h')):∃ H',aHQ H x'=some (v,H')∧Rn D Y r v v∧SH D Y r h' H':=by
 have g3:∀ n m:Int,Rn D Y r (.tup [.bool true,.int .i64 n,.int .i32 m]) (.tup [.bool true,.int .i64 n,.int .i32 m]):=fun n m=>.tup _ _ rfl fun i a b ha hb=>by
  match i with
  | 0=>simp at ha hb;subst ha hb;exact .bool _
  | 1=>simp at ha hb;subst ha hb;exact .int _ _
  | 2=>simp at ha hb;subst ha hb;exact .int _ _
  | i+3=>simp at ha
 have g1:Rn D Y r (.tup [.bool false]) (.tup [.bool false]):=.tup _ _ rfl fun i a b ha hb=>by
  match i with
  | 0=>simp at ha hb;subst ha hb;exact .bool _
  | i+1=>simp at ha
 unfold aHh at hs;split at hs
 ·rename_i b
  split at hs
  ·rename_i g s pos hb
   obtain⟨c,rfl,hr⟩:=lY hx;obtain⟨g',k3,k4⟩:=sh.obj hr (w:=true) (o:=.stringIter s pos) (by unfold aI;rw[hb]);split at hs<;>simp only[oSI,A7]at hs<;>obtain⟨rfl,rfl⟩:=hs
   ·rename_i hlt
    exact⟨_,by simp only[aHQ,k4];grind,g3 _ _,sh.turn hb hr (.obj c _ true _)⟩
   ·rename_i hlt
    exact⟨H,by simp_all [aHQ],g1,sh⟩
  ·simp at hs
 ·simp at hs




theorem aMR(sh:SH D Y r h H){s:Nat}{x x' y y':AV}(hx:Rn D Y r x x')(hy:Rn D Y r y y'){n:Nat}{h':XH}(hs:aBX s h x y=some (n,h')):∃ H',aDP s H x' y'=some (n,H')∧SH D Y r h' H':=by
 unfold aBX at hs;split at hs
 ·rename_i b o s' len m new hsrc
  obtain⟨new',k1,k2,k3⟩:=yX sh hy hsrc;split at hs
  ·rename_i g cs hb
   split at hs
   ·rename_i hc
    simp only[oSI,A7]at hs;obtain⟨rfl,rfl⟩:=hs;obtain⟨c,rfl,hr⟩:=wZ hx;obtain⟨g',cs',j3,j4,j5,j6⟩:=sh.cells hr (w:=true) (cs:=cs) (by unfold aI;rw[hb]);rw[hb]at j3;simp only[oSI,XB.blk.injEq,ABlk.cells.injEq,AAh,and_true]at j3;subst j3;refine⟨_,by simp only[aDP,k1,j4];rw[if_pos (by rw[←j5.1];exact hc)],sh.turn hb hr (.cells c _ true _ _ (aAB j5 (k2.take _)) fun hg=>?_)⟩;simp only[A4]at hg
    grind [xV,eU,iF]
   ·simp at hs
  ·simp at hs
 ·simp at hs

theorem SH.fresh(sh:SH D Y r h H){own:Option Nat}(g:Bool){x:ABlk}{y:ABlk}{b':Nat}(hb:H b'=none∨own.bind r=some b')
 (ho:∀ b,own=some b→∃ c x0,r b=some c∧hat h b=some x0) (hxy:∀ c,RnB D Y r c (.blk g x) y) :
 Sub r (fun b=>if b=h.length then some b' else r b)∧SH D Y (fun b=>if b=h.length then some b' else r b) (oU h own g x) (hset H b' y):=by
 have hsub:Sub r (fun b=>if b=h.length then some b' else r b):=fun b c hb=>by
  have:=sh.dom b c hb
  grind
 have len:(oU h own g x).length=h.length+1:=by unfold oU;grind
 have live:∀ b z,hat (oU h own g x) b=some z→(b=h.length∧z = .blk g x)∨(b<h.length∧own≠some b∧hat h b=some z):=fun b z hz=>by
  unfold oU at hz;cases own with
  | none =>
    simp only at hz;rw[cJ]at hz;split at hz;·grind
    ·by_cases he:b=h.length
     ·simp_all [hat]
     ·have:b-h.length=(b-h.length-1)+1:=AM
      rw[this]at hz;simp[hat]at hz
  | some b0 =>
    simp only at hz;rw[cJ]at hz;simp only[D6]at hz;split at hz;·grind [fX]
    ·by_cases he:b=h.length
     ·simp_all [hat]
     ·have:b-h.length=(b-h.length-1)+1:=AM
      rw[this]at hz;simp[hat]at hz
 have other:∀ b c z,hat h b=some z→own≠some b→r b=some c→c≠b':=fun b c z hz hne hr e=>by
  subst e;obtain⟨c',y',h1,h2,_⟩:=sh.blk b z hz;rw[hr]at h1;simp only[oSI]at h1;subst h1;rcases hb with hb|hb;·grind
  ·cases own with
   | none=>simp at hb
   | some b0 =>
     simp only[E5]at hb;obtain⟨_,x0,_,h4⟩:=ho b0 rfl;exact hne (by rw[sh.inj b b0 c z x0 hz h4 hr hb])
 obtain⟨G,hG⟩:=sh.gh;have lg:∀ b st p,hat (oU h own g x) b=some (.gh st p)→b<h.length∧own≠some b∧hat h b=some (.gh st p):=fun b st p hz=>by
  grind
 have gne:∀ b st p n,hat (oU h own g x) b=some (.gh st p)→G b n→n≠b':=fun b st p n hz hnn e=>by
  obtain⟨k1,k2,k3⟩:=lg b st p hz;subst e;obtain⟨c,_,k4⟩:=hG.1 b st p k3;obtain⟨y1,k5⟩:=k4.live hnn;rcases hb with hb|hb;·grind
  ·cases own with
   | none=>simp at hb
   | some b0 =>
     simp only[E5]at hb;obtain⟨_,x0,_,h4⟩:=ho b0 rfl;exact(hG.2 b b0 st p x0 n k3 h4 (fun e=>k2 (by rw[e])) hnn).1 hb
 refine⟨hsub,fun b c hb=>?_,fun b1 b2 c x1 x2 h1 h2 k1 k2=>?_,fun b z hz=>?_,_,hG.via id (fun b st p hz=>?_) (fun b z hz=>?_) (fun _ _ _ _ _ _ _ hne=>hne) fun b st p n y' hz hnn hy=>?_⟩
 ·rw[len]
  split at hb;·omega
  ·have:=sh.dom b c hb;omega
 ·rcases live b1 x1 h1 with ⟨rfl,_⟩|⟨l1,n1,m1⟩
  ·grind
  ·rcases live b2 x2 h2 with ⟨rfl,_⟩|⟨l2,n2,m2⟩
   ·grind
   ·simp only[show b1≠h.length by omega,AAd]at k1
    simp only[show b2≠h.length by omega,AAd]at k2;exact sh.inj b1 b2 c x1 x2 m1 m2 k1 k2
 ·rcases live b z hz with ⟨rfl,rfl⟩|⟨l1,n1,m1⟩
  ·exact⟨b',y,by simp,hset_same _ _ _,(hxy b').mono hsub (fun _=>rfl)⟩
  ·obtain⟨c,y',g1,g2,g3⟩:=sh.blk b z m1
   refine⟨c,y',hsub b c g1,?_,g3.mono hsub (fun _=>rfl)⟩
   grind [aO]
 ·grind
 ·grind
 grind [aO]

structure SR(D:Nat→Option XFn)(Y:Nat→Option YI)(r:Nat→Option Nat)(e:aH)(h:XH)(env:aH)(H:Hp):Prop where
 sh:SH D Y r h H
 re:∀ j,Rn D Y r (e j) (env j)

theorem SR.put{r':Nat→Option Nat}{h':XH}{H':Hp}(sr:SR D Y r e h env H)(hs:Sub r r')(sh:SH D Y r' h' H'){v v':AV}(hv:Rn D Y r' v v')(d:Option Nat):SR D Y r' (aX e d v) h' (aX env d v') H':=by
 refine⟨sh,fun j=>?_⟩;cases d with
 | none=>exact(sr.re j).mono hs
 | some d =>
   simp only[aX,upd];split;·exact hv
   ·exact(sr.re j).mono hs

theorem aAl(sr:SR D Y r e h env H){o:DOper}{b:Bool}(hb:gd o e=some b):gd o env=some b:=by
 unfold gd at hb ⊢;split at hb;·exact hb
 ·rename_i g want hg
  have hr:=sr.re g
  grind [eW,aGg]

def aKf(D:Nat→Option XFn)(Y:Nat→Option YI)(r:Nat→Option Nat)(e:aH)(h:XH)(K:aH→Hp→Prop):Prop:=∀ r' env' H',Sub r r'→SR D Y r' e h env' H'→K env' H'

theorem xY(sr:SR D Y r e h env H){d:Option Nat}{fl:Bool}{own:Option Nat}{x:ABlk}{f:Nat→AV}{eff':Eff}(h2:RnE D Y r h fl (.new own x f) eff'){K:aH→Hp→Prop}
 (hK:aKf D Y r (aX e d (f h.length)) (oU h own fl x) K):fJ d eff' K env H:=by
 cases h2 with
 | new _ cs cs' _ hf hc hg ho =>
   intro b' hb';obtain⟨k1,k2⟩:=sr.sh.fresh (own:=own) fl (x:=.cells true cs) (y:=.cells true cs') (b':=b') hb' (fun b hb=>by
    grind) (fun c=>.cells c _ true _ _ hc hg)
   exact hK _ _ _ k1 (sr.put k1 k2 (hf _ _ _ (by simp)) d)
 | newObj o _ hf =>
   intro b' hb';obtain⟨k1,k2⟩:=sr.sh.fresh (own:=none) fl (x:=.obj true o) (y:=.obj true o) (b':=b') (by grind) (fun b hb=>by simp at hb) (fun c=>.obj c _ true o);exact hK _ _ _ k1 (sr.put k1 k2 (hf _ _ _ (by simp)) d)
 | newMap es _ hf hes =>
   intro b' hb';obtain⟨k1,k2⟩:=sr.sh.fresh (own:=none) fl (x:=.map true es) (y:=.map true es) (b':=b') (by grind) (fun b hb=>by simp at hb) (fun c=>.map c _ true _ _ ⟨rfl,fun i x y hx hy=>by
    rw[hx]at hy;simp at hy;subst hy;have:=hes x (A5 hx);exact⟨this.1.rn,this.2.rn⟩⟩ (fun _ p hp=>⟨(hes p hp).1.gr,(hes p hp).2.gr⟩))
   exact hK _ _ _ k1 (sr.put k1 k2 (hf _ _ _ (by simp)) d)
theorem yS{run:eA}{runY:fA}(sr:SR D Y r e h env H){d:Option Nat}{op:DOp}(hq:op.isQ=true)(hok:iE op=true){e':aH}{h':XH}(hx:cS run runY d op e h=some (e',h')){K:aH→Hp→Prop}
 (hK:aKf D Y r e' h' K):iI B P d op K env H:=by
 have hx':(match aD op e (aI h)with
  | some (.val v)=>some (aX e d v,h)
  | some (.new own x f)=>some (aX e d (f h.length),oU h own (kN op e h) x)
  | none=>none)=some (e',h'):=by
  rw[←hx];cases op<;>first|rfl|(simp[DOp.isQ]at hq)
 rw[rK hq,cZ];split at hx'
 ·rename_i v hv
  simp only[oSI,A7]at hx';obtain⟨rfl,rfl⟩:=hx';obtain⟨eff',h1,h2⟩:=aIu sr.sh sr.re hok hv;refine⟨eff',h1,?_⟩;cases h2 with
  | val _ v' hv'=>exact hK r _ _ (Sub.refl r) (sr.put (Sub.refl r) sr.sh hv' d)
 ·rename_i own x f hv
  simp only[oSI,A7]at hx';obtain⟨rfl,rfl⟩:=hx';obtain⟨eff',h1,h2⟩:=aIu sr.sh sr.re hok hv;exact⟨eff',h1,xY sr h2 hK⟩
 grind

theorem gV{run:eA}{runY:fA}(hf:FnS P B D Y run)(hy:YS P B D Y runY)(sr:SR D Y r e h env H){d:Option Nat}{op:DOp}(hok:iE op=true){e':aH}{h':XH}
 (hx:cS run runY d op e h=some (e',h')) {K:aH→Hp→Prop} (hK:aKf D Y r e' h' K):iI B P d op K env H:=by
 by_cases hq:op.isQ=true;·grind [yS]
 ·cases op with
  | store n p x l =>
    simp only[iE,A4]at hok;simp only[cS,A3]at hx;obtain⟨h2,hs,heq⟩:=hx;simp only[A7]at heq;obtain⟨rfl,rfl⟩:=heq;obtain⟨H',k1,k2,_⟩:=aEI sr.sh (aP sr.re hok.1) (aP sr.re hok.2) hs;simp only[iI,k1,optW_some];exact hK r _ _ (Sub.refl r) (sr.put (Sub.refl r) k2 (.any _) d)
  | copy s x y =>
    simp only[iE,A4]at hok;simp only[cS,A3]at hx;obtain⟨⟨n,h2⟩,hs,heq⟩:=hx;simp only[A7]at heq;obtain⟨rfl,rfl⟩:=heq;obtain⟨H',k1,k2⟩:=aMR sr.sh (aP sr.re hok.1) (aP sr.re hok.2) hs;simp only[iI,k1,optW_some];exact hK r _ _ (Sub.refl r) (sr.put (Sub.refl r) k2 (.int _ _) d)
  | mapup q m k x =>
    simp only[iE,A4]at hok;simp only[cS,A3]at hx;obtain⟨h2,hs,heq⟩:=hx;simp only[A7]at heq;obtain⟨rfl,rfl⟩:=heq;obtain⟨H',k1,k2⟩:=aLy sr.sh (aP sr.re hok.1.1) (aP sr.re hok.1.2) (aP sr.re hok.2) hs;simp only[iI,k1,optW_some];exact hK r _ _ (Sub.refl r) (sr.put (Sub.refl r) k2 (.any _) d)
  | nxts x =>
    simp only[cS,A3]at hx;obtain⟨⟨v,h2⟩,hs,heq⟩:=hx;simp only[A7]at heq;obtain⟨rfl,rfl⟩:=heq;obtain⟨H',k1,k2,k3⟩:=aQS sr.sh (aP sr.re (x:=x) hok) hs;simp only[iI,k1,optW_some];exact hK r _ _ (Sub.refl r) (sr.put (Sub.refl r) k3 k2 d)
  | callf q f xs l =>
    simp only[iE,A4]at hok;cases q with
    | true =>
      simp only[cS,A3]at hx;obtain⟨v,hs,heq⟩:=hx;simp only[A7]at heq;obtain⟨rfl,rfl⟩:=heq;obtain⟨k1,k2⟩:=aIF (P:=P) (B:=B) hf sr.sh (aP sr.re hok.1) (vO sr.re hok.2) hs;exact⟨v,k2,hK r _ _ (Sub.refl r) (sr.put (Sub.refl r) sr.sh k1.rn d)⟩
    | false =>
      simp only[cS,A3]at hx;obtain⟨⟨v,h2⟩,hs,heq⟩:=hx;simp only[A7]at heq;obtain⟨rfl,rfl⟩:=heq;refine CallV.mono (vD (P:=P) (B:=B) hf hy sr.sh (aP sr.re hok.1) (vO sr.re hok.2) hs) ?_;rintro v' H' ⟨⟨r',k1,k2,k3⟩,_⟩;exact hK r' _ _ k1 (sr.put k1 k2 k3 d)
  | _=>exact absurd rfl hq

def uE(ops:List DOper):Bool:=ops.all fun o=>iE o.op

theorem lD{run:eA}{runY:fA}(hf:FnS P B D Y run)(hy:YS P B D Y runY):∀(ops:List DOper)(r:Nat→Option Nat)(e:aH)(h:XH)(env:aH)(H:Hp)(e':aH)(h':XH)(K:aH→Hp→Prop),uE ops=true→SR D Y r e h env H →
 fI run runY ops e h=some (e',h')→aKf D Y r e' h' K→RS B P ops K env H:=by
 intro ops;induction ops with
 | nil =>
   intro r e h env H e' h' K _ sr hx hK;simp only[fI,oSI,A7]at hx;obtain⟨rfl,rfl⟩:=hx;exact hK r env H (Sub.refl r) sr
 | cons o ops ih =>
   intro r e h env H e' h' K hok sr hx hK;simp only[uE,N5,A4]at hok;simp only[fI]at hx;simp only[RS,opW];split at hx
   ·rename_i hg
    rw[aAl sr hg];simp only[B9]at hx;obtain⟨⟨e1,h1⟩,hx1,hx2⟩:=hx;refine gV hf hy sr hok.1 hx1 fun r' env' H' hs sr'=>?_;exact ih r' e1 h1 env' H' e' h' K hok.2 sr' hx2 fun r2 env2 H2 hs2 sr2=>hK r2 env2 H2 (hs.trans hs2) sr2
   ·rename_i hg
    rw[aAl sr hg];simp only;exact ih r _ h _ H e' h' K hok.2 (sr.put (Sub.refl r) sr.sh (.tup [] [] rfl (by simp)) o.dst) hx hK
   ·simp at hx

theorem rO{α β:Type}{f:α→Option (List β)}:∀{l:List α}{m:List β},aAu f l=some m→∀ a∈l,∃ x,f a=some x∧∀ q∈x,q∈m
 | [],_,_,a,ha=>by simp at ha
 | b::l,m,h,a,ha=>by
   simp only[aAu]at h;split at h
   ·rename_i x y h1 h2
    simp only[oSI]at h;subst h;rcases B5.1 ha with rfl|ha;·exact⟨x,h1,fun q hq=>F7 _ hq⟩
    ·obtain⟨z,k1,k2⟩:=rO h2 a ha
     exact⟨z,k1,fun q hq=>G9 _ (k2 q hq)⟩
   ·simp at h
theorem aTl(sh:SH D Y r h H){s n:Nat}{x x' y y':AV}{e1 e2:Eff}(hx:Rn D Y r x x')(hy:Rn D Y r y y')(ha:aED s n (aI h) x y=some (e1,e2)) :
 ∃ e1' e2',aED s n H x' y'=some (e1',e2')∧RnE D Y r h (fS h x&&fS h y) e1 e1'∧RnE D Y r h (fS h x&&fS h y) e2 e2':=by
 unfold aED at ha;split at ha
 ·rename_i m new b off s' len hs
  obtain⟨new',k1,k2,k3⟩:=yX sh hy hs;obtain⟨c,rfl,hr⟩:=wZ hx;split at ha
  ·rename_i cs hb
   obtain⟨g,cs',h0,h1,h2,h3⟩:=sh.cells hr hb;split at ha
   ·rename_i hc
    simp only[oSI,A7]at ha;obtain⟨rfl,rfl⟩:=ha;have hd:RnL D Y r (cs.drop off) (cs'.drop off):=⟨by rw[aG3,aG3,h2.1],fun i x y hx hy=>h2.2 (off+i) x y (by simpa using hx) (by simpa using hy)⟩
    refine⟨.new (some c) (.cells true (cs'++new')) fun j=>.sl j off s (len+m),.new none (.cells true (cs'.drop off++new')) fun j=>.sl j 0 s (len+m),by simp only[aED,k1,h1];rw[if_pos (by rw[←h2.1];exact hc)],?_,
     .new none (cs.drop off++new) (cs'.drop off++new') _ (fun q b c hq=>.sl _ _ _ _ _ hq) (hd.append k2) (fun hg=>?_) (by simp)⟩
    ·have e0:(some b).bind r=some c:=hr
     rw[←e0];refine .new (some b) (cs++new) (cs'++new') _ (fun q b c hq=>.sl _ _ _ _ _ hq) (h2.append k2) (fun hg=>?_) (fun c hc'=>?_)
     ·simp only[A4,fS,h0]at hg
      exact nS (h3 hg.1) (k3 hg.2)
     ·grind
    ·simp only[A4,fS,h0]at hg
     have:kY (cs.drop off)=true:=eU fun x hx=>iF (h3 hg.1) x (aA5 hx);exact nS this (k3 hg.2)
   ·simp at ha
  ·simp at ha
 ·simp at ha
theorem aHg{run:eA}{runY:fA}(hf:FnS P B D Y run)(hy:YS P B D Y runY):∀(ops:List DOper)(r:Nat→Option Nat)(e:aH)(h:XH)(env:aH)(H:Hp)(l:List (aH×XH))(K:aH→Hp→Prop),uE ops=true→SR D Y r e h env H →
 yR run runY ops e h=some l→(∀ q∈l,aKf D Y r q.1 q.2 K)→RSA B P ops K env H:=by
 intro ops;induction ops with
 | nil =>
   intro r e h env H l K _ sr hx hK;simp only[yR,oSI]at hx;subst hx;exact hK (e,h) (by simp) r env H (Sub.refl r) sr
 | cons o ops ih =>
   intro r e h env H l K hok sr hx hK;simp only[uE,N5,A4]at hok;simp only[yR]at hx;simp only[RSA,opA];split at hx
   ·rename_i hg
    simp only[B9]at hx;obtain⟨l1,hx1,hx2⟩:=hx;have next:∀ s∈l1,aKf D Y r s.1 s.2 (RSA B P ops K):=by
     intro s hs r' env' H' hr sr';obtain⟨m,k1,k2⟩:=rO hx2 s hs;exact ih r' s.1 s.2 env' H' m K hok.2 sr' k1 fun q hq r2 env2 H2 hr2 sr2=>hK q (k2 q hq) r2 env2 H2 (hr.trans hr2) sr2
    unfold aIM at hx1;split at hx1
    ·rename_i l2 hl
     simp only[oSI]at hx1;subst hx1;unfold aTx at hl;split at hl
     ·rename_i s bts x y hop
      split at hl
      ·rename_i own1 x1 f1 own2 x2 f2 ha
       simp only[oSI]at hl;subst hl;right;have ho:=hok.1;rw[hop]at ho;simp only[iE,A4]at ho;obtain⟨e1',e2',k1,k2,k3⟩:=aTl sr.sh (aP sr.re ho.1) (aP sr.re ho.2) ha;have n1:=next _ J3;have n2:=next _ (E7 _ J3);exact⟨aAl sr hg,s,bts,x,y,e1',e2',hop,k1,xY sr k2 n1,xY sr k3 n2⟩
      ·simp at hl
     ·simp at hl
    ·simp only[A3]at hx1
     obtain⟨s,k1,rfl⟩:=hx1;left;unfold opW;rw[aAl sr hg];exact gV hf hy sr hok.1 k1 (next s (by simp))
   ·rename_i hg
    left;unfold opW;rw[aAl sr hg];exact ih r _ h _ H l K hok.2 (sr.put (Sub.refl r) sr.sh (.tup [] [] rfl (by simp)) o.dst) hx hK
   ·simp at hx

def LogR(r:Nat→Option Nat)(h:XH)(L:List (Nat×Nat))(L':yP):Prop:=(∀ q∈L,(hat h q.2).isSome=true)∧∀ j c,L' j=some c→∃ b,(j,b)∈L∧r b=some c

theorem wD{ix:Nat}{d:Option Nat}{op:DOp}{K:KL}{L:yP}(h1:∀ n p x l,op ≠ .store n p x l)(h2:∀ f xs l,op ≠ .callf false f xs l) :
 bD B P ix d op K env H L=iI B P d op (fun e h=>K e h (eL ix op env L)) env H:=by
 cases op<;>first
  | rfl
  | (exact absurd rfl (h1 _ _ _ _))
  | (rename_i q f xs l;cases q;exact absurd rfl (h2 _ _ _);rfl)

mutual
theorem aHu:∀(x y:AV),cD x y=true→x=y
 | .int k n,.int k' n',h=>by simp[cD]at h;obtain⟨rfl,rfl⟩:=h;rfl
 | .bool a,.bool b,h=>by simp[cD]at h;subst h;rfl
 | .str s,.str t,h=>by
   simp[cD]at h;obtain⟨s⟩:=s;obtain⟨t⟩:=t;obtain⟨s⟩:=s;obtain⟨t⟩:=t;simp at h;subst h;rfl
 | .agg xs,.agg ys,h=>by rw[kJ xs ys (by simpa [cD]using h)]
 | .tup xs,.tup ys,h=>by rw[kJ xs ys (by simpa [cD]using h)]
 | .sl b o s n,.sl b' o' s' n',h=>by simp[cD]at h;obtain⟨rfl,rfl,rfl,rfl⟩:=h;rfl
 | .pt b o,.pt b' o',h=>by simp[cD]at h;obtain⟨rfl,rfl⟩:=h;rfl
 | .mp b,.mp b',h=>by simp[cD]at h;subst h;rfl
 | .nilsl,.nilsl,_=>rfl
 | .nilpt,.nilpt,_=>rfl
 | .nilmap,.nilmap,_=>rfl
 | .nilfn,.nilfn,_=>rfl
 | .nilifc,.nilifc,_=>rfl
 | .fn f xs us,.fn g ys vs,h=>by
   simp only[cD,A4,AAf]at h;rw[h.1,kJ xs ys h.2.1,kJ us vs h.2.2]
 | .fs xs,.fs ys,h=>by rw[aCo xs ys (by simpa [cD]using h)]
 | .any,y,h=>by cases y<;>simp[cD]at h
 | .fp ..,y,h=>by cases y<;>simp[cD]at h
 | .cs ..,y,h=>by cases y<;>simp[cD]at h
 | .ifc ..,y,h=>by cases y<;>simp[cD]at h
theorem kJ:∀(xs ys:List AV),fO xs ys=true→xs=ys
 | [],[],_=>rfl
 | x::xs,y::ys,h=>by
   simp only[fO,A4]at h;rw[aHu x y h.1,kJ xs ys h.2]
 | [],_::_,h=>by simp[fO]at h
 | _::_,[],h=>by simp[fO]at h
theorem aCo:∀(xs ys:List (List AV)),aEQ xs ys=true→xs=ys
 | [],[],_=>rfl
 | x::xs,y::ys,h=>by
   simp only[aEQ,A4]at h;rw[kJ x y h.1,aCo xs ys h.2]
 | [],_::_,h=>by simp[aEQ]at h
 | _::_,[],h=>by simp[aEQ]at h
end
mutual
theorem aOn{r':Nat→Option Nat}(hs:Sub r r'):∀(x y x' y':AV),cD x y=true→Rn D Y r x x'→Rn D Y r' y y'→x'=y'
 | .int k n,.int k' n',x',y',h,h1,h2=>by simp[cD]at h;obtain⟨rfl,rfl⟩:=h;rw[dC h1,dC h2]
 | .bool a,.bool b,x',y',h,h1,h2=>by simp[cD]at h;subst h;rw[eW h1,eW h2]
 | .str s,.str t,x',y',h,h1,h2=>by
   simp[cD]at h;have:s=t:=by cases s;cases t;simp_all
   subst this;rw[dB h1,dB h2]
 | .agg xs,.agg ys,x',y',h,h1,h2=>by
   obtain⟨xs',rfl,k1⟩:=uA h1;obtain⟨ys',rfl,k2⟩:=uA h2;rw[pN hs xs ys xs' ys' (by simpa [cD]using h) k1 k2]
 | .tup xs,.tup ys,x',y',h,h1,h2=>by
   obtain⟨xs',rfl,k1⟩:=aGg h1;obtain⟨ys',rfl,k2⟩:=aGg h2;rw[pN hs xs ys xs' ys' (by simpa [cD]using h) k1 k2]
 | .sl b o s n,.sl b' o' s' n',x',y',h,h1,h2=>by
   simp[cD]at h;obtain⟨rfl,rfl,rfl,rfl⟩:=h;obtain⟨c,rfl,k1⟩:=wZ h1;obtain⟨c',rfl,k2⟩:=wZ h2;rw[hs b c k1]at k2;simp at k2;rw[k2]
 | .pt b o,.pt b' o',x',y',h,h1,h2=>by
   simp[cD]at h;obtain⟨rfl,rfl⟩:=h;obtain⟨c,rfl,k1⟩:=lY h1;obtain⟨c',rfl,k2⟩:=lY h2;rw[hs b c k1]at k2;simp at k2;rw[k2]
 | .mp b,.mp b',x',y',h,h1,h2=>by
   simp[cD]at h;subst h;obtain⟨c,rfl,k1⟩:=aEV h1;obtain⟨c',rfl,k2⟩:=aEV h2;rw[hs b c k1]at k2;simp at k2;rw[k2]
 | .nilsl,.nilsl,x',y',h,h1,h2=>by rw[nM h1,nM h2]
 | .nilpt,.nilpt,x',y',h,h1,h2=>by rw[aCF h1,aCF h2]
 | .nilmap,.nilmap,x',y',h,h1,h2=>by rw[vN h1,vN h2]
 | .nilfn,.nilfn,x',y',h,h1,h2=>by rw[aHG h1,aHG h2]
 | .nilifc,.nilifc,x',y',h,h1,h2=>by rw[aEU h1,aEU h2]
 | .fn f xs us,.fn g ys vs,x',y',h,h1,h2=>by
   simp only[cD,A4,AAf]at h;obtain⟨rfl,h3,h4⟩:=h;cases h1 with
   | fn _ _ xs' _ us' hf1 a1 a2 a3 a4 =>
     cases h2 with
     | fn _ _ ys' _ vs' hf2 b1 b2 b3 b4 =>
       rw[pN hs xs ys xs' ys' h3 ⟨a1,a2⟩ ⟨b1,b2⟩,pN hs us vs us' vs' h4 ⟨a3,a4⟩ ⟨b3,b4⟩]
     | yield=>exact absurd rfl (hf1 _)
   | yield l c hr =>
     cases h2 with
     | fn _ _ ys' _ vs' hf2=>exact absurd rfl (hf2 _)
     | yield _ c' hr' =>
       rw[hs l c hr]at hr';simp at hr';rw[hr']
 | .any,y,_,_,h,_,_=>by cases y<;>simp[cD]at h
 | .fs xs,.fs ys,x',y',h,h1,h2=>by
   simp only[cD]at h;rw[(tZ h1).1,(tZ h2).1,aCo xs ys h]
 | .fp ..,y,_,_,h,_,_=>by cases y<;>simp[cD]at h
 | .cs ..,y,_,_,h,_,_=>by cases y<;>simp[cD]at h
 | .ifc ..,y,_,_,h,_,_=>by cases y<;>simp[cD]at h
theorem pN{r':Nat→Option Nat}(hs:Sub r r'):∀(xs ys xs' ys':List AV),fO xs ys=true→RnL D Y r xs xs'→RnL D Y r' ys ys'→xs'=ys'
 | [],[],xs',ys',_,h1,h2=>by rw[h1.nil_inv,h2.nil_inv]
 | x::xs,y::ys,xs',ys',h,h1,h2=>by
   simp only[fO,A4]at h;obtain⟨x',xs2,rfl,k1,k2⟩:=h1.inv;obtain⟨y',ys2,rfl,k3,k4⟩:=h2.inv;rw[aOn hs x y x' y' h.1 k1 k3,pN hs xs ys xs2 ys2 h.2 k2 k4]
 | [],_::_,_,_,h,_,_=>by simp[fO]at h
 | _::_,[],_,_,h,_,_=>by simp[fO]at h
end
theorem aAc:∀{xs ys:List (AV×AV)},xs.map (·.1)=ys.map (·.1)→xs.map (·.2)=ys.map (·.2)→xs=ys
 | [],[],_,_=>rfl
 | [],_::_,h,_=>by simp at h
 | _::_,[],h,_=>by simp at h
 | (a,b)::xs,(c,d)::ys,h1,h2=>by
   simp only[F8,aD5]at h1 h2;rw[h1.1,h2.1,aAc h1.2 h2.2]
theorem aOl{x y:Option XB}(h:aOm x y=true):x=y:=by
 unfold aOm at h;split at h;·rfl
 ·simp only[A4,beq_iff_eq]at h
  grind [kJ]
 ·simp only[A4,beq_iff_eq]at h
  grind [aAc,kJ]
 ·simp only[A4,beq_iff_eq,AAf]at h
  grind [kJ]
 ·cases h
theorem aER:∀{xs ys:XH},aAD xs ys=true→xs=ys
 | [],[],_=>rfl
 | [],_::_,h=>by simp[aAD]at h
 | _::_,[],h=>by simp[aAD]at h
 | x::xs,y::ys,h=>by
   simp only[aAD,A4]at h;rw[aOl h.1,aER h.2]
theorem aHJ{res:List (Nat×Option (Bool×Nat))}{own:Bool}{k:Nat}{l:Option (List (DX×aH×XH))}{p:AV×XH}(h:aRV res own k l=some p):∃ l',l=some l'∧∀ q∈l',eX none res own k (some q)=some p:=by
 unfold aRV at h;split at h
 ·rename_i q l
  split at h
  ·rename_i p0 hp
   split at h
   ·rename_i hall
    simp only[oSI]at h;subst h;refine⟨_,rfl,fun q' hq'=>?_⟩;rcases B5.1 hq' with rfl|hq';·exact hp
    ·have:=H8.1 hall q' hq'
     unfold aTM at this;split at this
     ·rename_i q2 hq2
      simp only[A4]at this;rw[hq2];exact AAn some (Prod.ext (aHu _ _ this.1) (aER this.2)).symm
     ·simp at this
   ·simp at h
  ·simp at h
 ·simp at h
end
end Go.DL
