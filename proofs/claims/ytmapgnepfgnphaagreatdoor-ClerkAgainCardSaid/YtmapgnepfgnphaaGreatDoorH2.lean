/- Parts of a proof, joined: DlN DlO DlP DlQ DlR DlS DlT X0 X1 X2 X3 X4 X5 X6 X7 X8. No statement of the seed is proved here. -/
import Derived.RangeFuncNested
import Derived.Test.YtmapgnepfgnphaaGreatDoorH1
set_option linter.unusedSimpArgs false
set_option linter.unusedVariables false
set_option linter.unusedSectionVars false
namespace Go.DL
variable{P:Program}{B:Base}

def FinH(H:Hp):Prop:=∃ N,∀ b,N≤b→H b=none
theorem St.fin{F:Nat→Prop}{w:World}{H:Hp}(h:St F w H):FinH H:=⟨w.heap.size,fun b hb=>by
 cases hx:H b with
 | none=>rfl
 | some x=>exact absurd (h.own_lt hx) AM⟩
theorem FinH.hset{H:Hp}{b:Nat}{x:ABlk}(h:FinH H):FinH (hset H b x):=by
 obtain⟨N,h⟩:=h;exact⟨max N (b+1),fun c hc=>by rw[aJ _ _ AM];exact h c AM⟩


theorem CallV.conv{fv:AV}{as:List AV}{H1 H2:Hp}{Q1 Q2:AV→Hp→Prop}(h:CallV B P fv as H1 Q1)
 (hc:∀ F w,St F w H2→St F w H1∧∀ e w',uT F w H1 Q1 e w'→uT F w H2 Q2 e w'):CallV B P fv as H2 Q2:=by
 unfold CallV at *;split at h;·exact⟨h.1,fun F w vs h1 h2 h3=>(h.2 F w vs h1 (hc F w h2).1 h3).mono (hc F w h2).2⟩
 ·exact fun F w vs h1 h2 h3=>let ⟨fn,t,x,y,h4,h5⟩:=h F w vs h1 (hc F w h2).1 h3; ⟨fn,t,x,y,h4,h5.mono (hc F w h2).2⟩
 ·exact h.elim

theorem CallV.monoF{fv:AV}{as:List AV}{H:Hp}{Q Q':AV→Hp→Prop}(h:CallV B P fv as H Q)(hq:∀ v H',FinH H'→Q v H'→Q' v H'):CallV B P fv as H Q' :=
 h.conv fun F w st=>⟨st,fun e w' ⟨r,v,F',H',h1,h2,h3,h4,h5⟩=>⟨r,v,F',H',h1,h2,h3,h4,hq _ _ h3.fin h5⟩⟩

theorem CallV.frame{fv:AV}{as:List AV}{H:Hp}{Q:AV→Hp→Prop}{b:Nat}{z:ABlk}(h:CallV B P fv as H Q)(hb:H b=none) :
 CallV B P fv as (hset H b z) fun v H''=>∃ H',Q v H'∧H' b=none∧H''=hset H' b z:=by
 refine h.conv fun F w st=>?_;have st1:St F w H:=st.forget fun c x hc=>by rw[aJ _ _ (fun e=>by subst e;simp[hb]at hc)];exact hc
 refine⟨st1,?_⟩;rintro e w' ⟨r,v,F',H',rfl,h2,h3,h4,h5⟩;have hlt:b<w.heap.size:=st.own_lt (hset_same H b z);have hn:H' b=none:=by
  cases hx:H' b with
  | none=>rfl
  | some x =>
    rcases h2.hdom b (by simp[hx])with h6|h6;·simp[hb]at h6
    ·omega
 have hsame:w'.heap[b]?=w.heap[b]?:=h2.same b hlt (by simp[qV,hb]);have hnF:¬F' b:=fun hF=>by
  rcases h2.fnew b hF with h6|h6|h6;·exact st.dis b z (hset_same H b z) h6
  ·simp[hb]at h6
  ·omega
 refine⟨r,v,F',hset H' b z,rfl,?_,?_,h4,H',h5,hn,rfl⟩
 ·refine⟨h2.sub,fun c hc=>?_,fun c hc=>?_,fun c hc=>?_,h2.le,fun c hc hw=>?_,h2.cells,h2.io⟩
  ·rcases h2.fnew c hc with h6|h6|h6
   ·exact .inl h6
   ·refine .inr (.inl ?_)
    rw[aJ _ _ (fun e=>by subst e;simp[hb]at h6)];exact h6
   ·exact .inr (.inr h6)
  ·by_cases h6:c=b
   ·subst h6;left;simp
   ·rw[aJ _ _ h6]at hc ⊢;exact h2.hdom c hc
  ·by_cases h6:c=b
   ·subst h6;left;simpa [qV]using hc
   ·simp only[qV,aJ _ _ h6]at hc ⊢;exact h2.hnew c hc
  ·by_cases h6:c=b
   ·subst h6;exact hsame
   ·exact h2.same c hc (by simpa only[qV,aJ _ _ h6]using hw)
 ·refine⟨h3.lt,fun c x hc=>?_,fun c x hc=>?_⟩
  ·by_cases h6:c=b
   ·subst h6;exact hnF
   ·rw[aJ _ _ h6]at hc;exact h3.dis c x hc
  ·by_cases h6:c=b
   ·subst h6
    simp only[hset_same,oSI]at hc;subst hc;obtain⟨o,h7,h8⟩:=st.blk c z (hset_same H c z);exact⟨o,by rw[hsame];exact h7,h8.up (h2.up st1)⟩
   ·rw[aJ _ _ h6]at hc;exact h3.blk c x hc

theorem aBG(H:Hp)(b:Nat)(z:ABlk):iB (hset H b z)=hset (iB H) b z.ro:=by
 funext c;by_cases h:c=b;·subst h;simp[iB]
 ·simp[iB,aJ _ _ h]

theorem CallV.quiet{fv:AV}{as:List AV}{H H2:Hp}{v:AV}(h:CallV B P fv as (iB H) fun v' H'=>v'=v∧H'=iB H)
 (hd:∀ b,(iB H b).isSome=true→(H2 b).isSome=true) (hs:∀ F w,St F w (iB H2)→St F w (iB H)):CallV B P fv as (iB H2) fun v' H'=>v'=v∧H'=iB H2:=by
 refine h.conv fun F w st=>⟨hs F w st,?_⟩;rintro e w' ⟨r,v,F',H',rfl,h2,h3,h4,rfl,rfl⟩;have hsame:∀ b,b<w.heap.size→w'.heap[b]?=w.heap[b]?:=fun b hb=>h2.same b hb (aHr H b);have hd2:∀ b,(iB H2 b).isSome=(H2 b).isSome:=fun b=>by unfold iB;cases H2 b<;>rfl
 refine⟨r,_,F',iB H2,rfl,?_,?_,h4,rfl,rfl⟩
 ·refine⟨h2.sub,fun b hb=>?_,fun b hb=>.inl hb,fun b hb=>.inl hb,h2.le,fun b hb _=>hsame b hb,h2.cells,h2.io⟩
  rcases h2.fnew b hb with h6|h6|h6;·exact .inl h6
  ·exact .inr (.inl (by rw[hd2];exact hd b h6))
  ·exact .inr (.inr h6)
 ·refine⟨h3.lt,fun b x hb hF=>?_,fun b x hb=>?_⟩
  ·rcases h2.fnew b hF with h6|h6|h6
   ·exact st.dis b x hb h6
   ·obtain⟨y,hy⟩:=C5.1 h6
    exact h3.dis b y hy hF
   ·exact absurd (st.own_lt hb) AM
  ·obtain⟨o,h7,h8⟩:=st.blk b x hb
   exact⟨o,by rw[hsame b (st.own_lt hb)];exact h7,h8.up (h2.up (hs F w st))⟩

theorem CallV.quiet_fresh{fv:AV}{as:List AV}{H:Hp}{v:AV}{b:Nat}{z:ABlk}(h:CallV B P fv as (iB H) fun v' H'=>v'=v∧H'=iB H)(hb:H b=none) :
 CallV B P fv as (iB (hset H b z)) fun v' H'=>v'=v∧H'=iB (hset H b z):=by
 have hne:∀ c,(iB H c).isSome=true→c≠b:=fun c hc e=>by subst e;simp[iB,hb]at hc
 refine h.quiet (fun c hc=>?_) fun F w st=>st.forget fun c x hc=>?_
 ·rw[aJ _ _ (hne c hc)]
  unfold iB at hc;cases hx:H c with
  | none=>simp[hx]at hc
  | some y=>rfl
 ·rw[aBG,aJ _ _ (hne c (by simp[hc]))];exact hc

theorem CallV.quiet_grow{fv:AV}{as:List AV}{H:Hp}{v:AV}{b:Nat}{cs new:List AV}(h:CallV B P fv as (iB H) fun v' H'=>v'=v∧H'=iB H)(hb:H b=some (.cells true cs)) :
 CallV B P fv as (iB (hset H b (.cells true (cs++new)))) fun v' H'=>v'=v∧H'=iB (hset H b (.cells true (cs++new))):=by
 refine h.quiet (fun c hc=>?_) fun F w st=>⟨st.lt,fun c x hc=>?_,fun c x hc=>?_⟩
 ·by_cases h1:c=b
  ·subst h1;simp
  ·rw[aJ _ _ h1]
   unfold iB at hc;cases hx:H c with
   | none=>simp[hx]at hc
   | some y=>rfl
 ·rw[aBG]at st
  by_cases h1:c=b;·subst h1;exact st.dis c _ (hset_same _ _ _)
  ·exact st.dis c x (by rw[aJ _ _ h1];exact hc)
 ·rw[aBG]at st
  by_cases h1:c=b
  ·subst h1
   obtain⟨o,h2,h3⟩:=st.blk c _ (hset_same _ _ _);simp only[iB,hb,C3,ABlk.ro,oSI]at hc;subst hc;refine⟨o,h2,?_⟩;cases h3 with
   | cells p ds c e fr hfr hl ho hr =>
     refine .cells _ _ _ _ _ hfr (by simp at hl;omega) ho fun i a v hi hv=>hr i a v ?_ hv;rw[F9 (A2.1 hi).1,hi]
  ·exact st.blk c x (by rw[aJ _ _ h1];exact hc)


theorem aIv{d:Option Nat}{e:Eff}{K K':aH→Hp→Prop}{env:aH}{H:Hp}(hf:FinH H)(hk:∀ u H',FinH H'→K (aW env d u) H'→K' (aW env d u) H')(h:gH d e K env H):gH d e K' env H:=by
 cases e with
 | val v=>exact hk _ _ hf h
 | new own x f=>exact fun b hb=>hk _ _ hf.hset (h b hb)

theorem nP{ix j:Nat}{op:DOp}{env:aH}{L:wQ}(h:j≠ix):eM ix op env L j=L j:=by
 cases op<;>first|rfl|simp[eM,h]

theorem aHA{n:Nat}{H H':Hp}{p x:AV}(hf:FinH H)(h:nZ n H p x=some H'):FinH H':=by
 unfold nZ at h;split at h
 ·split at h
  ·split at h<;>simp at h;subst h;exact hf.hset
  ·simp at h
 ·simp at h
theorem aHZ{q:Bool}{H H':Hp}{m k x:AV}(hf:FinH H)(h:vV q H m k x=some H'):FinH H':=by
 unfold vV at h;split at h
 ·split at h
  ·simp only[A0]at h;obtain⟨_,_,rfl⟩:=h;exact hf.hset
  ·simp at h
 ·simp at h
theorem aNy{H:Hp}{x:AV}{r:AV×Hp}(hf:FinH H)(h:aGw H x=some r):FinH r.2:=by
 unfold aGw at h;split at h
 ·split at h
  ·split at h<;>simp at h<;>subst h
   ·exact hf.hset
   ·exact hf
  ·simp at h
 ·simp at h
theorem aLi{s:Nat}{H:Hp}{x y:AV}{r:Nat×Hp}(hf:FinH H)(h:aCI s H x y=some r):FinH r.2:=by
 unfold aCI at h;split at h
 ·split at h
  ·split at h<;>simp at h;subst h;exact hf.hset
  ·simp at h
 ·simp at h

theorem mV{α:Type}{o:Option α}{k k':α→Prop}(h:∀ x,o=some x→k x→k' x)(ho:lT o k):lT o k':=by
 cases o with
 | none=>exact ho
 | some x=>exact h x rfl ho

theorem kK{ix:Nat}{d:Option Nat}{op:DOp}{K K':KL}{env:aH}{H:Hp}{L:wQ}(hf:FinH H)
 (hk:∀ u H' L',FinH H'→(∀ j,j≠ix→L' j=L j)→K (aW env d u) H' L'→K' (aW env d u) H' L') (h:aX B P ix d op K env H L):aX B P ix d op K' env H L:=by
 cases op
 case store n p x l=>exact⟨h.1,mV (fun H' he=>hk _ _ _ (aHA hf he) fun _ _=>rfl) h.2⟩
 case copy s x y=>exact mV (fun r he=>hk _ _ _ (aLi hf he) fun _ _=>rfl) h
 case mapup q m k x=>exact mV (fun H' he=>hk _ _ _ (aHZ hf he) fun _ _=>rfl) h
 case nxts x=>exact mV (fun r he=>hk _ _ _ (aNy hf he) fun _ _=>rfl) h
 case callf q f xs l =>
  cases q with
  | true=>obtain⟨v,h1,h2⟩:=h;exact⟨v,h1,hk _ _ _ hf (fun _ _=>rfl) h2⟩
  | false=>exact CallV.monoF h fun v H' hf' hq=>⟨hq.1,hk _ _ _ hf' (fun _ _=>rfl) hq.2⟩
 all_goals
  rw[cQ rfl]at h ⊢;exact cV (fun e=>aIv hf fun u H' hf'=>hk _ _ _ hf' fun j hj=>nP hj) h

theorem aNu{o:DOper}{K K':KL}{env:aH}{H:Hp}{L:wQ}(hf:FinH H)
 (hk:∀ e H' L',FinH H'→(∀ j,j≠o.ix→L' j=L j)→K e H' L'→K' e H' L') (h:opD B P o K env H L):opD B P o K' env H L :=
 cV (fun g=>kK hf fun u H' L'=>hk _ _ _) h

def aAP(op:DOp):Bool:=match op with
 | .callf false .. => true
 | _=>false

theorem aAt{ix:Nat}{d:Option Nat}{op:DOp}{env:aH}{H:Hp}{L:wQ}(hf:FinH H)(hc:aAP op=false)(h:aX B P ix d op (fun _ _ _=>False) env H L):False:=by
 have ow:∀{α:Type}{o:Option α},lT o (fun _=>False)→False:=fun {α o} h=>by cases o<;>exact h
 cases op
 case store n p x l=>exact ow h.2
 case copy s x y=>exact ow h
 case mapup q m k x=>exact ow h
 case nxts x=>exact ow h
 case callf q f xs l =>
  cases q with
  | true=>obtain⟨v,h1,h2⟩:=h;exact h2
  | false=>simp[aAP]at hc
 all_goals
  rw[cQ rfl,dJ]at h;obtain⟨e,_,h⟩:=h;cases e with
  | val v=>exact h
  | new own x f=>obtain⟨N,hf⟩:=hf;exact h N (.inl (hf N (A8 _)))


section
variable{ix iy:Nat}{dx dy:Option Nat}{opx opy:DOp}{K:KL}{env:aH}{H:Hp}{L:wQ}

theorem qC{op:DOp}{b:Nat}{own:Option Nat}{x:ABlk}{f:Nat→AV}{e:Eff}{op':DOp}(hn:aD op' env H=some (.new own x f))(h3:¬(op.kind=3∧op'.kind=3))
 (hb:H b=none∨own=some b) (h:aD op env H=some e):aD op env (hset H b x)=some e:=by
 rcases hb with hb|rfl;·exact aGY hb h
 ·obtain⟨hk,cs,new,h1,rfl⟩:=mL hn
  exact aIu h1 (fun h=>h3 ⟨h,hk⟩) h

theorem aTa(hf:FinH H)(hqx:opx.isQ=true)(hqy:opy.isQ=true)(h3:¬(opy.kind=3∧opx.kind=3))(hne:ix≠iy)
 (a1:∀ k,dx=some k→k∉opy.sees) (a2:∀ k,dy=some k→k∉opx.sees) (a3:∀ k,dx=some k→dy≠some k)
 (h:aX B P ix dx opx (aX B P iy dy opy K) env H L):aX B P iy dy opy (aX B P ix dx opx K) env H L:=by
 have key:∀(e:aH)(h':Hp)(L':wQ),aX B P iy dy opy K e h' L'=lT (aD opy e h') fun e'=>gH dy e' (fun e'' h=>K e'' h (eM iy opy e L')) e h':=fun e h' L'=>cQ hqy;have key':∀(e:aH)(h':Hp)(L':wQ),aX B P ix dx opx K e h' L'=lT (aD opx e h') fun e'=>gH dx e' (fun e'' h=>K e'' h (eM ix opx e L')) e h':=fun e h' L'=>cQ hqx;rw[cQ hqx,dJ]at h;obtain⟨ex,hex,h⟩:=h;rw[cQ hqy];cases ex with
 | val v =>
   simp only[gH,key,dN a1,eV a1]at h;rw[dJ]at h;obtain⟨ey,hey,h⟩:=h;rw[hey,optW_some];cases ey with
   | val u =>
     simp only[gH,key',dN a2,eV a2,hex,optW_some]at h ⊢;rw[fN a3,pX hne]at *;exact h
   | new own z f =>
     simp only[gH,key',dN a2,eV a2]at h ⊢;intro b hb;rw[qC hey (fun h=>h3 ⟨h.2,h.1⟩) hb hex,optW_some];have:=h b hb;rw[fN a3,pX (Ne.symm hne)]at this;exact this
 | new own z f =>
   simp only[gH,key,dN a1,eV a1]at h;obtain⟨ey,hey⟩:∃ ey,aD opy env H=some ey:=by
    obtain⟨N,hN⟩:=hf;have h1:=h (N+(rdB opy env).sum+1) (.inl (hN _ AM));rw[aLd AM,dJ]at h1;exact⟨_,h1.choose_spec.1⟩
   rw[hey,optW_some];have h':∀ b,(H b=none∨own=some b)→gH dy ey (fun e'' h=>K e'' h (eM iy opy env (eM ix opx env L))) (aW env dx (f b)) (hset H b z):=fun b hb=>by
    have:=h b hb;rwa [qC hex h3 hb hey,optW_some]at this
   cases ey with
   | val u =>
     simp only[gH,key',dN a2,eV a2,hex,optW_some]at h' ⊢;intro b hb;have:=h' b hb;rw[fN a3,pX (Ne.symm hne)]at this;exact this
   | new own' z' f' =>
     simp only[gH,key',dN a2,eV a2]at h' ⊢;intro c hc;rw[qC hey (fun h=>h3 ⟨h.2,h.1⟩) hc hex,optW_some];intro b hb;have hown:∀ j,own=some j→H j≠none:=fun j hj=>by
      subst hj;obtain⟨_,cs,new,h1,_⟩:=mL hex;simp[h1]
     have hown':∀ j,own'=some j→H j≠none:=fun j hj=>by
      subst hj;obtain⟨_,cs,new,h1,_⟩:=mL hey;simp[h1]
     have hbc:b≠c:=by
      rintro rfl;rcases hb with hb|hb;·simp at hb
      ·rcases hc with hc|hc
       ·exact hown _ hb hc
       ·subst hb hc
        exact h3 ⟨(mL hey).1,(mL hex).1⟩
     have hb':H b=none∨own=some b:=by rwa [aJ _ _ hbc]at hb
     have:=h' b hb' c (by rwa [aJ _ _ (Ne.symm hbc)]);rw[fN a3,pX (Ne.symm hne),aKQ hbc]at this;exact this


theorem pW{op:DOp}{e:aH}(h:op.kind≠1):eM ix op e L=L:=by
 cases op<;>first|rfl|simp[DOp.kind]at h

theorem lH{op:DOp}(h:op.kind≤3∨op.kind=7):op.isQ=true:=by
 cases op<;>first|rfl|skip
 case callf q f xs l=>cases q<;>simp[DOp.kind]at h
 all_goals simp[DOp.kind]at h

theorem sY{op:DOp}{H':Hp}(h:op.kind=0):aD op env H=aD op env H':=by
 cases op<;>first|rfl|simp[DOp.kind]at h

theorem aAs{op:DOp}(h:op.kind=7):∃ z f,∀ env H,aD op env H=some (.new none z f):=by
 cases op<;>simp[DOp.kind]at h
 case alloc z=>exact⟨_,_,fun _ _=>rfl⟩
 case mkmap=>exact⟨_,_,fun _ _=>rfl⟩
 case allocb=>exact⟨_,_,fun _ _=>rfl⟩
 case callf q f xs l=>cases q<;>simp at h

theorem aVR(hf:FinH H)(hk:opx.kind=0)
 (a1:∀ k,dx=some k→k∉opy.sees) (a2:∀ k,dy=some k→k∉opx.sees) (a3:∀ k,dx=some k→dy≠some k)
 (h:aX B P ix dx opx (aX B P iy dy opy K) env H L):aX B P iy dy opy (aX B P ix dx opx K) env H L:=by
 have hq:=lH (op:=opx) AM;rw[cQ hq,dJ]at h;obtain⟨ex,hex,h⟩:=h;obtain⟨v,rfl⟩:=pC AM hex;simp only[gH,pW (op:=opx) (by omega:opx.kind≠1)]at h;rw[qF a1 (fun k hk'=>a3 k hk')]at h;refine kK hf (fun u H' L' _ _ hK=>?_) h;rw[cQ hq,dN a2,sY (H':=H) hk,hex,optW_some];simp only[gH,pW (op:=opx) (by omega:opx.kind≠1)];exact hK

theorem aTb(hf:FinH H)(hk:opy.kind=0)(hc:aAP opx=false)
 (a1:∀ k,dx=some k→k∉opy.sees) (a2:∀ k,dy=some k→k∉opx.sees) (a3:∀ k,dx=some k→dy≠some k)
 (h:aX B P ix dx opx (aX B P iy dy opy K) env H L):aX B P iy dy opy (aX B P ix dx opx K) env H L:=by
 have hq:=lH (op:=opy) AM;have hl:∀ e,eM iy opy e=id:=fun e=>by funext l;exact pW AM
 cases hey:aD opy env H with
 | none =>
   refine(aAt (L:=L) hf hc (kK hf (fun u H' L' _ _ hK=>?_) h)).elim;rw[cQ hq,dN a1,sY (H':=H) hk,hey]at hK;exact hK
 | some ey =>
   obtain⟨v,rfl⟩:=pC AM hey;rw[cQ hq,hey,optW_some];simp only[gH,hl,id];rw[qF a2 (fun k hk' e=>a3 k e hk')];refine kK hf (fun u H' L' _ _ hK=>?_) h;rw[cQ hq,dN a1,sY (H':=H) hk,hey,optW_some]at hK;simp only[gH,hl,id]at hK;exact hK

theorem jB{f:AO}{xs:List AO}{l:List Nat}:aX B P ix dx (.callf true f xs l) K env H L =
 ∃ v,CallV B P (aK env f) (xs.map (aK env)) (iB H) (fun v' H'=>v'=v∧H'=iB H)∧K (aW env dx v) H L:=rfl

theorem dX{k:Option Nat}{v:AV}{q:Bool}{f:AO}{xs:List AO}{l:List Nat}(h:∀ j,k=some j→j∉(DOp.callf q f xs l).sees) :
 aK (aW env k v) f=aK env f∧xs.map (aK (aW env k v))=xs.map (aK env):=by
 cases k with
 | none=>exact⟨rfl,rfl⟩
 | some j =>
   have:=h j rfl;simp only[DOp.sees,A9,not_or]at this;exact⟨dE this.1,yB this.2⟩

theorem aHx{f:AO}{xs:List AO}{l:List Nat}(hqy:opy.isQ=true)
 (a1:∀ k,dx=some k→k∉opy.sees) (a2:∀ k,dy=some k→k∉(DOp.callf true f xs l).sees) (a3:∀ k,dx=some k→dy≠some k)
 (h:aX B P ix dx (.callf true f xs l) (aX B P iy dy opy K) env H L):aX B P iy dy opy (aX B P ix dx (.callf true f xs l) K) env H L:=by
 rw[jB]at h;obtain⟨v,h1,h⟩:=h;rw[cQ hqy,dN a1,eV a1,dJ]at h;obtain⟨ey,hey,h⟩:=h;rw[cQ hqy,hey,optW_some];cases ey with
 | val u =>
   simp only[gH,jB,(dX a2).1,(dX a2).2]at h ⊢;exact⟨v,h1,by rw[←fN a3];exact h⟩
 | new own z g =>
   simp only[gH,jB,(dX a2).1,(dX a2).2]at h ⊢;intro b hb;refine⟨v,?_,by rw[←fN a3];exact h b hb⟩;rcases hb with hb|rfl;·exact h1.quiet_fresh hb
   ·obtain⟨_,cs,new,h2,rfl⟩:=mL hey
    exact h1.quiet_grow h2

theorem aHy{f:AO}{xs:List AO}{l:List Nat}(hk:opx.kind=1)
 (a1:∀ k,dx=some k→k∉(DOp.callf true f xs l).sees) (a2:∀ k,dy=some k→k∉opx.sees) (a3:∀ k,dx=some k→dy≠some k)
 (h:aX B P ix dx opx (aX B P iy dy (.callf true f xs l) K) env H L):aX B P iy dy (.callf true f xs l) (aX B P ix dx opx K) env H L:=by
 have hq:=lH (op:=opx) AM;rw[cQ hq,dJ]at h;obtain⟨ex,hex,h⟩:=h;obtain⟨v,rfl⟩:=pC AM hex;simp only[gH,jB,(dX a1).1,(dX a1).2]at h;obtain⟨u,h1,h⟩:=h;rw[jB];refine⟨u,h1,?_⟩;rw[cQ hq,dN a2,eV a2,hex,optW_some];simp only[gH];rw[←fN a3];exact h

theorem aBd{f g:AO}{xs ys:List AO}{l m:List Nat}
 (a1:∀ k,dx=some k→k∉(DOp.callf true g ys m).sees) (a2:∀ k,dy=some k→k∉(DOp.callf true f xs l).sees) (a3:∀ k,dx=some k→dy≠some k)
 (h:aX B P ix dx (.callf true f xs l) (aX B P iy dy (.callf true g ys m) K) env H L):aX B P iy dy (.callf true g ys m) (aX B P ix dx (.callf true f xs l) K) env H L:=by
 simp only[jB,(dX a1).1,(dX a1).2,(dX a2).1,(dX a2).2]at h ⊢;obtain⟨v,h1,u,h2,h⟩:=h;exact⟨u,h2,v,h1,by rw[←fN a3];exact h⟩

theorem aKs{f:AO}{xs:List AO}{l:List Nat}(hk:opy.kind=7)
 (a2:∀ k,dy=some k→k∉(DOp.callf false f xs l).sees) (a3:∀ k,dx=some k→dy≠some k)
 (h:aX B P ix dx (.callf false f xs l) (aX B P iy dy opy K) env H L):aX B P iy dy opy (aX B P ix dx (.callf false f xs l) K) env H L:=by
 have hq:=lH (op:=opy) AM;have hl:∀ e,eM iy opy e=id:=fun e=>by funext l;exact pW AM
 obtain⟨z,g,hg⟩:=aAs hk;rw[cQ hq,hg,optW_some];simp only[gH,hl,id,AAi,reduceCtorEq];intro b hb;show CallV B P (aK (aW env dy (g b)) f) (xs.map (aK (aW env dy (g b)))) (hset H b z) _;rw[(dX a2).1,(dX a2).2];refine CallV.mono (CallV.frame h hb) ?_;rintro v H'' ⟨H',⟨h1,h2⟩,hn,rfl⟩;refine⟨fun j hj c hc=>?_,?_⟩
 ·by_cases h5:c=b
  ·subst h5;simp
  ·rw[aJ _ _ h5,aJ _ _ h5];exact h1 j hj c hc
 ·rw[cQ hq,hg,optW_some]at h2
  simp only[gH,hl,id,AAi,reduceCtorEq]at h2;rw[←fN a3];exact h2 b hn

theorem aCZ{g:Bool}{n m:Nat}{a p x:AO}{l:List Nat}(hl:ix∈l)(hL:L ix=none)
 (a1:∀ k,dx=some k→k∉(DOp.store m p x l).sees) (a2:∀ k,dy=some k→k∉(DOp.load g n a).sees) (a3:∀ k,dx=some k→dy≠some k)
 (h:aX B P ix dx (.load g n a) (aX B P iy dy (.store m p x l) K) env H L):aX B P iy dy (.store m p x l) (aX B P ix dx (.load g n a) K) env H L:=by
 rw[cQ rfl,dJ]at h;obtain⟨ex,hex,h⟩:=h;obtain⟨v,rfl⟩:=pC (by simp[DOp.kind]) hex;simp only[gH]at h;rw[qF a1 (fun k hk=>a3 k hk)]at h;obtain⟨h1,h2⟩:=h;refine⟨fun j hj c hc=>h1 j hj c ?_,mV (fun H' he hK=>?_) h2⟩
 ·by_cases hji:j=ix
  ·subst hji;rw[hL]at hc;cases hc
  ·rw[nP hji];exact hc
 ·show aX B P ix dx (.load g n a) K (aW env dy .any) H' L
  rw[cQ rfl,dN a2,eV a2];have:aD (.load g n a) env H'=aD (.load g n a) env H:=by
   refine lM fun b hb=>?_;simp only[rdB,aE8]at hb;have hb2:=h1 ix hl b (by simp[eM,hb]);unfold nZ at he;split at he
   ·rename_i c o hp
    split at he
    ·split at he
     ·simp only[oSI]at he
      subst he;refine aJ _ _ fun e=>hb2 ?_;rw[hp,e];rfl
     ·simp at he
    ·simp at he
   ·simp at he
  rw[this,hex,optW_some];simp only[gH];exact hK

theorem aEB{g:Bool}{n:Nat}{a f:AO}{xs:List AO}{l:List Nat}(hl:ix∈l)(hL:L ix=none)
 (a1:∀ k,dx=some k→k∉(DOp.callf false f xs l).sees) (a2:∀ k,dy=some k→k∉(DOp.load g n a).sees) (a3:∀ k,dx=some k→dy≠some k)
 (h:aX B P ix dx (.load g n a) (aX B P iy dy (.callf false f xs l) K) env H L):aX B P iy dy (.callf false f xs l) (aX B P ix dx (.load g n a) K) env H L:=by
 rw[cQ rfl,dJ]at h;obtain⟨ex,hex,h⟩:=h;obtain⟨v,rfl⟩:=pC (by simp[DOp.kind]) hex;simp only[gH]at h;rw[qF a1 (fun k hk=>a3 k hk)]at h;refine CallV.mono h fun u H' ⟨h1,hK⟩=>⟨fun j hj c hc=>h1 j hj c ?_,?_⟩
 ·by_cases hji:j=ix
  ·subst hji;rw[hL]at hc;cases hc
  ·rw[nP hji];exact hc
 ·show aX B P ix dx (.load g n a) K (aW env dy u) H' L
  rw[cQ rfl,dN a2,eV a2];have:aD (.load g n a) env H'=aD (.load g n a) env H:=by
   refine lM fun b hb=>?_;simp only[rdB,aE8]at hb;exact h1 ix hl b (by simp[eM,hb])
  rw[this,hex,optW_some];simp only[gH];exact hK
end


section
variable{ix iy:Nat}{dx dy:Option Nat}{opx opy:DOp}{K:KL}{env:aH}{H:Hp}{L:wQ}

def aAa(ix:Nat)(x y:DOp):Bool :=
 match x,y with
 | .load ..,.store _ _ _ l=>l.contains ix
 | .load ..,.callf false _ _ l=>l.contains ix
 | _,_=>false

theorem aCi(op:DOp):op.kind≤7:=by
 cases op<;>simp[DOp.kind]
 case callf q f xs l=>cases q<;>simp

theorem aNN{op:DOp}(h:op.kind=4):∃ f xs l,op = .callf true f xs l:=by
 cases op<;>simp[DOp.kind]at h
 case callf q f xs l=>cases q<;>simp at h;exact⟨_,_,_,rfl⟩
theorem aWP{op:DOp}(h:op.kind=6):∃ f xs l,op = .callf false f xs l:=by
 cases op<;>simp[DOp.kind]at h
 case callf q f xs l=>cases q<;>simp at h;exact⟨_,_,_,rfl⟩
theorem aCP{op:DOp}(h:op.kind≠6):aAP op=false:=by
 cases op<;>first|rfl|skip
 case callf q f xs l=>cases q<;>first|rfl|simp[DOp.kind]at h

theorem aMe(hf:FinH H)(hok:(jS opx.kind opy.kind||aAa ix opx opy)=true)(hL:L ix=none)(hne:ix≠iy)
 (a1:∀ k,dx=some k→k∉opy.sees) (a2:∀ k,dy=some k→k∉opx.sees) (a3:∀ k,dx=some k→dy≠some k)
 (h:aX B P ix dx opx (aX B P iy dy opy K) env H L):aX B P iy dy opy (aX B P ix dx opx K) env H L:=by
 by_cases hx0:opx.kind=0;·exact aVR hf hx0 a1 a2 a3 h
 by_cases hk:jS opx.kind opy.kind=true
 ·have l1:=aCi opx
  have l2:=aCi opy
  have qq:(opx.kind≤3∨opx.kind=7)→(opy.kind≤3∨opy.kind=7)→¬(opy.kind=3∧opx.kind=3)→aX B P iy dy opy (aX B P ix dx opx K) env H L :=
   fun h1 h2 h3=>aTa hf (lH h1) (lH h2) h3 hne a1 a2 a3 h
  by_cases hx6:opx.kind=6
  ·obtain⟨f,xs,l,rfl⟩:=aWP hx6
   have hy:opy.kind=7:=by simpa [hx6,jS]using hk
   exact aKs hy a2 a3 h
  by_cases hx5:opx.kind=5
  ·have hy:opy.kind=0:=by simpa [hx5,jS]using hk
   exact aTb hf hy (aCP hx6) a1 a2 a3 h
  by_cases hx4:opx.kind=4
  ·obtain⟨f,xs,l,rfl⟩:=aNN hx4
   have hy:opy.kind≤4∨opy.kind=7:=by simpa [hx4,jS]using hk
   by_cases hy4:opy.kind=4
   ·obtain⟨g,ys,m,rfl⟩:=aNN hy4
    exact aBd a1 a2 a3 h
   ·exact aHx (lH AM) a1 a2 a3 h
  by_cases hx1:opx.kind=1
  ·have hy:opy.kind≤4∨opy.kind=7:=by simpa [hx1,jS]using hk
   by_cases hy4:opy.kind=4
   ·obtain⟨g,ys,m,rfl⟩:=aNN hy4
    exact aHy hx1 a1 a2 a3 h
   ·exact qq AM AM AM
  by_cases hx3:opx.kind=3
  ·have hy:opy.kind≤2∨opy.kind=7:=by simpa [hx3,jS]using hk
   exact qq AM AM AM
  ·have hy:opy.kind≤3∨opy.kind=7:=by
    have:opx.kind=2∨opx.kind=7:=AM
    rcases this with h1|h1<;>simpa [h1,jS]using hk
   exact qq AM AM AM
 ·have ha:aAa ix opx opy=true:=by simpa [hk]using hok
  unfold aAa at ha;split at ha;·exact aCZ (by simpa using ha) hL a1 a2 a3 h
  ·exact aEB (by simpa using ha) hL a1 a2 a3 h
  ·simp at ha
end

theorem aCC{g:Bool}{op:DOp}{k:Nat}(h:k∉op.sees):k∉(aCE g op).sees:=by
 cases g with
 | true=>exact h
 | false=>exact G6

theorem aCD{g:Bool}{op:DOp}:(aCE g op).kind=if g then op.kind else 0:=by cases g<;>rfl

theorem aVQ{x y:DOper}{K:KL}{env:aH}{H:Hp}{L:wQ}(hf:FinH H)(hok:nY x y=true)(hL:L x.ix=none)(hne:x.ix≠y.ix)
 (h:opD B P x (opD B P y K) env H L):opD B P y (opD B P x K) env H L:=by
 unfold nY aOY at hok;simp only[A3]at hok;obtain⟨⟨hk,hA1,hA2⟩,h6⟩:=hok;have b1:∀ k,x.dst=some k→k∉y.sees∧y.dst≠some k:=fun k hk=>by
  rw[hk]at hA1;simpa using hA1
 have b2:∀ k,y.dst=some k→k∉x.sees:=fun k hk=>by
  rw[hk]at hA2;simpa using hA2
 have s1:∀(o:DOper) k,k∉o.sees→k∉o.op.sees:=fun o k h hk=>h (H8 _ hk);unfold opD at h ⊢;rw[dJ]at h;obtain⟨gx,hgx,h⟩:=h
 have h':aX B P x.ix x.dst (aCE gx x.op) (fun e h l=>lT (gd y env) fun g=>aX B P y.ix y.dst (aCE g y.op) K e h l) env H L :=
  kK hf (fun u H' L' _ _ hK=>by simpa only[opD,aJI fun k hk=>(b1 k hk).1]using hK) h
 cases hgy:gd y env with
 | none =>
   simp only[hgy,optW_none]at h';refine(aAt hf ?_ h').elim;cases gx with
   | false=>rfl
   | true =>
     refine aCP fun h7=>?_;have hy:y.guard=none:=by simpa [show x.op.kind=6 from h7]using h6
     simp[gd,hy]at hgy
 | some gy =>
   simp only[hgy,optW_some]at h' ⊢;refine kK hf (fun u H' L' _ _ hK=>?_) (aMe hf ?_ hL hne (fun k hk=>aCC (s1 _ _ (b1 k hk).1)) (fun k hk=>aCC (s1 _ _ (b2 k hk))) (fun k hk=>(b1 k hk).2) h');·simp only[opD,aJI b2,hgx,optW_some];exact hK
   ·cases gx with
    | false=>simp[aCD,jS]
    | true =>
      cases gy with
      | true=>exact hk
      | false =>
        have l1:=aCi x.op;have:x.op.kind≠6:=fun h7=>by
         have hy:y.guard=none:=by simpa [h7]using h6
         simp[gd,hy]at hgy
        simp only[aCD,AAe,M4];left;have:x.op.kind=0∨x.op.kind=1∨x.op.kind=2∨x.op.kind=3∨x.op.kind=4∨x.op.kind=5∨x.op.kind=7:=AM
        rcases this with h|h|h|h|h|h|h<;>simp[h,jS]

theorem aWd{y:DOper}{post:List DOper}{K:aH→Hp→Prop}:∀(pre:List DOper)(env:aH)(H:Hp)(L:wQ),FinH H→(∀ x∈pre,nY x y=true) →
 ((pre++y::post).map (·.ix)).Nodup→(∀ o∈pre++y::post,L o.ix=none)→RD B P (pre++y::post) K env H L→opD B P y (RD B P (pre++post) K) env H L:=by
 intro pre;induction pre with
 | nil=>intro env H L _ _ _ _ h;exact h
 | cons x pre ih =>
   intro env H L hf hs hnd hL h;simp only[J9,D7,I8]at hnd;refine aVQ hf (hs x (by simp)) (hL x (by simp)) (fun e=>hnd.1 (by simp[e])) ?_;refine aNu hf (fun e H' L' hf' hl hK=>ih e H' L' hf' (fun z hz=>hs z (by simp[hz])) hnd.2 (fun o ho=>?_) hK) h;rw[hl _ fun e=>hnd.1 (by rw[←e];exact O5 ho)];exact hL o (by simp only[J9,B3];exact .inr ho)

theorem aJv{o:DOper}{K:KL}{env:aH}{H:Hp}{L:wQ}(h:opD B P o K env H L):opW B P o (fun e h=>∃ L',(∀ j,j≠o.ix→L' j=L j)∧K e h L') env H:=by
 unfold opD at h;rw[dJ]at h;obtain⟨g,hg,h⟩:=h;unfold opW;rw[hg];cases g with
 | false =>
   simp only;have:aX B P o.ix o.dst (.mv (.c (.tup []))) K env H L:=h;rw[cQ rfl]at this;exact⟨L,fun _ _=>rfl,this⟩
 | true =>
   simp only;have h:aX B P o.ix o.dst o.op K env H L:=h;revert h;generalize o.op=op;intro h;cases op
   case store n p x l=>exact cV (fun H' hK=>⟨L,fun _ _=>rfl,hK⟩) h.2
   case copy s x y=>exact cV (fun r hK=>⟨L,fun _ _=>rfl,hK⟩) h
   case mapup q m k x=>exact cV (fun r hK=>⟨L,fun _ _=>rfl,hK⟩) h
   case nxts x=>exact cV (fun r hK=>⟨L,fun _ _=>rfl,hK⟩) h
   case callf q f xs l =>
    cases q with
    | true=>obtain⟨v,h1,h2⟩:=h;exact⟨v,h1,L,fun _ _=>rfl,h2⟩
    | false=>exact CallV.mono h fun v H' hq=>⟨L,fun _ _=>rfl,hq.2⟩
   all_goals
    rw[cQ rfl]at h;rw[qE rfl];exact cV (fun e=>aEh fun e' h' hK=>⟨_,fun j hj=>nP hj,hK⟩) h

variable{P:Program}{B:Base}{F:Nat→Prop}{w:World}{H:Hp}{env:aH}{a:Act}

theorem zM{α β:Type}{f:α→Option β}:∀{l:List α}{r:List β},l.mapM f=some r→r.length=l.length∧∀(i:Nat)(y:β),r[i]?=some y→∃ x,l[i]?=some x∧f x=some y:=by
 intro l;induction l with
 | nil=>intro r h;simp at h;subst h;simp
 | cons x l ih =>
   intro r h;rw[aB2]at h;cases hx:f x with
   | none=>rw[hx]at h;simp at h
   | some y =>
     rw[hx]at h;cases hl:l.mapM f with
     | none=>rw[hl]at h;simp at h
     | some ys =>
       rw[hl]at h;simp at h;subst h;obtain⟨h1,h2⟩:=ih hl;refine⟨by simp[h1],fun i z hz=>?_⟩;cases i with
       | zero=>simp at hz;subst hz;exact⟨x,rfl,hx⟩
       | succ i=>exact h2 i z (by simpa using hz)

theorem nT{ops:Array Oper}{i:Nat}{o:Oper}{d:DOper}(ho:ops[i]?=some o)(h:aEk P ops o=some d):Reads P ops i d:=by
 unfold aEk at h;split at h;·simp at h
 ·rename_i hnd
  refine⟨o,ho,?_⟩;split at h
  ·rename_i hg
   simp only[oSI]at h;subst h;exact⟨rfl,by simp[hg],.inl rfl,hnd⟩
  ·rename_i j want hg
   split at h
   ·rename_i t ht
    simp only[oSI]at h;subst h;exact⟨rfl,by simp only[hg];exact⟨t,ht,rfl⟩,.inl rfl,hnd⟩
   ·simp at h

theorem tH{ops:Array Oper}{l:List DOper}(h:aOz P ops=some l):l.length=ops.size∧∀ i d,l[i]?=some d→Reads P ops i d:=by
 unfold aOz at h;obtain⟨h1,h2⟩:=zM h;refine⟨by simpa using h1,fun i d hd=>?_⟩;obtain⟨o,h3,h4⟩:=h2 i d hd;exact nT (by simpa using h3) h4

def aEi(N:Nat)(d:DOper):Prop:=(∀ k,d.dst=some k→k<N)∧d.op.isComm=false
theorem aCF{N:Nat}{l:List DOper}(h:aOw N l=true):∀ d∈l,∀ k,d.dst=some k→k<N:=by
 intro d hd k hk;unfold aOw at h;rw[C7]at h;have:=h d hd;rw[hk]at this;simpa using this

def Ends(N:Nat)(a:Act)(F:Nat→Prop)(w:World)(H:Hp)(K:aH→Hp→Prop)(Q:Act→World→Prop):Prop :=
 ∀ a' F' w' env' H',a'.tmps.size=N→a'.defers=a.defers→Ext F w H F' w' H'→St F' w' H'→RE F' w' env' a'→K env' H'→Q a' w'

theorem Base.Up.step{F':Nat→Prop}{w':World}{H':Hp}(hB:B.Up F w)(st:St F w H)(h:Ext F w H F' w' H'):B.Up F' w':=Go.DL.Up.trans hB (h.up st)

theorem Ends.step{N:Nat}{K:aH→Hp→Prop}{Q:Act→World→Prop}{a':Act}{F':Nat→Prop}{w':World}{H':Hp}(h:Ends N a F w H K Q)(hd:a'.defers=a.defers)(he:Ext F w H F' w' H') :
 Ends N a' F' w' H' K Q:=fun a'' F'' w'' env'' H'' h1 h2 h3 h4 h5 h6=>h a'' F'' w'' env'' H'' h1 (h2.trans hd) (he.trans h3) h4 h5 h6

theorem aBM{ops:Array Oper}{r:Option Nat}{N:Nat}{Q:Exit→Act→World→Prop}{K:aH→Hp→Prop}:∀(l:List DOper)(i:Nat),(∀ j d,l[j]?=some d→Reads P ops (i+j) d)→(∀ d∈l,aEi N d) →
 ∀(F:Nat→Prop)(w:World)(H:Hp)(env:aH)(a:Act),a.tmps.size=N→B.Up F w→St F w H→RE F w env a→RS B P l K env H→Ends N a F w H K (Q .normal) →
 wpOpsIn (FW r) 0 P ops Q (List.range' i l.length) a w:=by
 intro l;induction l with
 | nil=>intro i _ _ F w H env a hsz hB st re h hQ;exact hQ a F w env H hsz rfl (Ext.refl _ _ _) st re h
 | cons d l ih =>
   intro i hr hd F w H env a hsz hB st re h hQ;rw[C8,aC9,wpOpsIn_cons];refine aBk (hr 0 d rfl) (hd d (by simp)).2 (hd d (by simp)).1 hsz hB st re h ?_;intro a' F' w' env' H' h1 h2 h3 h4 h5 h6;exact ih (i+1) (fun j d' hj=>by have:=hr (j+1) d' (by simpa using hj);rwa [aB0,aD0 1 j]) (fun d' hd'=>hd d' (by simp[hd'])) F' w' H' env' a' h1 (hB.step st h3) h4 h5 h6 (hQ.step h2 h3)








theorem Reads.congr{ops:Array Oper}{i:Nat}{d e:DOper}(h:Reads P ops i d)(h1:e.dst=d.dst)(h2:e.guard=d.guard)(h3:e.op=d.op∨(∃ n p x l l',d.op = .store n p x l∧e.op = .store n p x l')∨(∃ q q' f xs l l',d.op = .callf q f xs l∧e.op = .callf q' f xs l')):Reads P ops i e:=by
 obtain⟨o,ho,g1,g2,g3,g4⟩:=h.get;refine⟨o,ho,h1.trans g1,by rw[h2];exact g2,?_,g4⟩;rcases h3 with h3|⟨n,p,x,l,l',h3,h4⟩|⟨q,q',f,xs,l,l',h3,h4⟩;·rw[h3];exact g3
 ·rw[h3]at g3
  rw[h4];rcases g3 with g3|⟨n',p',x',l'',g3,g5⟩|⟨q,f,xs,l'',g3,g5⟩
  ·unfold comp at g3
   cases hc:cZ P o with
   | none=>rw[hc]at g3;simp at g3
   | some y =>
     rw[hc]at g3;simp at g3;subst g3;rcases lI hc rfl rfl with ⟨t,pa,xa,n',p',x',_,_,_,_,hh⟩|⟨t,m,k,xx,m',k',x',kt,e,_,_,_,_,_,⟨_,_,hh⟩|⟨_,hh⟩⟩|⟨_,_,_,_,hh⟩|⟨c,_,hh⟩
     ·simp only[DOp.store.injEq]at hh;obtain⟨rfl,rfl,rfl,rfl⟩:=hh
      exact .inr (.inl ⟨_,_,_,l',by unfold comp;rw[hc];rfl,rfl⟩)
     ·simp at hh
     ·simp at hh
     ·simp at hh
     ·rcases sP hh rfl with ⟨_,_,_,_,_,_,_,_,_,_,_,_,_,_,_,hh⟩|⟨_,_,_,_,_,_,hh⟩|⟨_,_,_,_,_,hh⟩<;>simp at hh
  ·simp only[DOp.store.injEq]at g5;obtain⟨rfl,rfl,rfl,_⟩:=g5
   exact .inr (.inl ⟨_,_,_,l',g3,rfl⟩)
  ·simp at g5
 ·rw[h3]at g3
  rw[h4];rcases g3 with g3|⟨n',p',x',l'',g3,g5⟩|⟨q1,f1,xs1,l'',g3,g5⟩
  ·unfold comp at g3
   cases hc:cZ P o with
   | none=>rw[hc]at g3;simp at g3
   | some y =>
     rw[hc]at g3;simp at g3;subst g3;rcases lI hc rfl rfl with ⟨t,pa,xa,n',p',x',_,_,_,_,hh⟩|⟨t,m,k,xx,m',k',x',kt,e,_,_,_,_,_,⟨_,_,hh⟩|⟨_,hh⟩⟩|⟨_,_,_,_,hh⟩|⟨c,_,hh⟩;·simp at hh
     ·simp at hh
     ·simp at hh
     ·simp at hh
     ·rcases sP hh rfl with ⟨_,_,_,_,_,_,_,_,_,_,_,_,_,_,_,hh⟩|⟨_,_,_,_,_,_,hh⟩|⟨_,_,_,_,_,hh⟩
      ·simp at hh
      ·simp only[DOp.callf.injEq]at hh;obtain⟨rfl,rfl,rfl,rfl⟩:=hh
       exact .inr (.inr ⟨q',_,_,l',by unfold comp;rw[hc];rfl,rfl⟩)
      ·simp only[DOp.callf.injEq]at hh;obtain⟨rfl,rfl,rfl,rfl⟩:=hh
       exact .inr (.inr ⟨q',_,_,l',by unfold comp;rw[hc];rfl,rfl⟩)
  ·simp at g5
  ·simp only[DOp.callf.injEq]at g5;obtain⟨_,rfl,rfl,_⟩:=g5
   exact .inr (.inr ⟨q',_,_,l',g3,rfl⟩)

theorem aFY{ops:Array Oper}{cl:List Nat}{b r:List DOper}{o:DOper}(h:Reads P ops o.ix o):Reads P ops (aAe cl b r o).ix (aAe cl b r o)∧(aAe cl b r o).dst=o.dst:=by
 unfold aAe;simp only;split
 ·rename_i n p x l hop
  exact⟨h.congr rfl rfl (.inr (.inl ⟨_,_,_,_,_,hop,rfl⟩)),rfl⟩
 ·rename_i q f xs l hop
  split;·exact⟨h.congr rfl rfl (.inr (.inr ⟨_,_,_,_,_,_,hop,rfl⟩)),rfl⟩
  ·exact⟨h.congr rfl rfl (.inr (.inr ⟨_,_,_,_,_,_,hop,rfl⟩)),rfl⟩
 ·exact⟨h,rfl⟩

theorem aHu{cl:List Nat}{b r:List DOper}{o:DOper}:(aAe cl b r o).op.isComm=o.op.isComm:=by
 unfold aAe;simp only;split;·rename_i h;rw[h];rfl
 ·rename_i h;rw[h];split<;>rfl
 ·rfl

theorem aLZ{cl:List Nat}:∀(l b:List DOper)(d:DOper),d∈aMa cl b l→∃ o b' r',o∈l∧d=aAe cl b' r' o:=by
 intro l;induction l with
 | nil=>intro b d h;simp[aMa]at h
 | cons o l ih =>
   intro b d h;simp only[aMa,B3]at h;rcases h with rfl|h;·exact⟨o,b,l,by simp,rfl⟩
   ·obtain⟨o',b',r',h1,h2⟩:=ih _ d h
    exact⟨o',b',r',by simp[h1],h2⟩

theorem aAu{N:Nat}{ops:Array Oper}{l:List DOper}(h:tI P N ops true=some l) :
 (∀ d∈l,Reads P ops d.ix d∧aEi N d)∧uN (ops.toList.map bZ)=true∧xS (kQ (ops.toList.map bZ)) l=true∧l.length=ops.size∧aCc (l.map (·.ix))=true ∧
 ∀ i,i<ops.size→i∈l.map (·.ix):=by
 unfold tI at h;split at h;·simp at h
 ·rename_i l0 hl0
  obtain⟨hlen,hreads⟩:=tH hl0;split at h;·simp at h
  ·rename_i hdst
   simp only[M9,aG9]at hdst;have hcomm:∀ o∈l0,o.op.isComm=false:=fun _ _=>rfl;simp only[AAe]at h;split at h
   ·rename_i hc
    simp only[oSI]at h;simp only[A3,beq_iff_eq,C7,J7,List.contains_iff_mem]at hc;obtain⟨⟨⟨⟨c1,c2⟩,c3⟩,c4⟩,c5⟩:=hc;rw[h]at c2 c3 c4 c5;refine⟨fun d hd=>?_,c1,c2,by simpa [hlen]using c3,c4,fun i hi=>c5 i AM⟩;rw[←h]at hd;obtain⟨o,b',r',h1,h2⟩:=aLZ _ _ _ hd;unfold aKa at h1;rw[P0]at h1;obtain⟨_,_,h1⟩:=h1;have h3:o∈aCb l0:=(aA4.1 h1).1;unfold aCb at h3;rw[D6]at h3;obtain⟨⟨o0,i⟩,h3,h4⟩:=h3;have h5:l0[i]?=some o0:=by
     have:=List.mem_zipIdx h3;simp at this;rw[A2];exact⟨this.1,this.2.symm⟩
    have hro:Reads P ops o.ix o:=by
     subst h4;exact(hreads i o0 h5).congr rfl rfl (.inl rfl)
    obtain⟨h6,h7⟩:=aFY (cl:=kQ (ops.toList.map bZ)) (b:=b') (r:=r') hro;rw[h2];refine⟨h6,fun k hk=>?_,?_⟩
    ·rw[h7]at hk
     subst h4;exact aCF hdst o0 (A5 h5) k hk
    ·rw[aHu]
     subst h4;exact hcomm o0 (A5 h5)
   ·simp at h

theorem oC(afs:List (List Nat))(S:Nat→Prop)(hS:∀ i,S i→∀ m∈afs.getD i [],S m) :
 ∀ i j,(∀ m∈afs.getD i [],S m)→((kQ afs).getD i 0).testBit j=true→S j:=by
 have bits:∀(acc:List Nat),(∀ i j,(∀ m∈afs.getD i [],S m)→(acc.getD i 0).testBit j=true→S j)→∀(o:List Nat)(s:Nat)(j:Nat),(∀ m∈o,S m) →
  (o.foldl (fun s j=>s|||(2^j|||acc.getD j 0)) s).testBit j=true→s.testBit j=true∨S j:=by
  intro acc hacc o;induction o with
  | nil=>intro s j _ h;exact .inl h
  | cons m o ih =>
    intro s j ho h;rw[aE0]at h;rcases ih _ j (fun m hm=>ho m (by simp[hm])) h with h1|h1
    ·rw[Nat.testBit_or,Nat.testBit_or,M4,M4]at h1
     rcases h1 with h1|h1|h1;·exact .inl h1
     ·right
      rw[aF6]at h1;have:m=j:=by simpa using h1
      rw[←this];exact ho m (by simp)
     ·right
      exact hacc m j (hS m (ho m (by simp))) h1
    ·exact .inr h1
 have main:∀(rest:List (List Nat))(acc:List Nat),(∀ k,rest.getD k []=afs.getD (acc.length+k) [])→(∀ i j,(∀ m∈afs.getD i [],S m)→(acc.getD i 0).testBit j=true→S j) →
  ∀ i j,(∀ m∈afs.getD i [],S m)→((rest.foldl (fun acc o=>acc++[o.foldl (fun s j=>s|||(2^j|||acc.getD j 0)) 0]) acc).getD i 0).testBit j=true→S j:=by
  intro rest;induction rest with
  | nil=>intro acc _ hacc;exact hacc
  | cons o rest ih =>
    intro acc hr hacc;rw[aE0];refine ih _ (fun k=>?_) fun i j hi hb=>?_
    ·have:=hr (k+1)
     simp only[aF7]at this;rw[this,B6,aA2,aB0,aD0 1 k]
    ·by_cases h1:i<acc.length
     ·refine hacc i j hi ?_
      rwa [A1,F9 h1,←A1]at hb
     ·by_cases h2:i=acc.length
      ·subst h2
       rw[A1,B9 (A8 _)]at hb;simp only[J8,D0,H7]at hb;have ho:∀ m∈o,S m:=by
        have:=hr 0;simp only[aD6,J1]at this;rw[this];exact hi
       rcases bits acc hacc o 0 j ho hb with h3|h3;·simp at h3
       ·exact h3
      ·exfalso
       rw[A1,D5 (by simp;omega)]at hb;simp at hb
 exact main afs [] (fun k=>by simp) fun i j _ hb=>by simp at hb

theorem xZ:∀{l:List Nat},aCc l=true→l.Nodup:=by
 intro l;induction l with
 | nil=>intro _;simp
 | cons x r ih =>
   intro h;simp only[aCc,A3,M9,List.contains_eq_mem,AAf]at h;exact I8.2 ⟨h.1,ih h.2⟩

def aCU(cl:List Nat)(x y:DOper):Prop:=(cl.getD y.ix 0).testBit x.ix=true∨nY x y=true
theorem kI{cl:List Nat}:∀{l:List DOper},xS cl l=true→l.Pairwise (aCU cl):=by
 intro l;induction l with
 | nil=>intro _;simp
 | cons x r ih =>
   intro h;simp only[xS,A3,C7,M4]at h;exact aE4.2 ⟨fun y hy=>(h.1 y hy).2,ih h.2⟩

theorem aIs:∀(l:List DOper),l≠[]→∃ y∈l,∀ z∈l,y.ix≤z.ix:=by
 intro l;induction l with
 | nil=>intro h;exact absurd rfl h
 | cons x r ih =>
   intro _;by_cases hr:r=[];·subst hr;exact⟨x,by simp,by simp⟩
   ·obtain⟨y,h1,h2⟩:=ih hr
    by_cases hxy:x.ix≤y.ix
    ·exact⟨x,by simp,fun z hz=>by
      rcases B3.1 hz with rfl|hz;·exact A8 _
      ·exact I2 hxy (h2 z hz)⟩
    ·exact⟨y,by simp[h1],fun z hz=>by
      rcases B3.1 hz with rfl|hz;·omega
      ·exact h2 z hz⟩

structure Drawn(P:Program)(N:Nat)(ops:Array Oper)(l:List DOper)(listed:Array Bool):Prop where
 reads:∀ y∈l,Reads P ops y.ix y∧aEi N y
 open_:∀ y∈l,listed.getD y.ix true=false
 all:∀ i,listed.getD i true=false→∃ y∈l,y.ix=i
 nodup:(l.map (·.ix)).Nodup
 pairs:l.Pairwise (aCU (kQ (ops.toList.map bZ)))
 closed:∀ i,listed.getD i false=true→∀ m∈(ops.toList.map bZ).getD i [],listed.getD m false=true
 size:listed.size=ops.size

theorem aKd{ops:Array Oper}{i:Nat}{o:Oper}(h:ops[i]?=some o):(ops.toList.map bZ).getD i []=bZ o:=by
 rw[A1,A6,G3,h];rfl

theorem aAo{o:Oper}{m:Nat}:m∈bZ o↔∃ e∈o.after,Region.binds .any e=true∧e.on=m:=by
 unfold bZ;simp only[D6,aA4,Array.mem_toList_iff];constructor;·rintro ⟨e,⟨h1,h2⟩,h3⟩;exact⟨e,h1,h2,h3⟩
 ·rintro ⟨e,h1,h2,h3⟩;exact⟨e,⟨h1,h2⟩,h3⟩

theorem pT{ops:Array Oper}{j:Nat}{listed:Array Bool}:j∈Region.ready .any ops listed ↔
 listed.getD j true=false∧j<ops.size∧∀ m∈(ops.toList.map bZ).getD j [],listed.getD m false=true:=by
 rw[mem_ready];constructor
 ·rintro ⟨h1,o,ho,h2⟩
  refine⟨h1,(B7.1 ho).1,fun m hm=>?_⟩;rw[aKd ho,aAo]at hm;obtain⟨e,h3,h4,rfl⟩:=hm;exact h2 e h3 h4
 ·rintro ⟨h1,hlt,h2⟩
  have ho:ops[j]?=some ops[j]:=D8 hlt;refine⟨h1,ops[j],ho,fun e he hb=>h2 _ ?_⟩;rw[aKd ho,aAo];exact⟨e,he,hb,rfl⟩

theorem zR{listed:Array Bool}{i:Nat}(h:i<listed.size):listed.getD i true=listed.getD i false:=by
 simp[h]

theorem Drawn.ready_ne{N:Nat}{ops:Array Oper}{l:List DOper}{listed:Array Bool}(hd:Drawn P N ops l listed)(ha:uN (ops.toList.map bZ)=true)(hl:l≠[]):Region.ready .any ops listed≠[]:=by
 obtain⟨y,hy,hmin⟩:=aIs l hl;obtain⟨o,ho,_⟩:=(hd.reads y hy).1.get;have hlt:y.ix<ops.size:=(B7.1 ho).1;have:y.ix∈Region.ready .any ops listed:=by
  rw[pT];refine⟨hd.open_ y hy,hlt,fun m hm=>?_⟩;have hm':m<y.ix:=by
   unfold uN at ha;rw[C7]at ha;have:=ha y.ix (by simp[hlt]);rw[C7]at this;simpa using this m hm
  rw[←zR (by rw[hd.size];omega)];cases hx:listed.getD m true with
  | true=>rfl
  | false =>
    obtain⟨z,hz,hzm⟩:=hd.all m hx;have:=hmin z hz;omega
 intro hnil;rw[hnil]at this;simp at this

theorem aHL{ops:Array Oper}{r:Option Nat}{N:Nat}{Q:Exit→Act→World→Prop}{K:aH→Hp→Prop}(ha:uN (ops.toList.map bZ)=true) :
 ∀(fuel:Nat)(l:List DOper)(listed:Array Bool)(F:Nat→Prop)(w:World)(H:Hp)(env:aH)(a:Act)(L:wQ),l.length≤fuel→Drawn P N ops l listed→(∀ o∈l,L o.ix=none) →
   a.tmps.size=N→B.Up F w→St F w H→RE F w env a→RD B P l K env H L→Ends N a F w H K (Q .normal)→wpAnyIn (FW r) 0 P .any ops Q fuel listed a w:=by
 intro fuel;induction fuel with
 | zero =>
   intro l listed F w H env a L hl hd _ hsz hB st re h hQ;have hnil:l=[]:=List.length_eq_zero_iff.1 AM;subst hnil;refine⟨?_,hQ a F w env H hsz rfl (Ext.refl _ _ _) st re h⟩;cases hr:Region.ready .any ops listed with
   | nil=>rfl
   | cons i rs =>
     have hi:i∈Region.ready .any ops listed:=by rw[hr];simp
     obtain⟨y,hy,_⟩:=hd.all i (pT.1 hi).1;simp at hy
 | succ fuel ih =>
   intro l listed F w H env a L hl hd hL hsz hB st re h hQ;refine⟨fun hr=>?_,fun i hi=>?_⟩
   ·have hnil:l=[]:=by
     cases l with
     | nil=>rfl
     | cons x r=>exact absurd hr (hd.ready_ne ha (by simp))
    subst hnil;exact hQ a F w env H hsz rfl (Ext.refl _ _ _) st re h
   ·obtain⟨h1,hlt,h2⟩:=pT.1 hi
    obtain⟨y,hy,rfl⟩:=hd.all i h1;obtain⟨pre,post,rfl⟩:=aG3 hy;have hsw:∀ x∈pre,nY x y=true:=fun x hx=>by
     have hp:=(aF4.1 hd.pairs).2.2 x hx y (by simp);rcases hp with hp|hp
     ·exfalso
      have:=oC _ (fun i=>listed.getD i false=true) hd.closed y.ix x.ix h2 hp;have hx':=hd.open_ x (by simp[hx]);have hxl:x.ix<listed.size:=by
       obtain⟨o,ho,_⟩:=(hd.reads x (by simp[hx])).1.get;rw[hd.size];exact(B7.1 ho).1
      rw[zR hxl,this]at hx';simp at hx'
     ·exact hp
    have hp:=aWd pre env H L st.fin hsw hd.nodup hL h;refine aBk (hd.reads y hy).1 (hd.reads y hy).2.2 (hd.reads y hy).2.1 hsz hB st re (aJv hp) ?_;rintro a' F' w' env' H' k1 k2 k3 k4 k5 ⟨L',k6,k7⟩;have hsub:(pre++post).Sublist (pre++y::post):=aB1 (aB5 _ _) _;have hnd:∀ z∈pre++post,z.ix≠y.ix:=by
     intro z hz e;have hn:=hd.nodup;rw[F6,D7,N4]at hn;rcases A9.1 hz with hz|hz;·exact hn.2.2 z.ix (O5 hz) y.ix (by simp) e
     ·exact(I8.1 hn.2.1).1 (by rw[←e];exact O5 hz)
    refine ih (pre++post) _ F' w' H' env' a' L' (by simp at hl ⊢;omega) ⟨fun z hz=>hd.reads z (hsub.mem hz),fun z hz=>?_,fun j hj=>?_,hd.nodup.sublist (hsub.map _),hd.pairs.sublist hsub,fun j hj m hm=>?_,by simp[hd.size]⟩
     (fun z hz=>by rw[k6 _ (hnd z hz)];exact hL z (hsub.mem hz)) k1 (hB.step st k3) k4 k5 k7 (hQ.step k2 k3)
    ·rw[getD_set_ne true (Ne.symm (hnd z hz))];exact hd.open_ z (hsub.mem hz)
    ·by_cases hjy:j=y.ix
     ·subst hjy
      have:y.ix<listed.size:=by rw[hd.size];exact hlt
      simp[this]at hj
     ·rw[getD_set_ne true (Ne.symm hjy)]at hj
      obtain⟨z,hz,hzj⟩:=hd.all j hj;refine⟨z,?_,hzj⟩;simp only[A9,B3]at hz ⊢;rcases hz with hz|rfl|hz;·exact .inl hz
      ·exact absurd hzj.symm hjy
      ·exact .inr hz
    ·by_cases hjy:j=y.ix
     ·subst hjy;exact getD_set_true (h2 m hm)
     ·rw[getD_set_ne false (Ne.symm hjy)]at hj
      exact getD_set_true (hd.closed j hj m hm)

theorem mQ{ops:Array Oper}{r:Option Nat}{N:Nat}{draw:Bool}{id:Nat}{l:List DOper}{Q:Exit→Act→World→Prop}{K:aH→Hp→Prop}(hm:P.follows .mixedOrders=true)
 (hc:tI P N ops draw=some l) (hsz:a.tmps.size=N) (hB:B.Up F w) (st:St F w H) (re:RE F w env a)
 (h:if draw then RD B P l K env H noL else RS B P l K env H) (hQ:Ends N a F w H K (Q .normal)):(Code.region id ops draw).wpIn (FW r) 0 P Q a w:=by
 cases draw with
 | false =>
   unfold tI at hc;split at hc;·simp at hc
   ·rename_i l0 hl0
    obtain⟨hlen,hreads⟩:=tH hl0;split at hc;·simp at hc
    ·rename_i hdst
     simp only[M9,aG9]at hdst;simp only[C6,AAd,oSI]at hc;subst hc;refine wpIn_region ?_;rw[←hlen,aB9];exact aBM l0 0 (fun j d hj=>by rw[I6];exact hreads j d hj) (fun d hd=>⟨aCF hdst d hd,rfl⟩) F w H env a hsz hB st re h hQ
 | true =>
   obtain⟨c1,c2,c3,c4,c5,c6⟩:=aAu hc;refine wpIn_region_any hm ?_;have hlist:∀ i,(Array.replicate ops.size false).getD i true=false↔i<ops.size:=fun i=>by
    by_cases h:i<ops.size<;>simp[h]
   refine aHL c2 ops.size l _ F w.drew H env a noL AM ⟨c1,fun y hy=>?_,fun i hi=>?_,xZ c5,kI c3,fun i hi=>?_,by simp⟩ (fun _ _=>rfl) hsz
    (hB.step st (iJ F w H)) (wV st) (re.up ((iJ F w H).up st)) h (hQ.step rfl (iJ F w H))
   ·obtain⟨o,ho,_⟩:=(c1 y hy).1.get
    exact(hlist _).2 (B7.1 ho).1
   ·have:=c6 i ((hlist i).1 hi)
    rw[D6]at this;exact this
   ·exfalso
    simp only[F8,aA9]at hi;split at hi<;>simp at hi


def Mk1(n0:Nat)(F:Nat→Prop)(H:Hp)(w:World)(d:Deferred):Prop:=∃ D,d={ target:=.collected D,args := #[] }∧n0≤D∧w.heap[D]?=some (.deferred (some []))∧¬F D∧H D=none
structure Mk(n0:Nat)(T:List Deferred)(F:Nat→Prop)(H:Hp)(w:World)(ds:List Deferred):Prop where
 ex:∃ ms,ds=ms++T∧ms.Nodup∧∀ d∈ms,Mk1 n0 F H w d

theorem Mk.ext{n0:Nat}{T ds:List Deferred}{F':Nat→Prop}{w':World}{H':Hp}(h:Mk n0 T F H w ds)(he:Ext F w H F' w' H'):Mk n0 T F' H' w' ds:=by
 obtain⟨ms,e,hn,hm⟩:=h.ex;refine⟨ms,e,hn,fun d hd=>?_⟩;obtain⟨D,h1,h2,h3,h4,h5⟩:=hm d hd;have hlt:D<w.heap.size:=(B7.1 h3).1;refine⟨D,h1,h2,by rw[he.same D hlt (by simp[qV,h5])];exact h3,fun h6=>?_,?_⟩
 ·rcases he.fnew D h6 with h7|h7|h7
  ·exact h4 h7
  ·simp[h5]at h7
  ·omega
 ·cases hx:H' D with
  | none=>rfl
  | some x =>
    rcases he.hdom D (by simp[hx])with h7|h7;·simp[h5]at h7
    ·omega
theorem Mk.nil{n0:Nat}{T:List Deferred}:Mk n0 T F H w T:=⟨[],rfl,aC3,fun d hd=>by simp at hd⟩
theorem Mk.sub{n0:Nat}{T ds:List Deferred}{H':Hp}(h:Mk n0 T F H w ds)(hs:∀ b x,H' b=some x→H b=some x):Mk n0 T F H' w ds:=by
 obtain⟨ms,e,hn,hm⟩:=h.ex;refine⟨ms,e,hn,fun d hd=>?_⟩;obtain⟨D,h1,h2,h3,h4,h5⟩:=hm d hd;refine⟨D,h1,h2,h3,h4,?_⟩;cases hx:H' D with
 | none=>rfl
 | some x=>rw[hs D x hx]at h5;simp at h5
theorem Mk.cons{n0 D:Nat}{T ds:List Deferred}(h:Mk n0 T F H w ds)(hn:∀ d,Mk1 n0 F H w d→d≠{ target:=.collected D,args := #[] }){F':Nat→Prop}{w':World}{H':Hp}(he:Ext F w H F' w' H')
 (h1:Mk1 n0 F' H' w' { target:=.collected D,args := #[] }):Mk n0 T F' H' w' ({ target:=.collected D,args := #[] }::ds):=by
 obtain⟨ms,rfl,hnd,hm⟩:=h.ex;obtain⟨ms',e',hnd',hm'⟩:=(h.ext he).ex;have:ms'=ms:=by simpa using e'.symm
 subst this;refine⟨{ target:=.collected D,args := #[] }::ms',rfl,I8.2 ⟨fun hd=>hn _ (hm _ hd) rfl,hnd⟩,fun d hd=>?_⟩;rcases B3.1 hd with rfl|hd;·exact h1
 ·exact hm' d hd

inductive DX where
 | normal
 | exit (id:Nat)
 | ret
abbrev QC:=DX→aH→Hp→Prop

def Land(N n0:Nat)(T:List Deferred)(F:Nat→Prop)(w:World)(H:Hp)(Q:QC):Exit→Act→World→Prop:=fun e a' w' =>
 ∃ x env' F' H',(match e with | .normal=>x=DX.normal | .exit id=>x = .exit id | .ret=>x = .ret|_=>False) ∧
   a'.tmps.size=N∧Ext F w H F' w' H'∧St F' w' H'∧RE F' w' env' a'∧Mk n0 T F' H' w' a'.defers∧Q x env' H'

def W(B:Base)(P:Program)(r:Option Nat)(N:Nat)(c:Code)(Q:QC)(env:aH)(H:Hp):Prop :=
 ∀(F:Nat→Prop)(w:World)(a:Act)(n0:Nat)(T:List Deferred),B.Up F w→n0≤w.heap.size→a.tmps.size=N→St F w H→RE F w env a→Mk n0 T F H w a.defers→c.wpIn (FW r) 0 P (Land N n0 T F w H Q) a w

variable{r:Option Nat}{N:Nat}{Q Q':QC}{n0:Nat}{T:List Deferred}

theorem Land.mono(h:∀ e env H,Q e env H→Q' e env H){e:Exit}{a':Act}{w':World}(hl:Land N n0 T F w H Q e a' w'):Land N n0 T F w H Q' e a' w':=by
 obtain⟨x,env',F',H',h1,h2,h3,h4,h5,h6,h7⟩:=hl;exact⟨x,env',F',H',h1,h2,h3,h4,h5,h6,h _ _ _ h7⟩

theorem Land.step{F':Nat→Prop}{w':World}{H':Hp}(he:Ext F w H F' w' H'){e:Exit}{a':Act}{w'':World}(hl:Land N n0 T F' w' H' Q e a' w''):Land N n0 T F w H Q e a' w'':=by
 obtain⟨x,env',F'',H'',h1,h2,h3,h4,h5,h6,h7⟩:=hl;exact⟨x,env',F'',H'',h1,h2,he.trans h3,h4,h5,h6,h7⟩

theorem W.mono{c:Code}(h:W B P r N c Q env H)(hq:∀ e env H,Q e env H→Q' e env H):W B P r N c Q' env H :=
 fun F w a n0 T h1 h2 h3 h4 h5 h6=>wpIn_mono (h F w a n0 T h1 h2 h3 h4 h5 h6) fun _ _ _=>Land.mono hq

theorem uD{x:DX}{e:Exit}(hx:match e with | .normal=>x=DX.normal | .exit id=>x = .exit id | .ret=>x = .ret|_=>False)(h3:a.tmps.size=N)(h4:St F w H)(h5:RE F w env a)(h6:Mk n0 T F H w a.defers)
 (h:Q x env H):Land N n0 T F w H Q e a w:=⟨x,env,F,H,hx,h3,Ext.refl _ _ _,h4,h5,h6,h⟩

theorem W.skip(h:Q .normal env H):W B P r N .skip Q env H:=fun F w a n0 T h1 h2 h3 h4 h5 h6=>wpIn_skip (uD rfl h3 h4 h5 h6 h)
theorem W.label{l:Nat}(h:Q .normal env H):W B P r N (.label l) Q env H:=fun F w a n0 T h1 h2 h3 h4 h5 h6=>wpIn_label (uD rfl h3 h4 h5 h6 h)
theorem W.exit{id:Nat}(h:Q (.exit id) env H):W B P r N (.exit id) Q env H:=fun F w a n0 T h1 h2 h3 h4 h5 h6=>wpIn_exit (uD rfl h3 h4 h5 h6 h)
theorem W.ret(h:Q .ret env H):W B P r N .ret Q env H:=fun F w a n0 T h1 h2 h3 h4 h5 h6=>wpIn_ret (uD rfl h3 h4 h5 h6 h)

def QC.then(K:aH→Hp→Prop)(Q:QC):QC:=fun x env H=>match x with
 | .normal=>K env H
 | x=>Q x env H

theorem W.seq{x y:Code}(h:W B P r N x (QC.then (W B P r N y Q) Q) env H):W B P r N (.seq x y) Q env H:=by
 intro F w a n0 T h1 h2 h3 h4 h5 h6;refine wpIn_seq (wpIn_mono (h F w a n0 T h1 h2 h3 h4 h5 h6) ?_);rintro e a' w' ⟨x,env',F',H',k1,k2,k3,k4,k5,k6,k7⟩;cases e with
 | normal =>
   simp only at k1;subst k1;exact wpIn_mono (k7 F' w' a' n0 T (h1.step h4 k3) (I2 h2 k3.le) k2 k4 k5 k6) fun _ _ _=>Land.step k3
 | exit id=>simp only at k1;subst k1;exact⟨_,env',F',H',rfl,k2,k3,k4,k5,k6,k7⟩
 | ret=>simp only at k1;subst k1;exact⟨_,env',F',H',rfl,k2,k3,k4,k5,k6,k7⟩
 | goto l=>exact k1.elim
 | panic c=>exact k1.elim
 | outgrown=>exact k1.elim

theorem W.cond{c:Operand}{c':AO}{x y:Code}{t:Bool}(hc:co c=some c')(he:aK env c' = .bool t)(h:W B P r N (if t then x else y) Q env H):W B P r N (.cond c x y) Q env H:=by
 intro F w a n0 T h1 h2 h3 h4 h5 h6;have hv:=aZ h5 hc;rw[he]at hv;have:a.eval c = .bool t:=by
  generalize a.eval c=z at hv;cases hv;rfl
 exact wpIn_cond this (h F w a n0 T h1 h2 h3 h4 h5 h6)

def QC.block(id:Nat)(Q:QC):QC:=fun x env H=>match x with
 | .exit j=>if j=id then Q .normal env H else Q (.exit j) env H
 | x=>Q x env H

theorem W.block{id:Nat}{x:Code}(h:W B P r N x (QC.block id Q) env H):W B P r N (.block id x) Q env H:=by
 intro F w a n0 T h1 h2 h3 h4 h5 h6;refine wpIn_block (wpIn_mono (h F w a n0 T h1 h2 h3 h4 h5 h6) ?_);rintro e a' w' ⟨x,env',F',H',k1,k2,k3,k4,k5,k6,k7⟩;cases e with
 | normal=>simp only at k1;subst k1;exact⟨_,env',F',H',rfl,k2,k3,k4,k5,k6,k7⟩
 | exit j =>
   simp only at k1;subst k1;simp only[Exit.inBlock];by_cases hj:j=id;·simp only[QC.block,hj,AAe]at k7 ⊢;exact⟨_,env',F',H',rfl,k2,k3,k4,k5,k6,k7⟩
   ·simp only[QC.block,hj,AAd]at k7 ⊢;exact⟨_,env',F',H',rfl,k2,k3,k4,k5,k6,k7⟩
 | ret=>simp only at k1;subst k1;exact⟨_,env',F',H',rfl,k2,k3,k4,k5,k6,k7⟩
 | goto l=>exact k1.elim
 | panic c=>exact k1.elim
 | outgrown=>exact k1.elim

theorem W.loop{x:Code}(I:Nat→aH→Hp→Prop){m:Nat}(hI:I m env H)(hr:∀ m env H,I m env H→W B P r N x (QC.then (fun env' H'=>∃ m',m'<m∧I m' env' H') Q) env H):W B P r N (.loop x) Q env H:=by
 intro F w a n0 T h1 h2 h3 h4 h5 h6
 let good:Nat→Act→World→Prop:=fun m a' w'=>∃ env' F' H',a'.tmps.size=N∧Ext F w H F' w' H'∧St F' w' H'∧RE F' w' env' a'∧Mk n0 T F' H' w' a'.defers∧I m env' H'
 have hex:∀ a' w',(∃ m,good m a' w')→∃ m,good m a' w'∧∀ k,good k a' w'→m≤k:=by
  intro a' w' ⟨m,hm⟩;induction m using Nat.strongRecOn with
  | _ m ih =>
    by_cases hk:∃ k,k<m∧good k a' w';·obtain⟨k,hk1,hk2⟩:=hk;exact ih k hk1 hk2
    ·exact⟨m,hm,fun k hk'=>Nat.le_of_not_lt fun hlt=>hk ⟨k,hlt,hk'⟩⟩
 let μ:Act→World→Nat:=fun a' w'=>open Classical in if h:∃ m,good m a' w' then (hex a' w' h).choose else 0
 have hμ:∀ a' w' (h:∃ m,good m a' w'),good (μ a' w') a' w'∧∀ k,good k a' w'→μ a' w'≤k:=fun a' w' h=>by
  have:μ a' w'=(hex a' w' h).choose:=by simp only[μ,AAs h]
  rw[this];exact(hex a' w' h).choose_spec
 refine wpIn_loop (fun a' w'=>∃ m,good m a' w') μ ⟨m,env,F,H,h3,Ext.refl _ _ _,h4,h5,h6,hI⟩ ?_;intro a' w' hg;obtain⟨env',F',H',k2,k3,k4,k5,k6,k7⟩:=(hμ a' w' hg).1;refine wpIn_mono (hr _ env' H' k7 F' w' a' n0 T (h1.step h4 k3) (I2 h2 k3.le) k2 k4 k5 k6) ?_;rintro e a'' w'' ⟨x,env'',F'',H'',l1,l2,l3,l4,l5,l6,l7⟩;cases e with
 | normal =>
   simp only at l1;subst l1;obtain⟨m',hlt,hI'⟩:=l7;have hg':good m' a'' w'':=⟨env'',F'',H'',l2,k3.trans l3,l4,l5,l6,hI'⟩;exact⟨⟨m',hg'⟩,aB6 ((hμ a'' w'' ⟨m',hg'⟩).2 m' hg') hlt⟩
 | exit j=>simp only at l1;subst l1;exact⟨_,env'',F'',H'',rfl,l2,k3.trans l3,l4,l5,l6,l7⟩
 | ret=>simp only at l1;subst l1;exact⟨_,env'',F'',H'',rfl,l2,k3.trans l3,l4,l5,l6,l7⟩
 | goto l=>exact l1.elim
 | panic c=>exact l1.elim
 | outgrown=>exact l1.elim

theorem iX{b:Frame}{k:List Item}{cs:List Frame}{c:Code}:step P (lone (b.atR a (.code (.scope c)::k)) cs w) = .next (lone (b.atR a (.code c :: .inScope c::k)) cs w) :=
 step_lone_go (by simp[stepG,stepG.exec,Frame.atR])
theorem aDa{b:Frame}{k:List Item}{cs:List Frame}{c:Code}:step P (lone (b.atR a (.inScope c::k)) cs w) = .next (lone (b.atR a k) cs w) :=
 step_lone_go (by simp[stepG,stepG.exec,Frame.atR])

theorem aHs{F:Fence}{n:Nat}{Q:Exit→Act→World→Prop}{c:Code}(h:c.wpIn F n P (Exit.noGoto Q) a w):(Code.scope c).wpIn F n P Q a w:=by
 intro b k cs hro hb hr;have h0:(lone (b.atR a (.code (.scope c)::k)) cs w).fenced P F:=fenced_calm hb hr rfl;obtain⟨e,a₁,w₁,hq,harr⟩:=h b (.inScope c::k) cs hro hb hr;cases e with
 | normal=>exact⟨.normal,a₁,w₁,hq,.head h0 iX (StepsIn.trans harr (.one (fenced_calm hb hr rfl) aDa))⟩
 | exit id =>
   have hx:exitTo id (.inScope c::k)=exitTo id k:=by simp[exitTo]
   exact⟨.exit id,a₁,w₁,hq,fun k' hk=>.head h0 iX (harr.1 k' (by rw[hx];exact hk)),
    fun hr' hk=>let ⟨k₁,h1,h2⟩:=harr.2 hr' (by rw[hx];exact hk); ⟨k₁,h1,.head h0 iX h2⟩⟩
 | goto l=>exact hq.elim
 | ret=>exact⟨_,a₁,w₁,hq,.of_steps (.one h0 iX) harr⟩
 | panic ch=>exact⟨_,a₁,w₁,hq,.of_steps (.one h0 iX) harr⟩
 | outgrown=>exact⟨_,a₁,w₁,hq,.of_steps (.one h0 iX) harr⟩

theorem W.scope{c:Code}(h:W B P r N c Q env H):W B P r N (.scope c) Q env H:=by
 intro F w a n0 T h1 h2 h3 h4 h5 h6;refine aHs (wpIn_mono (h F w a n0 T h1 h2 h3 h4 h5 h6) ?_);intro e a' w' hl;cases e with
 | goto l=>obtain⟨x,_,_,_,k1,_⟩:=hl;exact k1.elim
 | normal=>exact hl
 | exit id=>exact hl
 | ret=>exact hl
 | panic c=>exact hl
 | outgrown=>exact hl

theorem W.region{id:Nat}{ops:Array Oper}{draw:Bool}{l:List DOper}(hm:P.follows .mixedOrders=true)(hc:tI P N ops draw=some l)
 (h:if draw then RD B P l (Q .normal) env H noL else RS B P l (Q .normal) env H):W B P r N (.region id ops draw) Q env H:=by
 intro F w a n0 T h1 h2 h3 h4 h5 h6;refine mQ hm hc h3 h1 h4 h5 h ?_;intro a' F' w' env' H' k1 k2 k3 k4 k5 k6;exact⟨.normal,env',F',H',rfl,k1,k3,k4,k5,by rw[k2];exact h6.ext k3,k6⟩

theorem W.le{env':aH}{c:Code}(hl:Le env env')(h:W B P r N c Q env' H):W B P r N c Q env H :=
 fun F w a n0 T h1 h2 h3 h4 h5 h6=>h F w a n0 T h1 h2 h3 h4 (h5.le hl) h6

def Shift(env:aH)(H:Hp)(env':aH)(H':Hp):Prop:=∀(F:Nat→Prop)(w:World)(a:Act),St F w H→RE F w env a→∃ F',Ext F w H F' w H'∧St F' w H'∧RE F' w env' a

theorem Shift.le{env':aH}(h:Le env env'):Shift env H env' H:=fun F w a st re=>⟨F,Ext.refl _ _ _,st,re.le h⟩
theorem Shift.forget{H':Hp}(h:∀ b x,H' b=some x→H b=some x):Shift env H env H':=fun F w a st re=>⟨F,(Ext.refl _ _ _).forget h,st.forget h,re⟩
theorem Shift.trans{env' env'':aH}{H' H'':Hp}(h:Shift env H env' H')(k:Shift env' H' env'' H''):Shift env H env'' H'':=fun F w a st re=>by
 obtain⟨F',h1,h2,h3⟩:=h F w a st re;obtain⟨F'',k1,k2,k3⟩:=k F' w a h2 h3;exact⟨F'',h1.trans k1,k2,k3⟩

theorem W.shift{env':aH}{H':Hp}{c:Code}(hs:Shift env H env' H')(h:W B P r N c Q env' H'):W B P r N c Q env H:=by
 intro F w a n0 T h1 h2 h3 h4 h5 h6;obtain⟨F',k1,k2,k3⟩:=hs F w a h4 h5;exact wpIn_mono (h F' w a n0 T (h1.step h4 k1) h2 h3 k2 k3 (h6.ext k1)) fun _ _ _=>Land.step k1


def WD(B:Base)(P:Program)(r:Option Nat)(N:Nat)(dc:DCode)(Q:QC)(env:aH)(H:Hp):Prop :=
 ∀ c,eH P N c=some dc→W B P r N c Q env H

theorem WD.mono{c:DCode}(h:WD B P r N c Q env H)(hq:∀ e env H,Q e env H→Q' e env H):WD B P r N c Q' env H:=fun c hc=>(h c hc).mono hq
theorem WD.le{env':aH}{c:DCode}(hl:Le env env')(h:WD B P r N c Q env' H):WD B P r N c Q env H:=fun c hc=>(h c hc).le hl
theorem WD.shift{env':aH}{H':Hp}{c:DCode}(hs:Shift env H env' H')(h:WD B P r N c Q env' H'):WD B P r N c Q env H:=fun c hc=>(h c hc).shift hs
theorem WD.skip(h:Q .normal env H):WD B P r N .skip Q env H:=by
 intro c hc;cases c<;>simp only[eH]at hc
 case skip=>exact W.skip h
 case label l=>exact W.label h
 all_goals exfalso;first|(simp at hc;done)|((repeat' split at hc)<;>simp at hc;done)
theorem WD.exit{id:Nat}(h:Q (.exit id) env H):WD B P r N (.exit id) Q env H:=by
 intro c hc;cases c<;>simp only[eH]at hc
 case exit j=>simp only[oSI,DCode.exit.injEq]at hc;subst hc;exact W.exit h
 all_goals exfalso;first|(simp at hc;done)|((repeat' split at hc)<;>simp at hc;done)
theorem WD.ret(h:Q .ret env H):WD B P r N .ret Q env H:=by
 intro c hc;cases c<;>simp only[eH]at hc
 case ret=>exact W.ret h
 all_goals exfalso;first|(simp at hc;done)|((repeat' split at hc)<;>simp at hc;done)
theorem WD.seq{x y:DCode}(h:WD B P r N x (QC.then (WD B P r N y Q) Q) env H):WD B P r N (.seq x y) Q env H:=by
 intro c hc;cases c<;>simp only[eH]at hc
 case seq a b =>
  split at hc
  ·rename_i a' b' ha hb
   simp only[oSI,DCode.seq.injEq]at hc;obtain⟨rfl,rfl⟩:=hc;refine W.seq ((h a ha).mono fun e env H hq=>?_);cases e with
   | normal=>exact hq b hb
   | exit id=>exact hq
   | ret=>exact hq
  ·simp at hc
 all_goals exfalso;first|(simp at hc;done)|((repeat' split at hc)<;>simp at hc;done)
theorem WD.cond{o:AO}{x y:DCode}{t:Bool}(he:aK env o = .bool t)(h:WD B P r N (if t then x else y) Q env H):WD B P r N (.cond o x y) Q env H:=by
 intro c hc;cases c<;>simp only[eH]at hc
 case cond o' a b =>
  split at hc
  ·rename_i o'' a' b' ho ha hb
   simp only[oSI,DCode.cond.injEq]at hc;obtain⟨rfl,rfl,rfl⟩:=hc;refine W.cond ho he ?_;cases t with
   | true=>exact h a ha
   | false=>exact h b hb
  ·simp at hc
 all_goals exfalso;first|(simp at hc;done)|((repeat' split at hc)<;>simp at hc;done)
theorem WD.block{id:Nat}{x:DCode}(h:WD B P r N x (QC.block id Q) env H):WD B P r N (.block id x) Q env H:=by
 intro c hc;cases c<;>simp only[eH]at hc
 case block j a =>
  split at hc
  ·rename_i a' ha
   simp only[oSI,DCode.block.injEq]at hc;obtain⟨rfl,rfl⟩:=hc;exact W.block (h a ha)
  ·simp at hc
 all_goals exfalso;first|(simp at hc;done)|((repeat' split at hc)<;>simp at hc;done)
theorem WD.loop{x:DCode}(I:Nat→aH→Hp→Prop){m:Nat}(hI:I m env H)(hr:∀ m env H,I m env H→WD B P r N x (QC.then (fun env' H'=>∃ m',m'<m∧I m' env' H') Q) env H):WD B P r N (.loop x) Q env H:=by
 intro c hc;cases c<;>simp only[eH]at hc
 case loop a =>
  split at hc
  ·rename_i a' ha
   simp only[oSI,DCode.loop.injEq]at hc;subst hc;exact W.loop I hI fun m env H hi=>hr m env H hi a ha
  ·simp at hc
 all_goals exfalso;first|(simp at hc;done)|((repeat' split at hc)<;>simp at hc;done)
theorem WD.scope{x:DCode}(h:WD B P r N x Q env H):WD B P r N (.scope x) Q env H:=by
 intro c hc;cases c<;>simp only[eH]at hc
 case scope a =>
  split at hc
  ·rename_i a' ha
   simp only[oSI,DCode.scope.injEq]at hc;subst hc;exact W.scope (h a ha)
  ·simp at hc
 all_goals exfalso;first|(simp at hc;done)|((repeat' split at hc)<;>simp at hc;done)
theorem WD.reg{draw:Bool}{l:List DOper}(hm:P.follows .mixedOrders=true)(h:if draw then RD B P l (Q .normal) env H noL else RS B P l (Q .normal) env H):WD B P r N (.reg draw l) Q env H:=by
 intro c hc;cases c<;>simp only[eH]at hc
 case region id ops d =>
  split at hc
  ·rename_i l' hl
   simp only[oSI,DCode.reg.injEq]at hc;obtain⟨rfl,rfl⟩:=hc;exact W.region hm hl h
  ·simp at hc
 all_goals exfalso;first|(simp at hc;done)|((repeat' split at hc)<;>simp at hc;done)

variable{P:Program}{B:Base}{F:Nat→Prop}{w:World}{H:Hp}{env:aH}{a:Act}

def aAC(P:Program):ResultVar→Option (Nat×Option (Bool×Nat))
 | .tmp t=>some (t,none)
 | .cell a t=>match eF P t,kU P t with
   | some g,some n=>some (a,some (g,n))
   | _,_=>none
def sA(env:aH)(H:Hp):Nat×Option (Bool×Nat)→Option AV
 | (t,none)=>some (env t)
 | (a,some (g,n))=>eY g n H (env a)
def rZ(env:aH)(H:Hp):List (Nat×Option (Bool×Nat))→Option (List AV)
 | []=>some []
 | x::r=>match sA env H x,rZ env H r with
   | some v,some vs=>some (v::vs)
   | _,_=>none
def jD(rs:List (Nat×Option (Bool×Nat)))(env:aH)(H:Hp):Option AV:=match rZ env H rs with
 | some [v]=>some v
 | some vs=>some (.tup vs)
 | none=>none

structure DFn where
 N:Nat
 res:List (Nat×Option (Bool×Nat))
 body:DCode
 dfr:Option (List DOper×Nat):=none

structure aRJ(P:Program)(f:FuncId)(d:DFn):Prop where
 call:∀(vs:Array Value)(w:World),(callFunc f vs).run P w = .ok (.enter f vs) w
 code:∃ fn c,P.funcs[f]?=some fn∧fn.body=some c∧fn.ntmps=d.N∧fn.results.toList.mapM (aAC P)=some d.res∧aHa P d.N c=some (d.dfr,d.body)

def aV(as:List AV):aH:=fun k=>as.getD k .any

def fnQ(rs:List (Nat×Option (Bool×Nat)))(Q:AV→Hp→Prop):QC:=fun e env H=>match e with
 | .exit _=>False
 | _=>lT (jD rs env H) fun v=>Q v H

theorem aEU{tmps:Array Value}{x:ResultVar}{y:Nat×Option (Bool×Nat)}{v:AV}(st:St F w H)(re:RE F w env { tmps:=tmps,defers:=[] })(hx:aAC P x=some y)(hv:sA env H y=some v) :
 ∃ c,(match x with
   | .tmp t=>pure (tmps.getD t undef)
   | .cell a t=>do loadVar t (←asAddr (tmps.getD a undef)):Sem Value).run P w = .ok c w∧Rv F w v c:=by
 cases x with
 | tmp t =>
   simp only[aAC,oSI]at hx;subst hx;simp only[sA,oSI]at hv;subst hv;exact⟨_,by simp only[Sem.run_pure],re.rv t⟩
 | cell p t =>
   simp only[aAC]at hx;split at hx
   ·rename_i g n hg hn
    simp only[oSI]at hx;subst hx;simp only[sA]at hv;obtain⟨c,h1,h2⟩:=aDH (P:=P) st hg hn (re.rv p) hv;refine⟨c,?_,h2⟩;have hz:∃ ad,tmps.getD p undef = .pointer (some ad):=by
     have hp:=re.rv p;cases hq:env p<;>rw[hq]at hv hp<;>simp only[eY,reduceCtorEq]at hv
     ·generalize hy:({ tmps:=tmps,defers:=[] }:Act).tmps.getD p undef=z at hp
      cases hp;exact⟨_,rfl⟩
     ·generalize hy:({ tmps:=tmps,defers:=[] }:Act).tmps.getD p undef=z at hp
      cases hp;exact⟨_,rfl⟩
    obtain⟨ad,hz⟩:=hz;simp only[hz,Instr.loadAt,Instr.sureAddr,asAddr,Sem.run_bind,Sem.run_pure,Result.andThen_ok]at h1 ⊢;exact h1
   ·simp at hx

theorem aET{tmps:Array Value}(st:St F w H)(re:RE F w env { tmps:=tmps,defers:=[] }):∀(xs:List ResultVar)(ys:List (Nat×Option (Bool×Nat)))(vs:List AV),xs.mapM (aAC P)=some ys→rZ env H ys=some vs →
 ∃ cs:List Value,(xs.mapM fun x=>(match x with
   | .tmp t=>pure (tmps.getD t undef)
   | .cell a t=>do loadVar t (←asAddr (tmps.getD a undef)):Sem Value)).run P w = .ok cs w∧vs.length=cs.length∧∀(i:Nat)(v:AV)(c:Value),vs[i]?=some v→cs[i]?=some c→Rv F w v c:=by
 intro xs;induction xs with
 | nil =>
   intro ys vs hx hv;simp at hx;subst hx;simp[rZ]at hv;subst hv;exact⟨[],by simp only[List.mapM_nil,Sem.run_pure],rfl,by simp⟩
 | cons x xs ih =>
   intro ys vs hx hv;rw[aB2]at hx;cases h1:aAC P x with
   | none=>rw[h1]at hx;simp at hx
   | some y =>
     rw[h1]at hx;cases h2:xs.mapM (aAC P)with
     | none=>rw[h2]at hx;simp at hx
     | some ys' =>
       rw[h2]at hx;simp at hx;subst hx;simp only[rZ]at hv;split at hv
       ·rename_i v' vs' h3 h4
        simp only[oSI]at hv;subst hv;obtain⟨c,k1,k2⟩:=aEU st re h1 h3;obtain⟨cs,k3,k4,k5⟩:=ih ys' vs' h2 h4;refine⟨c::cs,?_,by simp[k4],fun i v c' hv' hc'=>?_⟩
        ·rw[aB2]
         simp only[Sem.run_bind,k1,k3,Result.andThen_ok,Sem.run_pure]
        ·cases i with
         | zero=>simp at hv' hc';subst hv' hc';exact k2
         | succ i=>exact k5 i v c' (by simpa using hv') (by simpa using hc')
       ·simp at hv

theorem aAj{fn:Func}{tmps:Array Value}{rs:List (Nat×Option (Bool×Nat))}{v:AV}(st:St F w H)(re:RE F w env { tmps:=tmps,defers:=[] })(hr:fn.results.toList.mapM (aAC P)=some rs)(hv:jD rs env H=some v) :
 ∃ c,(results fn tmps).run P w = .ok c w∧Rv F w v c:=by
 unfold jD at hv;obtain⟨vs,hvs⟩:∃ vs,rZ env H rs=some vs:=by
  cases h:rZ env H rs with
  | none=>rw[h]at hv;simp at hv
  | some vs=>exact⟨vs,rfl⟩
 obtain⟨cs,h1,h2,h3⟩:=aET st re _ _ _ hr hvs;have h4:(results fn tmps).run P w = .ok (if h:cs.toArray.size=1 then cs.toArray[0] else .tuple cs.toArray) w:=by
  unfold results;have hmap:∀{α β:Type}(f:α→β)(m:Sem α),f <$> m=(m >>= fun x=>pure (f x)):=fun f m=>rfl;rw[Sem.run_bind,←Array.toArray_toList (xs:=fn.results),List.mapM_toArray,hmap,Sem.run_bind];exact(AAt (fun r:Result (List Value)=>((r.andThen fun a w'=>Sem.run P (pure a.toArray) w').andThen fun a w'=>Sem.run P (pure (if h:a.size=1 then a[0] else Value.tuple a)) w')) h1).trans (by simp only[Result.andThen_ok,Sem.run_pure])
 refine⟨_,h4,?_⟩;rw[hvs]at hv;cases vs with
 | nil =>
   cases cs with
   | nil=>simp at hv;subst hv;exact .tup _ _ (by simp) (by simp)
   | cons c cs=>simp at h2
 | cons v1 vs =>
   cases cs with
   | nil=>simp at h2
   | cons c cs =>
     cases vs with
     | nil =>
       cases cs with
       | nil=>simp at hv;subst hv;exact h3 0 _ _ rfl rfl
       | cons c' cs=>simp at h2
     | cons v2 vs =>
       cases cs with
       | nil=>simp at h2
       | cons c' cs =>
         simp at hv;subst hv;simp only[List.size_toArray,C8,show ¬(cs.length+1+1=1) by omega,dif_neg,AAr];exact .tup _ _ (by simpa using h2) fun i x y hx hy=>h3 i x y hx (by simpa using hy)

theorem vQ{n0 D:Nat}{w0:World}{F0:Nat→Prop}{H0:Hp}{x:Option (List Deferred)}(he:Ext F0 w0 H0 F w H)(st:St F w H)(hn:w0.heap.size≤D)(hD:w.heap[D]?=some (.deferred (some [])))(hF:¬F D)(hH:H D=none) :
 Ext F0 w0 H0 F (w.putObj D (.deferred x)) H∧St F (w.putObj D (.deferred x)) H∧Up F w F (w.putObj D (.deferred x)):=by
 have oth:∀ b,b≠D→(w.putObj D (.deferred x)).heap[b]?=w.heap[b]?:=fun b hb=>World.putObj_heap_other hb;have hu:Up F w F (w.putObj D (.deferred x)):=⟨fun _ h=>h,fun b hb=>oth b fun e=>hF (e▸hb),fun b c e fr hb=>⟨c,e,fr,by rw[oth b fun e=>by subst e;rw[hD]at hb;simp at hb];exact hb,rfl⟩,by simp⟩;refine⟨⟨he.sub,he.fnew,he.hdom,he.hnew,by simpa using he.le,fun b hb hw=>by rw[oth b AM];exact he.same b hb hw,fun b c e fr hb=>?_,he.io.trans ⟨rfl,rfl,rfl⟩⟩,⟨fun b hb=>by simpa using st.lt b hb,st.dis,fun b y hb=>?_⟩,hu⟩
 ·have hlt:b<w0.heap.size:=(B7.1 hb).1
  rw[oth b AM];exact he.cells b c e fr hb
 ·obtain⟨o,h1,h2⟩:=st.blk b y hb
  exact⟨o,by rw[oth b fun e=>by subst e;simp[hH]at hb];exact h1,h2.up hu⟩

theorem aGG{fn:Func}{tmps:Array Value}{rs:List (Nat×Option (Bool×Nat))}{v:AV}{F0:Nat→Prop}{w0:World}{H0:Hp}{Q:AV→Hp→Prop}(hr:fn.results.toList.mapM (aAC P)=some rs)(hv:jD rs env H=some v)(hQ:Q v H)
 (he:Ext F0 w0 H0 F w H) (st:St F w H) (re:RE F w env { tmps:=tmps,defers:=[] }):LeavesInM Fence.wide 0 P fn tmps (uT F0 w0 H0 Q) [] .returning w:=by
 obtain⟨c,h1,h2⟩:=aAj st re hr hv;exact⟨c,h1,c,v,F,H,rfl,he,st,h2,hQ⟩

theorem aFt{fn:Func}{tmps:Array Value}{n0:Nat}{F0:Nat→Prop}{w0:World}{H0:Hp}{R:Ending→World→Prop}(hn0:w0.heap.size≤n0)
 (hT:∀ w,Ext F0 w0 H0 F w H→St F w H→RE F w env { tmps:=tmps,defers:=[] }→LeavesInM Fence.wide 0 P fn tmps R [] .returning w) :
 ∀(ms:List Deferred)(w:World),Ext F0 w0 H0 F w H→St F w H→RE F w env { tmps:=tmps,defers:=[] }→ms.Nodup→(∀ d∈ms,Mk1 n0 F H w d)→LeavesInM Fence.wide 0 P fn tmps R ms .returning w:=by
 intro ms;induction ms with
 | nil=>intro w he st re _ _;exact hT w he st re
 | cons d ds ih =>
   intro w he st re hnd hm;obtain⟨D,rfl,h2,h3,h4,h5⟩:=hm d (by simp);obtain⟨k1,k2,k3⟩:=vQ (n0:=0) (x:=none) he st (I2 hn0 h2) h3 h4 h5;have hnd:=I8.1 hnd;refine⟨by simp,.inl ⟨D,_,rfl,run_takeDeferred h3,ih _ k1 k2 (re.up k3) hnd.2 fun d' hd'=>?_⟩⟩;obtain⟨D',rfl,l2,l3,l4,l5⟩:=hm d' (by simp[hd']);refine⟨D',rfl,l2,?_,l4,l5⟩;rw[World.putObj_heap_other fun e=>hnd.1 (by rw[←e];exact hd')];exact l3

theorem aKD{l1 l2:List DOper}{K:aH→Hp→Prop}:∀{env:aH}{H:Hp},RS B P (l1++l2) K env H→RS B P l1 (RS B P l2 K) env H:=by
 induction l1 with
 | nil=>exact fun h=>h
 | cons o l1 ih=>exact fun h=>aNr (fun _ _ h=>ih h) h

theorem aAU{N:Nat}{as:List AV}{vs:Array Value}{nt:Nat}(hB:B.Up F w)(hA:Args F w as vs):RE F w (aV as) { tmps:=vs++Array.replicate nt undef,defers:=[] }:=by
 refine⟨fun k=>?_,B.gi.up hB⟩;simp only[aV];cases hk:as[k]? with
 | none=>rw[A1,hk];exact .any _
 | some x =>
   have hlt:k<vs.size:=by rw[←hA.1];exact(A2.1 hk).1
   rw[A1,hk];simp only[H7,F8];rw[aC1 hlt,D8 hlt];exact hA.2 k x _ hk (D8 hlt)


theorem FnW.of{f:FuncId}{d:DFn}{as:List AV}{Q:AV→Hp→Prop}(hf:aRJ P f d)(hN:as.length≤d.N)
 (h:WD B P none d.N d.body (fnQ d.res Q) (aV as) H):FnW B P f as H Q:=by
 refine⟨hf.call,fun F w vs hB st hA=>?_⟩;obtain⟨fn,c,h1,h2,h3,h4,h5⟩:=hf.code;have hsz:(vs++Array.replicate (fn.ntmps-vs.size) undef).size=d.N:=by
  have:=hA.1;simp[h3];omega
 have hre:=aAU (N:=d.N) (nt:=fn.ntmps-vs.size) hB hA;have h5':eH P d.N c=some d.body:=by
  simp only[aHa,A0,B4]at h5;obtain⟨y,hy,_,rfl⟩:=h5;exact hy
 refine callsIn_of_wp_marks h1 h2 trivial (wpIn_mono (h c h5' F w { tmps:=vs++Array.replicate (fn.ntmps-vs.size) undef,defers:=[] } w.heap.size [] hB (A8 _) hsz st hre Mk.nil) ?_);rintro e a' w' ⟨x,env',F',H',k1,k2,k3,k4,k5,k6,k7⟩;have fin:lT (jD d.res env' H') (fun v=>Q v H')→LeavesInM Fence.wide 0 P fn a'.tmps (uT F w H Q) a'.defers .returning w':=fun hq=>by
  rw[dJ]at hq;obtain⟨v,hv,hQ⟩:=hq;obtain⟨ms,e1,e2,e3⟩:=k6.ex;rw[I5]at e1;rw[e1];exact aFt (A8 _) (fun w'' he st' re'=>aGG h4 hv hQ he st' re') ms w' k3 k4 k5 e2 e3
 cases e with
 | normal=>simp only at k1;subst k1;exact fin k7
 | ret=>simp only at k1;subst k1;exact fin k7
 | exit id=>simp only at k1;subst k1;exact k7.elim
 | goto l=>exact k1.elim
 | panic c=>exact k1.elim
 | outgrown=>exact k1.elim


inductive Fz(b:Nat)(cs:List AV):AV→AV→Prop where
 | same (v:AV):Fz b cs v v
 | sl (off s len:Nat) (rows:List (List AV)) (hl:rows.length=len) (hs:∀ r∈rows,r.length=s)
  (hc:∀(i:Nat)(r:List AV)(j:Nat)(c:AV),rows[i]?=some r→r[j]?=some c→cs[off+i*s+j]?=some c):Fz b cs (.sl b off s len) (.fs rows)
 | pt (off s i o:Nat) (rows:List (List AV)) (hs:∀ r∈rows,r.length=s)
  (hc:∀(i:Nat)(r:List AV)(j:Nat)(c:AV),rows[i]?=some r→r[j]?=some c→cs[off+i*s+j]?=some c):Fz b cs (.pt b (off+i*s+o)) (.fp rows i o)
 | agg (xs ys:List AV) (hl:xs.length=ys.length) (h:∀(i:Nat)(x y:AV),xs[i]?=some x→ys[i]?=some y→Fz b cs x y):Fz b cs (.agg xs) (.agg ys)
 | tup (xs ys:List AV) (hl:xs.length=ys.length) (h:∀(i:Nat)(x y:AV),xs[i]?=some x→ys[i]?=some y→Fz b cs x y):Fz b cs (.tup xs) (.tup ys)
 | fn (f:Fn) (xs ys xs' ys':List AV) (hl:xs.length=ys.length) (h:∀(i:Nat)(x y:AV),xs[i]?=some x→ys[i]?=some y→Fz b cs x y)
  (hl':xs'.length=ys'.length) (h':∀(i:Nat)(x y:AV),xs'[i]?=some x→ys'[i]?=some y→Fz b cs x y):Fz b cs (.fn f xs xs') (.fn f ys ys')

theorem Rv.fz{b:Nat}{cs:List AV}{x y:AV}(hf:Fz b cs x y){c:Array Value}{e:TypeId}{fr:Nat×Nat}(hb:w.heap[b]?=some (.cells c e fr))(hF:F b)(hl:cs.length≤c.size)
 (ho:∀(i:Nat)(v:Value),c[i]?=some v→v.oneCell'=true) (hc:∀(i:Nat)(a:AV)(v:Value),cs[i]?=some a→c[i]?=some v→Rv F w a v):∀{v:Value},Rv F w x v→Rv F w y v:=by
 have cell:∀(k:Nat)(x:AV),cs[k]?=some x→w.cell? ⟨b,k,none⟩=some (c[k]?.getD (Value.bool false))∧Rv F w x (c[k]?.getD (Value.bool false)):=fun k x hk=>by
  have hlt:k<c.size:=G4 (A2.1 hk).1 hl;have hg:c[k]?=some c[k]:=D8 hlt;refine⟨?_,?_⟩;·simp[World.cell?,hb,hg]
  ·rw[hg];exact hc k x _ hk hg
 have one:∀ k:Nat,(c[k]?.getD (Value.bool false)).oneCell'=true:=fun k=>by
  cases hk:c[k]? with
  | none=>rfl
  | some v=>exact ho k v hk
 induction hf with
 | same v=>exact fun h=>h
 | sl off s len rows hl' hs h =>
   intro v hv;cases hv with
   | sl _ _ _ _ cap c' e' fr' hb' hcap hlen =>
     subst hl';exact .fs rows b off s cap (fun i j=>c[off+i*s+j]?.getD (Value.bool false)) hlen hF hs (fun i r j x h1 h2=>(cell _ x (h i r j x h1 h2)).1) (fun i j=>one _) (fun i r j x h1 h2=>(cell _ x (h i r j x h1 h2)).2)
 | pt off s i o rows hs h =>
   intro v hv;cases hv with
   | pt =>
     exact .fp rows i o b off s (fun i j=>c[off+i*s+j]?.getD (Value.bool false)) hF hs (fun i r j x h1 h2=>(cell _ x (h i r j x h1 h2)).1) (fun i j=>one _) (fun i r j x h1 h2=>(cell _ x (h i r j x h1 h2)).2)
 | agg xs ys hl' h ih =>
   intro v hv;cases hv with
   | agg _ vs h1 h2 h3 =>
     refine .agg _ _ (hl'.symm.trans h1) h2 fun i x v hx hv=>?_;have hlt:i<xs.length:=by rw[hl'];exact(A2.1 hx).1
     have hg:xs[i]?=some xs[i]:=A4 hlt;exact ih i _ x hg hx (h3 i _ v hg hv)
 | tup xs ys hl' h ih =>
   intro v hv;cases hv with
   | tup _ vs h1 h3 =>
     refine .tup _ _ (hl'.symm.trans h1) fun i x v hx hv=>?_;have hlt:i<xs.length:=by rw[hl'];exact(A2.1 hx).1
     have hg:xs[i]?=some xs[i]:=A4 hlt;exact ih i _ x hg hx (h3 i _ v hg hv)
 | fn f xs ys xs' ys' hl1 h1 hl2 h2 ih1 ih2 =>
   intro v hv;cases hv with
   | fn _ _ _ fv cv k1 k2 k3 k4 =>
     refine .fn _ _ _ _ _ (hl1.symm.trans k1) (hl2.symm.trans k2) (fun i x v hx hv=>?_) (fun i x v hx hv=>?_)
     ·have hlt:i<xs.length:=by rw[hl1];exact(A2.1 hx).1
      have hg:xs[i]?=some xs[i]:=A4 hlt;exact ih1 i _ x hg hx (k3 i _ v hg hv)
     ·have hlt:i<xs'.length:=by rw[hl2];exact(A2.1 hx).1
      have hg:xs'[i]?=some xs'[i]:=A4 hlt;exact ih2 i _ x hg hx (k4 i _ v hg hv)

inductive FzB(b:Nat)(cs:List AV):ABlk→ABlk→Prop where
 | same (x:ABlk):FzB b cs x x
 | cells (p:Bool) (xs ys:List AV) (hl:xs.length=ys.length) (h:∀(i:Nat)(x y:AV),xs[i]?=some x→ys[i]?=some y→Fz b cs x y):FzB b cs (.cells p xs) (.cells p ys)
 | map (p:Bool) (xs ys:List (AV×AV)) (hl:xs.length=ys.length) (h:∀(i:Nat)(x y:AV×AV),xs[i]?=some x→ys[i]?=some y→Fz b cs x.1 y.1∧Fz b cs x.2 y.2):FzB b cs (.map p xs) (.map p ys)


theorem Shift.freeze{b:Nat}{wr:Bool}{cs:List AV}{env':aH}{H':Hp}(hb:H b=some (.cells wr cs))(he:∀ k,Fz b cs (env k) (env' k))(hb':H' b=none)
 (hH:∀ c,c≠b→H' c=none∨∃ x y,H c=some x∧H' c=some y∧FzB b cs x y):Shift env H env' H':=by
 intro F w a st re;obtain⟨o,h1,h2⟩:=st.blk b _ hb;cases h2 with
 | cells _ _ c e fr hfr hl ho hc =>
   have hu:Up F w (fun x=>F x∨x=b) w:=⟨fun _ h=>.inl h,fun _ _=>rfl,fun b c e fr h=>⟨c,e,fr,h,rfl⟩,A8 _⟩;have hc':∀(i:Nat)(a:AV)(v:Value),cs[i]?=some a→c[i]?=some v→Rv (fun x=>F x∨x=b) w a v:=fun i a v h1 h2=>(hc i a v h1 h2).up hu;have rv:∀{x y:AV}{v:Value},Fz b cs x y→Rv F w x v→Rv (fun x=>F x∨x=b) w y v:=fun hf h=>Rv.fz hf h1 (.inr rfl) hl ho hc' (h.up hu);refine⟨fun x=>F x∨x=b,⟨fun _ h=>.inl h,fun x hx=>?_,fun x hx=>?_,fun x hx=>?_,A8 _,fun _ _ _=>rfl,fun b c e fr h=>⟨c,e,fr,h,rfl⟩,SameIO.refl w⟩,⟨fun x hx=>?_,fun x y hx hF=>?_,fun x y hx=>?_⟩,⟨fun k=>rv (he k) (re.rv k),re.gi.up hu⟩⟩
   ·rcases hx with hx|rfl
    ·exact .inl hx
    ·exact .inr (.inl (by simp[hb]))
   ·by_cases hxb:x=b
    ·subst hxb;simp[hb']at hx
    ·rcases hH x hxb with h|⟨y,z,h3,h4,h5⟩
     ·simp[h]at hx
     ·left;simp[h3]
   ·by_cases hxb:x=b
    ·subst hxb;simp[qV,hb']at hx
    ·rcases hH x hxb with h|⟨y,z,h3,h4,h5⟩
     ·simp[qV,h]at hx
     ·left
      simp only[qV,h3,h4]at hx ⊢;cases h5<;>exact hx
   ·rcases hx with hx|rfl
    ·exact st.lt x hx
    ·exact st.own_lt hb
   ·by_cases hxb:x=b
    ·subst hxb;simp[hb']at hx
    ·rcases hH x hxb with h|⟨y',z,h3,h4,h5⟩
     ·simp[h]at hx
     ·rcases hF with hF|hF
      ·exact st.dis x y' h3 hF
      ·exact hxb hF
   ·by_cases hxb:x=b
    ·subst hxb;simp[hb']at hx
    ·rcases hH x hxb with h|⟨y',z,h3,h4,h5⟩
     ·simp[h]at hx
     ·rw[h4]at hx
      simp only[oSI]at hx;subst hx;obtain⟨o',k1,k2⟩:=st.blk x y' h3;refine⟨o',k1,?_⟩;cases h5 with
      | same=>exact k2.up hu
      | cells p xs ys hl' h =>
        cases k2 with
        | cells _ _ c' e' fr' hfr' hl'' ho' hc'' =>
          refine .cells _ _ _ _ _ hfr' AM ho' fun i a v ha hv=>?_;have hlt:i<xs.length:=by rw[hl'];exact(A2.1 ha).1
          have hg:xs[i]?=some xs[i]:=A4 hlt;exact rv (h i _ a hg ha) (hc'' i _ v hg hv)
      | map p xs ys hl' h =>
        cases k2 with
        | map _ _ m clock hl'' hm =>
          refine .map _ _ _ _ AM fun i a v ha hv=>?_;have hlt:i<xs.length:=by rw[hl'];exact(A2.1 ha).1
          have hg:xs[i]?=some xs[i]:=A4 hlt;exact⟨rv (h i _ a hg ha).1 (hm i _ v hg hv).1,rv (h i _ a hg ha).2 (hm i _ v hg hv).2⟩

variable{P:Program}{B:Base}{F:Nat→Prop}{w:World}{H:Hp}{env:aH}{a:Act}{N:Nat}

theorem FnW.base{B':Base}{f:FuncId}{as:List AV}{Q:AV→Hp→Prop}(h:FnW B P f as H Q)(hB:B.Up B'.F B'.w):FnW B' P f as H Q :=
 ⟨h.1,fun F w vs h1 h2 h3=>h.2 F w vs (Up.trans hB h1) h2 h3⟩
theorem CallV.base{B':Base}{fv:AV}{as:List AV}{Q:AV→Hp→Prop}(h:CallV B P fv as H Q)(hB:B.Up B'.F B'.w):CallV B' P fv as H Q:=by
 unfold CallV at *;split at h;·exact FnW.base h hB
 ·exact fun F w vs h1 h2 h3=>h F w vs (Up.trans hB h1) h2 h3
 ·exact h.elim

def pR(env:aH):List Nat→List AV→aH
 | p::ps,v::vs=>pR (upd env p v) ps vs
 | _,_=>env

theorem aJj:∀(ps:List Nat)(as:List AV)(vs:List Value)(env:aH)(t:Array Value),as.length=vs.length→(∀(i:Nat)(a:AV)(v:Value),as[i]?=some a→vs[i]?=some v→Rv F w a v)→(∀ p∈ps,p<t.size) →
 RE F w env { tmps:=t,defers:=[] }→RE F w (pR env ps as) { tmps:=(ps.zip vs).foldl (fun t p=>t.setIfInBounds p.1 p.2) t,defers:=[] }∧((ps.zip vs).foldl (fun t p=>t.setIfInBounds p.1 p.2) t).size=t.size:=by
 intro ps;induction ps with
 | nil=>intro as vs env t _ _ _ re;exact⟨re,rfl⟩
 | cons p ps ih =>
   intro as vs env t hl hv hp re;cases as with
   | nil=>cases vs with
     | nil=>exact⟨re,rfl⟩
     | cons v vs=>simp at hl
   | cons a as=>cases vs with
     | nil=>simp at hl
     | cons v vs =>
       have h1:RE F w (upd env p a) { tmps:=t.setIfInBounds p v,defers:=[] }:=by
        have:=RE.put (d:=some p) re (hv 0 a v rfl rfl) (fun k hk=>by simp at hk;subst hk;exact hp p (by simp));exact this
       obtain⟨h2,h3⟩:=ih as vs (upd env p a) (t.setIfInBounds p v) (by simpa using hl) (fun i a v h1 h2=>hv (i+1) a v (by simpa using h1) (by simpa using h2)) (fun p hp'=>by simpa using hp p (by simp[hp'])) h1;exact⟨h2,by simpa using h3⟩

theorem aEc(ps:Array Tmp)(vs:Array Value)(t:Array Value):(ps.zip vs).foldl (fun t (p:Tmp×Value)=>t.setIfInBounds p.1 p.2) t=(ps.toList.zip vs.toList).foldl (fun t p=>t.setIfInBounds p.1 p.2) t:=by
 rw[←Array.foldl_toList,Array.toList_zip]

def aMO(l:Nat)(oR oB:Obj)(oD:Code→Obj)(Q':AV→Hp→Prop):QC:=fun e _ H3=>H3 l=some (.obj true oB)∧match e with
 | .normal=>Q' (.bool true) (hset H3 l (.obj true oR))
 | .ret=>Q' (.bool false) (hset H3 l (.obj true (oD .ret)))
 | .exit id=>Q' (.bool false) (hset H3 l (.obj true (oD (.exit id))))

def aMN(l:Nat)(oR:Obj)(oD:Code→Obj)(Q:QC)(env:aH):AV→Hp→Prop:=fun _ H' =>
 (H' l=some (.obj true oR)∧Q .normal env (mA H' l))∨(H' l=some (.obj true (oD .ret))∧Q .ret env (mA H' l))∨∃ id,H' l=some (.obj true (oD (.exit id)))∧Q (.exit id) env (mA H' l)

theorem mJ(H:Hp)(b:Nat)(x:ABlk):∀ c y,mA H b c=some y→hset H b x c=some y:=by
 intro c y h;by_cases hc:c=b;·subst hc;simp[mA]at h
 ·rw[aJ _ _ hc];simpa [mA,hc]using h

theorem lD{l:Nat}{o o':Obj}(st:St F w H)(hl:H l=some (.obj true o))(hc:o.isCells=false):Ext F w H F (w.putObj l o') (hset H l (.obj true o'))∧St F (w.putObj l o') (hset H l (.obj true o'))∧w.heap[l]?=some o:=by
 obtain⟨o1,h1,h2⟩:=st.blk l _ hl;cases h2 with
 | obj => 
   have:=lL (w':=w.putObj l o') (y:=.obj true o') (o':=o') st hl rfl h1 rfl ⟨rfl,rfl,rfl⟩ (fun c e fr h=>by subst h;simp[Obj.isCells]at hc) (fun F' w' _=>.obj true o');exact⟨this.1,this.2,h1⟩

theorem W.rng{g:Operand}{f':AO}{ps:Array Tmp}{assign body:Code}{Q:QC}{gf:FuncId}{first cap:List AV}(hg:co g=some f')(hev:aK env f' = .fn (.func gf) first cap)(hps:∀ p∈ps.toList,p<N)
 (h:∀(B':Base)(l:Nat)(oR oB:Obj)(oD:Code→Obj),B.Up B'.F B'.w→H l=none→B.w.heap.size≤l→l<B'.w.heap.size→(∃ q,oB = .loop q) →
  (∀(B1:Base),B'.Up B1.F B1.w→∀(as:List AV)(H':Hp)(Q':AV→Hp→Prop),H' l=some (.obj true oR)→as.length=ps.size →
   W B1 P (some l) N assign (fun e env2 H2=>e = .normal∧H2 l=some (.obj true oR)∧W B1 P (some l) N body (aMO l oR oB oD Q') env2 (hset H2 l (.obj true oB))) (pR env ps.toList as) H'→YW B1 P l as H' Q') →
  FnW B' P gf (first++[.fn (.yield l) [] []]++cap) (hset H l (.obj true oR)) (aMN l oR oD Q env)):W B P none N (.rangeFunc g ps assign body) Q env H:=by
 intro F w a n0 T hB hn0 hsz st re mk;refine wpIn_rangeFunc ?_;intro fn _;obtain⟨rec,hrec⟩:∃ rec:LoopState→Option Code→Loop,rec=fun st pe=>{ state:=st,pending:=pe,fn,tmps:=a.tmps,params:=ps,assign,body,defers:=w.heap.size }:=⟨_,rfl⟩;have e0:=mK (x:=.obj true (.deferred (some []))) (o:=.deferred (some [])) st (.obj _ _) st.size_none;have hD0:H w.heap.size=none:=by
  cases hx:H w.heap.size with
  | none=>rfl
  | some x=>exact absurd rfl (st.size_none _ (by simp[hx]))
 have hf0:∀ b x,H b=some x→hset H w.heap.size (.obj true (.deferred (some []))) b=some x:=fun b x hb=>by
  rw[aJ _ _ (fun e=>by subst e;simp[hD0]at hb)];exact hb
 have E0:Ext F w H F (w.alloc (.deferred (some []))) H:=e0.1.forget hf0;have S0:St F (w.alloc (.deferred (some []))) H:=e0.2.forget hf0;have e1:=mK (x:=.obj true (.loop (rec .ready none))) (o:=.loop (rec .ready none)) S0 (.obj _ _) S0.size_none;rw[World.size_alloc]at e1;obtain⟨W1,hW1⟩:∃ W1,(w.alloc (.deferred (some []))).alloc (.loop (rec .ready none))=W1:=⟨_,rfl⟩;rw[hW1]at e1;obtain⟨E1,S1⟩:=e1;have E01:=E0.trans E1;obtain⟨l,hl⟩:∃ l,w.heap.size+1=l:=⟨_,rfl⟩;rw[hl]at E1 S1 E01;have hlH:H l=none:=by
  cases hx:H l with
  | none=>rfl
  | some x=>exact absurd (st.own_lt hx) AM
 have hW1D:W1.heap[w.heap.size]?=some (.deferred (some [])):=by
  rw[←hW1];show ((w.heap.push _).push _)[w.heap.size]?=_;rw[aD4,if_neg (by simp),aD4,if_pos rfl]
 have hB1:B.Up F W1:=hB.step st E01;have re1:RE F W1 env a:=re.up (E01.up st);have hW1s:W1.heap.size=w.heap.size+2:=by rw[←hW1];simp
 have hcall:=h ⟨F,W1,re1.gi⟩ l (.loop (rec .ready none)) (.loop (rec .busy none)) (fun c=>.loop (rec .done (some c))) hB1 hlH (by have:=hB.le;omega) (by show l<W1.heap.size;omega) ⟨_,rfl⟩ ?_
 ·have hgv:=aZ re1 hg
  rw[hev]at hgv;obtain⟨vg,hvg⟩:∃ v,a.eval g=v:=⟨_,rfl⟩;rw[hvg]at hgv;cases hgv with
  | fn _ _ _ fv cv k1 k2 k3 k4 =>
    have hA:Args F W1 (first++[.fn (.yield l) [] []]++cap) (fv ++ #[.func (.yield l) #[] #[]]++cv) :=
     eS (eS ⟨k1,k3⟩ ⟨rfl,fun i x v hx hv=>by
      cases i with
      | zero=>simp at hx hv;subst hx hv;exact .fn _ _ _ _ _ rfl rfl (by simp) (by simp)
      | succ i=>simp at hx⟩) ⟨k2,k4⟩
    have hc:=hcall.2 F W1 _ (Up.refl _ _) S1 hA
    refine⟨l,[{ target:=.collected w.heap.size,args := #[] }],W1,{ target:=.fn (.func gf) cv,args:=fv ++ #[.func (.yield l) #[] #[]] },W1,gf,
     fv ++ #[.func (.yield l) #[] #[]]++cv,W1,?_,?_,?_,?_,?_,?_⟩
    ·rw[←hW1,hrec,←hl];exact run_enterLoop_outer _ _ _ _ _
    ·simp only[resolve,hvg]
     simp[go_sem,Deferred.ofValue]
    ·exact fun _ _=>trivial
    ·simp only[invoke]
     exact hcall.1 _ _
    ·exact fun h=>by simp[FW,Fence.wide]at h
    ·have hc':CallsIn (FW none) (0-1) P gf (fv ++ #[.func (.yield l) #[] #[]]++cv) W1 (uT F W1 (hset H l (.obj true (.loop (rec .ready none)))) (aMN l (.loop (rec .ready none)) (fun c=>.loop (rec .done (some c))) Q env)):=hc
     refine CallsIn.mono hc' ?_;rintro e W2 ⟨rv,v,F2,H2,rfl,l1,l2,l3,l4⟩
     have fin:∀(o:Obj)(st':LoopState)(pe:Option Code),o = .loop (rec st' pe)→st' ≠ .busy→H2 l=some (.obj true o)→∃ w4,(Instr.endLoop l).run P W2 = .ok pe w4∧Ext F w H F2 w4 (mA H2 l)∧St F2 w4 (mA H2 l) ∧
      RE F2 w4 env a∧Mk n0 T F2 (mA H2 l) w4 ({ target:=.collected w.heap.size,args := #[] }::a.defers):=by
      intro o st' pe ho hst hHl;subst ho;obtain⟨m1,m2,m3⟩:=lD (o':=.loop { rec st' pe with state:=.exhausted }) l2 hHl (by simp[Obj.isCells]);have hrun:=run_endLoop (P:=P) m3 (by rw[hrec];exact hst);have M1:=E01.trans (l1.trans m1);have M2:=M1.forget (mJ H2 l _);refine⟨_,by rw[hrun];rw[hrec],M2,m2.forget (mJ H2 l _),re.up (M1.up st),?_⟩;have mk0:Mk n0 T F (hset H l (.obj true (.loop (rec .ready none)))) W1 ({ target:=.collected w.heap.size,args := #[] }::a.defers):=by
       refine mk.cons (fun d hd e=>?_) E01 ⟨w.heap.size,rfl,hn0,hW1D,fun hF=>absurd (st.lt _ hF) AM,by rw[aJ _ _ AM];exact hD0⟩;obtain⟨D,q1,_,q3,_⟩:=hd;rw[e]at q1;simp only[Deferred.mk.injEq,Target.collected.injEq,AAj]at q1;have:=(B7.1 q3).1;omega
      exact(mk0.ext (l1.trans m1)).sub (mJ H2 l _)
     rcases l4 with ⟨q1,q2⟩|⟨q1,q2⟩|⟨id,q1,q2⟩
     ·obtain⟨w4,r1,r2,r3,r4,r5⟩:=fin _ .ready none rfl (by simp) q1
      exact⟨none,w4,r1,.normal,env,F2,_,rfl,hsz,r2,r3,r4,r5,q2⟩
     ·obtain⟨w4,r1,r2,r3,r4,r5⟩:=fin _ .done (some .ret) rfl (by simp) q1
      exact⟨some .ret,w4,r1,wpIn_ret ⟨.ret,env,F2,_,rfl,hsz,r2,r3,r4,r5,q2⟩⟩
     ·obtain⟨w4,r1,r2,r3,r4,r5⟩:=fin _ .done (some (.exit id)) rfl (by simp) q1
      exact⟨some (.exit id),w4,r1,wpIn_exit ⟨.exit id,env,F2,_,rfl,hsz,r2,r3,r4,r5,q2⟩⟩
 ·-- a round
  intro B1 hB1' as H' Q' hHl hlen hass F2 w2 vs hB2' st2 hA;have hB2:Up F W1 F2 w2:=Up.trans hB1' hB2';obtain⟨m1,_,m3⟩:=lD (o':=.loop (rec .ready none)) st2 hHl (by simp[Obj.isCells]);have hsize:vs.size=ps.size:=by rw[←hlen];exact hA.1.symm
  have hy:=run_yield (P:=P) (args:=vs) m3 (by rw[hrec];exact hsize);have hre:RE F2 w2 env { tmps:=a.tmps,defers:=[] }:=re1.up hB2;obtain⟨p1,p2⟩:=aJj ps.toList as vs.toList env a.tmps (by simpa using hA.1) (fun i x v hx hv=>hA.2 i x v hx (by simpa using hv)) (fun p hp=>by rw[hsz];exact hps p hp) hre;rw[←aEc]at p1 p2;rw[hrec]at hy;refine⟨fn,_,assign,body,hy,roundIn_of_wpIn (by trivial) ?_⟩;refine wpIn_mono (hass F2 w2 { tmps:=_,defers:=[] } w2.heap.size [] hB2' (A8 _) (p2.trans hsz) st2 p1 Mk.nil) ?_;rintro e a3 w3 ⟨x,env3,F3,H3,q1,q2,q3,q4,q5,q6,q7,q8,q9⟩;subst q7;cases e with
  | normal =>
    obtain⟨s1,s2,s3⟩:=lD (o':=.loop (rec .busy none)) q4 q8 (by simp[Obj.isCells]);refine⟨_,run_beginRound s3 (by rw[hrec]),?_⟩;have hbusy:({ rec .ready none with state:=.busy }:Loop)=rec .busy none:=by rw[hrec]
    rw[hbusy];have E3:=q3.trans s1;refine wpIn_mono (q9 F3 _ a3 w2.heap.size [] (Base.Up.step (B:=B1) hB2' st2 E3) E3.le q2 s2 (q5.up (s1.up q4)) (q6.ext s1)) ?_;rintro e a4 w4 ⟨x,env4,F4,H4,t1,t2,t3,t4,t5,t6,t7,t8⟩
    have fin:∀(jump:Option Code)(o:Obj),o = .loop (rec (if jump.isNone then .ready else .done) jump)→Q' (.bool jump.isNone) (hset H4 l (.obj true o)) →
     ∃ v w',(Instr.endRound l jump).run P w4 = .ok v w'∧uT F2 w2 H' Q' (.returned v) w':=by
     intro jump o ho hQ;obtain⟨u1,u2,u3⟩:=lD (o':=o) t4 t7 (by simp[Obj.isCells]);refine⟨_,_,run_endRound jump u3,_,.bool jump.isNone,F4,hset H4 l (.obj true o),rfl,?_,?_,.bool _,hQ⟩
     ·have:({ rec .busy none with state:=if jump.isNone then .ready else .done,pending:=jump }:Loop)=rec (if jump.isNone then .ready else .done) jump:=by rw[hrec]
      rw[this,←ho];exact E3.trans (t3.trans u1)
     ·have:({ rec .busy none with state:=if jump.isNone then .ready else .done,pending:=jump }:Loop)=rec (if jump.isNone then .ready else .done) jump:=by rw[hrec]
      rw[this,←ho];exact u2
    cases e with
    | normal=>simp only at t1;subst t1;exact fin none _ rfl t8
    | ret=>simp only at t1;subst t1;exact fin (some .ret) _ rfl t8
    | exit id=>simp only at t1;subst t1;exact fin (some (.exit id)) _ rfl t8
    | goto l=>exact t1.elim
    | panic c=>exact t1.elim
    | outgrown=>exact t1.elim
  | exit id=>simp at q1
  | ret=>simp at q1
  | goto l=>exact q1.elim
  | panic c=>exact q1.elim
  | outgrown=>exact q1.elim

theorem W.rngIn{l0:Nat}{r0:Loop}(hl0:H l0=some (.obj true (.loop r0))){g:Operand}{f':AO}{ps:Array Tmp}{assign body:Code}{Q:QC}{gf:FuncId}{first cap:List AV}(hg:co g=some f')(hev:aK env f' = .fn (.func gf) first cap)(hps:∀ p∈ps.toList,p<N)
 (h:∀(B':Base)(l:Nat)(oR oB:Obj)(oD:Code→Obj),B.Up B'.F B'.w→H l=none→B.w.heap.size≤l→l<B'.w.heap.size→(∃ q,oB = .loop q) →
  (∀(B1:Base),B'.Up B1.F B1.w→∀(as:List AV)(H':Hp)(Q':AV→Hp→Prop),H' l=some (.obj true oR)→as.length=ps.size →
   W B1 P (some l) N assign (fun e env2 H2=>e = .normal∧H2 l=some (.obj true oR)∧W B1 P (some l) N body (aMO l oR oB oD Q') env2 (hset H2 l (.obj true oB))) (pR env ps.toList as) H'→YW B1 P l as H' Q') →
  FnW B' P gf (first++[.fn (.yield l) [] []]++cap) (hset H l (.obj true oR)) (aMN l oR oD Q env)):W B P (some l0) N (.rangeFunc g ps assign body) Q env H:=by
 intro F w a n0 T hB hn0 hsz st re mk;refine wpIn_rangeFunc ?_;intro fn _;obtain⟨rec,hrec⟩:∃ rec:LoopState→Option Code→Loop,rec=fun st pe=>{ state:=st,pending:=pe,fn,tmps:=a.tmps,params:=ps,assign,body,defers:=r0.defers }:=⟨_,rfl⟩;have hw0:w.heap[l0]?=some (.loop r0):=by
  obtain⟨o1,h1,h2⟩:=st.blk l0 _ hl0;cases h2 with
  | obj=>exact h1
 have e1:=mK (x:=.obj true (.loop (rec .ready none))) (o:=.loop (rec .ready none)) st (.obj _ _) st.size_none;obtain⟨W1,hW1⟩:∃ W1,w.alloc (.loop (rec .ready none))=W1:=⟨_,rfl⟩;rw[hW1]at e1;obtain⟨E1,S1⟩:=e1;obtain⟨l,hl⟩:∃ l,w.heap.size=l:=⟨_,rfl⟩;rw[hl]at E1 S1;have E01:=E1;have hlH:H l=none:=by
  cases hx:H l with
  | none=>rfl
  | some x=>exact absurd (st.own_lt hx) AM
 have hB1:B.Up F W1:=hB.step st E01;have re1:RE F W1 env a:=re.up (E01.up st);have hW1s:W1.heap.size=w.heap.size+1:=by rw[←hW1];simp
 have hcall:=h ⟨F,W1,re1.gi⟩ l (.loop (rec .ready none)) (.loop (rec .busy none)) (fun c=>.loop (rec .done (some c))) hB1 hlH (by have:=hB.le;omega) (by show l<W1.heap.size;omega) ⟨_,rfl⟩ ?_
 ·have hgv:=aZ re1 hg
  rw[hev]at hgv;obtain⟨vg,hvg⟩:∃ v,a.eval g=v:=⟨_,rfl⟩;rw[hvg]at hgv;cases hgv with
  | fn _ _ _ fv cv k1 k2 k3 k4 =>
    have hA:Args F W1 (first++[.fn (.yield l) [] []]++cap) (fv ++ #[.func (.yield l) #[] #[]]++cv) :=
     eS (eS ⟨k1,k3⟩ ⟨rfl,fun i x v hx hv=>by
      cases i with
      | zero=>simp at hx hv;subst hx hv;exact .fn _ _ _ _ _ rfl rfl (by simp) (by simp)
      | succ i=>simp at hx⟩) ⟨k2,k4⟩
    have hc:=hcall.2 F W1 _ (Up.refl _ _) S1 hA
    refine⟨l,[],W1,{ target:=.fn (.func gf) cv,args:=fv ++ #[.func (.yield l) #[] #[]] },W1,gf,
     fv ++ #[.func (.yield l) #[] #[]]++cv,W1,?_,?_,?_,?_,?_,?_⟩
    ·rw[←hW1,hrec,←hl];exact run_enterLoop_inner hw0 _ _ _ _ _
    ·simp only[resolve,hvg]
     simp[go_sem,Deferred.ofValue]
    ·exact fun _ _=>trivial
    ·simp only[invoke]
     exact hcall.1 _ _
    ·exact fun h=>by simp[FW,Fence.wide]at h
    ·have hc':CallsIn (FW none) (0-1) P gf (fv ++ #[.func (.yield l) #[] #[]]++cv) W1 (uT F W1 (hset H l (.obj true (.loop (rec .ready none)))) (aMN l (.loop (rec .ready none)) (fun c=>.loop (rec .done (some c))) Q env)):=hc
     refine CallsIn.mono hc' ?_;rintro e W2 ⟨rv,v,F2,H2,rfl,l1,l2,l3,l4⟩
     have fin:∀(o:Obj)(st':LoopState)(pe:Option Code),o = .loop (rec st' pe)→st' ≠ .busy→H2 l=some (.obj true o)→∃ w4,(Instr.endLoop l).run P W2 = .ok pe w4∧Ext F w H F2 w4 (mA H2 l)∧St F2 w4 (mA H2 l) ∧
      RE F2 w4 env a∧Mk n0 T F2 (mA H2 l) w4 a.defers:=by
      intro o st' pe ho hst hHl;subst ho;obtain⟨m1,m2,m3⟩:=lD (o':=.loop { rec st' pe with state:=.exhausted }) l2 hHl (by simp[Obj.isCells]);have hrun:=run_endLoop (P:=P) m3 (by rw[hrec];exact hst);have M1:=E01.trans (l1.trans m1);have M2:=M1.forget (mJ H2 l _);refine⟨_,by rw[hrun];rw[hrec],M2,m2.forget (mJ H2 l _),re.up (M1.up st),?_⟩;have mk0:=mk.ext E01;exact(mk0.ext (l1.trans m1)).sub (mJ H2 l _)
     rcases l4 with ⟨q1,q2⟩|⟨q1,q2⟩|⟨id,q1,q2⟩
     ·obtain⟨w4,r1,r2,r3,r4,r5⟩:=fin _ .ready none rfl (by simp) q1
      exact⟨none,w4,r1,.normal,env,F2,_,rfl,hsz,r2,r3,r4,r5,q2⟩
     ·obtain⟨w4,r1,r2,r3,r4,r5⟩:=fin _ .done (some .ret) rfl (by simp) q1
      exact⟨some .ret,w4,r1,wpIn_ret ⟨.ret,env,F2,_,rfl,hsz,r2,r3,r4,r5,q2⟩⟩
     ·obtain⟨w4,r1,r2,r3,r4,r5⟩:=fin _ .done (some (.exit id)) rfl (by simp) q1
      exact⟨some (.exit id),w4,r1,wpIn_exit ⟨.exit id,env,F2,_,rfl,hsz,r2,r3,r4,r5,q2⟩⟩
 ·-- a round
  intro B1 hB1' as H' Q' hHl hlen hass F2 w2 vs hB2' st2 hA;have hB2:Up F W1 F2 w2:=Up.trans hB1' hB2';obtain⟨m1,_,m3⟩:=lD (o':=.loop (rec .ready none)) st2 hHl (by simp[Obj.isCells]);have hsize:vs.size=ps.size:=by rw[←hlen];exact hA.1.symm
  have hy:=run_yield (P:=P) (args:=vs) m3 (by rw[hrec];exact hsize);have hre:RE F2 w2 env { tmps:=a.tmps,defers:=[] }:=re1.up hB2;obtain⟨p1,p2⟩:=aJj ps.toList as vs.toList env a.tmps (by simpa using hA.1) (fun i x v hx hv=>hA.2 i x v hx (by simpa using hv)) (fun p hp=>by rw[hsz];exact hps p hp) hre;rw[←aEc]at p1 p2;rw[hrec]at hy;refine⟨fn,_,assign,body,hy,roundIn_of_wpIn (by trivial) ?_⟩;refine wpIn_mono (hass F2 w2 { tmps:=_,defers:=[] } w2.heap.size [] hB2' (A8 _) (p2.trans hsz) st2 p1 Mk.nil) ?_;rintro e a3 w3 ⟨x,env3,F3,H3,q1,q2,q3,q4,q5,q6,q7,q8,q9⟩;subst q7;cases e with
  | normal =>
    obtain⟨s1,s2,s3⟩:=lD (o':=.loop (rec .busy none)) q4 q8 (by simp[Obj.isCells]);refine⟨_,run_beginRound s3 (by rw[hrec]),?_⟩;have hbusy:({ rec .ready none with state:=.busy }:Loop)=rec .busy none:=by rw[hrec]
    rw[hbusy];have E3:=q3.trans s1;refine wpIn_mono (q9 F3 _ a3 w2.heap.size [] (Base.Up.step (B:=B1) hB2' st2 E3) E3.le q2 s2 (q5.up (s1.up q4)) (q6.ext s1)) ?_;rintro e a4 w4 ⟨x,env4,F4,H4,t1,t2,t3,t4,t5,t6,t7,t8⟩
    have fin:∀(jump:Option Code)(o:Obj),o = .loop (rec (if jump.isNone then .ready else .done) jump)→Q' (.bool jump.isNone) (hset H4 l (.obj true o)) →
     ∃ v w',(Instr.endRound l jump).run P w4 = .ok v w'∧uT F2 w2 H' Q' (.returned v) w':=by
     intro jump o ho hQ;obtain⟨u1,u2,u3⟩:=lD (o':=o) t4 t7 (by simp[Obj.isCells]);refine⟨_,_,run_endRound jump u3,_,.bool jump.isNone,F4,hset H4 l (.obj true o),rfl,?_,?_,.bool _,hQ⟩
     ·have:({ rec .busy none with state:=if jump.isNone then .ready else .done,pending:=jump }:Loop)=rec (if jump.isNone then .ready else .done) jump:=by rw[hrec]
      rw[this,←ho];exact E3.trans (t3.trans u1)
     ·have:({ rec .busy none with state:=if jump.isNone then .ready else .done,pending:=jump }:Loop)=rec (if jump.isNone then .ready else .done) jump:=by rw[hrec]
      rw[this,←ho];exact u2
    cases e with
    | normal=>simp only at t1;subst t1;exact fin none _ rfl t8
    | ret=>simp only at t1;subst t1;exact fin (some .ret) _ rfl t8
    | exit id=>simp only at t1;subst t1;exact fin (some (.exit id)) _ rfl t8
    | goto l=>exact t1.elim
    | panic c=>exact t1.elim
    | outgrown=>exact t1.elim
  | exit id=>simp at q1
  | ret=>simp at q1
  | goto l=>exact q1.elim
  | panic c=>exact q1.elim
  | outgrown=>exact q1.elim

theorem WD.rng{r:Option Nat}{f':AO}{ps:List Nat}{assign body:DCode}{Q:QC}{gf:FuncId}{first cap:List AV}(hr:r=none∨∃ l0 r0,r=some l0∧H l0=some (.obj true (.loop r0)))(hev:aK env f' = .fn (.func gf) first cap)
 (h:∀(B':Base)(l:Nat)(oR oB:Obj)(oD:Code→Obj),B.Up B'.F B'.w→H l=none→B.w.heap.size≤l→l<B'.w.heap.size→(∃ q,oB = .loop q) →
  (∀(B1:Base),B'.Up B1.F B1.w→∀(as:List AV)(H':Hp)(Q':AV→Hp→Prop),H' l=some (.obj true oR)→as.length=ps.length →
   WD B1 P (some l) N assign (fun e env2 H2=>e = .normal∧H2 l=some (.obj true oR)∧WD B1 P (some l) N body (aMO l oR oB oD Q') env2 (hset H2 l (.obj true oB))) (pR env ps as) H'→YW B1 P l as H' Q') →
  FnW B' P gf (first++[.fn (.yield l) [] []]++cap) (hset H l (.obj true oR)) (aMN l oR oD Q env)):WD B P r N (.rng f' ps assign body) Q env H:=by
 intro c hc;cases c<;>simp only[eH]at hc
 case rangeFunc g qs x y =>
  split at hc
  ·rename_i g' x' y' hg hx hy
   split at hc
   ·rename_i hall
    simp only[oSI,DCode.rng.injEq]at hc;obtain⟨rfl,rfl,rfl,rfl⟩:=hc;have hps:∀ p∈qs.toList,p<N:=fun p hp=>by rw[C7]at hall;simpa using hall p hp
    have h':=fun(B':Base) (l:Nat) (oR oB:Obj) (oD:Code→Obj) (h1:B.Up B'.F B'.w) (h2:H l=none) (h3:B.w.heap.size≤l) (h3':l<B'.w.heap.size) (h4:∃ q,oB = .loop q)
     (hround:∀(B1:Base),B'.Up B1.F B1.w→∀(as:List AV)(H':Hp)(Q':AV→Hp→Prop),H' l=some (.obj true oR)→as.length=qs.size →
      W B1 P (some l) N x (fun e env2 H2=>e = .normal∧H2 l=some (.obj true oR)∧W B1 P (some l) N y (aMO l oR oB oD Q') env2 (hset H2 l (.obj true oB))) (pR env qs.toList as) H'→YW B1 P l as H' Q') =>
     h B' l oR oB oD h1 h2 h3 h3' h4 fun B1 hB1 as H' Q' h5 h6 h7=>hround B1 hB1 as H' Q' h5 (by simpa using h6) ((h7 x hx).mono fun e env2 H2 ⟨k1,k2,k3⟩=>⟨k1,k2,k3 y hy⟩)
    rcases hr with rfl|⟨l0,r0,rfl,hl0⟩;·exact W.rng hg hev hps h'
    ·exact W.rngIn hl0 hg hev hps h'
   ·simp at hc
  ·simp at hc
 all_goals exfalso;first|(simp at hc;done)|((repeat' split at hc)<;>simp at hc;done)

variable{P:Program}{B:Base}{H:Hp}{env:aH}{r:Option Nat}{N:Nat}{Q:QC}

theorem CallV.fn{f:FuncId}{first cap as:List AV}{Q Q':AV→Hp→Prop}(h:FnW B P f (first++as++cap) H Q')(hq:∀ v H',Q' v H'→Q v H'):CallV B P (.fn (.func f) first cap) as H Q :=
 CallV.mono (fv:=.fn (.func f) first cap) h hq

theorem aNs(ix:Nat)(d:Option Nat)(op:DOp)(K:aH→Hp→Prop)(env:aH)(H:Hp):opW B P ⟨ix,d,op,none⟩ K env H=hO B P d op K env H:=rfl
theorem WD.regD{l:List DOper}(hm:P.follows .mixedOrders=true)(h:∀ K:aH→Hp→Prop,(∀ e h,Q .normal e h→K e h)→RD B P l K env H noL):WD B P r N (.reg true l) Q env H :=
 WD.reg hm (h _ fun _ _ h=>h)
theorem FnW.shift{f:FuncId}{as:List AV}{Q:AV→Hp→Prop}(h:FnW B P f as H fun v H'=>∃ v' H'',Shift (upd anyE 0 v) H' (upd anyE 0 v') H''∧Q v' H''):FnW B P f as H Q:=by
 refine⟨h.1,fun F w vs h1 h2 h3=>(h.2 F w vs h1 h2 h3).mono ?_⟩;rintro e w' ⟨r,v,F',H',rfl,k1,k2,k3,v',H'',k4,k5⟩;obtain⟨F'',l1,l2,l3⟩:=k4 F' w' { tmps := #[r],defers:=[] } k2 ⟨fun k=>by
  by_cases hk:k=0;·subst hk;simpa [upd]using k3
  ·simp only[upd,hk,AAd,anyE];exact .any _,(B.gi.up h1).up (k1.up h2)⟩
 have:=l3.rv 0;exact⟨r,v',F'',H'',rfl,k1.trans l1,l2,by simpa [upd]using this,k5⟩
theorem FnW.forget{f:FuncId}{as:List AV}{Q:AV→Hp→Prop}(h:FnW B P f as H fun v H'=>∃ H'',(∀ b x,H'' b=some x→H' b=some x)∧Q v H''):FnW B P f as H Q:=by
 refine FnW.shift ⟨h.1,fun F w vs h1 h2 h3=>(h.2 F w vs h1 h2 h3).mono ?_⟩;rintro e w' ⟨r,v,F',H',rfl,k1,k2,k3,H'',k4,k5⟩;exact⟨r,v,F',H',rfl,k1,k2,k3,v,H'',Shift.forget k4,k5⟩
structure CTk where
 wagon:ByteArray
 farmer:ByteArray
 net:Int
 void:Bool
structure dR where
 farmers:List (ByteArray×Int)
 meters:List (ByteArray×Int×Int)
 pans:List (ByteArray×Int)
 wagons:List (ByteArray×Int)
 tickets:List CTk
 closed:Nat
 book:List ByteArray
def aUc:List Nat:=[59,61,62,87,88,89,90,91,92,93,94,95,96,97,98,128,129,130,131,132,133,134,135,136]
def aKM(g:Nat):List Nat→Bool
 | []=>false
 | k::r=>if g=k then true else aKM g r
def lK(g:Nat):Bool:=aKM g aUc
inductive XCode where
 | skip
 | reg (fz:List (Nat×Bool)) (draw:Bool) (ops:List DOper)
 | seq (a b:XCode)
 | cond (c:AO) (a b:XCode)
 | block (id:Nat) (a:XCode)
 | loop (live:List Nat) (a:XCode)
 | scope (a:XCode)
 | rng (site:Nat) (live:List Nat) (f:AO) (ps:List Nat) (assign body:XCode)
 | exit (id:Nat)
 | ret

def XCode.erase:XCode→DCode
 | .skip=>.skip
 | .reg _ d ops=>.reg d ops
 | .seq a b=>.seq a.erase b.erase
 | .cond c a b=>.cond c a.erase b.erase
 | .block id a=>.block id a.erase
 | .loop _ a=>.loop a.erase
 | .scope a=>.scope a.erase
 | .rng _ _ f ps a b=>.rng f ps a.erase b.erase
 | .exit id=>.exit id
 | .ret=>.ret

inductive LSt where
 | ready
 | busy
 | done (x:DX)

inductive XB where
 | blk (g:Bool) (x:ABlk)
 | loop (K site:Nat) (vs:List AV) (s:LSt)
 | gh (st:dR) (p:Hp→Nat→Prop)
abbrev XH:=List (Option XB)

structure XFn where
 N:Nat
 res:List (Nat×Option (Bool×Nat))
 ownA:Bool
 ownR:Bool
 body:XCode
 dfr:Option (List DOper×Nat):=none
 prm:Option (List AV→List (Option XB)→Option (AV×List (Option XB))):=none

def XFn.fn(x:XFn):DFn:=⟨x.N,x.res,x.body.erase,x.dfr⟩

mutual
def iZ:AV→List Nat
 | .agg cs=>lF cs
 | .tup vs=>lF vs
 | .sl b _ _ _=>[b]
 | .pt b _=>[b]
 | .mp b=>[b]
 | .sb b _=>[b]
 | .bp b=>[b]
 | .fn f first cap=>(match f with | .yield l=>[l]|_=>[])++(lF first++lF cap)
 | .ifc _ v=>iZ v
 | _=>[]
def lF:List AV→List Nat
 | []=>[]
 | v::r=>iZ v++lF r
end

mutual
def jE:AV→Bool
 | .agg cs=>lJ cs
 | .tup vs=>lJ vs
 | .sl .. | .pt .. | .mp _ | .sb .. | .bp _ | .any=>false
 | .fn f first cap=>(match f with | .yield _=>false|_=>true)&&(lJ first&&lJ cap)
 | .ifc _ v=>jE v
 | _=>true
def lJ:List AV→Bool
 | []=>true
 | v::r=>jE v&&lJ r
end

mutual
def gdA:AV→Bool
 | .agg cs=>gdL cs
 | .tup vs=>gdL vs
 | .fs rows=>gdR rows
 | .fp rows _ _=>gdR rows
 | .sl .. | .pt .. | .mp _ | .sb .. | .bp _ | .any=>false
 | .fn f first cap=>(match f with | .yield _=>false|_=>true)&&(gdL first&&gdL cap)
 | .ifc _ v=>gdA v
 | _=>true
def gdL:List AV→Bool
 | []=>true
 | v::r=>gdA v&&gdL r
def gdR:List (List AV)→Bool
 | []=>true
 | v::r=>gdL v&&gdR r
end

mutual
def rnA(s:Nat→Option Nat):AV→AV
 | .agg cs=>.agg (lR s cs)
 | .tup vs=>.tup (lR s vs)
 | .sl b o z n=>match s b with
   | some c=>.sl c o z n
   | none=>.any
 | .pt b o=>match s b with
   | some c=>.pt c o
   | none=>.any
 | .mp b=>match s b with
   | some c=>.mp c
   | none=>.any
 | .sb b n=>match s b with
   | some c=>.sb c n
   | none=>.any
 | .bp b=>match s b with
   | some c=>.bp c
   | none=>.any
 | .fn f first cap=>match f with
   | .yield l=>match s l with
     | some c=>.fn (.yield c) (lR s first) (lR s cap)
     | none=>.any
   | f=>.fn f (lR s first) (lR s cap)
 | .ifc t v=>.ifc t (rnA s v)
 | v=>v
def lR(s:Nat→Option Nat):List AV→List AV
 | []=>[]
 | v::r=>rnA s v::lR s r
end

mutual
def slN:AV→List Nat
 | .agg cs=>slL cs
 | .tup vs=>slL vs
 | .sl b _ _ _=>[b]
 | .ifc _ v=>slN v
 | _=>[]
def slL:List AV→List Nat
 | []=>[]
 | v::r=>slN v++slL r
end

def bU(cs:List AV)(off s:Nat):Nat→List (List AV)
 | 0=>[]
 | n+1=>(cs.drop off).take s::bU cs (off+s) s n

mutual
def wC(b:Nat)(cs:List AV):AV→AV
 | .agg vs=>.agg (yV b cs vs)
 | .tup vs=>.tup (yV b cs vs)
 | .sl c o s n=>if c=b∧o+n*s≤cs.length then .fs (bU cs o s n) else .sl c o s n
 | .fn f first cap=>match f with
   | .yield l=>.fn (.yield l) first cap
   | f=>.fn f (yV b cs first) (yV b cs cap)
 | v=>v
def yV(b:Nat)(cs:List AV):List AV→List AV
 | []=>[]
 | v::r=>wC b cs v::yV b cs r
end

mutual
def qP:AV→AV
 | .agg vs=>.agg (lO vs)
 | .tup vs=>.tup (lO vs)
 | .nilsl=>.fs []
 | v=>v
def lO:List AV→List AV
 | []=>[]
 | v::r=>qP v::lO r
end

mutual
def cT:AV→AV→Bool
 | .int k n,.int k' n'=>decide (k=k')&&decide (n=n')
 | .bool a,.bool b=>a==b
 | .str s,.str t=>s.data.toList==t.data.toList
 | .agg xs,.agg ys=>iE xs ys
 | .tup xs,.tup ys=>iE xs ys
 | .sl b o s n,.sl b' o' s' n'=>decide (b=b')&&(decide (o=o')&&(decide (s=s')&&decide (n=n')))
 | .pt b o,.pt b' o'=>decide (b=b')&&decide (o=o')
 | .mp b,.mp b'=>decide (b=b')
 | .nilsl,.nilsl=>true
 | .nilpt,.nilpt=>true
 | .nilmap,.nilmap=>true
 | .nilfn,.nilfn=>true
 | .nilifc,.nilifc=>true
 | .fn f xs us,.fn g ys vs=>decide (f=g)&&(iE xs ys&&iE us vs)
 | .fs xs,.fs ys=>aDF xs ys
 | _,_=>false
def iE:List AV→List AV→Bool
 | [],[]=>true
 | x::xs,y::ys=>cT x y&&iE xs ys
 | _,_=>false
def aDF:List (List AV)→List (List AV)→Bool
 | [],[]=>true
 | x::xs,y::ys=>iE x y&&aDF xs ys
 | _,_=>false
end
def aGd:Option XB→Option XB→Bool
 | some (.blk _ (.cells w xs)),some (.blk _ (.cells w' ys))=>w==w'&&iE xs ys
 | _,_=>false

def nmB:XB→List Nat
 | .blk false (.cells _ cs)=>lF cs
 | .blk false (.map _ es)=>es.flatMap fun p=>iZ p.1++iZ p.2
 | .loop _ _ vs _=>lF vs
 | _=>[]
def nmO:Option XB→List Nat
 | some x=>nmB x
 | none=>[]
def rnB(s:Nat→Option Nat):XB→XB
 | .blk false (.cells w cs)=>.blk false (.cells w (lR s cs))
 | .blk false (.map w es)=>.blk false (.map w (es.map fun p=>(rnA s p.1,rnA s p.2)))
 | .loop K site vs st=>.loop K site (lR s vs) st
 | x=>x
def rnO(s:Nat→Option Nat):Option XB→Option XB
 | some x=>some (rnB s x)
 | none=>none
def fzB(b:Nat)(cs:List AV):XB→XB
 | .blk false (.cells w vs)=>.blk (lJ (yV b cs vs)) (.cells w (yV b cs vs))
 | .blk false (.map w es)=>.blk false (.map w (es.map fun p=>(wC b cs p.1,wC b cs p.2)))
 | x=>x
def fzO(b:Nat)(cs:List AV):Option XB→Option XB
 | some x=>some (fzB b cs x)
 | none=>none

def hat(h:XH)(b:Nat):Option XB:=h.getD b none
def aG(h:XH):Hp:=fun b=>match hat h b with
 | some (.blk _ x)=>some x
 | _=>none

def cY(h:XH)(k:Nat):Nat→List Nat→List Nat→List Nat
 | 0,_,acc=>acc
 | _+1,[],acc=>acc
 | n+1,b::r,acc=>if b<k∨b∈acc then cY h k n r acc else
   match hat h b with
   | none=>cY h k n r acc
   | some x=>cY h k n (nmB x++r) (acc++[b])
def tV:Nat:=4096

def fK(b:Nat):List Nat→Option Nat
 | []=>none
 | c::r=>if b=c then some 0 else (fK b r).map (· + 1)

def bH:List Nat→List AV→aH
 | k::ks,v::vs=>fun j=>if j=k then v else bH ks vs j
 | _,_=>anyE

def keepS(k:Nat)(acc:List Nat):Nat→Option Nat:=fun b=>if b<k then some b else (fK b acc).map (· + k)
def cP:Nat→XH→XH
 | 0,_=>[]
 | n+1,[]=>none::cP n []
 | n+1,x::xs=>x::cP n xs
def lY(k:Nat)(acc:List Nat)(h:XH):XH:=(cP k h).map (rnO (keepS k acc))++acc.map fun b=>rnO (keepS k acc) (hat h b)
def dC(k:Nat)(vs:List AV)(h:XH):List Nat:=cY h k tV (lF vs++(cP k h).flatMap nmO) []

def qH(k:Nat)(L:List Nat)(e:aH)(h:XH):aH:=bH L (lR (keepS k (dC k (L.map e) h)) (L.map e))
def nG(k:Nat)(L:List Nat)(e:aH)(h:XH):XH:=lY k (dC k (L.map e) h) h

def fz1(b:Nat)(e:aH)(h:XH):aH×XH:=match hat h b with
 | some (.blk true (.cells _ cs))=>(fun j=>wC b cs (e j),(h.map (fzO b cs)).set b none)
 | _=>(e,h)
def zU:List Nat→aH→XH→aH×XH
 | [],e,h=>(e,h)
 | b::r,e,h=>zU r (fz1 b e h).1 (fz1 b e h).2
def aSA(f:List Nat→List Nat)(b:Nat):Option XB→List Nat
 | some (.blk false (.cells _ cs))=>f (slL cs)++[b]
 | _=>[b]
def jV(h:XH):Nat→List Nat→List Nat
 | 0,l=>l
 | n+1,l=>l.flatMap fun b=>aSA (jV h n) b (hat h b)
def aOh(e:aH)(h:XH):Nat×Bool→List Nat
 | (j,false)=>jV h 2 (slN (e j))
 | (j,true)=>match e j with
   | .pt b _=>match hat h b with
     | some (.blk false (.cells _ cs))=>jV h 2 (slL cs)
     | _=>[]
   | _=>[]
def nzE:List (Nat×Bool)→aH→aH
 | [],e=>e
 | (_,true)::r,e=>nzE r e
 | (k,false)::r,e=>fun j=>if j=k then qP (nzE r e j) else nzE r e j
def aIU(v:AV)(h:XH):XH:=match v with
 | .sl b 0 s n=>match hat h b with
   | some (.blk g (.cells w cs))=>h.set b (some (.blk g (.cells w (cs.take (n*s)))))
   | _=>h
 | _=>h
def uU:List (Nat×Bool)→aH→XH→XH
 | [],_,h=>h
 | (k,_)::r,e,h=>if 1000000≤k then aIU (e (k-1000000)) (uU r e h) else uU r e h
def aUd(fz:List (Nat×Bool))(e:aH)(h:XH):aH×XH:=(nzE fz (zU (fz.flatMap (aOh e h)) e h).1,(zU (fz.flatMap (aOh e h)) e h).2)
def fzX(fz:List (Nat×Bool))(e:aH)(h:XH):aH×XH:=aUd fz e (uU fz e h)

def jU(h:XH):AV→Bool
 | .sb b _=>match hat h b with
   | some (.blk g _)=>g
   | _=>false
 | .sl b _ _ _=>match hat h b with
   | some (.blk g _)=>g
   | _=>false
 | .any=>false
 | _=>true
def iP(op:DOp)(e:aH)(h:XH):Bool:=match op with
 | .alloc z=>lJ z
 | .box x=>jE (aK e x)
 | .bslice _ _ z ps=>lJ z&&ps.all fun p=>jE (aK e p.2.2)
 | .mksl _ _ z _ _=>lJ z
 | .mkmap=>true
 | .allocb=>true
 | .bytes _=>true
 | .rngs _=>true
 | .app _ _ x y=>jU h (aK e x)&&jU h (aK e y)
 | _=>false

def qU(h:XH)(own:Option Nat)(g:Bool)(x:ABlk):XH:=(match own with
 | some b=>h.set b none
 | none=>h)++[some (.blk g x)]

def nX(n:Nat)(h:XH)(p x:AV):Option XH:=match p with
 | .pt b o=>match hat h b,cellsOf x with
   | some (.blk g (.cells true cs)),some vs=>if vs.length=n∧o+n≤cs.length then some (h.set b (some (.blk (g&&lJ vs) (.cells true (bO cs o vs))))) else none
   | _,_=>none
 | _=>none

def rF(q:Bool)(h:XH)(m k x:AV):Option XH:=match m with
 | .mp b=>match hat h b with
   | some (.blk g (.map true es))=>(jN q k x es).map fun es'=>h.set b (some (.blk (g&&(jE k&&jE x)) (.map true es')))
   | _=>none
 | _=>none

def aFP(h:XH)(x:AV):Option (AV×XH):=match x with
 | .pt b 0=>match hat h b with
   | some (.blk g (.obj true (.stringIter s pos)))=>if pos<s.size then some (.tup [.bool true,.int .i64 (pos:Int),.int .i32 (Utf8.decode s pos).1],h.set b (some (.blk g (.obj true (.stringIter s (pos+(Utf8.decode s pos).2)))))) else some (.tup [.bool false],h)
   | _=>none
 | _=>none


def aAX(s:Nat)(h:XH)(x y:AV):Option (Nat×XH):=match x,fJ s (aG h) y with
 | .sl b o s' len,some (n,new)=>match hat h b with
   | some (.blk g (.cells true cs))=>if s'=s∧o+len*s≤cs.length then some (min n len,h.set b (some (.blk (g&&jU h y) (.cells true (bO cs o (new.take (min n len*s))))))) else none
   | _=>none
 | _,_=>none

def roX:Option XB→Option XB
 | some (.blk g x)=>some (.blk g x.ro)
 | _=>none

abbrev eP:=Nat→List AV→XH→Option (AV×XH)
abbrev fS:=AV→List AV→XH→Option (AV×XH)

def gR(xs:List AV)(h:XH):List Nat:=cY h 0 tV (lF xs) []
def tZ(b:Bool)(all:List AV)(h:XH):List Nat:=match b with
 | true=>(List.range h.length).filter fun b=>(hat h b).isSome
 | false=>gR all h
def iG(fv:AV)(as:List AV)(h:XH):List Nat:=match fv with
 | .fn (.func g) first cap=>tZ (lK g) (first++as++cap) h
 | v=>gR (v::as) h
def hZ(acc:List Nat)(h:XH):XH:=acc.map fun b=>rnO (fun b=>fK b acc) (hat h b)
def gM(acc:List Nat)(n:Nat):Nat→Option Nat:=fun i=>if i<acc.length then acc[i]? else some (n+(i-acc.length))
def uR(h:XH):List Nat→XH→XH
 | b::bs,x::xs=>uR (h.set b x) bs xs
 | _,_=>h
def iT(acc:List Nat)(h hl:XH):XH:=uR h acc ((cP acc.length hl).map (rnO (gM acc h.length)))++(hl.drop acc.length).map (rnO (gM acc h.length))
def zL(acc:List Nat)(h:XH)(r:AV×XH):AV×XH:=(rnA (gM acc h.length) r.1,iT acc h r.2)

def aEr(run:eP)(g:Nat)(all:List AV)(h:XH):Bool→Option (AV×XH)
 | true=>run g all h
 | false=>let acc:=gR all h
   (run g (lR (fun b=>fK b acc) all) (hZ acc h)).map (zL acc h)
def fM(run:eP)(runY:fS)(fv:AV)(as:List AV)(h:XH):Option (AV×XH):=match fv with
 | .fn (.func g) first cap=>aEr run g (first++as++cap) h (lK g)
 | .fn (.yield l) [] [] =>
   let acc:=iG (.fn (.yield l) [] []) as h
   (runY (rnA (fun b=>fK b acc) (.fn (.yield l) [] [])) (lR (fun b=>fK b acc) as) (hZ acc h)).map (zL acc h)
 | _=>none

def ghO:Option XB→Bool
 | some (.gh _ _)=>true
 | _=>false
def aDW:XH→XH→Bool
 | x::xs,y::ys=>(x.isNone||(y.isSome && !ghO x))&&aDW xs ys
 | [],_=>true
 | _,[]=>false

def nH(run:eP)(fv:AV)(as:List AV)(h:XH):Option AV:=match fv with
 | .fn (.func g) first cap =>
   let all:=first++as++cap
   let acc:=gR all h
   match run g (lR (fun b=>fK b acc) all) ((hZ acc h).map roX)with
   | some (v,hl)=>if gdA v&&aDW (hZ acc h) hl then some v else none
   | none=>none
 | _=>none

def dG(run:eP)(runY:fS)(d:Option Nat)(op:DOp)(e:aH)(h:XH):Option (aH×XH):=match op with
 | .store n p x _=>(nX n h (aK e p) (aK e x)).map fun h'=>(aW e d .any,h')
 | .copy s x y=>(aAX s h (aK e x) (aK e y)).map fun r=>(aW e d (.int .i64 (r.1:Int)),r.2)
 | .mapup q m k x=>(rF q h (aK e m) (aK e k) (aK e x)).map fun h'=>(aW e d .any,h')
 | .nxts x=>(aFP h (aK e x)).map fun r=>(aW e d r.1,r.2)
 | .callf true f xs _=>(nH run (aK e f) (xs.map (aK e)) h).map fun v=>(aW e d v,h)
 | .callf false f xs _=>(fM run runY (aK e f) (xs.map (aK e)) h).map fun r=>(aW e d r.1,r.2)
 | op=>match aD op e (aG h)with
   | some (.val v)=>some (aW e d v,h)
   | some (.new own x f)=>some (aW e d (f h.length),qU h own (iP op e h) x)
   | none=>none

def fA(run:eP)(runY:fS):List DOper→aH→XH→Option (aH×XH)
 | [],e,h=>some (e,h)
 | o::r,e,h=>match gd o e with
   | some true=>(dG run runY o.dst o.op e h).bind fun s=>fA run runY r s.1 s.2
   | some false=>fA run runY r (aW e o.dst (.tup [])) h
   | none=>none

def aKN(ix:Nat)(op:DOp)(e:aH)(L:List (Nat×Nat)):List (Nat×Nat):=match op with
 | .load _ _ x=>match fB (aK e x)with
   | some b=>(ix,b)::L
   | none=>L
 | _=>L
def sN(op:DOp)(e:aH)(h:XH)(L:List (Nat×Nat)):Bool:=match op with
 | .store _ p _ l=>L.all fun q => !l.contains q.1||fB (aK e p) != some q.2
 | .app _ _ x _=>L.all fun q=>fB (aK e x) != some q.2
 | _=>true
def aAO(op:DOp)(e:aH)(h h':XH)(L:List (Nat×Nat)):Bool:=match op with
 | .callf false f xs l=>L.all fun q=>(hat h' q.2).isSome&&(!l.contains q.1||(!(iG (aK e f) (xs.map (aK e)) h).contains q.2||aGd (hat h q.2) (hat h' q.2)))
 | _=>true
def eX(run:eP)(runY:fS):List DOper→aH→XH→List (Nat×Nat)→Option (aH×XH)
 | [],e,h,_=>some (e,h)
 | o::r,e,h,L=>match gd o e with
   | some true=>if sN o.op e h L then (dG run runY o.dst o.op e h).bind fun s=>if aAO o.op e h s.2 L then eX run runY r s.1 s.2 (aKN o.ix o.op e L) else none else none
   | some false=>eX run runY r (aW e o.dst (.tup [])) h L
   | none=>none

def lX(step:aH→XH→Option (DX×aH×XH))(k:Nat)(L:List Nat):Nat→aH→XH→Option (DX×aH×XH)
 | 0,_,_=>none
 | n+1,e,h=>match step (qH k L e h) (nG k L e h)with
   | some (.normal,e',h')=>lX step k L n e' h'
   | r=>r

def gS(h:XH)(l:Nat):Option LSt:=match hat h l with
 | some (.loop _ _ _ s)=>some s
 | _=>none
def loopTo(h:XH)(l:Nat)(s:LSt):XH:=match hat h l with
 | some (.loop K site vs _)=>h.set l (some (.loop K site vs s))
 | _=>h
def zP:AV→Bool
 | .fn (.func _) _ _=>true
 | _=>false
def zQ(rd:Option Nat)(h:XH):Bool:=match rd with
 | none=>true
 | some l=>match gS h l with
   | some .busy=>true
   | _=>false

def bC(run:eP)(runY:fS)(K k n:Nat)(rd:Option Nat):XCode→aH→XH→Option (DX×aH×XH)
 | .skip,e,h=>some (.normal,e,h)
 | .reg fz draw ops,e,h=>(if draw then eX run runY ops (fzX fz e h).1 (fzX fz e h).2 [] else fA run runY ops (fzX fz e h).1 (fzX fz e h).2).map fun r=>(.normal,r.1,r.2)
 | .seq a b,e,h=>match bC run runY K k n rd a e h with
   | some (.normal,e',h')=>bC run runY K k n rd b e' h'
   | r=>r
 | .cond c a b,e,h=>match aK e c with
   | .bool true=>bC run runY K k n rd a e h
   | .bool false=>bC run runY K k n rd b e h
   | _=>none
 | .block id a,e,h=>match bC run runY K k n rd a e h with
   | some (.exit j,e',h')=>if j=id then some (.normal,e',h') else some (.exit j,e',h')
   | r=>r
 | .loop L a,e,h=>lX (bC run runY K k n rd a) k L n e h
 | .scope a,e,h=>bC run runY K k n rd a e h
 | .rng site L f _ _ _,e,h=>if zQ rd h&&zP (aK e f) then
   match fM run runY (aK e f) [.fn (.yield h.length) [] []] (h++[some (.loop K site (L.map e) .ready)])with
   | some (_,h')=>match gS h' h.length with
     | some .ready=>some (.normal,e,h'.set h.length none)
     | some (.done x)=>some (x,e,h'.set h.length none)
     | _=>none
   | none=>none
   else none
 | .exit id,e,h=>some (.exit id,e,h)
 | .ret,e,h=>some (.ret,e,h)

def dZ:XCode→Nat→Option (List Nat×List Nat×XCode×XCode)
 | .seq a b,s | .cond _ a b,s=>match dZ a s with
   | some r=>some r
   | none=>dZ b s
 | .block _ a,s | .loop _ a,s | .scope a,s=>dZ a s
 | .rng s' L _ ps a b,s=>if s'=s then some (L,ps,a,b) else match dZ a s with
   | some r=>some r
   | none=>dZ b s
 | _,_=>none

def nD(own:Bool)(k:Nat)(v:AV)(h:XH):AV×XH :=
 let p:=if own then (upd anyE 0 v,h) else zU (jV h 2 (slN v)) (upd anyE 0 v) h
 let u:=if own then p.1 0 else qP (p.1 0)
 let acc:=dC k [u] p.2
 (rnA (keepS k acc) u,lY k acc p.2)

def gV(c:Option Nat)(res:List (Nat×Option (Bool×Nat)))(own:Bool)(k:Nat)(r:Option (DX×aH×XH)):Option (AV×XH):=match r with
 | some (.exit _,_,_)=>none
 | some (_,e,h')=>(jD res e (aG h')).map fun v=>nD own k v h'
 | none=>none

def aDm(res:List (Nat×Option (Bool×Nat)))(r:Option (DX×aH×XH)):Option (AV×XH):=match r with
 | some (.exit _,_,_)=>none
 | some (_,e,h')=>(jD res e (aG h')).map fun v=>(v,h')
 | none=>none
def aHK(g:Bool)(res:List (Nat×Option (Bool×Nat)))(own:Bool)(k:Nat)(r:Option (DX×aH×XH)):Option (AV×XH):=match g with
 | true=>aDm res r
 | false=>gV none res own k r

def aBg(D:Nat→Option XFn)(run:eP)(runY:fS)(n:Nat):eP:=fun K as h=>match D K with
 | none=>none
 | some d=>match d.prm with
   | some f=>f as h
   | none=>if as.length≤d.N then match d.dfr with
     | none=>aHK (lK K) d.res d.ownR h.length (bC run runY K h.length n none d.body (aV (if d.ownA then as else lO as)) h)
     | some _=>none
     else none
def aDD(D:Nat→Option XFn)(run:eP)(runY:fS)(n:Nat):fS:=fun fv as h=>match fv with
 | .fn (.yield l) [] []=>match hat h l with
   | some (.loop K site vs .ready)=>match (D K).bind fun d=>dZ d.body site with
     | none=>none
     | some (L,ps,a,b)=>if as.length=ps.length then match bC run runY K h.length n (some l) a (pR (bH L vs) ps as) h with
       | some (.normal,e1,h1)=>match gS h1 l with
         | some .ready=>match bC run runY K h.length n (some l) b e1 (loopTo h1 l .busy)with
           | some (x,_,h2)=>match gS h2 l with
             | some .busy=>some (match x with
               | .normal=>nD true h.length (.bool true) (loopTo h2 l .ready)
               | x=>nD true h.length (.bool false) (loopTo h2 l (.done x)))
             | _=>none
           | none=>none
         | _=>none
       | _=>none
       else none
   | _=>none
 | _=>none
mutual
def dB(D:Nat→Option XFn):Nat→eP
 | 0=>fun _ _ _=>none
 | n+1=>aBg D (dB D n) (bP D n) n
def bP(D:Nat→Option XFn):Nat→fS
 | 0=>fun _ _ _=>none
 | n+1=>aDD D (dB D n) (bP D n) n
end

structure YI where
 K:Nat
 site:Nat
 env:aH
 oR:Obj
 oB:Obj
 oD:Code→Obj

inductive Gd:AV→Prop where
 | int (k:IntKind) (n:Int):Gd (.int k n)
 | bool (b:Bool):Gd (.bool b)
 | str (s:ByteArray):Gd (.str s)
 | agg (cs:List AV) (h:∀ c∈cs,Gd c):Gd (.agg cs)
 | tup (cs:List AV) (h:∀ c∈cs,Gd c):Gd (.tup cs)
 | fs (rows:List (List AV)) (h:∀ r∈rows,∀ c∈r,Gd c):Gd (.fs rows)
 | fp (rows:List (List AV)) (i o:Nat) (h:∀ r∈rows,∀ c∈r,Gd c):Gd (.fp rows i o)
 | nilsl:Gd .nilsl
 | nilpt:Gd .nilpt
 | nilmap:Gd .nilmap
 | nilfn:Gd .nilfn
 | nilifc:Gd .nilifc
 | fn (f:Fn) (first cap:List AV) (hf:∀ l,f ≠ .yield l) (h1:∀ c∈first,Gd c) (h2:∀ c∈cap,Gd c):Gd (.fn f first cap)
 | ifc (t:TypeId) (v:AV) (h:Gd v):Gd (.ifc t v)

inductive Rn(D:Nat→Option XFn)(Y:Nat→Option YI)(r:Nat→Option Nat):AV→AV→Prop where
 | any (v:AV):Rn D Y r .any v
 | int (k:IntKind) (n:Int):Rn D Y r (.int k n) (.int k n)
 | bool (b:Bool):Rn D Y r (.bool b) (.bool b)
 | str (s:ByteArray):Rn D Y r (.str s) (.str s)
 | agg (xs ys:List AV) (hl:xs.length=ys.length) (h:∀(i:Nat)(x y:AV),xs[i]?=some x→ys[i]?=some y→Rn D Y r x y):Rn D Y r (.agg xs) (.agg ys)
 | tup (xs ys:List AV) (hl:xs.length=ys.length) (h:∀(i:Nat)(x y:AV),xs[i]?=some x→ys[i]?=some y→Rn D Y r x y):Rn D Y r (.tup xs) (.tup ys)
 | fs (rows:List (List AV)) (h:∀ r∈rows,∀ c∈r,Gd c):Rn D Y r (.fs rows) (.fs rows)
 | fp (rows:List (List AV)) (i o:Nat) (h:∀ r∈rows,∀ c∈r,Gd c):Rn D Y r (.fp rows i o) (.fp rows i o)
 | sl (b c o s n:Nat) (hr:r b=some c):Rn D Y r (.sl b o s n) (.sl c o s n)
 | pt (b c o:Nat) (hr:r b=some c):Rn D Y r (.pt b o) (.pt c o)
 | mp (b c:Nat) (hr:r b=some c):Rn D Y r (.mp b) (.mp c)
 | sb (b c n:Nat) (hr:r b=some c):Rn D Y r (.sb b n) (.sb c n)
 | bp (b c:Nat) (hr:r b=some c):Rn D Y r (.bp b) (.bp c)
 | nilsl:Rn D Y r .nilsl .nilsl
 | nilpt:Rn D Y r .nilpt .nilpt
 | nilmap:Rn D Y r .nilmap .nilmap
 | nilfn:Rn D Y r .nilfn .nilfn
 | nilifc:Rn D Y r .nilifc .nilifc
 | fn (f:Fn) (xs ys us vs:List AV) (hf:∀ l,f ≠ .yield l) (hl1:xs.length=ys.length) (h1:∀(i:Nat)(x y:AV),xs[i]?=some x→ys[i]?=some y→Rn D Y r x y)
  (hl2:us.length=vs.length) (h2:∀(i:Nat)(x y:AV),us[i]?=some x→vs[i]?=some y→Rn D Y r x y):Rn D Y r (.fn f xs us) (.fn f ys vs)
 | yield (l c:Nat) (hr:r l=some c):Rn D Y r (.fn (.yield l) [] []) (.fn (.yield c) [] [])
 | ifc (t:TypeId) (x y:AV) (h:Rn D Y r x y):Rn D Y r (.ifc t x) (.ifc t y)

def RnL(D:Nat→Option XFn)(Y:Nat→Option YI)(r:Nat→Option Nat)(xs ys:List AV):Prop:=xs.length=ys.length∧∀(i:Nat)(x y:AV),xs[i]?=some x→ys[i]?=some y→Rn D Y r x y

section
variable{D:Nat→Option XFn}{Y:Nat→Option YI}{r:Nat→Option Nat}

theorem RnL.nil:RnL D Y r [] []:=⟨rfl,by simp⟩
theorem RnL.cons{x y:AV}{xs ys:List AV}(h:Rn D Y r x y)(hs:RnL D Y r xs ys):RnL D Y r (x::xs) (y::ys):=⟨by simp[hs.1],fun i a b ha hb=>by
 cases i with
 | zero=>simp at ha hb;subst ha hb;exact h
 | succ i=>exact hs.2 i a b (by simpa using ha) (by simpa using hb)⟩
theorem RnL.inv{x:AV}{xs ys:List AV}(h:RnL D Y r (x::xs) ys):∃ y ys',ys=y::ys'∧Rn D Y r x y∧RnL D Y r xs ys':=by
 cases ys with
 | nil=>have:=h.1;simp at this
 | cons y ys'=>exact⟨y,ys',rfl,h.2 0 x y rfl rfl,by have:=h.1;simpa using this,fun i a b ha hb=>h.2 (i+1) a b (by simpa using ha) (by simpa using hb)⟩
theorem RnL.nil_inv{ys:List AV}(h:RnL D Y r [] ys):ys=[]:=B8 (by have:=h.1;simpa using this.symm)
theorem RnL.append{xs ys xs' ys':List AV}(h:RnL D Y r xs ys)(h':RnL D Y r xs' ys'):RnL D Y r (xs++xs') (ys++ys'):=⟨by simp[h.1,h'.1],fun i a b ha hb=>by
 rw[D9]at ha hb;rw[←h.1]at hb;split at ha;·rw[if_pos ‹_›]at hb;exact h.2 i a b ha hb
 ·rw[if_neg ‹_›]at hb;exact h'.2 _ a b ha hb⟩
theorem RnL.take{xs ys:List AV}(h:RnL D Y r xs ys)(n:Nat):RnL D Y r (xs.take n) (ys.take n):=⟨by simp[h.1],fun i a b ha hb=>by
 rw[G9]at ha hb;split at ha;·rw[if_pos ‹_›]at hb;exact h.2 i a b ha hb
 ·simp at ha⟩
theorem RnL.drop{xs ys:List AV}(h:RnL D Y r xs ys)(n:Nat):RnL D Y r (xs.drop n) (ys.drop n):=⟨by simp[h.1],fun i a b ha hb=>by
 rw[G8]at ha hb;exact h.2 _ a b ha hb⟩
theorem RnL.map{α:Type}{f g:α→AV}{l:List α}(h:∀ x∈l,Rn D Y r (f x) (g x)):RnL D Y r (l.map f) (l.map g):=by
 induction l with
 | nil=>exact RnL.nil
 | cons x l ih=>exact RnL.cons (h x (by simp)) (ih fun y hy=>h y (by simp[hy]))
theorem RnL.get{xs ys:List AV}(h:RnL D Y r xs ys){i:Nat}{x:AV}(hx:xs[i]?=some x):∃ y,ys[i]?=some y∧Rn D Y r x y:=by
 have hlt:i<ys.length:=by rw[←h.1];exact(A2.1 hx).1
 exact⟨ys[i],A4 hlt,h.2 i x _ hx (A4 hlt)⟩
theorem RnL.self{xs:List AV}(h:∀ x∈xs,Rn D Y r x x):RnL D Y r xs xs:=⟨rfl,fun i x y hx hy=>by
 rw[hx]at hy;simp at hy;subst hy;exact h x (A5 hx)⟩

theorem Gd.rn{v:AV}(h:Gd v):Rn D Y r v v:=by
 induction h with
 | int k n=>exact .int k n
 | bool b=>exact .bool b
 | str s=>exact .str s
 | agg cs _ ih=>exact .agg cs cs rfl (RnL.self ih).2
 | tup cs _ ih=>exact .tup cs cs rfl (RnL.self ih).2
 | fs rows h _=>exact .fs rows h
 | fp rows i o h _=>exact .fp rows i o h
 | nilsl=>exact .nilsl
 | nilpt=>exact .nilpt
 | nilmap=>exact .nilmap
 | nilfn=>exact .nilfn
 | nilifc=>exact .nilifc
 | fn f first cap hf _ _ ih1 ih2=>exact .fn f first first cap cap hf rfl (RnL.self ih1).2 rfl (RnL.self ih2).2
 | ifc t v _ ih=>exact .ifc t v v ih

theorem fR:∀{l:List AV},lJ l=true→∀ x∈l,jE x=true
 | [],_,x,hx=>by simp at hx
 | v::l,h,x,hx=>by
   simp only[lJ,A3]at h;rcases B3.1 hx with rfl|hx;·exact h.1
   ·exact fR h.2 x hx
theorem eW:∀{l:List AV},(∀ x∈l,jE x=true)→lJ l=true
 | [],_=>rfl
 | v::l,h=>by simp[lJ,h v (by simp),eW (l:=l) fun x hx=>h x (by simp[hx])]

theorem oZ{xs ys:List AV}(hl:xs.length=ys.length)(h:∀(i:Nat)(x y:AV),xs[i]?=some x→ys[i]?=some y→y=x∧Gd x):ys=xs∧∀ x∈xs,Gd x:=by
 have h1:∀ i:Nat,ys[i]?=xs[i]?:=fun i=>by
  cases hx:xs[i]? with
  | none=>rw[N7]at hx ⊢;omega
  | some x =>
    have hlt:i<ys.length:=by rw[←hl];exact(A2.1 hx).1
    rw[A4 hlt,(h i x _ hx (A4 hlt)).1]
 have h2:ys=xs:=J5 h1;refine⟨h2,fun x hx=>?_⟩;obtain⟨i,hi⟩:=aE9.1 hx;exact(h i x x hi (by rw[h1];exact hi)).2

theorem Rn.same{v v':AV}(h:Rn D Y r v v'):jE v=true→v'=v∧Gd v:=by
 induction h with
 | any v=>intro h;simp[jE]at h
 | int k n=>exact fun _=>⟨rfl,.int k n⟩
 | bool b=>exact fun _=>⟨rfl,.bool b⟩
 | str s=>exact fun _=>⟨rfl,.str s⟩
 | agg xs ys hl _ ih =>
   intro h;simp only[jE]at h;obtain⟨rfl,h2⟩:=oZ hl fun i x y hx hy=>ih i x y hx hy (fR h x (A5 hx));exact⟨rfl,.agg _ h2⟩
 | tup xs ys hl _ ih =>
   intro h;simp only[jE]at h;obtain⟨rfl,h2⟩:=oZ hl fun i x y hx hy=>ih i x y hx hy (fR h x (A5 hx));exact⟨rfl,.tup _ h2⟩
 | fs rows h=>exact fun _=>⟨rfl,.fs rows h⟩
 | fp rows i o h=>exact fun _=>⟨rfl,.fp rows i o h⟩
 | sl=>intro h;simp[jE]at h
 | pt=>intro h;simp[jE]at h
 | mp=>intro h;simp[jE]at h
 | sb=>intro h;simp[jE]at h
 | bp=>intro h;simp[jE]at h
 | nilsl=>exact fun _=>⟨rfl,.nilsl⟩
 | nilpt=>exact fun _=>⟨rfl,.nilpt⟩
 | nilmap=>exact fun _=>⟨rfl,.nilmap⟩
 | nilfn=>exact fun _=>⟨rfl,.nilfn⟩
 | nilifc=>exact fun _=>⟨rfl,.nilifc⟩
 | fn f xs ys us vs hf hl1 _ hl2 _ ih1 ih2 =>
   intro h;have h:lJ xs=true∧lJ us=true:=by
    cases f<;>simp only[jE,A3]at h<;>first|exact h.2|(exact absurd rfl (hf _))
   obtain⟨rfl,h2⟩:=oZ hl1 fun i x y hx hy=>ih1 i x y hx hy (fR h.1 x (A5 hx));obtain⟨rfl,h3⟩:=oZ hl2 fun i x y hx hy=>ih2 i x y hx hy (fR h.2 x (A5 hx));exact⟨rfl,.fn f _ _ hf h2 h3⟩
 | yield=>intro h;simp[jE]at h
 | ifc t x y _ ih =>
   intro h;simp only[jE]at h;obtain⟨rfl,h2⟩:=ih h;exact⟨rfl,.ifc t _ h2⟩
theorem RnL.same{xs ys:List AV}(h:RnL D Y r xs ys)(hg:lJ xs=true):ys=xs∧∀ x∈xs,Gd x :=
 oZ h.1 fun i x y hx hy=>(h.2 i x y hx hy).same (fR hg x (A5 hx))

mutual
theorem aIk:∀ v:AV,gdA v=true→Gd v
 | .agg cs,h=>.agg cs (zS cs (by simpa [gdA]using h))
 | .tup cs,h=>.tup cs (zS cs (by simpa [gdA]using h))
 | .fs rows,h=>.fs rows (aIj rows (by simpa [gdA]using h))
 | .fp rows i o,h=>.fp rows i o (aIj rows (by simpa [gdA]using h))
 | .sl ..,h=>by simp[gdA]at h
 | .pt ..,h=>by simp[gdA]at h
 | .mp _,h=>by simp[gdA]at h
 | .sb ..,h=>by simp[gdA]at h
 | .bp ..,h=>by simp[gdA]at h
 | .any,h=>by simp[gdA]at h
 | .fn f first cap,h=>by
   simp only[gdA,A3]at h;exact .fn f first cap (fun l e=>by subst e;simp at h) (zS first h.2.1) (zS cap h.2.2)
 | .ifc t v,h=>.ifc t v (aIk v (by simpa [gdA]using h))
 | .int k n,_=>.int k n
 | .bool b,_=>.bool b
 | .str s,_=>.str s
 | .nilsl,_=>.nilsl
 | .nilpt,_=>.nilpt
 | .nilmap,_=>.nilmap
 | .nilfn,_=>.nilfn
 | .nilifc,_=>.nilifc
theorem zS:∀ l:List AV,gdL l=true→∀ c∈l,Gd c
 | [],_=>by simp
 | v::l,h=>by
   have h1:=aIk v (by simp only[gdL,A3]at h;exact h.1);have h2:=zS l (by simp only[gdL,A3]at h;exact h.2);intro c hc;rcases B3.1 hc with rfl|hc;·exact h1
   ·exact h2 c hc
theorem aIj:∀ l:List (List AV),gdR l=true→∀ r∈l,∀ c∈r,Gd c
 | [],_=>by simp
 | v::l,h=>by
   have h1:=zS v (by simp only[gdR,A3]at h;exact h.1);have h2:=aIj l (by simp only[gdR,A3]at h;exact h.2);intro c hc;rcases B3.1 hc with rfl|hc;·exact h1
   ·exact h2 c hc
end
theorem Gd.gr{v:AV}(hv:Gd v):jE v=true:=by
 induction hv with
 | agg cs _ ih=>simp only[jE];exact eW ih
 | tup cs _ ih=>simp only[jE];exact eW ih
 | fn f first cap hf _ _ ih1 ih2=>cases f<;>simp only[jE,eW ih1,eW ih2,aJ4]<;>exact absurd rfl (hf _)
 | ifc t v _ ih=>simpa [jE]using ih
 | _=>rfl

theorem xQ(s:Nat→Option Nat):∀ l:List AV,lR s l=l.map (rnA s)
 | []=>rfl
 | v::l=>by simp[lR,xQ s l]
theorem Gd.rnA{v:AV}(h:Gd v)(s:Nat→Option Nat):rnA s v=v:=by
 have ls:∀{cs:List AV},(∀ c∈cs,Go.DL.rnA s c=c)→lR s cs=cs:=fun {cs} h=>by
  rw[xQ];induction cs with
  | nil=>rfl
  | cons c cs ih=>simp only[D7,h c (by simp),ih fun x hx=>h x (by simp[hx])]
 induction h with
 | agg cs _ ih=>simp only[Go.DL.rnA,ls ih]
 | tup cs _ ih=>simp only[Go.DL.rnA,ls ih]
 | fn f first cap hf _ _ ih1 ih2=>cases f<;>simp only[Go.DL.rnA,ls ih1,ls ih2]<;>exact absurd rfl (hf _)
 | ifc t v _ ih=>simp only[Go.DL.rnA,ih]
 | _=>rfl

theorem Rn.renum{r':Nat→Option Nat}{s:Nat→Option Nat}(hs:∀ b c d,s b=some c→r b=some d→r' c=some d){v v':AV}(h:Rn D Y r v v'):Rn D Y r' (rnA s v) v':=by
 have ls:∀{xs ys:List AV},xs.length=ys.length→(∀(i:Nat)(x y:AV),xs[i]?=some x→ys[i]?=some y→Rn D Y r' (Go.DL.rnA s x) y)→RnL D Y r' (lR s xs) ys:=fun {xs ys} hl h=>by
  rw[xQ];refine⟨by simpa using hl,fun i x y hx hy=>?_⟩;rw[A6,A0]at hx;obtain⟨z,hz,rfl⟩:=hx;exact h i z y hz hy
 induction h with
 | any v=>exact .any v
 | int k n=>exact .int k n
 | bool b=>exact .bool b
 | str t=>exact .str t
 | agg xs ys hl _ ih=>exact .agg _ _ (ls hl ih).1 (ls hl ih).2
 | tup xs ys hl _ ih=>exact .tup _ _ (ls hl ih).1 (ls hl ih).2
 | fs rows h=>exact .fs rows h
 | fp rows i o h=>exact .fp rows i o h
 | sl b d o z n hr =>
   simp only[rnA];split;·rename_i c hc;exact .sl c d o z n (hs b c d hc hr)
   ·exact .any _
 | pt b d o hr =>
   simp only[rnA];split;·rename_i c hc;exact .pt c d o (hs b c d hc hr)
   ·exact .any _
 | mp b d hr =>
   simp only[rnA];split;·rename_i c hc;exact .mp c d (hs b c d hc hr)
   ·exact .any _
 | sb b d n hr =>
   simp only[rnA];split;·rename_i c hc;exact .sb c d n (hs b c d hc hr)
   ·exact .any _
 | bp b d hr =>
   simp only[rnA];split;·rename_i c hc;exact .bp c d (hs b c d hc hr)
   ·exact .any _
 | nilsl=>exact .nilsl
 | nilpt=>exact .nilpt
 | nilmap=>exact .nilmap
 | nilfn=>exact .nilfn
 | nilifc=>exact .nilifc
 | fn f xs ys us vs hf hl1 _ hl2 _ ih1 ih2 =>
   cases f with
   | yield l=>exact absurd rfl (hf l)
   | _=>exact .fn _ _ _ _ _ hf (ls hl1 ih1).1 (ls hl1 ih1).2 (ls hl2 ih2).1 (ls hl2 ih2).2
 | yield l c0 hr =>
   simp only[rnA];split;·rename_i c hc;exact .yield c c0 (hs l c c0 hc hr)
   ·exact .any _
 | ifc t x y _ ih=>exact .ifc t _ _ ih
theorem RnL.renum{r':Nat→Option Nat}{s:Nat→Option Nat}(hs:∀ b c d,s b=some c→r b=some d→r' c=some d){xs ys:List AV}(h:RnL D Y r xs ys):RnL D Y r' (lR s xs) ys:=by
 rw[xQ];refine⟨by simpa using h.1,fun i x y hx hy=>?_⟩;rw[A6,A0]at hx;obtain⟨z,hz,rfl⟩:=hx;exact(h.2 i z y hz hy).renum hs

theorem Rn.mono{r':Nat→Option Nat}{Y':Nat→Option YI}(hr:∀ b c,r b=some c→r' b=some c){v v':AV}(h:Rn D Y r v v'):Rn D Y' r' v v':=by
 induction h with
 | any v=>exact .any v
 | int k n=>exact .int k n
 | bool b=>exact .bool b
 | str t=>exact .str t
 | agg xs ys hl _ ih=>exact .agg _ _ hl ih
 | tup xs ys hl _ ih=>exact .tup _ _ hl ih
 | fs rows h=>exact .fs rows h
 | fp rows i o h=>exact .fp rows i o h
 | sl b c o z n h=>exact .sl b c o z n (hr _ _ h)
 | pt b c o h=>exact .pt b c o (hr _ _ h)
 | mp b c h=>exact .mp b c (hr _ _ h)
 | sb b c n h=>exact .sb b c n (hr _ _ h)
 | bp b c h=>exact .bp b c (hr _ _ h)
 | nilsl=>exact .nilsl
 | nilpt=>exact .nilpt
 | nilmap=>exact .nilmap
 | nilfn=>exact .nilfn
 | nilifc=>exact .nilifc
 | fn f xs ys us vs hf hl1 _ hl2 _ ih1 ih2=>exact .fn f _ _ _ _ hf hl1 ih1 hl2 ih2
 | yield l c h1=>exact .yield l c (hr _ _ h1)
 | ifc t x y _ ih=>exact .ifc t _ _ ih
theorem RnL.mono{r':Nat→Option Nat}{Y':Nat→Option YI}(hr:∀ b c,r b=some c→r' b=some c){xs ys:List AV}(h:RnL D Y r xs ys):RnL D Y' r' xs ys :=
 ⟨h.1,fun i x y hx hy=>(h.2 i x y hx hy).mono hr⟩

def aXP:AV→Bool
 | .int _ _=>true
 | _=>false
mutual
def xW:AV→Bool
 | .agg cs=>okL cs
 | .tup vs=>okL vs
 | .sl .. | .pt .. | .mp _ | .sb .. | .bp _=>false
 | .fp rows _ _=>rows.all fun r=>r.all aXP
 | .fs rows=>rows.isEmpty
 | .fn f first cap=>(match f with | .yield _=>false|_=>true)&&(okL first&&okL cap)
 | .ifc _ v=>xW v
 | _=>true
def okL:List AV→Bool
 | []=>true
 | v::r=>xW v&&okL r
end

mutual
theorem zJ:∀ v:AV,xW v=true→Rn D Y r v v
 | .agg cs,h=>.agg cs cs rfl (pS cs (by simpa [xW]using h)).2
 | .tup cs,h=>.tup cs cs rfl (pS cs (by simpa [xW]using h)).2
 | .sl ..,h=>by simp[xW]at h
 | .pt ..,h=>by simp[xW]at h
 | .mp _,h=>by simp[xW]at h
 | .sb ..,h=>by simp[xW]at h
 | .bp ..,h=>by simp[xW]at h
 | .fp rows i o,h=>.fp rows i o fun r hr c hc=>by
   simp only[xW]at h;have:=C7.1 (C7.1 h r hr) c hc;cases c<;>simp[aXP]at this
   exact .int _ _
 | .fs rows,h=>by
   simp only[xW,List.isEmpty_iff]at h;subst h;exact .fs [] (by simp)
 | .fn f first cap,h=>by
   simp only[xW,A3]at h;exact .fn f first first cap cap (fun l e=>by subst e;simp at h) rfl (pS first h.2.1).2 rfl (pS cap h.2.2).2
 | .ifc t v,h=>.ifc t v v (zJ v (by simpa [xW]using h))
 | .int k n,_=>.int k n
 | .bool b,_=>.bool b
 | .str s,_=>.str s
 | .nilsl,_=>.nilsl
 | .nilpt,_=>.nilpt
 | .nilmap,_=>.nilmap
 | .nilfn,_=>.nilfn
 | .nilifc,_=>.nilifc
 | .any,_=>.any _
theorem pS:∀ l:List AV,okL l=true→RnL D Y r l l
 | [],_=>RnL.nil
 | v::l,h=>by
   simp only[okL,A3]at h;exact RnL.cons (zJ v h.1) (pS l h.2)
end

end
section
variable{D:Nat→Option XFn}{Y:Nat→Option YI}{r:Nat→Option Nat}{e env:aH}{h:XH}{H:Hp}

def qS(i:YI):LSt→Obj→Prop
 | .ready,o=>o=i.oR
 | .busy,o=>o=i.oB
 | .done (.exit id),o=>o=i.oD (.exit id)
 | .done .ret,o=>o=i.oD .ret
 | .done .normal,_=>False

def RnP(D:Nat→Option XFn)(Y:Nat→Option YI)(r:Nat→Option Nat)(xs ys:List (AV×AV)):Prop :=
 xs.length=ys.length∧∀(i:Nat)(x y:AV×AV),xs[i]?=some x→ys[i]?=some y→Rn D Y r x.1 y.1∧Rn D Y r x.2 y.2

inductive RnB(D:Nat→Option XFn)(Y:Nat→Option YI)(r:Nat→Option Nat):Nat→XB→ABlk→Prop where
 | cells (c:Nat) (g w:Bool) (xs ys:List AV) (h:RnL D Y r xs ys) (hg:g=true→lJ xs=true):RnB D Y r c (.blk g (.cells w xs)) (.cells w ys)
 | map (c:Nat) (g w:Bool) (xs ys:List (AV×AV)) (h:RnP D Y r xs ys) (hg:g=true→∀ p∈xs,jE p.1=true∧jE p.2=true):RnB D Y r c (.blk g (.map w xs)) (.map w ys)
 | obj (c:Nat) (g w:Bool) (o:Obj):RnB D Y r c (.blk g (.obj w o)) (.obj w o)
 | loop (c:Nat) (i:YI) (vs:List AV) (s:LSt) (o:Obj) (d:XFn) (L ps:List Nat) (a b:XCode) (hY:Y c=some i) (h:qS i s o) (hD:D i.K=some d) (hs:dZ d.body i.site=some (L,ps,a,b))
  (hv:RnL D Y r vs (L.map i.env)):RnB D Y r c (.loop i.K i.site vs s) (.obj true o)
 | gh (c:Nat) (st:dR) (p:Hp→Nat→Prop) (y:ABlk):RnB D Y r c (.gh st p) y

structure SHb(D:Nat→Option XFn)(Y:Nat→Option YI)(r:Nat→Option Nat)(h:XH)(H:Hp):Prop where
 dom:∀ b c,r b=some c→b<h.length
 inj:∀ b b' c x y,hat h b=some x→hat h b'=some y→r b=some c→r b'=some c→b=b'
 blk:∀ b x,hat h b=some x→(∃ g y,x = .blk g y)∧∃ c y,r b=some c∧H c=some y∧RnB D Y r c x y
def GInv(p:Hp→Nat→Prop)(c:Nat)(S:Nat→Prop)(H:Hp):Prop :=
 ∃(h0:XH)(r0:Nat→Option Nat)(b0:Nat),(∀ D Y,SHb D Y r0 h0 H)∧r0 b0=some c∧p (aG h0) b0∧∀ n,S n↔∃ i x,hat h0 i=some x∧r0 i=some n
theorem GInv.live{p:Hp→Nat→Prop}{c n:Nat}{S:Nat→Prop}(h:GInv p c S H)(hn:S n):∃ y,H n=some y:=by
 obtain⟨h0,r0,b0,h1,h2,h3,h4⟩:=h;obtain⟨i,x,k1,k2⟩:=(h4 n).1 hn;obtain⟨_,c',y,k3,k4,_⟩:=(h1 (fun _=>none) (fun _=>none)).blk i x k1;rw[k2]at k3;cases k3;exact⟨y,k4⟩
theorem GInv.mono{p:Hp→Nat→Prop}{c:Nat}{S:Nat→Prop}{H':Hp}(h:GInv p c S H)(hH:∀ n y,S n→H n=some y→H' n=some y):GInv p c S H':=by
 obtain⟨h0,r0,b0,h1,h2,h3,h4⟩:=h;refine⟨h0,r0,b0,fun D Y=>⟨(h1 D Y).dom,(h1 D Y).inj,fun b x hb=>?_⟩,h2,h3,h4⟩;obtain⟨k0,c',y,k1,k2,k3⟩:=(h1 D Y).blk b x hb;exact⟨k0,c',y,k1,hH c' y ((h4 c').2 ⟨b,x,hb,k1⟩) k2,k3⟩
theorem GInv.congr{p:Hp→Nat→Prop}{c:Nat}{S S':Nat→Prop}(h:GInv p c S H)(hS:∀ n,S' n↔S n):GInv p c S' H:=by
 obtain⟨h0,r0,b0,h1,h2,h3,h4⟩:=h;exact⟨h0,r0,b0,h1,h2,h3,fun n=>(hS n).trans (h4 n)⟩
def GhR(h:XH)(r:Nat→Option Nat)(G:Nat→Nat→Prop)(H:Hp):Prop :=
 (∀ b st p,hat h b=some (.gh st p)→∃ c,r b=some c∧GInv p c (G b) H) ∧
 ∀ b b' st p x n,hat h b=some (.gh st p)→hat h b'=some x→b≠b'→G b n→r b'≠some n∧∀ st' p',x = .gh st' p'→¬G b' n
theorem GhR.no{h:XH}{r:Nat→Option Nat}{H:Hp}(hn:∀ b st p,hat h b≠some (.gh st p)):∃ G,GhR h r G H :=
 ⟨fun _ _=>False,fun b st p hx=>absurd hx (hn b st p),fun b _ st p _ _ hx=>absurd hx (hn b st p)⟩
theorem GhR.via{h h':XH}{r r':Nat→Option Nat}{G:Nat→Nat→Prop}{H H':Hp}(g:GhR h r G H)(σ:Nat→Nat)
 (h1:∀ b st p,hat h' b=some (.gh st p)→hat h (σ b)=some (.gh st p)∧r' b=r (σ b))
 (h2:∀ b x,hat h' b=some x→(∃ x0,hat h (σ b)=some x0∧r' b=r (σ b)∧∀ st p,x = .gh st p→x0 = .gh st p) ∨
  ∃ c,r' b=some c∧(∀ a st p,hat h' a=some (.gh st p)→¬G (σ a) c)∧∀ st p,x ≠ .gh st p)
 (hi:∀ b b' st p x,hat h' b=some (.gh st p)→hat h' b'=some x→b≠b'→σ b≠σ b')
 (hH:∀ b st p n y,hat h' b=some (.gh st p)→G (σ b) n→H n=some y→H' n=some y):GhR h' r' (fun b=>G (σ b)) H':=by
 refine⟨fun b st p hb=>?_,fun b b' st p x n hb hb' hne hn=>?_⟩
 ·obtain⟨k1,k2⟩:=h1 b st p hb
  obtain⟨c,e1,e2⟩:=g.1 (σ b) st p k1;exact⟨c,k2.trans e1,e2.mono fun n y hn hy=>hH b st p n y hb hn hy⟩
 ·obtain⟨k1,k2⟩:=h1 b st p hb
  rcases h2 b' x hb' with ⟨x0,m1,m2,m3⟩|⟨c,m1,m2,m3⟩
  ·have:=g.2 (σ b) (σ b') st p x0 n k1 m1 (hi b b' st p x hb hb' hne) hn
   exact⟨by rw[m2];exact this.1,fun st' p' hx=>this.2 st' p' (m3 st' p' hx)⟩
  ·exact⟨by rw[m1];intro e;cases e;exact m2 b st p hb hn,fun st' p' hx=>absurd hx (m3 st' p')⟩
def ghX:XB→Bool
 | .gh _ _=>true
 | _=>false

structure SH(D:Nat→Option XFn)(Y:Nat→Option YI)(r:Nat→Option Nat)(h:XH)(H:Hp):Prop where
 dom:∀ b c,r b=some c→b<h.length
 inj:∀ b b' c x y,hat h b=some x→hat h b'=some y→r b=some c→r b'=some c→b=b'
 blk:∀ b x,hat h b=some x→∃ c y,r b=some c∧H c=some y∧RnB D Y r c x y
 gh:∃ G,GhR h r G H

theorem SH.cells(sh:SH D Y r h H){b c:Nat}(hr:r b=some c){w:Bool}{cs:List AV}(hb:aG h b=some (.cells w cs)):∃ g cs',hat h b=some (.blk g (.cells w cs))∧H c=some (.cells w cs')∧RnL D Y r cs cs'∧(g=true→lJ cs=true):=by
 unfold aG at hb;split at hb<;>simp only[oSI,reduceCtorEq]at hb
 rename_i g x hx;subst hb;obtain⟨c',y,h0,h1,h2⟩:=sh.blk b _ hx;rw[hr]at h0;simp only[oSI]at h0;subst h0;cases h2 with
 | cells _ _ _ ys h3 h4=>exact⟨g,ys,hx,h1,h3,h4⟩
theorem SH.map(sh:SH D Y r h H){b c:Nat}(hr:r b=some c){w:Bool}{es:List (AV×AV)}(hb:aG h b=some (.map w es)):∃ g es',hat h b=some (.blk g (.map w es))∧H c=some (.map w es')∧RnP D Y r es es'∧(g=true→∀ p∈es,jE p.1=true∧jE p.2=true):=by
 unfold aG at hb;split at hb<;>simp only[oSI,reduceCtorEq]at hb
 rename_i g x hx;subst hb;obtain⟨c',y,h0,h1,h2⟩:=sh.blk b _ hx;rw[hr]at h0;simp only[oSI]at h0;subst h0;cases h2 with
 | map _ _ _ ys h3 h4=>exact⟨g,ys,hx,h1,h3,h4⟩

theorem SH.obj(sh:SH D Y r h H){b c:Nat}(hr:r b=some c){w:Bool}{o:Obj}(hb:aG h b=some (.obj w o)):∃ g,hat h b=some (.blk g (.obj w o))∧H c=some (.obj w o):=by
 unfold aG at hb;split at hb<;>simp only[oSI,reduceCtorEq]at hb
 rename_i g x hx;subst hb;obtain⟨c',y,h0,h1,h2⟩:=sh.blk b _ hx;rw[hr]at h0;simp only[oSI]at h0;subst h0;cases h2 with
 | obj=>exact⟨g,hx,h1⟩

theorem dW{k:IntKind}{n:Int}{v:AV}(h:Rn D Y r (.int k n) v):v = .int k n:=by cases h;rfl
theorem fE{b:Bool}{v:AV}(h:Rn D Y r (.bool b) v):v = .bool b:=by cases h;rfl
theorem cX{s:ByteArray}{v:AV}(h:Rn D Y r (.str s) v):v = .str s:=by cases h;rfl
theorem kX{b o:Nat}{v:AV}(h:Rn D Y r (.pt b o) v):∃ c,v = .pt c o∧r b=some c:=by cases h;exact⟨_,rfl,‹_›⟩
theorem xO{b o s n:Nat}{v:AV}(h:Rn D Y r (.sl b o s n) v):∃ c,v = .sl c o s n∧r b=some c:=by cases h;exact⟨_,rfl,‹_›⟩
theorem aMR{b:Nat}{v:AV}(h:Rn D Y r (.bp b) v):∃ c,v = .bp c∧r b=some c:=by cases h;exact⟨_,rfl,‹_›⟩
theorem aMP{b n:Nat}{v:AV}(h:Rn D Y r (.sb b n) v):∃ c,v = .sb c n∧r b=some c:=by cases h;exact⟨_,rfl,‹_›⟩
theorem aGn{b:Nat}{v:AV}(h:Rn D Y r (.mp b) v):∃ c,v = .mp c∧r b=some c:=by cases h;exact⟨_,rfl,‹_›⟩
theorem xP{rows:List (List AV)}{v:AV}(h:Rn D Y r (.fs rows) v):v = .fs rows∧∀ r∈rows,∀ c∈r,Gd c:=by cases h;exact⟨rfl,‹_›⟩
theorem aAk{rows:List (List AV)}{i o:Nat}{v:AV}(h:Rn D Y r (.fp rows i o) v):v = .fp rows i o∧∀ r∈rows,∀ c∈r,Gd c:=by cases h;exact⟨rfl,‹_›⟩
theorem aBI{xs:List AV}{v:AV}(h:Rn D Y r (.agg xs) v):∃ ys,v = .agg ys∧RnL D Y r xs ys:=by cases h;exact⟨_,rfl,‹_›,‹_›⟩
theorem aEW{xs:List AV}{v:AV}(h:Rn D Y r (.tup xs) v):∃ ys,v = .tup ys∧RnL D Y r xs ys:=by cases h;exact⟨_,rfl,‹_›,‹_›⟩
theorem oN{v:AV}(h:Rn D Y r .nilsl v):v = .nilsl:=by cases h;rfl
theorem aBH{v:AV}(h:Rn D Y r .nilpt v):v = .nilpt:=by cases h;rfl
theorem zE{v:AV}(h:Rn D Y r .nilmap v):v = .nilmap:=by cases h;rfl
theorem aGm{v:AV}(h:Rn D Y r .nilfn v):v = .nilfn:=by cases h;rfl
theorem aDJ{v:AV}(h:Rn D Y r .nilifc v):v = .nilifc:=by cases h;rfl

def zH:AO→Bool
 | .t _=>true
 | .c v=>xW v
 | .meth _ _=>true
def aNv:Option AO→Bool
 | some x=>zH x
 | none=>true
theorem aGA{t:TypeId}{v v':AV}(h:Rn D Y r v v'):∀ tab:List (TypeId×FuncId),Rn D Y r (sK t v tab) (sK t v' tab)
 | []=>.any _
 | (u, f)::l=>by
   simp only[sK];split
   ·exact .fn _ _ _ _ _ (fun l e=>by cases e) rfl (fun i x y hx hy=>by
     match i with
     | 0=>simp at hx hy;subst hx hy;exact h
     | i+1=>simp at hx) rfl (fun i x y hx hy=>by simp at hx)
   ·exact aGA h l
theorem aNB{tab:List (TypeId×FuncId)}{v v':AV}(h:Rn D Y r v v'):Rn D Y r (aCg tab v) (aCg tab v'):=by
 cases h with
 | ifc t x y hx=>exact aGA hx tab
 | _=>exact .any _
theorem aL(re:∀ j,Rn D Y r (e j) (env j)){x:AO}(hx:zH x=true):Rn D Y r (aK e x) (aK env x):=by
 cases x with
 | t k=>exact re k
 | c v=>exact zJ v hx
 | meth tab k=>exact aNB (re k)
theorem tU(re:∀ j,Rn D Y r (e j) (env j)){xs:List AO}(hx:xs.all zH=true):RnL D Y r (xs.map (aK e)) (xs.map (aK env)) :=
 RnL.map fun x hm=>aL re (C7.1 hx x hm)

theorem wH{v v':AV}{cs:List AV}(h:Rn D Y r v v')(hc:cellsOf v=some cs):∃ cs',cellsOf v'=some cs'∧RnL D Y r cs cs':=by
 have one:∀{v v':AV},Rn D Y r v v'→RnL D Y r [v] [v']:=fun h=>RnL.cons h RnL.nil;cases h<;>simp only[cellsOf,oSI,reduceCtorEq]at hc
 case agg xs ys hl h=>subst hc;exact⟨ys,rfl,hl,h⟩
 all_goals
  subst hc;exact⟨_,rfl,one (by first|constructor<;>assumption|exact Rn.yield _ _ ‹_›)⟩

theorem yY{z z' cs cs':List AV}{o:Nat}(hz:RnL D Y r z z')(hc:RnL D Y r cs cs'):RnL D Y r (bO z o cs) (bO z' o cs'):=by
 unfold bO;rw[←hc.1];exact((hz.take o).append hc).append (hz.drop _)

theorem aGV{parts:List (Nat×Nat×AO)}(re:∀ j,Rn D Y r (e j) (env j)):∀(ps:List (Nat×Nat×AO))(z z' cs:List AV),(ps.all fun p=>zH p.2.2)=true→RnL D Y r z z'→fZ z (ps.map fun p=>(p.1,p.2.1,aK e p.2.2))=some cs →
 ∃ cs',fZ z' (ps.map fun p=>(p.1,p.2.1,aK env p.2.2))=some cs'∧RnL D Y r cs cs':=by
 intro ps;induction ps with
 | nil=>intro z z' cs _ hz hf;simp[fZ]at hf;subst hf;exact⟨z',rfl,hz⟩
 | cons p ps ih =>
   intro z z' cs hok hz hf;simp only[O8,A3]at hok;simp only[D7,fZ]at hf ⊢;split at hf
   ·rename_i vs hvs
    obtain⟨vs',h1,h2⟩:=wH (aL re hok.1) hvs;rw[h1];simp only;split at hf
    ·rename_i hc
     rw[if_pos (by rw[←h2.1,←hz.1];exact hc)];exact ih _ _ _ hok.2 (yY hz h2) hf
    ·simp at hf
   ·simp at hf

theorem aBN{g:Bool}{n o:Nat}{cs cs':List AV}{v:AV}(hc:RnL D Y r cs cs')(hv:iF g n cs o=some v):∃ v',iF g n cs' o=some v'∧Rn D Y r v v':=by
 unfold iF at hv ⊢;split at hv
 ·split at hv
  ·rename_i hg hle
   simp only[oSI]at hv;subst hv;rw[if_pos hg,if_pos (by rw[←hc.1];exact hle)];have:=(hc.drop o).take n;exact⟨_,rfl,.agg _ _ this.1 this.2⟩
  ·simp at hv
 ·rename_i hg
  rw[if_neg hg];exact hc.get hv

theorem aRf{rows:List (List AV)}(hr:∀ r∈rows,∀ c∈r,Gd c){i:Nat}{row:List AV}(h:rows[i]?=some row):RnL D Y r row row:=RnL.self fun c hc=>(hr row (A5 h) c hc).rn

theorem aGE(sh:SH D Y r h H){g:Bool}{n:Nat}{p p' v:AV}(hp:Rn D Y r p p')(hv:eY g n (aG h) p=some v):∃ v',eY g n H p'=some v'∧Rn D Y r v v':=by
 unfold eY at hv;split at hv
 ·rename_i b o
  split at hv
  ·rename_i w cs hb
   obtain⟨c,rfl,hr⟩:=kX hp;obtain⟨g',cs',_,h1,h2,_⟩:=sh.cells hr hb;simp only[eY,h1];exact aBN h2 hv
  ·simp at hv
 ·rename_i rows i o
  obtain⟨rfl,hg⟩:=aAk hp;split at hv
  ·rename_i row hrow
   simp only[eY,hrow];exact aBN (aRf hg hrow) hv
  ·simp at hv
 ·simp at hv

theorem uE{q b:Bool}{x x' y y':AV}(hx:Rn D Y r x x')(hy:Rn D Y r y y')(hb:iU q x y=some b):iU q x' y'=some b:=by
 unfold iU at hb;split at hb;·rw[dW hx,dW hy];exact hb
 ·rw[cX hx,cX hy];exact hb
 ·simp at hb
def aUP(D:Nat→Option XFn)(Y:Nat→Option YI)(r:Nat→Option Nat):Option AV→Option AV→Prop
 | some v,some v'=>Rn D Y r v v'
 | none,none=>True
 | _,_=>False
theorem aOl{q:Bool}{k k':AV}(hk:Rn D Y r k k'):∀(es es':List (AV×AV))(o:Option AV),RnP D Y r es es'→aO q k es=some o→∃ o',aO q k' es'=some o'∧aUP D Y r o o':=by
 intro es;induction es with
 | nil =>
   intro es' o hp hf;have:es'=[]:=B8 (by have:=hp.1;simpa using this.symm);subst this;simp[aO]at hf;subst hf;exact⟨none,rfl,trivial⟩
 | cons p es ih =>
   intro es' o hp hf;cases es' with
   | nil=>have:=hp.1;simp at this
   | cons p' es' =>
     obtain⟨h1,h2⟩:=hp.2 0 p p' rfl rfl;obtain⟨a,v⟩:=p;obtain⟨a',v'⟩:=p';simp only[aO]at hf ⊢;split at hf
     ·rename_i hb
      rw[uE hk h1 hb];simp only[oSI]at hf;subst hf;exact⟨some v',rfl,h2⟩
     ·rename_i hb
      rw[uE hk h1 hb];exact ih es' o ⟨by have:=hp.1;simpa using this,fun i x y hx hy=>hp.2 (i+1) x y (by simpa using hx) (by simpa using hy)⟩ hf
     ·simp at hf

theorem dT(re:∀ j,Rn D Y r (e j) (env j)){c d n:Nat}{x:Option AO}(hx:aNv x=true)(hb:aM c d e x=some n):aM c d env x=some n:=by
 cases x with
 | none=>exact hb
 | some x =>
   simp only[aM]at hb ⊢;have hr:=aL re (x:=x) hx;split at hb
   ·rename_i k m hm
    rw[hm]at hr;rw[dW hr];exact hb
   ·simp at hb

theorem aLm{k:Nat}{x x' y y':AV}{b:Bool}(hx:Rn D Y r x x')(hy:Rn D Y r y y')(hb:tL k x y=some b):tL k x' y'=some b:=by
 unfold tL at hb;split at hb;·rw[dW hx,dW hy];exact hb
 ·rw[fE hx,fE hy];exact hb
 ·rw[cX hx,cX hy];exact hb
 ·simp at hb
theorem aIF:∀(ks:List Nat)(xs xs' ys ys':List AV)(b:Bool),RnL D Y r xs xs'→RnL D Y r ys ys'→dQ ks xs ys=some b→dQ ks xs' ys'=some b:=by
 intro ks;induction ks with
 | nil =>
   intro xs xs' ys ys' b hx hy hb;cases xs<;>cases ys<;>simp only[dQ,reduceCtorEq]at hb
   rw[hx.nil_inv,hy.nil_inv];exact hb
 | cons k ks ih =>
   intro xs xs' ys ys' b hx hy hb;cases xs with
   | nil=>simp[dQ]at hb
   | cons x xs=>cases ys with
     | nil=>simp[dQ]at hb
     | cons y ys =>
       obtain⟨x',xs2,rfl,hx1,hx2⟩:=hx.inv;obtain⟨y',ys2,rfl,hy1,hy2⟩:=hy.inv;simp only[dQ]at hb ⊢;split at hb
       ·rename_i p q hp hq
        rw[aLm hx1 hy1 hp,ih _ _ _ _ _ hx2 hy2 hq];exact hb
       ·simp at hb

theorem aEF(sh:SH D Y r h H){s n:Nat}{v v':AV}{new:List AV}(hv:Rn D Y r v v')(hs:fJ s (aG h) v=some (n,new)):∃ new',fJ s H v'=some (n,new')∧RnL D Y r new new'∧(jU h v=true→lJ new=true):=by
 unfold fJ at hs;split at hs
 ·simp only[oSI,B4]at hs
  obtain⟨rfl,rfl⟩:=hs;rw[oN hv];exact⟨[],rfl,RnL.nil,fun _=>rfl⟩
 ·rename_i x
  rw[cX hv];split at hs<;>simp only[oSI,B4,reduceCtorEq]at hs
  rename_i h1;obtain⟨rfl,rfl⟩:=hs;refine⟨x.data.toList.map fun b=>.int .u8 (b.toNat:Int),by simp only[fJ];rw[if_pos h1],RnL.self fun y hy=>?_,fun _=>eW fun y hy=>?_⟩;·obtain⟨b,_,rfl⟩:=D6.1 hy;exact .int _ _
  ·obtain⟨b,_,rfl⟩:=D6.1 hy;rfl
 ·rename_i rows
  obtain⟨rfl,hg⟩:=xP hv;split at hs
  ·rename_i hall
   simp only[oSI,B4]at hs;obtain⟨rfl,rfl⟩:=hs;have hgd:∀ x∈rows.flatten,Gd x:=fun x hx=>by
    obtain⟨row,h1,h2⟩:=aH5.1 hx;exact hg row h1 x h2
   refine⟨rows.flatten,by simp only[fJ,hall,AAe],RnL.self fun x hx=>(hgd x hx).rn,fun _=>eW fun x hx=>?_⟩;have:∀ v,Gd v→jE v=true:=fun v hv=>by
    induction hv with
    | agg cs _ ih=>simp only[jE];exact eW ih
    | tup cs _ ih=>simp only[jE];exact eW ih
    | fn f first cap hf _ _ ih1 ih2=>cases f<;>simp only[jE,eW ih1,eW ih2,aJ4]<;>exact absurd rfl (hf _)
    | ifc t v _ ih=>simpa [jE]using ih
    | _=>rfl
   exact this x (hgd x hx)
  ·simp at hs
 ·rename_i b o s' len
  split at hs
  ·rename_i w cs hb
   obtain⟨c,rfl,hr⟩:=xO hv;obtain⟨g,cs',h0,h1,h2,h3⟩:=sh.cells hr hb;split at hs
   ·rename_i hc
    simp only[oSI,B4]at hs;obtain⟨rfl,rfl⟩:=hs;refine⟨(cs'.drop o).take (len*s),by simp only[fJ,h1];rw[if_pos (by rw[←h2.1];exact hc)],(h2.drop o).take _,fun hf=>?_⟩;simp only[jU,h0]at hf;exact eW fun x hx=>fR (h3 hf) x (O3 (I1 hx))
   ·simp at hs
  ·simp at hs
 ·simp at hs

theorem aLq{cs cs':List AV}{l:List UInt8}(h:RnL D Y r cs cs')(hb:gT cs=some l):gT cs'=some l:=by
 induction cs generalizing cs' l with
 | nil=>rw[h.nil_inv];exact hb
 | cons c cs ih =>
   obtain⟨c',cs2,rfl,h1,h2⟩:=h.inv;unfold gT at hb;split at hb;·simp at *
   ·rename_i n q he
    simp only[aA3]at he;obtain⟨rfl,rfl⟩:=he;simp only[A0]at hb;obtain⟨l',k1,rfl⟩:=hb;rw[dW h1];simp only[gT,ih h2 k1,C3]
   ·simp at hb
theorem aKt(sh:SH D Y r h H){v v' u:AV}(hv:Rn D Y r v v')(hs:iQ (aG h) v=some u):iQ H v'=some u∧Gd u:=by
 unfold iQ at hs;split at hs;·simp at hs
 ·rename_i hne
  unfold mP at hs;split at hs
  ·rename_i n cs hsrc
   obtain⟨new',k1,k2,_⟩:=aEF sh hv hsrc;simp only[A0]at hs;obtain⟨l,h1,rfl⟩:=hs;refine⟨?_,.str _⟩;have hne':∀ s,v' ≠ .str s:=by
    intro s e;subst e;cases hv with
    | str=>exact hne _ rfl
    | any=>simp[fJ]at hsrc
   unfold iQ;split;·rename_i s;exact absurd rfl (hne' s)
   ·rw[k1];simp only[mP,aLq k2 h1,C3]
  ·simp at hs

theorem aMm(re:∀ j,Rn D Y r (e j) (env j)){s:Nat}{lo hi:Option AO}(h1:aNv lo=true)(h2:aNv hi=true){v v' u:AV}(hv:Rn D Y r v v')(hs:kW s e lo hi v=some u):∃ u',kW s env lo hi v'=some u'∧Rn D Y r u u':=by
 unfold kW at hs;split at hs
 ·rename_i rows
  obtain⟨rfl,hg⟩:=xP hv;split at hs
  ·rename_i hall
   split at hs
   ·rename_i m hm
    split at hs
    ·rename_i l hl
     simp only[oSI]at hs;subst hs;refine⟨_,by simp only[kW,hall,AAe,dT re h2 hm,dT re h1 hl],.fs _ fun row hrow=>?_⟩;exact hg row (O3 (I1 hrow))
    ·simp at hs
   ·simp at hs
  ·simp at hs
 ·rename_i b o s' len
  obtain⟨c,rfl,hr⟩:=xO hv;split at hs
  ·rename_i hc
   split at hs
   ·rename_i m hm
    split at hs
    ·rename_i l hl
     split at hs
     ·rename_i hlt
      simp only[oSI]at hs;subst hs;exact⟨_,by simp only[kW,hc,AAe,dT re h2 hm,dT re h1 hl,hlt],.sl _ _ _ _ _ hr⟩
     ·rename_i hlt
      split at hs<;>simp only[oSI]at hs<;>subst hs
      ·rename_i h0
       subst h0;exact⟨_,by simp only[kW,hc,AAe,dT re h2 hm,dT re h1 hl,hlt,AAd],.sl _ _ _ _ _ hr⟩
      ·rename_i h0
       exact⟨_,by simp only[kW,hc,AAe,dT re h2 hm,dT re h1 hl,hlt,AAd,h0],.fs [] (by simp)⟩
    ·simp at hs
   ·simp at hs
  ·simp at hs
 ·rw[oN hv]
  split at hs
  ·rename_i m hm
   split at hs
   ·rename_i l hl
    simp only[oSI]at hs;subst hs;exact⟨_,by simp only[kW,dT re h2 hm,dT re h1 hl],.nilsl⟩
   ·simp at hs
  ·simp at hs
 ·simp at hs

theorem aRD{op:BinOp}{x x' y y' v:AV}(hx:Rn D Y r x x')(hy:Rn D Y r y y')(hb:aCS op x y=some v):aCS op x' y'=some v∧Rn D Y r v v:=by
 unfold aCS at hb;split at hb
 ·rw[dW hx,dW hy]
  refine⟨hb,?_⟩;cases op<;>simp only[gN]at hb<;>(try split at hb)<;>simp only[oSI,reduceCtorEq]at hb<;>subst hb<;>constructor
 ·rw[cX hx,cX hy]
  refine⟨hb,?_⟩;cases op<;>simp only[aQ,reduceCtorEq]at hb<;>(try split at hb)<;>simp only[oSI,reduceCtorEq]at hb<;>subst hb<;>constructor
 ·simp at hb

theorem aRp{k:Nat}{x x' y y':AV}{b:Bool}(hx:Rn D Y r x x')(hy:Rn D Y r y y')(hb:yI k x y=some b):yI k x' y'=some b:=by
 unfold yI at hb;split at hb
 all_goals first
  | (simp only[reduceCtorEq]at hb;done)
  | (cases hx<;>cases hy<;>exact hb)

inductive RnE(D:Nat→Option XFn)(Y:Nat→Option YI)(r:Nat→Option Nat)(h:XH)(g:Bool):Eff→Eff→Prop where
 | val (v v':AV) (hv:Rn D Y r v v'):RnE D Y r h g (.val v) (.val v')
 | new (own:Option Nat) (cs cs':List AV) (f:Nat→AV) (hf:∀(q:Nat→Option Nat)(b c:Nat),q b=some c→Rn D Y q (f b) (f c)) (hc:RnL D Y r cs cs') (hg:g=true→lJ cs=true)
  (ho:∀ b,own=some b→∃ c g' cs0,r b=some c∧hat h b=some (.blk g' (.cells true cs0))):RnE D Y r h g (.new own (.cells true cs) f) (.new (own.bind r) (.cells true cs') f)
 | newObj (o:Obj) (f:Nat→AV) (hf:∀(q:Nat→Option Nat)(b c:Nat),q b=some c→Rn D Y q (f b) (f c)):RnE D Y r h g (.new none (.obj true o) f) (.new none (.obj true o) f)
 | newMap (es:List (AV×AV)) (f:Nat→AV) (hf:∀(q:Nat→Option Nat)(b c:Nat),q b=some c→Rn D Y q (f b) (f c)) (he:∀ p∈es,Gd p.1∧Gd p.2):RnE D Y r h g (.new none (.map true es) f) (.new none (.map true es) f)

def iH:DOp→Bool
 | .mv x | .box x | .load _ _ x | .nilck x | .not x | .neg x | .conv _ x | .fld _ x | .ext x _ | .len _ x | .mkifc _ x | .bytes x | .strof x | .rngs x | .nxts x=>zH x
 | .pick c a b=>zH c&&zH a&&zH b
 | .alloc z=>okL z
 | .mkmap | .allocb | .stuck=>true
 | .build z ps | .bslice _ _ z ps=>okL z&&ps.all fun p=>zH p.2.2
 | .bin _ x y | .binb _ x y | .eqag _ _ x y | .eqn _ _ x y | .idxa _ _ x y | .idx _ x y | .idxv _ _ _ x y | .idxs x y | .app _ _ x y | .mm _ x y | .copy _ x y=>zH x&&zH y
 | .mksl _ _ z x y=>okL z&&(zH x&&zH y)
 | .lookup _ _ z x y=>xW z&&(zH x&&zH y)
 | .store _ x y _=>zH x&&zH y
 | .mkf f c1 c2=>(match f with | .yield _=>false|_=>true)&&(c1.all zH&&c2.all zH)
 | .slarr _ _ x lo hi | .slsl _ x lo hi | .slstr x lo hi=>zH x&&(aNv lo&&aNv hi)
 | .mapup _ m k x=>zH m&&zH k&&zH x
 | .callf _ f xs _=>zH f&&xs.all zH

theorem aNH(sh:SH D Y r h H){q:Bool}{k k' m m':AV}{o:Option AV}(hk:Rn D Y r k k')(hm:Rn D Y r m m')(hl:lG q (aG h) k m=some o) :
 ∃ o',lG q H k' m'=some o'∧aUP D Y r o o':=by
 unfold lG at hl;split at hl
 ·rename_i b
  split at hl
  ·rename_i w es hb
   obtain⟨c,rfl,hr⟩:=aGn hm;obtain⟨g,es',_,h1,h2,_⟩:=sh.map hr hb;simp only[lG,h1];exact aOl hk es es' o h2 hl
  ·simp at hl
 ·rw[zE hm]
  simp only[oSI]at hl;subst hl;exact⟨none,rfl,trivial⟩
 ·simp at hl

theorem aNG{ok:Bool}{z:AV}(hz:xW z=true){o o':Option AV}(ho:aUP D Y r o o'):Rn D Y r (sM ok z o) (sM ok z o'):=by
 have two:∀{v v':AV}(b:Bool),Rn D Y r v v'→Rn D Y r (.tup [v,.bool b]) (.tup [v',.bool b]):=fun b h=>by
  have:=RnL.cons h (RnL.cons (.bool b) RnL.nil);exact .tup _ _ this.1 this.2
 cases o with
 | none=>cases o' with
   | none=>unfold sM;simp only;split;exact two false (zJ z hz);exact zJ z hz
   | some v'=>exact ho.elim
 | some v=>cases o' with
   | none=>exact ho.elim
   | some v'=>unfold sM;simp only;split;exact two true ho;exact ho

theorem sU{z z':List AV}(hz:RnL D Y r z z'):∀ n:Nat,RnL D Y r (List.replicate n z).flatten (List.replicate n z').flatten
 | 0=>RnL.nil
 | n+1=>by simpa [M0]using hz.append (sU hz n)
theorem aCq{xs ys:List AV}(h1:lJ xs=true)(h2:lJ ys=true):lJ (xs++ys)=true:=eW fun x hx=>by
 rcases A9.1 hx with hx|hx;·exact fR h1 x hx
 ·exact fR h2 x hx
theorem vZ{z cs:List AV}{o:Nat}(h1:lJ z=true)(h2:lJ cs=true):lJ (bO z o cs)=true:=eW fun x hx=>by
 unfold bO at hx;rcases A9.1 hx with hx|hx
 ·rcases A9.1 hx with hx|hx
  ·exact fR h1 x (I1 hx)
  ·exact fR h2 x hx
 ·exact fR h1 x (O3 hx)
theorem aCK{v:AV}{cs:List AV}(hc:cellsOf v=some cs)(hg:jE v=true):lJ cs=true:=by
 cases v<;>simp only[cellsOf,oSI,reduceCtorEq]at hc<;>subst hc<;>first|(simp[jE]at hg;done)|(simpa [jE]using hg)|simp_all [lJ]
theorem aOq:∀(ps:List (Nat×Nat×AO))(z cs:List AV),(ps.all fun p=>jE (aK e p.2.2))=true→lJ z=true→fZ z (ps.map fun p=>(p.1,p.2.1,aK e p.2.2))=some cs→lJ cs=true:=by
 intro ps;induction ps with
 | nil=>intro z cs _ hz hf;simp[fZ]at hf;subst hf;exact hz
 | cons p ps ih =>
   intro z cs hok hz hf;simp only[O8,A3]at hok;simp only[D7,fZ]at hf;split at hf
   ·rename_i vs hvs
    split at hf;·exact ih _ _ hok.2 (vZ hz (aCK hvs hok.1)) hf
    ·simp at hf
   ·simp at hf
theorem aJG{z:List AV}(hz:lJ z=true)(n:Nat):lJ (List.replicate n z).flatten=true:=eW fun x hx=>by
 obtain⟨row,h1,h2⟩:=aH5.1 hx;rw[List.mem_replicate]at h1;rw[h1.2]at h2;exact fR hz x h2

theorem aRF(sh:SH D Y r h H){s n:Nat}{x x' y y':AV}{eff:Eff}(hx:Rn D Y r x x')(hy:Rn D Y r y y')(ha:pG s n (aG h) x y=some eff) :
 ∃ eff',pG s n H x' y'=some eff'∧RnE D Y r h (jU h x&&jU h y) eff eff':=by
 unfold pG at ha;split at ha;·simp at ha
 ·rename_i m new hs
  obtain⟨new',k1,k2,k3⟩:=aEF sh hy hs;split at ha
  ·rw[oN hx]
   split at ha
   ·rename_i hc
    split at ha<;>simp only[oSI]at ha<;>subst ha
    ·rename_i h0
     subst h0;refine⟨_,by simp only[pG,k1];rw[if_pos hc];rfl,.val _ _ .nilsl⟩
    ·rename_i h0
     refine⟨_,by simp only[pG,k1];rw[if_pos hc,if_neg h0];rfl,.new none new new' _ (fun q b c hq=>by
      split;·exact .sb _ _ _ hq
      ·exact .sl _ _ _ _ _ hq) k2 (fun hg=>?_) (by simp)⟩
     simp only[A3]at hg;exact k3 hg.2
   ·simp at ha
  ·rename_i b len
   obtain⟨c,rfl,hr⟩:=aMP hx;split at ha
   ·rename_i cs hb
    obtain⟨g,cs',h0,h1,h2,h3⟩:=sh.cells hr hb;split at ha
    ·rename_i hc
     simp only[oSI]at ha;subst ha;refine⟨_,by simp only[pG,k1,h1];rw[if_pos (by rw[←h2.1];exact hc)];simp only[E7,hr],.new (some b) (cs++new) (cs'++new') _ (fun q b c hq=>.sb _ _ _ hq) (h2.append k2) (fun hg=>?_) (fun c hc'=>?_)⟩
     ·simp only[A3,jU,h0]at hg
      exact aCq (h3 hg.1) (k3 hg.2)
     ·simp only[oSI]at hc'
      subst hc';exact⟨c,g,cs,hr,h0⟩
    ·simp at ha
   ·simp at ha
  ·rename_i b s' len
   obtain⟨c,rfl,hr⟩:=xO hx;split at ha
   ·rename_i cs hb
    obtain⟨g,cs',h0,h1,h2,h3⟩:=sh.cells hr hb;split at ha
    ·rename_i hc
     simp only[oSI]at ha;subst ha;refine⟨_,by simp only[pG,k1,h1];rw[if_pos (by rw[←h2.1];exact hc)];simp only[E7,hr],.new (some b) (cs++new) (cs'++new') _ (fun q b c hq=>.sl _ _ _ _ _ hq) (h2.append k2) (fun hg=>?_) (fun c hc'=>?_)⟩
     ·simp only[A3,jU,h0]at hg
      exact aCq (h3 hg.1) (k3 hg.2)
     ·simp only[oSI]at hc'
      subst hc';exact⟨c,g,cs,hr,h0⟩
    ·simp at ha
   ·simp at ha
  ·simp at ha

theorem aGX(sh:SH D Y r h H)(re:∀ j,Rn D Y r (e j) (env j)){op:DOp}(hok:iH op=true){eff:Eff}(he:aD op e (aG h)=some eff) :
 ∃ eff',aD op env H=some eff'∧RnE D Y r h (iP op e h) eff eff':=by
 cases op with
 | mv x =>
   simp only[aD,oSI]at he;subst he;exact⟨_,rfl,.val _ _ (aL re hok)⟩
 | pick c a b =>
   simp only[iH,A3]at hok;simp only[aD]at he;split at he<;>simp only[oSI,reduceCtorEq]at he
   rename_i t ht;subst he;have hc:=aL re hok.1.1;rw[ht]at hc;refine⟨_,by simp only[aD,fE hc];rfl,.val _ _ ?_⟩;cases t;·exact aL re hok.2
   ·exact aL re hok.1.2
 | alloc z =>
   simp only[aD,oSI]at he;subst he;exact⟨_,rfl,.new none z z _ (fun q b c hq=>.pt _ _ _ hq) (pS z hok) (fun hg=>hg) (by simp)⟩
 | box x =>
   simp only[aD]at he;split at he<;>simp only[oSI,reduceCtorEq]at he
   rename_i cs hc;subst he;obtain⟨cs',h1,h2⟩:=wH (aL re hok) hc;exact⟨_,by simp only[aD,h1];rfl,.new none cs cs' _ (fun q b c hq=>.pt _ _ _ hq) h2 (fun hg=>aCK hc hg) (by simp)⟩
 | build z ps =>
   simp only[iH,A3]at hok;simp only[aD]at he;split at he<;>simp only[oSI,reduceCtorEq]at he
   rename_i cs hc;subst he;obtain⟨cs',h1,h2⟩:=aGV (parts:=ps) re ps z z cs hok.2 (pS z hok.1) hc;exact⟨_,by simp only[aD,h1],.val _ _ (.agg _ _ h2.1 h2.2)⟩
 | bslice s len z ps =>
   simp only[iH,A3]at hok;simp only[aD]at he;split at he<;>simp only[oSI,reduceCtorEq]at he
   rename_i cs hc;subst he;obtain⟨cs',h1,h2⟩:=aGV (parts:=ps) re ps _ _ cs hok.2 (sU (pS z hok.1) len) hc;refine⟨_,by simp only[aD,h1];rfl,.new none cs cs' _ (fun q b c hq=>.sl _ _ _ _ _ hq) h2 (fun hg=>?_) (by simp)⟩;simp only[iP,A3]at hg;exact aOq ps _ _ hg.2 (aJG hg.1 len) hc
 | load g n x =>
   simp only[aD]at he;split at he<;>simp only[oSI,reduceCtorEq]at he
   rename_i v hv;subst he;obtain⟨v',h1,h2⟩:=aGE sh (aL re hok) hv;exact⟨_,by simp only[aD,h1],.val _ _ h2⟩
 | nilck x =>
   have hx:=aL re (x:=x) hok;simp only[aD]at he;split at he<;>simp only[oSI,reduceCtorEq]at he<;>rename_i h1<;>subst he<;>rw[h1]at hx
   ·obtain⟨c,e1,hr⟩:=kX hx
    exact⟨_,by simp only[aD,e1],.val _ _ (.pt _ _ _ hr)⟩
   ·obtain⟨c,e1,hr⟩:=aMR hx
    exact⟨_,by simp only[aD,e1],.val _ _ (.pt _ _ _ hr)⟩
   ·exact⟨_,by simp only[aD,(aAk hx).1],.val _ _ (.fp _ _ _ (aAk hx).2)⟩
   ·rename_i tt vv
    obtain⟨v',hv1,hv2⟩:∃ v',aK env x = .ifc tt v'∧Rn D Y r (.ifc tt vv) (.ifc tt v'):=by
     generalize aK env x=v' at hx;have hx':=hx;cases hx with
     | ifc t x y hv=>exact⟨_,rfl,hx'⟩
    exact⟨_,by simp only[aD,hv1],.val _ _ hv2⟩
 | bin op x y =>
   simp only[iH,A3]at hok;simp only[aD]at he;split at he<;>simp only[oSI,reduceCtorEq]at he
   rename_i v hv;subst he;obtain⟨h1,h2⟩:=aRD (aL re hok.1) (aL re hok.2) hv;exact⟨_,by simp only[aD,h1],.val _ _ h2⟩
 | binb neg x y =>
   simp only[iH,A3]at hok;have hx:=aL re hok.1;have hy:=aL re hok.2;simp only[aD]at he;split at he<;>simp only[oSI,reduceCtorEq]at he
   rename_i a b h1 h2;subst he;rw[h1]at hx;rw[h2]at hy;exact⟨_,by simp only[aD,fE hx,fE hy],.val _ _ (.bool _)⟩
 | eqag neg ks x y =>
   simp only[iH,A3]at hok;have hx:=aL re hok.1;have hy:=aL re hok.2;simp only[aD]at he;split at he
   ·rename_i cs ds h1 h2
    rw[h1]at hx;rw[h2]at hy;obtain⟨cs',e1,k1⟩:=aBI hx;obtain⟨ds',e2,k2⟩:=aBI hy;split at he<;>simp only[oSI,reduceCtorEq]at he
    rename_i b hb;subst he;exact⟨_,by simp only[aD,e1,e2,aIF _ _ _ _ _ _ k1 k2 hb],.val _ _ (.bool _)⟩
   ·simp at he
 | eqn kd neg x y =>
   simp only[iH,A3]at hok;simp only[aD]at he;split at he<;>simp only[oSI,reduceCtorEq]at he
   rename_i b hb;subst he;exact⟨_,by simp only[aD,aRp (aL re hok.1) (aL re hok.2) hb],.val _ _ (.bool _)⟩
 | not x =>
   have hx:=aL re (x:=x) hok;simp only[aD]at he;split at he<;>simp only[oSI,reduceCtorEq]at he
   rename_i b h1;subst he;rw[h1]at hx;exact⟨_,by simp only[aD,fE hx],.val _ _ (.bool _)⟩
 | neg x =>
   have hx:=aL re (x:=x) hok;simp only[aD]at he;split at he<;>simp only[oSI,reduceCtorEq]at he
   rename_i k n h1;subst he;rw[h1]at hx;exact⟨_,by simp only[aD,dW hx],.val _ _ (.int ..)⟩
 | conv k x =>
   have hx:=aL re (x:=x) hok;simp only[aD]at he;split at he<;>simp only[oSI,reduceCtorEq]at he
   rename_i k n h1;subst he;rw[h1]at hx;exact⟨_,by simp only[aD,dW hx],.val _ _ (.int ..)⟩
 | mkf f c1 c2 =>
   simp only[iH,A3]at hok;simp only[aD,oSI]at he;subst he;have h1:=tU re hok.2.1;have h2:=tU re hok.2.2;exact⟨_,rfl,.val _ _ (.fn f _ _ _ _ (fun l e=>by subst e;simp at hok) h1.1 h1.2 h2.1 h2.2)⟩
 | fld off x =>
   have hx:=aL re (x:=x) hok;simp only[aD]at he;split at he<;>simp only[oSI,reduceCtorEq]at he<;>rename_i h1<;>subst he<;>rw[h1]at hx
   ·obtain⟨c,e1,hr⟩:=kX hx
    exact⟨_,by simp only[aD,e1],.val _ _ (.pt _ _ _ hr)⟩
   ·exact⟨_,by simp only[aD,(aAk hx).1],.val _ _ (.fp _ _ _ (aAk hx).2)⟩
 | idxa len s x i =>
   simp only[iH,A3]at hok;have hx:=aL re hok.1;have hi:=aL re hok.2;simp only[aD]at he;split at he
   ·rename_i b o k n h1 h2
    rw[h1]at hx;rw[h2]at hi;split at he<;>simp only[oSI,reduceCtorEq]at he
    rename_i hc;subst he;obtain⟨c,e1,hr⟩:=kX hx;exact⟨_,by simp only[aD,e1,dW hi];rw[if_pos hc],.val _ _ (.pt _ _ _ hr)⟩
   ·rename_i rows j o k n h1 h2
    rw[h1]at hx;rw[h2]at hi;split at he<;>simp only[oSI,reduceCtorEq]at he
    rename_i hc;subst he;exact⟨_,by simp only[aD,(aAk hx).1,dW hi];rw[if_pos hc],.val _ _ (.fp _ _ _ (aAk hx).2)⟩
   ·simp at he
 | idx s x i =>
   simp only[iH,A3]at hok;have hx:=aL re hok.1;have hi:=aL re hok.2;simp only[aD]at he;split at he
   ·rename_i b o s' len k n h1 h2
    rw[h1]at hx;rw[h2]at hi;split at he<;>simp only[oSI,reduceCtorEq]at he
    rename_i hc;subst he;obtain⟨c,e1,hr⟩:=xO hx;exact⟨_,by simp only[aD,e1,dW hi];rw[if_pos hc],.val _ _ (.pt _ _ _ hr)⟩
   ·rename_i rows k n h1 h2
    rw[h1]at hx;rw[h2]at hi;split at he<;>simp only[oSI,reduceCtorEq]at he
    rename_i hc;subst he;exact⟨_,by simp only[aD,(xP hx).1,dW hi];rw[if_pos hc],.val _ _ (.fp _ _ _ (xP hx).2)⟩
   ·simp at he
 | idxv agg len s x i =>
   simp only[iH,A3]at hok;have hx:=aL re hok.1;have hi:=aL re hok.2;simp only[aD]at he;split at he
   ·rename_i cs k n h1 h2
    rw[h1]at hx;rw[h2]at hi;obtain⟨cs',e1,k1⟩:=aBI hx;split at he
    ·rename_i hc
     split at he<;>simp only[oSI,reduceCtorEq]at he
     rename_i v hv;subst he;obtain⟨v',h3,h4⟩:=aBN k1 hv;exact⟨_,by simp only[aD,e1,dW hi];rw[if_pos hc,h3],.val _ _ h4⟩
    ·simp at he
   ·simp at he
 | idxs x i =>
   simp only[iH,A3]at hok;have hx:=aL re hok.1;have hi:=aL re hok.2;simp only[aD]at he;split at he
   ·rename_i t k n h1 h2
    rw[h1]at hx;rw[h2]at hi;split at he<;>simp only[oSI,reduceCtorEq]at he
    rename_i hc;subst he;exact⟨_,by simp only[aD,cX hx,dW hi];rw[if_pos hc],.val _ _ (.int ..)⟩
   ·simp at he
 | mksl s bytes z l c =>
   simp only[iH,A3]at hok;have hl:=aL re hok.2.1;have hc:=aL re hok.2.2;simp only[aD]at he;split at he
   ·rename_i l c h1 h2
    rw[h1]at hl;rw[h2]at hc;split at he<;>simp only[oSI,reduceCtorEq]at he
    rename_i hcond;subst he;exact⟨_,by simp only[aD,dW hl,dW hc];rw[if_pos hcond];rfl,.new none _ _ _ (fun q b c hq=>.sl _ _ _ _ _ hq) (sU (pS z hok.1) _) (fun hg=>aJG (by simpa [iP]using hg) _) (by simp)⟩
   ·simp at he
 | slarr len s x lo hi =>
   simp only[iH,A3]at hok;have hx:=aL re hok.1;simp only[aD]at he;split at he
   ·rename_i b o h1
    rw[h1]at hx;obtain⟨c,e1,hr⟩:=kX hx;split at he
    ·rename_i w cs m hb hm
     obtain⟨g,cs',h0,k1,k2,k3⟩:=sh.cells hr hb;split at he
     ·rename_i l hl
      split at he<;>simp only[oSI,reduceCtorEq]at he
      rename_i hc;subst he;exact⟨_,by simp only[aD,e1,k1,dT re hok.2.2 hm,dT re hok.2.1 hl];rw[if_pos (by rw[←k2.1];exact hc)],.val _ _ (.sl _ _ _ _ _ hr)⟩
     ·simp at he
    ·simp at he
   ·simp at he
 | slsl s x lo hi =>
   simp only[iH,A3]at hok;simp only[aD]at he;split at he<;>simp only[oSI,reduceCtorEq]at he
   rename_i v hv;subst he;obtain⟨v',h1,h2⟩:=aMm re hok.2.1 hok.2.2 (aL re hok.1) hv;exact⟨_,by simp only[aD,h1],.val _ _ h2⟩
 | slstr x lo hi =>
   simp only[iH,A3]at hok;have hx:=aL re hok.1;simp only[aD]at he;split at he
   ·rename_i t h1
    rw[h1]at hx;split at he
    ·rename_i m hm
     split at he<;>simp only[oSI,reduceCtorEq]at he
     rename_i l hl;subst he;exact⟨_,by simp only[aD,cX hx,dT re hok.2.2 hm,dT re hok.2.1 hl],.val _ _ (.str _)⟩
    ·simp at he
   ·simp at he
 | allocb =>
   simp only[aD,oSI]at he;subst he;exact⟨_,rfl,.new none [.nilpt,.nilsl] [.nilpt,.nilsl] _ (fun q b c hq=>.bp _ _ hq) (RnL.cons .nilpt (RnL.cons .nilsl RnL.nil)) (fun _=>rfl) (by simp)⟩
 | mkmap =>
   simp only[aD,oSI]at he;subst he;exact⟨_,rfl,.newMap [] _ (fun q b c hq=>.mp _ _ hq) (by simp)⟩
 | lookup q ok z m k =>
   simp only[iH,A3]at hok;simp only[aD]at he;split at he<;>simp only[oSI,reduceCtorEq]at he
   rename_i o ho;subst he;obtain⟨o',h1,h2⟩:=aNH sh (aL re hok.2.2) (aL re hok.2.1) ho;exact⟨_,by simp only[aD,h1],.val _ _ (aNG hok.1 h2)⟩
 | ext x i =>
   have hx:=aL re (x:=x) hok;simp only[aD]at he;split at he
   ·rename_i vs h1
    rw[h1]at hx;obtain⟨vs',e1,k1⟩:=aEW hx;split at he<;>simp only[oSI,reduceCtorEq]at he
    rename_i v hv;subst he;obtain⟨v',h2,h3⟩:=k1.get hv;exact⟨_,by simp only[aD,e1,h2],.val _ _ h3⟩
   ·simp at he
 | len q x =>
   have hx:=aL re (x:=x) hok;simp only[aD]at he;split at he<;>simp only[oSI,reduceCtorEq]at he<;>rename_i h1<;>subst he<;>rw[h1]at hx
   ·exact⟨_,by simp only[aD,cX hx],.val _ _ (.int ..)⟩
   ·exact⟨_,by simp only[aD,(xP hx).1],.val _ _ (.int ..)⟩
   ·obtain⟨c,e1,hr⟩:=xO hx
    exact⟨_,by simp only[aD,e1],.val _ _ (.int ..)⟩
   ·exact⟨_,by simp only[aD,oN hx],.val _ _ (.int ..)⟩
 | app s n x y =>
   simp only[iH,A3]at hok;simp only[aD]at he ⊢;obtain⟨eff',h1,h2⟩:=aRF sh (aL re hok.1) (aL re hok.2) he;exact⟨eff',h1,h2⟩
 | mm mx x y =>
   simp only[iH,A3]at hok;have hx:=aL re hok.1;have hy:=aL re hok.2;simp only[aD]at he;split at he<;>simp only[oSI,reduceCtorEq]at he
   rename_i k a k' b h1 h2;subst he;rw[h1]at hx;rw[h2]at hy;exact⟨_,by simp only[aD,dW hx,dW hy],.val _ _ (.int ..)⟩
 | mkifc t x =>
   simp only[aD,oSI]at he;subst he;exact⟨_,rfl,.val _ _ (.ifc t _ _ (aL re hok))⟩
 | bytes x =>
   have hx:=aL re (x:=x) hok;simp only[aD]at he;split at he<;>simp only[oSI,reduceCtorEq]at he
   rename_i t h1;subst he;rw[h1]at hx;have hg:∀ x∈(t.data.toList.map fun b=>AV.int .u8 (b.toNat:Int)),Gd x:=fun x hx=>by
    obtain⟨b,_,rfl⟩:=D6.1 hx;exact .int ..
   exact⟨_,by simp only[aD,cX hx];rfl,.new none _ _ _ (fun q b c hq=>.sl _ _ _ _ _ hq) (RnL.self fun x hx=>(hg x hx).rn) (fun _=>eW fun x hx=>by
    obtain⟨b,_,rfl⟩:=D6.1 hx;rfl) (by simp)⟩
 | strof x =>
   have hx:=aL re (x:=x) hok;simp only[aD,A0]at he;obtain⟨u,h1,rfl⟩:=he;obtain⟨k1,k2⟩:=aKt sh hx h1;exact⟨_,by simp only[aD,k1,C3],.val _ _ k2.rn⟩
 | rngs x =>
   have hx:=aL re (x:=x) hok;simp only[aD]at he;split at he<;>simp only[oSI,reduceCtorEq]at he
   rename_i t h1;subst he;rw[h1]at hx;exact⟨_,by simp only[aD,cX hx],.newObj _ _ (fun q b c hq=>.pt _ _ _ hq)⟩
 | nxts x=>simp[aD]at he
 | stuck=>simp[aD]at he
 | store n p x l=>simp[aD]at he
 | copy s x y=>simp[aD]at he
 | mapup q m k x=>simp[aD]at he
 | callf q f xs l=>simp[aD]at he
end
section
variable{P:Program}{B:Base}

theorem aAm{F:Nat→Prop}{w:World}{H:Hp}{Q:AV→Hp→Prop}(S:Nat→Prop)[DecidablePred S](st:St F w H):∀(e:Ending)(w':World),uT F w (fun c=>if S c then H c else none) Q e w' →
 uT F w H (fun v H''=>∃ H',Q v H'∧(∀ c,S c∨H c=none→H'' c=H' c)∧(∀ c,¬S c→∀ x,H c=some x→H'' c=some x∧H' c=none)) e w':=by
 rintro e w' ⟨r,v,F',H',rfl,h2,h3,h4,h5⟩;have st1:St F w (fun c=>if S c then H c else none):=st.forget fun c x hc=>by
  split at hc;·exact hc
  ·simp at hc
 have hlow:∀ c x,H c=some x→c<w.heap.size:=fun c x hc=>st.own_lt hc;have hn:∀ c,¬S c→∀ x,H c=some x→H' c=none:=fun c hs x hc=>by
  cases hx:H' c with
  | none=>rfl
  | some y =>
    rcases h2.hdom c (by simp[hx])with h6|h6;·simp[hs]at h6
    ·have:=hlow c x hc;omega
 have hsame:∀ c,¬S c→∀ x,H c=some x→w'.heap[c]?=w.heap[c]?:=fun c hs x hc=>h2.same c (hlow c x hc) (by simp[qV,hs]);have hnF:∀ c,¬S c→∀ x,H c=some x→¬F' c:=fun c hs x hc hF=>by
  rcases h2.fnew c hF with h6|h6|h6;·exact st.dis c x hc h6
  ·simp[hs]at h6
  ·have:=hlow c x hc;omega
 obtain⟨H'',hH⟩:∃ H'':Hp,H''=fun c=>if ¬S c∧(H c).isSome=true then H c else H' c:=⟨_,rfl⟩
 have e1:∀ c,S c∨H c=none→H'' c=H' c:=fun c hc=>by
  rw[hH];rcases hc with hc|hc;·simp[hc]
  ·simp[hc]
 have e2:∀ c,¬S c→∀ x,H c=some x→H'' c=some x:=fun c hs x hc=>by rw[hH];simp[hs,hc]
 have cas:∀ c,(S c∨H c=none)∨(¬S c∧∃ x,H c=some x):=fun c=>by
  by_cases hs:S c;·exact .inl (.inl hs)
  ·cases hx:H c with
   | none=>exact .inl (.inr rfl)
   | some x=>exact .inr ⟨hs,x,rfl⟩
 have hl:∀ c,(if S c then H c else none).isSome=true→(H c).isSome=true:=fun c hc=>by
  split at hc;·exact hc
  ·simp at hc
 refine⟨r,v,F',H'',rfl,⟨h2.sub,fun c hc=>?_,fun c hc=>?_,fun c hc=>?_,h2.le,fun c hc hw=>?_,h2.cells,h2.io⟩,⟨h3.lt,fun c x hc=>?_,fun c x hc=>?_⟩,h4,H',h5,e1,fun c hs x hc=>⟨e2 c hs x hc,hn c hs x hc⟩⟩
 ·rcases h2.fnew c hc with h6|h6|h6
  ·exact .inl h6
  ·exact .inr (.inl (hl c h6))
  ·exact .inr (.inr h6)
 ·rcases cas c with h6|⟨h6,x,h7⟩
  ·rw[e1 c h6]at hc
   rcases h2.hdom c hc with h8|h8;·exact .inl (hl c h8)
   ·exact .inr h8
  ·exact .inl (by simp[h7])
 ·rcases cas c with h6|⟨h6,x,h7⟩
  ·simp only[qV,e1 c h6]at hc
   rcases h2.hnew c (by simpa only[qV]using hc)with h8|h8
   ·left
    simp only[qV]at h8 ⊢;split at h8
    ·rename_i y hy
     split at hy;·rw[hy];exact h8
     ·simp at hy
    ·simp at h8
   ·exact .inr h8
  ·left;simpa only[qV,e2 c h6 x h7,h7]using hc
 ·refine h2.same c hc ?_
  simp only[qV]at hw ⊢;by_cases hs:S c;·simp only[hs,AAe];exact hw
  ·simp[hs]
 ·rcases cas c with h6|⟨h6,y,h7⟩
  ·rw[e1 c h6]at hc;exact h3.dis c x hc
  ·exact hnF c h6 y h7
 ·rcases cas c with h6|⟨h6,y,h7⟩
  ·rw[e1 c h6]at hc;exact h3.blk c x hc
  ·rw[e2 c h6 y h7]at hc
   simp only[oSI]at hc;subst hc;obtain⟨o,k1,k2⟩:=st.blk c y h7;exact⟨o,by rw[hsame c h6 y h7];exact k1,k2.up (h2.up st1)⟩
theorem CallV.frameS{fv:AV}{as:List AV}{H:Hp}{Q:AV→Hp→Prop}(S:Nat→Prop)[DecidablePred S](h:CallV B P fv as (fun c=>if S c then H c else none) Q) :
 CallV B P fv as H fun v H''=>∃ H',Q v H'∧(∀ c,S c∨H c=none→H'' c=H' c)∧(∀ c,¬S c→∀ x,H c=some x→H'' c=some x∧H' c=none):=by
 refine h.conv fun F w st=>⟨st.forget fun c x hc=>?_,aAm S st⟩;split at hc;·exact hc
 ·simp at hc

end

theorem aDL(h:XH)(k:Nat):∀(n:Nat)(todo acc:List Nat),acc.Nodup→(∀ b∈acc,(hat h b).isSome=true∧k≤b)→(cY h k n todo acc).Nodup∧∀ b∈cY h k n todo acc,(hat h b).isSome=true∧k≤b:=by
 intro n;induction n with
 | zero=>intro todo acc h1 h2;exact⟨h1,h2⟩
 | succ n ih =>
   intro todo acc h1 h2;cases todo with
   | nil=>exact⟨h1,h2⟩
   | cons b rest =>
     simp only[cY];split;·exact ih rest acc h1 h2
     ·rename_i hb
      simp only[not_or]at hb;cases hx:hat h b with
      | none=>simpa only[hx]using ih rest acc h1 h2
      | some x =>
        simp only;refine ih _ _ ?_ fun c hc=>?_
        ·rw[N4]
         exact⟨h1,by simp,fun a ha c hc=>by simp at hc;subst hc;intro e;subst e;exact hb.2 ha⟩
        ·rcases A9.1 hc with hc|hc
         ·exact h2 c hc
         ·simp at hc;subst hc;exact⟨by simp[hx],by omega⟩
theorem tY(xs:List AV)(h:XH):(gR xs h).Nodup∧∀ b∈gR xs h,(hat h b).isSome=true:=by
 obtain⟨h1,h2⟩:=aDL h 0 tV (lF xs) [] aC3 (by simp);exact⟨h1,fun b hb=>(h2 b hb).1⟩
theorem aGv(fv:AV)(xs:List AV)(h:XH):(iG fv xs h).Nodup∧∀ b∈iG fv xs h,(hat h b).isSome=true:=by
 unfold iG;split
 ·unfold tZ
  split;·exact⟨List.Pairwise.filter _ List.nodup_range,fun b hb=>(aA4.1 hb).2⟩
  ·exact tY _ _
 ·exact tY _ _

theorem aDN{b i:Nat}:∀{l:List Nat},fK b l=some i→l[i]?=some b:=by
 intro l;induction l generalizing i with
 | nil=>intro h;simp[fK]at h
 | cons c l ih =>
   intro h;simp only[fK]at h;split at h;·simp only[oSI]at h;subst h;rename_i e;subst e;rfl
   ·rw[A0]at h
    obtain⟨j,h1,rfl⟩:=h;simpa using ih h1
theorem oU{l:List Nat}(h:l.Nodup){i j b:Nat}(hi:l[i]?=some b)(hj:l[j]?=some b):i=j:=by
 obtain⟨h1,h2⟩:=A2.1 hi;obtain⟨h3,h4⟩:=A2.1 hj;have hp:=List.pairwise_iff_getElem.1 h;rcases Nat.lt_trichotomy i j with hlt|he|hlt;·exact absurd (h2.trans h4.symm) (hp i j h1 h3 hlt)
 ·exact he
 ·exact absurd (h4.trans h2.symm) (hp j i h3 h1 hlt)

theorem cS(h l:XH)(b:Nat):hat (h++l) b=if b<h.length then hat h b else hat l (b-h.length):=by
 unfold hat;rw[A1,D9];split;·rw[A1]
 ·rw[A1]
theorem yF(f:Option XB→Option XB)(hf:f none=none)(h:XH)(b:Nat):hat (h.map f) b=f (hat h b):=by
 unfold hat;rw[A1,A6,A1];cases h[b]? with
 | none=>simp[hf]
 | some x=>rfl
theorem fQ(h:XH)(b:Nat)(x:Option XB)(c:Nat):hat (h.set b x) c=if c=b∧b<h.length then x else hat h c:=by
 unfold hat;rw[A1,aH0,A1];by_cases hbc:b=c
 ·subst hbc
  by_cases hlt:b<h.length;·simp[hlt]
  ·simp[hlt]
 ·have:¬(c=b∧b<h.length):=fun e=>hbc e.1.symm
  simp[hbc,this]
theorem pZ{h:XH}{b:Nat}{x:XB}(hx:hat h b=some x):b<h.length:=by
 unfold hat at hx;rw[A1]at hx;cases hb:h[b]? with
 | none=>rw[hb]at hx;simp at hx
 | some y=>exact(A2.1 hb).1
theorem aAq:∀(k:Nat)(h:XH)(b:Nat),hat (cP k h) b=if b<k then hat h b else none:=by
 intro k;induction k with
 | zero=>intro h b;simp[cP,hat]
 | succ k ih =>
   intro h b;cases h with
   | nil =>
     cases b with
     | zero=>simp[cP,hat]
     | succ b =>
       have:=ih [] b;simp only[cP,hat,A1,E6]at this ⊢;rw[this];simp
   | cons x xs =>
     cases b with
     | zero=>simp[cP,hat]
     | succ b =>
       have:=ih xs b;simp only[cP,hat,A1,E6]at this ⊢;rw[this];simp
@[simp] theorem padTake_length:∀(k:Nat)(h:XH),(cP k h).length=k:=by
  intro k;induction k with
  | zero=>intro h;rfl
  | succ k ih=>intro h;cases h<;>simp[cP,ih]
theorem pA(f:Option XB→Option XB)(acc:List Nat)(h:XH)(hf:f none=none)(i:Nat):hat (acc.map fun b=>f (hat h b)) i=match acc[i]? with
 | some b=>f (hat h b)
 | none=>none:=by
 unfold hat;rw[A1,A6];cases acc[i]?<;>rfl

theorem rJ:∀(bs:List Nat)(xs h:XH),(uR h bs xs).length=h.length
 | [],_,h=>by unfold uR;rfl
 | b::bs,[],h=>by unfold uR;rfl
 | b::bs,x::xs,h=>by unfold uR;rw[rJ bs xs];simp
theorem nB:∀(bs:List Nat)(xs h:XH)(c:Nat),c∉bs→hat (uR h bs xs) c=hat h c
 | [],_,h,c,_=>by unfold uR;rfl
 | b::bs,[],h,c,_=>by unfold uR;rfl
 | b::bs,x::xs,h,c,hc=>by
   unfold uR;rw[nB bs xs _ c (fun e=>hc (by simp[e])),fQ,if_neg (fun e=>hc (by simp[e.1]))]
theorem aAp:∀(bs:List Nat)(xs h:XH)(i c:Nat),bs.Nodup→bs.length=xs.length→(∀ b∈bs,b<h.length)→bs[i]?=some c→hat (uR h bs xs) c=hat xs i
 | [],_,h,i,c,_,_,_,hi=>by simp at hi
 | b::bs,[],h,i,c,_,hl,_,_=>by simp at hl
 | b::bs,x::xs,h,i,c,hn,hl,hlt,hi=>by
   unfold uR;rw[I8]at hn;cases i with
   | zero =>
     simp at hi;subst hi;rw[nB bs xs _ b hn.1,fQ,if_pos ⟨rfl,hlt b (by simp)⟩];simp[hat]
   | succ i =>
     rw[aAp bs xs _ i c hn.2 (by simpa using hl) (fun b hb=>by simpa using hlt b (by simp[hb])) (by simpa using hi)];simp[hat]

section
variable{D:Nat→Option XFn}{Y:Nat→Option YI}{r:Nat→Option Nat}

theorem RnB.renum{r':Nat→Option Nat}{s:Nat→Option Nat}(hs:∀ b c d,s b=some c→r b=some d→r' c=some d){c:Nat}{x:XB}{y:ABlk}(h:RnB D Y r c x y):RnB D Y r' c (rnB s x) y:=by
 cases h with
 | cells g w xs ys h hg =>
   cases g with
   | false=>exact .cells c false w _ _ (h.renum hs) (by simp)
   | true =>
     obtain⟨rfl,h2⟩:=h.same (hg rfl);exact .cells c true w _ _ (RnL.self fun x hx=>(h2 x hx).rn) hg
 | map g w xs ys h hg =>
   cases g with
   | false =>
     refine .map c false w _ _ ⟨by simpa using h.1,fun i p q hp hq=>?_⟩ (by simp);rw[A6,A0]at hp;obtain⟨z,hz,rfl⟩:=hp;exact⟨(h.2 i z q hz hq).1.renum hs,(h.2 i z q hz hq).2.renum hs⟩
   | true =>
     refine .map c true w _ _ ⟨h.1,fun i p q hp hq=>?_⟩ hg;obtain⟨h1,h2⟩:=h.2 i p q hp hq;obtain⟨h3,h4⟩:=hg rfl p (A5 hp);obtain⟨e1,g1⟩:=h1.same h3;obtain⟨e2,g2⟩:=h2.same h4;rw[e1,e2];exact⟨g1.rn,g2.rn⟩
 | obj g w o=>cases g<;>exact .obj c _ w o
 | loop i vs s o d L ps a b hY h hD hsite hv=>exact .loop c i _ s o d L ps a b hY h hD hsite (hv.renum hs)
 | gh st p=>exact .gh c st p y
theorem RnB.mono{x:XB}{r':Nat→Option Nat}{Y':Nat→Option YI}(hr:∀ b c,r b=some c→r' b=some c){c:Nat}(hY:(∃ K s vs st,x = .loop K s vs st)→Y' c=Y c){y:ABlk}(h:RnB D Y r c x y):RnB D Y' r' c x y:=by
 cases h with
 | cells g w xs ys h hg=>exact .cells c g w _ _ (h.mono hr) hg
 | map g w xs ys h hg=>exact .map c g w _ _ ⟨h.1,fun i p q hp hq=>⟨(h.2 i p q hp hq).1.mono hr,(h.2 i p q hp hq).2.mono hr⟩⟩ hg
 | obj g w o=>exact .obj c g w o
 | loop i vs s o d L ps a b h1 h hD hsite hv=>exact .loop c i _ s o d L ps a b (by rw[hY ⟨_,_,_,_,rfl⟩];exact h1) h hD hsite (hv.mono hr)
 | gh st p=>exact .gh c st p y
theorem pP{s:Nat→Option Nat}{x:XB}{st:dR}{p:Hp→Nat→Prop}(h:rnB s x = .gh st p):x = .gh st p:=by
 unfold rnB at h;split at h<;>first|exact h|cases h
theorem oO{s:Nat→Option Nat}{o:Option XB}{x:XB}(h:rnO s o=some x):∃ y,o=some y∧x=rnB s y:=by
 cases o with
 | none=>simp[rnO]at h
 | some y=>simp[rnO]at h;exact⟨y,rfl,h.symm⟩
end
def Sub(r r':Nat→Option Nat):Prop:=∀ b c,r b=some c→r' b=some c
theorem Sub.refl(r:Nat→Option Nat):Sub r r:=fun _ _ h=>h
theorem Sub.trans{r r' r'':Nat→Option Nat}(h:Sub r r')(k:Sub r' r''):Sub r r'':=fun b c hb=>k b c (h b c hb)

def eZ(D:Nat→Option XFn)(Y:Nat→Option YI)(r:Nat→Option Nat)(v:AV)(h:XH):AV→Hp→Prop:=fun v' H' =>
 ∃ r',Sub r r'∧SH D Y r' h H'∧Rn D Y r' v v'

def FnS(P:Program)(B:Base)(D:Nat→Option XFn)(Y:Nat→Option YI)(run:eP):Prop :=
 ∀(r:Nat→Option Nat)(h:XH)(H:Hp)(K:Nat)(as as':List AV)(v:AV)(h':XH),SH D Y r h H→RnL D Y r as as'→run K as h=some (v,h')→FnW B P K as' H (eZ D Y r v h')
def YS(P:Program)(B:Base)(D:Nat→Option XFn)(Y:Nat→Option YI)(runY:fS):Prop :=
 ∀(r:Nat→Option Nat)(h:XH)(H:Hp)(fv fv':AV)(as as':List AV)(v:AV)(h':XH),SH D Y r h H→Rn D Y r fv fv'→RnL D Y r as as' →
   runY fv as h=some (v,h')→CallV B P fv' as' H (eZ D Y r v h')

section
variable{P:Program}{B:Base}{D:Nat→Option XFn}{Y:Nat→Option YI}{r:Nat→Option Nat}{h:XH}{H:Hp}

theorem aNY(h:XH)(k b:Nat):hat (h.drop k) b=hat h (k+b):=by
 unfold hat;rw[A1,G8,A1]

def yC(r:Nat→Option Nat)(acc:List Nat):Nat→Option Nat:=fun i=>(acc[i]?).bind r

def aDs(h:XH)(r:Nat→Option Nat)(G:Nat→Nat→Prop)(b c:Nat):Prop:=r b=some c∨((∃ st p,hat h b=some (.gh st p))∧G b c)
theorem sO(sh:SH D Y r h H){G:Nat→Nat→Prop}(hG:GhR h r G H){acc:List Nat}(hn:acc.Nodup)(hlive:∀ b∈acc,(hat h b).isSome=true)(S:Nat→Prop)[DecidablePred S](hS:∀ c,S c↔∃ b∈acc,aDs h r G b c) :
 SH D Y (yC r acc) (hZ acc h) (fun c=>if S c then H c else none)∧(∀ v v',Rn D Y r v v'→Rn D Y (yC r acc) (rnA (fun b=>fK b acc) v) v')∧(∀ v v',RnL D Y r v v'→RnL D Y (yC r acc) (lR (fun b=>fK b acc) v) v'):=by
 have hs:∀ b c d,fK b acc=some c→r b=some d→yC r acc c=some d:=fun b c d h1 h2=>by
  simp only[yC,aDN h1,E7,h2]
 have lat:∀ i x,hat (hZ acc h) i=some x→∃ b y,acc[i]?=some b∧hat h b=some y∧x=rnB (fun b=>fK b acc) y:=fun i x hx=>by
  unfold hZ at hx;rw[pA _ _ _ rfl]at hx;split at hx
  ·rename_i b hb
   obtain⟨y,hy,rfl⟩:=oO hx;exact⟨b,y,hb,hy,rfl⟩
  ·simp at hx
 have gD:∀ i b,acc[i]?=some b→acc.getD i 0=b:=fun i b hi=>by rw[A1,hi];rfl
 refine⟨⟨fun i c hi=>?_,fun i j c x y hx hy h1 h2=>?_,fun i x hx=>?_,fun i=>G (acc.getD i 0),hG.via (fun i=>acc.getD i 0) (fun i st p hi=>?_) (fun i x hi=>?_) (fun i j st p x hi hj hne he=>?_) fun i st p n y hi hnn hy=>?_⟩,fun v v' hv=>hv.renum hs,fun v v' hv=>hv.renum hs⟩
 ·simp only[yC]at hi
  cases ha:acc[i]? with
  | none=>rw[ha]at hi;simp at hi
  | some b=>simpa [hZ]using (A2.1 ha).1
 ·simp only[yC]at h1 h2
  cases ha:acc[i]? with
  | none=>rw[ha]at h1;simp at h1
  | some b=>cases hb:acc[j]? with
    | none=>rw[hb]at h2;simp at h2
    | some b' =>
      rw[ha]at h1;rw[hb]at h2;simp only[E7]at h1 h2;obtain⟨x1,hx1⟩:=C5.1 (hlive b (A5 ha));obtain⟨x2,hx2⟩:=C5.1 (hlive b' (A5 hb));have:=sh.inj b b' c x1 x2 hx1 hx2 h1 h2;subst this;exact oU hn ha hb
 ·unfold hZ at hx
  rw[pA _ _ _ rfl]at hx;split at hx
  ·rename_i b hb
   obtain⟨y,hy,rfl⟩:=oO hx;obtain⟨c,z,h1,h2,h3⟩:=sh.blk b y hy;refine⟨c,z,by simp only[yC,hb,E7,h1],?_,h3.renum hs⟩;rw[if_pos ((hS c).2 ⟨b,A5 hb,.inl h1⟩)];exact h2
  ·simp at hx
 ·obtain⟨b,y,k1,k2,k3⟩:=lat i _ hi
  have:=pP k3.symm;subst this;rw[gD i b k1];exact⟨k2,by simp only[yC,k1,E7]⟩
 ·obtain⟨b,y,k1,k2,k3⟩:=lat i _ hi
  rw[gD i b k1];exact .inl ⟨y,k2,by simp only[yC,k1,E7],fun st p e=>pP (k3.symm.trans e)⟩
 ·obtain⟨b,y,k1,_,_⟩:=lat i _ hi
  obtain⟨b',y',m1,_,_⟩:=lat j _ hj;rw[gD i b k1,gD j b' m1]at he;subst he;exact hne (oU hn k1 m1)
 ·obtain⟨b,y',k1,k2,k3⟩:=lat i _ hi
  have:=pP k3.symm;subst this;rw[gD i b k1]at hnn;rw[if_pos ((hS n).2 ⟨b,A5 k1,.inr ⟨⟨st,p,k2⟩,hnn⟩⟩)];exact hy

theorem aGC(sh:SH D Y r h H){G:Nat→Nat→Prop}(hG:GhR h r G H){acc:List Nat}(hn:acc.Nodup)(hlive:∀ b∈acc,(hat h b).isSome=true){S:Nat→Prop}(hS:∀ c,S c↔∃ b∈acc,aDs h r G b c)
 {rl:Nat→Option Nat} {hl:XH} {H' H'':Hp} (hsub:Sub (yC r acc) rl) (sh':SH D Y rl hl H') (e1:∀ c,S c∨H c=none→H'' c=H' c) (e2:∀ c,¬S c→∀ x,H c=some x→H'' c=some x∧H' c=none) :
 ∃ r',Sub r r'∧SH D Y r' (iT acc h hl) H''∧(∀ v v',Rn D Y rl v v'→Rn D Y r' (rnA (gM acc h.length) v) v')∧(∀ b c,r b=some c→(hat h b).isSome=true→b∉acc→H'' c=H c):=by
 obtain⟨r',hr'⟩:∃ r':Nat→Option Nat,r'=fun b=>if b<h.length then r b else rl (b-h.length+acc.length):=⟨_,rfl⟩
 have hlt:∀ b∈acc,b<h.length:=fun b hb=>by
  obtain⟨x,hx⟩:=C5.1 (hlive b hb);exact pZ hx
 have r1:∀ b,b<h.length→r' b=r b:=fun b hb=>by rw[hr'];simp[hb]
 have r2:∀ i,acc.length≤i→r' (h.length+(i-acc.length))=rl i:=fun i hi=>by
  rw[hr'];have e:h.length+(i-acc.length)-h.length+acc.length=i:=AM
  simp only[show ¬(h.length+(i-acc.length)<h.length) by omega,AAd,e]
 have at1:∀ i b,acc[i]?=some b→∃ c,r b=some c∧rl i=some c:=fun i b hi=>by
  obtain⟨x,hx⟩:=C5.1 (hlive b (A5 hi));obtain⟨c,y,h1,_,_⟩:=sh.blk b x hx;exact⟨c,h1,hsub i c (by simp only[yC,hi,E7,h1])⟩
 have hs:∀ i b d,gM acc h.length i=some b→rl i=some d→r' b=some d:=fun i b d h1 h2=>by
  unfold gM at h1;split at h1
  ·obtain⟨c,k1,k2⟩:=at1 i b h1
   rw[k2]at h2;rw[r1 b (hlt b (A5 h1)),k1];exact h2
  ·rename_i hi
   simp only[oSI]at h1;subst h1;rw[r2 i AM];exact h2
 have len:(iT acc h hl).length=h.length+(hl.length-acc.length):=by simp[iT,rJ]
 have hat1:∀ i b,acc[i]?=some b→hat (iT acc h hl) b=rnO (gM acc h.length) (hat hl i):=fun i b hi=>by
  have hb:=hlt b (A5 hi);have hi':=(A2.1 hi).1;unfold iT;rw[cS,rJ,if_pos hb,aAp acc _ h i b hn (by simp) hlt hi,yF _ rfl,aAq,if_pos hi']
 have hat2:∀ b,b<h.length→b∉acc→hat (iT acc h hl) b=hat h b:=fun b hb hna=>by
  unfold iT;rw[cS,rJ,if_pos hb,nB _ _ _ _ hna]
 have hat3:∀ b,h.length≤b→hat (iT acc h hl) b=rnO (gM acc h.length) (hat hl (acc.length+(b-h.length))):=fun b hb=>by
  unfold iT;rw[cS,rJ,if_neg AM,yF _ rfl,aNY]
 have from1:∀ b x,hat (iT acc h hl) b=some x→(b<h.length∧b∉acc∧hat h b=some x)∨∃ i y,gM acc h.length i=some b∧hat hl i=some y∧x=rnB (gM acc h.length) y∧(b<h.length→b∈acc):=fun b x hx=>by
  by_cases hb:b<h.length
  ·by_cases ha:b∈acc
   ·obtain⟨i,hi⟩:=aE9.1 ha
    rw[hat1 i b hi]at hx;obtain⟨y,hy,rfl⟩:=oO hx;refine .inr ⟨i,y,?_,hy,rfl,fun _=>ha⟩;unfold gM;rw[if_pos (A2.1 hi).1];exact hi
   ·rw[hat2 b hb ha]at hx
    exact .inl ⟨hb,ha,hx⟩
  ·rw[hat3 b AM]at hx
   obtain⟨y,hy,rfl⟩:=oO hx;refine .inr ⟨acc.length+(b-h.length),y,?_,hy,rfl,fun h=>absurd h hb⟩;unfold gM;rw[if_neg AM];simp only[oSI];omega
 have far:∀ b c,r b=some c→(hat h b).isSome=true→b∉acc→¬S c∧∃ x,H c=some x:=fun b c hb hl2 hna=>by
  obtain⟨x,hx⟩:=C5.1 hl2;obtain⟨c',y,h1,h2,_⟩:=sh.blk b x hx;rw[hb]at h1;simp only[oSI]at h1;subst h1;refine⟨fun hSc=>?_,y,h2⟩;obtain⟨b',h3,h4⟩:=(hS c).1 hSc;obtain⟨x',hx'⟩:=C5.1 (hlive b' h3);rcases h4 with h4|⟨⟨st,p,h4⟩,h5⟩
  ·have:=sh.inj b b' c x x' hx hx' hb h4
   exact hna (this▸h3)
  ·exact(hG.2 b' b st p x c h4 hx (fun e=>hna (e▸h3)) h5).1 hb
 have farG:∀ b st p n,hat h b=some (.gh st p)→b∉acc→G b n→¬S n∧∃ x,H n=some x:=fun b st p n hb hna hn'=>by
  obtain⟨c,_,k2⟩:=hG.1 b st p hb;refine⟨fun hSn=>?_,k2.live hn'⟩;obtain⟨b',h3,h4⟩:=(hS n).1 hSn;obtain⟨x',hx'⟩:=C5.1 (hlive b' h3);have:=hG.2 b b' st p x' n hb hx' (fun e=>hna (e▸h3)) hn';rcases h4 with h4|⟨⟨st',p',h4⟩,h5⟩;·exact this.1 h4
  ·rw[h4]at hx';cases hx'
   exact this.2 st' p' rfl h5
 have bl:∀ i y,hat hl i=some y→∃ c z,rl i=some c∧H'' c=some z∧H' c=some z∧RnB D Y rl c y z:=fun i y hy=>by
  obtain⟨c,z,h1,h2,h3⟩:=sh'.blk i y hy;refine⟨c,z,h1,?_,h2,h3⟩;by_cases hSc:S c∨H c=none;·rw[e1 c hSc];exact h2
  ·simp only[not_or]at hSc
   obtain⟨x,hx⟩:=aC4.1 hSc.2;rw[(e2 c hSc.1 x hx).2]at h2;simp at h2
 obtain⟨G',hG'⟩:=sh'.gh;have backI:∀ i i' j,gM acc h.length i=some j→gM acc h.length i'=some j→i=i':=fun i i' j k1 k2=>by
  unfold gM at k1 k2;split at k1
  ·split at k2
   ·exact oU hn k1 k2
   ·cases k2
    have:=hlt _ (A5 k1);omega
  ·split at k2
   ·cases k1
    have:=hlt _ (A5 k2);omega
   ·have:=k1.trans k2.symm
    simp only[oSI]at this;omega
 have gA:∀ j n,j<h.length→j∉acc→((((j<h.length∧j∉acc)∧G j n)∨∃ i,gM acc h.length i=some j∧G' i n∧(j<h.length→j∈acc))↔G j n):=fun j n h1 h2 =>
  ⟨fun h=>h.elim (fun h=>h.2) fun⟨i,_,_,k3⟩=>absurd (k3 h1) h2,fun h=>.inl ⟨⟨h1,h2⟩,h⟩⟩
 have gB:∀ i j n,gM acc h.length i=some j→(j<h.length→j∈acc)→((((j<h.length∧j∉acc)∧G j n)∨∃ i,gM acc h.length i=some j∧G' i n∧(j<h.length→j∈acc))↔G' i n):=fun i j n h1 h2 =>
  ⟨fun h=>h.elim (fun h=>absurd (h2 h.1.1) h.1.2) fun⟨i',k1,k2,_⟩=>by rw[backI i i' j h1 k1];exact k2,fun h=>.inr ⟨i,h1,h,h2⟩⟩
 have gB2:∀ i st p n,hat hl i=some (.gh st p)→G' i n→(∃ x,H' n=some x)∧∀ y,H' n=some y→H'' n=some y:=fun i st p n hi hn'=>by
  obtain⟨c,_,k2⟩:=hG'.1 i st p hi;obtain⟨x,hx⟩:=k2.live hn';refine⟨⟨x,hx⟩,fun y hy=>?_⟩;by_cases hSc:S n∨H n=none;·rw[e1 n hSc];exact hy
  ·simp only[not_or]at hSc
   obtain⟨x',hx'⟩:=aC4.1 hSc.2;rw[(e2 n hSc.1 x' hx').2]at hy;simp at hy
 have ghs:∃ G2,GhR (iT acc h hl) r' G2 H'':=by
  refine⟨fun j n=>((j<h.length∧j∉acc)∧G j n)∨∃ i,gM acc h.length i=some j∧G' i n∧(j<h.length→j∈acc),fun j st p hj=>?_,fun j j' st p x n hj hj' hne hn'=>?_⟩
  ·rcases from1 j _ hj with ⟨h1,h2,h3⟩|⟨i,y,h1,h2,h3,h4⟩
   ·obtain⟨c,k1,k2⟩:=hG.1 j st p h3
    refine⟨c,by rw[r1 j h1];exact k1,(k2.congr fun n=>gA j n h1 h2).mono fun n y hn' hy=>?_⟩;exact(e2 n (farG j st p n h3 h2 ((gA j n h1 h2).1 hn')).1 y hy).1
   ·have:=pP h3.symm
    subst this;obtain⟨c,k1,k2⟩:=hG'.1 i st p h2;exact⟨c,hs i j c h1 k1,(k2.congr fun n=>gB i j n h1 h4).mono fun n y hn' hy=>(gB2 i st p n h2 ((gB i j n h1 h4).1 hn')).2 y hy⟩
  ·rcases from1 j _ hj with ⟨h1,h2,h3⟩|⟨i,y,h1,h2,h3,h4⟩
   ·have hn2:=(gA j n h1 h2).1 hn'
    obtain⟨f1,z,f2⟩:=farG j st p n h3 h2 hn2;have f3:=(e2 n f1 z f2).2;rcases from1 j' _ hj' with ⟨g1,g2,g3⟩|⟨i',y',g1,g2,g3,g4⟩
    ·have:=hG.2 j j' st p x n h3 g3 hne hn2
     refine⟨by rw[r1 j' g1];exact this.1,fun st' p' hx hh=>this.2 st' p' hx ((gA j' n g1 g2).1 hh)⟩
    ·refine⟨fun hr2=>?_,fun st' p' hx hh=>?_⟩
     ·obtain⟨c',z',k1,_,k3,_⟩:=bl i' y' g2
      have:=hs i' j' c' g1 k1;rw[hr2]at this;cases this;rw[f3]at k3;cases k3
     ·rw[hx]at g3
      have:=pP g3.symm;subst this;obtain⟨⟨w,hw⟩,_⟩:=gB2 i' st' p' n g2 ((gB i' j' n g1 g4).1 hh);rw[f3]at hw;cases hw
   ·have:=pP h3.symm
    subst this;have hn2:=(gB i j n h1 h4).1 hn';obtain⟨⟨w,hw⟩,_⟩:=gB2 i st p n h2 hn2;rcases from1 j' _ hj' with ⟨g1,g2,g3⟩|⟨i',y',g1,g2,g3,g4⟩
    ·refine⟨fun hr2=>?_,fun st' p' hx hh=>?_⟩
     ·rw[r1 j' g1]at hr2
      obtain⟨k1,z,k2⟩:=far j' n hr2 (by simp[g3]) g2;rw[(e2 n k1 z k2).2]at hw;cases hw
     ·subst hx
      obtain⟨k1,z,k2⟩:=farG j' st' p' n g3 g2 ((gA j' n g1 g2).1 hh);rw[(e2 n k1 z k2).2]at hw;cases hw
    ·have hii:i≠i':=fun e=>by subst e;rw[h1]at g1;cases g1;exact hne rfl
     have:=hG'.2 i i' st p y' n h2 g2 hii hn2;refine⟨fun hr2=>?_,fun st' p' hx hh=>?_⟩
     ·obtain⟨c',z',k1,_,_,_⟩:=bl i' y' g2
      have e:=hs i' j' c' g1 k1;rw[hr2]at e;cases e;exact this.1 k1
     ·rw[hx]at g3
      have e:=pP g3.symm;exact this.2 st' p' e ((gB i' j' n g1 g4).1 hh)
 refine⟨r',fun b c hb=>by rw[r1 b (sh.dom b c hb)];exact hb,⟨fun b c hb=>?_,fun b b' c x x' hx hx' hb hb'=>?_,fun b x hx=>?_,ghs⟩,fun v v' hv=>hv.renum hs,fun b c hb hl2 hna=>?_⟩
 ·rw[len]
  by_cases hlt':b<h.length;·omega
  ·rw[hr']at hb
   simp only[hlt',AAd]at hb;have:=sh'.dom _ _ hb;omega
 ·rcases from1 b x hx with ⟨h1,h2,h3⟩|⟨i,y,h1,h2,_,_⟩
  ·rcases from1 b' x' hx' with ⟨k1,k2,k3⟩|⟨j,y',k1,k2,_,k4⟩
   ·rw[r1 b h1]at hb;rw[r1 b' k1]at hb'
    exact sh.inj b b' c x x' h3 k3 hb hb'
   ·exfalso
    rw[r1 b h1]at hb;obtain⟨g1,z,g2⟩:=far b c hb (by simp[h3]) h2;obtain⟨c',z',g3,_,g5,_⟩:=bl j y' k2;have:=hs j b' c' k1 g3;rw[hb']at this;simp only[oSI]at this;subst this;rw[(e2 c g1 z g2).2]at g5;simp at g5
  ·rcases from1 b' x' hx' with ⟨k1,k2,k3⟩|⟨j,y',k1,k2,_,_⟩
   ·exfalso
    rw[r1 b' k1]at hb';obtain⟨g1,z,g2⟩:=far b' c hb' (by simp[k3]) k2;obtain⟨c',z',g3,_,g5,_⟩:=bl i y h2;have:=hs i b c' h1 g3;rw[hb]at this;simp only[oSI]at this;subst this;rw[(e2 c g1 z g2).2]at g5;simp at g5
   ·obtain⟨c1,_,g1,_⟩:=bl i y h2
    obtain⟨c2,_,g2,_⟩:=bl j y' k2;have e3:=hs i b c1 h1 g1;have e4:=hs j b' c2 k1 g2;rw[hb]at e3;rw[hb']at e4;simp only[oSI]at e3 e4;subst e3;subst e4;have:=sh'.inj i j c y y' h2 k2 g1 g2;subst this;rw[h1]at k1;simpa using k1
 ·rcases from1 b x hx with ⟨h1,h2,h3⟩|⟨i,y,h1,h2,rfl,_⟩
  ·obtain⟨c,z,g1,g2,g3⟩:=sh.blk b x h3
   obtain⟨k1,z',k2⟩:=far b c g1 (by simp[h3]) h2;refine⟨c,z,by rw[r1 b h1];exact g1,(e2 c k1 z g2).1,g3.mono (fun b c hb=>by rw[r1 b (sh.dom b c hb)];exact hb) (fun _=>rfl)⟩
  ·obtain⟨c,z,g1,g2,_,g4⟩:=bl i y h2
   exact⟨c,z,hs i b c h1 g1,g2,g4.renum hs⟩
 ·obtain⟨h1,x,h2⟩:=far b c hb hl2 hna
  rw[(e2 c h1 x h2).1,h2]

def aSE(D:Nat→Option XFn)(Y:Nat→Option YI)(r:Nat→Option Nat)(h:XH)(H:Hp)(acc:List Nat)(v:AV)(h':XH):AV→Hp→Prop:=fun v' H' =>
 eZ D Y r v h' v' H'∧∀ b c,r b=some c→(hat h b).isSome=true→b∉acc→H' c=H c

theorem aCN(sh:SH D Y r h H){acc:List Nat}(hn:acc.Nodup)(hlive:∀ b∈acc,(hat h b).isSome=true){fv:AV}{as:List AV}{v:AV}{hl:XH}
 (hc:∀ G,GhR h r G H→∀ S:Nat→Prop,[DecidablePred S]→(∀ c,S c↔∃ b∈acc,aDs h r G b c)→CallV B P fv as (fun c=>if S c then H c else none) (eZ D Y (yC r acc) v hl)) :
 CallV B P fv as H (aSE D Y r h H acc (rnA (gM acc h.length) v) (iT acc h hl)):=by
 classical
 obtain⟨G,hG⟩:=sh.gh;refine CallV.mono (CallV.frameS (fun c=>∃ b∈acc,aDs h r G b c) (hc G hG _ fun c=>Iff.rfl)) ?_;rintro v' H'' ⟨H',⟨rl,h1,h2,h3⟩,e1,e2⟩;obtain⟨r',k1,k2,k3,k4⟩:=aGC sh hG hn hlive (fun c=>Iff.rfl) h1 h2 e1 e2;exact⟨⟨r',k1,k2,k3 v v' h3⟩,k4⟩

theorem tN{run:eP}{runY:fS}(hf:FnS P B D Y run)(hy:YS P B D Y runY)(sh:SH D Y r h H){fv fv':AV}{as as':List AV}(h1:Rn D Y r fv fv')(h2:RnL D Y r as as'){v:AV}{h':XH}
 (hx:fM run runY fv as h=some (v,h')):CallV B P fv' as' H (aSE D Y r h H (iG fv as h) v h'):=by
 unfold fM at hx;split at hx
 ·rename_i g first cap
  cases h1 with
  | fn _ _ ys _ vs hf0 hl1 k1 hl2 k2 =>
  have hA:=RnL.append (RnL.append ⟨hl1,k1⟩ h2) ⟨hl2,k2⟩;cases hg:lK g with
  | true =>
    rw[hg]at hx;simp only[aEr]at hx;have:=hf _ _ _ g _ (ys++as'++vs) v h' sh hA hx;refine CallV.mono (fv:=.fn (.func g) ys vs) this fun v' H' hp=>⟨hp,fun b c _ hb hna=>absurd ?_ hna⟩;simp only[iG,hg,tZ,aA4,J7];obtain⟨x,hx⟩:=C5.1 hb;exact⟨pZ hx,hb⟩
  | false =>
    rw[hg]at hx;simp only[aEr,A0]at hx;obtain⟨⟨v0,hl⟩,hrun,hm⟩:=hx;simp only[zL,B4]at hm;obtain⟨rfl,rfl⟩:=hm;obtain⟨hn,hlive⟩:=tY (first++as++cap) h;simp only[iG,hg,tZ];refine aCN sh hn hlive fun G hG S _ hS=>?_;obtain⟨g1,g2,g3⟩:=sO sh hG hn hlive S hS;have:=hf _ _ _ g _ (ys++as'++vs) v0 hl g1 (g3 _ _ hA) hrun;exact this
 ·rename_i l
  simp only[A0]at hx;obtain⟨⟨v0,hl⟩,hrun,hm⟩:=hx;simp only[zL,B4]at hm;obtain⟨rfl,rfl⟩:=hm;obtain⟨hn,hlive⟩:=aGv (.fn (.yield l) [] []) as h;refine aCN sh hn hlive fun G hG S _ hS=>?_;obtain⟨g1,g2,g3⟩:=sO sh hG hn hlive S hS;exact hy _ _ _ _ _ _ _ v0 hl g1 (g2 _ _ h1) (g3 _ _ h2) hrun
 ·simp at hx
end
section
variable{P:Program}{B:Base}{D:Nat→Option XFn}{Y:Nat→Option YI}{r:Nat→Option Nat}{e env:aH}{h:XH}{H:Hp}

theorem SH.ro(sh:SH D Y r h H):SH D Y r (h.map roX) (iB H):=by
 have live:∀ b x,hat (h.map roX) b=some x→∃ g y,hat h b=some (.blk g y)∧x = .blk g y.ro:=fun b x hx=>by
  rw[yF _ rfl]at hx;cases hb:hat h b with
  | none=>rw[hb]at hx;simp[roX]at hx
  | some y =>
    rw[hb]at hx;cases y with
    | blk g y=>simp only[roX,oSI]at hx;exact⟨g,y,rfl,hx.symm⟩
    | loop _ _ _ s=>simp[roX]at hx
    | gh _ _=>simp[roX]at hx
 refine⟨fun b c hb=>by simpa using sh.dom b c hb,fun b b' c x x' hx hx' h1 h2=>?_,fun b x hx=>?_,GhR.no fun b st p hx=>?_⟩
 ·obtain⟨g,y,k1,_⟩:=live b x hx
  obtain⟨g',y',k2,_⟩:=live b' x' hx';exact sh.inj b b' c _ _ k1 k2 h1 h2
 ·obtain⟨g,y,k1,rfl⟩:=live b x hx
  obtain⟨c,z,k2,k3,k4⟩:=sh.blk b _ k1;refine⟨c,z.ro,k2,by simp[iB,k3],?_⟩;cases k4 with
  | cells g w xs ys h hg=>exact .cells c _ false _ _ h hg
  | map g w xs ys h hg=>exact .map c _ false _ _ h hg
  | obj g w o=>exact .obj c _ false o
 ·obtain⟨g,y,_,k⟩:=live b _ hx
  cases k

theorem CallV.quietOf{fv:AV}{as:List AV}{v:AV}(h:CallV B P fv as (iB H) fun v' H'=>v'=v∧∀ c,(iB H c).isSome=true→(H' c).isSome=true) :
 CallV B P fv as (iB H) fun v' H'=>v'=v∧H'=iB H:=by
 refine h.conv fun F w st=>⟨st,?_⟩;rintro e w' ⟨q,v',F',H',rfl,h2,h3,h4,rfl,h5⟩;have hE:Ext F w (iB H) F' w' (iB H):=⟨h2.sub,h2.fnew,fun b hb=>.inl hb,fun b hb=>.inl hb,h2.le,h2.same,h2.cells,h2.io⟩;refine⟨q,v',F',iB H,rfl,hE,⟨h3.lt,fun b x hb=>?_,fun b x hb=>?_⟩,h4,rfl,rfl⟩
 ·obtain⟨y,hy⟩:=C5.1 (h5 b (by simp[hb]))
  exact h3.dis b y hy
 ·obtain⟨o,k1,k2⟩:=st.blk b x hb
  exact⟨o,by rw[h2.same b (st.own_lt hb) (aHr H b)];exact k1,k2.up (h2.up st)⟩

theorem aDV:∀(xs ys:XH),aDW xs ys=true→∀ i x,hat xs i=some x→(∃ y,hat ys i=some y)∧∀ st p,x ≠ .gh st p
 | [],ys,_,i,x,hx=>by simp[hat]at hx
 | x0::xs,[],hk,i,x,hx=>by simp[aDW]at hk
 | x0::xs,y0::ys,hk,i,x,hx=>by
   simp only[aDW,A3,M4]at hk;cases i with
   | zero =>
     simp only[hat,aD6]at hx ⊢;subst hx;rcases hk.1 with h1|h1;·simp at h1
     ·refine⟨C5.1 h1.1,fun st p e=>?_⟩
      rw[e]at h1;simp[ghO]at h1
   | succ i =>
     have:=aDV xs ys hk.2 i x (by simpa [hat]using hx);simpa [hat]using this

theorem aHg{run:eP}(hf:FnS P B D Y run)(sh:SH D Y r h H){fv fv':AV}{as as':List AV}(h1:Rn D Y r fv fv')(h2:RnL D Y r as as'){v:AV}
 (hx:nH run fv as h=some v):Gd v∧CallV B P fv' as' (iB H) fun v' H'=>v'=v∧H'=iB H:=by
 classical
 unfold nH at hx;split at hx
 ·rename_i g first cap
  obtain⟨hn,hlive⟩:=tY (first++as++cap) h;simp only at hx;split at hx
  ·rename_i v0 hl hrun
   split at hx
   ·rename_i hcond
    simp only[A3]at hcond;simp only[oSI]at hx;subst hx;cases h1 with
    | fn _ _ ys _ vs hf0 hl1 k1 hl2 k2 =>
      obtain⟨acc,hacc⟩:∃ acc,acc=gR (first++as++cap) h:=⟨_,rfl⟩;rw[←hacc]at hn hlive hrun hcond;obtain⟨G,hG⟩:=sh.gh;obtain⟨g1,g2,g3⟩:=sO sh hG hn hlive (fun c=>∃ b∈acc,aDs h r G b c) (fun c=>Iff.rfl);have hfn:=hf _ _ _ g _ (ys++as'++vs) v0 hl g1.ro (g3 _ _ (RnL.append (RnL.append ⟨hl1,k1⟩ h2) ⟨hl2,k2⟩)) hrun;have hgd:Gd v0:=aIk _ hcond.1;refine⟨hgd,?_⟩;refine CallV.quietOf ?_;have hro:(iB fun c=>if ∃ b∈acc,aDs h r G b c then H c else none)=fun c=>if ∃ b∈acc,aDs h r G b c then iB H c else none:=by
       funext c;by_cases hc:∃ b∈acc,aDs h r G b c;·simp only[iB,hc,AAe]
       ·simp only[iB,hc,AAd];rfl
      rw[hro]at hfn;refine CallV.mono (CallV.frameS (fv:=.fn (.func g) ys vs) (fun c=>∃ b∈acc,aDs h r G b c) hfn) ?_;rintro v' H'' ⟨H',⟨rl,m1,m2,m3⟩,e1,e2⟩;refine⟨(m3.same hgd.gr).1,fun c hc=>?_⟩;obtain⟨x,hx⟩:=C5.1 hc;by_cases hS:∃ b∈acc,aDs h r G b c
      ·rw[e1 c (.inl hS)]
       obtain⟨b,hb,hrb⟩:=hS;obtain⟨i,hi⟩:=aE9.1 hb;obtain⟨y,hy⟩:=C5.1 (hlive b hb);have hloc:∃ z,hat (hZ acc h) i=some z:=by
        unfold hZ;rw[pA _ _ _ rfl,hi];simp only[hy];exact⟨_,rfl⟩
       obtain⟨z,hz⟩:=hloc;obtain⟨⟨z',hz'⟩,hng⟩:=aDV _ _ hcond.2 i z hz;have hrb:r b=some c:=by
        rcases hrb with h|⟨⟨st,p,h⟩,_⟩;·exact h
        ·unfold hZ at hz
         rw[pA _ _ _ rfl,hi]at hz;simp only[h,rnO,rnB,oSI]at hz;exact absurd hz.symm (hng st p)
       obtain⟨c',y',n1,n2,_⟩:=m2.blk i z' hz';have:=m1 i c (by simp only[yC,hi,E7,hrb]);rw[n1]at this;simp only[oSI]at this;subst this;simp[n2]
      ·simp[(e2 c hS x hx).1]
   ·simp at hx
  ·simp at hx
 ·simp at hx

theorem SH.turn(sh:SH D Y r h H){b c:Nat}{x0 x:XB}{y:ABlk}(hb:hat h b=some x0)(hr:r b=some c)(hx:RnB D Y r c x y)(hng:ghX x=false:=by rfl):SH D Y r (h.set b (some x)) (hset H c y):=by
 have live:∀ b' z,hat (h.set b (some x)) b'=some z→(b'=b∧z=x)∨(b'≠b∧hat h b'=some z):=fun b' z hz=>by
  rw[fQ]at hz;split at hz;·rename_i hc;simp only[oSI]at hz;exact .inl ⟨hc.1,hz.symm⟩
  ·rename_i hc;exact .inr ⟨fun e=>hc ⟨e,pZ hb⟩,hz⟩
 have liv:∀ b' z,hat (h.set b (some x)) b'=some z→∃ z',hat h b'=some z':=fun b' z hz=>by
  rcases live b' z hz with ⟨rfl,_⟩|⟨_,h2⟩;·exact⟨_,hb⟩
  ·exact⟨_,h2⟩
 have lg:∀ b' st p,hat (h.set b (some x)) b'=some (.gh st p)→b'≠b∧hat h b'=some (.gh st p):=fun b' st p hz=>by
  rcases live b' _ hz with ⟨_,e⟩|h1;·rw[←e]at hng;cases hng
  ·exact h1
 obtain⟨G,hG⟩:=sh.gh;refine⟨fun b c hb=>by simpa using sh.dom b c hb,fun b1 b2 c' x1 x2 h1 h2 k1 k2=>?_,fun b' z hz=>?_,_,hG.via id (fun b' st p hb'=>⟨(lg b' st p hb').2,rfl⟩) (fun b' z hz=>?_) (fun _ _ _ _ _ _ _ hne=>hne) fun b' st p n y' hb' hnn hy=>?_⟩
 ·obtain⟨z1,h1⟩:=liv _ _ h1
  obtain⟨z2,h2⟩:=liv _ _ h2;exact sh.inj b1 b2 c' z1 z2 h1 h2 k1 k2
 ·rcases live b' z hz with ⟨rfl,rfl⟩|⟨h1,h2⟩
  ·exact⟨c,y,hr,hset_same _ _ _,hx⟩
  ·obtain⟨c',y',k1,k2,k3⟩:=sh.blk b' z h2
   refine⟨c',y',k1,?_,k3⟩;rw[aJ _ _ (fun e=>?_)];·exact k2
   ·subst e;exact h1 (sh.inj b' b c' _ _ h2 hb k1 hr)
 ·rcases live b' z hz with ⟨rfl,rfl⟩|⟨h1,h2⟩
  ·exact .inl ⟨x0,hb,rfl,fun st p e=>by rw[e]at hng;cases hng⟩
  ·exact .inl ⟨z,h2,rfl,fun st p e=>e⟩
 ·obtain⟨k1,k2⟩:=lg b' st p hb'
  rw[aJ _ _ (fun e=>?_)];·exact hy
  ·subst e;exact(hG.2 b' b st p x0 n k2 hb k1 hnn).1 hr

theorem GhR.drop{G:Nat→Nat→Prop}(hG:GhR h r G H){g gc:Nat}{x0:XB}(hg:hat h g=some x0)(hr:r g=some gc):GhR (h.set g none) r (fun b=>G (id b)) (mA H gc):=by
 have live:∀ b z,hat (h.set g none) b=some z→b≠g∧hat h b=some z:=fun b z hz=>by
  rw[fQ]at hz;split at hz;·cases hz
  ·rename_i hc;exact⟨fun e=>hc ⟨e,pZ hg⟩,hz⟩
 refine hG.via id (fun b st p hb=>⟨(live b _ hb).2,rfl⟩) (fun b z hb=>.inl ⟨z,(live b z hb).2,rfl,fun st p e=>e⟩) (fun _ _ _ _ _ _ _ hne=>hne) fun b st p n y hb hn hy=>?_;obtain⟨k1,k2⟩:=live b _ hb;have hne:n≠gc:=fun e=>by subst e;exact(hG.2 b g st p x0 n k2 hg k1 hn).1 hr
 simp only[mA,hne,AAd];exact hy
theorem aDz(sh:SH D Y r h H){n:Nat}{p p' x x':AV}(hp:Rn D Y r p p')(hx:Rn D Y r x x'){h':XH}(hs:nX n h p x=some h'):∃ H',nZ n H p' x'=some H'∧SH D Y r h' H'∧∃ b x0,fB p=some b∧hat h b=some x0:=by
 unfold nX at hs;split at hs
 ·rename_i b o
  split at hs
  ·rename_i g cs vs hb hv
   split at hs
   ·rename_i hc
    simp only[oSI]at hs;subst hs;obtain⟨c,rfl,hr⟩:=kX hp;obtain⟨vs',k1,k2⟩:=wH hx hv;obtain⟨g',cs',k3,k4,k5,k6⟩:=sh.cells hr (w:=true) (cs:=cs) (by unfold aG;rw[hb]);rw[hb]at k3;simp only[oSI,XB.blk.injEq,ABlk.cells.injEq,AAk,AAj]at k3;subst k3;refine⟨_,by simp only[nZ,k4,k1];rw[if_pos (by rw[←k2.1,←k5.1];exact hc)],sh.turn hb hr (.cells c _ true _ _ (yY k5 k2) fun hg=>?_),b,_,rfl,hb⟩;simp only[A3]at hg;exact vZ (k6 hg.1) hg.2
   ·simp at hs
  ·simp at hs
 ·simp at hs

theorem aQG{q:Bool}{k k' v v':AV}(hk:Rn D Y r k k')(hv:Rn D Y r v v'):∀(es es' es2:List (AV×AV)),RnP D Y r es es'→jN q k v es=some es2→∃ es2',jN q k' v' es'=some es2'∧RnP D Y r es2 es2':=by
 have cons:∀{p p':AV×AV}{es es':List (AV×AV)},Rn D Y r p.1 p'.1→Rn D Y r p.2 p'.2→RnP D Y r es es'→RnP D Y r (p::es) (p'::es'):=fun h1 h2 h3=>⟨by simp[h3.1],fun i x y hx hy=>by
  cases i with
  | zero=>simp at hx hy;subst hx hy;exact⟨h1,h2⟩
  | succ i=>exact h3.2 i x y (by simpa using hx) (by simpa using hy)⟩
 intro es;induction es with
 | nil =>
   intro es' es2 hp hf;have:es'=[]:=B8 (by have:=hp.1;simpa using this.symm);subst this;simp only[jN,oSI]at hf;subst hf;exact⟨_,rfl,cons (p:=(k,v)) (p':=(k',v')) hk hv ⟨rfl,by simp⟩⟩
 | cons p es ih =>
   intro es' es2 hp hf;cases es' with
   | nil=>have:=hp.1;simp at this
   | cons p' es' =>
     obtain⟨h1,h2⟩:=hp.2 0 p p' rfl rfl;have hrest:RnP D Y r es es':=⟨by have:=hp.1;simpa using this,fun i x y hx hy=>hp.2 (i+1) x y (by simpa using hx) (by simpa using hy)⟩;obtain⟨a,u⟩:=p;obtain⟨a',u'⟩:=p';simp only[jN]at hf ⊢;split at hf
     ·rename_i hb
      rw[uE hk h1 hb];simp only[oSI]at hf;subst hf;exact⟨_,rfl,cons (p:=(a,v)) (p':=(a',v')) h1 hv hrest⟩
     ·rename_i hb
      rw[uE hk h1 hb];simp only[A0]at hf;obtain⟨es3,h3,rfl⟩:=hf;obtain⟨es3',h4,h5⟩:=ih es' es3 hrest h3;exact⟨(a',u')::es3',by simp only[h4,C3],cons (p:=(a,u)) (p':=(a',u')) h1 h2 h5⟩
     ·simp at hf
theorem aNf{q:Bool}{k v:AV}:∀(es es2:List (AV×AV)),jN q k v es=some es2→∀ p∈es2,(p.1=k∨∃ p0∈es,p.1=p0.1)∧(p.2=v∨∃ p0∈es,p.2=p0.2):=by
 intro es;induction es with
 | nil=>intro es2 hf p hp;simp only[jN,oSI]at hf;subst hf;simp at hp;subst hp;exact⟨.inl rfl,.inl rfl⟩
 | cons p0 es ih =>
   intro es2 hf p hp;obtain⟨a,u⟩:=p0;simp only[jN]at hf;split at hf
   ·simp only[oSI]at hf;subst hf
    rcases B3.1 hp with rfl|hp;·exact⟨.inr ⟨(a,u),by simp,rfl⟩,.inl rfl⟩
    ·exact⟨.inr ⟨p,by simp[hp],rfl⟩,.inr ⟨p,by simp[hp],rfl⟩⟩
   ·simp only[A0]at hf
    obtain⟨es3,h3,rfl⟩:=hf;rcases B3.1 hp with rfl|hp;·exact⟨.inr ⟨(a,u),by simp,rfl⟩,.inr ⟨(a,u),by simp,rfl⟩⟩
    ·obtain⟨h4,h5⟩:=ih es3 h3 p hp
     exact⟨h4.imp id fun⟨q,h6,h7⟩=>⟨q,by simp[h6],h7⟩,h5.imp id fun⟨q,h6,h7⟩=>⟨q,by simp[h6],h7⟩⟩
   ·simp at hf

theorem aKj(sh:SH D Y r h H){q:Bool}{m m' k k' x x':AV}(hm:Rn D Y r m m')(hk:Rn D Y r k k')(hx:Rn D Y r x x'){h':XH}(hs:rF q h m k x=some h'):∃ H',vV q H m' k' x'=some H'∧SH D Y r h' H':=by
 unfold rF at hs;split at hs
 ·rename_i b
  split at hs
  ·rename_i g es hb
   simp only[A0]at hs;obtain⟨es2,h2,rfl⟩:=hs;obtain⟨c,rfl,hr⟩:=aGn hm;obtain⟨g',es',k3,k4,k5,k6⟩:=sh.map hr (w:=true) (es:=es) (by unfold aG;rw[hb]);rw[hb]at k3;simp only[oSI,XB.blk.injEq,ABlk.map.injEq,AAk,AAj]at k3;subst k3;obtain⟨es2',k7,k8⟩:=aQG hk hx es es' es2 k5 h2;refine⟨_,by simp only[vV,k4,k7,C3],sh.turn hb hr (.map c _ true _ _ k8 fun hg p hp=>?_)⟩;simp only[A3]at hg;obtain⟨h3,h4⟩:=aNf es es2 h2 p hp;refine⟨?_,?_⟩
   ·rcases h3 with e|⟨p0,h5,e⟩
    ·rw[e];exact hg.2.1
    ·rw[e];exact(k6 hg.1 p0 h5).1
   ·rcases h4 with e|⟨p0,h5,e⟩
    ·rw[e];exact hg.2.2
    ·rw[e];exact(k6 hg.1 p0 h5).2
  ·simp at hs
 ·simp at hs


theorem aPg(sh:SH D Y r h H){x x' v:AV}(hx:Rn D Y r x x'){h':XH}(hs:aFP h x=some (v,h')):∃ H',aGw H x'=some (v,H')∧Rn D Y r v v∧SH D Y r h' H':=by
 have g3:∀ n m:Int,Rn D Y r (.tup [.bool true,.int .i64 n,.int .i32 m]) (.tup [.bool true,.int .i64 n,.int .i32 m]):=fun n m=>.tup _ _ rfl fun i a b ha hb=>by
  match i with
  | 0=>simp at ha hb;subst ha hb;exact .bool _
  | 1=>simp at ha hb;subst ha hb;exact .int _ _
  | 2=>simp at ha hb;subst ha hb;exact .int _ _
  | i+3=>simp at ha
 have g1:Rn D Y r (.tup [.bool false]) (.tup [.bool false]):=.tup _ _ rfl fun i a b ha hb=>by
  match i with
  | 0=>simp at ha hb;subst ha hb;exact .bool _
  | i+1=>simp at ha
 unfold aFP at hs;split at hs
 ·rename_i b
  split at hs
  ·rename_i g s pos hb
   obtain⟨c,rfl,hr⟩:=kX hx;obtain⟨g',k3,k4⟩:=sh.obj hr (w:=true) (o:=.stringIter s pos) (by unfold aG;rw[hb]);split at hs<;>simp only[oSI,B4]at hs<;>obtain⟨rfl,rfl⟩:=hs
   ·rename_i hlt
    exact⟨_,by simp only[aGw,k4];rw[if_pos hlt],g3 _ _,sh.turn hb hr (.obj c _ true _)⟩
   ·rename_i hlt
    exact⟨H,by simp only[aGw,k4];rw[if_neg hlt],g1,sh⟩
  ·simp at hs
 ·simp at hs




theorem aLv(sh:SH D Y r h H){s:Nat}{x x' y y':AV}(hx:Rn D Y r x x')(hy:Rn D Y r y y'){n:Nat}{h':XH}(hs:aAX s h x y=some (n,h')):∃ H',aCI s H x' y'=some (n,H')∧SH D Y r h' H':=by
 unfold aAX at hs;split at hs
 ·rename_i b o s' len m new hsrc
  obtain⟨new',k1,k2,k3⟩:=aEF sh hy hsrc;split at hs
  ·rename_i g cs hb
   split at hs
   ·rename_i hc
    simp only[oSI,B4]at hs;obtain⟨rfl,rfl⟩:=hs;obtain⟨c,rfl,hr⟩:=xO hx;obtain⟨g',cs',j3,j4,j5,j6⟩:=sh.cells hr (w:=true) (cs:=cs) (by unfold aG;rw[hb]);rw[hb]at j3;simp only[oSI,XB.blk.injEq,ABlk.cells.injEq,AAk,AAj]at j3;subst j3;refine⟨_,by simp only[aCI,k1,j4];rw[if_pos (by rw[←j5.1];exact hc)],sh.turn hb hr (.cells c _ true _ _ (yY j5 (k2.take _)) fun hg=>?_)⟩;simp only[A3]at hg;exact vZ (j6 hg.1) (eW fun x hx=>fR (k3 hg.2) x (I1 hx))
   ·simp at hs
  ·simp at hs
 ·simp at hs

theorem SH.fresh(sh:SH D Y r h H){own:Option Nat}(g:Bool){x:ABlk}{y:ABlk}{b':Nat}(hb:H b'=none∨own.bind r=some b')
 (ho:∀ b,own=some b→∃ c x0,r b=some c∧hat h b=some x0) (hxy:∀ c,RnB D Y r c (.blk g x) y) :
 Sub r (fun b=>if b=h.length then some b' else r b)∧SH D Y (fun b=>if b=h.length then some b' else r b) (qU h own g x) (hset H b' y):=by
 have hsub:Sub r (fun b=>if b=h.length then some b' else r b):=fun b c hb=>by
  have:=sh.dom b c hb;simp only[show b≠h.length by omega,AAd];exact hb
 have len:(qU h own g x).length=h.length+1:=by unfold qU;cases own<;>simp
 have live:∀ b z,hat (qU h own g x) b=some z→(b=h.length∧z = .blk g x)∨(b<h.length∧own≠some b∧hat h b=some z):=fun b z hz=>by
  unfold qU at hz;cases own with
  | none =>
    simp only at hz;rw[cS]at hz;split at hz;·rename_i hlt;exact .inr ⟨hlt,by simp,hz⟩
    ·by_cases he:b=h.length
     ·subst he;simp[hat]at hz;exact .inl ⟨rfl,hz.symm⟩
     ·have:b-h.length=(b-h.length-1)+1:=AM
      rw[this]at hz;simp[hat]at hz
  | some b0 =>
    simp only at hz;rw[cS]at hz;simp only[C9]at hz;split at hz
    ·rename_i hlt
     rw[fQ]at hz;split at hz;·simp at hz
     ·rename_i hc
      refine .inr ⟨hlt,fun e=>?_,hz⟩;simp only[oSI]at e;subst e;exact hc ⟨rfl,hlt⟩
    ·by_cases he:b=h.length
     ·subst he;simp[hat]at hz;exact .inl ⟨rfl,hz.symm⟩
     ·have:b-h.length=(b-h.length-1)+1:=AM
      rw[this]at hz;simp[hat]at hz
 have other:∀ b c z,hat h b=some z→own≠some b→r b=some c→c≠b':=fun b c z hz hne hr e=>by
  subst e;obtain⟨c',y',h1,h2,_⟩:=sh.blk b z hz;rw[hr]at h1;simp only[oSI]at h1;subst h1;rcases hb with hb|hb;·rw[hb]at h2;simp at h2
  ·cases own with
   | none=>simp at hb
   | some b0 =>
     simp only[E7]at hb;obtain⟨_,x0,_,h4⟩:=ho b0 rfl;exact hne (by rw[sh.inj b b0 c z x0 hz h4 hr hb])
 obtain⟨G,hG⟩:=sh.gh;have lg:∀ b st p,hat (qU h own g x) b=some (.gh st p)→b<h.length∧own≠some b∧hat h b=some (.gh st p):=fun b st p hz=>by
  rcases live b _ hz with ⟨_,e⟩|h1;·cases e
  ·exact h1
 have gne:∀ b st p n,hat (qU h own g x) b=some (.gh st p)→G b n→n≠b':=fun b st p n hz hnn e=>by
  obtain⟨k1,k2,k3⟩:=lg b st p hz;subst e;obtain⟨c,_,k4⟩:=hG.1 b st p k3;obtain⟨y1,k5⟩:=k4.live hnn;rcases hb with hb|hb;·rw[hb]at k5;cases k5
  ·cases own with
   | none=>simp at hb
   | some b0 =>
     simp only[E7]at hb;obtain⟨_,x0,_,h4⟩:=ho b0 rfl;exact(hG.2 b b0 st p x0 n k3 h4 (fun e=>k2 (by rw[e])) hnn).1 hb
 refine⟨hsub,fun b c hb=>?_,fun b1 b2 c x1 x2 h1 h2 k1 k2=>?_,fun b z hz=>?_,_,hG.via id (fun b st p hz=>?_) (fun b z hz=>?_) (fun _ _ _ _ _ _ _ hne=>hne) fun b st p n y' hz hnn hy=>?_⟩
 ·rw[len]
  split at hb;·omega
  ·have:=sh.dom b c hb;omega
 ·rcases live b1 x1 h1 with ⟨rfl,_⟩|⟨l1,n1,m1⟩
  ·rcases live b2 x2 h2 with ⟨rfl,_⟩|⟨l2,n2,m2⟩
   ·rfl
   ·exfalso
    simp only[AAe,oSI]at k1;simp only[show b2≠h.length by omega,AAd]at k2;exact other b2 c x2 m2 n2 k2 k1.symm
  ·rcases live b2 x2 h2 with ⟨rfl,_⟩|⟨l2,n2,m2⟩
   ·exfalso
    simp only[AAe,oSI]at k2;simp only[show b1≠h.length by omega,AAd]at k1;exact other b1 c x1 m1 n1 k1 k2.symm
   ·simp only[show b1≠h.length by omega,AAd]at k1
    simp only[show b2≠h.length by omega,AAd]at k2;exact sh.inj b1 b2 c x1 x2 m1 m2 k1 k2
 ·rcases live b z hz with ⟨rfl,rfl⟩|⟨l1,n1,m1⟩
  ·exact⟨b',y,by simp,hset_same _ _ _,(hxy b').mono hsub (fun _=>rfl)⟩
  ·obtain⟨c,y',g1,g2,g3⟩:=sh.blk b z m1
   refine⟨c,y',hsub b c g1,?_,g3.mono hsub (fun _=>rfl)⟩;rw[aJ _ _ (other b c z m1 n1 g1)];exact g2
 ·obtain⟨k1,_,k3⟩:=lg b st p hz
  exact⟨k3,by simp only[id,show b≠h.length by omega,AAd]⟩
 ·rcases live b z hz with ⟨rfl,rfl⟩|⟨l1,n1,m1⟩
  ·exact .inr ⟨b',by simp,fun a st p ha hga=>gne a st p b' ha hga rfl,fun st p e=>by cases e⟩
  ·exact .inl ⟨z,m1,by simp only[id,show b≠h.length by omega,AAd],fun st p e=>e⟩
 ·rw[aJ _ _ (gne b st p n hz hnn)];exact hy

structure SR(D:Nat→Option XFn)(Y:Nat→Option YI)(r:Nat→Option Nat)(e:aH)(h:XH)(env:aH)(H:Hp):Prop where
 sh:SH D Y r h H
 re:∀ j,Rn D Y r (e j) (env j)

theorem SR.put{r':Nat→Option Nat}{h':XH}{H':Hp}(sr:SR D Y r e h env H)(hs:Sub r r')(sh:SH D Y r' h' H'){v v':AV}(hv:Rn D Y r' v v')(d:Option Nat):SR D Y r' (aW e d v) h' (aW env d v') H':=by
 refine⟨sh,fun j=>?_⟩;cases d with
 | none=>exact(sr.re j).mono hs
 | some d =>
   simp only[aW,upd];split;·exact hv
   ·exact(sr.re j).mono hs

theorem aEa(sr:SR D Y r e h env H){o:DOper}{b:Bool}(hb:gd o e=some b):gd o env=some b:=by
 unfold gd at hb ⊢;split at hb;·exact hb
 ·rename_i g want hg
  have hr:=sr.re g;split at hb
  ·rename_i t ht
   rw[ht]at hr;rw[fE hr];exact hb
  ·rename_i vs ht
   rw[ht]at hr;obtain⟨ys,h1,_⟩:=aEW hr;rw[h1];exact hb
  ·simp at hb

def aRI(D:Nat→Option XFn)(Y:Nat→Option YI)(r:Nat→Option Nat)(e:aH)(h:XH)(K:aH→Hp→Prop):Prop:=∀ r' env' H',Sub r r'→SR D Y r' e h env' H'→K env' H'

theorem wU{run:eP}{runY:fS}(sr:SR D Y r e h env H){d:Option Nat}{op:DOp}(hq:op.isQ=true)(hok:iH op=true){e':aH}{h':XH}(hx:dG run runY d op e h=some (e',h')){K:aH→Hp→Prop}
 (hK:aRI D Y r e' h' K):hO B P d op K env H:=by
 have hx':(match aD op e (aG h)with
  | some (.val v)=>some (aW e d v,h)
  | some (.new own x f)=>some (aW e d (f h.length),qU h own (iP op e h) x)
  | none=>none)=some (e',h'):=by
  rw[←hx];cases op<;>first|rfl|(simp[DOp.isQ]at hq)
 rw[qE hq,dJ];split at hx'
 ·rename_i v hv
  simp only[oSI,B4]at hx';obtain⟨rfl,rfl⟩:=hx';obtain⟨eff',h1,h2⟩:=aGX sr.sh sr.re hok hv;refine⟨eff',h1,?_⟩;cases h2 with
  | val _ v' hv'=>exact hK r _ _ (Sub.refl r) (sr.put (Sub.refl r) sr.sh hv' d)
 ·rename_i own x f hv
  simp only[oSI,B4]at hx';obtain⟨rfl,rfl⟩:=hx';obtain⟨eff',h1,h2⟩:=aGX sr.sh sr.re hok hv;refine⟨eff',h1,?_⟩;cases h2 with
  | new _ cs cs' _ hf hc hg ho =>
    intro b' hb';obtain⟨k1,k2⟩:=sr.sh.fresh (own:=own) (iP op e h) (x:=.cells true cs) (y:=.cells true cs') (b':=b') hb' (fun b hb=>by
     obtain⟨c,g',cs0,q1,q2⟩:=ho b hb;exact⟨c,_,q1,q2⟩) (fun c=>.cells c _ true _ _ hc hg)
    exact hK _ _ _ k1 (sr.put k1 k2 (hf _ _ _ (by simp)) d)
  | newObj o _ hf =>
    intro b' hb';obtain⟨k1,k2⟩:=sr.sh.fresh (own:=none) (iP op e h) (x:=.obj true o) (y:=.obj true o) (b':=b') (by simpa using hb') (fun b hb=>by simp at hb) (fun c=>.obj c _ true o);exact hK _ _ _ k1 (sr.put k1 k2 (hf _ _ _ (by simp)) d)
  | newMap es _ hf hes =>
    intro b' hb';obtain⟨k1,k2⟩:=sr.sh.fresh (own:=none) (iP op e h) (x:=.map true es) (y:=.map true es) (b':=b') (by simpa using hb') (fun b hb=>by simp at hb) (fun c=>.map c _ true _ _ ⟨rfl,fun i x y hx hy=>by
     rw[hx]at hy;simp at hy;subst hy;have:=hes x (A5 hx);exact⟨this.1.rn,this.2.rn⟩⟩ (fun _ p hp=>⟨(hes p hp).1.gr,(hes p hp).2.gr⟩))
    exact hK _ _ _ k1 (sr.put k1 k2 (hf _ _ _ (by simp)) d)
 ·simp at hx'

theorem iW{run:eP}{runY:fS}(hf:FnS P B D Y run)(hy:YS P B D Y runY)(sr:SR D Y r e h env H){d:Option Nat}{op:DOp}(hok:iH op=true){e':aH}{h':XH}
 (hx:dG run runY d op e h=some (e',h')) {K:aH→Hp→Prop} (hK:aRI D Y r e' h' K):hO B P d op K env H:=by
 by_cases hq:op.isQ=true;·exact wU sr hq hok hx hK
 ·cases op with
  | store n p x l =>
    simp only[iH,A3]at hok;simp only[dG,A0]at hx;obtain⟨h2,hs,heq⟩:=hx;simp only[B4]at heq;obtain⟨rfl,rfl⟩:=heq;obtain⟨H',k1,k2,_⟩:=aDz sr.sh (aL sr.re hok.1) (aL sr.re hok.2) hs;simp only[hO,k1,optW_some];exact hK r _ _ (Sub.refl r) (sr.put (Sub.refl r) k2 (.any _) d)
  | copy s x y =>
    simp only[iH,A3]at hok;simp only[dG,A0]at hx;obtain⟨⟨n,h2⟩,hs,heq⟩:=hx;simp only[B4]at heq;obtain⟨rfl,rfl⟩:=heq;obtain⟨H',k1,k2⟩:=aLv sr.sh (aL sr.re hok.1) (aL sr.re hok.2) hs;simp only[hO,k1,optW_some];exact hK r _ _ (Sub.refl r) (sr.put (Sub.refl r) k2 (.int _ _) d)
  | mapup q m k x =>
    simp only[iH,A3]at hok;simp only[dG,A0]at hx;obtain⟨h2,hs,heq⟩:=hx;simp only[B4]at heq;obtain⟨rfl,rfl⟩:=heq;obtain⟨H',k1,k2⟩:=aKj sr.sh (aL sr.re hok.1.1) (aL sr.re hok.1.2) (aL sr.re hok.2) hs;simp only[hO,k1,optW_some];exact hK r _ _ (Sub.refl r) (sr.put (Sub.refl r) k2 (.any _) d)
  | nxts x =>
    simp only[dG,A0]at hx;obtain⟨⟨v,h2⟩,hs,heq⟩:=hx;simp only[B4]at heq;obtain⟨rfl,rfl⟩:=heq;obtain⟨H',k1,k2,k3⟩:=aPg sr.sh (aL sr.re (x:=x) hok) hs;simp only[hO,k1,optW_some];exact hK r _ _ (Sub.refl r) (sr.put (Sub.refl r) k3 k2 d)
  | callf q f xs l =>
    simp only[iH,A3]at hok;cases q with
    | true =>
      simp only[dG,A0]at hx;obtain⟨v,hs,heq⟩:=hx;simp only[B4]at heq;obtain⟨rfl,rfl⟩:=heq;obtain⟨k1,k2⟩:=aHg (P:=P) (B:=B) hf sr.sh (aL sr.re hok.1) (tU sr.re hok.2) hs;exact⟨v,k2,hK r _ _ (Sub.refl r) (sr.put (Sub.refl r) sr.sh k1.rn d)⟩
    | false =>
      simp only[dG,A0]at hx;obtain⟨⟨v,h2⟩,hs,heq⟩:=hx;simp only[B4]at heq;obtain⟨rfl,rfl⟩:=heq;refine CallV.mono (tN (P:=P) (B:=B) hf hy sr.sh (aL sr.re hok.1) (tU sr.re hok.2) hs) ?_;rintro v' H' ⟨⟨r',k1,k2,k3⟩,_⟩;exact hK r' _ _ k1 (sr.put k1 k2 k3 d)
  | _=>exact absurd rfl hq

def xV(ops:List DOper):Bool:=ops.all fun o=>iH o.op

theorem jZ{run:eP}{runY:fS}(hf:FnS P B D Y run)(hy:YS P B D Y runY):∀(ops:List DOper)(r:Nat→Option Nat)(e:aH)(h:XH)(env:aH)(H:Hp)(e':aH)(h':XH)(K:aH→Hp→Prop),xV ops=true→SR D Y r e h env H →
 fA run runY ops e h=some (e',h')→aRI D Y r e' h' K→RS B P ops K env H:=by
 intro ops;induction ops with
 | nil =>
   intro r e h env H e' h' K _ sr hx hK;simp only[fA,oSI,B4]at hx;obtain⟨rfl,rfl⟩:=hx;exact hK r env H (Sub.refl r) sr
 | cons o ops ih =>
   intro r e h env H e' h' K hok sr hx hK;simp only[xV,O8,A3]at hok;simp only[fA]at hx;simp only[RS,opW];split at hx
   ·rename_i hg
    rw[aEa sr hg];simp only[H6]at hx;obtain⟨⟨e1,h1⟩,hx1,hx2⟩:=hx;refine iW hf hy sr hok.1 hx1 fun r' env' H' hs sr'=>?_;exact ih r' e1 h1 env' H' e' h' K hok.2 sr' hx2 fun r2 env2 H2 hs2 sr2=>hK r2 env2 H2 (hs.trans hs2) sr2
   ·rename_i hg
    rw[aEa sr hg];simp only;exact ih r _ h _ H e' h' K hok.2 (sr.put (Sub.refl r) sr.sh (.tup [] [] rfl (by simp)) o.dst) hx hK
   ·simp at hx

def LogR(r:Nat→Option Nat)(h:XH)(L:List (Nat×Nat))(L':wQ):Prop:=(∀ q∈L,(hat h q.2).isSome=true)∧∀ j c,L' j=some c→∃ b,(j,b)∈L∧r b=some c

theorem uK{ix:Nat}{d:Option Nat}{op:DOp}{K:KL}{L:wQ}(h1:∀ n p x l,op ≠ .store n p x l)(h2:∀ f xs l,op ≠ .callf false f xs l) :
 aX B P ix d op K env H L=hO B P d op (fun e h=>K e h (eM ix op env L)) env H:=by
 cases op<;>first
  | rfl
  | (exact absurd rfl (h1 _ _ _ _))
  | (rename_i q f xs l;cases q;exact absurd rfl (h2 _ _ _);rfl)

mutual
theorem aMD:∀(x y:AV),cT x y=true→x=y
 | .int k n,.int k' n',h=>by simp[cT]at h;obtain⟨rfl,rfl⟩:=h;rfl
 | .bool a,.bool b,h=>by simp[cT]at h;subst h;rfl
 | .str s,.str t,h=>by
   simp[cT]at h;obtain⟨s⟩:=s;obtain⟨t⟩:=t;obtain⟨s⟩:=s;obtain⟨t⟩:=t;simp at h;subst h;rfl
 | .agg xs,.agg ys,h=>by rw[oK xs ys (by simpa [cT]using h)]
 | .tup xs,.tup ys,h=>by rw[oK xs ys (by simpa [cT]using h)]
 | .sl b o s n,.sl b' o' s' n',h=>by simp[cT]at h;obtain⟨rfl,rfl,rfl,rfl⟩:=h;rfl
 | .pt b o,.pt b' o',h=>by simp[cT]at h;obtain⟨rfl,rfl⟩:=h;rfl
 | .mp b,.mp b',h=>by simp[cT]at h;subst h;rfl
 | .nilsl,.nilsl,_=>rfl
 | .nilpt,.nilpt,_=>rfl
 | .nilmap,.nilmap,_=>rfl
 | .nilfn,.nilfn,_=>rfl
 | .nilifc,.nilifc,_=>rfl
 | .fn f xs us,.fn g ys vs,h=>by
   simp only[cT,A3,AAg]at h;rw[h.1,oK xs ys h.2.1,oK us vs h.2.2]
 | .fs xs,.fs ys,h=>by rw[aBo xs ys (by simpa [cT]using h)]
 | .any,y,h=>by cases y<;>simp[cT]at h
 | .fp ..,y,h=>by cases y<;>simp[cT]at h
 | .ifc ..,y,h=>by cases y<;>simp[cT]at h
theorem oK:∀(xs ys:List AV),iE xs ys=true→xs=ys
 | [],[],_=>rfl
 | x::xs,y::ys,h=>by
   simp only[iE,A3]at h;rw[aMD x y h.1,oK xs ys h.2]
 | [],_::_,h=>by simp[iE]at h
 | _::_,[],h=>by simp[iE]at h
theorem aBo:∀(xs ys:List (List AV)),aDF xs ys=true→xs=ys
 | [],[],_=>rfl
 | x::xs,y::ys,h=>by
   simp only[aDF,A3]at h;rw[oK x y h.1,aBo xs ys h.2]
 | [],_::_,h=>by simp[aDF]at h
 | _::_,[],h=>by simp[aDF]at h
end
mutual
theorem aME{r':Nat→Option Nat}(hs:Sub r r'):∀(x y x' y':AV),cT x y=true→Rn D Y r x x'→Rn D Y r' y y'→x'=y'
 | .int k n,.int k' n',x',y',h,h1,h2=>by simp[cT]at h;obtain⟨rfl,rfl⟩:=h;rw[dW h1,dW h2]
 | .bool a,.bool b,x',y',h,h1,h2=>by simp[cT]at h;subst h;rw[fE h1,fE h2]
 | .str s,.str t,x',y',h,h1,h2=>by
   simp[cT]at h;have:s=t:=by cases s;cases t;simp_all
   subst this;rw[cX h1,cX h2]
 | .agg xs,.agg ys,x',y',h,h1,h2=>by
   obtain⟨xs',rfl,k1⟩:=aBI h1;obtain⟨ys',rfl,k2⟩:=aBI h2;rw[oL hs xs ys xs' ys' (by simpa [cT]using h) k1 k2]
 | .tup xs,.tup ys,x',y',h,h1,h2=>by
   obtain⟨xs',rfl,k1⟩:=aEW h1;obtain⟨ys',rfl,k2⟩:=aEW h2;rw[oL hs xs ys xs' ys' (by simpa [cT]using h) k1 k2]
 | .sl b o s n,.sl b' o' s' n',x',y',h,h1,h2=>by
   simp[cT]at h;obtain⟨rfl,rfl,rfl,rfl⟩:=h;obtain⟨c,rfl,k1⟩:=xO h1;obtain⟨c',rfl,k2⟩:=xO h2;rw[hs b c k1]at k2;simp at k2;rw[k2]
 | .pt b o,.pt b' o',x',y',h,h1,h2=>by
   simp[cT]at h;obtain⟨rfl,rfl⟩:=h;obtain⟨c,rfl,k1⟩:=kX h1;obtain⟨c',rfl,k2⟩:=kX h2;rw[hs b c k1]at k2;simp at k2;rw[k2]
 | .mp b,.mp b',x',y',h,h1,h2=>by
   simp[cT]at h;subst h;obtain⟨c,rfl,k1⟩:=aGn h1;obtain⟨c',rfl,k2⟩:=aGn h2;rw[hs b c k1]at k2;simp at k2;rw[k2]
 | .nilsl,.nilsl,x',y',h,h1,h2=>by rw[oN h1,oN h2]
 | .nilpt,.nilpt,x',y',h,h1,h2=>by rw[aBH h1,aBH h2]
 | .nilmap,.nilmap,x',y',h,h1,h2=>by rw[zE h1,zE h2]
 | .nilfn,.nilfn,x',y',h,h1,h2=>by rw[aGm h1,aGm h2]
 | .nilifc,.nilifc,x',y',h,h1,h2=>by rw[aDJ h1,aDJ h2]
 | .fn f xs us,.fn g ys vs,x',y',h,h1,h2=>by
   simp only[cT,A3,AAg]at h;obtain⟨rfl,h3,h4⟩:=h;cases h1 with
   | fn _ _ xs' _ us' hf1 a1 a2 a3 a4 =>
     cases h2 with
     | fn _ _ ys' _ vs' hf2 b1 b2 b3 b4 =>
       rw[oL hs xs ys xs' ys' h3 ⟨a1,a2⟩ ⟨b1,b2⟩,oL hs us vs us' vs' h4 ⟨a3,a4⟩ ⟨b3,b4⟩]
     | yield=>exact absurd rfl (hf1 _)
   | yield l c hr =>
     cases h2 with
     | fn _ _ ys' _ vs' hf2=>exact absurd rfl (hf2 _)
     | yield _ c' hr' =>
       rw[hs l c hr]at hr';simp at hr';rw[hr']
 | .any,y,_,_,h,_,_=>by cases y<;>simp[cT]at h
 | .fs xs,.fs ys,x',y',h,h1,h2=>by
   simp only[cT]at h;rw[(xP h1).1,(xP h2).1,aBo xs ys h]
 | .fp ..,y,_,_,h,_,_=>by cases y<;>simp[cT]at h
 | .ifc ..,y,_,_,h,_,_=>by cases y<;>simp[cT]at h
theorem oL{r':Nat→Option Nat}(hs:Sub r r'):∀(xs ys xs' ys':List AV),iE xs ys=true→RnL D Y r xs xs'→RnL D Y r' ys ys'→xs'=ys'
 | [],[],xs',ys',_,h1,h2=>by rw[h1.nil_inv,h2.nil_inv]
 | x::xs,y::ys,xs',ys',h,h1,h2=>by
   simp only[iE,A3]at h;obtain⟨x',xs2,rfl,k1,k2⟩:=h1.inv;obtain⟨y',ys2,rfl,k3,k4⟩:=h2.inv;rw[aME hs x y x' y' h.1 k1 k3,oL hs xs ys xs2 ys2 h.2 k2 k4]
 | [],_::_,_,_,h,_,_=>by simp[iE]at h
 | _::_,[],_,_,h,_,_=>by simp[iE]at h
end
end
end Go.DL
