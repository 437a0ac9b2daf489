/- Parts of a proof, joined: X6 X7 X8 X9 XA XC XD XE XR XT DlV DlW XP XQ XS XU. No statement of the seed is proved here. -/
import Derived.Carry
import Derived.OpenShut
import Derived.ChangeArms
import Derived.DataReads
import Derived.ChangeOld
import Derived.ChangeShapes
import Derived.RangeFuncLeaves
import Derived.Test.YtmapgnepfgnphaaGreatDoorH2
set_option linter.unusedSimpArgs false
set_option linter.unusedVariables false
set_option linter.unusedSectionVars false
namespace Go.DL

def Sub (r r':Nat→Option Nat):Prop:=∀ b c,r b=some c→r' b=some c
theorem Sub.refl (r:Nat→Option Nat):Sub r r:=fun _ _ h=>h
theorem Sub.trans {r r' r'':Nat→Option Nat} (h:Sub r r') (k:Sub r' r''):Sub r r'':=fun b c hb=>k b c (h b c hb)

def bR (D:Nat→Option XFn) (Y:Nat→Option YI) (r:Nat→Option Nat) (v:AV) (h:XH):AV→Hp→Prop:=fun v' H' =>
 ∃ r',Sub r r'∧SH D Y r' h H'∧Rn D Y r' v v'

def FnS (P:Program) (B:Base) (D:Nat→Option XFn) (Y:Nat→Option YI) (run:bZ):Prop :=
 ∀ (r:Nat→Option Nat) (h:XH) (H:Hp) (K:Nat) (as as':List AV) (v:AV) (h':XH),SH D Y r h H→RnL D Y r as as'→run K as h=some (v,h')→FnW B P K as' H (bR D Y r v h')
def YS (P:Program) (B:Base) (D:Nat→Option XFn) (Y:Nat→Option YI) (runY:cV):Prop :=
 ∀ (r:Nat→Option Nat) (h:XH) (H:Hp) (fv fv':AV) (as as':List AV) (v:AV) (h':XH),SH D Y r h H→Rn D Y r fv fv'→RnL D Y r as as' →
   runY fv as h=some (v,h')→CallV B P fv' as' H (bR D Y r v h')

section
variable {P:Program} {B:Base} {D:Nat→Option XFn} {Y:Nat→Option YI} {r:Nat→Option Nat} {h:XH} {H:Hp}

theorem aJV (h:XH) (k b:Nat):aJ (h.drop k) b=aJ h (k+b):=by
 unfold aJ
 rw[List.getD_eq_getElem?_getD,List.getElem?_drop,List.getD_eq_getElem?_getD]

def tX (r:Nat→Option Nat) (acc:List Nat):Nat→Option Nat:=fun i=>(acc[i]?).bind r

def uD (h:XH) (r:Nat→Option Nat) (G:Nat→Nat→Prop) (b c:Nat):Prop:=r b=some c∨((∃ st p,aJ h b=some (.gh st p))∧G b c)
theorem lP (sh:SH D Y r h H) {G:Nat→Nat→Prop} (hG:GhR h r G H) {acc:List Nat} (hn:acc.Nodup) (hlive:∀ b∈acc,(aJ h b).isSome=true) (S:Nat→Prop) [DecidablePred S] (hS:∀ c,S c↔∃ b∈acc,uD h r G b c) :
 SH D Y (tX r acc) (fS acc h) (fun c=>if S c then H c else none)∧(∀ v v',Rn D Y r v v'→Rn D Y (tX r acc) (rnA (fun b=>fO b acc) v) v')∧(∀ v v',RnL D Y r v v'→RnL D Y (tX r acc) (lI (fun b=>fO b acc) v) v'):=by
 have hs:∀ b c d,fO b acc=some c→r b=some d→tX r acc c=some d:=fun b c d h1 h2=>by
  simp only[tX,aBf h1,Option.bind_some,h2]
 have lat:∀ i x,aJ (fS acc h) i=some x→∃ b y,acc[i]?=some b∧aJ h b=some y∧x=rnB (fun b=>fO b acc) y:=fun i x hx=>by
  unfold fS at hx
  rw[mZ _ _ _ rfl]at hx
  split at hx
  ·rename_i b hb
   obtain⟨y,hy,rfl⟩:=mK hx
   exact⟨b,y,hb,hy,rfl⟩
  ·simp at hx
 have gD:∀ i b,acc[i]?=some b→acc.getD i 0=b:=fun i b hi=>by rw[List.getD_eq_getElem?_getD,hi];rfl
 refine⟨⟨fun i c hi=>?_,fun i j c x y hx hy h1 h2=>?_,fun i x hx=>?_,fun i=>G (acc.getD i 0),hG.via (fun i=>acc.getD i 0) (fun i st p hi=>?_) (fun i x hi=>?_) (fun i j st p x hi hj hne he=>?_) fun i st p n y hi hnn hy=>?_⟩,fun v v' hv=>hv.renum hs,fun v v' hv=>hv.renum hs⟩
 ·simp only[tX]at hi
  cases ha:acc[i]? with
  | none=>rw[ha]at hi;simp at hi
  | some b=>simpa [fS]using (List.getElem?_eq_some_iff.1 ha).1
 ·simp only[tX]at h1 h2
  cases ha:acc[i]? with
  | none=>rw[ha]at h1;simp at h1
  | some b=>cases hb:acc[j]? with
    | none=>rw[hb]at h2;simp at h2
    | some b' =>
      rw[ha]at h1;rw[hb]at h2
      simp only[Option.bind_some]at h1 h2
      obtain⟨x1,hx1⟩:=Option.isSome_iff_exists.1 (hlive b (List.mem_of_getElem? ha))
      obtain⟨x2,hx2⟩:=Option.isSome_iff_exists.1 (hlive b' (List.mem_of_getElem? hb))
      have:=sh.inj b b' c x1 x2 hx1 hx2 h1 h2
      subst this
      exact mT hn ha hb
 ·unfold fS at hx
  rw[mZ _ _ _ rfl]at hx
  split at hx
  ·rename_i b hb
   obtain⟨y,hy,rfl⟩:=mK hx
   obtain⟨c,z,h1,h2,h3⟩:=sh.blk b y hy
   refine⟨c,z,by simp only[tX,hb,Option.bind_some,h1],?_,h3.renum hs⟩
   rw[if_pos ((hS c).2 ⟨b,List.mem_of_getElem? hb,.inl h1⟩)]
   exact h2
  ·simp at hx
 ·obtain⟨b,y,k1,k2,k3⟩:=lat i _ hi
  have:=nJ k3.symm
  subst this
  rw[gD i b k1]
  exact⟨k2,by simp only[tX,k1,Option.bind_some]⟩
 ·obtain⟨b,y,k1,k2,k3⟩:=lat i _ hi
  rw[gD i b k1]
  exact .inl ⟨y,k2,by simp only[tX,k1,Option.bind_some],fun st p e=>nJ (k3.symm.trans e)⟩
 ·obtain⟨b,y,k1,_,_⟩:=lat i _ hi
  obtain⟨b',y',m1,_,_⟩:=lat j _ hj
  rw[gD i b k1,gD j b' m1]at he
  subst he
  exact hne (mT hn k1 m1)
 ·obtain⟨b,y',k1,k2,k3⟩:=lat i _ hi
  have:=nJ k3.symm
  subst this
  rw[gD i b k1]at hnn
  rw[if_pos ((hS n).2 ⟨b,List.mem_of_getElem? k1,.inr ⟨⟨st,p,k2⟩,hnn⟩⟩)]
  exact hy

theorem vT (sh:SH D Y r h H) {G:Nat→Nat→Prop} (hG:GhR h r G H) {acc:List Nat} (hn:acc.Nodup) (hlive:∀ b∈acc,(aJ h b).isSome=true) {S:Nat→Prop} (hS:∀ c,S c↔∃ b∈acc,uD h r G b c)
 {rl:Nat→Option Nat} {hl:XH} {H' H'':Hp} (hsub:Sub (tX r acc) rl) (sh':SH D Y rl hl H') (e1:∀ c,S c∨H c=none→H'' c=H' c) (e2:∀ c,¬S c→∀ x,H c=some x→H'' c=some x∧H' c=none) :
 ∃ r',Sub r r'∧SH D Y r' (gJ acc h hl) H''∧(∀ v v',Rn D Y rl v v'→Rn D Y r' (rnA (eX acc h.length) v) v')∧(∀ b c,r b=some c→(aJ h b).isSome=true→b∉acc→H'' c=H c):=by
 obtain⟨r',hr'⟩:∃ r':Nat→Option Nat,r'=fun b=>if b<h.length then r b else rl (b-h.length+acc.length):=⟨_,rfl⟩
 have hlt:∀ b∈acc,b<h.length:=fun b hb=>by
  obtain⟨x,hx⟩:=Option.isSome_iff_exists.1 (hlive b hb)
  exact lY hx
 have r1:∀ b,b<h.length→r' b=r b:=fun b hb=>by rw[hr'];simp[hb]
 have r2:∀ i,acc.length≤i→r' (h.length+(i-acc.length))=rl i:=fun i hi=>by
  rw[hr']
  have e:h.length+(i-acc.length)-h.length+acc.length=i:=by omega
  simp only[show ¬(h.length+(i-acc.length)<h.length) by omega,if_false,e]
 have at1:∀ i b,acc[i]?=some b→∃ c,r b=some c∧rl i=some c:=fun i b hi=>by
  obtain⟨x,hx⟩:=Option.isSome_iff_exists.1 (hlive b (List.mem_of_getElem? hi))
  obtain⟨c,y,h1,_,_⟩:=sh.blk b x hx
  exact⟨c,h1,hsub i c (by simp only[tX,hi,Option.bind_some,h1])⟩
 have hs:∀ i b d,eX acc h.length i=some b→rl i=some d→r' b=some d:=fun i b d h1 h2=>by
  unfold eX at h1
  split at h1
  ·obtain⟨c,k1,k2⟩:=at1 i b h1
   rw[k2]at h2
   rw[r1 b (hlt b (List.mem_of_getElem? h1)),k1]
   exact h2
  ·rename_i hi
   simp only[oSI]at h1
   subst h1
   rw[r2 i (by omega)];exact h2
 have len:(gJ acc h hl).length=h.length+(hl.length-acc.length):=by simp[gJ,pE]
 have hat1:∀ i b,acc[i]?=some b→aJ (gJ acc h hl) b=rnO (eX acc h.length) (aJ hl i):=fun i b hi=>by
  have hb:=hlt b (List.mem_of_getElem? hi)
  have hi':=(List.getElem?_eq_some_iff.1 hi).1
  unfold gJ
  rw[dV,pE,if_pos hb,vX acc _ h i b hn (by simp) hlt hi,uA _ rfl,vY,if_pos hi']
 have hat2:∀ b,b<h.length→b∉acc→aJ (gJ acc h hl) b=aJ h b:=fun b hb hna=>by
  unfold gJ
  rw[dV,pE,if_pos hb,kZ _ _ _ _ hna]
 have hat3:∀ b,h.length≤b→aJ (gJ acc h hl) b=rnO (eX acc h.length) (aJ hl (acc.length+(b-h.length))):=fun b hb=>by
  unfold gJ
  rw[dV,pE,if_neg (by omega),uA _ rfl,aJV]
 have from1:∀ b x,aJ (gJ acc h hl) b=some x→(b<h.length∧b∉acc∧aJ h b=some x)∨∃ i y,eX acc h.length i=some b∧aJ hl i=some y∧x=rnB (eX acc h.length) y∧(b<h.length→b∈acc):=fun b x hx=>by
  by_cases hb:b<h.length
  ·by_cases ha:b∈acc
   ·obtain⟨i,hi⟩:=List.mem_iff_getElem?.1 ha
    rw[hat1 i b hi]at hx
    obtain⟨y,hy,rfl⟩:=mK hx
    refine .inr ⟨i,y,?_,hy,rfl,fun _=>ha⟩
    unfold eX
    rw[if_pos (List.getElem?_eq_some_iff.1 hi).1];exact hi
   ·rw[hat2 b hb ha]at hx
    exact .inl ⟨hb,ha,hx⟩
  ·rw[hat3 b (by omega)]at hx
   obtain⟨y,hy,rfl⟩:=mK hx
   refine .inr ⟨acc.length+(b-h.length),y,?_,hy,rfl,fun h=>absurd h hb⟩
   unfold eX
   rw[if_neg (by omega)]
   simp only[oSI];omega
 have far:∀ b c,r b=some c→(aJ h b).isSome=true→b∉acc→¬S c∧∃ x,H c=some x:=fun b c hb hl2 hna=>by
  obtain⟨x,hx⟩:=Option.isSome_iff_exists.1 hl2
  obtain⟨c',y,h1,h2,_⟩:=sh.blk b x hx
  rw[hb]at h1;simp only[oSI]at h1;subst h1
  refine⟨fun hSc=>?_,y,h2⟩
  obtain⟨b',h3,h4⟩:=(hS c).1 hSc
  obtain⟨x',hx'⟩:=Option.isSome_iff_exists.1 (hlive b' h3)
  rcases h4 with h4|⟨⟨st,p,h4⟩,h5⟩
  ·have:=sh.inj b b' c x x' hx hx' hb h4
   exact hna (this▸h3)
  ·exact(hG.2 b' b st p x c h4 hx (fun e=>hna (e▸h3)) h5).1 hb
 have farG:∀ b st p n,aJ h b=some (.gh st p)→b∉acc→G b n→¬S n∧∃ x,H n=some x:=fun b st p n hb hna hn'=>by
  obtain⟨c,_,k2⟩:=hG.1 b st p hb
  refine⟨fun hSn=>?_,k2.live hn'⟩
  obtain⟨b',h3,h4⟩:=(hS n).1 hSn
  obtain⟨x',hx'⟩:=Option.isSome_iff_exists.1 (hlive b' h3)
  have:=hG.2 b b' st p x' n hb hx' (fun e=>hna (e▸h3)) hn'
  rcases h4 with h4|⟨⟨st',p',h4⟩,h5⟩
  ·exact this.1 h4
  ·rw[h4]at hx';cases hx'
   exact this.2 st' p' rfl h5
 have bl:∀ i y,aJ hl i=some y→∃ c z,rl i=some c∧H'' c=some z∧H' c=some z∧RnB D Y rl c y z:=fun i y hy=>by
  obtain⟨c,z,h1,h2,h3⟩:=sh'.blk i y hy
  refine⟨c,z,h1,?_,h2,h3⟩
  by_cases hSc:S c∨H c=none
  ·rw[e1 c hSc];exact h2
  ·simp only[not_or]at hSc
   obtain⟨x,hx⟩:=Option.ne_none_iff_exists'.1 hSc.2
   rw[(e2 c hSc.1 x hx).2]at h2;simp at h2
 obtain⟨G',hG'⟩:=sh'.gh
 have backI:∀ i i' j,eX acc h.length i=some j→eX acc h.length i'=some j→i=i':=fun i i' j k1 k2=>by
  unfold eX at k1 k2
  split at k1
  ·split at k2
   ·exact mT hn k1 k2
   ·cases k2
    have:=hlt _ (List.mem_of_getElem? k1);omega
  ·split at k2
   ·cases k1
    have:=hlt _ (List.mem_of_getElem? k2);omega
   ·have:=k1.trans k2.symm
    simp only[oSI]at this
    omega
 have gA:∀ j n,j<h.length→j∉acc→((((j<h.length∧j∉acc)∧G j n)∨∃ i,eX acc h.length i=some j∧G' i n∧(j<h.length→j∈acc))↔G j n):=fun j n h1 h2 =>
  ⟨fun h=>h.elim (fun h=>h.2) fun⟨i,_,_,k3⟩=>absurd (k3 h1) h2,fun h=>.inl ⟨⟨h1,h2⟩,h⟩⟩
 have gB:∀ i j n,eX acc h.length i=some j→(j<h.length→j∈acc)→((((j<h.length∧j∉acc)∧G j n)∨∃ i,eX acc h.length i=some j∧G' i n∧(j<h.length→j∈acc))↔G' i n):=fun i j n h1 h2 =>
  ⟨fun h=>h.elim (fun h=>absurd (h2 h.1.1) h.1.2) fun⟨i',k1,k2,_⟩=>by rw[backI i i' j h1 k1];exact k2,fun h=>.inr ⟨i,h1,h,h2⟩⟩
 have gB2:∀ i st p n,aJ hl i=some (.gh st p)→G' i n→(∃ x,H' n=some x)∧∀ y,H' n=some y→H'' n=some y:=fun i st p n hi hn'=>by
  obtain⟨c,_,k2⟩:=hG'.1 i st p hi
  obtain⟨x,hx⟩:=k2.live hn'
  refine⟨⟨x,hx⟩,fun y hy=>?_⟩
  by_cases hSc:S n∨H n=none
  ·rw[e1 n hSc];exact hy
  ·simp only[not_or]at hSc
   obtain⟨x',hx'⟩:=Option.ne_none_iff_exists'.1 hSc.2
   rw[(e2 n hSc.1 x' hx').2]at hy;simp at hy
 have ghs:∃ G2,GhR (gJ acc h hl) r' G2 H'':=by
  refine⟨fun j n=>((j<h.length∧j∉acc)∧G j n)∨∃ i,eX acc h.length i=some j∧G' i n∧(j<h.length→j∈acc),fun j st p hj=>?_,fun j j' st p x n hj hj' hne hn'=>?_⟩
  ·rcases from1 j _ hj with ⟨h1,h2,h3⟩|⟨i,y,h1,h2,h3,h4⟩
   ·obtain⟨c,k1,k2⟩:=hG.1 j st p h3
    refine⟨c,by rw[r1 j h1];exact k1,(k2.congr fun n=>gA j n h1 h2).mono fun n y hn' hy=>?_⟩
    exact(e2 n (farG j st p n h3 h2 ((gA j n h1 h2).1 hn')).1 y hy).1
   ·have:=nJ h3.symm
    subst this
    obtain⟨c,k1,k2⟩:=hG'.1 i st p h2
    exact⟨c,hs i j c h1 k1,(k2.congr fun n=>gB i j n h1 h4).mono fun n y hn' hy=>(gB2 i st p n h2 ((gB i j n h1 h4).1 hn')).2 y hy⟩
  ·rcases from1 j _ hj with ⟨h1,h2,h3⟩|⟨i,y,h1,h2,h3,h4⟩
   ·have hn2:=(gA j n h1 h2).1 hn'
    obtain⟨f1,z,f2⟩:=farG j st p n h3 h2 hn2
    have f3:=(e2 n f1 z f2).2
    rcases from1 j' _ hj' with ⟨g1,g2,g3⟩|⟨i',y',g1,g2,g3,g4⟩
    ·have:=hG.2 j j' st p x n h3 g3 hne hn2
     refine⟨by rw[r1 j' g1];exact this.1,fun st' p' hx hh=>this.2 st' p' hx ((gA j' n g1 g2).1 hh)⟩
    ·refine⟨fun hr2=>?_,fun st' p' hx hh=>?_⟩
     ·obtain⟨c',z',k1,_,k3,_⟩:=bl i' y' g2
      have:=hs i' j' c' g1 k1
      rw[hr2]at this;cases this
      rw[f3]at k3;cases k3
     ·rw[hx]at g3
      have:=nJ g3.symm
      subst this
      obtain⟨⟨w,hw⟩,_⟩:=gB2 i' st' p' n g2 ((gB i' j' n g1 g4).1 hh)
      rw[f3]at hw;cases hw
   ·have:=nJ h3.symm
    subst this
    have hn2:=(gB i j n h1 h4).1 hn'
    obtain⟨⟨w,hw⟩,_⟩:=gB2 i st p n h2 hn2
    rcases from1 j' _ hj' with ⟨g1,g2,g3⟩|⟨i',y',g1,g2,g3,g4⟩
    ·refine⟨fun hr2=>?_,fun st' p' hx hh=>?_⟩
     ·rw[r1 j' g1]at hr2
      obtain⟨k1,z,k2⟩:=far j' n hr2 (by simp[g3]) g2
      rw[(e2 n k1 z k2).2]at hw;cases hw
     ·subst hx
      obtain⟨k1,z,k2⟩:=farG j' st' p' n g3 g2 ((gA j' n g1 g2).1 hh)
      rw[(e2 n k1 z k2).2]at hw;cases hw
    ·have hii:i≠i':=fun e=>by subst e;rw[h1]at g1;cases g1;exact hne rfl
     have:=hG'.2 i i' st p y' n h2 g2 hii hn2
     refine⟨fun hr2=>?_,fun st' p' hx hh=>?_⟩
     ·obtain⟨c',z',k1,_,_,_⟩:=bl i' y' g2
      have e:=hs i' j' c' g1 k1
      rw[hr2]at e;cases e
      exact this.1 k1
     ·rw[hx]at g3
      have e:=nJ g3.symm
      exact this.2 st' p' e ((gB i' j' n g1 g4).1 hh)
 refine⟨r',fun b c hb=>by rw[r1 b (sh.dom b c hb)];exact hb,⟨fun b c hb=>?_,fun b b' c x x' hx hx' hb hb'=>?_,fun b x hx=>?_,ghs⟩,fun v v' hv=>hv.renum hs,fun b c hb hl2 hna=>?_⟩
 ·rw[len]
  by_cases hlt':b<h.length
  ·omega
  ·rw[hr']at hb
   simp only[hlt',if_false]at hb
   have:=sh'.dom _ _ hb
   omega
 ·rcases from1 b x hx with ⟨h1,h2,h3⟩|⟨i,y,h1,h2,_,_⟩
  ·rcases from1 b' x' hx' with ⟨k1,k2,k3⟩|⟨j,y',k1,k2,_,k4⟩
   ·rw[r1 b h1]at hb;rw[r1 b' k1]at hb'
    exact sh.inj b b' c x x' h3 k3 hb hb'
   ·exfalso
    rw[r1 b h1]at hb
    obtain⟨g1,z,g2⟩:=far b c hb (by simp[h3]) h2
    obtain⟨c',z',g3,_,g5,_⟩:=bl j y' k2
    have:=hs j b' c' k1 g3
    rw[hb']at this;simp only[oSI]at this;subst this
    rw[(e2 c g1 z g2).2]at g5;simp at g5
  ·rcases from1 b' x' hx' with ⟨k1,k2,k3⟩|⟨j,y',k1,k2,_,_⟩
   ·exfalso
    rw[r1 b' k1]at hb'
    obtain⟨g1,z,g2⟩:=far b' c hb' (by simp[k3]) k2
    obtain⟨c',z',g3,_,g5,_⟩:=bl i y h2
    have:=hs i b c' h1 g3
    rw[hb]at this;simp only[oSI]at this;subst this
    rw[(e2 c g1 z g2).2]at g5;simp at g5
   ·obtain⟨c1,_,g1,_⟩:=bl i y h2
    obtain⟨c2,_,g2,_⟩:=bl j y' k2
    have e3:=hs i b c1 h1 g1
    have e4:=hs j b' c2 k1 g2
    rw[hb]at e3;rw[hb']at e4
    simp only[oSI]at e3 e4
    subst e3;subst e4
    have:=sh'.inj i j c y y' h2 k2 g1 g2
    subst this
    rw[h1]at k1;simpa using k1
 ·rcases from1 b x hx with ⟨h1,h2,h3⟩|⟨i,y,h1,h2,rfl,_⟩
  ·obtain⟨c,z,g1,g2,g3⟩:=sh.blk b x h3
   obtain⟨k1,z',k2⟩:=far b c g1 (by simp[h3]) h2
   refine⟨c,z,by rw[r1 b h1];exact g1,(e2 c k1 z g2).1,g3.mono (fun b c hb=>by rw[r1 b (sh.dom b c hb)];exact hb) (fun _=>rfl)⟩
  ·obtain⟨c,z,g1,g2,_,g4⟩:=bl i y h2
   exact⟨c,z,hs i b c h1 g1,g2,g4.renum hs⟩
 ·obtain⟨h1,x,h2⟩:=far b c hb hl2 hna
  rw[(e2 c h1 x h2).1,h2]

def aNr (D:Nat→Option XFn) (Y:Nat→Option YI) (r:Nat→Option Nat) (h:XH) (H:Hp) (acc:List Nat) (v:AV) (h':XH):AV→Hp→Prop:=fun v' H' =>
 bR D Y r v h' v' H'∧∀ b c,r b=some c→(aJ h b).isSome=true→b∉acc→H' c=H c

theorem aAc (sh:SH D Y r h H) {acc:List Nat} (hn:acc.Nodup) (hlive:∀ b∈acc,(aJ h b).isSome=true) {fv:AV} {as:List AV} {v:AV} {hl:XH}
 (hc:∀ G,GhR h r G H→∀ S:Nat→Prop,[DecidablePred S]→(∀ c,S c↔∃ b∈acc,uD h r G b c)→CallV B P fv as (fun c=>if S c then H c else none) (bR D Y (tX r acc) v hl)) :
 CallV B P fv as H (aNr D Y r h H acc (rnA (eX acc h.length) v) (gJ acc h hl)):=by
 classical
 obtain⟨G,hG⟩:=sh.gh
 refine CallV.mono (CallV.frameS (fun c=>∃ b∈acc,uD h r G b c) (hc G hG _ fun c=>Iff.rfl)) ?_
 rintro v' H'' ⟨H',⟨rl,h1,h2,h3⟩,e1,e2⟩
 obtain⟨r',k1,k2,k3,k4⟩:=vT sh hG hn hlive (fun c=>Iff.rfl) h1 h2 e1 e2
 exact⟨⟨r',k1,k2,k3 v v' h3⟩,k4⟩

theorem qG {run:bZ} {runY:cV} (hf:FnS P B D Y run) (hy:YS P B D Y runY) (sh:SH D Y r h H) {fv fv':AV} {as as':List AV} (h1:Rn D Y r fv fv') (h2:RnL D Y r as as') {v:AV} {h':XH}
 (hx:eQ run runY fv as h=some (v,h')):CallV B P fv' as' H (aNr D Y r h H (fW fv as h) v h'):=by
 unfold eQ at hx
 split at hx
 ·rename_i g first cap
  cases h1 with
  | fn _ _ ys _ vs hf0 hl1 k1 hl2 k2 =>
  have hA:=RnL.append (RnL.append ⟨hl1,k1⟩ h2) ⟨hl2,k2⟩
  cases hg:fP g with
  | true =>
    rw[hg]at hx
    simp only[wH]at hx
    have:=hf _ _ _ g _ (ys++as'++vs) v h' sh hA hx
    refine CallV.mono (fv:=.fn (.func g) ys vs) this fun v' H' hp=>⟨hp,fun b c _ hb hna=>absurd ?_ hna⟩
    simp only[fW,hg,qO,List.mem_filter,List.mem_range]
    obtain⟨x,hx⟩:=Option.isSome_iff_exists.1 hb
    exact⟨lY hx,hb⟩
  | false =>
    rw[hg]at hx
    simp only[wH,Option.map_eq_some_iff]at hx
    obtain⟨⟨v0,hl⟩,hrun,hm⟩:=hx
    simp only[rW,Prod.mk.injEq]at hm
    obtain⟨rfl,rfl⟩:=hm
    obtain⟨hn,hlive⟩:=mQ (first++as++cap) h
    simp only[fW,hg,qO]
    refine aAc sh hn hlive fun G hG S _ hS=>?_
    obtain⟨g1,g2,g3⟩:=lP sh hG hn hlive S hS
    have:=hf _ _ _ g _ (ys++as'++vs) v0 hl g1 (g3 _ _ hA) hrun
    exact this
 ·rename_i l
  simp only[Option.map_eq_some_iff]at hx
  obtain⟨⟨v0,hl⟩,hrun,hm⟩:=hx
  simp only[rW,Prod.mk.injEq]at hm
  obtain⟨rfl,rfl⟩:=hm
  obtain⟨hn,hlive⟩:=aDi (.fn (.yield l) [] []) as h
  refine aAc sh hn hlive fun G hG S _ hS=>?_
  obtain⟨g1,g2,g3⟩:=lP sh hG hn hlive S hS
  exact hy _ _ _ _ _ _ _ v0 hl g1 (g2 _ _ h1) (g3 _ _ h2) hrun
 ·simp at hx
end
section
variable {P:Program} {B:Base} {D:Nat→Option XFn} {Y:Nat→Option YI} {r:Nat→Option Nat} {e env:aD} {h:XH} {H:Hp}

theorem SH.ro (sh:SH D Y r h H):SH D Y r (h.map roX) (fQ H):=by
 have live:∀ b x,aJ (h.map roX) b=some x→∃ g y,aJ h b=some (.blk g y)∧x = .blk g y.ro:=fun b x hx=>by
  rw[uA _ rfl]at hx
  cases hb:aJ h b with
  | none=>rw[hb]at hx;simp[roX]at hx
  | some y =>
    rw[hb]at hx
    cases y with
    | blk g y=>simp only[roX,oSI]at hx;exact⟨g,y,rfl,hx.symm⟩
    | loop _ _ _ s=>simp[roX]at hx
    | gh _ _=>simp[roX]at hx
 refine⟨fun b c hb=>by simpa using sh.dom b c hb,fun b b' c x x' hx hx' h1 h2=>?_,fun b x hx=>?_,GhR.no fun b st p hx=>?_⟩
 ·obtain⟨g,y,k1,_⟩:=live b x hx
  obtain⟨g',y',k2,_⟩:=live b' x' hx'
  exact sh.inj b b' c _ _ k1 k2 h1 h2
 ·obtain⟨g,y,k1,rfl⟩:=live b x hx
  obtain⟨c,z,k2,k3,k4⟩:=sh.blk b _ k1
  refine⟨c,z.ro,k2,by simp[fQ,k3],?_⟩
  cases k4 with
  | cells g w xs ys h hg=>exact .cells c _ false _ _ h hg
  | map g w xs ys h hg=>exact .map c _ false _ _ h hg
  | obj g w o=>exact .obj c _ false o
 ·obtain⟨g,y,_,k⟩:=live b _ hx
  cases k

theorem CallV.quietOf {fv:AV} {as:List AV} {v:AV} (h:CallV B P fv as (fQ H) fun v' H'=>v'=v∧∀ c,(fQ H c).isSome=true→(H' c).isSome=true) :
 CallV B P fv as (fQ H) fun v' H'=>v'=v∧H'=fQ H:=by
 refine h.conv fun F w st=>⟨st,?_⟩
 rintro e w' ⟨q,v',F',H',rfl,h2,h3,h4,rfl,h5⟩
 have hE:Ext F w (fQ H) F' w' (fQ H):=⟨h2.sub,h2.fnew,fun b hb=>.inl hb,fun b hb=>.inl hb,h2.le,h2.same,h2.cells,h2.io⟩
 refine⟨q,v',F',fQ H,rfl,hE,⟨h3.lt,fun b x hb=>?_,fun b x hb=>?_⟩,h4,rfl,rfl⟩
 ·obtain⟨y,hy⟩:=Option.isSome_iff_exists.1 (h5 b (by simp[hb]))
  exact h3.dis b y hy
 ·obtain⟨o,k1,k2⟩:=st.blk b x hb
  exact⟨o,by rw[h2.same b (st.own_lt hb) (aEj H b)];exact k1,k2.up (h2.up st)⟩

theorem aBl:∀ (xs ys:XH),aBm xs ys=true→∀ i x,aJ xs i=some x→(∃ y,aJ ys i=some y)∧∀ st p,x ≠ .gh st p
 | [],ys,_,i,x,hx=>by simp[aJ]at hx
 | x0::xs,[],hk,i,x,hx=>by simp[aBm]at hk
 | x0::xs,y0::ys,hk,i,x,hx=>by
   simp only[aBm,Bool.and_eq_true,Bool.or_eq_true]at hk
   cases i with
   | zero =>
     simp only[aJ,List.getD_cons_zero]at hx ⊢
     subst hx
     rcases hk.1 with h1|h1
     ·simp at h1
     ·refine⟨Option.isSome_iff_exists.1 h1.1,fun st p e=>?_⟩
      rw[e]at h1
      simp[ghO]at h1
   | succ i =>
     have:=aBl xs ys hk.2 i x (by simpa [aJ]using hx)
     simpa [aJ]using this

theorem aDT {run:bZ} (hf:FnS P B D Y run) (sh:SH D Y r h H) {fv fv':AV} {as as':List AV} (h1:Rn D Y r fv fv') (h2:RnL D Y r as as') {v:AV}
 (hx:lE run fv as h=some v):Gd v∧CallV B P fv' as' (fQ H) fun v' H'=>v'=v∧H'=fQ H:=by
 classical
 unfold lE at hx
 split at hx
 ·rename_i g first cap
  obtain⟨hn,hlive⟩:=mQ (first++as++cap) h
  simp only at hx
  split at hx
  ·rename_i v0 hl hrun
   split at hx
   ·rename_i hcond
    simp only[Bool.and_eq_true]at hcond
    simp only[oSI]at hx
    subst hx
    cases h1 with
    | fn _ _ ys _ vs hf0 hl1 k1 hl2 k2 =>
      obtain⟨acc,hacc⟩:∃ acc,acc=dT (first++as++cap) h:=⟨_,rfl⟩
      rw[←hacc]at hn hlive hrun hcond
      obtain⟨G,hG⟩:=sh.gh
      obtain⟨g1,g2,g3⟩:=lP sh hG hn hlive (fun c=>∃ b∈acc,uD h r G b c) (fun c=>Iff.rfl)
      have hfn:=hf _ _ _ g _ (ys++as'++vs) v0 hl g1.ro (g3 _ _ (RnL.append (RnL.append ⟨hl1,k1⟩ h2) ⟨hl2,k2⟩)) hrun
      have hgd:Gd v0:=aEU _ hcond.1
      refine⟨hgd,?_⟩
      refine CallV.quietOf ?_
      have hro:(fQ fun c=>if ∃ b∈acc,uD h r G b c then H c else none)=fun c=>if ∃ b∈acc,uD h r G b c then fQ H c else none:=by
       funext c
       by_cases hc:∃ b∈acc,uD h r G b c
       ·simp only[fQ,hc,if_true]
       ·simp only[fQ,hc,if_false];rfl
      rw[hro]at hfn
      refine CallV.mono (CallV.frameS (fv:=.fn (.func g) ys vs) (fun c=>∃ b∈acc,uD h r G b c) hfn) ?_
      rintro v' H'' ⟨H',⟨rl,m1,m2,m3⟩,e1,e2⟩
      refine⟨(m3.same hgd.gr).1,fun c hc=>?_⟩
      obtain⟨x,hx⟩:=Option.isSome_iff_exists.1 hc
      by_cases hS:∃ b∈acc,uD h r G b c
      ·rw[e1 c (.inl hS)]
       obtain⟨b,hb,hrb⟩:=hS
       obtain⟨i,hi⟩:=List.mem_iff_getElem?.1 hb
       obtain⟨y,hy⟩:=Option.isSome_iff_exists.1 (hlive b hb)
       have hloc:∃ z,aJ (fS acc h) i=some z:=by
        unfold fS
        rw[mZ _ _ _ rfl,hi]
        simp only[hy]
        exact⟨_,rfl⟩
       obtain⟨z,hz⟩:=hloc
       obtain⟨⟨z',hz'⟩,hng⟩:=aBl _ _ hcond.2 i z hz
       have hrb:r b=some c:=by
        rcases hrb with h|⟨⟨st,p,h⟩,_⟩
        ·exact h
        ·unfold fS at hz
         rw[mZ _ _ _ rfl,hi]at hz
         simp only[h,rnO,rnB,oSI]at hz
         exact absurd hz.symm (hng st p)
       obtain⟨c',y',n1,n2,_⟩:=m2.blk i z' hz'
       have:=m1 i c (by simp only[tX,hi,Option.bind_some,hrb])
       rw[n1]at this
       simp only[oSI]at this
       subst this
       simp[n2]
      ·simp[(e2 c hS x hx).1]
   ·simp at hx
  ·simp at hx
 ·simp at hx

theorem SH.turn (sh:SH D Y r h H) {b c:Nat} {x0 x:XB} {y:ABlk} (hb:aJ h b=some x0) (hr:r b=some c) (hx:RnB D Y r c x y) (hng:ghX x=false:=by rfl):SH D Y r (h.set b (some x)) (hset H c y):=by
 have live:∀ b' z,aJ (h.set b (some x)) b'=some z→(b'=b∧z=x)∨(b'≠b∧aJ h b'=some z):=fun b' z hz=>by
  rw[dH]at hz
  split at hz
  ·rename_i hc;simp only[oSI]at hz;exact .inl ⟨hc.1,hz.symm⟩
  ·rename_i hc;exact .inr ⟨fun e=>hc ⟨e,lY hb⟩,hz⟩
 have liv:∀ b' z,aJ (h.set b (some x)) b'=some z→∃ z',aJ h b'=some z':=fun b' z hz=>by
  rcases live b' z hz with ⟨rfl,_⟩|⟨_,h2⟩
  ·exact⟨_,hb⟩
  ·exact⟨_,h2⟩
 have lg:∀ b' st p,aJ (h.set b (some x)) b'=some (.gh st p)→b'≠b∧aJ h b'=some (.gh st p):=fun b' st p hz=>by
  rcases live b' _ hz with ⟨_,e⟩|h1
  ·rw[←e]at hng;cases hng
  ·exact h1
 obtain⟨G,hG⟩:=sh.gh
 refine⟨fun b c hb=>by simpa using sh.dom b c hb,fun b1 b2 c' x1 x2 h1 h2 k1 k2=>?_,fun b' z hz=>?_,_,hG.via id (fun b' st p hb'=>⟨(lg b' st p hb').2,rfl⟩) (fun b' z hz=>?_) (fun _ _ _ _ _ _ _ hne=>hne) fun b' st p n y' hb' hnn hy=>?_⟩
 ·obtain⟨z1,h1⟩:=liv _ _ h1
  obtain⟨z2,h2⟩:=liv _ _ h2
  exact sh.inj b1 b2 c' z1 z2 h1 h2 k1 k2
 ·rcases live b' z hz with ⟨rfl,rfl⟩|⟨h1,h2⟩
  ·exact⟨c,y,hr,hset_same _ _ _,hx⟩
  ·obtain⟨c',y',k1,k2,k3⟩:=sh.blk b' z h2
   refine⟨c',y',k1,?_,k3⟩
   rw[aE _ _ (fun e=>?_)]
   ·exact k2
   ·subst e;exact h1 (sh.inj b' b c' _ _ h2 hb k1 hr)
 ·rcases live b' z hz with ⟨rfl,rfl⟩|⟨h1,h2⟩
  ·exact .inl ⟨x0,hb,rfl,fun st p e=>by rw[e]at hng;cases hng⟩
  ·exact .inl ⟨z,h2,rfl,fun st p e=>e⟩
 ·obtain⟨k1,k2⟩:=lg b' st p hb'
  rw[aE _ _ (fun e=>?_)]
  ·exact hy
  ·subst e;exact(hG.2 b' b st p x0 n k2 hb k1 hnn).1 hr

theorem GhR.drop {G:Nat→Nat→Prop} (hG:GhR h r G H) {g gc:Nat} {x0:XB} (hg:aJ h g=some x0) (hr:r g=some gc):GhR (h.set g none) r (fun b=>G (id b)) (jZ H gc):=by
 have live:∀ b z,aJ (h.set g none) b=some z→b≠g∧aJ h b=some z:=fun b z hz=>by
  rw[dH]at hz
  split at hz
  ·cases hz
  ·rename_i hc;exact⟨fun e=>hc ⟨e,lY hg⟩,hz⟩
 refine hG.via id (fun b st p hb=>⟨(live b _ hb).2,rfl⟩) (fun b z hb=>.inl ⟨z,(live b z hb).2,rfl,fun st p e=>e⟩) (fun _ _ _ _ _ _ _ hne=>hne) fun b st p n y hb hn hy=>?_
 obtain⟨k1,k2⟩:=live b _ hb
 have hne:n≠gc:=fun e=>by subst e;exact(hG.2 b g st p x0 n k2 hg k1 hn).1 hr
 simp only[jZ,hne,if_false];exact hy
theorem aAH (sh:SH D Y r h H) {n:Nat} {p p' x x':AV} (hp:Rn D Y r p p') (hx:Rn D Y r x x') {h':XH} (hs:lU n h p x=some h'):∃ H',lW n H p' x'=some H'∧SH D Y r h' H'∧∃ b x0,dZ p=some b∧aJ h b=some x0:=by
 unfold lU at hs
 split at hs
 ·rename_i b o
  split at hs
  ·rename_i g cs vs hb hv
   split at hs
   ·rename_i hc
    simp only[oSI]at hs
    subst hs
    obtain⟨c,rfl,hr⟩:=iB hp
    obtain⟨vs',k1,k2⟩:=sI hx hv
    obtain⟨g',cs',k3,k4,k5,k6⟩:=sh.cells hr (w:=true) (cs:=cs) (by unfold aF;rw[hb])
    rw[hb]at k3
    simp only[oSI,XB.blk.injEq,ABlk.cells.injEq,true_and,and_true]at k3
    subst k3
    refine⟨_,by simp only[lW,k4,k1];rw[if_pos (by rw[←k2.1,←k5.1];exact hc)],sh.turn hb hr (.cells c _ true _ _ (uL k5 k2) fun hg=>?_),b,_,rfl,hb⟩
    simp only[Bool.and_eq_true]at hg
    exact sD (k6 hg.1) hg.2
   ·simp at hs
  ·simp at hs
 ·simp at hs

theorem aLD {q:Bool} {k k' v v':AV} (hk:Rn D Y r k k') (hv:Rn D Y r v v'):∀ (es es' es2:List (AV×AV)),RnP D Y r es es'→kS q k v es=some es2→∃ es2',kS q k' v' es'=some es2'∧RnP D Y r es2 es2':=by
 have cons:∀ {p p':AV×AV} {es es':List (AV×AV)},Rn D Y r p.1 p'.1→Rn D Y r p.2 p'.2→RnP D Y r es es'→RnP D Y r (p::es) (p'::es'):=fun h1 h2 h3=>⟨by simp[h3.1],fun i x y hx hy=>by
  cases i with
  | zero=>simp at hx hy;subst hx hy;exact⟨h1,h2⟩
  | succ i=>exact h3.2 i x y (by simpa using hx) (by simpa using hy)⟩
 intro es
 induction es with
 | nil =>
   intro es' es2 hp hf
   have:es'=[]:=List.eq_nil_of_length_eq_zero (by have:=hp.1;simpa using this.symm)
   subst this
   simp only[kS,oSI]at hf;subst hf
   exact⟨_,rfl,cons (p:=(k,v)) (p':=(k',v')) hk hv ⟨rfl,by simp⟩⟩
 | cons p es ih =>
   intro es' es2 hp hf
   cases es' with
   | nil=>have:=hp.1;simp at this
   | cons p' es' =>
     obtain⟨h1,h2⟩:=hp.2 0 p p' rfl rfl
     have hrest:RnP D Y r es es':=⟨by have:=hp.1;simpa using this,fun i x y hx hy=>hp.2 (i+1) x y (by simpa using hx) (by simpa using hy)⟩
     obtain⟨a,u⟩:=p
     obtain⟨a',u'⟩:=p'
     simp only[kS]at hf ⊢
     split at hf
     ·rename_i hb
      rw[qS hk h1 hb]
      simp only[oSI]at hf;subst hf
      exact⟨_,rfl,cons (p:=(a,v)) (p':=(a',v')) h1 hv hrest⟩
     ·rename_i hb
      rw[qS hk h1 hb]
      simp only[Option.map_eq_some_iff]at hf
      obtain⟨es3,h3,rfl⟩:=hf
      obtain⟨es3',h4,h5⟩:=ih es' es3 hrest h3
      exact⟨(a',u')::es3',by simp only[h4,Option.map_some],cons (p:=(a,u)) (p':=(a',u')) h1 h2 h5⟩
     ·simp at hf
theorem aJc {q:Bool} {k v:AV}:∀ (es es2:List (AV×AV)),kS q k v es=some es2→∀ p∈es2,(p.1=k∨∃ p0∈es,p.1=p0.1)∧(p.2=v∨∃ p0∈es,p.2=p0.2):=by
 intro es
 induction es with
 | nil=>intro es2 hf p hp;simp only[kS,oSI]at hf;subst hf;simp at hp;subst hp;exact⟨.inl rfl,.inl rfl⟩
 | cons p0 es ih =>
   intro es2 hf p hp
   obtain⟨a,u⟩:=p0
   simp only[kS]at hf
   split at hf
   ·simp only[oSI]at hf;subst hf
    rcases List.mem_cons.1 hp with rfl|hp
    ·exact⟨.inr ⟨(a,u),by simp,rfl⟩,.inl rfl⟩
    ·exact⟨.inr ⟨p,by simp[hp],rfl⟩,.inr ⟨p,by simp[hp],rfl⟩⟩
   ·simp only[Option.map_eq_some_iff]at hf
    obtain⟨es3,h3,rfl⟩:=hf
    rcases List.mem_cons.1 hp with rfl|hp
    ·exact⟨.inr ⟨(a,u),by simp,rfl⟩,.inr ⟨(a,u),by simp,rfl⟩⟩
    ·obtain⟨h4,h5⟩:=ih es3 h3 p hp
     exact⟨h4.imp id fun⟨q,h6,h7⟩=>⟨q,by simp[h6],h7⟩,h5.imp id fun⟨q,h6,h7⟩=>⟨q,by simp[h6],h7⟩⟩
   ·simp at hf

theorem aGE (sh:SH D Y r h H) {q:Bool} {m m' k k' x x':AV} (hm:Rn D Y r m m') (hk:Rn D Y r k k') (hx:Rn D Y r x x') {h':XH} (hs:oX q h m k x=some h'):∃ H',rX q H m' k' x'=some H'∧SH D Y r h' H':=by
 unfold oX at hs
 split at hs
 ·rename_i b
  split at hs
  ·rename_i g es hb
   simp only[Option.map_eq_some_iff]at hs
   obtain⟨es2,h2,rfl⟩:=hs
   obtain⟨c,rfl,hr⟩:=aCV hm
   obtain⟨g',es',k3,k4,k5,k6⟩:=sh.map hr (w:=true) (es:=es) (by unfold aF;rw[hb])
   rw[hb]at k3
   simp only[oSI,XB.blk.injEq,ABlk.map.injEq,true_and,and_true]at k3
   subst k3
   obtain⟨es2',k7,k8⟩:=aLD hk hx es es' es2 k5 h2
   refine⟨_,by simp only[rX,k4,k7,Option.map_some],sh.turn hb hr (.map c _ true _ _ k8 fun hg p hp=>?_)⟩
   simp only[Bool.and_eq_true]at hg
   obtain⟨h3,h4⟩:=aJc es es2 h2 p hp
   refine⟨?_,?_⟩
   ·rcases h3 with e|⟨p0,h5,e⟩
    ·rw[e];exact hg.2.1
    ·rw[e];exact(k6 hg.1 p0 h5).1
   ·rcases h4 with e|⟨p0,h5,e⟩
    ·rw[e];exact hg.2.2
    ·rw[e];exact(k6 hg.1 p0 h5).2
  ·simp at hs
 ·simp at hs

theorem xA {es es' r1:List (AV×AV)} {cap:Nat} {cl:Bool} (h:RnP D Y r es es') (hc:lT es=some (cap,cl,r1)):∃ r1',lT es'=some (cap,cl,r1')∧RnP D Y r r1 r1':=by
 have he:es=hO cap cl::r1:=by
  unfold lT at hc
  split at hc<;>simp only[oSI,Prod.mk.injEq,reduceCtorEq]at hc<;>obtain⟨rfl,rfl,rfl⟩:=hc<;>rfl
 subst he
 cases es' with
 | nil=>have:=h.1;simp at this
 | cons p es' =>
   obtain⟨u,v⟩:=p
   obtain⟨h1,h2⟩:=h.2 0 _ _ rfl rfl
   simp only[hO]at h1 h2
   have e1:=(h1.same rfl).1
   have e2:=(h2.same rfl).1
   subst e1 e2
   refine⟨es',by cases cl<;>rfl,⟨by have:=h.1;simpa using this,fun i x y hx hy=>h.2 (i+1) x y (by simpa using hx) (by simpa using hy)⟩⟩
theorem rC {es es':List (AV×AV)} {cap:Nat} {cl:Bool} (h:RnP D Y r es es'):RnP D Y r (hO cap cl::es) (hO cap cl::es'):=by
 refine⟨by simp[h.1],fun i x y hx hy=>?_⟩
 cases i with
 | zero =>
   simp at hx hy;subst hx hy
   refine⟨Gd.rn (.agg _ fun c hc=>?_),Gd.rn (.fp _ _ _ (by simp))⟩
   simp at hc;subst hc;exact .agg [] (by simp)
 | succ i=>exact h.2 i x y (by simpa using hx) (by simpa using hy)
theorem xB {es r1:List (AV×AV)} {cap:Nat} {cl cl':Bool} (hc:lT es=some (cap,cl,r1)) (hg:∀ p∈es,fX p.1=true∧fX p.2=true) {r2:List (AV×AV)} (h2:∀ p∈r2,p∈r1∨(fX p.1=true∧fX p.2=true)):∀ p∈hO cap cl'::r2,fX p.1=true∧fX p.2=true:=by
 have he:es=hO cap cl::r1:=by
  unfold lT at hc
  split at hc<;>simp only[oSI,Prod.mk.injEq,reduceCtorEq]at hc<;>obtain⟨rfl,rfl,rfl⟩:=hc<;>rfl
 intro p hp
 rcases List.mem_cons.1 hp with rfl|hp
 ·exact⟨rfl,rfl⟩
 ·rcases h2 p hp with h3|h3
  ·exact hg p (by rw[he];simp[h3])
  ·exact h3

theorem aKR (sh:SH D Y r h H) {x x' v:AV} (hx:Rn D Y r x x') {h':XH} (hs:aKS h x=some (v,h')):∃ H',aDl H x'=some (v,H')∧Rn D Y r v v∧SH D Y r h' H':=by
 have g3:∀ n m:Int,Rn D Y r (.tup [.bool true,.int .i64 n,.int .i32 m]) (.tup [.bool true,.int .i64 n,.int .i32 m]):=fun n m=>.tup _ _ rfl fun i a b ha hb=>by
  match i with
  | 0=>simp at ha hb;subst ha hb;exact .bool _
  | 1=>simp at ha hb;subst ha hb;exact .int _ _
  | 2=>simp at ha hb;subst ha hb;exact .int _ _
  | i+3=>simp at ha
 have g1:Rn D Y r (.tup [.bool false]) (.tup [.bool false]):=.tup _ _ rfl fun i a b ha hb=>by
  match i with
  | 0=>simp at ha hb;subst ha hb;exact .bool _
  | i+1=>simp at ha
 unfold aKS at hs
 split at hs
 ·rename_i b
  split at hs
  ·rename_i g s pos hb
   obtain⟨c,rfl,hr⟩:=iB hx
   obtain⟨g',k3,k4⟩:=sh.obj hr (w:=true) (o:=.stringIter s pos) (by unfold aF;rw[hb])
   split at hs<;>simp only[oSI,Prod.mk.injEq]at hs<;>obtain⟨rfl,rfl⟩:=hs
   ·rename_i hlt
    exact⟨_,by simp only[aDl,k4];rw[if_pos hlt],g3 _ _,sh.turn hb hr (.obj c _ true _)⟩
   ·rename_i hlt
    exact⟨H,by simp only[aDl,k4];rw[if_neg hlt],g1,sh⟩
  ·simp at hs
 ·simp at hs
theorem aHM (sh:SH D Y r h H) {c c' x x':AV} (hc:Rn D Y r c c') (hx:Rn D Y r x x') {h':XH} (hs:aFv h c x=some h'):∃ H',aAN H c' x'=some H'∧SH D Y r h' H':=by
 unfold aFv at hs
 split at hs
 ·rename_i b
  split at hs
  ·rename_i g es hb
   split at hs
   ·rename_i cap r1 hch
    split at hs<;>simp only[oSI,reduceCtorEq]at hs
    rename_i hlt
    subst hs
    obtain⟨d,rfl,hr⟩:=aAX hc
    obtain⟨g',es',k3,k4,k5,k6⟩:=sh.map hr (w:=true) (es:=es) (by unfold aF;rw[hb])
    rw[hb]at k3
    simp only[oSI,XB.blk.injEq,ABlk.map.injEq,true_and,and_true]at k3
    subst k3
    obtain⟨r1',k7,k8⟩:=xA k5 hch
    refine⟨_,by simp only[aAN,k4,k7];rw[if_pos (by rw[←k8.1];exact hlt)],sh.turn hb hr (.map d _ true _ _ (rC ⟨by simp[k8.1],fun i x y hx' hy'=>?_⟩) fun hg=>?_)⟩
    ·rw[List.getElem?_append]at hx' hy'
     rw[←k8.1]at hy'
     split at hx'
     ·rw[if_pos ‹_›]at hy';exact k8.2 i x y hx' hy'
     ·rw[if_neg ‹_›]at hy'
      have hi:i-r1.length=0:=by
       have:=(List.getElem?_eq_some_iff.1 hx').1
       simpa using this
      rw[hi]at hx' hy'
      simp at hx' hy'
      subst hx' hy'
      exact⟨.nilifc,hx⟩
    ·simp only[Bool.and_eq_true]at hg
     refine xB hch (k6 hg.1) fun p hp=>?_
     rcases List.mem_append.1 hp with hp|hp
     ·exact .inl hp
     ·simp at hp;subst hp;exact .inr ⟨rfl,hg.2⟩
   ·simp at hs
  ·simp at hs
 ·simp at hs

theorem aGj {ok b:Bool} {v v':AV} (h:Rn D Y r v v'):Rn D Y r (aES ok v b) (aES ok v' b):=by
 cases ok with
 | false=>exact h
 | true =>
   have:=RnL.cons h (RnL.cons (.bool b) (RnL.nil (D:=D) (Y:=Y) (r:=r)))
   exact .tup _ _ this.1 this.2

theorem aHN (sh:SH D Y r h H) {ok:Bool} {z c c':AV} (hz:Rn D Y r z z) (hc:Rn D Y r c c') {v:AV} {h':XH} (hs:aFw ok z h c=some (v,h')):∃ v' H',yK ok z H c'=some (v',H')∧Rn D Y r v v'∧SH D Y r h' H':=by
 unfold aFw at hs
 split at hs
 ·rename_i b
  split at hs
  ·rename_i g es hb
   obtain⟨d,rfl,hr⟩:=aAX hc
   obtain⟨g',es',k3,k4,k5,k6⟩:=sh.map hr (w:=true) (es:=es) (by unfold aF;rw[hb])
   rw[hb]at k3
   simp only[oSI,XB.blk.injEq,ABlk.map.injEq,true_and,and_true]at k3
   subst k3
   split at hs
   ·rename_i cap cl u v0 r1 hch
    simp only[oSI,Prod.mk.injEq]at hs
    obtain⟨rfl,rfl⟩:=hs
    obtain⟨r1',k7,k8⟩:=xA k5 hch
    cases r1' with
    | nil=>have:=k8.1;simp at this
    | cons p r1' =>
      obtain⟨u',v'⟩:=p
      refine⟨_,_,by simp only[yK,k4,k7];rfl,aGj (k8.2 0 _ _ rfl rfl).2,sh.turn hb hr (.map d _ true _ _ (rC ⟨by have:=k8.1;simpa using this,fun i x y hx hy=>k8.2 (i+1) x y (by simpa using hx) (by simpa using hy)⟩) fun hg=>?_)⟩
      exact xB hch (k6 hg) fun p hp=>.inl (by simp[hp])
   ·rename_i cap hch
    simp only[oSI,Prod.mk.injEq]at hs
    obtain⟨rfl,rfl⟩:=hs
    obtain⟨r1',k7,k8⟩:=xA k5 hch
    have hnil:r1'=[]:=List.eq_nil_of_length_eq_zero (by have:=k8.1;simpa using this.symm)
    subst hnil
    refine⟨_,_,by simp only[yK,k4,k7],aGj hz,sh.turn hb hr (.map d _ true _ _ (rC ⟨rfl,by simp⟩) fun hg=>?_)⟩
    exact xB hch (k6 hg) fun p hp=>by simp at hp
   ·simp at hs
  ·simp at hs
 ·simp at hs

theorem aGF (sh:SH D Y r h H) {b c:Nat} (hr:r b=some c) {h':XH} (hs:aEh h b=some h'):∃ H',vB H (.ch c)=some H'∧SH D Y r h' H':=by
 unfold aEh at hs
 split at hs
 ·rename_i g es hb
  split at hs<;>simp only[oSI,reduceCtorEq]at hs
  rename_i cap r1 hch
  subst hs
  obtain⟨g',es',k3,k4,k5,k6⟩:=sh.map hr (w:=true) (es:=es) (by unfold aF;rw[hb])
  rw[hb]at k3
  simp only[oSI,XB.blk.injEq,ABlk.map.injEq,true_and,and_true]at k3
  subst k3
  obtain⟨r1',k7,k8⟩:=xA k5 hch
  exact⟨_,by simp only[vB,k4,k7],sh.turn hb hr (.map c _ true _ _ (rC k8) fun hg=>xB hch (k6 hg) fun p hp=>.inl hp)⟩
 ·simp at hs

theorem aHO (sh:SH D Y r h H) {s:Nat} {x x' y y':AV} (hx:Rn D Y r x x') (hy:Rn D Y r y y') {n:Nat} {h':XH} (hs:xF s h x y=some (n,h')):∃ H',zW s H x' y'=some (n,H')∧SH D Y r h' H':=by
 unfold xF at hs
 split at hs
 ·rename_i b o s' len m new hsrc
  obtain⟨new',k1,k2,k3⟩:=aBM sh hy hsrc
  split at hs
  ·rename_i g cs hb
   split at hs
   ·rename_i hc
    simp only[oSI,Prod.mk.injEq]at hs
    obtain⟨rfl,rfl⟩:=hs
    obtain⟨c,rfl,hr⟩:=tJ hx
    obtain⟨g',cs',j3,j4,j5,j6⟩:=sh.cells hr (w:=true) (cs:=cs) (by unfold aF;rw[hb])
    rw[hb]at j3
    simp only[oSI,XB.blk.injEq,ABlk.cells.injEq,true_and,and_true]at j3
    subst j3
    refine⟨_,by simp only[zW,k1,j4];rw[if_pos (by rw[←j5.1];exact hc)],sh.turn hb hr (.cells c _ true _ _ (uL j5 (k2.take _)) fun hg=>?_)⟩
    simp only[Bool.and_eq_true]at hg
    exact sD (j6 hg.1) (dW fun x hx=>eL (k3 hg.2) x (List.mem_of_mem_take hx))
   ·simp at hs
  ·simp at hs
 ·simp at hs

theorem SH.fresh (sh:SH D Y r h H) {own:Option Nat} (g:Bool) {x:ABlk} {y:ABlk} {b':Nat} (hb:H b'=none∨own.bind r=some b')
 (ho:∀ b,own=some b→∃ c x0,r b=some c∧aJ h b=some x0) (hxy:∀ c,RnB D Y r c (.blk g x) y) :
 Sub r (fun b=>if b=h.length then some b' else r b)∧SH D Y (fun b=>if b=h.length then some b' else r b) (oL h own g x) (hset H b' y):=by
 have hsub:Sub r (fun b=>if b=h.length then some b' else r b):=fun b c hb=>by
  have:=sh.dom b c hb
  simp only[show b≠h.length by omega,if_false];exact hb
 have len:(oL h own g x).length=h.length+1:=by unfold oL;cases own<;>simp
 have live:∀ b z,aJ (oL h own g x) b=some z→(b=h.length∧z = .blk g x)∨(b<h.length∧own≠some b∧aJ h b=some z):=fun b z hz=>by
  unfold oL at hz
  cases own with
  | none =>
    simp only at hz
    rw[dV]at hz
    split at hz
    ·rename_i hlt;exact .inr ⟨hlt,by simp,hz⟩
    ·by_cases he:b=h.length
     ·subst he;simp[aJ]at hz;exact .inl ⟨rfl,hz.symm⟩
     ·have:b-h.length=(b-h.length-1)+1:=by omega
      rw[this]at hz;simp[aJ]at hz
  | some b0 =>
    simp only at hz
    rw[dV]at hz
    simp only[List.length_set]at hz
    split at hz
    ·rename_i hlt
     rw[dH]at hz
     split at hz
     ·simp at hz
     ·rename_i hc
      refine .inr ⟨hlt,fun e=>?_,hz⟩
      simp only[oSI]at e;subst e
      exact hc ⟨rfl,hlt⟩
    ·by_cases he:b=h.length
     ·subst he;simp[aJ]at hz;exact .inl ⟨rfl,hz.symm⟩
     ·have:b-h.length=(b-h.length-1)+1:=by omega
      rw[this]at hz;simp[aJ]at hz
 have other:∀ b c z,aJ h b=some z→own≠some b→r b=some c→c≠b':=fun b c z hz hne hr e=>by
  subst e
  obtain⟨c',y',h1,h2,_⟩:=sh.blk b z hz
  rw[hr]at h1;simp only[oSI]at h1;subst h1
  rcases hb with hb|hb
  ·rw[hb]at h2;simp at h2
  ·cases own with
   | none=>simp at hb
   | some b0 =>
     simp only[Option.bind_some]at hb
     obtain⟨_,x0,_,h4⟩:=ho b0 rfl
     exact hne (by rw[sh.inj b b0 c z x0 hz h4 hr hb])
 obtain⟨G,hG⟩:=sh.gh
 have lg:∀ b st p,aJ (oL h own g x) b=some (.gh st p)→b<h.length∧own≠some b∧aJ h b=some (.gh st p):=fun b st p hz=>by
  rcases live b _ hz with ⟨_,e⟩|h1
  ·cases e
  ·exact h1
 have gne:∀ b st p n,aJ (oL h own g x) b=some (.gh st p)→G b n→n≠b':=fun b st p n hz hnn e=>by
  obtain⟨k1,k2,k3⟩:=lg b st p hz
  subst e
  obtain⟨c,_,k4⟩:=hG.1 b st p k3
  obtain⟨y1,k5⟩:=k4.live hnn
  rcases hb with hb|hb
  ·rw[hb]at k5;cases k5
  ·cases own with
   | none=>simp at hb
   | some b0 =>
     simp only[Option.bind_some]at hb
     obtain⟨_,x0,_,h4⟩:=ho b0 rfl
     exact(hG.2 b b0 st p x0 n k3 h4 (fun e=>k2 (by rw[e])) hnn).1 hb
 refine⟨hsub,fun b c hb=>?_,fun b1 b2 c x1 x2 h1 h2 k1 k2=>?_,fun b z hz=>?_,_,hG.via id (fun b st p hz=>?_) (fun b z hz=>?_) (fun _ _ _ _ _ _ _ hne=>hne) fun b st p n y' hz hnn hy=>?_⟩
 ·rw[len]
  split at hb
  ·omega
  ·have:=sh.dom b c hb;omega
 ·rcases live b1 x1 h1 with ⟨rfl,_⟩|⟨l1,n1,m1⟩
  ·rcases live b2 x2 h2 with ⟨rfl,_⟩|⟨l2,n2,m2⟩
   ·rfl
   ·exfalso
    simp only[if_true,oSI]at k1
    simp only[show b2≠h.length by omega,if_false]at k2
    exact other b2 c x2 m2 n2 k2 k1.symm
  ·rcases live b2 x2 h2 with ⟨rfl,_⟩|⟨l2,n2,m2⟩
   ·exfalso
    simp only[if_true,oSI]at k2
    simp only[show b1≠h.length by omega,if_false]at k1
    exact other b1 c x1 m1 n1 k1 k2.symm
   ·simp only[show b1≠h.length by omega,if_false]at k1
    simp only[show b2≠h.length by omega,if_false]at k2
    exact sh.inj b1 b2 c x1 x2 m1 m2 k1 k2
 ·rcases live b z hz with ⟨rfl,rfl⟩|⟨l1,n1,m1⟩
  ·exact⟨b',y,by simp,hset_same _ _ _,(hxy b').mono hsub (fun _=>rfl)⟩
  ·obtain⟨c,y',g1,g2,g3⟩:=sh.blk b z m1
   refine⟨c,y',hsub b c g1,?_,g3.mono hsub (fun _=>rfl)⟩
   rw[aE _ _ (other b c z m1 n1 g1)];exact g2
 ·obtain⟨k1,_,k3⟩:=lg b st p hz
  exact⟨k3,by simp only[id,show b≠h.length by omega,if_false]⟩
 ·rcases live b z hz with ⟨rfl,rfl⟩|⟨l1,n1,m1⟩
  ·exact .inr ⟨b',by simp,fun a st p ha hga=>gne a st p b' ha hga rfl,fun st p e=>by cases e⟩
  ·exact .inl ⟨z,m1,by simp only[id,show b≠h.length by omega,if_false],fun st p e=>e⟩
 ·rw[aE _ _ (gne b st p n hz hnn)];exact hy
end
section
variable {P:Program} {B:Base} {D:Nat→Option XFn} {Y:Nat→Option YI} {r:Nat→Option Nat} {e env:aD} {h:XH} {H:Hp}

structure SR (D:Nat→Option XFn) (Y:Nat→Option YI) (r:Nat→Option Nat) (e:aD) (h:XH) (env:aD) (H:Hp):Prop where
 sh:SH D Y r h H
 re:∀ j,Rn D Y r (e j) (env j)

theorem SR.put {r':Nat→Option Nat} {h':XH} {H':Hp} (sr:SR D Y r e h env H) (hs:Sub r r') (sh:SH D Y r' h' H') {v v':AV} (hv:Rn D Y r' v v') (d:Option Nat):SR D Y r' (aP e d v) h' (aP env d v') H':=by
 refine⟨sh,fun j=>?_⟩
 cases d with
 | none=>exact(sr.re j).mono hs
 | some d =>
   simp only[aP,upd]
   split
   ·exact hv
   ·exact(sr.re j).mono hs

theorem uC (sr:SR D Y r e h env H) {o:DOper} {b:Bool} (hb:gd o e=some b):gd o env=some b:=by
 unfold gd at hb ⊢
 split at hb
 ·exact hb
 ·rename_i g want hg
  have hr:=sr.re g
  split at hb
  ·rename_i t ht
   rw[ht]at hr
   rw[dG hr];exact hb
  ·rename_i vs ht
   rw[ht]at hr
   obtain⟨ys,h1,_⟩:=aBV hr
   rw[h1];exact hb
  ·simp at hb

def aMA (D:Nat→Option XFn) (Y:Nat→Option YI) (r:Nat→Option Nat) (e:aD) (h:XH) (K:aD→Hp→Prop):Prop:=∀ r' env' H',Sub r r'→SR D Y r' e h env' H'→K env' H'

theorem sS {run:bZ} {runY:cV} (sr:SR D Y r e h env H) {d:Option Nat} {op:DOp} (hq:op.isQ=true) (hok:fA op=true) {e':aD} {h':XH} (hx:bT run runY d op e h=some (e',h')) {K:aD→Hp→Prop}
 (hK:aMA D Y r e' h' K):dY B P d op K env H:=by
 have hx':(match aA op e (aF h)with
  | some (.val v)=>some (aP e d v,h)
  | some (.new own x f)=>some (aP e d (f h.length),oL h own (gF op e h) x)
  | none=>none)=some (e',h'):=by
  rw[←hx]
  cases op<;>first|rfl|(simp[DOp.isQ]at hq)
 rw[kA hq,bI]
 split at hx'
 ·rename_i v hv
  simp only[oSI,Prod.mk.injEq]at hx'
  obtain⟨rfl,rfl⟩:=hx'
  obtain⟨eff',h1,h2⟩:=aDK sr.sh sr.re hok hv
  refine⟨eff',h1,?_⟩
  cases h2 with
  | val _ v' hv'=>exact hK r _ _ (Sub.refl r) (sr.put (Sub.refl r) sr.sh hv' d)
 ·rename_i own x f hv
  simp only[oSI,Prod.mk.injEq]at hx'
  obtain⟨rfl,rfl⟩:=hx'
  obtain⟨eff',h1,h2⟩:=aDK sr.sh sr.re hok hv
  refine⟨eff',h1,?_⟩
  cases h2 with
  | new _ cs cs' _ hf hc hg ho =>
    intro b' hb'
    obtain⟨k1,k2⟩:=sr.sh.fresh (own:=own) (gF op e h) (x:=.cells true cs) (y:=.cells true cs') (b':=b') hb' (fun b hb=>by
     obtain⟨c,g',cs0,q1,q2⟩:=ho b hb
     exact⟨c,_,q1,q2⟩) (fun c=>.cells c _ true _ _ hc hg)
    exact hK _ _ _ k1 (sr.put k1 k2 (hf _ _ _ (by simp)) d)
  | newObj o _ hf =>
    intro b' hb'
    obtain⟨k1,k2⟩:=sr.sh.fresh (own:=none) (gF op e h) (x:=.obj true o) (y:=.obj true o) (b':=b') (by simpa using hb') (fun b hb=>by simp at hb) (fun c=>.obj c _ true o)
    exact hK _ _ _ k1 (sr.put k1 k2 (hf _ _ _ (by simp)) d)
  | newMap es _ hf hes =>
    intro b' hb'
    obtain⟨k1,k2⟩:=sr.sh.fresh (own:=none) (gF op e h) (x:=.map true es) (y:=.map true es) (b':=b') (by simpa using hb') (fun b hb=>by simp at hb) (fun c=>.map c _ true _ _ ⟨rfl,fun i x y hx hy=>by
     rw[hx]at hy;simp at hy;subst hy
     have:=hes x (List.mem_of_getElem? hx)
     exact⟨this.1.rn,this.2.rn⟩⟩ (fun _ p hp=>⟨(hes p hp).1.gr,(hes p hp).2.gr⟩))
    exact hK _ _ _ k1 (sr.put k1 k2 (hf _ _ _ (by simp)) d)
 ·simp at hx'

theorem dN {run:bZ} {runY:cV} (hf:FnS P B D Y run) (hy:YS P B D Y runY) (sr:SR D Y r e h env H) {d:Option Nat} {op:DOp} (hok:fA op=true) {e':aD} {h':XH}
 (hx:bT run runY d op e h=some (e',h')) {K:aD→Hp→Prop} (hK:aMA D Y r e' h' K):dY B P d op K env H:=by
 by_cases hq:op.isQ=true
 ·exact sS sr hq hok hx hK
 ·cases op with
  | store n p x l =>
    simp only[fA,Bool.and_eq_true]at hok
    simp only[bT,Option.map_eq_some_iff]at hx
    obtain⟨h2,hs,heq⟩:=hx
    simp only[Prod.mk.injEq]at heq
    obtain⟨rfl,rfl⟩:=heq
    obtain⟨H',k1,k2,_⟩:=aAH sr.sh (aI sr.re hok.1) (aI sr.re hok.2) hs
    simp only[dY,k1,optW_some]
    exact hK r _ _ (Sub.refl r) (sr.put (Sub.refl r) k2 (.any _) d)
  | copy s x y =>
    simp only[fA,Bool.and_eq_true]at hok
    simp only[bT,Option.map_eq_some_iff]at hx
    obtain⟨⟨n,h2⟩,hs,heq⟩:=hx
    simp only[Prod.mk.injEq]at heq
    obtain⟨rfl,rfl⟩:=heq
    obtain⟨H',k1,k2⟩:=aHO sr.sh (aI sr.re hok.1) (aI sr.re hok.2) hs
    simp only[dY,k1,optW_some]
    exact hK r _ _ (Sub.refl r) (sr.put (Sub.refl r) k2 (.int _ _) d)
  | mapup q m k x =>
    simp only[fA,Bool.and_eq_true]at hok
    simp only[bT,Option.map_eq_some_iff]at hx
    obtain⟨h2,hs,heq⟩:=hx
    simp only[Prod.mk.injEq]at heq
    obtain⟨rfl,rfl⟩:=heq
    obtain⟨H',k1,k2⟩:=aGE sr.sh (aI sr.re hok.1.1) (aI sr.re hok.1.2) (aI sr.re hok.2) hs
    simp only[dY,k1,optW_some]
    exact hK r _ _ (Sub.refl r) (sr.put (Sub.refl r) k2 (.any _) d)
  | nxts x =>
    simp only[bT,Option.map_eq_some_iff]at hx
    obtain⟨⟨v,h2⟩,hs,heq⟩:=hx
    simp only[Prod.mk.injEq]at heq
    obtain⟨rfl,rfl⟩:=heq
    obtain⟨H',k1,k2,k3⟩:=aKR sr.sh (aI sr.re (x:=x) hok) hs
    simp only[dY,k1,optW_some]
    exact hK r _ _ (Sub.refl r) (sr.put (Sub.refl r) k3 k2 d)
  | send c x =>
    simp only[fA,Bool.and_eq_true]at hok
    simp only[bT,Option.map_eq_some_iff]at hx
    obtain⟨h2,hs,heq⟩:=hx
    simp only[Prod.mk.injEq]at heq
    obtain⟨rfl,rfl⟩:=heq
    obtain⟨H',k1,k2⟩:=aHM sr.sh (aI sr.re hok.1) (aI sr.re hok.2) hs
    simp only[dY,k1,optW_some]
    exact hK r _ _ (Sub.refl r) (sr.put (Sub.refl r) k2 (.any _) d)
  | recv ok z c =>
    simp only[fA,Bool.and_eq_true]at hok
    simp only[bT,Option.map_eq_some_iff]at hx
    obtain⟨⟨v,h2⟩,hs,heq⟩:=hx
    simp only[Prod.mk.injEq]at heq
    obtain⟨rfl,rfl⟩:=heq
    obtain⟨v',H',k1,k2,k3⟩:=aHN sr.sh (pM z hok.1) (aI sr.re hok.2) hs
    simp only[dY,k1,optW_some]
    exact hK r _ _ (Sub.refl r) (sr.put (Sub.refl r) k3 k2 d)
  | callf q f xs l =>
    simp only[fA,Bool.and_eq_true]at hok
    cases q with
    | true =>
      simp only[bT,Option.map_eq_some_iff]at hx
      obtain⟨v,hs,heq⟩:=hx
      simp only[Prod.mk.injEq]at heq
      obtain⟨rfl,rfl⟩:=heq
      obtain⟨k1,k2⟩:=aDT (P:=P) (B:=B) hf sr.sh (aI sr.re hok.1) (nI sr.re hok.2) hs
      exact⟨v,k2,hK r _ _ (Sub.refl r) (sr.put (Sub.refl r) sr.sh k1.rn d)⟩
    | false =>
      simp only[bT,Option.map_eq_some_iff]at hx
      obtain⟨⟨v,h2⟩,hs,heq⟩:=hx
      simp only[Prod.mk.injEq]at heq
      obtain⟨rfl,rfl⟩:=heq
      refine CallV.mono (qG (P:=P) (B:=B) hf hy sr.sh (aI sr.re hok.1) (nI sr.re hok.2) hs) ?_
      rintro v' H' ⟨⟨r',k1,k2,k3⟩,_⟩
      exact hK r' _ _ k1 (sr.put k1 k2 k3 d)
  | _=>exact absurd rfl hq

def lM (ops:List DOper):Bool:=ops.all fun o=>fA o.op

theorem fB {run:bZ} {runY:cV} (hf:FnS P B D Y run) (hy:YS P B D Y runY):∀ (ops:List DOper) (r:Nat→Option Nat) (e:aD) (h:XH) (env:aD) (H:Hp) (e':aD) (h':XH) (K:aD→Hp→Prop),lM ops=true→SR D Y r e h env H →
 dM run runY ops e h=some (e',h')→aMA D Y r e' h' K→RS B P ops K env H:=by
 intro ops
 induction ops with
 | nil =>
   intro r e h env H e' h' K _ sr hx hK
   simp only[dM,oSI,Prod.mk.injEq]at hx
   obtain⟨rfl,rfl⟩:=hx
   exact hK r env H (Sub.refl r) sr
 | cons o ops ih =>
   intro r e h env H e' h' K hok sr hx hK
   simp only[lM,List.all_cons,Bool.and_eq_true]at hok
   simp only[dM]at hx
   simp only[RS,opW]
   split at hx
   ·rename_i hg
    rw[uC sr hg]
    simp only[Option.bind_eq_some_iff]at hx
    obtain⟨⟨e1,h1⟩,hx1,hx2⟩:=hx
    refine dN hf hy sr hok.1 hx1 fun r' env' H' hs sr'=>?_
    exact ih r' e1 h1 env' H' e' h' K hok.2 sr' hx2 fun r2 env2 H2 hs2 sr2=>hK r2 env2 H2 (hs.trans hs2) sr2
   ·rename_i hg
    rw[uC sr hg]
    simp only
    exact ih r _ h _ H e' h' K hok.2 (sr.put (Sub.refl r) sr.sh (.tup [] [] rfl (by simp)) o.dst) hx hK
   ·simp at hx

def LogR (r:Nat→Option Nat) (h:XH) (L:List (Nat×Nat)) (L':sP):Prop:=(∀ q∈L,(aJ h q.2).isSome=true)∧∀ j c,L' j=some c→∃ b,(j,b)∈L∧r b=some c

theorem lS {ix:Nat} {d:Option Nat} {op:DOp} {K:KL} {L:sP} (h1:∀ n p x l,op ≠ .store n p x l) (h2:∀ f xs l,op ≠ .callf false f xs l) :
 aS B P ix d op K env H L=dY B P d op (fun e h=>K e h (cU ix op env L)) env H:=by
 cases op<;>first
  | rfl
  | (exact absurd rfl (h1 _ _ _ _))
  | (rename_i q f xs l;cases q;exact absurd rfl (h2 _ _ _);rfl)

mutual
theorem aIA:∀ (x y:AV),bW x y=true→x=y
 | .int k n,.int k' n',h=>by simp[bW]at h;obtain⟨rfl,rfl⟩:=h;rfl
 | .bool a,.bool b,h=>by simp[bW]at h;subst h;rfl
 | .str s,.str t,h=>by
   simp[bW]at h
   obtain⟨s⟩:=s;obtain⟨t⟩:=t
   obtain⟨s⟩:=s;obtain⟨t⟩:=t
   simp at h;subst h;rfl
 | .agg xs,.agg ys,h=>by rw[fT xs ys (by simpa [bW]using h)]
 | .tup xs,.tup ys,h=>by rw[fT xs ys (by simpa [bW]using h)]
 | .sl b o s n,.sl b' o' s' n',h=>by simp[bW]at h;obtain⟨rfl,rfl,rfl,rfl⟩:=h;rfl
 | .pt b o,.pt b' o',h=>by simp[bW]at h;obtain⟨rfl,rfl⟩:=h;rfl
 | .mp b,.mp b',h=>by simp[bW]at h;subst h;rfl
 | .ch b,.ch b',h=>by simp[bW]at h;subst h;rfl
 | .nilsl,.nilsl,_=>rfl
 | .nilpt,.nilpt,_=>rfl
 | .nilmap,.nilmap,_=>rfl
 | .nilfn,.nilfn,_=>rfl
 | .nilifc,.nilifc,_=>rfl
 | .fn f xs us,.fn g ys vs,h=>by
   simp only[bW,Bool.and_eq_true,decide_eq_true_eq]at h
   rw[h.1,fT xs ys h.2.1,fT us vs h.2.2]
 | .fs xs,.fs ys,h=>by rw[xS xs ys (by simpa [bW]using h)]
 | .any,y,h=>by cases y<;>simp[bW]at h
 | .fp ..,y,h=>by cases y<;>simp[bW]at h
 | .ifc ..,y,h=>by cases y<;>simp[bW]at h
theorem fT:∀ (xs ys:List AV),eN xs ys=true→xs=ys
 | [],[],_=>rfl
 | x::xs,y::ys,h=>by
   simp only[eN,Bool.and_eq_true]at h
   rw[aIA x y h.1,fT xs ys h.2]
 | [],_::_,h=>by simp[eN]at h
 | _::_,[],h=>by simp[eN]at h
theorem xS:∀ (xs ys:List (List AV)),aAP xs ys=true→xs=ys
 | [],[],_=>rfl
 | x::xs,y::ys,h=>by
   simp only[aAP,Bool.and_eq_true]at h
   rw[fT x y h.1,xS xs ys h.2]
 | [],_::_,h=>by simp[aAP]at h
 | _::_,[],h=>by simp[aAP]at h
end
mutual
theorem aIB {r':Nat→Option Nat} (hs:Sub r r'):∀ (x y x' y':AV),bW x y=true→Rn D Y r x x'→Rn D Y r' y y'→x'=y'
 | .int k n,.int k' n',x',y',h,h1,h2=>by simp[bW]at h;obtain⟨rfl,rfl⟩:=h;rw[cL h1,cL h2]
 | .bool a,.bool b,x',y',h,h1,h2=>by simp[bW]at h;subst h;rw[dG h1,dG h2]
 | .str s,.str t,x',y',h,h1,h2=>by
   simp[bW]at h
   have:s=t:=by cases s;cases t;simp_all
   subst this;rw[bJ h1,bJ h2]
 | .agg xs,.agg ys,x',y',h,h1,h2=>by
   obtain⟨xs',rfl,k1⟩:=uP h1
   obtain⟨ys',rfl,k2⟩:=uP h2
   rw[mF hs xs ys xs' ys' (by simpa [bW]using h) k1 k2]
 | .tup xs,.tup ys,x',y',h,h1,h2=>by
   obtain⟨xs',rfl,k1⟩:=aBV h1
   obtain⟨ys',rfl,k2⟩:=aBV h2
   rw[mF hs xs ys xs' ys' (by simpa [bW]using h) k1 k2]
 | .sl b o s n,.sl b' o' s' n',x',y',h,h1,h2=>by
   simp[bW]at h;obtain⟨rfl,rfl,rfl,rfl⟩:=h
   obtain⟨c,rfl,k1⟩:=tJ h1
   obtain⟨c',rfl,k2⟩:=tJ h2
   rw[hs b c k1]at k2;simp at k2;rw[k2]
 | .pt b o,.pt b' o',x',y',h,h1,h2=>by
   simp[bW]at h;obtain⟨rfl,rfl⟩:=h
   obtain⟨c,rfl,k1⟩:=iB h1
   obtain⟨c',rfl,k2⟩:=iB h2
   rw[hs b c k1]at k2;simp at k2;rw[k2]
 | .ch b,.ch b',x',y',h,h1,h2=>by
   simp only[bW,decide_eq_true_eq]at h
   subst h
   obtain⟨c,e1,e2⟩:=aAX h1
   obtain⟨c',e3,e4⟩:=aAX h2
   rw[hs b c e2]at e4
   simp only[oSI]at e4
   rw[e1,e3,e4]
 | .mp b,.mp b',x',y',h,h1,h2=>by
   simp[bW]at h;subst h
   obtain⟨c,rfl,k1⟩:=aCV h1
   obtain⟨c',rfl,k2⟩:=aCV h2
   rw[hs b c k1]at k2;simp at k2;rw[k2]
 | .nilsl,.nilsl,x',y',h,h1,h2=>by rw[mJ h1,mJ h2]
 | .nilpt,.nilpt,x',y',h,h1,h2=>by rw[yD h1,yD h2]
 | .nilmap,.nilmap,x',y',h,h1,h2=>by rw[uO h1,uO h2]
 | .nilfn,.nilfn,x',y',h,h1,h2=>by rw[aCU h1,aCU h2]
 | .nilifc,.nilifc,x',y',h,h1,h2=>by rw[aAW h1,aAW h2]
 | .fn f xs us,.fn g ys vs,x',y',h,h1,h2=>by
   simp only[bW,Bool.and_eq_true,decide_eq_true_eq]at h
   obtain⟨rfl,h3,h4⟩:=h
   cases h1 with
   | fn _ _ xs' _ us' hf1 a1 a2 a3 a4 =>
     cases h2 with
     | fn _ _ ys' _ vs' hf2 b1 b2 b3 b4 =>
       rw[mF hs xs ys xs' ys' h3 ⟨a1,a2⟩ ⟨b1,b2⟩,mF hs us vs us' vs' h4 ⟨a3,a4⟩ ⟨b3,b4⟩]
     | yield=>exact absurd rfl (hf1 _)
   | yield l c hr =>
     cases h2 with
     | fn _ _ ys' _ vs' hf2=>exact absurd rfl (hf2 _)
     | yield _ c' hr' =>
       rw[hs l c hr]at hr';simp at hr';rw[hr']
 | .any,y,_,_,h,_,_=>by cases y<;>simp[bW]at h
 | .fs xs,.fs ys,x',y',h,h1,h2=>by
   simp only[bW]at h
   rw[(tK h1).1,(tK h2).1,xS xs ys h]
 | .fp ..,y,_,_,h,_,_=>by cases y<;>simp[bW]at h
 | .ifc ..,y,_,_,h,_,_=>by cases y<;>simp[bW]at h
theorem mF {r':Nat→Option Nat} (hs:Sub r r'):∀ (xs ys xs' ys':List AV),eN xs ys=true→RnL D Y r xs xs'→RnL D Y r' ys ys'→xs'=ys'
 | [],[],xs',ys',_,h1,h2=>by rw[h1.nil_inv,h2.nil_inv]
 | x::xs,y::ys,xs',ys',h,h1,h2=>by
   simp only[eN,Bool.and_eq_true]at h
   obtain⟨x',xs2,rfl,k1,k2⟩:=h1.inv
   obtain⟨y',ys2,rfl,k3,k4⟩:=h2.inv
   rw[aIB hs x y x' y' h.1 k1 k3,mF hs xs ys xs2 ys2 h.2 k2 k4]
 | [],_::_,_,_,h,_,_=>by simp[eN]at h
 | _::_,[],_,_,h,_,_=>by simp[eN]at h
end
end
section
variable {P:Program} {B:Base} {D:Nat→Option XFn} {Y:Nat→Option YI} {r:Nat→Option Nat} {e env:aD} {h:XH} {H:Hp}

theorem LogR.mono {r':Nat→Option Nat} {h':XH} {L:List (Nat×Nat)} {L':sP} (hl:LogR r h L L') (hs:Sub r r') (hk:∀ q∈L,(aJ h q.2).isSome=true→(aJ h' q.2).isSome=true):LogR r' h' L L' :=
 ⟨fun q hq=>hk q hq (hl.1 q hq),fun j c hj=>let ⟨b,h1,h2⟩:=hl.2 j c hj; ⟨b,h1,hs b c h2⟩⟩

theorem aGc (sr:SR D Y r e h env H) {ix:Nat} {op:DOp} (hok:fA op=true) {L:List (Nat×Nat)} {L':sP} (hl:LogR r h L L') {eff:Eff} (he:aA op e (aF h)=some eff):LogR r h (aHi ix op e L) (cU ix op env L'):=by
 cases op with
 | load g n x =>
   have hx:=aI sr.re (x:=x) hok
   simp only[aHi,cU]
   simp only[aA]at he
   split at he<;>simp only[oSI,reduceCtorEq]at he
   rename_i v hv
   unfold dX at hv
   split at hv
   ·rename_i b o hb
    rw[hb]at hx
    obtain⟨c,k1,k2⟩:=iB hx
    simp only[dZ,hb,k1]
    have hlive:(aJ h b).isSome=true:=by
     split at hv
     ·rename_i w cs hc
      obtain⟨g',cs',k3,_⟩:=sr.sh.cells k2 hc
      simp[k3]
     ·simp at hv
    refine⟨fun q hq=>?_,fun j c' hj=>?_⟩
    ·rcases List.mem_cons.1 hq with rfl|hq
     ·exact hlive
     ·exact hl.1 q hq
    ·simp only at hj
     split at hj
     ·rename_i hji
      simp only[oSI]at hj
      subst hj;subst hji
      exact⟨b,by simp,k2⟩
     ·obtain⟨b',k3,k4⟩:=hl.2 j c' hj
      exact⟨b',by simp[k3],k4⟩
   ·rename_i rows i o hb
    rw[hb]at hx
    simp only[dZ,hb,(vQ hx).1]
    refine⟨hl.1,fun j c' hj=>?_⟩
    simp only at hj
    split at hj
    ·simp at hj
    ·exact hl.2 j c' hj
   ·simp at hv
 | _=>exact hl

theorem oW {run:bZ} {runY:cV} (hf:FnS P B D Y run) (hy:YS P B D Y runY):∀ (ops:List DOper) (r:Nat→Option Nat) (e:aD) (h:XH) (L:List (Nat×Nat)) (env:aD) (H:Hp) (L':sP) (e':aD) (h':XH) (K:aD→Hp→Prop),lM ops=true→SR D Y r e h env H →
 LogR r h L L'→dK run runY ops e h L=some (e',h')→aMA D Y r e' h' K→RD B P ops K env H L':=by
 intro ops
 induction ops with
 | nil =>
   intro r e h L env H L' e' h' K _ sr _ hx hK
   simp only[dK,oSI,Prod.mk.injEq]at hx
   obtain⟨rfl,rfl⟩:=hx
   exact hK r env H (Sub.refl r) sr
 | cons o ops ih =>
   intro r e h L env H L' e' h' K hok sr hl hx hK
   simp only[lM,List.all_cons,Bool.and_eq_true]at hok
   simp only[dK]at hx
   simp only[RD,opD]
   split at hx
   ·rename_i hg
    rw[uC sr hg]
    simp only[optW_some,zU,if_true]
    split at hx
    ·rename_i hlog
     simp only[Option.bind_eq_some_iff]at hx
     obtain⟨⟨e1,h1⟩,hx1,hx2⟩:=hx
     split at hx2
     ·rename_i hpost
      have next:∀ r' env' H' L2,Sub r r'→SR D Y r' e1 h1 env' H'→LogR r' h1 (aHi o.ix o.op e L) L2→RD B P ops K env' H' L2:=fun r' env' H' L2 hs sr' hl' =>
       ih r' e1 h1 _ env' H' L2 e' h' K hok.2 sr' hl' hx2 fun r2 env2 H2 hs2 sr2=>hK r2 env2 H2 (hs.trans hs2) sr2
      revert hx1 hlog hpost next
      generalize o.op=op at hok ⊢
      intro hlog hx1 hpost next
      have hok:=hok.1
      by_cases hq:op.isQ=true
      ·rw[lS (fun n p x l e=>by subst e;simp[DOp.isQ]at hq) (fun f xs l e=>by subst e;simp[DOp.isQ]at hq)]
       refine sS sr hq hok hx1 fun r' env' H' hs sr'=>next r' env' H' _ hs sr' ?_
       have hx':(match aA op e (aF h)with
        | some (.val v)=>some (aP e o.dst v,h)
        | some (.new own x f)=>some (aP e o.dst (f h.length),oL h own (gF op e h) x)
        | none=>none)=some (e1,h1):=by
        rw[←hx1]
        cases op<;>first|rfl|(simp[DOp.isQ]at hq)
       split at hx'
       ·rename_i v hv
        simp only[oSI,Prod.mk.injEq]at hx'
        obtain⟨_,rfl⟩:=hx'
        exact(aGc sr hok hl hv).mono hs fun _ _ h=>h
       ·rename_i own x f hv
        simp only[oSI,Prod.mk.injEq]at hx'
        obtain⟨_,rfl⟩:=hx'
        refine(aGc sr hok hl hv).mono hs fun q hq' hlive=>?_
        unfold oL
        rw[dV]
        cases own with
        | none =>
          obtain⟨x,hx⟩:=Option.isSome_iff_exists.1 hlive
          simp only[lY hx,if_true,hlive]
        | some b0 =>
          obtain⟨x,hx⟩:=Option.isSome_iff_exists.1 hlive
          simp only[List.length_set,lY hx,if_true]
          rw[dH]
          split
          ·rename_i hc
           exfalso
           cases op with
           | app s n x y =>
             simp only[aA,nE]at hv
             split at hv
             ·simp at hv
             ·split at hv
              ·split at hv
               ·split at hv<;>simp at hv
               ·simp at hv
              ·rename_i b' len hbx
               split at hv
               ·split at hv
                ·simp only[oSI,Eff.new.injEq]at hv
                 obtain⟨h1,_⟩:=hv
                 subst h1
                 simp only[pP,List.all_eq_true]at hlog
                 have:=hlog q hq'
                 rw[hbx]at this
                 simp[dZ,hc.1]at this
                ·simp at hv
               ·simp at hv
              ·rename_i b' s' len hbx
               split at hv
               ·split at hv
                ·simp only[oSI,Eff.new.injEq]at hv
                 obtain⟨h1,_⟩:=hv
                 subst h1
                 simp only[pP,List.all_eq_true]at hlog
                 have:=hlog q hq'
                 rw[hbx]at this
                 simp[dZ,hc.1]at this
                ·simp at hv
               ·simp at hv
              ·simp at hv
           | _ =>
             simp only[aA]at hv
             first
              | (simp at hv;done)
              | ((repeat' split at hv)<;>simp at hv)
          ·exact hlive
       ·simp at hx'
      ·cases op with
       | store n p x l =>
         simp only[fA,Bool.and_eq_true]at hok
         simp only[bT,Option.map_eq_some_iff]at hx1
         obtain⟨h2,hs,heq⟩:=hx1
         simp only[Prod.mk.injEq]at heq
         obtain⟨rfl,rfl⟩:=heq
         obtain⟨H',k1,k2,b0,x0,k3,k4⟩:=aAH sr.sh (aI sr.re hok.1) (aI sr.re hok.2) hs
         refine⟨fun j hj c hc hbl=>?_,?_⟩
         ·obtain⟨b,m1,m2⟩:=hl.2 j c hc
          simp only[pP,List.all_eq_true]at hlog
          have h3:=hlog (j,b) m1
          simp only[hj,List.contains_iff_mem,Bool.or_eq_true,Bool.not_eq_true',bne_iff_ne,ne_eq]at h3
          have h3:dZ (aG e p)≠some b:=by
           rcases h3 with h3|h3
           ·simp[hj]at h3
           ·exact h3
          have hp:=aI sr.re hok.1
          cases hv:aG e p<;>rw[hv]at k3 hp h3<;>simp only[dZ,oSI,reduceCtorEq]at k3
          all_goals
           subst k3
           first
            | obtain⟨c',e1,e2⟩:=iB hp
            | obtain⟨c',e1,e2⟩:=tJ hp
            | obtain⟨c',e1,e2⟩:=aCV hp
            | obtain⟨c',e1,e2⟩:=aIK hp
            | obtain⟨c',e1,e2⟩:=aAX hp
           rw[e1]at hbl
           simp only[dZ,oSI]at hbl h3
           subst hbl
           obtain⟨y,hy⟩:=Option.isSome_iff_exists.1 (hl.1 _ m1)
           exact h3 (by rw[sr.sh.inj _ _ c' _ _ k4 hy e2 m2])
         ·simp only[k1,optW_some]
          refine next r _ _ L' (Sub.refl r) (sr.put (Sub.refl r) k2 (.any _) o.dst) (hl.mono (Sub.refl r) fun q hq hlive=>?_)
          unfold lU at hs
          split at hs
          ·split at hs
           ·split at hs
            ·simp only[oSI]at hs
             subst hs
             rw[dH];split
             ·rfl
             ·exact hlive
            ·simp at hs
           ·simp at hs
          ·simp at hs
       | copy s x y =>
         rw[lS (by simp) (by simp)]
         refine dN hf hy sr hok hx1 fun r' env' H' hs sr'=>next r' env' H' L' hs sr' (hl.mono hs fun q hq hlive=>?_)
         simp only[bT,Option.map_eq_some_iff]at hx1
         obtain⟨⟨n,h2⟩,hc,heq⟩:=hx1
         simp only[Prod.mk.injEq]at heq
         obtain⟨_,rfl⟩:=heq
         unfold xF at hc
         split at hc
         ·split at hc
          ·split at hc
           ·simp only[oSI,Prod.mk.injEq]at hc
            obtain⟨_,rfl⟩:=hc
            rw[dH];split
            ·rfl
            ·exact hlive
           ·simp at hc
          ·simp at hc
         ·simp at hc
       | mapup q m k x =>
         rw[lS (by simp) (by simp)]
         refine dN hf hy sr hok hx1 fun r' env' H' hs sr'=>next r' env' H' L' hs sr' (hl.mono hs fun q hq hlive=>?_)
         simp only[bT,Option.map_eq_some_iff]at hx1
         obtain⟨h2,hc,heq⟩:=hx1
         simp only[Prod.mk.injEq]at heq
         obtain⟨_,rfl⟩:=heq
         unfold oX at hc
         split at hc
         ·split at hc
          ·simp only[Option.map_eq_some_iff]at hc
           obtain⟨es,_,rfl⟩:=hc
           rw[dH];split
           ·rfl
           ·exact hlive
          ·simp at hc
         ·simp at hc
       | nxts x =>
         rw[lS (by simp) (by simp)]
         refine dN hf hy sr hok hx1 fun r' env' H' hs sr'=>next r' env' H' L' hs sr' (hl.mono hs fun q hq hlive=>?_)
         simp only[bT,Option.map_eq_some_iff]at hx1
         obtain⟨⟨v,h2⟩,hc,heq⟩:=hx1
         simp only[Prod.mk.injEq]at heq
         obtain⟨_,rfl⟩:=heq
         unfold aKS at hc
         split at hc
         ·split at hc
          ·split at hc<;>simp only[oSI,Prod.mk.injEq]at hc<;>obtain⟨_,rfl⟩:=hc
           ·rw[dH];split
            ·rfl
            ·exact hlive
           ·exact hlive
          ·simp at hc
         ·simp at hc
       | send c x =>
         rw[lS (by simp) (by simp)]
         refine dN hf hy sr hok hx1 fun r' env' H' hs sr'=>next r' env' H' L' hs sr' (hl.mono hs fun q hq hlive=>?_)
         simp only[bT,Option.map_eq_some_iff]at hx1
         obtain⟨h2,hc,heq⟩:=hx1
         simp only[Prod.mk.injEq]at heq
         obtain⟨_,rfl⟩:=heq
         unfold aFv at hc
         split at hc
         ·split at hc
          ·split at hc
           ·split at hc<;>simp only[oSI,reduceCtorEq]at hc
            subst hc
            rw[dH];split
            ·rfl
            ·exact hlive
           ·simp at hc
          ·simp at hc
         ·simp at hc
       | recv ok z c =>
         rw[lS (by simp) (by simp)]
         refine dN hf hy sr hok hx1 fun r' env' H' hs sr'=>next r' env' H' L' hs sr' (hl.mono hs fun q hq hlive=>?_)
         simp only[bT,Option.map_eq_some_iff]at hx1
         obtain⟨⟨v,h2⟩,hc,heq⟩:=hx1
         simp only[Prod.mk.injEq]at heq
         obtain⟨_,rfl⟩:=heq
         unfold aFw at hc
         split at hc
         ·split at hc
          ·split at hc
           ·simp only[oSI,Prod.mk.injEq]at hc
            obtain⟨_,rfl⟩:=hc
            rw[dH];split
            ·rfl
            ·exact hlive
           ·simp only[oSI,Prod.mk.injEq]at hc
            obtain⟨_,rfl⟩:=hc
            rw[dH];split
            ·rfl
            ·exact hlive
           ·simp at hc
          ·simp at hc
         ·simp at hc
       | callf q f xs l =>
         cases q with
         | true =>
           rw[lS (by simp) (by simp)]
           refine dN hf hy sr hok hx1 fun r' env' H' hs sr'=>next r' env' H' L' hs sr' (hl.mono hs fun q hq hlive=>?_)
           simp only[bT,Option.map_eq_some_iff]at hx1
           obtain⟨v,_,heq⟩:=hx1
           simp only[Prod.mk.injEq]at heq
           obtain⟨_,rfl⟩:=heq
           exact hlive
         | false =>
           simp only[fA,Bool.and_eq_true]at hok
           simp only[bT,Option.map_eq_some_iff]at hx1
           obtain⟨⟨v,h2⟩,hs,heq⟩:=hx1
           simp only[Prod.mk.injEq]at heq
           obtain⟨rfl,rfl⟩:=heq
           refine CallV.mono (qG (P:=P) (B:=B) hf hy sr.sh (aI sr.re hok.1) (nI sr.re hok.2) hs) ?_
           rintro v' H' ⟨⟨r',k1,k2,k3⟩,k4⟩
           simp only[wV,List.all_eq_true,Bool.and_eq_true,Bool.or_eq_true,Bool.not_eq_true']at hpost
           refine⟨fun j hj c hc=>?_,next r' _ _ L' k1 (sr.put k1 k2 k3 o.dst) (hl.mono k1 fun q hq _=>(hpost q hq).1)⟩
           obtain⟨b,m1,m2⟩:=hl.2 j c hc
           obtain⟨p1,p2⟩:=hpost (j,b) m1
           simp only at p1 p2
           rcases p2 with p2|p2|p2
           ·simp[hj]at p2
           ·exact k4 b c m2 (hl.1 _ m1) (by simpa using p2)
           ·-- the block lies as it lay
            obtain⟨x1,q1⟩:=Option.isSome_iff_exists.1 (hl.1 _ m1)
            obtain⟨x2,q2⟩:=Option.isSome_iff_exists.1 p1
            simp only at q1 q2
            rw[q1,q2]at p2
            obtain⟨c1,y1,g1,g2,g3⟩:=sr.sh.blk b x1 q1
            obtain⟨c2,y2,f1,f2,f3⟩:=k2.blk b x2 q2
            rw[m2]at g1;simp only[oSI]at g1;subst g1
            rw[k1 b c m2]at f1;simp only[oSI]at f1;subst f1
            rw[g2,f2]
            unfold aCM at p2
            split at p2
            ·rename_i _ _ _ _ w xs w' ys e1 e2
             simp only[oSI]at e1 e2
             subst e1;subst e2
             simp only[Bool.and_eq_true,beq_iff_eq]at p2
             cases g3 with
             | cells _ _ _ xs' n1 _ =>
               cases f3 with
               | cells _ _ _ ys' n2 _ =>
                 rw[p2.1,mF k1 _ _ _ _ p2.2 n1 n2]
            ·simp at p2
       | _=>exact absurd rfl hq
     ·simp at hx2
    ·simp at hx
   ·rename_i hg
    rw[uC sr hg]
    simp only[optW_some,zU,Bool.false_eq_true,if_false]
    rw[lS (by simp) (by simp)]
    simp only[dY,aA,aG,optW_some,eP,cU]
    exact ih r _ h L _ H L' e' h' K hok.2 (sr.put (Sub.refl r) sr.sh (.tup [] [] rfl (by simp)) o.dst) hl hx hK
   ·simp at hx
end
section
variable {P:Program} {B:Base} {D:Nat→Option XFn} {Y:Nat→Option YI} {r:Nat→Option Nat} {e env:aD} {h:XH} {H:Hp}

def Agree (k:Nat) (r r':Nat→Option Nat):Prop:=∀ b c,b<k→r b=some c→r' b=some c
theorem Agree.refl (k:Nat) (r:Nat→Option Nat):Agree k r r:=fun _ _ _ h=>h
theorem Agree.trans {k:Nat} {r r' r'':Nat→Option Nat} (h:Agree k r r') (g:Agree k r' r''):Agree k r r'':=fun b c hb hr=>g b c hb (h b c hb hr)
theorem Sub.agree {r r':Nat→Option Nat} (h:Sub r r') (k:Nat):Agree k r r':=fun b c _ hr=>h b c hr

def oJ (k:Nat) (r:Nat→Option Nat) (acc:List Nat):Nat→Option Nat:=fun i=>if i<k then r i else (acc[i-k]?).bind r

theorem zA (sh:SH D Y r h H) {k:Nat} {acc:List Nat} (hn:acc.Nodup) (hok:∀ b∈acc,(aJ h b).isSome=true∧k≤b) :
 Agree k r (oJ k r acc)∧SH D Y (oJ k r acc) (mX k acc h) H∧∀ v v',Rn D Y r v v'→Rn D Y (oJ k r acc) (rnA (keepS k acc) v) v':=by
 have hs:∀ b c d,keepS k acc b=some c→r b=some d→oJ k r acc c=some d:=fun b c d h1 h2=>by
  unfold keepS at h1
  split at h1
  ·simp only[oSI]at h1;subst h1
   rename_i hb
   simp only[oJ,hb,if_true];exact h2
  ·rw[Option.map_eq_some_iff]at h1
   obtain⟨p,h3,rfl⟩:=h1
   simp only[oJ,show ¬(p+k<k) by omega,if_false,Nat.add_sub_cancel,aBf h3,Option.bind_some,h2]
 have hat1:∀ i x,aJ (mX k acc h) i=some x→∃ b y,aJ h b=some y∧x=rnB (keepS k acc) y∧oJ k r acc i=r b∧((i<k∧b=i)∨(k≤i∧acc[i-k]?=some b)):=fun i x hx=>by
  unfold mX at hx
  rw[dV]at hx
  simp only[List.length_map,padTake_length]at hx
  split at hx
  ·rename_i hi
   rw[uA _ rfl,vY,if_pos hi]at hx
   obtain⟨y,hy,rfl⟩:=mK hx
   exact⟨i,y,hy,rfl,by simp only[oJ,hi,if_true],.inl ⟨hi,rfl⟩⟩
  ·rename_i hi
   rw[mZ _ _ _ rfl]at hx
   split at hx
   ·rename_i b hb
    obtain⟨y,hy,rfl⟩:=mK hx
    exact⟨b,y,hy,rfl,by simp only[oJ,hi,if_false,hb,Option.bind_some],.inr ⟨by omega,hb⟩⟩
   ·simp at hx
 obtain⟨G,hG⟩:=sh.gh
 have hat2:∀ i x,aJ (mX k acc h) i=some x→∃ y,aJ h (if i<k then i else acc.getD (i-k) 0)=some y∧x=rnB (keepS k acc) y∧oJ k r acc i=r (if i<k then i else acc.getD (i-k) 0)∧(k≤i→acc[i-k]?=some (acc.getD (i-k) 0)):=fun i x hx=>by
  obtain⟨b,y,q1,q2,q3,q4⟩:=hat1 i x hx
  rcases q4 with ⟨q4,rfl⟩|⟨q4,q5⟩
  ·rw[if_pos q4];exact⟨y,q1,q2,q3,fun h=>by omega⟩
  ·have e:acc.getD (i-k) 0=b:=by rw[List.getD_eq_getElem?_getD,q5];rfl
   rw[if_neg (by omega),e];exact⟨y,q1,q2,q3,fun _=>q5⟩
 refine⟨fun b c hb hr=>by simp only[oJ,hb,if_true];exact hr,⟨fun i c hi=>?_,fun i j c x y hx hy h1 h2=>?_,fun i x hx=>?_,_,hG.via (fun i=>if i<k then i else acc.getD (i-k) 0) (fun i st p hi=>?_) (fun i x hi=>?_) (fun i j st p x hi hj hne he=>?_) fun i st p n y hi hnn hy=>hy⟩,fun v v' hv=>hv.renum hs⟩
 ·unfold mX
  simp only[List.length_append,List.length_map,padTake_length]
  by_cases hk:i<k
  ·omega
  ·simp only[oJ,hk,if_false]at hi
   cases ha:acc[i-k]? with
   | none=>rw[ha]at hi;simp at hi
   | some b=>have:=(List.getElem?_eq_some_iff.1 ha).1;omega
 ·obtain⟨b1,y1,p1,_,p2,p3⟩:=hat1 i x hx
  obtain⟨b2,y2,q1,_,q2,q3⟩:=hat1 j y hy
  rw[p2]at h1;rw[q2]at h2
  have:=sh.inj b1 b2 c y1 y2 p1 q1 h1 h2
  subst this
  rcases p3 with ⟨p3,p4⟩|⟨p3,p4⟩
  ·rcases q3 with ⟨q3,q4⟩|⟨q3,q4⟩
   ·omega
   ·have:=(hok _ (List.mem_of_getElem? q4)).2;omega
  ·rcases q3 with ⟨q3,q4⟩|⟨q3,q4⟩
   ·have:=(hok _ (List.mem_of_getElem? p4)).2;omega
   ·have:=mT hn p4 q4;omega
 ·obtain⟨b,y,p1,rfl,p2,_⟩:=hat1 i x hx
  obtain⟨c,z,q1,q2,q3⟩:=sh.blk b y p1
  exact⟨c,z,by rw[p2];exact q1,q2,q3.renum hs⟩
 ·obtain⟨y,q1,q2,q3,_⟩:=hat2 i _ hi
  have:=nJ q2.symm
  subst this
  exact⟨q1,q3⟩
 ·obtain⟨y,q1,q2,q3,_⟩:=hat2 i _ hi
  exact .inl ⟨y,q1,q3,fun st p e=>nJ (q2.symm.trans e)⟩
 ·obtain⟨y,q1,q2,q3,q4⟩:=hat2 i _ hi
  obtain⟨y',m1,m2,m3,m4⟩:=hat2 j _ hj
  by_cases hik:i<k
  ·by_cases hjk:j<k
   ·rw[if_pos hik,if_pos hjk]at he;exact hne he
   ·rw[if_pos hik,if_neg hjk]at he
    have:=(hok _ (List.mem_of_getElem? (m4 (by omega)))).2
    omega
  ·by_cases hjk:j<k
   ·rw[if_neg hik,if_pos hjk]at he
    have:=(hok _ (List.mem_of_getElem? (q4 (by omega)))).2
    omega
   ·rw[if_neg hik,if_neg hjk]at he
    have k1:=q4 (by omega)
    have k2:=m4 (by omega)
    rw[he]at k1
    have:=mT hn k1 k2
    omega

theorem zB (k:Nat) (vs:List AV) (h:XH):(dP k vs h).Nodup∧∀ b∈dP k vs h,(aJ h b).isSome=true∧k≤b :=
 aAZ h k qM _ [] List.nodup_nil (by simp)

theorem zR (f:Nat→AV):∀ (L:List Nat) (j:Nat),eD L (L.map f) j=f j∨eD L (L.map f) j = .any
 | [],j=>.inr rfl
 | k::L,j=>by
   simp only[List.map_cons,eD]
   split
   ·rename_i hj;subst hj;exact .inl rfl
   ·exact zR f L j

theorem jD (sr:SR D Y r e h env H) (k:Nat) (L:List Nat):∃ r',Agree k r r'∧SR D Y r' (lD k L e h) (oF k L e h) env H:=by
 obtain⟨h1,h2⟩:=zB k (L.map e) h
 obtain⟨k1,k2,k3⟩:=zA sr.sh h1 h2
 refine⟨_,k1,k2,fun j=>?_⟩
 unfold lD
 rw[tL,List.map_map]
 rcases zR (rnA (keepS k (dP k (L.map e) h))∘e) L j with h3|h3
 ·rw[h3];exact k3 _ _ (sr.re j)
 ·rw[h3];exact .any _

theorem nY (b:Nat) (cs:List AV):∀ l:List AV,uY b cs l=l.map (uZ b cs)
 | []=>rfl
 | v::l=>by simp[uY,nY b cs l]

theorem lQ {p:AV→AV→Prop} {q:AV→AV→Prop}:∀ (xs ys:List AV),xs.length=ys.length→(∀ (i:Nat) (x y:AV),xs[i]?=some x→ys[i]?=some y→∃ z,p y z∧q x z) →
 ∃ zs:List AV,ys.length=zs.length∧xs.length=zs.length∧(∀ (i:Nat) (y z:AV),ys[i]?=some y→zs[i]?=some z→p y z)∧∀ (i:Nat) (x z:AV),xs[i]?=some x→zs[i]?=some z→q x z
 | [],[],_,_=>⟨[],rfl,rfl,by simp,by simp⟩
 | [],_::_,hl,_=>by simp at hl
 | _::_,[],hl,_=>by simp at hl
 | x::xs,y::ys,hl,h=>by
   obtain⟨z,h1,h2⟩:=h 0 x y rfl rfl
   obtain⟨zs,k1,k2,k3,k4⟩:=lQ xs ys (by simpa using hl) fun i x y hx hy=>h (i+1) x y (by simpa using hx) (by simpa using hy)
   refine⟨z::zs,by simp[k1],by simp[k2],fun i y' z' hy hz=>?_,fun i x' z' hx hz=>?_⟩
   ·cases i with
    | zero=>simp at hy hz;subst hy hz;exact h1
    | succ i=>exact k3 i y' z' (by simpa using hy) (by simpa using hz)
   ·cases i with
    | zero=>simp at hx hz;subst hx hz;exact h2
    | succ i=>exact k4 i x' z' (by simpa using hx) (by simpa using hz)

theorem sG {cs:List AV} {s:Nat}:∀ {n o:Nat},o+n*s≤cs.length→(bP cs o s n).length=n∧(∀ row∈bP cs o s n,row.length=s∧∀ c∈row,c∈cs) ∧
 ∀ (i:Nat) (row:List AV) (j:Nat) (c:AV),(bP cs o s n)[i]?=some row→row[j]?=some c→cs[o+i*s+j]?=some c
 | 0,o,_=>⟨rfl,by simp[bP],by simp[bP]⟩
 | n+1,o,hl=>by
   rw[Nat.add_mul,Nat.one_mul]at hl
   obtain⟨h1,h2,h3⟩:=sG (cs:=cs) (s:=s) (n:=n) (o:=o+s) (by omega)
   refine⟨by simp[bP,h1],fun row hrow=>?_,fun i row j c hi hj=>?_⟩
   ·simp only[bP,List.mem_cons]at hrow
    rcases hrow with rfl|hrow
    ·exact⟨by simp;omega,fun c hc=>List.mem_of_mem_drop (List.mem_of_mem_take hc)⟩
    ·exact h2 row hrow
   ·cases i with
    | zero =>
      simp only[bP,List.getElem?_cons_zero,oSI]at hi
      subst hi
      rw[List.getElem?_take]at hj
      split at hj
      ·rw[List.getElem?_drop]at hj;simpa using hj
      ·simp at hj
    | succ i =>
      simp only[bP,List.getElem?_cons_succ]at hi
      have:=h3 i row j c hi hj
      rw[Nat.add_mul,Nat.one_mul,show o+(i*s+s)+j=o+s+i*s+j by omega]
      exact this

theorem Rn.fz {b c:Nat} {cs:List AV} (hr:r b=some c) (hg:∀ x∈cs,Gd x) {v v':AV} (h:Rn D Y r v v'):∃ v'',Fz c cs v' v''∧Rn D Y r (uZ b cs v) v'':=by
 induction h with
 | any v=>exact⟨v,.same v,.any v⟩
 | int k n=>exact⟨_,.same _,.int k n⟩
 | bool b=>exact⟨_,.same _,.bool b⟩
 | str t=>exact⟨_,.same _,.str t⟩
 | agg xs ys hl _ ih =>
   obtain⟨zs,k1,k2,k3,k4⟩:=lQ xs ys hl ih
   refine⟨.agg zs,.agg _ _ k1 k3,?_⟩
   simp only[uZ,nY]
   refine .agg _ _ (by simpa using k2) fun i x z hx hz=>?_
   rw[List.getElem?_map,Option.map_eq_some_iff]at hx
   obtain⟨x0,hx0,rfl⟩:=hx
   exact k4 i x0 z hx0 hz
 | tup xs ys hl _ ih =>
   obtain⟨zs,k1,k2,k3,k4⟩:=lQ xs ys hl ih
   refine⟨.tup zs,.tup _ _ k1 k3,?_⟩
   simp only[uZ,nY]
   refine .tup _ _ (by simpa using k2) fun i x z hx hz=>?_
   rw[List.getElem?_map,Option.map_eq_some_iff]at hx
   obtain⟨x0,hx0,rfl⟩:=hx
   exact k4 i x0 z hx0 hz
 | fs rows h=>exact⟨_,.same _,.fs rows h⟩
 | fp rows i o h=>exact⟨_,.same _,.fp rows i o h⟩
 | sl b0 c0 o s n h0 =>
   simp only[uZ]
   split
   ·rename_i hc
    obtain⟨rfl,hle⟩:=hc
    rw[hr]at h0;simp only[oSI]at h0;subst h0
    obtain⟨m1,m2,m3⟩:=sG hle
    exact⟨_,.sl o s n (bP cs o s n) m1 (fun row hrow=>(m2 row hrow).1) m3,.fs _ fun row hrow c hc=>hg c ((m2 row hrow).2 c hc)⟩
   ·exact⟨_,.same _,.sl b0 c0 o s n h0⟩
 | pt b0 c0 o h0=>exact⟨_,.same _,.pt b0 c0 o h0⟩
 | mp b0 c0 h0=>exact⟨_,.same _,.mp b0 c0 h0⟩
 | ch b0 c0 h0=>exact⟨_,.same _,.ch b0 c0 h0⟩
 | sb b0 c0 n0 h0=>exact⟨_,.same _,.sb b0 c0 n0 h0⟩
 | bp b0 c0 h0=>exact⟨_,.same _,.bp b0 c0 h0⟩
 | nilsl=>exact⟨_,.same _,.nilsl⟩
 | nilpt=>exact⟨_,.same _,.nilpt⟩
 | nilmap=>exact⟨_,.same _,.nilmap⟩
 | nilfn=>exact⟨_,.same _,.nilfn⟩
 | nilifc=>exact⟨_,.same _,.nilifc⟩
 | fn f xs ys us vs hf hl1 _ hl2 _ ih1 ih2 =>
   obtain⟨zs,k1,k2,k3,k4⟩:=lQ xs ys hl1 ih1
   obtain⟨ws,j1,j2,j3,j4⟩:=lQ us vs hl2 ih2
   refine⟨.fn f zs ws,.fn f _ _ _ _ k1 k3 j1 j3,?_⟩
   have e1:uZ b cs (.fn f xs us) = .fn f (uY b cs xs) (uY b cs us):=by
    cases f<;>first|rfl|exact absurd rfl (hf _)
   rw[e1,nY,nY]
   refine .fn f _ _ _ _ hf (by simpa using k2) (fun i x z hx hz=>?_) (by simpa using j2) (fun i x z hx hz=>?_)
   ·rw[List.getElem?_map,Option.map_eq_some_iff]at hx
    obtain⟨x0,hx0,rfl⟩:=hx
    exact k4 i x0 z hx0 hz
   ·rw[List.getElem?_map,Option.map_eq_some_iff]at hx
    obtain⟨x0,hx0,rfl⟩:=hx
    exact j4 i x0 z hx0 hz
 | yield l c0 h0=>exact⟨_,.same _,.yield l c0 h0⟩
 | ifc t x y h _=>exact⟨_,.same _,.ifc t x y h⟩

theorem RnB.fz {b c d:Nat} {cs:List AV} (hr:r b=some c) (hg:∀ x∈cs,Gd x) {x:XB} {y:ABlk} (h:RnB D Y r d x y):∃ z,FzB c cs y z∧RnB D Y r d (fzB b cs x) z:=by
 cases h with
 | cells g w xs ys h hgr =>
   cases g with
   | true=>exact⟨_,.same _,.cells d true w xs ys h hgr⟩
   | false =>
     obtain⟨zs,k1,k2,k3,k4⟩:=lQ xs ys h.1 fun i x y hx hy=>(h.2 i x y hx hy).fz hr hg
     refine⟨.cells w zs,.cells w _ _ k1 k3,?_⟩
     simp only[fzB]
     refine .cells d _ w _ _ ⟨by rw[nY];simpa using k2,fun i x z hx hz=>?_⟩ (fun h=>h)
     rw[nY,List.getElem?_map,Option.map_eq_some_iff]at hx
     obtain⟨x0,hx0,rfl⟩:=hx
     exact k4 i x0 z hx0 hz
 | map g w xs ys h hgr =>
   cases g with
   | true=>exact⟨_,.same _,.map d true w xs ys h hgr⟩
   | false =>
     have hk:∀ (i:Nat) (x y:AV),(xs.map (·.1))[i]?=some x→(ys.map (·.1))[i]?=some y→Rn D Y r x y:=fun i x y hx hy=>by
      rw[List.getElem?_map,Option.map_eq_some_iff]at hx hy
      obtain⟨p,hp,rfl⟩:=hx
      obtain⟨q,hq,rfl⟩:=hy
      exact(h.2 i p q hp hq).1
     have hv:∀ (i:Nat) (x y:AV),(xs.map (·.2))[i]?=some x→(ys.map (·.2))[i]?=some y→Rn D Y r x y:=fun i x y hx hy=>by
      rw[List.getElem?_map,Option.map_eq_some_iff]at hx hy
      obtain⟨p,hp,rfl⟩:=hx
      obtain⟨q,hq,rfl⟩:=hy
      exact(h.2 i p q hp hq).2
     obtain⟨zs,k1,k2,k3,k4⟩:=lQ (xs.map (·.1)) (ys.map (·.1)) (by simpa using h.1) fun i x y hx hy=>(hk i x y hx hy).fz hr hg
     obtain⟨ws,j1,j2,j3,j4⟩:=lQ (xs.map (·.2)) (ys.map (·.2)) (by simpa using h.1) fun i x y hx hy=>(hv i x y hx hy).fz hr hg
     simp only[List.length_map]at k1 k2 j1 j2
     have hz:∀ (i:Nat) (p:AV×AV),(zs.zip ws)[i]?=some p→zs[i]?=some p.1∧ws[i]?=some p.2:=fun i p hp=>by
      rw[List.getElem?_zip_eq_some]at hp;exact hp
     refine⟨.map w (zs.zip ws),.map w _ _ (by simp;omega) fun i y p hy hp=>?_,?_⟩
     ·obtain⟨h1,h2⟩:=hz i p hp
      exact⟨k3 i y.1 p.1 (by simp[hy]) h1,j3 i y.2 p.2 (by simp[hy]) h2⟩
     ·simp only[fzB]
      refine .map d false w _ _ ⟨by simp;omega,fun i x p hx hp=>?_⟩ (by simp)
      rw[List.getElem?_map,Option.map_eq_some_iff]at hx
      obtain⟨x0,hx0,rfl⟩:=hx
      obtain⟨h1,h2⟩:=hz i p hp
      exact⟨k4 i x0.1 p.1 (by simp[hx0]) h1,j4 i x0.2 p.2 (by simp[hx0]) h2⟩
 | obj g w o=>cases g<;>exact⟨_,.same _,.obj d _ w o⟩
 | loop i vs s o d' L ps a b' hY h hD hs hv=>exact⟨_,.same _,.loop d i vs s o d' L ps a b' hY h hD hs hv⟩
 | gh st p=>exact⟨_,.same _,.gh d st p y⟩
theorem aEW {b:Nat} {cs:List AV} {x:XB} {st:dR} {p:Hp→Nat→Prop} (h:fzB b cs x = .gh st p):x = .gh st p:=by
 unfold fzB at h
 split at h<;>first|exact h|cases h

theorem aHq (sr:SR D Y r e h env H) (b:Nat):∃ env' H',Shift env H env' H'∧SR D Y r (fz1 b e h).1 (fz1 b e h).2 env' H':=by
 unfold fz1
 split
 ·rename_i w cs hb
  obtain⟨c,y,hr,h1,h2⟩:=sr.sh.blk b _ hb
  cases h2 with
  | cells _ _ _ ys h3 h4 =>
    obtain⟨rfl,hg⟩:=h3.same (h4 rfl)
    obtain⟨env',henv⟩:=Classical.skolem.1 fun j=>(sr.re j).fz hr hg
    obtain⟨G,hG⟩:=sr.sh.gh
    have gne:∀ a st p n,aJ h a=some (.gh st p)→G a n→n≠c:=fun a st p n ha hn e=>by
     subst e
     exact(hG.2 a b st p _ n ha hb (fun e=>by subst e;rw[hb]at ha;cases ha) hn).1 hr
    have hH:∀ d,∃ o:Option ABlk,(d=c→o=none)∧(d≠c→(o=none∨∃ x y,H d=some x∧o=some y∧FzB c ys x y))∧(∀ b' x,aJ h b'=some x→b'≠b→r b'=some d→∃ y,o=some y∧RnB D Y r d (fzB b ys x) y) ∧
     ∀ a st p,aJ h a=some (.gh st p)→G a d→o=H d:=by
     intro d
     by_cases hd:d=c
     ·refine⟨none,fun _=>rfl,fun h=>absurd hd h,fun b' x hx hne hr'=>?_,fun a st p ha hn=>absurd hd (gne a st p d ha hn)⟩
      subst hd
      exact absurd (sr.sh.inj b' b d x _ hx hb hr' hr) hne
     by_cases hpv:∃ a st p,aJ h a=some (.gh st p)∧G a d
     ·obtain⟨a,st,p,ha,hn⟩:=hpv
      obtain⟨_,_,k1⟩:=hG.1 a st p ha
      obtain⟨x0,k2⟩:=k1.live hn
      refine⟨H d,fun h=>absurd h hd,fun _=>.inr ⟨x0,x0,k2,k2,.same _⟩,fun b' x hx hne hr'=>?_,fun _ _ _ _ _=>rfl⟩
      by_cases hab:a=b'
      ·subst hab
       rw[ha]at hx;cases hx
       exact⟨x0,k2,.gh d st p x0⟩
      ·exact absurd hr' (hG.2 a b' st p x d ha hx hab hn).1
     ·have hpn:∀ a st p,aJ h a=some (.gh st p)→¬G a d:=fun a st p ha hn=>hpv ⟨a,st,p,ha,hn⟩
      by_cases hex:∃ b' x,aJ h b'=some x∧r b'=some d
      ·obtain⟨b1,x1,k1,k2⟩:=hex
       obtain⟨d',y1,k3,k4,k5⟩:=sr.sh.blk b1 x1 k1
       rw[k2]at k3;simp only[oSI]at k3;subst k3
       obtain⟨z,k6,k7⟩:=k5.fz hr hg
       refine⟨some z,fun h=>absurd h hd,fun _=>.inr ⟨y1,z,k4,rfl,k6⟩,fun b' x hx hne hr'=>?_,fun a st p ha hn=>absurd hn (hpn a st p ha)⟩
       have:=sr.sh.inj b' b1 d x x1 hx k1 hr' k2
       subst this
       rw[hx]at k1;simp only[oSI]at k1;subst k1
       exact⟨z,rfl,k7⟩
      ·exact⟨none,fun _=>rfl,fun _=>.inl rfl,fun b' x hx hne hr'=>absurd ⟨b',x,hx,hr'⟩ hex,fun a st p ha hn=>absurd hn (hpn a st p ha)⟩
    obtain⟨H',hH'⟩:=Classical.skolem.1 hH
    refine⟨env',H',Shift.freeze (b:=c) (wr:=w) (cs:=ys) h1 (fun j=>(henv j).1) ((hH' c).1 rfl) (fun d hd=>(hH' d).2.1 hd),⟨⟨fun b c hb=>by simpa using sr.sh.dom b c hb,fun b1 b2 c' x1 x2 g1 g2 k1 k2=>?_,fun b' x hx=>?_,_,hG.via id (fun b' st p hb'=>?_) (fun b' x hx=>?_) (fun _ _ _ _ _ _ _ hne=>hne) fun b' st p n y' hb' hnn hy=>?_⟩,fun j=>(henv j).2⟩⟩
    all_goals
     have live:∀ b' x,aJ ((h.map (fzO b ys)).set b none) b'=some x→b'≠b∧∃ x0,aJ h b'=some x0∧x=fzB b ys x0:=fun b' x hx=>by
      rw[dH]at hx
      split at hx
      ·simp at hx
      ·rename_i hc
       rw[uA _ rfl]at hx
       cases hx0:aJ h b' with
       | none=>rw[hx0]at hx;simp[fzO]at hx
       | some x0 =>
         rw[hx0]at hx
         simp only[fzO,oSI]at hx
         exact⟨fun e=>hc ⟨e,by simpa using lY hb⟩,x0,rfl,hx.symm⟩
    ·obtain⟨_,y1,m1,_⟩:=live b1 x1 g1
     obtain⟨_,y2,m2,_⟩:=live b2 x2 g2
     exact sr.sh.inj b1 b2 c' y1 y2 m1 m2 k1 k2
    ·obtain⟨hne,x0,m1,rfl⟩:=live b' x hx
     obtain⟨c',y',m2,_,_⟩:=sr.sh.blk b' x0 m1
     obtain⟨z,m3,m4⟩:=(hH' c').2.2.1 b' x0 m1 hne m2
     exact⟨c',z,m2,m3,m4⟩
    ·obtain⟨hne,x0,m1,m2⟩:=live b' _ hb'
     rw[aEW m2.symm]at m1
     exact⟨m1,rfl⟩
    ·obtain⟨hne,x0,m1,m2⟩:=live b' _ hx
     exact .inl ⟨x0,m1,rfl,fun st p e=>aEW (m2.symm.trans e)⟩
    ·obtain⟨hne,x0,m1,m2⟩:=live b' _ hb'
     rw[aEW m2.symm]at m1
     rw[(hH' n).2.2.2 b' st p m1 hnn];exact hy
 ·exact⟨env,H,Shift.le (Le.refl _),sr⟩

theorem nX:∀ (ns:List Nat) (e:aD) (h:XH) (env:aD) (H:Hp),SR D Y r e h env H→∃ env' H',Shift env H env' H'∧SR D Y r (uX ns e h).1 (uX ns e h).2 env' H'
 | [],e,h,env,H,sr=>⟨env,H,Shift.le (Le.refl _),sr⟩
 | b::ns,e,h,env,H,sr=>by
   obtain⟨env1,H1,k1,k2⟩:=aHq sr b
   obtain⟨env2,H2,k3,k4⟩:=nX ns _ _ env1 H1 k2
   exact⟨env2,H2,k1.trans k3,k4⟩
theorem fJ:∀ l:List AV,jJ l=l.map oI
 | []=>rfl
 | v::l=>by simp[jJ,fJ l]

theorem Rv.nz {F:Nat→Prop} {w:World} {a:AV} {v:Value} (h:Rv F w a v):Rv F w (oI a) v:=by
 induction h with
 | agg cs vs hl ho _ ih =>
   simp only[oI,fJ]
   refine .agg _ _ (by simpa using hl) ho fun i c v hc hv=>?_
   rw[List.getElem?_map,Option.map_eq_some_iff]at hc
   obtain⟨c0,hc0,rfl⟩:=hc
   exact ih i c0 v hc0 hv
 | tup cs vs hl _ ih =>
   simp only[oI,fJ]
   refine .tup _ _ (by simpa using hl) fun i c v hc hv=>?_
   rw[List.getElem?_map,Option.map_eq_some_iff]at hc
   obtain⟨c0,hc0,rfl⟩:=hc
   exact ih i c0 v hc0 hv
 | nilsl=>exact .fs0 none 0
 | int k n=>exact .int k n
 | bool b=>exact .bool b
 | str s=>exact .str s
 | fs0 a cap=>exact .fs0 a cap
 | fs rows blk off s cap g h1 h2 h3 h4 h5 h6=>exact .fs rows blk off s cap g h1 h2 h3 h4 h5 h6
 | fp rows i o blk off s g h1 h2 h3 h4 h5=>exact .fp rows i o blk off s g h1 h2 h3 h4 h5
 | sl b off s len cap c e fr h1 h2 h3=>exact .sl b off s len cap c e fr h1 h2 h3
 | pt b off=>exact .pt b off
 | mp b=>exact .mp b
 | ch b=>exact .ch b
 | sb b n cap c fr hb h1 h2=>exact .sb b n cap c fr hb h1 h2
 | bp b c fr hb h1=>exact .bp b c fr hb h1
 | nilpt=>exact .nilpt
 | nilmap=>exact .nilmap
 | fn f first cap fv cv h1 h2 h3 h4=>exact .fn f first cap fv cv h1 h2 h3 h4
 | nilfn=>exact .nilfn
 | ifc t a v h=>exact .ifc t a v h
 | nilifc=>exact .nilifc
 | any v=>exact .any v

theorem Args.nz {F:Nat→Prop} {w:World} {as:List AV} {vs:Array Value} (h:Args F w as vs):Args F w (jJ as) vs:=by
 rw[fJ]
 refine⟨by simpa using h.1,fun i c v hc hv=>?_⟩
 rw[List.getElem?_map,Option.map_eq_some_iff]at hc
 obtain⟨c0,hc0,rfl⟩:=hc
 exact(h.2 i c0 v hc0 hv).nz
theorem FnW.nz {f:FuncId} {as:List AV} {Q:AV→Hp→Prop} (h:FnW B P f (jJ as) H Q):FnW B P f as H Q:=⟨h.1,fun F w vs h1 h2 h3=>h.2 F w vs h1 h2 h3.nz⟩

theorem Rn.nz {v v':AV} (h:Rn D Y r v v'):Rn D Y r (oI v) (oI v'):=by
 have ls:∀ {xs ys:List AV},xs.length=ys.length→(∀ (i:Nat) (x y:AV),xs[i]?=some x→ys[i]?=some y→Rn D Y r (oI x) (oI y))→RnL D Y r (jJ xs) (jJ ys):=fun {xs ys} hl h=>by
  rw[fJ,fJ]
  refine⟨by simpa using hl,fun i x y hx hy=>?_⟩
  rw[List.getElem?_map,Option.map_eq_some_iff]at hx hy
  obtain⟨x0,hx0,rfl⟩:=hx
  obtain⟨y0,hy0,rfl⟩:=hy
  exact h i x0 y0 hx0 hy0
 induction h with
 | any v=>exact .any _
 | agg xs ys hl _ ih=>exact .agg _ _ (ls hl ih).1 (ls hl ih).2
 | tup xs ys hl _ ih=>exact .tup _ _ (ls hl ih).1 (ls hl ih).2
 | nilsl=>exact .fs [] (by simp)
 | int k n=>exact .int k n
 | bool b=>exact .bool b
 | str s=>exact .str s
 | fs rows h=>exact .fs rows h
 | fp rows i o h=>exact .fp rows i o h
 | sl b c o s n h=>exact .sl b c o s n h
 | pt b c o h=>exact .pt b c o h
 | mp b c h=>exact .mp b c h
 | ch b c h=>exact .ch b c h
 | sb b c n h=>exact .sb b c n h
 | bp b c h=>exact .bp b c h
 | nilpt=>exact .nilpt
 | nilmap=>exact .nilmap
 | nilfn=>exact .nilfn
 | nilifc=>exact .nilifc
 | fn f xs ys us vs h1 h2 h3 h4 h5=>exact .fn f xs ys us vs h1 h2 h3 h4 h5
 | yield l c h=>exact .yield l c h
 | ifc t x y h=>exact .ifc t x y h
theorem RnL.nz {xs ys:List AV} (h:RnL D Y r xs ys):RnL D Y r (jJ xs) (jJ ys):=by
 rw[fJ,fJ]
 refine⟨by simpa using h.1,fun i x y hx hy=>?_⟩
 rw[List.getElem?_map,Option.map_eq_some_iff]at hx hy
 obtain⟨x0,hx0,rfl⟩:=hx
 obtain⟨y0,hy0,rfl⟩:=hy
 exact(h.2 i x0 y0 hx0 hy0).nz

theorem aEJ {F:Nat→Prop} {w:World}:∀ (fz:List (Nat×Bool)) (env:aD) (j:Nat) (v:Value),Rv F w (env j) v→Rv F w (nzE fz env j) v
 | [],env,j,v,h=>h
 | (k,true)::fz,env,j,v,h=>aEJ fz env j v h
 | (k,false)::fz,env,j,v,h=>by
   have ih:=aEJ fz env j v h
   show Rv F w (if j=k then oI (nzE fz env j) else nzE fz env j) v
   split
   ·exact ih.nz
   ·exact ih
theorem aEK:∀ (fz:List (Nat×Bool)) (e env:aD) (j:Nat),Rn D Y r (e j) (env j)→Rn D Y r (nzE fz e j) (nzE fz env j)
 | [],e,env,j,h=>h
 | (k,true)::fz,e,env,j,h=>aEK fz e env j h
 | (k,false)::fz,e,env,j,h=>by
   have ih:=aEK fz e env j h
   show Rn D Y r (if j=k then oI (nzE fz e j) else nzE fz e j) (if j=k then oI (nzE fz env j) else nzE fz env j)
   split
   ·exact ih.nz
   ·exact ih
theorem aEV (sr:SR D Y r e h env H) (fz:List (Nat×Bool)):∃ env' H',Shift env H env' H'∧SR D Y r (aOQ fz e h).1 (aOQ fz e h).2 env' H':=by
 obtain⟨env1,H1,k1,k2⟩:=nX (fz.flatMap (aKb e h)) e h env H sr
 refine⟨nzE fz env1,H1,k1.trans ?_,⟨k2.sh,fun j=>aEK fz _ _ j (k2.re j)⟩⟩
 intro F w a st re
 exact⟨F,Ext.refl _ _ _,st,fun j=>aEJ fz env1 j _ (re.rv j),re.gi⟩

theorem Shift.trim {c:Nat} {w0:Bool} {cs:List AV} (hc:H c=some (.cells w0 cs)) (m:Nat):Shift env H env (hset H c (.cells w0 (cs.take m))):=by
 intro F w a st re
 have hwr:∀ b,oM (hset H c (.cells w0 (cs.take m))) b=oM H b:=fun b=>by
  by_cases hb:b=c
  ·subst hb;simp[oM,hc,ABlk.wr]
  ·simp only[oM,aE _ _ hb]
 refine⟨F,⟨fun _ h=>h,fun _ h=>.inl h,fun b hb=>.inl ?_,fun b hb=>.inl (by rw[←hwr];exact hb),Nat.le_refl _,fun _ _ _=>rfl,fun _ c e fr h=>⟨c,e,fr,h,rfl⟩,SameIO.refl w⟩,⟨st.lt,fun b x hb=>?_,fun b x hb=>?_⟩,re⟩
 ·by_cases h1:b=c
  ·subst h1;simp[hc]
  ·rwa [aE _ _ h1]at hb
 ·by_cases h1:b=c
  ·subst h1;exact st.dis b _ hc
  ·rw[aE _ _ h1]at hb;exact st.dis b x hb
 ·by_cases h1:b=c
  ·subst h1
   simp only[hset_same,oSI]at hb
   subst hb
   obtain⟨o,k1,k2⟩:=st.blk b _ hc
   refine⟨o,k1,?_⟩
   cases k2 with
   | cells p cs c e fr hfr hl ho h =>
     refine .cells _ _ _ _ _ hfr (by simp;omega) ho fun i a v ha hv=>h i a v ?_ hv
     rw[List.getElem?_take]at ha
     split at ha
     ·exact ha
     ·simp at ha
  ·rw[aE _ _ h1]at hb;exact st.blk b x hb

theorem aCF (sr:SR D Y r e h env H) (v:AV):∃ H',Shift env H env H'∧SR D Y r e (aFA v h) env H':=by
 unfold aFA
 split
 ·rename_i b s n
  split
  ·rename_i g w cs hb
   obtain⟨c,y,hr,h1,h2⟩:=sr.sh.blk b _ hb
   cases h2 with
   | cells _ _ _ ys h3 h4 =>
     refine⟨_,Shift.trim h1 (n*s),sr.sh.turn hb hr (.cells c g w _ _ (h3.take _) fun hg=>dW fun x hx=>eL (h4 hg) x (List.mem_of_mem_take hx)),sr.re⟩
  ·exact⟨H,Shift.le (Le.refl _),sr⟩
 ·exact⟨H,Shift.le (Le.refl _),sr⟩
theorem vM (sr:SR D Y r e h env H):∀ fz:List (Nat×Bool),∃ H',Shift env H env H'∧SR D Y r e (rK fz e h) env H'
 | []=>⟨H,Shift.le (Le.refl _),sr⟩
 | (k,b)::fz=>by
   obtain⟨H1,k1,k2⟩:=vM sr fz
   simp only[rK]
   split
   ·obtain⟨H2,k3,k4⟩:=aCF k2 (e (k-1000000))
    exact⟨H2,k1.trans k3,k4⟩
   ·exact⟨H1,k1,k2⟩
theorem qU (sr:SR D Y r e h env H) (fz:List (Nat×Bool)):∃ env' H',Shift env H env' H'∧SR D Y r (sE fz e h).1 (sE fz e h).2 env' H':=by
 obtain⟨H1,k1,k2⟩:=vM sr fz
 obtain⟨env2,H2,k3,k4⟩:=aEV k2 fz
 exact⟨env2,H2,k1.trans k3,k4⟩
end
section
variable {P:Program} {B:Base} {D:Nat→Option XFn} {Y:Nat→Option YI} {r:Nat→Option Nat} {e env:aD} {h:XH} {H:Hp}

def aTL (P:Program) (B:Base) (D:Nat→Option XFn) (l:Nat) (i:YI):Prop :=
 (∃ q,i.oB = .loop q)∧∀ (d:XFn) (L ps:List Nat) (a b:XCode),D i.K=some d→cT d.body i.site=some (L,ps,a,b)→∀ (B1:Base),B.Up B1.F B1.w→∀ (as:List AV) (H':Hp) (Q':AV→Hp→Prop),
  H' l=some (.obj true i.oR)→as.length=ps.length →
  WD B1 P (some l) d.N a.erase (fun e env2 H2=>e = .normal∧H2 l=some (.obj true i.oR)∧WD B1 P (some l) d.N b.erase (aIJ l i.oR i.oB i.oD Q') env2 (hset H2 l (.obj true i.oB))) (nL i.env ps as) H'→YW B1 P l as H' Q'
def YOk (P:Program) (B:Base) (D:Nat→Option XFn) (Y:Nat→Option YI):Prop:=∀ l i,Y l=some i→aTL P B D l i
theorem YOk.up {B':Base} (h:YOk P B D Y) (hB:B.Up B'.F B'.w):YOk P B' D Y:=fun l i hY =>
 ⟨(h l i hY).1,fun d L ps a b h1 h2 B1 hB1=>(h l i hY).2 d L ps a b h1 h2 B1 (Up.trans hB hB1)⟩

def kT:XCode→Bool
 | .skip | .exit _ | .ret=>true
 | .reg _ _ ops=>lM ops
 | .seq a b=>kT a&&kT b
 | .cond c a b=>sO c&&(kT a&&kT b)
 | .block _ a | .loop _ a | .scope a=>kT a
 | .rng _ _ f _ a b=>sO f&&(kT a&&kT b)
def eS (d:XFn):XCode→Prop
 | .seq a b | .cond _ a b=>eS d a∧eS d b
 | .block _ a | .loop _ a | .scope a=>eS d a
 | .rng s L _ ps a b=>cT d.body s=some (L,ps,a,b)∧eS d a∧eS d b
 | _=>True

def RdOk (Y:Nat→Option YI) (r:Nat→Option Nat) (k:Nat) (rd rr:Option Nat):Prop:=match rd with
 | none=>rr=none
 | some l=>l<k∧∃ c i q,r l=some c∧rr=some c∧Y c=some i∧i.oB = .loop q
theorem RdOk.agree {k:Nat} {rd rr:Option Nat} {r':Nat→Option Nat} (h:RdOk Y r k rd rr) (ha:Agree k r r'):RdOk Y r' k rd rr:=by
 cases rd with
 | none=>exact h
 | some l =>
   obtain⟨h1,c,i,q,h2,h3,h4,h5⟩:=h
   exact⟨h1,c,i,q,ha l c h1 h2,h3,h4,h5⟩

theorem SH.loopAt (sh:SH D Y r h H) {l:Nat} {st:LSt} (hl:fE h l=some st):∃ c i o,r l=some c∧Y c=some i∧H c=some (.obj true o)∧oK i st o∧∃ (vs:List AV) (d:XFn) (L ps:List Nat) (a b:XCode),
 aJ h l=some (.loop i.K i.site vs st)∧D i.K=some d∧cT d.body i.site=some (L,ps,a,b)∧RnL D Y r vs (L.map i.env):=by
 unfold fE at hl
 split at hl<;>simp only[oSI,reduceCtorEq]at hl
 rename_i K s vs st' hx
 subst hl
 obtain⟨c,y,h1,h2,h3⟩:=sh.blk l _ hx
 cases h3 with
 | loop i _ _ o d L ps a b hY ho hD hs hv=>exact⟨c,i,o,h1,hY,h2,ho,vs,d,L,ps,a,b,hx,hD,hs,hv⟩

theorem SH.loopTo (sh:SH D Y r h H) {l c:Nat} {i:YI} {st st':LSt} (hl:fE h l=some st) (hr:r l=some c) (hY:Y c=some i) {o:Obj} (ho:oK i st' o):SH D Y r (loopTo h l st') (hset H c (.obj true o)):=by
 obtain⟨c',i',o',h1,h2,h3,h4,vs,d,L,ps,a,b,h5,h6,h7,h8⟩:=sh.loopAt hl
 rw[hr]at h1;simp only[oSI]at h1;subst h1
 rw[hY]at h2;simp only[oSI]at h2;subst h2
 unfold Go.DL.loopTo
 rw[h5]
 exact sh.turn h5 hr (.loop c i vs st' o d L ps a b hY ho h6 h7 h8)

theorem SH.push {Y':Nat→Option YI} (sh:SH D Y r h H) {l:Nat} {x:XB} {y:ABlk} (hl:H l=none) (hY:∀ c,c≠l→Y' c=Y c) (hx:RnB D Y' r l x y) (hng:ghX x=false:=by rfl) :
 Sub r (fun b=>if b=h.length then some l else r b)∧SH D Y' (fun b=>if b=h.length then some l else r b) (h++[some x]) (hset H l y):=by
 have hsub:Sub r (fun b=>if b=h.length then some l else r b):=fun b c hb=>by
  have:=sh.dom b c hb
  simp only[show b≠h.length by omega,if_false];exact hb
 have live:∀ b z,aJ (h++[some x]) b=some z→(b=h.length∧z=x)∨(b<h.length∧aJ h b=some z):=fun b z hz=>by
  rw[dV]at hz
  split at hz
  ·rename_i hlt;exact .inr ⟨hlt,hz⟩
  ·by_cases he:b=h.length
   ·subst he;simp[aJ]at hz;exact .inl ⟨rfl,hz.symm⟩
   ·have:b-h.length=(b-h.length-1)+1:=by omega
    rw[this]at hz;simp[aJ]at hz
 have other:∀ b c z,aJ h b=some z→r b=some c→c≠l:=fun b c z hz hr e=>by
  subst e
  obtain⟨c',y',h1,h2,_⟩:=sh.blk b z hz
  rw[hr]at h1;simp only[oSI]at h1;subst h1
  rw[hl]at h2;simp at h2
 obtain⟨G,hG⟩:=sh.gh
 have lg:∀ b st p,aJ (h++[some x]) b=some (.gh st p)→b<h.length∧aJ h b=some (.gh st p):=fun b st p hz=>by
  rcases live b _ hz with ⟨_,e⟩|h1
  ·rw[←e]at hng;cases hng
  ·exact h1
 have gne:∀ b st p n,aJ (h++[some x]) b=some (.gh st p)→G b n→n≠l:=fun b st p n hz hnn e=>by
  obtain⟨k1,k3⟩:=lg b st p hz
  subst e
  obtain⟨c,_,k4⟩:=hG.1 b st p k3
  obtain⟨y1,k5⟩:=k4.live hnn
  rw[hl]at k5;cases k5
 refine⟨hsub,fun b c hb=>?_,fun b1 b2 c x1 x2 h1 h2 k1 k2=>?_,fun b z hz=>?_,_,hG.via id (fun b st p hz=>?_) (fun b z hz=>?_) (fun _ _ _ _ _ _ _ hne=>hne) fun b st p n y' hz hnn hy=>?_⟩
 ·simp only[List.length_append,List.length_cons,List.length_nil]
  split at hb
  ·omega
  ·have:=sh.dom b c hb;omega
 ·rcases live b1 x1 h1 with ⟨rfl,_⟩|⟨l1,m1⟩
  ·rcases live b2 x2 h2 with ⟨rfl,_⟩|⟨l2,m2⟩
   ·rfl
   ·exfalso
    simp only[if_true,oSI]at k1
    simp only[show b2≠h.length by omega,if_false]at k2
    exact other b2 c x2 m2 k2 k1.symm
  ·rcases live b2 x2 h2 with ⟨rfl,_⟩|⟨l2,m2⟩
   ·exfalso
    simp only[if_true,oSI]at k2
    simp only[show b1≠h.length by omega,if_false]at k1
    exact other b1 c x1 m1 k1 k2.symm
   ·simp only[show b1≠h.length by omega,if_false]at k1
    simp only[show b2≠h.length by omega,if_false]at k2
    exact sh.inj b1 b2 c x1 x2 m1 m2 k1 k2
 ·rcases live b z hz with ⟨rfl,rfl⟩|⟨l1,m1⟩
  ·exact⟨l,y,by simp,hset_same _ _ _,hx.mono hsub (fun _=>rfl)⟩
  ·obtain⟨c,y',g1,g2,g3⟩:=sh.blk b z m1
   have hne:=other b c z m1 g1
   refine⟨c,y',hsub b c g1,?_,g3.mono hsub (fun _=>hY c hne)⟩
   rw[aE _ _ hne];exact g2
 ·obtain⟨k1,k3⟩:=lg b st p hz
  exact⟨k3,by simp only[id,show b≠h.length by omega,if_false]⟩
 ·rcases live b z hz with ⟨rfl,rfl⟩|⟨l1,m1⟩
  ·exact .inr ⟨l,by simp,fun a st p ha hga=>gne a st p l ha hga rfl,fun st p e=>by rw[e]at hng;cases hng⟩
  ·exact .inl ⟨z,m1,by simp only[id,show b≠h.length by omega,if_false],fun st p e=>e⟩
 ·rw[aE _ _ (gne b st p n hz hnn)];exact hy

theorem eM {run:bZ} {runY:cV} {d:XFn} {K:Nat} (hD:D K=some d) (hm:P.follows .mixedOrders=true) (hall:∀ (B:Base) (Y:Nat→Option YI),YOk P B D Y→FnS P B D Y run∧YS P B D Y runY) (k n:Nat) (rd rr:Option Nat) :
 ∀ (code:XCode) (B:Base) (Y:Nat→Option YI) (r:Nat→Option Nat) (e:aD) (h:XH) (env:aD) (H:Hp) (x:DX) (e':aD) (h':XH) (Q:QC),YOk P B D Y→kT code=true→eS d code→RdOk Y r k rd rr→SR D Y r e h env H →
   aU run runY K k n rd code e h=some (x,e',h')→(∀ r' env' H',Agree k r r'→SR D Y r' e' h' env' H'→Q x env' H')→WD B P rr d.N code.erase Q env H:=by
 intro code
 induction code with
 | skip =>
   intro B Y r e h env H x e' h' Q hY hok hs hrd sr hx hK
   simp only[aU,oSI,Prod.mk.injEq]at hx
   obtain⟨rfl,rfl,rfl⟩:=hx
   exact WD.skip (hK r env H (Agree.refl _ _) sr)
 | exit id =>
   intro B Y r e h env H x e' h' Q hY hok hs hrd sr hx hK
   simp only[aU,oSI,Prod.mk.injEq]at hx
   obtain⟨rfl,rfl,rfl⟩:=hx
   exact WD.exit (hK r env H (Agree.refl _ _) sr)
 | ret =>
   intro B Y r e h env H x e' h' Q hY hok hs hrd sr hx hK
   simp only[aU,oSI,Prod.mk.injEq]at hx
   obtain⟨rfl,rfl,rfl⟩:=hx
   exact WD.ret (hK r env H (Agree.refl _ _) sr)
 | reg fz draw ops =>
   intro B Y r e h env H x e' h' Q hY hok hs hrd sr hx hK
   simp only[kT]at hok
   obtain⟨hf,hy⟩:=hall B Y hY
   simp only[aU,Option.map_eq_some_iff,Prod.mk.injEq]at hx
   obtain⟨⟨e1,h1⟩,hx,rfl,rfl,rfl⟩:=hx
   obtain⟨env1,H1,k1,k2⟩:=qU sr fz
   refine WD.shift k1 (WD.reg hm ?_)
   cases draw with
   | true =>
     simp only[if_true]at hx ⊢
     exact oW hf hy ops r _ _ [] env1 H1 noL e1 h1 _ hok k2 ⟨by simp,fun j c hj=>by simp[noL]at hj⟩ hx fun r' env' H' hs sr'=>hK r' env' H' (hs.agree k) sr'
   | false =>
     simp only[Bool.false_eq_true,if_false]at hx ⊢
     exact fB hf hy ops r _ _ env1 H1 e1 h1 _ hok k2 hx fun r' env' H' hs sr'=>hK r' env' H' (hs.agree k) sr'
 | seq a b iha ihb =>
   intro B Y r e h env H x e' h' Q hY hok hs hrd sr hx hK
   simp only[kT,Bool.and_eq_true]at hok
   simp only[aU]at hx
   refine WD.seq ?_
   split at hx
   ·rename_i e1 h1 hx1
    exact iha B Y r e h env H .normal e1 h1 _ hY hok.1 hs.1 hrd sr hx1 fun r' env' H' ha sr' =>
     ihb B Y r' e1 h1 env' H' x e' h' Q hY hok.2 hs.2 (hrd.agree ha) sr' hx fun r2 env2 H2 ha2 sr2=>hK r2 env2 H2 (ha.trans ha2) sr2
   ·rename_i hne
    refine iha B Y r e h env H x e' h' _ hY hok.1 hs.1 hrd sr hx fun r' env' H' ha sr'=>?_
    cases x with
    | normal=>exact absurd hx (hne e' h')
    | exit id=>exact hK r' env' H' ha sr'
    | ret=>exact hK r' env' H' ha sr'
 | cond c a b iha ihb =>
   intro B Y r e h env H x e' h' Q hY hok hs hrd sr hx hK
   simp only[kT,Bool.and_eq_true]at hok
   have hc:=aI sr.re (x:=c) hok.1
   simp only[aU]at hx
   split at hx
   ·rename_i hv
    rw[hv]at hc
    exact WD.cond (t:=true) (dG hc) (iha B Y r e h env H x e' h' Q hY hok.2.1 hs.1 hrd sr hx hK)
   ·rename_i hv
    rw[hv]at hc
    exact WD.cond (t:=false) (dG hc) (ihb B Y r e h env H x e' h' Q hY hok.2.2 hs.2 hrd sr hx hK)
   ·simp at hx
 | block id a iha =>
   intro B Y r e h env H x e' h' Q hY hok hs hrd sr hx hK
   simp only[kT]at hok
   simp only[aU]at hx
   refine WD.block ?_
   split at hx
   ·rename_i j e1 h1 hx1
    refine iha B Y r e h env H (.exit j) e1 h1 _ hY hok hs hrd sr hx1 fun r' env' H' ha sr'=>?_
    simp only[QC.block]
    split at hx<;>simp only[oSI,Prod.mk.injEq]at hx<;>obtain⟨rfl,rfl,rfl⟩:=hx
    ·rename_i hj;rw[if_pos hj];exact hK r' env' H' ha sr'
    ·rename_i hj;rw[if_neg hj];exact hK r' env' H' ha sr'
   ·rename_i hne
    refine iha B Y r e h env H x e' h' _ hY hok hs hrd sr hx fun r' env' H' ha sr'=>?_
    cases x with
    | exit id=>exact absurd hx (hne id e' h')
    | normal=>exact hK r' env' H' ha sr'
    | ret=>exact hK r' env' H' ha sr'
 | scope a iha =>
   intro B Y r e h env H x e' h' Q hY hok hs hrd sr hx hK
   exact WD.scope (iha B Y r e h env H x e' h' Q hY (by simpa [kT]using hok) hs hrd sr (by simpa [aU]using hx) hK)
 | loop L a iha =>
   intro B Y r e h env H x e' h' Q hY hok hs hrd sr hx hK
   simp only[kT]at hok
   simp only[aU]at hx
   refine WD.loop (fun m env1 H1=>∃ r1 e1 h1,Agree k r r1∧SR D Y r1 e1 h1 env1 H1∧jQ (aU run runY K k n rd a) k L m e1 h1=some (x,e',h')) (m:=n) ⟨r,e,h,Agree.refl _ _,sr,hx⟩ ?_
   rintro m env1 H1 ⟨r1,e1,h1,ha,sr1,hx1⟩
   cases m with
   | zero=>simp[jQ]at hx1
   | succ m =>
     simp only[jQ]at hx1
     obtain⟨r2,ha2,sr2⟩:=jD sr1 k L
     split at hx1
     ·rename_i e2 h2 hx2
      exact iha B Y r2 _ _ env1 H1 .normal e2 h2 _ hY hok hs ((hrd.agree ha).agree ha2) sr2 hx2 fun r3 env3 H3 ha3 sr3=>⟨m,by omega,r3,e2,h2,(ha.trans ha2).trans ha3,sr3,hx1⟩
     ·rename_i hne
      refine iha B Y r2 _ _ env1 H1 x e' h' _ hY hok hs ((hrd.agree ha).agree ha2) sr2 hx1 fun r3 env3 H3 ha3 sr3=>?_
      cases x with
      | normal=>exact absurd hx1 (hne e' h')
      | exit id=>exact hK r3 env3 H3 ((ha.trans ha2).trans ha3) sr3
      | ret=>exact hK r3 env3 H3 ((ha.trans ha2).trans ha3) sr3
 | rng site L f ps a b iha ihb =>
   intro B Y r e h env H x e' h' Q hY hok hs hrd sr hx hK
   simp only[kT,Bool.and_eq_true]at hok
   obtain⟨hs1,hs2,hs3⟩:=hs
   simp only[aU]at hx
   split at hx
   ·rename_i hcond
    simp only[Bool.and_eq_true]at hcond
    have hfv:=aI sr.re (x:=f) hok.1
    obtain⟨gf,first,cap,hev⟩:∃ g a b,aG e f = .fn (.func g) a b:=by
     have:=hcond.2
     unfold uT at this
     split at this
     ·exact⟨_,_,_,‹_›⟩
     ·simp at this
    rw[hev]at hfv hx
    cases hv:aG env f<;>rw[hv]at hfv<;>cases hfv
    rename_i first' cap' hf0 hl1 k1 hl2 k2
    split at hx
    ·rename_i v h1 hcall
     refine WD.rng (gf:=gf) (first:=first') (cap:=cap') ?_ hv ?_
     ·unfold RdOk at hrd
      split at hrd
      ·exact .inl hrd
      ·rename_i l
       obtain⟨_,c,i,q,g1,g2,g3,g4⟩:=hrd
       right
       refine⟨c,q,g2,?_⟩
       have hin:=hcond.1
       simp only[uU]at hin
       split at hin
       ·rename_i hst
        obtain⟨c',i',o',m1,m2,m3,m4,_⟩:=sr.sh.loopAt hst
        rw[g1]at m1;simp only[oSI]at m1;subst m1
        rw[g3]at m2;simp only[oSI]at m2;subst m2
        simp only[oK]at m4
        rw[m3,m4,g4]
       ·simp at hin
     ·intro B' l oR oB oD hB' hl _ _ hbusy hround
      obtain⟨i,hi⟩:∃ i:YI,i=⟨K,site,env,oR,oB,oD⟩:=⟨_,rfl⟩
      obtain⟨Y',hY'⟩:∃ Y':Nat→Option YI,Y'=fun c=>if c=l then some i else Y c:=⟨_,rfl⟩
      have y1:Y' l=some i:=by rw[hY'];simp
      have y2:∀ c,c≠l→Y' c=Y c:=fun c hc=>by rw[hY'];simp[hc]
      have hYok:YOk P B' D Y':=fun c j hj=>by
       by_cases hc:c=l
       ·subst hc
        rw[y1]at hj;simp only[oSI]at hj;subst hj
        rw[hi]
        refine⟨hbusy,fun d' L' ps' a' b' g1 g2 B1 hB1 as H' Q' g3 g4 g5=>?_⟩
        rw[hD]at g1;simp only[oSI]at g1;subst g1
        rw[hs1]at g2;simp only[oSI,Prod.mk.injEq]at g2
        obtain⟨rfl,rfl,rfl,rfl⟩:=g2
        exact hround B1 hB1 as H' Q' g3 g4 g5
       ·rw[y2 c hc]at hj
        exact(hY.up hB') c j hj
      obtain⟨hf,hy⟩:=hall B' Y' hYok
      have hx0:RnB D Y' r l (.loop K site (L.map e) .ready) (.obj true oR):=by
       have:=RnB.loop (D:=D) (Y:=Y') (r:=r) l i (L.map e) .ready oR d L ps a b y1 (by rw[hi];exact rfl) (by rw[hi];exact hD) (by rw[hi];exact hs1) (by
        rw[hi]
        exact RnL.map fun j _=>(sr.re j).mono (fun _ _ h=>h))
       rw[hi]at this
       exact this
      obtain⟨p1,p2⟩:=sr.sh.push hl y2 hx0
      have hcs:=qG (P:=P) (B:=B') hf hy p2 (fv:=.fn (.func gf) first cap) (fv':=.fn (.func gf) first' cap') (as:=[.fn (.yield h.length) [] []]) (as':=[.fn (.yield l) [] []])
       (.fn _ _ _ _ _ hf0 hl1 (fun i x y hx hy=>(k1 i x y hx hy).mono p1) hl2 (fun i x y hx hy=>(k2 i x y hx hy).mono p1)) (RnL.cons (.yield _ _ (by simp)) RnL.nil) hcall
      refine CallV.mono (fv:=.fn (.func gf) first' cap') (as:=[.fn (.yield l) [] []]) hcs ?_
      rintro v' H' ⟨⟨r2,q1,q2,q3⟩,_⟩
      have hr2:r2 h.length=some l:=q1 h.length l (by simp)
      have fin:∀ (st:LSt),fE h1 h.length=some st→(∃ o,H' l=some (.obj true o)∧oK i st o)∧SR D Y r2 e (h1.set h.length none) env (jZ H' l):=by
       intro st hst
       obtain⟨c',i',o',m1,m2,m3,m4,vs,d',L',ps',a',b',m5,_⟩:=q2.loopAt hst
       rw[hr2]at m1;simp only[oSI]at m1;subst m1
       rw[y1]at m2;simp only[oSI]at m2;subst m2
       obtain⟨G,hG⟩:=q2.gh
       refine⟨⟨o',m3,m4⟩,⟨fun b c hb=>by simpa using q2.dom b c hb,fun b1 b2 c x1 x2 g1 g2 g3 g4=>?_,fun b2 x hx=>?_,_,hG.via id (fun b st p hz=>?_) (fun b z hz=>?_) (fun _ _ _ _ _ _ _ hne=>hne) fun b st p n y' hz hnn hy=>?_⟩,fun j=>(sr.re j).mono (p1.trans q1)⟩
       all_goals
        have live:∀ b z,aJ (h1.set h.length none) b=some z→b≠h.length∧aJ h1 b=some z:=fun b z hz=>by
         rw[dH]at hz
         split at hz
         ·simp at hz
         ·rename_i hc;exact⟨fun e=>hc ⟨e,lY m5⟩,hz⟩
       ·exact q2.inj b1 b2 c x1 x2 (live _ _ g1).2 (live _ _ g2).2 g3 g4
       ·obtain⟨n1,n2⟩:=live _ _ hx
        obtain⟨c,y,w1,w2,w3⟩:=q2.blk b2 x n2
        have hcl:c≠l:=fun e=>by
         subst e
         exact n1 (q2.inj b2 h.length c x _ n2 m5 w1 hr2)
        exact⟨c,y,w1,by simp only[jZ,hcl,if_false];exact w2,w3.mono (fun _ _ h=>h) (fun _=>(y2 c hcl).symm)⟩
       ·exact⟨(live _ _ hz).2,rfl⟩
       ·exact .inl ⟨z,(live _ _ hz).2,rfl,fun st p e=>e⟩
       ·obtain⟨n1,n2⟩:=live _ _ hz
        have hnl:n≠l:=fun e=>by
         subst e
         exact(hG.2 b h.length st p _ n n2 m5 n1 hnn).1 hr2
        simp only[jZ,hnl,if_false];exact hy
      split at hx
      ·rename_i hst
       simp only[oSI,Prod.mk.injEq]at hx
       obtain⟨rfl,rfl,rfl⟩:=hx
       obtain⟨⟨o,u1,u2⟩,u3⟩:=fin _ hst
       simp only[oK,hi]at u2
       subst u2
       exact .inl ⟨u1,hK r2 env _ ((p1.trans q1).agree k) u3⟩
      ·rename_i x0 hst
       simp only[oSI,Prod.mk.injEq]at hx
       obtain⟨rfl,rfl,rfl⟩:=hx
       obtain⟨⟨o,u1,u2⟩,u3⟩:=fin _ hst
       cases x0 with
       | normal=>exact u2.elim
       | ret =>
         simp only[oK,hi]at u2
         subst u2
         exact .inr (.inl ⟨u1,hK r2 env _ ((p1.trans q1).agree k) u3⟩)
       | exit id =>
         simp only[oK,hi]at u2
         subst u2
         exact .inr (.inr ⟨id,u1,hK r2 env _ ((p1.trans q1).agree k) u3⟩)
      ·simp at hx
    ·simp at hx
   ·simp at hx
end
section
variable {P:Program} {B:Base} {D:Nat→Option XFn} {Y:Nat→Option YI} {r:Nat→Option Nat} {e env:aD} {h:XH} {H:Hp}

theorem gN {as as':List AV} (h:RnL D Y r as as') (j:Nat):Rn D Y r (aM as j) (aM as' j):=by
 unfold aM
 rw[List.getD_eq_getElem?_getD,List.getD_eq_getElem?_getD]
 cases hx:as[j]? with
 | none=>exact .any _
 | some x =>
   obtain⟨y,hy,h1⟩:=h.get hx
   rw[hy];exact h1

theorem wS (sr:SR D Y r e h env H) {rs:List (Nat×Option (Bool×Nat))} {v:AV} (hv:fD rs e (aF h)=some v):∃ v',fD rs env H=some v'∧Rn D Y r v v':=by
 have one:∀ {p:Nat×Option (Bool×Nat)} {v:AV},pJ e (aF h) p=some v→∃ v',pJ env H p=some v'∧Rn D Y r v v':=by
  intro p v hv
  obtain⟨t,o⟩:=p
  cases o with
  | none=>simp only[pJ,oSI]at hv ⊢;subst hv;exact⟨_,rfl,sr.re t⟩
  | some q =>
    obtain⟨g,n⟩:=q
    simp only[pJ]at hv ⊢
    exact aDu sr.sh (sr.re t) hv
 have lst:∀ (rs:List (Nat×Option (Bool×Nat))) (vs:List AV),pI e (aF h) rs=some vs→∃ vs',pI env H rs=some vs'∧RnL D Y r vs vs':=by
  intro rs
  induction rs with
  | nil=>intro vs hv;simp only[pI,oSI]at hv;subst hv;exact⟨[],rfl,RnL.nil⟩
  | cons p rs ih =>
    intro vs hv
    simp only[pI]at hv ⊢
    split at hv
    ·rename_i v vs0 h1 h2
     simp only[oSI]at hv;subst hv
     obtain⟨v',k1,k2⟩:=one h1
     obtain⟨vs',k3,k4⟩:=ih vs0 h2
     rw[k1,k3]
     exact⟨v'::vs',rfl,RnL.cons k2 k4⟩
    ·simp at hv
 unfold fD at hv ⊢
 split at hv
 ·rename_i v0 h1
  simp only[oSI]at hv;subst hv
  obtain⟨vs',k1,k2⟩:=lst rs _ h1
  obtain⟨y,ys,rfl,k3,k4⟩:=k2.inv
  obtain rfl:=k4.nil_inv
  rw[k1]
  exact⟨y,rfl,k3⟩
 ·rename_i vs hne h1
  simp only[oSI]at hv;subst hv
  obtain⟨vs',k1,k2⟩:=lst rs _ h1
  rw[k1]
  refine⟨.tup vs',?_,.tup _ _ k2.1 k2.2⟩
  split
  ·rename_i v0 h2
   simp only[oSI]at h2
   subst h2
   exfalso
   have:=k2.1
   cases vs with
   | nil=>simp at this
   | cons a vs=>cases vs with
     | nil=>exact hne a rfl
     | cons b vs=>simp at this
  ·rename_i vs2 hne2 h2
   simp only[oSI]at h2
   rw[h2]
  ·rename_i h2;simp at h2
 ·simp at hv

theorem aFT:∀ (ps:List Nat) (as as':List AV) (e env:aD),RnL D Y r as as'→(∀ j,Rn D Y r (e j) (env j))→∀ j,Rn D Y r (nL e ps as j) (nL env ps as' j)
 | [],as,as',e,env,_,re,j=>by unfold nL;exact re j
 | p::ps,[],as',e,env,h,re,j=>by rw[h.nil_inv];unfold nL;exact re j
 | p::ps,a::as,as',e,env,h,re,j=>by
   obtain⟨a',as2,rfl,h1,h2⟩:=h.inv
   unfold nL
   refine aFT ps as as2 _ _ h2 (fun i=>?_) j
   simp only[upd]
   split
   ·exact h1
   ·exact re i

theorem aGp:∀ (L:List Nat) (vs:List AV) (env:aD),RnL D Y r vs (L.map env)→∀ j,Rn D Y r (eD L vs j) (env j)
 | [],[],env,h,j=>.any _
 | [],_::_,env,h,j=>.any _
 | _::_,[],env,h,j=>.any _
 | k::L,v::vs,env,h,j=>by
   obtain⟨a',as2,h0,h1,h2⟩:=h.inv
   simp only[List.map_cons,List.cons.injEq]at h0
   obtain⟨rfl,rfl⟩:=h0
   simp only[eD]
   split
   ·rename_i hj;subst hj;exact h1
   ·exact aGp L vs env h2 j

theorem qV (sh:SH D Y r h H) {k:Nat} {u u':AV} (hu:Rn D Y r u u'):∃ r',Agree k r r'∧SH D Y r' (mX k (dP k [u] h) h) H∧Rn D Y r' (rnA (keepS k (dP k [u] h)) u) u':=by
 obtain⟨h1,h2⟩:=zB k [u] h
 obtain⟨k1,k2,k3⟩:=zA sh h1 h2
 exact⟨_,k1,k2,k3 _ _ hu⟩

def okD (d:XFn):Bool:=kT d.body&&(match d.dfr with|none=>true|some (l,_)=>lM l)
structure XOk (P:Program) (D:Nat→Option XFn):Prop where
 mixed:P.follows .mixedOrders=true
 is:∀ K d,D K=some d→d.prm=none→aMB P K d.fn
 prm:∀ K d f,D K=some d→d.prm=some f→∀ (B:Base) (Y:Nat→Option YI),YOk P B D Y→∀ (r:Nat→Option Nat) (h:XH) (H:Hp) (as as':List AV) (v:AV) (h':XH),SH D Y r h H→RnL D Y r as as'→f as h=some (v,h')→FnW B P K as' H (bR D Y r v h')
 ok:∀ K d,D K=some d→okD d=true
 sites:∀ K d,D K=some d→eS d d.body

theorem XOk.body (ok:XOk P D) {K:Nat} {d:XFn} (h:D K=some d):kT d.body=true:=by
 have:=ok.ok K d h
 simp only[okD,Bool.and_eq_true]at this
 exact this.1

theorem xK (ok:XOk P D) {run:bZ} {runY:cV} (n:Nat) (ih:∀ (B:Base) (Y:Nat→Option YI),YOk P B D Y→FnS P B D Y run∧YS P B D Y runY):∀ (B:Base) (Y:Nat→Option YI),YOk P B D Y→FnS P B D Y (vN D run runY n)∧YS P B D Y (xL D run runY n):=by
 intro B Y hY
 refine⟨fun r h H K as as' v h' sh hA hx=>?_,fun r h H fv fv' as as' v h' sh hfv hA hx=>?_⟩
 ·simp only[vN]at hx
  split at hx
  ·simp at hx
  ·rename_i d hD
   split at hx
   ·rename_i f hf
    exact ok.prm K d f hD hf B Y hY r h H as as' v h' sh hA hx
   rename_i hpr
   split at hx
   ·rename_i hN
    have main:∀ (as1 as1':List AV),RnL D Y r as1 as1'→as1.length≤d.N→(match d.dfr with
     | none=>aEz (fP K) d.res d.ownR h.length (aU run runY K h.length n none d.body (aM as1) h)
     | some (l,x)=>aKq x h.length (dM run runY l (aM as1) h) fun b e1 h1 =>
       fV (some b) d.res d.ownR h.length (aU run runY K h.length n none d.body e1 h1))=some (v,h')→FnW B P K as1' H (bR D Y r v h'):=by
     intro as1 as1' hA1 hN1 hx
     have goal:∀ (r1:Nat→Option Nat) (env1:aD) (H1:Hp) (e1:aD) (h1:XH) (v0:AV),Agree h.length r r1→SR D Y r1 e1 h1 env1 H1→fD d.res e1 (aF h1)=some v0→iZ d.ownR h.length v0 h1=(v,h') →
      fR (fD d.res env1 H1) fun v_1=>∃ v' H'',Shift (upd anyE 0 v_1) H1 (upd anyE 0 v') H''∧bR D Y r v h' v' H'':=by
      intro r1 env1 H1 e1 h1 v0 ha1 sr1 hv0 hfin
      have goal:fR (fD d.res env1 H1) fun v=>∃ v' H'',Shift (upd anyE 0 v) H1 (upd anyE 0 v') H''∧bR D Y r (iZ d.ownR h.length v0 h1).1 (iZ d.ownR h.length v0 h1).2 v' H'':=by
       obtain⟨v0',k1,k2⟩:=wS sr1 hv0
       rw[k1,optW_some]
       have sr2:SR D Y r1 (upd anyE 0 v0) h1 (upd anyE 0 v0') H1:=⟨sr1.sh,fun j=>by
        simp only[upd]
        split
        ·exact k2
        ·exact .any _⟩
       have post:∀ (u u':AV) (h2:XH) (H2:Hp),SH D Y r1 h2 H2→Rn D Y r1 u u'→bR D Y r (rnA (keepS h.length (dP h.length [u] h2)) u) (mX h.length (dP h.length [u] h2) h2) u' H2:=by
        intro u u' h2 H2 s1 s2
        obtain⟨r2,m1,m2,m3⟩:=qV s1 s2 (k:=h.length)
        exact⟨r2,fun b c hb=>m1 b c (sh.dom b c hb) (ha1 b c (sh.dom b c hb) hb),m2,m3⟩
       unfold iZ
       cases d.ownR with
       | true =>
         simp only[if_true]
         exact⟨v0',H1,Shift.le (Le.refl _),by
          have:=post v0 v0' h1 H1 sr1.sh k2
          simpa [upd]using this⟩
       | false =>
         simp only[Bool.false_eq_true,if_false]
         obtain⟨env2,H2,s1,s2⟩:=nX (jW h1 2 (uM v0)) _ _ _ _ sr2
         have hz:=(s2.re 0).nz
         refine⟨oI (env2 0),H2,s1.trans ?_,post _ _ _ _ s2.sh hz⟩
         intro F w a st re
         refine⟨F,Ext.refl _ _ _,st,fun j=>?_,re.gi⟩
         simp only[upd]
         split
         ·rename_i hj;subst hj;exact(re.rv 0).nz
         ·exact .any _
      rw[hfin]at goal
      exact goal
     refine FnW.shift (FnW.of (ok.is K d hD hpr) (by rw[←hA1.1];exact hN1) ?_)
     have hdf:d.fn.dfr=d.dfr:=rfl
     rw[hdf]
     cases hd:d.dfr with
     | none =>
       rw[hd]at hx
       simp only at hx
       show WD B P none d.N d.fn.body _ _ _
       cases hgc:fP K with
       | true =>
         rw[hgc]at hx
         simp only[aEz]at hx
         unfold aAv at hx
         split at hx
         ·simp at hx
         ·rename_i x e1 h1 hne hex
          simp only[Option.map_eq_some_iff,Prod.mk.injEq]at hx
          obtain⟨v0,hv0,rfl,rfl⟩:=hx
          refine eM hD ok.mixed ih h.length n none none d.body B Y r (aM as1) h (aM as1') H x e1 h1 _ hY (ok.body hD) (ok.sites K d hD) rfl ⟨sh,gN hA1⟩ hex ?_
          intro r1 env1 H1 ha1 sr1
          obtain⟨v0',k1,k2⟩:=wS sr1 hv0
          have g:fR (fD d.res env1 H1) fun v_1=>∃ v' H'',Shift (upd anyE 0 v_1) H1 (upd anyE 0 v') H''∧bR D Y r v0 h1 v' H'':=by
           rw[k1,optW_some]
           exact⟨v0',H1,Shift.le (Le.refl _),r1,fun b c hb=>ha1 b c (sh.dom b c hb) hb,sr1.sh,k2⟩
          cases x with
          | exit id=>exact absurd rfl (hne id)
          | normal=>exact g
          | ret=>exact g
         ·simp at hx
       | false =>
       rw[hgc]at hx
       simp only[aEz]at hx
       unfold fV at hx
       split at hx
       ·simp at hx
       ·rename_i x e1 h1 hne hex
        simp only[aPa,Option.bind_some,Option.map_eq_some_iff]at hx
        obtain⟨v0,hv0,hfin⟩:=hx
        refine eM hD ok.mixed ih h.length n none none d.body B Y r (aM as1) h (aM as1') H x e1 h1 _ hY (ok.body hD) (ok.sites K d hD) rfl ⟨sh,gN hA1⟩ hex ?_
        intro r1 env1 H1 ha1 sr1
        have g:=goal r1 env1 H1 e1 h1 v0 ha1 sr1 hv0 hfin
        cases x with
        | exit id=>exact absurd rfl (hne id)
        | normal=>exact g
        | ret=>exact g
       ·simp at hx
     | some p =>
       obtain⟨l,y⟩:=p
       rw[hd]at hx
       simp only at hx
       show RS B P l (fun env1 H1=>∃ c,env1 y = .ch c∧WD B P none d.N d.fn.body (fnC c d.res _) env1 H1) _ _
       unfold aKq at hx
       split at hx
       ·rename_i e1 h1 hpre
        split at hx
        ·rename_i b hb
         split at hx
         ·rename_i hbk
          unfold fV at hx
          dsimp only at hx
          split at hx
          ·simp at hx
          ·rename_i x e2 h2 hne hex
           simp only[aPa,Option.bind_eq_some_iff,Option.map_eq_some_iff]at hx
           obtain⟨h3,hcl,v0,hv0,hfin⟩:=hx
           have hokl:lM l=true:=by
            have:=ok.ok K d hD
            simp only[okD,hd,Bool.and_eq_true]at this
            exact this.2
           refine fB (P:=P) (B:=B) (ih B Y hY).1 (ih B Y hY).2 l r (aM as1) h (aM as1') H e1 h1 _ hokl ⟨sh,gN hA1⟩ hpre ?_
           intro r1 env1 H1 hs1 sr1
           have hbr:=sr1.re y
           rw[hb]at hbr
           obtain⟨c,hc1,hc2⟩:=aAX hbr
           refine⟨c,hc1,?_⟩
           refine eM hD ok.mixed ih h.length n none none d.body B Y r1 e1 h1 env1 H1 x e2 h2 _ hY (ok.body hD) (ok.sites K d hD) rfl sr1 hex ?_
           intro r2 env2 H2 ha2 sr2
           obtain⟨H3,k1,k2⟩:=aGF sr2.sh (ha2 b c hbk hc2) hcl
           have g:=goal r2 env2 H3 e2 h3 v0 ((hs1.agree _).trans ha2) ⟨k2,sr2.re⟩ hv0 hfin
           have g':fR (vB H2 (.ch c)) fun H'=>fR (fD d.res env2 H') fun v_1=>∃ v' H'',Shift (upd anyE 0 v_1) H' (upd anyE 0 v') H''∧bR D Y r v h' v' H'':=by
            rw[k1,optW_some];exact g
           cases x with
           | exit id=>exact absurd rfl (hne id)
           | normal=>exact g'
           | ret=>exact g'
          ·simp at hx
         ·simp at hx
        ·simp at hx
       ·simp at hx
    cases hown:d.ownA with
    | true =>
      rw[hown]at hx
      simp only[if_true]at hx
      exact main as as' hA hN hx
    | false =>
      rw[hown]at hx
      simp only[Bool.false_eq_true,if_false]at hx
      exact FnW.nz (main _ _ hA.nz (by rw[fJ];simpa using hN) hx)
   ·simp at hx
 ·simp only[xL]at hx
  split at hx
  ·rename_i l
   cases hfv with
   | fn _ _ _ _ _ hf=>exact absurd rfl (hf l)
   | yield _ c hr =>
   show YW B P c as' H _
   split at hx
   ·rename_i K site vs hl
    split at hx
    ·simp at hx
    ·rename_i L ps a b hDs
     simp only[Option.bind_eq_some_iff]at hDs
     obtain⟨d,hD,hsite⟩:=hDs
     split at hx
     ·rename_i hlen
      split at hx
      ·rename_i e1 h1 hex1
       split at hx
       ·rename_i hst1
        split at hx
        ·rename_i x e2 h2 hex2
         split at hx
         ·rename_i hst2
          simp only[oSI]at hx
          obtain⟨c',i,o,g1,g2,g3,g4,vs',d',L',ps',a',b',g5,g6,g7,g8⟩:=sh.loopAt (l:=l) (st:=.ready) (by unfold fE;rw[hl])
          rw[hr]at g1;simp only[oSI]at g1;subst g1
          rw[hl]at g5;simp only[oSI,XB.loop.injEq,and_true]at g5
          obtain⟨rfl,rfl,rfl⟩:=g5
          rw[hD]at g6;simp only[oSI]at g6;subst g6
          rw[hsite]at g7;simp only[oSI,Prod.mk.injEq]at g7
          obtain⟨rfl,rfl,rfl,rfl⟩:=g7
          simp only[oK]at g4
          subst g4
          obtain⟨⟨q,hq⟩,prov⟩:=hY c i g2
          have hrd:RdOk Y r h.length (some l) (some c):=⟨sh.dom l c hr,c,i,q,hr,rfl,g2,hq⟩
          obtain⟨hs1,hs2⟩:eS d a∧eS d b:=by
           have aux:∀ (code:XCode),eS d code→∀ s L ps a b,cT code s=some (L,ps,a,b)→eS d a∧eS d b:=by
            intro code
            induction code with
            | seq a b iha ihb =>
              intro hs s L ps a' b' h
              simp only[cT]at h
              split at h
              ·rename_i r0 h0;simp only[oSI]at h;subst h;exact iha hs.1 s _ _ _ _ h0
              ·exact ihb hs.2 s _ _ _ _ h
            | cond c a b iha ihb =>
              intro hs s L ps a' b' h
              simp only[cT]at h
              split at h
              ·rename_i r0 h0;simp only[oSI]at h;subst h;exact iha hs.1 s _ _ _ _ h0
              ·exact ihb hs.2 s _ _ _ _ h
            | block id a iha=>intro hs s L ps a' b' h;exact iha hs s _ _ _ _ (by simpa [cT]using h)
            | loop l a iha=>intro hs s L ps a' b' h;exact iha hs s _ _ _ _ (by simpa [cT]using h)
            | scope a iha=>intro hs s L ps a' b' h;exact iha hs s _ _ _ _ (by simpa [cT]using h)
            | rng s' L' f ps' a b iha ihb =>
              intro hs s L ps a' b' h
              simp only[cT]at h
              split at h
              ·simp only[oSI,Prod.mk.injEq]at h
               obtain⟨rfl,rfl,rfl,rfl⟩:=h
               exact hs.2
              ·split at h
               ·rename_i r0 h0;simp only[oSI]at h;subst h;exact iha hs.2.1 s _ _ _ _ h0
               ·exact ihb hs.2.2 s _ _ _ _ h
            | skip=>intro hs s L ps a' b' h;simp[cT]at h
            | exit id=>intro hs s L ps a' b' h;simp[cT]at h
            | ret=>intro hs s L ps a' b' h;simp[cT]at h
            | reg fz dr ops=>intro hs s L ps a' b' h;simp[cT]at h
           exact aux d.body (ok.sites _ d hD) _ _ _ _ _ hsite
          obtain⟨hok1,hok2⟩:kT a=true∧kT b=true:=by
           have aux:∀ (code:XCode),kT code=true→∀ s L ps a b,cT code s=some (L,ps,a,b)→kT a=true∧kT b=true:=by
            intro code
            induction code with
            | seq a b iha ihb =>
              intro hs s L ps a' b' h
              simp only[kT,Bool.and_eq_true]at hs
              simp only[cT]at h
              split at h
              ·rename_i r0 h0;simp only[oSI]at h;subst h;exact iha hs.1 s _ _ _ _ h0
              ·exact ihb hs.2 s _ _ _ _ h
            | cond c a b iha ihb =>
              intro hs s L ps a' b' h
              simp only[kT,Bool.and_eq_true]at hs
              simp only[cT]at h
              split at h
              ·rename_i r0 h0;simp only[oSI]at h;subst h;exact iha hs.2.1 s _ _ _ _ h0
              ·exact ihb hs.2.2 s _ _ _ _ h
            | block id a iha=>intro hs s L ps a' b' h;exact iha (by simpa [kT]using hs) s _ _ _ _ (by simpa [cT]using h)
            | loop l a iha=>intro hs s L ps a' b' h;exact iha (by simpa [kT]using hs) s _ _ _ _ (by simpa [cT]using h)
            | scope a iha=>intro hs s L ps a' b' h;exact iha (by simpa [kT]using hs) s _ _ _ _ (by simpa [cT]using h)
            | rng s' L' f ps' a b iha ihb =>
              intro hs s L ps a' b' h
              simp only[kT,Bool.and_eq_true]at hs
              simp only[cT]at h
              split at h
              ·simp only[oSI,Prod.mk.injEq]at h
               obtain⟨rfl,rfl,rfl,rfl⟩:=h
               exact hs.2
              ·split at h
               ·rename_i r0 h0;simp only[oSI]at h;subst h;exact iha hs.2.1 s _ _ _ _ h0
               ·exact ihb hs.2.2 s _ _ _ _ h
            | skip=>intro hs s L ps a' b' h;simp[cT]at h
            | exit id=>intro hs s L ps a' b' h;simp[cT]at h
            | ret=>intro hs s L ps a' b' h;simp[cT]at h
            | reg fz dr ops=>intro hs s L ps a' b' h;simp[cT]at h
           exact aux d.body (ok.body hD) _ _ _ _ _ hsite
          refine prov d L ps a b hD hsite B (Up.refl _ _) as' H _ g3 (by rw[←hA.1];exact hlen) ?_
          refine eM hD ok.mixed ih h.length n (some l) (some c) a B Y r _ h _ H .normal e1 h1 _ hY hok1 hs1 hrd ⟨sh,aFT ps as as' _ _ hA (aGp L vs i.env g8)⟩ hex1 ?_
          intro r1 env1 H1 ha1 sr1
          obtain⟨c1,i1,o1,m1,m2,m3,m4,_⟩:=sr1.sh.loopAt hst1
          have hr1:r1 l=some c:=ha1 l c (sh.dom l c hr) hr
          rw[hr1]at m1;simp only[oSI]at m1;subst m1
          rw[g2]at m2;simp only[oSI]at m2;subst m2
          simp only[oK]at m4
          subst m4
          refine⟨rfl,m3,?_⟩
          have sh1':=sr1.sh.loopTo (st':=.busy) (o:=i.oB) hst1 hr1 g2 rfl
          refine eM hD ok.mixed ih h.length n (some l) (some c) b B Y r1 e1 _ env1 _ x e2 h2 _ hY hok2 hs2 (hrd.agree ha1) ⟨sh1',sr1.re⟩ hex2 ?_
          intro r2 env2 H2 ha2 sr2
          obtain⟨c2,i2,o2,p1,p2,p3,p4,_⟩:=sr2.sh.loopAt hst2
          have hr2:r2 l=some c:=ha2 l c (sh.dom l c hr) hr1
          rw[hr2]at p1;simp only[oSI]at p1;subst p1
          rw[g2]at p2;simp only[oSI]at p2;subst p2
          simp only[oK]at p4
          subst p4
          refine⟨p3,?_⟩
          have post:∀ (bv:Bool) (st':LSt) (o:Obj),oK i st' o→bR D Y r (iZ true h.length (.bool bv) (loopTo h2 l st')).1 (iZ true h.length (.bool bv) (loopTo h2 l st')).2 (.bool bv) (hset H2 c (.obj true o)):=by
           intro bv st' o ho
           have sh2':=sr2.sh.loopTo (st':=st') (o:=o) hst2 hr2 g2 ho
           obtain⟨r3,s1,s2,s3⟩:=qV sh2' (k:=h.length) (u:=.bool bv) (.bool bv)
           refine⟨r3,fun b c hb=>s1 b c (sh.dom b c hb) (ha2 b c (sh.dom b c hb) (ha1 b c (sh.dom b c hb) hb)),?_,?_⟩
           ·simpa [iZ,upd]using s2
           ·simpa [iZ,upd]using s3
          cases x with
          | normal =>
            have:=post true .ready i.oR rfl
            simp only at hx
            rw[hx]at this
            exact this
          | ret =>
            have:=post false (.done .ret) (i.oD .ret) rfl
            simp only at hx
            rw[hx]at this
            exact this
          | exit id =>
            have:=post false (.done (.exit id)) (i.oD (.exit id)) rfl
            simp only at hx
            rw[hx]at this
            exact this
         ·simp at hx
        ·simp at hx
       ·simp at hx
      ·simp at hx
     ·simp at hx
   ·simp at hx
  ·simp at hx
theorem kI (ok:XOk P D):∀ (n:Nat) (B:Base) (Y:Nat→Option YI),YOk P B D Y→FnS P B D Y (bU D n)∧YS P B D Y (bG D n):=by
 intro n
 induction n with
 | zero =>
   intro B Y hY
   exact⟨fun r h H K as as' v h' _ _ hx=>by simp[bU]at hx,fun r h H fv fv' as as' v h' _ _ _ hx=>by simp[bG]at hx⟩
 | succ n ih =>
   intro B Y hY
   have:=xK ok n ih B Y hY
   simpa only[bU,bG]using this

end
def pN:XCode→Bool
 | .seq a b | .cond _ a b=>pN a&&pN b
 | .block _ a | .loop _ a | .scope a=>pN a
 | .rng .. => false
 | _=>true
theorem aN {d:XFn}:∀ {c:XCode},pN c=true→eS d c
 | .seq a b,h=>by simp only[pN,Bool.and_eq_true]at h;exact⟨aN h.1,aN h.2⟩
 | .cond c a b,h=>by simp only[pN,Bool.and_eq_true]at h;exact⟨aN h.1,aN h.2⟩
 | .block id a,h=>aN (c:=a) (by simpa [pN]using h)
 | .loop l a,h=>aN (c:=a) (by simpa [pN]using h)
 | .scope a,h=>aN (c:=a) (by simpa [pN]using h)
 | .rng ..,h=>by simp[pN]at h
 | .skip,_=>trivial
 | .exit _,_=>trivial
 | .ret,_=>trivial
 | .reg ..,_=>trivial

def LeR (f g:bZ):Prop:=∀ K as h q,f K as h=some q→g K as h=some q
def LeY (f g:cV):Prop:=∀ v as h q,f v as h=some q→g v as h=some q
section
variable {run run':bZ} {runY runY':cV}

theorem sJ (hr:LeR run run') (hy:LeY runY runY') {fv:AV} {as:List AV} {h:XH} {q:AV×XH} (hx:eQ run runY fv as h=some q):eQ run' runY' fv as h=some q:=by
 unfold eQ at hx ⊢
 split at hx
 ·rename_i g first cap
  cases hg:fP g with
  | true=>rw[hg]at hx;exact hr _ _ _ _ hx
  | false =>
    rw[hg]at hx
    simp only[wH,Option.map_eq_some_iff]at hx ⊢
    obtain⟨a,h1,h2⟩:=hx
    exact⟨a,hr _ _ _ _ h1,h2⟩
 ·simp only[Option.map_eq_some_iff]at hx ⊢
  obtain⟨a,h1,h2⟩:=hx
  exact⟨a,hy _ _ _ _ h1,h2⟩
 ·simp at hx
theorem aAd (hr:LeR run run') {fv:AV} {as:List AV} {h:XH} {q:AV} (hx:lE run fv as h=some q):lE run' fv as h=some q:=by
 unfold lE at hx ⊢
 split at hx
 ·simp only at hx ⊢
  split at hx
  ·rename_i v hl h1
   rw[hr _ _ _ _ h1];exact hx
  ·simp at hx
 ·simp at hx
theorem kO (hr:LeR run run') (hy:LeY runY runY') {d:Option Nat} {op:DOp} {e:aD} {h:XH} {q:aD×XH} (hx:bT run runY d op e h=some q):bT run' runY' d op e h=some q:=by
 cases op with
 | callf b f xs l =>
   cases b with
   | true =>
     simp only[bT,Option.map_eq_some_iff]at hx ⊢
     obtain⟨a,h1,h2⟩:=hx
     exact⟨a,aAd hr h1,h2⟩
   | false =>
     simp only[bT,Option.map_eq_some_iff]at hx ⊢
     obtain⟨a,h1,h2⟩:=hx
     exact⟨a,sJ hr hy h1,h2⟩
 | _=>exact hx
theorem kC (hr:LeR run run') (hy:LeY runY runY'):∀ (ops:List DOper) (e:aD) (h:XH) (q:aD×XH),dM run runY ops e h=some q→dM run' runY' ops e h=some q
 | [],e,h,q,hx=>hx
 | o::ops,e,h,q,hx=>by
   simp only[dM]at hx ⊢
   split at hx
   ·simp only[Option.bind_eq_some_iff]at hx ⊢
    obtain⟨s,h1,h2⟩:=hx
    exact⟨s,kO hr hy h1,kC hr hy ops _ _ q h2⟩
   ·exact kC hr hy ops _ _ q hx
   ·simp at hx
theorem kN (hr:LeR run run') (hy:LeY runY runY'):∀ (ops:List DOper) (e:aD) (h:XH) (L:List (Nat×Nat)) (q:aD×XH),dK run runY ops e h L=some q→dK run' runY' ops e h L=some q
 | [],e,h,L,q,hx=>hx
 | o::ops,e,h,L,q,hx=>by
   simp only[dK]at hx ⊢
   split at hx
   ·split at hx
    ·rename_i hl
     rw[if_pos hl]
     simp only[Option.bind_eq_some_iff]at hx ⊢
     obtain⟨s,h1,h2⟩:=hx
     refine⟨s,kO hr hy h1,?_⟩
     split at h2
     ·rename_i hp;rw[if_pos hp];exact kN hr hy ops _ _ _ q h2
     ·simp at h2
    ·simp at hx
   ·exact kN hr hy ops _ _ _ q hx
   ·simp at hx

theorem nS {step step':aD→XH→Option (DX×aD×XH)} (hs:∀ e h q,step e h=some q→step' e h=some q) {k:Nat} {L:List Nat}:∀ (n m:Nat),n≤m→∀ (e:aD) (h:XH) (q:DX×aD×XH),jQ step k L n e h=some q→jQ step' k L m e h=some q
 | 0,_,_,e,h,q,hx=>by simp[jQ]at hx
 | n+1,0,hnm,e,h,q,hx=>by omega
 | n+1,m+1,hnm,e,h,q,hx=>by
   simp only[jQ]at hx ⊢
   split at hx
   ·rename_i e' h' h1
    rw[hs _ _ _ h1]
    exact nS hs n m (by omega) e' h' q hx
   ·rename_i hne
    rw[hs _ _ _ hx]
    obtain⟨x,e',h'⟩:=q
    cases x with
    | normal=>exact absurd hx (hne e' h')
    | _=>rfl

theorem lB (hr:LeR run run') (hy:LeY runY runY') {K k n m:Nat} (hnm:n≤m) {rd:Option Nat}:∀ (c:XCode) (e:aD) (h:XH) (q:DX×aD×XH),aU run runY K k n rd c e h=some q→aU run' runY' K k m rd c e h=some q:=by
 intro c
 induction c with
 | skip=>intro e h q hx;exact hx
 | exit id=>intro e h q hx;exact hx
 | ret=>intro e h q hx;exact hx
 | reg fz draw ops =>
   intro e h q hx
   simp only[aU,Option.map_eq_some_iff]at hx ⊢
   obtain⟨s,h1,h2⟩:=hx
   refine⟨s,?_,h2⟩
   split at h1
   ·rename_i hd;rw[if_pos hd];exact kN hr hy _ _ _ _ _ h1
   ·rename_i hd;rw[if_neg hd];exact kC hr hy _ _ _ _ h1
 | seq a b iha ihb =>
   intro e h q hx
   simp only[aU]at hx ⊢
   split at hx
   ·rename_i e1 h1 h2
    rw[iha _ _ _ h2]
    exact ihb _ _ _ hx
   ·rename_i hne
    rw[iha _ _ _ hx]
    obtain⟨x,e',h'⟩:=q
    cases x with
    | normal=>exact absurd hx (hne e' h')
    | _=>rfl
 | cond c a b iha ihb =>
   intro e h q hx
   simp only[aU]at hx ⊢
   split at hx
   ·exact iha _ _ _ hx
   ·exact ihb _ _ _ hx
   ·simp at hx
 | block id a iha =>
   intro e h q hx
   simp only[aU]at hx ⊢
   split at hx
   ·rename_i j e1 h1 h2
    rw[iha _ _ _ h2];exact hx
   ·rename_i hne
    rw[iha _ _ _ hx]
    obtain⟨x,e',h'⟩:=q
    cases x with
    | exit id=>exact absurd hx (hne id e' h')
    | _=>rfl
 | scope a iha=>intro e h q hx;exact iha _ _ _ hx
 | loop L a iha=>intro e h q hx;exact nS iha n m hnm e h q hx
 | rng site L f ps a b _ _ =>
   intro e h q hx
   simp only[aU]at hx ⊢
   split at hx
   ·rename_i hc
    rw[if_pos hc]
    split at hx
    ·rename_i v h' h1
     rw[sJ hr hy h1];exact hx
    ·simp at hx
   ·simp at hx
end

theorem aAT (D:Nat→Option XFn):∀ n,LeR (bU D n) (bU D (n+1))∧LeY (bG D n) (bG D (n+1)):=by
 intro n
 induction n with
 | zero=>exact⟨fun K as h q hx=>by simp[bU]at hx,fun v as h q hx=>by simp[bG]at hx⟩
 | succ n ih =>
   refine⟨fun K as h q hx=>?_,fun v as h q hx=>?_⟩
   ·rw[bU]at hx ⊢
    unfold vN at hx ⊢
    split at hx
    ·simp at hx
    ·rename_i d hd
     split at hx
     ·exact hx
     split at hx
     ·rename_i hl
      rw[if_pos hl]
      have ret:∀ c e1 h1 q,fV c d.res d.ownR h.length (aU (bU D n) (bG D n) K h.length n none d.body e1 h1)=some q→fV c d.res d.ownR h.length (aU (bU D (n+1)) (bG D (n+1)) K h.length (n+1) none d.body e1 h1)=some q:=by
       intro c e1 h1 q hq
       cases he:aU (bU D n) (bG D n) K h.length n none d.body e1 h1 with
       | none=>rw[he]at hq;simp[fV]at hq
       | some s=>rw[lB ih.1 ih.2 (Nat.le_succ n) _ _ _ _ he,←he];exact hq
      split at hx
      ·cases hgc:fP K with
       | true =>
         rw[hgc]at hx
         simp only[aEz]at hx ⊢
         cases he:aU (bU D n) (bG D n) K h.length n none d.body (aM (if d.ownA then as else jJ as)) h with
         | none=>rw[he]at hx;simp[aAv]at hx
         | some s=>rw[lB ih.1 ih.2 (Nat.le_succ n) _ _ _ _ he,←he];exact hx
       | false=>rw[hgc]at hx;exact ret _ _ _ _ hx
      ·rename_i l y hdf
       cases ho:dM (bU D n) (bG D n) l (aM (if d.ownA then as else jJ as)) h with
       | none=>rw[ho]at hx;simp[aKq]at hx
       | some s =>
         rw[ho]at hx
         rw[kC ih.1 ih.2 _ _ _ _ ho]
         unfold aKq at hx ⊢
         dsimp only at hx ⊢
         split at hx
         ·split at hx
          ·rename_i hb
           rw[if_pos hb]
           exact ret _ _ _ _ hx
          ·simp at hx
         ·simp at hx
     ·simp at hx
   ·simp only[bG]at hx
    unfold xL at hx
    split at hx
    ·rename_i l
     split at hx
     ·rename_i K site vs hl
      rw[bG]
      unfold xL
      simp only[hl]
      split at hx
      ·simp at hx
      ·rename_i L ps a b h1
       split at hx
       ·rename_i hc
        simp only[h1,hc,if_true]
        split at hx
        ·rename_i e1 h1' h2
         rw[lB ih.1 ih.2 (Nat.le_succ n) _ _ _ _ h2]
         simp only
         split at hx
         ·rename_i hst
          split at hx
          ·rename_i x e2 h2' h3
           rw[lB ih.1 ih.2 (Nat.le_succ n) _ _ _ _ h3]
           exact hx
          ·simp at hx
         ·simp at hx
        ·simp at hx
       ·simp at hx
     ·simp at hx
    ·simp at hx
theorem gE (D:Nat→Option XFn) {n m:Nat} (h:n≤m):LeR (bU D n) (bU D m)∧LeY (bG D n) (bG D m):=by
 induction h with
 | refl=>exact⟨fun _ _ _ _ h=>h,fun _ _ _ _ h=>h⟩
 | step _ ih=>exact⟨fun K as h q hx=>(aAT D _).1 _ _ _ _ (ih.1 _ _ _ _ hx),fun K as h q hx=>(aAT D _).2 _ _ _ _ (ih.2 _ _ _ _ hx)⟩

section
variable {α β:Type}
def aGA (f:Nat→Option α):Prop:=∀ n m q,n≤m→f n=some q→f m=some q
noncomputable def lim (f:Nat→Option α):Option α:=open Classical in if h:∃ q n,f n=some q then some h.choose else none
theorem aCk {f:Nat→Option α} (hm:aGA f) {q:α}:lim f=some q↔∃ n,f n=some q:=by
 unfold lim
 constructor
 ·intro h
  split at h
  ·rename_i hx
   simp only[oSI]at h
   rw[←h];exact hx.choose_spec
  ·simp at h
 ·rintro ⟨n,hn⟩
  have hx:∃ q n,f n=some q:=⟨q,n,hn⟩
  rw[dif_pos hx]
  obtain⟨m,h2⟩:=hx.choose_spec
  have h3:=hm n (max n m) q (by omega) hn
  have h4:=hm m (max n m) _ (by omega) h2
  rw[h3]at h4
  exact h4.symm
theorem gT {x y:Option α} (h:∀ q,x=some q↔y=some q):x=y:=by
 cases x with
 | none=>cases y with
   | none=>rfl
   | some b=>exact absurd ((h b).2 rfl) (by simp)
 | some a=>exact((h a).1 rfl).symm
end

variable (D:Nat→Option XFn)
noncomputable def runW:bZ:=fun K as h=>lim fun n=>bU D n K as h
noncomputable def runYW:cV:=fun v as h=>lim fun n=>bG D n v as h
noncomputable def execW (K k:Nat) (rd:Option Nat) (c:XCode) (e:aD) (h:XH):Option (DX×aD×XH):=lim fun n=>aU (bU D n) (bG D n) K k n rd c e h

theorem aEw (K:Nat) (as:List AV) (h:XH):aGA fun n=>bU D n K as h:=fun _ _ _ hnm hx=>(gE D hnm).1 _ _ _ _ hx
theorem aCS (v:AV) (as:List AV) (h:XH):aGA fun n=>bG D n v as h:=fun _ _ _ hnm hx=>(gE D hnm).2 _ _ _ _ hx
theorem eG (K k:Nat) (rd:Option Nat) (c:XCode) (e:aD) (h:XH):aGA fun n=>aU (bU D n) (bG D n) K k n rd c e h :=
 fun _ _ _ hnm hx=>lB (gE D hnm).1 (gE D hnm).2 hnm _ _ _ _ hx
variable {D}
theorem eA {K:Nat} {as:List AV} {h:XH} {q:AV×XH}:runW D K as h=some q↔∃ n,bU D n K as h=some q:=aCk (aEw D K as h)
theorem qL {v:AV} {as:List AV} {h:XH} {q:AV×XH}:runYW D v as h=some q↔∃ n,bG D n v as h=some q:=aCk (aCS D v as h)
theorem aQ {K k:Nat} {rd:Option Nat} {c:XCode} {e:aD} {h:XH} {q:DX×aD×XH}:execW D K k rd c e h=some q↔∃ n,aU (bU D n) (bG D n) K k n rd c e h=some q:=aCk (eG D K k rd c e h)
theorem aDw (n:Nat):LeR (bU D n) (runW D):=fun _ _ _ _ hx=>eA.2 ⟨n,hx⟩
theorem aGe (n:Nat):LeY (bG D n) (runYW D):=fun _ _ _ _ hx=>qL.2 ⟨n,hx⟩

theorem vF {fv:AV} {as:List AV} {h:XH} {q:AV×XH}:eQ (runW D) (runYW D) fv as h=some q↔∃ n,eQ (bU D n) (bG D n) fv as h=some q:=by
 constructor
 ·intro hx
  unfold eQ at hx
  split at hx
  ·rename_i g first cap
   cases hg:fP g with
   | true =>
     rw[hg]at hx
     obtain⟨n,h1⟩:=eA.1 hx
     exact⟨n,by simp only[eQ,hg];exact h1⟩
   | false =>
     rw[hg]at hx
     simp only[wH,Option.map_eq_some_iff]at hx
     obtain⟨a,h1,h2⟩:=hx
     obtain⟨n,h1⟩:=eA.1 h1
     exact⟨n,by simp only[eQ,hg,wH,Option.map_eq_some_iff];exact⟨a,h1,h2⟩⟩
  ·simp only[Option.map_eq_some_iff]at hx
   obtain⟨a,h1,h2⟩:=hx
   obtain⟨n,h1⟩:=qL.1 h1
   exact⟨n,by simp only[eQ,Option.map_eq_some_iff];exact⟨a,h1,h2⟩⟩
  ·simp at hx
 ·rintro ⟨n,hx⟩
  exact sJ (aDw n) (aGe n) hx
theorem aHD {fv:AV} {as:List AV} {h:XH} {q:AV}:lE (runW D) fv as h=some q↔∃ n,lE (bU D n) fv as h=some q:=by
 constructor
 ·intro hx
  unfold lE at hx
  split at hx
  ·simp only at hx
   split at hx
   ·rename_i v hl h1
    obtain⟨n,h1⟩:=eA.1 h1
    exact⟨n,by simp only[lE,h1];exact hx⟩
   ·simp at hx
  ·simp at hx
 ·rintro ⟨n,hx⟩
  exact aAd (aDw n) hx
theorem aAG {d:Option Nat} {op:DOp} {e:aD} {h:XH} {q:aD×XH}:bT (runW D) (runYW D) d op e h=some q↔∃ n,bT (bU D n) (bG D n) d op e h=some q:=by
 constructor
 ·intro hx
  cases op with
  | callf b f xs l =>
    cases b with
    | true =>
      simp only[bT,Option.map_eq_some_iff]at hx ⊢
      obtain⟨a,h1,h2⟩:=hx
      obtain⟨n,h1⟩:=aHD.1 h1
      exact⟨n,a,h1,h2⟩
    | false =>
      simp only[bT,Option.map_eq_some_iff]at hx ⊢
      obtain⟨a,h1,h2⟩:=hx
      obtain⟨n,h1⟩:=vF.1 h1
      exact⟨n,a,h1,h2⟩
  | _=>exact⟨0,hx⟩
 ·rintro ⟨n,hx⟩
  exact kO (aDw n) (aGe n) hx
theorem aCz:∀ {ops:List DOper} {e:aD} {h:XH} {q:aD×XH},dM (runW D) (runYW D) ops e h=some q↔∃ n,dM (bU D n) (bG D n) ops e h=some q:=by
 intro ops e h q
 refine⟨?_,fun⟨n,hx⟩=>kC (aDw n) (aGe n) _ _ _ _ hx⟩
 induction ops generalizing e h with
 | nil=>exact fun hx=>⟨0,hx⟩
 | cons o ops ih =>
   intro hx
   simp only[dM]at hx ⊢
   split at hx
   ·simp only[Option.bind_eq_some_iff]at hx ⊢
    obtain⟨s,h1,h2⟩:=hx
    obtain⟨n,h1⟩:=aAG.1 h1
    obtain⟨m,h2⟩:=ih h2
    exact⟨max n m,s,kO (gE D (by omega)).1 (gE D (by omega)).2 h1,kC (gE D (by omega)).1 (gE D (by omega)).2 _ _ _ _ h2⟩
   ·exact ih hx
   ·simp at hx
theorem aAF:∀ {ops:List DOper} {e:aD} {h:XH} {L:List (Nat×Nat)} {q:aD×XH},dK (runW D) (runYW D) ops e h L=some q↔∃ n,dK (bU D n) (bG D n) ops e h L=some q:=by
 intro ops e h L q
 refine⟨?_,fun⟨n,hx⟩=>kN (aDw n) (aGe n) _ _ _ _ _ hx⟩
 induction ops generalizing e h L with
 | nil=>exact fun hx=>⟨0,hx⟩
 | cons o ops ih =>
   intro hx
   simp only[dK]at hx ⊢
   split at hx
   ·split at hx
    ·rename_i hl
     simp only[hl,if_true]
     simp only[Option.bind_eq_some_iff]at hx ⊢
     obtain⟨s,h1,h2⟩:=hx
     obtain⟨n,h1⟩:=aAG.1 h1
     split at h2
     ·rename_i hp
      obtain⟨m,h2⟩:=ih h2
      exact⟨max n m,s,kO (gE D (by omega)).1 (gE D (by omega)).2 h1,by rw[if_pos hp];exact kN (gE D (by omega)).1 (gE D (by omega)).2 _ _ _ _ _ h2⟩
     ·simp at h2
    ·simp at hx
   ·exact ih hx
   ·simp at hx

section
variable {K k:Nat} {rd:Option Nat} {e:aD} {h:XH}
theorem Sw:execW D K k rd .skip e h=some (.normal,e,h):=aQ.2 ⟨0,rfl⟩
theorem Sx {id:Nat}:execW D K k rd (.exit id) e h=some (.exit id,e,h):=aQ.2 ⟨0,rfl⟩
theorem Sv:execW D K k rd .ret e h=some (.ret,e,h):=aQ.2 ⟨0,rfl⟩
theorem zO {fz:List (Nat×Bool)} {ops:List DOper}:execW D K k rd (.reg fz false ops) e h=(dM (runW D) (runYW D) ops (sE fz e h).1 (sE fz e h).2).map fun r=>(.normal,r.1,r.2):=gT fun q=>by
 rw[aQ]
 simp only[aU,Bool.false_eq_true,if_false,Option.map_eq_some_iff,aCz]
 exact⟨fun⟨n,a,h1,h2⟩=>⟨a,⟨n,h1⟩,h2⟩,fun⟨a,⟨n,h1⟩,h2⟩=>⟨n,a,h1,h2⟩⟩
theorem zP {fz:List (Nat×Bool)} {ops:List DOper}:execW D K k rd (.reg fz true ops) e h=(dK (runW D) (runYW D) ops (sE fz e h).1 (sE fz e h).2 []).map fun r=>(.normal,r.1,r.2):=gT fun q=>by
 rw[aQ]
 simp only[aU,if_true,Option.map_eq_some_iff,aAF]
 exact⟨fun⟨n,a,h1,h2⟩=>⟨a,⟨n,h1⟩,h2⟩,fun⟨a,⟨n,h1⟩,h2⟩=>⟨n,a,h1,h2⟩⟩

def sT (r:Option (DX×aD×XH)) (f:aD→XH→Option (DX×aD×XH)):Option (DX×aD×XH):=match r with
 | some (.normal,e,h)=>f e h
 | r=>r
theorem Sz (f:aD→XH→Option (DX×aD×XH)) (e:aD) (h:XH):sT (some (.normal,e,h)) f=f e h:=rfl
theorem S2 (f:aD→XH→Option (DX×aD×XH)) (id:Nat) (e:aD) (h:XH):sT (some (.exit id,e,h)) f=some (.exit id,e,h):=rfl
theorem S3 (f:aD→XH→Option (DX×aD×XH)) (e:aD) (h:XH):sT (some (.ret,e,h)) f=some (.ret,e,h):=rfl
theorem mE {r:Option (DX×aD×XH)} {f:aD→XH→Option (DX×aD×XH)} {q:DX×aD×XH}:sT r f=some q↔(∃ e h,r=some (.normal,e,h)∧f e h=some q)∨(q.1 ≠ .normal∧r=some q):=by
 unfold sT
 split
 ·rename_i e h
  constructor
  ·exact fun hf=>.inl ⟨e,h,rfl,hf⟩
  ·rintro (⟨e',h',h1,h2⟩|⟨h1,h2⟩)
   ·simp only[oSI,Prod.mk.injEq,true_and]at h1;obtain⟨rfl,rfl⟩:=h1;exact h2
   ·simp only[oSI]at h2;subst h2;exact absurd rfl h1
 ·rename_i hne
  constructor
  ·intro hr
   refine .inr ⟨fun hq=>?_,hr⟩
   obtain⟨x,e,h⟩:=q
   simp only at hq;subst hq
   exact hne e h hr
  ·rintro (⟨e',h',h1,h2⟩|⟨h1,h2⟩)
   ·exact absurd h1 (hne e' h')
   ·exact h2
theorem aHt {run:bZ} {runY:cV} {n:Nat} {a b:XCode}:aU run runY K k n rd (.seq a b) e h=sT (aU run runY K k n rd a e h) (aU run runY K k n rd b):=rfl
theorem Su {a b:XCode}:execW D K k rd (.seq a b) e h=sT (execW D K k rd a e h) (execW D K k rd b):=gT fun q=>by
 rw[aQ]
 simp only[aHt,mE,aQ]
 constructor
 ·rintro ⟨n,⟨e1,h1,h2,h3⟩|⟨h1,h2⟩⟩
  ·exact .inl ⟨e1,h1,⟨n,h2⟩,⟨n,h3⟩⟩
  ·exact .inr ⟨h1,n,h2⟩
 ·rintro (⟨e1,h1,⟨n,h2⟩,⟨m,h3⟩⟩|⟨h1,n,h2⟩)
  ·exact⟨max n m,.inl ⟨e1,h1,eG D K k rd a e h n _ _ (by omega) h2,eG D K k rd b e1 h1 m _ _ (by omega) h3⟩⟩
  ·exact⟨n,.inr ⟨h1,h2⟩⟩
theorem aFb {c:AO} {a b:XCode}:execW D K k rd (.cond c a b) e h=match aG e c with
 | .bool true=>execW D K k rd a e h
 | .bool false=>execW D K k rd b e h
 | _=>none:=gT fun q=>by
 rw[aQ]
 simp only[aU]
 cases aG e c with
 | bool t=>cases t<;>simp only[aQ]
 | _=>simp
def sL (id:Nat) (r:Option (DX×aD×XH)):Option (DX×aD×XH):=match r with
 | some (.exit j,e',h')=>if j=id then some (.normal,e',h') else some (.exit j,e',h')
 | r=>r
theorem S4 (id:Nat) (e:aD) (h:XH):sL id (some (.normal,e,h))=some (.normal,e,h):=rfl
theorem S5 (id:Nat) (e:aD) (h:XH):sL id (some (.ret,e,h))=some (.ret,e,h):=rfl
theorem S6 (id j:Nat) (e:aD) (h:XH):sL id (some (.exit j,e,h))=if j=id then some (.normal,e,h) else some (.exit j,e,h):=rfl
theorem Sy {id:Nat} {a:XCode}:execW D K k rd (.block id a) e h=sL id (execW D K k rd a e h):=gT fun q=>by
 have he:∀ n,aU (bU D n) (bG D n) K k n rd (.block id a) e h=sL id (aU (bU D n) (bG D n) K k n rd a e h):=fun _=>rfl
 rw[aQ]
 simp only[he]
 constructor
 ·rintro ⟨n,hn⟩
  cases hx:aU (bU D n) (bG D n) K k n rd a e h with
  | none=>rw[hx]at hn;simp[sL]at hn
  | some s=>rw[aQ.2 ⟨n,hx⟩,←hx];exact hn
 ·intro hq
  cases hx:execW D K k rd a e h with
  | none=>rw[hx]at hq;simp[sL]at hq
  | some s =>
    obtain⟨n,hn⟩:=aQ.1 hx
    exact⟨n,by rw[hn,←hx];exact hq⟩
theorem zQ {L:List Nat} {a:XCode}:execW D K k rd (.loop L a) e h=sT (execW D K k rd a (lD k L e h) (oF k L e h)) (execW D K k rd (.loop L a)):=gT fun q=>by
 have he:∀ n m e h,jQ (aU (bU D n) (bG D n) K k n rd a) k L (m+1) e h=sT (aU (bU D n) (bG D n) K k n rd a (lD k L e h) (oF k L e h)) (jQ (aU (bU D n) (bG D n) K k n rd a) k L m):=fun n m e h=>rfl
 rw[aQ,mE]
 constructor
 ·rintro ⟨n,hn⟩
  have hn:jQ (aU (bU D n) (bG D n) K k n rd a) k L n e h=some q:=hn
  cases n with
  | zero=>simp[jQ]at hn
  | succ n =>
    rw[he,mE]at hn
    rcases hn with ⟨e1,h1,h2,h3⟩|⟨h1,h2⟩
    ·exact .inl ⟨e1,h1,aQ.2 ⟨n+1,h2⟩,aQ.2 ⟨n+1,nS (fun _ _ _ h=>h) n (n+1) (by omega) _ _ _ h3⟩⟩
    ·exact .inr ⟨h1,aQ.2 ⟨n+1,h2⟩⟩
 ·rintro (⟨e1,h1,h2,h3⟩|⟨h1,h2⟩)
  ·obtain⟨n,h2⟩:=aQ.1 h2
   obtain⟨m,h3⟩:=aQ.1 h3
   have h3:jQ (aU (bU D m) (bG D m) K k m rd a) k L m e1 h1=some q:=h3
   refine⟨max n m+1,?_⟩
   show jQ _ k L (max n m+1) e h=some q
   rw[he,mE]
   refine .inl ⟨e1,h1,eG D K k rd a _ _ n _ _ (by omega) h2,?_⟩
   exact nS (fun e h q hq=>eG D K k rd a e h m _ _ (by omega) hq) m (max n m) (by omega) _ _ _ h3
  ·obtain⟨n,h2⟩:=aQ.1 h2
   refine⟨n+1,?_⟩
   show jQ _ k L (n+1) e h=some q
   rw[he,mE]
   exact .inr ⟨h1,eG D K k rd a _ _ n _ _ (by omega) h2⟩

def aCT (n:Nat) (e:aD) (r:Option (AV×XH)):Option (DX×aD×XH):=match r with
 | some (_,h')=>match fE h' n with
   | some .ready=>some (.normal,e,h'.set n none)
   | some (.done x)=>some (x,e,h'.set n none)
   | _=>none
 | none=>none
theorem aHu {site:Nat} {L:List Nat} {f:AO} {ps:List Nat} {a b:XCode}:execW D K k rd (.rng site L f ps a b) e h=if uU rd h&&uT (aG e f) then
 aCT h.length e (eQ (runW D) (runYW D) (aG e f) [.fn (.yield h.length) [] []] (h++[some (.loop K site (L.map e) .ready)])) else none:=gT fun q=>by
 rw[aQ]
 have he:∀ n,aU (bU D n) (bG D n) K k n rd (.rng site L f ps a b) e h=if uU rd h&&uT (aG e f) then
  aCT h.length e (eQ (bU D n) (bG D n) (aG e f) [.fn (.yield h.length) [] []] (h++[some (.loop K site (L.map e) .ready)])) else none:=fun _=>rfl
 simp only[he]
 split
 ·constructor
  ·rintro ⟨n,hn⟩
   cases hx:eQ (bU D n) (bG D n) (aG e f) [.fn (.yield h.length) [] []] (h++[some (.loop K site (L.map e) .ready)])with
   | none=>rw[hx]at hn;simp[aCT]at hn
   | some s=>rw[vF.2 ⟨n,hx⟩,←hx];exact hn
  ·intro hq
   cases hx:eQ (runW D) (runYW D) (aG e f) [.fn (.yield h.length) [] []] (h++[some (.loop K site (L.map e) .ready)])with
   | none=>rw[hx]at hq;simp[aCT]at hq
   | some s =>
     obtain⟨n,hn⟩:=vF.1 hx
     exact⟨n,by rw[hn,←hx];exact hq⟩
 ·simp
end

theorem aIP {c:Option Nat} {K:Nat} {d:XFn} {k:Nat} {e:aD} {h:XH} {q:AV×XH}:fV c d.res d.ownR k (execW D K k none d.body e h)=some q↔∃ n,fV c d.res d.ownR k (aU (bU D n) (bG D n) K k n none d.body e h)=some q:=by
 constructor
 ·intro hq
  cases hx:execW D K k none d.body e h with
  | none=>rw[hx]at hq;simp[fV]at hq
  | some s =>
    obtain⟨n,hn⟩:=aQ.1 hx
    exact⟨n,by rw[hn,←hx];exact hq⟩
 ·rintro ⟨n,hn⟩
  cases hx:aU (bU D n) (bG D n) K k n none d.body e h with
  | none=>rw[hx]at hn;simp[fV]at hn
  | some s=>rw[aQ.2 ⟨n,hx⟩,←hx];exact hn
theorem aIE {K:Nat} {d:XFn} (hD:D K=some d) {as:List AV} (hl:as.length≤d.N) (h:XH) (hdf:d.dfr=none) (hg:fP K=true) (hpr:d.prm=none:=by rfl):runW D K as h=aAv d.res (execW D K h.length none d.body (aM (if d.ownA then as else jJ as)) h):=gT fun q=>by
 rw[eA]
 have he:∀ n,bU D (n+1) K as h=aAv d.res (aU (bU D n) (bG D n) K h.length n none d.body (aM (if d.ownA then as else jJ as)) h):=fun n=>by
  rw[bU]
  unfold vN
  rw[hD]
  simp only[hpr,hl,if_true,hdf,hg,aEz]
 constructor
 ·rintro ⟨n,hn⟩
  cases n with
  | zero=>simp[bU]at hn
  | succ n =>
    rw[he]at hn
    cases hx:aU (bU D n) (bG D n) K h.length n none d.body (aM (if d.ownA then as else jJ as)) h with
    | none=>rw[hx]at hn;simp[aAv]at hn
    | some s=>rw[aQ.2 ⟨n,hx⟩,←hx];exact hn
 ·intro hq
  cases hx:execW D K h.length none d.body (aM (if d.ownA then as else jJ as)) h with
  | none=>rw[hx]at hq;simp[aAv]at hq
  | some s =>
    obtain⟨n,hn⟩:=aQ.1 hx
    exact⟨n+1,by rw[he,hn,←hx];exact hq⟩
theorem eK {K:Nat} {d:XFn} (hD:D K=some d) {as:List AV} (hl:as.length≤d.N) (h:XH) (hdf:d.dfr=none) (hpr:d.prm=none:=by rfl) (hg:fP K=false:=by rfl):runW D K as h=fV none d.res d.ownR h.length (execW D K h.length none d.body (aM (if d.ownA then as else jJ as)) h):=gT fun q=>by
 rw[eA,aIP]
 have he:∀ n,bU D (n+1) K as h=fV none d.res d.ownR h.length (aU (bU D n) (bG D n) K h.length n none d.body (aM (if d.ownA then as else jJ as)) h):=fun n=>by
  rw[bU]
  unfold vN
  rw[hD]
  simp only[hpr,hl,if_true,hdf,hg,aEz]
 constructor
 ·rintro ⟨n,hn⟩
  cases n with
  | zero=>simp[bU]at hn
  | succ n=>rw[he]at hn;exact⟨n,hn⟩
 ·rintro ⟨n,hn⟩
  exact⟨n+1,by rw[he];exact hn⟩
theorem cI {K:Nat} {d:XFn} (hD:D K=some d) {f:List AV→XH→Option (AV×XH)} (hp:d.prm=some f) (as:List AV) (h:XH):runW D K as h=f as h:=gT fun q=>by
 rw[eA]
 have he:∀ n,bU D (n+1) K as h=f as h:=fun n=>by
  rw[bU]
  unfold vN
  rw[hD]
  simp only[hp]
 constructor
 ·rintro ⟨n,hn⟩
  cases n with
  | zero=>simp[bU]at hn
  | succ n=>rw[he]at hn;exact hn
 ·intro hq
  exact⟨1,by rw[he];exact hq⟩
def aGD (l k:Nat) (r:Option (DX×aD×XH)):Option (AV×XH):=match r with
 | some (x,_,h2)=>match fE h2 l with
   | some .busy=>some (match x with
     | .normal=>iZ true k (.bool true) (loopTo h2 l .ready)
     | x=>iZ true k (.bool false) (loopTo h2 l (.done x)))
   | _=>none
 | none=>none
def aEg (l:Nat) (r:Option (DX×aD×XH)) (f:aD→XH→Option (AV×XH)):Option (AV×XH):=match r with
 | some (.normal,e1,h1)=>match fE h1 l with
   | some .ready=>f e1 (loopTo h1 l .busy)
   | _=>none
 | _=>none
theorem aID {K:Nat} {d:XFn} (hD:D K=some d) {l site:Nat} {vs:List AV} {h:XH} (hl:aJ h l=some (.loop K site vs .ready)) {L ps:List Nat} {a b:XCode} (hs:cT d.body site=some (L,ps,a,b)) {as:List AV} (hn:as.length=ps.length) :
 runYW D (.fn (.yield l) [] []) as h=aEg l (execW D K h.length (some l) a (nL (eD L vs) ps as) h) fun e1 h1=>aGD l h.length (execW D K h.length (some l) b e1 h1):=gT fun q=>by
 rw[qL]
 have he:∀ n,bG D (n+1) (.fn (.yield l) [] []) as h=aEg l (aU (bU D n) (bG D n) K h.length n (some l) a (nL (eD L vs) ps as) h) fun e1 h1=>aGD l h.length (aU (bU D n) (bG D n) K h.length n (some l) b e1 h1):=fun n=>by
  rw[bG]
  unfold xL
  simp only[hl,hD,Option.bind_some,hs,hn,if_true]
  rfl
 constructor
 ·rintro ⟨n,hn⟩
  cases n with
  | zero=>simp[bG]at hn
  | succ n =>
    rw[he]at hn
    unfold aEg at hn ⊢
    split at hn
    ·rename_i e1 h1 hx
     rw[aQ.2 ⟨n,hx⟩]
     simp only
     split at hn
     ·rename_i hst
      simp only at hn
      cases hx2:aU (bU D n) (bG D n) K h.length n (some l) b e1 (loopTo h1 l .busy)with
      | none=>rw[hx2]at hn;simp[aGD]at hn
      | some s=>rw[aQ.2 ⟨n,hx2⟩,←hx2];exact hn
     ·simp at hn
    ·simp at hn
 ·intro hq
  unfold aEg at hq
  split at hq
  ·rename_i e1 h1 hx
   obtain⟨n,hn⟩:=aQ.1 hx
   split at hq
   ·rename_i hst
    simp only at hq
    cases hx2:execW D K h.length (some l) b e1 (loopTo h1 l .busy)with
    | none=>rw[hx2]at hq;simp[aGD]at hq
    | some s =>
      obtain⟨m,hm⟩:=aQ.1 hx2
      refine⟨max n m+1,?_⟩
      rw[he]
      have e1':=eG D K h.length (some l) a (nL (eD L vs) ps as) h n (max n m) _ (by omega) hn
      have e2':=eG D K h.length (some l) b e1 (loopTo h1 l .busy) m (max n m) _ (by omega) hm
      simp only at e1' e2'
      unfold aEg
      simp only[e1',hst,e2']
      rw[←hx2];exact hq
   ·simp at hq
  ·simp at hq
def aR (P:Program) (p:Nat×XFn):Prop:=aMB P p.1 p.2.fn∧(okD p.2=true∧(eS p.2 p.2.body∧p.2.prm=none))
theorem aX {P:Program} {p:Nat×XFn} {l:List (Nat×XFn)} (h:aR P p) (hl:∀ q∈l,aR P q):∀ q∈p::l,aR P q:=fun q hq=>by
 rcases List.mem_cons.1 hq with rfl|hq
 ·exact h
 ·exact hl q hq
theorem aXa {P:Program}:∀ q∈([]:List (Nat×XFn)),aR P q:=fun _ h=>nomatch h
def aDH:List (Nat×XFn)→Nat→Option XFn
 | [],_=>none
 | (k,d)::r,K=>match Nat.beq K k with
   | true=>some d
   | false=>aDH r K
theorem nC {K:Nat} {d:XFn}:∀ {l:List (Nat×XFn)},aDH l K=some d→(K,d)∈l
 | [],h=>by simp[aDH]at h
 | (k,e)::r,h=>by
   simp only[aDH]at h
   split at h
   ·rename_i hb
    have:=Nat.eq_of_beq_eq_true hb
    simp only[oSI]at h
    subst h this
    exact List.mem_cons_self ..
   ·exact List.mem_cons_of_mem _ (nC h)
end Go.DL
namespace Go.DL
open Go.RowKit
variable {P:Program} {D:Nat→Option XFn}

theorem SH.none:SH D (fun _=>Option.none) (fun _=>Option.none) [] noH :=
 ⟨fun b c hb=>by simp at hb,fun b c c' x y hx=>by simp[aJ]at hx,fun b x hx=>by simp[aJ]at hx,GhR.no fun b st p hx=>by simp[aJ]at hx⟩

theorem aUf (ok:XOk P D) {n K:Nat} {as:List AV} {v:AV} {h':XH} (hrun:bU D n K as []=some (v,h')) (has:∀ a∈as,Gd a) (hv:Gd v) {w:World} {vs:Array Value} (gi:GI (fun b=>b<w.heap.size) w) (hA:Args (fun b=>b<w.heap.size) w as vs) :
 Calls P K vs w fun e w'=>∃ F' q,e = .returned q∧Rv F' w' v q∧Below w.heap.size w w':=by
 have hfn:=(kI ok n ⟨fun b=>b<w.heap.size,w,gi⟩ (fun _=>Option.none) (fun l i h=>by simp at h)).1 (fun _=>Option.none) [] noH K as as v h' SH.none (RnL.self fun a ha=>(has a ha).rn) hrun
 have hc:=hfn.2 (fun b=>b<w.heap.size) w vs (Up.refl _ _) ⟨fun b hb=>hb,fun b x hb=>by simp[noH]at hb,fun b x hb=>by simp[noH]at hb⟩ hA
 refine(callsIn_wide.1 hc).mono ?_
 rintro e w' ⟨q,v',F',H',rfl,h1,h2,h3,r',_,_,h4⟩
 obtain⟨rfl,_⟩:=h4.same hv.gr
 exact⟨F',q,rfl,h3,h1.io.os,h1.io.tape,h1.io.output,h1.le,fun k hk=>h1.same k hk (by simp[oM,noH])⟩

theorem aLx {F:Nat→Prop} {w:World} {b:Bool} {q:Value} (h:Rv F w (.bool b) q):q = .bool b:=by cases h;rfl

section
variable {H:Type} {enc:TypeId×Value→H}

theorem aAi (hl:laidOutB P=true) {W W':World} (hb:Below W.heap.size W W'):∀ (ts:List TypeId) (vs:List Value) (ds:List (DataW H)) (ps:List MemPlace),(ts.all fun t=>P.readableRec t&&decide (t<P.types.size))=true →
 (∀ x∈ps,x.block<W.heap.size)→DataW.TrodAll enc P W 0 (fun _=>true) true ts vs ds ps→DataW.TrodAll enc P W' 0 (fun b=>decide (b<W.heap.size)) true ts vs ds ps
 | [],[],[],ps,_,_,h=>h
 | t::ts,v::vs,d::ds,ps,ht,hlt,h=>by
   obtain⟨p,q,h1,h2,rfl⟩:=h
   simp only[List.all_cons,Bool.and_eq_true,decide_eq_true_eq]at ht
   exact⟨p,q,Below.trod hl ht.1.1 ht.1.2 h1 hb (fun x hx=>hlt x (by simp[hx])),aAi hl hb ts vs ds q ht.2 (fun x hx=>hlt x (by simp[hx])) h2,rfl⟩
 | [],[],_::_,_,_,_,h=>h.elim
 | [],_::_,_,_,_,_,h=>h.elim
 | _::_,[],_,_,_,_,h=>h.elim
 | _::_,_::_,[],_,_,_,h=>h.elim

theorem aJL (hl:laidOutB P=true) {f:Func} {s:ChangeSpec} {W W':World} {args:Array Value} {ds gs:List (DataW H)} {before:List MemPlace} {t:TypeId}
 (hW:DataW.Whole enc P f.params.toList s.vars false W args.toList ds gs before) (hv:s.vars=[]) (hs:(s.fn H (ds++gs)).results=[.lit (.bool true)]) (hs2:(s.fn H (ds++gs)).args=ds) (hs3:(s.fn H (ds++gs)).vars=[])
 (ht:f.resultTypes = #[t]) (hu:P.underlying t=some .bool) (hp:(f.params.toList.all fun t=>P.readableRec t&&decide (t<P.types.size))=true) (hb:Below W.heap.size W W') :
 s.post enc P f false true false false W args (.bool true) W':=by
 have hlt:=hW.lt
 have hW0:=hW
 obtain⟨p,q,h1,h2,rfl,h4,h5⟩:=hW
 rw[hv]at h2
 cases gs with
 | cons g gs=>exact h2.elim
 | nil =>
   have hq:q=[]:=h2
   subst hq
   refine⟨ds,[],p++[],[],p,[],hW0,?_,?_,?_,?_,fun h=>by cases h⟩
   ·rw[hs,ht]
    exact⟨[],[],RowKit.shut_bool hu true,rfl,rfl⟩
   ·rw[hs2]
    exact aAi hl hb _ _ _ _ hp (fun x hx=>hlt x (by simp[hx])) h1
   ·rw[hs3,hv]
    exact rfl
   ·exact World.keptBut_mono (fun x hx=>⟨by simpa using hx,.inr (.inl hx)⟩) (hb.frame (· ∈ p))
end
variable {P:Program} {H:Type} {enc:TypeId×Value→H} {w:World} {spare:Nat→Bool} {held:Bool}

inductive CT where
 | int (k:IntKind)
 | bool
 | str
 | sl (r:List CT)

inductive Sh:CT→AV→Prop where
 | int (k:IntKind) (n:Int) (h:(Lit.int k n).wf=true):Sh (.int k) (.int k n)
 | bool (b:Bool):Sh .bool (.bool b)
 | str (s:ByteArray) (h:s.size≤maxLen):Sh .str (.str s)
 | sl (r:List CT) (rows:List (List AV)) (hl:∀ row∈rows,row.length=r.length) (hn:rows.length≤maxLen) (h:∀ row∈rows,∀ (i:Nat) (c:CT) (a:AV),r[i]?=some c→row[i]?=some a→Sh c a):Sh (.sl r) (.fs rows)

inductive Flat (P:Program):TypeId→List CT→Prop where
 | int {t:TypeId} {k:IntKind} (h:P.underlying t=some (.int k)):Flat P t [.int k]
 | bool {t:TypeId} (h:P.underlying t=some .bool):Flat P t [.bool]
 | str {t:TypeId} (h:P.underlying t=some .string):Flat P t [.str]
 | sl {t e:TypeId} {r:List CT} (h:P.underlying t=some (.slice e)) (he:Flat P e r) (hc:P.cellsOf e=r.length) (h0:0<r.length):Flat P t [.sl r]
 | struct {t:TypeId} {fs:Array Field} (rs:List (List CT)) (h:P.underlying t=some (.struct fs)) (hl:rs.length=fs.size) (hf:∀ (i:Nat) (f:Field) (r:List CT),fs[i]?=some f→rs[i]?=some r→Flat P f.type r)
  (hc:∀ (i:Nat) (f:Field) (r:List CT),fs[i]?=some f→rs[i]?=some r→P.cellsOf f.type=r.length∧f.offset=((rs.take i).flatten).length) (ht:P.cellsOf t=rs.flatten.length):Flat P t rs.flatten
 | array {t e:TypeId} {n:Nat} {r:List CT} (h:P.underlying t=some (.array n e)) (he:Flat P e r) (hc:P.cellsOf e=r.length) (ht:P.cellsOf t=n*r.length):Flat P t (List.replicate n r).flatten

inductive DecL (F:Nat→Prop) (w:World):List CT→List AV→List Value→Prop where
 | nil:DecL F w [] [] []
 | cons {c:CT} {a:AV} {v:Value} {cs:List CT} {as:List AV} {vs:List Value} (h1:Sh c a) (h2:Rv F w a v) (h3:v.oneCell'=true) (h:DecL F w cs as vs):DecL F w (c::cs) (a::as) (v::vs)
theorem DecL.append {F:Nat→Prop} {cs cs':List CT} {as as':List AV} {vs vs':List Value} (h:DecL F w cs as vs) (h':DecL F w cs' as' vs'):DecL F w (cs++cs') (as++as') (vs++vs'):=by
 induction h with
 | nil=>exact h'
 | cons h1 h2 h3 _ ih=>exact .cons h1 h2 h3 ih
theorem DecL.len {F:Nat→Prop} {cs:List CT} {as:List AV} {vs:List Value} (h:DecL F w cs as vs):as.length=cs.length∧vs.length=cs.length:=by
 induction h with
 | nil=>exact⟨rfl,rfl⟩
 | cons _ _ _ _ ih=>simp[ih]
theorem DecL.sh {F:Nat→Prop} {cs:List CT} {as:List AV} {vs:List Value} (h:DecL F w cs as vs):∀ (i:Nat) (c:CT) (a:AV),cs[i]?=some c→as[i]?=some a→Sh c a:=by
 induction h with
 | nil=>intro i c a h;simp at h
 | cons h1 _ _ _ ih =>
   intro i c a h2 h3
   cases i with
   | zero=>simp only[List.getElem?_cons_zero,oSI]at h2 h3;rw[←h2,←h3];exact h1
   | succ i=>exact ih i c a (by simpa using h2) (by simpa using h3)
theorem DecL.rv {F:Nat→Prop} {cs:List CT} {as:List AV} {vs:List Value} (h:DecL F w cs as vs):∀ (i:Nat) (a:AV) (v:Value),as[i]?=some a→vs[i]?=some v→Rv F w a v∧v.oneCell'=true:=by
 induction h with
 | nil=>intro i c a h;simp at h
 | cons h1 h4 h5 _ ih =>
   intro i c a h2 h3
   cases i with
   | zero=>simp only[List.getElem?_cons_zero,oSI]at h2 h3;rw[←h2,←h3];exact⟨h4,h5⟩
   | succ i=>exact ih i c a (by simpa using h2) (by simpa using h3)

theorem trod_array {fuel:Nat} {t e:TypeId} {n:Nat} {cs:List Value} {x:DataW H×List MemPlace} (ht:P.underlying t=some (.array n e)) (h:DataW.trod enc P w 0 spare held fuel t cs=some x) :
 cs.length=P.cellsOf t∧∃ m,∀ i,i<n→∃ y,DataW.trod enc P w 0 spare held m e ((cs.drop (i*P.cellsOf e)).take (P.cellsOf e))=some y:=by
 cases fuel with
 | zero=>simp[DataW.trod]at h
 | succ m =>
   unfold DataW.trod at h
   rw[ht]at h
   split at h<;>simp_all
   obtain⟨hl,xs,hp,hd⟩:=h
   refine⟨m,fun i hi=>?_⟩
   have hlen:=mapM_some_length hp
   have:=mapM_some_get hp i i (by simp[hi])
   rw[List.getElem?_eq_getElem (by rw[hlen];simpa using hi)]at this
   exact⟨_,_,this⟩

theorem aAb {b o:Nat} {sp:Option Nat} {v:Value} (h:w.cell? ⟨b,o,sp⟩=some v):sp=none∧b<w.heap.size:=by
 unfold World.cell? at h
 split at h
 ·rename_i c _ _ hb
  refine⟨?_,?_⟩
  ·cases sp with
   | none=>rfl
   | some s=>simp at h
  ·simp only at hb
   by_cases hs:b<w.heap.size
   ·exact hs
   ·rw[Array.getElem?_eq_none (by omega)]at hb;simp at hb
 ·simp at h
theorem aMy {b o i j:Nat}:((⟨b,o,none⟩:Addr).add i).add j=⟨b,o+i+j,none⟩:=by
 unfold Addr.add
 by_cases hi:i=0<;>by_cases hj:j=0<;>simp[hi,hj]

theorem aEB {t:TypeId} {tys:List CT} (hf:Flat P t tys):∀ {fuel:Nat} {cs:List Value} {x:DataW H×List MemPlace},DataW.trod enc P w 0 spare held fuel t cs=some x→∃ as,DecL (fun b=>b<w.heap.size) w tys as cs:=by
 induction hf with
 | int h =>
   intro fuel cs x hx
   obtain⟨n,rfl,_,hw⟩:=DataW.trod_int h hx
   exact⟨_,.cons (.int _ n hw) (.int _ n) rfl .nil⟩
 | bool h =>
   intro fuel cs x hx
   obtain⟨b,rfl,_⟩:=DataW.trod_bool h hx
   exact⟨_,.cons (.bool b) (.bool b) rfl .nil⟩
 | str h =>
   intro fuel cs x hx
   obtain⟨s,rfl,_,hs⟩:=DataW.trod_string h hx
   exact⟨_,.cons (.str s hs) (.str s) rfl .nil⟩
 | @sl t e r h he hc h0 ih =>
   intro fuel cs x hx
   rcases DataW.trod_slice h hx with ⟨rfl,_⟩|⟨a,len,cap,elems,rest,n,_,rfl,_,_,hlc,hcm,hel,hg,_,_⟩
   ·exact⟨_,.cons (.sl r [] (by simp) (by simp) (by simp)) (.fs0 none 0) rfl .nil⟩
   ·rcases Nat.eq_zero_or_pos len with hz|hz
    ·subst hz
     exact⟨_,.cons (.sl r [] (by simp) (by simp) (by simp)) (.fs0 (some a) cap) rfl .nil⟩
    ·have hrow:∀ i,∃ p:List AV×List Value,i<len→DecL (fun b=>b<w.heap.size) w r p.1 p.2∧w.cells? 0 (a.add (i*r.length)) r.length=some p.2:=by
      intro i
      by_cases hi:i<len
      ·have:=hg i hi
       rw[List.getElem?_eq_getElem (by omega),hc,Option.bind_eq_some_iff]at this
       obtain⟨vs,h1,h2⟩:=this
       obtain⟨as,h3⟩:=ih h2
       exact⟨(as,vs),fun _=>⟨h3,h1⟩⟩
      ·exact⟨([],[]),fun hh=>absurd hh hi⟩
     obtain⟨f,hfr⟩:=Classical.axiomOfChoice hrow
     obtain⟨blk,off,sp⟩:=a
     have hsp:sp=none∧blk<w.heap.size:=by
      obtain⟨h1,h2⟩:=hfr 0 hz
      obtain⟨_,h4,h5⟩:=World.cells?_some h2
      have h6:=h5 0 h0
      rw[List.getElem?_eq_getElem (by omega)]at h6
      simp only[Nat.zero_mul]at h6
      unfold Addr.add at h6
      simp only[if_true]at h6
      exact aAb h6
     obtain⟨rfl,hblk⟩:=hsp
     have hcell:∀ i,i<len→∀ j,j<r.length→w.cell? ⟨blk,off+i*r.length+j,none⟩=(f i).2[j]?:=by
      intro i hi j hj
      obtain⟨_,h2⟩:=hfr i hi
      obtain⟨_,_,h5⟩:=World.cells?_some h2
      rw[←h5 j hj,aMy]
     have hrl:((List.range len).map fun i=>(f i).1).length=len:=by simp
     have hget:∀ (i:Nat) (row:List AV),((List.range len).map fun i=>(f i).1)[i]?=some row→i<len∧row=(f i).1:=by
      intro i row hh
      rw[List.getElem?_map,Option.map_eq_some_iff]at hh
      obtain⟨k,h1,h2⟩:=hh
      rw[List.getElem?_eq_some_iff]at h1
      obtain⟨h3,h4⟩:=h1
      simp only[List.length_range]at h3
      simp only[List.getElem_range]at h4
      subst h4
      exact⟨h3,h2.symm⟩
     refine⟨[.fs ((List.range len).map fun i=>(f i).1)],.cons (.sl r _ ?_ ?_ ?_) ?_ rfl .nil⟩
     ·intro row hm
      simp only[List.mem_map,List.mem_range]at hm
      obtain⟨i,hi,rfl⟩:=hm
      exact(hfr i hi).1.len.1
     ·rw[hrl];omega
     ·intro row hm
      simp only[List.mem_map,List.mem_range]at hm
      obtain⟨i,hi,rfl⟩:=hm
      exact(hfr i hi).1.sh
     ·have:=Rv.fs (F:=fun b=>b<w.heap.size) (w:=w) ((List.range len).map fun i=>(f i).1) blk off r.length cap (fun i j=>if i<len∧j<r.length then ((f i).2[j]?).getD (.bool false) else .bool false)
       (by rw[hrl];exact hlc) hblk ?_ ?_ ?_ ?_
      ·rw[hrl]at this;exact this
      ·intro row hm
       simp only[List.mem_map,List.mem_range]at hm
       obtain⟨i,hi,rfl⟩:=hm
       exact(hfr i hi).1.len.1
      ·intro i row j c h1 h2
       obtain⟨hi,rfl⟩:=hget i row h1
       have hl:=(hfr i hi).1.len
       have hj:j<r.length:=by
        rw[List.getElem?_eq_some_iff]at h2
        obtain⟨h3,_⟩:=h2
        omega
       rw[hcell i hi j hj,if_pos ⟨hi,hj⟩,List.getElem?_eq_getElem (by omega)]
       rfl
      ·intro i j
       by_cases hij:i<len∧j<r.length
       ·rw[if_pos hij]
        have hl:=(hfr i hij.1).1.len
        rw[List.getElem?_eq_getElem (by omega)]
        simp only[Option.getD_some]
        exact((hfr i hij.1).1.rv j _ _ (List.getElem?_eq_getElem (by omega)) (List.getElem?_eq_getElem (by omega))).2
       ·rw[if_neg hij];rfl
      ·intro i row j c h1 h2
       obtain⟨hi,rfl⟩:=hget i row h1
       have hl:=(hfr i hi).1.len
       have hj:j<r.length:=by
        rw[List.getElem?_eq_some_iff]at h2
        obtain⟨h3,_⟩:=h2
        omega
       rw[if_pos ⟨hi,hj⟩,List.getElem?_eq_getElem (by omega)]
       exact((hfr i hi).1.rv j c _ h2 (List.getElem?_eq_getElem (by omega))).1
 | @struct t fs rs h hl hf hc ht ih =>
   intro fuel cs x hx
   obtain⟨xs,n,_,_,hlen,hxs,hfld⟩:=DataW.trod_struct h hx
   have key:∀ k,k≤rs.length→∃ as,DecL (fun b=>b<w.heap.size) w (rs.take k).flatten as (cs.take ((rs.take k).flatten).length):=by
    intro k
    induction k with
    | zero=>intro _;exact⟨[],by simpa using DecL.nil⟩
    | succ k ihk =>
      intro hk
      obtain⟨as,h1⟩:=ihk (by omega)
      have hr:rs[k]?=some rs[k]:=List.getElem?_eq_getElem (by omega)
      have hfk:fs[k]?=some fs[k]:=Array.getElem?_eq_getElem (by omega)
      obtain⟨c1,c2⟩:=hc k _ _ hfk hr
      have h2:=hfld k _ hfk
      rw[List.getElem?_eq_getElem (by omega)]at h2
      obtain⟨as',h3⟩:=ih k _ _ hfk hr h2
      refine⟨as++as',?_⟩
      rw[List.take_add_one,hr,Option.toList_some,List.flatten_append,List.length_append,List.take_add]
      simp only[List.flatten_cons,List.flatten_nil,List.append_nil]
      rw[c1,c2]at h3
      exact h1.append h3
   obtain⟨as,h1⟩:=key rs.length (Nat.le_refl _)
   rw[List.take_length,←ht,←hlen,List.take_length]at h1
   exact⟨as,h1⟩
 | @array t e n r h he hc ht ih =>
   intro fuel cs x hx
   obtain⟨hlen,m,hy⟩:=trod_array h hx
   have key:∀ k,k≤n→∃ as,DecL (fun b=>b<w.heap.size) w (List.replicate k r).flatten as (cs.take (k*r.length)):=by
    intro k
    induction k with
    | zero=>intro _;exact⟨[],by simpa using DecL.nil⟩
    | succ k ihk =>
      intro hk
      obtain⟨as,h1⟩:=ihk (by omega)
      obtain⟨y,h2⟩:=hy k (by omega)
      obtain⟨as',h3⟩:=ih h2
      refine⟨as++as',?_⟩
      rw[List.replicate_succ',List.flatten_append,Nat.add_mul,List.take_add]
      simp only[List.flatten_cons,List.flatten_nil,List.append_nil,Nat.one_mul]
      rw[hc]at h3
      exact h1.append h3
   obtain⟨as,h1⟩:=key n (Nat.le_refl _)
   rw[←ht,←hlen,List.take_length]at h1
   exact⟨as,h1⟩

def FF (P:Program):Nat→List Field→List (List CT)→Prop
 | _,[],[]=>True
 | o,f::fs,r::rs=>Flat P f.type r∧P.cellsOf f.type=r.length∧f.offset=o∧FF P (o+r.length) fs rs
 | _,_,_=>False
theorem FF.get:∀ {o:Nat} {fs:List Field} {rs:List (List CT)},FF P o fs rs→rs.length=fs.length∧∀ (i:Nat) (f:Field) (r:List CT),fs[i]?=some f→rs[i]?=some r→Flat P f.type r∧P.cellsOf f.type=r.length∧f.offset=o+((rs.take i).flatten).length
 | o,[],[],_=>⟨rfl,fun i f r h=>by simp at h⟩
 | o,f::fs,r::rs,h=>by
   obtain⟨h1,h2,h3,h4⟩:=h
   obtain⟨l1,l2⟩:=FF.get h4
   refine⟨by simp[l1],fun i f' r' e1 e2=>?_⟩
   cases i with
   | zero =>
     simp only[List.getElem?_cons_zero,oSI]at e1 e2
     subst e1;subst e2
     exact⟨h1,h2,by simpa using h3⟩
   | succ i =>
     obtain⟨k1,k2,k3⟩:=l2 i f' r' (by simpa using e1) (by simpa using e2)
     refine⟨k1,k2,?_⟩
     rw[k3,List.take_succ_cons,List.flatten_cons,List.length_append]
     omega
 | _,[],_::_,h=>h.elim
 | _,_::_,[],h=>h.elim
theorem Flat.mk {t:TypeId} {fs:Array Field} {rs:List (List CT)} (h:P.underlying t=some (.struct fs)) (hf:FF P 0 fs.toList rs) (ht:P.cellsOf t=rs.flatten.length):Flat P t rs.flatten:=by
 obtain⟨l1,l2⟩:=hf.get
 refine .struct rs h (by simpa using l1) (fun i f r h1 h2=>(l2 i f r (by simpa using h1) h2).1) (fun i f r h1 h2=>?_) ht
 obtain⟨_,k2,k3⟩:=l2 i f r (by simpa using h1) h2
 exact⟨k2,by simpa using k3⟩

theorem Sh.gd {c:CT} {a:AV} (h:Sh c a):Gd a:=by
 induction h with
 | int k n h=>exact .int k n
 | bool b=>exact .bool b
 | str s h=>exact .str s
 | sl r rows hl hn h ih =>
   refine .fs rows fun row hr c hc=>?_
   obtain⟨i,hi,he⟩:=List.mem_iff_getElem.1 hc
   have hi':i<r.length:=by rw[←hl row hr];exact hi
   exact ih row hr i r[i] c (List.getElem?_eq_getElem hi') (by rw[List.getElem?_eq_getElem hi,he])

theorem aMu {t:TypeId} {c:CT} (hf:Flat P t [c]) {v:Value} (hv:v.cells.toList=[v]) {d:DataW H} {ps:List MemPlace} (hd:DataW.Trod enc P w 0 spare held t v d ps) :
 ∃ a,Sh c a∧Rv (fun b=>b<w.heap.size) w a v:=by
 obtain⟨fuel,h⟩:=hd
 rw[hv]at h
 obtain⟨as,h1⟩:=aEB hf h
 cases h1 with
 | cons h1 h2 h3 h4=>exact⟨_,h1,h2⟩

theorem aJK {D:Nat→Option XFn} (ok:XOk P D) {K:Nat} {as:List AV} (hrun:runW D K as []=some (.bool true,[])) (has:∀ a∈as,Gd a) {vs:Array Value} (gi:GI (fun b=>b<w.heap.size) w) (hA:Args (fun b=>b<w.heap.size) w as vs) :
 Calls P K vs w fun e w'=>e = .returned (.bool true)∧Below w.heap.size w w':=by
 obtain⟨n,hn⟩:=eA.1 hrun
 refine(aUf ok hn has (.bool true) gi hA).mono ?_
 rintro e w' ⟨F',q,rfl,h1,h2⟩
 exact⟨by rw[aLx h1],h2⟩
end Go.DL
namespace Go.DL
variable {P:Program} {B:Base} {F:Nat→Prop} {w:World} {H:Hp} {env:aD} {a:Act}

def pnc (c:Value):List PanicEntry:=[{ v:=c,recovered:=false }]
def aKM (F:Nat→Prop) (w:World) (H:Hp) (Q:AV→Hp→Prop):Ending→World→Prop:=fun e w' =>
 ∃ c v F' H',e = .panicked (pnc c)∧Ext F w H F' w' H'∧St F' w' H'∧Rv F' w' v c∧Q v H'
def FnP (B:Base) (P:Program) (f:FuncId) (as:List AV) (H:Hp) (Q:AV→Hp→Prop):Prop :=
 (∀ (vs:Array Value) (w:World),(callFunc f vs).run P w = .ok (.enter f vs) w)∧∀ (F:Nat→Prop) (w:World) (vs:Array Value),B.Up F w→St F w H→Args F w as vs→CallsIn Fence.wide 0 P f vs w (aKM F w H Q)
def aEe (B:Base) (P:Program) (fv:AV) (as:List AV) (H:Hp) (Q:AV→Hp→Prop):Prop :=
 match fv with
 | .fn (.func g) first cap=>FnP B P g (first++as++cap) H Q
 | _=>False
abbrev QP:=AV→aD→Hp→Prop
def opP (B:Base) (P:Program) (o:DOper) (Q:QP) (env:aD) (H:Hp):Prop :=
 gd o env=some true∧match o.op with
 | .callf false f xs _=>(∀ tab k,f ≠ .meth tab k)∧aEe B P (aG env f) (xs.map (aG env)) H fun v H'=>Q v env H'
 | _=>False
def RSP (B:Base) (P:Program):List DOper→QP→aD→Hp→Prop
 | [],_,_,_=>False
 | o::rest,Q,env,H=>opP B P o Q env H∨opW B P o (RSP B P rest Q) env H

def LandP (n0:Nat) (T:List Deferred) (F:Nat→Prop) (w:World) (H:Hp) (Q:QP):Exit→Act→World→Prop:=fun e a' w' =>
 ∃ c v env' F' H',e = .panic (pnc c)∧Ext F w H F' w' H'∧St F' w' H'∧RE F' w' env' a'∧Rv F' w' v c∧Mk n0 T F' H' w' a'.defers∧Q v env' H'
theorem LandP.step {n0:Nat} {T:List Deferred} {Q:QP} {F':Nat→Prop} {w':World} {H':Hp} (he:Ext F w H F' w' H') {e:Exit} {a':Act} {w'':World} (hl:LandP n0 T F' w' H' Q e a' w''):LandP n0 T F w H Q e a' w'':=by
 obtain⟨c,v,env',F'',H'',h1,h2,h3⟩:=hl
 exact⟨c,v,env',F'',H'',h1,he.trans h2,h3⟩

def WPD (B:Base) (P:Program) (r:Option Nat) (N:Nat) (dc:DCode) (Q:QP) (env:aD) (H:Hp):Prop :=
 ∀ c,cP P N c=some dc→∀ (F:Nat→Prop) (w:World) (a:Act) (n0:Nat) (T:List Deferred),B.Up F w→n0≤w.heap.size→a.tmps.size=N→St F w H→RE F w env a→Mk n0 T F H w a.defers→c.wpIn (FW r) 0 P (LandP n0 T F w H Q) a w

variable {r:Option Nat} {N:Nat} {Q:QP}
theorem WPD.seq1 {x y:DCode} (h:WPD B P r N x Q env H):WPD B P r N (.seq x y) Q env H:=by
 intro c hc
 cases c<;>simp only[cP]at hc
 case seq a b =>
  split at hc
  ·rename_i a' b' ha hb
   simp only[oSI,DCode.seq.injEq]at hc
   obtain⟨rfl,rfl⟩:=hc
   intro F w act n0 T h1 h2 h3 h4 h5 h6
   refine wpIn_seq (wpIn_mono (h a ha F w act n0 T h1 h2 h3 h4 h5 h6) ?_)
   rintro e a' w' ⟨c,v,env',F',H',rfl,k⟩
   exact⟨c,v,env',F',H',rfl,k⟩
  ·simp at hc
 all_goals exfalso;first|(simp at hc;done)|((repeat' split at hc)<;>simp at hc;done)
theorem WPD.seq2 {x y:DCode} (h:WD B P r N x (fun e env' H'=>e = .normal∧WPD B P r N y Q env' H') env H):WPD B P r N (.seq x y) Q env H:=by
 intro c hc
 cases c<;>simp only[cP]at hc
 case seq a b =>
  split at hc
  ·rename_i a' b' ha hb
   simp only[oSI,DCode.seq.injEq]at hc
   obtain⟨rfl,rfl⟩:=hc
   intro F w act n0 T h1 h2 h3 h4 h5 h6
   refine wpIn_seq (wpIn_mono (h a ha F w act n0 T h1 h2 h3 h4 h5 h6) ?_)
   rintro e a' w' ⟨x,env',F',H',k1,k2,k3,k4,k5,k6,rfl,k7⟩
   cases e with
   | normal=>exact wpIn_mono (k7 b hb F' w' a' n0 T (h1.step h4 k3) (Nat.le_trans h2 k3.le) k2 k4 k5 k6) fun _ _ _=>LandP.step k3
   | exit id=>simp at k1
   | ret=>simp at k1
   | goto l=>exact k1.elim
   | panic c=>exact k1.elim
   | outgrown=>exact k1.elim
  ·simp at hc
 all_goals exfalso;first|(simp at hc;done)|((repeat' split at hc)<;>simp at hc;done)
theorem WPD.cond {o:AO} {x y:DCode} {t:Bool} (he:aG env o = .bool t) (h:WPD B P r N (if t then x else y) Q env H):WPD B P r N (.cond o x y) Q env H:=by
 intro c hc
 cases c<;>simp only[cP]at hc
 case cond o' a b =>
  split at hc
  ·rename_i o'' a' b' ho ha hb
   simp only[oSI,DCode.cond.injEq]at hc
   obtain⟨rfl,rfl,rfl⟩:=hc
   intro F w act n0 T h1 h2 h3 h4 h5 h6
   have hv:=aT h5 ho
   rw[he]at hv
   have ht:act.eval o' = .bool t:=by
    generalize act.eval o'=z at hv
    cases hv;rfl
   refine wpIn_cond ht ?_
   cases t with
   | true=>exact h a ha F w act n0 T h1 h2 h3 h4 h5 h6
   | false=>exact h b hb F w act n0 T h1 h2 h3 h4 h5 h6
  ·simp at hc
 all_goals exfalso;first|(simp at hc;done)|((repeat' split at hc)<;>simp at hc;done)
theorem WPD.block {id:Nat} {x:DCode} (h:WPD B P r N x Q env H):WPD B P r N (.block id x) Q env H:=by
 intro c hc
 cases c<;>simp only[cP]at hc
 case block j a =>
  split at hc
  ·rename_i a' ha
   simp only[oSI,DCode.block.injEq]at hc
   obtain⟨rfl,rfl⟩:=hc
   intro F w act n0 T h1 h2 h3 h4 h5 h6
   refine wpIn_block (wpIn_mono (h a ha F w act n0 T h1 h2 h3 h4 h5 h6) ?_)
   rintro e a' w' ⟨c,v,env',F',H',rfl,k⟩
   exact⟨c,v,env',F',H',rfl,k⟩
  ·simp at hc
 all_goals exfalso;first|(simp at hc;done)|((repeat' split at hc)<;>simp at hc;done)
theorem WPD.scope {x:DCode} (h:WPD B P r N x Q env H):WPD B P r N (.scope x) Q env H:=by
 intro c hc
 cases c<;>simp only[cP]at hc
 case scope a =>
  split at hc
  ·rename_i a' ha
   simp only[oSI,DCode.scope.injEq]at hc
   subst hc
   intro F w act n0 T h1 h2 h3 h4 h5 h6
   refine xG (wpIn_mono (h a ha F w act n0 T h1 h2 h3 h4 h5 h6) ?_)
   rintro e a' w' ⟨c,v,env',F',H',rfl,k⟩
   exact⟨c,v,env',F',H',rfl,k⟩
  ·simp at hc
 all_goals exfalso;first|(simp at hc;done)|((repeat' split at hc)<;>simp at hc;done)
def aEc (B:Base) (P:Program) (r:Option Nat) (N:Nat) (x:DCode) (Q:QP):Nat→aD→Hp→Prop
 | 0,env,H=>WPD B P r N x Q env H
 | n+1,env,H=>WD B P r N x (fun e env' H'=>e = .normal∧aEc B P r N x Q n env' H') env H
theorem WPD.loop {x:DCode} {n:Nat} (h:aEc B P r N x Q n env H):WPD B P r N (.loop x) Q env H:=by
 intro c hc
 cases c<;>simp only[cP]at hc
 case loop a =>
  split at hc
  ·rename_i dx ha
   simp only[oSI,DCode.loop.injEq]at hc
   subst hc
   intro F w act n0 T h1 h2 h3 h4 h5 h6
   let good:Nat→Act→World→Prop:=fun m a' w'=>∃ env' F' H',a'.tmps.size=N∧Ext F w H F' w' H'∧St F' w' H'∧RE F' w' env' a'∧Mk n0 T F' H' w' a'.defers∧aEc B P r N dx Q m env' H'
   have hex:∀ a' w',(∃ m,good m a' w')→∃ m,good m a' w'∧∀ k,good k a' w'→m≤k:=by
    intro a' w' ⟨m,hm⟩
    induction m using Nat.strongRecOn with
    | _ m ih =>
      by_cases hk:∃ k,k<m∧good k a' w'
      ·obtain⟨k,hk1,hk2⟩:=hk;exact ih k hk1 hk2
      ·exact⟨m,hm,fun k hk'=>Nat.le_of_not_lt fun hlt=>hk ⟨k,hlt,hk'⟩⟩
   let μ:Act→World→Nat:=fun a' w'=>open Classical in if h:∃ m,good m a' w' then (hex a' w' h).choose else 0
   have hμ:∀ a' w' (h:∃ m,good m a' w'),good (μ a' w') a' w'∧∀ k,good k a' w'→μ a' w'≤k:=fun a' w' h=>by
    have:μ a' w'=(hex a' w' h).choose:=by simp only[μ,dif_pos h]
    rw[this];exact(hex a' w' h).choose_spec
   refine wpIn_loop (fun a' w'=>∃ m,good m a' w') μ ⟨n,env,F,H,h3,Ext.refl _ _ _,h4,h5,h6,h⟩ ?_
   intro a1 w1 hg
   obtain⟨env',F',H',k2,k3,k4,k5,k6,k7⟩:=(hμ a1 w1 hg).1
   generalize hm:μ a1 w1=m at *
   cases m with
   | zero =>
     refine wpIn_mono (k7 a ha F' w1 a1 n0 T (h1.step h4 k3) (Nat.le_trans h2 k3.le) k2 k4 k5 k6) ?_
     rintro e a2 w2 ⟨c,v,env2,F2,H2,rfl,j1,j2⟩
     exact⟨c,v,env2,F2,H2,rfl,k3.trans j1,j2⟩
   | succ m =>
     refine wpIn_mono (k7 a ha F' w1 a1 n0 T (h1.step h4 k3) (Nat.le_trans h2 k3.le) k2 k4 k5 k6) ?_
     rintro e a2 w2 ⟨x,env2,F2,H2,l1,l2,l3,l4,l5,l6,rfl,l7⟩
     cases e with
     | normal =>
       have hg':good m a2 w2:=⟨env2,F2,H2,l2,k3.trans l3,l4,l5,l6,l7⟩
       exact⟨⟨m,hg'⟩,Nat.lt_of_le_of_lt ((hμ a2 w2 ⟨m,hg'⟩).2 m hg') (by omega)⟩
     | exit j=>simp at l1
     | ret=>simp at l1
     | goto l=>exact l1.elim
     | panic c=>exact l1.elim
     | outgrown=>exact l1.elim
  ·simp at hc
 all_goals exfalso;first|(simp at hc;done)|((repeat' split at hc)<;>simp at hc;done)

theorem aHC (hB:B.Up F w) (st:St F w H) (re:RE F w env a) {o:Oper} {f:Operand} {args:Array Operand} {ts:Array TypeId} {f':AO} {xs:List AO}
 (ho:o.op = .call { callee:=.value f,args:=args,argTypes:=ts }) (hf:co f=some f') (hx:coL args=some xs) {Qv:AV→Hp→Prop}
 (h:aEe B P (aG env f') (xs.map (aG env)) H Qv) {next:Act→World→Prop} {Qc:Exit→Act→World→Prop}
 (hn:∀ v c F' w' H',Ext F w H F' w' H'→St F' w' H'→Rv F' w' v c→Qv v H'→Qc (.panic (pnc c)) a w') :
 o.wpIn (FW r) 0 P a w next Qc:=by
 refine⟨jE r o,?_⟩
 rw[Oper.semAt_eq _ _ _ (by rw[ho];simp)]
 have hfv:=aT re hf
 obtain⟨vf,hvf⟩:∃ v,a.eval f=v:=⟨_,rfl⟩
 rw[hvf]at hfv
 have hargs:=vE re hx
 unfold aEe at h
 split at h
 ·rename_i g first cap hev
  rw[hev]at hfv
  cases hfv with
  | fn _ _ _ fv cv hl1 hl2 h1 h2 =>
    have hA:Args F w (first++xs.map (aG env)++cap) (fv++args.map a.eval++cv):=dQ (dQ ⟨hl1,h1⟩ hargs) ⟨hl2,h2⟩
    have hc:=h.2 F w _ hB st hA
    have hrun:(execOp a.eval o).run P w = .ok (.enter g (fv++args.map a.eval++cv)) w:=by
     simp only[execOp,ho,resolve,hvf,Deferred.ofValue,Sem.run_bind,Sem.run_pure,Result.andThen_ok,invoke]
     exact h.1 _ _
    rw[hrun,Oper.uponIn_enter]
    exact⟨fun h=>by simp[FW,Fence.wide]at h,CallsIn.mono hc (by rintro e w' ⟨c,v,F',H',rfl,h1,h2,h3,h4⟩;exact hn v c F' w' H' h1 h2 h3 h4)⟩
 ·exact h.elim
theorem aIq {ops:Array Oper} {i:Nat} {d:DOper} (hr:Reads P ops i d) (hB:B.Up F w) (st:St F w H) (re:RE F w env a) (h:opP B P d Q env H) {Kc:Act→World→Prop} {Qc:Exit→Act→World→Prop}
 (hK:∀ F' w' H' c v,Ext F w H F' w' H'→St F' w' H'→RE F' w' env a→Rv F' w' v c→Q v env H'→Qc (.panic (pnc c)) a w') :
 wpOpIn (FW r) 0 P ops Qc i Kc a w:=by
 obtain⟨o,ho,hdst,hguard,hop,hdef⟩:=hr.get
 obtain⟨hg,h⟩:=h
 unfold wpOpIn
 simp only[ho]
 have hgd:Region.wanted o (yielded ops a.tmps)=true:=by
  unfold gd at hg
  unfold Region.wanted
  split at hguard
  ·rename_i hg2
   rw[hg2]
  ·rename_i j want hg2
   rw[hg2]
   obtain⟨g,h1,h2⟩:=hguard
   rw[h2]at hg
   simp only at hg
   split at hg
   ·rename_i t ht
    have hrt:=re.rv g
    rw[ht]at hrt
    have hy:yielded ops a.tmps j=some t:=by
     unfold yielded
     rw[h1]
     simp only[Option.bind_some]
     cases hx:a.tmps[g]? with
     | none=>rw[Array.getD_eq_getD_getElem?,hx]at hrt;cases hrt
     | some x =>
       rw[Array.getD_eq_getD_getElem?,hx]at hrt
       simp only[Option.getD_some]at hrt
       cases hrt
       rfl
    simp only[hy]
    simpa using hg
   ·simp at hg
   ·simp at hg
 rw[if_pos hgd]
 split at h
 ·rename_i f xs l hcf
  obtain⟨hnm,h⟩:=h
  have hc0:bC P o=some (.callf false f xs []):=by
   rcases hop with h1|⟨n,p,x,l,h1,h2⟩|⟨q,f1,xs1,l1,h1,h2⟩
   ·rw[hcf]at h1
    unfold comp at h1
    cases hx:bC P o with
    | none=>rw[hx]at h1;simp at h1
    | some y =>
      rw[hx]at h1
      simp only[Option.getD_some]at h1
      subst h1
      rcases iY hx rfl rfl with ⟨t,pa,xa,n',p',x',_,_,_,_,hh⟩|⟨t,m,k,xx,m',k',x',kt,e,_,_,_,_,_,⟨_,_,hh⟩|⟨_,hh⟩⟩|⟨_,_,_,_,hh⟩|⟨c,_,hh⟩
      ·simp at hh
      ·simp at hh
      ·simp at hh
      ·simp at hh
      ·rcases mY hh rfl with ⟨_,_,_,_,_,_,_,_,_,_,_,_,_,_,_,hh⟩|⟨_,_,_,_,_,_,hh⟩|⟨_,_,_,_,_,hh⟩
       ·simp at hh
       ·simp only[DOp.callf.injEq]at hh;obtain⟨_,rfl,rfl,rfl⟩:=hh;rfl
       ·simp only[DOp.callf.injEq]at hh;obtain⟨_,rfl,rfl,rfl⟩:=hh;rfl
   ·rw[hcf]at h2;simp at h2
   ·rw[hcf]at h2
    simp only[DOp.callf.injEq]at h2
    obtain⟨rfl,rfl,rfl,rfl⟩:=h2
    unfold comp at h1
    cases hx:bC P o with
    | none=>rw[hx]at h1;simp at h1
    | some y=>rw[hx]at h1;simp only[Option.getD_some]at h1;rw[h1]
  obtain⟨dst,oo,ty,pos,after,guard⟩:=o
  rcases iY hc0 rfl rfl with ⟨t,pa,xa,n',p',x',_,_,_,_,hh⟩|⟨t,m,k,xx,m',k',x',kt,e,_,_,_,_,_,⟨_,_,hh⟩|⟨_,hh⟩⟩|⟨_,_,_,_,hh⟩|⟨c,hoo,hcc⟩
  ·simp at hh
  ·simp at hh
  ·simp at hh
  ·simp at hh
  ·simp only at hoo
   subst hoo
   rcases mY hcc rfl with ⟨_,_,_,_,_,_,_,_,_,_,_,_,_,_,_,hh⟩|⟨f0,f',xs',e1,g1,g2,hh⟩|⟨k,name,xs',e1,g2,hh⟩
   ·simp at hh
   ·simp only[DOp.callf.injEq]at hh
    obtain⟨_,rfl,rfl,_⟩:=hh
    obtain⟨callee,args,argTypes⟩:=c
    simp only at e1
    subst e1
    refine aHC hB st re rfl g1 g2 h ?_
    intro v c F' w' H' k1 k2 k3 k4
    exact hK F' w' H' c v k1 k2 (re.up (k1.up st)) k3 k4
   ·exfalso
    simp only[DOp.callf.injEq]at hh
    obtain⟨_,rfl,rfl,_⟩:=hh
    exact hnm _ _ rfl
 ·exact h.elim
theorem aCX {ops:Array Oper} {Qc:Exit→Act→World→Prop}:∀ (l:List DOper) (i:Nat),(∀ j d,l[j]?=some d→Reads P ops (i+j) d)→(∀ d∈l,aDN N d) →
 ∀ (F:Nat→Prop) (w:World) (H:Hp) (env:aD) (a:Act),a.tmps.size=N→B.Up F w→St F w H→RE F w env a→RSP B P l Q env H →
   (∀ a' env' F' w' H' c v,a'.defers=a.defers→Ext F w H F' w' H'→St F' w' H'→RE F' w' env' a'→Rv F' w' v c→Q v env' H'→Qc (.panic (pnc c)) a' w') →
 wpOpsIn (FW r) 0 P ops Qc (List.range' i l.length) a w:=by
 intro l
 induction l with
 | nil=>intro i _ _ F w H env a hsz hB st re h;exact h.elim
 | cons d l ih =>
   intro i hr hd F w H env a hsz hB st re h hQ
   rw[List.length_cons,List.range'_succ,wpOpsIn_cons]
   rcases h with h|h
   ·exact aIq (hr 0 d rfl) hB st re h fun F' w' H' c v k1 k2 k3 k4 k5=>hQ a env F' w' H' c v rfl k1 k2 k3 k4 k5
   ·refine xP (hr 0 d rfl) (hd d (by simp)).2 (hd d (by simp)).1 hsz hB st re h ?_
    intro a' F' w' env' H' h1 h2 h3 h4 h5 h6
    refine ih (i+1) (fun j d' hj=>by have:=hr (j+1) d' (by simpa using hj);rwa [Nat.add_assoc,Nat.add_comm 1 j]) (fun d' hd'=>hd d' (by simp[hd'])) F' w' H' env' a' h1 (hB.step st h3) h4 h5 h6 ?_
    intro a2 env2 F2 w2 H2 c v k0 k1 k2 k3 k4 k5
    exact hQ a2 env2 F2 w2 H2 c v (k0.trans h2) (h3.trans k1) k2 k3 k4 k5
theorem WPD.reg {l:List DOper} (hcm:∀ o∈l,o.op.isComm=false) (h:RSP B P l Q env H):WPD B P r N (.reg false l) Q env H:=by
 intro c hc
 cases c<;>simp only[cP]at hc
 case region id ops d =>
  split at hc
  ·rename_i l' hl
   simp only[oSI,DCode.reg.injEq]at hc
   obtain⟨rfl,rfl⟩:=hc
   unfold qA at hl
   split at hl
   ·simp at hl
   ·rename_i l0 hl0
    obtain⟨hlen,hreads⟩:=pZ hl0
    split at hl
    ·simp at hl
    ·rename_i hdst
     simp only[Bool.not_eq_true',Bool.not_eq_false,Bool.and_eq_true]at hdst
     simp only[Bool.false_eq_true,if_false,oSI]at hl
     subst hl
     intro F w act n0 T h1 h2 h3 h4 h5 h6
     refine wpIn_region ?_
     rw[←hlen,List.range_eq_range']
     refine aCX l0 0 (fun j d hj=>by rw[Nat.zero_add];exact hreads j d hj) (fun d hd=>⟨pY hdst.1 d hd,hcm d hd⟩) F w H env act h3 h1 h4 h5 h ?_
     intro a' env' F' w' H' c v k0 k1 k2 k3 k4 k5
     exact⟨c,v,env',F',H',rfl,k1,k2,k3,k4,by rw[k0];exact h6.ext k1,k5⟩
  ·simp at hc
 all_goals exfalso;first|(simp at hc;done)|((repeat' split at hc)<;>simp at hc;done)

theorem aAA {fn:Func} {tmps:Array Value} {n0:Nat} {F0:Nat→Prop} {w0:World} {H0:Hp} {R:Ending→World→Prop} {c:Value} {v:AV} (hn0:w0.heap.size≤n0)
 (hT:∀ w,Ext F0 w0 H0 F w H→St F w H→Rv F w v c→R (.panicked (pnc c)) w) :
 ∀ (ms:List Deferred) (w:World),Ext F0 w0 H0 F w H→St F w H→Rv F w v c→ms.Nodup→(∀ d∈ms,Mk1 n0 F H w d)→LeavesInM Fence.wide 0 P fn tmps R ms (.panicking (pnc c)) w:=by
 intro ms
 induction ms with
 | nil=>intro w he st hu _ _;exact hT w he st hu
 | cons d ds ih =>
   intro w he st hu hnd hm
   obtain⟨D,rfl,h2,h3,h4,h5⟩:=hm d (by simp)
   obtain⟨k1,k2,k3⟩:=rU (n0:=0) (x:=none) he st (Nat.le_trans hn0 h2) h3 h4 h5
   have hnd:=List.nodup_cons.1 hnd
   refine⟨by simp,.inl ⟨D,_,rfl,run_takeDeferred h3,ih _ k1 k2 (hu.up k3) hnd.2 fun d' hd'=>?_⟩⟩
   obtain⟨D',rfl,l2,l3,l4,l5⟩:=hm d' (by simp[hd'])
   refine⟨D',rfl,l2,?_,l4,l5⟩
   rw[World.putObj_heap_other fun e=>hnd.1 (by rw[←e];exact hd')]
   exact l3
theorem FnP.of {f:FuncId} {d:DFn} {as:List AV} {Qv:AV→Hp→Prop} (hf:aMB P f d) (hN:as.length≤d.N) (hdf:d.dfr=none) (h:WPD B P none d.N d.body (fun v _ H'=>Qv v H') (aM as) H):FnP B P f as H Qv:=by
 refine⟨hf.call,fun F w vs hB st hA=>?_⟩
 obtain⟨fn,c,h1,h2,h3,h4,h5⟩:=hf.code
 have hsz:(vs++Array.replicate (fn.ntmps-vs.size) undef).size=d.N:=by
  have:=hA.1
  simp[h3];omega
 have hre:=uJ (N:=d.N) (nt:=fn.ntmps-vs.size) hB hA
 rw[hdf]at h5
 have h5':cP P d.N c=some d.body:=by
  unfold aDP at h5
  split at h5
  ·rename_i b hb;simp only[oSI,Prod.mk.injEq,true_and]at h5;rw[hb,h5]
  ·split at h5
   ·split at h5
    ·split at h5<;>simp at h5
    ·simp at h5
   ·simp at h5
 refine callsIn_of_wp_marks h1 h2 trivial (wpIn_mono (h c h5' F w { tmps:=vs++Array.replicate (fn.ntmps-vs.size) undef,defers:=[] } w.heap.size [] hB (Nat.le_refl _) hsz st hre Mk.nil) ?_)
 rintro e a' w' ⟨cv,v,env',F',H',rfl,k2,k3,k4,k5,k6,k7⟩
 obtain⟨ms,e1,e2,e3⟩:=k6.ex
 rw[List.append_nil]at e1
 show LeavesInM Fence.wide 0 P fn a'.tmps (aKM F w H Qv) a'.defers (.panicking (pnc cv)) w'
 rw[e1]
 exact aAA (Nat.le_refl _) (fun w'' he st' rv'=>⟨cv,v,F',H',rfl,he,st',rv',k7⟩) ms w' k2 k3 k5 e2 e3
variable {P:Program} {B:Base} {F:Nat→Prop} {w:World} {H:Hp} {env:aD} {a:Act}

def aBq (z:DOper):Bool:=z.op.kind==7&&z.guard.isNone
def jV (post:List DOper):List Nat:=(post.filter aBq).filterMap (·.dst)
def qI (ds:List Nat) (e:aD):aD:=fun j=>if ds.contains j then .any else e j
def zY (y:DOper):List DOper→Bool
 | []=>true
 | x::r=>zY y r&&(r++[y]).any fun z => !lV x z
def vD:List DOper→List DOper→Bool
 | _,[]=>true
 | prev,z::r=>if aBq z then vD prev r else (prev.any fun x => !lV x z)&&vD (z::prev) r
def aBg (pre:List DOper) (y:DOper) (post:List DOper):Bool:=zY y pre&&(vD [y] post&&pre.all fun x=>match x.dst with
 | some d => !(jV post).contains d
 | none=>true)

theorem aFz {d:Option Nat} {u:AV} {j:Nat} (h:d≠some j):aP env d u j=env j:=by
 cases d with
 | none=>rfl
 | some k=>simp only[aP,upd];rw[if_neg];intro e;exact h (by rw[e])
theorem aHf {o:DOper} {K:aD→Hp→Prop} (h:opW B P o K env H):opW B P o (fun env' H'=>K env' H'∧∀ j,o.dst≠some j→env' j=env j) env H:=by
 have g:∀ (u:AV) (H':Hp),K (aP env o.dst u) H'→K (aP env o.dst u) H'∧∀ j,o.dst≠some j→aP env o.dst u j=env j:=fun u H' hk=>⟨hk,fun j hj=>aFz hj⟩
 unfold opW at *
 split at h
 ·revert h
  generalize o.op=op
  intro h
  cases op
  case store n p x l=>exact bA (fun H' hK=>g _ _ hK) h
  case copy s x y=>exact bA (fun r hK=>g _ _ hK) h
  case mapup q m k x=>exact bA (fun H' hK=>g _ _ hK) h
  case nxts x=>exact bA (fun r hK=>g _ _ hK) h
  case send c x=>exact bA (fun r hK=>g _ _ hK) h
  case recv ok z c=>exact bA (fun r hK=>g _ _ hK) h
  case callf q f xs l =>
   cases q with
   | true=>obtain⟨v,h1,h2⟩:=h;exact⟨v,h1,g _ _ h2⟩
   | false=>exact CallV.mono h fun v H' hq=>g _ _ hq
  all_goals
   rw[kA rfl]at h ⊢
   refine bA (fun e he=>?_) h
   unfold eP at *
   split
   ·exact g _ _ he
   ·exact fun b hb=>g _ _ (he b hb)
 ·exact g _ _ h
 ·exact h.elim

theorem aKd {z:DOper} (hz:aBq z=true) (hd:∀ d,z.dst=some d→env d = .any):opW B P z (fun env' H'=>Shift env' H' env H) env H:=by
 simp only[aBq,Bool.and_eq_true,beq_iff_eq,Option.isNone_iff_eq_none]at hz
 obtain⟨x,f,hx⟩:=wC hz.1
 have hg:gd z env=some true:=by unfold gd;rw[hz.2]
 unfold opW
 rw[hg]
 simp only
 rw[kA (iX (.inr hz.1)),hx,optW_some]
 intro b hb
 simp only[reduceCtorEq,or_false]at hb
 have h1:Shift (aP env z.dst (f b)) (hset H b x) env (hset H b x):=fun F w a st re=>⟨F,Ext.refl _ _ _,st,fun k=>by
  have:=re.rv k
  by_cases hk:z.dst=some k
  ·rw[hd k hk];exact .any _
  ·rw[aFz hk]at this;exact this,re.gi⟩
 refine h1.trans (Shift.forget fun c y hc=>?_)
 have:c≠b:=fun e=>by subst e;rw[hb]at hc;cases hc
 rw[aE _ _ this];exact hc

theorem aHR {ops:Array Oper} {listed:Array Bool} (hc:∀ i,listed.getD i false=true→∀ m∈(ops.toList.map bK).getD i [],listed.getD m false=true) {x z:DOper}
 (hp:aAl (iO (ops.toList.map bK)) x z) (hs:lV x z=false) (hz:∀ m∈(ops.toList.map bK).getD z.ix [],listed.getD m false=true):listed.getD x.ix false=true:=by
 rcases hp with hp|hp
 ·exact lZ _ (fun i=>listed.getD i false=true) hc z.ix x.ix hz hp
 ·rw[hs]at hp;cases hp

theorem uH {ops:Array Oper} {listed:Array Bool} {y:DOper} {post:List DOper} (hc:∀ i,listed.getD i false=true→∀ m∈(ops.toList.map bK).getD i [],listed.getD m false=true)
 (hy:∀ m∈(ops.toList.map bK).getD y.ix [],listed.getD m false=true) :
 ∀ (pre:List DOper),(pre++y::post).Pairwise (aAl (iO (ops.toList.map bK)))→zY y pre=true→∀ x∈pre,listed.getD x.ix false=true
 | [],_,_,x,hx=>by simp at hx
 | x0::r,hp,hch,x,hx=>by
   simp only[zY,Bool.and_eq_true]at hch
   rw[List.cons_append]at hp
   obtain⟨hp1,hp2⟩:=List.pairwise_cons.1 hp
   have ih:=uH hc hy r hp2 hch.1
   rcases List.mem_cons.1 hx with rfl|hx
   ·obtain⟨z,hz,hsw⟩:=List.any_eq_true.1 hch.2
    simp only[Bool.not_eq_true']at hsw
    rcases List.mem_append.1 hz with hz|hz
    ·exact aHR hc (hp1 z (by simp[hz])) hsw (hc z.ix (ih z hz))
    ·simp only[List.mem_singleton]at hz
     subst hz
     exact aHR hc (hp1 z (by simp)) hsw hy
   ·exact ih x hx

theorem oE {ops:Array Oper} {listed:Array Bool} {y:DOper} (hc:∀ i,listed.getD i false=true→∀ m∈(ops.toList.map bK).getD i [],listed.getD m false=true) :
 ∀ (post prev:List DOper),(∀ x∈prev,∀ z∈post,aAl (iO (ops.toList.map bK)) x z)→post.Pairwise (aAl (iO (ops.toList.map bK)))→vD prev post=true →
   (∀ x∈prev,listed.getD x.ix false=true→listed.getD y.ix false=true)→∀ z∈post,aBq z=false→(∀ m∈(ops.toList.map bK).getD z.ix [],listed.getD m false=true)→listed.getD y.ix false=true
 | [],_,_,_,_,_,z,hz,_,_=>by simp at hz
 | z0::r,prev,hpr,hpw,hch,hyes,z,hz,hf,hm=>by
   obtain⟨hp1,hp2⟩:=List.pairwise_cons.1 hpw
   simp only[vD]at hch
   split at hch
   ·rename_i hf0
    rcases List.mem_cons.1 hz with rfl|hz
    ·rw[hf0]at hf;cases hf
    ·exact oE hc r prev (fun x hx u hu=>hpr x hx u (by simp[hu])) hp2 hch hyes z hz hf hm
   ·simp only[Bool.and_eq_true]at hch
    have one:(∀ m∈(ops.toList.map bK).getD z0.ix [],listed.getD m false=true)→listed.getD y.ix false=true:=fun hm=>by
     obtain⟨x,hx,hsw⟩:=List.any_eq_true.1 hch.1
     simp only[Bool.not_eq_true']at hsw
     exact hyes x hx (aHR hc (hpr x hx z0 (by simp)) hsw hm)
    rcases List.mem_cons.1 hz with rfl|hz
    ·exact one hm
    ·refine oE hc r (z0::prev) (fun x hx u hu=>?_) hp2 hch.2 (fun x hx hl=>?_) z hz hf hm
     ·rcases List.mem_cons.1 hx with rfl|hx
      ·exact hp1 u hu
      ·exact hpr x hx u (by simp[hu])
     ·rcases List.mem_cons.1 hx with rfl|hx
      ·exact one (hc _ hl)
      ·exact hyes x hx hl

theorem Drawn.drop {N:Nat} {ops:Array Oper} {p1 p2:List DOper} {z:DOper} {listed:Array Bool} (hd:Drawn P N ops (p1++z::p2) listed) (hlt:z.ix<ops.size) (h2:∀ m∈(ops.toList.map bK).getD z.ix [],listed.getD m false=true) :
 (∀ x∈p1++p2,x.ix≠z.ix)∧Drawn P N ops (p1++p2) (listed.setIfInBounds z.ix true):=by
 have hsub:(p1++p2).Sublist (p1++z::p2):=List.Sublist.append_left (List.sublist_cons_self _ _) _
 have hnd:∀ x∈p1++p2,x.ix≠z.ix:=by
  intro x hx e
  have hn:=hd.nodup
  rw[List.map_append,List.map_cons,List.nodup_append]at hn
  rcases List.mem_append.1 hx with hx|hx
  ·exact hn.2.2 x.ix (List.mem_map_of_mem hx) z.ix (by simp) e
  ·exact(List.nodup_cons.1 hn.2.1).1 (by rw[←e];exact List.mem_map_of_mem hx)
 refine⟨hnd,fun x hx=>hd.reads x (hsub.mem hx),fun x hx=>?_,fun j hj=>?_,hd.nodup.sublist (hsub.map _),hd.pairs.sublist hsub,fun j hj m hm=>?_,by simp[hd.size]⟩
 ·rw[getD_set_ne true (Ne.symm (hnd x hx))];exact hd.open_ x (hsub.mem hx)
 ·by_cases hjy:j=z.ix
  ·subst hjy
   have:z.ix<listed.size:=by rw[hd.size];exact hlt
   simp[this]at hj
  ·rw[getD_set_ne true (Ne.symm hjy)]at hj
   obtain⟨x,hx,hxj⟩:=hd.all j hj
   refine⟨x,?_,hxj⟩
   simp only[List.mem_append,List.mem_cons]at hx ⊢
   rcases hx with hx|rfl|hx
   ·exact .inl hx
   ·exact absurd hxj.symm hjy
   ·exact .inr hx
 ·by_cases hjy:j=z.ix
  ·subst hjy;exact getD_set_true (h2 m hm)
  ·rw[getD_set_ne false (Ne.symm hjy)]at hj
   exact getD_set_true (hd.closed j hj m hm)

theorem aCY {ops:Array Oper} {r:Option Nat} {N:Nat} {Q:QP} {Qc:Exit→Act→World→Prop} (ha:rE (ops.toList.map bK)=true) {y:DOper} {post0 pre0:List DOper}
 (hp0:(pre0++y::post0).Pairwise (aAl (iO (ops.toList.map bK)))) (hB0:zY y pre0=true) (hA0:vD [y] post0=true) (hF0:∀ x∈pre0,∀ d,x.dst=some d→d∉jV post0) :
 ∀ (fuel:Nat) (pre post:List DOper) (listed:Array Bool) (F:Nat→Prop) (w:World) (H:Hp) (env:aD) (a:Act) (L:sP),(pre++y::post).length≤fuel→pre.Sublist pre0→post.Sublist post0→Drawn P N ops (pre++y::post) listed→(∀ o∈pre,L o.ix=none) →
   (∀ d∈jV post0,env d = .any)→a.tmps.size=N→B.Up F w→St F w H→RE F w env a→RD B P pre (fun env H=>opP B P y Q env H) env H L →
   (∀ a' env' F' w' H' c v,a'.defers=a.defers→Ext F w H F' w' H'→St F' w' H'→RE F' w' env' a'→Rv F' w' v c→Q v env' H'→Qc (.panic (pnc c)) a' w')→wpAnyIn (FW r) 0 P .any ops Qc fuel listed a w:=by
 intro fuel
 induction fuel with
 | zero=>intro pre post listed F w H env a L hl;simp at hl
 | succ fuel ih =>
   intro pre post listed F w H env a L hl hsub0 hsub1 hd hL hE hsz hB st re h hQ
   refine⟨fun hr=>absurd hr (hd.ready_ne ha (by simp)),fun i hi=>?_⟩
   obtain⟨h1,hlt,h2⟩:=nQ.1 hi
   obtain⟨z,hz,rfl⟩:=hd.all i h1
   have shut:∀ x∈pre++y::post,listed.getD x.ix false=true→False:=fun x hx hl=>by
    have hx':=hd.open_ x hx
    have hxl:x.ix<listed.size:=by
     obtain⟨o,ho,_⟩:=(hd.reads x hx).1.get
     rw[hd.size];exact(Array.getElem?_eq_some_iff.1 ho).1
    rw[uV hxl,hl]at hx'
    simp at hx'
   by_cases hzp:z∈pre
   ·obtain⟨p1,p2,rfl⟩:=List.append_of_mem hzp
    have hd':Drawn P N ops (p1++z::(p2++y::post)) listed:=by simpa using hd
    have hsw:∀ x∈p1,lV x z=true:=fun x hx=>by
     have hp:=(List.pairwise_append.1 hd'.pairs).2.2 x hx z (by simp)
     rcases hp with hp|hp
     ·exfalso
      exact shut x (by simp[hx]) (lZ _ (fun i=>listed.getD i false=true) hd.closed z.ix x.ix h2 hp)
     ·exact hp
    have hndp:((p1++z::p2).map (·.ix)).Nodup:=by
     have:=hd.nodup
     rw[List.map_append,List.nodup_append]at this
     exact this.1
    have hp:=aSa p1 env H L st.fin hsw hndp hL h
    refine xP (hd.reads z hz).1 (hd.reads z hz).2.2 (hd.reads z hz).2.1 hsz hB st re (aHf (aFX hp)) ?_
    rintro a' F' w' env' H' k1 k2 k3 k4 k5 ⟨⟨L',k6,k7⟩,k8⟩
    have hsub:(p1++p2).Sublist (p1++z::p2):=List.Sublist.append_left (List.sublist_cons_self _ _) _
    obtain⟨hnd,hdn⟩:=hd'.drop hlt h2
    refine ih (p1++p2) post _ F' w' H' env' a' L' (by simp at hl ⊢;omega) (hsub.trans hsub0) hsub1 (by simpa using hdn)
     (fun x hx=>by rw[k6 _ (hnd x (by simp at hx ⊢;rcases hx with hx|hx<;>simp[hx]))];exact hL x (hsub.mem hx))
     (fun d hdd=>by rw[k8 d fun e=>hF0 z (hsub0.mem (by simp)) d e hdd];exact hE d hdd) k1 (hB.step st k3) k4 k5 k7 (fun a2 env2 F2 w2 H2 c v m0 m1 m2 m3 m4 m5=>hQ a2 env2 F2 w2 H2 c v (m0.trans k2) (k3.trans m1) m2 m3 m4 m5)
   ·rcases List.mem_append.1 hz with hz'|hz'
    ·exact absurd hz' hzp
    ·rcases List.mem_cons.1 hz' with rfl|hz'
     ·have hall:=uH hd.closed h2 pre0 hp0 hB0
      have hnil:pre=[]:=by
       cases pre with
       | nil=>rfl
       | cons x pr=>exact(shut x (by simp) (hall x (hsub0.mem (by simp)))).elim
      subst hnil
      exact aIq (hd.reads z hz).1 hB st re h fun F' w' H' c v k1 k2 k3 k4 k5=>hQ a env F' w' H' c v rfl k1 k2 k3 k4 k5
     ·cases hfz:aBq z with
      | true =>
        obtain⟨p1,p2,rfl⟩:=List.append_of_mem hz'
        have hd':Drawn P N ops ((pre++y::p1)++z::p2) listed:=by simpa using hd
        have hzd:∀ d,z.dst=some d→env d = .any:=fun d hdz=>hE d (by
         unfold jV
         rw[List.mem_filterMap]
         exact⟨z,List.mem_filter.2 ⟨hsub1.mem (by simp),hfz⟩,hdz⟩)
        refine xP (hd.reads z hz).1 (hd.reads z hz).2.2 (hd.reads z hz).2.1 hsz hB st re (aKd hfz hzd) ?_
        intro a' F' w' env' H' k1 k2 k3 k4 k5 k6
        obtain⟨F2,m1,m2,m3⟩:=k6 F' w' a' k4 k5
        obtain⟨hnd,hdn⟩:=hd'.drop hlt h2
        have hsub:(p1++p2).Sublist (p1++z::p2):=List.Sublist.append_left (List.sublist_cons_self _ _) _
        have he:=k3.trans m1
        exact ih pre (p1++p2) _ F2 w' H env a' L (by simp at hl ⊢;omega) hsub0 (hsub.trans hsub1) (by simpa using hdn) hL hE k1 (hB.step st he) m2 m3 h (fun a2 env2 F3 w2 H2 c v n0 n1 n2 n3 n4 n5=>hQ a2 env2 F3 w2 H2 c v (n0.trans k2) (he.trans n1) n2 n3 n4 n5)
      | false =>
        exfalso
        obtain⟨_,hp2,_⟩:=List.pairwise_append.1 hp0
        obtain⟨hp3,hp4⟩:=List.pairwise_cons.1 hp2
        refine shut y (by simp) (oE hd.closed post0 [y] (fun x hx u hu=>?_) hp4 hA0 (fun x hx hlx=>?_) z (hsub1.mem hz') hfz h2)
        ·rw[List.mem_singleton.1 hx];exact hp3 u hu
        ·rw[List.mem_singleton.1 hx]at hlx;exact hlx

variable {r:Option Nat} {N:Nat} {Q:QP}
theorem WPD.regD {pre post:List DOper} {y:DOper} (hm:P.follows .mixedOrders=true) (hch:aBg pre y post=true) (h:RD B P pre (fun env H=>opP B P y Q env H) (qI (jV post) env) H noL):WPD B P r N (.reg true (pre++y::post)) Q env H:=by
 intro c hc
 cases c<;>simp only[cP]at hc
 case region id ops d =>
  split at hc
  ·rename_i l' hl
   simp only[oSI,DCode.reg.injEq]at hc
   obtain⟨rfl,rfl⟩:=hc
   simp only[aBg,Bool.and_eq_true]at hch
   have hF:∀ x∈pre,∀ d,x.dst=some d→d∉jV post:=fun x hx d hd hmem=>by
    have:=List.all_eq_true.1 hch.2.2 x hx
    rw[hd]at this
    simp[hmem]at this
   obtain⟨c1,c2,c3,c4,c5,c6⟩:=wF hl
   intro F w act n0 T h1 h2 h3 h4 h5 h6
   refine wpIn_region_any hm ?_
   have hlist:∀ i,(Array.replicate ops.size false).getD i true=false↔i<ops.size:=fun i=>by
    by_cases h:i<ops.size<;>simp[h]
   refine aCY c2 (iF c3) hch.1 hch.2.1 hF ops.size pre post _ F w.drew H (qI (jV post) env) act noL (by omega) (List.Sublist.refl _) (List.Sublist.refl _) ⟨c1,fun y hy=>?_,fun i hi=>?_,tR c5,iF c3,fun i hi=>?_,by simp⟩ (fun _ _=>rfl) (fun d hd=>by simp[qI,hd]) h3
    (h1.step h4 (fY F w H)) (sW h4) ⟨fun k=>by
     have:=(h5.up ((fY F w H).up h4)).rv k
     simp only[qI]
     split
     ·exact .any _
     ·exact this,(h5.up ((fY F w H).up h4)).gi⟩ h ?_
   ·obtain⟨o,ho,_⟩:=(c1 y hy).1.get
    exact(hlist _).2 (Array.getElem?_eq_some_iff.1 ho).1
   ·have:=c6 i ((hlist i).1 hi)
    rw[List.mem_map]at this
    exact this
   ·exfalso
    simp only[Array.getD_eq_getD_getElem?,Array.getElem?_replicate]at hi
    split at hi<;>simp at hi
   ·intro a' env' F' w' H' c v k0 k1 k2 k3 k4 k5
    exact⟨c,v,env',F',H',rfl,(fY F w H).trans k1,k2,k3,k4,by rw[k0];exact h6.ext ((fY F w H).trans k1),k5⟩
  ·simp at hc
 all_goals exfalso;first|(simp at hc;done)|((repeat' split at hc)<;>simp at hc;done)

theorem WPD.shift {env':aD} {H':Hp} {c:DCode} (hs:Shift env H env' H') (h:WPD B P r N c Q env' H'):WPD B P r N c Q env H:=by
 intro c hc F w act n0 T h1 h2 h3 h4 h5 h6
 obtain⟨F',k1,k2,k3⟩:=hs F w act h4 h5
 refine wpIn_mono (h c hc F' w act n0 T (h1.step h4 k1) h2 h3 k2 k3 (h6.ext k1)) ?_
 exact fun _ _ _=>LandP.step k1
theorem LandP.mono {n0:Nat} {T:List Deferred} {Q':QP} (hq:∀ v e H',Q v e H'→Q' v e H') {e:Exit} {a':Act} {w':World} (h:LandP n0 T F w H Q e a' w'):LandP n0 T F w H Q' e a' w':=by
 obtain⟨c,v,env',F',H',h1,h2,h3,h4,h5,h6,h7⟩:=h
 exact⟨c,v,env',F',H',h1,h2,h3,h4,h5,h6,hq _ _ _ h7⟩
theorem WPD.mono {c:DCode} {Q':QP} (hq:∀ v e H',Q v e H'→Q' v e H') (h:WPD B P r N c Q env H):WPD B P r N c Q' env H :=
 fun c hc F w act n0 T h1 h2 h3 h4 h5 h6=>wpIn_mono (h c hc F w act n0 T h1 h2 h3 h4 h5 h6) fun _ _ _=>LandP.mono hq
abbrev oU:=Nat→List AV→XH→Option (AV×XH)
def aFo (runP:oU) (fv:AV) (as:List AV) (h:XH):Option (AV×XH):=match fv with
 | .fn (.func g) first cap=>wH runP g (first++as++cap) h (fP g)
 | _=>none
def nO:AO→Bool
 | .meth _ _=>false
 | _=>true
def aJt (runP:oU) (op:DOp) (e:aD) (h:XH):Option (AV×aD×XH):=match op with
 | .callf false f xs _=>if nO f then (aFo runP (aG e f) (xs.map (aG e)) h).map fun q=>(q.1,e,q.2) else none
 | _=>none
def aAE (run:bZ) (runY:cV) (runP:oU):List DOper→aD→XH→Option (AV×aD×XH)
 | [],_,_=>none
 | o::r,e,h=>match gd o e with
   | some true=>match bT run runY o.dst o.op e h with
     | some s=>aAE run runY runP r s.1 s.2
     | none=>aJt runP o.op e h
   | some false=>aAE run runY runP r (aP e o.dst (.tup [])) h
   | none=>none
def xE (run:bZ) (runY:cV) (runP:oU) (e:aD) (h:XH):List DOper→List DOper→Option (AV×aD×XH)
 | _,[]=>none
 | pre,y::post=>match (if y.op.kind=6∧aBg pre y post=true then match dK run runY pre (qI (jV post) e) h []with
    | some s=>match gd y s.1 with
      | some true=>aJt runP y.op s.1 s.2
      | _=>none
    | none=>none
    else none)with
   | some q=>some q
   | none=>xE run runY runP e h (pre++[y]) post
def aDs (step:aD→XH→Option (DX×aD×XH)) (aAK:aD→XH→Option (AV×aD×XH)) (k:Nat) (L:List Nat):Nat→aD→XH→Option (AV×aD×XH)
 | 0,_,_=>none
 | n+1,e,h=>match step (lD k L e h) (oF k L e h)with
   | some (.normal,e',h')=>aDs step aAK k L n e' h'
   | some _=>none
   | none=>aAK (lD k L e h) (oF k L e h)
def fF (run:bZ) (runY:cV) (runP:oU) (K k n:Nat) (rd:Option Nat):XCode→aD→XH→Option (AV×aD×XH)
 | .reg fz true ops,e,h=>xE run runY runP (sE fz e h).1 (sE fz e h).2 [] ops
 | .reg fz false ops,e,h=>if ops.any (fun o=>o.op.isComm) then none else aAE run runY runP ops (sE fz e h).1 (sE fz e h).2
 | .seq a b,e,h=>match aU run runY K k n rd a e h with
   | some (.normal,e',h')=>fF run runY runP K k n rd b e' h'
   | some _=>none
   | none=>fF run runY runP K k n rd a e h
 | .cond c a b,e,h=>match aG e c with
   | .bool true=>fF run runY runP K k n rd a e h
   | .bool false=>fF run runY runP K k n rd b e h
   | _=>none
 | .block _ a,e,h=>fF run runY runP K k n rd a e h
 | .loop L a,e,h=>aDs (aU run runY K k n rd a) (fF run runY runP K k n rd a) k L n e h
 | .scope a,e,h=>fF run runY runP K k n rd a e h
 | _,_,_=>none

structure aAD where
 N:Nat
 res:List (Nat×Option (Bool×Nat))
 pre:List DOper
 cell:Nat
 fn:Nat
 body:XCode
 ty:TypeId
 zero:AV
 hops:List DOper
 is:Nat
 hlast:List DOper
structure jX where
 pb:Nat→List AV→Option AV
 say:Nat→Option aAD
 orc:Nat→List AV→XH→Option (AV×XH)

def aMi (g:Bool) (k:Nat) (v:AV) (h:XH):AV×XH:=match g with
 | true=>(v,h)
 | false=>iZ true k v h
def aAK (D:Nat→Option XFn) (S:jX) (run:bZ) (runY:cV) (runP:oU) (n:Nat):oU:=fun K as h=>match S.pb K as with
 | some v=>some (v,h)
 | none=>match S.say K,D K with
   | none,some d=>match d.prm,d.dfr with
     | none,none=>if as.length≤d.N then (fF run runY runP K h.length n none d.body (aM (if d.ownA then as else jJ as)) h).map fun q=>aMi (fP K) h.length q.1 q.2.2 else none
     | _,_=>none
   | _,_=>none

def xQ (i:aAD) (k:Nat) (e:aD) (h:XH):Option (AV×XH):=(fD i.res e (aF h)).map fun v=>iZ false k v h
def vZ (cell v:AV) (t:Bool):aD:=fun j=>if j=0 then cell else if j=5 then .tup [v,.bool t] else .any
def nA (i:aAD) (run:bZ) (runY:cV) (cell v:AV) (t:Bool) (h:XH):Option XH:=match dM run runY i.hops (vZ cell v t) h with
 | some (e1,h1)=>match e1 i.is with
   | .bool true=>(dM run runY i.hlast e1 h1).map (·.2)
   | .bool false=>some h1
   | _=>none
 | none=>none
def aOc (i:aAD) (run:bZ) (runY:cV) (runP:oU) (K n:Nat) (as:List AV) (h:XH):Option (AV×XH):=if as.length≤i.N then
 match dM run runY i.pre (aM (jJ as)) h with
 | some (e1,h1)=>match e1 i.cell with
   | .pt c o=>if c<h1.length then
     match aU run runY K h1.length n none i.body (upd e1 i.fn .any) h1 with
     | some (.exit _,_,_)=>none
     | some (_,e2,h2)=>(nA i run runY (.pt c o) i.zero false h2).bind (xQ i h.length e2)
     | none=>match fF run runY runP K h1.length n none i.body (upd e1 i.fn .any) h1 with
       | some (.ifc t v,e2,h2)=>if t=i.ty then (nA i run runY (.pt c o) v true h2).bind (xQ i h.length e2) else none
       | _=>none
     else none
   | _=>none
 | none=>none
 else none
def aMN (D:Nat→Option XFn) (S:jX) (run:bZ) (runY:cV) (runP:oU) (n:Nat):bZ:=fun K as h=>match S.orc K as h with
 | some q=>some q
 | none=>match S.say K with
   | some i=>aOc i run runY runP K n as h
   | none=>vN D run runY n K as h
mutual
def aV (D:Nat→Option XFn) (S:jX):Nat→bZ
 | 0=>fun _ _ _=>none
 | n+1=>aMN D S (aV D S n) (xZ D S n) (aAU D S n) n
def xZ (D:Nat→Option XFn) (S:jX):Nat→cV
 | 0=>fun _ _ _=>none
 | n+1=>xL D (aV D S n) (xZ D S n) n
def aAU (D:Nat→Option XFn) (S:jX):Nat→oU
 | 0=>fun _ _ _=>none
 | n+1=>aAK D S (aV D S n) (xZ D S n) (aAU D S n) n
end
section
variable {P:Program} {B:Base} {D:Nat→Option XFn} {Y:Nat→Option YI} {r:Nat→Option Nat} {e env:aD} {h:XH} {H:Hp}

def aEd (P:Program) (B:Base) (D:Nat→Option XFn) (Y:Nat→Option YI) (runP:oU):Prop :=
 ∀ (r:Nat→Option Nat) (h:XH) (H:Hp) (K:Nat) (as as':List AV) (v:AV) (h':XH),SH D Y r h H→RnL D Y r as as'→runP K as h=some (v,h')→FnP B P K as' H (bR D Y r v h')

theorem aBe {F:Nat→Prop} {w:World} {Q:AV→Hp→Prop} {e:Ending} {w':World}:aKM F w H Q e w'↔∃ c,e = .panicked (pnc c)∧oT F w H Q (.returned c) w':=by
 constructor
 ·rintro ⟨c,v,F',H',rfl,h1,h2,h3,h4⟩
  exact⟨c,rfl,c,v,F',H',rfl,h1,h2,h3,h4⟩
 ·rintro ⟨c,rfl,c',v,F',H',h0,h1,h2,h3,h4⟩
  cases h0
  exact⟨c,v,F',H',rfl,h1,h2,h3,h4⟩

theorem FnP.mono {f:FuncId} {as:List AV} {Q Q':AV→Hp→Prop} (hq:∀ v H',Q v H'→Q' v H') (hp:FnP B P f as H Q):FnP B P f as H Q' :=
 ⟨hp.1,fun F w vs h1 h2 h3=>(hp.2 F w vs h1 h2 h3).mono fun e w' ⟨c,v,F',H',k1,k2,k3,k4,k5⟩=>⟨c,v,F',H',k1,k2,k3,k4,hq _ _ k5⟩⟩

theorem FnP.frameS {f:FuncId} {as:List AV} {Q:AV→Hp→Prop} (S:Nat→Prop) [DecidablePred S] (hp:FnP B P f as (fun c=>if S c then H c else none) Q) :
 FnP B P f as H fun v H''=>∃ H',Q v H'∧(∀ c,S c∨H c=none→H'' c=H' c)∧(∀ c,¬S c→∀ x,H c=some x→H'' c=some x∧H' c=none):=by
 refine⟨hp.1,fun F w vs h1 h2 h3=>(hp.2 F w vs h1 ?_ h3).mono fun e w' hw0=>?_⟩
 ·exact h2.forget fun c x hc=>by
   split at hc
   ·exact hc
   ·simp at hc
 ·obtain⟨c,rfl,hw1⟩:=aBe.1 hw0
  exact aBe.2 ⟨c,rfl,vR S h2 _ _ hw1⟩

theorem aCv {runP:oU} (hf:aEd P B D Y runP) (sh:SH D Y r h H) {fv fv':AV} {as as':List AV} (h1:Rn D Y r fv fv') (h2:RnL D Y r as as') {v:AV} {h':XH}
 (hx:aFo runP fv as h=some (v,h')):aEe B P fv' as' H (bR D Y r v h'):=by
 unfold aFo at hx
 split at hx
 ·rename_i g first cap
  cases h1 with
  | fn _ _ ys _ vs hf0 hl1 k1 hl2 k2 =>
  have hA:=RnL.append (RnL.append ⟨hl1,k1⟩ h2) ⟨hl2,k2⟩
  cases hg:fP g with
  | true =>
    rw[hg]at hx
    exact hf _ _ _ g _ (ys++as'++vs) v h' sh hA hx
  | false =>
    rw[hg]at hx
    simp only[wH,Option.map_eq_some_iff]at hx
    obtain⟨⟨v0,hl⟩,hrun,hm⟩:=hx
    simp only[rW,Prod.mk.injEq]at hm
    obtain⟨rfl,rfl⟩:=hm
    obtain⟨hn,hlive⟩:=mQ (first++as++cap) h
    classical
    obtain⟨G,hG⟩:=sh.gh
    have hS:∀ c,(∃ b∈dT (first++as++cap) h,uD h r G b c)↔∃ b∈dT (first++as++cap) h,uD h r G b c:=fun c=>Iff.rfl
    obtain⟨g1,g2,g3⟩:=lP sh hG hn hlive (fun c=>∃ b∈dT (first++as++cap) h,uD h r G b c) hS
    have:=hf _ _ _ g _ (ys++as'++vs) v0 hl g1 (g3 _ _ hA) hrun
    refine FnP.mono ?_ (FnP.frameS (fun c=>∃ b∈dT (first++as++cap) h,uD h r G b c) this)
    rintro v' H'' ⟨H',⟨rl,m1,m2,m3⟩,e1,e2⟩
    obtain⟨r',p1,p2,p3,p4⟩:=vT sh hG hn hlive hS m1 m2 e1 e2
    exact⟨r',p1,p2,p3 v0 v' m3⟩
 ·simp at hx

def aKN (D:Nat→Option XFn) (Y:Nat→Option YI) (r:Nat→Option Nat) (v:AV) (e:aD) (h:XH) (Q:QP):Prop:=∀ r' v' env' H',Sub r r'→SR D Y r' e h env' H'→Rn D Y r' v v'→Q v' env' H'

theorem yU {runP:oU} (hf:aEd P B D Y runP) (sr:SR D Y r e h env H) {o:DOper} (hok:fA o.op=true) (hg:gd o e=some true) {v:AV} {e':aD} {h':XH} (hx:aJt runP o.op e h=some (v,e',h')) {Q:QP} (hK:aKN D Y r v e' h' Q):opP B P o Q env H:=by
 refine⟨uC sr hg,?_⟩
 unfold aJt at hx
 split at hx
 ·rename_i f xs l hop
  rw[hop]at hok
  try rw[hop]
  simp only[fA,Bool.and_eq_true]at hok
  split at hx
  ·rename_i hm
   simp only[Option.map_eq_some_iff,Prod.mk.injEq]at hx
   obtain⟨⟨v0,h0⟩,hx,rfl,rfl,rfl⟩:=hx
   refine⟨fun tab k hf=>by subst hf;simp[nO]at hm,?_⟩
   have:=aCv (P:=P) (B:=B) hf sr.sh (aI sr.re hok.1) (nI sr.re hok.2) hx
   unfold aEe at this ⊢
   split at this
   ·refine FnP.mono ?_ this
    rintro v' H' ⟨r',k1,k2,k3⟩
    exact hK r' v' env H' k1 ⟨k2,fun j=>(sr.re j).mono k1⟩ k3
   ·exact this.elim
  ·simp at hx
 ·simp at hx

theorem aCA {run:bZ} {runY:cV} {runP:oU} (hf:FnS P B D Y run) (hy:YS P B D Y runY) (hp:aEd P B D Y runP):∀ (ops:List DOper) (r:Nat→Option Nat) (e:aD) (h:XH) (env:aD) (H:Hp) (v:AV) (e':aD) (h':XH) (Q:QP),lM ops=true→SR D Y r e h env H →
 aAE run runY runP ops e h=some (v,e',h')→aKN D Y r v e' h' Q→RSP B P ops Q env H:=by
 intro ops
 induction ops with
 | nil=>intro r e h env H v e' h' Q _ sr hx hK;simp[aAE]at hx
 | cons o ops ih =>
   intro r e h env H v e' h' Q hok sr hx hK
   simp only[lM,List.all_cons,Bool.and_eq_true]at hok
   simp only[aAE]at hx
   split at hx
   ·rename_i hg
    split at hx
    ·rename_i s hx1
     refine .inr ?_
     simp only[opW,uC sr hg]
     refine dN hf hy sr hok.1 (e':=s.1) (h':=s.2) hx1 fun r' env' H' hs sr'=>?_
     exact ih r' s.1 s.2 env' H' v e' h' Q hok.2 sr' hx fun r2 v2 env2 H2 hs2 sr2 hv2=>hK r2 v2 env2 H2 (hs.trans hs2) sr2 hv2
    ·exact .inl (yU hp sr hok.1 hg hx hK)
   ·rename_i hg
    refine .inr ?_
    simp only[opW,uC sr hg]
    exact ih r _ h _ H v e' h' Q hok.2 (sr.put (Sub.refl r) sr.sh (.tup [] [] rfl (by simp)) o.dst) hx hK
   ·simp at hx

theorem sR {run:bZ} {runY:cV} {runP:oU} {q:AV×aD×XH}:∀ (l pre:List DOper),xE run runY runP e h pre l=some q →
 ∃ p y post s,pre++l=p++y::post∧aBg p y post=true∧dK run runY p (qI (jV post) e) h []=some s∧gd y s.1=some true∧aJt runP y.op s.1 s.2=some q
 | [],pre,hx=>by simp[xE]at hx
 | y::post,pre,hx=>by
   simp only[xE]at hx
   split at hx
   ·rename_i q' hq
    cases hx
    split at hq
    ·rename_i hc
     split at hq
     ·rename_i s hs
      split at hq
      ·rename_i hg
       exact⟨pre,y,post,s,rfl,hc.2,hs,hg,hq⟩
      ·cases hq
     ·cases hq
    ·cases hq
   ·obtain⟨p,y',post',s,h1,h2⟩:=sR post (pre++[y]) hx
    exact⟨p,y',post',s,by simpa using h1,h2⟩

def aNt (D:Nat→Option XFn) (Y:Nat→Option YI) (k:Nat) (r:Nat→Option Nat) (v:AV) (e:aD) (h:XH) (Q:QP):Prop:=∀ r' v' env' H',Agree k r r'→SR D Y r' e h env' H'→Rn D Y r' v v'→Q v' env' H'

theorem wA {run:bZ} {runY:cV} {runP:oU} {d:XFn} {K:Nat} (hD:D K=some d) (hm:P.follows .mixedOrders=true) (hall:∀ (B:Base) (Y:Nat→Option YI),YOk P B D Y→FnS P B D Y run∧YS P B D Y runY) (hp:∀ (B:Base) (Y:Nat→Option YI),YOk P B D Y→aEd P B D Y runP) (k n:Nat) (rd rr:Option Nat) :
 ∀ (code:XCode) (B:Base) (Y:Nat→Option YI) (r:Nat→Option Nat) (e:aD) (h:XH) (env:aD) (H:Hp) (v:AV) (e':aD) (h':XH) (Q:QP),YOk P B D Y→kT code=true→eS d code→RdOk Y r k rd rr→SR D Y r e h env H →
   fF run runY runP K k n rd code e h=some (v,e',h')→aNt D Y k r v e' h' Q→WPD B P rr d.N code.erase Q env H:=by
 intro code
 induction code with
 | skip=>intro B Y r e h env H v e' h' Q hY hok hs hrd sr hx hK;simp[fF]at hx
 | exit id=>intro B Y r e h env H v e' h' Q hY hok hs hrd sr hx hK;simp[fF]at hx
 | ret=>intro B Y r e h env H v e' h' Q hY hok hs hrd sr hx hK;simp[fF]at hx
 | rng site L f ps a b=>intro B Y r e h env H v e' h' Q hY hok hs hrd sr hx hK;simp[fF]at hx
 | reg fz draw ops =>
   intro B Y r e h env H v e' h' Q hY hok hs hrd sr hx hK
   simp only[kT]at hok
   obtain⟨hf,hy⟩:=hall B Y hY
   obtain⟨env1,H1,k1,k2⟩:=qU sr fz
   refine WPD.shift k1 ?_
   cases draw with
   | true =>
     simp only[fF]at hx
     obtain⟨p,y,post,s,hl,hc,hs1,hg,hpx⟩:=sR ops [] hx
     simp only[List.nil_append]at hl
     subst hl
     simp only[lM,List.all_append,List.all_cons,Bool.and_eq_true]at hok
     refine WPD.regD hm hc ?_
     have k3:SR D Y r (qI (jV post) (sE fz e h).1) (sE fz e h).2 (qI (jV post) env1) H1:=⟨k2.sh,fun j=>by
      simp only[qI]
      split
      ·exact .any _
      ·exact k2.re j⟩
     refine oW hf hy p r _ _ [] _ H1 noL s.1 s.2 _ hok.1 k3 ⟨by simp,fun j c hj=>by simp[noL]at hj⟩ hs1 fun r' env' H' hs sr'=>?_
     exact yU (hp B Y hY) sr' hok.2.1 hg hpx fun r2 v2 env2 H2 hs2 sr2 hv2=>hK r2 v2 env2 H2 ((hs.trans hs2).agree k) sr2 hv2
   | false =>
     simp only[fF]at hx
     split at hx
     ·simp at hx
     ·rename_i hcm
      refine WPD.reg (fun o ho=>?_) ?_
      ·simp only[Bool.not_eq_true,List.any_eq_false]at hcm
       simpa using hcm o ho
      ·exact aCA hf hy (hp B Y hY) ops r _ _ env1 H1 v e' h' _ hok k2 hx fun r2 v2 env2 H2 hs2 sr2 hv2=>hK r2 v2 env2 H2 (hs2.agree k) sr2 hv2
 | seq a b iha ihb =>
   intro B Y r e h env H v e' h' Q hY hok hs hrd sr hx hK
   simp only[kT,Bool.and_eq_true]at hok
   simp only[fF]at hx
   split at hx
   ·rename_i e1 h1 hx1
    refine WPD.seq2 ?_
    exact eM hD hm hall k n rd rr a B Y r e h env H .normal e1 h1 _ hY hok.1 hs.1 hrd sr hx1 fun r' env' H' ha sr' =>
     ⟨rfl,ihb B Y r' e1 h1 env' H' v e' h' Q hY hok.2 hs.2 (hrd.agree ha) sr' hx fun r2 v2 env2 H2 ha2 sr2 hv2=>hK r2 v2 env2 H2 (ha.trans ha2) sr2 hv2⟩
   ·simp at hx
   ·exact WPD.seq1 (iha B Y r e h env H v e' h' Q hY hok.1 hs.1 hrd sr hx hK)
 | cond c a b iha ihb =>
   intro B Y r e h env H v e' h' Q hY hok hs hrd sr hx hK
   simp only[kT,Bool.and_eq_true]at hok
   have hc:=aI sr.re (x:=c) hok.1
   simp only[fF]at hx
   split at hx
   ·rename_i hv
    rw[hv]at hc
    exact WPD.cond (t:=true) (dG hc) (iha B Y r e h env H v e' h' Q hY hok.2.1 hs.1 hrd sr hx hK)
   ·rename_i hv
    rw[hv]at hc
    exact WPD.cond (t:=false) (dG hc) (ihb B Y r e h env H v e' h' Q hY hok.2.2 hs.2 hrd sr hx hK)
   ·simp at hx
 | block id a iha =>
   intro B Y r e h env H v e' h' Q hY hok hs hrd sr hx hK
   exact WPD.block (iha B Y r e h env H v e' h' Q hY (by simpa [kT]using hok) hs hrd sr (by simpa [fF]using hx) hK)
 | scope a iha =>
   intro B Y r e h env H v e' h' Q hY hok hs hrd sr hx hK
   exact WPD.scope (iha B Y r e h env H v e' h' Q hY (by simpa [kT]using hok) hs hrd sr (by simpa [fF]using hx) hK)
 | loop L a iha =>
   intro B Y r e h env H v e' h' Q hY hok hs hrd sr hx hK
   simp only[kT]at hok
   simp only[fF]at hx
   have key:∀ (m:Nat) (e1:aD) (h1:XH),aDs (aU run runY K k n rd a) (fF run runY runP K k n rd a) k L m e1 h1=some (v,e',h') →
    ∃ m',∀ (r1:Nat→Option Nat) (env1:aD) (H1:Hp),Agree k r r1→SR D Y r1 e1 h1 env1 H1→aEc B P rr d.N a.erase Q m' env1 H1:=by
    intro m
    induction m with
    | zero=>intro e1 h1 hx;simp[aDs]at hx
    | succ m ihm =>
      intro e1 h1 hx
      simp only[aDs]at hx
      split at hx
      ·rename_i e2 h2 hx2
       obtain⟨m',hm'⟩:=ihm e2 h2 hx
       refine⟨m'+1,fun r1 env1 H1 ha sr1=>?_⟩
       obtain⟨r2,ha2,sr2⟩:=jD sr1 k L
       exact eM hD hm hall k n rd rr a B Y r2 _ _ env1 H1 .normal e2 h2 _ hY hok hs ((hrd.agree ha).agree ha2) sr2 hx2 fun r3 env3 H3 ha3 sr3=>⟨rfl,hm' r3 env3 H3 ((ha.trans ha2).trans ha3) sr3⟩
      ·simp at hx
      ·refine⟨0,fun r1 env1 H1 ha sr1=>?_⟩
       obtain⟨r2,ha2,sr2⟩:=jD sr1 k L
       exact iha B Y r2 _ _ env1 H1 v e' h' Q hY hok hs ((hrd.agree ha).agree ha2) sr2 hx fun r3 v3 env3 H3 ha3 sr3 hv3=>hK r3 v3 env3 H3 ((ha.trans ha2).trans ha3) sr3 hv3
   obtain⟨m',hm'⟩:=key n e h hx
   exact WPD.loop (hm' r env H (Agree.refl _ _) sr)

theorem FnP.nz {f:FuncId} {as:List AV} {Q:AV→Hp→Prop} (h:FnP B P f (jJ as) H Q):FnP B P f as H Q:=⟨h.1,fun F w vs h1 h2 h3=>h.2 F w vs h1 h2 h3.nz⟩

def aPo (P:Program) (D:Nat→Option XFn) (S:jX):Prop :=
 ∀ (K:Nat) (as:List AV) (v:AV),S.pb K as=some v→∀ (B:Base) (Y:Nat→Option YI) (r:Nat→Option Nat) (h:XH) (H:Hp) (as':List AV),SH D Y r h H→RnL D Y r as as'→FnP B P K as' H (bR D Y r v h)

theorem aCI {S:jX} (ok:XOk P D) (pok:aPo P D S) {run:bZ} {runY:cV} {runP:oU} (n:Nat) (ih:∀ (B:Base) (Y:Nat→Option YI),YOk P B D Y→FnS P B D Y run∧YS P B D Y runY)
 (ihP:∀ (B:Base) (Y:Nat→Option YI),YOk P B D Y→aEd P B D Y runP):∀ (B:Base) (Y:Nat→Option YI),YOk P B D Y→aEd P B D Y (aAK D S run runY runP n):=by
 intro B Y hY r h H K as as' v h' sh hA hx
 simp only[aAK]at hx
 split at hx
 ·rename_i v0 hv
  simp only[oSI,Prod.mk.injEq]at hx
  obtain⟨rfl,rfl⟩:=hx
  exact pok K as v0 hv B Y r h H as' sh hA
 ·split at hx
  ·rename_i d hsay hD
   split at hx
   ·rename_i hpr hdf
    split at hx
    ·rename_i hN
     have main:∀ (as1 as1':List AV),RnL D Y r as1 as1'→as1.length≤d.N→(fF run runY runP K h.length n none d.body (aM as1) h).map (fun q=>aMi (fP K) h.length q.1 q.2.2)=some (v,h')→FnP B P K as1' H (bR D Y r v h'):=by
      intro as1 as1' hA1 hN1 hx
      simp only[Option.map_eq_some_iff]at hx
      obtain⟨⟨v0,e1,h1⟩,hx,hfin⟩:=hx
      refine FnP.of (ok.is K d hD hpr) (by rw[←hA1.1];exact hN1) hdf ?_
      refine wA hD ok.mixed ih ihP h.length n none none d.body B Y r (aM as1) h (aM as1') H v0 e1 h1 _ hY (ok.body hD) (ok.sites K d hD) rfl ⟨sh,gN hA1⟩ hx ?_
      intro r1 v1 env1 H1 ha1 sr1 hv1
      cases hgc:fP K with
      | true =>
        rw[hgc]at hfin
        simp only[aMi,Prod.mk.injEq]at hfin
        obtain⟨rfl,rfl⟩:=hfin
        exact⟨r1,fun b c hb=>ha1 b c (sh.dom b c hb) hb,sr1.sh,hv1⟩
      | false =>
      rw[hgc]at hfin
      simp only[aMi]at hfin
      obtain⟨r2,m1,m2,m3⟩:=qV sr1.sh hv1 (k:=h.length)
      simp only[iZ,if_true,upd,Prod.mk.injEq]at hfin
      obtain⟨rfl,rfl⟩:=hfin
      exact⟨r2,fun b c hb=>m1 b c (sh.dom b c hb) (ha1 b c (sh.dom b c hb) hb),m2,m3⟩
     cases hown:d.ownA with
     | true =>
       rw[hown]at hx
       simp only[if_true]at hx
       exact main as as' hA hN hx
     | false =>
       rw[hown]at hx
       simp only[Bool.false_eq_true,if_false]at hx
       exact FnP.nz (main _ _ hA.nz (by rw[fJ];simpa using hN) hx)
    ·simp at hx
   ·simp at hx
  ·simp at hx

def aKL (P:Program) (D:Nat→Option XFn) (i:aAD) (K:Nat):Prop :=
 ∀ (run:bZ) (runY:cV) (runP:oU) (n:Nat),(∀ (B:Base) (Y:Nat→Option YI),YOk P B D Y→FnS P B D Y run∧YS P B D Y runY)→(∀ (B:Base) (Y:Nat→Option YI),YOk P B D Y→aEd P B D Y runP) →
   ∀ (B:Base) (Y:Nat→Option YI),YOk P B D Y→∀ (r:Nat→Option Nat) (h:XH) (H:Hp) (as as':List AV) (v:AV) (h':XH),SH D Y r h H→RnL D Y r as as'→aOc i run runY runP K n as h=some (v,h')→FnW B P K as' H (bR D Y r v h')

def aNs (P:Program) (D:Nat→Option XFn) (S:jX):Prop :=
 ∀ (K:Nat) (as:List AV) (h:XH) (q:AV×XH),S.orc K as h=some q→∀ (B:Base) (Y:Nat→Option YI),YOk P B D Y→∀ (r:Nat→Option Nat) (H:Hp) (as':List AV),SH D Y r h H→RnL D Y r as as'→FnW B P K as' H (bR D Y r q.1 q.2)

theorem xY {S:jX} (ok:XOk P D) (pok:aPo P D S) (sok:∀ K i,S.say K=some i→aKL P D i K) (ook:aNs P D S):∀ (n:Nat),(∀ (B:Base) (Y:Nat→Option YI),YOk P B D Y→FnS P B D Y (aV D S n)∧YS P B D Y (xZ D S n))∧∀ (B:Base) (Y:Nat→Option YI),YOk P B D Y→aEd P B D Y (aAU D S n):=by
 intro n
 induction n with
 | zero =>
   exact⟨fun B Y hY=>⟨fun r h H K as as' v h' _ _ hx=>by simp[aV]at hx,fun r h H fv fv' as as' v h' _ _ _ hx=>by simp[xZ]at hx⟩,fun B Y hY r h H K as as' v h' _ _ hx=>by simp[aAU]at hx⟩
 | succ n ih =>
   refine⟨fun B Y hY=>?_,fun B Y hY=>?_⟩
   ·obtain⟨s1,s2⟩:=xK ok n ih.1 B Y hY
    refine⟨fun r h H K as as' v h' sh hA hx=>?_,fun r h H fv fv' as as' v h' sh hfv hA hx=>s2 r h H fv fv' as as' v h' sh hfv hA (by simpa only[xZ]using hx)⟩
    simp only[aV,aMN]at hx
    split at hx
    ·rename_i q hq
     simp only[oSI]at hx
     subst hx
     exact ook K as h _ hq B Y hY r H as' sh hA
    ·split at hx
     ·rename_i i hi
      exact sok K i hi (aV D S n) (xZ D S n) (aAU D S n) n ih.1 ih.2 B Y hY r h H as as' v h' sh hA hx
     ·exact s1 r h H K as as' v h' sh hA hx
   ·have:=aCI (S:=S) ok pok n ih.1 ih.2 B Y hY
    simpa only[aAU]using this

structure dF where
 K:Nat
 as:List AV
 h:XH
 v:AV
 h':XH
def aIz:Option XB→Option XB→Bool
 | none,none=>true
 | some (.blk g (.cells w xs)),some (.blk g' (.cells w' ys))=>g==g'&&(w==w'&&eN xs ys)
 | some (.blk g (.map w xs)),some (.blk g' (.map w' ys))=>g==g'&&(w==w'&&(eN (xs.map (·.1)) (ys.map (·.1))&&eN (xs.map (·.2)) (ys.map (·.2))))
 | _,_=>false
def aAQ:XH→XH→Bool
 | [],[]=>true
 | x::xs,y::ys=>aIz x y&&aAQ xs ys
 | _,_=>false
theorem tV:∀ {xs ys:List (AV×AV)},xs.map (·.1)=ys.map (·.1)→xs.map (·.2)=ys.map (·.2)→xs=ys
 | [],[],_,_=>rfl
 | [],_::_,h,_=>by simp at h
 | _::_,[],h,_=>by simp at h
 | (a,b)::xs,(c,d)::ys,h1,h2=>by
   simp only[List.map_cons,List.cons.injEq]at h1 h2
   rw[h1.1,h2.1,tV h1.2 h2.2]
theorem aIy {x y:Option XB} (h:aIz x y=true):x=y:=by
 unfold aIz at h
 split at h
 ·rfl
 ·simp only[Bool.and_eq_true,beq_iff_eq]at h
  obtain⟨rfl,rfl,h⟩:=h
  rw[fT _ _ h]
 ·simp only[Bool.and_eq_true,beq_iff_eq]at h
  obtain⟨rfl,rfl,h1,h2⟩:=h
  rw[tV (fT _ _ h1) (fT _ _ h2)]
 ·cases h
theorem aCN:∀ {xs ys:XH},aAQ xs ys=true→xs=ys
 | [],[],_=>rfl
 | [],_::_,h=>by simp[aAQ]at h
 | _::_,[],h=>by simp[aAQ]at h
 | x::xs,y::ys,h=>by
   simp only[aAQ,Bool.and_eq_true]at h
   rw[aIy h.1,aCN h.2]
def aAx:List dF→Nat→List AV→XH→Option (AV×XH)
 | [],_,_,_=>none
 | q::T,K,as,h=>if q.K==K&&(eN q.as as&&aAQ q.h h) then some (q.v,q.h') else aAx T K as h
theorem aDj {K:Nat} {as:List AV} {h:XH} {q:AV×XH}:∀ {T:List dF},aAx T K as h=some q→∃ w∈T,w.K=K∧w.as=as∧w.h=h∧(w.v,w.h')=q
 | [],hx=>by simp[aAx]at hx
 | w::T,hx=>by
   simp only[aAx]at hx
   split at hx
   ·rename_i hc
    simp only[Bool.and_eq_true,beq_iff_eq]at hc
    exact⟨w,by simp,hc.1,fT _ _ hc.2.1,aCN hc.2.2,by simpa using hx⟩
   ·obtain⟨u,h1,h2⟩:=aDj hx
    exact⟨u,by simp[h1],h2⟩
end
abbrev I (n:Int):AV:=.int .i64 n
theorem bB {n:Int} (h1 : -9223372036854775808≤n) (h2:n≤9223372036854775807):IntKind.i64.wrap n=n:=by
 simp[IntKind.wrap,IntKind.bits,IntKind.signed]
 omega
def aFn (k:Nat) (L:List Nat) (e:aD) (h:XH):List AV:=lI (keepS k (dP k (L.map e) h)) (L.map e)
def gY (k:Nat) (L:List Nat) (r:Option (DX×aD×XH)):Option (List AV×XH):=match r with
 | some (.normal,e,h)=>some (aFn k L e h,oF k L e h)
 | _=>none
theorem S7 (k:Nat) (L:List Nat) (e:aD) (h:XH):gY k L (some (.normal,e,h))=some (aFn k L e h,oF k L e h):=rfl
def aCm (r:Option (DX×aD×XH)):Bool:=match r with
 | some (.normal,_,_)=>false
 | some _=>true
 | none=>false

theorem cO {D:Nat→Option XFn} {K k:Nat} {rd:Option Nat} {L:List Nat} {a:XCode} {e:aD} {h:XH} (n:Nat) (S:Nat→List AV) (G:Nat→XH) (h0:gY k L (some (.normal,e,h))=some (S 0,G 0))
 (hs:∀ i,i<n→gY k L (execW D K k rd a (eD L (S i)) (G i))=some (S (i+1),G (i+1))) (hl:aCm (execW D K k rd a (eD L (S n)) (G n))=true) :
 execW D K k rd (.loop L a) e h=execW D K k rd a (eD L (S n)) (G n):=by
 have key:∀ (m i:Nat) (e:aD) (h:XH),m+i=n→gY k L (some (.normal,e,h))=some (S i,G i)→execW D K k rd (.loop L a) e h=execW D K k rd a (eD L (S n)) (G n):=by
  intro m
  induction m with
  | zero =>
    intro i e h hi h0
    have:i=n:=by omega
    subst this
    rw[zQ]
    simp only[gY,oSI,Prod.mk.injEq]at h0
    have e1:lD k L e h=eD L (S i):=by rw[←h0.1];rfl
    rw[e1,h0.2]
    revert hl
    cases execW D K k rd a (eD L (S i)) (G i)with
    | none=>intro hl;rfl
    | some q =>
      obtain⟨x,e',h'⟩:=q
      cases x with
      | normal=>intro hl;simp[aCm]at hl
      | exit id=>intro _;rfl
      | ret=>intro _;rfl
  | succ m ih =>
    intro i e h hi h0
    rw[zQ]
    simp only[gY,oSI,Prod.mk.injEq]at h0
    have e1:lD k L e h=eD L (S i):=by rw[←h0.1];rfl
    rw[e1,h0.2]
    have h1:=hs i (by omega)
    revert h1
    cases execW D K k rd a (eD L (S i)) (G i)with
    | none=>intro h1;simp[gY]at h1
    | some q =>
      obtain⟨x,e',h'⟩:=q
      cases x with
      | normal=>intro h1;exact ih (i+1) e' h' (by omega) h1
      | exit id=>intro h1;simp[gY]at h1
      | ret=>intro h1;simp[gY]at h1
 exact key n 0 e h (by omega) h0
end Go.DL
namespace Go.DL
open Go.RowKit
variable {P:Program} {D:Nat→Option XFn} {F F':Nat→Prop} {w w':World} {H:Hp}

theorem nR {b:Nat} {o:Obj} (h:w.heap[b]?=some o):b<w.heap.size:=by
 rcases Nat.lt_or_ge b w.heap.size with h1|h1
 ·exact h1
 ·rw[Array.getElem?_eq_none h1]at h;cases h

theorem Up.below (hs:∀ b,F b→F' b) (hl:∀ b,F b→b<w.heap.size) (hb:Below w.heap.size w w'):Up F w F' w' :=
 ⟨hs,fun b h=>hb.block b (hl b h),fun b c e fr h=>⟨c,e,fr,by rw[hb.block b (nR h)];exact h,rfl⟩,hb.size⟩

theorem Ext.below (hs:∀ b,F b→F' b) (hn:∀ b,F' b→F b∨w.heap.size≤b) (hb:Below w.heap.size w w'):Ext F w H F' w' H where
 sub:=hs
 fnew:=fun b h=>(hn b h).elim .inl fun h=>.inr (.inr h)
 hdom:=fun _ h=>.inl h
 hnew:=fun _ h=>.inl h
 le:=hb.size
 same:=fun b h _=>hb.block b h
 cells:=fun b c e fr h=>⟨c,e,fr,by rw[hb.block b (nR h)];exact h,rfl⟩
 io:=⟨hb.os,hb.tape,hb.output⟩

theorem St.below (hs:∀ b,F b→F' b) (hn:∀ b,F' b→F b∨w.heap.size≤b) (hl:∀ b,F' b→b<w'.heap.size) (st:St F w H) (hb:Below w.heap.size w w'):St F' w' H :=
 ⟨hl,fun b x h hf=>by
  obtain⟨o,h1,_⟩:=st.blk b x h
  rcases hn b hf with h2|h2
  ·exact st.dis b x h h2
  ·have:=nR h1;omega,
 fun b x h=>by
  obtain⟨o,h1,h2⟩:=st.blk b x h
  exact⟨o,by rw[hb.block b (nR h1)];exact h1,h2.up (Up.below hs st.lt hb)⟩⟩

theorem FnW.shelfG {B:Base} {f:FuncId} {as:List AV} {v:AV} {Q:AV→Hp→Prop}
 (hq:∀ (vs:Array Value) (w:World),(callFunc f vs).run P w = .ok (.enter f vs) w)
 (hc:∀ (F:Nat→Prop) (w:World) (vs:Array Value),GI F w→(∀ b,F b→b<w.heap.size)→Args F w as vs→Calls P f vs w fun e w'=>∃ r F',e = .returned r∧Below w.heap.size w w' ∧
  (∀ b,F b→F' b)∧(∀ b,F' b→F b∨w.heap.size≤b)∧(∀ b,F' b→b<w'.heap.size)∧Rv F' w' v r)
 (hQ:Q v H):FnW B P f as H Q :=
 ⟨hq,fun F w vs hB st ha=>callsIn_wide.2 ((hc F w vs (B.gi.up hB) st.lt ha).mono fun e w' ⟨r,F',he,hb,hs,hn,hl,hr⟩=>⟨r,v,F',H,he,Ext.below hs hn hb,St.below hs hn hl st hb,hr,hQ⟩)⟩

theorem FnW.shelfN {B:Base} {f:FuncId} {as:List AV} {v:AV} {Q:AV→Hp→Prop}
 (hq:∀ (vs:Array Value) (w:World),(callFunc f vs).run P w = .ok (.enter f vs) w)
 (hc:∀ (F:Nat→Prop) (w:World) (vs:Array Value),(∀ b,F b→b<w.heap.size)→Args F w as vs→Calls P f vs w fun e w'=>∃ r F',e = .returned r∧Below w.heap.size w w' ∧
  (∀ b,F b→F' b)∧(∀ b,F' b→F b∨w.heap.size≤b)∧(∀ b,F' b→b<w'.heap.size)∧Rv F' w' v r)
 (hQ:Q v H):FnW B P f as H Q :=
 ⟨hq,fun F w vs _ st ha=>callsIn_wide.2 ((hc F w vs st.lt ha).mono fun e w' ⟨r,F',he,hb,hs,hn,hl,hr⟩=>⟨r,v,F',H,he,Ext.below hs hn hb,St.below hs hn hl st hb,hr,hQ⟩)⟩

theorem FnW.shelf {B:Base} {f:FuncId} {as:List AV} {v:AV} {r:Array Value→Value} {Q:AV→Hp→Prop}
 (hq:∀ (vs:Array Value) (w:World),(callFunc f vs).run P w = .ok (.enter f vs) w)
 (hr:∀ (F:Nat→Prop) (w:World) (vs:Array Value),Rv F w v (r vs))
 (hc:∀ (F:Nat→Prop) (w:World) (vs:Array Value),(∀ b,F b→b<w.heap.size)→Args F w as vs→Calls P f vs w fun e w'=>e = .returned (r vs)∧Below w.heap.size w w')
 (hQ:Q v H):FnW B P f as H Q :=
 FnW.shelfN hq (fun F w vs hl ha=>(hc F w vs hl ha).mono fun e w' ⟨he,hb⟩=>⟨r vs,F,he,hb,fun _ h=>h,fun _ h=>.inl h,fun b h=>Nat.lt_of_lt_of_le (hl b h) hb.size,hr _ _ _⟩) hQ

theorem Args.cons1 {F:Nat→Prop} {w:World} {a:AV} {as:List AV} {vs:Array Value} (h:Args F w (a::as) vs):∃ v vs',vs = #[v]++vs'∧Rv F w a v∧Args F w as vs':=by
 obtain⟨hl,h⟩:=h
 rcases vs with ⟨_|⟨v,r⟩⟩
 ·simp at hl
 ·refine⟨v,r.toArray,by simp,h 0 a v rfl (by simp),by simpa using hl,fun i x y hx hy=>h (i+1) x y (by simpa using hx) (by simpa using hy)⟩
theorem Args.nil1 {F:Nat→Prop} {w:World} {vs:Array Value} (h:Args F w [] vs):vs = #[]:=by
 have:=h.1
 rcases vs with ⟨_|⟨v,r⟩⟩
 ·rfl
 ·simp at this
theorem Args.strInt {F:Nat→Prop} {w:World} {s:ByteArray} {k:IntKind} {n:Int} {vs:Array Value} (h:Args F w [.str s,.int k n] vs):vs = #[.string s,.int k n]:=by
 obtain⟨a,as,rfl,h1,h2⟩:=h.cons1
 obtain⟨b,bs,rfl,h3,h4⟩:=h2.cons1
 cases h1;cases h3;rw[h4.nil1];rfl
theorem Args.strStr {F:Nat→Prop} {w:World} {s t:ByteArray} {vs:Array Value} (h:Args F w [.str s,.str t] vs):vs = #[.string s,.string t]:=by
 obtain⟨a,as,rfl,h1,h2⟩:=h.cons1
 obtain⟨b,bs,rfl,h3,h4⟩:=h2.cons1
 cases h1;cases h3;rw[h4.nil1];rfl
end Go.DL
