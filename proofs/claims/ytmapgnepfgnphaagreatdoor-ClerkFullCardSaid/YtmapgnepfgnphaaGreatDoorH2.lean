/- Parts of a proof, joined: DlM DlN DlO DlU DlP DlQ DlR DlS DlT X0 X1 X2 X3 X4 X5. No statement of the seed is proved here. -/
import Derived.Conc.LoneCalls
import Derived.RangeFuncLeaves
import Derived.RangeFuncNested
import Derived.Test.YtmapgnepfgnphaaGreatDoorH1
set_option linter.unusedSimpArgs false
set_option linter.unusedVariables false
set_option linter.unusedSectionVars false
namespace Go.DL
variable {P:Program} {B:Base}

abbrev sP:=Nat→Option Nat
abbrev KL:=aD→Hp→sP→Prop
def noL:sP:=fun _=>none

def cU (ix:Nat) (op:DOp) (env:aD) (L:sP):sP:=match op with
 | .load _ _ x=>fun j=>if j=ix then dZ (aG env x) else L j
 | _=>L

def aS (B:Base) (P:Program) (ix:Nat) (d:Option Nat) (op:DOp) (K:KL) (env:aD) (H:Hp) (L:sP):Prop :=
 match op with
 | .store n p x l=>(∀ j∈l,∀ c,L j=some c→dZ (aG env p)≠some c)∧fR (lW n H (aG env p) (aG env x)) fun H'=>K (aP env d .any) H' L
 | .callf false f xs l=>CallV B P (aG env f) (xs.map (aG env)) H (fun v H'=>(∀ j∈l,∀ c,L j=some c→H' c=H c)∧K (aP env d v) H' L)
 | op=>dY B P d op (fun e h=>K e h (cU ix op env L)) env H

def zU (g:Bool) (op:DOp):DOp:=if g then op else .mv (.c (.tup []))
def opD (B:Base) (P:Program) (o:DOper) (K:KL) (env:aD) (H:Hp) (L:sP):Prop :=
 fR (gd o env) fun g=>aS B P o.ix o.dst (zU g o.op) K env H L

def RD (B:Base) (P:Program):List DOper→(aD→Hp→Prop)→KL
 | [],K=>fun env H _=>K env H
 | o::rest,K=>opD B P o (RD B P rest K)


theorem bO {env:aD} {k:Nat} {v:AV} {x:AO} (h:k∉x.sees):aG (upd env k v) x=aG env x:=by
 cases x with
 | t j=>simp only[AO.sees,List.mem_singleton]at h;exact mD _ _ (fun e=>h e.symm)
 | c v=>rfl
 | meth tab j=>simp only[AO.sees,List.mem_singleton]at h;simp only[aG];rw[mD _ _ (fun e=>h e.symm)]

theorem iK {env:aD} {k:Nat} {v:AV} {x:Option AO} {c d:Nat} (h:k∉aCL x):aK c d (upd env k v) x=aK c d env x:=by
 cases x with
 | none=>rfl
 | some x=>simp only[aK,bO (show k∉x.sees from h)]

theorem tW {env:aD} {k:Nat} {v:AV} {xs:List AO} (h:k∉aFG xs):xs.map (aG (upd env k v))=xs.map (aG env):=by
 refine List.map_congr_left fun x hx=>bO fun hk=>h ?_
 exact List.mem_flatMap.2 ⟨x,hx,hk⟩

theorem yS {env:aD} {k:Nat} {v:AV} {ps:List (Nat×Nat×AO)} (h:k∉ps.flatMap fun p=>p.2.2.sees) :
 (ps.map fun p=>(p.1,p.2.1,aG (upd env k v) p.2.2))=ps.map fun p=>(p.1,p.2.1,aG env p.2.2):=by
 refine List.map_congr_left fun x hx=>?_
 rw[bO fun hk=>h ?_]
 exact List.mem_flatMap.2 ⟨x,hx,hk⟩

theorem aGQ {env:aD} {k:Nat} {v:AV} {s:Nat} {lo hi:Option AO} {x:AV} (h1:k∉aCL lo) (h2:k∉aCL hi):iP s (upd env k v) lo hi x=iP s env lo hi x:=by
 unfold iP
 simp only[iK h1,iK h2]

theorem aBt {env:aD} {k:Nat} {v:AV} {op:DOp} {H:Hp} (h:k∉op.sees):aA op (upd env k v) H=aA op env H:=by
 cases op<;>simp only[DOp.sees,List.mem_append,not_or]at h
 case mkf f a c=>simp only[aA,tW h.1,tW h.2]
 case build z ps=>simp only[aA,yS h]
 case bslice s l z ps=>simp only[aA,yS h]
 case pick c a b=>simp only[aA,bO h.1.1,bO h.1.2,bO h.2]
 case slarr l s x lo hi=>simp only[aA,bO h.1.1,iK h.1.2,iK h.2]
 case slsl s x lo hi=>simp only[aA,bO h.1.1,aGQ h.1.2 h.2]
 case slstr x lo hi=>simp only[aA,bO h.1.1,iK h.1.2,iK h.2]
 case store n p x l=>rfl
 case copy s x y=>rfl
 case mapup q m k x=>rfl
 case nxts x=>rfl
 case callf q f xs l=>rfl
 case send c x=>rfl
 case recv ok z c=>rfl
 case alloc=>rfl
 case mkmap=>rfl
 case allocb=>rfl
 case mkchan=>rfl
 case stuck=>rfl
 all_goals first
  | (simp only[aA,bO h];done)
  | (simp only[aA,bO h.1,bO h.2];done)

theorem aOO {env:aD} {k:Nat} {v:AV} {o:DOper} (h:k∉o.sees):gd o (upd env k v)=gd o env:=by
 unfold gd
 unfold DOper.sees at h
 split
 ·rfl
 ·rename_i g want hg
  rw[hg]at h
  simp only[List.mem_append,List.mem_singleton,not_or]at h
  rw[mD _ _ (fun e=>h.2 e.symm)]

theorem aHS {env:aD} {j k:Nat} {u v:AV} (h:j≠k):upd (upd env j u) k v=upd (upd env k v) j u:=by
 funext i
 unfold upd
 by_cases h1:i=k
 ·subst h1;simp[Ne.symm h]
 ·simp[h1]

theorem fH {env:aD} {d:Option Nat} {k:Nat} {u v:AV} (h:d≠some k):aP (upd env k v) d u=upd (aP env d u) k v:=by
 cases d with
 | none=>rfl
 | some d=>exact(aHS (fun e=>h (by rw[e]))).symm

theorem aHk {H:Hp} {b c:Nat} {x y:ABlk} (h:b≠c):hset (hset H b x) c y=hset (hset H c y) b x:=by
 funext i
 unfold hset
 by_cases h1:i=c
 ·subst h1;simp[Ne.symm h]
 ·simp[h1]

theorem aBk {ix:Nat} {op:DOp} {env:aD} {k:Nat} {v:AV} {L:sP} (h:k∉op.sees):cU ix op (upd env k v) L=cU ix op env L:=by
 cases op<;>first|rfl|skip
 case load g n x=>simp only[cU,bO (show k∉x.sees from h)]

theorem bS {ix:Nat} {d:Option Nat} {op:DOp} {K:KL} {env:aD} {H:Hp} {L:sP} (h:op.isQ=true) :
 aS B P ix d op K env H L=fR (aA op env H) fun e=>eP d e (fun e h=>K e h (cU ix op env L)) env H:=by
 cases op<;>first|rfl|(simp[DOp.isQ]at h)

theorem aKo {d:Option Nat} {e:Eff} {K:aD→Hp→Prop} {env:aD} {H:Hp} {k:Nat} {v:AV} (h:d≠some k) :
 eP d e K (upd env k v) H=eP d e (fun e h=>K (upd e k v) h) env H:=by
 cases e<;>simp only[eP,fH h]

theorem aHz {ix:Nat} {d:Option Nat} {op:DOp} {K:KL} {env:aD} {H:Hp} {L:sP} {k:Nat} {v:AV} (h:k∉op.sees) (hd:d≠some k) :
 aS B P ix d op K (upd env k v) H L=aS B P ix d op (fun e h l=>K (upd e k v) h l) env H L:=by
 cases op
 case store n p x l =>
  simp only[DOp.sees,List.mem_append,not_or]at h
  simp only[aS,bO h.1,bO h.2,fH hd]
 case copy s x y =>
  simp only[DOp.sees,List.mem_append,not_or]at h
  simp only[aS,dY,cU,bO h.1,bO h.2,fH hd]
 case mapup q m k x =>
  simp only[DOp.sees,List.mem_append,not_or]at h
  simp only[aS,dY,cU,bO h.1.1,bO h.1.2,bO h.2,fH hd]
 case send c x =>
  simp only[DOp.sees,List.mem_append,not_or]at h
  simp only[aS,dY,cU,bO h.1,bO h.2,fH hd]
 case recv ok z c =>
  simp only[DOp.sees]at h
  simp only[aS,dY,cU,bO h,fH hd]
 case nxts c =>
  simp only[DOp.sees]at h
  simp only[aS,dY,cU,bO h,fH hd]
 case callf q f xs l =>
  simp only[DOp.sees,List.mem_append,not_or]at h
  cases q<;>simp only[aS,dY,cU,bO h.1,tW h.2,fH hd]
 all_goals
  rw[bS rfl,bS rfl,aBt h,aBk h]
  simp only[aKo hd]

theorem oC {ix:Nat} {d e:Option Nat} {op:DOp} {K:KL} {env:aD} {H:Hp} {L:sP} {v:AV} (h:∀ k,e=some k→k∉op.sees) (hd:∀ k,e=some k→d≠some k) :
 aS B P ix d op K (aP env e v) H L=aS B P ix d op (fun e' h l=>K (aP e' e v) h l) env H L:=by
 cases e with
 | none=>rfl
 | some k=>exact aHz (h k rfl) (hd k rfl)
theorem cJ {e:Option Nat} {op:DOp} {env:aD} {H:Hp} {v:AV} (h:∀ k,e=some k→k∉op.sees):aA op (aP env e v) H=aA op env H:=by
 cases e with
 | none=>rfl
 | some k=>exact aBt (h k rfl)
theorem dU {ix:Nat} {e:Option Nat} {op:DOp} {env:aD} {L:sP} {v:AV} (h:∀ k,e=some k→k∉op.sees):cU ix op (aP env e v) L=cU ix op env L:=by
 cases e with
 | none=>rfl
 | some k=>exact aBk (h k rfl)
theorem aGk {e:Option Nat} {o:DOper} {env:aD} {v:AV} (h:∀ k,e=some k→k∉o.sees):gd o (aP env e v)=gd o env:=by
 cases e with
 | none=>rfl
 | some k=>exact aOO (h k rfl)
theorem eH {env:aD} {d e:Option Nat} {u v:AV} (h:∀ k,e=some k→d≠some k):aP (aP env e v) d u=aP (aP env d u) e v:=by
 cases e with
 | none=>rfl
 | some k=>exact fH (h k rfl)
theorem nU {i j:Nat} {x y:DOp} {env:aD} {L:sP} (h:i≠j):cU i x env (cU j y env L)=cU j y env (cU i x env L):=by
 cases x<;>cases y<;>first|rfl|skip
 funext k
 simp only[cU]
 by_cases h1:k=i
 ·subst h1;simp[h]
 ·simp[h1]


def rdB (op:DOp) (env:aD):List Nat:=match op with
 | .load _ _ x=>(dZ (aG env x)).toList
 | .slarr _ _ x _ _=>(dZ (aG env x)).toList
 | .lookup _ _ _ m _=>(dZ (aG env m)).toList
 | .app _ _ x y=>(dZ (aG env x)).toList++(dZ (aG env y)).toList
 | .strof x=>(dZ (aG env x)).toList
 | _=>[]

theorem aDv {g:Bool} {n:Nat} {H H':Hp} {v:AV} (h:∀ b,dZ v=some b→H b=H' b):dX g n H v=dX g n H' v:=by
 cases v<;>first|rfl|skip
 case pt b o=>simp only[dX,h b rfl]

theorem aDt {q:Bool} {H H':Hp} {k v:AV} (h:∀ b,dZ v=some b→H b=H' b):iW q H k v=iW q H' k v:=by
 cases v<;>first|rfl|skip
 case mp b=>simp only[iW,h b rfl]

theorem xM {s:Nat} {H H':Hp} {v:AV} (h:∀ b,dZ v=some b→H b=H' b):eF s H v=eF s H' v:=by
 cases v<;>first|rfl|skip
 case sl b o s' l=>simp only[eF,h b rfl]

theorem aBK {H H':Hp} {v:AV} (h:∀ b,dZ v=some b→H b=H' b):gG H v=gG H' v:=by
 unfold gG
 split
 ·rfl
 ·rw[xM h]
theorem aFt {s n:Nat} {H H':Hp} {x y:AV} (h:∀ b,dZ x=some b→H b=H' b) (h':∀ b,dZ y=some b→H b=H' b):nE s n H x y=nE s n H' x y:=by
 unfold nE
 rw[xM h']
 cases x<;>first|rfl|skip
 case sl b o s' l=>cases o<;>simp only[h b rfl]
 case sb b l=>simp only[h b rfl]

theorem jB {op:DOp} {env:aD} {H H':Hp} (h:∀ b∈rdB op env,H b=H' b):aA op env H=aA op env H':=by
 cases op<;>first|rfl|skip
 case load g n x=>simp only[aA,aDv (v:=aG env x) fun b hb=>h b (by simp[rdB,hb])]
 case slarr l s x lo hi =>
  simp only[aA]
  cases hx:aG env x<;>first|rfl|skip
  rename_i b o
  simp only[h b (by simp[rdB,hx,dZ])]
 case lookup q ok z m k=>simp only[aA,aDt (v:=aG env m) fun b hb=>h b (by simp[rdB,hb])]
 case strof x=>simp only[aA,aBK (v:=aG env x) fun b hb=>h b (by simp[rdB,hb])]
 case app s n x y=>simp only[aA,aFt (x:=aG env x) (y:=aG env y) (fun b hb=>h b (by simp[rdB,hb])) (fun b hb=>h b (by simp[rdB,hb]))]

theorem aKn {op:DOp} {env:aD} {H:Hp} {e:Eff} {b:Nat} (h:aA op env H=some e) (hb:b∈rdB op env):H b≠none:=by
 intro hn
 cases op<;>simp only[rdB,List.not_mem_nil,List.mem_append,Option.mem_toList]at hb
 case load g n x =>
  simp only[aA]at h
  cases hx:aG env x<;>rw[hx]at hb h<;>simp only[dZ,oSI,reduceCtorEq]at hb<;>subst hb<;>simp[dX,hn]at h
 case slarr l s x lo hi =>
  simp only[aA]at h
  cases hx:aG env x<;>rw[hx]at hb h<;>simp only[dZ,oSI,reduceCtorEq]at hb<;>subst hb<;>simp[hn]at h
 case lookup q ok z m k =>
  simp only[aA]at h
  cases hx:aG env m<;>rw[hx]at hb h<;>simp only[dZ,oSI,reduceCtorEq]at hb<;>subst hb<;>simp[iW,hn]at h
 case strof x =>
  simp only[aA]at h
  cases hx:aG env x<;>rw[hx]at hb h<;>simp only[dZ,oSI,reduceCtorEq]at hb<;>subst hb<;>simp[gG,kQ,eF,hn]at h
 case app s n x y =>
  simp only[aA,nE]at h
  split at h
  ·simp at h
  ·rename_i k new hs
   rcases hb with hb|hb
   ·cases hx:aG env x<;>rw[hx]at hb h<;>simp only[dZ,oSI,reduceCtorEq]at hb<;>subst hb<;>try (simp at h;done)
    all_goals first
     | (simp[hn]at h;done)
     | (rename_i c o s' l;cases o<;>simp[hn]at h;done)
   ·cases hx:aG env y<;>rw[hx]at hb hs<;>simp only[dZ,oSI,reduceCtorEq]at hb<;>subst hb<;>simp[eF,hn]at hs

theorem aDL {op:DOp} {env:aD} {H:Hp} {e:Eff} {b:Nat} {x:ABlk} (hb:H b=none) (h:aA op env H=some e):aA op env (hset H b x)=some e:=by
 rw[←h]
 refine jB fun c hc=>aE _ _ fun e=>?_
 subst e
 exact aKn h hc hb

theorem aEN {l:List Nat} {b:Nat} (h:b∈l):b≤l.sum:=by
 induction l with
 | nil=>simp at h
 | cons x r ih =>
   simp only[List.mem_cons]at h
   simp only[List.sum_cons]
   rcases h with rfl|h
   ·omega
   ·have:=ih h;omega

theorem aHv {op:DOp} {env:aD} {H:Hp} {b:Nat} {x:ABlk} (hb:(rdB op env).sum<b):aA op env (hset H b x)=aA op env H :=
 jB fun c hc=>aE _ _ (by have:=aEN hc;omega)

theorem aEC {g:Bool} {n o:Nat} {cs new:List AV} {v:AV} (h:fN g n cs o=some v):fN g n (cs++new) o=some v:=by
 unfold fN at *
 split
 ·rename_i hg
  rw[if_pos hg]at h
  split at h
  ·rename_i hl
   rw[if_pos (by simp;omega),←h,List.drop_append_of_le_length (by omega),List.take_append_of_le_length (by simp;omega)]
  ·simp at h
 ·rename_i hg
  rw[if_neg hg]at h
  rw[List.getElem?_append_left (List.getElem?_eq_some_iff.1 h).1,h]

theorem aFc {op:DOp} {env:aD} {H:Hp} {e:Eff} {b:Nat} {cs new:List AV} (hb:H b=some (.cells true cs)) (hk:op.kind≠3) (h:aA op env H=some e) :
 aA op env (hset H b (.cells true (cs++new)))=some e:=by
 by_cases hm:b∈rdB op env
 ·cases op<;>simp only[rdB,List.not_mem_nil,List.mem_append,Option.mem_toList]at hm
  case load g n x =>
   simp only[aA]at h ⊢
   cases hx:aG env x<;>rw[hx]at hm h<;>simp only[dZ,oSI,reduceCtorEq]at hm<;>subst hm<;>try (simp[dX]at h;done)
   rename_i o
   simp only[dX,hb,hset_same]at h ⊢
   split at h
   ·rename_i v hv;rw[aEC hv];exact h
   ·simp at h
  case strof x =>
   simp only[aA]at h ⊢
   cases hx:aG env x<;>rw[hx]at hm h<;>simp only[dZ,oSI,reduceCtorEq]at hm<;>subst hm<;>try (simp[gG,kQ,eF]at h;done)
   rename_i o s' len
   simp only[gG,eF,hb,hset_same]at h ⊢
   by_cases hc:s'=1∧o+len*1≤cs.length
   ·rw[if_pos hc]at h
    rw[if_pos ⟨hc.1,by simp;omega⟩,←h,List.drop_append_of_le_length (by omega),List.take_append_of_le_length (by simp;omega)]
   ·rw[if_neg hc]at h;simp[kQ]at h
  case slarr l s x lo hi =>
   simp only[aA]at h ⊢
   cases hx:aG env x<;>rw[hx]at hm h<;>simp only[dZ,oSI,reduceCtorEq]at hm<;>subst hm<;>try (simp at h;done)
   rename_i o
   simp only[hb,hset_same]at h ⊢
   split at h
   ·rename_i hh heq1 heq2
    simp only[oSI,ABlk.cells.injEq]at heq1
    obtain⟨_,rfl⟩:=heq1
    simp only[heq2]
    split at h
    ·rename_i ll hl
     split at h
     ·rename_i hc
      rw[if_pos (by simp;omega)];exact h
     ·simp at h
    ·simp at h
   ·simp at h
  case lookup q ok z m k =>
   simp only[aA]at h ⊢
   cases hx:aG env m<;>rw[hx]at hm h<;>simp only[dZ,oSI,reduceCtorEq]at hm<;>subst hm<;>simp[iW,hb]at h
  case app=>simp[DOp.kind]at hk
 ·rw[←h]
  exact jB fun c hc=>aE _ _ fun e=>hm (e▸hc)

theorem kK {op:DOp} {env:aD} {H:Hp} {b:Nat} {x:ABlk} {f:Nat→AV} (h:aA op env H=some (.new (some b) x f)) :
 op.kind=3∧∃ cs new,H b=some (.cells true cs)∧x = .cells true (cs++new):=by
 cases op
 case app s n y z =>
  refine⟨rfl,?_⟩
  simp only[aA,nE]at h
  split at h
  ·simp at h
  ·rename_i k new hs
   split at h
   ·split at h
    ·split at h<;>simp at h
    ·simp at h
   ·rename_i c l hx
    split at h
    ·rename_i cs hc
     split at h
     ·simp only[oSI,Eff.new.injEq]at h
      obtain⟨rfl,rfl,_⟩:=h
      exact⟨cs,new,hc,rfl⟩
     ·simp at h
    ·simp at h
   ·rename_i c s' l hx
    split at h
    ·rename_i cs hc
     split at h
     ·simp only[oSI,Eff.new.injEq]at h
      obtain⟨rfl,rfl,_⟩:=h
      exact⟨cs,new,hc,rfl⟩
     ·simp at h
    ·simp at h
   ·simp at h
 all_goals
  exfalso
  simp only[aA]at h
  first
   | (simp at h;done)
   | (repeat' split at h)<;>simp at h

theorem nD {op:DOp} {env:aD} {H:Hp} {e:Eff} (hk:op.kind≤1) (h:aA op env H=some e):∃ v,e = .val v:=by
 cases op<;>simp only[DOp.kind]at hk<;>try (omega)
 all_goals
  simp only[aA]at h
  first
   | (simp at h;done)
   | (simp only[oSI]at h;exact⟨_,h.symm⟩)
   | (simp only[Option.map_eq_some_iff]at h;obtain⟨v,_,h⟩:=h;exact⟨v,h.symm⟩)
   | ((repeat' split at h)<;>first|(simp at h;done)|(simp only[oSI]at h;exact⟨_,h.symm⟩))
   | (rename_i q _ _ _;cases q<;>simp[DOp.kind]at hk;done)

variable {P:Program} {B:Base}

def FinH (H:Hp):Prop:=∃ N,∀ b,N≤b→H b=none
theorem St.fin {F:Nat→Prop} {w:World} {H:Hp} (h:St F w H):FinH H:=⟨w.heap.size,fun b hb=>by
 cases hx:H b with
 | none=>rfl
 | some x=>exact absurd (h.own_lt hx) (by omega)⟩
theorem FinH.hset {H:Hp} {b:Nat} {x:ABlk} (h:FinH H):FinH (hset H b x):=by
 obtain⟨N,h⟩:=h
 exact⟨max N (b+1),fun c hc=>by rw[aE _ _ (by omega)];exact h c (by omega)⟩


theorem CallV.conv {fv:AV} {as:List AV} {H1 H2:Hp} {Q1 Q2:AV→Hp→Prop} (h:CallV B P fv as H1 Q1)
 (hc:∀ F w,St F w H2→St F w H1∧∀ e w',oT F w H1 Q1 e w'→oT F w H2 Q2 e w'):CallV B P fv as H2 Q2:=by
 unfold CallV at *
 split at h
 ·exact⟨h.1,fun F w vs h1 h2 h3=>(h.2 F w vs h1 (hc F w h2).1 h3).mono (hc F w h2).2⟩
 ·exact fun F w vs h1 h2 h3=>let ⟨fn,t,x,y,h4,h5⟩:=h F w vs h1 (hc F w h2).1 h3; ⟨fn,t,x,y,h4,h5.mono (hc F w h2).2⟩
 ·exact h.elim

theorem CallV.monoF {fv:AV} {as:List AV} {H:Hp} {Q Q':AV→Hp→Prop} (h:CallV B P fv as H Q) (hq:∀ v H',FinH H'→Q v H'→Q' v H'):CallV B P fv as H Q' :=
 h.conv fun F w st=>⟨st,fun e w' ⟨r,v,F',H',h1,h2,h3,h4,h5⟩=>⟨r,v,F',H',h1,h2,h3,h4,hq _ _ h3.fin h5⟩⟩

theorem CallV.frame {fv:AV} {as:List AV} {H:Hp} {Q:AV→Hp→Prop} {b:Nat} {z:ABlk} (h:CallV B P fv as H Q) (hb:H b=none) :
 CallV B P fv as (hset H b z) fun v H''=>∃ H',Q v H'∧H' b=none∧H''=hset H' b z:=by
 refine h.conv fun F w st=>?_
 have st1:St F w H:=st.forget fun c x hc=>by rw[aE _ _ (fun e=>by subst e;simp[hb]at hc)];exact hc
 refine⟨st1,?_⟩
 rintro e w' ⟨r,v,F',H',rfl,h2,h3,h4,h5⟩
 have hlt:b<w.heap.size:=st.own_lt (hset_same H b z)
 have hn:H' b=none:=by
  cases hx:H' b with
  | none=>rfl
  | some x =>
    rcases h2.hdom b (by simp[hx])with h6|h6
    ·simp[hb]at h6
    ·omega
 have hsame:w'.heap[b]?=w.heap[b]?:=h2.same b hlt (by simp[oM,hb])
 have hnF:¬F' b:=fun hF=>by
  rcases h2.fnew b hF with h6|h6|h6
  ·exact st.dis b z (hset_same H b z) h6
  ·simp[hb]at h6
  ·omega
 refine⟨r,v,F',hset H' b z,rfl,?_,?_,h4,H',h5,hn,rfl⟩
 ·refine⟨h2.sub,fun c hc=>?_,fun c hc=>?_,fun c hc=>?_,h2.le,fun c hc hw=>?_,h2.cells,h2.io⟩
  ·rcases h2.fnew c hc with h6|h6|h6
   ·exact .inl h6
   ·refine .inr (.inl ?_)
    rw[aE _ _ (fun e=>by subst e;simp[hb]at h6)];exact h6
   ·exact .inr (.inr h6)
  ·by_cases h6:c=b
   ·subst h6;left;simp
   ·rw[aE _ _ h6]at hc ⊢;exact h2.hdom c hc
  ·by_cases h6:c=b
   ·subst h6;left;simpa [oM]using hc
   ·simp only[oM,aE _ _ h6]at hc ⊢;exact h2.hnew c hc
  ·by_cases h6:c=b
   ·subst h6;exact hsame
   ·exact h2.same c hc (by simpa only[oM,aE _ _ h6]using hw)
 ·refine⟨h3.lt,fun c x hc=>?_,fun c x hc=>?_⟩
  ·by_cases h6:c=b
   ·subst h6;exact hnF
   ·rw[aE _ _ h6]at hc;exact h3.dis c x hc
  ·by_cases h6:c=b
   ·subst h6
    simp only[hset_same,oSI]at hc
    subst hc
    obtain⟨o,h7,h8⟩:=st.blk c z (hset_same H c z)
    exact⟨o,by rw[hsame];exact h7,h8.up (h2.up st1)⟩
   ·rw[aE _ _ h6]at hc;exact h3.blk c x hc

theorem yC (H:Hp) (b:Nat) (z:ABlk):fQ (hset H b z)=hset (fQ H) b z.ro:=by
 funext c
 by_cases h:c=b
 ·subst h;simp[fQ]
 ·simp[fQ,aE _ _ h]

theorem CallV.quiet {fv:AV} {as:List AV} {H H2:Hp} {v:AV} (h:CallV B P fv as (fQ H) fun v' H'=>v'=v∧H'=fQ H)
 (hd:∀ b,(fQ H b).isSome=true→(H2 b).isSome=true) (hs:∀ F w,St F w (fQ H2)→St F w (fQ H)):CallV B P fv as (fQ H2) fun v' H'=>v'=v∧H'=fQ H2:=by
 refine h.conv fun F w st=>⟨hs F w st,?_⟩
 rintro e w' ⟨r,v,F',H',rfl,h2,h3,h4,rfl,rfl⟩
 have hsame:∀ b,b<w.heap.size→w'.heap[b]?=w.heap[b]?:=fun b hb=>h2.same b hb (aEj H b)
 have hd2:∀ b,(fQ H2 b).isSome=(H2 b).isSome:=fun b=>by unfold fQ;cases H2 b<;>rfl
 refine⟨r,_,F',fQ H2,rfl,?_,?_,h4,rfl,rfl⟩
 ·refine⟨h2.sub,fun b hb=>?_,fun b hb=>.inl hb,fun b hb=>.inl hb,h2.le,fun b hb _=>hsame b hb,h2.cells,h2.io⟩
  rcases h2.fnew b hb with h6|h6|h6
  ·exact .inl h6
  ·exact .inr (.inl (by rw[hd2];exact hd b h6))
  ·exact .inr (.inr h6)
 ·refine⟨h3.lt,fun b x hb hF=>?_,fun b x hb=>?_⟩
  ·rcases h2.fnew b hF with h6|h6|h6
   ·exact st.dis b x hb h6
   ·obtain⟨y,hy⟩:=Option.isSome_iff_exists.1 h6
    exact h3.dis b y hy hF
   ·exact absurd (st.own_lt hb) (by omega)
  ·obtain⟨o,h7,h8⟩:=st.blk b x hb
   exact⟨o,by rw[hsame b (st.own_lt hb)];exact h7,h8.up (h2.up (hs F w st))⟩

theorem CallV.quiet_fresh {fv:AV} {as:List AV} {H:Hp} {v:AV} {b:Nat} {z:ABlk} (h:CallV B P fv as (fQ H) fun v' H'=>v'=v∧H'=fQ H) (hb:H b=none) :
 CallV B P fv as (fQ (hset H b z)) fun v' H'=>v'=v∧H'=fQ (hset H b z):=by
 have hne:∀ c,(fQ H c).isSome=true→c≠b:=fun c hc e=>by subst e;simp[fQ,hb]at hc
 refine h.quiet (fun c hc=>?_) fun F w st=>st.forget fun c x hc=>?_
 ·rw[aE _ _ (hne c hc)]
  unfold fQ at hc
  cases hx:H c with
  | none=>simp[hx]at hc
  | some y=>rfl
 ·rw[yC,aE _ _ (hne c (by simp[hc]))];exact hc

theorem CallV.quiet_grow {fv:AV} {as:List AV} {H:Hp} {v:AV} {b:Nat} {cs new:List AV} (h:CallV B P fv as (fQ H) fun v' H'=>v'=v∧H'=fQ H) (hb:H b=some (.cells true cs)) :
 CallV B P fv as (fQ (hset H b (.cells true (cs++new)))) fun v' H'=>v'=v∧H'=fQ (hset H b (.cells true (cs++new))):=by
 refine h.quiet (fun c hc=>?_) fun F w st=>⟨st.lt,fun c x hc=>?_,fun c x hc=>?_⟩
 ·by_cases h1:c=b
  ·subst h1;simp
  ·rw[aE _ _ h1]
   unfold fQ at hc
   cases hx:H c with
   | none=>simp[hx]at hc
   | some y=>rfl
 ·rw[yC]at st
  by_cases h1:c=b
  ·subst h1;exact st.dis c _ (hset_same _ _ _)
  ·exact st.dis c x (by rw[aE _ _ h1];exact hc)
 ·rw[yC]at st
  by_cases h1:c=b
  ·subst h1
   obtain⟨o,h2,h3⟩:=st.blk c _ (hset_same _ _ _)
   simp only[fQ,hb,Option.map_some,ABlk.ro,oSI]at hc
   subst hc
   refine⟨o,h2,?_⟩
   cases h3 with
   | cells p ds c e fr hfr hl ho hr =>
     refine .cells _ _ _ _ _ hfr (by simp at hl;omega) ho fun i a v hi hv=>hr i a v ?_ hv
     rw[List.getElem?_append_left (List.getElem?_eq_some_iff.1 hi).1,hi]
  ·exact st.blk c x (by rw[aE _ _ h1];exact hc)


theorem aFd {d:Option Nat} {e:Eff} {K K':aD→Hp→Prop} {env:aD} {H:Hp} (hf:FinH H) (hk:∀ u H',FinH H'→K (aP env d u) H'→K' (aP env d u) H') (h:eP d e K env H):eP d e K' env H:=by
 cases e with
 | val v=>exact hk _ _ hf h
 | new own x f=>exact fun b hb=>hk _ _ hf.hset (h b hb)

theorem lO {ix j:Nat} {op:DOp} {env:aD} {L:sP} (h:j≠ix):cU ix op env L j=L j:=by
 cases op<;>first|rfl|simp[cU,h]

theorem aEp {n:Nat} {H H':Hp} {p x:AV} (hf:FinH H) (h:lW n H p x=some H'):FinH H':=by
 unfold lW at h
 split at h
 ·split at h
  ·split at h<;>simp at h;subst h;exact hf.hset
  ·simp at h
 ·simp at h
theorem aEP {q:Bool} {H H':Hp} {m k x:AV} (hf:FinH H) (h:rX q H m k x=some H'):FinH H':=by
 unfold rX at h
 split at h
 ·split at h
  ·simp only[Option.map_eq_some_iff]at h;obtain⟨_,_,rfl⟩:=h;exact hf.hset
  ·simp at h
 ·simp at h
theorem aJy {H:Hp} {x:AV} {r:AV×Hp} (hf:FinH H) (h:aDl H x=some r):FinH r.2:=by
 unfold aDl at h
 split at h
 ·split at h
  ·split at h<;>simp at h<;>subst h
   ·exact hf.hset
   ·exact hf
  ·simp at h
 ·simp at h
theorem aGU {H H':Hp} {c x:AV} (hf:FinH H) (h:aAN H c x=some H'):FinH H':=by
 unfold aAN at h
 split at h
 ·split at h
  ·split at h
   ·split at h<;>simp at h;subst h;exact hf.hset
   ·simp at h
  ·simp at h
 ·simp at h
theorem aGZ {ok:Bool} {z c:AV} {H:Hp} {r:AV×Hp} (hf:FinH H) (h:yK ok z H c=some r):FinH r.2:=by
 unfold yK at h
 split at h
 ·split at h
  ·split at h
   ·simp at h;subst h;exact hf.hset
   ·simp at h;subst h;exact hf.hset
   ·simp at h
  ·simp at h
 ·simp at h
theorem aHA {s:Nat} {H:Hp} {x y:AV} {r:Nat×Hp} (hf:FinH H) (h:zW s H x y=some r):FinH r.2:=by
 unfold zW at h
 split at h
 ·split at h
  ·split at h<;>simp at h;subst h;exact hf.hset
  ·simp at h
 ·simp at h

theorem gI {α:Type} {o:Option α} {k k':α→Prop} (h:∀ x,o=some x→k x→k' x) (ho:fR o k):fR o k':=by
 cases o with
 | none=>exact ho
 | some x=>exact h x rfl ho

theorem iJ {ix:Nat} {d:Option Nat} {op:DOp} {K K':KL} {env:aD} {H:Hp} {L:sP} (hf:FinH H)
 (hk:∀ u H' L',FinH H'→(∀ j,j≠ix→L' j=L j)→K (aP env d u) H' L'→K' (aP env d u) H' L') (h:aS B P ix d op K env H L):aS B P ix d op K' env H L:=by
 cases op
 case store n p x l=>exact⟨h.1,gI (fun H' he=>hk _ _ _ (aEp hf he) fun _ _=>rfl) h.2⟩
 case copy s x y=>exact gI (fun r he=>hk _ _ _ (aHA hf he) fun _ _=>rfl) h
 case mapup q m k x=>exact gI (fun H' he=>hk _ _ _ (aEP hf he) fun _ _=>rfl) h
 case nxts x=>exact gI (fun r he=>hk _ _ _ (aJy hf he) fun _ _=>rfl) h
 case send c x=>exact gI (fun H' he=>hk _ _ _ (aGU hf he) fun _ _=>rfl) h
 case recv ok z c=>exact gI (fun r he=>hk _ _ _ (aGZ hf he) fun _ _=>rfl) h
 case callf q f xs l =>
  cases q with
  | true=>obtain⟨v,h1,h2⟩:=h;exact⟨v,h1,hk _ _ _ hf (fun _ _=>rfl) h2⟩
  | false=>exact CallV.monoF h fun v H' hf' hq=>⟨hq.1,hk _ _ _ hf' (fun _ _=>rfl) hq.2⟩
 all_goals
  rw[bS rfl]at h ⊢
  exact bA (fun e=>aFd hf fun u H' hf'=>hk _ _ _ hf' fun j hj=>lO hj) h

theorem aJu {o:DOper} {K K':KL} {env:aD} {H:Hp} {L:sP} (hf:FinH H)
 (hk:∀ e H' L',FinH H'→(∀ j,j≠o.ix→L' j=L j)→K e H' L'→K' e H' L') (h:opD B P o K env H L):opD B P o K' env H L :=
 bA (fun g=>iJ hf fun u H' L'=>hk _ _ _) h

def wW (op:DOp):Bool:=match op with
 | .callf false .. => true
 | _=>false

theorem wD {ix:Nat} {d:Option Nat} {op:DOp} {env:aD} {H:Hp} {L:sP} (hf:FinH H) (hc:wW op=false) (h:aS B P ix d op (fun _ _ _=>False) env H L):False:=by
 have ow:∀ {α:Type} {o:Option α},fR o (fun _=>False)→False:=fun {α o} h=>by cases o<;>exact h
 cases op
 case store n p x l=>exact ow h.2
 case copy s x y=>exact ow h
 case mapup q m k x=>exact ow h
 case nxts x=>exact ow h
 case send c x=>exact ow h
 case recv ok z c=>exact ow h
 case callf q f xs l =>
  cases q with
  | true=>obtain⟨v,h1,h2⟩:=h;exact h2
  | false=>simp[wW]at hc
 all_goals
  rw[bS rfl,bI]at h
  obtain⟨e,_,h⟩:=h
  cases e with
  | val v=>exact h
  | new own x f=>obtain⟨N,hf⟩:=hf;exact h N (.inl (hf N (Nat.le_refl _)))


section
variable {ix iy:Nat} {dx dy:Option Nat} {opx opy:DOp} {K:KL} {env:aD} {H:Hp} {L:sP}

theorem nZ {op:DOp} {b:Nat} {own:Option Nat} {x:ABlk} {f:Nat→AV} {e:Eff} {op':DOp} (hn:aA op' env H=some (.new own x f)) (h3:¬(op.kind=3∧op'.kind=3))
 (hb:H b=none∨own=some b) (h:aA op env H=some e):aA op env (hset H b x)=some e:=by
 rcases hb with hb|rfl
 ·exact aDL hb h
 ·obtain⟨hk,cs,new,h1,rfl⟩:=kK hn
  exact aFc h1 (fun h=>h3 ⟨h,hk⟩) h

theorem aNS (hf:FinH H) (hqx:opx.isQ=true) (hqy:opy.isQ=true) (h3:¬(opy.kind=3∧opx.kind=3)) (hne:ix≠iy)
 (a1:∀ k,dx=some k→k∉opy.sees) (a2:∀ k,dy=some k→k∉opx.sees) (a3:∀ k,dx=some k→dy≠some k)
 (h:aS B P ix dx opx (aS B P iy dy opy K) env H L):aS B P iy dy opy (aS B P ix dx opx K) env H L:=by
 have key:∀ (e:aD) (h':Hp) (L':sP),aS B P iy dy opy K e h' L'=fR (aA opy e h') fun e'=>eP dy e' (fun e'' h=>K e'' h (cU iy opy e L')) e h':=fun e h' L'=>bS hqy
 have key':∀ (e:aD) (h':Hp) (L':sP),aS B P ix dx opx K e h' L'=fR (aA opx e h') fun e'=>eP dx e' (fun e'' h=>K e'' h (cU ix opx e L')) e h':=fun e h' L'=>bS hqx
 rw[bS hqx,bI]at h
 obtain⟨ex,hex,h⟩:=h
 rw[bS hqy]
 cases ex with
 | val v =>
   simp only[eP,key,cJ a1,dU a1]at h
   rw[bI]at h
   obtain⟨ey,hey,h⟩:=h
   rw[hey,optW_some]
   cases ey with
   | val u =>
     simp only[eP,key',cJ a2,dU a2,hex,optW_some]at h ⊢
     rw[eH a3,nU hne]at *
     exact h
   | new own z f =>
     simp only[eP,key',cJ a2,dU a2]at h ⊢
     intro b hb
     rw[nZ hey (fun h=>h3 ⟨h.2,h.1⟩) hb hex,optW_some]
     have:=h b hb
     rw[eH a3,nU (Ne.symm hne)]at this
     exact this
 | new own z f =>
   simp only[eP,key,cJ a1,dU a1]at h
   obtain⟨ey,hey⟩:∃ ey,aA opy env H=some ey:=by
    obtain⟨N,hN⟩:=hf
    have h1:=h (N+(rdB opy env).sum+1) (.inl (hN _ (by omega)))
    rw[aHv (by omega),bI]at h1
    exact⟨_,h1.choose_spec.1⟩
   rw[hey,optW_some]
   have h':∀ b,(H b=none∨own=some b)→eP dy ey (fun e'' h=>K e'' h (cU iy opy env (cU ix opx env L))) (aP env dx (f b)) (hset H b z):=fun b hb=>by
    have:=h b hb
    rwa [nZ hex h3 hb hey,optW_some]at this
   cases ey with
   | val u =>
     simp only[eP,key',cJ a2,dU a2,hex,optW_some]at h' ⊢
     intro b hb
     have:=h' b hb
     rw[eH a3,nU (Ne.symm hne)]at this
     exact this
   | new own' z' f' =>
     simp only[eP,key',cJ a2,dU a2]at h' ⊢
     intro c hc
     rw[nZ hey (fun h=>h3 ⟨h.2,h.1⟩) hc hex,optW_some]
     intro b hb
     have hown:∀ j,own=some j→H j≠none:=fun j hj=>by
      subst hj;obtain⟨_,cs,new,h1,_⟩:=kK hex;simp[h1]
     have hown':∀ j,own'=some j→H j≠none:=fun j hj=>by
      subst hj;obtain⟨_,cs,new,h1,_⟩:=kK hey;simp[h1]
     have hbc:b≠c:=by
      rintro rfl
      rcases hb with hb|hb
      ·simp at hb
      ·rcases hc with hc|hc
       ·exact hown _ hb hc
       ·subst hb hc
        exact h3 ⟨(kK hey).1,(kK hex).1⟩
     have hb':H b=none∨own=some b:=by rwa [aE _ _ hbc]at hb
     have:=h' b hb' c (by rwa [aE _ _ (Ne.symm hbc)])
     rw[eH a3,nU (Ne.symm hne),aHk hbc]at this
     exact this


theorem nT {op:DOp} {e:aD} (h:op.kind≠1):cU ix op e L=L:=by
 cases op<;>first|rfl|simp[DOp.kind]at h

theorem iX {op:DOp} (h:op.kind≤3∨op.kind=7):op.isQ=true:=by
 cases op<;>first|rfl|skip
 case callf q f xs l=>cases q<;>simp[DOp.kind]at h
 all_goals simp[DOp.kind]at h

theorem pW {op:DOp} {H':Hp} (h:op.kind=0):aA op env H=aA op env H':=by
 cases op<;>first|rfl|simp[DOp.kind]at h

theorem wC {op:DOp} (h:op.kind=7):∃ z f,∀ env H,aA op env H=some (.new none z f):=by
 cases op<;>simp[DOp.kind]at h
 case alloc z=>exact⟨_,_,fun _ _=>rfl⟩
 case mkmap=>exact⟨_,_,fun _ _=>rfl⟩
 case allocb=>exact⟨_,_,fun _ _=>rfl⟩
 case mkchan n=>exact⟨_,_,fun _ _=>rfl⟩
 case callf q f xs l=>cases q<;>simp at h

theorem aRE (hf:FinH H) (hk:opx.kind=0)
 (a1:∀ k,dx=some k→k∉opy.sees) (a2:∀ k,dy=some k→k∉opx.sees) (a3:∀ k,dx=some k→dy≠some k)
 (h:aS B P ix dx opx (aS B P iy dy opy K) env H L):aS B P iy dy opy (aS B P ix dx opx K) env H L:=by
 have hq:=iX (op:=opx) (by omega)
 rw[bS hq,bI]at h
 obtain⟨ex,hex,h⟩:=h
 obtain⟨v,rfl⟩:=nD (by omega) hex
 simp only[eP,nT (op:=opx) (by omega:opx.kind≠1)]at h
 rw[oC a1 (fun k hk'=>a3 k hk')]at h
 refine iJ hf (fun u H' L' _ _ hK=>?_) h
 rw[bS hq,cJ a2,pW (H':=H) hk,hex,optW_some]
 simp only[eP,nT (op:=opx) (by omega:opx.kind≠1)]
 exact hK

theorem aNT (hf:FinH H) (hk:opy.kind=0) (hc:wW opx=false)
 (a1:∀ k,dx=some k→k∉opy.sees) (a2:∀ k,dy=some k→k∉opx.sees) (a3:∀ k,dx=some k→dy≠some k)
 (h:aS B P ix dx opx (aS B P iy dy opy K) env H L):aS B P iy dy opy (aS B P ix dx opx K) env H L:=by
 have hq:=iX (op:=opy) (by omega)
 have hl:∀ e,cU iy opy e=id:=fun e=>by funext l;exact nT (by omega)
 cases hey:aA opy env H with
 | none =>
   refine(wD (L:=L) hf hc (iJ hf (fun u H' L' _ _ hK=>?_) h)).elim
   rw[bS hq,cJ a1,pW (H':=H) hk,hey]at hK
   exact hK
 | some ey =>
   obtain⟨v,rfl⟩:=nD (by omega) hey
   rw[bS hq,hey,optW_some]
   simp only[eP,hl,id]
   rw[oC a2 (fun k hk' e=>a3 k e hk')]
   refine iJ hf (fun u H' L' _ _ hK=>?_) h
   rw[bS hq,cJ a1,pW (H':=H) hk,hey,optW_some]at hK
   simp only[eP,hl,id]at hK
   exact hK

theorem gM {f:AO} {xs:List AO} {l:List Nat}:aS B P ix dx (.callf true f xs l) K env H L =
 ∃ v,CallV B P (aG env f) (xs.map (aG env)) (fQ H) (fun v' H'=>v'=v∧H'=fQ H)∧K (aP env dx v) H L:=rfl

theorem cS {k:Option Nat} {v:AV} {q:Bool} {f:AO} {xs:List AO} {l:List Nat} (h:∀ j,k=some j→j∉(DOp.callf q f xs l).sees) :
 aG (aP env k v) f=aG env f∧xs.map (aG (aP env k v))=xs.map (aG env):=by
 cases k with
 | none=>exact⟨rfl,rfl⟩
 | some j =>
   have:=h j rfl
   simp only[DOp.sees,List.mem_append,not_or]at this
   exact⟨bO this.1,tW this.2⟩

theorem aEn {f:AO} {xs:List AO} {l:List Nat} (hqy:opy.isQ=true)
 (a1:∀ k,dx=some k→k∉opy.sees) (a2:∀ k,dy=some k→k∉(DOp.callf true f xs l).sees) (a3:∀ k,dx=some k→dy≠some k)
 (h:aS B P ix dx (.callf true f xs l) (aS B P iy dy opy K) env H L):aS B P iy dy opy (aS B P ix dx (.callf true f xs l) K) env H L:=by
 rw[gM]at h
 obtain⟨v,h1,h⟩:=h
 rw[bS hqy,cJ a1,dU a1,bI]at h
 obtain⟨ey,hey,h⟩:=h
 rw[bS hqy,hey,optW_some]
 cases ey with
 | val u =>
   simp only[eP,gM,(cS a2).1,(cS a2).2]at h ⊢
   exact⟨v,h1,by rw[←eH a3];exact h⟩
 | new own z g =>
   simp only[eP,gM,(cS a2).1,(cS a2).2]at h ⊢
   intro b hb
   refine⟨v,?_,by rw[←eH a3];exact h b hb⟩
   rcases hb with hb|rfl
   ·exact h1.quiet_fresh hb
   ·obtain⟨_,cs,new,h2,rfl⟩:=kK hey
    exact h1.quiet_grow h2

theorem aEo {f:AO} {xs:List AO} {l:List Nat} (hk:opx.kind=1)
 (a1:∀ k,dx=some k→k∉(DOp.callf true f xs l).sees) (a2:∀ k,dy=some k→k∉opx.sees) (a3:∀ k,dx=some k→dy≠some k)
 (h:aS B P ix dx opx (aS B P iy dy (.callf true f xs l) K) env H L):aS B P iy dy (.callf true f xs l) (aS B P ix dx opx K) env H L:=by
 have hq:=iX (op:=opx) (by omega)
 rw[bS hq,bI]at h
 obtain⟨ex,hex,h⟩:=h
 obtain⟨v,rfl⟩:=nD (by omega) hex
 simp only[eP,gM,(cS a1).1,(cS a1).2]at h
 obtain⟨u,h1,h⟩:=h
 rw[gM]
 refine⟨u,h1,?_⟩
 rw[bS hq,cJ a2,dU a2,hex,optW_some]
 simp only[eP]
 rw[←eH a3]
 exact h

theorem xI {f g:AO} {xs ys:List AO} {l m:List Nat}
 (a1:∀ k,dx=some k→k∉(DOp.callf true g ys m).sees) (a2:∀ k,dy=some k→k∉(DOp.callf true f xs l).sees) (a3:∀ k,dx=some k→dy≠some k)
 (h:aS B P ix dx (.callf true f xs l) (aS B P iy dy (.callf true g ys m) K) env H L):aS B P iy dy (.callf true g ys m) (aS B P ix dx (.callf true f xs l) K) env H L:=by
 simp only[gM,(cS a1).1,(cS a1).2,(cS a2).1,(cS a2).2]at h ⊢
 obtain⟨v,h1,u,h2,h⟩:=h
 exact⟨u,h2,v,h1,by rw[←eH a3];exact h⟩

theorem aGN {f:AO} {xs:List AO} {l:List Nat} (hk:opy.kind=7)
 (a2:∀ k,dy=some k→k∉(DOp.callf false f xs l).sees) (a3:∀ k,dx=some k→dy≠some k)
 (h:aS B P ix dx (.callf false f xs l) (aS B P iy dy opy K) env H L):aS B P iy dy opy (aS B P ix dx (.callf false f xs l) K) env H L:=by
 have hq:=iX (op:=opy) (by omega)
 have hl:∀ e,cU iy opy e=id:=fun e=>by funext l;exact nT (by omega)
 obtain⟨z,g,hg⟩:=wC hk
 rw[bS hq,hg,optW_some]
 simp only[eP,hl,id,or_false,reduceCtorEq]
 intro b hb
 show CallV B P (aG (aP env dy (g b)) f) (xs.map (aG (aP env dy (g b)))) (hset H b z) _
 rw[(cS a2).1,(cS a2).2]
 refine CallV.mono (CallV.frame h hb) ?_
 rintro v H'' ⟨H',⟨h1,h2⟩,hn,rfl⟩
 refine⟨fun j hj c hc=>?_,?_⟩
 ·by_cases h5:c=b
  ·subst h5;simp
  ·rw[aE _ _ h5,aE _ _ h5];exact h1 j hj c hc
 ·rw[bS hq,hg,optW_some]at h2
  simp only[eP,hl,id,or_false,reduceCtorEq]at h2
  rw[←eH a3]
  exact h2 b hn

theorem aAo {g:Bool} {n m:Nat} {a p x:AO} {l:List Nat} (hl:ix∈l) (hL:L ix=none)
 (a1:∀ k,dx=some k→k∉(DOp.store m p x l).sees) (a2:∀ k,dy=some k→k∉(DOp.load g n a).sees) (a3:∀ k,dx=some k→dy≠some k)
 (h:aS B P ix dx (.load g n a) (aS B P iy dy (.store m p x l) K) env H L):aS B P iy dy (.store m p x l) (aS B P ix dx (.load g n a) K) env H L:=by
 rw[bS rfl,bI]at h
 obtain⟨ex,hex,h⟩:=h
 obtain⟨v,rfl⟩:=nD (by simp[DOp.kind]) hex
 simp only[eP]at h
 rw[oC a1 (fun k hk=>a3 k hk)]at h
 obtain⟨h1,h2⟩:=h
 refine⟨fun j hj c hc=>h1 j hj c ?_,gI (fun H' he hK=>?_) h2⟩
 ·by_cases hji:j=ix
  ·subst hji;rw[hL]at hc;cases hc
  ·rw[lO hji];exact hc
 ·show aS B P ix dx (.load g n a) K (aP env dy .any) H' L
  rw[bS rfl,cJ a2,dU a2]
  have:aA (.load g n a) env H'=aA (.load g n a) env H:=by
   refine jB fun b hb=>?_
   simp only[rdB,Option.mem_toList]at hb
   have hb2:=h1 ix hl b (by simp[cU,hb])
   unfold lW at he
   split at he
   ·rename_i c o hp
    split at he
    ·split at he
     ·simp only[oSI]at he
      subst he
      refine aE _ _ fun e=>hb2 ?_
      rw[hp,e];rfl
     ·simp at he
    ·simp at he
   ·simp at he
  rw[this,hex,optW_some]
  simp only[eP]
  exact hK

theorem aBJ {g:Bool} {n:Nat} {a f:AO} {xs:List AO} {l:List Nat} (hl:ix∈l) (hL:L ix=none)
 (a1:∀ k,dx=some k→k∉(DOp.callf false f xs l).sees) (a2:∀ k,dy=some k→k∉(DOp.load g n a).sees) (a3:∀ k,dx=some k→dy≠some k)
 (h:aS B P ix dx (.load g n a) (aS B P iy dy (.callf false f xs l) K) env H L):aS B P iy dy (.callf false f xs l) (aS B P ix dx (.load g n a) K) env H L:=by
 rw[bS rfl,bI]at h
 obtain⟨ex,hex,h⟩:=h
 obtain⟨v,rfl⟩:=nD (by simp[DOp.kind]) hex
 simp only[eP]at h
 rw[oC a1 (fun k hk=>a3 k hk)]at h
 refine CallV.mono h fun u H' ⟨h1,hK⟩=>⟨fun j hj c hc=>h1 j hj c ?_,?_⟩
 ·by_cases hji:j=ix
  ·subst hji;rw[hL]at hc;cases hc
  ·rw[lO hji];exact hc
 ·show aS B P ix dx (.load g n a) K (aP env dy u) H' L
  rw[bS rfl,cJ a2,dU a2]
  have:aA (.load g n a) env H'=aA (.load g n a) env H:=by
   refine jB fun b hb=>?_
   simp only[rdB,Option.mem_toList]at hb
   exact h1 ix hl b (by simp[cU,hb])
  rw[this,hex,optW_some]
  simp only[eP]
  exact hK
end

variable {P:Program} {B:Base}

section
variable {ix iy:Nat} {dx dy:Option Nat} {opx opy:DOp} {K:KL} {env:aD} {H:Hp} {L:sP}

def vG (ix:Nat) (x y:DOp):Bool :=
 match x,y with
 | .load ..,.store _ _ _ l=>l.contains ix
 | .load ..,.callf false _ _ l=>l.contains ix
 | _,_=>false

theorem yZ (op:DOp):op.kind≤7:=by
 cases op<;>simp[DOp.kind]
 case callf q f xs l=>cases q<;>simp

theorem aJM {op:DOp} (h:op.kind=4):∃ f xs l,op = .callf true f xs l:=by
 cases op<;>simp[DOp.kind]at h
 case callf q f xs l=>cases q<;>simp at h;exact⟨_,_,_,rfl⟩
theorem aSq {op:DOp} (h:op.kind=6):∃ f xs l,op = .callf false f xs l:=by
 cases op<;>simp[DOp.kind]at h
 case callf q f xs l=>cases q<;>simp at h;exact⟨_,_,_,rfl⟩
theorem aAe {op:DOp} (h:op.kind≠6):wW op=false:=by
 cases op<;>first|rfl|skip
 case callf q f xs l=>cases q<;>first|rfl|simp[DOp.kind]at h

theorem aIa (hf:FinH H) (hok:(gV opx.kind opy.kind||vG ix opx opy)=true) (hL:L ix=none) (hne:ix≠iy)
 (a1:∀ k,dx=some k→k∉opy.sees) (a2:∀ k,dy=some k→k∉opx.sees) (a3:∀ k,dx=some k→dy≠some k)
 (h:aS B P ix dx opx (aS B P iy dy opy K) env H L):aS B P iy dy opy (aS B P ix dx opx K) env H L:=by
 by_cases hx0:opx.kind=0
 ·exact aRE hf hx0 a1 a2 a3 h
 by_cases hk:gV opx.kind opy.kind=true
 ·have l1:=yZ opx
  have l2:=yZ opy
  have qq:(opx.kind≤3∨opx.kind=7)→(opy.kind≤3∨opy.kind=7)→¬(opy.kind=3∧opx.kind=3)→aS B P iy dy opy (aS B P ix dx opx K) env H L :=
   fun h1 h2 h3=>aNS hf (iX h1) (iX h2) h3 hne a1 a2 a3 h
  by_cases hx6:opx.kind=6
  ·obtain⟨f,xs,l,rfl⟩:=aSq hx6
   have hy:opy.kind=7:=by simpa [hx6,gV]using hk
   exact aGN hy a2 a3 h
  by_cases hx5:opx.kind=5
  ·have hy:opy.kind=0:=by simpa [hx5,gV]using hk
   exact aNT hf hy (aAe hx6) a1 a2 a3 h
  by_cases hx4:opx.kind=4
  ·obtain⟨f,xs,l,rfl⟩:=aJM hx4
   have hy:opy.kind≤4∨opy.kind=7:=by simpa [hx4,gV]using hk
   by_cases hy4:opy.kind=4
   ·obtain⟨g,ys,m,rfl⟩:=aJM hy4
    exact xI a1 a2 a3 h
   ·exact aEn (iX (by omega)) a1 a2 a3 h
  by_cases hx1:opx.kind=1
  ·have hy:opy.kind≤4∨opy.kind=7:=by simpa [hx1,gV]using hk
   by_cases hy4:opy.kind=4
   ·obtain⟨g,ys,m,rfl⟩:=aJM hy4
    exact aEo hx1 a1 a2 a3 h
   ·exact qq (by omega) (by omega) (by omega)
  by_cases hx3:opx.kind=3
  ·have hy:opy.kind≤2∨opy.kind=7:=by simpa [hx3,gV]using hk
   exact qq (by omega) (by omega) (by omega)
  ·have hy:opy.kind≤3∨opy.kind=7:=by
    have:opx.kind=2∨opx.kind=7:=by omega
    rcases this with h1|h1<;>simpa [h1,gV]using hk
   exact qq (by omega) (by omega) (by omega)
 ·have ha:vG ix opx opy=true:=by simpa [hk]using hok
  unfold vG at ha
  split at ha
  ·exact aAo (by simpa using ha) hL a1 a2 a3 h
  ·exact aBJ (by simpa using ha) hL a1 a2 a3 h
  ·simp at ha
end

theorem zS {g:Bool} {op:DOp} {k:Nat} (h:k∉op.sees):k∉(zU g op).sees:=by
 cases g with
 | true=>exact h
 | false=>exact List.not_mem_nil

theorem zT {g:Bool} {op:DOp}:(zU g op).kind=if g then op.kind else 0:=by cases g<;>rfl

theorem aRD {x y:DOper} {K:KL} {env:aD} {H:Hp} {L:sP} (hf:FinH H) (hok:lV x y=true) (hL:L x.ix=none) (hne:x.ix≠y.ix)
 (h:opD B P x (opD B P y K) env H L):opD B P y (opD B P x K) env H L:=by
 unfold lV aKI at hok
 simp only[Bool.and_eq_true]at hok
 obtain⟨⟨hk,hA1,hA2⟩,h6⟩:=hok
 have b1:∀ k,x.dst=some k→k∉y.sees∧y.dst≠some k:=fun k hk=>by
  rw[hk]at hA1;simpa using hA1
 have b2:∀ k,y.dst=some k→k∉x.sees:=fun k hk=>by
  rw[hk]at hA2;simpa using hA2
 have s1:∀ (o:DOper) k,k∉o.sees→k∉o.op.sees:=fun o k h hk=>h (List.mem_append_left _ hk)
 unfold opD at h ⊢
 rw[bI]at h
 obtain⟨gx,hgx,h⟩:=h
 have h':aS B P x.ix x.dst (zU gx x.op) (fun e h l=>fR (gd y env) fun g=>aS B P y.ix y.dst (zU g y.op) K e h l) env H L :=
  iJ hf (fun u H' L' _ _ hK=>by simpa only[opD,aGk fun k hk=>(b1 k hk).1]using hK) h
 cases hgy:gd y env with
 | none =>
   simp only[hgy,optW_none]at h'
   refine(wD hf ?_ h').elim
   cases gx with
   | false=>rfl
   | true =>
     refine aAe fun h7=>?_
     have hy:y.guard=none:=by simpa [show x.op.kind=6 from h7]using h6
     simp[gd,hy]at hgy
 | some gy =>
   simp only[hgy,optW_some]at h' ⊢
   refine iJ hf (fun u H' L' _ _ hK=>?_) (aIa hf ?_ hL hne (fun k hk=>zS (s1 _ _ (b1 k hk).1)) (fun k hk=>zS (s1 _ _ (b2 k hk))) (fun k hk=>(b1 k hk).2) h')
   ·simp only[opD,aGk b2,hgx,optW_some];exact hK
   ·cases gx with
    | false=>simp[zT,gV]
    | true =>
      cases gy with
      | true=>exact hk
      | false =>
        have l1:=yZ x.op
        have:x.op.kind≠6:=fun h7=>by
         have hy:y.guard=none:=by simpa [h7]using h6
         simp[gd,hy]at hgy
        simp only[zT,if_true,Bool.or_eq_true]
        left
        have:x.op.kind=0∨x.op.kind=1∨x.op.kind=2∨x.op.kind=3∨x.op.kind=4∨x.op.kind=5∨x.op.kind=7:=by omega
        rcases this with h|h|h|h|h|h|h<;>simp[h,gV]

theorem aSa {y:DOper} {post:List DOper} {K:aD→Hp→Prop}:∀ (pre:List DOper) (env:aD) (H:Hp) (L:sP),FinH H→(∀ x∈pre,lV x y=true) →
 ((pre++y::post).map (·.ix)).Nodup→(∀ o∈pre++y::post,L o.ix=none)→RD B P (pre++y::post) K env H L→opD B P y (RD B P (pre++post) K) env H L:=by
 intro pre
 induction pre with
 | nil=>intro env H L _ _ _ _ h;exact h
 | cons x pre ih =>
   intro env H L hf hs hnd hL h
   simp only[List.cons_append,List.map_cons,List.nodup_cons]at hnd
   refine aRD hf (hs x (by simp)) (hL x (by simp)) (fun e=>hnd.1 (by simp[e])) ?_
   refine aJu hf (fun e H' L' hf' hl hK=>ih e H' L' hf' (fun z hz=>hs z (by simp[hz])) hnd.2 (fun o ho=>?_) hK) h
   rw[hl _ fun e=>hnd.1 (by rw[←e];exact List.mem_map_of_mem ho)]
   exact hL o (by simp only[List.cons_append,List.mem_cons];exact .inr ho)

theorem aFX {o:DOper} {K:KL} {env:aD} {H:Hp} {L:sP} (h:opD B P o K env H L):opW B P o (fun e h=>∃ L',(∀ j,j≠o.ix→L' j=L j)∧K e h L') env H:=by
 unfold opD at h
 rw[bI]at h
 obtain⟨g,hg,h⟩:=h
 unfold opW
 rw[hg]
 cases g with
 | false =>
   simp only
   have:aS B P o.ix o.dst (.mv (.c (.tup []))) K env H L:=h
   rw[bS rfl]at this
   exact⟨L,fun _ _=>rfl,this⟩
 | true =>
   simp only
   have h:aS B P o.ix o.dst o.op K env H L:=h
   revert h
   generalize o.op=op
   intro h
   cases op
   case store n p x l=>exact bA (fun H' hK=>⟨L,fun _ _=>rfl,hK⟩) h.2
   case copy s x y=>exact bA (fun r hK=>⟨L,fun _ _=>rfl,hK⟩) h
   case mapup q m k x=>exact bA (fun r hK=>⟨L,fun _ _=>rfl,hK⟩) h
   case nxts x=>exact bA (fun r hK=>⟨L,fun _ _=>rfl,hK⟩) h
   case send c x=>exact bA (fun r hK=>⟨L,fun _ _=>rfl,hK⟩) h
   case recv ok z c=>exact bA (fun r hK=>⟨L,fun _ _=>rfl,hK⟩) h
   case callf q f xs l =>
    cases q with
    | true=>obtain⟨v,h1,h2⟩:=h;exact⟨v,h1,L,fun _ _=>rfl,h2⟩
    | false=>exact CallV.mono h fun v H' hq=>⟨L,fun _ _=>rfl,hq.2⟩
   all_goals
    rw[bS rfl]at h
    rw[kA rfl]
    exact bA (fun e=>aBu fun e' h' hK=>⟨_,fun j hj=>lO hj,hK⟩) h

variable {P:Program} {F:Fence} {n:Nat} {ops:Array Oper} {Q:Exit→Act→World→Prop} {a:Act} {w w':World} {i:Nat} {rest:List Nat} {o:Oper}

def OpsW (F:Fence) (n:Nat) (P:Program) (ops:Array Oper) (Q:Exit→Act→World→Prop) (l:List Nat) (a:Act) (w:World):Prop :=
 ∀ (b:Frame) (k:List Item) (cs:List Frame),b.roundOf=F.round→F.fn b.fn→F.room (cs.length+1+n) →
   ∃ e a' w',Q e a' w'∧ArrivesIn (Machine.fenced P F) P (lone (b.atR a (.inRegion ops l::k)) cs w) b k cs e a' w'

theorem OpsW.of {l:List Nat} (h:wpOpsIn F n P ops Q l a w):OpsW F n P ops Q l a w:=fun b k cs h1 h2 h3=>wp_opsIn l a w h b k cs h1 h2 h3
theorem OpsW.region {id:Nat} (h:OpsW F n P ops Q (List.range ops.size) a w):(Code.region id ops false).wpIn F n P Q a w :=
 fun b k cs hro hb hr=>let ⟨e,a',w',q,r⟩:=h b k cs hro hb hr; ⟨e,a',w',q,.of_steps (.one (fenced_calm hb hr rfl) stepR_region) r⟩

section
variable (ho:ops[i]?=some o) (hw:Region.wanted o (yielded ops a.tmps)=true) (hab:∀ f,o.about P w a.eval=some f→F.fn f)
include ho hw hab
theorem OpsW.val {v:Value} (hr:(o.semAt F.round a.eval).run P w = .ok (.value v) w') (h:OpsW F n P ops Q rest (a.put o.dst v) w'):OpsW F n P ops Q (i::rest) a w:=by
 intro b k cs hro hb hroom
 obtain⟨e,a',w'',hq,harr⟩:=h b k cs hro hb hroom
 refine⟨e,a',w'',hq,.of_steps (.one (fenced_oper hb hroom ho hab) (step_lone_go ?_)) harr⟩
 have hfin:(b.atR a (.inRegion ops (i::rest)::k)).finish v=b.atR (a.put o.dst v) (.inRegion ops rest::k):=by rw[Frame.finish_atR,ho];rfl
 rw[stepGR_op ho hw,hro,←hfin]
 simp[stepG.apply,hr]

theorem OpsW.comm {b:Frame} {k:List Item} {cs:List Frame} {cases:Array CommCase} {shape:CommShape} (hro:b.roundOf=F.round) (hr:(o.semAt F.round a.eval).run P w = .ok (.comm cases true shape) w) :
 ∃ es,stepG P true (Conc.G (b.atR a (.inRegion ops (i::rest)::k)) cs) w = .comm (Conc.G (b.atR a (.inRegion ops (i::rest)::k)) cs) cases true shape w es:=by
 rw[show Conc.G (b.atR a (.inRegion ops (i::rest)::k)) cs={ frame:=b.atR a (.inRegion ops (i::rest)::k),callers:=cs,status:=.running,dying:=none } from rfl,stepGR_op ho hw,hro]
 simp only[stepG.apply,if_true,Sem.runT_eq,hr,GStep.after]
 exact⟨_,rfl⟩

theorem OpsW.send {c:Nat} {v z:Value} {cap s r:Nat} {buf:Array Value} {tm:Bool} (hr:(o.semAt F.round a.eval).run P w = .ok (.comm #[Conc.scase c v z] true .send) w)
 (hc:w.heap[c]?=some (.chan cap buf false s r tm)) (hroom:buf.size<cap) (h:OpsW F n P ops Q rest (a.put o.dst undef) (w.setChan c cap (buf.push v) false (s+1) r tm)):OpsW F n P ops Q (i::rest) a w:=by
 intro b k cs hro hb hrm
 obtain⟨es,hs⟩:=OpsW.comm ho hw hab (k:=k) (cs:=cs) (rest:=rest) hro hr
 have hfin:(b.atR a (.inRegion ops (i::rest)::k)).finish undef=b.atR (a.put o.dst undef) (.inRegion ops rest::k):=by rw[Frame.finish_atR,ho];rfl
 obtain⟨e,a',w'',hq,harr⟩:=h b k cs hro hb hrm
 refine⟨e,a',w'',hq,.of_steps (.one (fenced_oper hb hrm ho hab) ?_) harr⟩
 have:=Conc.step_lone_send_room hs hc hroom
 rw[hfin]at this
 exact this
theorem OpsW.recvBuf {c:Nat} {z:Value} {cap s r:Nat} {buf:Array Value} {tm cl ok:Bool} (hr:(o.semAt F.round a.eval).run P w = .ok (.comm #[Conc.rcase c z] true (.recv ok)) w)
 (hc:w.heap[c]?=some (.chan cap buf cl s r tm)) (hsome:0<buf.size) (h:OpsW F n P ops Q rest (a.put o.dst (Conc.got ok (buf.getD 0 undef) true)) (w.setChan c cap (buf.extract 1 buf.size) cl s (r+1) tm)):OpsW F n P ops Q (i::rest) a w:=by
 intro b k cs hro hb hrm
 obtain⟨es,hs⟩:=OpsW.comm ho hw hab (k:=k) (cs:=cs) (rest:=rest) hro hr
 have hfin:∀ v,(b.atR a (.inRegion ops (i::rest)::k)).finish v=b.atR (a.put o.dst v) (.inRegion ops rest::k):=fun v=>by rw[Frame.finish_atR,ho];rfl
 obtain⟨e,a',w'',hq,harr⟩:=h b k cs hro hb hrm
 refine⟨e,a',w'',hq,.of_steps (.one (fenced_oper hb hrm ho hab) ?_) harr⟩
 have:=Conc.step_lone_recv_buf ok hs hc hsome
 rw[hfin]at this
 exact this
theorem OpsW.recvShut {c:Nat} {z:Value} {cap s r:Nat} {tm ok:Bool} (hr:(o.semAt F.round a.eval).run P w = .ok (.comm #[Conc.rcase c z] true (.recv ok)) w)
 (hc:w.heap[c]?=some (.chan cap #[] true s r tm)) (h:OpsW F n P ops Q rest (a.put o.dst (Conc.got ok z false)) w):OpsW F n P ops Q (i::rest) a w:=by
 intro b k cs hro hb hrm
 obtain⟨es,hs⟩:=OpsW.comm ho hw hab (k:=k) (cs:=cs) (rest:=rest) hro hr
 have hfin:∀ v,(b.atR a (.inRegion ops (i::rest)::k)).finish v=b.atR (a.put o.dst v) (.inRegion ops rest::k):=fun v=>by rw[Frame.finish_atR,ho];rfl
 obtain⟨e,a',w'',hq,harr⟩:=h b k cs hro hb hrm
 refine⟨e,a',w'',hq,.of_steps (.one (fenced_oper hb hrm ho hab) ?_) harr⟩
 have:=Conc.step_lone_recv_shut ok hs hc
 rw[hfin]at this
 exact this
end

def kB (F:Fence) (n:Nat) (P:Program) (fn:Func) (tmps:Array Value) (R:Ending→World→Prop):List Deferred→World→Prop
 | [],w=>LeavesInM F n P fn tmps R [] .returning w
 | d::ds,w=>(∃ r w',d.target = .collected r∧(Instr.takeDeferred r).run P w = .ok [] w'∧kB F n P fn tmps R ds w') ∨
    (∃ ats ty cs c cap buf s r tm,d={ target:=.builtin .close ats ty cs,args := #[.chan (some c)] }∧w.heap[c]?=some (.chan cap buf false s r tm)∧kB F n P fn tmps R ds (w.putObj c (.chan cap buf true s r tm)))

theorem aEq {fr:Frame} {cs:List Frame} {ds:List Deferred} {ats:Array TypeId} {ty:TypeId} {q:Array Bool} {c cap s r:Nat} {buf:Array Value} {tm:Bool} (hm:fr.mode = .returning)
 (hd:fr.defers={ target:=.builtin .close ats ty q,args := #[.chan (some c)] }::ds) (hc:w.heap[c]?=some (.chan cap buf false s r tm)) :
 step P (lone fr cs w) = .next (lone { fr with defers:=ds } cs (w.putObj c (.chan cap buf true s r tm))):=by
 refine step_lone_go ?_
 have hrun:(invoke (.builtin .close ats ty q) #[.chan (some c)]).run P w = .ok (.value (.tuple #[])) (w.putObj c (.chan cap buf true s r tm)):=by
  simp only[invoke,builtin,Sem.run_bind,run_close_open ats ty hc,Result.andThen_ok,Sem.run_pure]
  rfl
 simp[stepG,unwind,callDeferred,hm,hd,Sem.runT_eq,hrun,GStep.bare_after]

theorem rO {fn:Func} {tmps:Array Value} {R:Ending→World→Prop}:∀ (ds:List Deferred) (w:World) (fr:Frame)
 (cs:List Frame),fr.mode = .returning→fr.defers=ds→fr.tmps=tmps→P.funcs[fr.fn]?=some fn→fr.kind = .normal→F.fn fr.fn→F.room (cs.length+1+n)→kB F n P fn tmps R ds w →
 ∃ e w' fr',R e w'∧ComesIn (Machine.fenced P F) P (lone fr cs w) (lone fr' cs w') e∧fr'.fn=fr.fn∧fr'.leaving P w' e:=by
 intro ds
 induction ds with
 | nil=>exact fun w fr cs hu hd ht hf hk hb hroom h=>leaves_stepsInM [] .returning w fr cs hu hd ht hf hk hb hroom h
 | cons d ds ih =>
   intro w fr cs hu hd ht hf hk hb hroom h
   have hrun:fr.mode ≠ .run:=by rw[hu];simp
   rcases h with ⟨r,w',htar,htake,hrest⟩|⟨ats,ty,q,c,cap,buf,s,r,tm,rfl,hc,hrest⟩
   ·have h1:=step_collected (cs:=cs) hrun hd htar htake
    have i1:(lone fr cs w).fenced P F:=fenced_out hb hroom hrun hd (fun g hg=>by rw[htar]at hg;simp[Target.leads]at hg)
    obtain⟨e',w'',fr',hR',hs',hfn',hl'⟩:=ih w' { fr with defers:=[]++ds } cs hu rfl ht hf hk hb hroom hrest
    exact⟨e',w'',fr',hR',ComesIn.of_steps (.one i1 h1) hs',hfn',hl'⟩
   ·have h1:=aEq (P:=P) (cs:=cs) hu hd hc
    have i1:(lone fr cs w).fenced P F:=fenced_out hb hroom hrun hd (fun g hg=>by simp[Target.leads]at hg)
    obtain⟨e',w'',fr',hR',hs',hfn',hl'⟩:=ih _ { fr with defers:=ds } cs hu rfl ht hf hk hb hroom hrest
    exact⟨e',w'',fr',hR',ComesIn.of_steps (.one i1 h1) hs',hfn',hl'⟩

theorem qF {f:FuncId} {fn:Func} {c:Code} {args:Array Value} {R:Ending→World→Prop}
 (hf:P.funcs[f]?=some fn) (hb:fn.body=some c) (hF:F.fn f)
 (h:c.wpIn F n P (fun e a w=>match e with
  | .normal | .ret=>kB F n P fn a.tmps R a.defers w
  | _=>False) { tmps:=args++Array.replicate (fn.ntmps-args.size) undef,defers:=[] } w) (hro:F.round=none:=by rfl):CallsIn F n P f args w R:=by
 refine⟨hF,fun cs hr=>?_⟩
 let b:Frame:={ (default:Frame)with fn:=f,kind:=.normal,roundOf:=none }
 have henter:Frame.enter P f args .normal=b.atR { tmps:=args++Array.replicate (fn.ntmps-args.size) undef,defers:=[] } [.code c]:=by
  simp[Frame.enter,Frame.atR,hf,hb,b]
 obtain⟨e,a',w',hq,harr⟩:=h b [] cs hro.symm hF hr
 rw[←henter]at harr
 cases e with
 | normal =>
   obtain⟨e',w'',fr',hR,hs,hfn,hl⟩:=rO a'.defers w' { b.atR a' []with mode:=.returning } cs rfl rfl rfl hf rfl hF hr hq
   exact⟨e',w'',fr',hR,ComesIn.of_steps (StepsIn.trans harr (.one (fenced_calm (fr:=b.atR a' []) hF hr rfl) (stepR_end rfl))) hs,hfn,hl⟩
 | ret =>
   obtain⟨todo,hs₀⟩:=harr.1 rfl
   obtain⟨e',w'',fr',hR,hs,hfn,hl⟩:=rO a'.defers w' { b.atR a' todo with mode:=.returning } cs rfl rfl rfl hf rfl hF hr hq
   exact⟨e',w'',fr',hR,ComesIn.of_steps hs₀ hs,hfn,hl⟩
 | panic chain=>exact hq.elim
 | exit id=>exact hq.elim
 | goto l=>exact hq.elim
 | outgrown=>exact hq.elim
variable {P:Program} {B:Base} {F:Nat→Prop} {w:World} {H:Hp} {env:aD} {a:Act}

theorem mV {α β:Type} {f:α→Option β}:∀ {l:List α} {r:List β},l.mapM f=some r→r.length=l.length∧∀ (i:Nat) (y:β),r[i]?=some y→∃ x,l[i]?=some x∧f x=some y:=by
 intro l
 induction l with
 | nil=>intro r h;simp at h;subst h;simp
 | cons x l ih =>
   intro r h
   rw[List.mapM_cons]at h
   cases hx:f x with
   | none=>rw[hx]at h;simp at h
   | some y =>
     rw[hx]at h
     cases hl:l.mapM f with
     | none=>rw[hl]at h;simp at h
     | some ys =>
       rw[hl]at h
       simp at h
       subst h
       obtain⟨h1,h2⟩:=ih hl
       refine⟨by simp[h1],fun i z hz=>?_⟩
       cases i with
       | zero=>simp at hz;subst hz;exact⟨x,rfl,hx⟩
       | succ i=>exact h2 i z (by simpa using hz)

theorem fG {ops:Array Oper} {i:Nat} {o:Oper} {d:DOper} (ho:ops[i]?=some o) (h:wE P ops o=some d):Reads P ops i d:=by
 unfold wE at h
 split at h
 ·simp at h
 ·rename_i hnd
  refine⟨o,ho,?_⟩
  split at h
  ·rename_i hg
   simp only[oSI]at h
   subst h
   exact⟨rfl,by simp[hg],.inl rfl,hnd⟩
  ·rename_i j want hg
   split at h
   ·rename_i t ht
    simp only[oSI]at h
    subst h
    exact⟨rfl,by simp only[hg];exact⟨t,ht,rfl⟩,.inl rfl,hnd⟩
   ·simp at h

theorem pZ {ops:Array Oper} {l:List DOper} (h:aKs P ops=some l):l.length=ops.size∧∀ i d,l[i]?=some d→Reads P ops i d:=by
 unfold aKs at h
 obtain⟨h1,h2⟩:=mV h
 refine⟨by simpa using h1,fun i d hd=>?_⟩
 obtain⟨o,h3,h4⟩:=h2 i d hd
 exact fG (by simpa using h3) h4

def aDN (N:Nat) (d:DOper):Prop:=(∀ k,d.dst=some k→k<N)∧d.op.isComm=false
theorem pY {N:Nat} {l:List DOper} (h:aGr N l=true):∀ d∈l,∀ k,d.dst=some k→k<N:=by
 intro d hd k hk
 unfold aGr at h
 rw[List.all_eq_true]at h
 have:=h d hd
 rw[hk]at this
 simpa using this

def Ends (N:Nat) (a:Act) (F:Nat→Prop) (w:World) (H:Hp) (K:aD→Hp→Prop) (Q:Act→World→Prop):Prop :=
 ∀ a' F' w' env' H',a'.tmps.size=N→a'.defers=a.defers→Ext F w H F' w' H'→St F' w' H'→RE F' w' env' a'→K env' H'→Q a' w'

theorem Base.Up.step {F':Nat→Prop} {w':World} {H':Hp} (hB:B.Up F w) (st:St F w H) (h:Ext F w H F' w' H'):B.Up F' w':=Go.DL.Up.trans hB (h.up st)

theorem Ends.step {N:Nat} {K:aD→Hp→Prop} {Q:Act→World→Prop} {a':Act} {F':Nat→Prop} {w':World} {H':Hp} (h:Ends N a F w H K Q) (hd:a'.defers=a.defers) (he:Ext F w H F' w' H') :
 Ends N a' F' w' H' K Q:=fun a'' F'' w'' env'' H'' h1 h2 h3 h4 h5 h6=>h a'' F'' w'' env'' H'' h1 (h2.trans hd) (he.trans h3) h4 h5 h6

theorem yJ {ops:Array Oper} {r:Option Nat} {N:Nat} {Q:Exit→Act→World→Prop} {K:aD→Hp→Prop}:∀ (l:List DOper) (i:Nat),(∀ j d,l[j]?=some d→Reads P ops (i+j) d)→(∀ d∈l,aDN N d) →
 ∀ (F:Nat→Prop) (w:World) (H:Hp) (env:aD) (a:Act),a.tmps.size=N→B.Up F w→St F w H→RE F w env a→RS B P l K env H→Ends N a F w H K (Q .normal) →
 wpOpsIn (FW r) 0 P ops Q (List.range' i l.length) a w:=by
 intro l
 induction l with
 | nil=>intro i _ _ F w H env a hsz hB st re h hQ;exact hQ a F w env H hsz rfl (Ext.refl _ _ _) st re h
 | cons d l ih =>
   intro i hr hd F w H env a hsz hB st re h hQ
   rw[List.length_cons,List.range'_succ,wpOpsIn_cons]
   refine xP (hr 0 d rfl) (hd d (by simp)).2 (hd d (by simp)).1 hsz hB st re h ?_
   intro a' F' w' env' H' h1 h2 h3 h4 h5 h6
   exact ih (i+1) (fun j d' hj=>by have:=hr (j+1) d' (by simpa using hj);rwa [Nat.add_assoc,Nat.add_comm 1 j]) (fun d' hd'=>hd d' (by simp[hd'])) F' w' H' env' a' h1 (hB.step st h3) h4 h5 h6 (hQ.step h2 h3)

theorem aBx {es r:List (AV×AV)} {cap:Nat} {cl:Bool} (h:lT es=some (cap,cl,r)):es=hO cap cl::r:=by
 unfold lT at h
 split at h<;>simp only[oSI,Prod.mk.injEq,reduceCtorEq]at h<;>obtain⟨rfl,rfl,rfl⟩:=h<;>rfl

theorem uG (st:St F w H) {b:Nat} {p:Bool} {es r:List (AV×AV)} {cap:Nat} {cl:Bool} (hb:H b=some (.map p es)) (hc:lT es=some (cap,cl,r)) :
 ∃ buf s k tm,w.heap[b]?=some (.chan cap buf cl s k tm)∧r.length=buf.size∧∀ (i:Nat) (a:AV×AV) (x:Value),r[i]?=some a→buf[i]?=some x→Rv F w a.2 x:=by
 have he:=aBx hc
 obtain⟨o,ho,hr⟩:=st.blk b _ hb
 cases hr with
 | map p es m clock hl h =>
   exfalso
   subst he
   have h0:m[0]?=some (m[0]'(by simp at hl;omega)):=Array.getElem?_eq_getElem _
   exact aOz (h 0 _ _ rfl h0).1
 | chan p cap' cl' es' buf s k tm hl h =>
   simp only[List.cons.injEq,hO,Prod.mk.injEq,AV.fp.injEq,true_and]at he
   obtain⟨⟨rfl,hk⟩,rfl⟩:=he
   have:cl'=cl:=by cases cl<;>cases cl'<;>simp at hk<;>rfl
   subst this
   exact⟨buf,s,k,tm,ho,hl,h⟩

theorem aJO {o:Oper} {op:DOp} (h:bC P o=some op) (hc:op.isComm=true) :
 (∃ ch xa c x,o.op = .send ch xa∧co ch=some c∧co xa=some x∧op = .send c x) ∨
 (∃ t ch ok dir e c z,o.op = .recv t ch ok∧P.underlying t=some (.chan dir e)∧co ch=some c∧aFu P e=some z∧op = .recv ok z c):=by
 unfold bC at h
 cases ho:o.op with
 | send ch xa =>
   simp only[ho]at h
   split at h<;>simp only[oSI,reduceCtorEq]at h
   rename_i c x h1 h2
   exact .inl ⟨ch,xa,c,x,rfl,h1,h2,h.symm⟩
 | recv t ch ok =>
   simp only[ho]at h
   split at h
   ·rename_i dir e c h1 h2
    simp only[Option.map_eq_some_iff]at h
    obtain⟨z,h3,rfl⟩:=h
    exact .inr ⟨t,ch,ok,dir,e,c,z,rfl,h1,h2,h3,rfl⟩
   ·simp at h
 | unOp u t x=>exfalso;cases u<;>simp[ho]at h<;>(obtain⟨z,_,rfl⟩:=h;simp[DOp.isComm]at hc)
 | slice t x lo hi mx =>
   exfalso
   cases mx with
   | some m=>simp[ho]at h
   | none =>
     simp only[ho]at h
     split at h<;>(try simp only[Option.map_eq_some_iff,oSI,reduceCtorEq]at h)<;>(first|(obtain⟨z,_,rfl⟩:=h;simp[DOp.isComm]at hc;done)|(subst h;simp[DOp.isComm]at hc;done))
 | makeMap t r =>
   exfalso
   cases r with
   | some r=>simp[ho]at h
   | none=>simp only[ho,oSI]at h;subst h;simp[DOp.isComm]at hc
 | makeChan t s =>
   exfalso
   cases s with
   | const v =>
     cases v with
     | int k0 n0 =>
       cases n0 with
       | ofNat n =>
         simp only[ho]at h
         split at h
         ·split at h
          ·split at h<;>simp only[oSI,reduceCtorEq]at h
           subst h
           simp[DOp.isComm]at hc
          ·simp at h
         ·simp at h
       | negSucc n=>simp[ho]at h
     | _=>simp[ho]at h
   | _=>simp[ho]at h
 | binOp b t x y u =>
   exfalso
   simp only[ho]at h
   split at h
   ·split at h<;>(try simp only[Option.map_eq_some_iff,oSI,reduceCtorEq]at h)<;>(first|(obtain⟨z,_,rfl⟩:=h;simp[DOp.isComm]at hc;done)|(subst h;simp[DOp.isComm]at hc;done))
   ·simp at h
 | call c =>
   exfalso
   simp only[ho]at h
   by_cases hq:op.isQ=true
   ·cases op<;>simp[DOp.isComm]at hc<;>simp[DOp.isQ]at hq
   ·rcases mY h (by simpa using hq)with ⟨_,_,_,_,_,_,_,_,_,_,_,_,_,_,_,rfl⟩|⟨_,_,_,_,_,_,rfl⟩|⟨_,_,_,_,_,rfl⟩<;>simp[DOp.isComm]at hc
 | next x s =>
   exfalso
   cases s with
   | true=>simp only[ho,Option.map_eq_some_iff]at h;obtain⟨z,_,rfl⟩:=h;simp[DOp.isComm]at hc
   | false=>simp[ho]at h
 | _ =>
   exfalso
   simp only[ho]at h
   first
    | (simp at h;done)
    | (simp only[Option.map_eq_some_iff]at h;obtain⟨z,_,rfl⟩:=h;simp[DOp.isComm]at hc;done)
    | ((repeat' split at h)<;>(try simp only[Option.map_eq_some_iff,oSI,reduceCtorEq]at h)<;>(first|(obtain⟨z,_,rfl⟩:=h;simp[DOp.isComm]at hc;done)|(subst h;simp[DOp.isComm]at hc;done)))

theorem aHJ {t:TypeId} {z:AV} (h:aFu P t=some z):∃ i v,P.info? t=some i∧i.zero=some v∧Rv F w z v:=by
 unfold aFu at h
 split at h
 ·rename_i i hi
  split at h
  ·rename_i vs hv
   split at h<;>simp only[oSI,reduceCtorEq]at h
   rename_i ho
   subst h
   have:=yF (F:=F) (w:=w) ho
   exact⟨i,_,hi,hv,.agg _ _ this.len this.one this.at_⟩
  ·rename_i v _ hv
   split at h<;>simp only[oSI,reduceCtorEq]at h
   subst h
   exact⟨i,v,hi,hv,qK v⟩
  ·simp at h
 ·simp at h

theorem aFK {ok b:Bool} {v:AV} {x:Value} (h:Rv F w v x):Rv F w (aES ok v b) (Conc.got ok x b):=by
 cases ok with
 | false=>exact h
 | true =>
   refine .tup _ _ rfl fun i c v hc hv=>?_
   match i with
   | 0=>simp at hc hv;subst hc hv;exact h
   | 1=>simp at hc hv;subst hc hv;exact .bool b
   | i+2=>simp at hc

theorem vC (st:St F w H) {b:Nat} {es r r':List (AV×AV)} {cap:Nat} {cl cl':Bool} {buf buf':Array Value} {s k s' k':Nat} {tm:Bool} (hb:H b=some (.map true es)) (ho:w.heap[b]?=some (.chan cap buf cl s k tm))
 (hl:r'.length=buf'.size) (h:∀ (i:Nat) (a:AV×AV) (x:Value),r'[i]?=some a→buf'[i]?=some x→Rv F w a.2 x) :
 Ext F w H F (w.setChan b cap buf' cl' s' k' tm) (hset H b (.map true (hO cap cl'::r')))∧St F (w.setChan b cap buf' cl' s' k' tm) (hset H b (.map true (hO cap cl'::r'))) :=
 hM (w':=w.setChan b cap buf' cl' s' k' tm) (o':=.chan cap buf' cl' s' k' tm) st hb rfl ho rfl ⟨rfl,rfl,rfl⟩ (fun c e fr h=>by cases h) (fun F1 w1 hu=>.chan true cap cl' r' buf' s' k' tm hl fun i a x ha hx=>(h i a x ha hx).up hu)

theorem lK {ops:Array Oper} {r:Option Nat} {N:Nat} {Q:Exit→Act→World→Prop} {tl:List Nat} {K:aD→Hp→Prop}:∀ (l:List DOper) (i:Nat),(∀ j d,l[j]?=some d→Reads P ops (i+j) d) →
 (∀ d∈l,(∀ k,d.dst=some k→k<N)∧d.guard=none∧(d.op.isComm=true∨d.op.isQ=true)) →
 ∀ (F:Nat→Prop) (w:World) (H:Hp) (env:aD) (a:Act),a.tmps.size=N→B.Up F w→St F w H→RE F w env a→RS B P l K env H→Ends N a F w H K (fun a' w'=>OpsW (FW r) 0 P ops Q tl a' w') →
 OpsW (FW r) 0 P ops Q (List.range' i l.length++tl) a w:=by
 intro l
 induction l with
 | nil=>intro i _ _ F w H env a hsz hB st re h hQ;exact hQ a F w env H hsz rfl (Ext.refl _ _ _) st re h
 | cons d l ih =>
   intro i hr hd F w H env a hsz hB st re h hQ
   rw[List.length_cons,List.range'_succ,List.cons_append]
   obtain⟨hN,hg,hcq⟩:=hd d (by simp)
   obtain⟨o,ho,hdst,hguard,hop,hdef⟩:=(hr 0 d rfl).get
   rw[Nat.add_zero]at ho
   have hw:Region.wanted o (yielded ops a.tmps)=true:=by
    unfold Region.wanted
    split at hguard
    ·rename_i h1;rw[h1]
    ·obtain⟨g,_,h2⟩:=hguard;rw[hg]at h2;simp at h2
   have hput:∀ {F':Nat→Prop} {w':World} {v:AV} {c:Value},RE F' w' env a→Rv F' w' v c→RE F' w' (aP env d.dst v) (a.put o.dst c):=fun h1 h2=>by
    rw[←hdst];exact h1.put h2 (fun k hk=>by rw[hsz];exact hN k hk)
   have go:∀ {F':Nat→Prop} {w':World} {H':Hp} {v:AV} {c:Value},Ext F w H F' w' H'→St F' w' H'→Rv F' w' v c→RS B P l K (aP env d.dst v) H'→OpsW (FW r) 0 P ops Q (List.range' (i+1) l.length++tl) (a.put o.dst c) w':=by
    intro F' w' H' v c h1 h2 h3 h4
    exact ih (i+1) (fun j d' hj=>by have:=hr (j+1) d' (by simpa using hj);rwa [Nat.add_assoc,Nat.add_comm 1 j]) (fun d' hd'=>hd d' (by simp[hd'])) F' w' H' _ _ (by simp[hsz]) (hB.step st h1) h2 (hput (re.up (h1.up st)) h3) h4 (hQ.step (by simp) h1)
   have hab:=jE (P:=P) (w:=w) (a:=a) r o
   have hgd:gd d env=some true:=by unfold gd;rw[hg]
   simp only[RS,opW,hgd]at h
   have hcomp:comp P o=d.op:=by
    rcases hop with h1|⟨n,p,x,l,_,h2⟩|⟨q,f,xs,l,_,h2⟩
    ·exact h1
    ·rw[h2]at hcq;simp[DOp.isComm,DOp.isQ]at hcq
    ·rw[h2]at hcq;simp[DOp.isComm,DOp.isQ]at hcq
   have hc0:d.op ≠ .stuck→bC P o=some d.op:=fun hne=>by
    unfold comp at hcomp
    cases hx:bC P o with
    | none=>rw[hx]at hcomp;exact absurd hcomp.symm hne
    | some y=>rw[hx]at hcomp;simp at hcomp;rw[hcomp]
   have hsem:o.semAt (FW r).round a.eval=execOp a.eval o:=Oper.semAt_eq _ _ _ hdef
   rcases hcq with hcm|hq
   ·have hc:=hc0 (fun e=>by rw[e]at hcm;simp[DOp.isComm]at hcm)
    rcases aJO hc hcm with ⟨ch,xa,c,x,e1,e2,e3,e4⟩|⟨t,ch,ok,dir,e,c,z,e1,eu,e2,e3,e4⟩
    ·rw[e4]at h
     simp only[dY,bI]at h
     obtain⟨H',hs,hK⟩:=h
     have hcv:=aT re e2
     have hxv:=aT re e3
     unfold aAN at hs
     split at hs
     ·rename_i b hcb
      rw[hcb]at hcv
      obtain⟨vc,hvc⟩:∃ v,a.eval ch=v:=⟨_,rfl⟩
      rw[hvc]at hcv
      cases hcv
      split at hs
      ·rename_i es hH
       split at hs
       ·rename_i cap rr hch
        split at hs<;>simp only[oSI,reduceCtorEq]at hs
        rename_i hlt
        subst hs
        obtain⟨buf,s,k,tm,g1,g2,g3⟩:=uG st hH hch
        obtain⟨t1,t2⟩:=vC (cl':=false) (s':=s+1) (k':=k) (buf':=buf.push (a.eval xa)) (r':=rr++[(.nilifc,aG env x)]) (r:=rr) st hH g1 (by simp[g2]) (fun i a' y ha hy=>by
         rw[List.getElem?_append]at ha
         rw[Array.getElem?_push]at hy
         by_cases hi:i<rr.length
         ·rw[if_pos hi]at ha
          rw[if_neg (by omega)]at hy
          exact g3 i a' y ha hy
         ·rw[if_neg hi]at ha
          have hi0:i=rr.length:=by
           have:=(List.getElem?_eq_some_iff.1 ha).1
           simp at this;omega
          subst hi0
          rw[if_pos g2]at hy
          simp at ha hy
          subst ha hy
          exact hxv)
        refine OpsW.send ho hw hab (c:=b) (v:=a.eval xa) (z:=.tuple #[]) ?_ g1 (by omega) (go t1 t2 (.any _) hK)
        rw[hsem]
        simp only[execOp,e1,hvc,Sem.run_pure,Conc.scase]
       ·simp at hs
      ·simp at hs
     ·simp at hs
    ·rw[e4]at h
     simp only[dY,bI]at h
     obtain⟨R,hs,hK⟩:=h
     have hcv:=aT re e2
     obtain⟨ti,zv,hi,hz,hzr⟩:=aHJ (F:=F) (w:=w) e3
     unfold yK at hs
     split at hs
     ·rename_i b hcb
      rw[hcb]at hcv
      obtain⟨vc,hvc⟩:∃ v,a.eval ch=v:=⟨_,rfl⟩
      rw[hvc]at hcv
      cases hcv
      have hrun:(o.semAt (FW r).round a.eval).run P w = .ok (.comm #[Conc.rcase b zv] true (.recv ok)) w:=by
       rw[hsem]
       simp only[execOp,e1,hvc,Sem.run_bind,run_underlying eu,Result.andThen_ok,fU hi hz,Sem.run_pure,Conc.rcase]
      split at hs
      ·rename_i es hH
       split at hs
       ·rename_i cap cl k0 v0 rr hch
        simp only[oSI]at hs
        subst hs
        obtain⟨buf,s,k,tm,g1,g2,g3⟩:=uG st hH hch
        simp only[List.length_cons]at g2
        obtain⟨t1,t2⟩:=vC (cl':=cl) (s':=s) (k':=k+1) (buf':=buf.extract 1 buf.size) (r':=rr) (r:=rr) st hH g1 (by simp;omega) (fun i a' y ha hy=>by
         rw[Array.getElem?_extract]at hy
         split at hy
         ·exact g3 (i+1) a' y (by simpa using ha) (by rw[Nat.add_comm];exact hy)
         ·simp at hy)
        have h0:buf[0]?=some (buf.getD 0 undef):=by
         rw[Array.getD_eq_getD_getElem?,Array.getElem?_eq_getElem (by omega)];rfl
        have hv0:Rv F w v0 (buf.getD 0 undef):=g3 0 _ _ rfl h0
        exact OpsW.recvBuf ho hw hab hrun g1 (by omega) (go t1 t2 (aFK (hv0.up (t1.up st))) hK)
       ·rename_i cap hch
        simp only[oSI]at hs
        subst hs
        obtain⟨buf,s,k,tm,g1,g2,g3⟩:=uG st hH hch
        have hb0:buf = #[]:=Array.eq_empty_of_size_eq_zero (by simpa using g2.symm)
        subst hb0
        have hes:=aBx hch
        have hHH:hset H b (.map true [hO cap true])=H:=by
         funext j
         unfold hset
         split
         ·rename_i hj;subst hj;rw[hH,hes]
         ·rfl
        simp only[hHH]at hK
        exact OpsW.recvShut ho hw hab hrun g1 (go (Ext.refl _ _ _) st (aFK hzr) hK)
       ·simp at hs
      ·simp at hs
     ·simp at hs
   ·have hq0:=hq
    rw[kA hq,bI]at h
    obtain⟨e,he,h⟩:=h
    have hc:=hc0 (fun e=>by rw[e]at he;simp[aA]at he)
    have hs:=aRM (P:=P) st re hc he
    cases e with
    | val v =>
      obtain⟨c,h1,h2⟩:=hs
      exact OpsW.val ho hw hab (by rw[hsem];exact h1) (go (Ext.refl _ _ _) st h2 h)
    | new own x f =>
      obtain⟨j,c,w',h1,h2,h3,h4,h5⟩:=hs
      exact OpsW.val ho hw hab (by rw[hsem];exact h2) (go h3 h4 h5 (h j h1))

theorem Reads.congr {ops:Array Oper} {i:Nat} {d e:DOper} (h:Reads P ops i d) (h1:e.dst=d.dst) (h2:e.guard=d.guard) (h3:e.op=d.op∨(∃ n p x l l',d.op = .store n p x l∧e.op = .store n p x l')∨(∃ q q' f xs l l',d.op = .callf q f xs l∧e.op = .callf q' f xs l')):Reads P ops i e:=by
 obtain⟨o,ho,g1,g2,g3,g4⟩:=h.get
 refine⟨o,ho,h1.trans g1,by rw[h2];exact g2,?_,g4⟩
 rcases h3 with h3|⟨n,p,x,l,l',h3,h4⟩|⟨q,q',f,xs,l,l',h3,h4⟩
 ·rw[h3];exact g3
 ·rw[h3]at g3
  rw[h4]
  rcases g3 with g3|⟨n',p',x',l'',g3,g5⟩|⟨q,f,xs,l'',g3,g5⟩
  ·unfold comp at g3
   cases hc:bC P o with
   | none=>rw[hc]at g3;simp at g3
   | some y =>
     rw[hc]at g3;simp at g3;subst g3
     rcases iY hc rfl rfl with ⟨t,pa,xa,n',p',x',_,_,_,_,hh⟩|⟨t,m,k,xx,m',k',x',kt,e,_,_,_,_,_,⟨_,_,hh⟩|⟨_,hh⟩⟩|⟨_,_,_,_,hh⟩|⟨c,_,hh⟩
     ·simp only[DOp.store.injEq]at hh;obtain⟨rfl,rfl,rfl,rfl⟩:=hh
      exact .inr (.inl ⟨_,_,_,l',by unfold comp;rw[hc];rfl,rfl⟩)
     ·simp at hh
     ·simp at hh
     ·simp at hh
     ·rcases mY hh rfl with ⟨_,_,_,_,_,_,_,_,_,_,_,_,_,_,_,hh⟩|⟨_,_,_,_,_,_,hh⟩|⟨_,_,_,_,_,hh⟩<;>simp at hh
  ·simp only[DOp.store.injEq]at g5;obtain⟨rfl,rfl,rfl,_⟩:=g5
   exact .inr (.inl ⟨_,_,_,l',g3,rfl⟩)
  ·simp at g5
 ·rw[h3]at g3
  rw[h4]
  rcases g3 with g3|⟨n',p',x',l'',g3,g5⟩|⟨q1,f1,xs1,l'',g3,g5⟩
  ·unfold comp at g3
   cases hc:bC P o with
   | none=>rw[hc]at g3;simp at g3
   | some y =>
     rw[hc]at g3;simp at g3;subst g3
     rcases iY hc rfl rfl with ⟨t,pa,xa,n',p',x',_,_,_,_,hh⟩|⟨t,m,k,xx,m',k',x',kt,e,_,_,_,_,_,⟨_,_,hh⟩|⟨_,hh⟩⟩|⟨_,_,_,_,hh⟩|⟨c,_,hh⟩
     ·simp at hh
     ·simp at hh
     ·simp at hh
     ·simp at hh
     ·rcases mY hh rfl with ⟨_,_,_,_,_,_,_,_,_,_,_,_,_,_,_,hh⟩|⟨_,_,_,_,_,_,hh⟩|⟨_,_,_,_,_,hh⟩
      ·simp at hh
      ·simp only[DOp.callf.injEq]at hh;obtain⟨rfl,rfl,rfl,rfl⟩:=hh
       exact .inr (.inr ⟨q',_,_,l',by unfold comp;rw[hc];rfl,rfl⟩)
      ·simp only[DOp.callf.injEq]at hh;obtain⟨rfl,rfl,rfl,rfl⟩:=hh
       exact .inr (.inr ⟨q',_,_,l',by unfold comp;rw[hc];rfl,rfl⟩)
  ·simp at g5
  ·simp only[DOp.callf.injEq]at g5;obtain⟨_,rfl,rfl,_⟩:=g5
   exact .inr (.inr ⟨q',_,_,l',g3,rfl⟩)

theorem aCE {ops:Array Oper} {cl:List Nat} {b r:List DOper} {o:DOper} (h:Reads P ops o.ix o):Reads P ops (vL cl b r o).ix (vL cl b r o)∧(vL cl b r o).dst=o.dst:=by
 unfold vL
 simp only
 split
 ·rename_i n p x l hop
  exact⟨h.congr rfl rfl (.inr (.inl ⟨_,_,_,_,_,hop,rfl⟩)),rfl⟩
 ·rename_i q f xs l hop
  split
  ·exact⟨h.congr rfl rfl (.inr (.inr ⟨_,_,_,_,_,_,hop,rfl⟩)),rfl⟩
  ·exact⟨h.congr rfl rfl (.inr (.inr ⟨_,_,_,_,_,_,hop,rfl⟩)),rfl⟩
 ·exact⟨h,rfl⟩

theorem aEk {cl:List Nat} {b r:List DOper} {o:DOper}:(vL cl b r o).op.isComm=o.op.isComm:=by
 unfold vL
 simp only
 split
 ·rename_i h;rw[h];rfl
 ·rename_i h;rw[h];split<;>rfl
 ·rfl

theorem aHW {cl:List Nat}:∀ (l b:List DOper) (d:DOper),d∈aHX cl b l→∃ o b' r',o∈l∧d=vL cl b' r' o:=by
 intro l
 induction l with
 | nil=>intro b d h;simp[aHX]at h
 | cons o l ih =>
   intro b d h
   simp only[aHX,List.mem_cons]at h
   rcases h with rfl|h
   ·exact⟨o,b,l,by simp,rfl⟩
   ·obtain⟨o',b',r',h1,h2⟩:=ih _ d h
    exact⟨o',b',r',by simp[h1],h2⟩

theorem wF {N:Nat} {ops:Array Oper} {l:List DOper} (h:qA P N ops true=some l) :
 (∀ d∈l,Reads P ops d.ix d∧aDN N d)∧rE (ops.toList.map bK)=true∧tN (iO (ops.toList.map bK)) l=true∧l.length=ops.size∧yW (l.map (·.ix))=true ∧
 ∀ i,i<ops.size→i∈l.map (·.ix):=by
 unfold qA at h
 split at h
 ·simp at h
 ·rename_i l0 hl0
  obtain⟨hlen,hreads⟩:=pZ hl0
  split at h
  ·simp at h
  ·rename_i hdst
   simp only[Bool.not_eq_true',Bool.not_eq_false,Bool.and_eq_true]at hdst
   obtain⟨hdst,hcomm⟩:=hdst
   have hcomm:∀ o∈l0,o.op.isComm=false:=fun o ho=>by
    simp only[aFj,Bool.not_true,Bool.false_and,Bool.or_false,Bool.not_eq_true',List.any_eq_false]at hcomm
    simpa using hcomm o ho
   simp only[if_true]at h
   split at h
   ·rename_i hc
    simp only[oSI]at h
    simp only[Bool.and_eq_true,beq_iff_eq,List.all_eq_true,List.mem_range,List.contains_iff_mem]at hc
    obtain⟨⟨⟨⟨c1,c2⟩,c3⟩,c4⟩,c5⟩:=hc
    rw[h]at c2 c3 c4 c5
    refine⟨fun d hd=>?_,c1,c2,by simpa [hlen]using c3,c4,fun i hi=>c5 i (by omega)⟩
    rw[←h]at hd
    obtain⟨o,b',r',h1,h2⟩:=aHW _ _ _ hd
    unfold aGx at h1
    rw[List.mem_flatMap]at h1
    obtain⟨_,_,h1⟩:=h1
    have h3:o∈yV l0:=(List.mem_filter.1 h1).1
    unfold yV at h3
    rw[List.mem_map]at h3
    obtain⟨⟨o0,i⟩,h3,h4⟩:=h3
    have h5:l0[i]?=some o0:=by
     have:=List.mem_zipIdx h3
     simp at this
     rw[List.getElem?_eq_some_iff]
     exact⟨this.1,this.2.symm⟩
    have hro:Reads P ops o.ix o:=by
     subst h4
     exact(hreads i o0 h5).congr rfl rfl (.inl rfl)
    obtain⟨h6,h7⟩:=aCE (cl:=iO (ops.toList.map bK)) (b:=b') (r:=r') hro
    rw[h2]
    refine⟨h6,fun k hk=>?_,?_⟩
    ·rw[h7]at hk
     subst h4
     exact pY hdst o0 (List.mem_of_getElem? h5) k hk
    ·rw[aEk]
     subst h4
     exact hcomm o0 (List.mem_of_getElem? h5)
   ·simp at h

theorem lZ (afs:List (List Nat)) (S:Nat→Prop) (hS:∀ i,S i→∀ m∈afs.getD i [],S m) :
 ∀ i j,(∀ m∈afs.getD i [],S m)→((iO afs).getD i 0).testBit j=true→S j:=by
 have bits:∀ (acc:List Nat),(∀ i j,(∀ m∈afs.getD i [],S m)→(acc.getD i 0).testBit j=true→S j)→∀ (o:List Nat) (s:Nat) (j:Nat),(∀ m∈o,S m) →
  (o.foldl (fun s j=>s|||(2^j|||acc.getD j 0)) s).testBit j=true→s.testBit j=true∨S j:=by
  intro acc hacc o
  induction o with
  | nil=>intro s j _ h;exact .inl h
  | cons m o ih =>
    intro s j ho h
    rw[List.foldl_cons]at h
    rcases ih _ j (fun m hm=>ho m (by simp[hm])) h with h1|h1
    ·rw[Nat.testBit_or,Nat.testBit_or,Bool.or_eq_true,Bool.or_eq_true]at h1
     rcases h1 with h1|h1|h1
     ·exact .inl h1
     ·right
      rw[Nat.testBit_two_pow]at h1
      have:m=j:=by simpa using h1
      rw[←this];exact ho m (by simp)
     ·right
      exact hacc m j (hS m (ho m (by simp))) h1
    ·exact .inr h1
 have main:∀ (rest:List (List Nat)) (acc:List Nat),(∀ k,rest.getD k []=afs.getD (acc.length+k) [])→(∀ i j,(∀ m∈afs.getD i [],S m)→(acc.getD i 0).testBit j=true→S j) →
  ∀ i j,(∀ m∈afs.getD i [],S m)→((rest.foldl (fun acc o=>acc++[o.foldl (fun s j=>s|||(2^j|||acc.getD j 0)) 0]) acc).getD i 0).testBit j=true→S j:=by
  intro rest
  induction rest with
  | nil=>intro acc _ hacc;exact hacc
  | cons o rest ih =>
    intro acc hr hacc
    rw[List.foldl_cons]
    refine ih _ (fun k=>?_) fun i j hi hb=>?_
    ·have:=hr (k+1)
     simp only[List.getD_cons_succ]at this
     rw[this,List.length_append,List.length_singleton,Nat.add_assoc,Nat.add_comm 1 k]
    ·by_cases h1:i<acc.length
     ·refine hacc i j hi ?_
      rwa [List.getD_eq_getElem?_getD,List.getElem?_append_left h1,←List.getD_eq_getElem?_getD]at hb
     ·by_cases h2:i=acc.length
      ·subst h2
       rw[List.getD_eq_getElem?_getD,List.getElem?_append_right (Nat.le_refl _)]at hb
       simp only[Nat.sub_self,List.getElem?_cons_zero,Option.getD_some]at hb
       have ho:∀ m∈o,S m:=by
        have:=hr 0
        simp only[List.getD_cons_zero,Nat.add_zero]at this
        rw[this];exact hi
       rcases bits acc hacc o 0 j ho hb with h3|h3
       ·simp at h3
       ·exact h3
      ·exfalso
       rw[List.getD_eq_getElem?_getD,List.getElem?_eq_none (by simp;omega)]at hb
       simp at hb
 exact main afs [] (fun k=>by simp) fun i j _ hb=>by simp at hb

theorem tR:∀ {l:List Nat},yW l=true→l.Nodup:=by
 intro l
 induction l with
 | nil=>intro _;simp
 | cons x r ih =>
   intro h
   simp only[yW,Bool.and_eq_true,Bool.not_eq_true',List.contains_eq_mem,decide_eq_false_iff_not]at h
   exact List.nodup_cons.2 ⟨h.1,ih h.2⟩

def aAl (cl:List Nat) (x y:DOper):Prop:=(cl.getD y.ix 0).testBit x.ix=true∨lV x y=true
theorem iF {cl:List Nat}:∀ {l:List DOper},tN cl l=true→l.Pairwise (aAl cl):=by
 intro l
 induction l with
 | nil=>intro _;simp
 | cons x r ih =>
   intro h
   simp only[tN,Bool.and_eq_true,List.all_eq_true,Bool.or_eq_true]at h
   exact List.pairwise_cons.2 ⟨fun y hy=>(h.1 y hy).2,ih h.2⟩

theorem aFa:∀ (l:List DOper),l≠[]→∃ y∈l,∀ z∈l,y.ix≤z.ix:=by
 intro l
 induction l with
 | nil=>intro h;exact absurd rfl h
 | cons x r ih =>
   intro _
   by_cases hr:r=[]
   ·subst hr;exact⟨x,by simp,by simp⟩
   ·obtain⟨y,h1,h2⟩:=ih hr
    by_cases hxy:x.ix≤y.ix
    ·exact⟨x,by simp,fun z hz=>by
      rcases List.mem_cons.1 hz with rfl|hz
      ·exact Nat.le_refl _
      ·exact Nat.le_trans hxy (h2 z hz)⟩
    ·exact⟨y,by simp[h1],fun z hz=>by
      rcases List.mem_cons.1 hz with rfl|hz
      ·omega
      ·exact h2 z hz⟩

structure Drawn (P:Program) (N:Nat) (ops:Array Oper) (l:List DOper) (listed:Array Bool):Prop where
 reads:∀ y∈l,Reads P ops y.ix y∧aDN N y
 open_:∀ y∈l,listed.getD y.ix true=false
 all:∀ i,listed.getD i true=false→∃ y∈l,y.ix=i
 nodup:(l.map (·.ix)).Nodup
 pairs:l.Pairwise (aAl (iO (ops.toList.map bK)))
 closed:∀ i,listed.getD i false=true→∀ m∈(ops.toList.map bK).getD i [],listed.getD m false=true
 size:listed.size=ops.size

theorem aGz {ops:Array Oper} {i:Nat} {o:Oper} (h:ops[i]?=some o):(ops.toList.map bK).getD i []=bK o:=by
 rw[List.getD_eq_getElem?_getD,List.getElem?_map,Array.getElem?_toList,h]
 rfl

theorem vU {o:Oper} {m:Nat}:m∈bK o↔∃ e∈o.after,Region.binds .any e=true∧e.on=m:=by
 unfold bK
 simp only[List.mem_map,List.mem_filter,Array.mem_toList_iff]
 constructor
 ·rintro ⟨e,⟨h1,h2⟩,h3⟩;exact⟨e,h1,h2,h3⟩
 ·rintro ⟨e,h1,h2,h3⟩;exact⟨e,⟨h1,h2⟩,h3⟩

theorem nQ {ops:Array Oper} {j:Nat} {listed:Array Bool}:j∈Region.ready .any ops listed ↔
 listed.getD j true=false∧j<ops.size∧∀ m∈(ops.toList.map bK).getD j [],listed.getD m false=true:=by
 rw[mem_ready]
 constructor
 ·rintro ⟨h1,o,ho,h2⟩
  refine⟨h1,(Array.getElem?_eq_some_iff.1 ho).1,fun m hm=>?_⟩
  rw[aGz ho,vU]at hm
  obtain⟨e,h3,h4,rfl⟩:=hm
  exact h2 e h3 h4
 ·rintro ⟨h1,hlt,h2⟩
  have ho:ops[j]?=some ops[j]:=Array.getElem?_eq_getElem hlt
  refine⟨h1,ops[j],ho,fun e he hb=>h2 _ ?_⟩
  rw[aGz ho,vU]
  exact⟨e,he,hb,rfl⟩

theorem uV {listed:Array Bool} {i:Nat} (h:i<listed.size):listed.getD i true=listed.getD i false:=by
 simp[h]

theorem Drawn.ready_ne {N:Nat} {ops:Array Oper} {l:List DOper} {listed:Array Bool} (hd:Drawn P N ops l listed) (ha:rE (ops.toList.map bK)=true) (hl:l≠[]):Region.ready .any ops listed≠[]:=by
 obtain⟨y,hy,hmin⟩:=aFa l hl
 obtain⟨o,ho,_⟩:=(hd.reads y hy).1.get
 have hlt:y.ix<ops.size:=(Array.getElem?_eq_some_iff.1 ho).1
 have:y.ix∈Region.ready .any ops listed:=by
  rw[nQ]
  refine⟨hd.open_ y hy,hlt,fun m hm=>?_⟩
  have hm':m<y.ix:=by
   unfold rE at ha
   rw[List.all_eq_true]at ha
   have:=ha y.ix (by simp[hlt])
   rw[List.all_eq_true]at this
   simpa using this m hm
  rw[←uV (by rw[hd.size];omega)]
  cases hx:listed.getD m true with
  | true=>rfl
  | false =>
    obtain⟨z,hz,hzm⟩:=hd.all m hx
    have:=hmin z hz
    omega
 intro hnil
 rw[hnil]at this
 simp at this

theorem aEA {ops:Array Oper} {r:Option Nat} {N:Nat} {Q:Exit→Act→World→Prop} {K:aD→Hp→Prop} (ha:rE (ops.toList.map bK)=true) :
 ∀ (fuel:Nat) (l:List DOper) (listed:Array Bool) (F:Nat→Prop) (w:World) (H:Hp) (env:aD) (a:Act) (L:sP),l.length≤fuel→Drawn P N ops l listed→(∀ o∈l,L o.ix=none) →
   a.tmps.size=N→B.Up F w→St F w H→RE F w env a→RD B P l K env H L→Ends N a F w H K (Q .normal)→wpAnyIn (FW r) 0 P .any ops Q fuel listed a w:=by
 intro fuel
 induction fuel with
 | zero =>
   intro l listed F w H env a L hl hd _ hsz hB st re h hQ
   have hnil:l=[]:=List.length_eq_zero_iff.1 (by omega)
   subst hnil
   refine⟨?_,hQ a F w env H hsz rfl (Ext.refl _ _ _) st re h⟩
   cases hr:Region.ready .any ops listed with
   | nil=>rfl
   | cons i rs =>
     have hi:i∈Region.ready .any ops listed:=by rw[hr];simp
     obtain⟨y,hy,_⟩:=hd.all i (nQ.1 hi).1
     simp at hy
 | succ fuel ih =>
   intro l listed F w H env a L hl hd hL hsz hB st re h hQ
   refine⟨fun hr=>?_,fun i hi=>?_⟩
   ·have hnil:l=[]:=by
     cases l with
     | nil=>rfl
     | cons x r=>exact absurd hr (hd.ready_ne ha (by simp))
    subst hnil
    exact hQ a F w env H hsz rfl (Ext.refl _ _ _) st re h
   ·obtain⟨h1,hlt,h2⟩:=nQ.1 hi
    obtain⟨y,hy,rfl⟩:=hd.all i h1
    obtain⟨pre,post,rfl⟩:=List.append_of_mem hy
    have hsw:∀ x∈pre,lV x y=true:=fun x hx=>by
     have hp:=(List.pairwise_append.1 hd.pairs).2.2 x hx y (by simp)
     rcases hp with hp|hp
     ·exfalso
      have:=lZ _ (fun i=>listed.getD i false=true) hd.closed y.ix x.ix h2 hp
      have hx':=hd.open_ x (by simp[hx])
      have hxl:x.ix<listed.size:=by
       obtain⟨o,ho,_⟩:=(hd.reads x (by simp[hx])).1.get
       rw[hd.size];exact(Array.getElem?_eq_some_iff.1 ho).1
      rw[uV hxl,this]at hx'
      simp at hx'
     ·exact hp
    have hp:=aSa pre env H L st.fin hsw hd.nodup hL h
    refine xP (hd.reads y hy).1 (hd.reads y hy).2.2 (hd.reads y hy).2.1 hsz hB st re (aFX hp) ?_
    rintro a' F' w' env' H' k1 k2 k3 k4 k5 ⟨L',k6,k7⟩
    have hsub:(pre++post).Sublist (pre++y::post):=List.Sublist.append_left (List.sublist_cons_self _ _) _
    have hnd:∀ z∈pre++post,z.ix≠y.ix:=by
     intro z hz e
     have hn:=hd.nodup
     rw[List.map_append,List.map_cons,List.nodup_append]at hn
     rcases List.mem_append.1 hz with hz|hz
     ·exact hn.2.2 z.ix (List.mem_map_of_mem hz) y.ix (by simp) e
     ·exact(List.nodup_cons.1 hn.2.1).1 (by rw[←e];exact List.mem_map_of_mem hz)
    refine ih (pre++post) _ F' w' H' env' a' L' (by simp at hl ⊢;omega) ⟨fun z hz=>hd.reads z (hsub.mem hz),fun z hz=>?_,fun j hj=>?_,hd.nodup.sublist (hsub.map _),hd.pairs.sublist hsub,fun j hj m hm=>?_,by simp[hd.size]⟩
     (fun z hz=>by rw[k6 _ (hnd z hz)];exact hL z (hsub.mem hz)) k1 (hB.step st k3) k4 k5 k7 (hQ.step k2 k3)
    ·rw[getD_set_ne true (Ne.symm (hnd z hz))];exact hd.open_ z (hsub.mem hz)
    ·by_cases hjy:j=y.ix
     ·subst hjy
      have:y.ix<listed.size:=by rw[hd.size];exact hlt
      simp[this]at hj
     ·rw[getD_set_ne true (Ne.symm hjy)]at hj
      obtain⟨z,hz,hzj⟩:=hd.all j hj
      refine⟨z,?_,hzj⟩
      simp only[List.mem_append,List.mem_cons]at hz ⊢
      rcases hz with hz|rfl|hz
      ·exact .inl hz
      ·exact absurd hzj.symm hjy
      ·exact .inr hz
    ·by_cases hjy:j=y.ix
     ·subst hjy;exact getD_set_true (h2 m hm)
     ·rw[getD_set_ne false (Ne.symm hjy)]at hj
      exact getD_set_true (hd.closed j hj m hm)

theorem iE {ops:Array Oper} {r:Option Nat} {N:Nat} {draw:Bool} {id:Nat} {l:List DOper} {Q:Exit→Act→World→Prop} {K:aD→Hp→Prop} (hm:P.follows .mixedOrders=true)
 (hc:qA P N ops draw=some l) (hsz:a.tmps.size=N) (hB:B.Up F w) (st:St F w H) (re:RE F w env a)
 (h:if draw then RD B P l K env H noL else RS B P l K env H) (hQ:Ends N a F w H K (Q .normal)):(Code.region id ops draw).wpIn (FW r) 0 P Q a w:=by
 cases draw with
 | false =>
   unfold qA at hc
   split at hc
   ·simp at hc
   ·rename_i l0 hl0
    obtain⟨hlen,hreads⟩:=pZ hl0
    split at hc
    ·simp at hc
    ·rename_i hdst
     simp only[Bool.not_eq_true',Bool.not_eq_false,Bool.and_eq_true]at hdst
     obtain⟨hdst,hcomm⟩:=hdst
     simp only[Bool.false_eq_true,if_false,oSI]at hc
     subst hc
     unfold aFj at hcomm
     rw[Bool.or_eq_true]at hcomm
     rcases hcomm with hcomm|hcomm
     ·have hcomm:∀ o∈l0,o.op.isComm=false:=fun o ho=>by
       simp only[Bool.not_eq_true',List.any_eq_false]at hcomm
       simpa using hcomm o ho
      refine wpIn_region ?_
      rw[←hlen,List.range_eq_range']
      exact yJ l0 0 (fun j d hj=>by rw[Nat.zero_add];exact hreads j d hj) (fun d hd=>⟨pY hdst d hd,hcomm d hd⟩) F w H env a hsz hB st re h hQ
     ·simp only[Bool.not_false,Bool.true_and,List.all_eq_true,Bool.and_eq_true,Bool.or_eq_true,Option.isNone_iff_eq_none]at hcomm
      refine OpsW.region ?_
      have:=lK (r:=r) (Q:=Q) (tl:=[]) l0 0 (fun j d hj=>by rw[Nat.zero_add];exact hreads j d hj) (fun d hd=>⟨pY hdst d hd,hcomm d hd⟩) F w H env a hsz hB st re h (fun a' F' w' env' H' h1 h2 h3 h4 h5 h6=>OpsW.of (hQ a' F' w' env' H' h1 h2 h3 h4 h5 h6))
      rw[List.append_nil]at this
      rw[←hlen,List.range_eq_range']
      exact this
 | true =>
   obtain⟨c1,c2,c3,c4,c5,c6⟩:=wF hc
   refine wpIn_region_any hm ?_
   have hlist:∀ i,(Array.replicate ops.size false).getD i true=false↔i<ops.size:=fun i=>by
    by_cases h:i<ops.size<;>simp[h]
   refine aEA c2 ops.size l _ F w.drew H env a noL (by omega) ⟨c1,fun y hy=>?_,fun i hi=>?_,tR c5,iF c3,fun i hi=>?_,by simp⟩ (fun _ _=>rfl) hsz
    (hB.step st (fY F w H)) (sW st) (re.up ((fY F w H).up st)) h (hQ.step rfl (fY F w H))
   ·obtain⟨o,ho,_⟩:=(c1 y hy).1.get
    exact(hlist _).2 (Array.getElem?_eq_some_iff.1 ho).1
   ·have:=c6 i ((hlist i).1 hi)
    rw[List.mem_map]at this
    exact this
   ·exfalso
    simp only[Array.getD_eq_getD_getElem?,Array.getElem?_replicate]at hi
    split at hi<;>simp at hi

variable {P:Program} {B:Base} {F:Nat→Prop} {w:World} {H:Hp} {env:aD} {a:Act}

def Mk1 (n0:Nat) (F:Nat→Prop) (H:Hp) (w:World) (d:Deferred):Prop:=∃ D,d={ target:=.collected D,args := #[] }∧n0≤D∧w.heap[D]?=some (.deferred (some []))∧¬F D∧H D=none
structure Mk (n0:Nat) (T:List Deferred) (F:Nat→Prop) (H:Hp) (w:World) (ds:List Deferred):Prop where
 ex:∃ ms,ds=ms++T∧ms.Nodup∧∀ d∈ms,Mk1 n0 F H w d

theorem Mk.ext {n0:Nat} {T ds:List Deferred} {F':Nat→Prop} {w':World} {H':Hp} (h:Mk n0 T F H w ds) (he:Ext F w H F' w' H'):Mk n0 T F' H' w' ds:=by
 obtain⟨ms,e,hn,hm⟩:=h.ex
 refine⟨ms,e,hn,fun d hd=>?_⟩
 obtain⟨D,h1,h2,h3,h4,h5⟩:=hm d hd
 have hlt:D<w.heap.size:=(Array.getElem?_eq_some_iff.1 h3).1
 refine⟨D,h1,h2,by rw[he.same D hlt (by simp[oM,h5])];exact h3,fun h6=>?_,?_⟩
 ·rcases he.fnew D h6 with h7|h7|h7
  ·exact h4 h7
  ·simp[h5]at h7
  ·omega
 ·cases hx:H' D with
  | none=>rfl
  | some x =>
    rcases he.hdom D (by simp[hx])with h7|h7
    ·simp[h5]at h7
    ·omega
theorem Mk.nil {n0:Nat} {T:List Deferred}:Mk n0 T F H w T:=⟨[],rfl,List.nodup_nil,fun d hd=>by simp at hd⟩
theorem Mk.sub {n0:Nat} {T ds:List Deferred} {H':Hp} (h:Mk n0 T F H w ds) (hs:∀ b x,H' b=some x→H b=some x):Mk n0 T F H' w ds:=by
 obtain⟨ms,e,hn,hm⟩:=h.ex
 refine⟨ms,e,hn,fun d hd=>?_⟩
 obtain⟨D,h1,h2,h3,h4,h5⟩:=hm d hd
 refine⟨D,h1,h2,h3,h4,?_⟩
 cases hx:H' D with
 | none=>rfl
 | some x=>rw[hs D x hx]at h5;simp at h5
theorem Mk.cons {n0 D:Nat} {T ds:List Deferred} (h:Mk n0 T F H w ds) (hn:∀ d,Mk1 n0 F H w d→d≠{ target:=.collected D,args := #[] }) {F':Nat→Prop} {w':World} {H':Hp} (he:Ext F w H F' w' H')
 (h1:Mk1 n0 F' H' w' { target:=.collected D,args := #[] }):Mk n0 T F' H' w' ({ target:=.collected D,args := #[] }::ds):=by
 obtain⟨ms,rfl,hnd,hm⟩:=h.ex
 obtain⟨ms',e',hnd',hm'⟩:=(h.ext he).ex
 have:ms'=ms:=by simpa using e'.symm
 subst this
 refine⟨{ target:=.collected D,args := #[] }::ms',rfl,List.nodup_cons.2 ⟨fun hd=>hn _ (hm _ hd) rfl,hnd⟩,fun d hd=>?_⟩
 rcases List.mem_cons.1 hd with rfl|hd
 ·exact h1
 ·exact hm' d hd

inductive DX where
 | normal
 | exit (id:Nat)
 | ret
abbrev QC:=DX→aD→Hp→Prop

def Land (N n0:Nat) (T:List Deferred) (F:Nat→Prop) (w:World) (H:Hp) (Q:QC):Exit→Act→World→Prop:=fun e a' w' =>
 ∃ x env' F' H',(match e with | .normal=>x=DX.normal | .exit id=>x = .exit id | .ret=>x = .ret|_=>False) ∧
   a'.tmps.size=N∧Ext F w H F' w' H'∧St F' w' H'∧RE F' w' env' a'∧Mk n0 T F' H' w' a'.defers∧Q x env' H'

def W (B:Base) (P:Program) (r:Option Nat) (N:Nat) (c:Code) (Q:QC) (env:aD) (H:Hp):Prop :=
 ∀ (F:Nat→Prop) (w:World) (a:Act) (n0:Nat) (T:List Deferred),B.Up F w→n0≤w.heap.size→a.tmps.size=N→St F w H→RE F w env a→Mk n0 T F H w a.defers→c.wpIn (FW r) 0 P (Land N n0 T F w H Q) a w

variable {r:Option Nat} {N:Nat} {Q Q':QC} {n0:Nat} {T:List Deferred}

theorem Land.mono (h:∀ e env H,Q e env H→Q' e env H) {e:Exit} {a':Act} {w':World} (hl:Land N n0 T F w H Q e a' w'):Land N n0 T F w H Q' e a' w':=by
 obtain⟨x,env',F',H',h1,h2,h3,h4,h5,h6,h7⟩:=hl
 exact⟨x,env',F',H',h1,h2,h3,h4,h5,h6,h _ _ _ h7⟩

theorem Land.step {F':Nat→Prop} {w':World} {H':Hp} (he:Ext F w H F' w' H') {e:Exit} {a':Act} {w'':World} (hl:Land N n0 T F' w' H' Q e a' w''):Land N n0 T F w H Q e a' w'':=by
 obtain⟨x,env',F'',H'',h1,h2,h3,h4,h5,h6,h7⟩:=hl
 exact⟨x,env',F'',H'',h1,h2,he.trans h3,h4,h5,h6,h7⟩

theorem W.mono {c:Code} (h:W B P r N c Q env H) (hq:∀ e env H,Q e env H→Q' e env H):W B P r N c Q' env H :=
 fun F w a n0 T h1 h2 h3 h4 h5 h6=>wpIn_mono (h F w a n0 T h1 h2 h3 h4 h5 h6) fun _ _ _=>Land.mono hq

theorem qR {x:DX} {e:Exit} (hx:match e with | .normal=>x=DX.normal | .exit id=>x = .exit id | .ret=>x = .ret|_=>False) (h3:a.tmps.size=N) (h4:St F w H) (h5:RE F w env a) (h6:Mk n0 T F H w a.defers)
 (h:Q x env H):Land N n0 T F w H Q e a w:=⟨x,env,F,H,hx,h3,Ext.refl _ _ _,h4,h5,h6,h⟩

theorem W.skip (h:Q .normal env H):W B P r N .skip Q env H:=fun F w a n0 T h1 h2 h3 h4 h5 h6=>wpIn_skip (qR rfl h3 h4 h5 h6 h)
theorem W.label {l:Nat} (h:Q .normal env H):W B P r N (.label l) Q env H:=fun F w a n0 T h1 h2 h3 h4 h5 h6=>wpIn_label (qR rfl h3 h4 h5 h6 h)
theorem W.exit {id:Nat} (h:Q (.exit id) env H):W B P r N (.exit id) Q env H:=fun F w a n0 T h1 h2 h3 h4 h5 h6=>wpIn_exit (qR rfl h3 h4 h5 h6 h)
theorem W.ret (h:Q .ret env H):W B P r N .ret Q env H:=fun F w a n0 T h1 h2 h3 h4 h5 h6=>wpIn_ret (qR rfl h3 h4 h5 h6 h)

def QC.then (K:aD→Hp→Prop) (Q:QC):QC:=fun x env H=>match x with
 | .normal=>K env H
 | x=>Q x env H

theorem W.seq {x y:Code} (h:W B P r N x (QC.then (W B P r N y Q) Q) env H):W B P r N (.seq x y) Q env H:=by
 intro F w a n0 T h1 h2 h3 h4 h5 h6
 refine wpIn_seq (wpIn_mono (h F w a n0 T h1 h2 h3 h4 h5 h6) ?_)
 rintro e a' w' ⟨x,env',F',H',k1,k2,k3,k4,k5,k6,k7⟩
 cases e with
 | normal =>
   simp only at k1;subst k1
   exact wpIn_mono (k7 F' w' a' n0 T (h1.step h4 k3) (Nat.le_trans h2 k3.le) k2 k4 k5 k6) fun _ _ _=>Land.step k3
 | exit id=>simp only at k1;subst k1;exact⟨_,env',F',H',rfl,k2,k3,k4,k5,k6,k7⟩
 | ret=>simp only at k1;subst k1;exact⟨_,env',F',H',rfl,k2,k3,k4,k5,k6,k7⟩
 | goto l=>exact k1.elim
 | panic c=>exact k1.elim
 | outgrown=>exact k1.elim

theorem W.cond {c:Operand} {c':AO} {x y:Code} {t:Bool} (hc:co c=some c') (he:aG env c' = .bool t) (h:W B P r N (if t then x else y) Q env H):W B P r N (.cond c x y) Q env H:=by
 intro F w a n0 T h1 h2 h3 h4 h5 h6
 have hv:=aT h5 hc
 rw[he]at hv
 have:a.eval c = .bool t:=by
  generalize a.eval c=z at hv
  cases hv;rfl
 exact wpIn_cond this (h F w a n0 T h1 h2 h3 h4 h5 h6)

def QC.block (id:Nat) (Q:QC):QC:=fun x env H=>match x with
 | .exit j=>if j=id then Q .normal env H else Q (.exit j) env H
 | x=>Q x env H

theorem W.block {id:Nat} {x:Code} (h:W B P r N x (QC.block id Q) env H):W B P r N (.block id x) Q env H:=by
 intro F w a n0 T h1 h2 h3 h4 h5 h6
 refine wpIn_block (wpIn_mono (h F w a n0 T h1 h2 h3 h4 h5 h6) ?_)
 rintro e a' w' ⟨x,env',F',H',k1,k2,k3,k4,k5,k6,k7⟩
 cases e with
 | normal=>simp only at k1;subst k1;exact⟨_,env',F',H',rfl,k2,k3,k4,k5,k6,k7⟩
 | exit j =>
   simp only at k1;subst k1
   simp only[Exit.inBlock]
   by_cases hj:j=id
   ·simp only[QC.block,hj,if_true]at k7 ⊢;exact⟨_,env',F',H',rfl,k2,k3,k4,k5,k6,k7⟩
   ·simp only[QC.block,hj,if_false]at k7 ⊢;exact⟨_,env',F',H',rfl,k2,k3,k4,k5,k6,k7⟩
 | ret=>simp only at k1;subst k1;exact⟨_,env',F',H',rfl,k2,k3,k4,k5,k6,k7⟩
 | goto l=>exact k1.elim
 | panic c=>exact k1.elim
 | outgrown=>exact k1.elim

theorem W.loop {x:Code} (I:Nat→aD→Hp→Prop) {m:Nat} (hI:I m env H) (hr:∀ m env H,I m env H→W B P r N x (QC.then (fun env' H'=>∃ m',m'<m∧I m' env' H') Q) env H):W B P r N (.loop x) Q env H:=by
 intro F w a n0 T h1 h2 h3 h4 h5 h6
 let good:Nat→Act→World→Prop:=fun m a' w'=>∃ env' F' H',a'.tmps.size=N∧Ext F w H F' w' H'∧St F' w' H'∧RE F' w' env' a'∧Mk n0 T F' H' w' a'.defers∧I m env' H'
 have hex:∀ a' w',(∃ m,good m a' w')→∃ m,good m a' w'∧∀ k,good k a' w'→m≤k:=by
  intro a' w' ⟨m,hm⟩
  induction m using Nat.strongRecOn with
  | _ m ih =>
    by_cases hk:∃ k,k<m∧good k a' w'
    ·obtain⟨k,hk1,hk2⟩:=hk;exact ih k hk1 hk2
    ·exact⟨m,hm,fun k hk'=>Nat.le_of_not_lt fun hlt=>hk ⟨k,hlt,hk'⟩⟩
 let μ:Act→World→Nat:=fun a' w'=>open Classical in if h:∃ m,good m a' w' then (hex a' w' h).choose else 0
 have hμ:∀ a' w' (h:∃ m,good m a' w'),good (μ a' w') a' w'∧∀ k,good k a' w'→μ a' w'≤k:=fun a' w' h=>by
  have:μ a' w'=(hex a' w' h).choose:=by simp only[μ,dif_pos h]
  rw[this];exact(hex a' w' h).choose_spec
 refine wpIn_loop (fun a' w'=>∃ m,good m a' w') μ ⟨m,env,F,H,h3,Ext.refl _ _ _,h4,h5,h6,hI⟩ ?_
 intro a' w' hg
 obtain⟨env',F',H',k2,k3,k4,k5,k6,k7⟩:=(hμ a' w' hg).1
 refine wpIn_mono (hr _ env' H' k7 F' w' a' n0 T (h1.step h4 k3) (Nat.le_trans h2 k3.le) k2 k4 k5 k6) ?_
 rintro e a'' w'' ⟨x,env'',F'',H'',l1,l2,l3,l4,l5,l6,l7⟩
 cases e with
 | normal =>
   simp only at l1;subst l1
   obtain⟨m',hlt,hI'⟩:=l7
   have hg':good m' a'' w'':=⟨env'',F'',H'',l2,k3.trans l3,l4,l5,l6,hI'⟩
   exact⟨⟨m',hg'⟩,Nat.lt_of_le_of_lt ((hμ a'' w'' ⟨m',hg'⟩).2 m' hg') hlt⟩
 | exit j=>simp only at l1;subst l1;exact⟨_,env'',F'',H'',rfl,l2,k3.trans l3,l4,l5,l6,l7⟩
 | ret=>simp only at l1;subst l1;exact⟨_,env'',F'',H'',rfl,l2,k3.trans l3,l4,l5,l6,l7⟩
 | goto l=>exact l1.elim
 | panic c=>exact l1.elim
 | outgrown=>exact l1.elim

theorem gL {b:Frame} {k:List Item} {cs:List Frame} {c:Code}:step P (lone (b.atR a (.code (.scope c)::k)) cs w) = .next (lone (b.atR a (.code c :: .inScope c::k)) cs w) :=
 step_lone_go (by simp[stepG,stepG.exec,Frame.atR])
theorem aAp {b:Frame} {k:List Item} {cs:List Frame} {c:Code}:step P (lone (b.atR a (.inScope c::k)) cs w) = .next (lone (b.atR a k) cs w) :=
 step_lone_go (by simp[stepG,stepG.exec,Frame.atR])

theorem xG {F:Fence} {n:Nat} {Q:Exit→Act→World→Prop} {c:Code} (h:c.wpIn F n P (Exit.noGoto Q) a w):(Code.scope c).wpIn F n P Q a w:=by
 intro b k cs hro hb hr
 have h0:(lone (b.atR a (.code (.scope c)::k)) cs w).fenced P F:=fenced_calm hb hr rfl
 obtain⟨e,a₁,w₁,hq,harr⟩:=h b (.inScope c::k) cs hro hb hr
 cases e with
 | normal=>exact⟨.normal,a₁,w₁,hq,.head h0 gL (StepsIn.trans harr (.one (fenced_calm hb hr rfl) aAp))⟩
 | exit id =>
   have hx:exitTo id (.inScope c::k)=exitTo id k:=by simp[exitTo]
   exact⟨.exit id,a₁,w₁,hq,fun k' hk=>.head h0 gL (harr.1 k' (by rw[hx];exact hk)),
    fun hr' hk=>let ⟨k₁,h1,h2⟩:=harr.2 hr' (by rw[hx];exact hk); ⟨k₁,h1,.head h0 gL h2⟩⟩
 | goto l=>exact hq.elim
 | ret=>exact⟨_,a₁,w₁,hq,.of_steps (.one h0 gL) harr⟩
 | panic ch=>exact⟨_,a₁,w₁,hq,.of_steps (.one h0 gL) harr⟩
 | outgrown=>exact⟨_,a₁,w₁,hq,.of_steps (.one h0 gL) harr⟩

theorem W.scope {c:Code} (h:W B P r N c Q env H):W B P r N (.scope c) Q env H:=by
 intro F w a n0 T h1 h2 h3 h4 h5 h6
 refine xG (wpIn_mono (h F w a n0 T h1 h2 h3 h4 h5 h6) ?_)
 intro e a' w' hl
 cases e with
 | goto l=>obtain⟨x,_,_,_,k1,_⟩:=hl;exact k1.elim
 | normal=>exact hl
 | exit id=>exact hl
 | ret=>exact hl
 | panic c=>exact hl
 | outgrown=>exact hl

theorem W.region {id:Nat} {ops:Array Oper} {draw:Bool} {l:List DOper} (hm:P.follows .mixedOrders=true) (hc:qA P N ops draw=some l)
 (h:if draw then RD B P l (Q .normal) env H noL else RS B P l (Q .normal) env H):W B P r N (.region id ops draw) Q env H:=by
 intro F w a n0 T h1 h2 h3 h4 h5 h6
 refine iE hm hc h3 h1 h4 h5 h ?_
 intro a' F' w' env' H' k1 k2 k3 k4 k5 k6
 exact⟨.normal,env',F',H',rfl,k1,k3,k4,k5,by rw[k2];exact h6.ext k3,k6⟩

theorem W.le {env':aD} {c:Code} (hl:Le env env') (h:W B P r N c Q env' H):W B P r N c Q env H :=
 fun F w a n0 T h1 h2 h3 h4 h5 h6=>h F w a n0 T h1 h2 h3 h4 (h5.le hl) h6

def Shift (env:aD) (H:Hp) (env':aD) (H':Hp):Prop:=∀ (F:Nat→Prop) (w:World) (a:Act),St F w H→RE F w env a→∃ F',Ext F w H F' w H'∧St F' w H'∧RE F' w env' a

theorem Shift.le {env':aD} (h:Le env env'):Shift env H env' H:=fun F w a st re=>⟨F,Ext.refl _ _ _,st,re.le h⟩
theorem Shift.forget {H':Hp} (h:∀ b x,H' b=some x→H b=some x):Shift env H env H':=fun F w a st re=>⟨F,(Ext.refl _ _ _).forget h,st.forget h,re⟩
theorem Shift.trans {env' env'':aD} {H' H'':Hp} (h:Shift env H env' H') (k:Shift env' H' env'' H''):Shift env H env'' H'':=fun F w a st re=>by
 obtain⟨F',h1,h2,h3⟩:=h F w a st re
 obtain⟨F'',k1,k2,k3⟩:=k F' w a h2 h3
 exact⟨F'',h1.trans k1,k2,k3⟩

theorem W.shift {env':aD} {H':Hp} {c:Code} (hs:Shift env H env' H') (h:W B P r N c Q env' H'):W B P r N c Q env H:=by
 intro F w a n0 T h1 h2 h3 h4 h5 h6
 obtain⟨F',k1,k2,k3⟩:=hs F w a h4 h5
 exact wpIn_mono (h F' w a n0 T (h1.step h4 k1) h2 h3 k2 k3 (h6.ext k1)) fun _ _ _=>Land.step k1


def WD (B:Base) (P:Program) (r:Option Nat) (N:Nat) (dc:DCode) (Q:QC) (env:aD) (H:Hp):Prop :=
 ∀ c,cP P N c=some dc→W B P r N c Q env H

theorem WD.mono {c:DCode} (h:WD B P r N c Q env H) (hq:∀ e env H,Q e env H→Q' e env H):WD B P r N c Q' env H:=fun c hc=>(h c hc).mono hq
theorem WD.le {env':aD} {c:DCode} (hl:Le env env') (h:WD B P r N c Q env' H):WD B P r N c Q env H:=fun c hc=>(h c hc).le hl
theorem WD.shift {env':aD} {H':Hp} {c:DCode} (hs:Shift env H env' H') (h:WD B P r N c Q env' H'):WD B P r N c Q env H:=fun c hc=>(h c hc).shift hs
theorem WD.skip (h:Q .normal env H):WD B P r N .skip Q env H:=by
 intro c hc
 cases c<;>simp only[cP]at hc
 case skip=>exact W.skip h
 case label l=>exact W.label h
 all_goals exfalso;first|(simp at hc;done)|((repeat' split at hc)<;>simp at hc;done)
theorem WD.exit {id:Nat} (h:Q (.exit id) env H):WD B P r N (.exit id) Q env H:=by
 intro c hc
 cases c<;>simp only[cP]at hc
 case exit j=>simp only[oSI,DCode.exit.injEq]at hc;subst hc;exact W.exit h
 all_goals exfalso;first|(simp at hc;done)|((repeat' split at hc)<;>simp at hc;done)
theorem WD.ret (h:Q .ret env H):WD B P r N .ret Q env H:=by
 intro c hc
 cases c<;>simp only[cP]at hc
 case ret=>exact W.ret h
 all_goals exfalso;first|(simp at hc;done)|((repeat' split at hc)<;>simp at hc;done)
theorem WD.seq {x y:DCode} (h:WD B P r N x (QC.then (WD B P r N y Q) Q) env H):WD B P r N (.seq x y) Q env H:=by
 intro c hc
 cases c<;>simp only[cP]at hc
 case seq a b =>
  split at hc
  ·rename_i a' b' ha hb
   simp only[oSI,DCode.seq.injEq]at hc
   obtain⟨rfl,rfl⟩:=hc
   refine W.seq ((h a ha).mono fun e env H hq=>?_)
   cases e with
   | normal=>exact hq b hb
   | exit id=>exact hq
   | ret=>exact hq
  ·simp at hc
 all_goals exfalso;first|(simp at hc;done)|((repeat' split at hc)<;>simp at hc;done)
theorem WD.cond {o:AO} {x y:DCode} {t:Bool} (he:aG env o = .bool t) (h:WD B P r N (if t then x else y) Q env H):WD B P r N (.cond o x y) Q env H:=by
 intro c hc
 cases c<;>simp only[cP]at hc
 case cond o' a b =>
  split at hc
  ·rename_i o'' a' b' ho ha hb
   simp only[oSI,DCode.cond.injEq]at hc
   obtain⟨rfl,rfl,rfl⟩:=hc
   refine W.cond ho he ?_
   cases t with
   | true=>exact h a ha
   | false=>exact h b hb
  ·simp at hc
 all_goals exfalso;first|(simp at hc;done)|((repeat' split at hc)<;>simp at hc;done)
theorem WD.block {id:Nat} {x:DCode} (h:WD B P r N x (QC.block id Q) env H):WD B P r N (.block id x) Q env H:=by
 intro c hc
 cases c<;>simp only[cP]at hc
 case block j a =>
  split at hc
  ·rename_i a' ha
   simp only[oSI,DCode.block.injEq]at hc
   obtain⟨rfl,rfl⟩:=hc
   exact W.block (h a ha)
  ·simp at hc
 all_goals exfalso;first|(simp at hc;done)|((repeat' split at hc)<;>simp at hc;done)
theorem WD.loop {x:DCode} (I:Nat→aD→Hp→Prop) {m:Nat} (hI:I m env H) (hr:∀ m env H,I m env H→WD B P r N x (QC.then (fun env' H'=>∃ m',m'<m∧I m' env' H') Q) env H):WD B P r N (.loop x) Q env H:=by
 intro c hc
 cases c<;>simp only[cP]at hc
 case loop a =>
  split at hc
  ·rename_i a' ha
   simp only[oSI,DCode.loop.injEq]at hc
   subst hc
   exact W.loop I hI fun m env H hi=>hr m env H hi a ha
  ·simp at hc
 all_goals exfalso;first|(simp at hc;done)|((repeat' split at hc)<;>simp at hc;done)
theorem WD.scope {x:DCode} (h:WD B P r N x Q env H):WD B P r N (.scope x) Q env H:=by
 intro c hc
 cases c<;>simp only[cP]at hc
 case scope a =>
  split at hc
  ·rename_i a' ha
   simp only[oSI,DCode.scope.injEq]at hc
   subst hc
   exact W.scope (h a ha)
  ·simp at hc
 all_goals exfalso;first|(simp at hc;done)|((repeat' split at hc)<;>simp at hc;done)
theorem WD.reg {draw:Bool} {l:List DOper} (hm:P.follows .mixedOrders=true) (h:if draw then RD B P l (Q .normal) env H noL else RS B P l (Q .normal) env H):WD B P r N (.reg draw l) Q env H:=by
 intro c hc
 cases c<;>simp only[cP]at hc
 case region id ops d =>
  split at hc
  ·rename_i l' hl
   simp only[oSI,DCode.reg.injEq]at hc
   obtain⟨rfl,rfl⟩:=hc
   exact W.region hm hl h
  ·simp at hc
 all_goals exfalso;first|(simp at hc;done)|((repeat' split at hc)<;>simp at hc;done)

variable {P:Program} {B:Base} {F:Nat→Prop} {w:World} {H:Hp} {env:aD} {a:Act}

def yI (P:Program):ResultVar→Option (Nat×Option (Bool×Nat))
 | .tmp t=>some (t,none)
 | .cell a t=>match cR P t,iM P t with
   | some g,some n=>some (a,some (g,n))
   | _,_=>none
def pJ (env:aD) (H:Hp):Nat×Option (Bool×Nat)→Option AV
 | (t,none)=>some (env t)
 | (a,some (g,n))=>dX g n H (env a)
def pI (env:aD) (H:Hp):List (Nat×Option (Bool×Nat))→Option (List AV)
 | []=>some []
 | x::r=>match pJ env H x,pI env H r with
   | some v,some vs=>some (v::vs)
   | _,_=>none
def fD (rs:List (Nat×Option (Bool×Nat))) (env:aD) (H:Hp):Option AV:=match pI env H rs with
 | some [v]=>some v
 | some vs=>some (.tup vs)
 | none=>none

structure DFn where
 N:Nat
 res:List (Nat×Option (Bool×Nat))
 body:DCode
 dfr:Option (List DOper×Nat):=none

structure aMB (P:Program) (f:FuncId) (d:DFn):Prop where
 call:∀ (vs:Array Value) (w:World),(callFunc f vs).run P w = .ok (.enter f vs) w
 code:∃ fn c,P.funcs[f]?=some fn∧fn.body=some c∧fn.ntmps=d.N∧fn.results.toList.mapM (yI P)=some d.res∧aDP P d.N c=some (d.dfr,d.body)

def aM (as:List AV):aD:=fun k=>as.getD k .any

def fnQ (rs:List (Nat×Option (Bool×Nat))) (Q:AV→Hp→Prop):QC:=fun e env H=>match e with
 | .exit _=>False
 | _=>fR (fD rs env H) fun v=>Q v H

theorem aBU {tmps:Array Value} {x:ResultVar} {y:Nat×Option (Bool×Nat)} {v:AV} (st:St F w H) (re:RE F w env { tmps:=tmps,defers:=[] }) (hx:yI P x=some y) (hv:pJ env H y=some v) :
 ∃ c,(match x with
   | .tmp t=>pure (tmps.getD t undef)
   | .cell a t=>do loadVar t (←asAddr (tmps.getD a undef)):Sem Value).run P w = .ok c w∧Rv F w v c:=by
 cases x with
 | tmp t =>
   simp only[yI,oSI]at hx
   subst hx
   simp only[pJ,oSI]at hv
   subst hv
   exact⟨_,by simp only[Sem.run_pure],re.rv t⟩
 | cell p t =>
   simp only[yI]at hx
   split at hx
   ·rename_i g n hg hn
    simp only[oSI]at hx
    subst hx
    simp only[pJ]at hv
    obtain⟨c,h1,h2⟩:=aAS (P:=P) st hg hn (re.rv p) hv
    refine⟨c,?_,h2⟩
    have hz:∃ ad,tmps.getD p undef = .pointer (some ad):=by
     have hp:=re.rv p
     cases hq:env p<;>rw[hq]at hv hp<;>simp only[dX,reduceCtorEq]at hv
     ·generalize hy:({ tmps:=tmps,defers:=[] }:Act).tmps.getD p undef=z at hp
      cases hp
      exact⟨_,rfl⟩
     ·generalize hy:({ tmps:=tmps,defers:=[] }:Act).tmps.getD p undef=z at hp
      cases hp
      exact⟨_,rfl⟩
    obtain⟨ad,hz⟩:=hz
    simp only[hz,Instr.loadAt,Instr.sureAddr,asAddr,Sem.run_bind,Sem.run_pure,Result.andThen_ok]at h1 ⊢
    exact h1
   ·simp at hx

theorem aBT {tmps:Array Value} (st:St F w H) (re:RE F w env { tmps:=tmps,defers:=[] }):∀ (xs:List ResultVar) (ys:List (Nat×Option (Bool×Nat))) (vs:List AV),xs.mapM (yI P)=some ys→pI env H ys=some vs →
 ∃ cs:List Value,(xs.mapM fun x=>(match x with
   | .tmp t=>pure (tmps.getD t undef)
   | .cell a t=>do loadVar t (←asAddr (tmps.getD a undef)):Sem Value)).run P w = .ok cs w∧vs.length=cs.length∧∀ (i:Nat) (v:AV) (c:Value),vs[i]?=some v→cs[i]?=some c→Rv F w v c:=by
 intro xs
 induction xs with
 | nil =>
   intro ys vs hx hv
   simp at hx;subst hx
   simp[pI]at hv;subst hv
   exact⟨[],by simp only[List.mapM_nil,Sem.run_pure],rfl,by simp⟩
 | cons x xs ih =>
   intro ys vs hx hv
   rw[List.mapM_cons]at hx
   cases h1:yI P x with
   | none=>rw[h1]at hx;simp at hx
   | some y =>
     rw[h1]at hx
     cases h2:xs.mapM (yI P)with
     | none=>rw[h2]at hx;simp at hx
     | some ys' =>
       rw[h2]at hx
       simp at hx;subst hx
       simp only[pI]at hv
       split at hv
       ·rename_i v' vs' h3 h4
        simp only[oSI]at hv;subst hv
        obtain⟨c,k1,k2⟩:=aBU st re h1 h3
        obtain⟨cs,k3,k4,k5⟩:=ih ys' vs' h2 h4
        refine⟨c::cs,?_,by simp[k4],fun i v c' hv' hc'=>?_⟩
        ·rw[List.mapM_cons]
         simp only[Sem.run_bind,k1,k3,Result.andThen_ok,Sem.run_pure]
        ·cases i with
         | zero=>simp at hv' hc';subst hv' hc';exact k2
         | succ i=>exact k5 i v c' (by simpa using hv') (by simpa using hc')
       ·simp at hv

theorem pF {fn:Func} {tmps:Array Value} {rs:List (Nat×Option (Bool×Nat))} {v:AV} (st:St F w H) (re:RE F w env { tmps:=tmps,defers:=[] }) (hr:fn.results.toList.mapM (yI P)=some rs) (hv:fD rs env H=some v) :
 ∃ c,(results fn tmps).run P w = .ok c w∧Rv F w v c:=by
 unfold fD at hv
 obtain⟨vs,hvs⟩:∃ vs,pI env H rs=some vs:=by
  cases h:pI env H rs with
  | none=>rw[h]at hv;simp at hv
  | some vs=>exact⟨vs,rfl⟩
 obtain⟨cs,h1,h2,h3⟩:=aBT st re _ _ _ hr hvs
 have h4:(results fn tmps).run P w = .ok (if h:cs.toArray.size=1 then cs.toArray[0] else .tuple cs.toArray) w:=by
  unfold results
  have hmap:∀ {α β:Type} (f:α→β) (m:Sem α),f <$> m=(m >>= fun x=>pure (f x)):=fun f m=>rfl
  rw[Sem.run_bind,←Array.toArray_toList (xs:=fn.results),List.mapM_toArray,hmap,Sem.run_bind]
  exact(congrArg (fun r:Result (List Value)=>((r.andThen fun a w'=>Sem.run P (pure a.toArray) w').andThen fun a w'=>Sem.run P (pure (if h:a.size=1 then a[0] else Value.tuple a)) w')) h1).trans (by simp only[Result.andThen_ok,Sem.run_pure])
 refine⟨_,h4,?_⟩
 rw[hvs]at hv
 cases vs with
 | nil =>
   cases cs with
   | nil=>simp at hv;subst hv;exact .tup _ _ (by simp) (by simp)
   | cons c cs=>simp at h2
 | cons v1 vs =>
   cases cs with
   | nil=>simp at h2
   | cons c cs =>
     cases vs with
     | nil =>
       cases cs with
       | nil=>simp at hv;subst hv;exact h3 0 _ _ rfl rfl
       | cons c' cs=>simp at h2
     | cons v2 vs =>
       cases cs with
       | nil=>simp at h2
       | cons c' cs =>
         simp at hv;subst hv
         simp only[List.size_toArray,List.length_cons,show ¬(cs.length+1+1=1) by omega,dif_neg,not_false_eq_true]
         exact .tup _ _ (by simpa using h2) fun i x y hx hy=>h3 i x y hx (by simpa using hy)

theorem rU {n0 D:Nat} {w0:World} {F0:Nat→Prop} {H0:Hp} {x:Option (List Deferred)} (he:Ext F0 w0 H0 F w H) (st:St F w H) (hn:w0.heap.size≤D) (hD:w.heap[D]?=some (.deferred (some []))) (hF:¬F D) (hH:H D=none) :
 Ext F0 w0 H0 F (w.putObj D (.deferred x)) H∧St F (w.putObj D (.deferred x)) H∧Up F w F (w.putObj D (.deferred x)):=by
 have oth:∀ b,b≠D→(w.putObj D (.deferred x)).heap[b]?=w.heap[b]?:=fun b hb=>World.putObj_heap_other hb
 have hu:Up F w F (w.putObj D (.deferred x)):=⟨fun _ h=>h,fun b hb=>oth b fun e=>hF (e▸hb),fun b c e fr hb=>⟨c,e,fr,by rw[oth b fun e=>by subst e;rw[hD]at hb;simp at hb];exact hb,rfl⟩,by simp⟩
 refine⟨⟨he.sub,he.fnew,he.hdom,he.hnew,by simpa using he.le,fun b hb hw=>by rw[oth b (by omega)];exact he.same b hb hw,fun b c e fr hb=>?_,he.io.trans ⟨rfl,rfl,rfl⟩⟩,⟨fun b hb=>by simpa using st.lt b hb,st.dis,fun b y hb=>?_⟩,hu⟩
 ·have hlt:b<w0.heap.size:=(Array.getElem?_eq_some_iff.1 hb).1
  rw[oth b (by omega)];exact he.cells b c e fr hb
 ·obtain⟨o,h1,h2⟩:=st.blk b y hb
  exact⟨o,by rw[oth b fun e=>by subst e;simp[hH]at hb];exact h1,h2.up hu⟩

def fnC (c:Nat) (rs:List (Nat×Option (Bool×Nat))) (Q:AV→Hp→Prop):QC:=fun e env H=>match e with
 | .exit _=>False
 | _=>fR (vB H (.ch c)) fun H'=>fR (fD rs env H') fun v=>Q v H'

theorem vW {fn:Func} {tmps:Array Value} {rs:List (Nat×Option (Bool×Nat))} {v:AV} {F0:Nat→Prop} {w0:World} {H0:Hp} {Q:AV→Hp→Prop} (hr:fn.results.toList.mapM (yI P)=some rs) (hv:fD rs env H=some v) (hQ:Q v H)
 (he:Ext F0 w0 H0 F w H) (st:St F w H) (re:RE F w env { tmps:=tmps,defers:=[] }):kB Fence.wide 0 P fn tmps (oT F0 w0 H0 Q) [] w:=by
 obtain⟨c,h1,h2⟩:=pF st re hr hv
 exact⟨c,h1,c,v,F,H,rfl,he,st,h2,hQ⟩

theorem tY {fn:Func} {tmps:Array Value} {n0:Nat} {F0:Nat→Prop} {w0:World} {H0:Hp} {R:Ending→World→Prop} {T:List Deferred} (hn0:w0.heap.size≤n0)
 (hT:∀ w,Ext F0 w0 H0 F w H→St F w H→RE F w env { tmps:=tmps,defers:=[] }→kB Fence.wide 0 P fn tmps R T w) :
 ∀ (ms:List Deferred) (w:World),Ext F0 w0 H0 F w H→St F w H→RE F w env { tmps:=tmps,defers:=[] }→ms.Nodup→(∀ d∈ms,Mk1 n0 F H w d)→kB Fence.wide 0 P fn tmps R (ms++T) w:=by
 intro ms
 induction ms with
 | nil=>intro w he st re _ _;exact hT w he st re
 | cons d ds ih =>
   intro w he st re hnd hm
   obtain⟨D,rfl,h2,h3,h4,h5⟩:=hm d (by simp)
   obtain⟨k1,k2,k3⟩:=rU (n0:=0) (x:=none) he st (Nat.le_trans hn0 h2) h3 h4 h5
   have hnd:=List.nodup_cons.1 hnd
   refine .inl ⟨D,_,rfl,run_takeDeferred h3,ih _ k1 k2 (re.up k3) hnd.2 fun d' hd'=>?_⟩
   obtain⟨D',rfl,l2,l3,l4,l5⟩:=hm d' (by simp[hd'])
   refine⟨D',rfl,l2,?_,l4,l5⟩
   rw[World.putObj_heap_other fun e=>hnd.1 (by rw[←e];exact hd')]
   exact l3

theorem aAV {l1 l2:List DOper} {K:aD→Hp→Prop}:∀ {env:aD} {H:Hp},RS B P (l1++l2) K env H→RS B P l1 (RS B P l2 K) env H:=by
 induction l1 with
 | nil=>exact fun h=>h
 | cons o l1 ih=>exact fun h=>aJr (fun _ _ h=>ih h) h

theorem uJ {N:Nat} {as:List AV} {vs:Array Value} {nt:Nat} (hB:B.Up F w) (hA:Args F w as vs):RE F w (aM as) { tmps:=vs++Array.replicate nt undef,defers:=[] }:=by
 refine⟨fun k=>?_,B.gi.up hB⟩
 simp only[aM]
 cases hk:as[k]? with
 | none=>rw[List.getD_eq_getElem?_getD,hk];exact .any _
 | some x =>
   have hlt:k<vs.size:=by rw[←hA.1];exact(List.getElem?_eq_some_iff.1 hk).1
   rw[List.getD_eq_getElem?_getD,hk]
   simp only[Option.getD_some,Array.getD_eq_getD_getElem?]
   rw[Array.getElem?_append_left hlt,Array.getElem?_eq_getElem hlt]
   exact hA.2 k x _ hk (Array.getElem?_eq_getElem hlt)

theorem aFg {ops:Array Oper} {x:Nat} (h:aFh ops=some x):∃ o ats ty pos after,ops.back?=some o∧o=⟨none,.defer ⟨.builtin .close,#[.tmp x],ats⟩,ty,pos,after,none⟩:=by
 unfold aFh at h
 split at h
 ·rename_i o hb
  obtain⟨dst,op,ty,pos,after,guard⟩:=o
  simp only at h
  split at h
  ·rename_i c
   obtain⟨callee,args,ats⟩:=c
   simp only at h
   split at h
   ·rename_i y ha
    simp only[oSI]at h
    subst h
    have ha':args = #[.tmp y]:=by rw[←Array.toList_inj,ha]
    exact⟨_,ats,ty,pos,after,hb,by rw[ha']⟩
   ·simp at h
  ·simp at h
 ·simp at h

theorem FnW.of {f:FuncId} {d:DFn} {as:List AV} {Q:AV→Hp→Prop} (hf:aMB P f d) (hN:as.length≤d.N)
 (h:match d.dfr with
  | none=>WD B P none d.N d.body (fnQ d.res Q) (aM as) H
  | some (l,x)=>RS B P l (fun env1 H1=>∃ c,env1 x = .ch c∧WD B P none d.N d.body (fnC c d.res Q) env1 H1) (aM as) H):FnW B P f as H Q:=by
 refine⟨hf.call,fun F w vs hB st hA=>?_⟩
 obtain⟨fn,c,h1,h2,h3,h4,h5⟩:=hf.code
 have hsz:(vs++Array.replicate (fn.ntmps-vs.size) undef).size=d.N:=by
  have:=hA.1
  simp[h3];omega
 have hre:=uJ (N:=d.N) (nt:=fn.ntmps-vs.size) hB hA
 cases hd:d.dfr with
 | none =>
   rw[hd]at h h5
   have h5':cP P d.N c=some d.body:=by
    unfold aDP at h5
    split at h5
    ·rename_i b hb;simp only[oSI,Prod.mk.injEq,true_and]at h5;rw[hb,h5]
    ·split at h5
     ·split at h5
      ·split at h5<;>simp at h5
      ·simp at h5
     ·simp at h5
   refine qF h1 h2 trivial (wpIn_mono (h c h5' F w { tmps:=vs++Array.replicate (fn.ntmps-vs.size) undef,defers:=[] } w.heap.size [] hB (Nat.le_refl _) hsz st hre Mk.nil) ?_)
   rintro e a' w' ⟨x,env',F',H',k1,k2,k3,k4,k5,k6,k7⟩
   have fin:fR (fD d.res env' H') (fun v=>Q v H')→kB Fence.wide 0 P fn a'.tmps (oT F w H Q) a'.defers w':=fun hq=>by
    rw[bI]at hq
    obtain⟨v,hv,hQ⟩:=hq
    obtain⟨ms,e1,e2,e3⟩:=k6.ex
    rw[e1]
    exact tY (Nat.le_refl _) (fun w'' he st' re'=>vW h4 hv hQ he st' re') ms w' k3 k4 k5 e2 e3
   cases e with
   | normal=>simp only at k1;subst k1;exact fin k7
   | ret=>simp only at k1;subst k1;exact fin k7
   | exit id=>simp only at k1;subst k1;exact k7.elim
   | goto l=>exact k1.elim
   | panic c=>exact k1.elim
   | outgrown=>exact k1.elim
 | some p =>
   obtain⟨l,x⟩:=p
   rw[hd]at h h5
   simp only at h
   unfold aDP at h5
   split at h5
   ·simp at h5
   split at h5
   ·rename_i id0 ops0 id1 ops b hcN
    split at h5
    ·rename_i x' l0 l1 b' g1 g2 g3 g4
     split at h5
     ·rename_i hok
      simp only[oSI,Prod.mk.injEq]at h5
      obtain⟨⟨rfl,rfl⟩,rfl⟩:=h5
      simp only[Bool.and_eq_true,List.all_eq_true,Option.isNone_iff_eq_none]at hok
      obtain⟨hdst,hq⟩:=hok
      have hdst:=pY hdst
      obtain⟨m1,m2⟩:=mV g2
      obtain⟨m3,m4⟩:=mV g3
      obtain⟨o,ats,ty,pos,after,hback,ho⟩:=aFg g1
      have hne:ops.size≠0:=fun e=>by
       rw[Array.back?,e]at hback
       simp[Array.eq_empty_of_size_eq_zero e]at hback
      have hpop:l1.length=ops.size-1:=by rw[m3];simp
      have hlast:ops[ops.size-1]?=some o:=by rw[←hback];rfl
      refine qF h1 h2 trivial (wpIn_seq ?_)
      have R0:=fun Q K=>lK (P:=P) (B:=B) (r:=none) (Q:=Q) (ops:=ops0) (N:=d.N) (tl:=[]) (K:=K) l0 0 (fun j d' hj=>by
       obtain⟨o',k1,k2⟩:=m2 j d' hj
       rw[Nat.zero_add]
       exact fG (by simpa using k1) k2) (fun d' hd'=>⟨hdst d' (by simp[hd']),(hq d' (by simp[hd'])).1,.inr (hq d' (by simp[hd'])).2⟩)
      have R1:=fun Q K=>lK (P:=P) (B:=B) (r:=none) (Q:=Q) (ops:=ops) (N:=d.N) (tl:=[ops.size-1]) (K:=K) l1 0 (fun j d' hj=>by
       obtain⟨o',k1,k2⟩:=m4 j d' hj
       rw[Nat.zero_add]
       refine fG (o:=o') ?_ k2
       rw[Array.getElem?_toList,Array.getElem?_pop]at k1
       split at k1
       ·exact k1
       ·simp at k1) (fun d' hd'=>⟨hdst d' (by simp[hd']),(hq d' (by simp[hd'])).1,.inr (hq d' (by simp[hd'])).2⟩)
      refine OpsW.region ?_
      have hlen0:l0.length=ops0.size:=by simpa using m1
      rw[List.range_eq_range',←hlen0,←List.append_nil (List.range' 0 l0.length)]
      refine R0 _ _ F w H (aM as) _ hsz hB st hre (aAV h) ?_
      intro a1 F1 w1 env1 H1 p1 p2 p3 p4 p5 p6
      refine OpsW.of ?_
      refine wpIn_seq ?_
      refine OpsW.region ?_
      have hrange:List.range ops.size=List.range' 0 l1.length++[ops.size-1]:=by
       rw[hpop,←List.range_eq_range',←List.range_succ]
       congr 1;omega
      rw[hrange]
      refine R1 _ _ F1 w1 H1 env1 a1 p1 (hB.step st p3) p4 p5 p6 ?_
      rintro a2 F2 w2 env2 H2 s1 s2 s3 s4 s5 ⟨cc,s6,s7⟩
      have hx:=s5.rv x'
      rw[s6]at hx
      obtain⟨vx,hvx⟩:∃ v,a2.tmps.getD x' undef=v:=⟨_,rfl⟩
      rw[hvx]at hx
      cases hx
      have hev:a2.eval (.tmp x') = .chan (some cc):=hvx
      refine OpsW.of ?_
      simp only[wpOpsIn,hlast]
      subst ho
      have hw:Region.wanted (⟨none,.defer ⟨.builtin .close,#[.tmp x'],ats⟩,ty,pos,after,none⟩:Oper) (yielded ops a2.tmps)=true:=rfl
      rw[if_pos hw]
      refine⟨jE (P:=P) none _,?_⟩
      have hsem:(Oper.semAt (FW none).round a2.eval ⟨none,.defer ⟨.builtin .close,#[.tmp x'],ats⟩,ty,pos,after,none⟩).run P w2 = .ok (.defer { target:=.builtin .close ats ty #[false],args := #[.chan (some cc)] }) w2:=by
       have:(FW none).round=none:=rfl
       rw[this]
       simp[Oper.semAt,execOp,resolve,hev]
      rw[hsem,Oper.uponIn_defer]
      have E12:=p3.trans s3
      have hdf:a2.defers=[]:=by rw[s2,p2]
      obtain⟨T,hT⟩:∃ T:List Deferred,T=[{ target:=.builtin .close ats ty #[false],args := #[.chan (some cc)] }]:=⟨_,rfl⟩
      have hW:=s7 b g4 F2 w2 { tmps:=a2.tmps,defers:=T } w2.heap.size T (Base.Up.step (hB.step st p3) p4 s3) (Nat.le_refl _) s1 s4 s5 Mk.nil
      have hact:Act.put { a2 with defers:={ target:=.builtin .close ats ty #[false],args := #[.chan (some cc)] }::a2.defers } none undef={ tmps:=a2.tmps,defers:=T }:=by
       rw[hdf,hT];rfl
      rw[hact]
      refine wpIn_mono hW ?_
      rintro e a' w' ⟨x,env',F',H',k1,k2,k3,k4,k5,k6,k7⟩
      have fin:fR (vB H' (.ch cc)) (fun H''=>fR (fD d.res env' H'') fun v=>Q v H'')→kB Fence.wide 0 P fn a'.tmps (oT F w H Q) a'.defers w':=fun hq=>by
       rw[bI]at hq
       obtain⟨H'',hcl,hq⟩:=hq
       rw[bI]at hq
       obtain⟨v,hv,hQ⟩:=hq
       obtain⟨ms,e1,e2,e3⟩:=k6.ex
       rw[e1]
       refine tY E12.le (fun w'' he st' re'=>?_) ms w' (E12.trans k3) k4 k5 e2 e3
       rw[hT]
       simp only[vB]at hcl
       split at hcl
       ·rename_i es hH
        split at hcl<;>simp only[oSI,reduceCtorEq]at hcl
        rename_i cap rr hch
        subst hcl
        obtain⟨buf,s,k,tm,q1,q2,q3⟩:=uG st' hH hch
        obtain⟨t1,t2⟩:=vC (cl':=true) (s':=s) (k':=k) (buf':=buf) (r':=rr) (r:=rr) st' hH q1 q2 q3
        refine .inr ⟨_,_,_,cc,cap,buf,s,k,tm,rfl,q1,?_⟩
        exact vW h4 hv hQ (he.trans t1) t2 (RE.up (t1.up st') re')
       ·simp at hcl
      cases e with
      | normal=>simp only at k1;subst k1;exact fin k7
      | ret=>simp only at k1;subst k1;exact fin k7
      | exit id=>simp only at k1;subst k1;exact k7.elim
      | goto l=>exact k1.elim
      | panic c=>exact k1.elim
      | outgrown=>exact k1.elim
     ·simp at h5
    ·simp at h5
   ·simp at h5


inductive Fz (b:Nat) (cs:List AV):AV→AV→Prop where
 | same (v:AV):Fz b cs v v
 | sl (off s len:Nat) (rows:List (List AV)) (hl:rows.length=len) (hs:∀ r∈rows,r.length=s)
  (hc:∀ (i:Nat) (r:List AV) (j:Nat) (c:AV),rows[i]?=some r→r[j]?=some c→cs[off+i*s+j]?=some c):Fz b cs (.sl b off s len) (.fs rows)
 | pt (off s i o:Nat) (rows:List (List AV)) (hs:∀ r∈rows,r.length=s)
  (hc:∀ (i:Nat) (r:List AV) (j:Nat) (c:AV),rows[i]?=some r→r[j]?=some c→cs[off+i*s+j]?=some c):Fz b cs (.pt b (off+i*s+o)) (.fp rows i o)
 | agg (xs ys:List AV) (hl:xs.length=ys.length) (h:∀ (i:Nat) (x y:AV),xs[i]?=some x→ys[i]?=some y→Fz b cs x y):Fz b cs (.agg xs) (.agg ys)
 | tup (xs ys:List AV) (hl:xs.length=ys.length) (h:∀ (i:Nat) (x y:AV),xs[i]?=some x→ys[i]?=some y→Fz b cs x y):Fz b cs (.tup xs) (.tup ys)
 | fn (f:Fn) (xs ys xs' ys':List AV) (hl:xs.length=ys.length) (h:∀ (i:Nat) (x y:AV),xs[i]?=some x→ys[i]?=some y→Fz b cs x y)
  (hl':xs'.length=ys'.length) (h':∀ (i:Nat) (x y:AV),xs'[i]?=some x→ys'[i]?=some y→Fz b cs x y):Fz b cs (.fn f xs xs') (.fn f ys ys')

theorem Rv.fz {b:Nat} {cs:List AV} {x y:AV} (hf:Fz b cs x y) {c:Array Value} {e:TypeId} {fr:Nat×Nat} (hb:w.heap[b]?=some (.cells c e fr)) (hF:F b) (hl:cs.length≤c.size)
 (ho:∀ (i:Nat) (v:Value),c[i]?=some v→v.oneCell'=true) (hc:∀ (i:Nat) (a:AV) (v:Value),cs[i]?=some a→c[i]?=some v→Rv F w a v):∀ {v:Value},Rv F w x v→Rv F w y v:=by
 have cell:∀ (k:Nat) (x:AV),cs[k]?=some x→w.cell? ⟨b,k,none⟩=some (c[k]?.getD (Value.bool false))∧Rv F w x (c[k]?.getD (Value.bool false)):=fun k x hk=>by
  have hlt:k<c.size:=Nat.lt_of_lt_of_le (List.getElem?_eq_some_iff.1 hk).1 hl
  have hg:c[k]?=some c[k]:=Array.getElem?_eq_getElem hlt
  refine⟨?_,?_⟩
  ·simp[World.cell?,hb,hg]
  ·rw[hg];exact hc k x _ hk hg
 have one:∀ k:Nat,(c[k]?.getD (Value.bool false)).oneCell'=true:=fun k=>by
  cases hk:c[k]? with
  | none=>rfl
  | some v=>exact ho k v hk
 induction hf with
 | same v=>exact fun h=>h
 | sl off s len rows hl' hs h =>
   intro v hv
   cases hv with
   | sl _ _ _ _ cap c' e' fr' hb' hcap hlen =>
     subst hl'
     exact .fs rows b off s cap (fun i j=>c[off+i*s+j]?.getD (Value.bool false)) hlen hF hs (fun i r j x h1 h2=>(cell _ x (h i r j x h1 h2)).1) (fun i j=>one _) (fun i r j x h1 h2=>(cell _ x (h i r j x h1 h2)).2)
 | pt off s i o rows hs h =>
   intro v hv
   cases hv with
   | pt =>
     exact .fp rows i o b off s (fun i j=>c[off+i*s+j]?.getD (Value.bool false)) hF hs (fun i r j x h1 h2=>(cell _ x (h i r j x h1 h2)).1) (fun i j=>one _) (fun i r j x h1 h2=>(cell _ x (h i r j x h1 h2)).2)
 | agg xs ys hl' h ih =>
   intro v hv
   cases hv with
   | agg _ vs h1 h2 h3 =>
     refine .agg _ _ (hl'.symm.trans h1) h2 fun i x v hx hv=>?_
     have hlt:i<xs.length:=by rw[hl'];exact(List.getElem?_eq_some_iff.1 hx).1
     have hg:xs[i]?=some xs[i]:=List.getElem?_eq_getElem hlt
     exact ih i _ x hg hx (h3 i _ v hg hv)
 | tup xs ys hl' h ih =>
   intro v hv
   cases hv with
   | tup _ vs h1 h3 =>
     refine .tup _ _ (hl'.symm.trans h1) fun i x v hx hv=>?_
     have hlt:i<xs.length:=by rw[hl'];exact(List.getElem?_eq_some_iff.1 hx).1
     have hg:xs[i]?=some xs[i]:=List.getElem?_eq_getElem hlt
     exact ih i _ x hg hx (h3 i _ v hg hv)
 | fn f xs ys xs' ys' hl1 h1 hl2 h2 ih1 ih2 =>
   intro v hv
   cases hv with
   | fn _ _ _ fv cv k1 k2 k3 k4 =>
     refine .fn _ _ _ _ _ (hl1.symm.trans k1) (hl2.symm.trans k2) (fun i x v hx hv=>?_) (fun i x v hx hv=>?_)
     ·have hlt:i<xs.length:=by rw[hl1];exact(List.getElem?_eq_some_iff.1 hx).1
      have hg:xs[i]?=some xs[i]:=List.getElem?_eq_getElem hlt
      exact ih1 i _ x hg hx (k3 i _ v hg hv)
     ·have hlt:i<xs'.length:=by rw[hl2];exact(List.getElem?_eq_some_iff.1 hx).1
      have hg:xs'[i]?=some xs'[i]:=List.getElem?_eq_getElem hlt
      exact ih2 i _ x hg hx (k4 i _ v hg hv)

inductive FzB (b:Nat) (cs:List AV):ABlk→ABlk→Prop where
 | same (x:ABlk):FzB b cs x x
 | cells (p:Bool) (xs ys:List AV) (hl:xs.length=ys.length) (h:∀ (i:Nat) (x y:AV),xs[i]?=some x→ys[i]?=some y→Fz b cs x y):FzB b cs (.cells p xs) (.cells p ys)
 | map (p:Bool) (xs ys:List (AV×AV)) (hl:xs.length=ys.length) (h:∀ (i:Nat) (x y:AV×AV),xs[i]?=some x→ys[i]?=some y→Fz b cs x.1 y.1∧Fz b cs x.2 y.2):FzB b cs (.map p xs) (.map p ys)

theorem aTy {b:Nat} {cs:List AV} {cap:Nat} {cl:Bool} {y:AV×AV} (h1:Fz b cs (hO cap cl).1 y.1) (h2:Fz b cs (hO cap cl).2 y.2):y=hO cap cl:=by
 obtain⟨u,v⟩:=y
 have e2:v=(hO cap cl).2:=by cases h2;rfl
 have e1:u=(hO cap cl).1:=by
  simp only[hO]at h1 ⊢
  cases h1 with
  | same=>rfl
  | agg xs ys hl h =>
    cases ys with
    | nil=>simp at hl
    | cons y ys =>
      have:ys=[]:=by cases ys with
       | nil=>rfl
       | cons _ _=>simp at hl
      subst this
      have:=h 0 _ y rfl rfl
      cases this with
      | same=>rfl
      | agg xs zs hl2 _ =>
        cases zs with
        | nil=>rfl
        | cons _ _=>simp at hl2
 rw[e1,e2]

theorem Shift.freeze {b:Nat} {wr:Bool} {cs:List AV} {env':aD} {H':Hp} (hb:H b=some (.cells wr cs)) (he:∀ k,Fz b cs (env k) (env' k)) (hb':H' b=none)
 (hH:∀ c,c≠b→H' c=none∨∃ x y,H c=some x∧H' c=some y∧FzB b cs x y):Shift env H env' H':=by
 intro F w a st re
 obtain⟨o,h1,h2⟩:=st.blk b _ hb
 cases h2 with
 | cells _ _ c e fr hfr hl ho hc =>
   have hu:Up F w (fun x=>F x∨x=b) w:=⟨fun _ h=>.inl h,fun _ _=>rfl,fun b c e fr h=>⟨c,e,fr,h,rfl⟩,Nat.le_refl _⟩
   have hc':∀ (i:Nat) (a:AV) (v:Value),cs[i]?=some a→c[i]?=some v→Rv (fun x=>F x∨x=b) w a v:=fun i a v h1 h2=>(hc i a v h1 h2).up hu
   have rv:∀ {x y:AV} {v:Value},Fz b cs x y→Rv F w x v→Rv (fun x=>F x∨x=b) w y v:=fun hf h=>Rv.fz hf h1 (.inr rfl) hl ho hc' (h.up hu)
   refine⟨fun x=>F x∨x=b,⟨fun _ h=>.inl h,fun x hx=>?_,fun x hx=>?_,fun x hx=>?_,Nat.le_refl _,fun _ _ _=>rfl,fun b c e fr h=>⟨c,e,fr,h,rfl⟩,SameIO.refl w⟩,⟨fun x hx=>?_,fun x y hx hF=>?_,fun x y hx=>?_⟩,⟨fun k=>rv (he k) (re.rv k),re.gi.up hu⟩⟩
   ·rcases hx with hx|rfl
    ·exact .inl hx
    ·exact .inr (.inl (by simp[hb]))
   ·by_cases hxb:x=b
    ·subst hxb;simp[hb']at hx
    ·rcases hH x hxb with h|⟨y,z,h3,h4,h5⟩
     ·simp[h]at hx
     ·left;simp[h3]
   ·by_cases hxb:x=b
    ·subst hxb;simp[oM,hb']at hx
    ·rcases hH x hxb with h|⟨y,z,h3,h4,h5⟩
     ·simp[oM,h]at hx
     ·left
      simp only[oM,h3,h4]at hx ⊢
      cases h5<;>exact hx
   ·rcases hx with hx|rfl
    ·exact st.lt x hx
    ·exact st.own_lt hb
   ·by_cases hxb:x=b
    ·subst hxb;simp[hb']at hx
    ·rcases hH x hxb with h|⟨y',z,h3,h4,h5⟩
     ·simp[h]at hx
     ·rcases hF with hF|hF
      ·exact st.dis x y' h3 hF
      ·exact hxb hF
   ·by_cases hxb:x=b
    ·subst hxb;simp[hb']at hx
    ·rcases hH x hxb with h|⟨y',z,h3,h4,h5⟩
     ·simp[h]at hx
     ·rw[h4]at hx
      simp only[oSI]at hx
      subst hx
      obtain⟨o',k1,k2⟩:=st.blk x y' h3
      refine⟨o',k1,?_⟩
      cases h5 with
      | same=>exact k2.up hu
      | cells p xs ys hl' h =>
        cases k2 with
        | cells _ _ c' e' fr' hfr' hl'' ho' hc'' =>
          refine .cells _ _ _ _ _ hfr' (by omega) ho' fun i a v ha hv=>?_
          have hlt:i<xs.length:=by rw[hl'];exact(List.getElem?_eq_some_iff.1 ha).1
          have hg:xs[i]?=some xs[i]:=List.getElem?_eq_getElem hlt
          exact rv (h i _ a hg ha) (hc'' i _ v hg hv)
      | map p xs ys hl' h =>
        cases k2 with
        | map _ _ m clock hl'' hm =>
          refine .map _ _ _ _ (by omega) fun i a v ha hv=>?_
          have hlt:i<xs.length:=by rw[hl'];exact(List.getElem?_eq_some_iff.1 ha).1
          have hg:xs[i]?=some xs[i]:=List.getElem?_eq_getElem hlt
          exact⟨rv (h i _ a hg ha).1 (hm i _ v hg hv).1,rv (h i _ a hg ha).2 (hm i _ v hg hv).2⟩
        | chan _ cap cl es buf s k tm hl'' hm =>
          cases ys with
          | nil=>simp at hl'
          | cons y ys =>
            obtain⟨g1,g2⟩:=h 0 _ y rfl rfl
            rw[aTy g1 g2]
            refine .chan _ _ _ _ _ _ _ _ (by simp at hl';omega) fun i a v ha hv=>?_
            have hlt:i<es.length:=by simp at hl';rw[hl'];exact(List.getElem?_eq_some_iff.1 ha).1
            have hg:es[i]?=some es[i]:=List.getElem?_eq_getElem hlt
            exact rv (h (i+1) _ a (by simp) (by simpa using ha)).2 (hm i _ v hg hv)

variable {P:Program} {B:Base} {F:Nat→Prop} {w:World} {H:Hp} {env:aD} {a:Act} {N:Nat}

theorem FnW.base {B':Base} {f:FuncId} {as:List AV} {Q:AV→Hp→Prop} (h:FnW B P f as H Q) (hB:B.Up B'.F B'.w):FnW B' P f as H Q :=
 ⟨h.1,fun F w vs h1 h2 h3=>h.2 F w vs (Up.trans hB h1) h2 h3⟩
theorem CallV.base {B':Base} {fv:AV} {as:List AV} {Q:AV→Hp→Prop} (h:CallV B P fv as H Q) (hB:B.Up B'.F B'.w):CallV B' P fv as H Q:=by
 unfold CallV at *
 split at h
 ·exact FnW.base h hB
 ·exact fun F w vs h1 h2 h3=>h F w vs (Up.trans hB h1) h2 h3
 ·exact h.elim

def nL (env:aD):List Nat→List AV→aD
 | p::ps,v::vs=>nL (upd env p v) ps vs
 | _,_=>env

theorem aFM:∀ (ps:List Nat) (as:List AV) (vs:List Value) (env:aD) (t:Array Value),as.length=vs.length→(∀ (i:Nat) (a:AV) (v:Value),as[i]?=some a→vs[i]?=some v→Rv F w a v)→(∀ p∈ps,p<t.size) →
 RE F w env { tmps:=t,defers:=[] }→RE F w (nL env ps as) { tmps:=(ps.zip vs).foldl (fun t p=>t.setIfInBounds p.1 p.2) t,defers:=[] }∧((ps.zip vs).foldl (fun t p=>t.setIfInBounds p.1 p.2) t).size=t.size:=by
 intro ps
 induction ps with
 | nil=>intro as vs env t _ _ _ re;exact⟨re,rfl⟩
 | cons p ps ih =>
   intro as vs env t hl hv hp re
   cases as with
   | nil=>cases vs with
     | nil=>exact⟨re,rfl⟩
     | cons v vs=>simp at hl
   | cons a as=>cases vs with
     | nil=>simp at hl
     | cons v vs =>
       have h1:RE F w (upd env p a) { tmps:=t.setIfInBounds p v,defers:=[] }:=by
        have:=RE.put (d:=some p) re (hv 0 a v rfl rfl) (fun k hk=>by simp at hk;subst hk;exact hp p (by simp))
        exact this
       obtain⟨h2,h3⟩:=ih as vs (upd env p a) (t.setIfInBounds p v) (by simpa using hl) (fun i a v h1 h2=>hv (i+1) a v (by simpa using h1) (by simpa using h2)) (fun p hp'=>by simpa using hp p (by simp[hp'])) h1
       exact⟨h2,by simpa using h3⟩

theorem aBr (ps:Array Tmp) (vs:Array Value) (t:Array Value):(ps.zip vs).foldl (fun t (p:Tmp×Value)=>t.setIfInBounds p.1 p.2) t=(ps.toList.zip vs.toList).foldl (fun t p=>t.setIfInBounds p.1 p.2) t:=by
 rw[←Array.foldl_toList,Array.toList_zip]

def aIJ (l:Nat) (oR oB:Obj) (oD:Code→Obj) (Q':AV→Hp→Prop):QC:=fun e _ H3=>H3 l=some (.obj true oB)∧match e with
 | .normal=>Q' (.bool true) (hset H3 l (.obj true oR))
 | .ret=>Q' (.bool false) (hset H3 l (.obj true (oD .ret)))
 | .exit id=>Q' (.bool false) (hset H3 l (.obj true (oD (.exit id))))

def aII (l:Nat) (oR:Obj) (oD:Code→Obj) (Q:QC) (env:aD):AV→Hp→Prop:=fun _ H' =>
 (H' l=some (.obj true oR)∧Q .normal env (jZ H' l))∨(H' l=some (.obj true (oD .ret))∧Q .ret env (jZ H' l))∨∃ id,H' l=some (.obj true (oD (.exit id)))∧Q (.exit id) env (jZ H' l)

theorem kJ (H:Hp) (b:Nat) (x:ABlk):∀ c y,jZ H b c=some y→hset H b x c=some y:=by
 intro c y h
 by_cases hc:c=b
 ·subst hc;simp[jZ]at h
 ·rw[aE _ _ hc];simpa [jZ,hc]using h

theorem iV {l:Nat} {o o':Obj} (st:St F w H) (hl:H l=some (.obj true o)) (hc:o.isCells=false):Ext F w H F (w.putObj l o') (hset H l (.obj true o'))∧St F (w.putObj l o') (hset H l (.obj true o'))∧w.heap[l]?=some o:=by
 obtain⟨o1,h1,h2⟩:=st.blk l _ hl
 cases h2 with
 | obj => 
   have:=hM (w':=w.putObj l o') (y:=.obj true o') (o':=o') st hl rfl h1 rfl ⟨rfl,rfl,rfl⟩ (fun c e fr h=>by subst h;simp[Obj.isCells]at hc) (fun F' w' _=>.obj true o')
   exact⟨this.1,this.2,h1⟩

theorem W.rng {g:Operand} {f':AO} {ps:Array Tmp} {assign body:Code} {Q:QC} {gf:FuncId} {first cap:List AV} (hg:co g=some f') (hev:aG env f' = .fn (.func gf) first cap) (hps:∀ p∈ps.toList,p<N)
 (h:∀ (B':Base) (l:Nat) (oR oB:Obj) (oD:Code→Obj),B.Up B'.F B'.w→H l=none→B.w.heap.size≤l→l<B'.w.heap.size→(∃ q,oB = .loop q) →
  (∀ (B1:Base),B'.Up B1.F B1.w→∀ (as:List AV) (H':Hp) (Q':AV→Hp→Prop),H' l=some (.obj true oR)→as.length=ps.size →
   W B1 P (some l) N assign (fun e env2 H2=>e = .normal∧H2 l=some (.obj true oR)∧W B1 P (some l) N body (aIJ l oR oB oD Q') env2 (hset H2 l (.obj true oB))) (nL env ps.toList as) H'→YW B1 P l as H' Q') →
  FnW B' P gf (first++[.fn (.yield l) [] []]++cap) (hset H l (.obj true oR)) (aII l oR oD Q env)):W B P none N (.rangeFunc g ps assign body) Q env H:=by
 intro F w a n0 T hB hn0 hsz st re mk
 refine wpIn_rangeFunc ?_
 intro fn _
 obtain⟨rec,hrec⟩:∃ rec:LoopState→Option Code→Loop,rec=fun st pe=>{ state:=st,pending:=pe,fn,tmps:=a.tmps,params:=ps,assign,body,defers:=w.heap.size }:=⟨_,rfl⟩
 have e0:=iI (x:=.obj true (.deferred (some []))) (o:=.deferred (some [])) st (.obj _ _) st.size_none
 have hD0:H w.heap.size=none:=by
  cases hx:H w.heap.size with
  | none=>rfl
  | some x=>exact absurd rfl (st.size_none _ (by simp[hx]))
 have hf0:∀ b x,H b=some x→hset H w.heap.size (.obj true (.deferred (some []))) b=some x:=fun b x hb=>by
  rw[aE _ _ (fun e=>by subst e;simp[hD0]at hb)];exact hb
 have E0:Ext F w H F (w.alloc (.deferred (some []))) H:=e0.1.forget hf0
 have S0:St F (w.alloc (.deferred (some []))) H:=e0.2.forget hf0
 have e1:=iI (x:=.obj true (.loop (rec .ready none))) (o:=.loop (rec .ready none)) S0 (.obj _ _) S0.size_none
 rw[World.size_alloc]at e1
 obtain⟨W1,hW1⟩:∃ W1,(w.alloc (.deferred (some []))).alloc (.loop (rec .ready none))=W1:=⟨_,rfl⟩
 rw[hW1]at e1
 obtain⟨E1,S1⟩:=e1
 have E01:=E0.trans E1
 obtain⟨l,hl⟩:∃ l,w.heap.size+1=l:=⟨_,rfl⟩
 rw[hl]at E1 S1 E01
 have hlH:H l=none:=by
  cases hx:H l with
  | none=>rfl
  | some x=>exact absurd (st.own_lt hx) (by omega)
 have hW1D:W1.heap[w.heap.size]?=some (.deferred (some [])):=by
  rw[←hW1]
  show ((w.heap.push _).push _)[w.heap.size]?=_
  rw[Array.getElem?_push,if_neg (by simp),Array.getElem?_push,if_pos rfl]
 have hB1:B.Up F W1:=hB.step st E01
 have re1:RE F W1 env a:=re.up (E01.up st)
 have hW1s:W1.heap.size=w.heap.size+2:=by rw[←hW1];simp
 have hcall:=h ⟨F,W1,re1.gi⟩ l (.loop (rec .ready none)) (.loop (rec .busy none)) (fun c=>.loop (rec .done (some c))) hB1 hlH (by have:=hB.le;omega) (by show l<W1.heap.size;omega) ⟨_,rfl⟩ ?_
 ·have hgv:=aT re1 hg
  rw[hev]at hgv
  obtain⟨vg,hvg⟩:∃ v,a.eval g=v:=⟨_,rfl⟩
  rw[hvg]at hgv
  cases hgv with
  | fn _ _ _ fv cv k1 k2 k3 k4 =>
    have hA:Args F W1 (first++[.fn (.yield l) [] []]++cap) (fv ++ #[.func (.yield l) #[] #[]]++cv) :=
     dQ (dQ ⟨k1,k3⟩ ⟨rfl,fun i x v hx hv=>by
      cases i with
      | zero=>simp at hx hv;subst hx hv;exact .fn _ _ _ _ _ rfl rfl (by simp) (by simp)
      | succ i=>simp at hx⟩) ⟨k2,k4⟩
    have hc:=hcall.2 F W1 _ (Up.refl _ _) S1 hA
    refine⟨l,[{ target:=.collected w.heap.size,args := #[] }],W1,{ target:=.fn (.func gf) cv,args:=fv ++ #[.func (.yield l) #[] #[]] },W1,gf,
     fv ++ #[.func (.yield l) #[] #[]]++cv,W1,?_,?_,?_,?_,?_,?_⟩
    ·rw[←hW1,hrec,←hl];exact run_enterLoop_outer _ _ _ _ _
    ·simp only[resolve,hvg]
     simp[go_sem,Deferred.ofValue]
    ·exact fun _ _=>trivial
    ·simp only[invoke]
     exact hcall.1 _ _
    ·exact fun h=>by simp[FW,Fence.wide]at h
    ·have hc':CallsIn (FW none) (0-1) P gf (fv ++ #[.func (.yield l) #[] #[]]++cv) W1 (oT F W1 (hset H l (.obj true (.loop (rec .ready none)))) (aII l (.loop (rec .ready none)) (fun c=>.loop (rec .done (some c))) Q env)):=hc
     refine CallsIn.mono hc' ?_
     rintro e W2 ⟨rv,v,F2,H2,rfl,l1,l2,l3,l4⟩
     have fin:∀ (o:Obj) (st':LoopState) (pe:Option Code),o = .loop (rec st' pe)→st' ≠ .busy→H2 l=some (.obj true o)→∃ w4,(Instr.endLoop l).run P W2 = .ok pe w4∧Ext F w H F2 w4 (jZ H2 l)∧St F2 w4 (jZ H2 l) ∧
      RE F2 w4 env a∧Mk n0 T F2 (jZ H2 l) w4 ({ target:=.collected w.heap.size,args := #[] }::a.defers):=by
      intro o st' pe ho hst hHl
      subst ho
      obtain⟨m1,m2,m3⟩:=iV (o':=.loop { rec st' pe with state:=.exhausted }) l2 hHl (by simp[Obj.isCells])
      have hrun:=run_endLoop (P:=P) m3 (by rw[hrec];exact hst)
      have M1:=E01.trans (l1.trans m1)
      have M2:=M1.forget (kJ H2 l _)
      refine⟨_,by rw[hrun];rw[hrec],M2,m2.forget (kJ H2 l _),re.up (M1.up st),?_⟩
      have mk0:Mk n0 T F (hset H l (.obj true (.loop (rec .ready none)))) W1 ({ target:=.collected w.heap.size,args := #[] }::a.defers):=by
       refine mk.cons (fun d hd e=>?_) E01 ⟨w.heap.size,rfl,hn0,hW1D,fun hF=>absurd (st.lt _ hF) (by omega),by rw[aE _ _ (by omega)];exact hD0⟩
       obtain⟨D,q1,_,q3,_⟩:=hd
       rw[e]at q1
       simp only[Deferred.mk.injEq,Target.collected.injEq,and_true]at q1
       have:=(Array.getElem?_eq_some_iff.1 q3).1
       omega
      exact(mk0.ext (l1.trans m1)).sub (kJ H2 l _)
     rcases l4 with ⟨q1,q2⟩|⟨q1,q2⟩|⟨id,q1,q2⟩
     ·obtain⟨w4,r1,r2,r3,r4,r5⟩:=fin _ .ready none rfl (by simp) q1
      exact⟨none,w4,r1,.normal,env,F2,_,rfl,hsz,r2,r3,r4,r5,q2⟩
     ·obtain⟨w4,r1,r2,r3,r4,r5⟩:=fin _ .done (some .ret) rfl (by simp) q1
      exact⟨some .ret,w4,r1,wpIn_ret ⟨.ret,env,F2,_,rfl,hsz,r2,r3,r4,r5,q2⟩⟩
     ·obtain⟨w4,r1,r2,r3,r4,r5⟩:=fin _ .done (some (.exit id)) rfl (by simp) q1
      exact⟨some (.exit id),w4,r1,wpIn_exit ⟨.exit id,env,F2,_,rfl,hsz,r2,r3,r4,r5,q2⟩⟩
 ·-- a round
  intro B1 hB1' as H' Q' hHl hlen hass F2 w2 vs hB2' st2 hA
  have hB2:Up F W1 F2 w2:=Up.trans hB1' hB2'
  obtain⟨m1,_,m3⟩:=iV (o':=.loop (rec .ready none)) st2 hHl (by simp[Obj.isCells])
  have hsize:vs.size=ps.size:=by rw[←hlen];exact hA.1.symm
  have hy:=run_yield (P:=P) (args:=vs) m3 (by rw[hrec];exact hsize)
  have hre:RE F2 w2 env { tmps:=a.tmps,defers:=[] }:=re1.up hB2
  obtain⟨p1,p2⟩:=aFM ps.toList as vs.toList env a.tmps (by simpa using hA.1) (fun i x v hx hv=>hA.2 i x v hx (by simpa using hv)) (fun p hp=>by rw[hsz];exact hps p hp) hre
  rw[←aBr]at p1 p2
  rw[hrec]at hy
  refine⟨fn,_,assign,body,hy,roundIn_of_wpIn (by trivial) ?_⟩
  refine wpIn_mono (hass F2 w2 { tmps:=_,defers:=[] } w2.heap.size [] hB2' (Nat.le_refl _) (p2.trans hsz) st2 p1 Mk.nil) ?_
  rintro e a3 w3 ⟨x,env3,F3,H3,q1,q2,q3,q4,q5,q6,q7,q8,q9⟩
  subst q7
  cases e with
  | normal =>
    obtain⟨s1,s2,s3⟩:=iV (o':=.loop (rec .busy none)) q4 q8 (by simp[Obj.isCells])
    refine⟨_,run_beginRound s3 (by rw[hrec]),?_⟩
    have hbusy:({ rec .ready none with state:=.busy }:Loop)=rec .busy none:=by rw[hrec]
    rw[hbusy]
    have E3:=q3.trans s1
    refine wpIn_mono (q9 F3 _ a3 w2.heap.size [] (Base.Up.step (B:=B1) hB2' st2 E3) E3.le q2 s2 (q5.up (s1.up q4)) (q6.ext s1)) ?_
    rintro e a4 w4 ⟨x,env4,F4,H4,t1,t2,t3,t4,t5,t6,t7,t8⟩
    have fin:∀ (jump:Option Code) (o:Obj),o = .loop (rec (if jump.isNone then .ready else .done) jump)→Q' (.bool jump.isNone) (hset H4 l (.obj true o)) →
     ∃ v w',(Instr.endRound l jump).run P w4 = .ok v w'∧oT F2 w2 H' Q' (.returned v) w':=by
     intro jump o ho hQ
     obtain⟨u1,u2,u3⟩:=iV (o':=o) t4 t7 (by simp[Obj.isCells])
     refine⟨_,_,run_endRound jump u3,_,.bool jump.isNone,F4,hset H4 l (.obj true o),rfl,?_,?_,.bool _,hQ⟩
     ·have:({ rec .busy none with state:=if jump.isNone then .ready else .done,pending:=jump }:Loop)=rec (if jump.isNone then .ready else .done) jump:=by rw[hrec]
      rw[this,←ho]
      exact E3.trans (t3.trans u1)
     ·have:({ rec .busy none with state:=if jump.isNone then .ready else .done,pending:=jump }:Loop)=rec (if jump.isNone then .ready else .done) jump:=by rw[hrec]
      rw[this,←ho]
      exact u2
    cases e with
    | normal=>simp only at t1;subst t1;exact fin none _ rfl t8
    | ret=>simp only at t1;subst t1;exact fin (some .ret) _ rfl t8
    | exit id=>simp only at t1;subst t1;exact fin (some (.exit id)) _ rfl t8
    | goto l=>exact t1.elim
    | panic c=>exact t1.elim
    | outgrown=>exact t1.elim
  | exit id=>simp at q1
  | ret=>simp at q1
  | goto l=>exact q1.elim
  | panic c=>exact q1.elim
  | outgrown=>exact q1.elim

theorem W.rngIn {l0:Nat} {r0:Loop} (hl0:H l0=some (.obj true (.loop r0))) {g:Operand} {f':AO} {ps:Array Tmp} {assign body:Code} {Q:QC} {gf:FuncId} {first cap:List AV} (hg:co g=some f') (hev:aG env f' = .fn (.func gf) first cap) (hps:∀ p∈ps.toList,p<N)
 (h:∀ (B':Base) (l:Nat) (oR oB:Obj) (oD:Code→Obj),B.Up B'.F B'.w→H l=none→B.w.heap.size≤l→l<B'.w.heap.size→(∃ q,oB = .loop q) →
  (∀ (B1:Base),B'.Up B1.F B1.w→∀ (as:List AV) (H':Hp) (Q':AV→Hp→Prop),H' l=some (.obj true oR)→as.length=ps.size →
   W B1 P (some l) N assign (fun e env2 H2=>e = .normal∧H2 l=some (.obj true oR)∧W B1 P (some l) N body (aIJ l oR oB oD Q') env2 (hset H2 l (.obj true oB))) (nL env ps.toList as) H'→YW B1 P l as H' Q') →
  FnW B' P gf (first++[.fn (.yield l) [] []]++cap) (hset H l (.obj true oR)) (aII l oR oD Q env)):W B P (some l0) N (.rangeFunc g ps assign body) Q env H:=by
 intro F w a n0 T hB hn0 hsz st re mk
 refine wpIn_rangeFunc ?_
 intro fn _
 obtain⟨rec,hrec⟩:∃ rec:LoopState→Option Code→Loop,rec=fun st pe=>{ state:=st,pending:=pe,fn,tmps:=a.tmps,params:=ps,assign,body,defers:=r0.defers }:=⟨_,rfl⟩
 have hw0:w.heap[l0]?=some (.loop r0):=by
  obtain⟨o1,h1,h2⟩:=st.blk l0 _ hl0
  cases h2 with
  | obj=>exact h1
 have e1:=iI (x:=.obj true (.loop (rec .ready none))) (o:=.loop (rec .ready none)) st (.obj _ _) st.size_none
 obtain⟨W1,hW1⟩:∃ W1,w.alloc (.loop (rec .ready none))=W1:=⟨_,rfl⟩
 rw[hW1]at e1
 obtain⟨E1,S1⟩:=e1
 obtain⟨l,hl⟩:∃ l,w.heap.size=l:=⟨_,rfl⟩
 rw[hl]at E1 S1
 have E01:=E1
 have hlH:H l=none:=by
  cases hx:H l with
  | none=>rfl
  | some x=>exact absurd (st.own_lt hx) (by omega)
 have hB1:B.Up F W1:=hB.step st E01
 have re1:RE F W1 env a:=re.up (E01.up st)
 have hW1s:W1.heap.size=w.heap.size+1:=by rw[←hW1];simp
 have hcall:=h ⟨F,W1,re1.gi⟩ l (.loop (rec .ready none)) (.loop (rec .busy none)) (fun c=>.loop (rec .done (some c))) hB1 hlH (by have:=hB.le;omega) (by show l<W1.heap.size;omega) ⟨_,rfl⟩ ?_
 ·have hgv:=aT re1 hg
  rw[hev]at hgv
  obtain⟨vg,hvg⟩:∃ v,a.eval g=v:=⟨_,rfl⟩
  rw[hvg]at hgv
  cases hgv with
  | fn _ _ _ fv cv k1 k2 k3 k4 =>
    have hA:Args F W1 (first++[.fn (.yield l) [] []]++cap) (fv ++ #[.func (.yield l) #[] #[]]++cv) :=
     dQ (dQ ⟨k1,k3⟩ ⟨rfl,fun i x v hx hv=>by
      cases i with
      | zero=>simp at hx hv;subst hx hv;exact .fn _ _ _ _ _ rfl rfl (by simp) (by simp)
      | succ i=>simp at hx⟩) ⟨k2,k4⟩
    have hc:=hcall.2 F W1 _ (Up.refl _ _) S1 hA
    refine⟨l,[],W1,{ target:=.fn (.func gf) cv,args:=fv ++ #[.func (.yield l) #[] #[]] },W1,gf,
     fv ++ #[.func (.yield l) #[] #[]]++cv,W1,?_,?_,?_,?_,?_,?_⟩
    ·rw[←hW1,hrec,←hl];exact run_enterLoop_inner hw0 _ _ _ _ _
    ·simp only[resolve,hvg]
     simp[go_sem,Deferred.ofValue]
    ·exact fun _ _=>trivial
    ·simp only[invoke]
     exact hcall.1 _ _
    ·exact fun h=>by simp[FW,Fence.wide]at h
    ·have hc':CallsIn (FW none) (0-1) P gf (fv ++ #[.func (.yield l) #[] #[]]++cv) W1 (oT F W1 (hset H l (.obj true (.loop (rec .ready none)))) (aII l (.loop (rec .ready none)) (fun c=>.loop (rec .done (some c))) Q env)):=hc
     refine CallsIn.mono hc' ?_
     rintro e W2 ⟨rv,v,F2,H2,rfl,l1,l2,l3,l4⟩
     have fin:∀ (o:Obj) (st':LoopState) (pe:Option Code),o = .loop (rec st' pe)→st' ≠ .busy→H2 l=some (.obj true o)→∃ w4,(Instr.endLoop l).run P W2 = .ok pe w4∧Ext F w H F2 w4 (jZ H2 l)∧St F2 w4 (jZ H2 l) ∧
      RE F2 w4 env a∧Mk n0 T F2 (jZ H2 l) w4 a.defers:=by
      intro o st' pe ho hst hHl
      subst ho
      obtain⟨m1,m2,m3⟩:=iV (o':=.loop { rec st' pe with state:=.exhausted }) l2 hHl (by simp[Obj.isCells])
      have hrun:=run_endLoop (P:=P) m3 (by rw[hrec];exact hst)
      have M1:=E01.trans (l1.trans m1)
      have M2:=M1.forget (kJ H2 l _)
      refine⟨_,by rw[hrun];rw[hrec],M2,m2.forget (kJ H2 l _),re.up (M1.up st),?_⟩
      have mk0:=mk.ext E01
      exact(mk0.ext (l1.trans m1)).sub (kJ H2 l _)
     rcases l4 with ⟨q1,q2⟩|⟨q1,q2⟩|⟨id,q1,q2⟩
     ·obtain⟨w4,r1,r2,r3,r4,r5⟩:=fin _ .ready none rfl (by simp) q1
      exact⟨none,w4,r1,.normal,env,F2,_,rfl,hsz,r2,r3,r4,r5,q2⟩
     ·obtain⟨w4,r1,r2,r3,r4,r5⟩:=fin _ .done (some .ret) rfl (by simp) q1
      exact⟨some .ret,w4,r1,wpIn_ret ⟨.ret,env,F2,_,rfl,hsz,r2,r3,r4,r5,q2⟩⟩
     ·obtain⟨w4,r1,r2,r3,r4,r5⟩:=fin _ .done (some (.exit id)) rfl (by simp) q1
      exact⟨some (.exit id),w4,r1,wpIn_exit ⟨.exit id,env,F2,_,rfl,hsz,r2,r3,r4,r5,q2⟩⟩
 ·-- a round
  intro B1 hB1' as H' Q' hHl hlen hass F2 w2 vs hB2' st2 hA
  have hB2:Up F W1 F2 w2:=Up.trans hB1' hB2'
  obtain⟨m1,_,m3⟩:=iV (o':=.loop (rec .ready none)) st2 hHl (by simp[Obj.isCells])
  have hsize:vs.size=ps.size:=by rw[←hlen];exact hA.1.symm
  have hy:=run_yield (P:=P) (args:=vs) m3 (by rw[hrec];exact hsize)
  have hre:RE F2 w2 env { tmps:=a.tmps,defers:=[] }:=re1.up hB2
  obtain⟨p1,p2⟩:=aFM ps.toList as vs.toList env a.tmps (by simpa using hA.1) (fun i x v hx hv=>hA.2 i x v hx (by simpa using hv)) (fun p hp=>by rw[hsz];exact hps p hp) hre
  rw[←aBr]at p1 p2
  rw[hrec]at hy
  refine⟨fn,_,assign,body,hy,roundIn_of_wpIn (by trivial) ?_⟩
  refine wpIn_mono (hass F2 w2 { tmps:=_,defers:=[] } w2.heap.size [] hB2' (Nat.le_refl _) (p2.trans hsz) st2 p1 Mk.nil) ?_
  rintro e a3 w3 ⟨x,env3,F3,H3,q1,q2,q3,q4,q5,q6,q7,q8,q9⟩
  subst q7
  cases e with
  | normal =>
    obtain⟨s1,s2,s3⟩:=iV (o':=.loop (rec .busy none)) q4 q8 (by simp[Obj.isCells])
    refine⟨_,run_beginRound s3 (by rw[hrec]),?_⟩
    have hbusy:({ rec .ready none with state:=.busy }:Loop)=rec .busy none:=by rw[hrec]
    rw[hbusy]
    have E3:=q3.trans s1
    refine wpIn_mono (q9 F3 _ a3 w2.heap.size [] (Base.Up.step (B:=B1) hB2' st2 E3) E3.le q2 s2 (q5.up (s1.up q4)) (q6.ext s1)) ?_
    rintro e a4 w4 ⟨x,env4,F4,H4,t1,t2,t3,t4,t5,t6,t7,t8⟩
    have fin:∀ (jump:Option Code) (o:Obj),o = .loop (rec (if jump.isNone then .ready else .done) jump)→Q' (.bool jump.isNone) (hset H4 l (.obj true o)) →
     ∃ v w',(Instr.endRound l jump).run P w4 = .ok v w'∧oT F2 w2 H' Q' (.returned v) w':=by
     intro jump o ho hQ
     obtain⟨u1,u2,u3⟩:=iV (o':=o) t4 t7 (by simp[Obj.isCells])
     refine⟨_,_,run_endRound jump u3,_,.bool jump.isNone,F4,hset H4 l (.obj true o),rfl,?_,?_,.bool _,hQ⟩
     ·have:({ rec .busy none with state:=if jump.isNone then .ready else .done,pending:=jump }:Loop)=rec (if jump.isNone then .ready else .done) jump:=by rw[hrec]
      rw[this,←ho]
      exact E3.trans (t3.trans u1)
     ·have:({ rec .busy none with state:=if jump.isNone then .ready else .done,pending:=jump }:Loop)=rec (if jump.isNone then .ready else .done) jump:=by rw[hrec]
      rw[this,←ho]
      exact u2
    cases e with
    | normal=>simp only at t1;subst t1;exact fin none _ rfl t8
    | ret=>simp only at t1;subst t1;exact fin (some .ret) _ rfl t8
    | exit id=>simp only at t1;subst t1;exact fin (some (.exit id)) _ rfl t8
    | goto l=>exact t1.elim
    | panic c=>exact t1.elim
    | outgrown=>exact t1.elim
  | exit id=>simp at q1
  | ret=>simp at q1
  | goto l=>exact q1.elim
  | panic c=>exact q1.elim
  | outgrown=>exact q1.elim

theorem WD.rng {r:Option Nat} {f':AO} {ps:List Nat} {assign body:DCode} {Q:QC} {gf:FuncId} {first cap:List AV} (hr:r=none∨∃ l0 r0,r=some l0∧H l0=some (.obj true (.loop r0))) (hev:aG env f' = .fn (.func gf) first cap)
 (h:∀ (B':Base) (l:Nat) (oR oB:Obj) (oD:Code→Obj),B.Up B'.F B'.w→H l=none→B.w.heap.size≤l→l<B'.w.heap.size→(∃ q,oB = .loop q) →
  (∀ (B1:Base),B'.Up B1.F B1.w→∀ (as:List AV) (H':Hp) (Q':AV→Hp→Prop),H' l=some (.obj true oR)→as.length=ps.length →
   WD B1 P (some l) N assign (fun e env2 H2=>e = .normal∧H2 l=some (.obj true oR)∧WD B1 P (some l) N body (aIJ l oR oB oD Q') env2 (hset H2 l (.obj true oB))) (nL env ps as) H'→YW B1 P l as H' Q') →
  FnW B' P gf (first++[.fn (.yield l) [] []]++cap) (hset H l (.obj true oR)) (aII l oR oD Q env)):WD B P r N (.rng f' ps assign body) Q env H:=by
 intro c hc
 cases c<;>simp only[cP]at hc
 case rangeFunc g qs x y =>
  split at hc
  ·rename_i g' x' y' hg hx hy
   split at hc
   ·rename_i hall
    simp only[oSI,DCode.rng.injEq]at hc
    obtain⟨rfl,rfl,rfl,rfl⟩:=hc
    have hps:∀ p∈qs.toList,p<N:=fun p hp=>by rw[List.all_eq_true]at hall;simpa using hall p hp
    have h':=fun(B':Base) (l:Nat) (oR oB:Obj) (oD:Code→Obj) (h1:B.Up B'.F B'.w) (h2:H l=none) (h3:B.w.heap.size≤l) (h3':l<B'.w.heap.size) (h4:∃ q,oB = .loop q)
     (hround:∀ (B1:Base),B'.Up B1.F B1.w→∀ (as:List AV) (H':Hp) (Q':AV→Hp→Prop),H' l=some (.obj true oR)→as.length=qs.size →
      W B1 P (some l) N x (fun e env2 H2=>e = .normal∧H2 l=some (.obj true oR)∧W B1 P (some l) N y (aIJ l oR oB oD Q') env2 (hset H2 l (.obj true oB))) (nL env qs.toList as) H'→YW B1 P l as H' Q') =>
     h B' l oR oB oD h1 h2 h3 h3' h4 fun B1 hB1 as H' Q' h5 h6 h7=>hround B1 hB1 as H' Q' h5 (by simpa using h6) ((h7 x hx).mono fun e env2 H2 ⟨k1,k2,k3⟩=>⟨k1,k2,k3 y hy⟩)
    rcases hr with rfl|⟨l0,r0,rfl,hl0⟩
    ·exact W.rng hg hev hps h'
    ·exact W.rngIn hl0 hg hev hps h'
   ·simp at hc
  ·simp at hc
 all_goals exfalso;first|(simp at hc;done)|((repeat' split at hc)<;>simp at hc;done)

variable {P:Program} {B:Base} {H:Hp} {env:aD} {r:Option Nat} {N:Nat} {Q:QC}

theorem CallV.fn {f:FuncId} {first cap as:List AV} {Q Q':AV→Hp→Prop} (h:FnW B P f (first++as++cap) H Q') (hq:∀ v H',Q' v H'→Q v H'):CallV B P (.fn (.func f) first cap) as H Q :=
 CallV.mono (fv:=.fn (.func f) first cap) h hq

theorem aDk (ix:Nat) (d:Option Nat) (op:DOp) (K:aD→Hp→Prop) (env:aD) (H:Hp):opW B P ⟨ix,d,op,none⟩ K env H=dY B P d op K env H:=rfl
theorem WD.regD {l:List DOper} (hm:P.follows .mixedOrders=true) (h:∀ K:aD→Hp→Prop,(∀ e h,Q .normal e h→K e h)→RD B P l K env H noL):WD B P r N (.reg true l) Q env H :=
 WD.reg hm (h _ fun _ _ h=>h)
theorem FnW.shift {f:FuncId} {as:List AV} {Q:AV→Hp→Prop} (h:FnW B P f as H fun v H'=>∃ v' H'',Shift (upd anyE 0 v) H' (upd anyE 0 v') H''∧Q v' H''):FnW B P f as H Q:=by
 refine⟨h.1,fun F w vs h1 h2 h3=>(h.2 F w vs h1 h2 h3).mono ?_⟩
 rintro e w' ⟨r,v,F',H',rfl,k1,k2,k3,v',H'',k4,k5⟩
 obtain⟨F'',l1,l2,l3⟩:=k4 F' w' { tmps := #[r],defers:=[] } k2 ⟨fun k=>by
  by_cases hk:k=0
  ·subst hk;simpa [upd]using k3
  ·simp only[upd,hk,if_false,anyE];exact .any _,(B.gi.up h1).up (k1.up h2)⟩
 have:=l3.rv 0
 exact⟨r,v',F'',H'',rfl,k1.trans l1,l2,by simpa [upd]using this,k5⟩
theorem FnW.forget {f:FuncId} {as:List AV} {Q:AV→Hp→Prop} (h:FnW B P f as H fun v H'=>∃ H'',(∀ b x,H'' b=some x→H' b=some x)∧Q v H''):FnW B P f as H Q:=by
 refine FnW.shift ⟨h.1,fun F w vs h1 h2 h3=>(h.2 F w vs h1 h2 h3).mono ?_⟩
 rintro e w' ⟨r,v,F',H',rfl,k1,k2,k3,H'',k4,k5⟩
 exact⟨r,v,F',H',rfl,k1,k2,k3,v,H'',Shift.forget k4,k5⟩
structure CTk where
 wagon:ByteArray
 farmer:ByteArray
 net:Int
 void:Bool
structure dR where
 farmers:List (ByteArray×Int)
 meters:List (ByteArray×Int×Int)
 pans:List (ByteArray×Int)
 wagons:List (ByteArray×Int)
 tickets:List CTk
 closed:Nat
 book:List ByteArray
def aOP:List Nat:=[59,61,62,87,88,89,90,91,92,93,94,95,96,97,98,128,129,130,131,132,133,134,135,136]
def aHh (g:Nat):List Nat→Bool
 | []=>false
 | k::r=>if g=k then true else aHh g r
def fP (g:Nat):Bool:=aHh g aOP
inductive XCode where
 | skip
 | reg (fz:List (Nat×Bool)) (draw:Bool) (ops:List DOper)
 | seq (a b:XCode)
 | cond (c:AO) (a b:XCode)
 | block (id:Nat) (a:XCode)
 | loop (live:List Nat) (a:XCode)
 | scope (a:XCode)
 | rng (site:Nat) (live:List Nat) (f:AO) (ps:List Nat) (assign body:XCode)
 | exit (id:Nat)
 | ret

def XCode.erase:XCode→DCode
 | .skip=>.skip
 | .reg _ d ops=>.reg d ops
 | .seq a b=>.seq a.erase b.erase
 | .cond c a b=>.cond c a.erase b.erase
 | .block id a=>.block id a.erase
 | .loop _ a=>.loop a.erase
 | .scope a=>.scope a.erase
 | .rng _ _ f ps a b=>.rng f ps a.erase b.erase
 | .exit id=>.exit id
 | .ret=>.ret

inductive LSt where
 | ready
 | busy
 | done (x:DX)

inductive XB where
 | blk (g:Bool) (x:ABlk)
 | loop (K site:Nat) (vs:List AV) (s:LSt)
 | gh (st:dR) (p:Hp→Nat→Prop)
abbrev XH:=List (Option XB)

structure XFn where
 N:Nat
 res:List (Nat×Option (Bool×Nat))
 ownA:Bool
 ownR:Bool
 body:XCode
 dfr:Option (List DOper×Nat):=none
 prm:Option (List AV→List (Option XB)→Option (AV×List (Option XB))):=none

def XFn.fn (x:XFn):DFn:=⟨x.N,x.res,x.body.erase,x.dfr⟩

mutual
def kU:AV→List Nat
 | .agg cs=>nP cs
 | .tup vs=>nP vs
 | .sl b _ _ _=>[b]
 | .pt b _=>[b]
 | .mp b=>[b]
 | .ch b=>[b]
 | .sb b _=>[b]
 | .bp b=>[b]
 | .fn f first cap=>(match f with | .yield l=>[l]|_=>[])++(nP first++nP cap)
 | .ifc _ v=>kU v
 | _=>[]
def nP:List AV→List Nat
 | []=>[]
 | v::r=>kU v++nP r
end

mutual
def fX:AV→Bool
 | .agg cs=>jK cs
 | .tup vs=>jK vs
 | .sl .. | .pt .. | .mp _ | .ch _ | .sb .. | .bp _ | .any=>false
 | .fn f first cap=>(match f with | .yield _=>false|_=>true)&&(jK first&&jK cap)
 | .ifc _ v=>fX v
 | _=>true
def jK:List AV→Bool
 | []=>true
 | v::r=>fX v&&jK r
end

mutual
def gdA:AV→Bool
 | .agg cs=>gdL cs
 | .tup vs=>gdL vs
 | .fs rows=>gdR rows
 | .fp rows _ _=>gdR rows
 | .sl .. | .pt .. | .mp _ | .ch _ | .sb .. | .bp _ | .any=>false
 | .fn f first cap=>(match f with | .yield _=>false|_=>true)&&(gdL first&&gdL cap)
 | .ifc _ v=>gdA v
 | _=>true
def gdL:List AV→Bool
 | []=>true
 | v::r=>gdA v&&gdL r
def gdR:List (List AV)→Bool
 | []=>true
 | v::r=>gdL v&&gdR r
end

mutual
def rnA (s:Nat→Option Nat):AV→AV
 | .agg cs=>.agg (lI s cs)
 | .tup vs=>.tup (lI s vs)
 | .sl b o z n=>match s b with
   | some c=>.sl c o z n
   | none=>.any
 | .pt b o=>match s b with
   | some c=>.pt c o
   | none=>.any
 | .mp b=>match s b with
   | some c=>.mp c
   | none=>.any
 | .ch b=>match s b with
   | some c=>.ch c
   | none=>.any
 | .sb b n=>match s b with
   | some c=>.sb c n
   | none=>.any
 | .bp b=>match s b with
   | some c=>.bp c
   | none=>.any
 | .fn f first cap=>match f with
   | .yield l=>match s l with
     | some c=>.fn (.yield c) (lI s first) (lI s cap)
     | none=>.any
   | f=>.fn f (lI s first) (lI s cap)
 | .ifc t v=>.ifc t (rnA s v)
 | v=>v
def lI (s:Nat→Option Nat):List AV→List AV
 | []=>[]
 | v::r=>rnA s v::lI s r
end

mutual
def uM:AV→List Nat
 | .agg cs=>slL cs
 | .tup vs=>slL vs
 | .sl b _ _ _=>[b]
 | .ifc _ v=>uM v
 | _=>[]
def slL:List AV→List Nat
 | []=>[]
 | v::r=>uM v++slL r
end

def bP (cs:List AV) (off s:Nat):Nat→List (List AV)
 | 0=>[]
 | n+1=>(cs.drop off).take s::bP cs (off+s) s n

mutual
def uZ (b:Nat) (cs:List AV):AV→AV
 | .agg vs=>.agg (uY b cs vs)
 | .tup vs=>.tup (uY b cs vs)
 | .sl c o s n=>if c=b∧o+n*s≤cs.length then .fs (bP cs o s n) else .sl c o s n
 | .fn f first cap=>match f with
   | .yield l=>.fn (.yield l) first cap
   | f=>.fn f (uY b cs first) (uY b cs cap)
 | v=>v
def uY (b:Nat) (cs:List AV):List AV→List AV
 | []=>[]
 | v::r=>uZ b cs v::uY b cs r
end

mutual
def oI:AV→AV
 | .agg vs=>.agg (jJ vs)
 | .tup vs=>.tup (jJ vs)
 | .nilsl=>.fs []
 | v=>v
def jJ:List AV→List AV
 | []=>[]
 | v::r=>oI v::jJ r
end

mutual
def bW:AV→AV→Bool
 | .int k n,.int k' n'=>decide (k=k')&&decide (n=n')
 | .bool a,.bool b=>a==b
 | .str s,.str t=>s.data.toList==t.data.toList
 | .agg xs,.agg ys=>eN xs ys
 | .tup xs,.tup ys=>eN xs ys
 | .sl b o s n,.sl b' o' s' n'=>decide (b=b')&&(decide (o=o')&&(decide (s=s')&&decide (n=n')))
 | .pt b o,.pt b' o'=>decide (b=b')&&decide (o=o')
 | .mp b,.mp b'=>decide (b=b')
 | .ch b,.ch b'=>decide (b=b')
 | .nilsl,.nilsl=>true
 | .nilpt,.nilpt=>true
 | .nilmap,.nilmap=>true
 | .nilfn,.nilfn=>true
 | .nilifc,.nilifc=>true
 | .fn f xs us,.fn g ys vs=>decide (f=g)&&(eN xs ys&&eN us vs)
 | .fs xs,.fs ys=>aAP xs ys
 | _,_=>false
def eN:List AV→List AV→Bool
 | [],[]=>true
 | x::xs,y::ys=>bW x y&&eN xs ys
 | _,_=>false
def aAP:List (List AV)→List (List AV)→Bool
 | [],[]=>true
 | x::xs,y::ys=>eN x y&&aAP xs ys
 | _,_=>false
end
def aCM:Option XB→Option XB→Bool
 | some (.blk _ (.cells w xs)),some (.blk _ (.cells w' ys))=>w==w'&&eN xs ys
 | _,_=>false

def nmB:XB→List Nat
 | .blk false (.cells _ cs)=>nP cs
 | .blk false (.map _ es)=>es.flatMap fun p=>kU p.1++kU p.2
 | .loop _ _ vs _=>nP vs
 | _=>[]
def nmO:Option XB→List Nat
 | some x=>nmB x
 | none=>[]
def rnB (s:Nat→Option Nat):XB→XB
 | .blk false (.cells w cs)=>.blk false (.cells w (lI s cs))
 | .blk false (.map w es)=>.blk false (.map w (es.map fun p=>(rnA s p.1,rnA s p.2)))
 | .loop K site vs st=>.loop K site (lI s vs) st
 | x=>x
def rnO (s:Nat→Option Nat):Option XB→Option XB
 | some x=>some (rnB s x)
 | none=>none
def fzB (b:Nat) (cs:List AV):XB→XB
 | .blk false (.cells w vs)=>.blk (jK (uY b cs vs)) (.cells w (uY b cs vs))
 | .blk false (.map w es)=>.blk false (.map w (es.map fun p=>(uZ b cs p.1,uZ b cs p.2)))
 | x=>x
def fzO (b:Nat) (cs:List AV):Option XB→Option XB
 | some x=>some (fzB b cs x)
 | none=>none

def aJ (h:XH) (b:Nat):Option XB:=h.getD b none
def aF (h:XH):Hp:=fun b=>match aJ h b with
 | some (.blk _ x)=>some x
 | _=>none

def eT (h:XH) (k:Nat):Nat→List Nat→List Nat→List Nat
 | 0,_,acc=>acc
 | _+1,[],acc=>acc
 | n+1,b::r,acc=>if b<k∨b∈acc then eT h k n r acc else
   match aJ h b with
   | none=>eT h k n r acc
   | some x=>eT h k n (nmB x++r) (acc++[b])
def qM:Nat:=4096

def fO (b:Nat):List Nat→Option Nat
 | []=>none
 | c::r=>if b=c then some 0 else (fO b r).map (· + 1)

def eD:List Nat→List AV→aD
 | k::ks,v::vs=>fun j=>if j=k then v else eD ks vs j
 | _,_=>anyE

def keepS (k:Nat) (acc:List Nat):Nat→Option Nat:=fun b=>if b<k then some b else (fO b acc).map (· + k)
def cN:Nat→XH→XH
 | 0,_=>[]
 | n+1,[]=>none::cN n []
 | n+1,x::xs=>x::cN n xs
def mX (k:Nat) (acc:List Nat) (h:XH):XH:=(cN k h).map (rnO (keepS k acc))++acc.map fun b=>rnO (keepS k acc) (aJ h b)
def dP (k:Nat) (vs:List AV) (h:XH):List Nat:=eT h k qM (nP vs++(cN k h).flatMap nmO) []

def lD (k:Nat) (L:List Nat) (e:aD) (h:XH):aD:=eD L (lI (keepS k (dP k (L.map e) h)) (L.map e))
def oF (k:Nat) (L:List Nat) (e:aD) (h:XH):XH:=mX k (dP k (L.map e) h) h

def fz1 (b:Nat) (e:aD) (h:XH):aD×XH:=match aJ h b with
 | some (.blk true (.cells _ cs))=>(fun j=>uZ b cs (e j),(h.map (fzO b cs)).set b none)
 | _=>(e,h)
def uX:List Nat→aD→XH→aD×XH
 | [],e,h=>(e,h)
 | b::r,e,h=>uX r (fz1 b e h).1 (fz1 b e h).2
def aNn (f:List Nat→List Nat) (b:Nat):Option XB→List Nat
 | some (.blk false (.cells _ cs))=>f (slL cs)++[b]
 | _=>[b]
def jW (h:XH):Nat→List Nat→List Nat
 | 0,l=>l
 | n+1,l=>l.flatMap fun b=>aNn (jW h n) b (aJ h b)
def aKb (e:aD) (h:XH):Nat×Bool→List Nat
 | (j,false)=>jW h 2 (uM (e j))
 | (j,true)=>match e j with
   | .pt b _=>match aJ h b with
     | some (.blk false (.cells _ cs))=>jW h 2 (slL cs)
     | _=>[]
   | _=>[]
def nzE:List (Nat×Bool)→aD→aD
 | [],e=>e
 | (_,true)::r,e=>nzE r e
 | (k,false)::r,e=>fun j=>if j=k then oI (nzE r e j) else nzE r e j
def aFA (v:AV) (h:XH):XH:=match v with
 | .sl b 0 s n=>match aJ h b with
   | some (.blk g (.cells w cs))=>h.set b (some (.blk g (.cells w (cs.take (n*s)))))
   | _=>h
 | _=>h
def rK:List (Nat×Bool)→aD→XH→XH
 | [],_,h=>h
 | (k,_)::r,e,h=>if 1000000≤k then aFA (e (k-1000000)) (rK r e h) else rK r e h
def aOQ (fz:List (Nat×Bool)) (e:aD) (h:XH):aD×XH:=(nzE fz (uX (fz.flatMap (aKb e h)) e h).1,(uX (fz.flatMap (aKb e h)) e h).2)
def sE (fz:List (Nat×Bool)) (e:aD) (h:XH):aD×XH:=aOQ fz e (rK fz e h)

def gZ (h:XH):AV→Bool
 | .sb b _=>match aJ h b with
   | some (.blk g _)=>g
   | _=>false
 | .sl b _ _ _=>match aJ h b with
   | some (.blk g _)=>g
   | _=>false
 | .any=>false
 | _=>true
def gF (op:DOp) (e:aD) (h:XH):Bool:=match op with
 | .alloc z=>jK z
 | .box x=>fX (aG e x)
 | .bslice _ _ z ps=>jK z&&ps.all fun p=>fX (aG e p.2.2)
 | .mksl _ _ z _ _=>jK z
 | .mkmap=>true
 | .allocb=>true
 | .mkchan _=>true
 | .bytes _=>true
 | .rngs _=>true
 | .app _ _ x y=>gZ h (aG e x)&&gZ h (aG e y)
 | _=>false

def oL (h:XH) (own:Option Nat) (g:Bool) (x:ABlk):XH:=(match own with
 | some b=>h.set b none
 | none=>h)++[some (.blk g x)]

def lU (n:Nat) (h:XH) (p x:AV):Option XH:=match p with
 | .pt b o=>match aJ h b,cellsOf x with
   | some (.blk g (.cells true cs)),some vs=>if vs.length=n∧o+n≤cs.length then some (h.set b (some (.blk (g&&jK vs) (.cells true (bH cs o vs))))) else none
   | _,_=>none
 | _=>none

def oX (q:Bool) (h:XH) (m k x:AV):Option XH:=match m with
 | .mp b=>match aJ h b with
   | some (.blk g (.map true es))=>(kS q k x es).map fun es'=>h.set b (some (.blk (g&&(fX k&&fX x)) (.map true es')))
   | _=>none
 | _=>none

def aKS (h:XH) (x:AV):Option (AV×XH):=match x with
 | .pt b 0=>match aJ h b with
   | some (.blk g (.obj true (.stringIter s pos)))=>if pos<s.size then some (.tup [.bool true,.int .i64 (pos:Int),.int .i32 (Utf8.decode s pos).1],h.set b (some (.blk g (.obj true (.stringIter s (pos+(Utf8.decode s pos).2)))))) else some (.tup [.bool false],h)
   | _=>none
 | _=>none

def aFv (h:XH) (c x:AV):Option XH:=match c with
 | .ch b=>match aJ h b with
   | some (.blk g (.map true es))=>match lT es with
     | some (cap,false,r)=>if r.length<cap then some (h.set b (some (.blk (g&&fX x) (.map true (hO cap false::(r++[(.nilifc,x)])))))) else none
     | _=>none
   | _=>none
 | _=>none
def aFw (ok:Bool) (z:AV) (h:XH) (c:AV):Option (AV×XH):=match c with
 | .ch b=>match aJ h b with
   | some (.blk g (.map true es))=>match lT es with
     | some (cap,cl,(_,v)::r)=>some (aES ok v true,h.set b (some (.blk g (.map true (hO cap cl::r)))))
     | some (cap,true,[])=>some (aES ok z false,h.set b (some (.blk g (.map true [hO cap true]))))
     | _=>none
   | _=>none
 | _=>none
def aEh (h:XH) (b:Nat):Option XH:=match aJ h b with
 | some (.blk g (.map true es))=>match lT es with
   | some (cap,false,r)=>some (h.set b (some (.blk g (.map true (hO cap true::r)))))
   | _=>none
 | _=>none

def xF (s:Nat) (h:XH) (x y:AV):Option (Nat×XH):=match x,eF s (aF h) y with
 | .sl b o s' len,some (n,new)=>match aJ h b with
   | some (.blk g (.cells true cs))=>if s'=s∧o+len*s≤cs.length then some (min n len,h.set b (some (.blk (g&&gZ h y) (.cells true (bH cs o (new.take (min n len*s))))))) else none
   | _=>none
 | _,_=>none

def roX:Option XB→Option XB
 | some (.blk g x)=>some (.blk g x.ro)
 | _=>none

abbrev bZ:=Nat→List AV→XH→Option (AV×XH)
abbrev cV:=AV→List AV→XH→Option (AV×XH)

def dT (xs:List AV) (h:XH):List Nat:=eT h 0 qM (nP xs) []
def qO (b:Bool) (all:List AV) (h:XH):List Nat:=match b with
 | true=>(List.range h.length).filter fun b=>(aJ h b).isSome
 | false=>dT all h
def fW (fv:AV) (as:List AV) (h:XH):List Nat:=match fv with
 | .fn (.func g) first cap=>qO (fP g) (first++as++cap) h
 | v=>dT (v::as) h
def fS (acc:List Nat) (h:XH):XH:=acc.map fun b=>rnO (fun b=>fO b acc) (aJ h b)
def eX (acc:List Nat) (n:Nat):Nat→Option Nat:=fun i=>if i<acc.length then acc[i]? else some (n+(i-acc.length))
def rG (h:XH):List Nat→XH→XH
 | b::bs,x::xs=>rG (h.set b x) bs xs
 | _,_=>h
def gJ (acc:List Nat) (h hl:XH):XH:=rG h acc ((cN acc.length hl).map (rnO (eX acc h.length)))++(hl.drop acc.length).map (rnO (eX acc h.length))
def rW (acc:List Nat) (h:XH) (r:AV×XH):AV×XH:=(rnA (eX acc h.length) r.1,gJ acc h r.2)

def wH (run:bZ) (g:Nat) (all:List AV) (h:XH):Bool→Option (AV×XH)
 | true=>run g all h
 | false=>let acc:=dT all h
   (run g (lI (fun b=>fO b acc) all) (fS acc h)).map (rW acc h)
def eQ (run:bZ) (runY:cV) (fv:AV) (as:List AV) (h:XH):Option (AV×XH):=match fv with
 | .fn (.func g) first cap=>wH run g (first++as++cap) h (fP g)
 | .fn (.yield l) [] [] =>
   let acc:=fW (.fn (.yield l) [] []) as h
   (runY (rnA (fun b=>fO b acc) (.fn (.yield l) [] [])) (lI (fun b=>fO b acc) as) (fS acc h)).map (rW acc h)
 | _=>none

def ghO:Option XB→Bool
 | some (.gh _ _)=>true
 | _=>false
def aBm:XH→XH→Bool
 | x::xs,y::ys=>(x.isNone||(y.isSome && !ghO x))&&aBm xs ys
 | [],_=>true
 | _,[]=>false

def lE (run:bZ) (fv:AV) (as:List AV) (h:XH):Option AV:=match fv with
 | .fn (.func g) first cap =>
   let all:=first++as++cap
   let acc:=dT all h
   match run g (lI (fun b=>fO b acc) all) ((fS acc h).map roX)with
   | some (v,hl)=>if gdA v&&aBm (fS acc h) hl then some v else none
   | none=>none
 | _=>none

def bT (run:bZ) (runY:cV) (d:Option Nat) (op:DOp) (e:aD) (h:XH):Option (aD×XH):=match op with
 | .store n p x _=>(lU n h (aG e p) (aG e x)).map fun h'=>(aP e d .any,h')
 | .copy s x y=>(xF s h (aG e x) (aG e y)).map fun r=>(aP e d (.int .i64 (r.1:Int)),r.2)
 | .mapup q m k x=>(oX q h (aG e m) (aG e k) (aG e x)).map fun h'=>(aP e d .any,h')
 | .nxts x=>(aKS h (aG e x)).map fun r=>(aP e d r.1,r.2)
 | .send c x=>(aFv h (aG e c) (aG e x)).map fun h'=>(aP e d .any,h')
 | .recv ok z c=>(aFw ok z h (aG e c)).map fun r=>(aP e d r.1,r.2)
 | .callf true f xs _=>(lE run (aG e f) (xs.map (aG e)) h).map fun v=>(aP e d v,h)
 | .callf false f xs _=>(eQ run runY (aG e f) (xs.map (aG e)) h).map fun r=>(aP e d r.1,r.2)
 | op=>match aA op e (aF h)with
   | some (.val v)=>some (aP e d v,h)
   | some (.new own x f)=>some (aP e d (f h.length),oL h own (gF op e h) x)
   | none=>none

def dM (run:bZ) (runY:cV):List DOper→aD→XH→Option (aD×XH)
 | [],e,h=>some (e,h)
 | o::r,e,h=>match gd o e with
   | some true=>(bT run runY o.dst o.op e h).bind fun s=>dM run runY r s.1 s.2
   | some false=>dM run runY r (aP e o.dst (.tup [])) h
   | none=>none

def aHi (ix:Nat) (op:DOp) (e:aD) (L:List (Nat×Nat)):List (Nat×Nat):=match op with
 | .load _ _ x=>match dZ (aG e x)with
   | some b=>(ix,b)::L
   | none=>L
 | _=>L
def pP (op:DOp) (e:aD) (h:XH) (L:List (Nat×Nat)):Bool:=match op with
 | .store _ p _ l=>L.all fun q => !l.contains q.1||dZ (aG e p) != some q.2
 | .app _ _ x _=>L.all fun q=>dZ (aG e x) != some q.2
 | _=>true
def wV (op:DOp) (e:aD) (h h':XH) (L:List (Nat×Nat)):Bool:=match op with
 | .callf false f xs l=>L.all fun q=>(aJ h' q.2).isSome&&(!l.contains q.1||(!(fW (aG e f) (xs.map (aG e)) h).contains q.2||aCM (aJ h q.2) (aJ h' q.2)))
 | _=>true
def dK (run:bZ) (runY:cV):List DOper→aD→XH→List (Nat×Nat)→Option (aD×XH)
 | [],e,h,_=>some (e,h)
 | o::r,e,h,L=>match gd o e with
   | some true=>if pP o.op e h L then (bT run runY o.dst o.op e h).bind fun s=>if wV o.op e h s.2 L then dK run runY r s.1 s.2 (aHi o.ix o.op e L) else none else none
   | some false=>dK run runY r (aP e o.dst (.tup [])) h L
   | none=>none

def jQ (step:aD→XH→Option (DX×aD×XH)) (k:Nat) (L:List Nat):Nat→aD→XH→Option (DX×aD×XH)
 | 0,_,_=>none
 | n+1,e,h=>match step (lD k L e h) (oF k L e h)with
   | some (.normal,e',h')=>jQ step k L n e' h'
   | r=>r

def fE (h:XH) (l:Nat):Option LSt:=match aJ h l with
 | some (.loop _ _ _ s)=>some s
 | _=>none
def loopTo (h:XH) (l:Nat) (s:LSt):XH:=match aJ h l with
 | some (.loop K site vs _)=>h.set l (some (.loop K site vs s))
 | _=>h
def uT:AV→Bool
 | .fn (.func _) _ _=>true
 | _=>false
def uU (rd:Option Nat) (h:XH):Bool:=match rd with
 | none=>true
 | some l=>match fE h l with
   | some .busy=>true
   | _=>false

def aU (run:bZ) (runY:cV) (K k n:Nat) (rd:Option Nat):XCode→aD→XH→Option (DX×aD×XH)
 | .skip,e,h=>some (.normal,e,h)
 | .reg fz draw ops,e,h=>(if draw then dK run runY ops (sE fz e h).1 (sE fz e h).2 [] else dM run runY ops (sE fz e h).1 (sE fz e h).2).map fun r=>(.normal,r.1,r.2)
 | .seq a b,e,h=>match aU run runY K k n rd a e h with
   | some (.normal,e',h')=>aU run runY K k n rd b e' h'
   | r=>r
 | .cond c a b,e,h=>match aG e c with
   | .bool true=>aU run runY K k n rd a e h
   | .bool false=>aU run runY K k n rd b e h
   | _=>none
 | .block id a,e,h=>match aU run runY K k n rd a e h with
   | some (.exit j,e',h')=>if j=id then some (.normal,e',h') else some (.exit j,e',h')
   | r=>r
 | .loop L a,e,h=>jQ (aU run runY K k n rd a) k L n e h
 | .scope a,e,h=>aU run runY K k n rd a e h
 | .rng site L f _ _ _,e,h=>if uU rd h&&uT (aG e f) then
   match eQ run runY (aG e f) [.fn (.yield h.length) [] []] (h++[some (.loop K site (L.map e) .ready)])with
   | some (_,h')=>match fE h' h.length with
     | some .ready=>some (.normal,e,h'.set h.length none)
     | some (.done x)=>some (x,e,h'.set h.length none)
     | _=>none
   | none=>none
   else none
 | .exit id,e,h=>some (.exit id,e,h)
 | .ret,e,h=>some (.ret,e,h)

def cT:XCode→Nat→Option (List Nat×List Nat×XCode×XCode)
 | .seq a b,s | .cond _ a b,s=>match cT a s with
   | some r=>some r
   | none=>cT b s
 | .block _ a,s | .loop _ a,s | .scope a,s=>cT a s
 | .rng s' L _ ps a b,s=>if s'=s then some (L,ps,a,b) else match cT a s with
   | some r=>some r
   | none=>cT b s
 | _,_=>none

def iZ (own:Bool) (k:Nat) (v:AV) (h:XH):AV×XH :=
 let p:=if own then (upd anyE 0 v,h) else uX (jW h 2 (uM v)) (upd anyE 0 v) h
 let u:=if own then p.1 0 else oI (p.1 0)
 let acc:=dP k [u] p.2
 (rnA (keepS k acc) u,mX k acc p.2)

def aKq (x k:Nat) (r:Option (aD×XH)) (f:Nat→aD→XH→Option (AV×XH)):Option (AV×XH):=match r with
 | some (e1,h1)=>match e1 x with
   | .ch b=>if b<k then f b e1 h1 else none
   | _=>none
 | none=>none
def aPa (c:Option Nat) (h:XH):Option XH:=match c with
 | none=>some h
 | some b=>aEh h b
def fV (c:Option Nat) (res:List (Nat×Option (Bool×Nat))) (own:Bool) (k:Nat) (r:Option (DX×aD×XH)):Option (AV×XH):=match r with
 | some (.exit _,_,_)=>none
 | some (_,e,h')=>(aPa c h').bind fun h''=>(fD res e (aF h'')).map fun v=>iZ own k v h''
 | none=>none

def aAv (res:List (Nat×Option (Bool×Nat))) (r:Option (DX×aD×XH)):Option (AV×XH):=match r with
 | some (.exit _,_,_)=>none
 | some (_,e,h')=>(fD res e (aF h')).map fun v=>(v,h')
 | none=>none
def aEz (g:Bool) (res:List (Nat×Option (Bool×Nat))) (own:Bool) (k:Nat) (r:Option (DX×aD×XH)):Option (AV×XH):=match g with
 | true=>aAv res r
 | false=>fV none res own k r

def vN (D:Nat→Option XFn) (run:bZ) (runY:cV) (n:Nat):bZ:=fun K as h=>match D K with
 | none=>none
 | some d=>match d.prm with
   | some f=>f as h
   | none=>if as.length≤d.N then match d.dfr with
     | none=>aEz (fP K) d.res d.ownR h.length (aU run runY K h.length n none d.body (aM (if d.ownA then as else jJ as)) h)
     | some (l,x)=>aKq x h.length (dM run runY l (aM (if d.ownA then as else jJ as)) h) fun b e1 h1 =>
       fV (some b) d.res d.ownR h.length (aU run runY K h.length n none d.body e1 h1)
     else none
def xL (D:Nat→Option XFn) (run:bZ) (runY:cV) (n:Nat):cV:=fun fv as h=>match fv with
 | .fn (.yield l) [] []=>match aJ h l with
   | some (.loop K site vs .ready)=>match (D K).bind fun d=>cT d.body site with
     | none=>none
     | some (L,ps,a,b)=>if as.length=ps.length then match aU run runY K h.length n (some l) a (nL (eD L vs) ps as) h with
       | some (.normal,e1,h1)=>match fE h1 l with
         | some .ready=>match aU run runY K h.length n (some l) b e1 (loopTo h1 l .busy)with
           | some (x,_,h2)=>match fE h2 l with
             | some .busy=>some (match x with
               | .normal=>iZ true h.length (.bool true) (loopTo h2 l .ready)
               | x=>iZ true h.length (.bool false) (loopTo h2 l (.done x)))
             | _=>none
           | none=>none
         | _=>none
       | _=>none
       else none
   | _=>none
 | _=>none
mutual
def bU (D:Nat→Option XFn):Nat→bZ
 | 0=>fun _ _ _=>none
 | n+1=>vN D (bU D n) (bG D n) n
def bG (D:Nat→Option XFn):Nat→cV
 | 0=>fun _ _ _=>none
 | n+1=>xL D (bU D n) (bG D n) n
end

structure YI where
 K:Nat
 site:Nat
 env:aD
 oR:Obj
 oB:Obj
 oD:Code→Obj

inductive Gd:AV→Prop where
 | int (k:IntKind) (n:Int):Gd (.int k n)
 | bool (b:Bool):Gd (.bool b)
 | str (s:ByteArray):Gd (.str s)
 | agg (cs:List AV) (h:∀ c∈cs,Gd c):Gd (.agg cs)
 | tup (cs:List AV) (h:∀ c∈cs,Gd c):Gd (.tup cs)
 | fs (rows:List (List AV)) (h:∀ r∈rows,∀ c∈r,Gd c):Gd (.fs rows)
 | fp (rows:List (List AV)) (i o:Nat) (h:∀ r∈rows,∀ c∈r,Gd c):Gd (.fp rows i o)
 | nilsl:Gd .nilsl
 | nilpt:Gd .nilpt
 | nilmap:Gd .nilmap
 | nilfn:Gd .nilfn
 | nilifc:Gd .nilifc
 | fn (f:Fn) (first cap:List AV) (hf:∀ l,f ≠ .yield l) (h1:∀ c∈first,Gd c) (h2:∀ c∈cap,Gd c):Gd (.fn f first cap)
 | ifc (t:TypeId) (v:AV) (h:Gd v):Gd (.ifc t v)

inductive Rn (D:Nat→Option XFn) (Y:Nat→Option YI) (r:Nat→Option Nat):AV→AV→Prop where
 | any (v:AV):Rn D Y r .any v
 | int (k:IntKind) (n:Int):Rn D Y r (.int k n) (.int k n)
 | bool (b:Bool):Rn D Y r (.bool b) (.bool b)
 | str (s:ByteArray):Rn D Y r (.str s) (.str s)
 | agg (xs ys:List AV) (hl:xs.length=ys.length) (h:∀ (i:Nat) (x y:AV),xs[i]?=some x→ys[i]?=some y→Rn D Y r x y):Rn D Y r (.agg xs) (.agg ys)
 | tup (xs ys:List AV) (hl:xs.length=ys.length) (h:∀ (i:Nat) (x y:AV),xs[i]?=some x→ys[i]?=some y→Rn D Y r x y):Rn D Y r (.tup xs) (.tup ys)
 | fs (rows:List (List AV)) (h:∀ r∈rows,∀ c∈r,Gd c):Rn D Y r (.fs rows) (.fs rows)
 | fp (rows:List (List AV)) (i o:Nat) (h:∀ r∈rows,∀ c∈r,Gd c):Rn D Y r (.fp rows i o) (.fp rows i o)
 | sl (b c o s n:Nat) (hr:r b=some c):Rn D Y r (.sl b o s n) (.sl c o s n)
 | pt (b c o:Nat) (hr:r b=some c):Rn D Y r (.pt b o) (.pt c o)
 | mp (b c:Nat) (hr:r b=some c):Rn D Y r (.mp b) (.mp c)
 | ch (b c:Nat) (hr:r b=some c):Rn D Y r (.ch b) (.ch c)
 | sb (b c n:Nat) (hr:r b=some c):Rn D Y r (.sb b n) (.sb c n)
 | bp (b c:Nat) (hr:r b=some c):Rn D Y r (.bp b) (.bp c)
 | nilsl:Rn D Y r .nilsl .nilsl
 | nilpt:Rn D Y r .nilpt .nilpt
 | nilmap:Rn D Y r .nilmap .nilmap
 | nilfn:Rn D Y r .nilfn .nilfn
 | nilifc:Rn D Y r .nilifc .nilifc
 | fn (f:Fn) (xs ys us vs:List AV) (hf:∀ l,f ≠ .yield l) (hl1:xs.length=ys.length) (h1:∀ (i:Nat) (x y:AV),xs[i]?=some x→ys[i]?=some y→Rn D Y r x y)
  (hl2:us.length=vs.length) (h2:∀ (i:Nat) (x y:AV),us[i]?=some x→vs[i]?=some y→Rn D Y r x y):Rn D Y r (.fn f xs us) (.fn f ys vs)
 | yield (l c:Nat) (hr:r l=some c):Rn D Y r (.fn (.yield l) [] []) (.fn (.yield c) [] [])
 | ifc (t:TypeId) (x y:AV) (h:Rn D Y r x y):Rn D Y r (.ifc t x) (.ifc t y)

def RnL (D:Nat→Option XFn) (Y:Nat→Option YI) (r:Nat→Option Nat) (xs ys:List AV):Prop:=xs.length=ys.length∧∀ (i:Nat) (x y:AV),xs[i]?=some x→ys[i]?=some y→Rn D Y r x y

section
variable {D:Nat→Option XFn} {Y:Nat→Option YI} {r:Nat→Option Nat}

theorem RnL.nil:RnL D Y r [] []:=⟨rfl,by simp⟩
theorem RnL.cons {x y:AV} {xs ys:List AV} (h:Rn D Y r x y) (hs:RnL D Y r xs ys):RnL D Y r (x::xs) (y::ys):=⟨by simp[hs.1],fun i a b ha hb=>by
 cases i with
 | zero=>simp at ha hb;subst ha hb;exact h
 | succ i=>exact hs.2 i a b (by simpa using ha) (by simpa using hb)⟩
theorem RnL.inv {x:AV} {xs ys:List AV} (h:RnL D Y r (x::xs) ys):∃ y ys',ys=y::ys'∧Rn D Y r x y∧RnL D Y r xs ys':=by
 cases ys with
 | nil=>have:=h.1;simp at this
 | cons y ys'=>exact⟨y,ys',rfl,h.2 0 x y rfl rfl,by have:=h.1;simpa using this,fun i a b ha hb=>h.2 (i+1) a b (by simpa using ha) (by simpa using hb)⟩
theorem RnL.nil_inv {ys:List AV} (h:RnL D Y r [] ys):ys=[]:=List.eq_nil_of_length_eq_zero (by have:=h.1;simpa using this.symm)
theorem RnL.append {xs ys xs' ys':List AV} (h:RnL D Y r xs ys) (h':RnL D Y r xs' ys'):RnL D Y r (xs++xs') (ys++ys'):=⟨by simp[h.1,h'.1],fun i a b ha hb=>by
 rw[List.getElem?_append]at ha hb
 rw[←h.1]at hb
 split at ha
 ·rw[if_pos ‹_›]at hb;exact h.2 i a b ha hb
 ·rw[if_neg ‹_›]at hb;exact h'.2 _ a b ha hb⟩
theorem RnL.take {xs ys:List AV} (h:RnL D Y r xs ys) (n:Nat):RnL D Y r (xs.take n) (ys.take n):=⟨by simp[h.1],fun i a b ha hb=>by
 rw[List.getElem?_take]at ha hb
 split at ha
 ·rw[if_pos ‹_›]at hb;exact h.2 i a b ha hb
 ·simp at ha⟩
theorem RnL.drop {xs ys:List AV} (h:RnL D Y r xs ys) (n:Nat):RnL D Y r (xs.drop n) (ys.drop n):=⟨by simp[h.1],fun i a b ha hb=>by
 rw[List.getElem?_drop]at ha hb
 exact h.2 _ a b ha hb⟩
theorem RnL.map {α:Type} {f g:α→AV} {l:List α} (h:∀ x∈l,Rn D Y r (f x) (g x)):RnL D Y r (l.map f) (l.map g):=by
 induction l with
 | nil=>exact RnL.nil
 | cons x l ih=>exact RnL.cons (h x (by simp)) (ih fun y hy=>h y (by simp[hy]))
theorem RnL.get {xs ys:List AV} (h:RnL D Y r xs ys) {i:Nat} {x:AV} (hx:xs[i]?=some x):∃ y,ys[i]?=some y∧Rn D Y r x y:=by
 have hlt:i<ys.length:=by rw[←h.1];exact(List.getElem?_eq_some_iff.1 hx).1
 exact⟨ys[i],List.getElem?_eq_getElem hlt,h.2 i x _ hx (List.getElem?_eq_getElem hlt)⟩
theorem RnL.self {xs:List AV} (h:∀ x∈xs,Rn D Y r x x):RnL D Y r xs xs:=⟨rfl,fun i x y hx hy=>by
 rw[hx]at hy;simp at hy;subst hy;exact h x (List.mem_of_getElem? hx)⟩

theorem Gd.rn {v:AV} (h:Gd v):Rn D Y r v v:=by
 induction h with
 | int k n=>exact .int k n
 | bool b=>exact .bool b
 | str s=>exact .str s
 | agg cs _ ih=>exact .agg cs cs rfl (RnL.self ih).2
 | tup cs _ ih=>exact .tup cs cs rfl (RnL.self ih).2
 | fs rows h _=>exact .fs rows h
 | fp rows i o h _=>exact .fp rows i o h
 | nilsl=>exact .nilsl
 | nilpt=>exact .nilpt
 | nilmap=>exact .nilmap
 | nilfn=>exact .nilfn
 | nilifc=>exact .nilifc
 | fn f first cap hf _ _ ih1 ih2=>exact .fn f first first cap cap hf rfl (RnL.self ih1).2 rfl (RnL.self ih2).2
 | ifc t v _ ih=>exact .ifc t v v ih

theorem eL:∀ {l:List AV},jK l=true→∀ x∈l,fX x=true
 | [],_,x,hx=>by simp at hx
 | v::l,h,x,hx=>by
   simp only[jK,Bool.and_eq_true]at h
   rcases List.mem_cons.1 hx with rfl|hx
   ·exact h.1
   ·exact eL h.2 x hx
theorem dW:∀ {l:List AV},(∀ x∈l,fX x=true)→jK l=true
 | [],_=>rfl
 | v::l,h=>by simp[jK,h v (by simp),dW (l:=l) fun x hx=>h x (by simp[hx])]

theorem mW {xs ys:List AV} (hl:xs.length=ys.length) (h:∀ (i:Nat) (x y:AV),xs[i]?=some x→ys[i]?=some y→y=x∧Gd x):ys=xs∧∀ x∈xs,Gd x:=by
 have h1:∀ i:Nat,ys[i]?=xs[i]?:=fun i=>by
  cases hx:xs[i]? with
  | none=>rw[List.getElem?_eq_none_iff]at hx ⊢;omega
  | some x =>
    have hlt:i<ys.length:=by rw[←hl];exact(List.getElem?_eq_some_iff.1 hx).1
    rw[List.getElem?_eq_getElem hlt,(h i x _ hx (List.getElem?_eq_getElem hlt)).1]
 have h2:ys=xs:=List.ext_getElem? h1
 refine⟨h2,fun x hx=>?_⟩
 obtain⟨i,hi⟩:=List.mem_iff_getElem?.1 hx
 exact(h i x x hi (by rw[h1];exact hi)).2

theorem Rn.same {v v':AV} (h:Rn D Y r v v'):fX v=true→v'=v∧Gd v:=by
 induction h with
 | any v=>intro h;simp[fX]at h
 | int k n=>exact fun _=>⟨rfl,.int k n⟩
 | bool b=>exact fun _=>⟨rfl,.bool b⟩
 | str s=>exact fun _=>⟨rfl,.str s⟩
 | agg xs ys hl _ ih =>
   intro h
   simp only[fX]at h
   obtain⟨rfl,h2⟩:=mW hl fun i x y hx hy=>ih i x y hx hy (eL h x (List.mem_of_getElem? hx))
   exact⟨rfl,.agg _ h2⟩
 | tup xs ys hl _ ih =>
   intro h
   simp only[fX]at h
   obtain⟨rfl,h2⟩:=mW hl fun i x y hx hy=>ih i x y hx hy (eL h x (List.mem_of_getElem? hx))
   exact⟨rfl,.tup _ h2⟩
 | fs rows h=>exact fun _=>⟨rfl,.fs rows h⟩
 | fp rows i o h=>exact fun _=>⟨rfl,.fp rows i o h⟩
 | sl=>intro h;simp[fX]at h
 | pt=>intro h;simp[fX]at h
 | mp=>intro h;simp[fX]at h
 | ch=>intro h;simp[fX]at h
 | sb=>intro h;simp[fX]at h
 | bp=>intro h;simp[fX]at h
 | nilsl=>exact fun _=>⟨rfl,.nilsl⟩
 | nilpt=>exact fun _=>⟨rfl,.nilpt⟩
 | nilmap=>exact fun _=>⟨rfl,.nilmap⟩
 | nilfn=>exact fun _=>⟨rfl,.nilfn⟩
 | nilifc=>exact fun _=>⟨rfl,.nilifc⟩
 | fn f xs ys us vs hf hl1 _ hl2 _ ih1 ih2 =>
   intro h
   have h:jK xs=true∧jK us=true:=by
    cases f<;>simp only[fX,Bool.and_eq_true]at h<;>first|exact h.2|(exact absurd rfl (hf _))
   obtain⟨rfl,h2⟩:=mW hl1 fun i x y hx hy=>ih1 i x y hx hy (eL h.1 x (List.mem_of_getElem? hx))
   obtain⟨rfl,h3⟩:=mW hl2 fun i x y hx hy=>ih2 i x y hx hy (eL h.2 x (List.mem_of_getElem? hx))
   exact⟨rfl,.fn f _ _ hf h2 h3⟩
 | yield=>intro h;simp[fX]at h
 | ifc t x y _ ih =>
   intro h
   simp only[fX]at h
   obtain⟨rfl,h2⟩:=ih h
   exact⟨rfl,.ifc t _ h2⟩
theorem RnL.same {xs ys:List AV} (h:RnL D Y r xs ys) (hg:jK xs=true):ys=xs∧∀ x∈xs,Gd x :=
 mW h.1 fun i x y hx hy=>(h.2 i x y hx hy).same (eL hg x (List.mem_of_getElem? hx))

mutual
theorem aEU:∀ v:AV,gdA v=true→Gd v
 | .agg cs,h=>.agg cs (uW cs (by simpa [gdA]using h))
 | .tup cs,h=>.tup cs (uW cs (by simpa [gdA]using h))
 | .fs rows,h=>.fs rows (aET rows (by simpa [gdA]using h))
 | .fp rows i o,h=>.fp rows i o (aET rows (by simpa [gdA]using h))
 | .sl ..,h=>by simp[gdA]at h
 | .pt ..,h=>by simp[gdA]at h
 | .mp _,h=>by simp[gdA]at h
 | .ch _,h=>by simp[gdA]at h
 | .sb ..,h=>by simp[gdA]at h
 | .bp ..,h=>by simp[gdA]at h
 | .any,h=>by simp[gdA]at h
 | .fn f first cap,h=>by
   simp only[gdA,Bool.and_eq_true]at h
   exact .fn f first cap (fun l e=>by subst e;simp at h) (uW first h.2.1) (uW cap h.2.2)
 | .ifc t v,h=>.ifc t v (aEU v (by simpa [gdA]using h))
 | .int k n,_=>.int k n
 | .bool b,_=>.bool b
 | .str s,_=>.str s
 | .nilsl,_=>.nilsl
 | .nilpt,_=>.nilpt
 | .nilmap,_=>.nilmap
 | .nilfn,_=>.nilfn
 | .nilifc,_=>.nilifc
theorem uW:∀ l:List AV,gdL l=true→∀ c∈l,Gd c
 | [],_=>by simp
 | v::l,h=>by
   have h1:=aEU v (by simp only[gdL,Bool.and_eq_true]at h;exact h.1)
   have h2:=uW l (by simp only[gdL,Bool.and_eq_true]at h;exact h.2)
   intro c hc
   rcases List.mem_cons.1 hc with rfl|hc
   ·exact h1
   ·exact h2 c hc
theorem aET:∀ l:List (List AV),gdR l=true→∀ r∈l,∀ c∈r,Gd c
 | [],_=>by simp
 | v::l,h=>by
   have h1:=uW v (by simp only[gdR,Bool.and_eq_true]at h;exact h.1)
   have h2:=aET l (by simp only[gdR,Bool.and_eq_true]at h;exact h.2)
   intro c hc
   rcases List.mem_cons.1 hc with rfl|hc
   ·exact h1
   ·exact h2 c hc
end
theorem Gd.gr {v:AV} (hv:Gd v):fX v=true:=by
 induction hv with
 | agg cs _ ih=>simp only[fX];exact dW ih
 | tup cs _ ih=>simp only[fX];exact dW ih
 | fn f first cap hf _ _ ih1 ih2=>cases f<;>simp only[fX,dW ih1,dW ih2,Bool.and_self]<;>exact absurd rfl (hf _)
 | ifc t v _ ih=>simpa [fX]using ih
 | _=>rfl

theorem tL (s:Nat→Option Nat):∀ l:List AV,lI s l=l.map (rnA s)
 | []=>rfl
 | v::l=>by simp[lI,tL s l]
theorem Gd.rnA {v:AV} (h:Gd v) (s:Nat→Option Nat):rnA s v=v:=by
 have ls:∀ {cs:List AV},(∀ c∈cs,Go.DL.rnA s c=c)→lI s cs=cs:=fun {cs} h=>by
  rw[tL]
  induction cs with
  | nil=>rfl
  | cons c cs ih=>simp only[List.map_cons,h c (by simp),ih fun x hx=>h x (by simp[hx])]
 induction h with
 | agg cs _ ih=>simp only[Go.DL.rnA,ls ih]
 | tup cs _ ih=>simp only[Go.DL.rnA,ls ih]
 | fn f first cap hf _ _ ih1 ih2=>cases f<;>simp only[Go.DL.rnA,ls ih1,ls ih2]<;>exact absurd rfl (hf _)
 | ifc t v _ ih=>simp only[Go.DL.rnA,ih]
 | _=>rfl

theorem Rn.renum {r':Nat→Option Nat} {s:Nat→Option Nat} (hs:∀ b c d,s b=some c→r b=some d→r' c=some d) {v v':AV} (h:Rn D Y r v v'):Rn D Y r' (rnA s v) v':=by
 have ls:∀ {xs ys:List AV},xs.length=ys.length→(∀ (i:Nat) (x y:AV),xs[i]?=some x→ys[i]?=some y→Rn D Y r' (Go.DL.rnA s x) y)→RnL D Y r' (lI s xs) ys:=fun {xs ys} hl h=>by
  rw[tL]
  refine⟨by simpa using hl,fun i x y hx hy=>?_⟩
  rw[List.getElem?_map,Option.map_eq_some_iff]at hx
  obtain⟨z,hz,rfl⟩:=hx
  exact h i z y hz hy
 induction h with
 | any v=>exact .any v
 | int k n=>exact .int k n
 | bool b=>exact .bool b
 | str t=>exact .str t
 | agg xs ys hl _ ih=>exact .agg _ _ (ls hl ih).1 (ls hl ih).2
 | tup xs ys hl _ ih=>exact .tup _ _ (ls hl ih).1 (ls hl ih).2
 | fs rows h=>exact .fs rows h
 | fp rows i o h=>exact .fp rows i o h
 | sl b d o z n hr =>
   simp only[rnA]
   split
   ·rename_i c hc;exact .sl c d o z n (hs b c d hc hr)
   ·exact .any _
 | pt b d o hr =>
   simp only[rnA]
   split
   ·rename_i c hc;exact .pt c d o (hs b c d hc hr)
   ·exact .any _
 | mp b d hr =>
   simp only[rnA]
   split
   ·rename_i c hc;exact .mp c d (hs b c d hc hr)
   ·exact .any _
 | ch b d hr =>
   simp only[rnA]
   split
   ·rename_i c hc;exact .ch c d (hs b c d hc hr)
   ·exact .any _
 | sb b d n hr =>
   simp only[rnA]
   split
   ·rename_i c hc;exact .sb c d n (hs b c d hc hr)
   ·exact .any _
 | bp b d hr =>
   simp only[rnA]
   split
   ·rename_i c hc;exact .bp c d (hs b c d hc hr)
   ·exact .any _
 | nilsl=>exact .nilsl
 | nilpt=>exact .nilpt
 | nilmap=>exact .nilmap
 | nilfn=>exact .nilfn
 | nilifc=>exact .nilifc
 | fn f xs ys us vs hf hl1 _ hl2 _ ih1 ih2 =>
   cases f with
   | yield l=>exact absurd rfl (hf l)
   | _=>exact .fn _ _ _ _ _ hf (ls hl1 ih1).1 (ls hl1 ih1).2 (ls hl2 ih2).1 (ls hl2 ih2).2
 | yield l c0 hr =>
   simp only[rnA]
   split
   ·rename_i c hc;exact .yield c c0 (hs l c c0 hc hr)
   ·exact .any _
 | ifc t x y _ ih=>exact .ifc t _ _ ih
theorem RnL.renum {r':Nat→Option Nat} {s:Nat→Option Nat} (hs:∀ b c d,s b=some c→r b=some d→r' c=some d) {xs ys:List AV} (h:RnL D Y r xs ys):RnL D Y r' (lI s xs) ys:=by
 rw[tL]
 refine⟨by simpa using h.1,fun i x y hx hy=>?_⟩
 rw[List.getElem?_map,Option.map_eq_some_iff]at hx
 obtain⟨z,hz,rfl⟩:=hx
 exact(h.2 i z y hz hy).renum hs

theorem Rn.mono {r':Nat→Option Nat} {Y':Nat→Option YI} (hr:∀ b c,r b=some c→r' b=some c) {v v':AV} (h:Rn D Y r v v'):Rn D Y' r' v v':=by
 induction h with
 | any v=>exact .any v
 | int k n=>exact .int k n
 | bool b=>exact .bool b
 | str t=>exact .str t
 | agg xs ys hl _ ih=>exact .agg _ _ hl ih
 | tup xs ys hl _ ih=>exact .tup _ _ hl ih
 | fs rows h=>exact .fs rows h
 | fp rows i o h=>exact .fp rows i o h
 | sl b c o z n h=>exact .sl b c o z n (hr _ _ h)
 | pt b c o h=>exact .pt b c o (hr _ _ h)
 | mp b c h=>exact .mp b c (hr _ _ h)
 | ch b c h=>exact .ch b c (hr _ _ h)
 | sb b c n h=>exact .sb b c n (hr _ _ h)
 | bp b c h=>exact .bp b c (hr _ _ h)
 | nilsl=>exact .nilsl
 | nilpt=>exact .nilpt
 | nilmap=>exact .nilmap
 | nilfn=>exact .nilfn
 | nilifc=>exact .nilifc
 | fn f xs ys us vs hf hl1 _ hl2 _ ih1 ih2=>exact .fn f _ _ _ _ hf hl1 ih1 hl2 ih2
 | yield l c h1=>exact .yield l c (hr _ _ h1)
 | ifc t x y _ ih=>exact .ifc t _ _ ih
theorem RnL.mono {r':Nat→Option Nat} {Y':Nat→Option YI} (hr:∀ b c,r b=some c→r' b=some c) {xs ys:List AV} (h:RnL D Y r xs ys):RnL D Y' r' xs ys :=
 ⟨h.1,fun i x y hx hy=>(h.2 i x y hx hy).mono hr⟩

def aTq:AV→Bool
 | .int _ _=>true
 | _=>false
mutual
def tP:AV→Bool
 | .agg cs=>okL cs
 | .tup vs=>okL vs
 | .sl .. | .pt .. | .mp _ | .ch _ | .sb .. | .bp _=>false
 | .fp rows _ _=>rows.all fun r=>r.all aTq
 | .fs rows=>rows.isEmpty
 | .fn f first cap=>(match f with | .yield _=>false|_=>true)&&(okL first&&okL cap)
 | .ifc _ v=>tP v
 | _=>true
def okL:List AV→Bool
 | []=>true
 | v::r=>tP v&&okL r
end

mutual
theorem pM:∀ v:AV,tP v=true→Rn D Y r v v
 | .agg cs,h=>.agg cs cs rfl (nM cs (by simpa [tP]using h)).2
 | .tup cs,h=>.tup cs cs rfl (nM cs (by simpa [tP]using h)).2
 | .sl ..,h=>by simp[tP]at h
 | .pt ..,h=>by simp[tP]at h
 | .mp _,h=>by simp[tP]at h
 | .ch _,h=>by simp[tP]at h
 | .sb ..,h=>by simp[tP]at h
 | .bp ..,h=>by simp[tP]at h
 | .fp rows i o,h=>.fp rows i o fun r hr c hc=>by
   simp only[tP]at h
   have:=List.all_eq_true.1 (List.all_eq_true.1 h r hr) c hc
   cases c<;>simp[aTq]at this
   exact .int _ _
 | .fs rows,h=>by
   simp only[tP,List.isEmpty_iff]at h
   subst h;exact .fs [] (by simp)
 | .fn f first cap,h=>by
   simp only[tP,Bool.and_eq_true]at h
   exact .fn f first first cap cap (fun l e=>by subst e;simp at h) rfl (nM first h.2.1).2 rfl (nM cap h.2.2).2
 | .ifc t v,h=>.ifc t v v (pM v (by simpa [tP]using h))
 | .int k n,_=>.int k n
 | .bool b,_=>.bool b
 | .str s,_=>.str s
 | .nilsl,_=>.nilsl
 | .nilpt,_=>.nilpt
 | .nilmap,_=>.nilmap
 | .nilfn,_=>.nilfn
 | .nilifc,_=>.nilifc
 | .any,_=>.any _
theorem nM:∀ l:List AV,okL l=true→RnL D Y r l l
 | [],_=>RnL.nil
 | v::l,h=>by
   simp only[okL,Bool.and_eq_true]at h
   exact RnL.cons (pM v h.1) (nM l h.2)
end

end
section
variable {D:Nat→Option XFn} {Y:Nat→Option YI} {r:Nat→Option Nat} {e env:aD} {h:XH} {H:Hp}

def oK (i:YI):LSt→Obj→Prop
 | .ready,o=>o=i.oR
 | .busy,o=>o=i.oB
 | .done (.exit id),o=>o=i.oD (.exit id)
 | .done .ret,o=>o=i.oD .ret
 | .done .normal,_=>False

def RnP (D:Nat→Option XFn) (Y:Nat→Option YI) (r:Nat→Option Nat) (xs ys:List (AV×AV)):Prop :=
 xs.length=ys.length∧∀ (i:Nat) (x y:AV×AV),xs[i]?=some x→ys[i]?=some y→Rn D Y r x.1 y.1∧Rn D Y r x.2 y.2

inductive RnB (D:Nat→Option XFn) (Y:Nat→Option YI) (r:Nat→Option Nat):Nat→XB→ABlk→Prop where
 | cells (c:Nat) (g w:Bool) (xs ys:List AV) (h:RnL D Y r xs ys) (hg:g=true→jK xs=true):RnB D Y r c (.blk g (.cells w xs)) (.cells w ys)
 | map (c:Nat) (g w:Bool) (xs ys:List (AV×AV)) (h:RnP D Y r xs ys) (hg:g=true→∀ p∈xs,fX p.1=true∧fX p.2=true):RnB D Y r c (.blk g (.map w xs)) (.map w ys)
 | obj (c:Nat) (g w:Bool) (o:Obj):RnB D Y r c (.blk g (.obj w o)) (.obj w o)
 | loop (c:Nat) (i:YI) (vs:List AV) (s:LSt) (o:Obj) (d:XFn) (L ps:List Nat) (a b:XCode) (hY:Y c=some i) (h:oK i s o) (hD:D i.K=some d) (hs:cT d.body i.site=some (L,ps,a,b))
  (hv:RnL D Y r vs (L.map i.env)):RnB D Y r c (.loop i.K i.site vs s) (.obj true o)
 | gh (c:Nat) (st:dR) (p:Hp→Nat→Prop) (y:ABlk):RnB D Y r c (.gh st p) y

structure SHb (D:Nat→Option XFn) (Y:Nat→Option YI) (r:Nat→Option Nat) (h:XH) (H:Hp):Prop where
 dom:∀ b c,r b=some c→b<h.length
 inj:∀ b b' c x y,aJ h b=some x→aJ h b'=some y→r b=some c→r b'=some c→b=b'
 blk:∀ b x,aJ h b=some x→(∃ g y,x = .blk g y)∧∃ c y,r b=some c∧H c=some y∧RnB D Y r c x y
def GInv (p:Hp→Nat→Prop) (c:Nat) (S:Nat→Prop) (H:Hp):Prop :=
 ∃ (h0:XH) (r0:Nat→Option Nat) (b0:Nat),(∀ D Y,SHb D Y r0 h0 H)∧r0 b0=some c∧p (aF h0) b0∧∀ n,S n↔∃ i x,aJ h0 i=some x∧r0 i=some n
theorem GInv.live {p:Hp→Nat→Prop} {c n:Nat} {S:Nat→Prop} (h:GInv p c S H) (hn:S n):∃ y,H n=some y:=by
 obtain⟨h0,r0,b0,h1,h2,h3,h4⟩:=h
 obtain⟨i,x,k1,k2⟩:=(h4 n).1 hn
 obtain⟨_,c',y,k3,k4,_⟩:=(h1 (fun _=>none) (fun _=>none)).blk i x k1
 rw[k2]at k3;cases k3
 exact⟨y,k4⟩
theorem GInv.mono {p:Hp→Nat→Prop} {c:Nat} {S:Nat→Prop} {H':Hp} (h:GInv p c S H) (hH:∀ n y,S n→H n=some y→H' n=some y):GInv p c S H':=by
 obtain⟨h0,r0,b0,h1,h2,h3,h4⟩:=h
 refine⟨h0,r0,b0,fun D Y=>⟨(h1 D Y).dom,(h1 D Y).inj,fun b x hb=>?_⟩,h2,h3,h4⟩
 obtain⟨k0,c',y,k1,k2,k3⟩:=(h1 D Y).blk b x hb
 exact⟨k0,c',y,k1,hH c' y ((h4 c').2 ⟨b,x,hb,k1⟩) k2,k3⟩
theorem GInv.congr {p:Hp→Nat→Prop} {c:Nat} {S S':Nat→Prop} (h:GInv p c S H) (hS:∀ n,S' n↔S n):GInv p c S' H:=by
 obtain⟨h0,r0,b0,h1,h2,h3,h4⟩:=h
 exact⟨h0,r0,b0,h1,h2,h3,fun n=>(hS n).trans (h4 n)⟩
def GhR (h:XH) (r:Nat→Option Nat) (G:Nat→Nat→Prop) (H:Hp):Prop :=
 (∀ b st p,aJ h b=some (.gh st p)→∃ c,r b=some c∧GInv p c (G b) H) ∧
 ∀ b b' st p x n,aJ h b=some (.gh st p)→aJ h b'=some x→b≠b'→G b n→r b'≠some n∧∀ st' p',x = .gh st' p'→¬G b' n
theorem GhR.no {h:XH} {r:Nat→Option Nat} {H:Hp} (hn:∀ b st p,aJ h b≠some (.gh st p)):∃ G,GhR h r G H :=
 ⟨fun _ _=>False,fun b st p hx=>absurd hx (hn b st p),fun b _ st p _ _ hx=>absurd hx (hn b st p)⟩
theorem GhR.via {h h':XH} {r r':Nat→Option Nat} {G:Nat→Nat→Prop} {H H':Hp} (g:GhR h r G H) (σ:Nat→Nat)
 (h1:∀ b st p,aJ h' b=some (.gh st p)→aJ h (σ b)=some (.gh st p)∧r' b=r (σ b))
 (h2:∀ b x,aJ h' b=some x→(∃ x0,aJ h (σ b)=some x0∧r' b=r (σ b)∧∀ st p,x = .gh st p→x0 = .gh st p) ∨
  ∃ c,r' b=some c∧(∀ a st p,aJ h' a=some (.gh st p)→¬G (σ a) c)∧∀ st p,x ≠ .gh st p)
 (hi:∀ b b' st p x,aJ h' b=some (.gh st p)→aJ h' b'=some x→b≠b'→σ b≠σ b')
 (hH:∀ b st p n y,aJ h' b=some (.gh st p)→G (σ b) n→H n=some y→H' n=some y):GhR h' r' (fun b=>G (σ b)) H':=by
 refine⟨fun b st p hb=>?_,fun b b' st p x n hb hb' hne hn=>?_⟩
 ·obtain⟨k1,k2⟩:=h1 b st p hb
  obtain⟨c,e1,e2⟩:=g.1 (σ b) st p k1
  exact⟨c,k2.trans e1,e2.mono fun n y hn hy=>hH b st p n y hb hn hy⟩
 ·obtain⟨k1,k2⟩:=h1 b st p hb
  rcases h2 b' x hb' with ⟨x0,m1,m2,m3⟩|⟨c,m1,m2,m3⟩
  ·have:=g.2 (σ b) (σ b') st p x0 n k1 m1 (hi b b' st p x hb hb' hne) hn
   exact⟨by rw[m2];exact this.1,fun st' p' hx=>this.2 st' p' (m3 st' p' hx)⟩
  ·exact⟨by rw[m1];intro e;cases e;exact m2 b st p hb hn,fun st' p' hx=>absurd hx (m3 st' p')⟩
def ghX:XB→Bool
 | .gh _ _=>true
 | _=>false

structure SH (D:Nat→Option XFn) (Y:Nat→Option YI) (r:Nat→Option Nat) (h:XH) (H:Hp):Prop where
 dom:∀ b c,r b=some c→b<h.length
 inj:∀ b b' c x y,aJ h b=some x→aJ h b'=some y→r b=some c→r b'=some c→b=b'
 blk:∀ b x,aJ h b=some x→∃ c y,r b=some c∧H c=some y∧RnB D Y r c x y
 gh:∃ G,GhR h r G H

theorem SH.cells (sh:SH D Y r h H) {b c:Nat} (hr:r b=some c) {w:Bool} {cs:List AV} (hb:aF h b=some (.cells w cs)):∃ g cs',aJ h b=some (.blk g (.cells w cs))∧H c=some (.cells w cs')∧RnL D Y r cs cs'∧(g=true→jK cs=true):=by
 unfold aF at hb
 split at hb<;>simp only[oSI,reduceCtorEq]at hb
 rename_i g x hx
 subst hb
 obtain⟨c',y,h0,h1,h2⟩:=sh.blk b _ hx
 rw[hr]at h0
 simp only[oSI]at h0
 subst h0
 cases h2 with
 | cells _ _ _ ys h3 h4=>exact⟨g,ys,hx,h1,h3,h4⟩
theorem SH.map (sh:SH D Y r h H) {b c:Nat} (hr:r b=some c) {w:Bool} {es:List (AV×AV)} (hb:aF h b=some (.map w es)):∃ g es',aJ h b=some (.blk g (.map w es))∧H c=some (.map w es')∧RnP D Y r es es'∧(g=true→∀ p∈es,fX p.1=true∧fX p.2=true):=by
 unfold aF at hb
 split at hb<;>simp only[oSI,reduceCtorEq]at hb
 rename_i g x hx
 subst hb
 obtain⟨c',y,h0,h1,h2⟩:=sh.blk b _ hx
 rw[hr]at h0
 simp only[oSI]at h0
 subst h0
 cases h2 with
 | map _ _ _ ys h3 h4=>exact⟨g,ys,hx,h1,h3,h4⟩

theorem SH.obj (sh:SH D Y r h H) {b c:Nat} (hr:r b=some c) {w:Bool} {o:Obj} (hb:aF h b=some (.obj w o)):∃ g,aJ h b=some (.blk g (.obj w o))∧H c=some (.obj w o):=by
 unfold aF at hb
 split at hb<;>simp only[oSI,reduceCtorEq]at hb
 rename_i g x hx
 subst hb
 obtain⟨c',y,h0,h1,h2⟩:=sh.blk b _ hx
 rw[hr]at h0
 simp only[oSI]at h0
 subst h0
 cases h2 with
 | obj=>exact⟨g,hx,h1⟩

theorem cL {k:IntKind} {n:Int} {v:AV} (h:Rn D Y r (.int k n) v):v = .int k n:=by cases h;rfl
theorem dG {b:Bool} {v:AV} (h:Rn D Y r (.bool b) v):v = .bool b:=by cases h;rfl
theorem bJ {s:ByteArray} {v:AV} (h:Rn D Y r (.str s) v):v = .str s:=by cases h;rfl
theorem iB {b o:Nat} {v:AV} (h:Rn D Y r (.pt b o) v):∃ c,v = .pt c o∧r b=some c:=by cases h;exact⟨_,rfl,‹_›⟩
theorem tJ {b o s n:Nat} {v:AV} (h:Rn D Y r (.sl b o s n) v):∃ c,v = .sl c o s n∧r b=some c:=by cases h;exact⟨_,rfl,‹_›⟩
theorem aIM {b:Nat} {v:AV} (h:Rn D Y r (.bp b) v):∃ c,v = .bp c∧r b=some c:=by cases h;exact⟨_,rfl,‹_›⟩
theorem aIK {b n:Nat} {v:AV} (h:Rn D Y r (.sb b n) v):∃ c,v = .sb c n∧r b=some c:=by cases h;exact⟨_,rfl,‹_›⟩
theorem aAX {b:Nat} {v:AV} (h:Rn D Y r (.ch b) v):∃ c,v = .ch c∧r b=some c:=by cases h;exact⟨_,rfl,‹_›⟩
theorem aCV {b:Nat} {v:AV} (h:Rn D Y r (.mp b) v):∃ c,v = .mp c∧r b=some c:=by cases h;exact⟨_,rfl,‹_›⟩
theorem tK {rows:List (List AV)} {v:AV} (h:Rn D Y r (.fs rows) v):v = .fs rows∧∀ r∈rows,∀ c∈r,Gd c:=by cases h;exact⟨rfl,‹_›⟩
theorem vQ {rows:List (List AV)} {i o:Nat} {v:AV} (h:Rn D Y r (.fp rows i o) v):v = .fp rows i o∧∀ r∈rows,∀ c∈r,Gd c:=by cases h;exact⟨rfl,‹_›⟩
theorem uP {xs:List AV} {v:AV} (h:Rn D Y r (.agg xs) v):∃ ys,v = .agg ys∧RnL D Y r xs ys:=by cases h;exact⟨_,rfl,‹_›,‹_›⟩
theorem aBV {xs:List AV} {v:AV} (h:Rn D Y r (.tup xs) v):∃ ys,v = .tup ys∧RnL D Y r xs ys:=by cases h;exact⟨_,rfl,‹_›,‹_›⟩
theorem mJ {v:AV} (h:Rn D Y r .nilsl v):v = .nilsl:=by cases h;rfl
theorem yD {v:AV} (h:Rn D Y r .nilpt v):v = .nilpt:=by cases h;rfl
theorem uO {v:AV} (h:Rn D Y r .nilmap v):v = .nilmap:=by cases h;rfl
theorem aCU {v:AV} (h:Rn D Y r .nilfn v):v = .nilfn:=by cases h;rfl
theorem aAW {v:AV} (h:Rn D Y r .nilifc v):v = .nilifc:=by cases h;rfl

def sO:AO→Bool
 | .t _=>true
 | .c v=>tP v
 | .meth _ _=>true
def aJv:Option AO→Bool
 | some x=>sO x
 | none=>true
theorem aDq {t:TypeId} {v v':AV} (h:Rn D Y r v v'):∀ tab:List (TypeId×FuncId),Rn D Y r (pO t v tab) (pO t v' tab)
 | []=>.any _
 | (u, f)::l=>by
   simp only[pO]
   split
   ·exact .fn _ _ _ _ _ (fun l e=>by cases e) rfl (fun i x y hx hy=>by
     match i with
     | 0=>simp at hx hy;subst hx hy;exact h
     | i+1=>simp at hx) rfl (fun i x y hx hy=>by simp at hx)
   ·exact aDq h l
theorem aJA {tab:List (TypeId×FuncId)} {v v':AV} (h:Rn D Y r v v'):Rn D Y r (aGa tab v) (aGa tab v'):=by
 cases h with
 | ifc t x y hx=>exact aDq hx tab
 | _=>exact .any _
theorem aI (re:∀ j,Rn D Y r (e j) (env j)) {x:AO} (hx:sO x=true):Rn D Y r (aG e x) (aG env x):=by
 cases x with
 | t k=>exact re k
 | c v=>exact pM v hx
 | meth tab k=>exact aJA (re k)
theorem nI (re:∀ j,Rn D Y r (e j) (env j)) {xs:List AO} (hx:xs.all sO=true):RnL D Y r (xs.map (aG e)) (xs.map (aG env)) :=
 RnL.map fun x hm=>aI re (List.all_eq_true.1 hx x hm)

theorem sI {v v':AV} {cs:List AV} (h:Rn D Y r v v') (hc:cellsOf v=some cs):∃ cs',cellsOf v'=some cs'∧RnL D Y r cs cs':=by
 have one:∀ {v v':AV},Rn D Y r v v'→RnL D Y r [v] [v']:=fun h=>RnL.cons h RnL.nil
 cases h<;>simp only[cellsOf,oSI,reduceCtorEq]at hc
 case agg xs ys hl h=>subst hc;exact⟨ys,rfl,hl,h⟩
 all_goals
  subst hc
  exact⟨_,rfl,one (by first|constructor<;>assumption|exact Rn.yield _ _ ‹_›)⟩

theorem uL {z z' cs cs':List AV} {o:Nat} (hz:RnL D Y r z z') (hc:RnL D Y r cs cs'):RnL D Y r (bH z o cs) (bH z' o cs'):=by
 unfold bH
 rw[←hc.1]
 exact((hz.take o).append hc).append (hz.drop _)

theorem aDI {parts:List (Nat×Nat×AO)} (re:∀ j,Rn D Y r (e j) (env j)):∀ (ps:List (Nat×Nat×AO)) (z z' cs:List AV),(ps.all fun p=>sO p.2.2)=true→RnL D Y r z z'→eO z (ps.map fun p=>(p.1,p.2.1,aG e p.2.2))=some cs →
 ∃ cs',eO z' (ps.map fun p=>(p.1,p.2.1,aG env p.2.2))=some cs'∧RnL D Y r cs cs':=by
 intro ps
 induction ps with
 | nil=>intro z z' cs _ hz hf;simp[eO]at hf;subst hf;exact⟨z',rfl,hz⟩
 | cons p ps ih =>
   intro z z' cs hok hz hf
   simp only[List.all_cons,Bool.and_eq_true]at hok
   simp only[List.map_cons,eO]at hf ⊢
   split at hf
   ·rename_i vs hvs
    obtain⟨vs',h1,h2⟩:=sI (aI re hok.1) hvs
    rw[h1]
    simp only
    split at hf
    ·rename_i hc
     rw[if_pos (by rw[←h2.1,←hz.1];exact hc)]
     exact ih _ _ _ hok.2 (uL hz h2) hf
    ·simp at hf
   ·simp at hf

theorem tM {g:Bool} {n o:Nat} {cs cs':List AV} {v:AV} (hc:RnL D Y r cs cs') (hv:fN g n cs o=some v):∃ v',fN g n cs' o=some v'∧Rn D Y r v v':=by
 unfold fN at hv ⊢
 split at hv
 ·split at hv
  ·rename_i hg hle
   simp only[oSI]at hv
   subst hv
   rw[if_pos hg,if_pos (by rw[←hc.1];exact hle)]
   have:=(hc.drop o).take n
   exact⟨_,rfl,.agg _ _ this.1 this.2⟩
  ·simp at hv
 ·rename_i hg
  rw[if_neg hg]
  exact hc.get hv

theorem aMc {rows:List (List AV)} (hr:∀ r∈rows,∀ c∈r,Gd c) {i:Nat} {row:List AV} (h:rows[i]?=some row):RnL D Y r row row:=RnL.self fun c hc=>(hr row (List.mem_of_getElem? h) c hc).rn

theorem aDu (sh:SH D Y r h H) {g:Bool} {n:Nat} {p p' v:AV} (hp:Rn D Y r p p') (hv:dX g n (aF h) p=some v):∃ v',dX g n H p'=some v'∧Rn D Y r v v':=by
 unfold dX at hv
 split at hv
 ·rename_i b o
  split at hv
  ·rename_i w cs hb
   obtain⟨c,rfl,hr⟩:=iB hp
   obtain⟨g',cs',_,h1,h2,_⟩:=sh.cells hr hb
   simp only[dX,h1]
   exact tM h2 hv
  ·simp at hv
 ·rename_i rows i o
  obtain⟨rfl,hg⟩:=vQ hp
  split at hv
  ·rename_i row hrow
   simp only[dX,hrow]
   exact tM (aMc hg hrow) hv
  ·simp at hv
 ·simp at hv

theorem qS {q b:Bool} {x x' y y':AV} (hx:Rn D Y r x x') (hy:Rn D Y r y y') (hb:iH q x y=some b):iH q x' y'=some b:=by
 unfold iH at hb
 split at hb
 ·rw[cL hx,cL hy];exact hb
 ·rw[bJ hx,bJ hy];exact hb
 ·simp at hb
def aPn (D:Nat→Option XFn) (Y:Nat→Option YI) (r:Nat→Option Nat):Option AV→Option AV→Prop
 | some v,some v'=>Rn D Y r v v'
 | none,none=>True
 | _,_=>False
theorem aKg {q:Bool} {k k':AV} (hk:Rn D Y r k k'):∀ (es es':List (AV×AV)) (o:Option AV),RnP D Y r es es'→eC q k es=some o→∃ o',eC q k' es'=some o'∧aPn D Y r o o':=by
 intro es
 induction es with
 | nil =>
   intro es' o hp hf
   have:es'=[]:=List.eq_nil_of_length_eq_zero (by have:=hp.1;simpa using this.symm)
   subst this
   simp[eC]at hf;subst hf
   exact⟨none,rfl,trivial⟩
 | cons p es ih =>
   intro es' o hp hf
   cases es' with
   | nil=>have:=hp.1;simp at this
   | cons p' es' =>
     obtain⟨h1,h2⟩:=hp.2 0 p p' rfl rfl
     obtain⟨a,v⟩:=p
     obtain⟨a',v'⟩:=p'
     simp only[eC]at hf ⊢
     split at hf
     ·rename_i hb
      rw[qS hk h1 hb]
      simp only[oSI]at hf;subst hf
      exact⟨some v',rfl,h2⟩
     ·rename_i hb
      rw[qS hk h1 hb]
      exact ih es' o ⟨by have:=hp.1;simpa using this,fun i x y hx hy=>hp.2 (i+1) x y (by simpa using hx) (by simpa using hy)⟩ hf
     ·simp at hf

theorem cQ (re:∀ j,Rn D Y r (e j) (env j)) {c d n:Nat} {x:Option AO} (hx:aJv x=true) (hb:aK c d e x=some n):aK c d env x=some n:=by
 cases x with
 | none=>exact hb
 | some x =>
   simp only[aK]at hb ⊢
   have hr:=aI re (x:=x) hx
   split at hb
   ·rename_i k m hm
    rw[hm]at hr
    rw[cL hr];exact hb
   ·simp at hb

theorem aHB {k:Nat} {x x' y y':AV} {b:Bool} (hx:Rn D Y r x x') (hy:Rn D Y r y y') (hb:qE k x y=some b):qE k x' y'=some b:=by
 unfold qE at hb
 split at hb
 ·rw[cL hx,cL hy];exact hb
 ·rw[dG hx,dG hy];exact hb
 ·rw[bJ hx,bJ hy];exact hb
 ·simp at hb
theorem aFm:∀ (ks:List Nat) (xs xs' ys ys':List AV) (b:Bool),RnL D Y r xs xs'→RnL D Y r ys ys'→cK ks xs ys=some b→cK ks xs' ys'=some b:=by
 intro ks
 induction ks with
 | nil =>
   intro xs xs' ys ys' b hx hy hb
   cases xs<;>cases ys<;>simp only[cK,reduceCtorEq]at hb
   rw[hx.nil_inv,hy.nil_inv];exact hb
 | cons k ks ih =>
   intro xs xs' ys ys' b hx hy hb
   cases xs with
   | nil=>simp[cK]at hb
   | cons x xs=>cases ys with
     | nil=>simp[cK]at hb
     | cons y ys =>
       obtain⟨x',xs2,rfl,hx1,hx2⟩:=hx.inv
       obtain⟨y',ys2,rfl,hy1,hy2⟩:=hy.inv
       simp only[cK]at hb ⊢
       split at hb
       ·rename_i p q hp hq
        rw[aHB hx1 hy1 hp,ih _ _ _ _ _ hx2 hy2 hq];exact hb
       ·simp at hb

theorem aBM (sh:SH D Y r h H) {s n:Nat} {v v':AV} {new:List AV} (hv:Rn D Y r v v') (hs:eF s (aF h) v=some (n,new)):∃ new',eF s H v'=some (n,new')∧RnL D Y r new new'∧(gZ h v=true→jK new=true):=by
 unfold eF at hs
 split at hs
 ·simp only[oSI,Prod.mk.injEq]at hs
  obtain⟨rfl,rfl⟩:=hs
  rw[mJ hv];exact⟨[],rfl,RnL.nil,fun _=>rfl⟩
 ·rename_i x
  rw[bJ hv]
  split at hs<;>simp only[oSI,Prod.mk.injEq,reduceCtorEq]at hs
  rename_i h1
  obtain⟨rfl,rfl⟩:=hs
  refine⟨x.data.toList.map fun b=>.int .u8 (b.toNat:Int),by simp only[eF];rw[if_pos h1],RnL.self fun y hy=>?_,fun _=>dW fun y hy=>?_⟩
  ·obtain⟨b,_,rfl⟩:=List.mem_map.1 hy;exact .int _ _
  ·obtain⟨b,_,rfl⟩:=List.mem_map.1 hy;rfl
 ·rename_i rows
  obtain⟨rfl,hg⟩:=tK hv
  split at hs
  ·rename_i hall
   simp only[oSI,Prod.mk.injEq]at hs
   obtain⟨rfl,rfl⟩:=hs
   have hgd:∀ x∈rows.flatten,Gd x:=fun x hx=>by
    obtain⟨row,h1,h2⟩:=List.mem_flatten.1 hx
    exact hg row h1 x h2
   refine⟨rows.flatten,by simp only[eF,hall,if_true],RnL.self fun x hx=>(hgd x hx).rn,fun _=>dW fun x hx=>?_⟩
   have:∀ v,Gd v→fX v=true:=fun v hv=>by
    induction hv with
    | agg cs _ ih=>simp only[fX];exact dW ih
    | tup cs _ ih=>simp only[fX];exact dW ih
    | fn f first cap hf _ _ ih1 ih2=>cases f<;>simp only[fX,dW ih1,dW ih2,Bool.and_self]<;>exact absurd rfl (hf _)
    | ifc t v _ ih=>simpa [fX]using ih
    | _=>rfl
   exact this x (hgd x hx)
  ·simp at hs
 ·rename_i b o s' len
  split at hs
  ·rename_i w cs hb
   obtain⟨c,rfl,hr⟩:=tJ hv
   obtain⟨g,cs',h0,h1,h2,h3⟩:=sh.cells hr hb
   split at hs
   ·rename_i hc
    simp only[oSI,Prod.mk.injEq]at hs
    obtain⟨rfl,rfl⟩:=hs
    refine⟨(cs'.drop o).take (len*s),by simp only[eF,h1];rw[if_pos (by rw[←h2.1];exact hc)],(h2.drop o).take _,fun hf=>?_⟩
    simp only[gZ,h0]at hf
    exact dW fun x hx=>eL (h3 hf) x (List.mem_of_mem_drop (List.mem_of_mem_take hx))
   ·simp at hs
  ·simp at hs
 ·simp at hs

theorem aHE {cs cs':List AV} {l:List UInt8} (h:RnL D Y r cs cs') (hb:hP cs=some l):hP cs'=some l:=by
 induction cs generalizing cs' l with
 | nil=>rw[h.nil_inv];exact hb
 | cons c cs ih =>
   obtain⟨c',cs2,rfl,h1,h2⟩:=h.inv
   unfold hP at hb
   split at hb
   ·simp at *
   ·rename_i n q he
    simp only[List.cons.injEq]at he
    obtain⟨rfl,rfl⟩:=he
    simp only[Option.map_eq_some_iff]at hb
    obtain⟨l',k1,rfl⟩:=hb
    rw[cL h1]
    simp only[hP,ih h2 k1,Option.map_some]
   ·simp at hb
theorem aGO (sh:SH D Y r h H) {v v' u:AV} (hv:Rn D Y r v v') (hs:gG (aF h) v=some u):gG H v'=some u∧Gd u:=by
 unfold gG at hs
 split at hs
 ·simp at hs
 ·rename_i hne
  unfold kQ at hs
  split at hs
  ·rename_i n cs hsrc
   obtain⟨new',k1,k2,_⟩:=aBM sh hv hsrc
   simp only[Option.map_eq_some_iff]at hs
   obtain⟨l,h1,rfl⟩:=hs
   refine⟨?_,.str _⟩
   have hne':∀ s,v' ≠ .str s:=by
    intro s e
    subst e
    cases hv with
    | str=>exact hne _ rfl
    | any=>simp[eF]at hsrc
   unfold gG
   split
   ·rename_i s;exact absurd rfl (hne' s)
   ·rw[k1];simp only[kQ,aHE k2 h1,Option.map_some]
  ·simp at hs

theorem aIi (re:∀ j,Rn D Y r (e j) (env j)) {s:Nat} {lo hi:Option AO} (h1:aJv lo=true) (h2:aJv hi=true) {v v' u:AV} (hv:Rn D Y r v v') (hs:iP s e lo hi v=some u):∃ u',iP s env lo hi v'=some u'∧Rn D Y r u u':=by
 unfold iP at hs
 split at hs
 ·rename_i rows
  obtain⟨rfl,hg⟩:=tK hv
  split at hs
  ·rename_i hall
   split at hs
   ·rename_i m hm
    split at hs
    ·rename_i l hl
     simp only[oSI]at hs;subst hs
     refine⟨_,by simp only[iP,hall,if_true,cQ re h2 hm,cQ re h1 hl],.fs _ fun row hrow=>?_⟩
     exact hg row (List.mem_of_mem_drop (List.mem_of_mem_take hrow))
    ·simp at hs
   ·simp at hs
  ·simp at hs
 ·rename_i b o s' len
  obtain⟨c,rfl,hr⟩:=tJ hv
  split at hs
  ·rename_i hc
   split at hs
   ·rename_i m hm
    split at hs
    ·rename_i l hl
     split at hs
     ·rename_i hlt
      simp only[oSI]at hs;subst hs
      exact⟨_,by simp only[iP,hc,if_true,cQ re h2 hm,cQ re h1 hl,hlt],.sl _ _ _ _ _ hr⟩
     ·rename_i hlt
      split at hs<;>simp only[oSI]at hs<;>subst hs
      ·rename_i h0
       subst h0
       exact⟨_,by simp only[iP,hc,if_true,cQ re h2 hm,cQ re h1 hl,hlt,if_false],.sl _ _ _ _ _ hr⟩
      ·rename_i h0
       exact⟨_,by simp only[iP,hc,if_true,cQ re h2 hm,cQ re h1 hl,hlt,if_false,h0],.fs [] (by simp)⟩
    ·simp at hs
   ·simp at hs
  ·simp at hs
 ·rw[mJ hv]
  split at hs
  ·rename_i m hm
   split at hs
   ·rename_i l hl
    simp only[oSI]at hs;subst hs
    exact⟨_,by simp only[iP,cQ re h2 hm,cQ re h1 hl],.nilsl⟩
   ·simp at hs
  ·simp at hs
 ·simp at hs

theorem aMs {op:BinOp} {x x' y y' v:AV} (hx:Rn D Y r x x') (hy:Rn D Y r y y') (hb:aAh op x y=some v):aAh op x' y'=some v∧Rn D Y r v v:=by
 unfold aAh at hb
 split at hb
 ·rw[cL hx,cL hy]
  refine⟨hb,?_⟩
  cases op<;>simp only[gW]at hb<;>(try split at hb)<;>simp only[oSI,reduceCtorEq]at hb<;>subst hb<;>constructor
 ·rw[bJ hx,bJ hy]
  refine⟨hb,?_⟩
  cases op<;>simp only[eZ,reduceCtorEq]at hb<;>(try split at hb)<;>simp only[oSI,reduceCtorEq]at hb<;>subst hb<;>constructor
 ·simp at hb

theorem aMk {k:Nat} {x x' y y':AV} {b:Bool} (hx:Rn D Y r x x') (hy:Rn D Y r y y') (hb:wL k x y=some b):wL k x' y'=some b:=by
 unfold wL at hb
 split at hb
 all_goals first
  | (simp only[reduceCtorEq]at hb;done)
  | (cases hx<;>cases hy<;>exact hb)

inductive RnE (D:Nat→Option XFn) (Y:Nat→Option YI) (r:Nat→Option Nat) (h:XH) (g:Bool):Eff→Eff→Prop where
 | val (v v':AV) (hv:Rn D Y r v v'):RnE D Y r h g (.val v) (.val v')
 | new (own:Option Nat) (cs cs':List AV) (f:Nat→AV) (hf:∀ (q:Nat→Option Nat) (b c:Nat),q b=some c→Rn D Y q (f b) (f c)) (hc:RnL D Y r cs cs') (hg:g=true→jK cs=true)
  (ho:∀ b,own=some b→∃ c g' cs0,r b=some c∧aJ h b=some (.blk g' (.cells true cs0))):RnE D Y r h g (.new own (.cells true cs) f) (.new (own.bind r) (.cells true cs') f)
 | newObj (o:Obj) (f:Nat→AV) (hf:∀ (q:Nat→Option Nat) (b c:Nat),q b=some c→Rn D Y q (f b) (f c)):RnE D Y r h g (.new none (.obj true o) f) (.new none (.obj true o) f)
 | newMap (es:List (AV×AV)) (f:Nat→AV) (hf:∀ (q:Nat→Option Nat) (b c:Nat),q b=some c→Rn D Y q (f b) (f c)) (he:∀ p∈es,Gd p.1∧Gd p.2):RnE D Y r h g (.new none (.map true es) f) (.new none (.map true es) f)

def fA:DOp→Bool
 | .mv x | .box x | .load _ _ x | .nilck x | .not x | .neg x | .conv _ x | .fld _ x | .fldv _ _ _ x | .ext x _ | .len _ x | .mkifc _ x | .bytes x | .cpl x | .strof x | .rngs x | .nxts x=>sO x
 | .pick c a b=>sO c&&sO a&&sO b
 | .alloc z=>okL z
 | .mkmap | .allocb | .mkchan _ | .stuck=>true
 | .build z ps | .bslice _ _ z ps=>okL z&&ps.all fun p=>sO p.2.2
 | .bin _ x y | .binb _ x y | .eqag _ _ x y | .eqn _ _ x y | .idxa _ _ x y | .idx _ x y | .idxv _ _ _ x y | .idxs x y | .app _ _ x y | .mm _ x y | .copy _ x y=>sO x&&sO y
 | .mksl _ _ z x y=>okL z&&(sO x&&sO y)
 | .lookup _ _ z x y=>tP z&&(sO x&&sO y)
 | .store _ x y _=>sO x&&sO y
 | .mkf f c1 c2=>(match f with | .yield _=>false|_=>true)&&(c1.all sO&&c2.all sO)
 | .slarr _ _ x lo hi | .slsl _ x lo hi | .slstr x lo hi=>sO x&&(aJv lo&&aJv hi)
 | .mapup _ m k x=>sO m&&sO k&&sO x
 | .callf _ f xs _=>sO f&&xs.all sO
 | .send c x=>sO c&&sO x
 | .recv _ z c=>tP z&&sO c
end
section
variable {D:Nat→Option XFn} {Y:Nat→Option YI} {r:Nat→Option Nat} {e env:aD} {h:XH} {H:Hp}

theorem aJH (sh:SH D Y r h H) {q:Bool} {k k' m m':AV} {o:Option AV} (hk:Rn D Y r k k') (hm:Rn D Y r m m') (hl:iW q (aF h) k m=some o) :
 ∃ o',iW q H k' m'=some o'∧aPn D Y r o o':=by
 unfold iW at hl
 split at hl
 ·rename_i b
  split at hl
  ·rename_i w es hb
   obtain⟨c,rfl,hr⟩:=aCV hm
   obtain⟨g,es',_,h1,h2,_⟩:=sh.map hr hb
   simp only[iW,h1]
   exact aKg hk es es' o h2 hl
  ·simp at hl
 ·rw[uO hm]
  simp only[oSI]at hl;subst hl
  exact⟨none,rfl,trivial⟩
 ·simp at hl

theorem aJF {ok:Bool} {z:AV} (hz:tP z=true) {o o':Option AV} (ho:aPn D Y r o o'):Rn D Y r (rM ok z o) (rM ok z o'):=by
 have two:∀ {v v':AV} (b:Bool),Rn D Y r v v'→Rn D Y r (.tup [v,.bool b]) (.tup [v',.bool b]):=fun b h=>by
  have:=RnL.cons h (RnL.cons (.bool b) RnL.nil)
  exact .tup _ _ this.1 this.2
 cases o with
 | none=>cases o' with
   | none=>unfold rM;simp only;split;exact two false (pM z hz);exact pM z hz
   | some v'=>exact ho.elim
 | some v=>cases o' with
   | none=>exact ho.elim
   | some v'=>unfold rM;simp only;split;exact two true ho;exact ho

theorem pT {z z':List AV} (hz:RnL D Y r z z'):∀ n:Nat,RnL D Y r (List.replicate n z).flatten (List.replicate n z').flatten
 | 0=>RnL.nil
 | n+1=>by simpa [List.replicate_succ]using hz.append (pT hz n)
theorem zF {xs ys:List AV} (h1:jK xs=true) (h2:jK ys=true):jK (xs++ys)=true:=dW fun x hx=>by
 rcases List.mem_append.1 hx with hx|hx
 ·exact eL h1 x hx
 ·exact eL h2 x hx
theorem sD {z cs:List AV} {o:Nat} (h1:jK z=true) (h2:jK cs=true):jK (bH z o cs)=true:=dW fun x hx=>by
 unfold bH at hx
 rcases List.mem_append.1 hx with hx|hx
 ·rcases List.mem_append.1 hx with hx|hx
  ·exact eL h1 x (List.mem_of_mem_take hx)
  ·exact eL h2 x hx
 ·exact eL h1 x (List.mem_of_mem_drop hx)
theorem zZ {v:AV} {cs:List AV} (hc:cellsOf v=some cs) (hg:fX v=true):jK cs=true:=by
 cases v<;>simp only[cellsOf,oSI,reduceCtorEq]at hc<;>subst hc<;>first|(simp[fX]at hg;done)|(simpa [fX]using hg)|simp_all [jK]
theorem aKl:∀ (ps:List (Nat×Nat×AO)) (z cs:List AV),(ps.all fun p=>fX (aG e p.2.2))=true→jK z=true→eO z (ps.map fun p=>(p.1,p.2.1,aG e p.2.2))=some cs→jK cs=true:=by
 intro ps
 induction ps with
 | nil=>intro z cs _ hz hf;simp[eO]at hf;subst hf;exact hz
 | cons p ps ih =>
   intro z cs hok hz hf
   simp only[List.all_cons,Bool.and_eq_true]at hok
   simp only[List.map_cons,eO]at hf
   split at hf
   ·rename_i vs hvs
    split at hf
    ·exact ih _ _ hok.2 (sD hz (zZ hvs hok.1)) hf
    ·simp at hf
   ·simp at hf
theorem aGi {z:List AV} (hz:jK z=true) (n:Nat):jK (List.replicate n z).flatten=true:=dW fun x hx=>by
 obtain⟨row,h1,h2⟩:=List.mem_flatten.1 hx
 rw[List.mem_replicate]at h1
 rw[h1.2]at h2
 exact eL hz x h2

theorem aMw (sh:SH D Y r h H) {s n:Nat} {x x' y y':AV} {eff:Eff} (hx:Rn D Y r x x') (hy:Rn D Y r y y') (ha:nE s n (aF h) x y=some eff) :
 ∃ eff',nE s n H x' y'=some eff'∧RnE D Y r h (gZ h x&&gZ h y) eff eff':=by
 unfold nE at ha
 split at ha
 ·simp at ha
 ·rename_i m new hs
  obtain⟨new',k1,k2,k3⟩:=aBM sh hy hs
  split at ha
  ·rw[mJ hx]
   split at ha
   ·rename_i hc
    split at ha<;>simp only[oSI]at ha<;>subst ha
    ·rename_i h0
     subst h0
     refine⟨_,by simp only[nE,k1];rw[if_pos hc];rfl,.val _ _ .nilsl⟩
    ·rename_i h0
     refine⟨_,by simp only[nE,k1];rw[if_pos hc,if_neg h0];rfl,.new none new new' _ (fun q b c hq=>by
      split
      ·exact .sb _ _ _ hq
      ·exact .sl _ _ _ _ _ hq) k2 (fun hg=>?_) (by simp)⟩
     simp only[Bool.and_eq_true]at hg
     exact k3 hg.2
   ·simp at ha
  ·rename_i b len
   obtain⟨c,rfl,hr⟩:=aIK hx
   split at ha
   ·rename_i cs hb
    obtain⟨g,cs',h0,h1,h2,h3⟩:=sh.cells hr hb
    split at ha
    ·rename_i hc
     simp only[oSI]at ha
     subst ha
     refine⟨_,by simp only[nE,k1,h1];rw[if_pos (by rw[←h2.1];exact hc)];simp only[Option.bind_some,hr],.new (some b) (cs++new) (cs'++new') _ (fun q b c hq=>.sb _ _ _ hq) (h2.append k2) (fun hg=>?_) (fun c hc'=>?_)⟩
     ·simp only[Bool.and_eq_true,gZ,h0]at hg
      exact zF (h3 hg.1) (k3 hg.2)
     ·simp only[oSI]at hc'
      subst hc'
      exact⟨c,g,cs,hr,h0⟩
    ·simp at ha
   ·simp at ha
  ·rename_i b s' len
   obtain⟨c,rfl,hr⟩:=tJ hx
   split at ha
   ·rename_i cs hb
    obtain⟨g,cs',h0,h1,h2,h3⟩:=sh.cells hr hb
    split at ha
    ·rename_i hc
     simp only[oSI]at ha
     subst ha
     refine⟨_,by simp only[nE,k1,h1];rw[if_pos (by rw[←h2.1];exact hc)];simp only[Option.bind_some,hr],.new (some b) (cs++new) (cs'++new') _ (fun q b c hq=>.sl _ _ _ _ _ hq) (h2.append k2) (fun hg=>?_) (fun c hc'=>?_)⟩
     ·simp only[Bool.and_eq_true,gZ,h0]at hg
      exact zF (h3 hg.1) (k3 hg.2)
     ·simp only[oSI]at hc'
      subst hc'
      exact⟨c,g,cs,hr,h0⟩
    ·simp at ha
   ·simp at ha
  ·simp at ha

theorem aDK (sh:SH D Y r h H) (re:∀ j,Rn D Y r (e j) (env j)) {op:DOp} (hok:fA op=true) {eff:Eff} (he:aA op e (aF h)=some eff) :
 ∃ eff',aA op env H=some eff'∧RnE D Y r h (gF op e h) eff eff':=by
 cases op with
 | mv x =>
   simp only[aA,oSI]at he;subst he
   exact⟨_,rfl,.val _ _ (aI re hok)⟩
 | pick c a b =>
   simp only[fA,Bool.and_eq_true]at hok
   simp only[aA]at he
   split at he<;>simp only[oSI,reduceCtorEq]at he
   rename_i t ht
   subst he
   have hc:=aI re hok.1.1
   rw[ht]at hc
   refine⟨_,by simp only[aA,dG hc];rfl,.val _ _ ?_⟩
   cases t
   ·exact aI re hok.2
   ·exact aI re hok.1.2
 | alloc z =>
   simp only[aA,oSI]at he;subst he
   exact⟨_,rfl,.new none z z _ (fun q b c hq=>.pt _ _ _ hq) (nM z hok) (fun hg=>hg) (by simp)⟩
 | box x =>
   simp only[aA]at he
   split at he<;>simp only[oSI,reduceCtorEq]at he
   rename_i cs hc
   subst he
   obtain⟨cs',h1,h2⟩:=sI (aI re hok) hc
   exact⟨_,by simp only[aA,h1];rfl,.new none cs cs' _ (fun q b c hq=>.pt _ _ _ hq) h2 (fun hg=>zZ hc hg) (by simp)⟩
 | build z ps =>
   simp only[fA,Bool.and_eq_true]at hok
   simp only[aA]at he
   split at he<;>simp only[oSI,reduceCtorEq]at he
   rename_i cs hc
   subst he
   obtain⟨cs',h1,h2⟩:=aDI (parts:=ps) re ps z z cs hok.2 (nM z hok.1) hc
   exact⟨_,by simp only[aA,h1],.val _ _ (.agg _ _ h2.1 h2.2)⟩
 | bslice s len z ps =>
   simp only[fA,Bool.and_eq_true]at hok
   simp only[aA]at he
   split at he<;>simp only[oSI,reduceCtorEq]at he
   rename_i cs hc
   subst he
   obtain⟨cs',h1,h2⟩:=aDI (parts:=ps) re ps _ _ cs hok.2 (pT (nM z hok.1) len) hc
   refine⟨_,by simp only[aA,h1];rfl,.new none cs cs' _ (fun q b c hq=>.sl _ _ _ _ _ hq) h2 (fun hg=>?_) (by simp)⟩
   simp only[gF,Bool.and_eq_true]at hg
   exact aKl ps _ _ hg.2 (aGi hg.1 len) hc
 | load g n x =>
   simp only[aA]at he
   split at he<;>simp only[oSI,reduceCtorEq]at he
   rename_i v hv
   subst he
   obtain⟨v',h1,h2⟩:=aDu sh (aI re hok) hv
   exact⟨_,by simp only[aA,h1],.val _ _ h2⟩
 | nilck x =>
   have hx:=aI re (x:=x) hok
   simp only[aA]at he
   split at he<;>simp only[oSI,reduceCtorEq]at he<;>rename_i h1<;>subst he<;>rw[h1]at hx
   ·obtain⟨c,e1,hr⟩:=iB hx
    exact⟨_,by simp only[aA,e1],.val _ _ (.pt _ _ _ hr)⟩
   ·obtain⟨c,e1,hr⟩:=aIM hx
    exact⟨_,by simp only[aA,e1],.val _ _ (.pt _ _ _ hr)⟩
   ·exact⟨_,by simp only[aA,(vQ hx).1],.val _ _ (.fp _ _ _ (vQ hx).2)⟩
   ·rename_i tt vv
    obtain⟨v',hv1,hv2⟩:∃ v',aG env x = .ifc tt v'∧Rn D Y r (.ifc tt vv) (.ifc tt v'):=by
     generalize aG env x=v' at hx
     have hx':=hx
     cases hx with
     | ifc t x y hv=>exact⟨_,rfl,hx'⟩
    exact⟨_,by simp only[aA,hv1],.val _ _ hv2⟩
 | bin op x y =>
   simp only[fA,Bool.and_eq_true]at hok
   simp only[aA]at he
   split at he<;>simp only[oSI,reduceCtorEq]at he
   rename_i v hv
   subst he
   obtain⟨h1,h2⟩:=aMs (aI re hok.1) (aI re hok.2) hv
   exact⟨_,by simp only[aA,h1],.val _ _ h2⟩
 | binb neg x y =>
   simp only[fA,Bool.and_eq_true]at hok
   have hx:=aI re hok.1
   have hy:=aI re hok.2
   simp only[aA]at he
   split at he<;>simp only[oSI,reduceCtorEq]at he
   rename_i a b h1 h2
   subst he
   rw[h1]at hx;rw[h2]at hy
   exact⟨_,by simp only[aA,dG hx,dG hy],.val _ _ (.bool _)⟩
 | eqag neg ks x y =>
   simp only[fA,Bool.and_eq_true]at hok
   have hx:=aI re hok.1
   have hy:=aI re hok.2
   simp only[aA]at he
   split at he
   ·rename_i cs ds h1 h2
    rw[h1]at hx;rw[h2]at hy
    obtain⟨cs',e1,k1⟩:=uP hx
    obtain⟨ds',e2,k2⟩:=uP hy
    split at he<;>simp only[oSI,reduceCtorEq]at he
    rename_i b hb
    subst he
    exact⟨_,by simp only[aA,e1,e2,aFm _ _ _ _ _ _ k1 k2 hb],.val _ _ (.bool _)⟩
   ·simp at he
 | eqn kd neg x y =>
   simp only[fA,Bool.and_eq_true]at hok
   simp only[aA]at he
   split at he<;>simp only[oSI,reduceCtorEq]at he
   rename_i b hb
   subst he
   exact⟨_,by simp only[aA,aMk (aI re hok.1) (aI re hok.2) hb],.val _ _ (.bool _)⟩
 | not x =>
   have hx:=aI re (x:=x) hok
   simp only[aA]at he
   split at he<;>simp only[oSI,reduceCtorEq]at he
   rename_i b h1
   subst he
   rw[h1]at hx
   exact⟨_,by simp only[aA,dG hx],.val _ _ (.bool _)⟩
 | neg x =>
   have hx:=aI re (x:=x) hok
   simp only[aA]at he
   split at he<;>simp only[oSI,reduceCtorEq]at he
   rename_i k n h1
   subst he
   rw[h1]at hx
   exact⟨_,by simp only[aA,cL hx],.val _ _ (.int ..)⟩
 | conv k x =>
   have hx:=aI re (x:=x) hok
   simp only[aA]at he
   split at he<;>simp only[oSI,reduceCtorEq]at he
   rename_i k n h1
   subst he
   rw[h1]at hx
   exact⟨_,by simp only[aA,cL hx],.val _ _ (.int ..)⟩
 | mkf f c1 c2 =>
   simp only[fA,Bool.and_eq_true]at hok
   simp only[aA,oSI]at he;subst he
   have h1:=nI re hok.2.1
   have h2:=nI re hok.2.2
   exact⟨_,rfl,.val _ _ (.fn f _ _ _ _ (fun l e=>by subst e;simp at hok) h1.1 h1.2 h2.1 h2.2)⟩
 | fld off x =>
   have hx:=aI re (x:=x) hok
   simp only[aA]at he
   split at he<;>simp only[oSI,reduceCtorEq]at he<;>rename_i h1<;>subst he<;>rw[h1]at hx
   ·obtain⟨c,e1,hr⟩:=iB hx
    exact⟨_,by simp only[aA,e1],.val _ _ (.pt _ _ _ hr)⟩
   ·exact⟨_,by simp only[aA,(vQ hx).1],.val _ _ (.fp _ _ _ (vQ hx).2)⟩
 | fldv agg off n x =>
   have hx:=aI re (x:=x) hok
   simp only[aA]at he
   split at he
   ·rename_i cs h1
    rw[h1]at hx
    obtain⟨cs',e1,k1⟩:=uP hx
    split at he<;>simp only[oSI,reduceCtorEq]at he
    rename_i v hv
    subst he
    obtain⟨v',h2,h3⟩:=tM k1 hv
    exact⟨_,by simp only[aA,e1,h2],.val _ _ h3⟩
   ·simp at he
 | idxa len s x i =>
   simp only[fA,Bool.and_eq_true]at hok
   have hx:=aI re hok.1
   have hi:=aI re hok.2
   simp only[aA]at he
   split at he
   ·rename_i b o k n h1 h2
    rw[h1]at hx;rw[h2]at hi
    split at he<;>simp only[oSI,reduceCtorEq]at he
    rename_i hc
    subst he
    obtain⟨c,e1,hr⟩:=iB hx
    exact⟨_,by simp only[aA,e1,cL hi];rw[if_pos hc],.val _ _ (.pt _ _ _ hr)⟩
   ·rename_i rows j o k n h1 h2
    rw[h1]at hx;rw[h2]at hi
    split at he<;>simp only[oSI,reduceCtorEq]at he
    rename_i hc
    subst he
    exact⟨_,by simp only[aA,(vQ hx).1,cL hi];rw[if_pos hc],.val _ _ (.fp _ _ _ (vQ hx).2)⟩
   ·simp at he
 | idx s x i =>
   simp only[fA,Bool.and_eq_true]at hok
   have hx:=aI re hok.1
   have hi:=aI re hok.2
   simp only[aA]at he
   split at he
   ·rename_i b o s' len k n h1 h2
    rw[h1]at hx;rw[h2]at hi
    split at he<;>simp only[oSI,reduceCtorEq]at he
    rename_i hc
    subst he
    obtain⟨c,e1,hr⟩:=tJ hx
    exact⟨_,by simp only[aA,e1,cL hi];rw[if_pos hc],.val _ _ (.pt _ _ _ hr)⟩
   ·rename_i rows k n h1 h2
    rw[h1]at hx;rw[h2]at hi
    split at he<;>simp only[oSI,reduceCtorEq]at he
    rename_i hc
    subst he
    exact⟨_,by simp only[aA,(tK hx).1,cL hi];rw[if_pos hc],.val _ _ (.fp _ _ _ (tK hx).2)⟩
   ·simp at he
 | idxv agg len s x i =>
   simp only[fA,Bool.and_eq_true]at hok
   have hx:=aI re hok.1
   have hi:=aI re hok.2
   simp only[aA]at he
   split at he
   ·rename_i cs k n h1 h2
    rw[h1]at hx;rw[h2]at hi
    obtain⟨cs',e1,k1⟩:=uP hx
    split at he
    ·rename_i hc
     split at he<;>simp only[oSI,reduceCtorEq]at he
     rename_i v hv
     subst he
     obtain⟨v',h3,h4⟩:=tM k1 hv
     exact⟨_,by simp only[aA,e1,cL hi];rw[if_pos hc,h3],.val _ _ h4⟩
    ·simp at he
   ·simp at he
 | idxs x i =>
   simp only[fA,Bool.and_eq_true]at hok
   have hx:=aI re hok.1
   have hi:=aI re hok.2
   simp only[aA]at he
   split at he
   ·rename_i t k n h1 h2
    rw[h1]at hx;rw[h2]at hi
    split at he<;>simp only[oSI,reduceCtorEq]at he
    rename_i hc
    subst he
    exact⟨_,by simp only[aA,bJ hx,cL hi];rw[if_pos hc],.val _ _ (.int ..)⟩
   ·simp at he
 | mksl s bytes z l c =>
   simp only[fA,Bool.and_eq_true]at hok
   have hl:=aI re hok.2.1
   have hc:=aI re hok.2.2
   simp only[aA]at he
   split at he
   ·rename_i l c h1 h2
    rw[h1]at hl;rw[h2]at hc
    split at he<;>simp only[oSI,reduceCtorEq]at he
    rename_i hcond
    subst he
    exact⟨_,by simp only[aA,cL hl,cL hc];rw[if_pos hcond];rfl,.new none _ _ _ (fun q b c hq=>.sl _ _ _ _ _ hq) (pT (nM z hok.1) _) (fun hg=>aGi (by simpa [gF]using hg) _) (by simp)⟩
   ·simp at he
 | slarr len s x lo hi =>
   simp only[fA,Bool.and_eq_true]at hok
   have hx:=aI re hok.1
   simp only[aA]at he
   split at he
   ·rename_i b o h1
    rw[h1]at hx
    obtain⟨c,e1,hr⟩:=iB hx
    split at he
    ·rename_i w cs m hb hm
     obtain⟨g,cs',h0,k1,k2,k3⟩:=sh.cells hr hb
     split at he
     ·rename_i l hl
      split at he<;>simp only[oSI,reduceCtorEq]at he
      rename_i hc
      subst he
      exact⟨_,by simp only[aA,e1,k1,cQ re hok.2.2 hm,cQ re hok.2.1 hl];rw[if_pos (by rw[←k2.1];exact hc)],.val _ _ (.sl _ _ _ _ _ hr)⟩
     ·simp at he
    ·simp at he
   ·simp at he
 | slsl s x lo hi =>
   simp only[fA,Bool.and_eq_true]at hok
   simp only[aA]at he
   split at he<;>simp only[oSI,reduceCtorEq]at he
   rename_i v hv
   subst he
   obtain⟨v',h1,h2⟩:=aIi re hok.2.1 hok.2.2 (aI re hok.1) hv
   exact⟨_,by simp only[aA,h1],.val _ _ h2⟩
 | slstr x lo hi =>
   simp only[fA,Bool.and_eq_true]at hok
   have hx:=aI re hok.1
   simp only[aA]at he
   split at he
   ·rename_i t h1
    rw[h1]at hx
    split at he
    ·rename_i m hm
     split at he<;>simp only[oSI,reduceCtorEq]at he
     rename_i l hl
     subst he
     exact⟨_,by simp only[aA,bJ hx,cQ re hok.2.2 hm,cQ re hok.2.1 hl],.val _ _ (.str _)⟩
    ·simp at he
   ·simp at he
 | allocb =>
   simp only[aA,oSI]at he;subst he
   exact⟨_,rfl,.new none [.nilpt,.nilsl] [.nilpt,.nilsl] _ (fun q b c hq=>.bp _ _ hq) (RnL.cons .nilpt (RnL.cons .nilsl RnL.nil)) (fun _=>rfl) (by simp)⟩
 | mkmap =>
   simp only[aA,oSI]at he;subst he
   exact⟨_,rfl,.newMap [] _ (fun q b c hq=>.mp _ _ hq) (by simp)⟩
 | mkchan n =>
   simp only[aA,oSI]at he;subst he
   exact⟨_,rfl,.newMap [hO n false] _ (fun q b c hq=>.ch _ _ hq) (fun p hp=>by
    simp only[List.mem_singleton]at hp
    subst hp
    exact⟨.agg _ (fun c hc=>by simp at hc;subst hc;exact .agg [] (by simp)),.fp _ _ _ (by simp)⟩)⟩
 | cpl x =>
   have hx:=aI re (x:=x) hok
   simp only[aA]at he
   split at he<;>simp only[oSI,reduceCtorEq]at he
   rename_i k n hm
   rw[hm]at hx
   subst he
   exact⟨_,by simp only[aA,cL hx],.val _ _ (.int _ _)⟩
 | lookup q ok z m k =>
   simp only[fA,Bool.and_eq_true]at hok
   simp only[aA]at he
   split at he<;>simp only[oSI,reduceCtorEq]at he
   rename_i o ho
   subst he
   obtain⟨o',h1,h2⟩:=aJH sh (aI re hok.2.2) (aI re hok.2.1) ho
   exact⟨_,by simp only[aA,h1],.val _ _ (aJF hok.1 h2)⟩
 | ext x i =>
   have hx:=aI re (x:=x) hok
   simp only[aA]at he
   split at he
   ·rename_i vs h1
    rw[h1]at hx
    obtain⟨vs',e1,k1⟩:=aBV hx
    split at he<;>simp only[oSI,reduceCtorEq]at he
    rename_i v hv
    subst he
    obtain⟨v',h2,h3⟩:=k1.get hv
    exact⟨_,by simp only[aA,e1,h2],.val _ _ h3⟩
   ·simp at he
 | len q x =>
   have hx:=aI re (x:=x) hok
   simp only[aA]at he
   split at he<;>simp only[oSI,reduceCtorEq]at he<;>rename_i h1<;>subst he<;>rw[h1]at hx
   ·exact⟨_,by simp only[aA,bJ hx],.val _ _ (.int ..)⟩
   ·exact⟨_,by simp only[aA,(tK hx).1],.val _ _ (.int ..)⟩
   ·obtain⟨c,e1,hr⟩:=tJ hx
    exact⟨_,by simp only[aA,e1],.val _ _ (.int ..)⟩
   ·exact⟨_,by simp only[aA,mJ hx],.val _ _ (.int ..)⟩
 | app s n x y =>
   simp only[fA,Bool.and_eq_true]at hok
   simp only[aA]at he ⊢
   obtain⟨eff',h1,h2⟩:=aMw sh (aI re hok.1) (aI re hok.2) he
   exact⟨eff',h1,h2⟩
 | mm mx x y =>
   simp only[fA,Bool.and_eq_true]at hok
   have hx:=aI re hok.1
   have hy:=aI re hok.2
   simp only[aA]at he
   split at he<;>simp only[oSI,reduceCtorEq]at he
   rename_i k a k' b h1 h2
   subst he
   rw[h1]at hx;rw[h2]at hy
   exact⟨_,by simp only[aA,cL hx,cL hy],.val _ _ (.int ..)⟩
 | mkifc t x =>
   simp only[aA,oSI]at he;subst he
   exact⟨_,rfl,.val _ _ (.ifc t _ _ (aI re hok))⟩
 | bytes x =>
   have hx:=aI re (x:=x) hok
   simp only[aA]at he
   split at he<;>simp only[oSI,reduceCtorEq]at he
   rename_i t h1
   subst he
   rw[h1]at hx
   have hg:∀ x∈(t.data.toList.map fun b=>AV.int .u8 (b.toNat:Int)),Gd x:=fun x hx=>by
    obtain⟨b,_,rfl⟩:=List.mem_map.1 hx
    exact .int ..
   exact⟨_,by simp only[aA,bJ hx];rfl,.new none _ _ _ (fun q b c hq=>.sl _ _ _ _ _ hq) (RnL.self fun x hx=>(hg x hx).rn) (fun _=>dW fun x hx=>by
    obtain⟨b,_,rfl⟩:=List.mem_map.1 hx
    rfl) (by simp)⟩
 | strof x =>
   have hx:=aI re (x:=x) hok
   simp only[aA,Option.map_eq_some_iff]at he
   obtain⟨u,h1,rfl⟩:=he
   obtain⟨k1,k2⟩:=aGO sh hx h1
   exact⟨_,by simp only[aA,k1,Option.map_some],.val _ _ k2.rn⟩
 | rngs x =>
   have hx:=aI re (x:=x) hok
   simp only[aA]at he
   split at he<;>simp only[oSI,reduceCtorEq]at he
   rename_i t h1
   subst he
   rw[h1]at hx
   exact⟨_,by simp only[aA,bJ hx],.newObj _ _ (fun q b c hq=>.pt _ _ _ hq)⟩
 | nxts x=>simp[aA]at he
 | stuck=>simp[aA]at he
 | store n p x l=>simp[aA]at he
 | copy s x y=>simp[aA]at he
 | mapup q m k x=>simp[aA]at he
 | callf q f xs l=>simp[aA]at he
 | send c x=>simp[aA]at he
 | recv ok z c=>simp[aA]at he
end
section
variable {P:Program} {B:Base}

theorem vR {F:Nat→Prop} {w:World} {H:Hp} {Q:AV→Hp→Prop} (S:Nat→Prop) [DecidablePred S] (st:St F w H):∀ (e:Ending) (w':World),oT F w (fun c=>if S c then H c else none) Q e w' →
 oT F w H (fun v H''=>∃ H',Q v H'∧(∀ c,S c∨H c=none→H'' c=H' c)∧(∀ c,¬S c→∀ x,H c=some x→H'' c=some x∧H' c=none)) e w':=by
 rintro e w' ⟨r,v,F',H',rfl,h2,h3,h4,h5⟩
 have st1:St F w (fun c=>if S c then H c else none):=st.forget fun c x hc=>by
  split at hc
  ·exact hc
  ·simp at hc
 have hlow:∀ c x,H c=some x→c<w.heap.size:=fun c x hc=>st.own_lt hc
 have hn:∀ c,¬S c→∀ x,H c=some x→H' c=none:=fun c hs x hc=>by
  cases hx:H' c with
  | none=>rfl
  | some y =>
    rcases h2.hdom c (by simp[hx])with h6|h6
    ·simp[hs]at h6
    ·have:=hlow c x hc;omega
 have hsame:∀ c,¬S c→∀ x,H c=some x→w'.heap[c]?=w.heap[c]?:=fun c hs x hc=>h2.same c (hlow c x hc) (by simp[oM,hs])
 have hnF:∀ c,¬S c→∀ x,H c=some x→¬F' c:=fun c hs x hc hF=>by
  rcases h2.fnew c hF with h6|h6|h6
  ·exact st.dis c x hc h6
  ·simp[hs]at h6
  ·have:=hlow c x hc;omega
 obtain⟨H'',hH⟩:∃ H'':Hp,H''=fun c=>if ¬S c∧(H c).isSome=true then H c else H' c:=⟨_,rfl⟩
 have e1:∀ c,S c∨H c=none→H'' c=H' c:=fun c hc=>by
  rw[hH]
  rcases hc with hc|hc
  ·simp[hc]
  ·simp[hc]
 have e2:∀ c,¬S c→∀ x,H c=some x→H'' c=some x:=fun c hs x hc=>by rw[hH];simp[hs,hc]
 have cas:∀ c,(S c∨H c=none)∨(¬S c∧∃ x,H c=some x):=fun c=>by
  by_cases hs:S c
  ·exact .inl (.inl hs)
  ·cases hx:H c with
   | none=>exact .inl (.inr rfl)
   | some x=>exact .inr ⟨hs,x,rfl⟩
 have hl:∀ c,(if S c then H c else none).isSome=true→(H c).isSome=true:=fun c hc=>by
  split at hc
  ·exact hc
  ·simp at hc
 refine⟨r,v,F',H'',rfl,⟨h2.sub,fun c hc=>?_,fun c hc=>?_,fun c hc=>?_,h2.le,fun c hc hw=>?_,h2.cells,h2.io⟩,⟨h3.lt,fun c x hc=>?_,fun c x hc=>?_⟩,h4,H',h5,e1,fun c hs x hc=>⟨e2 c hs x hc,hn c hs x hc⟩⟩
 ·rcases h2.fnew c hc with h6|h6|h6
  ·exact .inl h6
  ·exact .inr (.inl (hl c h6))
  ·exact .inr (.inr h6)
 ·rcases cas c with h6|⟨h6,x,h7⟩
  ·rw[e1 c h6]at hc
   rcases h2.hdom c hc with h8|h8
   ·exact .inl (hl c h8)
   ·exact .inr h8
  ·exact .inl (by simp[h7])
 ·rcases cas c with h6|⟨h6,x,h7⟩
  ·simp only[oM,e1 c h6]at hc
   rcases h2.hnew c (by simpa only[oM]using hc)with h8|h8
   ·left
    simp only[oM]at h8 ⊢
    split at h8
    ·rename_i y hy
     split at hy
     ·rw[hy];exact h8
     ·simp at hy
    ·simp at h8
   ·exact .inr h8
  ·left;simpa only[oM,e2 c h6 x h7,h7]using hc
 ·refine h2.same c hc ?_
  simp only[oM]at hw ⊢
  by_cases hs:S c
  ·simp only[hs,if_true];exact hw
  ·simp[hs]
 ·rcases cas c with h6|⟨h6,y,h7⟩
  ·rw[e1 c h6]at hc;exact h3.dis c x hc
  ·exact hnF c h6 y h7
 ·rcases cas c with h6|⟨h6,y,h7⟩
  ·rw[e1 c h6]at hc;exact h3.blk c x hc
  ·rw[e2 c h6 y h7]at hc
   simp only[oSI]at hc
   subst hc
   obtain⟨o,k1,k2⟩:=st.blk c y h7
   exact⟨o,by rw[hsame c h6 y h7];exact k1,k2.up (h2.up st1)⟩
theorem CallV.frameS {fv:AV} {as:List AV} {H:Hp} {Q:AV→Hp→Prop} (S:Nat→Prop) [DecidablePred S] (h:CallV B P fv as (fun c=>if S c then H c else none) Q) :
 CallV B P fv as H fun v H''=>∃ H',Q v H'∧(∀ c,S c∨H c=none→H'' c=H' c)∧(∀ c,¬S c→∀ x,H c=some x→H'' c=some x∧H' c=none):=by
 refine h.conv fun F w st=>⟨st.forget fun c x hc=>?_,vR S st⟩
 split at hc
 ·exact hc
 ·simp at hc

end

theorem aAZ (h:XH) (k:Nat):∀ (n:Nat) (todo acc:List Nat),acc.Nodup→(∀ b∈acc,(aJ h b).isSome=true∧k≤b)→(eT h k n todo acc).Nodup∧∀ b∈eT h k n todo acc,(aJ h b).isSome=true∧k≤b:=by
 intro n
 induction n with
 | zero=>intro todo acc h1 h2;exact⟨h1,h2⟩
 | succ n ih =>
   intro todo acc h1 h2
   cases todo with
   | nil=>exact⟨h1,h2⟩
   | cons b rest =>
     simp only[eT]
     split
     ·exact ih rest acc h1 h2
     ·rename_i hb
      simp only[not_or]at hb
      cases hx:aJ h b with
      | none=>simpa only[hx]using ih rest acc h1 h2
      | some x =>
        simp only
        refine ih _ _ ?_ fun c hc=>?_
        ·rw[List.nodup_append]
         exact⟨h1,by simp,fun a ha c hc=>by simp at hc;subst hc;intro e;subst e;exact hb.2 ha⟩
        ·rcases List.mem_append.1 hc with hc|hc
         ·exact h2 c hc
         ·simp at hc;subst hc;exact⟨by simp[hx],by omega⟩
theorem mQ (xs:List AV) (h:XH):(dT xs h).Nodup∧∀ b∈dT xs h,(aJ h b).isSome=true:=by
 obtain⟨h1,h2⟩:=aAZ h 0 qM (nP xs) [] List.nodup_nil (by simp)
 exact⟨h1,fun b hb=>(h2 b hb).1⟩
theorem aDi (fv:AV) (xs:List AV) (h:XH):(fW fv xs h).Nodup∧∀ b∈fW fv xs h,(aJ h b).isSome=true:=by
 unfold fW
 split
 ·unfold qO
  split
  ·exact⟨List.Pairwise.filter _ List.nodup_range,fun b hb=>(List.mem_filter.1 hb).2⟩
  ·exact mQ _ _
 ·exact mQ _ _

theorem aBf {b i:Nat}:∀ {l:List Nat},fO b l=some i→l[i]?=some b:=by
 intro l
 induction l generalizing i with
 | nil=>intro h;simp[fO]at h
 | cons c l ih =>
   intro h
   simp only[fO]at h
   split at h
   ·simp only[oSI]at h;subst h;rename_i e;subst e;rfl
   ·rw[Option.map_eq_some_iff]at h
    obtain⟨j,h1,rfl⟩:=h
    simpa using ih h1
theorem mT {l:List Nat} (h:l.Nodup) {i j b:Nat} (hi:l[i]?=some b) (hj:l[j]?=some b):i=j:=by
 obtain⟨h1,h2⟩:=List.getElem?_eq_some_iff.1 hi
 obtain⟨h3,h4⟩:=List.getElem?_eq_some_iff.1 hj
 have hp:=List.pairwise_iff_getElem.1 h
 rcases Nat.lt_trichotomy i j with hlt|he|hlt
 ·exact absurd (h2.trans h4.symm) (hp i j h1 h3 hlt)
 ·exact he
 ·exact absurd (h4.trans h2.symm) (hp j i h3 h1 hlt)

theorem dV (h l:XH) (b:Nat):aJ (h++l) b=if b<h.length then aJ h b else aJ l (b-h.length):=by
 unfold aJ
 rw[List.getD_eq_getElem?_getD,List.getElem?_append]
 split
 ·rw[List.getD_eq_getElem?_getD]
 ·rw[List.getD_eq_getElem?_getD]
theorem uA (f:Option XB→Option XB) (hf:f none=none) (h:XH) (b:Nat):aJ (h.map f) b=f (aJ h b):=by
 unfold aJ
 rw[List.getD_eq_getElem?_getD,List.getElem?_map,List.getD_eq_getElem?_getD]
 cases h[b]? with
 | none=>simp[hf]
 | some x=>rfl
theorem dH (h:XH) (b:Nat) (x:Option XB) (c:Nat):aJ (h.set b x) c=if c=b∧b<h.length then x else aJ h c:=by
 unfold aJ
 rw[List.getD_eq_getElem?_getD,List.getElem?_set,List.getD_eq_getElem?_getD]
 by_cases hbc:b=c
 ·subst hbc
  by_cases hlt:b<h.length
  ·simp[hlt]
  ·simp[hlt]
 ·have:¬(c=b∧b<h.length):=fun e=>hbc e.1.symm
  simp[hbc,this]
theorem lY {h:XH} {b:Nat} {x:XB} (hx:aJ h b=some x):b<h.length:=by
 unfold aJ at hx
 rw[List.getD_eq_getElem?_getD]at hx
 cases hb:h[b]? with
 | none=>rw[hb]at hx;simp at hx
 | some y=>exact(List.getElem?_eq_some_iff.1 hb).1
theorem vY:∀ (k:Nat) (h:XH) (b:Nat),aJ (cN k h) b=if b<k then aJ h b else none:=by
 intro k
 induction k with
 | zero=>intro h b;simp[cN,aJ]
 | succ k ih =>
   intro h b
   cases h with
   | nil =>
     cases b with
     | zero=>simp[cN,aJ]
     | succ b =>
       have:=ih [] b
       simp only[cN,aJ,List.getD_eq_getElem?_getD,List.getElem?_cons_succ]at this ⊢
       rw[this];simp
   | cons x xs =>
     cases b with
     | zero=>simp[cN,aJ]
     | succ b =>
       have:=ih xs b
       simp only[cN,aJ,List.getD_eq_getElem?_getD,List.getElem?_cons_succ]at this ⊢
       rw[this];simp
@[simp] theorem padTake_length:∀ (k:Nat) (h:XH),(cN k h).length=k:=by
  intro k
  induction k with
  | zero=>intro h;rfl
  | succ k ih=>intro h;cases h<;>simp[cN,ih]
theorem mZ (f:Option XB→Option XB) (acc:List Nat) (h:XH) (hf:f none=none) (i:Nat):aJ (acc.map fun b=>f (aJ h b)) i=match acc[i]? with
 | some b=>f (aJ h b)
 | none=>none:=by
 unfold aJ
 rw[List.getD_eq_getElem?_getD,List.getElem?_map]
 cases acc[i]?<;>rfl

theorem pE:∀ (bs:List Nat) (xs h:XH),(rG h bs xs).length=h.length
 | [],_,h=>by unfold rG;rfl
 | b::bs,[],h=>by unfold rG;rfl
 | b::bs,x::xs,h=>by unfold rG;rw[pE bs xs];simp
theorem kZ:∀ (bs:List Nat) (xs h:XH) (c:Nat),c∉bs→aJ (rG h bs xs) c=aJ h c
 | [],_,h,c,_=>by unfold rG;rfl
 | b::bs,[],h,c,_=>by unfold rG;rfl
 | b::bs,x::xs,h,c,hc=>by
   unfold rG
   rw[kZ bs xs _ c (fun e=>hc (by simp[e])),dH,if_neg (fun e=>hc (by simp[e.1]))]
theorem vX:∀ (bs:List Nat) (xs h:XH) (i c:Nat),bs.Nodup→bs.length=xs.length→(∀ b∈bs,b<h.length)→bs[i]?=some c→aJ (rG h bs xs) c=aJ xs i
 | [],_,h,i,c,_,_,_,hi=>by simp at hi
 | b::bs,[],h,i,c,_,hl,_,_=>by simp at hl
 | b::bs,x::xs,h,i,c,hn,hl,hlt,hi=>by
   unfold rG
   rw[List.nodup_cons]at hn
   cases i with
   | zero =>
     simp at hi;subst hi
     rw[kZ bs xs _ b hn.1,dH,if_pos ⟨rfl,hlt b (by simp)⟩]
     simp[aJ]
   | succ i =>
     rw[vX bs xs _ i c hn.2 (by simpa using hl) (fun b hb=>by simpa using hlt b (by simp[hb])) (by simpa using hi)]
     simp[aJ]

section
variable {D:Nat→Option XFn} {Y:Nat→Option YI} {r:Nat→Option Nat}

theorem RnB.renum {r':Nat→Option Nat} {s:Nat→Option Nat} (hs:∀ b c d,s b=some c→r b=some d→r' c=some d) {c:Nat} {x:XB} {y:ABlk} (h:RnB D Y r c x y):RnB D Y r' c (rnB s x) y:=by
 cases h with
 | cells g w xs ys h hg =>
   cases g with
   | false=>exact .cells c false w _ _ (h.renum hs) (by simp)
   | true =>
     obtain⟨rfl,h2⟩:=h.same (hg rfl)
     exact .cells c true w _ _ (RnL.self fun x hx=>(h2 x hx).rn) hg
 | map g w xs ys h hg =>
   cases g with
   | false =>
     refine .map c false w _ _ ⟨by simpa using h.1,fun i p q hp hq=>?_⟩ (by simp)
     rw[List.getElem?_map,Option.map_eq_some_iff]at hp
     obtain⟨z,hz,rfl⟩:=hp
     exact⟨(h.2 i z q hz hq).1.renum hs,(h.2 i z q hz hq).2.renum hs⟩
   | true =>
     refine .map c true w _ _ ⟨h.1,fun i p q hp hq=>?_⟩ hg
     obtain⟨h1,h2⟩:=h.2 i p q hp hq
     obtain⟨h3,h4⟩:=hg rfl p (List.mem_of_getElem? hp)
     obtain⟨e1,g1⟩:=h1.same h3
     obtain⟨e2,g2⟩:=h2.same h4
     rw[e1,e2]
     exact⟨g1.rn,g2.rn⟩
 | obj g w o=>cases g<;>exact .obj c _ w o
 | loop i vs s o d L ps a b hY h hD hsite hv=>exact .loop c i _ s o d L ps a b hY h hD hsite (hv.renum hs)
 | gh st p=>exact .gh c st p y
theorem RnB.mono {x:XB} {r':Nat→Option Nat} {Y':Nat→Option YI} (hr:∀ b c,r b=some c→r' b=some c) {c:Nat} (hY:(∃ K s vs st,x = .loop K s vs st)→Y' c=Y c) {y:ABlk} (h:RnB D Y r c x y):RnB D Y' r' c x y:=by
 cases h with
 | cells g w xs ys h hg=>exact .cells c g w _ _ (h.mono hr) hg
 | map g w xs ys h hg=>exact .map c g w _ _ ⟨h.1,fun i p q hp hq=>⟨(h.2 i p q hp hq).1.mono hr,(h.2 i p q hp hq).2.mono hr⟩⟩ hg
 | obj g w o=>exact .obj c g w o
 | loop i vs s o d L ps a b h1 h hD hsite hv=>exact .loop c i _ s o d L ps a b (by rw[hY ⟨_,_,_,_,rfl⟩];exact h1) h hD hsite (hv.mono hr)
 | gh st p=>exact .gh c st p y
theorem nJ {s:Nat→Option Nat} {x:XB} {st:dR} {p:Hp→Nat→Prop} (h:rnB s x = .gh st p):x = .gh st p:=by
 unfold rnB at h
 split at h<;>first|exact h|cases h
theorem mK {s:Nat→Option Nat} {o:Option XB} {x:XB} (h:rnO s o=some x):∃ y,o=some y∧x=rnB s y:=by
 cases o with
 | none=>simp[rnO]at h
 | some y=>simp[rnO]at h;exact⟨y,rfl,h.symm⟩
end
end Go.DL
