/- Parts of a proof, joined: LA. No statement of the seed is proved here. -/
import Derived.Test.YtiabjdfdkiijmaaDoorRows
import Derived.Test.YtiabjdfdkiijmaaDoorCards
import Derived.Test.YtiabjdfdkiijmaaDoorTie
import Derived.WalkKit
import Derived.ProofKit
import Derived.LaidMore
import Derived.OpenShut
import Derived.SevenTiedAt
import Derived.Stop.Joined
import Derived.Test.YtiabjdfdkiijmaaDoorI7
set_option linter.unusedSimpArgs false
set_option linter.unusedVariables false
set_option linter.unusedSectionVars false
namespace Go.Proofs.YtiabjdfdkiijmaaDoor
open Go Go.DL Go.ChangeShapes Go.WideShapes Go.ChangeAt Go.RowKit
set_option maxRecDepth 100000

theorem own:ownKnob Tryd.prog.godebug=none:=by kernel_rfl
theorem laid:laidOutB Tryd.prog=true:=by kernel_rfl

abbrev aAL:List (String×DataW Unit):=[("math/bits.deBruijn32tab", Rows.laid_math_bits_deBruijn32tab), ("math/bits.deBruijn64tab", Rows.laid_math_bits_deBruijn64tab)]
theorem g32:Tryd.prog.globalNamed "math/bits.deBruijn32tab" = some 0:=by kernel_rfl
theorem g64:Tryd.prog.globalNamed "math/bits.deBruijn64tab" = some 1:=by kernel_rfl
theorem aGc (os:Os) (args:Array Value):laidMetH Tryd.prog aAL ((World.doorLaid Tryd.prog 400 os).forCall (fun _ _=>0) ⟨#[],args,[]⟩).memory :=
 laidMetH_of_parts3 (fuel:=8) (laidMet_of_run' 8 (by kernel_rfl) (by kernel_rfl)) (by kernel_rfl) (by kernel_rfl)
theorem aEr {P:Program} {H:Type} {enc:TypeId×Value→H} {W:World} {sp:Nat→Bool} {nm:String} {g t e n fuel:Nat} {ls:List Int} (hg:P.globalNamed nm=some g) (hu:P.underlying t=some (.array n e)) (he:P.underlying e=some (.int .u8)) (hc:P.cellsOf e=1)
 {cs:Array Value} {p:List MemPlace} (hv:W.var? P nm=some cs) (hd:DataW.trod enc P W 0 sp false fuel t cs.toList=some (.agg (ls.map fun v=>.lit (.int .u8 v)),p)):∀ j v,ls[j]?=some v→W.cell? ⟨g,j,none⟩=some (.int .u8 v):=by
 intro j v hj
 obtain⟨xs,m,rfl,hx,_,hn,hel⟩:=DataW.trod_array hu hd
 simp only[Prod.mk.injEq,DataW.agg.injEq]at hx
 have hjl:j<xs.length:=by
  have:=congrArg List.length hx.1
  simp only[List.length_map]at this
  have:=(List.getElem?_eq_some_iff.1 hj).1
  omega
 have h0:=hel j (by omega)
 rw[List.getElem?_eq_getElem hjl,hc,Nat.mul_one]at h0
 obtain⟨k,e1,e2,_⟩:=DataW.trod_int he h0
 have hk:k=v:=by
  have h1:(xs.map (·.1))[j]?=some (.lit (.int .u8 k)):=by rw[List.getElem?_map,List.getElem?_eq_getElem hjl,e2];rfl
  rw[←hx.1,List.getElem?_map,hj]at h1
  simpa using h1.symm
 subst hk
 rw[World.var?_cell hg hv j,←Array.getElem?_toList]
 have:(cs.toList.drop j)[0]?=some (.int .u8 k):=by
  have h2:((cs.toList.drop j).take 1)[0]?=some (.int .u8 k):=by rw[e1];rfl
  rw[List.getElem?_take_of_lt (by omega)]at h2
  exact h2
 rw[List.getElem?_drop]at this
 simpa using this
theorem aKK {W:World} (h:laidMetH Tryd.prog aAL W):GI (fun b=>b<W.heap.size) W:=by
 rw[MakeChecks.laidMetH_plain _ _ _ (by kernel_rfl)]at h
 obtain⟨ps,⟨i0,t0,cs0,f0,p0,q0,hg0,ht0,hv0,hd0,⟨i1,t1,cs1,f1,p1,q1,hg1,ht1,hv1,hd1,_,_⟩,_⟩,_,_⟩:=h
 obtain rfl:=Option.some.inj (g32.symm.trans hg0)
 obtain rfl:=Option.some.inj (g64.symm.trans hg1)
 have e0:t0=(Tryd.prog.globals[0]?.map (·.type)).getD 0:=by rw[ht0];rfl
 have e1:t1=(Tryd.prog.globals[1]?.map (·.type)).getD 0:=by rw[ht1];rfl
 have k0:=aEr (ls:=[0,1,28,2,29,14,24,3,30,22,20,15,25,17,4,8,31,27,13,23,21,19,16,7,26,12,18,6,11,5,10,9]) g32 (t:=t0) (n:=32) (e:=5) (by rw[e0];kernel_rfl) Tryd.underlying5 (by kernel_rfl) hv0 hd0
 have k1:=aEr (ls:=(match uC 1 with|some l=>l.map (fun c=>(match c with | .int _ n=>n|_=>0))|none=>[])) g64 (t:=t1) (n:=64) (e:=5) (by rw[e1];kernel_rfl) Tryd.underlying5 (by kernel_rfl) hv1 hd1
 have lt:∀ {g j:Nat} {v:Value},W.cell? ⟨g,j,none⟩=some v→g<W.heap.size:=fun h=>(wJ h).2
 have fin:∀ (g:Nat) (ls:List Int),ls.length≠0→(∀ j v,ls[j]?=some v→W.cell? ⟨g,j,none⟩=some (.int .u8 v))→g<W.heap.size∧∃ gv:Nat→Value,(∀ j,(gv j).oneCell'=true)∧∀ j c,(ls.map fun v=>AV.int .u8 v)[j]?=some c→W.cell? ⟨g,j,none⟩=some (gv j)∧Rv (fun b=>b<W.heap.size) W c (gv j):=by
  intro g ls hl h
  refine⟨?_,fun j=>.int .u8 (ls.getD j 0),fun _=>rfl,fun j c hj=>?_⟩
  ·cases ls with
   | nil=>simp at hl
   | cons a r=>exact lt (h 0 a rfl)
  ·rw[List.getElem?_map,Option.map_eq_some_iff]at hj
   obtain⟨v,hv,rfl⟩:=hj
   have:ls.getD j 0=v:=aO hv
   dsimp only
   rw[this]
   exact⟨h j v hv,.int _ _⟩
 intro g row hr
 unfold uC at hr
 by_cases h0:g=0
 ·rw[if_pos h0]at hr
  simp only[oSI]at hr
  rw[←hr,h0]
  exact fin 0 _ (by decide) k0
 ·rw[if_neg h0]at hr
  by_cases h1:g=1
  ·rw[if_pos h1]at hr
   simp only[oSI]at hr
   rw[←hr,h1]
   exact fin 1 _ (by decide) k1
  ·rw[if_neg h1]at hr
   simp at hr

abbrev boT:List CT:=[.int .i64,.int .i64]
abbrev plT:List CT:=[.int .i64,.int .i64,.int .i64]
abbrev vaT:List CT:=[.int .i64,.sl boT,.sl plT,.int .i64,.int .i64,.int .i64]
theorem qV:Flat Tryd.prog 3 [.int .i64]:=.int Tryd.underlying3
theorem aJt:Flat Tryd.prog 32 [.sl [.int .i64]]:=.sl Tryd.underlying32 qV (by kernel_rfl) (by decide)
theorem aJs:Flat Tryd.prog 48 [.sl [.sl [.int .i64]]]:=.sl Tryd.underlying48 aJt (by kernel_rfl) (by decide)
theorem aJr:Flat Tryd.prog 61 boT:=.array (n:=2) Tryd.underlying61 qV (by kernel_rfl) (by kernel_rfl)
theorem aJw:Flat Tryd.prog 22 [.sl boT]:=.sl Tryd.underlying22 aJr (by kernel_rfl) (by decide)
theorem aJq:Flat Tryd.prog 64 plT:=Flat.mk (rs:=[[.int .i64],[.int .i64],[.int .i64]]) Tryd.underlying64 ⟨qV,by kernel_rfl,rfl,qV,by kernel_rfl,rfl,qV,by kernel_rfl,rfl,trivial⟩ (by kernel_rfl)
theorem aJv:Flat Tryd.prog 23 [.sl plT]:=.sl Tryd.underlying23 aJq (by kernel_rfl) (by decide)
theorem aJu:Flat Tryd.prog 25 vaT:=Flat.mk (rs:=[[.int .i64],[.sl boT],[.sl plT],[.int .i64],[.int .i64],[.int .i64]]) Tryd.underlying25 ⟨qV,by kernel_rfl,rfl,aJw,by kernel_rfl,rfl,aJv,by kernel_rfl,rfl,qV,by kernel_rfl,rfl,qV,by kernel_rfl,rfl,qV,by kernel_rfl,rfl,trivial⟩ (by kernel_rfl)
theorem kD {k:IntKind} {a:AV} (h:Sh (.int k) a):∃ n,a = .int k n∧(Lit.int k n).wf=true:=by cases h;exact⟨_,rfl,by assumption⟩
theorem aAr {α:Type} {f:α→List AV} {r:List CT} (key:∀ row:List AV,row.length=r.length→(∀ (i:Nat) (c:CT) (a:AV),r[i]?=some c→row[i]?=some a→Sh c a)→∃ x,row=f x):∀ {rows:List (List AV)},(∀ row∈rows,row.length=r.length) →
 (∀ row∈rows,∀ (i:Nat) (c:CT) (a:AV),r[i]?=some c→row[i]?=some a→Sh c a)→∃ l:List α,rows=l.map f
 | [],_,_=>⟨[],rfl⟩
 | a::rows,h1,h2=>by
   obtain⟨l,rfl⟩:=aAr key (rows:=rows) (fun row hr=>h1 row (by simp[hr])) (fun row hr=>h2 row (by simp[hr]))
   obtain⟨x,rfl⟩:=key a (h1 a (by simp)) (h2 a (by simp))
   exact⟨x::l,rfl⟩
theorem aCA {α:Type} {f:α→List AV} {r:List CT} (key:∀ row:List AV,row.length=r.length→(∀ (i:Nat) (c:CT) (a:AV),r[i]?=some c→row[i]?=some a→Sh c a)→∃ x,row=f x) {a:AV} (h:Sh (.sl r) a):∃ l:List α,a = .fs (l.map f)∧l.length≤maxLen:=by
 cases h with
 | sl _ rows h1 hn h2 =>
   obtain⟨l,rfl⟩:=aAr key h1 h2
   exact⟨l,rfl,by simpa using hn⟩
theorem aOM:∀ row:List AV,row.length=([.int .i64]:List CT).length→(∀ (i:Nat) (c:CT) (a:AV),([.int .i64]:List CT)[i]?=some c→row[i]?=some a→Sh c a)→∃ v:Int,row=[I v]:=by
 intro row hl h
 match row,hl with
 | [a0],_ =>
   obtain⟨n,rfl,_⟩:=kD (h 0 _ _ rfl rfl)
   exact⟨n,rfl⟩
theorem aHO {a:AV} (h:Sh (.sl [.int .i64]) a):∃ us:List Int,a=nL us∧us.length≤maxLen:=aCA aOM h
theorem bo1:∀ row:List AV,row.length=boT.length→(∀ (i:Nat) (c:CT) (a:AV),boT[i]?=some c→row[i]?=some a→Sh c a)→∃ x:Int×Int,row=[I x.1,I x.2]:=by
 intro row hl h
 match row,hl with
 | [a0,a1],_ =>
   obtain⟨n0,rfl,_⟩:=kD (h 0 _ _ rfl rfl)
   obtain⟨n1,rfl,_⟩:=kD (h 1 _ _ rfl rfl)
   exact⟨(n0,n1),rfl⟩
theorem pl1:∀ row:List AV,row.length=plT.length→(∀ (i:Nat) (c:CT) (a:AV),plT[i]?=some c→row[i]?=some a→Sh c a)→∃ x:Int×Int×Int,row=[I x.1,I x.2.1,I x.2.2]:=by
 intro row hl h
 match row,hl with
 | [a0,a1,a2],_ =>
   obtain⟨n0,rfl,_⟩:=kD (h 0 _ _ rfl rfl)
   obtain⟨n1,rfl,_⟩:=kD (h 1 _ _ rfl rfl)
   obtain⟨n2,rfl,_⟩:=kD (h 2 _ _ rfl rfl)
   exact⟨(n0,n1,n2),rfl⟩
theorem wy1:∀ row:List AV,row.length=([.sl [.int .i64]]:List CT).length→(∀ (i:Nat) (c:CT) (a:AV),([.sl [.int .i64]]:List CT)[i]?=some c→row[i]?=some a→Sh c a)→∃ k:List Int,row=[nL k]:=by
 intro row hl h
 match row,hl with
 | [a0],_ =>
   obtain⟨k,rfl,hk⟩:=aHO (h 0 _ _ rfl rfl)
   exact⟨k,rfl⟩
theorem aGz {a:AV} (h:Sh (.sl [.sl [.int .i64]]) a):∃ us:List (List Int),a=wL us∧us.length≤maxLen:=aCA wy1 h
theorem aDn {xs:List AV} (hl:xs.length=6) (h:∀ (i:Nat) (c:CT) (a:AV),vaT[i]?=some c→xs[i]?=some a→Sh c a):∃ v:Va,AV.agg xs = .agg v.c∧Gd (.agg v.c):=by
 match xs,hl with
 | [a0,a1,a2,a3,a4,a5],_ =>
   have s1:=h 1 _ _ rfl rfl
   have s2:=h 2 _ _ rfl rfl
   have g1:=s1.gd
   have g2:=s2.gd
   obtain⟨n0,rfl,_⟩:=kD (h 0 _ _ rfl rfl)
   obtain⟨bs,rfl,_⟩:=aCA bo1 s1
   obtain⟨ps,rfl,_⟩:=aCA pl1 s2
   obtain⟨n3,rfl,_⟩:=kD (h 3 _ _ rfl rfl)
   obtain⟨n4,rfl,_⟩:=kD (h 4 _ _ rfl rfl)
   obtain⟨n5,rfl,_⟩:=kD (h 5 _ _ rfl rfl)
   refine⟨⟨n0,bs,ps,n3,n4,n5⟩,rfl,.agg _ fun c hc=>?_⟩
   simp only[List.mem_cons,List.not_mem_nil,or_false]at hc
   rcases hc with rfl|rfl|rfl|rfl|rfl|rfl
   ·exact .int _ _
   ·exact g1
   ·exact g2
   ·exact .int _ _
   ·exact .int _ _
   ·exact .int _ _

section
variable {H:Type} {enc:TypeId×Value→H} {P:Program} {w:World} {r:Reach} {base:Nat}
theorem aBH {t:TypeId} {fs:Array Field} (ht:P.underlying t=some (.struct fs)) {v:Value} (h:Value.okWide P w r base t v):∃ vs,v = .agg vs:=by
 unfold Value.okWide at h
 rw[ht]at h
 obtain⟨cs,h,_⟩:=h
 exact⟨cs,h⟩
theorem aJM {a b:AV} {u v:Value} {F:Nat→Prop} (h1:Rv F w a u) (h2:Rv F w b v):Args F w [a,b] #[u,v]:=⟨rfl,fun i a' v' e1 e2=>by
 match i with
 | 0=>simp at e1 e2;rw[←e1,←e2];exact h1
 | 1=>simp at e1 e2;rw[←e1,←e2];exact h2
 | i+2=>simp at e1⟩
end
end Go.Proofs.YtiabjdfdkiijmaaDoor
