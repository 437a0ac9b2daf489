/- Parts of a proof, joined: LA. No statement of the seed is proved here. -/
import Derived.Test.YtmcbhljgkgfanaaDoorRows
import Derived.Test.YtmcbhljgkgfanaaDoorCards
import Derived.Test.YtmcbhljgkgfanaaDoorTie
import Derived.WalkKit
import Derived.ProofKit
import Derived.LaidMore
import Derived.OpenShut
import Derived.SevenTiedAt
import Derived.Stop.Joined
import Derived.Test.YtmcbhljgkgfanaaDoorH7
set_option linter.unusedSimpArgs false
set_option linter.unusedVariables false
set_option linter.unusedSectionVars false
namespace Go.Proofs.YtmcbhljgkgfanaaDoor
open Go Go.DL Go.ChangeShapes Go.WideShapes Go.ChangeAt Go.RowKit
set_option maxRecDepth 100000

theorem own:ownKnob Tryd.prog.godebug=none:=by kernel_rfl
theorem laid:laidOutB Tryd.prog=true:=by kernel_rfl

abbrev aBq:List (String×DataW Unit):=[("math/bits.deBruijn32tab", Rows.laid_math_bits_deBruijn32tab), ("math/bits.deBruijn64tab", Rows.laid_math_bits_deBruijn64tab)]
theorem g32:Tryd.prog.globalNamed "math/bits.deBruijn32tab" = some 0:=by kernel_rfl
theorem g64:Tryd.prog.globalNamed "math/bits.deBruijn64tab" = some 1:=by kernel_rfl
theorem aHm (os:Os) (args:Array Value):laidMetH Tryd.prog aBq ((World.doorLaid Tryd.prog 400 os).forCall (fun _ _=>0) ⟨#[],args,[]⟩).memory :=
 laidMetH_of_parts3 (fuel:=8) (laidMet_of_run' 8 (by kernel_rfl) (by kernel_rfl)) (by kernel_rfl) (by kernel_rfl)
theorem aFp {P:Program} {H:Type} {enc:TypeId×Value→H} {W:World} {sp:Nat→Bool} {nm:String} {g t e n fuel:Nat} {ls:List Int} (hg:P.globalNamed nm=some g) (hu:P.underlying t=some (.array n e)) (he:P.underlying e=some (.int .u8)) (hc:P.cellsOf e=1)
 {cs:Array Value} {p:List MemPlace} (hv:W.var? P nm=some cs) (hd:DataW.trod enc P W 0 sp false fuel t cs.toList=some (.agg (ls.map fun v=>.lit (.int .u8 v)),p)):∀ j v,ls[j]?=some v→W.cell? ⟨g,j,none⟩=some (.int .u8 v):=by
 intro j v hj
 obtain⟨xs,m,rfl,hx,_,hn,hel⟩:=DataW.trod_array hu hd
 simp only[Prod.mk.injEq,DataW.agg.injEq]at hx
 have hjl:j<xs.length:=by
  have:=congrArg List.length hx.1
  simp only[List.length_map]at this
  have:=(List.getElem?_eq_some_iff.1 hj).1
  omega
 have h0:=hel j (by omega)
 rw[List.getElem?_eq_getElem hjl,hc,Nat.mul_one]at h0
 obtain⟨k,e1,e2,_⟩:=DataW.trod_int he h0
 have hk:k=v:=by
  have h1:(xs.map (·.1))[j]?=some (.lit (.int .u8 k)):=by rw[List.getElem?_map,List.getElem?_eq_getElem hjl,e2];rfl
  rw[←hx.1,List.getElem?_map,hj]at h1
  simpa using h1.symm
 subst hk
 rw[World.var?_cell hg hv j,←Array.getElem?_toList]
 have:(cs.toList.drop j)[0]?=some (.int .u8 k):=by
  have h2:((cs.toList.drop j).take 1)[0]?=some (.int .u8 k):=by rw[e1];rfl
  rw[List.getElem?_take_of_lt (by omega)]at h2
  exact h2
 rw[List.getElem?_drop]at this
 simpa using this
theorem aMt {W:World} (h:laidMetH Tryd.prog aBq W):GI (fun b=>b<W.heap.size) W:=by
 rw[MakeChecks.laidMetH_plain _ _ _ (by kernel_rfl)]at h
 obtain⟨ps,⟨i0,t0,cs0,f0,p0,q0,hg0,ht0,hv0,hd0,⟨i1,t1,cs1,f1,p1,q1,hg1,ht1,hv1,hd1,_,_⟩,_⟩,_,_⟩:=h
 obtain rfl:=Option.some.inj (g32.symm.trans hg0)
 obtain rfl:=Option.some.inj (g64.symm.trans hg1)
 have e0:t0=(Tryd.prog.globals[0]?.map (·.type)).getD 0:=by rw[ht0];rfl
 have e1:t1=(Tryd.prog.globals[1]?.map (·.type)).getD 0:=by rw[ht1];rfl
 have k0:=aFp (ls:=[0,1,28,2,29,14,24,3,30,22,20,15,25,17,4,8,31,27,13,23,21,19,16,7,26,12,18,6,11,5,10,9]) g32 (t:=t0) (n:=32) (e:=5) (by rw[e0];kernel_rfl) Tryd.underlying5 (by kernel_rfl) hv0 hd0
 have k1:=aFp (ls:=(match uX 1 with|some l=>l.map (fun c=>(match c with | .int _ n=>n|_=>0))|none=>[])) g64 (t:=t1) (n:=64) (e:=5) (by rw[e1];kernel_rfl) Tryd.underlying5 (by kernel_rfl) hv1 hd1
 have lt:∀ {g j:Nat} {v:Value},W.cell? ⟨g,j,none⟩=some v→g<W.heap.size:=fun h=>(xL h).2
 have fin:∀ (g:Nat) (ls:List Int),ls.length≠0→(∀ j v,ls[j]?=some v→W.cell? ⟨g,j,none⟩=some (.int .u8 v))→g<W.heap.size∧∃ gv:Nat→Value,(∀ j,(gv j).oneCell'=true)∧∀ j c,(ls.map fun v=>AV.int .u8 v)[j]?=some c→W.cell? ⟨g,j,none⟩=some (gv j)∧Rv (fun b=>b<W.heap.size) W c (gv j):=by
  intro g ls hl h
  refine⟨?_,fun j=>.int .u8 (ls.getD j 0),fun _=>rfl,fun j c hj=>?_⟩
  ·cases ls with
   | nil=>simp at hl
   | cons a r=>exact lt (h 0 a rfl)
  ·rw[List.getElem?_map,Option.map_eq_some_iff]at hj
   obtain⟨v,hv,rfl⟩:=hj
   have:ls.getD j 0=v:=bY hv
   dsimp only
   rw[this]
   exact⟨h j v hv,.int _ _⟩
 intro g row hr
 unfold uX at hr
 by_cases h0:g=0
 ·rw[if_pos h0]at hr
  simp only[oSI]at hr
  rw[←hr,h0]
  exact fin 0 _ (by decide) k0
 ·rw[if_neg h0]at hr
  by_cases h1:g=1
  ·rw[if_pos h1]at hr
   simp only[oSI]at hr
   rw[←hr,h1]
   exact fin 1 _ (by decide) k1
  ·rw[if_neg h1]at hr
   simp at hr

abbrev p2T:List CT:=[.int .u8,.int .u8]
abbrev b3T:List CT:=[.int .u8,.int .u8,.int .u8]
theorem aJJ:Flat Tryd.prog 5 [.int .u8]:=.int Tryd.underlying5
theorem aKN:Flat Tryd.prog 33 p2T:=.array (n:=2) Tryd.underlying33 aJJ (by kernel_rfl) (by kernel_rfl)
theorem aHa:Flat Tryd.prog 22 [.sl p2T]:=.sl Tryd.underlying22 aKN (by kernel_rfl) (by decide)
theorem aGZ:Flat Tryd.prog 23 b3T:=.array (n:=3) Tryd.underlying23 aJJ (by kernel_rfl) (by kernel_rfl)
theorem aKO:Flat Tryd.prog 24 [.sl b3T]:=.sl Tryd.underlying24 aGZ (by kernel_rfl) (by decide)
theorem aGP {k:IntKind} {a:AV} (h:Sh (.int k) a):∃ n,a = .int k n∧(Lit.int k n).wf=true:=by cases h;exact⟨_,rfl,by assumption⟩
theorem aBc {α:Type} {f:α→List AV} {r:List CT} (key:∀ row:List AV,row.length=r.length→(∀ (i:Nat) (c:CT) (a:AV),r[i]?=some c→row[i]?=some a→Sh c a)→∃ x,row=f x):∀ {rows:List (List AV)},(∀ row∈rows,row.length=r.length) →
 (∀ row∈rows,∀ (i:Nat) (c:CT) (a:AV),r[i]?=some c→row[i]?=some a→Sh c a)→∃ l:List α,rows=l.map f
 | [],_,_=>⟨[],rfl⟩
 | a::rows,h1,h2=>by
   obtain⟨l,rfl⟩:=aBc key (rows:=rows) (fun row hr=>h1 row (by simp[hr])) (fun row hr=>h2 row (by simp[hr]))
   obtain⟨x,rfl⟩:=key a (h1 a (by simp)) (h2 a (by simp))
   exact⟨x::l,rfl⟩
theorem aJz {α:Type} {f:α→List AV} {r:List CT} (key:∀ row:List AV,row.length=r.length→(∀ (i:Nat) (c:CT) (a:AV),r[i]?=some c→row[i]?=some a→Sh c a)→∃ x,row=f x) {a:AV} (h:Sh (.sl r) a):∃ l:List α,a = .fs (l.map f)∧l.length≤maxLen:=by
 cases h with
 | sl _ rows h1 hn h2 =>
   obtain⟨l,rfl⟩:=aBc key h1 h2
   exact⟨l,rfl,by simpa using hn⟩
theorem vM {n:Int} (h:(Lit.int .u8 n).wf=true):∃ m:Nat,n=(m:Int)∧m<256:=by
 simp[Lit.wf,IntKind.bits,IntKind.signed,IntKind.min,IntKind.max]at h
 exact⟨n.toNat,by omega,by omega⟩
theorem aOi:∀ row:List AV,row.length=p2T.length→(∀ (i:Nat) (c:CT) (a:AV),p2T[i]?=some c→row[i]?=some a→Sh c a)→∃ x:{ x:Nat×Nat // x.1<256∧x.2<256 },row=[B8 x.1.1,B8 x.1.2]:=by
 intro row hl h
 match row,hl with
 | [a0,a1],_ =>
   cases h 0 _ _ rfl rfl with
   | int _ n0 q0 =>
   cases h 1 _ _ rfl rfl with
   | int _ n1 q1 =>
   obtain⟨m0,rfl,b0⟩:=vM q0
   obtain⟨m1,rfl,b1⟩:=vM q1
   exact⟨⟨(m0,m1),b0,b1⟩,rfl⟩
theorem aMc:∀ row:List AV,row.length=b3T.length→(∀ (i:Nat) (c:CT) (a:AV),b3T[i]?=some c→row[i]?=some a→Sh c a)→∃ x:{ x:Nat×Nat×Nat // x.1<256∧x.2.1<256∧x.2.2<256 },row=[B8 x.1.1,B8 x.1.2.1,B8 x.1.2.2]:=by
 intro row hl h
 match row,hl with
 | [a0,a1,a2],_ =>
   cases h 0 _ _ rfl rfl with
   | int _ n0 q0 =>
   cases h 1 _ _ rfl rfl with
   | int _ n1 q1 =>
   cases h 2 _ _ rfl rfl with
   | int _ n2 q2 =>
   obtain⟨m0,rfl,b0⟩:=vM q0
   obtain⟨m1,rfl,b1⟩:=vM q1
   obtain⟨m2,rfl,b2⟩:=vM q2
   exact⟨⟨(m0,m1,m2),b0,b1,b2⟩,rfl⟩
theorem aKl {a:AV} (h:Sh (.sl b3T) a):∃ us:List (Nat×Nat×Nat),(∀ v∈us,v.1<256∧v.2.1<256∧v.2.2<256)∧us.length≤maxLen∧a = .fs (us.map fun v=>[B8 v.1,B8 v.2.1,B8 v.2.2]):=by
 obtain⟨us,h1,h2⟩:=aJz aMc h
 refine⟨us.map (·.1),fun v hv=>?_,by rw[List.length_map];exact h2,by rw[h1,List.map_map];rfl⟩
 obtain⟨x,_,rfl⟩:=List.mem_map.1 hv
 exact x.2
theorem aGw {a:AV} (h:Sh (.sl p2T) a):∃ us:List (Nat×Nat),(∀ v∈us,v.1<256∧v.2<256)∧us.length≤maxLen∧a = .fs (us.map fun v=>[B8 v.1,B8 v.2]):=by
 obtain⟨us,h1,h2⟩:=aJz aOi h
 refine⟨us.map (·.1),fun v hv=>?_,by rw[List.length_map];exact h2,by rw[h1,List.map_map];rfl⟩
 obtain⟨x,_,rfl⟩:=List.mem_map.1 hv
 exact x.2
theorem aCs {P:Program} {w:World} {r:Reach} {base:Nat} {t:TypeId} {n:Nat} {e:TypeId} (ht:P.underlying t=some (.array n e)) {v:Value} (h:Value.okWide P w r base t v):∃ vs,v = .agg vs:=by
 unfold Value.okWide at h
 rw[ht]at h
 obtain⟨cs,h,_⟩:=h
 exact⟨cs,h⟩
theorem aMC {xs:List AV} (hl:xs.length=3) (h:∀ (i:Nat) (c:CT) (a:AV),b3T[i]?=some c→xs[i]?=some a→Sh c a):∃ m0 m1 m2:Nat,AV.agg xs = .agg [B8 m0,B8 m1,B8 m2]∧Gd (.agg [B8 m0,B8 m1,B8 m2])∧m0<256∧m1<256∧m2<256:=by
 obtain⟨⟨⟨m0,m1,m2⟩,b0,b1,b2⟩,e⟩:=aMc xs hl h
 refine⟨m0,m1,m2,by rw[e],.agg _ fun c hc=>?_,b0,b1,b2⟩
 simp only[List.mem_cons,List.not_mem_nil,or_false]at hc
 rcases hc with rfl|rfl|rfl
 ·exact .int _ _
 ·exact .int _ _
 ·exact .int _ _
section
variable {H:Type} {enc:TypeId×Value→H} {P:Program} {w:World} {r:Reach} {base:Nat}
theorem aLg {a b c d e f:AV} {u v x y z t:Value} {F:Nat→Prop} (h1:Rv F w a u) (h2:Rv F w b v) (h3:Rv F w c x) (h4:Rv F w d y) (h5:Rv F w e z) (h6:Rv F w f t):Args F w [a,b,c,d,e,f] #[u,v,x,y,z,t]:=⟨rfl,fun i a' v' e1 e2=>by
 match i with
 | 0=>simp at e1 e2;rw[←e1,←e2];exact h1
 | 1=>simp at e1 e2;rw[←e1,←e2];exact h2
 | 2=>simp at e1 e2;rw[←e1,←e2];exact h3
 | 3=>simp at e1 e2;rw[←e1,←e2];exact h4
 | 4=>simp at e1 e2;rw[←e1,←e2];exact h5
 | 5=>simp at e1 e2;rw[←e1,←e2];exact h6
 | i+6=>simp at e1⟩
end
end Go.Proofs.YtmcbhljgkgfanaaDoor
