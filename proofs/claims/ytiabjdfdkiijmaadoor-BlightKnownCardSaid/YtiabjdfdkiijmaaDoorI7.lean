/- Parts of a proof, joined: LA. No statement of the seed is proved here. -/
import Derived.Test.YtiabjdfdkiijmaaDoorRows
import Derived.Test.YtiabjdfdkiijmaaDoorCards
import Derived.Test.YtiabjdfdkiijmaaDoorTie
import Derived.WalkKit
import Derived.ProofKit
import Derived.LaidMore
import Derived.OpenShut
import Derived.SevenTiedAt
import Derived.Stop.Joined
import Derived.Test.YtiabjdfdkiijmaaDoorI6
set_option linter.unusedSimpArgs false
set_option linter.unusedVariables false
set_option linter.unusedSectionVars false
namespace Go.Proofs.YtiabjdfdkiijmaaDoor
open Go Go.DL Go.ChangeShapes Go.WideShapes Go.ChangeAt Go.RowKit
set_option maxRecDepth 100000

theorem own:ownKnob Tryd.prog.godebug=none:=by kernel_rfl
theorem laid:laidOutB Tryd.prog=true:=by kernel_rfl

abbrev zY:List (String×DataW Unit):=[("math/bits.deBruijn32tab", Rows.laid_math_bits_deBruijn32tab), ("math/bits.deBruijn64tab", Rows.laid_math_bits_deBruijn64tab)]
theorem g32:Tryd.prog.globalNamed "math/bits.deBruijn32tab" = some 0:=by kernel_rfl
theorem g64:Tryd.prog.globalNamed "math/bits.deBruijn64tab" = some 1:=by kernel_rfl
theorem aFe (os:Os) (args:Array Value):laidMetH Tryd.prog zY ((World.doorLaid Tryd.prog 400 os).forCall (fun _ _=>0) ⟨#[],args,[]⟩).memory :=
 laidMetH_of_parts3 (fuel:=8) (laidMet_of_run' 8 (by kernel_rfl) (by kernel_rfl)) (by kernel_rfl) (by kernel_rfl)
theorem aDw {P:Program} {H:Type} {enc:TypeId×Value→H} {W:World} {sp:Nat→Bool} {nm:String} {g t e n fuel:Nat} {ls:List Int} (hg:P.globalNamed nm=some g) (hu:P.underlying t=some (.array n e)) (he:P.underlying e=some (.int .u8)) (hc:P.cellsOf e=1)
 {cs:Array Value} {p:List MemPlace} (hv:W.var? P nm=some cs) (hd:DataW.trod enc P W 0 sp false fuel t cs.toList=some (.agg (ls.map fun v=>.lit (.int .u8 v)),p)):∀ j v,ls[j]?=some v→W.cell? ⟨g,j,none⟩=some (.int .u8 v):=by
 intro j v hj
 obtain⟨xs,m,rfl,hx,_,hn,hel⟩:=DataW.trod_array hu hd
 simp only[Prod.mk.injEq,DataW.agg.injEq]at hx
 have hjl:j<xs.length:=by
  have:=congrArg List.length hx.1
  simp only[List.length_map]at this
  have:=(List.getElem?_eq_some_iff.1 hj).1
  omega
 have h0:=hel j (by omega)
 rw[List.getElem?_eq_getElem hjl,hc,Nat.mul_one]at h0
 obtain⟨k,e1,e2,_⟩:=DataW.trod_int he h0
 have hk:k=v:=by
  have h1:(xs.map (·.1))[j]?=some (.lit (.int .u8 k)):=by rw[List.getElem?_map,List.getElem?_eq_getElem hjl,e2];rfl
  rw[←hx.1,List.getElem?_map,hj]at h1
  simpa using h1.symm
 subst hk
 rw[World.var?_cell hg hv j,←Array.getElem?_toList]
 have:(cs.toList.drop j)[0]?=some (.int .u8 k):=by
  have h2:((cs.toList.drop j).take 1)[0]?=some (.int .u8 k):=by rw[e1];rfl
  rw[List.getElem?_take_of_lt (by omega)]at h2
  exact h2
 rw[List.getElem?_drop]at this
 simpa using this
theorem aJr {W:World} (h:laidMetH Tryd.prog zY W):GI (fun b=>b<W.heap.size) W:=by
 rw[MakeChecks.laidMetH_plain _ _ _ (by kernel_rfl)]at h
 obtain⟨ps,⟨i0,t0,cs0,f0,p0,q0,hg0,ht0,hv0,hd0,⟨i1,t1,cs1,f1,p1,q1,hg1,ht1,hv1,hd1,_,_⟩,_⟩,_,_⟩:=h
 obtain rfl:=Option.some.inj (g32.symm.trans hg0)
 obtain rfl:=Option.some.inj (g64.symm.trans hg1)
 have e0:t0=(Tryd.prog.globals[0]?.map (·.type)).getD 0:=by rw[ht0];rfl
 have e1:t1=(Tryd.prog.globals[1]?.map (·.type)).getD 0:=by rw[ht1];rfl
 have k0:=aDw (ls:=[0,1,28,2,29,14,24,3,30,22,20,15,25,17,4,8,31,27,13,23,21,19,16,7,26,12,18,6,11,5,10,9]) g32 (t:=t0) (n:=32) (e:=5) (by rw[e0];kernel_rfl) Tryd.underlying5 (by kernel_rfl) hv0 hd0
 have k1:=aDw (ls:=(match sX 1 with|some l=>l.map (fun c=>(match c with | .int _ n=>n|_=>0))|none=>[])) g64 (t:=t1) (n:=64) (e:=5) (by rw[e1];kernel_rfl) Tryd.underlying5 (by kernel_rfl) hv1 hd1
 have lt:∀ {g j:Nat} {v:Value},W.cell? ⟨g,j,none⟩=some v→g<W.heap.size:=fun h=>(aBs h).2
 have fin:∀ (g:Nat) (ls:List Int),ls.length≠0→(∀ j v,ls[j]?=some v→W.cell? ⟨g,j,none⟩=some (.int .u8 v))→g<W.heap.size∧∃ gv:Nat→Value,(∀ j,(gv j).oneCell'=true)∧∀ j c,(ls.map fun v=>AV.int .u8 v)[j]?=some c→W.cell? ⟨g,j,none⟩=some (gv j)∧Rv (fun b=>b<W.heap.size) W c (gv j):=by
  intro g ls hl h
  refine⟨?_,fun j=>.int .u8 (ls.getD j 0),fun _=>rfl,fun j c hj=>?_⟩
  ·cases ls with
   | nil=>simp at hl
   | cons a r=>exact lt (h 0 a rfl)
  ·rw[List.getElem?_map,Option.map_eq_some_iff]at hj
   obtain⟨v,hv,rfl⟩:=hj
   have:ls.getD j 0=v:=bJ hv
   dsimp only
   rw[this]
   exact⟨h j v hv,.int _ _⟩
 intro g row hr
 unfold sX at hr
 by_cases h0:g=0
 ·rw[if_pos h0]at hr
  simp only[oSI]at hr
  rw[←hr,h0]
  exact fin 0 _ (by decide) k0
 ·rw[if_neg h0]at hr
  by_cases h1:g=1
  ·rw[if_pos h1]at hr
   simp only[oSI]at hr
   rw[←hr,h1]
   exact fin 1 _ (by decide) k1
  ·rw[if_neg h1]at hr
   simp at hr

section
variable {H:Type} {enc:TypeId×Value→H} {P:Program} {w:World} {r:Reach} {base:Nat}
theorem aIn {F:Nat→Prop}:Args F w [] #[]:=⟨rfl,fun i a' v' h1 h2=>by simp at h1⟩
end
end Go.Proofs.YtiabjdfdkiijmaaDoor
