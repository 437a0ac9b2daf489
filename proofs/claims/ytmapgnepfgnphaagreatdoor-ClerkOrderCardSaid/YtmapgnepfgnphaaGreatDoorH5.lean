/- Parts of a proof, joined: LA W0. No statement of the seed is proved here. -/
import Derived.Test.YtmapgnepfgnphaaGreatDoorRows
import Derived.Test.YtmapgnepfgnphaaGreatDoorCards
import Derived.Test.YtmapgnepfgnphaaGreatDoorTie
import Derived.WalkKit
import Derived.ProofKit
import Derived.LaidMore
import Derived.Lay
import Derived.LaidOnce
import Derived.OpenShut
import Derived.SevenTiedAt
import Derived.Stop.Joined
import Derived.HandedShaped
import Derived.Shelf.Vars
import Derived.Test.YtmapgnepfgnphaaGreatDoorH4
set_option linter.unusedSimpArgs false
set_option linter.unusedVariables false
set_option linter.unusedSectionVars false
namespace Go.Proofs.YtmapgnepfgnphaaGreatDoor
open Go Go.DL Go.ChangeShapes Go.WideShapes Go.ChangeAt Go.RowKit
set_option maxRecDepth 100000

theorem own:ownKnob Tryz.prog.godebug=none:=by kernel_rfl
theorem laid:laidOutB Tryz.prog=true:=by kernel_rfl

abbrev yM:List (String×DataW Unit):=[("math/bits.deBruijn32tab", Rows.laid_math_bits_deBruijn32tab), ("math/bits.deBruijn64tab", Rows.laid_math_bits_deBruijn64tab), ("internal/strconv.uint64pow10", Rows.laid_internal_strconv_uint64pow10), ("unicode/utf8.acceptRanges", Rows.laid_unicode_utf8_acceptRanges), ("strconv.ErrRange", Rows.laid_strconv_ErrRange), ("strconv.ErrSyntax", Rows.laid_strconv_ErrSyntax), ("unicode/utf8.first", Rows.laid_unicode_utf8_first)]
theorem g32:Tryz.prog.globalNamed "math/bits.deBruijn32tab" = some 6:=by kernel_rfl
theorem g64:Tryz.prog.globalNamed "math/bits.deBruijn64tab" = some 7:=by kernel_rfl
theorem gp10:Tryz.prog.globalNamed "internal/strconv.uint64pow10" = some 0:=by kernel_rfl
theorem aGG (os:Os) (args:Array Value):laidMetH Tryz.prog yM ((World.laidAll Tryz.prog os yM).forCall (fun _ _=>0) ⟨#[],args,[]⟩).memory:=by
 rw[MakeChecks.laidMetH_plain _ _ _ (by kernel_rfl)]
 exact laidMet_laidAll _ (by kernel_rfl) (by kernel_rfl)
theorem aEi {k:IntKind} {P:Program} {H:Type} {enc:TypeId×Value→H} {W:World} {sp:Nat→Bool} {nm:String} {g t e n fuel:Nat} {ls:List Int} (hg:P.globalNamed nm=some g) (hu:P.underlying t=some (.array n e)) (he:P.underlying e=some (.int k)) (hc:P.cellsOf e=1)
 {cs:Array Value} {p:List MemPlace} (hv:W.var? P nm=some cs) (hd:DataW.trod enc P W 0 sp false fuel t cs.toList=some (.agg (ls.map fun v=>.lit (.int k v)),p)):∀ (j:Nat) (v:Int),ls[j]?=some v→cs[j]?=some (Value.int k v):=by
 intro j v hj
 obtain⟨xs,m,rfl,hx,_,hn,hel⟩:=DataW.trod_array hu hd
 simp only[Prod.mk.injEq,DataW.agg.injEq]at hx
 have hjl:j<xs.length:=by
  have:=congrArg List.length hx.1
  simp only[List.length_map]at this
  have:=(List.getElem?_eq_some_iff.1 hj).1
  omega
 have h0:=hel j (by omega)
 rw[List.getElem?_eq_getElem hjl,hc,Nat.mul_one]at h0
 obtain⟨k',e1,e2,_⟩:=DataW.trod_int he h0
 have hk:k'=v:=by
  have h1:(xs.map (·.1))[j]?=some (DataW.lit (Lit.int k k')):=by rw[List.getElem?_map,List.getElem?_eq_getElem hjl,e2];rfl
  rw[←hx.1,List.getElem?_map,hj]at h1
  simpa using h1.symm
 subst hk
 rw[←Array.getElem?_toList]
 have:(cs.toList.drop j)[0]?=some (Value.int k k'):=by
  have h2:((cs.toList.drop j).take 1)[0]?=some (Value.int k k'):=by rw[e1];rfl
  rw[List.getElem?_take_of_lt (by omega)]at h2
  exact h2
 rw[List.getElem?_drop]at this
 simpa using this
theorem oC {P:Program} {W:World} {nm:String} {g:Nat} {cs:Array Value} (hg:P.globalNamed nm=some g) (h:W.var? P nm=some cs):∃ e fr,W.heap[g]?=some (.cells cs e fr):=by
 simp only[World.var?,hg,Option.bind_some]at h
 split at h
 ·simp only[oSI]at h
  subst h
  exact⟨_,_,by assumption⟩
 ·cases h
abbrev p10:List Int:=(List.range 20).map fun i=>((10^i:Nat):Int)
abbrev aQD:List Int:=(match sJ 6 with|some l=>l.map (fun c=>(match c with | .int _ n=>n|_=>0))|none=>[])
abbrev aQC:List Int:=(match sJ 7 with|some l=>l.map (fun c=>(match c with | .int _ n=>n|_=>0))|none=>[])
theorem wI {H:Type} {enc:TypeId×Value→H} {P:Program} {W:World} {sp:Nat→Bool} {held:Bool} {fuel t:Nat} {cs:List Value} {x:DataW H×List MemPlace} (ht:∃ m,P.underlying t=some (.interface m)) (h:DataW.trod enc P W 0 sp held fuel t cs=some x):∃ v,cs=[v]∧(v = .nilIface∨∃ te pe,v = .iface te pe):=by
 obtain⟨m,ht⟩:=ht
 cases fuel with
 | zero=>simp[DataW.trod]at h
 | succ n =>
   unfold DataW.trod at h
   rw[ht]at h
   rcases cs with _|⟨v,_|⟨_,_⟩⟩
   ·simp at h
   ·cases v
    all_goals first|exact⟨_,rfl,.inl rfl⟩|exact⟨_,rfl,.inr ⟨_,_,rfl⟩⟩|(exfalso;simp at h)
   ·simp at h
theorem aDD {P:Program} {t:TypeId} (h:(match P.underlying t with|some (.interface _)=>true|_=>false)=true):∃ m,P.underlying t=some (.interface m):=by
 split at h
 ·exact⟨_,by assumption⟩
 ·cases h
theorem gEr:Tryz.prog.globalNamed "strconv.ErrRange" = some 2:=by kernel_rfl
theorem gEs:Tryz.prog.globalNamed "strconv.ErrSyntax" = some 1:=by kernel_rfl
theorem aTd {W:World} (h:laidMetH Tryz.prog yM W) (hs:W.ShapedOpen Tryz.prog):GI (fun b=>b<W.heap.size) W:=by
 rw[MakeChecks.laidMetH_plain _ _ _ (by kernel_rfl)]at h
 obtain⟨ps,⟨i0,t0,cs0,f0,p0,q0,hg0,ht0,hv0,hd0,⟨i1,t1,cs1,f1,p1,q1,hg1,ht1,hv1,hd1,⟨i2,t2,cs2,f2,p2,q2,hg2,ht2,hv2,hd2,⟨i3,t3,cs3,f3,p3,q3,hg3,ht3,hv3,hd3,⟨i4,t4,cs4,f4,p4,q4,hg4,ht4,hv4,hd4,⟨i5,t5,cs5,f5,p5,q5,hg5,ht5,hv5,hd5,_,_⟩,_⟩,_⟩,_⟩,_⟩,_⟩,_,_⟩:=h
 obtain rfl:=Option.some.inj (gEr.symm.trans hg4)
 obtain rfl:=Option.some.inj (gEs.symm.trans hg5)
 obtain rfl:=Option.some.inj (g32.symm.trans hg0)
 obtain rfl:=Option.some.inj (g64.symm.trans hg1)
 obtain rfl:=Option.some.inj (gp10.symm.trans hg2)
 have e0:t0=(Tryz.prog.globals[6]?.map (·.type)).getD 0:=by rw[ht0];rfl
 have e1:t1=(Tryz.prog.globals[7]?.map (·.type)).getD 0:=by rw[ht1];rfl
 have e2:t2=(Tryz.prog.globals[0]?.map (·.type)).getD 0:=by rw[ht2];rfl
 have k0:=aEi (k:=.u8) (ls:=aQD) g32 (t:=t0) (n:=32) (e:=5) (by rw[e0];kernel_rfl) Tryz.underlying5 (by kernel_rfl) hv0 hd0
 have k1:=aEi (k:=.u8) (ls:=aQC) g64 (t:=t1) (n:=64) (e:=5) (by rw[e1];kernel_rfl) Tryz.underlying5 (by kernel_rfl) hv1 hd1
 have k2:=aEi (k:=.u64) (ls:=p10) gp10 (t:=t2) (n:=20) (e:=222) (by rw[e2];kernel_rfl) Tryz.underlying222 (by kernel_rfl) hv2 hd2
 obtain⟨xs,m,_,_,hsz,_,_⟩:=DataW.trod_array (t:=t2) (n:=20) (e:=222) (by rw[e2];kernel_rfl) hd2
 have hsz:cs2.size=20:=by rw[←Array.length_toList,hsz,e2];kernel_rfl
 have c2:cs2=((List.range 20).map fun i=>Value.int .u64 ((10^i:Nat):Int)).toArray:=by
  apply Array.ext_getElem?
  intro j
  have el:∀ l:List Value,l.toArray[j]?=l[j]?:=fun l=>by simp
  refine Eq.trans ?_ (el _).symm
  rw[List.getElem?_map]
  by_cases hj:j<20
  ·rw[List.getElem?_range hj,Option.map_some]
   exact k2 j _ (by rw[List.getElem?_map,List.getElem?_range hj];rfl)
  ·rw[Array.getElem?_eq_none (by omega),List.getElem?_eq_none (by simpa using hj)];rfl
 obtain⟨x0,fr0,hh0⟩:=oC g32 hv0
 obtain⟨x1,fr1,hh1⟩:=oC g64 hv1
 obtain⟨x2,fr2,hh2⟩:=oC gp10 hv2
 have lt:∀ {g:Nat} {o:Obj},W.heap[g]?=some o→g<W.heap.size:=fun h=>by
  rcases Nat.lt_or_ge _ W.heap.size with h1|h1
  ·exact h1
  ·rw[Array.getElem?_eq_none h1]at h;cases h
 have fin:∀ (g:Nat) (k:IntKind) (ls:List Int) (cs:Array Value) (e:TypeId) (fr:Nat×Nat),W.heap[g]?=some (.cells cs e fr)→(∀ (j:Nat) (v:Int),ls[j]?=some v→cs[j]?=some (Value.int k v)) →
  g<W.heap.size∧∃ gv:Nat→Value,(∀ j,(gv j).oneCell'=true)∧∀ j c,(ls.map fun v=>AV.int k v)[j]?=some c→W.cell? ⟨g,j,none⟩=some (gv j)∧Rv (fun b=>b<W.heap.size) W c (gv j):=by
  intro g k ls cs e fr hg h
  refine⟨lt hg,fun j=>.int k (ls.getD j 0),fun _=>rfl,fun j c hj=>?_⟩
  rw[List.getElem?_map,Option.map_eq_some_iff]at hj
  obtain⟨v,hv,rfl⟩:=hj
  have:ls.getD j 0=v:=by rw[List.getD_eq_getElem?_getD,hv];rfl
  dsimp only
  rw[this]
  refine⟨?_,.int _ _⟩
  simp only[World.cell?,hg]
  exact h j v hv
 have e4:t4=(Tryz.prog.globals[2]?.map (·.type)).getD 0:=by rw[ht4];rfl
 have e5:t5=(Tryz.prog.globals[1]?.map (·.type)).getD 0:=by rw[ht5];rfl
 have ifc:∀ (g:Nat) (cs:Array Value) (v:Value),(∃ e fr,W.heap[g]?=some (.cells cs e fr))→cs.toList=[v]→g<W.heap.size∧W.cell? ⟨g,0,none⟩=some v:=by
  rintro g cs v ⟨e,fr,hh⟩ hc
  refine⟨lt hh,?_⟩
  simp only[World.cell?,hh]
  rw[←Array.getElem?_toList,hc];rfl
 refine⟨fun g row hr=>?_,fun g hg=>?_,fun p hp=>?_,fun g hg=>?_⟩
 ·unfold sJ at hr
  by_cases h0:g=0
  ·rw[if_pos h0]at hr
   simp only[oSI]at hr
   rw[←hr,h0]
   exact fin 0 .u64 p10 _ _ _ hh2 k2
  ·rw[if_neg h0]at hr
   by_cases h1:g=6
   ·rw[if_pos h1]at hr
    simp only[oSI]at hr
    rw[←hr,h1]
    exact fin 6 .u8 aQD _ _ _ hh0 k0
   ·rw[if_neg h1]at hr
    by_cases h2:g=7
    ·rw[if_pos h2]at hr
     simp only[oSI]at hr
     rw[←hr,h2]
     exact fin 7 .u8 aQC _ _ _ hh1 k1
    ·rw[if_neg h2]at hr
     cases hr
 ·have hg3:g=3:=by simpa [yX]using hg
  subst hg3
  obtain⟨n,hn⟩:=cell_of_shapedOpen_int (P:=Tryz.prog) (g:=3) (t:=3) (zero := #[.int .i64 0]) (k:=.i64) hs (of_decide_eq_true (by kernel_rfl)) (by kernel_rfl) rfl (by kernel_rfl) (by kernel_rfl) Tryz.underlying3
  exact⟨(zS hn).2,n,hn⟩
 ·have hp0:p=(0,(List.range 20).map fun i=>Value.int .u64 ((10^i:Nat):Int)):=by simpa [yY]using hp
  rw[hp0]
  refine⟨lt hh2,x2,fr2,?_⟩
  rw[hh2,c2]
 ·have hg2:g=1∨g=2:=by simpa [vW]using hg
  rcases hg2 with rfl|rfl
  ·obtain⟨v,h1,h2⟩:=wI (t:=t5) (by rw[e5];exact aDD (by kernel_rfl)) hd5
   obtain⟨k1,k2⟩:=ifc 1 cs5 v (oC gEs hv5) h1
   exact⟨k1,v,k2,h2⟩
  ·obtain⟨v,h1,h2⟩:=wI (t:=t4) (by rw[e4];exact aDD (by kernel_rfl)) hd4
   obtain⟨k1,k2⟩:=ifc 2 cs4 v (oC gEr hv4) h1
   exact⟨k1,v,k2,h2⟩
end Go.Proofs.YtmapgnepfgnphaaGreatDoor
namespace Go.Proofs.YtmapgnepfgnphaaGreatDoor
open Go Go.DL
abbrev sB (l:List UInt8):AV:=.str ⟨⟨l⟩⟩
abbrev cB (l:List AV):Option XB:=some (.blk false (.cells true l))
abbrev gB (l:List AV):Option XB:=some (.blk true (.cells true l))
abbrev mB (l:List (AV×AV)):Option XB:=some (.blk false (.map true l))
abbrev nB (l:List (AV×AV)):Option XB:=some (.blk true (.map true l))
abbrev gX (l:List Int):List AV:=l.map (.int .u8 ·)
abbrev bP (n:Nat):List UInt8:=List.replicate n 32
abbrev bJ (n:Nat):List Int:=List.replicate n 32
abbrev sx0:AV:=sB [98,111]
abbrev sx1:AV:=sB [119,49]
abbrev sx2:AV:=sB [97,110,97]
abbrev sx3:AV:=sB [119,50]
abbrev sx4:AV:=sB [102,97,114,109,101,114,32,97,110,97]
abbrev sx5:AV:=sB [102,97,114,109,101,114,32,98,111]
abbrev sx6:AV:=sB [119,97,103,111,110,32,119,49,32,49,53,48,48,48,32,53,48,48,48,32,97,110,97]
abbrev sx7:AV:=sB [119,97,103,111,110,32,119,49,32,49,52,48,48,48,32,53,53,48,48,32,98,111]
abbrev sx8:AV:=sB [99,108,111,115,101]
abbrev sx9:AV:=sB [111,107]
abbrev aAe:AV:=sB [118,111,105,100,32,48]
abbrev aBC:AV:=sB [119,97,103,111,110,32,119,50,32,57,48,48,48,32,51,48,48,48,32,98,111]
abbrev aGD:AV:=sB [109,101,116,101,114,32,109,32,57,57,57,57,48]
abbrev aIf:AV:=sB [109,101,116,101,114,32,109,32,49,53]
abbrev aLA:AV:=sB [112,97,110,32,112,32,57,48,48,32,56,55,48]
abbrev aLz:AV:=sB [116,111,116,97,108]
abbrev aLy:AV:=sB [116,105,99,107,101,116,32,48]
abbrev aLx:AV:=sB [117,115,101,100,32,109]
abbrev aIe:AV:=sB [49,52,53,48,48]
abbrev aOd:AV:=sB [110,101,116,32,98,111]
abbrev aLw:AV:=sB [110,111,32,54]
abbrev aLv:AV:=sB [110,111,32,49,48]
abbrev aLu:AV:=sB [110,111,32,53]
abbrev aLt:AV:=sB [110,111,32,49,51]
abbrev aRv:AV:=sB [119,97,103,111,110,32,119,49,32,49,52,48,48,48,32,53,53,48,49,32,98,111]
abbrev aRu:AV:=sB [119,97,103,111,110,32,119,50,32,51,48,48,48,32,52,48,48,48,32,97,110,97]
abbrev aRt:AV:=sB [119,97,103,111,110,32,119,50,32,52,48,48,48,32,51,48,48,48,32,101,118,101]
abbrev aRs:AV:=sB [112,111,119,101,114,32,97,110,97]
abbrev aRr:AV:=sB [112,111,119,101,114,32,98,111]
abbrev aRq:AV:=sB [118,111,105,100,32,49]
abbrev aRp:AV:=sB [118,111,105,100,32,51]
abbrev aRo:AV:=sB [112,97,110,32,112,32,49,48,48,32,49,48,49]
abbrev aRn:AV:=sB [108,111,115,115,32,112]
abbrev aRm:AV:=sB [110,101,116,32,32,98,111]
abbrev aRl:AV:=sB [110,101,116,32,66,111]
abbrev aRk:AV:=sB [119,97,103,111,110,32,119,51,32,49,32,48,50,32,98,111]
abbrev aRj:AV:=sB [115,117,103,97,114]
abbrev aOc:AV:=sB [102,97,114,109,101,114,32,97]
abbrev aOb:AV:=sB ([122,97,102,114,97,32,49,52,10,51,52,54,51,102,97,114,109,101,114,32,97,110,97]++bP 30++[10,50,56,51,49,102,97,114,109,101,114,32,98,111]++bP 31++[10,56,54,56,52,119,97,103,111,110,32,119,49,32,49,53,48,48,48,32,53,48,48,48,32,97,110,97]++bP 17++[10,55,51,48,55,119,97,103,111,110,32,119,49,32,49,52,48,48,48,32,53,53,48,48,32,98,111]++bP 18++[10,54,55,57,57,119,97,103,111,110,32,119,50,32,57,48,48,48,32,51,48,48,48,32,98,111]++bP 19++[10,51,56,49,49,53,72,124,43,119,101,103,120,94,61,89,80,80,64,51,90,85,80,64,98,52,94,97]++bP 17++[10,48,56,51,55,118,111,105,100,32,48]++bP 34++[10,49,49,52,48,99,108,111,115,101]++bP 35++[10,50,57,53,56,109,101,116,101,114,32,109,32,57,57,57,57,48]++bP 27++[10,50,48,54,52,109,101,116,101,114,32,109,32,49,53]++bP 30++[10,50,48,52,57,112,97,110,32,112,32,57,48,48,32,56,55,48]++bP 27++[10,51,54,57,57,39,105,50,36,60,48,116,48,90,78,81,80,64]++bP 27++[10])
abbrev aRi:AV:=sB ([50,49,49,49,102,97,114,109,101,114,32,97]++bP 32++[10])
abbrev aRh:AV:=sB ([49,56,50,49,74,78,98,97,75,114,32,97]++bP 32++[10])
abbrev aRg:AV:=sB ([50,49,49,49,102,97,114,109,101,114,32,97]++bP 32++[10,49,49,51,52,99,108,111,115,101]++bP 35++[10,49,56,50,49,74,78,98,97,75,114,32,97]++bP 32++[10])
abbrev aRf:AV:=sB ([49,49,51,52,99,108,111,122,101]++bP 35++[10])
abbrev aRe:AV:=sB [110,111,32,50,50]
abbrev aRd:AV:=sB [50,52,53,48,48]
abbrev aRc:AV:=sB [119,49,32,97,110,97,32,49,48,48,48,48]
abbrev aRb:AV:=sB [119,49,32,97,110,97,32,49,48,48,48,48,32,118,111,105,100]
abbrev aRa:AV:=sB [110,111,32,50,51]
abbrev aQZ:AV:=sB [110,111,32,52]
abbrev aQY:AV:=sB [50,53]
abbrev aQX:AV:=sB [51,48]
abbrev aQW:AV:=sB [110,111,32,56]
abbrev aQV:AV:=sB [110,111,32,50]
abbrev aQU:AV:=sB ([51,52,54,51,102,97,114,109,101,114,32,97,110,97]++bP 30++[10])
abbrev aQT:AV:=sB ([50,56,51,49,102,97,114,109,101,114,32,98,111]++bP 31++[10])
abbrev aQS:AV:=sB ([56,54,56,52,119,97,103,111,110,32,119,49,32,49,53,48,48,48,32,53,48,48,48,32,97,110,97]++bP 17++[10])
abbrev aQR:AV:=sB ([55,51,48,55,119,97,103,111,110,32,119,49,32,49,52,48,48,48,32,53,53,48,48,32,98,111]++bP 18++[10])
abbrev aQQ:AV:=sB ([54,55,57,57,119,97,103,111,110,32,119,50,32,57,48,48,48,32,51,48,48,48,32,98,111]++bP 19++[10])
abbrev aQP:AV:=sB ([51,56,49,49,53,72,124,43,119,101,103,120,94,61,89,80,80,64,51,90,85,80,64,98,52,94,97]++bP 17++[10])
abbrev aQO:AV:=sB ([51,52,54,51,102,97,114,109,101,114,32,97,110,97]++bP 30++[10,50,56,51,49,102,97,114,109,101,114,32,98,111]++bP 31++[10,56,54,56,52,119,97,103,111,110,32,119,49,32,49,53,48,48,48,32,53,48,48,48,32,97,110,97]++bP 17++[10,55,51,48,55,119,97,103,111,110,32,119,49,32,49,52,48,48,48,32,53,53,48,48,32,98,111]++bP 18++[10,54,55,57,57,119,97,103,111,110,32,119,50,32,57,48,48,48,32,51,48,48,48,32,98,111]++bP 19++[10,51,56,49,49,53,72,124,43,119,101,103,120,94,61,89,80,80,64,51,90,85,80,64,98,52,94,97]++bP 17++[10])
abbrev aQN:AV:=sB ([48,56,51,55,118,111,105,100,32,48]++bP 34++[10])
abbrev aQM:AV:=sB ([49,49,52,48,99,108,111,115,101]++bP 35++[10])
abbrev aQL:AV:=sB ([50,57,53,56,109,101,116,101,114,32,109,32,57,57,57,57,48]++bP 27++[10])
abbrev aQK:AV:=sB ([50,48,54,52,109,101,116,101,114,32,109,32,49,53]++bP 30++[10])
abbrev aQJ:AV:=sB ([50,48,52,57,112,97,110,32,112,32,57,48,48,32,56,55,48]++bP 27++[10])
abbrev aQI:AV:=sB ([51,54,57,57,39,105,50,36,60,48,116,48,90,78,81,80,64]++bP 27++[10])
abbrev aQH:AV:=sB ([48,56,51,55,118,111,105,100,32,48]++bP 34++[10,49,49,52,48,99,108,111,115,101]++bP 35++[10,50,57,53,56,109,101,116,101,114,32,109,32,57,57,57,57,48]++bP 27++[10,50,48,54,52,109,101,116,101,114,32,109,32,49,53]++bP 30++[10,50,48,52,57,112,97,110,32,112,32,57,48,48,32,56,55,48]++bP 27++[10,51,54,57,57,39,105,50,36,60,48,116,48,90,78,81,80,64]++bP 27++[10])
abbrev aQG:AV:=sB [122,97,102,114,97,32,49,52,10]
abbrev aRN:Option XB:=gB ([sx4,sx5,sx4,sx6,aRv,sx7,aRu,aRt,aBC,aOd,aLz,aRs,aRr,aLy,aAe,aLy,aLz,sx8,aRq,aAe,aRp,sx8,aGD,aLx,aIf,aLx,aLA,aRo,aRn,aRm,aRl,aRk,aRj])
abbrev aRM:Option XB:=cB ([.pt 1 0,.pt 3 0,.pt 5 0,.pt 7 0,.nilsl,I (0),.nilsl])
abbrev aMd:Option XB:=gB ([sx4,sx5,sx6,sx7,aBC,aAe,sx8,aGD,aIf,aLA])
abbrev aGT:Option XB:=gB ([sx1,sx2,I (10000),.bool false,.bool false])
abbrev qM:Option XB:=gB ([sx1,sx0,I (8500),.bool false,.bool false])
abbrev tL:Option XB:=gB ([sx3,sx0,I (6000),.bool false,.bool false])
abbrev xW:Option XB:=gB ([sx1,sx2,I (10000),.bool true,.bool false])
abbrev aRL:Option XB:=gB ([sx4,sx5,sx6,sx7,aBC,aAe,sx8,aGD,aIf])
abbrev aRK:Option XB:=gB ([sx4,sx5,sx6,sx7,aBC,aAe,sx8,aGD])
abbrev aGS:Option XB:=mB ([(sx1,.pt 13 0),(sx3,.pt 14 0)])
abbrev aND:Option XB:=gB ([sx4,sx5,sx6,sx7,aBC,aAe,sx8])
abbrev aFK:Option XB:=mB ([(sx1,.pt 15 0),(sx3,.pt 16 0)])
abbrev hZ:Option XB:=mB ([(sx2,.pt 4 0),(sx0,.pt 5 0)])
abbrev aJb:Option XB:=cB ([.sl 11 0 1 1,.mp 12,I (300)])
abbrev aAX:Option XB:=cB ([.sl 11 0 1 2,.mp 12,I (300)])
abbrev aFJ:Option XB:=cB ([.sl 13 0 1 2,.mp 14,I (300)])
abbrev aAW:Option XB:=cB ([.pt 16 0,.pt 17 0,.pt 18 0])
abbrev aFI:Option XB:=cB ([.pt 18 0,.pt 19 0,.pt 20 0])
abbrev aNC:Option XB:=gB ([sx4,sx5,sx6,sx7,aBC,aAe])
abbrev hP:Option XB:=cB ([.sl 2 0 1 2,.mp 3,I (9)])
abbrev aDl:Option XB:=cB ([.sl 7 0 1 1,.mp 8,I (5)])
abbrev aNB:Option XB:=cB ([.nilsl,.mp 10,I (300)])
abbrev aJa:Option XB:=cB ([.nilsl,.mp 8,I (300)])
abbrev aNA:Option XB:=gB ([sx4,sx5,sx6,sx7,aBC])
abbrev aIZ:Option XB:=cB ([.nilsl,.mp 11,I (5)])
abbrev aNz:Option XB:=cB ([.nilsl,.mp 2,I (9)])
abbrev aIY:Option XB:=cB ([.nilsl,.mp 4,I (5)])
abbrev aDk:Option XB:=cB ([.nilsl,.mp 6,I (5)])
abbrev aNy:Option XB:=cB ([.nilsl,.mp 8,I (5)])
abbrev oM:Option XB:=cB ([.nilsl,.mp 7,I (5)])
abbrev nI:Option XB:=cB ([.nilsl,.mp 9,I (5)])
abbrev aDj:Option XB:=mB ([(sB [109],.pt 9 0)])
abbrev aNx:Option XB:=gB ([sx4,sx5,sx6,sx7])
abbrev aNw:Option XB:=gB ([I (99990),I (0)])
abbrev aIX:Option XB:=mB ([(sx1,.pt 13 0)])
abbrev aDi:Option XB:=gB ([I (15),I (25)])
abbrev aNv:Option XB:=gB ([sx4,sx5,sx6])
abbrev aAV:Option XB:=gB ([I (10000)])
abbrev lQ:Option XB:=gB ([I (14500)])
abbrev hO:Option XB:=gB ([I (5000)])
abbrev aNu:Option XB:=gB ([I (8500)])
abbrev lP:Option XB:=gB ([I (3000)])
abbrev xX:Option XB:=gB ([sB [109]])
abbrev aIW:Option XB:=gB ([sB [112]])
abbrev aNt:Option XB:=gB ([sx4,sx5])
abbrev fZ:Option XB:=gB ([sx2,sx0])
abbrev lO:Option XB:=gB ([sx1,sx3])
abbrev aIV:Option XB:=gB ([I (30)])
abbrev fY:Option XB:=gB ([I (0)])
abbrev aNs:Option XB:=gB ([sx4])
abbrev aNr:Option XB:=gB ([sx2])
abbrev aFH:Option XB:=gB ([sx1])
abbrev bF:Option XB:=nB ([])
def hp0:XH:=[(gB ((gX ([102,97,114,109,101,114,32,97]++bJ 72++[74,78,98,97,75,114,32,97]++bJ 32))))]
def hp1:XH:=[aRM,aNz,bF,aIY,bF,aDk,bF,aJa,bF]
def hp2:XH:=[(cB ([.pt 1 0,.pt 3 0,.pt 5 0,.pt 7 0,.nilsl,I (0),.sl 9 0 1 1])),(cB ([.sl 10 0 1 1,.mp 2,I (9)])),(mB ([(sx2,.pt 11 0)])),aIY,bF,aDk,bF,aJa,bF,aNs,aNr,fY]
def hp3:XH:=[(cB ([.pt 1 0,.pt 5 0,.pt 7 0,.pt 9 0,.nilsl,I (0),.sl 11 0 1 1])),(cB ([.sl 2 0 1 1,.mp 3,I (9)])),aNr,(mB ([(sx2,.pt 4 0)])),fY,aDk,bF,aNy,bF,aNB,bF,aNs]
def hp4:XH:=[(cB ([.pt 1 0,.pt 5 0,.pt 7 0,.pt 9 0,.nilsl,I (0),.sl 12 0 1 2])),(cB ([.sl 13 0 1 2,.mp 3,I (9)])),none,(mB ([(sx2,.pt 4 0),(sx0,.pt 14 0)])),fY,aDk,bF,aNy,bF,aNB,bF,none,aNt,fZ,fY]
def hp5:XH:=[(cB ([.pt 1 0,.pt 6 0,.pt 8 0,.pt 10 0,.nilsl,I (0),.sl 12 0 1 2])),hP,fZ,hZ,fY,fY,oM,bF,nI,bF,(cB ([.nilsl,.mp 11,I (300)])),bF,aNt]
def hp6:XH:=[(cB ([.pt 1 0,.pt 6 0,.pt 8 0,.pt 10 0,.sl 13 0 1 1,I (0),.sl 15 0 1 3])),hP,fZ,hZ,aAV,fY,oM,bF,nI,bF,(cB ([.sl 16 0 1 1,.mp 11,I (300)])),(mB ([(sx1,.pt 17 0)])),none,(cB ([.pt 14 0])),aGT,aNv,aFH,hO]
def hp7:XH:=[(cB ([.pt 1 0,.pt 6 0,.pt 8 0,.pt 10 0,.sl 14 0 1 1,I (0),.sl 16 0 1 3])),hP,fZ,hZ,aAV,fY,oM,bF,nI,bF,aJb,aFH,aIX,hO,(cB ([.pt 15 0])),aGT,aNv]
def hp8:XH:=[(cB ([.pt 1 0,.pt 6 0,.pt 8 0,.pt 10 0,.sl 17 0 1 2,I (0),.sl 19 0 1 4])),hP,fZ,hZ,aAV,aNu,oM,bF,nI,bF,aJb,aFH,aIX,hO,none,aGT,none,(cB ([.pt 15 0,.pt 18 0])),qM,aNx]
def hp9:XH:=[(cB ([.pt 1 0,.pt 6 0,.pt 8 0,.pt 10 0,.sl 14 0 1 2,I (0),.sl 17 0 1 4])),hP,fZ,hZ,aAV,aNu,oM,bF,nI,bF,aJb,aFH,aIX,hO,(cB ([.pt 15 0,.pt 16 0])),aGT,qM,aNx]
def aWP:XH:=[(cB ([.pt 1 0,.pt 6 0,.pt 8 0,.pt 10 0,.sl 18 0 1 3,I (0),.sl 20 0 1 5])),hP,fZ,hZ,aAV,lQ,oM,bF,nI,bF,(cB ([.sl 21 0 1 2,.mp 12,I (300)])),none,(mB ([(sx1,.pt 13 0),(sx3,.pt 22 0)])),hO,none,aGT,qM,none,(cB ([.pt 15 0,.pt 16 0,.pt 19 0])),tL,aNA,lO,lP]
def yQ:XH:=[(cB ([.pt 1 0,.pt 6 0,.pt 8 0,.pt 10 0,.sl 15 0 1 3,I (0),.sl 19 0 1 5])),hP,fZ,hZ,aAV,lQ,oM,bF,nI,bF,aAX,lO,aGS,hO,lP,aAW,aGT,qM,tL,aNA]
def aWO:XH:=[(cB ([.pt 1 0,.pt 6 0,.pt 8 0,.pt 10 0,.sl 15 0 1 3,I (0),.sl 20 0 1 6])),hP,fZ,hZ,fY,lQ,oM,bF,nI,bF,aAX,lO,aGS,hO,lP,aAW,xW,qM,tL,none,aNC]
def aJT:XH:=[(cB ([.pt 1 0,.pt 6 0,.pt 8 0,.pt 10 0,.sl 15 0 1 3,I (0),.sl 19 0 1 6])),hP,fZ,hZ,fY,lQ,oM,bF,nI,bF,aAX,lO,aGS,hO,lP,aAW,xW,qM,tL,aNC]
def aWN:XH:=[(cB ([.pt 1 0,.pt 6 0,.pt 8 0,.pt 10 0,.sl 15 0 1 3,I (3),.sl 20 0 1 7])),hP,fZ,hZ,fY,lQ,oM,bF,nI,bF,aAX,lO,aGS,hO,lP,aAW,xW,qM,tL,none,aND]
def aCq:XH:=[(cB ([.pt 1 0,.pt 6 0,.pt 8 0,.pt 10 0,.sl 15 0 1 3,I (3),.sl 19 0 1 7])),hP,fZ,hZ,fY,lQ,oM,bF,nI,bF,aAX,lO,aGS,hO,lP,aAW,xW,qM,tL,aND]
def aWM:XH:=[(cB ([.pt 1 0,.pt 6 0,.pt 8 0,.pt 10 0,.sl 15 0 1 3,I (3),.sl 20 0 1 8])),hP,fZ,hZ,fY,lQ,(cB ([.sl 21 0 1 1,.mp 7,I (5)])),(mB ([(sB [109],.pt 22 0)])),nI,bF,aAX,lO,aGS,hO,lP,aAW,xW,qM,tL,none,aRK,xX,aNw]
def aPa:XH:=[(cB ([.pt 1 0,.pt 6 0,.pt 10 0,.pt 12 0,.sl 17 0 1 3,I (3),.sl 21 0 1 8])),hP,fZ,hZ,fY,lQ,aDl,xX,aDj,aNw,aIZ,bF,aFJ,lO,aFK,hO,lP,aFI,xW,qM,tL,aRK]
def aWL:XH:=[(cB ([.pt 1 0,.pt 6 0,.pt 10 0,.pt 12 0,.sl 17 0 1 3,I (3),.sl 22 0 1 9])),hP,fZ,hZ,fY,lQ,aDl,xX,aDj,aDi,aIZ,bF,aFJ,lO,aFK,hO,lP,aFI,xW,qM,tL,none,aRL]
def aOZ:XH:=[(cB ([.pt 1 0,.pt 6 0,.pt 10 0,.pt 12 0,.sl 17 0 1 3,I (3),.sl 21 0 1 9])),hP,fZ,hZ,fY,lQ,aDl,xX,aDj,aDi,aIZ,bF,aFJ,lO,aFK,hO,lP,aFI,xW,qM,tL,aRL]
def aWK:XH:=[(cB ([.pt 1 0,.pt 6 0,.pt 10 0,.pt 12 0,.sl 17 0 1 3,I (3),.sl 22 0 1 10])),hP,fZ,hZ,fY,lQ,aDl,xX,aDj,aDi,(cB ([.sl 23 0 1 1,.mp 11,I (5)])),(mB ([(sB [112],.pt 24 0)])),aFJ,lO,aFK,hO,lP,aFI,xW,qM,tL,none,aMd,aIW,aIV]
def oU:XH:=[(cB ([.pt 1 0,.pt 6 0,.pt 10 0,.pt 14 0,.sl 19 0 1 3,I (3),.sl 23 0 1 10])),hP,fZ,hZ,fY,lQ,aDl,xX,aDj,aDi,(cB ([.sl 11 0 1 1,.mp 12,I (5)])),aIW,(mB ([(sB [112],.pt 13 0)])),aIV,(cB ([.sl 15 0 1 2,.mp 16,I (300)])),lO,(mB ([(sx1,.pt 17 0),(sx3,.pt 18 0)])),hO,lP,(cB ([.pt 20 0,.pt 21 0,.pt 22 0])),xW,qM,tL,aMd]
def aWJ:XH:=[aRM,aNz,bF,aIY,bF,aDk,bF,aJa,bF,aRN]
def aWI:XH:=[(cB ([.pt 1 0,.pt 3 0,.pt 5 0,.pt 7 0,.sl 10 0 1 3,I (3),.sl 14 0 1 10])),(cB ([.sl 15 0 1 2,.mp 2,I (9)])),(mB ([(sx2,.pt 16 0),(sx0,.pt 17 0)])),(cB ([.sl 18 0 1 1,.mp 4,I (5)])),(mB ([(sB [109],.pt 19 0)])),(cB ([.sl 20 0 1 1,.mp 6,I (5)])),(mB ([(sB [112],.pt 21 0)])),(cB ([.sl 22 0 1 2,.mp 8,I (300)])),(mB ([(sx1,.pt 23 0),(sx3,.pt 24 0)])),aRN,(cB ([.pt 11 0,.pt 12 0,.pt 13 0])),xW,qM,tL,aMd,fZ,fY,lQ,xX,aDi,aIW,aIV,lO,hO,lP]
def aMr:XH:=[aMd]
def aTb:XH:=[(gB ((gX ([102,97,114,109,101,114,32,97,110,97]++bJ 30++[102,97,114,109,101,114,32,98,111]++bJ 31++[119,97,103,111,110,32,119,49,32,49,53,48,48,48,32,53,48,48,48,32,97,110,97]++bJ 17++[119,97,103,111,110,32,119,49,32,49,52,48,48,48,32,53,53,48,48,32,98,111]++bJ 18++[119,97,103,111,110,32,119,50,32,57,48,48,48,32,51,48,48,48,32,98,111]++bJ 19++[53,72,124,43,119,101,103,120,94,61,89,80,80,64,51,90,85,80,64,98,52,94,97]++bJ 17))))]
def aTa:XH:=[(gB ((gX ([118,111,105,100,32,48]++bJ 34++[99,108,111,115,101]++bJ 35++[109,101,116,101,114,32,109,32,57,57,57,57,48]++bJ 27++[109,101,116,101,114,32,109,32,49,53]++bJ 30++[112,97,110,32,112,32,57,48,48,32,56,55,48]++bJ 27++[39,105,50,36,60,48,116,48,90,78,81,80,64]++bJ 27))))]
def rw0:cX:=⟨77,[.agg (gX ([102,97,114,109,101,114,32,97]++bJ 32)),I (0)],[],aRi,[]⟩
def rw1:cX:=⟨77,[.agg (gX ([99,108,111,115,101]++bJ 35)),I (1)],[],sB ([49,49,51,52,99,108,111,115,101]++bP 35++[10]),[]⟩
def rw2:cX:=⟨43,[.fs [(gX ([102,97,114,109,101,114,32,97]++bJ 32)),(gX ([99,108,111,115,101]++bJ 35))]],[],.agg (gX ([74,78,98,97,75,114,32,97]++bJ 32)),[]⟩
def rw3:cX:=⟨77,[.agg (gX ([74,78,98,97,75,114,32,97]++bJ 32)),I (2)],[],aRh,[]⟩
def rw4:cX:=⟨38,[.fs [[aOc],[sx8]],I (0)],[],aRg,[]⟩
def rw5:cX:=⟨14,[.fs [[aOc],[sx8]],I (0)],[],.tup [aRg,I (0)],[]⟩
def rw6:cX:=⟨42,[aRi,I (0)],[],.tup [.agg (gX ([102,97,114,109,101,114,32,97]++bJ 32)),.bool true],[]⟩
def rw7:cX:=⟨77,[.agg (gX ([99,108,111,122,101]++bJ 35)),I (1)],[],sB ([49,49,54,50,99,108,111,122,101]++bP 35++[10]),[]⟩
def rw8:cX:=⟨42,[aRf,I (1)],[],.tup [.agg (gX ([99,108,111,122,101]++bJ 35)),.bool false],[]⟩
def rw9:cX:=⟨42,[aRh,I (2)],[],.tup [.agg (gX ([74,78,98,97,75,114,32,97]++bJ 32)),.bool true],[]⟩
def rw10:cX:=⟨43,[.sl 0 0 40 2],hp0,.agg (gX ([102,97,114,109,101,114,32,97]++bJ 32)),hp0⟩
def rw11:cX:=⟨16,[sB ([50,49,49,49,102,97,114,109,101,114,32,97]++bP 32++[10,49,49,51,52,99,108,111,122,101]++bP 35++[10,49,56,50,49,74,78,98,97,75,114,32,97]++bP 32++[10]),I (0)],[],.tup [.fs [[aOc],[sx8]],I (1),I (0)],[]⟩
def rw12:cX:=⟨77,[.agg (gX ([99,108,111,122,101]++bJ 35)),I (0)],[],sB ([49,49,54,49,99,108,111,122,101]++bP 35++[10]),[]⟩
def rw13:cX:=⟨42,[aRf,I (0)],[],.tup [.agg (gX ([99,108,111,122,101]++bJ 35)),.bool false],[]⟩
def rw14:cX:=⟨16,[sB ([49,49,51,52,99,108,111,122,101]++bP 35++[10,49,49,51,52,99,108,111,122,101]++bP 35++[10,49,56,50,49,74,78,98,97,75,114,32,97]++bP 32++[10]),I (0)],[],.tup [.fs [],I (0),I (19)],[]⟩
def rw15:cX:=⟨21,[.pt 0 0,sx4],hp1,sx9,hp2⟩
def rw16:cX:=⟨21,[.pt 0 0,sx5],hp3,sx9,hp4⟩
def rw17:cX:=⟨21,[.pt 0 0,sx4],hp5,aLw,hp5⟩
def rw18:cX:=⟨21,[.pt 0 0,sx6],hp5,sx9,hp6⟩
def rw19:cX:=⟨21,[.pt 0 0,aRv],hp7,aRe,hp7⟩
def rw20:cX:=⟨21,[.pt 0 0,sx7],hp7,sx9,hp8⟩
def rw21:cX:=⟨21,[.pt 0 0,aRu],hp9,aLv,hp9⟩
def rw22:cX:=⟨21,[.pt 0 0,aRt],hp9,aLu,hp9⟩
def rw23:cX:=⟨21,[.pt 0 0,aBC],hp9,sx9,aWP⟩
def rw24:cX:=⟨21,[.pt 0 0,aOd],yQ,aIe,yQ⟩
def rw25:cX:=⟨21,[.pt 0 0,aLz],yQ,aRd,yQ⟩
def rw26:cX:=⟨21,[.pt 0 0,aRs],yQ,sB [48],yQ⟩
def rw27:cX:=⟨21,[.pt 0 0,aRr],yQ,sB [50],yQ⟩
def rw28:cX:=⟨21,[.pt 0 0,aLy],yQ,aRc,yQ⟩
def rw29:cX:=⟨21,[.pt 0 0,aAe],yQ,sx9,aWO⟩
def rw30:cX:=⟨21,[.pt 0 0,aLy],aJT,aRb,aJT⟩
def rw31:cX:=⟨21,[.pt 0 0,aLz],aJT,aIe,aJT⟩
def rw32:cX:=⟨21,[.pt 0 0,sx8],aJT,sx9,aWN⟩
def rw33:cX:=⟨21,[.pt 0 0,aRq],aCq,aRa,aCq⟩
def rw34:cX:=⟨21,[.pt 0 0,aAe],aCq,aLw,aCq⟩
def rw35:cX:=⟨21,[.pt 0 0,aRp],aCq,aLu,aCq⟩
def rw36:cX:=⟨21,[.pt 0 0,sx8],aCq,aQZ,aCq⟩
def rw37:cX:=⟨21,[.pt 0 0,aGD],aCq,sx9,aWM⟩
def rw38:cX:=⟨21,[.pt 0 0,aLx],aPa,sB [48],aPa⟩
def rw39:cX:=⟨21,[.pt 0 0,aIf],aPa,sx9,aWL⟩
def rw40:cX:=⟨21,[.pt 0 0,aLx],aOZ,aQY,aOZ⟩
def rw41:cX:=⟨21,[.pt 0 0,aLA],aOZ,sx9,aWK⟩
def rw42:cX:=⟨21,[.pt 0 0,aRo],oU,aLv,oU⟩
def rw43:cX:=⟨21,[.pt 0 0,aRn],oU,aQX,oU⟩
def rw44:cX:=⟨21,[.pt 0 0,aRm],oU,aLt,oU⟩
def rw45:cX:=⟨21,[.pt 0 0,aRl],oU,aQW,oU⟩
def rw46:cX:=⟨21,[.pt 0 0,aRk],oU,aQV,oU⟩
def rw47:cX:=⟨21,[.pt 0 0,aRj],oU,aLt,oU⟩
def rw48:cX:=⟨31,[.pt 0 0,.sl 9 0 1 33],aWJ,.fs [[sx9],[sx9],[aLw],[sx9],[aRe],[sx9],[aLv],[aLu],[sx9],[aIe],[aRd],[sB [48]],[sB [50]],[aRc],[sx9],[aRb],[aIe],[sx9],[aRa],[aLw],[aLu],[aQZ],[sx9],[sB [48]],[sx9],[aQY],[sx9],[aLv],[aQX],[aLt],[aQW],[aQV],[aLt]],aWI⟩
def rw49:cX:=⟨77,[.agg (gX ([102,97,114,109,101,114,32,97,110,97]++bJ 30)),I (0)],[],aQU,[]⟩
def rw50:cX:=⟨77,[.agg (gX ([102,97,114,109,101,114,32,98,111]++bJ 31)),I (1)],[],aQT,[]⟩
def rw51:cX:=⟨77,[.agg (gX ([119,97,103,111,110,32,119,49,32,49,53,48,48,48,32,53,48,48,48,32,97,110,97]++bJ 17)),I (2)],[],aQS,[]⟩
def rw52:cX:=⟨77,[.agg (gX ([119,97,103,111,110,32,119,49,32,49,52,48,48,48,32,53,53,48,48,32,98,111]++bJ 18)),I (3)],[],aQR,[]⟩
def rw53:cX:=⟨77,[.agg (gX ([119,97,103,111,110,32,119,50,32,57,48,48,48,32,51,48,48,48,32,98,111]++bJ 19)),I (4)],[],aQQ,[]⟩
def rw54:cX:=⟨43,[.fs [(gX ([102,97,114,109,101,114,32,97,110,97]++bJ 30)),(gX ([102,97,114,109,101,114,32,98,111]++bJ 31)),(gX ([119,97,103,111,110,32,119,49,32,49,53,48,48,48,32,53,48,48,48,32,97,110,97]++bJ 17)),(gX ([119,97,103,111,110,32,119,49,32,49,52,48,48,48,32,53,53,48,48,32,98,111]++bJ 18)),(gX ([119,97,103,111,110,32,119,50,32,57,48,48,48,32,51,48,48,48,32,98,111]++bJ 19))]],[],.agg (gX ([53,72,124,43,119,101,103,120,94,61,89,80,80,64,51,90,85,80,64,98,52,94,97]++bJ 17)),[]⟩
def rw55:cX:=⟨77,[.agg (gX ([53,72,124,43,119,101,103,120,94,61,89,80,80,64,51,90,85,80,64,98,52,94,97]++bJ 17)),I (5)],[],aQP,[]⟩
def rw56:cX:=⟨38,[.sl 0 0 1 5,I (0)],aMr,aQO,aMr⟩
def rw57:cX:=⟨77,[.agg (gX ([118,111,105,100,32,48]++bJ 34)),I (6)],[],aQN,[]⟩
def rw58:cX:=⟨77,[.agg (gX ([99,108,111,115,101]++bJ 35)),I (7)],[],aQM,[]⟩
def rw59:cX:=⟨77,[.agg (gX ([109,101,116,101,114,32,109,32,57,57,57,57,48]++bJ 27)),I (8)],[],aQL,[]⟩
def rw60:cX:=⟨77,[.agg (gX ([109,101,116,101,114,32,109,32,49,53]++bJ 30)),I (9)],[],aQK,[]⟩
def rw61:cX:=⟨77,[.agg (gX ([112,97,110,32,112,32,57,48,48,32,56,55,48]++bJ 27)),I (10)],[],aQJ,[]⟩
def rw62:cX:=⟨43,[.fs [(gX ([118,111,105,100,32,48]++bJ 34)),(gX ([99,108,111,115,101]++bJ 35)),(gX ([109,101,116,101,114,32,109,32,57,57,57,57,48]++bJ 27)),(gX ([109,101,116,101,114,32,109,32,49,53]++bJ 30)),(gX ([112,97,110,32,112,32,57,48,48,32,56,55,48]++bJ 27))]],[],.agg (gX ([39,105,50,36,60,48,116,48,90,78,81,80,64]++bJ 27)),[]⟩
def rw63:cX:=⟨77,[.agg (gX ([39,105,50,36,60,48,116,48,90,78,81,80,64]++bJ 27)),I (11)],[],aQI,[]⟩
def rw64:cX:=⟨38,[.sl 0 5 1 5,I (6)],aMr,aQH,aMr⟩
def rw65:cX:=⟨23,[.pt 0 0],oU,aOb,oU⟩
def rw66:cX:=⟨72,[aOb,aQG],[],.tup [sB ([51,52,54,51,102,97,114,109,101,114,32,97,110,97]++bP 30++[10,50,56,51,49,102,97,114,109,101,114,32,98,111]++bP 31++[10,56,54,56,52,119,97,103,111,110,32,119,49,32,49,53,48,48,48,32,53,48,48,48,32,97,110,97]++bP 17++[10,55,51,48,55,119,97,103,111,110,32,119,49,32,49,52,48,48,48,32,53,53,48,48,32,98,111]++bP 18++[10,54,55,57,57,119,97,103,111,110,32,119,50,32,57,48,48,48,32,51,48,48,48,32,98,111]++bP 19++[10,51,56,49,49,53,72,124,43,119,101,103,120,94,61,89,80,80,64,51,90,85,80,64,98,52,94,97]++bP 17++[10,48,56,51,55,118,111,105,100,32,48]++bP 34++[10,49,49,52,48,99,108,111,115,101]++bP 35++[10,50,57,53,56,109,101,116,101,114,32,109,32,57,57,57,57,48]++bP 27++[10,50,48,54,52,109,101,116,101,114,32,109,32,49,53]++bP 30++[10,50,48,52,57,112,97,110,32,112,32,57,48,48,32,56,55,48]++bP 27++[10,51,54,57,57,39,105,50,36,60,48,116,48,90,78,81,80,64]++bP 27++[10]),.bool true],[]⟩
def rw68:cX:=⟨42,[aQU,I (0)],[],.tup [.agg (gX ([102,97,114,109,101,114,32,97,110,97]++bJ 30)),.bool true],[]⟩
def rw69:cX:=⟨42,[aQT,I (1)],[],.tup [.agg (gX ([102,97,114,109,101,114,32,98,111]++bJ 31)),.bool true],[]⟩
def rw70:cX:=⟨42,[aQS,I (2)],[],.tup [.agg (gX ([119,97,103,111,110,32,119,49,32,49,53,48,48,48,32,53,48,48,48,32,97,110,97]++bJ 17)),.bool true],[]⟩
def rw71:cX:=⟨42,[aQR,I (3)],[],.tup [.agg (gX ([119,97,103,111,110,32,119,49,32,49,52,48,48,48,32,53,53,48,48,32,98,111]++bJ 18)),.bool true],[]⟩
def rw72:cX:=⟨42,[aQQ,I (4)],[],.tup [.agg (gX ([119,97,103,111,110,32,119,50,32,57,48,48,48,32,51,48,48,48,32,98,111]++bJ 19)),.bool true],[]⟩
def rw73:cX:=⟨42,[aQP,I (5)],[],.tup [.agg (gX ([53,72,124,43,119,101,103,120,94,61,89,80,80,64,51,90,85,80,64,98,52,94,97]++bJ 17)),.bool true],[]⟩
def rw74:cX:=⟨43,[.sl 0 0 40 5],aTb,.agg (gX ([53,72,124,43,119,101,103,120,94,61,89,80,80,64,51,90,85,80,64,98,52,94,97]++bJ 17)),aTb⟩
def rw75:cX:=⟨16,[aQO,I (0)],[],.tup [.fs [[sx4],[sx5],[sx6],[sx7],[aBC]],I (0),I (0)],[]⟩
def rw76:cX:=⟨42,[aQN,I (6)],[],.tup [.agg (gX ([118,111,105,100,32,48]++bJ 34)),.bool true],[]⟩
def rw77:cX:=⟨42,[aQM,I (7)],[],.tup [.agg (gX ([99,108,111,115,101]++bJ 35)),.bool true],[]⟩
def rw78:cX:=⟨42,[aQL,I (8)],[],.tup [.agg (gX ([109,101,116,101,114,32,109,32,57,57,57,57,48]++bJ 27)),.bool true],[]⟩
def rw79:cX:=⟨42,[aQK,I (9)],[],.tup [.agg (gX ([109,101,116,101,114,32,109,32,49,53]++bJ 30)),.bool true],[]⟩
def rw80:cX:=⟨42,[aQJ,I (10)],[],.tup [.agg (gX ([112,97,110,32,112,32,57,48,48,32,56,55,48]++bJ 27)),.bool true],[]⟩
def rw81:cX:=⟨42,[aQI,I (11)],[],.tup [.agg (gX ([39,105,50,36,60,48,116,48,90,78,81,80,64]++bJ 27)),.bool true],[]⟩
def rw82:cX:=⟨43,[.sl 0 0 40 5],aTa,.agg (gX ([39,105,50,36,60,48,116,48,90,78,81,80,64]++bJ 27)),aTa⟩
def rw83:cX:=⟨16,[aQH,I (6)],[],.tup [.fs [[aAe],[sx8],[aGD],[aIf],[aLA]],I (0),I (0)],[]⟩
def rw84:cX:=⟨25,[aOb],[],.tup [.pt 0 0,I (0),I (0)],oU⟩
def rw85:cX:=⟨21,[.pt 0 0,aOd],oU,aIe,oU⟩
def rw86:cX:=⟨23,[.pt 0 0],hp1,aQG,hp1⟩
end Go.Proofs.YtmapgnepfgnphaaGreatDoor
