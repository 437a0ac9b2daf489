/- Parts of a proof, joined: LA W0. No statement of the seed is proved here. -/
import Derived.Test.YtmapgnepfgnphaaGreatDoorRows
import Derived.Test.YtmapgnepfgnphaaGreatDoorCards
import Derived.Test.YtmapgnepfgnphaaGreatDoorTie
import Derived.WalkKit
import Derived.ProofKit
import Derived.LaidMore
import Derived.Lay
import Derived.LaidOnce
import Derived.OpenShut
import Derived.SevenTiedAt
import Derived.Stop.Joined
import Derived.HandedShaped
import Derived.Shelf.Vars
import Derived.Test.YtmapgnepfgnphaaGreatDoorH4
set_option linter.unusedSimpArgs false
set_option linter.unusedVariables false
set_option linter.unusedSectionVars false
namespace Go.Proofs.YtmapgnepfgnphaaGreatDoor
open Go Go.DL Go.ChangeShapes Go.WideShapes Go.ChangeAt Go.RowKit
set_option maxRecDepth 100000

theorem own:ownKnob Tryz.prog.godebug=none:=by kernel_rfl
theorem laid:laidOutB Tryz.prog=true:=by kernel_rfl

abbrev yY:List (String×DataW Unit):=[("math/bits.deBruijn32tab", Rows.laid_math_bits_deBruijn32tab), ("math/bits.deBruijn64tab", Rows.laid_math_bits_deBruijn64tab), ("internal/strconv.uint64pow10", Rows.laid_internal_strconv_uint64pow10), ("unicode/utf8.acceptRanges", Rows.laid_unicode_utf8_acceptRanges), ("strconv.ErrRange", Rows.laid_strconv_ErrRange), ("strconv.ErrSyntax", Rows.laid_strconv_ErrSyntax), ("unicode/utf8.first", Rows.laid_unicode_utf8_first)]
theorem g32:Tryz.prog.globalNamed "math/bits.deBruijn32tab" = some 6:=by kernel_rfl
theorem g64:Tryz.prog.globalNamed "math/bits.deBruijn64tab" = some 7:=by kernel_rfl
theorem gp10:Tryz.prog.globalNamed "internal/strconv.uint64pow10" = some 0:=by kernel_rfl
theorem aGP (os:Os) (args:Array Value):laidMetH Tryz.prog yY ((World.laidAll Tryz.prog os yY).forCall (fun _ _=>0) ⟨#[],args,[]⟩).memory:=by
 rw[MakeChecks.laidMetH_plain _ _ _ (by kernel_rfl)]
 exact laidMet_laidAll _ (by kernel_rfl) (by kernel_rfl)
theorem aEm {k:IntKind} {P:Program} {H:Type} {enc:TypeId×Value→H} {W:World} {sp:Nat→Bool} {nm:String} {g t e n fuel:Nat} {ls:List Int} (hg:P.globalNamed nm=some g) (hu:P.underlying t=some (.array n e)) (he:P.underlying e=some (.int k)) (hc:P.cellsOf e=1)
 {cs:Array Value} {p:List MemPlace} (hv:W.var? P nm=some cs) (hd:DataW.trod enc P W 0 sp false fuel t cs.toList=some (.agg (ls.map fun v=>.lit (.int k v)),p)):∀ (j:Nat) (v:Int),ls[j]?=some v→cs[j]?=some (Value.int k v):=by
 intro j v hj
 obtain⟨xs,m,rfl,hx,_,hn,hel⟩:=DataW.trod_array hu hd
 simp only[Prod.mk.injEq,DataW.agg.injEq]at hx
 have hjl:j<xs.length:=by
  have:=congrArg List.length hx.1
  simp only[List.length_map]at this
  have:=(List.getElem?_eq_some_iff.1 hj).1
  omega
 have h0:=hel j (by omega)
 rw[List.getElem?_eq_getElem hjl,hc,Nat.mul_one]at h0
 obtain⟨k',e1,e2,_⟩:=DataW.trod_int he h0
 have hk:k'=v:=by
  have h1:(xs.map (·.1))[j]?=some (DataW.lit (Lit.int k k')):=by rw[List.getElem?_map,List.getElem?_eq_getElem hjl,e2];rfl
  rw[←hx.1,List.getElem?_map,hj]at h1
  simpa using h1.symm
 subst hk
 rw[←Array.getElem?_toList]
 have:(cs.toList.drop j)[0]?=some (Value.int k k'):=by
  have h2:((cs.toList.drop j).take 1)[0]?=some (Value.int k k'):=by rw[e1];rfl
  rw[List.getElem?_take_of_lt (by omega)]at h2
  exact h2
 rw[List.getElem?_drop]at this
 simpa using this
theorem oY {P:Program} {W:World} {nm:String} {g:Nat} {cs:Array Value} (hg:P.globalNamed nm=some g) (h:W.var? P nm=some cs):∃ e fr,W.heap[g]?=some (.cells cs e fr):=by
 simp only[World.var?,hg,Option.bind_some]at h
 split at h
 ·simp only[oSI]at h
  subst h
  exact⟨_,_,by assumption⟩
 ·cases h
abbrev p10:List Int:=(List.range 20).map fun i=>((10^i:Nat):Int)
abbrev aQK:List Int:=(match uB 6 with|some l=>l.map (fun c=>(match c with | .int _ n=>n|_=>0))|none=>[])
abbrev aQJ:List Int:=(match uB 7 with|some l=>l.map (fun c=>(match c with | .int _ n=>n|_=>0))|none=>[])
theorem xH {H:Type} {enc:TypeId×Value→H} {P:Program} {W:World} {sp:Nat→Bool} {held:Bool} {fuel t:Nat} {cs:List Value} {x:DataW H×List MemPlace} (ht:∃ m,P.underlying t=some (.interface m)) (h:DataW.trod enc P W 0 sp held fuel t cs=some x):∃ v,cs=[v]∧(v = .nilIface∨∃ te pe,v = .iface te pe):=by
 obtain⟨m,ht⟩:=ht
 cases fuel with
 | zero=>simp[DataW.trod]at h
 | succ n =>
   unfold DataW.trod at h
   rw[ht]at h
   rcases cs with _|⟨v,_|⟨_,_⟩⟩
   ·simp at h
   ·cases v
    all_goals first|exact⟨_,rfl,.inl rfl⟩|exact⟨_,rfl,.inr ⟨_,_,rfl⟩⟩|(exfalso;simp at h)
   ·simp at h
theorem aDy {P:Program} {t:TypeId} (h:(match P.underlying t with|some (.interface _)=>true|_=>false)=true):∃ m,P.underlying t=some (.interface m):=by
 split at h
 ·exact⟨_,by assumption⟩
 ·cases h
theorem gEr:Tryz.prog.globalNamed "strconv.ErrRange" = some 2:=by kernel_rfl
theorem gEs:Tryz.prog.globalNamed "strconv.ErrSyntax" = some 1:=by kernel_rfl
theorem aTu {W:World} (h:laidMetH Tryz.prog yY W) (hs:W.ShapedOpen Tryz.prog):GI (fun b=>b<W.heap.size) W:=by
 rw[MakeChecks.laidMetH_plain _ _ _ (by kernel_rfl)]at h
 obtain⟨ps,⟨i0,t0,cs0,f0,p0,q0,hg0,ht0,hv0,hd0,⟨i1,t1,cs1,f1,p1,q1,hg1,ht1,hv1,hd1,⟨i2,t2,cs2,f2,p2,q2,hg2,ht2,hv2,hd2,⟨i3,t3,cs3,f3,p3,q3,hg3,ht3,hv3,hd3,⟨i4,t4,cs4,f4,p4,q4,hg4,ht4,hv4,hd4,⟨i5,t5,cs5,f5,p5,q5,hg5,ht5,hv5,hd5,_,_⟩,_⟩,_⟩,_⟩,_⟩,_⟩,_,_⟩:=h
 obtain rfl:=Option.some.inj (gEr.symm.trans hg4)
 obtain rfl:=Option.some.inj (gEs.symm.trans hg5)
 obtain rfl:=Option.some.inj (g32.symm.trans hg0)
 obtain rfl:=Option.some.inj (g64.symm.trans hg1)
 obtain rfl:=Option.some.inj (gp10.symm.trans hg2)
 have e0:t0=(Tryz.prog.globals[6]?.map (·.type)).getD 0:=by rw[ht0];rfl
 have e1:t1=(Tryz.prog.globals[7]?.map (·.type)).getD 0:=by rw[ht1];rfl
 have e2:t2=(Tryz.prog.globals[0]?.map (·.type)).getD 0:=by rw[ht2];rfl
 have k0:=aEm (k:=.u8) (ls:=aQK) g32 (t:=t0) (n:=32) (e:=5) (by rw[e0];kernel_rfl) Tryz.underlying5 (by kernel_rfl) hv0 hd0
 have k1:=aEm (k:=.u8) (ls:=aQJ) g64 (t:=t1) (n:=64) (e:=5) (by rw[e1];kernel_rfl) Tryz.underlying5 (by kernel_rfl) hv1 hd1
 have k2:=aEm (k:=.u64) (ls:=p10) gp10 (t:=t2) (n:=20) (e:=222) (by rw[e2];kernel_rfl) Tryz.underlying222 (by kernel_rfl) hv2 hd2
 obtain⟨xs,m,_,_,hsz,_,_⟩:=DataW.trod_array (t:=t2) (n:=20) (e:=222) (by rw[e2];kernel_rfl) hd2
 have hsz:cs2.size=20:=by rw[←Array.length_toList,hsz,e2];kernel_rfl
 have c2:cs2=((List.range 20).map fun i=>Value.int .u64 ((10^i:Nat):Int)).toArray:=by
  apply Array.ext_getElem?
  intro j
  have el:∀ l:List Value,l.toArray[j]?=l[j]?:=fun l=>by simp
  refine Eq.trans ?_ (el _).symm
  rw[List.getElem?_map]
  by_cases hj:j<20
  ·rw[List.getElem?_range hj,Option.map_some]
   exact k2 j _ (by rw[List.getElem?_map,List.getElem?_range hj];rfl)
  ·rw[Array.getElem?_eq_none (by omega),List.getElem?_eq_none (by simpa using hj)];rfl
 obtain⟨x0,fr0,hh0⟩:=oY g32 hv0
 obtain⟨x1,fr1,hh1⟩:=oY g64 hv1
 obtain⟨x2,fr2,hh2⟩:=oY gp10 hv2
 have lt:∀ {g:Nat} {o:Obj},W.heap[g]?=some o→g<W.heap.size:=fun h=>by
  rcases Nat.lt_or_ge _ W.heap.size with h1|h1
  ·exact h1
  ·rw[Array.getElem?_eq_none h1]at h;cases h
 have fin:∀ (g:Nat) (k:IntKind) (ls:List Int) (cs:Array Value) (e:TypeId) (fr:Nat×Nat),W.heap[g]?=some (.cells cs e fr)→(∀ (j:Nat) (v:Int),ls[j]?=some v→cs[j]?=some (Value.int k v)) →
  g<W.heap.size∧∃ gv:Nat→Value,(∀ j,(gv j).oneCell'=true)∧∀ j c,(ls.map fun v=>AV.int k v)[j]?=some c→W.cell? ⟨g,j,none⟩=some (gv j)∧Rv (fun b=>b<W.heap.size) W c (gv j):=by
  intro g k ls cs e fr hg h
  refine⟨lt hg,fun j=>.int k (ls.getD j 0),fun _=>rfl,fun j c hj=>?_⟩
  rw[List.getElem?_map,Option.map_eq_some_iff]at hj
  obtain⟨v,hv,rfl⟩:=hj
  have:ls.getD j 0=v:=by rw[List.getD_eq_getElem?_getD,hv];rfl
  dsimp only
  rw[this]
  refine⟨?_,.int _ _⟩
  simp only[World.cell?,hg]
  exact h j v hv
 have e4:t4=(Tryz.prog.globals[2]?.map (·.type)).getD 0:=by rw[ht4];rfl
 have e5:t5=(Tryz.prog.globals[1]?.map (·.type)).getD 0:=by rw[ht5];rfl
 have ifc:∀ (g:Nat) (cs:Array Value) (v:Value),(∃ e fr,W.heap[g]?=some (.cells cs e fr))→cs.toList=[v]→g<W.heap.size∧W.cell? ⟨g,0,none⟩=some v:=by
  rintro g cs v ⟨e,fr,hh⟩ hc
  refine⟨lt hh,?_⟩
  simp only[World.cell?,hh]
  rw[←Array.getElem?_toList,hc];rfl
 refine⟨fun g row hr=>?_,fun g hg=>?_,fun p hp=>?_,fun g hg=>?_⟩
 ·unfold uB at hr
  by_cases h0:g=0
  ·rw[if_pos h0]at hr
   simp only[oSI]at hr
   rw[←hr,h0]
   exact fin 0 .u64 p10 _ _ _ hh2 k2
  ·rw[if_neg h0]at hr
   by_cases h1:g=6
   ·rw[if_pos h1]at hr
    simp only[oSI]at hr
    rw[←hr,h1]
    exact fin 6 .u8 aQK _ _ _ hh0 k0
   ·rw[if_neg h1]at hr
    by_cases h2:g=7
    ·rw[if_pos h2]at hr
     simp only[oSI]at hr
     rw[←hr,h2]
     exact fin 7 .u8 aQJ _ _ _ hh1 k1
    ·rw[if_neg h2]at hr
     cases hr
 ·have hg3:g=3:=by simpa [zG]using hg
  subst hg3
  obtain⟨n,hn⟩:=cell_of_shapedOpen_int (P:=Tryz.prog) (g:=3) (t:=3) (zero := #[.int .i64 0]) (k:=.i64) hs (of_decide_eq_true (by kernel_rfl)) (by kernel_rfl) rfl (by kernel_rfl) (by kernel_rfl) Tryz.underlying3
  exact⟨(aAb hn).2,n,hn⟩
 ·have hp0:p=(0,(List.range 20).map fun i=>Value.int .u64 ((10^i:Nat):Int)):=by simpa [zH]using hp
  rw[hp0]
  refine⟨lt hh2,x2,fr2,?_⟩
  rw[hh2,c2]
 ·have hg2:g=1∨g=2:=by simpa [wX]using hg
  rcases hg2 with rfl|rfl
  ·obtain⟨v,h1,h2⟩:=xH (t:=t5) (by rw[e5];exact aDy (by kernel_rfl)) hd5
   obtain⟨k1,k2⟩:=ifc 1 cs5 v (oY gEs hv5) h1
   exact⟨k1,v,k2,h2⟩
  ·obtain⟨v,h1,h2⟩:=xH (t:=t4) (by rw[e4];exact aDy (by kernel_rfl)) hd4
   obtain⟨k1,k2⟩:=ifc 2 cs4 v (oY gEr hv4) h1
   exact⟨k1,v,k2,h2⟩
end Go.Proofs.YtmapgnepfgnphaaGreatDoor
namespace Go.Proofs.YtmapgnepfgnphaaGreatDoor
open Go Go.DL
abbrev sB (l:List UInt8):AV:=.str ⟨⟨l⟩⟩
abbrev cB (l:List AV):Option XB:=some (.blk false (.cells true l))
abbrev gB (l:List AV):Option XB:=some (.blk true (.cells true l))
abbrev mB (l:List (AV×AV)):Option XB:=some (.blk false (.map true l))
abbrev nB (l:List (AV×AV)):Option XB:=some (.blk true (.map true l))
abbrev iL (l:List Int):List AV:=l.map (.int .u8 ·)
abbrev bV (n:Nat):List UInt8:=List.replicate n 32
abbrev bQ (n:Nat):List Int:=List.replicate n 32
abbrev sx0:AV:=sB [98,111]
abbrev sx1:AV:=sB [119,49]
abbrev sx2:AV:=sB [97,110,97]
abbrev sx3:AV:=sB [119,50]
abbrev sx4:AV:=sB [102,97,114,109,101,114,32,97,110,97]
abbrev sx5:AV:=sB [102,97,114,109,101,114,32,98,111]
abbrev sx6:AV:=sB [119,97,103,111,110,32,119,49,32,49,53,48,48,48,32,53,48,48,48,32,97,110,97]
abbrev sx7:AV:=sB [119,97,103,111,110,32,119,49,32,49,52,48,48,48,32,53,53,48,48,32,98,111]
abbrev sx8:AV:=sB [99,108,111,115,101]
abbrev sx9:AV:=sB [111,107]
abbrev aAn:AV:=sB [118,111,105,100,32,48]
abbrev aBI:AV:=sB [119,97,103,111,110,32,119,50,32,57,48,48,48,32,51,48,48,48,32,98,111]
abbrev aGM:AV:=sB [109,101,116,101,114,32,109,32,57,57,57,57,48]
abbrev aHZ:AV:=sB [109,101,116,101,114,32,109,32,49,53]
abbrev aLh:AV:=sB [112,97,110,32,112,32,57,48,48,32,56,55,48]
abbrev aLg:AV:=sB [116,111,116,97,108]
abbrev aLf:AV:=sB [116,105,99,107,101,116,32,48]
abbrev aLe:AV:=sB [117,115,101,100,32,109]
abbrev aHY:AV:=sB [49,52,53,48,48]
abbrev aNR:AV:=sB [110,101,116,32,98,111]
abbrev aLd:AV:=sB [110,111,32,54]
abbrev aLc:AV:=sB [110,111,32,49,48]
abbrev aLb:AV:=sB [110,111,32,53]
abbrev aLa:AV:=sB [110,111,32,49,51]
abbrev aRC:AV:=sB [119,97,103,111,110,32,119,49,32,49,52,48,48,48,32,53,53,48,49,32,98,111]
abbrev aRB:AV:=sB [119,97,103,111,110,32,119,50,32,51,48,48,48,32,52,48,48,48,32,97,110,97]
abbrev aRA:AV:=sB [119,97,103,111,110,32,119,50,32,52,48,48,48,32,51,48,48,48,32,101,118,101]
abbrev aRz:AV:=sB [112,111,119,101,114,32,97,110,97]
abbrev aRy:AV:=sB [112,111,119,101,114,32,98,111]
abbrev aRx:AV:=sB [118,111,105,100,32,49]
abbrev aRw:AV:=sB [118,111,105,100,32,51]
abbrev aRv:AV:=sB [112,97,110,32,112,32,49,48,48,32,49,48,49]
abbrev aRu:AV:=sB [108,111,115,115,32,112]
abbrev aRt:AV:=sB [110,101,116,32,32,98,111]
abbrev aRs:AV:=sB [110,101,116,32,66,111]
abbrev aRr:AV:=sB [119,97,103,111,110,32,119,51,32,49,32,48,50,32,98,111]
abbrev aRq:AV:=sB [115,117,103,97,114]
abbrev aNQ:AV:=sB [102,97,114,109,101,114,32,97]
abbrev aNP:AV:=sB ([122,97,102,114,97,32,49,52,10,51,52,54,51,102,97,114,109,101,114,32,97,110,97]++bV 30++[10,50,56,51,49,102,97,114,109,101,114,32,98,111]++bV 31++[10,56,54,56,52,119,97,103,111,110,32,119,49,32,49,53,48,48,48,32,53,48,48,48,32,97,110,97]++bV 17++[10,55,51,48,55,119,97,103,111,110,32,119,49,32,49,52,48,48,48,32,53,53,48,48,32,98,111]++bV 18++[10,54,55,57,57,119,97,103,111,110,32,119,50,32,57,48,48,48,32,51,48,48,48,32,98,111]++bV 19++[10,51,56,49,49,53,72,124,43,119,101,103,120,94,61,89,80,80,64,51,90,85,80,64,98,52,94,97]++bV 17++[10,48,56,51,55,118,111,105,100,32,48]++bV 34++[10,49,49,52,48,99,108,111,115,101]++bV 35++[10,50,57,53,56,109,101,116,101,114,32,109,32,57,57,57,57,48]++bV 27++[10,50,48,54,52,109,101,116,101,114,32,109,32,49,53]++bV 30++[10,50,48,52,57,112,97,110,32,112,32,57,48,48,32,56,55,48]++bV 27++[10,51,54,57,57,39,105,50,36,60,48,116,48,90,78,81,80,64]++bV 27++[10])
abbrev aRp:AV:=sB ([50,49,49,49,102,97,114,109,101,114,32,97]++bV 32++[10])
abbrev aRo:AV:=sB ([49,56,50,49,74,78,98,97,75,114,32,97]++bV 32++[10])
abbrev aRn:AV:=sB ([50,49,49,49,102,97,114,109,101,114,32,97]++bV 32++[10,49,49,51,52,99,108,111,115,101]++bV 35++[10,49,56,50,49,74,78,98,97,75,114,32,97]++bV 32++[10])
abbrev aRm:AV:=sB ([49,49,51,52,99,108,111,122,101]++bV 35++[10])
abbrev aRl:AV:=sB [110,111,32,50,50]
abbrev aRk:AV:=sB [50,52,53,48,48]
abbrev aRj:AV:=sB [119,49,32,97,110,97,32,49,48,48,48,48]
abbrev aRi:AV:=sB [119,49,32,97,110,97,32,49,48,48,48,48,32,118,111,105,100]
abbrev aRh:AV:=sB [110,111,32,50,51]
abbrev aRg:AV:=sB [110,111,32,52]
abbrev aRf:AV:=sB [50,53]
abbrev aRe:AV:=sB [51,48]
abbrev aRd:AV:=sB [110,111,32,56]
abbrev aRc:AV:=sB [110,111,32,50]
abbrev aRb:AV:=sB ([51,52,54,51,102,97,114,109,101,114,32,97,110,97]++bV 30++[10])
abbrev aRa:AV:=sB ([50,56,51,49,102,97,114,109,101,114,32,98,111]++bV 31++[10])
abbrev aQZ:AV:=sB ([56,54,56,52,119,97,103,111,110,32,119,49,32,49,53,48,48,48,32,53,48,48,48,32,97,110,97]++bV 17++[10])
abbrev aQY:AV:=sB ([55,51,48,55,119,97,103,111,110,32,119,49,32,49,52,48,48,48,32,53,53,48,48,32,98,111]++bV 18++[10])
abbrev aQX:AV:=sB ([54,55,57,57,119,97,103,111,110,32,119,50,32,57,48,48,48,32,51,48,48,48,32,98,111]++bV 19++[10])
abbrev aQW:AV:=sB ([51,56,49,49,53,72,124,43,119,101,103,120,94,61,89,80,80,64,51,90,85,80,64,98,52,94,97]++bV 17++[10])
abbrev aQV:AV:=sB ([51,52,54,51,102,97,114,109,101,114,32,97,110,97]++bV 30++[10,50,56,51,49,102,97,114,109,101,114,32,98,111]++bV 31++[10,56,54,56,52,119,97,103,111,110,32,119,49,32,49,53,48,48,48,32,53,48,48,48,32,97,110,97]++bV 17++[10,55,51,48,55,119,97,103,111,110,32,119,49,32,49,52,48,48,48,32,53,53,48,48,32,98,111]++bV 18++[10,54,55,57,57,119,97,103,111,110,32,119,50,32,57,48,48,48,32,51,48,48,48,32,98,111]++bV 19++[10,51,56,49,49,53,72,124,43,119,101,103,120,94,61,89,80,80,64,51,90,85,80,64,98,52,94,97]++bV 17++[10])
abbrev aQU:AV:=sB ([48,56,51,55,118,111,105,100,32,48]++bV 34++[10])
abbrev aQT:AV:=sB ([49,49,52,48,99,108,111,115,101]++bV 35++[10])
abbrev aQS:AV:=sB ([50,57,53,56,109,101,116,101,114,32,109,32,57,57,57,57,48]++bV 27++[10])
abbrev aQR:AV:=sB ([50,48,54,52,109,101,116,101,114,32,109,32,49,53]++bV 30++[10])
abbrev aQQ:AV:=sB ([50,48,52,57,112,97,110,32,112,32,57,48,48,32,56,55,48]++bV 27++[10])
abbrev aQP:AV:=sB ([51,54,57,57,39,105,50,36,60,48,116,48,90,78,81,80,64]++bV 27++[10])
abbrev aQO:AV:=sB ([48,56,51,55,118,111,105,100,32,48]++bV 34++[10,49,49,52,48,99,108,111,115,101]++bV 35++[10,50,57,53,56,109,101,116,101,114,32,109,32,57,57,57,57,48]++bV 27++[10,50,48,54,52,109,101,116,101,114,32,109,32,49,53]++bV 30++[10,50,48,52,57,112,97,110,32,112,32,57,48,48,32,56,55,48]++bV 27++[10,51,54,57,57,39,105,50,36,60,48,116,48,90,78,81,80,64]++bV 27++[10])
abbrev aQN:AV:=sB [122,97,102,114,97,32,49,52,10]
abbrev aRY:Option XB:=gB ([sx4,sx5,sx4,sx6,aRC,sx7,aRB,aRA,aBI,aNR,aLg,aRz,aRy,aLf,aAn,aLf,aLg,sx8,aRx,aAn,aRw,sx8,aGM,aLe,aHZ,aLe,aLh,aRv,aRu,aRt,aRs,aRr,aRq])
abbrev aRX:Option XB:=cB ([.pt 1 0,.pt 3 0,.pt 5 0,.pt 7 0,.nilsl,I (0),.nilsl])
abbrev aLC:Option XB:=gB ([sx4,sx5,sx6,sx7,aBI,aAn,sx8,aGM,aHZ,aLh])
abbrev aHb:Option XB:=gB ([sx1,sx2,I (10000),.bool false,.bool false])
abbrev rT:Option XB:=gB ([sx1,sx0,I (8500),.bool false,.bool false])
abbrev uQ:Option XB:=gB ([sx3,sx0,I (6000),.bool false,.bool false])
abbrev yL:Option XB:=gB ([sx1,sx2,I (10000),.bool true,.bool false])
abbrev aRW:Option XB:=gB ([sx4,sx5,sx6,sx7,aBI,aAn,sx8,aGM,aHZ])
abbrev aRV:Option XB:=gB ([sx4,sx5,sx6,sx7,aBI,aAn,sx8,aGM])
abbrev aHa:Option XB:=mB ([(sx1,.pt 13 0),(sx3,.pt 14 0)])
abbrev aNh:Option XB:=gB ([sx4,sx5,sx6,sx7,aBI,aAn,sx8])
abbrev aFQ:Option XB:=mB ([(sx1,.pt 15 0),(sx3,.pt 16 0)])
abbrev iT:Option XB:=mB ([(sx2,.pt 4 0),(sx0,.pt 5 0)])
abbrev aJb:Option XB:=cB ([.sl 11 0 1 1,.mp 12,I (300)])
abbrev aBd:Option XB:=cB ([.sl 11 0 1 2,.mp 12,I (300)])
abbrev aFP:Option XB:=cB ([.sl 13 0 1 2,.mp 14,I (300)])
abbrev aBc:Option XB:=cB ([.pt 16 0,.pt 17 0,.pt 18 0])
abbrev aFO:Option XB:=cB ([.pt 18 0,.pt 19 0,.pt 20 0])
abbrev aNg:Option XB:=gB ([sx4,sx5,sx6,sx7,aBI,aAn])
abbrev iS:Option XB:=cB ([.sl 2 0 1 2,.mp 3,I (9)])
abbrev aDc:Option XB:=cB ([.sl 7 0 1 1,.mp 8,I (5)])
abbrev aNf:Option XB:=cB ([.nilsl,.mp 10,I (300)])
abbrev aJa:Option XB:=cB ([.nilsl,.mp 8,I (300)])
abbrev aNe:Option XB:=gB ([sx4,sx5,sx6,sx7,aBI])
abbrev aIZ:Option XB:=cB ([.nilsl,.mp 11,I (5)])
abbrev aNd:Option XB:=cB ([.nilsl,.mp 2,I (9)])
abbrev aIY:Option XB:=cB ([.nilsl,.mp 4,I (5)])
abbrev aDb:Option XB:=cB ([.nilsl,.mp 6,I (5)])
abbrev aNc:Option XB:=cB ([.nilsl,.mp 8,I (5)])
abbrev pK:Option XB:=cB ([.nilsl,.mp 7,I (5)])
abbrev oH:Option XB:=cB ([.nilsl,.mp 9,I (5)])
abbrev aDa:Option XB:=mB ([(sB [109],.pt 9 0)])
abbrev aNb:Option XB:=gB ([sx4,sx5,sx6,sx7])
abbrev aNa:Option XB:=gB ([I (99990),I (0)])
abbrev aIX:Option XB:=mB ([(sx1,.pt 13 0)])
abbrev aCZ:Option XB:=gB ([I (15),I (25)])
abbrev aMZ:Option XB:=gB ([sx4,sx5,sx6])
abbrev aBb:Option XB:=gB ([I (10000)])
abbrev mN:Option XB:=gB ([I (14500)])
abbrev iR:Option XB:=gB ([I (5000)])
abbrev aMY:Option XB:=gB ([I (8500)])
abbrev mM:Option XB:=gB ([I (3000)])
abbrev yM:Option XB:=gB ([sB [109]])
abbrev aIW:Option XB:=gB ([sB [112]])
abbrev aMX:Option XB:=gB ([sx4,sx5])
abbrev gR:Option XB:=gB ([sx2,sx0])
abbrev mL:Option XB:=gB ([sx1,sx3])
abbrev aIV:Option XB:=gB ([I (30)])
abbrev gQ:Option XB:=gB ([I (0)])
abbrev aMW:Option XB:=gB ([sx4])
abbrev aMV:Option XB:=gB ([sx2])
abbrev aFN:Option XB:=gB ([sx1])
abbrev bM:Option XB:=nB ([])
def hp0:XH:=[(gB ((iL ([102,97,114,109,101,114,32,97]++bQ 72++[74,78,98,97,75,114,32,97]++bQ 32))))]
def hp1:XH:=[aRX,aNd,bM,aIY,bM,aDb,bM,aJa,bM]
def hp2:XH:=[(cB ([.pt 1 0,.pt 3 0,.pt 5 0,.pt 7 0,.nilsl,I (0),.sl 9 0 1 1])),(cB ([.sl 10 0 1 1,.mp 2,I (9)])),(mB ([(sx2,.pt 11 0)])),aIY,bM,aDb,bM,aJa,bM,aMW,aMV,gQ]
def hp3:XH:=[(cB ([.pt 1 0,.pt 5 0,.pt 7 0,.pt 9 0,.nilsl,I (0),.sl 11 0 1 1])),(cB ([.sl 2 0 1 1,.mp 3,I (9)])),aMV,(mB ([(sx2,.pt 4 0)])),gQ,aDb,bM,aNc,bM,aNf,bM,aMW]
def hp4:XH:=[(cB ([.pt 1 0,.pt 5 0,.pt 7 0,.pt 9 0,.nilsl,I (0),.sl 12 0 1 2])),(cB ([.sl 13 0 1 2,.mp 3,I (9)])),none,(mB ([(sx2,.pt 4 0),(sx0,.pt 14 0)])),gQ,aDb,bM,aNc,bM,aNf,bM,none,aMX,gR,gQ]
def hp5:XH:=[(cB ([.pt 1 0,.pt 6 0,.pt 8 0,.pt 10 0,.nilsl,I (0),.sl 12 0 1 2])),iS,gR,iT,gQ,gQ,pK,bM,oH,bM,(cB ([.nilsl,.mp 11,I (300)])),bM,aMX]
def hp6:XH:=[(cB ([.pt 1 0,.pt 6 0,.pt 8 0,.pt 10 0,.sl 13 0 1 1,I (0),.sl 15 0 1 3])),iS,gR,iT,aBb,gQ,pK,bM,oH,bM,(cB ([.sl 16 0 1 1,.mp 11,I (300)])),(mB ([(sx1,.pt 17 0)])),none,(cB ([.pt 14 0])),aHb,aMZ,aFN,iR]
def hp7:XH:=[(cB ([.pt 1 0,.pt 6 0,.pt 8 0,.pt 10 0,.sl 14 0 1 1,I (0),.sl 16 0 1 3])),iS,gR,iT,aBb,gQ,pK,bM,oH,bM,aJb,aFN,aIX,iR,(cB ([.pt 15 0])),aHb,aMZ]
def hp8:XH:=[(cB ([.pt 1 0,.pt 6 0,.pt 8 0,.pt 10 0,.sl 17 0 1 2,I (0),.sl 19 0 1 4])),iS,gR,iT,aBb,aMY,pK,bM,oH,bM,aJb,aFN,aIX,iR,none,aHb,none,(cB ([.pt 15 0,.pt 18 0])),rT,aNb]
def hp9:XH:=[(cB ([.pt 1 0,.pt 6 0,.pt 8 0,.pt 10 0,.sl 14 0 1 2,I (0),.sl 17 0 1 4])),iS,gR,iT,aBb,aMY,pK,bM,oH,bM,aJb,aFN,aIX,iR,(cB ([.pt 15 0,.pt 16 0])),aHb,rT,aNb]
def aWI:XH:=[(cB ([.pt 1 0,.pt 6 0,.pt 8 0,.pt 10 0,.sl 18 0 1 3,I (0),.sl 20 0 1 5])),iS,gR,iT,aBb,mN,pK,bM,oH,bM,(cB ([.sl 21 0 1 2,.mp 12,I (300)])),none,(mB ([(sx1,.pt 13 0),(sx3,.pt 22 0)])),iR,none,aHb,rT,none,(cB ([.pt 15 0,.pt 16 0,.pt 19 0])),uQ,aNe,mL,mM]
def zC:XH:=[(cB ([.pt 1 0,.pt 6 0,.pt 8 0,.pt 10 0,.sl 15 0 1 3,I (0),.sl 19 0 1 5])),iS,gR,iT,aBb,mN,pK,bM,oH,bM,aBd,mL,aHa,iR,mM,aBc,aHb,rT,uQ,aNe]
def aWH:XH:=[(cB ([.pt 1 0,.pt 6 0,.pt 8 0,.pt 10 0,.sl 15 0 1 3,I (0),.sl 20 0 1 6])),iS,gR,iT,gQ,mN,pK,bM,oH,bM,aBd,mL,aHa,iR,mM,aBc,yL,rT,uQ,none,aNg]
def aJT:XH:=[(cB ([.pt 1 0,.pt 6 0,.pt 8 0,.pt 10 0,.sl 15 0 1 3,I (0),.sl 19 0 1 6])),iS,gR,iT,gQ,mN,pK,bM,oH,bM,aBd,mL,aHa,iR,mM,aBc,yL,rT,uQ,aNg]
def aWG:XH:=[(cB ([.pt 1 0,.pt 6 0,.pt 8 0,.pt 10 0,.sl 15 0 1 3,I (3),.sl 20 0 1 7])),iS,gR,iT,gQ,mN,pK,bM,oH,bM,aBd,mL,aHa,iR,mM,aBc,yL,rT,uQ,none,aNh]
def aCp:XH:=[(cB ([.pt 1 0,.pt 6 0,.pt 8 0,.pt 10 0,.sl 15 0 1 3,I (3),.sl 19 0 1 7])),iS,gR,iT,gQ,mN,pK,bM,oH,bM,aBd,mL,aHa,iR,mM,aBc,yL,rT,uQ,aNh]
def aWF:XH:=[(cB ([.pt 1 0,.pt 6 0,.pt 8 0,.pt 10 0,.sl 15 0 1 3,I (3),.sl 20 0 1 8])),iS,gR,iT,gQ,mN,(cB ([.sl 21 0 1 1,.mp 7,I (5)])),(mB ([(sB [109],.pt 22 0)])),oH,bM,aBd,mL,aHa,iR,mM,aBc,yL,rT,uQ,none,aRV,yM,aNa]
def aOM:XH:=[(cB ([.pt 1 0,.pt 6 0,.pt 10 0,.pt 12 0,.sl 17 0 1 3,I (3),.sl 21 0 1 8])),iS,gR,iT,gQ,mN,aDc,yM,aDa,aNa,aIZ,bM,aFP,mL,aFQ,iR,mM,aFO,yL,rT,uQ,aRV]
def aWE:XH:=[(cB ([.pt 1 0,.pt 6 0,.pt 10 0,.pt 12 0,.sl 17 0 1 3,I (3),.sl 22 0 1 9])),iS,gR,iT,gQ,mN,aDc,yM,aDa,aCZ,aIZ,bM,aFP,mL,aFQ,iR,mM,aFO,yL,rT,uQ,none,aRW]
def aOL:XH:=[(cB ([.pt 1 0,.pt 6 0,.pt 10 0,.pt 12 0,.sl 17 0 1 3,I (3),.sl 21 0 1 9])),iS,gR,iT,gQ,mN,aDc,yM,aDa,aCZ,aIZ,bM,aFP,mL,aFQ,iR,mM,aFO,yL,rT,uQ,aRW]
def aWD:XH:=[(cB ([.pt 1 0,.pt 6 0,.pt 10 0,.pt 12 0,.sl 17 0 1 3,I (3),.sl 22 0 1 10])),iS,gR,iT,gQ,mN,aDc,yM,aDa,aCZ,(cB ([.sl 23 0 1 1,.mp 11,I (5)])),(mB ([(sB [112],.pt 24 0)])),aFP,mL,aFQ,iR,mM,aFO,yL,rT,uQ,none,aLC,aIW,aIV]
def pQ:XH:=[(cB ([.pt 1 0,.pt 6 0,.pt 10 0,.pt 14 0,.sl 19 0 1 3,I (3),.sl 23 0 1 10])),iS,gR,iT,gQ,mN,aDc,yM,aDa,aCZ,(cB ([.sl 11 0 1 1,.mp 12,I (5)])),aIW,(mB ([(sB [112],.pt 13 0)])),aIV,(cB ([.sl 15 0 1 2,.mp 16,I (300)])),mL,(mB ([(sx1,.pt 17 0),(sx3,.pt 18 0)])),iR,mM,(cB ([.pt 20 0,.pt 21 0,.pt 22 0])),yL,rT,uQ,aLC]
def aWC:XH:=[aRX,aNd,bM,aIY,bM,aDb,bM,aJa,bM,aRY]
def aWB:XH:=[(cB ([.pt 1 0,.pt 3 0,.pt 5 0,.pt 7 0,.sl 10 0 1 3,I (3),.sl 14 0 1 10])),(cB ([.sl 15 0 1 2,.mp 2,I (9)])),(mB ([(sx2,.pt 16 0),(sx0,.pt 17 0)])),(cB ([.sl 18 0 1 1,.mp 4,I (5)])),(mB ([(sB [109],.pt 19 0)])),(cB ([.sl 20 0 1 1,.mp 6,I (5)])),(mB ([(sB [112],.pt 21 0)])),(cB ([.sl 22 0 1 2,.mp 8,I (300)])),(mB ([(sx1,.pt 23 0),(sx3,.pt 24 0)])),aRY,(cB ([.pt 11 0,.pt 12 0,.pt 13 0])),yL,rT,uQ,aLC,gR,gQ,mN,yM,aCZ,aIW,aIV,mL,iR,mM]
def aLZ:XH:=[aLC]
def aTs:XH:=[(gB ((iL ([102,97,114,109,101,114,32,97,110,97]++bQ 30++[102,97,114,109,101,114,32,98,111]++bQ 31++[119,97,103,111,110,32,119,49,32,49,53,48,48,48,32,53,48,48,48,32,97,110,97]++bQ 17++[119,97,103,111,110,32,119,49,32,49,52,48,48,48,32,53,53,48,48,32,98,111]++bQ 18++[119,97,103,111,110,32,119,50,32,57,48,48,48,32,51,48,48,48,32,98,111]++bQ 19++[53,72,124,43,119,101,103,120,94,61,89,80,80,64,51,90,85,80,64,98,52,94,97]++bQ 17))))]
def aTr:XH:=[(gB ((iL ([118,111,105,100,32,48]++bQ 34++[99,108,111,115,101]++bQ 35++[109,101,116,101,114,32,109,32,57,57,57,57,48]++bQ 27++[109,101,116,101,114,32,109,32,49,53]++bQ 30++[112,97,110,32,112,32,57,48,48,32,56,55,48]++bQ 27++[39,105,50,36,60,48,116,48,90,78,81,80,64]++bQ 27))))]
def rw0:dF:=⟨77,[.agg (iL ([102,97,114,109,101,114,32,97]++bQ 32)),I (0)],[],aRp,[]⟩
def rw1:dF:=⟨77,[.agg (iL ([99,108,111,115,101]++bQ 35)),I (1)],[],sB ([49,49,51,52,99,108,111,115,101]++bV 35++[10]),[]⟩
def rw2:dF:=⟨43,[.fs [(iL ([102,97,114,109,101,114,32,97]++bQ 32)),(iL ([99,108,111,115,101]++bQ 35))]],[],.agg (iL ([74,78,98,97,75,114,32,97]++bQ 32)),[]⟩
def rw3:dF:=⟨77,[.agg (iL ([74,78,98,97,75,114,32,97]++bQ 32)),I (2)],[],aRo,[]⟩
def rw4:dF:=⟨38,[.fs [[aNQ],[sx8]],I (0)],[],aRn,[]⟩
def rw5:dF:=⟨14,[.fs [[aNQ],[sx8]],I (0)],[],.tup [aRn,I (0)],[]⟩
def rw6:dF:=⟨42,[aRp,I (0)],[],.tup [.agg (iL ([102,97,114,109,101,114,32,97]++bQ 32)),.bool true],[]⟩
def rw7:dF:=⟨77,[.agg (iL ([99,108,111,122,101]++bQ 35)),I (1)],[],sB ([49,49,54,50,99,108,111,122,101]++bV 35++[10]),[]⟩
def rw8:dF:=⟨42,[aRm,I (1)],[],.tup [.agg (iL ([99,108,111,122,101]++bQ 35)),.bool false],[]⟩
def rw9:dF:=⟨42,[aRo,I (2)],[],.tup [.agg (iL ([74,78,98,97,75,114,32,97]++bQ 32)),.bool true],[]⟩
def rw10:dF:=⟨43,[.sl 0 0 40 2],hp0,.agg (iL ([102,97,114,109,101,114,32,97]++bQ 32)),hp0⟩
def rw11:dF:=⟨16,[sB ([50,49,49,49,102,97,114,109,101,114,32,97]++bV 32++[10,49,49,51,52,99,108,111,122,101]++bV 35++[10,49,56,50,49,74,78,98,97,75,114,32,97]++bV 32++[10]),I (0)],[],.tup [.fs [[aNQ],[sx8]],I (1),I (0)],[]⟩
def rw12:dF:=⟨77,[.agg (iL ([99,108,111,122,101]++bQ 35)),I (0)],[],sB ([49,49,54,49,99,108,111,122,101]++bV 35++[10]),[]⟩
def rw13:dF:=⟨42,[aRm,I (0)],[],.tup [.agg (iL ([99,108,111,122,101]++bQ 35)),.bool false],[]⟩
def rw14:dF:=⟨16,[sB ([49,49,51,52,99,108,111,122,101]++bV 35++[10,49,49,51,52,99,108,111,122,101]++bV 35++[10,49,56,50,49,74,78,98,97,75,114,32,97]++bV 32++[10]),I (0)],[],.tup [.fs [],I (0),I (19)],[]⟩
def rw15:dF:=⟨21,[.pt 0 0,sx4],hp1,sx9,hp2⟩
def rw16:dF:=⟨21,[.pt 0 0,sx5],hp3,sx9,hp4⟩
def rw17:dF:=⟨21,[.pt 0 0,sx4],hp5,aLd,hp5⟩
def rw18:dF:=⟨21,[.pt 0 0,sx6],hp5,sx9,hp6⟩
def rw19:dF:=⟨21,[.pt 0 0,aRC],hp7,aRl,hp7⟩
def rw20:dF:=⟨21,[.pt 0 0,sx7],hp7,sx9,hp8⟩
def rw21:dF:=⟨21,[.pt 0 0,aRB],hp9,aLc,hp9⟩
def rw22:dF:=⟨21,[.pt 0 0,aRA],hp9,aLb,hp9⟩
def rw23:dF:=⟨21,[.pt 0 0,aBI],hp9,sx9,aWI⟩
def rw24:dF:=⟨21,[.pt 0 0,aNR],zC,aHY,zC⟩
def rw25:dF:=⟨21,[.pt 0 0,aLg],zC,aRk,zC⟩
def rw26:dF:=⟨21,[.pt 0 0,aRz],zC,sB [48],zC⟩
def rw27:dF:=⟨21,[.pt 0 0,aRy],zC,sB [50],zC⟩
def rw28:dF:=⟨21,[.pt 0 0,aLf],zC,aRj,zC⟩
def rw29:dF:=⟨21,[.pt 0 0,aAn],zC,sx9,aWH⟩
def rw30:dF:=⟨21,[.pt 0 0,aLf],aJT,aRi,aJT⟩
def rw31:dF:=⟨21,[.pt 0 0,aLg],aJT,aHY,aJT⟩
def rw32:dF:=⟨21,[.pt 0 0,sx8],aJT,sx9,aWG⟩
def rw33:dF:=⟨21,[.pt 0 0,aRx],aCp,aRh,aCp⟩
def rw34:dF:=⟨21,[.pt 0 0,aAn],aCp,aLd,aCp⟩
def rw35:dF:=⟨21,[.pt 0 0,aRw],aCp,aLb,aCp⟩
def rw36:dF:=⟨21,[.pt 0 0,sx8],aCp,aRg,aCp⟩
def rw37:dF:=⟨21,[.pt 0 0,aGM],aCp,sx9,aWF⟩
def rw38:dF:=⟨21,[.pt 0 0,aLe],aOM,sB [48],aOM⟩
def rw39:dF:=⟨21,[.pt 0 0,aHZ],aOM,sx9,aWE⟩
def rw40:dF:=⟨21,[.pt 0 0,aLe],aOL,aRf,aOL⟩
def rw41:dF:=⟨21,[.pt 0 0,aLh],aOL,sx9,aWD⟩
def rw42:dF:=⟨21,[.pt 0 0,aRv],pQ,aLc,pQ⟩
def rw43:dF:=⟨21,[.pt 0 0,aRu],pQ,aRe,pQ⟩
def rw44:dF:=⟨21,[.pt 0 0,aRt],pQ,aLa,pQ⟩
def rw45:dF:=⟨21,[.pt 0 0,aRs],pQ,aRd,pQ⟩
def rw46:dF:=⟨21,[.pt 0 0,aRr],pQ,aRc,pQ⟩
def rw47:dF:=⟨21,[.pt 0 0,aRq],pQ,aLa,pQ⟩
def rw48:dF:=⟨31,[.pt 0 0,.sl 9 0 1 33],aWC,.fs [[sx9],[sx9],[aLd],[sx9],[aRl],[sx9],[aLc],[aLb],[sx9],[aHY],[aRk],[sB [48]],[sB [50]],[aRj],[sx9],[aRi],[aHY],[sx9],[aRh],[aLd],[aLb],[aRg],[sx9],[sB [48]],[sx9],[aRf],[sx9],[aLc],[aRe],[aLa],[aRd],[aRc],[aLa]],aWB⟩
def rw49:dF:=⟨77,[.agg (iL ([102,97,114,109,101,114,32,97,110,97]++bQ 30)),I (0)],[],aRb,[]⟩
def rw50:dF:=⟨77,[.agg (iL ([102,97,114,109,101,114,32,98,111]++bQ 31)),I (1)],[],aRa,[]⟩
def rw51:dF:=⟨77,[.agg (iL ([119,97,103,111,110,32,119,49,32,49,53,48,48,48,32,53,48,48,48,32,97,110,97]++bQ 17)),I (2)],[],aQZ,[]⟩
def rw52:dF:=⟨77,[.agg (iL ([119,97,103,111,110,32,119,49,32,49,52,48,48,48,32,53,53,48,48,32,98,111]++bQ 18)),I (3)],[],aQY,[]⟩
def rw53:dF:=⟨77,[.agg (iL ([119,97,103,111,110,32,119,50,32,57,48,48,48,32,51,48,48,48,32,98,111]++bQ 19)),I (4)],[],aQX,[]⟩
def rw54:dF:=⟨43,[.fs [(iL ([102,97,114,109,101,114,32,97,110,97]++bQ 30)),(iL ([102,97,114,109,101,114,32,98,111]++bQ 31)),(iL ([119,97,103,111,110,32,119,49,32,49,53,48,48,48,32,53,48,48,48,32,97,110,97]++bQ 17)),(iL ([119,97,103,111,110,32,119,49,32,49,52,48,48,48,32,53,53,48,48,32,98,111]++bQ 18)),(iL ([119,97,103,111,110,32,119,50,32,57,48,48,48,32,51,48,48,48,32,98,111]++bQ 19))]],[],.agg (iL ([53,72,124,43,119,101,103,120,94,61,89,80,80,64,51,90,85,80,64,98,52,94,97]++bQ 17)),[]⟩
def rw55:dF:=⟨77,[.agg (iL ([53,72,124,43,119,101,103,120,94,61,89,80,80,64,51,90,85,80,64,98,52,94,97]++bQ 17)),I (5)],[],aQW,[]⟩
def rw56:dF:=⟨38,[.sl 0 0 1 5,I (0)],aLZ,aQV,aLZ⟩
def rw57:dF:=⟨77,[.agg (iL ([118,111,105,100,32,48]++bQ 34)),I (6)],[],aQU,[]⟩
def rw58:dF:=⟨77,[.agg (iL ([99,108,111,115,101]++bQ 35)),I (7)],[],aQT,[]⟩
def rw59:dF:=⟨77,[.agg (iL ([109,101,116,101,114,32,109,32,57,57,57,57,48]++bQ 27)),I (8)],[],aQS,[]⟩
def rw60:dF:=⟨77,[.agg (iL ([109,101,116,101,114,32,109,32,49,53]++bQ 30)),I (9)],[],aQR,[]⟩
def rw61:dF:=⟨77,[.agg (iL ([112,97,110,32,112,32,57,48,48,32,56,55,48]++bQ 27)),I (10)],[],aQQ,[]⟩
def rw62:dF:=⟨43,[.fs [(iL ([118,111,105,100,32,48]++bQ 34)),(iL ([99,108,111,115,101]++bQ 35)),(iL ([109,101,116,101,114,32,109,32,57,57,57,57,48]++bQ 27)),(iL ([109,101,116,101,114,32,109,32,49,53]++bQ 30)),(iL ([112,97,110,32,112,32,57,48,48,32,56,55,48]++bQ 27))]],[],.agg (iL ([39,105,50,36,60,48,116,48,90,78,81,80,64]++bQ 27)),[]⟩
def rw63:dF:=⟨77,[.agg (iL ([39,105,50,36,60,48,116,48,90,78,81,80,64]++bQ 27)),I (11)],[],aQP,[]⟩
def rw64:dF:=⟨38,[.sl 0 5 1 5,I (6)],aLZ,aQO,aLZ⟩
def rw65:dF:=⟨23,[.pt 0 0],pQ,aNP,pQ⟩
def rw66:dF:=⟨72,[aNP,aQN],[],.tup [sB ([51,52,54,51,102,97,114,109,101,114,32,97,110,97]++bV 30++[10,50,56,51,49,102,97,114,109,101,114,32,98,111]++bV 31++[10,56,54,56,52,119,97,103,111,110,32,119,49,32,49,53,48,48,48,32,53,48,48,48,32,97,110,97]++bV 17++[10,55,51,48,55,119,97,103,111,110,32,119,49,32,49,52,48,48,48,32,53,53,48,48,32,98,111]++bV 18++[10,54,55,57,57,119,97,103,111,110,32,119,50,32,57,48,48,48,32,51,48,48,48,32,98,111]++bV 19++[10,51,56,49,49,53,72,124,43,119,101,103,120,94,61,89,80,80,64,51,90,85,80,64,98,52,94,97]++bV 17++[10,48,56,51,55,118,111,105,100,32,48]++bV 34++[10,49,49,52,48,99,108,111,115,101]++bV 35++[10,50,57,53,56,109,101,116,101,114,32,109,32,57,57,57,57,48]++bV 27++[10,50,48,54,52,109,101,116,101,114,32,109,32,49,53]++bV 30++[10,50,48,52,57,112,97,110,32,112,32,57,48,48,32,56,55,48]++bV 27++[10,51,54,57,57,39,105,50,36,60,48,116,48,90,78,81,80,64]++bV 27++[10]),.bool true],[]⟩
def rw68:dF:=⟨42,[aRb,I (0)],[],.tup [.agg (iL ([102,97,114,109,101,114,32,97,110,97]++bQ 30)),.bool true],[]⟩
def rw69:dF:=⟨42,[aRa,I (1)],[],.tup [.agg (iL ([102,97,114,109,101,114,32,98,111]++bQ 31)),.bool true],[]⟩
def rw70:dF:=⟨42,[aQZ,I (2)],[],.tup [.agg (iL ([119,97,103,111,110,32,119,49,32,49,53,48,48,48,32,53,48,48,48,32,97,110,97]++bQ 17)),.bool true],[]⟩
def rw71:dF:=⟨42,[aQY,I (3)],[],.tup [.agg (iL ([119,97,103,111,110,32,119,49,32,49,52,48,48,48,32,53,53,48,48,32,98,111]++bQ 18)),.bool true],[]⟩
def rw72:dF:=⟨42,[aQX,I (4)],[],.tup [.agg (iL ([119,97,103,111,110,32,119,50,32,57,48,48,48,32,51,48,48,48,32,98,111]++bQ 19)),.bool true],[]⟩
def rw73:dF:=⟨42,[aQW,I (5)],[],.tup [.agg (iL ([53,72,124,43,119,101,103,120,94,61,89,80,80,64,51,90,85,80,64,98,52,94,97]++bQ 17)),.bool true],[]⟩
def rw74:dF:=⟨43,[.sl 0 0 40 5],aTs,.agg (iL ([53,72,124,43,119,101,103,120,94,61,89,80,80,64,51,90,85,80,64,98,52,94,97]++bQ 17)),aTs⟩
def rw75:dF:=⟨16,[aQV,I (0)],[],.tup [.fs [[sx4],[sx5],[sx6],[sx7],[aBI]],I (0),I (0)],[]⟩
def rw76:dF:=⟨42,[aQU,I (6)],[],.tup [.agg (iL ([118,111,105,100,32,48]++bQ 34)),.bool true],[]⟩
def rw77:dF:=⟨42,[aQT,I (7)],[],.tup [.agg (iL ([99,108,111,115,101]++bQ 35)),.bool true],[]⟩
def rw78:dF:=⟨42,[aQS,I (8)],[],.tup [.agg (iL ([109,101,116,101,114,32,109,32,57,57,57,57,48]++bQ 27)),.bool true],[]⟩
def rw79:dF:=⟨42,[aQR,I (9)],[],.tup [.agg (iL ([109,101,116,101,114,32,109,32,49,53]++bQ 30)),.bool true],[]⟩
def rw80:dF:=⟨42,[aQQ,I (10)],[],.tup [.agg (iL ([112,97,110,32,112,32,57,48,48,32,56,55,48]++bQ 27)),.bool true],[]⟩
def rw81:dF:=⟨42,[aQP,I (11)],[],.tup [.agg (iL ([39,105,50,36,60,48,116,48,90,78,81,80,64]++bQ 27)),.bool true],[]⟩
def rw82:dF:=⟨43,[.sl 0 0 40 5],aTr,.agg (iL ([39,105,50,36,60,48,116,48,90,78,81,80,64]++bQ 27)),aTr⟩
def rw83:dF:=⟨16,[aQO,I (6)],[],.tup [.fs [[aAn],[sx8],[aGM],[aHZ],[aLh]],I (0),I (0)],[]⟩
def rw84:dF:=⟨25,[aNP],[],.tup [.pt 0 0,I (0),I (0)],pQ⟩
def rw85:dF:=⟨21,[.pt 0 0,aNR],pQ,aHY,pQ⟩
def rw86:dF:=⟨23,[.pt 0 0],hp1,aQN,hp1⟩
end Go.Proofs.YtmapgnepfgnphaaGreatDoor
